/- A part of the proof. -/
import Derived.Test.YthbnddgjkonkdaaGreatDoorSetDiv
import Derived.Test.YthbnddgjkonkdaaGreatDoorSetChain3
import Derived.Test.YthbnddgjkonkdaaGreatDoorSetProofTell
set_option linter.unusedVariables false
set_option linter.unusedSimpArgs false
namespace Go.Proofs.YthbnddgjkonkdaaGreatDoor
section
open Go.TR
def iY (l:List Entry)(s:List UInt8):List Entry:=l.filter fun x=>decide (eC x.name=s)
def lvl (l:List Entry):Nat→List UInt8→Nat
 | 0,s=>gj (ju (iY l s))
 | n+1,s=>gj (ld (lvl l n (s++[48])) (lvl l n (s++[49])))
def gN (l:List Entry)(s:List UInt8):Nat:=lvl l (16 - s.length) s
def begun (l:List Entry)(s:List UInt8):Bool:=l.any fun x=>s.isPrefixOf (eC x.name)
theorem My {l:List Entry}{s:List UInt8}(h:begun l s=false):iY l s=[]:=by
 unfold iY;rw[List.filter_eq_nil_iff];intro x hx he;rw[av]at he;unfold begun at h;rw[bM]at h;refine h x hx ?_;rw[he];simp
theorem Bq {l:List Entry}{s:List UInt8}(t:List UInt8)(h:begun l s=false):begun l (s++t)=false:=by
 unfold begun at *;rw[bM]at *;intro x hx hp;refine h x hx ?_;rw[cI]at *;exact (List.prefix_append s t).trans hp
theorem um (l:List Entry): ∀(n:Nat) (s:List UInt8),begun l s=false→lvl l n s=ka
 | 0,s,h=>by
  unfold lvl;rw[My h];rfl
 | n+1,s,h=>by
  unfold lvl;rw[um l n _ (Bq [48] h),um l n _ (Bq [49] h)];unfold ld;rw[aZ ⟨rfl,rfl⟩];rfl
theorem zv (l:List Entry)(x:Entry)(s:List UInt8):iY (l++[x]) s=if eC x.name=s then iY l s++[x] else iY l s:=by
 unfold iY;rw[List.filter_append];by_cases h:eC x.name=s<;>simp[h]
theorem Iy {l:List Entry}{x:Entry}(h:x∈l):iY l (eC x.name)≠[]:=by
 unfold iY;intro e;rw[List.filter_eq_nil_iff]at e;exact e x h (by simp)
theorem s7 {l:List Entry}{s:List UInt8}(h:iY l s≠[]): ∃x∈l,eC x.name=s:=by
 cases hg:iY l s with
 | nil=>exact absurd hg h
 | cons a t=>
  have ha:a∈iY l s:=by rw[hg];exact cT ..
  unfold iY at ha;rw[cU,av]at ha;exact⟨a,ha.1,ha.2⟩
theorem Je {l:List Entry}{s:List UInt8}{x:Entry}(h:x∈iY l s):x∈l:=by
 unfold iY at h;exact (cU.1 h).1
theorem uk (l:List Entry)(s:List UInt8):(iY l s).length≤l.length:=cJ _ _
theorem xO {l:List Entry}{x:Entry}(h:x∈l){s:List UInt8}(hs:s<+:eC x.name):begun l s=true:=by
 unfold begun;rw[bT];exact⟨x,h,cI.2 hs⟩
theorem zA {l:List Entry}{s:List UInt8}(h:begun l s=true): ∃x∈l,s<+:eC x.name:=by
 unfold begun at h;rw[bT]at h;obtain⟨x,hx,h⟩:=h;exact⟨x,hx,cI.1 h⟩
theorem xS {l:List Entry}{s:List UInt8}(h:16≤s.length):begun l s=true ↔ iY l s≠[]:=by
 constructor
 ·intro hb;obtain⟨x,hx,hp⟩:=zA hb;have:s=eC x.name:=hp.eq_of_length_le (by rw[jN];exact h);rw[this];exact Iy hx
 intro hg;obtain⟨x,hx,he⟩:=s7 hg;rw[←he];exact xO hx (List.prefix_refl _)
theorem pK {l:List Entry}{s:List UInt8}(h:begun l s=false):gN l s=ka:=um l _ _ h
theorem Js {l:List Entry}{s:List UInt8}(h:s.length=16):gN l s=gj (ju (iY l s)):=by
 unfold gN;rw[h];rfl
theorem JX {l:List Entry}{s:List UInt8}(h:s.length<16):gN l s=gj (ld (gN l (s++[48])) (gN l (s++[49]))):=by
 unfold gN;rw[ag,ag];have e:16 - s.length=(16 - (s.length+1))+1:=by omega
 rw[e];rfl
def kJ (l:List Entry)(f:List UInt8→Bool):List UInt8→Option Value:=fun s=>if f s=true then some (mu (gN l s)) else none
theorem Fk {l:List Entry}{f g:List UInt8→Bool}{q:List UInt8}(hq:g q=true)(h: ∀s,s≠q→g s=f s):oz (kJ l f) q (mu (gN l q))=kJ l g:=by
 funext s;unfold oz kJ;by_cases hs:s=q
 ·subst hs;rw[aZ rfl,aZ hq]
 rw[aY hs,h s hs]
def jd (l:List Entry)(d:Nat)(dn:List (List UInt8))(s:List UInt8):Bool:=begun l s&&(decide (d<s.length)||(decide (s.length=d)&&dn.any fun p=>s.isPrefixOf p))
theorem HS {l:List Entry}{d:Nat}{dn:List (List UInt8)}(h: ∀x∈l,eC x.name∈dn)(s:List UInt8):jd l (d+1) dn s=jd l d [] s:=by
 unfold jd;cases hb:begun l s with
 | false=>rfl
 | true=>
  obtain⟨x,hx,hp⟩:=zA hb;have ha:(dn.any fun p=>s.isPrefixOf p)=true:=by
   rw[bT];exact⟨_,h x hx,cI.2 hp⟩
  rw[ha];simp only[Bool.true_and,Bool.and_true,List.any_nil,Bool.and_false,Bool.or_false];rw[ai];simp only[bD,av];omega
theorem Hi {l:List Entry}{dn:List (List UInt8)}(h: ∀x∈l,eC x.name∈dn)(s:List UInt8):jd l 0 dn s=begun l s:=by
 unfold jd;cases hb:begun l s with
 | false=>rfl
 | true=>
  obtain⟨x,hx,hp⟩:=zA hb;have ha:(dn.any fun p=>s.isPrefixOf p)=true:=by
   rw[bT];exact⟨_,h x hx,cI.2 hp⟩
  rw[ha];simp only[Bool.true_and,Bool.and_true];rw[ai];simp only[bD,av];exact⟨fun _=>trivial,fun _=>by omega⟩
theorem qh {l:List Entry}{d:Nat}{dn:List (List UInt8)}{p s:List UInt8}(hp:iY l p≠[])(hd:d≤16):(s=p.take d→jd l d (p::dn) s=true)∧(s≠p.take d→jd l d (p::dn) s=jd l d dn s):=by
 obtain⟨x,hx,he⟩:=s7 hp;have h16:p.length=16:=by rw[←he,jN]
 refine⟨fun e=>?_,fun e=>?_⟩
 ·subst e;have hb:begun l (p.take d)=true:=xO hx (by rw[he];exact List.take_prefix _ _);have hl:(p.take d).length=d:=by rw[aw];omega
  have ha:((p::dn).any fun p'=>(p.take d).isPrefixOf p')=true:=by
   rw[bT];exact⟨p,cT ..,cI.2 (List.take_prefix _ _)⟩
  unfold jd;rw[hb,ha,hl];simp
 unfold jd;by_cases hl:s.length=d
 ·have hn:s.isPrefixOf p=false:=by
   cases hc:s.isPrefixOf p with
   | false=>rfl
   | true=>
    have:=cI.1 hc;rw[List.prefix_iff_eq_take,hl]at this;exact absurd this e
  rw[List.any_cons,hn,bu]
 rw[aX hl,Bool.false_and,Bool.false_and]
theorem Jo {l:List Entry}{d:Nat}{dn:List (List UInt8)}{p:List UInt8}(hp:iY l p≠[])(hd:d≤16)(h:(kJ l (jd l d dn) (p.take d)).isSome=true):kJ l (jd l d dn)=kJ l (jd l d (p::dn)):=by
 have hq:jd l d dn (p.take d)=true:=by
  unfold kJ at h;by_cases hc:jd l d dn (p.take d)=true
  ·exact hc
  rw[aY hc]at h;cases h
 funext s;unfold kJ;by_cases hs:s=p.take d
 ·rw[(qh hp hd).1 hs,hs,hq]
 rw[(qh hp hd).2 hs]
theorem Jl {l:List Entry}{d:Nat}{dn:List (List UInt8)}{p:List UInt8}(hp:iY l p≠[])(hd:d≤16):oz (kJ l (jd l d dn)) (p.take d) (mu (gN l (p.take d)))=kJ l (jd l d (p::dn)):=
 Fk ((qh hp hd).1 rfl) fun _ hs=>(qh hp hd).2 hs
theorem wc {l:List Entry}{d:Nat}{dn:List (List UInt8)}{q:List UInt8}(h:d<q.length):jd l d dn q=begun l q:=by
 unfold jd;rw[aW h,Bool.true_or,Bool.and_true]
def pJ (dn:List (List UInt8))(s:List UInt8):Bool:=decide (s∈dn)
theorem JM {l:List Entry}{dn:List (List UInt8)}{p:List UInt8}(hp:iY l p≠[]):oz (kJ l (pJ dn)) p (mu (gj (ju (iY l p))))=kJ l (pJ (p::dn)):=by
 obtain⟨x,hx,he⟩:=s7 hp;have h16:p.length=16:=by rw[←he,jN]
 rw[←Js h16];refine Fk (by simp[pJ]) fun s hs=>?_;unfold pJ;rw[aV,aT];exact⟨fun h=>h.resolve_left hs,.inr⟩
theorem Ee {l:List Entry}{dn:List (List UInt8)}(h: ∀x∈l,eC x.name∈dn)(hk: ∀s∈dn,iY l s≠[]):kJ l (pJ dn)=kJ l (jd l 15 []):=by
 funext s;unfold kJ;have e:pJ dn s=jd l 15 [] s:=by
  unfold pJ jd;rw[ai];simp only[av,List.any_nil,Bool.and_false,Bool.or_false,aL];constructor
  ·intro hs;obtain⟨x,hx,he⟩:=s7 (hk s hs);have h16:s.length=16:=by rw[←he,jN]
   exact⟨(xS (by omega)).2 (hk s hs),by omega⟩
  rintro⟨hb,hl⟩;obtain⟨x,hx,he⟩:=s7 ((xS (by omega)).1 hb);rw[←he];exact h x hx
 rw[e]
theorem Gz (l:List Entry):kJ l (pJ [])=fun _=>none:=by
 funext s;simp[kJ,pJ]
theorem qW {α:Type}[DecidableEq α]: ∀{a b:List α},a.Nodup→(∀x∈a,x∈b)→a.length≤b.length
 | [],_,_,_=>az _
 | x::a,b,hn,h=>by
  rw[c8]at hn;have hx:=h x (cT ..);have hr:=qW (b:=b.erase x) hn.2 fun y hy=>by
   have hne:y≠x:=by rintro rfl;exact hn.1 hy
   exact (List.mem_erase_of_ne hne).2 (h y (cR _ hy))
  rw[List.length_erase_of_mem hx]at hr;have:=List.length_pos_of_mem hx;rw[aH];omega
theorem OO {l:List Entry}{dn:List (List UInt8)}(hn:dn.Nodup)(hk: ∀s∈dn,iY l s≠[]):dn.length≤l.length:=by
 have:=qW (b:=l.map fun x=>eC x.name) hn fun s hs=>by
  obtain⟨x,hx,he⟩:=s7 (hk s hs);exact aG.2 ⟨x,hx,he⟩
 rwa [ab]at this
structure rJ (e:TypeId) (F:Hp) (b0:Nat) (L:List Entry) (m:List UInt8→Option Value):Prop where
 nil: ∀s,iY L s=[]→m s=none
 any: ∀s,iY L s≠[]→∃b n c,m s=some (.slice (some ⟨b,0,none⟩) n c)∧gX F e 2 (some ⟨b,0,none⟩) n c ((iY L s).flatMap Entry.row)∧b0<b
 apart: ∀s s' b n c n' c',m s=some (.slice (some ⟨b,0,none⟩) n c)→m s'=some (.slice (some ⟨b,0,none⟩) n' c')→s=s'
theorem rJ.empty (e:TypeId)(F:Hp)(b0:Nat):rJ e F b0 [] (fun _=>none):=⟨fun _ _=>rfl,fun s h=>absurd rfl h,fun _ _ _ _ _ _ _ h=>by cases h⟩
theorem rJ.Ck {e:TypeId}{F F':Hp}{b0:Nat}{L:List Entry}{m:List UInt8→Option Value}(h:rJ e F b0 L m)(hF: ∀b cur,b0<b→F b=some (.cells cur e (0,0))→F' b=some (.cells cur e (0,0))):rJ e F' b0 L m:=by
 refine⟨h.nil,fun s hs=>?_,h.apart⟩;obtain⟨b,n,c,h1,h2,h3⟩:=h.any s hs;refine⟨b,n,c,h1,?_,h3⟩;obtain⟨g1,g2,g3⟩:=h2;refine⟨g1,g2,?_⟩;rcases g3 with⟨g4,_⟩ | ⟨b',cur,g4,g5,g6⟩
 ·cases g4
 cases g4;exact .inr ⟨b,cur,rfl,hF b cur h3 g5,g6⟩
theorem rJ.find {e:TypeId}{F:Hp}{b0:Nat}{L:List Entry}{m:List UInt8→Option Value}(h:rJ e F b0 L m)(s:List UInt8): ∃p c,(m s).getD (.slice none 0 0)= .slice p (iY L s).length c∧gX F e 2 p (iY L s).length c ((iY L s).flatMap Entry.row)∧(∀b,p=some ⟨b,0,none⟩→b0<b∧ ∃n c,m s=some (.slice (some ⟨b,0,none⟩) n c)):=by
 by_cases hs:iY L s=[]
 ·rw[h.nil s hs,hs];exact⟨none,0,rfl,⟨rfl,ah _,.inl ⟨rfl,rfl,rfl⟩⟩,fun b hb=>by cases hb⟩
 obtain⟨b,n,c,h1,h2,h3⟩:=h.any s hs;have hn:n=(iY L s).length:=by
  have:=h2.1;rw[dO eM]at this;omega
 subst hn;exact⟨_,c,by rw[h1];rfl,h2,fun b' hb=>by cases hb;exact⟨h3,_,_,h1⟩⟩
theorem rJ.step {e:TypeId}{F:Hp}{b0:Nat}{L:List Entry}{m:List UInt8→Option Value}(h:rJ e F b0 L m)(x:Entry){p:Option Addr}{b' c':Nat}{o' o0:Obj}
  (hp: ∀b,p=some ⟨b,0,none⟩→b0<b∧ ∃n c,m (eC x.name)=some (.slice (some ⟨b,0,none⟩) n c)) (hb:p=some ⟨b',0,none⟩∨F b'=none∧b0<b')
  (hs:gX (F.plus b' o') e 2 (some ⟨b',0,none⟩) ((iY L (eC x.name)).length+1) c' ((iY L (eC x.name)).flatMap Entry.row++x.row)):
  rJ e ((F.plus b' o').plus b0 o0) b0 (L++[x]) (oz m (eC x.name) (.slice (some ⟨b',0,none⟩) ((iY L (eC x.name)).length+1) c')):=by
 have h0:b0<b':=by
  rcases hb with hb | hb
  ·exact (hp b' hb).1
  exact hb.2
 have hother: ∀s n c,s≠eC x.name→m s=some (.slice (some ⟨b',0,none⟩) n c)→False:=fun s n c hne hm=>by
  rcases hb with hb | hb
  ·obtain⟨_,n',c'',hm'⟩:=hp b' hb;exact hne (h.apart _ _ _ _ _ _ _ hm hm')
  by_cases hg:iY L s=[]
  ·rw[h.nil s hg]at hm;cases hm
  obtain⟨b,n1,c1,h1,h2,h3⟩:=h.any s hg;rw[hm]at h1;cases h1;obtain⟨_,_,h5⟩:=h2;rcases h5 with⟨h6,_⟩ | ⟨b2,cur,h6,h7,_⟩
  ·cases h6
  cases h6;rw[hb.1]at h7;cases h7
 refine⟨fun s hg=>?_,fun s hg=>?_,fun s s' b n c n' c'' h1 h2=>?_⟩
 ·rw[zv]at hg;unfold oz;by_cases hsx:eC x.name=s
  ·rw[aZ hsx]at hg;simp at hg
  rw[aY hsx]at hg;rw[aY (fun e=>hsx e.symm)];exact h.nil s hg
 ·rw[zv]at hg ⊢;unfold oz;by_cases hsx:eC x.name=s
  ·subst hsx;rw[aZ rfl,aZ rfl];refine⟨b',_,c',rfl,?_,h0⟩;rw[cr];have:=hs.other (b:=b0) (o:=o0) fun b hb'=>by cases hb';omega
   simpa using this
  rw[aY hsx]at hg;rw[aY hsx,aY (fun e=>hsx e.symm)];obtain⟨b,n,c,h1,h2,h3⟩:=h.any s hg;refine⟨b,n,c,h1,?_,h3⟩;refine (h2.other (b:=b') (o:=o') fun b2 hb2=>?_).other (b:=b0) (o:=o0) fun b2 hb2=>by cases hb2;omega
  cases hb2;rintro rfl;exact hother s n c (fun e=>hsx e.symm) h1
 unfold oz at h1 h2;by_cases hs1:s=eC x.name
 ·by_cases hs2:s'=eC x.name
  ·rw[hs1,hs2]
  rw[aZ hs1]at h1;rw[aY hs2]at h2;cases h1;exact (hother s' _ _ hs2 h2).elim
 by_cases hs2:s'=eC x.name
 ·rw[aY hs1]at h1;rw[aZ hs2]at h2;cases h2;exact (hother s _ _ hs1 h1).elim
 rw[aY hs1]at h1;rw[aY hs2]at h2;exact h.apart _ _ _ _ _ _ _ h1 h2
theorem rJ.key {e:TypeId}{F:Hp}{b0:Nat}{L:List Entry}{m:List UInt8→Option Value}(h:rJ e F b0 L m){s:List UInt8}{v:Value}(hm:m s=some v):iY L s≠[]:=fun hg=>by
 rw[h.nil s hg]at hm;cases hm
theorem rJ.all {e:TypeId}{F:Hp}{b0:Nat}{L:List Entry}{m:List UInt8→Option Value}(h:rJ e F b0 L m){dn:List (List UInt8)}(hd: ∀s v,m s=some v→s∈dn): ∀x∈L,eC x.name∈dn:=fun x hx=>by
 obtain⟨b,n,c,h1,_⟩:=h.any _ (Iy hx);exact hd _ _ h1
end
section
open Go.TR
structure eI where
 queue:Queue
 batch:Int
 every:Int
 now:Int
 dS:List Head
 ez:List (List Entry)
deriving DecidableEq
def eI.none:eI:=⟨⟨0,[]⟩,0,0,0,[],[]⟩
structure eI.wf (c:eI):Prop where
 queue:c.queue.wf
 dS: ∀x∈c.dS,x.wf
 hlen:c.dS.length≤4398046511104
 OS:c.ez.length≤8796093022208
 now: -9223372036854775808≤c.now∧c.now≤9223372036854775807
 ez: ∀l∈c.ez,l.length≤4398046511104∧ ∀x∈l,x.wf
abbrev Bk:=Option Addr×List Entry×Nat
@[reducible] def Bk.v (s:Bk):Value:=.slice s.1 s.2.1.length s.2.2
def Bk.at (F:Hp)(s:Bk):Prop:=True∧e9 F s.1 (s.2.1.flatMap Entry.row)
structure ji where
 w:Option Addr
 cw:Nat
 h:Option Addr
 ch:Nat
 b:Option Addr
 cb:Nat
@[reducible] def eI.v (c:eI) (a:ji):Value:=.agg #[i64 c.queue.most,.slice a.w c.queue.wait.length a.cw,i64 c.batch,i64 c.every,i64 c.now,.slice a.h c.dS.length a.ch,.slice a.b c.ez.length a.cb]
structure eI.at (c:eI) (F:Hp) (a:ji):Prop where
 w:e9 F a.w (c.queue.wait.flatMap Ask.cells)
 cw:c.queue.wait.length≤a.cw
 h:e9 F a.h (c.dS.flatMap Head.row)
 ch:c.dS.length≤a.ch
 cb:c.ez.length≤a.cb
 b: ∃bs:List Bk,bs.map (·.2.1)=c.ez∧e9 F a.b (bs.map Bk.v)∧ ∀s∈bs,Bk.at F s
theorem Bk.e8 {F F':Hp}(h:F.sub F'){s:Bk}(k:Bk.at F s):Bk.at F' s:=⟨k.1,eu h k.2⟩
theorem eI.e8 {F F':Hp}(h:F.sub F'){c:eI}{a:ji}(k:c.at F a):c.at F' a:=by
 obtain⟨bs,h1,h2,h3⟩:=k.b;exact⟨eu h k.w,k.cw,eu h k.h,k.ch,k.cb,bs,h1,eu h h2,fun s hs=>Bk.e8 h (h3 s hs)⟩
def ji.nil:ji:=⟨.none,0,.none,0,.none,0⟩
theorem eI.kH (F:Hp):eI.none.at F ji.nil:=⟨eJ _ _,ah _,eJ _ _,ah _,ah _,[],rfl,eJ _ _,fun s hs=>by cases hs⟩
def iu:List Head→List (List Entry)→Int
 | h::hs,b::bs=>if dY b≠0 then dY b else if gN b []≠h.root then 8 else iu hs bs
 | _,_=>0
def ny (c:eI):Bool:=decide ((c.dS.getD 0 Head.none).dZ≠0)||decide (c.ez.length≠c.dS.length)||decide (c.now<(fL c.dS).at_)
def jG (c:eI):Int:=if ny c=true then 3 else iu c.dS c.ez
def gK (c:eI):List Entry:=c.ez.getLastD []
def jK (c:eI)(more:List (List UInt8)):List (List UInt8):=(gK c).map Entry.name++c.queue.wait.map Ask.name++more
def jI (c:eI)(more:List (List UInt8)):Nat:=(kW (jK c more)).length
def sS (c:eI):Bool:=decide (c.batch<1)||decide (30<c.batch)||decide (c.every<1)||decide (1000<c.every)||decide (c.now<0)||decide (1000000000<c.now)
def gh (c:eI):Int:=if fj c.queue≠0 then fj c.queue else if sS c=true then 4 else if (fu c.dS).1≠0 then (fu c.dS).1 else if jG c≠0 then jG c else if 24<jI c [] then 7 else 0
def gu (c:eI):Bool:=decide (c.dS.length=40)||decide (c.now=1000000000)
def oA (c:eI)(a:Ask):Int:=if gh c≠0 then gh c else if eR a.name a.value≠0 then eR a.name a.value else if gu c=true then 9 else if (c.queue.wait.length:Int)=c.queue.most∨24<jI c [a.name] then 7 else 0
def jm (c:eI)(a:Ask):eI:=if oA c a=0 then { c with queue:=⟨c.queue.most,c.queue.wait++[a]⟩ } else eI.none
def pc (c:eI)(a:Ask):Int:=if oA c a=0 then c.now - c.now % c.every+((c.queue.wait.length:Int) / c.batch+1) * c.every else 0
def fY (c:eI):List Ask:=c.queue.wait.take c.batch.toNat
def kb (l:List Entry)(asks:List Ask):List Entry:=asks.foldl (fun b a=>kx b a.name a.value) l
def gb (c:eI):List Entry:=kb (gK c) (fY c)
def kQ (c:eI):Head:=⟨(fL c.dS).dZ+1,gN (gb c) [],(fL c.dS).mark,c.now+1⟩
def Gr (c:eI):Bool:= !gu c&&decide ((c.now+1) % c.every=0)
def rQ (c:eI):Bool:=decide (gh c=0)&&Gr c
def fS (c:eI):eI:=if gh c≠0 then eI.none else if gu c=true then c else if Gr c=true then ⟨⟨c.queue.most,c.queue.wait.drop c.batch.toNat⟩,c.batch,c.every,c.now+1,c.dS++[kQ c],c.ez++[gb c]⟩ else { c with now:=c.now+1 }
def mj (c:eI)(n:Int):Int:=if gh c≠0 then gh c else if n<0∨(c.ez.length:Int)≤n then 4 else 0
def kV (c:eI)(n:Int):List Entry:=if mj c n=0 then c.ez.getD n.toNat [] else []
def jH (most batch every:Int):Bool:=decide (most<1)||decide (30<most)||decide (batch<1)||decide (30<batch)||decide (every<1)||decide (1000<every)
def zx (most batch every:Int):Int:=if jH most batch every=true then 4 else 0
def jS (most batch every:Int):eI:=if jH most batch every=true then eI.none else ⟨⟨most,[]⟩,batch,every,0,[⟨0,gN [] [],0,0⟩],[[]]⟩
theorem ni: ∀{hs:List Head}{bs:List (List Entry)},bs.length≤hs.length→iu hs bs=0→∀b∈bs,dY b=0
 | _,[],_,_,b,hb=>by cases hb
 | [],_::_,h,_,_,_=>by simp at h
 | h::hs,c::bs,hl,hz,b,hb=>by
  unfold iu at hz;split at hz
  ·rename_i h0;exact absurd hz h0
  rename_i h0;split at hz
  ·cases hz
  rcases aT.1 hb with rfl | hb
  ·exact bE.1 h0
  exact ni (by simpa using hl) hz b hb
structure Good (c:eI):Prop where
 queue:fj c.queue=0
 span:sS c=false
 chain:(fu c.dS).1=0
 form:ny c=false
 roots:iu c.dS c.ez=0
 names:jI c []≤24
theorem nh {c:eI}(h:gh c=0):Good c:=by
 unfold gh at h;split at h
 ·rename_i h0;exact absurd h h0
 rename_i h0;split at h
 ·cases h
 rename_i h1;split at h
 ·rename_i h2;exact absurd h h2
 rename_i h2;split at h
 ·rename_i h3;exact absurd h h3
 rename_i h3;split at h
 ·cases h
 rename_i h4;have h3:jG c=0:=bE.1 h3;unfold jG at h3;split at h3
 ·cases h3
 rename_i h5;exact⟨bE.1 h0,by simpa using h1,bE.1 h2,by simpa using h5,h3,by omega⟩
theorem Good.fault {c:eI}(h:Good c):gh c=0:=by
 have h3:jG c=0:=by unfold jG;rw[h.form];exact h.roots
 unfold gh;rw[aY (by rw[h.queue];decide),h.span,aY (by decide),aY (by rw[h.chain];decide),aY (by rw[h3];decide),aY (by have:=h.names;omega)]
theorem Good.lens {c:eI}(h:Good c):c.ez.length=c.dS.length∧0<c.dS.length∧c.dS.length≤40:=by
 obtain⟨h1,h2,_⟩:=iO h.chain;have:=h.form;unfold ny at this;simp only[aQ,aU,ne_eq,bE]at this;exact⟨this.1.2,by omega,h2⟩
theorem Good.book {c:eI}(h:Good c): ∀b∈c.ez,dY b=0:=ni (by rw[h.lens.1];exact ah _) h.roots
theorem Good.times {c:eI}(h:Good c):1≤c.batch∧c.batch≤30∧1≤c.every∧c.every≤1000∧0≤c.now∧c.now≤1000000000:=by
 have:=h.span;unfold sS at this;simp only[aQ,aU]at this;omega
theorem mV {c:eI}(h:0<c.ez.length):gK c∈c.ez:=by
 unfold gK;cases hb:c.ez with
 | nil=>rw[hb]at h;cases h
 | cons a t=>rw[List.getLastD_cons];exact List.getLastD_mem_cons
theorem Good.last {c:eI}(h:Good c):dY (gK c)=0:=h.book _ (mV (by have:=h.lens;omega))
end
section
open Go.TR
theorem pY: ∀{l:List (List UInt8)},Cb l→l.Nodup
 | [],_=>List.nodup_nil
 | a::t,h=>by
  obtain⟨h1,h2⟩:=List.pairwise_cons.1 h;refine c8.2 ⟨fun ha=>?_,pY h2⟩;have:=h1 a ha;rw[jr]at this;cases this
theorem Ju {l:List Entry}(h:oo l):Cb (l.map Entry.name):=by
 unfold Cb;rw[List.pairwise_map];exact h
theorem HC {l:List Entry}(h:oo l){L:List (List UInt8)}(hs: ∀x∈l,x.name∈L):l.length≤(kW L).length:=by
 have:=qW (a:=l.map Entry.name) (b:=kW L) (pY (Ju h)) (fun s hs'=>by
  obtain⟨x,hx,rfl⟩:=aG.1 hs';exact (mD L _).2 (hs x hx))
 simpa using this
theorem I8: ∀{l:List Ask},im l=0→∀a∈l,eR a.name a.value=0
 | [],_,a,ha=>by cases ha
 | b::t,h,a,ha=>by
  unfold im at h;split at h
  ·rename_i h0;rcases aT.1 ha with rfl | ha
   ·exact h0
   exact I8 h a ha
  rename_i h0;exact absurd h h0
theorem lf {q:Queue}(h:fj q=0):1≤q.most∧q.most≤30∧(q.wait.length:Int)≤q.most∧ ∀a∈q.wait,eR a.name a.value=0:=by
 unfold fj at h;split at h
 ·cases h
 split at h
 ·cases h
 exact⟨by omega,by omega,by omega,I8 h⟩
theorem EA {n v:List UInt8}(h:eR n v=0):eP n=true∧v.length≤20:=by
 unfold eR at h;split at h
 ·rename_i h0;split at h
  ·cases h
  exact⟨h0,by omega⟩
 cases h
theorem O5 {l:List Entry}(h0:dY l=0){L:List (List UInt8)}(hL:(kW L).length≤24)(hs: ∀x∈l,x.name∈L){n v:List UInt8}(hn:n∈L)(ha:eR n v=0):mW l n v=0:=by
 obtain⟨hg,hv⟩:=EA ha;have hf:jB l n=0:=by unfold jB;rw[aY (by rw[h0];decide),aZ hg]
 unfold mW;rw[aY (by rw[hf];decide),aY (by rw[ha];decide)];refine aY ?_;rintro⟨h1,h2⟩;have hb:=qq h0;have h3:=HC (uO hb n v) (L:=L) (fun x hx=>by
  rcases xx hb hx with rfl | ⟨hx,_⟩
  ·exact hn
  exact hs x hx)
 rw[xm hb,h1]at h3;simp only[bq,dE]at h3;omega
theorem DK {L:List (List UInt8)}(hL:(kW L).length≤24): ∀{asks:List Ask} {l:List Entry},dY l=0→(∀x∈l,x.name∈L)→(∀a∈asks,a.name∈L∧eR a.name a.value=0)→
  dY (kb l asks)=0∧(∀x∈kb l asks,x.name∈L)∧ ∀(k:Nat) (hk:k<asks.length),mW (kb l (asks.take k)) asks[k].name asks[k].value=0
 | [],l,h0,hs,_=>⟨h0,hs,fun k hk=>by simp at hk⟩
 | a::t,l,h0,hs,ha=>by
  obtain⟨ha1,ha2⟩:=ha a (by simp);have he:=O5 h0 hL hs ha1 ha2;obtain⟨f1,f2⟩:=vf he;obtain⟨r1,r2,r3⟩:=DK hL (asks:=t) (l:=kx l a.name a.value) f1 (fun x hx=>by
   rcases f2 x hx with rfl | hx
   ·exact ha1
   exact hs x hx) (fun b hb=>ha b (by simp[hb]))
  refine⟨r1,r2,fun k hk=>?_⟩;cases k with
  | zero=>exact he
  | succ k=>exact r3 k (by simpa using hk)
theorem qC (l:List Entry){asks:List Ask}{k:Nat}(hk:k<asks.length):kb l (asks.take (k+1))=kx (kb l (asks.take k)) asks[k].name asks[k].value:=by
 unfold kb;rw[al hk,List.foldl_append];rfl
theorem Good.GP {c:eI}(h:Good c): ∀x∈gK c,x.name∈jK c []:=fun x hx=>by
 unfold jK;simp only[bV,aK];exact .inl (cV hx)
theorem Good.zJ {c:eI}(h:Good c): ∀a∈c.queue.wait,a.name∈jK c []∧eR a.name a.value=0:=fun a ha=>by
 refine⟨?_,(lf h.queue).2.2.2 a ha⟩;unfold jK;simp only[bV,aK];exact .inr (cV ha)
theorem Good.R8 {c:eI}(h:Good c):dY (gb c)=0∧(∀x∈gb c,x.name∈jK c [])∧ ∀(k:Nat) (hk:k<(fY c).length),mW (kb (gK c) ((fY c).take k)) (fY c)[k].name (fY c)[k].value=0:=
 DK (L:=jK c []) h.names h.last h.GP (fun a ha=>h.zJ a (cY ha))
theorem vG {l:List Head}(h:0<l.length):fL l=l[l.length - 1]:=by
 unfold fL;rw[List.getLastD_eq_getLast?,List.getLast?_eq_getElem?,ao (by omega)];rfl
theorem Good.top {c:eI}(h:Good c):(fL c.dS).fault=0∧(fL c.dS).dZ=(c.dS.length:Int) - 1∧(fL c.dS).at_≤c.now:=by
 obtain⟨h1,h2,h3,h4,_⟩:=iO h.chain;have hf:=h.form;unfold ny at hf;simp only[aQ,aU,ne_eq,bE]at hf;have e0:(c.dS[0]'h1).dZ=0:=by
  have:=hf.1.1;simpa [List.getD,h1] using this
 have hl:=vG h1;have he:=sk h4 (c.dS.length - 1) (by omega);rw[hl];refine⟨h3 _ (aj _),by rw[he,e0];omega,?_⟩;have:=hf.2;rw[hl]at this;omega
theorem Head.n9 {h:Head}(h0:0≤h.dZ)(h1:h.dZ≤1000000)(h2:h.root<MM)(h3:h.prev<MM)(h4:0≤h.at_)(h5:h.at_≤1000000000)(h6:h.dZ=0→h.prev=0):h.fault=0:=by
 have b1:h.vr=false:=by
  unfold Head.vr;simp only[aQ,aU];omega
 have b2:h.yb=false:=by
  unfold Head.yb;by_cases e:h.dZ=0
  ·simp[e,h6 e]
  simp[e]
 unfold Head.fault;rw[b1,b2];rfl
theorem Head.uh {h:Head}(h0:h.fault=0):0≤h.dZ∧h.dZ≤1000000∧h.root<MM∧h.prev<MM∧0≤h.at_∧h.at_≤1000000000:=by
 unfold Head.fault at h0;split at h0
 ·cases h0
 rename_i hb;unfold Head.vr at hb;simp only[bD,av,not_or]at hb;omega
theorem Good.next {c:eI}(h:Good c)(hc:gu c=false){root:Nat}(hr:root<MM):(fL c.dS).kz root (c.now+1)=0∧((fL c.dS).m9 root (c.now+1)).ij 0=⟨(fL c.dS).dZ+1,root,(fL c.dS).mark,c.now+1⟩∧qG c.dS root (c.now+1)=0∧ub c.dS root (c.now+1)=c.dS++[⟨(fL c.dS).dZ+1,root,(fL c.dS).mark,c.now+1⟩]:=by
 obtain⟨l1,l2,l3⟩:=h.top;obtain⟨_,t2,t3⟩:=h.lens;have tm:=h.times;unfold gu at hc;simp only[aQ,aU]at hc;have eO:(fL c.dS).rp=(fL c.dS).mark:=by unfold Head.rp;rw[aZ l1]
 have ew:IntKind.i64.wrap ((fL c.dS).dZ+1)=(fL c.dS).dZ+1:=wrap_i64 (by omega) (by omega);have eN:(fL c.dS).m9 root (c.now+1)=⟨(fL c.dS).dZ+1,root,(fL c.dS).mark,c.now+1⟩:=by unfold Head.m9;rw[ew,eO]
 have e0:(fL c.dS).kz root (c.now+1)=0:=by
  unfold Head.kz;rw[aY (by rw[l1];decide),aY (by omega),aY (by omega),eN];exact Head.n9 (by simp only;omega) (by simp only;omega) hr (ln _) (by simp only;omega) (by simp only;omega) (fun e=>by simp only at e;omega)
 have e1:qG c.dS root (c.now+1)=0:=by unfold qG;rw[aY (by rw[h.chain];decide),aY hc.1,e0]
 have e2:((fL c.dS).m9 root (c.now+1)).ij 0=⟨(fL c.dS).dZ+1,root,(fL c.dS).mark,c.now+1⟩:=by rw[eN];rfl
 refine⟨e0,e2,e1,?_⟩;unfold ub;rw[aZ e1,e0,e2]
theorem uC (l:List Entry)(s:List UInt8):gN l s<MM:=by
 have h: ∀n s,lvl l n s<MM:=fun n s=>by cases n<;>exact ln _
 exact h _ _
end
end Go.Proofs.YthbnddgjkonkdaaGreatDoor
