/- A part of the proof. -/
import Derived.Test.YthbnddgjkonkdaaGreatDoorSetDiv
import Derived.Test.YthbnddgjkonkdaaGreatDoorSetChain3
import Derived.Test.YthbnddgjkonkdaaGreatDoorSetProofTell
set_option linter.unusedVariables false
set_option linter.unusedSimpArgs false
namespace Go.Proofs.YthbnddgjkonkdaaGreatDoor
section
open Go.TR
def iW (l:List Entry)(s:List UInt8):List Entry:=l.filter fun x=>decide (ej x.name=s)
def lvl (l:List Entry):Nat→List UInt8→Nat
 | 0,s=>gg (jt (iW l s))
 | n+1,s=>gg (kX (lvl l n (s++[48])) (lvl l n (s++[49])))
def gK (l:List Entry)(s:List UInt8):Nat:=lvl l (16 - s.length) s
def begun (l:List Entry)(s:List UInt8):Bool:=l.any fun x=>s.isPrefixOf (ej x.name)
theorem LU {l:List Entry}{s:List UInt8}(h:begun l s=false):iW l s=[]:=by
 unfold iW;rw[List.filter_eq_nil_iff];intro x hx he;rw[av]at he;unfold begun at h;rw[bJ]at h;refine h x hx ?_;rw[he];simp
theorem AX {l:List Entry}{s:List UInt8}(t:List UInt8)(h:begun l s=false):begun l (s++t)=false:=by
 unfold begun at *;rw[bJ]at *;intro x hx hp;refine h x hx ?_;rw[cF]at *;exact (List.prefix_append s t).trans hp
theorem uJ (l:List Entry): ∀(n:Nat) (s:List UInt8),begun l s=false→lvl l n s=jX
 | 0,s,h=>by
  unfold lvl;rw[LU h];rfl
 | n+1,s,h=>by
  unfold lvl;rw[uJ l n _ (AX [48] h),uJ l n _ (AX [49] h)];unfold kX;rw[aZ ⟨rfl,rfl⟩];rfl
theorem yl (l:List Entry)(x:Entry)(s:List UInt8):iW (l++[x]) s=if ej x.name=s then iW l s++[x] else iW l s:=by
 unfold iW;rw[List.filter_append];by_cases h:ej x.name=s<;>simp[h]
theorem I3 {l:List Entry}{x:Entry}(h:x∈l):iW l (ej x.name)≠[]:=by
 unfold iW;intro e;rw[List.filter_eq_nil_iff]at e;exact e x h (by simp)
theorem tt {l:List Entry}{s:List UInt8}(h:iW l s≠[]): ∃x∈l,ej x.name=s:=by
 cases hg:iW l s with
 | nil=>exact absurd hg h
 | cons a t=>
  have ha:a∈iW l s:=by rw[hg];exact cP ..
  unfold iW at ha;rw[cQ,av]at ha;exact⟨a,ha.1,ha.2⟩
theorem Jd {l:List Entry}{s:List UInt8}{x:Entry}(h:x∈iW l s):x∈l:=by
 unfold iW at h;exact (cQ.1 h).1
theorem uo (l:List Entry)(s:List UInt8):(iW l s).length≤l.length:=cG _ _
theorem yF {l:List Entry}{x:Entry}(h:x∈l){s:List UInt8}(hs:s<+:ej x.name):begun l s=true:=by
 unfold begun;rw[bK];exact⟨x,h,cF.2 hs⟩
theorem x6 {l:List Entry}{s:List UInt8}(h:begun l s=true): ∃x∈l,s<+:ej x.name:=by
 unfold begun at h;rw[bK]at h;obtain⟨x,hx,h⟩:=h;exact⟨x,hx,cF.1 h⟩
theorem zr {l:List Entry}{s:List UInt8}(h:16≤s.length):begun l s=true ↔ iW l s≠[]:=by
 constructor
 ·intro hb;obtain⟨x,hx,hp⟩:=x6 hb;have:s=ej x.name:=hp.eq_of_length_le (by rw[jJ];exact h);rw[this];exact I3 hx
 intro hg;obtain⟨x,hx,he⟩:=tt hg;rw[←he];exact yF hx (List.prefix_refl _)
theorem pL {l:List Entry}{s:List UInt8}(h:begun l s=false):gK l s=jX:=uJ l _ _ h
theorem KL {l:List Entry}{s:List UInt8}(h:s.length=16):gK l s=gg (jt (iW l s)):=by
 unfold gK;rw[h];rfl
theorem KG {l:List Entry}{s:List UInt8}(h:s.length<16):gK l s=gg (kX (gK l (s++[48])) (gK l (s++[49]))):=by
 unfold gK;rw[ag,ag];have e:16 - s.length=(16 - (s.length+1))+1:=by omega
 rw[e];rfl
def kG (l:List Entry)(f:List UInt8→Bool):List UInt8→Option Value:=fun s=>if f s=true then some (mu (gK l s)) else none
theorem Fs {l:List Entry}{f g:List UInt8→Bool}{q:List UInt8}(hq:g q=true)(h: ∀s,s≠q→g s=f s):ox (kG l f) q (mu (gK l q))=kG l g:=by
 funext s;unfold ox kG;by_cases hs:s=q
 ·subst hs;rw[aZ rfl,aZ hq]
 rw[aY hs,h s hs]
def jc (l:List Entry)(d:Nat)(dn:List (List UInt8))(s:List UInt8):Bool:=begun l s&&(decide (d<s.length)||(decide (s.length=d)&&dn.any fun p=>s.isPrefixOf p))
theorem Hd {l:List Entry}{d:Nat}{dn:List (List UInt8)}(h: ∀x∈l,ej x.name∈dn)(s:List UInt8):jc l (d+1) dn s=jc l d [] s:=by
 unfold jc;cases hb:begun l s with
 | false=>rfl
 | true=>
  obtain⟨x,hx,hp⟩:=x6 hb;have ha:(dn.any fun p=>s.isPrefixOf p)=true:=by
   rw[bK];exact⟨_,h x hx,cF.2 hp⟩
  rw[ha];simp only[Bool.true_and,Bool.and_true,List.any_nil,Bool.and_false,Bool.or_false];rw[ai];simp only[bD,av];omega
theorem Gc {l:List Entry}{dn:List (List UInt8)}(h: ∀x∈l,ej x.name∈dn)(s:List UInt8):jc l 0 dn s=begun l s:=by
 unfold jc;cases hb:begun l s with
 | false=>rfl
 | true=>
  obtain⟨x,hx,hp⟩:=x6 hb;have ha:(dn.any fun p=>s.isPrefixOf p)=true:=by
   rw[bK];exact⟨_,h x hx,cF.2 hp⟩
  rw[ha];simp only[Bool.true_and,Bool.and_true];rw[ai];simp only[bD,av];exact⟨fun _=>trivial,fun _=>by omega⟩
theorem pW {l:List Entry}{d:Nat}{dn:List (List UInt8)}{p s:List UInt8}(hp:iW l p≠[])(hd:d≤16):(s=p.take d→jc l d (p::dn) s=true)∧(s≠p.take d→jc l d (p::dn) s=jc l d dn s):=by
 obtain⟨x,hx,he⟩:=tt hp;have h16:p.length=16:=by rw[←he,jJ]
 refine⟨fun e=>?_,fun e=>?_⟩
 ·subst e;have hb:begun l (p.take d)=true:=yF hx (by rw[he];exact List.take_prefix _ _);have hl:(p.take d).length=d:=by rw[aw];omega
  have ha:((p::dn).any fun p'=>(p.take d).isPrefixOf p')=true:=by
   rw[bK];exact⟨p,cP ..,cF.2 (List.take_prefix _ _)⟩
  unfold jc;rw[hb,ha,hl];simp
 unfold jc;by_cases hl:s.length=d
 ·have hn:s.isPrefixOf p=false:=by
   cases hc:s.isPrefixOf p with
   | false=>rfl
   | true=>
    have:=cF.1 hc;rw[List.prefix_iff_eq_take,hl]at this;exact absurd this e
  rw[List.any_cons,hn,bu]
 rw[aX hl,Bool.false_and,Bool.false_and]
theorem JW {l:List Entry}{d:Nat}{dn:List (List UInt8)}{p:List UInt8}(hp:iW l p≠[])(hd:d≤16)(h:(kG l (jc l d dn) (p.take d)).isSome=true):kG l (jc l d dn)=kG l (jc l d (p::dn)):=by
 have hq:jc l d dn (p.take d)=true:=by
  unfold kG at h;by_cases hc:jc l d dn (p.take d)=true
  ·exact hc
  rw[aY hc]at h;cases h
 funext s;unfold kG;by_cases hs:s=p.take d
 ·rw[(pW hp hd).1 hs,hs,hq]
 rw[(pW hp hd).2 hs]
theorem KO {l:List Entry}{d:Nat}{dn:List (List UInt8)}{p:List UInt8}(hp:iW l p≠[])(hd:d≤16):ox (kG l (jc l d dn)) (p.take d) (mu (gK l (p.take d)))=kG l (jc l d (p::dn)):=
 Fs ((pW hp hd).1 rfl) fun _ hs=>(pW hp hd).2 hs
theorem wc {l:List Entry}{d:Nat}{dn:List (List UInt8)}{q:List UInt8}(h:d<q.length):jc l d dn q=begun l q:=by
 unfold jc;rw[aW h,Bool.true_or,Bool.and_true]
def pg (dn:List (List UInt8))(s:List UInt8):Bool:=decide (s∈dn)
theorem KH {l:List Entry}{dn:List (List UInt8)}{p:List UInt8}(hp:iW l p≠[]):ox (kG l (pg dn)) p (mu (gg (jt (iW l p))))=kG l (pg (p::dn)):=by
 obtain⟨x,hx,he⟩:=tt hp;have h16:p.length=16:=by rw[←he,jJ]
 rw[←KL h16];refine Fs (by simp[pg]) fun s hs=>?_;unfold pg;rw[aV,aT];exact⟨fun h=>h.resolve_left hs,.inr⟩
theorem FK {l:List Entry}{dn:List (List UInt8)}(h: ∀x∈l,ej x.name∈dn)(hk: ∀s∈dn,iW l s≠[]):kG l (pg dn)=kG l (jc l 15 []):=by
 funext s;unfold kG;have e:pg dn s=jc l 15 [] s:=by
  unfold pg jc;rw[ai];simp only[av,List.any_nil,Bool.and_false,Bool.or_false,aL];constructor
  ·intro hs;obtain⟨x,hx,he⟩:=tt (hk s hs);have h16:s.length=16:=by rw[←he,jJ]
   exact⟨(zr (by omega)).2 (hk s hs),by omega⟩
  rintro⟨hb,hl⟩;obtain⟨x,hx,he⟩:=tt ((zr (by omega)).1 hb);rw[←he];exact h x hx
 rw[e]
theorem Hz (l:List Entry):kG l (pg [])=fun _=>none:=by
 funext s;simp[kG,pg]
theorem rq {α:Type}[DecidableEq α]: ∀{a b:List α},a.Nodup→(∀x∈a,x∈b)→a.length≤b.length
 | [],_,_,_=>az _
 | x::a,b,hn,h=>by
  rw[cY]at hn;have hx:=h x (cP ..);have hr:=rq (b:=b.erase x) hn.2 fun y hy=>by
   have hne:y≠x:=by rintro rfl;exact hn.1 hy
   exact (List.mem_erase_of_ne hne).2 (h y (cO _ hy))
  rw[List.length_erase_of_mem hx]at hr;have:=List.length_pos_of_mem hx;rw[aH];omega
theorem O6 {l:List Entry}{dn:List (List UInt8)}(hn:dn.Nodup)(hk: ∀s∈dn,iW l s≠[]):dn.length≤l.length:=by
 have:=rq (b:=l.map fun x=>ej x.name) hn fun s hs=>by
  obtain⟨x,hx,he⟩:=tt (hk s hs);exact aG.2 ⟨x,hx,he⟩
 rwa [ab]at this
structure rQ (e:TypeId) (F:Hp) (b0:Nat) (L:List Entry) (m:List UInt8→Option Value):Prop where
 nil: ∀s,iW L s=[]→m s=none
 any: ∀s,iW L s≠[]→∃b n c,m s=some (.slice (some ⟨b,0,none⟩) n c)∧gU F e 2 (some ⟨b,0,none⟩) n c ((iW L s).flatMap Entry.row)∧b0<b
 apart: ∀s s' b n c n' c',m s=some (.slice (some ⟨b,0,none⟩) n c)→m s'=some (.slice (some ⟨b,0,none⟩) n' c')→s=s'
theorem rQ.empty (e:TypeId)(F:Hp)(b0:Nat):rQ e F b0 [] (fun _=>none):=⟨fun _ _=>rfl,fun s h=>absurd rfl h,fun _ _ _ _ _ _ _ h=>by cases h⟩
theorem rQ.C2 {e:TypeId}{F F':Hp}{b0:Nat}{L:List Entry}{m:List UInt8→Option Value}(h:rQ e F b0 L m)(hF: ∀b cur,b0<b→F b=some (.cells cur e (0,0))→F' b=some (.cells cur e (0,0))):rQ e F' b0 L m:=by
 refine⟨h.nil,fun s hs=>?_,h.apart⟩;obtain⟨b,n,c,h1,h2,h3⟩:=h.any s hs;refine⟨b,n,c,h1,?_,h3⟩;obtain⟨g1,g2,g3⟩:=h2;refine⟨g1,g2,?_⟩;rcases g3 with⟨g4,_⟩ | ⟨b',cur,g4,g5,g6⟩
 ·cases g4
 cases g4;exact .inr ⟨b,cur,rfl,hF b cur h3 g5,g6⟩
theorem rQ.find {e:TypeId}{F:Hp}{b0:Nat}{L:List Entry}{m:List UInt8→Option Value}(h:rQ e F b0 L m)(s:List UInt8): ∃p c,(m s).getD (.slice none 0 0)= .slice p (iW L s).length c∧gU F e 2 p (iW L s).length c ((iW L s).flatMap Entry.row)∧(∀b,p=some ⟨b,0,none⟩→b0<b∧ ∃n c,m s=some (.slice (some ⟨b,0,none⟩) n c)):=by
 by_cases hs:iW L s=[]
 ·rw[h.nil s hs,hs];exact⟨none,0,rfl,⟨rfl,ah _,.inl ⟨rfl,rfl,rfl⟩⟩,fun b hb=>by cases hb⟩
 obtain⟨b,n,c,h1,h2,h3⟩:=h.any s hs;have hn:n=(iW L s).length:=by
  have:=h2.1;rw[dL eI]at this;omega
 subst hn;exact⟨_,c,by rw[h1];rfl,h2,fun b' hb=>by cases hb;exact⟨h3,_,_,h1⟩⟩
theorem rQ.step {e:TypeId}{F:Hp}{b0:Nat}{L:List Entry}{m:List UInt8→Option Value}(h:rQ e F b0 L m)(x:Entry){p:Option Addr}{b' c':Nat}{o' o0:Obj}
  (hp: ∀b,p=some ⟨b,0,none⟩→b0<b∧ ∃n c,m (ej x.name)=some (.slice (some ⟨b,0,none⟩) n c)) (hb:p=some ⟨b',0,none⟩∨F b'=none∧b0<b')
  (hs:gU (F.plus b' o') e 2 (some ⟨b',0,none⟩) ((iW L (ej x.name)).length+1) c' ((iW L (ej x.name)).flatMap Entry.row++x.row)):
  rQ e ((F.plus b' o').plus b0 o0) b0 (L++[x]) (ox m (ej x.name) (.slice (some ⟨b',0,none⟩) ((iW L (ej x.name)).length+1) c')):=by
 have h0:b0<b':=by
  rcases hb with hb | hb
  ·exact (hp b' hb).1
  exact hb.2
 have hother: ∀s n c,s≠ej x.name→m s=some (.slice (some ⟨b',0,none⟩) n c)→False:=fun s n c hne hm=>by
  rcases hb with hb | hb
  ·obtain⟨_,n',c'',hm'⟩:=hp b' hb;exact hne (h.apart _ _ _ _ _ _ _ hm hm')
  by_cases hg:iW L s=[]
  ·rw[h.nil s hg]at hm;cases hm
  obtain⟨b,n1,c1,h1,h2,h3⟩:=h.any s hg;rw[hm]at h1;cases h1;obtain⟨_,_,h5⟩:=h2;rcases h5 with⟨h6,_⟩ | ⟨b2,cur,h6,h7,_⟩
  ·cases h6
  cases h6;rw[hb.1]at h7;cases h7
 refine⟨fun s hg=>?_,fun s hg=>?_,fun s s' b n c n' c'' h1 h2=>?_⟩
 ·rw[yl]at hg;unfold ox;by_cases hsx:ej x.name=s
  ·rw[aZ hsx]at hg;simp at hg
  rw[aY hsx]at hg;rw[aY (fun e=>hsx e.symm)];exact h.nil s hg
 ·rw[yl]at hg ⊢;unfold ox;by_cases hsx:ej x.name=s
  ·subst hsx;rw[aZ rfl,aZ rfl];refine⟨b',_,c',rfl,?_,h0⟩;rw[cd];have:=hs.other (b:=b0) (o:=o0) fun b hb'=>by cases hb';omega
   simpa using this
  rw[aY hsx]at hg;rw[aY hsx,aY (fun e=>hsx e.symm)];obtain⟨b,n,c,h1,h2,h3⟩:=h.any s hg;refine⟨b,n,c,h1,?_,h3⟩;refine (h2.other (b:=b') (o:=o') fun b2 hb2=>?_).other (b:=b0) (o:=o0) fun b2 hb2=>by cases hb2;omega
  cases hb2;rintro rfl;exact hother s n c (fun e=>hsx e.symm) h1
 unfold ox at h1 h2;by_cases hs1:s=ej x.name
 ·by_cases hs2:s'=ej x.name
  ·rw[hs1,hs2]
  rw[aZ hs1]at h1;rw[aY hs2]at h2;cases h1;exact (hother s' _ _ hs2 h2).elim
 by_cases hs2:s'=ej x.name
 ·rw[aY hs1]at h1;rw[aZ hs2]at h2;cases h2;exact (hother s _ _ hs1 h1).elim
 rw[aY hs1]at h1;rw[aY hs2]at h2;exact h.apart _ _ _ _ _ _ _ h1 h2
theorem rQ.key {e:TypeId}{F:Hp}{b0:Nat}{L:List Entry}{m:List UInt8→Option Value}(h:rQ e F b0 L m){s:List UInt8}{v:Value}(hm:m s=some v):iW L s≠[]:=fun hg=>by
 rw[h.nil s hg]at hm;cases hm
theorem rQ.all {e:TypeId}{F:Hp}{b0:Nat}{L:List Entry}{m:List UInt8→Option Value}(h:rQ e F b0 L m){dn:List (List UInt8)}(hd: ∀s v,m s=some v→s∈dn): ∀x∈L,ej x.name∈dn:=fun x hx=>by
 obtain⟨b,n,c,h1,_⟩:=h.any _ (I3 hx);exact hd _ _ h1
end
section
open Go.TR
structure eE where
 queue:Queue
 batch:Int
 every:Int
 now:Int
 dP:List Head
 ee:List (List Entry)
deriving DecidableEq
def eE.none:eE:=⟨⟨0,[]⟩,0,0,0,[],[]⟩
structure eE.wf (c:eE):Prop where
 queue:c.queue.wf
 dP: ∀x∈c.dP,x.wf
 hlen:c.dP.length≤4398046511104
 OG:c.ee.length≤8796093022208
 now: -9223372036854775808≤c.now∧c.now≤9223372036854775807
 ee: ∀l∈c.ee,l.length≤4398046511104∧ ∀x∈l,x.wf
abbrev Bk:=Option Addr×List Entry×Nat
@[reducible] def Bk.v (s:Bk):Value:=.slice s.1 s.2.1.length s.2.2
def Bk.at (F:Hp)(s:Bk):Prop:=True∧eY F s.1 (s.2.1.flatMap Entry.row)
structure jf where
 w:Option Addr
 cw:Nat
 h:Option Addr
 ch:Nat
 b:Option Addr
 cb:Nat
@[reducible] def eE.v (c:eE) (a:jf):Value:=.agg #[i64 c.queue.most,.slice a.w c.queue.wait.length a.cw,i64 c.batch,i64 c.every,i64 c.now,.slice a.h c.dP.length a.ch,.slice a.b c.ee.length a.cb]
structure eE.at (c:eE) (F:Hp) (a:jf):Prop where
 w:eY F a.w (c.queue.wait.flatMap Ask.cells)
 cw:c.queue.wait.length≤a.cw
 h:eY F a.h (c.dP.flatMap Head.row)
 ch:c.dP.length≤a.ch
 cb:c.ee.length≤a.cb
 b: ∃bs:List Bk,bs.map (·.2.1)=c.ee∧eY F a.b (bs.map Bk.v)∧ ∀s∈bs,Bk.at F s
theorem Bk.eX {F F':Hp}(h:F.sub F'){s:Bk}(k:Bk.at F s):Bk.at F' s:=⟨k.1,dZ h k.2⟩
theorem eE.eX {F F':Hp}(h:F.sub F'){c:eE}{a:jf}(k:c.at F a):c.at F' a:=by
 obtain⟨bs,h1,h2,h3⟩:=k.b;exact⟨dZ h k.w,k.cw,dZ h k.h,k.ch,k.cb,bs,h1,dZ h h2,fun s hs=>Bk.eX h (h3 s hs)⟩
def jf.nil:jf:=⟨.none,0,.none,0,.none,0⟩
theorem eE.kx (F:Hp):eE.none.at F jf.nil:=⟨eG _ _,ah _,eG _ _,ah _,ah _,[],rfl,eG _ _,fun s hs=>by cases hs⟩
def ir:List Head→List (List Entry)→Int
 | h::hs,b::bs=>if dV b≠0 then dV b else if gK b []≠h.root then 8 else ir hs bs
 | _,_=>0
def ns (c:eE):Bool:=decide ((c.dP.getD 0 Head.none).dW≠0)||decide (c.ee.length≠c.dP.length)||decide (c.now<(fK c.dP).at_)
def jD (c:eE):Int:=if ns c=true then 3 else ir c.dP c.ee
def gH (c:eE):List Entry:=c.ee.getLastD []
def jE (c:eE)(more:List (List UInt8)):List (List UInt8):=(gH c).map Entry.name++c.queue.wait.map Ask.name++more
def jF (c:eE)(more:List (List UInt8)):Nat:=(kU (jE c more)).length
def sR (c:eE):Bool:=decide (c.batch<1)||decide (30<c.batch)||decide (c.every<1)||decide (1000<c.every)||decide (c.now<0)||decide (1000000000<c.now)
def ga (c:eE):Int:=if fg c.queue≠0 then fg c.queue else if sR c=true then 4 else if (fp c.dP).1≠0 then (fp c.dP).1 else if jD c≠0 then jD c else if 24<jF c [] then 7 else 0
def gn (c:eE):Bool:=decide (c.dP.length=40)||decide (c.now=1000000000)
def oz (c:eE)(a:Ask):Int:=if ga c≠0 then ga c else if eJ a.name a.value≠0 then eJ a.name a.value else if gn c=true then 9 else if (c.queue.wait.length:Int)=c.queue.most∨24<jF c [a.name] then 7 else 0
def jj (c:eE)(a:Ask):eE:=if oz c a=0 then { c with queue:=⟨c.queue.most,c.queue.wait++[a]⟩ } else eE.none
def pG (c:eE)(a:Ask):Int:=if oz c a=0 then c.now - c.now % c.every+((c.queue.wait.length:Int) / c.batch+1) * c.every else 0
def fV (c:eE):List Ask:=c.queue.wait.take c.batch.toNat
def jY (l:List Entry)(asks:List Ask):List Entry:=asks.foldl (fun b a=>ko b a.name a.value) l
def fY (c:eE):List Entry:=jY (gH c) (fV c)
def kM (c:eE):Head:=⟨(fK c.dP).dW+1,gK (fY c) [],(fK c.dP).mark,c.now+1⟩
def Hh (c:eE):Bool:= !gn c&&decide ((c.now+1) % c.every=0)
def rK (c:eE):Bool:=decide (ga c=0)&&Hh c
def fP (c:eE):eE:=if ga c≠0 then eE.none else if gn c=true then c else if Hh c=true then ⟨⟨c.queue.most,c.queue.wait.drop c.batch.toNat⟩,c.batch,c.every,c.now+1,c.dP++[kM c],c.ee++[fY c]⟩ else { c with now:=c.now+1 }
def mf (c:eE)(n:Int):Int:=if ga c≠0 then ga c else if n<0∨(c.ee.length:Int)≤n then 4 else 0
def kR (c:eE)(n:Int):List Entry:=if mf c n=0 then c.ee.getD n.toNat [] else []
def jG (most batch every:Int):Bool:=decide (most<1)||decide (30<most)||decide (batch<1)||decide (30<batch)||decide (every<1)||decide (1000<every)
def xK (most batch every:Int):Int:=if jG most batch every=true then 4 else 0
def jM (most batch every:Int):eE:=if jG most batch every=true then eE.none else ⟨⟨most,[]⟩,batch,every,0,[⟨0,gK [] [],0,0⟩],[[]]⟩
theorem m9: ∀{hs:List Head}{bs:List (List Entry)},bs.length≤hs.length→ir hs bs=0→∀b∈bs,dV b=0
 | _,[],_,_,b,hb=>by cases hb
 | [],_::_,h,_,_,_=>by simp at h
 | h::hs,c::bs,hl,hz,b,hb=>by
  unfold ir at hz;split at hz
  ·rename_i h0;exact absurd hz h0
  rename_i h0;split at hz
  ·cases hz
  rcases aT.1 hb with rfl | hb
  ·exact bE.1 h0
  exact m9 (by simpa using hl) hz b hb
structure Good (c:eE):Prop where
 queue:fg c.queue=0
 span:sR c=false
 chain:(fp c.dP).1=0
 form:ns c=false
 roots:ir c.dP c.ee=0
 names:jF c []≤24
theorem nb {c:eE}(h:ga c=0):Good c:=by
 unfold ga at h;split at h
 ·rename_i h0;exact absurd h h0
 rename_i h0;split at h
 ·cases h
 rename_i h1;split at h
 ·rename_i h2;exact absurd h h2
 rename_i h2;split at h
 ·rename_i h3;exact absurd h h3
 rename_i h3;split at h
 ·cases h
 rename_i h4;have h3:jD c=0:=bE.1 h3;unfold jD at h3;split at h3
 ·cases h3
 rename_i h5;exact⟨bE.1 h0,by simpa using h1,bE.1 h2,by simpa using h5,h3,by omega⟩
theorem Good.fault {c:eE}(h:Good c):ga c=0:=by
 have h3:jD c=0:=by unfold jD;rw[h.form];exact h.roots
 unfold ga;rw[aY (by rw[h.queue];decide),h.span,aY (by decide),aY (by rw[h.chain];decide),aY (by rw[h3];decide),aY (by have:=h.names;omega)]
theorem Good.lens {c:eE}(h:Good c):c.ee.length=c.dP.length∧0<c.dP.length∧c.dP.length≤40:=by
 obtain⟨h1,h2,_⟩:=iL h.chain;have:=h.form;unfold ns at this;simp only[aQ,aU,ne_eq,bE]at this;exact⟨this.1.2,by omega,h2⟩
theorem Good.book {c:eE}(h:Good c): ∀b∈c.ee,dV b=0:=m9 (by rw[h.lens.1];exact ah _) h.roots
theorem Good.times {c:eE}(h:Good c):1≤c.batch∧c.batch≤30∧1≤c.every∧c.every≤1000∧0≤c.now∧c.now≤1000000000:=by
 have:=h.span;unfold sR at this;simp only[aQ,aU]at this;omega
theorem mO {c:eE}(h:0<c.ee.length):gH c∈c.ee:=by
 unfold gH;cases hb:c.ee with
 | nil=>rw[hb]at h;cases h
 | cons a t=>rw[List.getLastD_cons];exact List.getLastD_mem_cons
theorem Good.last {c:eE}(h:Good c):dV (gH c)=0:=h.book _ (mO (by have:=h.lens;omega))
end
section
open Go.TR
theorem qu: ∀{l:List (List UInt8)},BM l→l.Nodup
 | [],_=>List.nodup_nil
 | a::t,h=>by
  obtain⟨h1,h2⟩:=List.pairwise_cons.1 h;refine cY.2 ⟨fun ha=>?_,qu h2⟩;have:=h1 a ha;rw[jl]at this;cases this
theorem JG {l:List Entry}(h:oh l):BM (l.map Entry.name):=by
 unfold BM;rw[List.pairwise_map];exact h
theorem Hk {l:List Entry}(h:oh l){L:List (List UInt8)}(hs: ∀x∈l,x.name∈L):l.length≤(kU L).length:=by
 have:=rq (a:=l.map Entry.name) (b:=kU L) (qu (JG h)) (fun s hs'=>by
  obtain⟨x,hx,rfl⟩:=aG.1 hs';exact (mD L _).2 (hs x hx))
 simpa using this
theorem Ib: ∀{l:List Ask},ij l=0→∀a∈l,eJ a.name a.value=0
 | [],_,a,ha=>by cases ha
 | b::t,h,a,ha=>by
  unfold ij at h;split at h
  ·rename_i h0;rcases aT.1 ha with rfl | ha
   ·exact h0
   exact Ib h a ha
  rename_i h0;exact absurd h h0
theorem lf {q:Queue}(h:fg q=0):1≤q.most∧q.most≤30∧(q.wait.length:Int)≤q.most∧ ∀a∈q.wait,eJ a.name a.value=0:=by
 unfold fg at h;split at h
 ·cases h
 split at h
 ·cases h
 exact⟨by omega,by omega,by omega,Ib h⟩
theorem EN {n v:List UInt8}(h:eJ n v=0):eL n=true∧v.length≤20:=by
 unfold eJ at h;split at h
 ·rename_i h0;split at h
  ·cases h
  exact⟨h0,by omega⟩
 cases h
theorem Ph {l:List Entry}(h0:dV l=0){L:List (List UInt8)}(hL:(kU L).length≤24)(hs: ∀x∈l,x.name∈L){n v:List UInt8}(hn:n∈L)(ha:eJ n v=0):mS l n v=0:=by
 obtain⟨hg,hv⟩:=EN ha;have hf:jz l n=0:=by unfold jz;rw[aY (by rw[h0];decide),aZ hg]
 unfold mS;rw[aY (by rw[hf];decide),aY (by rw[ha];decide)];refine aY ?_;rintro⟨h1,h2⟩;have hb:=qz h0;have h3:=Hk (uL hb n v) (L:=L) (fun x hx=>by
  rcases xk hb hx with rfl | ⟨hx,_⟩
  ·exact hn
  exact hs x hx)
 rw[xn hb,h1]at h3;simp only[bq,dB]at h3;omega
theorem DL {L:List (List UInt8)}(hL:(kU L).length≤24): ∀{asks:List Ask} {l:List Entry},dV l=0→(∀x∈l,x.name∈L)→(∀a∈asks,a.name∈L∧eJ a.name a.value=0)→
  dV (jY l asks)=0∧(∀x∈jY l asks,x.name∈L)∧ ∀(k:Nat) (hk:k<asks.length),mS (jY l (asks.take k)) asks[k].name asks[k].value=0
 | [],l,h0,hs,_=>⟨h0,hs,fun k hk=>by simp at hk⟩
 | a::t,l,h0,hs,ha=>by
  obtain⟨ha1,ha2⟩:=ha a (by simp);have he:=Ph h0 hL hs ha1 ha2;obtain⟨f1,f2⟩:=vT he;obtain⟨r1,r2,r3⟩:=DL hL (asks:=t) (l:=ko l a.name a.value) f1 (fun x hx=>by
   rcases f2 x hx with rfl | hx
   ·exact ha1
   exact hs x hx) (fun b hb=>ha b (by simp[hb]))
  refine⟨r1,r2,fun k hk=>?_⟩;cases k with
  | zero=>exact he
  | succ k=>exact r3 k (by simpa using hk)
theorem qw (l:List Entry){asks:List Ask}{k:Nat}(hk:k<asks.length):jY l (asks.take (k+1))=ko (jY l (asks.take k)) asks[k].name asks[k].value:=by
 unfold jY;rw[al hk,List.foldl_append];rfl
theorem Good.Gi {c:eE}(h:Good c): ∀x∈gH c,x.name∈jE c []:=fun x hx=>by
 unfold jE;simp only[bT,aK];exact .inl (cR hx)
theorem Good.zb {c:eE}(h:Good c): ∀a∈c.queue.wait,a.name∈jE c []∧eJ a.name a.value=0:=fun a ha=>by
 refine⟨?_,(lf h.queue).2.2.2 a ha⟩;unfold jE;simp only[bT,aK];exact .inr (cR ha)
theorem Good.Rk {c:eE}(h:Good c):dV (fY c)=0∧(∀x∈fY c,x.name∈jE c [])∧ ∀(k:Nat) (hk:k<(fV c).length),mS (jY (gH c) ((fV c).take k)) (fV c)[k].name (fV c)[k].value=0:=
 DL (L:=jE c []) h.names h.last h.Gi (fun a ha=>h.zb a (cV ha))
theorem vH {l:List Head}(h:0<l.length):fK l=l[l.length - 1]:=by
 unfold fK;rw[List.getLastD_eq_getLast?,List.getLast?_eq_getElem?,ao (by omega)];rfl
theorem Good.top {c:eE}(h:Good c):(fK c.dP).fault=0∧(fK c.dP).dW=(c.dP.length:Int) - 1∧(fK c.dP).at_≤c.now:=by
 obtain⟨h1,h2,h3,h4,_⟩:=iL h.chain;have hf:=h.form;unfold ns at hf;simp only[aQ,aU,ne_eq,bE]at hf;have e0:(c.dP[0]'h1).dW=0:=by
  have:=hf.1.1;simpa [List.getD,h1] using this
 have hl:=vH h1;have he:=sq h4 (c.dP.length - 1) (by omega);rw[hl];refine⟨h3 _ (aj _),by rw[he,e0];omega,?_⟩;have:=hf.2;rw[hl]at this;omega
theorem Head.nM {h:Head}(h0:0≤h.dW)(h1:h.dW≤1000000)(h2:h.root<MM)(h3:h.prev<MM)(h4:0≤h.at_)(h5:h.at_≤1000000000)(h6:h.dW=0→h.prev=0):h.fault=0:=by
 have b1:h.vu=false:=by
  unfold Head.vu;simp only[aQ,aU];omega
 have b2:h.xG=false:=by
  unfold Head.xG;by_cases e:h.dW=0
  ·simp[e,h6 e]
  simp[e]
 unfold Head.fault;rw[b1,b2];rfl
theorem Head.uR {h:Head}(h0:h.fault=0):0≤h.dW∧h.dW≤1000000∧h.root<MM∧h.prev<MM∧0≤h.at_∧h.at_≤1000000000:=by
 unfold Head.fault at h0;split at h0
 ·cases h0
 rename_i hb;unfold Head.vu at hb;simp only[bD,av,not_or]at hb;omega
theorem Good.next {c:eE}(h:Good c)(hc:gn c=false){root:Nat}(hr:root<MM):(fK c.dP).ku root (c.now+1)=0∧((fK c.dP).nc root (c.now+1)).hU 0=⟨(fK c.dP).dW+1,root,(fK c.dP).mark,c.now+1⟩∧qI c.dP root (c.now+1)=0∧tS c.dP root (c.now+1)=c.dP++[⟨(fK c.dP).dW+1,root,(fK c.dP).mark,c.now+1⟩]:=by
 obtain⟨l1,l2,l3⟩:=h.top;obtain⟨_,t2,t3⟩:=h.lens;have tm:=h.times;unfold gn at hc;simp only[aQ,aU]at hc;have eO:(fK c.dP).qY=(fK c.dP).mark:=by unfold Head.qY;rw[aZ l1]
 have ew:IntKind.i64.wrap ((fK c.dP).dW+1)=(fK c.dP).dW+1:=wrap_i64 (by omega) (by omega);have eN:(fK c.dP).nc root (c.now+1)=⟨(fK c.dP).dW+1,root,(fK c.dP).mark,c.now+1⟩:=by unfold Head.nc;rw[ew,eO]
 have e0:(fK c.dP).ku root (c.now+1)=0:=by
  unfold Head.ku;rw[aY (by rw[l1];decide),aY (by omega),aY (by omega),eN];exact Head.nM (by simp only;omega) (by simp only;omega) hr (kZ _) (by simp only;omega) (by simp only;omega) (fun e=>by simp only at e;omega)
 have e1:qI c.dP root (c.now+1)=0:=by unfold qI;rw[aY (by rw[h.chain];decide),aY hc.1,e0]
 have e2:((fK c.dP).nc root (c.now+1)).hU 0=⟨(fK c.dP).dW+1,root,(fK c.dP).mark,c.now+1⟩:=by rw[eN];rfl
 refine⟨e0,e2,e1,?_⟩;unfold tS;rw[aZ e1,e0,e2]
theorem uS (l:List Entry)(s:List UInt8):gK l s<MM:=by
 have h: ∀n s,lvl l n s<MM:=fun n s=>by cases n<;>exact kZ _
 exact h _ _
end
end Go.Proofs.YthbnddgjkonkdaaGreatDoor
