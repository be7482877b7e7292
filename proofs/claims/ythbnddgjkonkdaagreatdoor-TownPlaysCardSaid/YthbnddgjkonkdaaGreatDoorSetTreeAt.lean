/- A part of the proof. -/
import Derived.Test.YthbnddgjkonkdaaGreatDoorSetClerkTick
import Derived.Test.YthbnddgjkonkdaaGreatDoorSetProofSay
import Derived.Test.YthbnddgjkonkdaaGreatDoorSetChain3
set_option linter.unusedVariables false
set_option linter.unusedSimpArgs false
namespace Go.Proofs.YthbnddgjkonkdaaGreatDoor
section
open Go.TR
theorem nX {F:Hp}{b:Nat}{o:Obj}{p:Option Addr}{v:Value}(h:gb F p=some v)(hb: ∀cur e r,F b≠some (.cells cur e r)):gb (F.plus b o) p=some v:=by
 cases p with
 | none=>cases h
 | some a=>
  simp only[gb,Option.bind_some]at h ⊢;unfold jx at h ⊢;have hne:a.block≠b:=by
   rintro rfl;cases hF:F a.block with
   | none=>rw[hF]at h;cases h
   | some x=>
    cases x with
    | cells cur e r=>exact hb _ _ _ hF
    | _=>rw[hF]at h;cases h
  show (match (if a.block=b then some o else F a.block) with | some (.cells c _ _)=>if a.spot.isSome then none else c[a.off]? | _=>none)=some v;rw[aY hne];exact h
theorem kJ (F:Hp)(b:Nat)(o:Obj):F.plus b o b=some o:=aZ rfl
theorem iC {F:Hp}{b k:Nat}{o:Obj}(h:k≠b):F.plus b o k=F k:=aY h
theorem Eg {F:Hp}{b:Nat}{o:Obj}(h:F b=none):F.sub (F.plus b o):=fun k x hk=>by
 rw[iC (by rintro rfl;rw[h]at hk;cases hk)];exact hk
theorem qq:Tryz.prog.underlying 231=some (.map 9 33):=by kernel_rfl
theorem uq:Tryz.prog.underlying 282=some (.map 9 42):=by kernel_rfl
theorem nz:Tryz.prog.underlying 9=some .string:=by kernel_rfl
theorem rh (w:World):(zeroValue 33).run Tryz.prog w= .ok (mu 0) w:=by
 have h:Tryz.prog.info? 33=some Tryz.t33:=by kernel_rfl
 simp[zeroValue,typeInfo,h,Tryz.t33]
theorem JM (w:World):(zeroValue 42).run Tryz.prog w= .ok (.slice none 0 0) w:=by
 have h:Tryz.prog.info? 42=some Tryz.t42:=by kernel_rfl
 simp[zeroValue,typeInfo,h,Tryz.t42]
structure K5 (l:List Entry) (b0 b1 b7 b8:Nat) (es:Array MapEntry) (clock:Nat) (m:List UInt8→Option Value) (es1:Array MapEntry) (c1:Nat) (f:List UInt8→Bool) (G:Hp):Prop where
 g0:G b0=some (.map es clock)
 g1:G b1=some (.map es1 c1)
 p7:gb G (some ⟨b7,0,none⟩)=some (mu jX)
 p8:gb G (some ⟨b8,0,none⟩)=some (.map (some b1))
 gr:rQ 122 G b0 l m
 mp:iF es1 c1 (kG l f)
theorem K5.plus {l:List Entry}{b0 b1 b7 b8:Nat}{es:Array MapEntry}{clock:Nat}{m:List UInt8→Option Value}{es1:Array MapEntry}{c1:Nat}{f:List UInt8→Bool}{G:Hp}(h:K5 l b0 b1 b7 b8 es clock m es1 c1 f G){k:Nat}{o:Obj}(h0:k≠b0)(h1:k≠b1)(hk: ∀cur e r,G k≠some (.cells cur e r)):K5 l b0 b1 b7 b8 es clock m es1 c1 f (G.plus k o):=
 ⟨by rw[iC (Ne.symm h0)];exact h.g0,by rw[iC (Ne.symm h1)];exact h.g1,nX h.p7 hk,nX h.p8 hk,h.gr.C2 fun b cur _ hb=>by rw[iC (by rintro rfl;exact hk _ _ _ hb)];exact hb,h.mp⟩
theorem K5.ZY {l:List Entry}{b0 b1 b7 b8:Nat}{es:Array MapEntry}{clock:Nat}{m:List UInt8→Option Value}{es1:Array MapEntry}{c1:Nat}{f:List UInt8→Bool}{G:Hp}(h:K5 l b0 b1 b7 b8 es clock m es1 c1 f G)(h01:b0<b1){es2:Array MapEntry}{c2:Nat}{f2:List UInt8→Bool}(hM:iF es2 c2 (kG l f2)):K5 l b0 b1 b7 b8 es clock m es2 c2 f2 (G.plus b1 (.map es2 c2)):=by
 have hk: ∀cur e r,G b1≠some (.cells cur e r):=fun cur e r hb=>by rw[h.g1]at hb;cases hb
 exact⟨by rw[iC (by omega)];exact h.g0,kJ ..,nX h.p7 hk,nX h.p8 hk,h.gr.C2 fun b cur _ hb=>by rw[iC (by rintro rfl;exact hk _ _ _ hb)];exact hb,hM⟩
structure Iv (l:List Entry) (b0:Nat) (es:Array MapEntry) (clock it:Nat) (dn:List (List UInt8)) (oi:Obj) (G:Hp):Prop where
 SZ:G it=some oi
 SY:Ac oi b0 es clock dn
 nd:dn.Nodup
 ks: ∀s∈dn,iW l s≠[]
theorem Iv.cells {l:List Entry}{b0:Nat}{es:Array MapEntry}{clock it:Nat}{dn:List (List UInt8)}{oi:Obj}{G:Hp}(h:Iv l b0 es clock it dn oi G): ∀cur e r,G it≠some (.cells cur e r):=fun cur e r hb=>by
 obtain⟨_,_,_,rfl,_⟩:=h.SY;rw[h.SZ]at hb;cases hb
theorem Iv.ZI {l:List Entry}{b0:Nat}{es:Array MapEntry}{clock it:Nat}{dn:List (List UInt8)}{oi o':Obj}{G:Hp}(h:Iv l b0 es clock it dn oi G){s:List UInt8}(hs:s ∉ dn)(hk:iW l s≠[])(hI:Ac o' b0 es clock (s::dn)):Iv l b0 es clock it (s::dn) o' (G.plus it o'):=
 ⟨kJ ..,hI,cY.2 ⟨hs,h.nd⟩,fun t ht=>by
  rcases aT.1 ht with rfl | ht
  ·exact hk
  exact h.ks t ht⟩
theorem Iv.other {l:List Entry}{b0:Nat}{es:Array MapEntry}{clock it:Nat}{dn:List (List UInt8)}{oi:Obj}{G:Hp}(h:Iv l b0 es clock it dn oi G){k:Nat}{o:Obj}(hk:it≠k):Iv l b0 es clock it dn oi (G.plus k o):=⟨by rw[iC hk];exact h.SZ,h.SY,h.nd,h.ks⟩
theorem Iv.new {l:List Entry}{b0:Nat}{es:Array MapEntry}{clock it:Nat}{oi:Obj}{G:Hp}(hI:Ac oi b0 es clock []):Iv l b0 es clock it [] oi (G.plus it oi):=⟨kJ ..,hI,List.nodup_nil,fun _ h=>by cases h⟩
theorem Ir (l:List Entry)(s:List UInt8):gK l s<18446744073709551616:=by
 have h: ∀n s,lvl l n s<MM:=fun n s=>by cases n<;>exact kZ _
 have:=h (16 - s.length) s;unfold gK;have:MM=2305843009213693951:=rfl;omega
def WW (l:List Entry):Nat→List UInt8→Bool
 | 0=>begun l
 | d+1=>jc l d []
theorem PL {l:List Entry}{d:Nat}{dn:List (List UInt8)}(h: ∀x∈l,ej x.name∈dn):jc l d dn=WW l d:=by
 funext s;cases d with
 | zero=>exact Gc h s
 | succ d=>exact Hd h s
theorem vn {l:List Entry}{s:List UInt8}{dn:List (List UInt8)}(hn:dn.Nodup)(hk: ∀t∈dn,iW l t≠[])(hs:s ∉ dn)(hg:iW l s≠[]):l.length - (s::dn).length<l.length - dn.length:=by
 have:=O6 (cY.2 ⟨hs,hn⟩) (fun t ht=>by
  rcases aT.1 ht with rfl | ht
  ·exact hg
  exact hk t ht)
 rw[aH]at this ⊢;omega
theorem vx {l:List Entry}(h:l.length≤24):(jt l).length≤4611686018427387904:=by
 unfold jt;split
 ·decide
 have:=pK l;rw[aH];omega
theorem nB (F:Hp):Plain Tryz.prog F 67 [S [0]] (u64 (jX:Nat)):=jU [0] (by decide) F
attribute [local irreducible] vc dT gx fc fA gC gG gw fG Plain eu eR dH VS fq fx fD ju fe IntKind.wrap
theorem pC {l:List Entry}{f:List UInt8→Bool}{q:List UInt8}(h:f q=true):kG l f q=some (mu (gK l q)):=aZ h
theorem tM {l:List Entry}{f:List UInt8→Bool}{q:List UInt8}(h:f q=false):kG l f q=none:=aY (by rw[h];decide)
theorem x8 (l:List Entry)(f:List UInt8→Bool)(q:List UInt8)(hq:f q=begun l q){F:Hp}{p8 p7:Option Addr}{b0:Nat}{es:Array MapEntry}{clock:Nat}(h8:gb F p8=some (.map (some b0)))(h7:gb F p7=some (mu jX))(hF:F b0=some (.map es clock))(hM:iF es clock (kG l f)):
  Plain Tryz.prog F 189 [S q,.pointer p8,.pointer p7] (mu (gK l q)):=by
 refine dN (N:=16) (rv:=[.tmp 4]) eP mixed Tryz.func189 rfl rfl rfl rfl rfl ?_;(refine run ?_;repeat intro b);refine fr (.map (some b0)) rfl rfl rfl rfl h8 ?_;(refine run ?_;repeat intro b);refine pR (kG l f) q qq nz rfl rfl rh rfl hF hM ?_;rw[aZ rfl];cases hb:f q with
 | true=>
  rw[pC hb];(refine run ?_;repeat intro b);rfl
 | false=>
  rw[tM hb,pL (by rw[←hq];exact hb)];(refine run ?_;repeat intro b);refine fr (mu jX) rfl rfl rfl rfl h7 ?_;(refine run ?_;repeat intro b);rfl
attribute [local irreducible] ej gg jt kX gK kG begun iW ox jX Hp.plus
set_option maxRecDepth 100000
set_option maxHeartbeats 4000000
theorem AN (l:List Entry)(hl:l.length≤24)(hw: ∀x∈l,x.wf){p:Option Addr}{c:Nat}{F:Hp}(hf:eY F p (l.flatMap Entry.row)):
  iu Tryz.prog F 138 [.slice p l.length c] (fun x F'=>∃b es clock,x= .map (some b)∧F' b=some (.map es clock)∧iF es clock (kG l (begun l))):=by
 refine fU (N:=85) (rv:=[.tmp 2]) eP mixed Tryz.func138 rfl rfl rfl rfl rfl ?_;(refine run ?_;repeat intro b);refine A9 rfl (fun b0 hb0=>?_);(refine run ?_;repeat intro b);refine eU (fun q:Nat×Array MapEntry×Nat×Hp=>q.1≤l.length∧F.sub q.2.2.2∧q.2.2.2 b0=some (.map q.2.1 q.2.2.1)∧ ∃m,iF q.2.1 q.2.2.1 m∧rQ 122 q.2.2.2 b0 (l.take q.1) m∧ ∀s b n c,m s=some (.slice (some ⟨b,0,none⟩) n c)→F b=none)
  (fun q=>⟨[(3,.v (.map (some b0))),(18,.v (.slice p l.length c)),(19,.v (i64 (l.length:Nat))),(20,.v (i64 (q.1:Nat)))],q.2.2.2,[(0,Go.TR.mark b0)],1⟩) (fun q=>l.length - q.1) (0,#[],0,F.plus b0 (.map #[] 0))
  ⟨az _,Eg hb0,kJ ..,_,iF.empty,by rw[db];exact rQ.empty _ _ _,fun _ _ _ _ h=>by cases h⟩ (VS.eH [3,18,19,20] rfl rfl) ?_
 rintro⟨k,es,clock,G⟩ ⟨hk,hs,hG,m,hM,hL,hY⟩;dsimp only at hk hs hG hM hL hY ⊢;by_cases hlt:k<l.length
 ·have hf0:=dZ hs hf;obtain⟨o1,o2⟩:=eZ eI (by decide) hf0 k hlt;have ht:l.take (k+1)=l.take k++[l[k]]:=al hlt;have hxw:=hw l[k] (aj hlt);have hgl:=uo (l.take k) (ej l[k].name);rw[aw]at hgl;generalize l[k]=x at o2 ht hxw hgl;(refine run ?_;repeat intro b);refine gm rfl (by omega) ?_;(refine run ?_;repeat intro b);refine dI rfl rfl rfl ⟨by omega,by omega,dO hf0 (j:=k * 2) (by rw[dL eI];omega)⟩ ?_;refine fy x.row rfl rfl rfl rfl rfl (by rw[ae];exact o1) (by rw[ae];exact o2) ?_;(refine run ?_;repeat intro b);refine dG _ rfl rfl rfl wT rfl (kW x.name hxw.1 G) ?_;(refine run ?_;repeat intro b);obtain⟨p1,c1,e1,e2,e3⟩:=hL.find (ej x.name);refine pR m (ej x.name) uq nz rfl rfl JM rfl hG hM ?_;rw[aY Bool.false_ne_true,e1];(refine run ?_;repeat intro b);have aav:(iW (l.take k) (ej x.name)).length≤24:=by omega
  refine RY (vs:=x.row) (m:=1) (id:=0) eP rfl rfl rfl rfl rfl rfl (fb rfl rfl) (gy _ fun y hy=>iK [x] y (by simpa using hy)) (by decide) rfl (by show _ * 32≤_;omega) rfl (mY b0) hG e2 (fun b hb=>Nat.le_of_lt (e3 b hb).1) (fun b2 c2 o2' hb2 hs2=>?_);have h02:b0<b2:=by
   rcases hb2 with hb2 | hb2
   ·exact (e3 b2 hb2).1
   exact hb2.2
  have hF2:F b2=none:=by
   rcases hb2 with hb2 | hb2
   ·obtain⟨_,n',c',h⟩:=e3 b2 hb2;exact hY _ _ _ _ h
   cases hF:F b2 with
   | none=>rfl
   | some o=>
    have:=hs _ _ hF;rw[hb2.1]at this;cases this
  refine mg (id:=0) m (ej x.name) uq nz rfl rfl rfl rfl (mY b0) (ah _) (by rw[iC (by omega)];exact hG) hM (fun es2 clock2 hM2=>?_);(refine run ?_;repeat intro b);rw[dQ (by omega)];exact fE (k+1,es2,clock2,(G.plus b2 o2').plus b0 (.map es2 clock2)) 1 [(0,0)] [3,18,19,20] [(0,Go.TR.mark b0)]
   ⟨hlt,fun j o hj=>by show ((G.plus b2 o2').plus b0 _) j=some o;rw[iC (by rintro rfl;rw[hb0]at hj;cases hj),iC (by rintro rfl;rw[hF2]at hj;cases hj)];exact hs j o hj,kJ ..,_,hM2,by rw[ht];exact hL.step x e3 hb2 hs2,fun s b n c hm=>by
    unfold ox at hm;split at hm
    ·cases hm;exact hF2
    exact hY _ _ _ _ hm⟩ (by simp only;omega) (aM _ _)
   (dU rfl trivial) rfl rfl rfl rfl rfl rfl rfl
 have hge:k=l.length:=by omega
 subst hge;rw[aD]at hL;(refine run ?_;repeat intro b);refine gu rfl (by omega) ?_;(refine run ?_;repeat intro b);refine dG _ rfl rfl rfl vQ rfl (nB G) ?_;(refine run ?_;repeat intro b);revert b;intro b7;refine fT (VS.freeze 1 [3,7] rfl rfl rfl rfl fun G1 hs1 hf1=>VS.id ?_);refine Ha b0 rfl (hs1 _ _ hG) (fun b1 hb1 h01=>?_);(refine run ?_;repeat intro b);revert b;intro b8;refine fT (VS.freeze 2 [3,7,8,38] rfl rfl rfl rfl fun G2 hs2 hf2=>VS.id ?_);have hB:K5 l b0 b1 b7 b8 es clock m #[] 0 (pg []) G2:=by
  have g1:(G1.plus b1 (.map #[] 0)) b1=some (.map #[] 0):=kJ ..;refine⟨hs2 _ _ (by rw[iC (by omega)];exact hs1 _ _ hG),hs2 _ _ g1,?_,hf2 0 _ rfl,hL.C2 fun b cur hb hc=>hs2 _ _ ?_,by rw[Hz];exact iF.empty⟩
  ·have h7:=nX (o:=.map #[] 0) (hf1 0 _ rfl) (b:=b1) (fun cur e r h=>by rw[hb1]at h;cases h);have hc:eY (G1.plus b1 (.map #[] 0)) (some ⟨b7,0,none⟩) [mu jX]:=fun j u hj=>by
    match j,hj with
    | 0,hj=>cases hj;exact h7
    | j+1,hj=>simp at hj
   exact dZ hs2 hc 0 _ rfl
  have h1:=hs1 _ _ hc;rw[iC (by rintro rfl;rw[hb1]at h1;cases h1)];exact h1
 clear hs1 hf1 hs2 hf2 hb1 hs hG hL hY hf hb0;generalize hNX:(1+1+1:Nat)=NX;refine IX (b0:=b0) uq rfl rfl hB.g0 hB.g0 hM (fun it oi hit P3 hI=>?_);have FW:it≠b1:=by rintro rfl;rw[hB.g1]at hit;cases hit
 have hB2:=hB.plus (k:=it) (o:=oi) (by omega) FW (fun cur e r h=>by rw[hit]at h;cases h);(refine run ?_;repeat intro b);refine eU (fun q:List (List UInt8)×Obj×Array MapEntry×Nat×Hp=>K5 l b0 b1 b7 b8 es clock m q.2.2.1 q.2.2.2.1 (pg q.1) q.2.2.2.2∧Iv l b0 es clock it q.1 q.2.1 q.2.2.2.2)
  (fun q=>⟨[(3,.v (.map (some b0))),(7,.v (.pointer (some ⟨b7,0,none⟩))),(8,.v (.pointer (some ⟨b8,0,none⟩))),(39,.v (.pointer (some ⟨it,0,none⟩)))],q.2.2.2.2,[(0,Go.TR.mark b0)],NX⟩) (fun q=>l.length - q.1.length) ([],oi,#[],0,G2.plus it oi) ⟨hB2,Iv.new hI⟩ (VS.eH [3,7,8,39] rfl rfl) ?_
 clear hB2 hB hI;rintro⟨dn,oi1,es1,c1,G⟩ ⟨hB,hI⟩;dsimp only at hB hI ⊢;(refine run ?_;repeat intro b);refine MY (id:=0) m rfl rfl hB.g0 hI.SZ hI.SY hM rfl (mY b0) (Nat.le_of_lt P3) (fun hall=>?_) (fun s v o' hv hs hI'=>?_)
 ·have hX:kG l (pg dn)=kG l (jc l 15 []):=FK (hB.gr.all hall) hI.ks;(refine run ?_;repeat intro b);have hB3:K5 l b0 b1 b7 b8 es clock m es1 c1 (WW l 16) G:=by
   obtain⟨g0,g1,p7,p8,gr,mp⟩:=hB;rw[hX]at mp;exact⟨g0,g1,p7,p8,gr,mp⟩
  have hkeys:=hB.gr.all hall;clear hX hB hI hall hit P3 FW;refine eU (fun q:Nat×Array MapEntry×Nat×Hp=>q.1≤16∧K5 l b0 b1 b7 b8 es clock m q.2.1 q.2.2.1 (WW l q.1) q.2.2.2)
   (fun q=>⟨[(3,.v (.map (some b0))),(8,.v (.pointer (some ⟨b8,0,none⟩))),(11,.v (.func (.func 189) #[] #[.pointer (some ⟨b8,0,none⟩),.pointer (some ⟨b7,0,none⟩)])),(12,.v (.int .i64 ((q.1:Int) - 1)))],q.2.2.2,[(0,Go.TR.mark b0)],NX⟩) (fun q=>q.1) (16,es1,c1,G) ⟨ah _,hB3⟩ (VS.eH [3,8,11,12] rfl rfl) ?_
  clear hB3;rintro⟨d1,es1,c1,G⟩ ⟨YY,hB⟩;dsimp only at YY hB ⊢;cases d1 with
  | zero=>
   (refine run ?_;repeat intro b);refine fr (.map (some b1)) rfl rfl rfl rfl hB.p8 ?_;(refine run ?_;repeat intro b);exact eM (VS.iy [0] rfl (VS.id ⟨_,rfl,rfl,b1,es1,c1,rfl,hB.g1,hB.mp⟩))
  | succ d=>
   have ed:((d+1:Nat):Int) - 1=(d:Int):=by omega
   rw[ed];(refine run ?_;repeat intro b);refine IX (b0:=b0) uq rfl rfl hB.g0 hB.g0 hM (fun it oi hit P3 hI=>?_);have FW:it≠b1:=by rintro rfl;rw[hB.g1]at hit;cases hit
   have hB2:=hB.plus (k:=it) (o:=oi) (by omega) FW (fun cur e r h=>by rw[hit]at h;cases h);(refine run ?_;repeat intro b);refine eU (fun q:List (List UInt8)×Obj×Array MapEntry×Nat×Hp=>K5 l b0 b1 b7 b8 es clock m q.2.2.1 q.2.2.2.1 (jc l d q.1) q.2.2.2.2∧Iv l b0 es clock it q.1 q.2.1 q.2.2.2.2)
    (fun q=>⟨[(3,.v (.map (some b0))),(8,.v (.pointer (some ⟨b8,0,none⟩))),(11,.v (.func (.func 189) #[] #[.pointer (some ⟨b8,0,none⟩),.pointer (some ⟨b7,0,none⟩)])),(12,.v (i64 (d:Nat))),(56,.v (.pointer (some ⟨it,0,none⟩)))],q.2.2.2.2,[(0,Go.TR.mark b0)],NX⟩) (fun q=>l.length - q.1.length) ([],oi,es1,c1,G.plus it oi) ⟨hB2,Iv.new hI⟩ (VS.eH [3,8,11,12,56] rfl rfl) ?_
   clear hB2 hB hI;rintro⟨dn,oi1,es1,c1,G⟩ ⟨hB,hI⟩;dsimp only at hB hI ⊢;(refine run ?_;repeat intro b);refine MY (id:=0) m rfl rfl hB.g0 hI.SZ hI.SY hM rfl (mY b0) (Nat.le_of_lt P3) (fun hall=>?_) (fun s v o' hv hs hI'=>?_)
   ·have hX:jc l d dn=WW l d:=PL (hB.gr.all hall);rw[hX]at hB;(refine run ?_;repeat intro b);rw[wrap_i64 (by omega) (by omega)];exact fj (d,es1,c1,G) ⟨by omega,hB⟩ (dm d) (VS.eH [3,8,11,12] rfl rfl)
   have hg:=hB.gr.key hv;have hB':=hB.plus (k:=it) (o:=o') (by omega) FW hI.cells;have hI2:=hI.ZI hs hg hI';have aaw:s.length=16:=by
    obtain⟨x,_,rfl⟩:=tt hg;exact jJ _
   have WK:(s.take d).length=d:=by rw[aw];omega
   (refine run ?_;repeat intro b);refine H7 m rfl rfl hB'.g0 hI2.SZ hI2.SY hM hv ?_;(refine run ?_;repeat intro b);refine dI rfl rfl rfl ⟨by omega,by rw[fX];omega⟩ ?_;rw[ae,fX];(refine run ?_;repeat intro b);refine fr (.map (some b1)) rfl rfl rfl rfl hB'.p8 ?_;(refine run ?_;repeat intro b);refine pR (kG l (jc l d dn)) (s.take d) qq nz rfl rfl rh rfl hB'.g1 hB'.mp ?_;rw[aZ rfl];cases hb:jc l d dn (s.take d) with
   | true=>
    have hY:kG l (jc l d dn)=kG l (jc l d (s::dn)):=JW hg (by omega) (by rw[pC hb];rfl);have hB3:K5 l b0 b1 b7 b8 es clock m es1 c1 (jc l d (s::dn)) (G.plus it o'):=by
     obtain⟨g0,g1,p7,p8,gr,mp⟩:=hB';rw[hY]at mp;exact⟨g0,g1,p7,p8,gr,mp⟩
    rw[pC hb];(refine run ?_;repeat intro b);exact fj (s::dn,o',es1,c1,G.plus it o') ⟨hB3,hI2⟩ (vn hI.nd hI.ks hs hg) (VS.eH [3,8,11,12,56] rfl rfl)
   | false=>
    rw[tM hb];have h0:=x8 l (jc l d dn) (s.take d++[48]) (wc (by rw[ag,WK];simp)) hB'.p8 hB'.p7 hB'.g1 hB'.mp;have h1:=x8 l (jc l d dn) (s.take d++[49]) (wc (by rw[ag,WK];simp)) hB'.p8 hB'.p7 hB'.g1 hB'.mp;(refine run ?_;repeat intro b);refine jK 12 (by kernel_rfl) rfl rfl ?_;(refine run ?_;repeat intro b);refine fr (.map (some b1)) rfl rfl rfl rfl hB'.p8 ?_;(refine run ?_;repeat intro b);refine dI rfl rfl rfl (by show (s.take d).length+1≤9223372036854775807;omega) ?_;refine dG _ rfl rfl rfl Q1 rfl h0 ?_;(refine run ?_;repeat intro b);refine dI rfl rfl rfl (by show (s.take d).length+1≤9223372036854775807;omega) ?_;refine dG _ rfl rfl rfl Q1 rfl h1 ?_;refine dG _ rfl rfl rfl Lj rfl (qW _ _ (Ir _ _) (Ir _ _) _) ?_;refine dG _ rfl rfl rfl vQ rfl (jU _ (by have:=sj (gK l (s.take d++[48])) (gK l (s.take d++[49]));omega) _) ?_;rw[←KG (l:=l) (s:=s.take d) (by omega)];(refine run ?_;repeat intro b);refine mg (id:=0) (kG l (jc l d dn)) (s.take d) qq nz rfl rfl rfl rfl (mY b0) (Nat.le_of_lt h01) hB'.g1 hB'.mp (fun es2 c2 hM2=>?_);rw[KO hg (by omega)]at hM2;(refine run ?_;repeat intro b);exact fj (s::dn,o',es2,c2,(G.plus it o').plus b1 (.map es2 c2)) ⟨hB'.ZY h01 hM2,hI2.other FW⟩ (vn hI.nd hI.ks hs hg) (VS.eH [3,8,11,12,56] rfl rfl)
 have hg:=hB.gr.key hv;obtain⟨b,n,c,e1,e2,e3⟩:=hB.gr.any s hg;obtain rfl:v= .slice (some ⟨b,0,none⟩) n c:=dy (hv.symm.trans e1);have hB':=hB.plus (k:=it) (o:=o') (by omega) FW hI.cells;have hI2:=hI.ZI hs hg hI';have hlen:n=(iW l s).length:=by
  have:=e2.1;rw[dL eI]at this;omega
 subst hlen;have hgl:=uo l s;obtain⟨b',n',c',e1',e2',_⟩:=hB'.gr.any s hg;rw[e1]at e1';cases e1';(refine run ?_;repeat intro b);refine H7 m rfl rfl hB'.g0 hI2.SZ hI2.SY hM e1 ?_;(refine run ?_;repeat intro b);refine jK 5 (by kernel_rfl) rfl rfl ?_;(refine run ?_;repeat intro b);refine fr (.map (some b1)) rfl rfl rfl rfl hB'.p8 ?_;(refine run ?_;repeat intro b);refine dG _ rfl rfl rfl QN rfl (v9 (iW l s) (by omega) (fun x hx=>hw x (Jd hx)) e2'.kq) ?_;refine dG _ rfl rfl rfl vQ rfl (jU (jt (iW l s)) (vx (by omega)) _) ?_;(refine run ?_;repeat intro b);refine mg (id:=0) (kG l (pg dn)) s qq nz rfl rfl rfl rfl (mY b0) (Nat.le_of_lt h01) hB'.g1 hB'.mp (fun es2 c2 hM2=>?_);rw[KH hg]at hM2;(refine run ?_;repeat intro b);exact fj (s::dn,o',es2,c2,(G.plus it o').plus b1 (.map es2 c2)) ⟨hB'.ZY h01 hM2,hI2.other FW⟩ (vn hI.nd hI.ks hs hg) (VS.eH [3,7,8,39] rfl rfl)
end
section
open Go.TR
theorem kQ {α:Type}{f:α→List Value}{k:Nat}(hk: ∀a,(f a).length=k){l:List α}{j:Nat}(h:j<l.length):(((l.flatMap f).map EV.v).take (0+j * k+k)).drop (0+j * k)=(f l[j]).map EV.v:=by
 rw[aP,←cN,←cK];congr 1;have e1:l=l.take j++l[j]::l.drop (j+1):=by rw[←aO h,List.take_append_drop]
 have e2:l.flatMap f=(l.take j).flatMap f++(f l[j]++(l.drop (j+1)).flatMap f):=by
  rw[←cg,←cd,←e1]
 have e3:((l.take j).flatMap f).length=j * k:=by rw[dL hk,aw,Nat.min_eq_left (by omega)]
 rw[e2,List.drop_take,List.drop_append,e3,Nat.sub_self,bW (by omega),cX,List.drop_zero,de,List.take_append,hk,Nat.sub_self,db,bT,an (by rw[hk];exact ah _)]
theorem mj {α:Type}{f:α→List Value}{k:Nat}(hk: ∀a,(f a).length=k){l:List α}{i:Nat}{x:α}(h:i<l.length):((l.flatMap f).map EV.v).take (0+i * k)++(f x).map EV.v++((l.flatMap f).map EV.v).drop (0+i * k+k)=((l.set i x).flatMap f).map EV.v:=by
 rw[aP,←cN,←cK,←aF,←aF];congr 1;rw[←pd hk,←dt,←ve hk,List.set_eq_take_append_cons_drop,aZ h,cd,cg,bM]
attribute [local irreducible] vc dT gx fc fA gC gG gw fG Plain eu eR dH VS fq fx fD ju fe IntKind.wrap
set_option maxRecDepth 100000
set_option maxHeartbeats 4000000
end
section
open Go.TR
def lp (l:List Entry)(s:List UInt8):List Entry:=l.filter fun x=>s.isPrefixOf (jS x.name)
theorem xW {l:List Entry}{s:List UInt8}{x:Entry}(h:x∈lp l s):x∈l:=by
 unfold lp at h;exact (cQ.1 h).1
theorem Nt (s:List UInt8):lp [] s=[]:=rfl
theorem GV (l:List Entry)(s:List UInt8):(l.filter fun x=> !!s.isPrefixOf (jS x.name))=lp l s:=by
 unfold lp;simp
theorem zn (l:List Entry)(s:List UInt8):(lp l s).length≤l.length:=cG _ _
def Bh:Nat→List Entry→List UInt8→Nat
 | 0,l,_=>gg (jt l)
 | n+1,l,s=>if l=[] then gg (jt l) else gg (kX (Bh n (lp l (s++[48])) (s++[48])) (Bh n (lp l (s++[49])) (s++[49])))
theorem MO (n:Nat)(l:List Entry)(s:List UInt8):Bh n l s<18446744073709551616:=by
 have h:Bh n l s<MM:=by
  cases n with
  | zero=>exact kZ _
  | succ n=>
   unfold Bh;split<;>exact kZ _
 have:MM=2305843009213693951:=rfl;omega
theorem PS {n:Nat}{l:List Entry}{s:List UInt8}(h16:s.length+n=16)(h:l.length=0∨s.length=16):Bh n l s=gg (jt l):=by
 cases n with
 | zero=>rfl
 | succ n=>
  unfold Bh;rw[aZ];rcases h with h | h
  ·exact aq h
  omega
theorem Mz {n:Nat}{l:List Entry}{s:List UInt8}(h:l≠[]):Bh (n+1) l s=gg (kX (Bh n (lp l (s++[48])) (s++[48])) (Bh n (lp l (s++[49])) (s++[49]))):=aY h
theorem LD (a b:Nat):(if a=jX∧b=jX then jX else gg (two 2 a b))=gg (kX a b):=by
 unfold kX;split<;>rfl
theorem EE:gg (jt [])=jX:=rfl
theorem GA (s t:List UInt8):(decide (t.length≤s.length)&&decide (s.take t.length=t))=t.isPrefixOf s:=by
 rw[ai,aL,av,av,cF,List.prefix_iff_eq_take];constructor
 ·rintro⟨_,h⟩;exact h.symm
 intro h;refine⟨?_,h.symm⟩;have:=a8 List.length h;rw[aw]at this;omega
theorem Cx {L:List Entry}(hg: ∀x∈L,eL x.name=true): ∀(n:Nat) (s:List UInt8),s.length+n=16→Bh n (lp L s) s=lvl L n s
 | 0,s,h=>by
  have hu:lp L s=iW L s:=by
   unfold lp iW;apply List.filter_congr;intro x hx;have e:jS x.name=ej x.name:=by unfold jS;rw[aZ (hg x hx)]
   rw[e,ai,cF,av];constructor
   ·intro hp;exact (hp.eq_of_length_le (by rw[jJ];omega)).symm
   rintro rfl;exact List.prefix_refl _
  show gg (jt (lp L s))=gg (jt (iW L s));rw[hu]
 | n+1,s,h=>by
  have WI: ∀c,lp (lp L s) (s++[c])=lp L (s++[c]):=fun c=>by
   unfold lp;rw[List.filter_filter];apply List.filter_congr;intro x _;rw[ai,aL,cF,cF];exact⟨fun h=>h.1,fun h=>⟨h,(List.prefix_append s [c]).trans h⟩⟩
  unfold Bh;by_cases hn:lp L s=[]
  ·rw[aZ hn,hn,EE];refine (uJ L _ _ ?_).symm;unfold begun;rw[bJ];intro x hx hp;have e:jS x.name=ej x.name:=by unfold jS;rw[aZ (hg x hx)]
   unfold lp at hn;rw[List.filter_eq_nil_iff]at hn;exact hn x hx (by rw[e];exact hp)
  rw[aY hn,WI,WI,Cx hg n _ (by rw[ag];simp;omega),Cx hg n _ (by rw[ag];simp;omega)];rfl
attribute [local irreducible] vc dT gx fc fA gC gG gw fG Plain eu eR dH VS fq fx fD ju fe IntKind.wrap
set_option maxRecDepth 100000
set_option maxHeartbeats 2000000
theorem Ae (s t:List UInt8)(F:Hp):Plain Tryz.prog F 268 [S s,S t] (.bool (t.isPrefixOf s)):=by
 refine dN (N:=18) (rv:=[.tmp 4]) eP mixed Tryz.func268 rfl rfl rfl rfl rfl ?_;(refine run ?_;repeat intro b);refine iw rfl rfl rfl rfl rfl (fun hg=>⟨by omega,ar hg.1⟩) ?_;(refine run ?_;repeat intro b);have e1:decide ((((bl (jB t)).length:Nat):Int)≤(((bl (jB s)).length:Nat):Int))=decide (t.length≤s.length):=by rw[aV,fX,fX];omega
 simp only[gE,fH,e1];rw[←GA];rfl
theorem Dm (s t:List UInt8)(F:Hp):Plain Tryz.prog F 219 [S s,S t] (.bool (t.isPrefixOf s)):=by
 refine dN (N:=8) (rv:=[.tmp 4]) eP mixed Tryz.func219 rfl rfl rfl rfl rfl ?_;(refine run ?_;repeat intro b);refine dG _ rfl rfl rfl UT rfl (Ae s t F) ?_;(refine run ?_;repeat intro b);rfl
attribute [local irreducible] jS lp Bh gg jt kX eL jX two
theorem Ky (x:Entry)(s:List UInt8)(hx:x.wf){p:Option Addr}{F:Hp}(hp:gb F p=some (S s)):Plain Tryz.prog F 218 [.agg x.row.toArray,.pointer p] (.bool (!s.isPrefixOf (jS x.name))):=by
 refine dN (N:=10) (rv:=[.tmp 3]) eP mixed Tryz.func218 rfl rfl rfl rfl rfl ?_;(refine run ?_;repeat intro b);refine fM (by kernel_rfl) ?_;(refine run ?_;repeat intro b);refine dG _ rfl rfl rfl FB rfl (nN x.name hx.1 F) ?_;refine fr (S s) rfl rfl rfl rfl hp ?_;(refine run ?_;repeat intro b);refine dG _ rfl rfl rfl S9 rfl (Dm (jS x.name) s F) ?_;(refine run ?_;repeat intro b);rfl
theorem JX (cs:List Value)(n:Nat){p:Option Addr}{c:Nat}{F:Hp}(hl:cs.length=n * 2)(hf:eY F p cs)(h1: ∀x∈cs,Go.TR.one (.v x)=true)(hb:n * 32≤140737488355328):eu Tryz.prog F 43 [.slice p n c] (fun x _ new=>ml 122 2 cs n x new):=by
 refine fU (N:=8) (rv:=[.tmp 2]) eP mixed Tryz.func43 rfl rfl rfl rfl rfl ?_;(refine run ?_;repeat intro b);refine p9 (b:=p.isNone) eP rfl rfl rfl ?_;cases p with
 | none=>
  have hn:n=0:=by
   rcases dh n with h | h
   ·exact h
   have:=dO hf (j:=0) (by rw[hl];omega);cases this
  subst hn;(refine run ?_;repeat intro b);refine eM (VS.id ⟨_,rfl,.inl ⟨rfl,rfl,none,rfl⟩⟩)
 | some a=>
  (refine run ?_;repeat intro b);refine fv rfl rfl rfl rfl rfl rfl rfl rfl (iV hl hf) (gy _ h1) (fun h=>by cases h) (ah 0) rfl (az _) (by show (0+n) * 32≤_;omega) (fun hn=>?_) (fun hn b2 c2 hc2=>?_)
  ·subst hn;(refine run ?_;repeat intro b);refine eM ?_;refine VS.freeze 0 [2] rfl (cs:=[]) rfl rfl rfl fun F' hs1 hf1=>VS.id ⟨_,rfl,.inl ⟨rfl,rfl,_,rfl⟩⟩
  (refine run ?_;repeat intro b);simp only[aP]at hc2 ⊢;refine mI (qN.mM (nx':=1) [(1,0)] [2] [(0,⟨some b2,cs.map EV.v,122,c2 * 2⟩)] (ff ⟨_,rfl,rfl,rfl,rfl,.inl ⟨rfl,fun e he=>fw _ e he⟩⟩ trivial) rfl rfl rfl rfl rfl rfl ⟨_,rfl,.inr ⟨hn,b2,c2,hc2,rfl,rfl⟩⟩)
theorem GH (q:Entry→Bool)(g:Nat)(lb:Array Value)(hbd:dH Tryz.prog g)(l:List Entry){b cap c:Nat}{F:Hp}(hl:l.length≤4611686018427387904)(hp: ∀x∈l,Plain Tryz.prog F g (.agg (Entry.row x).toArray::lb.toList) (.bool (q x))):
  eR Tryz.prog F [(1,⟨some b,(l.flatMap Entry.row).map EV.v,122,cap⟩)] 2 267 [.row 1 0 l.length c,.v (.func (.func g) #[] lb)] (fun e F' rs' nx'=>e= .v (i64 (ov q l))∧F=F'∧rs'=[(1,⟨some b,(l.flatMap Entry.row).map EV.v,122,cap⟩)]∧nx'=2):=by
 refine iQ (N:=19) (rv:=[.tmp 4]) eP mixed Tryz.func267 rfl rfl rfl rfl rfl ?_;(refine run ?_;repeat intro b);refine eU (fun k:Nat=>k≤l.length∧(l.take k).any q=false) (fun k=>⟨[(0,.row 1 0 l.length c),(1,.v (.func (.func g) #[] lb)),(7,.v (i64 (l.length:Nat))),(8,.v (i64 (k:Nat)))],F,[(1,⟨some b,(l.flatMap Entry.row).map EV.v,122,cap⟩)],2⟩) (fun k=>l.length - k) 0 ⟨az _,rfl⟩ (VS.eH [0,1,7,8] rfl rfl) ?_;rintro k ⟨hk,hany⟩;by_cases hlt:k<l.length
 ·(refine run ?_;repeat intro b);refine gm rfl (by omega) ?_;(refine run ?_;repeat intro b);refine dI rfl rfl rfl ⟨by omega,by omega,⟨_,_,rfl,rfl⟩⟩ ?_;refine lB (Entry.row l[k]) rfl rfl rfl rfl rfl (by rw[ae];show 0+k * 2+2≤_;rw[ab,dL eI];omega) (by rw[ae];exact kQ eI hlt) ?_;(refine run ?_;repeat intro b);refine dG _ rfl rfl (by rw[fB];rfl) hbd rfl (hp l[k] (aj hlt)) ?_;(refine run ?_;repeat intro b);refine ez _ rfl (fun h2=>?_) (fun h2=>?_)
  ·(refine run ?_;repeat intro b);rw[lg hlt hany h2];exact⟨rfl,rfl,rfl,rfl⟩
  (refine run ?_;repeat intro b);rw[dQ (by omega)];refine fj (k+1) ⟨hlt,?_⟩ (by omega) (VS.eH [0,1,7,8] rfl rfl);rw[al hlt,bI,hany];simp[h2]
 have hge:k=l.length:=by omega
 subst hge;rw[aD]at hany;(refine run ?_;repeat intro b);refine gu rfl (by omega) ?_;(refine run ?_;repeat intro b);rw[lv hany];exact⟨rfl,rfl,rfl,rfl⟩
theorem Ns (q:Entry→Bool)(g:Nat)(lb:Array Value)(hbd:dH Tryz.prog g)(l:List Entry){b cap c:Nat}{F:Hp}(hc:l.length≤c)(hl:l.length≤4611686018427387904)(hp: ∀x∈l,Plain Tryz.prog F g (.agg (Entry.row x).toArray::lb.toList) (.bool (q x))):
  eR Tryz.prog F [(1,⟨some b,(l.flatMap Entry.row).map EV.v,122,cap⟩)] 2 217 [.row 1 0 l.length c,.v (.func (.func g) #[] lb)] (fun e F' rs' nx'=>e= .row 1 0 (l.filter fun x=> !q x).length c∧F=F'∧nx'=2∧ ∃cs,rs'=[(1,⟨some b,((l.filter fun x=> !q x).flatMap Entry.row++cs).map EV.v,122,cap⟩)]):=by
 refine iQ (N:=42) (rv:=[.tmp 4]) eP mixed Tryz.func217 rfl rfl rfl rfl rfl ?_;(refine run ?_;repeat intro b);refine om rfl rfl rfl Ni rfl (GH q g lb hbd l hl hp) ?_;rintro _ _ _ _ _ _ ⟨rfl,rfl,rfl,rfl⟩;cases hany:l.any q with
 | false=>
  have hfl:(l.filter fun x=> !q x)=l:=by
   rw[List.filter_eq_self];intro x hx;rw[bJ]at hany;simpa using hany x hx
  rw[lv hany,hfl];(refine run ?_;repeat intro b);exact⟨rfl,rfl,rfl,[],by rw[bT]⟩
 | true=>
  have hx:ov q l=((l.findIdx q:Nat):Int):=by unfold ov;rw[aZ hany]
  have hi0:l.findIdx q<l.length:=List.findIdx_lt_length_of_exists (by simpa using hany);have hi1:((l.take (l.findIdx q+1)).filter fun x=> !q x)=l.take (l.findIdx q):=by
   rw[al hi0,List.filter_append];have h2:q l[l.findIdx q]=true:=List.findIdx_getElem;have h3:((l.take (l.findIdx q)).filter fun x=> !q x)=l.take (l.findIdx q):=by
    rw[List.filter_eq_self];intro x hx;obtain⟨j,hj,rfl⟩:=cE hx;rw[aw]at hj;rw[List.getElem_take];have:=List.not_of_lt_findIdx (p:=q) (xs:=l) (i:=j) (by omega);simpa using this
   rw[h3];simp[h2]
  rw[hx];generalize l.findIdx q=i0 at hi0 hi1;(refine run ?_;repeat intro b);rw[dQ (by omega)];refine eU (fun s:List Entry×Nat×Nat=>s.1.length=l.length∧s.2.1<s.2.2∧s.2.2≤l.length∧s.1.take s.2.1=((l.take s.2.2).filter fun x=> !q x)∧s.1.drop s.2.2=l.drop s.2.2) (fun s=>⟨[(0,.row 1 0 l.length c),(1,.v (.func (.func g) #[] lb)),(5,.v (i64 (s.2.1:Nat))),(6,.v (i64 (s.2.2:Nat)))],F,[(1,⟨some b,(s.1.flatMap Entry.row).map EV.v,122,cap⟩)],2⟩) (fun s=>l.length - s.2.2) (l,i0,i0+1) ⟨rfl,dm _,hi0,hi1.symm,rfl⟩ (VS.eH [0,1,5,6] rfl rfl) ?_;rintro⟨m,i,j⟩ ⟨hm,hij,hj,ht,Rv⟩;dsimp only at hm hij hj ht Rv ⊢;by_cases hlt:j<l.length
  ·have SR:j<m.length:=by omega
   have hmj:m[j]=l[j]:=by
    have h1:=aO SR;have h2:=aO hlt;rw[Rv,h2]at h1;exact (List.cons.inj h1).1.symm
   have WJ:m.drop (j+1)=l.drop (j+1):=by
    have h1:=aO SR;have h2:=aO hlt;rw[Rv,h2]at h1;exact (List.cons.inj h1).2.symm
   have hpx:=hp l[j] (aj hlt);have htk:=al hlt;have hat:(((m.flatMap Entry.row).map EV.v).take (0+j * 2+2)).drop (0+j * 2)=(Entry.row l[j]).map EV.v:=by rw[←hmj];exact kQ eI SR
   generalize l[j]=x at hpx htk hat;have hrl: ∀(m':List Entry),MZ 2 [(1,(⟨some b,(m'.flatMap Entry.row).map EV.v,122,cap⟩:kj))]:=fun m'=>⟨⟨by decide,fun e he=>by obtain⟨v,_,rfl⟩:=aG.1 he;trivial⟩,trivial⟩;(refine run ?_;repeat intro b);refine gm rfl (by omega) ?_;(refine run ?_;repeat intro b);refine dI rfl rfl rfl ⟨by omega,by omega,⟨_,_,rfl,rfl⟩⟩ ?_;refine lB (Entry.row x) rfl rfl rfl rfl rfl (by rw[ae];show 0+j * 2+2≤_;rw[ab,dL eI];omega) (by rw[ae];exact hat) ?_;(refine run ?_;repeat intro b);refine dG _ rfl rfl (by rw[fB];rfl) hbd rfl hpx ?_;(refine run ?_;repeat intro b);refine ez (!q x) rfl (fun h2=>?_) (fun h2=>?_)
   ·have hti:(m.set i x).take (i+1)=m.take i++[x]:=by
     rw[al (by rw[cJ];omega),List.getElem_set_self,List.take_set_of_le (ah _)]
    (refine run ?_;repeat intro b);refine dI rfl rfl rfl ⟨by omega,by omega,⟨_,_,rfl,rfl⟩⟩ ?_;refine iP (((m.set i x).flatMap Entry.row).map EV.v) rfl rfl rfl rfl rfl rfl (by rw[ae];show 0+i * 2+2≤_;rw[ab,dL eI];omega) (by rw[ae];exact mj eI (by omega)) rfl ?_;(refine run ?_;repeat intro b);rw[dQ (by omega),dQ (by omega)];exact iH (m.set i x,i+1,j+1) [2] [0,1,5,6] ⟨by simp only[cJ];exact hm,by simp only;omega,hlt,by simp only;rw[hti,ht,htk,List.filter_append];simp[h2],by simp only;rw[List.drop_set_of_lt (by omega),WJ]⟩ (by simp only;omega) rfl rfl rfl rfl (hrl _) rfl
   (refine run ?_;repeat intro b);rw[dQ (by omega)];exact iH (m,i,j+1) [2] [0,1,5,6] ⟨hm,by simp only;omega,hlt,by simp only;rw[ht,htk,List.filter_append];simp[h2],WJ⟩ (by simp only;omega) rfl rfl rfl rfl (hrl _) rfl
  have hge:j=l.length:=by omega
  subst hge;rw[aD]at ht;have hil:(l.filter fun x=> !q x).length=i:=by rw[←ht,aw];omega
  have hso:gR 0 i c 2=i * 2:=by unfold gR;rw[aY (by omega),aP]
  have Oe:=dL eI m;have hcl: ∀vs:List Value,((m.flatMap Entry.row).map EV.v).take (gR 0 i c 2)++vs.map EV.v++((m.flatMap Entry.row).map EV.v).drop (gR 0 i c 2+(l.length - i) * 2)=((l.filter fun x=> !q x).flatMap Entry.row++vs).map EV.v:=fun vs=>by
   rw[hso,bW (by rw[ab,Oe,hm,←dc];exact dq _ (by omega)),bT,aF,←ht,pd eI,cN]
  rw[hil];(refine run ?_;repeat intro b);refine gu rfl (by omega) ?_;(refine run ?_;repeat intro b);refine dI rfl rfl rfl ⟨by omega,by omega,by omega⟩ ?_;refine O9 eP rfl rfl rfl rfl rfl (fun vs=>[(1,(⟨some b,((l.filter fun x=> !q x).flatMap Entry.row++vs).map EV.v,122,cap⟩:kj))]) (fun vs=>a8 (fun cs=>some [(1,(⟨some b,cs,122,cap⟩:kj))]) (hcl vs)) (by rw[ae];show gR 0 i c 2+(l.length - i) * 2≤_;rw[hso,ab,Oe,hm,←dc];exact dq _ (by omega)) (fun vs hvs=>?_);(refine run ?_;repeat intro b);refine dI rfl rfl rfl ⟨by omega,by omega⟩ ?_;rw[ae];(refine run ?_;repeat intro b);exact⟨rfl,rfl,rfl,vs,rfl⟩
theorem GX (g:Nat)(lb:Array Value){p:Option Addr}{c:Nat}{F:Hp}(hb:dH Tryz.prog g):Plain Tryz.prog F 217 [.slice p 0 c,.func (.func g) #[] lb] (.slice p 0 c):=by
 have h0:=Du (fun _=>false) g lb hb [] (p:=p) (c:=c) (F:=F) (eG _ _) (by decide) (by simp);refine dN (N:=42) (rv:=[.tmp 4]) eP mixed Tryz.func217 rfl rfl rfl rfl rfl ?_;(refine run ?_;repeat intro b);refine dG _ rfl rfl (by rw[fB];rfl) Ni rfl h0 ?_;(refine run ?_;repeat intro b);rfl
theorem xY (l:List Entry)(s:List UInt8)(hl:l.length≤24)(hw: ∀x∈l,x.wf){p:Option Addr}{c:Nat}{F:Hp}(hf:eY F p (l.flatMap Entry.row)):
  iu Tryz.prog F 149 [.slice p l.length c,S s] (fun x F'=>∃p' c',x= .slice p' (lp l s).length c'∧eY F' p' ((lp l s).flatMap Entry.row)):=by
 refine fU (N:=9) (rv:=[.tmp 4]) eP mixed Tryz.func149 rfl rfl rfl rfl rfl ?_;(refine run ?_;repeat intro b);refine fT (VS.freeze 0 [3,5] rfl rfl rfl rfl fun F1 hs1 hf1=>VS.id ?_);have hp1:gb F1 (some ⟨b,0,none⟩)=some (S s):=hf1 0 _ rfl;have hg:=dZ hs1 hf;refine nA (R:=fun _ cs=>cs=l.flatMap Entry.row) (fun x F' new h=>⟨_,h,rfl⟩) rfl rfl rfl EF rfl (JX (l.flatMap Entry.row) l.length (dL eI _) hg (iK l) (by omega)) (fun hk0 F9 p1 cs hF9 _=>?_) (fun hk1 F9 b9 c9 cs hF9 hc9 hcs=>?_)
 ·have hl0:l=[]:=aq hk0;subst hl0;(refine run ?_;repeat intro b);refine dG _ rfl rfl rfl Ql rfl (GX _ #[_] QZ) ?_;(refine run ?_;repeat intro b);have e0:lp [] s=[]:=Nt s;rw[e0];exact eM (VS.id ⟨_,rfl,rfl,p1,0,rfl,eG _ _⟩)
 subst hcs;(refine run ?_;repeat intro b);refine om rfl rfl rfl Ql rfl (Ns (fun x=> !s.isPrefixOf (jS x.name)) _ #[_] QZ l hc9 (by omega) (fun x hx=>Ky x s (hw x hx) (iS hF9 hp1))) ?_;rintro _ _ _ _ _ _ ⟨rfl,rfl,rfl,cs2,rfl⟩;rw[GV];(refine run ?_;repeat intro b);refine eM (VS.freeze 1 [4] rfl (eD _) rfl rfl fun F10 aau YX=>VS.id ⟨_,rfl,rfl,_,_,rfl,?_⟩);have:=sd YX ((lp l s).flatMap Entry.row).length
 rwa [List.take_left]at this
theorem we (n:Nat)(ih: ∀m,n=m+1→∀(l:List Entry) (s:List UInt8),s.length+m=16→l.length≤24→(∀x∈l,x.wf)→∀{p:Option Addr} {c:Nat} {F:Hp},eY F p (l.flatMap Entry.row)→Plain Tryz.prog F 148 [.slice p l.length c,S s] (mu (Bh m l s)))
  (l:List Entry) (s:List UInt8) (h16:s.length+n=16) (hl:l.length≤24) (hw: ∀x∈l,x.wf) {p:Option Addr} {c:Nat} {F:Hp} (hf:eY F p (l.flatMap Entry.row)):Plain Tryz.prog F 148 [.slice p l.length c,S s] (mu (Bh n l s)):=by
 refine dN (N:=50) (rv:=[.tmp 4]) eP mixed Tryz.func148 rfl rfl rfl rfl rfl ?_;(refine run ?_;repeat intro b);refine ez (decide (l.length=0∨s.length=16)) ?_ (fun h=>?_) (fun h=>?_)
 ·refine dS ?_;rw[fu,fX,ai];simp only[bD,beq_iff_eq,av];omega
 ·rw[PS h16 (ar h)];(refine run ?_;repeat intro b);refine dG _ rfl rfl rfl Ny rfl (rl l hl hw hf) ?_;refine dG _ rfl rfl rfl C9 rfl (lr (jt l) (vx hl) F) ?_;(refine run ?_;repeat intro b);rfl
 have h:=au h;obtain⟨m,rfl⟩: ∃m,n=m+1:=⟨n - 1,by omega⟩;rw[Mz (by intro e;subst e;exact h (.inl rfl))];have hz:(s++[48]).length+m=16:=by rw[ag];simp;omega
 have ho:(s++[49]).length+m=16:=by rw[ag];simp;omega
 have lz:=zn l (s++[48]);have lo:=zn l (s++[49]);(refine run ?_;repeat intro b);refine dI rfl rfl rfl (by show s.length+1≤9223372036854775807;omega) ?_;(refine run ?_;repeat intro b);refine dI rfl rfl rfl (by show s.length+1≤9223372036854775807;omega) ?_;(refine run ?_;repeat intro b);refine fi rfl rfl rfl Mx rfl (xY l (s++[48]) hl hw hf) ?_;rintro _ F1 hF1 ⟨p1,c1,rfl,hf1⟩;(refine run ?_;repeat intro b);refine dG _ rfl rfl rfl L9 rfl (ih m rfl (lp l (s++[48])) (s++[48]) hz (by omega) (fun x hx=>hw x (xW hx)) hf1) ?_;(refine run ?_;repeat intro b);refine fi rfl rfl rfl Mx rfl (xY l (s++[49]) hl hw (dZ hF1 hf)) ?_;rintro _ F2 hF2 ⟨p2,c2,rfl,hf2⟩;(refine run ?_;repeat intro b);refine dG _ rfl rfl rfl L9 rfl (ih m rfl (lp l (s++[49])) (s++[49]) ho (by omega) (fun x hx=>hw x (xW hx)) hf2) ?_;have ha:=MO m (lp l (s++[48])) (s++[48]);have hb:=MO m (lp l (s++[49])) (s++[49]);generalize Bh m (lp l (s++[48])) (s++[48])=a at ha;generalize Bh m (lp l (s++[49])) (s++[49])=b2 at hb;(refine run ?_;repeat intro b);refine dG _ rfl rfl rfl Ny rfl (rl [] (by decide) (fun _ h=>by cases h) (eG F2 none)) ?_;refine dG _ rfl rfl rfl C9 rfl (lr (jt []) (vx (by decide)) F2) ?_;rw[EE,←LD];(refine run ?_;repeat intro b);refine ez (decide (a=jX∧b2=jX)) ?_ (fun h=>?_) (fun h=>?_)
 ·refine dS ?_;rw[fH,ai];simp;omega
 ·rw[aZ (ar h)];(refine run ?_;repeat intro b);rfl
 rw[aY (au h)];(refine run ?_;repeat intro b);refine dG _ rfl rfl rfl Tg rfl (Gz 2 a b2 (by decide) ha hb F2) ?_;(refine run ?_;repeat intro b);rfl
theorem Ke (n:Nat): ∀(l:List Entry) (s:List UInt8),s.length+n=16→l.length≤24→(∀x∈l,x.wf)→∀{p:Option Addr} {c:Nat} {F:Hp},eY F p (l.flatMap Entry.row)→Plain Tryz.prog F 148 [.slice p l.length c,S s] (mu (Bh n l s)):=by
 induction n with
 | zero=>exact we 0 (fun m h=>by omega)
 | succ n ih=>exact we (n+1) (fun m h=>by
   obtain rfl:n=m:=by omega
   exact ih)
end
end Go.Proofs.YthbnddgjkonkdaaGreatDoor
