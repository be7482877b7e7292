/- A part of the proof. -/
import Derived.Test.YthbnddgjkonkdaaGreatDoorSetClerkTick
import Derived.Test.YthbnddgjkonkdaaGreatDoorSetProofSay
import Derived.Test.YthbnddgjkonkdaaGreatDoorSetChain3
set_option linter.unusedVariables false
set_option linter.unusedSimpArgs false
namespace Go.Proofs.YthbnddgjkonkdaaGreatDoor
section
open Go.TR
theorem oc {F:Hp}{b:Nat}{o:Obj}{p:Option Addr}{v:Value}(h:gi F p=some v)(hb: ∀cur e r,F b≠some (.cells cur e r)):gi (F.plus b o) p=some v:=by
 cases p with
 | none=>cases h
 | some a=>
  simp only[gi,Option.bind_some]at h ⊢;unfold jz at h ⊢;have hne:a.block≠b:=by
   rintro rfl;cases hF:F a.block with
   | none=>rw[hF]at h;cases h
   | some x=>
    cases x with
    | cells cur e r=>exact hb _ _ _ hF
    | _=>rw[hF]at h;cases h
  show (match (if a.block=b then some o else F a.block) with | some (.cells c _ _)=>if a.spot.isSome then none else c[a.off]? | _=>none)=some v;rw[aY hne];exact h
theorem kN (F:Hp)(b:Nat)(o:Obj):F.plus b o b=some o:=aZ rfl
theorem iF {F:Hp}{b k:Nat}{o:Obj}(h:k≠b):F.plus b o k=F k:=aY h
theorem EY {F:Hp}{b:Nat}{o:Obj}(h:F b=none):F.sub (F.plus b o):=fun k x hk=>by
 rw[iF (by rintro rfl;rw[h]at hk;cases hk)];exact hk
theorem qy:Tryz.prog.underlying 231=some (.map 9 33):=by kernel_rfl
theorem uu:Tryz.prog.underlying 282=some (.map 9 42):=by kernel_rfl
theorem nB:Tryz.prog.underlying 9=some .string:=by kernel_rfl
theorem rN (w:World):(zeroValue 33).run Tryz.prog w= .ok (mu 0) w:=by
 have h:Tryz.prog.info? 33=some Tryz.t33:=by kernel_rfl
 simp[zeroValue,typeInfo,h,Tryz.t33]
theorem KY (w:World):(zeroValue 42).run Tryz.prog w= .ok (.slice none 0 0) w:=by
 have h:Tryz.prog.info? 42=some Tryz.t42:=by kernel_rfl
 simp[zeroValue,typeInfo,h,Tryz.t42]
structure K7 (l:List Entry) (b0 b1 b7 b8:Nat) (es:Array MapEntry) (clock:Nat) (m:List UInt8→Option Value) (es1:Array MapEntry) (c1:Nat) (f:List UInt8→Bool) (G:Hp):Prop where
 g0:G b0=some (.map es clock)
 g1:G b1=some (.map es1 c1)
 p7:gi G (some ⟨b7,0,none⟩)=some (mu ka)
 p8:gi G (some ⟨b8,0,none⟩)=some (.map (some b1))
 gr:rJ 122 G b0 l m
 mp:iJ es1 c1 (kJ l f)
theorem K7.plus {l:List Entry}{b0 b1 b7 b8:Nat}{es:Array MapEntry}{clock:Nat}{m:List UInt8→Option Value}{es1:Array MapEntry}{c1:Nat}{f:List UInt8→Bool}{G:Hp}(h:K7 l b0 b1 b7 b8 es clock m es1 c1 f G){k:Nat}{o:Obj}(h0:k≠b0)(h1:k≠b1)(hk: ∀cur e r,G k≠some (.cells cur e r)):K7 l b0 b1 b7 b8 es clock m es1 c1 f (G.plus k o):=
 ⟨by rw[iF (Ne.symm h0)];exact h.g0,by rw[iF (Ne.symm h1)];exact h.g1,oc h.p7 hk,oc h.p8 hk,h.gr.Ck fun b cur _ hb=>by rw[iF (by rintro rfl;exact hk _ _ _ hb)];exact hb,h.mp⟩
theorem K7.Zr {l:List Entry}{b0 b1 b7 b8:Nat}{es:Array MapEntry}{clock:Nat}{m:List UInt8→Option Value}{es1:Array MapEntry}{c1:Nat}{f:List UInt8→Bool}{G:Hp}(h:K7 l b0 b1 b7 b8 es clock m es1 c1 f G)(h01:b0<b1){es2:Array MapEntry}{c2:Nat}{f2:List UInt8→Bool}(hM:iJ es2 c2 (kJ l f2)):K7 l b0 b1 b7 b8 es clock m es2 c2 f2 (G.plus b1 (.map es2 c2)):=by
 have hk: ∀cur e r,G b1≠some (.cells cur e r):=fun cur e r hb=>by rw[h.g1]at hb;cases hb
 exact⟨by rw[iF (by omega)];exact h.g0,kN ..,oc h.p7 hk,oc h.p8 hk,h.gr.Ck fun b cur _ hb=>by rw[iF (by rintro rfl;exact hk _ _ _ hb)];exact hb,hM⟩
structure I9 (l:List Entry) (b0:Nat) (es:Array MapEntry) (clock it:Nat) (dn:List (List UInt8)) (oi:Obj) (G:Hp):Prop where
 SZ:G it=some oi
 S0:Av oi b0 es clock dn
 nd:dn.Nodup
 ks: ∀s∈dn,iY l s≠[]
theorem I9.cells {l:List Entry}{b0:Nat}{es:Array MapEntry}{clock it:Nat}{dn:List (List UInt8)}{oi:Obj}{G:Hp}(h:I9 l b0 es clock it dn oi G): ∀cur e r,G it≠some (.cells cur e r):=fun cur e r hb=>by
 obtain⟨_,_,_,rfl,_⟩:=h.S0;rw[h.SZ]at hb;cases hb
theorem I9.Zv {l:List Entry}{b0:Nat}{es:Array MapEntry}{clock it:Nat}{dn:List (List UInt8)}{oi o':Obj}{G:Hp}(h:I9 l b0 es clock it dn oi G){s:List UInt8}(hs:s ∉ dn)(hk:iY l s≠[])(hI:Av o' b0 es clock (s::dn)):I9 l b0 es clock it (s::dn) o' (G.plus it o'):=
 ⟨kN ..,hI,c8.2 ⟨hs,h.nd⟩,fun t ht=>by
  rcases aT.1 ht with rfl | ht
  ·exact hk
  exact h.ks t ht⟩
theorem I9.other {l:List Entry}{b0:Nat}{es:Array MapEntry}{clock it:Nat}{dn:List (List UInt8)}{oi:Obj}{G:Hp}(h:I9 l b0 es clock it dn oi G){k:Nat}{o:Obj}(hk:it≠k):I9 l b0 es clock it dn oi (G.plus k o):=⟨by rw[iF hk];exact h.SZ,h.S0,h.nd,h.ks⟩
theorem I9.new {l:List Entry}{b0:Nat}{es:Array MapEntry}{clock it:Nat}{oi:Obj}{G:Hp}(hI:Av oi b0 es clock []):I9 l b0 es clock it [] oi (G.plus it oi):=⟨kN ..,hI,List.nodup_nil,fun _ h=>by cases h⟩
theorem H4 (l:List Entry)(s:List UInt8):gN l s<18446744073709551616:=by
 have h: ∀n s,lvl l n s<MM:=fun n s=>by cases n<;>exact ln _
 have:=h (16 - s.length) s;unfold gN;have:MM=2305843009213693951:=rfl;omega
def WZ (l:List Entry):Nat→List UInt8→Bool
 | 0=>begun l
 | d+1=>jd l d []
theorem PG {l:List Entry}{d:Nat}{dn:List (List UInt8)}(h: ∀x∈l,eC x.name∈dn):jd l d dn=WZ l d:=by
 funext s;cases d with
 | zero=>exact Hi h s
 | succ d=>exact HS h s
theorem vu {l:List Entry}{s:List UInt8}{dn:List (List UInt8)}(hn:dn.Nodup)(hk: ∀t∈dn,iY l t≠[])(hs:s ∉ dn)(hg:iY l s≠[]):l.length - (s::dn).length<l.length - dn.length:=by
 have:=OO (c8.2 ⟨hs,hn⟩) (fun t ht=>by
  rcases aT.1 ht with rfl | ht
  ·exact hg
  exact hk t ht)
 rw[aH]at this ⊢;omega
theorem vt {l:List Entry}(h:l.length≤24):(ju l).length≤4611686018427387904:=by
 unfold ju;split
 ·decide
 have:=pE l;rw[aH];omega
theorem nz (F:Hp):Plain Tryz.prog F 67 [S [0]] (u64 (ka:Nat)):=jX [0] (by decide) F
attribute [local irreducible] vc dW gz fg fD gF gJ gB fJ Plain eD eX dK VS fv fA fG jt fh IntKind.wrap
theorem pM {l:List Entry}{f:List UInt8→Bool}{q:List UInt8}(h:f q=true):kJ l f q=some (mu (gN l q)):=aZ h
theorem tK {l:List Entry}{f:List UInt8→Bool}{q:List UInt8}(h:f q=false):kJ l f q=none:=aY (by rw[h];decide)
theorem zu (l:List Entry)(f:List UInt8→Bool)(q:List UInt8)(hq:f q=begun l q){F:Hp}{p8 p7:Option Addr}{b0:Nat}{es:Array MapEntry}{clock:Nat}(h8:gi F p8=some (.map (some b0)))(h7:gi F p7=some (mu ka))(hF:F b0=some (.map es clock))(hM:iJ es clock (kJ l f)):
  Plain Tryz.prog F 189 [S q,.pointer p8,.pointer p7] (mu (gN l q)):=by
 refine dQ (N:=16) (rv:=[.tmp 4]) eW mixed Tryz.func189 rfl rfl rfl rfl rfl ?_;(refine run ?_;repeat intro b);refine fw (.map (some b0)) rfl rfl rfl rfl h8 ?_;(refine run ?_;repeat intro b);refine py (kJ l f) q qy nB rfl rfl rN rfl hF hM ?_;rw[aZ rfl];cases hb:f q with
 | true=>
  rw[pM hb];(refine run ?_;repeat intro b);rfl
 | false=>
  rw[tK hb,pK (by rw[←hq];exact hb)];(refine run ?_;repeat intro b);refine fw (mu ka) rfl rfl rfl rfl h7 ?_;(refine run ?_;repeat intro b);rfl
attribute [local irreducible] eC gj ju ld gN kJ begun iY oz ka Hp.plus
set_option maxRecDepth 100000
set_option maxHeartbeats 4000000
theorem A2 (l:List Entry)(hl:l.length≤24)(hw: ∀x∈l,x.wf){p:Option Addr}{c:Nat}{F:Hp}(hf:e9 F p (l.flatMap Entry.row)):
  iy Tryz.prog F 138 [.slice p l.length c] (fun x F'=>∃b es clock,x= .map (some b)∧F' b=some (.map es clock)∧iJ es clock (kJ l (begun l))):=by
 refine fW (N:=85) (rv:=[.tmp 2]) eW mixed Tryz.func138 rfl rfl rfl rfl rfl ?_;(refine run ?_;repeat intro b);refine A1 rfl (fun b0 hb0=>?_);(refine run ?_;repeat intro b);refine eY (fun q:Nat×Array MapEntry×Nat×Hp=>q.1≤l.length∧F.sub q.2.2.2∧q.2.2.2 b0=some (.map q.2.1 q.2.2.1)∧ ∃m,iJ q.2.1 q.2.2.1 m∧rJ 122 q.2.2.2 b0 (l.take q.1) m∧ ∀s b n c,m s=some (.slice (some ⟨b,0,none⟩) n c)→F b=none)
  (fun q=>⟨[(3,.v (.map (some b0))),(18,.v (.slice p l.length c)),(19,.v (i64 (l.length:Nat))),(20,.v (i64 (q.1:Nat)))],q.2.2.2,[(0,Go.TR.mark b0)],1⟩) (fun q=>l.length - q.1) (0,#[],0,F.plus b0 (.map #[] 0))
  ⟨az _,EY hb0,kN ..,_,iJ.empty,by rw[df];exact rJ.empty _ _ _,fun _ _ _ _ h=>by cases h⟩ (VS.eL [3,18,19,20] rfl rfl) ?_
 rintro⟨k,es,clock,G⟩ ⟨hk,hs,hG,m,hM,hL,hY⟩;dsimp only at hk hs hG hM hL hY ⊢;by_cases hlt:k<l.length
 ·have hf0:=eu hs hf;obtain⟨o1,o2⟩:=fa eM (by decide) hf0 k hlt;have ht:l.take (k+1)=l.take k++[l[k]]:=al hlt;have hxw:=hw l[k] (aj hlt);have hgl:=uk (l.take k) (eC l[k].name);rw[aw]at hgl;generalize l[k]=x at o2 ht hxw hgl;(refine run ?_;repeat intro b);refine gw rfl (by omega) ?_;(refine run ?_;repeat intro b);refine dL rfl rfl rfl ⟨by omega,by omega,dR hf0 (j:=k * 2) (by rw[dO eM];omega)⟩ ?_;refine fB x.row rfl rfl rfl rfl rfl (by rw[ae];exact o1) (by rw[ae];exact o2) ?_;(refine run ?_;repeat intro b);refine dJ _ rfl rfl rfl wq rfl (lq x.name hxw.1 G) ?_;(refine run ?_;repeat intro b);obtain⟨p1,c1,e1,e2,e3⟩:=hL.find (eC x.name);refine py m (eC x.name) uu nB rfl rfl KY rfl hG hM ?_;rw[aY Bool.false_ne_true,e1];(refine run ?_;repeat intro b);have aav:(iY (l.take k) (eC x.name)).length≤24:=by omega
  refine Rq (vs:=x.row) (m:=1) (id:=0) eW rfl rfl rfl rfl rfl rfl (ff rfl rfl) (gC _ fun y hy=>iN [x] y (by simpa using hy)) (by decide) rfl (by show _ * 32≤_;omega) rfl (mZ b0) hG e2 (fun b hb=>Nat.le_of_lt (e3 b hb).1) (fun b2 c2 o2' hb2 hs2=>?_);have h02:b0<b2:=by
   rcases hb2 with hb2 | hb2
   ·exact (e3 b2 hb2).1
   exact hb2.2
  have hF2:F b2=none:=by
   rcases hb2 with hb2 | hb2
   ·obtain⟨_,n',c',h⟩:=e3 b2 hb2;exact hY _ _ _ _ h
   cases hF:F b2 with
   | none=>rfl
   | some o=>
    have:=hs _ _ hF;rw[hb2.1]at this;cases this
  refine mf (id:=0) m (eC x.name) uu nB rfl rfl rfl rfl (mZ b0) (ah _) (by rw[iF (by omega)];exact hG) hM (fun es2 clock2 hM2=>?_);(refine run ?_;repeat intro b);rw[dT (by omega)];exact fH (k+1,es2,clock2,(G.plus b2 o2').plus b0 (.map es2 clock2)) 1 [(0,0)] [3,18,19,20] [(0,Go.TR.mark b0)]
   ⟨hlt,fun j o hj=>by show ((G.plus b2 o2').plus b0 _) j=some o;rw[iF (by rintro rfl;rw[hb0]at hj;cases hj),iF (by rintro rfl;rw[hF2]at hj;cases hj)];exact hs j o hj,kN ..,_,hM2,by rw[ht];exact hL.step x e3 hb2 hs2,fun s b n c hm=>by
    unfold oz at hm;split at hm
    ·cases hm;exact hF2
    exact hY _ _ _ _ hm⟩ (by simp only;omega) (aM _ _)
   (dX rfl trivial) rfl rfl rfl rfl rfl rfl rfl
 have hge:k=l.length:=by omega
 subst hge;rw[aD]at hL;(refine run ?_;repeat intro b);refine gy rfl (by omega) ?_;(refine run ?_;repeat intro b);refine dJ _ rfl rfl rfl vW rfl (nz G) ?_;(refine run ?_;repeat intro b);revert b;intro b7;refine fX (VS.freeze 1 [3,7] rfl rfl rfl rfl fun G1 hs1 hf1=>VS.id ?_);refine HB b0 rfl (hs1 _ _ hG) (fun b1 hb1 h01=>?_);(refine run ?_;repeat intro b);revert b;intro b8;refine fX (VS.freeze 2 [3,7,8,38] rfl rfl rfl rfl fun G2 hs2 hf2=>VS.id ?_);have hB:K7 l b0 b1 b7 b8 es clock m #[] 0 (pJ []) G2:=by
  have g1:(G1.plus b1 (.map #[] 0)) b1=some (.map #[] 0):=kN ..;refine⟨hs2 _ _ (by rw[iF (by omega)];exact hs1 _ _ hG),hs2 _ _ g1,?_,hf2 0 _ rfl,hL.Ck fun b cur hb hc=>hs2 _ _ ?_,by rw[Gz];exact iJ.empty⟩
  ·have h7:=oc (o:=.map #[] 0) (hf1 0 _ rfl) (b:=b1) (fun cur e r h=>by rw[hb1]at h;cases h);have hc:e9 (G1.plus b1 (.map #[] 0)) (some ⟨b7,0,none⟩) [mu ka]:=fun j u hj=>by
    match j,hj with
    | 0,hj=>cases hj;exact h7
    | j+1,hj=>simp at hj
   exact eu hs2 hc 0 _ rfl
  have h1:=hs1 _ _ hc;rw[iF (by rintro rfl;rw[hb1]at h1;cases h1)];exact h1
 clear hs1 hf1 hs2 hf2 hb1 hs hG hL hY hf hb0;generalize hNX:(1+1+1:Nat)=NX;refine IL (b0:=b0) uu rfl rfl hB.g0 hB.g0 hM (fun it oi hit P6 hI=>?_);have FZ:it≠b1:=by rintro rfl;rw[hB.g1]at hit;cases hit
 have hB2:=hB.plus (k:=it) (o:=oi) (by omega) FZ (fun cur e r h=>by rw[hit]at h;cases h);(refine run ?_;repeat intro b);refine eY (fun q:List (List UInt8)×Obj×Array MapEntry×Nat×Hp=>K7 l b0 b1 b7 b8 es clock m q.2.2.1 q.2.2.2.1 (pJ q.1) q.2.2.2.2∧I9 l b0 es clock it q.1 q.2.1 q.2.2.2.2)
  (fun q=>⟨[(3,.v (.map (some b0))),(7,.v (.pointer (some ⟨b7,0,none⟩))),(8,.v (.pointer (some ⟨b8,0,none⟩))),(39,.v (.pointer (some ⟨it,0,none⟩)))],q.2.2.2.2,[(0,Go.TR.mark b0)],NX⟩) (fun q=>l.length - q.1.length) ([],oi,#[],0,G2.plus it oi) ⟨hB2,I9.new hI⟩ (VS.eL [3,7,8,39] rfl rfl) ?_
 clear hB2 hB hI;rintro⟨dn,oi1,es1,c1,G⟩ ⟨hB,hI⟩;dsimp only at hB hI ⊢;(refine run ?_;repeat intro b);refine Mj (id:=0) m rfl rfl hB.g0 hI.SZ hI.S0 hM rfl (mZ b0) (Nat.le_of_lt P6) (fun hall=>?_) (fun s v o' hv hs hI'=>?_)
 ·have hX:kJ l (pJ dn)=kJ l (jd l 15 []):=Ee (hB.gr.all hall) hI.ks;(refine run ?_;repeat intro b);have hB3:K7 l b0 b1 b7 b8 es clock m es1 c1 (WZ l 16) G:=by
   obtain⟨g0,g1,p7,p8,gr,mp⟩:=hB;rw[hX]at mp;exact⟨g0,g1,p7,p8,gr,mp⟩
  have hkeys:=hB.gr.all hall;clear hX hB hI hall hit P6 FZ;refine eY (fun q:Nat×Array MapEntry×Nat×Hp=>q.1≤16∧K7 l b0 b1 b7 b8 es clock m q.2.1 q.2.2.1 (WZ l q.1) q.2.2.2)
   (fun q=>⟨[(3,.v (.map (some b0))),(8,.v (.pointer (some ⟨b8,0,none⟩))),(11,.v (.func (.func 189) #[] #[.pointer (some ⟨b8,0,none⟩),.pointer (some ⟨b7,0,none⟩)])),(12,.v (.int .i64 ((q.1:Int) - 1)))],q.2.2.2,[(0,Go.TR.mark b0)],NX⟩) (fun q=>q.1) (16,es1,c1,G) ⟨ah _,hB3⟩ (VS.eL [3,8,11,12] rfl rfl) ?_
  clear hB3;rintro⟨d1,es1,c1,G⟩ ⟨Y1,hB⟩;dsimp only at Y1 hB ⊢;cases d1 with
  | zero=>
   (refine run ?_;repeat intro b);refine fw (.map (some b1)) rfl rfl rfl rfl hB.p8 ?_;(refine run ?_;repeat intro b);exact eU (VS.iB [0] rfl (VS.id ⟨_,rfl,rfl,b1,es1,c1,rfl,hB.g1,hB.mp⟩))
  | succ d=>
   have ed:((d+1:Nat):Int) - 1=(d:Int):=by omega
   rw[ed];(refine run ?_;repeat intro b);refine IL (b0:=b0) uu rfl rfl hB.g0 hB.g0 hM (fun it oi hit P6 hI=>?_);have FZ:it≠b1:=by rintro rfl;rw[hB.g1]at hit;cases hit
   have hB2:=hB.plus (k:=it) (o:=oi) (by omega) FZ (fun cur e r h=>by rw[hit]at h;cases h);(refine run ?_;repeat intro b);refine eY (fun q:List (List UInt8)×Obj×Array MapEntry×Nat×Hp=>K7 l b0 b1 b7 b8 es clock m q.2.2.1 q.2.2.2.1 (jd l d q.1) q.2.2.2.2∧I9 l b0 es clock it q.1 q.2.1 q.2.2.2.2)
    (fun q=>⟨[(3,.v (.map (some b0))),(8,.v (.pointer (some ⟨b8,0,none⟩))),(11,.v (.func (.func 189) #[] #[.pointer (some ⟨b8,0,none⟩),.pointer (some ⟨b7,0,none⟩)])),(12,.v (i64 (d:Nat))),(56,.v (.pointer (some ⟨it,0,none⟩)))],q.2.2.2.2,[(0,Go.TR.mark b0)],NX⟩) (fun q=>l.length - q.1.length) ([],oi,es1,c1,G.plus it oi) ⟨hB2,I9.new hI⟩ (VS.eL [3,8,11,12,56] rfl rfl) ?_
   clear hB2 hB hI;rintro⟨dn,oi1,es1,c1,G⟩ ⟨hB,hI⟩;dsimp only at hB hI ⊢;(refine run ?_;repeat intro b);refine Mj (id:=0) m rfl rfl hB.g0 hI.SZ hI.S0 hM rfl (mZ b0) (Nat.le_of_lt P6) (fun hall=>?_) (fun s v o' hv hs hI'=>?_)
   ·have hX:jd l d dn=WZ l d:=PG (hB.gr.all hall);rw[hX]at hB;(refine run ?_;repeat intro b);rw[wrap_i64 (by omega) (by omega)];exact fp (d,es1,c1,G) ⟨by omega,hB⟩ (dt d) (VS.eL [3,8,11,12] rfl rfl)
   have hg:=hB.gr.key hv;have hB':=hB.plus (k:=it) (o:=o') (by omega) FZ hI.cells;have hI2:=hI.Zv hs hg hI';have aaw:s.length=16:=by
    obtain⟨x,_,rfl⟩:=s7 hg;exact jN _
   have WN:(s.take d).length=d:=by rw[aw];omega
   (refine run ?_;repeat intro b);refine Io m rfl rfl hB'.g0 hI2.SZ hI2.S0 hM hv ?_;(refine run ?_;repeat intro b);refine dL rfl rfl rfl ⟨by omega,by rw[ga];omega⟩ ?_;rw[ae,ga];(refine run ?_;repeat intro b);refine fw (.map (some b1)) rfl rfl rfl rfl hB'.p8 ?_;(refine run ?_;repeat intro b);refine py (kJ l (jd l d dn)) (s.take d) qy nB rfl rfl rN rfl hB'.g1 hB'.mp ?_;rw[aZ rfl];cases hb:jd l d dn (s.take d) with
   | true=>
    have hY:kJ l (jd l d dn)=kJ l (jd l d (s::dn)):=Jo hg (by omega) (by rw[pM hb];rfl);have hB3:K7 l b0 b1 b7 b8 es clock m es1 c1 (jd l d (s::dn)) (G.plus it o'):=by
     obtain⟨g0,g1,p7,p8,gr,mp⟩:=hB';rw[hY]at mp;exact⟨g0,g1,p7,p8,gr,mp⟩
    rw[pM hb];(refine run ?_;repeat intro b);exact fp (s::dn,o',es1,c1,G.plus it o') ⟨hB3,hI2⟩ (vu hI.nd hI.ks hs hg) (VS.eL [3,8,11,12,56] rfl rfl)
   | false=>
    rw[tK hb];have h0:=zu l (jd l d dn) (s.take d++[48]) (wc (by rw[ag,WN];simp)) hB'.p8 hB'.p7 hB'.g1 hB'.mp;have h1:=zu l (jd l d dn) (s.take d++[49]) (wc (by rw[ag,WN];simp)) hB'.p8 hB'.p7 hB'.g1 hB'.mp;(refine run ?_;repeat intro b);refine jM 12 (by kernel_rfl) rfl rfl ?_;(refine run ?_;repeat intro b);refine fw (.map (some b1)) rfl rfl rfl rfl hB'.p8 ?_;(refine run ?_;repeat intro b);refine dL rfl rfl rfl (by show (s.take d).length+1≤9223372036854775807;omega) ?_;refine dJ _ rfl rfl rfl QH rfl h0 ?_;(refine run ?_;repeat intro b);refine dL rfl rfl rfl (by show (s.take d).length+1≤9223372036854775807;omega) ?_;refine dJ _ rfl rfl rfl QH rfl h1 ?_;refine dJ _ rfl rfl rfl Mw rfl (rO _ _ (H4 _ _) (H4 _ _) _) ?_;refine dJ _ rfl rfl rfl vW rfl (jX _ (by have:=se (gN l (s.take d++[48])) (gN l (s.take d++[49]));omega) _) ?_;rw[←JX (l:=l) (s:=s.take d) (by omega)];(refine run ?_;repeat intro b);refine mf (id:=0) (kJ l (jd l d dn)) (s.take d) qy nB rfl rfl rfl rfl (mZ b0) (Nat.le_of_lt h01) hB'.g1 hB'.mp (fun es2 c2 hM2=>?_);rw[Jl hg (by omega)]at hM2;(refine run ?_;repeat intro b);exact fp (s::dn,o',es2,c2,(G.plus it o').plus b1 (.map es2 c2)) ⟨hB'.Zr h01 hM2,hI2.other FZ⟩ (vu hI.nd hI.ks hs hg) (VS.eL [3,8,11,12,56] rfl rfl)
 have hg:=hB.gr.key hv;obtain⟨b,n,c,e1,e2,e3⟩:=hB.gr.any s hg;obtain rfl:v= .slice (some ⟨b,0,none⟩) n c:=dB (hv.symm.trans e1);have hB':=hB.plus (k:=it) (o:=o') (by omega) FZ hI.cells;have hI2:=hI.Zv hs hg hI';have hlen:n=(iY l s).length:=by
  have:=e2.1;rw[dO eM]at this;omega
 subst hlen;have hgl:=uk l s;obtain⟨b',n',c',e1',e2',_⟩:=hB'.gr.any s hg;rw[e1]at e1';cases e1';(refine run ?_;repeat intro b);refine Io m rfl rfl hB'.g0 hI2.SZ hI2.S0 hM e1 ?_;(refine run ?_;repeat intro b);refine jM 5 (by kernel_rfl) rfl rfl ?_;(refine run ?_;repeat intro b);refine fw (.map (some b1)) rfl rfl rfl rfl hB'.p8 ?_;(refine run ?_;repeat intro b);refine dJ _ rfl rfl rfl QM rfl (wB (iY l s) (by omega) (fun x hx=>hw x (Je hx)) e2'.kv) ?_;refine dJ _ rfl rfl rfl vW rfl (jX (ju (iY l s)) (vt (by omega)) _) ?_;(refine run ?_;repeat intro b);refine mf (id:=0) (kJ l (pJ dn)) s qy nB rfl rfl rfl rfl (mZ b0) (Nat.le_of_lt h01) hB'.g1 hB'.mp (fun es2 c2 hM2=>?_);rw[JM hg]at hM2;(refine run ?_;repeat intro b);exact fp (s::dn,o',es2,c2,(G.plus it o').plus b1 (.map es2 c2)) ⟨hB'.Zr h01 hM2,hI2.other FZ⟩ (vu hI.nd hI.ks hs hg) (VS.eL [3,7,8,39] rfl rfl)
end
section
open Go.TR
theorem kT {α:Type}{f:α→List Value}{k:Nat}(hk: ∀a,(f a).length=k){l:List α}{j:Nat}(h:j<l.length):(((l.flatMap f).map EV.v).take (0+j * k+k)).drop (0+j * k)=(f l[j]).map EV.v:=by
 rw[aP,←cQ,←cN];congr 1;have e1:l=l.take j++l[j]::l.drop (j+1):=by rw[←aO h,List.take_append_drop]
 have e2:l.flatMap f=(l.take j).flatMap f++(f l[j]++(l.drop (j+1)).flatMap f):=by
  rw[←cu,←cr,←e1]
 have e3:((l.take j).flatMap f).length=j * k:=by rw[dO hk,aw,Nat.min_eq_left (by omega)]
 rw[e2,List.drop_take,List.drop_append,e3,Nat.sub_self,cd (by omega),c7,cj,dh,List.take_append,hk,Nat.sub_self,df,bV,an (by rw[hk];exact ah _)]
theorem mI {α:Type}{f:α→List Value}{k:Nat}(hk: ∀a,(f a).length=k){l:List α}{i:Nat}{x:α}(h:i<l.length):((l.flatMap f).map EV.v).take (0+i * k)++(f x).map EV.v++((l.flatMap f).map EV.v).drop (0+i * k+k)=((l.set i x).flatMap f).map EV.v:=by
 rw[aP,←cQ,←cN,←aF,←aF];congr 1;rw[←pt hk,←dw,←vg hk,List.set_eq_take_append_cons_drop,aZ h,cr,cu,bU]
attribute [local irreducible] vc dW gz fg fD gF gJ gB fJ Plain eD eX dK VS fv fA fG jt fh IntKind.wrap
set_option maxRecDepth 100000
set_option maxHeartbeats 4000000
end
section
open Go.TR
def lx (l:List Entry)(s:List UInt8):List Entry:=l.filter fun x=>s.isPrefixOf (jQ x.name)
theorem zN {l:List Entry}{s:List UInt8}{x:Entry}(h:x∈lx l s):x∈l:=by
 unfold lx at h;exact (cU.1 h).1
theorem MY (s:List UInt8):lx [] s=[]:=rfl
theorem GI (l:List Entry)(s:List UInt8):(l.filter fun x=> !!s.isPrefixOf (jQ x.name))=lx l s:=by
 unfold lx;simp
theorem zd (l:List Entry)(s:List UInt8):(lx l s).length≤l.length:=cJ _ _
def AR:Nat→List Entry→List UInt8→Nat
 | 0,l,_=>gj (ju l)
 | n+1,l,s=>if l=[] then gj (ju l) else gj (ld (AR n (lx l (s++[48])) (s++[48])) (AR n (lx l (s++[49])) (s++[49])))
theorem L4 (n:Nat)(l:List Entry)(s:List UInt8):AR n l s<18446744073709551616:=by
 have h:AR n l s<MM:=by
  cases n with
  | zero=>exact ln _
  | succ n=>
   unfold AR;split<;>exact ln _
 have:MM=2305843009213693951:=rfl;omega
theorem Pr {n:Nat}{l:List Entry}{s:List UInt8}(h16:s.length+n=16)(h:l.length=0∨s.length=16):AR n l s=gj (ju l):=by
 cases n with
 | zero=>rfl
 | succ n=>
  unfold AR;rw[aZ];rcases h with h | h
  ·exact aq h
  omega
theorem MU {n:Nat}{l:List Entry}{s:List UInt8}(h:l≠[]):AR (n+1) l s=gj (ld (AR n (lx l (s++[48])) (s++[48])) (AR n (lx l (s++[49])) (s++[49]))):=aY h
theorem LZ (a b:Nat):(if a=ka∧b=ka then ka else gj (two 2 a b))=gj (ld a b):=by
 unfold ld;split<;>rfl
theorem Ej:gj (ju [])=ka:=rfl
theorem Hx (s t:List UInt8):(decide (t.length≤s.length)&&decide (s.take t.length=t))=t.isPrefixOf s:=by
 rw[ai,aL,av,av,cI,List.prefix_iff_eq_take];constructor
 ·rintro⟨_,h⟩;exact h.symm
 intro h;refine⟨?_,h.symm⟩;have:=a8 List.length h;rw[aw]at this;omega
theorem Dk {L:List Entry}(hg: ∀x∈L,eP x.name=true): ∀(n:Nat) (s:List UInt8),s.length+n=16→AR n (lx L s) s=lvl L n s
 | 0,s,h=>by
  have hu:lx L s=iY L s:=by
   unfold lx iY;apply List.filter_congr;intro x hx;have e:jQ x.name=eC x.name:=by unfold jQ;rw[aZ (hg x hx)]
   rw[e,ai,cI,av];constructor
   ·intro hp;exact (hp.eq_of_length_le (by rw[jN];omega)).symm
   rintro rfl;exact List.prefix_refl _
  show gj (ju (lx L s))=gj (ju (iY L s));rw[hu]
 | n+1,s,h=>by
  have WL: ∀c,lx (lx L s) (s++[c])=lx L (s++[c]):=fun c=>by
   unfold lx;rw[List.filter_filter];apply List.filter_congr;intro x _;rw[ai,aL,cI,cI];exact⟨fun h=>h.1,fun h=>⟨h,(List.prefix_append s [c]).trans h⟩⟩
  unfold AR;by_cases hn:lx L s=[]
  ·rw[aZ hn,hn,Ej];refine (um L _ _ ?_).symm;unfold begun;rw[bM];intro x hx hp;have e:jQ x.name=eC x.name:=by unfold jQ;rw[aZ (hg x hx)]
   unfold lx at hn;rw[List.filter_eq_nil_iff]at hn;exact hn x hx (by rw[e];exact hp)
  rw[aY hn,WL,WL,Dk hg n _ (by rw[ag];simp;omega),Dk hg n _ (by rw[ag];simp;omega)];rfl
attribute [local irreducible] vc dW gz fg fD gF gJ gB fJ Plain eD eX dK VS fv fA fG jt fh IntKind.wrap
set_option maxRecDepth 100000
set_option maxHeartbeats 2000000
theorem Al (s t:List UInt8)(F:Hp):Plain Tryz.prog F 268 [S s,S t] (.bool (t.isPrefixOf s)):=by
 refine dQ (N:=18) (rv:=[.tmp 4]) eW mixed Tryz.func268 rfl rfl rfl rfl rfl ?_;(refine run ?_;repeat intro b);refine iz rfl rfl rfl rfl rfl (fun hg=>⟨by omega,ar hg.1⟩) ?_;(refine run ?_;repeat intro b);have e1:decide ((((bl (jE t)).length:Nat):Int)≤(((bl (jE s)).length:Nat):Int))=decide (t.length≤s.length):=by rw[aV,ga,ga];omega
 simp only[gH,fK,e1];rw[←Hx];rfl
theorem Dc (s t:List UInt8)(F:Hp):Plain Tryz.prog F 219 [S s,S t] (.bool (t.isPrefixOf s)):=by
 refine dQ (N:=8) (rv:=[.tmp 4]) eW mixed Tryz.func219 rfl rfl rfl rfl rfl ?_;(refine run ?_;repeat intro b);refine dJ _ rfl rfl rfl Wd rfl (Al s t F) ?_;(refine run ?_;repeat intro b);rfl
attribute [local irreducible] jQ lx AR gj ju ld eP ka two
theorem Kg (x:Entry)(s:List UInt8)(hx:x.wf){p:Option Addr}{F:Hp}(hp:gi F p=some (S s)):Plain Tryz.prog F 218 [.agg x.row.toArray,.pointer p] (.bool (!s.isPrefixOf (jQ x.name))):=by
 refine dQ (N:=10) (rv:=[.tmp 3]) eW mixed Tryz.func218 rfl rfl rfl rfl rfl ?_;(refine run ?_;repeat intro b);refine fO (by kernel_rfl) ?_;(refine run ?_;repeat intro b);refine dJ _ rfl rfl rfl DC rfl (ou x.name hx.1 F) ?_;refine fw (S s) rfl rfl rfl rfl hp ?_;(refine run ?_;repeat intro b);refine dJ _ rfl rfl rfl Tf rfl (Dc (jQ x.name) s F) ?_;(refine run ?_;repeat intro b);rfl
theorem KI (cs:List Value)(n:Nat){p:Option Addr}{c:Nat}{F:Hp}(hl:cs.length=n * 2)(hf:e9 F p cs)(h1: ∀x∈cs,Go.TR.one (.v x)=true)(hb:n * 32≤140737488355328):eD Tryz.prog F 43 [.slice p n c] (fun x _ new=>mC 122 2 cs n x new):=by
 refine fW (N:=8) (rv:=[.tmp 2]) eW mixed Tryz.func43 rfl rfl rfl rfl rfl ?_;(refine run ?_;repeat intro b);refine qg (b:=p.isNone) eW rfl rfl rfl ?_;cases p with
 | none=>
  have hn:n=0:=by
   rcases dk n with h | h
   ·exact h
   have:=dR hf (j:=0) (by rw[hl];omega);cases this
  subst hn;(refine run ?_;repeat intro b);refine eU (VS.id ⟨_,rfl,.inl ⟨rfl,rfl,none,rfl⟩⟩)
 | some a=>
  (refine run ?_;repeat intro b);refine fy rfl rfl rfl rfl rfl rfl rfl rfl (iX hl hf) (gC _ h1) (fun h=>by cases h) (ah 0) rfl (az _) (by show (0+n) * 32≤_;omega) (fun hn=>?_) (fun hn b2 c2 hc2=>?_)
  ·subst hn;(refine run ?_;repeat intro b);refine eU ?_;refine VS.freeze 0 [2] rfl (cs:=[]) rfl rfl rfl fun F' hs1 hf1=>VS.id ⟨_,rfl,.inl ⟨rfl,rfl,_,rfl⟩⟩
  (refine run ?_;repeat intro b);simp only[aP]at hc2 ⊢;refine mH (qQ.mP (nx':=1) [(1,0)] [2] [(0,⟨some b2,cs.map EV.v,122,c2 * 2⟩)] (fi ⟨_,rfl,rfl,rfl,rfl,.inl ⟨rfl,fun e he=>fz _ e he⟩⟩ trivial) rfl rfl rfl rfl rfl rfl ⟨_,rfl,.inr ⟨hn,b2,c2,hc2,rfl,rfl⟩⟩)
theorem HH (q:Entry→Bool)(g:Nat)(lb:Array Value)(hbd:dK Tryz.prog g)(l:List Entry){b cap c:Nat}{F:Hp}(hl:l.length≤4611686018427387904)(hp: ∀x∈l,Plain Tryz.prog F g (.agg (Entry.row x).toArray::lb.toList) (.bool (q x))):
  eX Tryz.prog F [(1,⟨some b,(l.flatMap Entry.row).map EV.v,122,cap⟩)] 2 267 [.row 1 0 l.length c,.v (.func (.func g) #[] lb)] (fun e F' rs' nx'=>e= .v (i64 (oy q l))∧F=F'∧rs'=[(1,⟨some b,(l.flatMap Entry.row).map EV.v,122,cap⟩)]∧nx'=2):=by
 refine iT (N:=19) (rv:=[.tmp 4]) eW mixed Tryz.func267 rfl rfl rfl rfl rfl ?_;(refine run ?_;repeat intro b);refine eY (fun k:Nat=>k≤l.length∧(l.take k).any q=false) (fun k=>⟨[(0,.row 1 0 l.length c),(1,.v (.func (.func g) #[] lb)),(7,.v (i64 (l.length:Nat))),(8,.v (i64 (k:Nat)))],F,[(1,⟨some b,(l.flatMap Entry.row).map EV.v,122,cap⟩)],2⟩) (fun k=>l.length - k) 0 ⟨az _,rfl⟩ (VS.eL [0,1,7,8] rfl rfl) ?_;rintro k ⟨hk,hany⟩;by_cases hlt:k<l.length
 ·(refine run ?_;repeat intro b);refine gw rfl (by omega) ?_;(refine run ?_;repeat intro b);refine dL rfl rfl rfl ⟨by omega,by omega,⟨_,_,rfl,rfl⟩⟩ ?_;refine lA (Entry.row l[k]) rfl rfl rfl rfl rfl (by rw[ae];show 0+k * 2+2≤_;rw[ab,dO eM];omega) (by rw[ae];exact kT eM hlt) ?_;(refine run ?_;repeat intro b);refine dJ _ rfl rfl (by rw[fE];rfl) hbd rfl (hp l[k] (aj hlt)) ?_;(refine run ?_;repeat intro b);refine eE _ rfl (fun h2=>?_) (fun h2=>?_)
  ·(refine run ?_;repeat intro b);rw[k8 hlt hany h2];exact⟨rfl,rfl,rfl,rfl⟩
  (refine run ?_;repeat intro b);rw[dT (by omega)];refine fp (k+1) ⟨hlt,?_⟩ (by omega) (VS.eL [0,1,7,8] rfl rfl);rw[al hlt,bK,hany];simp[h2]
 have hge:k=l.length:=by omega
 subst hge;rw[aD]at hany;(refine run ?_;repeat intro b);refine gy rfl (by omega) ?_;(refine run ?_;repeat intro b);rw[lu hany];exact⟨rfl,rfl,rfl,rfl⟩
theorem ME (q:Entry→Bool)(g:Nat)(lb:Array Value)(hbd:dK Tryz.prog g)(l:List Entry){b cap c:Nat}{F:Hp}(hc:l.length≤c)(hl:l.length≤4611686018427387904)(hp: ∀x∈l,Plain Tryz.prog F g (.agg (Entry.row x).toArray::lb.toList) (.bool (q x))):
  eX Tryz.prog F [(1,⟨some b,(l.flatMap Entry.row).map EV.v,122,cap⟩)] 2 217 [.row 1 0 l.length c,.v (.func (.func g) #[] lb)] (fun e F' rs' nx'=>e= .row 1 0 (l.filter fun x=> !q x).length c∧F=F'∧nx'=2∧ ∃cs,rs'=[(1,⟨some b,((l.filter fun x=> !q x).flatMap Entry.row++cs).map EV.v,122,cap⟩)]):=by
 refine iT (N:=42) (rv:=[.tmp 4]) eW mixed Tryz.func217 rfl rfl rfl rfl rfl ?_;(refine run ?_;repeat intro b);refine nQ rfl rfl rfl L7 rfl (HH q g lb hbd l hl hp) ?_;rintro _ _ _ _ _ _ ⟨rfl,rfl,rfl,rfl⟩;cases hany:l.any q with
 | false=>
  have hfl:(l.filter fun x=> !q x)=l:=by
   rw[List.filter_eq_self];intro x hx;rw[bM]at hany;simpa using hany x hx
  rw[lu hany,hfl];(refine run ?_;repeat intro b);exact⟨rfl,rfl,rfl,[],by rw[bV]⟩
 | true=>
  have hx:oy q l=((l.findIdx q:Nat):Int):=by unfold oy;rw[aZ hany]
  have hi0:l.findIdx q<l.length:=List.findIdx_lt_length_of_exists (by simpa using hany);have hi1:((l.take (l.findIdx q+1)).filter fun x=> !q x)=l.take (l.findIdx q):=by
   rw[al hi0,List.filter_append];have h2:q l[l.findIdx q]=true:=List.findIdx_getElem;have h3:((l.take (l.findIdx q)).filter fun x=> !q x)=l.take (l.findIdx q):=by
    rw[List.filter_eq_self];intro x hx;obtain⟨j,hj,rfl⟩:=cH hx;rw[aw]at hj;rw[List.getElem_take];have:=List.not_of_lt_findIdx (p:=q) (xs:=l) (i:=j) (by omega);simpa using this
   rw[h3];simp[h2]
  rw[hx];generalize l.findIdx q=i0 at hi0 hi1;(refine run ?_;repeat intro b);rw[dT (by omega)];refine eY (fun s:List Entry×Nat×Nat=>s.1.length=l.length∧s.2.1<s.2.2∧s.2.2≤l.length∧s.1.take s.2.1=((l.take s.2.2).filter fun x=> !q x)∧s.1.drop s.2.2=l.drop s.2.2) (fun s=>⟨[(0,.row 1 0 l.length c),(1,.v (.func (.func g) #[] lb)),(5,.v (i64 (s.2.1:Nat))),(6,.v (i64 (s.2.2:Nat)))],F,[(1,⟨some b,(s.1.flatMap Entry.row).map EV.v,122,cap⟩)],2⟩) (fun s=>l.length - s.2.2) (l,i0,i0+1) ⟨rfl,dt _,hi0,hi1.symm,rfl⟩ (VS.eL [0,1,5,6] rfl rfl) ?_;rintro⟨m,i,j⟩ ⟨hm,hij,hj,ht,Sk⟩;dsimp only at hm hij hj ht Sk ⊢;by_cases hlt:j<l.length
  ·have SV:j<m.length:=by omega
   have hmj:m[j]=l[j]:=by
    have h1:=aO SV;have h2:=aO hlt;rw[Sk,h2]at h1;exact (List.cons.inj h1).1.symm
   have WM:m.drop (j+1)=l.drop (j+1):=by
    have h1:=aO SV;have h2:=aO hlt;rw[Sk,h2]at h1;exact (List.cons.inj h1).2.symm
   have hpx:=hp l[j] (aj hlt);have htk:=al hlt;have hat:(((m.flatMap Entry.row).map EV.v).take (0+j * 2+2)).drop (0+j * 2)=(Entry.row l[j]).map EV.v:=by rw[←hmj];exact kT eM SV
   generalize l[j]=x at hpx htk hat;have hrl: ∀(m':List Entry),MQ 2 [(1,(⟨some b,(m'.flatMap Entry.row).map EV.v,122,cap⟩:kg))]:=fun m'=>⟨⟨by decide,fun e he=>by obtain⟨v,_,rfl⟩:=aG.1 he;trivial⟩,trivial⟩;(refine run ?_;repeat intro b);refine gw rfl (by omega) ?_;(refine run ?_;repeat intro b);refine dL rfl rfl rfl ⟨by omega,by omega,⟨_,_,rfl,rfl⟩⟩ ?_;refine lA (Entry.row x) rfl rfl rfl rfl rfl (by rw[ae];show 0+j * 2+2≤_;rw[ab,dO eM];omega) (by rw[ae];exact hat) ?_;(refine run ?_;repeat intro b);refine dJ _ rfl rfl (by rw[fE];rfl) hbd rfl hpx ?_;(refine run ?_;repeat intro b);refine eE (!q x) rfl (fun h2=>?_) (fun h2=>?_)
   ·have hti:(m.set i x).take (i+1)=m.take i++[x]:=by
     rw[al (by rw[cM];omega),List.getElem_set_self,List.take_set_of_le (ah _)]
    (refine run ?_;repeat intro b);refine dL rfl rfl rfl ⟨by omega,by omega,⟨_,_,rfl,rfl⟩⟩ ?_;refine iS (((m.set i x).flatMap Entry.row).map EV.v) rfl rfl rfl rfl rfl rfl (by rw[ae];show 0+i * 2+2≤_;rw[ab,dO eM];omega) (by rw[ae];exact mI eM (by omega)) rfl ?_;(refine run ?_;repeat intro b);rw[dT (by omega),dT (by omega)];exact iK (m.set i x,i+1,j+1) [2] [0,1,5,6] ⟨by simp only[cM];exact hm,by simp only;omega,hlt,by simp only;rw[hti,ht,htk,List.filter_append];simp[h2],by simp only;rw[List.drop_set_of_lt (by omega),WM]⟩ (by simp only;omega) rfl rfl rfl rfl (hrl _) rfl
   (refine run ?_;repeat intro b);rw[dT (by omega)];exact iK (m,i,j+1) [2] [0,1,5,6] ⟨hm,by simp only;omega,hlt,by simp only;rw[ht,htk,List.filter_append];simp[h2],WM⟩ (by simp only;omega) rfl rfl rfl rfl (hrl _) rfl
  have hge:j=l.length:=by omega
  subst hge;rw[aD]at ht;have hil:(l.filter fun x=> !q x).length=i:=by rw[←ht,aw];omega
  have hso:gU 0 i c 2=i * 2:=by unfold gU;rw[aY (by omega),aP]
  have Oh:=dO eM m;have hcl: ∀vs:List Value,((m.flatMap Entry.row).map EV.v).take (gU 0 i c 2)++vs.map EV.v++((m.flatMap Entry.row).map EV.v).drop (gU 0 i c 2+(l.length - i) * 2)=((l.filter fun x=> !q x).flatMap Entry.row++vs).map EV.v:=fun vs=>by
   rw[hso,cd (by rw[ab,Oh,hm,←dg];exact dv _ (by omega)),bV,aF,←ht,pt eM,cQ]
  rw[hil];(refine run ?_;repeat intro b);refine gy rfl (by omega) ?_;(refine run ?_;repeat intro b);refine dL rfl rfl rfl ⟨by omega,by omega,by omega⟩ ?_;refine Pm eW rfl rfl rfl rfl rfl (fun vs=>[(1,(⟨some b,((l.filter fun x=> !q x).flatMap Entry.row++vs).map EV.v,122,cap⟩:kg))]) (fun vs=>a8 (fun cs=>some [(1,(⟨some b,cs,122,cap⟩:kg))]) (hcl vs)) (by rw[ae];show gU 0 i c 2+(l.length - i) * 2≤_;rw[hso,ab,Oh,hm,←dg];exact dv _ (by omega)) (fun vs hvs=>?_);(refine run ?_;repeat intro b);refine dL rfl rfl rfl ⟨by omega,by omega⟩ ?_;rw[ae];(refine run ?_;repeat intro b);exact⟨rfl,rfl,rfl,vs,rfl⟩
theorem Hv (g:Nat)(lb:Array Value){p:Option Addr}{c:Nat}{F:Hp}(hb:dK Tryz.prog g):Plain Tryz.prog F 217 [.slice p 0 c,.func (.func g) #[] lb] (.slice p 0 c):=by
 have h0:=DF (fun _=>false) g lb hb [] (p:=p) (c:=c) (F:=F) (eJ _ _) (by decide) (by simp);refine dQ (N:=42) (rv:=[.tmp 4]) eW mixed Tryz.func217 rfl rfl rfl rfl rfl ?_;(refine run ?_;repeat intro b);refine dJ _ rfl rfl (by rw[fE];rfl) L7 rfl h0 ?_;(refine run ?_;repeat intro b);rfl
theorem x8 (l:List Entry)(s:List UInt8)(hl:l.length≤24)(hw: ∀x∈l,x.wf){p:Option Addr}{c:Nat}{F:Hp}(hf:e9 F p (l.flatMap Entry.row)):
  iy Tryz.prog F 149 [.slice p l.length c,S s] (fun x F'=>∃p' c',x= .slice p' (lx l s).length c'∧e9 F' p' ((lx l s).flatMap Entry.row)):=by
 refine fW (N:=9) (rv:=[.tmp 4]) eW mixed Tryz.func149 rfl rfl rfl rfl rfl ?_;(refine run ?_;repeat intro b);refine fX (VS.freeze 0 [3,5] rfl rfl rfl rfl fun F1 hs1 hf1=>VS.id ?_);have hp1:gi F1 (some ⟨b,0,none⟩)=some (S s):=hf1 0 _ rfl;have hg:=eu hs1 hf;refine nC (R:=fun _ cs=>cs=l.flatMap Entry.row) (fun x F' new h=>⟨_,h,rfl⟩) rfl rfl rfl D6 rfl (KI (l.flatMap Entry.row) l.length (dO eM _) hg (iN l) (by omega)) (fun hk0 F9 p1 cs hF9 _=>?_) (fun hk1 F9 b9 c9 cs hF9 hc9 hcs=>?_)
 ·have hl0:l=[]:=aq hk0;subst hl0;(refine run ?_;repeat intro b);refine dJ _ rfl rfl rfl QJ rfl (Hv _ #[_] QV) ?_;(refine run ?_;repeat intro b);have e0:lx [] s=[]:=MY s;rw[e0];exact eU (VS.id ⟨_,rfl,rfl,p1,0,rfl,eJ _ _⟩)
 subst hcs;(refine run ?_;repeat intro b);refine nQ rfl rfl rfl QJ rfl (ME (fun x=> !s.isPrefixOf (jQ x.name)) _ #[_] QV l hc9 (by omega) (fun x hx=>Kg x s (hw x hx) (iV hF9 hp1))) ?_;rintro _ _ _ _ _ _ ⟨rfl,rfl,rfl,cs2,rfl⟩;rw[GI];(refine run ?_;repeat intro b);refine eU (VS.freeze 1 [4] rfl (eH _) rfl rfl fun F10 aau Y0=>VS.id ⟨_,rfl,rfl,_,_,rfl,?_⟩);have:=r6 Y0 ((lx l s).flatMap Entry.row).length
 rwa [List.take_left]at this
theorem wC (n:Nat)(ih: ∀m,n=m+1→∀(l:List Entry) (s:List UInt8),s.length+m=16→l.length≤24→(∀x∈l,x.wf)→∀{p:Option Addr} {c:Nat} {F:Hp},e9 F p (l.flatMap Entry.row)→Plain Tryz.prog F 148 [.slice p l.length c,S s] (mu (AR m l s)))
  (l:List Entry) (s:List UInt8) (h16:s.length+n=16) (hl:l.length≤24) (hw: ∀x∈l,x.wf) {p:Option Addr} {c:Nat} {F:Hp} (hf:e9 F p (l.flatMap Entry.row)):Plain Tryz.prog F 148 [.slice p l.length c,S s] (mu (AR n l s)):=by
 refine dQ (N:=50) (rv:=[.tmp 4]) eW mixed Tryz.func148 rfl rfl rfl rfl rfl ?_;(refine run ?_;repeat intro b);refine eE (decide (l.length=0∨s.length=16)) ?_ (fun h=>?_) (fun h=>?_)
 ·refine dV ?_;rw[fx,ga,ai];simp only[bD,beq_iff_eq,av];omega
 ·rw[Pr h16 (ar h)];(refine run ?_;repeat intro b);refine dJ _ rfl rfl rfl N3 rfl (rG l hl hw hf) ?_;refine dJ _ rfl rfl rfl Cu rfl (ly (ju l) (vt hl) F) ?_;(refine run ?_;repeat intro b);rfl
 have h:=au h;obtain⟨m,rfl⟩: ∃m,n=m+1:=⟨n - 1,by omega⟩;rw[MU (by intro e;subst e;exact h (.inl rfl))];have hz:(s++[48]).length+m=16:=by rw[ag];simp;omega
 have ho:(s++[49]).length+m=16:=by rw[ag];simp;omega
 have lz:=zd l (s++[48]);have lo:=zd l (s++[49]);(refine run ?_;repeat intro b);refine dL rfl rfl rfl (by show s.length+1≤9223372036854775807;omega) ?_;(refine run ?_;repeat intro b);refine dL rfl rfl rfl (by show s.length+1≤9223372036854775807;omega) ?_;(refine run ?_;repeat intro b);refine fm rfl rfl rfl Nf rfl (x8 l (s++[48]) hl hw hf) ?_;rintro _ F1 hF1 ⟨p1,c1,rfl,hf1⟩;(refine run ?_;repeat intro b);refine dJ _ rfl rfl rfl NO rfl (ih m rfl (lx l (s++[48])) (s++[48]) hz (by omega) (fun x hx=>hw x (zN hx)) hf1) ?_;(refine run ?_;repeat intro b);refine fm rfl rfl rfl Nf rfl (x8 l (s++[49]) hl hw (eu hF1 hf)) ?_;rintro _ F2 hF2 ⟨p2,c2,rfl,hf2⟩;(refine run ?_;repeat intro b);refine dJ _ rfl rfl rfl NO rfl (ih m rfl (lx l (s++[49])) (s++[49]) ho (by omega) (fun x hx=>hw x (zN hx)) hf2) ?_;have ha:=L4 m (lx l (s++[48])) (s++[48]);have hb:=L4 m (lx l (s++[49])) (s++[49]);generalize AR m (lx l (s++[48])) (s++[48])=a at ha;generalize AR m (lx l (s++[49])) (s++[49])=b2 at hb;(refine run ?_;repeat intro b);refine dJ _ rfl rfl rfl N3 rfl (rG [] (by decide) (fun _ h=>by cases h) (eJ F2 none)) ?_;refine dJ _ rfl rfl rfl Cu rfl (ly (ju []) (vt (by decide)) F2) ?_;rw[Ej,←LZ];(refine run ?_;repeat intro b);refine eE (decide (a=ka∧b2=ka)) ?_ (fun h=>?_) (fun h=>?_)
 ·refine dV ?_;rw[fK,ai];simp;omega
 ·rw[aZ (ar h)];(refine run ?_;repeat intro b);rfl
 rw[aY (au h)];(refine run ?_;repeat intro b);refine dJ _ rfl rfl rfl Uv rfl (HL 2 a b2 (by decide) ha hb F2) ?_;(refine run ?_;repeat intro b);rfl
theorem J9 (n:Nat): ∀(l:List Entry) (s:List UInt8),s.length+n=16→l.length≤24→(∀x∈l,x.wf)→∀{p:Option Addr} {c:Nat} {F:Hp},e9 F p (l.flatMap Entry.row)→Plain Tryz.prog F 148 [.slice p l.length c,S s] (mu (AR n l s)):=by
 induction n with
 | zero=>exact wC 0 (fun m h=>by omega)
 | succ n ih=>exact wC (n+1) (fun m h=>by
   obtain rfl:n=m:=by omega
   exact ih)
end
end Go.Proofs.YthbnddgjkonkdaaGreatDoor
