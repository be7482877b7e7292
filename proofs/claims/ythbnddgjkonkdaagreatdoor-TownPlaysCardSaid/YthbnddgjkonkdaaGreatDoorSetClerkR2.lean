/- A part of the proof. -/
import Derived.Test.YthbnddgjkonkdaaGreatDoorSetTownPlay
set_option linter.unusedVariables false
set_option linter.unusedSimpArgs false
namespace Go.Proofs.YthbnddgjkonkdaaGreatDoor
section
open Go.TR
theorem CY {l:List Int}{k:Nat}(h:k<l.length):(l.take (k+1)).any kf=((l.take k).any kf||kf l[k]):=by
 rw[al h,bK];simp
attribute [local irreducible] vc dW gz fg fD gF gJ gB fJ Plain eD eX dK VS fv fA fG jt fh IntKind.wrap
set_option maxRecDepth 100000
set_option maxHeartbeats 4000000
theorem Ak (n:NP)(x:LP)(fs:List Int){pf:Option Addr}{cf:Nat}{F:Hp}(hz:gG n=0)(hl:n.gE.length≤4611686018427387904)(hn:n.at F)(hx:x.at F)(hfl:fs.length≤4611686018427387904)(Rj:e9 F pf (fs.map i64)):
  iy Tryz.prog F 70 [n.v,.agg x.row.toArray,.slice pf fs.length cf] (Ja n x.l fs):=by
 obtain⟨z1,z2,z3⟩:=oT hz;refine eD.drop (fW (N:=62) (rv:=[.cell 6 62,.tmp 7]) eW mixed Tryz.func70 rfl rfl rfl rfl rfl ?_);(refine run ?_;repeat intro b);rename_i b0 b1;generalize b=b2;refine eY (fun k:Nat=>k≤fs.length∧(fs.take k).any kf=false) (fun k=>⟨[(2,.v (.slice pf fs.length cf)),(3,.loc 0 0),(4,.loc 1 0),(6,.loc 2 0),(14,.v (.slice pf fs.length cf)),(15,.v (i64 (fs.length:Nat))),(16,.v (i64 (k:Nat)))],F,[(2,⟨some b2,[.v (i64 0),.v (.slice none 0 0)],62,2⟩),(1,⟨some b1,x.row.map .v,71,12⟩),(0,⟨some b0,[.v (i64 n.now),.v (.slice n.p n.gE.length n.c)],62,2⟩)],3⟩) (fun k=>fs.length - k) 0 ⟨az _,rfl⟩ (VS.eL [2,3,4,6,14,15,16] rfl rfl) ?_;rintro k ⟨hk,hu⟩;by_cases hlt:k<fs.length
 ·have g:=gS Rj (j:=k) (by rw[ab];exact hlt);rw[cG]at g;have hs:=CY hlt;rw[hu,bu]at hs;have hany:kf fs[k]=true→fs.any kf=true:=fun h=>bT.2 ⟨_,aj hlt,h⟩;generalize fs[k]=f at g hs hany;(refine run ?_;repeat intro b);refine gw rfl (by omega) ?_;(refine run ?_;repeat intro b);refine dL rfl rfl rfl ⟨by omega,by omega,dR Rj (j:=k) (by rw[ab];exact hlt)⟩ ?_;refine fw (i64 f) rfl rfl rfl rfl (by rw[ae,aA];exact g) ?_;(refine run ?_;repeat intro b);refine eE (kf f) ?_ (fun h=>?_) (fun h=>?_)
  ·refine dV ?_;rw[fx];rfl
  ·(refine run ?_;repeat intro b);exact eU (VS.id ⟨_,rfl,pj (e:=4) (by unfold lG;rw[aY (by simpa using hz),aZ (hany h)]) (by decide) F⟩)
  rw[h]at hs;(refine run ?_;repeat intro b);rw[dT (by omega)];exact fp (k+1) ⟨hlt,hs⟩ (by omega) (VS.eL [2,3,4,6,14,15,16] rfl rfl)
 have hge:k=fs.length:=by omega
 subst hge;rw[aD]at hu;have hbad:=hu;have hE:lG n fs=if 60<n.gE.length+fs.length then 7 else 0:=by unfold lG;rw[aY (by simpa using hz),aY (by rw[hu];decide)]
 (refine run ?_;repeat intro b);refine gy rfl (by omega) ?_;(refine run ?_;repeat intro b);refine eE (decide (60<n.gE.length+fs.length)) ?_ (fun h=>?_) (fun h=>?_)
 ·refine dV ?_;rw[wrap_i64 (by omega) (by omega),ai];simp;omega
 ·rw[aZ (ar h)]at hE;(refine run ?_;repeat intro b);exact eU (VS.id ⟨_,rfl,pj hE (by decide) F⟩)
 have hlen:=au h;rw[aY hlen]at hE;(refine run ?_;repeat intro b);refine lp (QP n F)
  (fun q=>⟨[(2,.v (.slice pf fs.length cf)),(3,.loc 0 0),(4,.loc 1 0),(6,.loc 2 0),(10,.loc 5 0)],q.1,[(0,⟨some b0,[.v (i64 n.now),.v (.slice n.p n.gE.length n.c)],62,2⟩),(1,⟨some b1,x.row.map .v,71,12⟩),(2,⟨some b2,[.v (i64 0),.v (.slice none 0 0)],62,2⟩),(5,⟨some q.2.2.2.2,[.v (i64 n.now),.row 6 0 n.gE.length q.2.2.2.1],62,2⟩),(6,⟨q.2.2.1,(q.2.1.flatMap LP.row).map .v,71,q.2.2.2.1 * 12⟩)],7⟩) rfl ?rest ?reg
 case reg=>
  intro vb kn kr ke;refine fC [0] (by kernel_rfl) ?_;refine dU [0,1,2,3] (f':=4) (by kernel_rfl) rfl rfl rfl ?_;(refine run ?_;repeat intro b);refine jF 4 6 (by kernel_rfl) rfl rfl rfl ?_ ?_
  ·refine jA [] rfl rfl rfl rfl rfl rfl rfl (eJ _ _) (iX (dO je _) hn.gE) (gC _ (qn _)) (by show (0+_) * 152≤_;omega) (fun h0=>?_) (fun h0 b5 c5 w6=>?_)
   ·have hw0:n.gE=[]:=aq h0;(refine run ?_;repeat intro b);refine eG (Hp.sub.refl _) (dP rfl) ?_;refine dU [5] (f':=2) (by kernel_rfl) rfl rfl rfl ?_;(refine run ?_;repeat intro b);refine ee 6 (by kernel_rfl) rfl rfl ?_;(refine run ?_;repeat intro b);refine eG (Hp.sub.refl _) (dP rfl) ?_;refine ee 7 (by kernel_rfl) rfl rfl ?_;(refine run ?_;repeat intro b);refine eG (Hp.sub.refl _) (dP rfl) ?_;refine fq (by kernel_rfl) (kn _ (VS.l8 71 ?_));refine VS.l6 3 [.v (i64 n.now),.row 4 0 n.gE.length 0] rfl ⟨⟨trivial,rfl⟩,⟨(by decide:4<5),(a8 (fun m=>some (Value.slice none m 0)) h0.symm)⟩,trivial⟩ rfl ?_;exact VS.mP (nx':=7) [(0,0),(1,1),(2,2),(3,5),(4,6)] [2,3,4,6,10] [(0,⟨some b0,[.v (i64 n.now),.v (.slice n.p n.gE.length n.c)],62,2⟩),(1,⟨some b1,x.row.map .v,71,12⟩),(2,⟨some b2,[.v (i64 0),.v (.slice none 0 0)],62,2⟩),(5,⟨some b,[.v (i64 n.now),.row 6 0 n.gE.length 0],62,2⟩),(6,⟨none,(List.flatMap LP.row ([]:List LP)).map .v,71,0 * 12⟩)]
     (dX rfl (dX rfl (dX rfl (dX rfl (dX rfl trivial))))) rfl rfl rfl rfl rfl rfl ⟨(F,([]:List LP),none,0,b),⟨Hp.sub.refl _,by rw[hw0],by simp,Nat.le_of_eq h0,fun _=>⟨h0,rfl⟩⟩,rfl⟩
   simp only[aP,cP,c7]at w6 ⊢;(refine run ?_;repeat intro b);refine eG (Hp.sub.refl _) (dP rfl) ?_;refine dU [5] (f':=2) (by kernel_rfl) rfl rfl rfl ?_;(refine run ?_;repeat intro b);refine ee 6 (by kernel_rfl) rfl rfl ?_;(refine run ?_;repeat intro b);refine eG (Hp.sub.refl _) (dP rfl) ?_;refine ee 7 (by kernel_rfl) rfl rfl ?_;(refine run ?_;repeat intro b);refine eG (Hp.sub.refl _) (dP rfl) ?_;refine fq (by kernel_rfl) (kn _ ?_);refine VS.l6 4 [.v (i64 n.now),.row 3 0 n.gE.length c5] rfl ⟨⟨trivial,rfl⟩,⟨(by decide:3<5),rfl⟩,trivial⟩ rfl ?_;exact VS.mP (nx':=7) [(0,0),(1,1),(2,2),(4,5),(3,6)] [2,3,4,6,10] [(0,⟨some b0,[.v (i64 n.now),.v (.slice n.p n.gE.length n.c)],62,2⟩),(1,⟨some b1,x.row.map .v,71,12⟩),(2,⟨some b2,[.v (i64 0),.v (.slice none 0 0)],62,2⟩),(5,⟨some b,[.v (i64 n.now),.row 6 0 n.gE.length c5],62,2⟩),(6,⟨(some b5),(List.flatMap LP.row n.gE).map .v,71,c5 * 12⟩)]
    (dX rfl (dX rfl (dX rfl (dX rfl (fi ⟨_,rfl,rfl,rfl,rfl,.inl ⟨rfl,fun e he=>fz _ e he⟩⟩ trivial))))) rfl rfl rfl rfl rfl rfl ⟨(F,n.gE,(some b5),c5,b),⟨Hp.sub.refl _,rfl,hn.each,w6,fun h=>by cases h⟩,rfl⟩
  (refine run ?_;repeat intro b);refine eG (Hp.sub.refl _) (dP rfl) ?_;refine ee 4 (by kernel_rfl) rfl rfl ?_;refine jA [] rfl rfl rfl rfl rfl rfl rfl (eJ _ _) (iX (dO je _) hn.gE) (gC _ (qn _)) (by show (0+_) * 152≤_;omega) (fun h0=>?_) (fun h0 b5 c5 w6=>?_)
  ·have hw0:n.gE=[]:=aq h0;(refine run ?_;repeat intro b);refine eG (Hp.sub.refl _) (dP rfl) ?_;refine dU [5] (f':=1) (by kernel_rfl) rfl rfl rfl ?_;(refine run ?_;repeat intro b);refine ee 7 (by kernel_rfl) rfl rfl ?_;(refine run ?_;repeat intro b);refine eG (Hp.sub.refl _) (dP rfl) ?_;refine fq (by kernel_rfl) (kn _ (VS.l8 71 ?_));refine VS.l6 3 [.v (i64 n.now),.row 4 0 n.gE.length 0] rfl ⟨⟨trivial,rfl⟩,⟨(by decide:4<5),(a8 (fun m=>some (Value.slice none m 0)) h0.symm)⟩,trivial⟩ rfl ?_;exact VS.mP (nx':=7) [(0,0),(1,1),(2,2),(3,5),(4,6)] [2,3,4,6,10] [(0,⟨some b0,[.v (i64 n.now),.v (.slice n.p n.gE.length n.c)],62,2⟩),(1,⟨some b1,x.row.map .v,71,12⟩),(2,⟨some b2,[.v (i64 0),.v (.slice none 0 0)],62,2⟩),(5,⟨some b,[.v (i64 n.now),.row 6 0 n.gE.length 0],62,2⟩),(6,⟨none,(List.flatMap LP.row ([]:List LP)).map .v,71,0 * 12⟩)]
    (dX rfl (dX rfl (dX rfl (dX rfl (dX rfl trivial))))) rfl rfl rfl rfl rfl rfl ⟨(F,([]:List LP),none,0,b),⟨Hp.sub.refl _,by rw[hw0],by simp,Nat.le_of_eq h0,fun _=>⟨h0,rfl⟩⟩,rfl⟩
  simp only[aP,cP,c7]at w6 ⊢;(refine run ?_;repeat intro b);refine eG (Hp.sub.refl _) (dP rfl) ?_;refine dU [5] (f':=1) (by kernel_rfl) rfl rfl rfl ?_;(refine run ?_;repeat intro b);refine ee 7 (by kernel_rfl) rfl rfl ?_;(refine run ?_;repeat intro b);refine eG (Hp.sub.refl _) (dP rfl) ?_;refine fq (by kernel_rfl) (kn _ ?_);refine VS.l6 3 [.v (i64 n.now),.row 4 0 n.gE.length c5] rfl ⟨⟨trivial,rfl⟩,⟨(by decide:4<5),rfl⟩,trivial⟩ rfl ?_;exact VS.mP (nx':=7) [(0,0),(1,1),(2,2),(3,5),(4,6)] [2,3,4,6,10] [(0,⟨some b0,[.v (i64 n.now),.v (.slice n.p n.gE.length n.c)],62,2⟩),(1,⟨some b1,x.row.map .v,71,12⟩),(2,⟨some b2,[.v (i64 0),.v (.slice none 0 0)],62,2⟩),(5,⟨some b,[.v (i64 n.now),.row 6 0 n.gE.length c5],62,2⟩),(6,⟨(some b5),(List.flatMap LP.row n.gE).map .v,71,c5 * 12⟩)]
   (dX rfl (dX rfl (dX rfl (dX rfl (fi ⟨_,rfl,rfl,rfl,rfl,.inl ⟨rfl,fun e he=>fz _ e he⟩⟩ trivial))))) rfl rfl rfl rfl rfl rfl ⟨(F,n.gE,(some b5),c5,b),⟨Hp.sub.refl _,rfl,hn.each,w6,fun h=>by cases h⟩,rfl⟩
 case rest=>
  rintro⟨F1,M,gq,c1,b9⟩ ⟨g1,g2,g3,g4,g5⟩;dsimp only at g1 g2 g3 g4 g5 ⊢;(refine run ?_;repeat intro b);refine eY (QG n x.l fs F)
   (fun q=>⟨[(3,.loc 0 0),(4,.loc 1 0),(6,.loc 2 0),(10,.loc 5 0),(42,.v (.slice pf fs.length cf)),(43,.v (i64 (fs.length:Nat))),(44,.v (i64 (q.1:Nat)))],q.2.2.1,[(0,⟨some b0,[.v (i64 n.now),.v (.slice n.p n.gE.length n.c)],62,2⟩),(1,⟨some b1,x.row.map .v,71,12⟩),(2,⟨some b2,[.v (i64 0),.v (.slice none 0 0)],62,2⟩),(5,⟨some b9,[.v (i64 n.now),.row 7 0 (n.gE.length+q.1) q.2.2.2.2],62,2⟩),(7,⟨q.2.2.2.1,(q.2.1.flatMap LP.row).map .v,71,q.2.2.2.2 * 12⟩)],8⟩) (fun q=>fs.length - q.1) (0,M,F1,gq,c1) ⟨az _,by rw[g2];simp,g3,g1,g5,g4⟩
   (VS.mP (nx':=8) [(0,0),(1,1),(2,2),(5,5),(6,7)] [3,4,6,10,42,43,44] [(0,⟨some b0,[.v (i64 n.now),.v (.slice n.p n.gE.length n.c)],62,2⟩),(1,⟨some b1,x.row.map .v,71,12⟩),(2,⟨some b2,[.v (i64 0),.v (.slice none 0 0)],62,2⟩),(5,⟨some b9,[.v (i64 n.now),.row 7 0 n.gE.length c1],62,2⟩),(7,⟨gq,(M.flatMap LP.row).map .v,71,c1 * 12⟩)]
    (dX rfl (dX rfl (dX rfl (dX rfl (fi ⟨_,rfl,rfl,rfl,rfl,.inl ⟨rfl,fun e he=>fz _ e he⟩⟩ trivial))))) rfl rfl rfl rfl rfl rfl rfl) ?_
  rintro⟨k,L,F2,F8,cap⟩ ⟨h1,h2,h3,h4,h5,h6⟩;dsimp only at h1 h2 h3 h4 h5 h6 ⊢;have hL:L.length=n.gE.length+k:=by
   have:=a8 List.length h2;simp only[ab,ag,aw]at this;omega
  by_cases hlt:k<fs.length
  ·have g:=gS Rj (j:=k) (by rw[ab];exact hlt);rw[cG]at g;obtain⟨r1,r2⟩:=A0 hbad hlt;have h2':(L.map LP.l)++[x.l.by (n.now+fs[k])]=n.gE.map LP.l++((fs.take (k+1)).map fun k=>x.l.by (n.now+k)):=by rw[h2,al hlt,aF,bU];rfl
   generalize fs[k]=f at g r1 r2 h2';have ew:IntKind.i64.wrap (n.now+f)=n.now+f:=wrap_i64 (by omega) (by omega);(refine run ?_;repeat intro b);refine gw rfl (by omega) ?_;(refine run ?_;repeat intro b);refine dL rfl rfl rfl ⟨by omega,by omega,dR Rj (j:=k) (by rw[ab];exact hlt)⟩ ?_;refine fw (i64 f) rfl rfl rfl rfl (by rw[ae,aA];exact iV h4 g) ?_;(refine run ?_;repeat intro b);rw[ew];refine fy rfl rfl rfl rfl rfl rfl rfl rfl (ff rfl rfl) (gC _ (qn [(⟨x.l.by (n.now+f),x.ph,x.ch,x.a⟩:LP)])) h5 h6 rfl (by rw[ab,dO je,hL];exact ah _) (by show _ * 152≤_;omega) (fun h=>by cases h) (fun _ b3 c3 hc3=>?_);(refine run ?_;repeat intro b);have hcells:=nO L ⟨x.l.by (n.now+f),x.ph,x.ch,x.a⟩ (n.gE.length+k) hL;have ax:=LP.e8 h4 hx;rw[dT (by omega)];exact fH (k+1,L++[(⟨x.l.by (n.now+f),x.ph,x.ch,x.a⟩:LP)],F2,some b3,c3) 7 [(0,0),(1,1),(2,2),(5,5),(10,7)] [3,4,6,10,42,43,44] [(0,⟨some b0,[.v (i64 n.now),.v (.slice n.p n.gE.length n.c)],62,2⟩),(1,⟨some b1,x.row.map .v,71,12⟩),(2,⟨some b2,[.v (i64 0),.v (.slice none 0 0)],62,2⟩),(5,⟨some b9,[.v (i64 n.now),.row 7 0 (n.gE.length+(k+1)) c3],62,2⟩),(7,⟨some b3,((L++[(⟨x.l.by (n.now+f),x.ph,x.ch,x.a⟩:LP)]).flatMap LP.row).map .v,71,c3 * 12⟩)]
    ⟨hlt,by rw[aF,←h2'];rfl,fun z hz=>by rcases aK.1 hz with hz | hz;exact h3 z hz;rw[aB.1 hz];exact⟨ax.dS,ax.nL⟩,h4,(fun h=>by cases h),hc3⟩ (by simp only;omega) (aM _ _)
    (dX rfl (dX rfl (dX rfl (dX rfl (fi ⟨_,rfl,rfl,rfl,rfl,.inl ⟨hcells.symm,fun e he=>fz _ e (hcells ▸ he)⟩⟩ trivial))))) rfl rfl rfl rfl rfl rfl rfl
  have hge:k=fs.length:=by omega
  subst hge;rw[aD]at h2;(refine run ?_;repeat intro b);refine gy rfl (by omega) ?_;(refine run ?_;repeat intro b);cases F8 with
  | none=>
   obtain⟨e1,e2⟩:=h5 rfl;have e3:L=[]:=aq (by omega);subst e3;exact eU (VS.id ⟨_,rfl,tT hE [] hL h2 (by decide) (eJ _ _) (by simp)⟩)
  | some b5=>
   exact eU (VS.freeze 7 [6,7] rfl (eH _) rfl rfl fun F4 hs4 zX=>VS.id ⟨_,rfl,tT hE L hL h2 (by omega) zX (fun z hz=>LP.e8 hs4 (h3 z hz))⟩)
end
section
open Go.TR
@[reducible] def TL.jL (s:TL) (n1 n2:Nat):List EV:=[.v (i64 s.dI.queue.most),.v (.slice s.cl.w s.dI.queue.wait.length s.cl.cw),.v (i64 s.dI.batch),.v (i64 s.dI.every),.v (i64 s.dI.now),.v (.slice s.cl.h s.dI.dS.length s.cl.ch),.v (.slice s.cl.b s.dI.ez.length s.cl.cb),.row n1 0 s.dN.length s.co,.row n2 0 s.polls.length s.cp,.v (i64 s.fN.now),.v (.slice s.fN.p s.fN.gE.length s.fN.c)]
@[reducible] def TL.hZ (n:Nat) (s:TL) (b1:Nat) (z:Fr):RL:=[(n+6,⟨some z.b,z.cells.map EV.v,z.ty,z.cap⟩),(n+5,⟨s.be,(s.events.flatMap lW.row).map EV.v,167,s.ce * 4⟩),(n+4,⟨s.bf,s.jb.map EV.v,69,s.xf⟩),(n+3,⟨some b1,[.row (n+4) s.fo s.ej.length s.cf],138,1⟩),(n+2,⟨s.bp,(s.polls.flatMap Poll.row).map EV.v,159,s.cp * 6⟩),(n+1,⟨s.bo,(s.dN.flatMap jk.row).map EV.v,76,s.co * 8⟩),(n,⟨some s.b0,s.jL (n+1) (n+2),64,11⟩)]
@[reducible] def TL.Mh (s:TL) (b1:Nat) (z:Fr):RL:=[(6,⟨some z.b,z.cells.map EV.v,z.ty,z.cap⟩),(5,⟨s.be,(s.events.flatMap lW.row).map EV.v,167,s.ce * 4⟩),(4,⟨s.bf,s.jb.map EV.v,69,s.xf⟩),(3,⟨some b1,[.row 4 s.fo s.ej.length s.cf],138,1⟩),(2,⟨s.bp,(s.polls.flatMap Poll.row).map EV.v,159,s.cp * 6⟩),(1,⟨s.bo,(s.dN.flatMap jk.row).map EV.v,76,s.co * 8⟩),(0,⟨some s.b0,s.jL 1 2,64,11⟩)]
theorem TL.Gn (n:Nat)(s:TL)(b1:Nat)(z:Fr):gD n (s.Mh b1 z)=s.hZ n b1 z:=by
 unfold gD gY TL.Mh TL.hZ;simp only[a9,cP,qd];rfl
def Zt (s:TL)(b1:Nat)(z:Fr)(F:Hp)(t':fr)(e:EV)(F':Hp)(r:RL)(k:Nat):Prop:=
 e= .v (.tuple #[])∧k=7∧F.sub F'∧ ∃s':TL,s'.t=t'∧s'.at F'∧s'.b0=s.b0∧s'.events=s.events∧s'.be=s.be∧s'.ce=s.ce∧r=s'.Mh b1 z
def Q5 (s:TL)(b1:Nat)(z:Fr)(F:Hp)(f:FuncId)(ys:List Value)(t':fr):Prop:=
 eX Tryz.prog F (s.Mh b1 z) 7 f (ys.map EV.v) (fun e F' rs' nx'=>∃r k e0,rs'=gD 7 r∧nx'=7+k∧e=g8 7 e0∧Zt s b1 z F t' e0 F' r k)
theorem EI (ρ:List (Nat×Nat)): ∀ys:List Value,sD ρ (ys.map EV.v)=some (ys.map EV.v)
 | []=>rfl
 | a::l=>by simp only[a9,sD,pZ,EI ρ l]
theorem Q5.at {s:TL}{b1:Nat}{z:Fr}{F:Hp}{f:FuncId}{ys:List Value}{t':fr}(h:Q5 s b1 z F f ys t'){P3:RL}{nx2:Nat}(ρ:List (Nat×Nat))(hr:lR ρ P3 ρ (s.Mh b1 z))(h1:o8 ρ []=true)(h2:px ρ []=true)(h3:vm 0 7 ρ=true)(hm:7≤nx2):
  eX Tryz.prog F P3 nx2 f (ys.map EV.v) (fun e F' rs' nx'=>e= .v (.tuple #[])∧F.sub F'∧nx'=nx2+7∧ ∃s':TL,s'.t=t'∧s'.at F'∧s'.b0=s.b0∧s'.events=s.events∧s'.be=s.be∧s'.ce=s.ce∧rs'=s'.hZ nx2 b1 z):=by
 refine (eX.named (m:=nx2 - 7) (nx2:=nx2) (vD:=s.Mh b1 z) (args2:=ys.map EV.v) (args:=ys.map EV.v) ρ h hr rfl (EI ρ ys) ?_ h1 h2 h3 (by omega) A4).mono fun e F' rs' nx' hq=>?_
 ·rw[eH];rfl
 obtain⟨e0,W7,W8,⟨r,k,e1,rfl,rfl,rfl,rfl,rfl,hs,s',ht,ha,hb,he1,he2,S8,rfl⟩,rfl,rfl,rfl⟩:=hq;refine⟨rfl,hs,by omega,s',ht,ha,hb,he1,he2,S8,?_⟩;rw[yD,←TL.Gn];congr 1;omega
theorem NA {N:Nat}{s s':TL}{b1:Nat}{z:Fr}{F0 F:Hp}{t':fr}{env:Env}{rs:RL}{nx:Nat}(m:Nat)(ρ:List (Nat×Nat))(hr:lR ρ rs ρ (s'.hZ m b1 z))(h1:o8 ρ []=true)(h2:px ρ []=true)(h3:vm nx (m+7) ρ=true)(h4:Nat.ble nx (m+7)=true)(hF:F0.sub F)(ht:s'.t=t')(ha:s'.at F)(hb:s'.b0=s.b0)(he1:s'.events=s.events)(he2:s'.be=s.be)(S8:s'.ce=s.ce):VS N [] ⟨env,F,rs,nx⟩ fun st'=>∃e,xL tb st' []=some e∧(∃i r k e0,st'.rs=gD i r∧st'.nx=i+k∧e=g8 i e0∧Zt s b1 z F0 t' e0 st'.F r k):=
 VS.mP ρ [] _ hr rfl rfl h1 h2 h3 h4 ⟨.v (.tuple #[]),rfl,m,s'.Mh b1 z,7,.v (.tuple #[]),(TL.Gn m s' b1 z).symm,rfl,rfl,rfl,rfl,hF,s',ht,ha,hb,he1,he2,S8,rfl⟩
attribute [local irreducible] vc dW gz fg fD gF gJ gB fJ Plain eD eX dK VS fv fA fG jt fh IntKind.wrap
set_option maxRecDepth 100000
set_option maxHeartbeats 4000000
theorem FP (s:TL)(b1:Nat)(z:Fr)(x:LP)(f:List Int){pf:Option Addr}{cf:Nat}{F:Hp}(h:s.at F)(hx:x.at F)(hn:s.fN.gE.length≤60)(hnf:gG s.fN=0)(hfl:f.length≤4611686018427387904)(hf:e9 F pf (f.map i64)):Q5 s b1 z F 69 [.agg x.row.toArray,.slice pf f.length cf,.pointer (some ⟨s.b0,0,none⟩)] (s.t.post x.l f):=by
 refine eX.args (args:=[.v (.agg x.row.toArray),.v (.slice pf f.length cf),.loc 0 0]) (eX.norm 7 (ah 7) (iT (N:=19) (rv:=[]) eW mixed Tryz.func69 rfl rfl rfl rfl rfl ?_)) rfl;(refine fZ ?_;repeat intro b);revert b;intro b7;refine fm rfl rfl rfl XX rfl (Ak s.fN x f hnf (by omega) h.fN hx hfl hf) ?_;rintro _ F2 hs2 ⟨y,rfl,hy,hyl,hy1,hy2⟩;(refine fZ ?_;repeat intro b);revert b;intro b8;refine eE (decide (lG s.fN f=0)) ?_ (fun h0=>?_) (fun h0=>?_)
 ·refine dV ?_;rw[ai];simp
 ·have h0:=ar h0;rw[aZ h0]at hy1 hy2;(refine fZ ?_;repeat intro b);refine jU (NA (s':={s with fN:=y}) 9 [(6,15),(5,14),(4,13),(3,12),(2,11),(1,10),(0,9)] ?_ rfl rfl rfl rfl hs2 (pP s y x.l f hnf h0 hy1 hy2) (TL.vv (TL.e8 hs2 h) hy) rfl rfl rfl rfl);exact (dM rfl rfl (dM rfl rfl (dM rfl rfl (dX rfl (dM rfl rfl (dM rfl rfl (dX rfl trivial)))))))
 have h0:=au h0;(refine fZ ?_;repeat intro b);refine jU (NA (s':=s) 9 [(6,15),(5,14),(4,13),(3,12),(2,11),(1,10),(0,9)] ?_ rfl rfl rfl rfl hs2 (r7 s x.l f hnf h0).symm (TL.e8 hs2 h) rfl rfl rfl rfl);exact (dM rfl rfl (dM rfl rfl (dM rfl rfl (dX rfl (dM rfl rfl (dM rfl rfl (dX rfl trivial)))))))
theorem E1 (s:TL)(b1:Nat)(z:Fr)(x:LP){pp:Option Addr}{F:Hp}(h:s.at F)(hx:x.at F)(hn:s.fN.gE.length≤60)(FV:gG s.fN=0)(hf: ∀f∈s.ej,f.f.length≤17592186044416)(hp:gi F pp=some (.func (.func 69) #[] #[.pointer (some ⟨s.b0,0,none⟩)])):Q5 s b1 z F 71 [.agg x.row.toArray,.pointer (some ⟨b1,0,none⟩),.pointer pp] (s.t.send x.l):=by
 refine eX.args (args:=[.v (.agg x.row.toArray),.loc 3 0,.v (.pointer pp)]) (eX.norm 7 (ah 7) (iT (N:=18) (rv:=[]) eW mixed Tryz.func71 rfl rfl rfl rfl rfl ?_)) rfl;(refine fZ ?_;repeat intro b);rename_i bx;revert b;intro b8;refine lp (β:=TL×oC×Hp) (fun q=>F.sub q.2.2∧q.1.at q.2.2∧q.1.b0=s.b0∧q.1.fN=s.fN∧q.1.events=s.events∧q.1.be=s.be∧q.1.ce=s.ce∧q.2.1.at q.2.2∧q.2.1.f.length≤17592186044416∧q.1.t.post x.l q.2.1.f=s.t.send x.l) (fun q=>⟨[(2,.v (.pointer pp)),(3,.loc 7 0),(4,.v q.2.1.v)],q.2.2,(7,⟨some bx,x.row.map .v,71,12⟩)::q.1.Mh b1 z,9⟩) rfl (fun q hq=>?_) (fun vb kn kr ke=>?_)
 ·obtain⟨s1,f,F1⟩:=q;obtain⟨hs1,a1,hb0,FW,he1,he2,S8,hf1,hfl,hP⟩:=hq;dsimp only at hs1 a1 hb0 FW he1 he2 S8 hf1 hfl hP ⊢;have hnf:gG s1.fN=0:=by rw[FW];exact FV
  (refine fZ ?_;repeat intro b);refine fw _ rfl rfl rfl rfl (iV hs1 hp) ?_;(refine fZ ?_;repeat intro b);rw[←hb0];refine nQ rfl rfl rfl VY rfl (Q5.at (FP s1 b1 z x f.f a1 (LP.e8 hs1 hx) (by rw[FW];exact hn) hnf (by omega) hf1) (nx2:=9) [(6,6),(5,5),(4,4),(3,3),(2,2),(1,1),(0,0)] (dM rfl rfl (dM rfl rfl (dM rfl rfl (dX rfl (dM rfl rfl (dM rfl rfl (dX rfl trivial))))))) rfl rfl rfl (by decide)) ?_;rintro _ F2 _ _ _ _ ⟨rfl,hs2,rfl,s4,oX,pW,hb4,hv1,hv2,hv3,rfl⟩;(refine fZ ?_;repeat intro b);exact jU (VS.id ⟨_,rfl,9,s4.Mh b1 z,7,.v (.tuple #[]),(TL.Gn 9 s4 b1 z).symm,rfl,rfl,rfl,rfl,hs1.trans hs2,s4,oX.trans hP,pW,hb4.trans hb0,hv1.trans he1,hv2.trans he2,hv3.trans S8,rfl⟩)
 refine eE (decide (0<s.ej.length)) ?_ (fun h0=>?_) (fun h0=>?_)
 ·refine dV ?_;rw[ai];simp
 ·obtain⟨f,r,e⟩: ∃f r,s.ej=f::r:=by
   cases hh:s.ej with
   | nil=>rw[hh]at h0;cases h0
   | cons f r=>exact⟨f,r,rfl⟩
  have e0:=TL.Qg h e;have hl:s.ej.length=r.length+1:=by rw[e];rfl
  have hle:=h.OP;obtain⟨bf,hbf⟩: ∃b,s.bf=some b:=by
   cases hh:s.bf with
   | some b=>exact⟨b,rfl⟩
   | none=>have:=h.vP hh;omega
  have hf1:=h.ej f (by rw[e];exact cT);have hf2:=hf f (by rw[e];exact cT);have WA:=TL.Nh h e;have es:s.t.send x.l=fr.post ({s with fo:=gU s.fo 1 s.cf 1,ej:=r,cf:=s.cf - 1}:TL).t x.l f.f:=by
   unfold fr.send;simp only[TL.t,e,a9]
  rw[es]at kn;clear kr ke es;obtain⟨dI,cl,dN,polls,fN,reach,jb,fo,ej,events,b0,bo,co,bp,cp,bf0,cf,xf,be,ce⟩:=s;dsimp only at *;subst hbf;dsimp only [TL.Mh,TL.jL];(refine run ?_;repeat intro b);refine jM 6 (by kernel_rfl) rfl rfl ?_;(refine run ?_;repeat intro b);refine dL rfl rfl rfl ⟨by omega,by omega,_,_,rfl,rfl⟩ ?_;refine om f.v rfl rfl rfl rfl rfl (by exact DJ (by simpa using e0)) ?_;(refine run ?_;repeat intro b);refine dL rfl rfl rfl ⟨by omega,by omega⟩ ?_;(refine run ?_;repeat intro b);refine kn _ (VS.freeze 8 [2,3,4] rfl rfl rfl rfl fun F1 hs1 hf3=>VS.id ?_);rw[fc,fc,fc,fc,fc];subst e;exact⟨(⟨dI,cl,dN,polls,fN,reach,jb,gU fo 1 cf 1,r,events,b0,bo,co,bp,cp,some bf,cf - 1,xf,be,ce⟩,f,F1),⟨hs1,TL.e8 hs1 WA,rfl,rfl,rfl,rfl,rfl,oC.e8 hs1 hf1,hf2,rfl⟩,rfl⟩
 (refine run ?_;repeat intro b);refine kn _ (VS.freeze 8 [2,3,4] rfl rfl rfl rfl fun F1 hs1 hf1=>VS.id ?_);rw[fc,fc,fc,fc,fc];refine⟨(s,⟨[1],some ⟨b8,0,none⟩,1⟩,F1),⟨hs1,TL.e8 hs1 h,rfl,rfl,rfl,rfl,rfl,hf1,(show 1≤17592186044416 by decide),?_⟩,rfl⟩;unfold fr.send;have e:s.ej=[]:=by have:=au h0;exact List.length_eq_zero_iff.1 (by omega)
 simp only[TL.t,e,cP]
end
section
open Go.TR
def pL (s:List UInt8):List (List UInt8):=if s=[] then [] else [s]
theorem Fh {l:List Ask}{k:Nat}(h:k<l.length)(A:List (List UInt8)):((A++(l.take (k+1)).map Ask.name).map S).map EV.v=((A++(l.take k).map Ask.name).map S).map EV.v++[EV.v (S l[k].name)]:=by
 rw[al h];simp only[aF,a9,cP,bU]
theorem RC (L:List (List UInt8))(s:List UInt8):(L.map S).map EV.v++[EV.v (S s)]=((L++[s]).map S).map EV.v:=by simp
attribute [local irreducible] vc dW gz fg fD gF gJ gB fJ Plain eD eX dK VS fv fA fG jt fh IntKind.wrap
attribute [local irreducible] dY gN iu gK fL kW
set_option maxRecDepth 100000
set_option maxHeartbeats 4000000
theorem qB (c:eI)(a:ji)(F:Hp):Plain Tryz.prog F 74 [c.v a] (.bool (gu c)):=by
 refine dQ (N:=12) (rv:=[.tmp 2]) eW mixed Tryz.func74 rfl rfl rfl rfl rfl ?_;(refine run ?_;repeat intro b);have e:lS (((c.dS.length:Nat):Int)==40) true (c.now==1000000000)=gu c:=by
  rw[fx,ai];unfold gu;simp;omega
 rw[e];rfl
theorem HO (c:eI)(a:ji)(more:List UInt8)(hw:c.wf)(h0:0<c.ez.length)(hlen:(jK c (pL more)).length≤1000000)(hm:more.length≤4611686018427387904){F:Hp}(ha:c.at F a):
  Plain Tryz.prog F 126 [c.v a,S more] (i64 ((jI c (pL more):Nat):Int)):=by
 obtain⟨bs,hb,wZ,hbs⟩:=ha.b;have hbl:=lC hb;obtain⟨⟨ps,ls,cs⟩,k1,k2,k3⟩:=nW hb (k:=c.ez.length - 1) (by omega);have kc:=m8 wZ k1;have hat:=(hbs _ k3).2;have hwl: ∀x∈gK c,x.wf:=(hw.ez _ (mV h0)).2;have hll:=(hw.ez _ (mV h0)).1;rw[←vJ h0]at k2;have oY:jK c (pL more)=(gK c).map Entry.name++c.queue.wait.map Ask.name++pL more:=rfl;have hbig: ∀s∈jK c (pL more),s.length≤4611686018427387904:=fun s hs=>by
  rw[oY]at hs;rcases aK.1 hs with hs | hs
  ·rcases aK.1 hs with hs | hs
   ·obtain⟨x,hx,rfl⟩:=aG.1 hs;exact (hwl x hx).1
   obtain⟨x,hx,rfl⟩:=aG.1 hs;exact (hw.queue.wait x hx).name
  unfold pL at hs;split at hs
  ·cases hs
  rw[aB.1 hs];exact hm
 have hN:(gK c).length+c.queue.wait.length+(pL more).length≤1000000:=by
  have:=hlen;rw[oY]at this;simp only[ag,ab]at this;omega
 have hfw:=ha.w;have hbn:=hw.OS;simp only at k2 hat;unfold jI;rw[oY]at hbig ⊢;clear hlen oY;subst k2;generalize gK c=ls at *;have ew:IntKind.i64.wrap (((c.ez.length:Nat):Int) - 1)=((c.ez.length - 1:Nat):Int):=by rw[wrap_i64 (by omega) (by omega)];omega
 refine dQ (N:=52) (rv:=[.tmp 4]) eW mixed Tryz.func126 rfl rfl rfl rfl rfl ?_;(refine run ?_;repeat intro b);rw[ew];refine dL rfl rfl rfl ⟨by omega,by omega,dR wZ (j:=c.ez.length - 1) (by rw[ab,hbl];omega)⟩ ?_;refine fw (Bk.v (ps,ls,cs)) rfl rfl rfl rfl (by rw[ae,aA];exact kc) ?_;(refine run ?_;repeat intro b);revert b;intro bC;refine eY (fun q:Nat×Option Nat×Nat=>q.1≤ls.length∧(q.2.1=none→q.1=0∧q.2.2=0)∧q.1≤q.2.2)
  (fun q=>⟨[(5,.row 1 0 q.1 q.2.2),(1,.v (S more)),(2,.loc 0 0),(17,.v (.slice ps ls.length cs)),(18,.v (i64 (ls.length:Nat))),(19,.v (i64 (q.1:Nat)))],F,[(1,⟨q.2.1,(((ls.take q.1).map Entry.name).map S).map EV.v,9,q.2.2 * 1⟩),(0,⟨some bC,[.v (i64 c.queue.most),.v (.slice a.w c.queue.wait.length a.cw),.v (i64 c.batch),.v (i64 c.every),.v (i64 c.now),.v (.slice a.h c.dS.length a.ch),.v (.slice a.b c.ez.length a.cb)],28,7⟩)],2⟩) (fun q=>ls.length - q.1) (0,none,0) ⟨az _,fun _=>⟨rfl,rfl⟩,ah _⟩ (VS.og 5 9 [1,2,17,18,19] rfl rfl (VS.id rfl)) ?_
 rintro⟨k,gq,cap⟩ ⟨hk,h3,h4⟩;dsimp only at hk h3 h4 ⊢;have hlk:((((ls.take k).map Entry.name).map S).map EV.v).length=k:=by rw[ab,ab,ab,aw];omega
 by_cases hlt:k<ls.length
 ·obtain⟨o1,o2⟩:=fa eM (by decide) hat k hlt;have hsn:=x6 hlt;generalize ls[k]=x at o2 hsn;(refine run ?_;repeat intro b);refine gw rfl (by omega) ?_;(refine run ?_;repeat intro b);refine dL rfl rfl rfl ⟨by omega,by omega,dR hat (j:=k * 2) (by rw[dO eM];omega)⟩ ?_;refine fB x.row rfl rfl rfl rfl rfl (by rw[ae];exact o1) (by rw[ae];exact o2) ?_;(refine run ?_;repeat intro b);refine fy rfl rfl rfl rfl rfl rfl rfl rfl (ff rfl rfl) tl h3 h4 rfl (by rw[hlk,aA];exact ah _) (by show _ * 16≤_;omega) (fun h=>by cases h) (fun _ b2 c2 hc2=>?_);(refine run ?_;repeat intro b);have hcells:((((ls.take k).map Entry.name).map S).map EV.v).take (k * 1)++[EV.v (S x.name)]=(((ls.take (k+1)).map Entry.name).map S).map EV.v:=by
   rw[hsn,an (by rw[hlk,aA];exact ah _)]
  rw[dT (by omega)];exact fH (k+1,some b2,c2) 1 [(4,1),(0,0)] [5,1,2,17,18,19] [(1,⟨some b2,(((ls.take (k+1)).map Entry.name).map S).map EV.v,9,c2 * 1⟩),(0,⟨some bC,[.v (i64 c.queue.most),.v (.slice a.w c.queue.wait.length a.cw),.v (i64 c.batch),.v (i64 c.every),.v (i64 c.now),.v (.slice a.h c.dS.length a.ch),.v (.slice a.b c.ez.length a.cb)],28,7⟩)] ⟨hlt,(fun h=>by cases h),hc2⟩ (by simp only;omega) (aM _ _)
   (fi ⟨_,rfl,rfl,rfl,rfl,.inl ⟨hcells.symm,fun e he=>fz _ e (hcells ▸ he)⟩⟩ (dX rfl trivial)) rfl rfl rfl rfl rfl rfl rfl
 have hge:k=ls.length:=by omega
 subst hge;rw[aD]at hlk ⊢;(refine run ?_;repeat intro b);refine gy rfl (by omega) ?_;(refine run ?_;repeat intro b);have hA:(ls.map Entry.name).length=ls.length:=ab ..;have h3':gq=none→(ls.map Entry.name).length+0=0∧cap=0:=fun h=>by have:=h3 h;omega
 have h4':(ls.map Entry.name).length+0≤cap:=by omega
 rw[←hA];generalize ls.map Entry.name=A at *;refine eY (fun q:Nat×Option Nat×Nat=>q.1≤c.queue.wait.length∧(q.2.1=none→A.length+q.1=0∧q.2.2=0)∧A.length+q.1≤q.2.2)
  (fun q=>⟨[(5,.row 2 0 (A.length+q.1) q.2.2),(1,.v (S more)),(2,.loc 0 0),(31,.v (.slice a.w c.queue.wait.length a.cw)),(32,.v (i64 (c.queue.wait.length:Nat))),(33,.v (i64 (q.1:Nat)))],F,[(2,⟨q.2.1,((A++(c.queue.wait.take q.1).map Ask.name).map S).map EV.v,9,q.2.2 * 1⟩),(0,⟨some bC,[.v (i64 c.queue.most),.v (.slice a.w c.queue.wait.length a.cw),.v (i64 c.batch),.v (i64 c.every),.v (i64 c.now),.v (.slice a.h c.dS.length a.ch),.v (.slice a.b c.ez.length a.cb)],28,7⟩)],3⟩) (fun q=>c.queue.wait.length - q.1) (0,gq,cap) ⟨az _,h3',h4'⟩ (VS.mP (nx':=3) [(1,2),(0,0)] [5,1,2,31,32,33] [(2,⟨gq,((A++(c.queue.wait.take 0).map Ask.name).map S).map EV.v,9,cap * 1⟩),(0,⟨some bC,[.v (i64 c.queue.most),.v (.slice a.w c.queue.wait.length a.cw),.v (i64 c.batch),.v (i64 c.every),.v (i64 c.now),.v (.slice a.h c.dS.length a.ch),.v (.slice a.b c.ez.length a.cb)],28,7⟩)] (fi ⟨_,rfl,rfl,rfl,rfl,.inl ⟨(by rw[df,cP,bV]),fun e he=>fz _ e he⟩⟩ (dX rfl trivial)) rfl rfl rfl rfl rfl rfl rfl) ?_
 clear h3' h4';clear h3 h4 hlt;rintro⟨k,gq,cap⟩ ⟨hk,h3,h4⟩;dsimp only at hk h3 h4 ⊢;have hlk:(((A++(c.queue.wait.take k).map Ask.name).map S).map EV.v).length=A.length+k:=by rw[ab,ab,ag,ab,aw];omega
 by_cases hlt:k<c.queue.wait.length
 ·obtain⟨o1,o2⟩:=fa gn (by decide) hfw k hlt;have hsn:=Fh hlt A;generalize c.queue.wait[k]=x at o2 hsn;(refine run ?_;repeat intro b);refine gw rfl (by omega) ?_;(refine run ?_;repeat intro b);refine dL rfl rfl rfl ⟨by omega,by omega,dR hfw (j:=k * 4) (by rw[dO gn];omega)⟩ ?_;refine fB x.cells rfl rfl rfl rfl rfl (by rw[ae];exact o1) (by rw[ae];exact o2) ?_;(refine run ?_;repeat intro b);refine fy rfl rfl rfl rfl rfl rfl rfl rfl (ff rfl rfl) tl h3 h4 rfl (by rw[hlk,aA];exact ah _) (by show _ * 16≤_;omega) (fun h=>by cases h) (fun _ b2 c2 hc2=>?_);(refine run ?_;repeat intro b);have hcells:(((A++(c.queue.wait.take k).map Ask.name).map S).map EV.v).take ((A.length+k) * 1)++[EV.v (S x.name)]=((A++(c.queue.wait.take (k+1)).map Ask.name).map S).map EV.v:=by
   rw[hsn,an (by rw[hlk,aA];exact ah _)]
  rw[dT (by omega)];exact fH (k+1,some b2,c2) 2 [(5,2),(0,0)] [5,1,2,31,32,33] [(2,⟨some b2,((A++(c.queue.wait.take (k+1)).map Ask.name).map S).map EV.v,9,c2 * 1⟩),(0,⟨some bC,[.v (i64 c.queue.most),.v (.slice a.w c.queue.wait.length a.cw),.v (i64 c.batch),.v (i64 c.every),.v (i64 c.now),.v (.slice a.h c.dS.length a.ch),.v (.slice a.b c.ez.length a.cb)],28,7⟩)] ⟨hlt,(fun h=>by cases h),hc2⟩ (by simp only;omega) (aM _ _)
   (fi ⟨_,rfl,rfl,rfl,rfl,.inl ⟨hcells.symm,fun e he=>fz _ e (hcells ▸ he)⟩⟩ (dX rfl trivial)) rfl rfl rfl rfl rfl rfl rfl
 have hge:k=c.queue.wait.length:=by omega
 subst hge;rw[aD]at hlk ⊢;have hB:(A++c.queue.wait.map Ask.name).length=A.length+c.queue.wait.length:=by rw[ag,ab]
 (refine run ?_;repeat intro b);refine gy rfl (by omega) ?_;(refine run ?_;repeat intro b);generalize hBe:A++c.queue.wait.map Ask.name=B at *;rw[←hB];have aay:B.length≤1000000:=by omega
 have h3':gq=none→B.length=0∧cap=0:=fun h=>by have:=h3 h;omega
 refine eE (decide (more≠[])) ?_ (fun h=>?_) (fun h=>?_)
 ·refine dV ?_;show (!decide (bl (jE more)=bl (jE [])))=_;rw[Md,Md,ai];simp
 ·have hmo:pL more=[more]:=by unfold pL;rw[aY (ar h)]
  rw[hmo]at hbig hN ⊢;have hx:(B++[more]).length=B.length+1:=by simp
  (refine run ?_;repeat intro b);refine fy rfl rfl rfl rfl rfl rfl rfl rfl (ff rfl rfl) tl h3' (by omega) rfl (by rw[hlk,aA,hB];exact ah _) (by show _ * 16≤_;omega) (fun h=>by cases h) (fun _ b2 c2 hc2=>?_);have hcells:((B.map S).map EV.v).take (B.length * 1)++[EV.v (S more)]=((B++[more]).map S).map EV.v:=by
   rw[←RC,an (by rw[hlk,aA,hB];exact ah _)]
  rw[hcells];refine fX (VS.freeze 4 [2,48] rfl (eH _) rfl rfl fun F1 hs1 hf1=>VS.id ?_);(refine run ?_;repeat intro b);have Du:=tw (B++[more]) (c:=c2) (by rw[hx];omega) hbig hf1;rw[hx]at Du;refine fm rfl rfl rfl M0 rfl Du ?_;rintro _ F2 hF2 ⟨p3,c3,rfl,hf3⟩;(refine run ?_;repeat intro b);rfl
 have hmo:pL more=[]:=by unfold pL;rw[aZ (by simpa using h)]
 rw[hmo,bV]at hbig ⊢;(refine l5 ?_;repeat intro b);refine mA (VS.shut (fun pS=>[(5,.v (.slice pS B.length cap))]) 2 [5] rfl (eH _) (fun _=>rfl) rfl (fun _=>rfl) rfl fun F2 pS hF2 hgS=>?_);(refine run ?_;repeat intro b);have Du:=tw B (c:=cap) (by omega) hbig hgS;refine fm rfl rfl rfl M0 rfl Du ?_;rintro _ F3 FX ⟨p3,c3,rfl,hf3⟩;(refine run ?_;repeat intro b);rfl
end
section
open Go.TR
attribute [local irreducible] vc dW gz fg fD gF gJ gB fJ Plain eD eX dK VS fv fA fG jt fh IntKind.wrap
attribute [local irreducible] dY gN iu gK fL gh fj fu jG jI
set_option maxRecDepth 100000
set_option maxHeartbeats 4000000
end
end Go.Proofs.YthbnddgjkonkdaaGreatDoor
