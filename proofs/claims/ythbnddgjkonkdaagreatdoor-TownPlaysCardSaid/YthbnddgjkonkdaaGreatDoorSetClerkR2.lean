/- A part of the proof. -/
import Derived.Test.YthbnddgjkonkdaaGreatDoorSetTownPlay
set_option linter.unusedVariables false
set_option linter.unusedSimpArgs false
namespace Go.Proofs.YthbnddgjkonkdaaGreatDoor
section
open Go.TR
theorem B3 {l:List Int}{k:Nat}(h:k<l.length):(l.take (k+1)).any jZ=((l.take k).any jZ||jZ l[k]):=by
 rw[al h,bI];simp
attribute [local irreducible] vc dT gx fc fA gC gG gw fG Plain eu eR dH VS fq fx fD ju fe IntKind.wrap
set_option maxRecDepth 100000
set_option maxHeartbeats 4000000
theorem Au (n:NP)(x:LP)(fs:List Int){pf:Option Addr}{cf:Nat}{F:Hp}(hz:gD n=0)(hl:n.gz.length≤4611686018427387904)(hn:n.at F)(hx:x.at F)(hfl:fs.length≤4611686018427387904)(Rg:eY F pf (fs.map i64)):
  iu Tryz.prog F 70 [n.v,.agg x.row.toArray,.slice pf fs.length cf] (IK n x.l fs):=by
 obtain⟨z1,z2,z3⟩:=oR hz;refine eu.drop (fU (N:=62) (rv:=[.cell 6 62,.tmp 7]) eP mixed Tryz.func70 rfl rfl rfl rfl rfl ?_);(refine run ?_;repeat intro b);rename_i b0 b1;generalize b=b2;refine eU (fun k:Nat=>k≤fs.length∧(fs.take k).any jZ=false) (fun k=>⟨[(2,.v (.slice pf fs.length cf)),(3,.loc 0 0),(4,.loc 1 0),(6,.loc 2 0),(14,.v (.slice pf fs.length cf)),(15,.v (i64 (fs.length:Nat))),(16,.v (i64 (k:Nat)))],F,[(2,⟨some b2,[.v (i64 0),.v (.slice none 0 0)],62,2⟩),(1,⟨some b1,x.row.map .v,71,12⟩),(0,⟨some b0,[.v (i64 n.now),.v (.slice n.p n.gz.length n.c)],62,2⟩)],3⟩) (fun k=>fs.length - k) 0 ⟨az _,rfl⟩ (VS.eH [2,3,4,6,14,15,16] rfl rfl) ?_;rintro k ⟨hk,hu⟩;by_cases hlt:k<fs.length
 ·have g:=gQ Rg (j:=k) (by rw[ab];exact hlt);rw[cD]at g;have hs:=B3 hlt;rw[hu,bu]at hs;have hany:jZ fs[k]=true→fs.any jZ=true:=fun h=>bK.2 ⟨_,aj hlt,h⟩;generalize fs[k]=f at g hs hany;(refine run ?_;repeat intro b);refine gm rfl (by omega) ?_;(refine run ?_;repeat intro b);refine dI rfl rfl rfl ⟨by omega,by omega,dO Rg (j:=k) (by rw[ab];exact hlt)⟩ ?_;refine fr (i64 f) rfl rfl rfl rfl (by rw[ae,aA];exact g) ?_;(refine run ?_;repeat intro b);refine ez (jZ f) ?_ (fun h=>?_) (fun h=>?_)
  ·refine dS ?_;rw[fu];rfl
  ·(refine run ?_;repeat intro b);exact eM (VS.id ⟨_,rfl,oX (e:=4) (by unfold lD;rw[aY (by simpa using hz),aZ (hany h)]) (by decide) F⟩)
  rw[h]at hs;(refine run ?_;repeat intro b);rw[dQ (by omega)];exact fj (k+1) ⟨hlt,hs⟩ (by omega) (VS.eH [2,3,4,6,14,15,16] rfl rfl)
 have hge:k=fs.length:=by omega
 subst hge;rw[aD]at hu;have hbad:=hu;have hE:lD n fs=if 60<n.gz.length+fs.length then 7 else 0:=by unfold lD;rw[aY (by simpa using hz),aY (by rw[hu];decide)]
 (refine run ?_;repeat intro b);refine gu rfl (by omega) ?_;(refine run ?_;repeat intro b);refine ez (decide (60<n.gz.length+fs.length)) ?_ (fun h=>?_) (fun h=>?_)
 ·refine dS ?_;rw[wrap_i64 (by omega) (by omega),ai];simp;omega
 ·rw[aZ (ar h)]at hE;(refine run ?_;repeat intro b);exact eM (VS.id ⟨_,rfl,oX hE (by decide) F⟩)
 have hlen:=au h;rw[aY hlen]at hE;(refine run ?_;repeat intro b);refine k7 (Qj n F)
  (fun q=>⟨[(2,.v (.slice pf fs.length cf)),(3,.loc 0 0),(4,.loc 1 0),(6,.loc 2 0),(10,.loc 5 0)],q.1,[(0,⟨some b0,[.v (i64 n.now),.v (.slice n.p n.gz.length n.c)],62,2⟩),(1,⟨some b1,x.row.map .v,71,12⟩),(2,⟨some b2,[.v (i64 0),.v (.slice none 0 0)],62,2⟩),(5,⟨some q.2.2.2.2,[.v (i64 n.now),.row 6 0 n.gz.length q.2.2.2.1],62,2⟩),(6,⟨q.2.2.1,(q.2.1.flatMap LP.row).map .v,71,q.2.2.2.1 * 12⟩)],7⟩) rfl ?rest ?reg
 case reg=>
  intro u7 kn kr ke;refine fz [0] (by kernel_rfl) ?_;refine dR [0,1,2,3] (f':=4) (by kernel_rfl) rfl rfl rfl ?_;(refine run ?_;repeat intro b);refine jC 4 6 (by kernel_rfl) rfl rfl rfl ?_ ?_
  ·refine jy [] rfl rfl rfl rfl rfl rfl rfl (eG _ _) (iV (dL je _) hn.gz) (gy _ (qe _)) (by show (0+_) * 152≤_;omega) (fun h0=>?_) (fun h0 b5 c5 wX=>?_)
   ·have hw0:n.gz=[]:=aq h0;(refine run ?_;repeat intro b);refine eC (Hp.sub.refl _) (dM rfl) ?_;refine dR [5] (f':=2) (by kernel_rfl) rfl rfl rfl ?_;(refine run ?_;repeat intro b);refine dY 6 (by kernel_rfl) rfl rfl ?_;(refine run ?_;repeat intro b);refine eC (Hp.sub.refl _) (dM rfl) ?_;refine dY 7 (by kernel_rfl) rfl rfl ?_;(refine run ?_;repeat intro b);refine eC (Hp.sub.refl _) (dM rfl) ?_;refine fk (by kernel_rfl) (kn _ (VS.l6 71 ?_));refine VS.l5 3 [.v (i64 n.now),.row 4 0 n.gz.length 0] rfl ⟨⟨trivial,rfl⟩,⟨(by decide:4<5),(a8 (fun m=>some (Value.slice none m 0)) h0.symm)⟩,trivial⟩ rfl ?_;exact VS.mM (nx':=7) [(0,0),(1,1),(2,2),(3,5),(4,6)] [2,3,4,6,10] [(0,⟨some b0,[.v (i64 n.now),.v (.slice n.p n.gz.length n.c)],62,2⟩),(1,⟨some b1,x.row.map .v,71,12⟩),(2,⟨some b2,[.v (i64 0),.v (.slice none 0 0)],62,2⟩),(5,⟨some b,[.v (i64 n.now),.row 6 0 n.gz.length 0],62,2⟩),(6,⟨none,(List.flatMap LP.row ([]:List LP)).map .v,71,0 * 12⟩)]
     (dU rfl (dU rfl (dU rfl (dU rfl (dU rfl trivial))))) rfl rfl rfl rfl rfl rfl ⟨(F,([]:List LP),none,0,b),⟨Hp.sub.refl _,by rw[hw0],by simp,Nat.le_of_eq h0,fun _=>⟨h0,rfl⟩⟩,rfl⟩
   simp only[aP,cM,cX]at wX ⊢;(refine run ?_;repeat intro b);refine eC (Hp.sub.refl _) (dM rfl) ?_;refine dR [5] (f':=2) (by kernel_rfl) rfl rfl rfl ?_;(refine run ?_;repeat intro b);refine dY 6 (by kernel_rfl) rfl rfl ?_;(refine run ?_;repeat intro b);refine eC (Hp.sub.refl _) (dM rfl) ?_;refine dY 7 (by kernel_rfl) rfl rfl ?_;(refine run ?_;repeat intro b);refine eC (Hp.sub.refl _) (dM rfl) ?_;refine fk (by kernel_rfl) (kn _ ?_);refine VS.l5 4 [.v (i64 n.now),.row 3 0 n.gz.length c5] rfl ⟨⟨trivial,rfl⟩,⟨(by decide:3<5),rfl⟩,trivial⟩ rfl ?_;exact VS.mM (nx':=7) [(0,0),(1,1),(2,2),(4,5),(3,6)] [2,3,4,6,10] [(0,⟨some b0,[.v (i64 n.now),.v (.slice n.p n.gz.length n.c)],62,2⟩),(1,⟨some b1,x.row.map .v,71,12⟩),(2,⟨some b2,[.v (i64 0),.v (.slice none 0 0)],62,2⟩),(5,⟨some b,[.v (i64 n.now),.row 6 0 n.gz.length c5],62,2⟩),(6,⟨(some b5),(List.flatMap LP.row n.gz).map .v,71,c5 * 12⟩)]
    (dU rfl (dU rfl (dU rfl (dU rfl (ff ⟨_,rfl,rfl,rfl,rfl,.inl ⟨rfl,fun e he=>fw _ e he⟩⟩ trivial))))) rfl rfl rfl rfl rfl rfl ⟨(F,n.gz,(some b5),c5,b),⟨Hp.sub.refl _,rfl,hn.each,wX,fun h=>by cases h⟩,rfl⟩
  (refine run ?_;repeat intro b);refine eC (Hp.sub.refl _) (dM rfl) ?_;refine dY 4 (by kernel_rfl) rfl rfl ?_;refine jy [] rfl rfl rfl rfl rfl rfl rfl (eG _ _) (iV (dL je _) hn.gz) (gy _ (qe _)) (by show (0+_) * 152≤_;omega) (fun h0=>?_) (fun h0 b5 c5 wX=>?_)
  ·have hw0:n.gz=[]:=aq h0;(refine run ?_;repeat intro b);refine eC (Hp.sub.refl _) (dM rfl) ?_;refine dR [5] (f':=1) (by kernel_rfl) rfl rfl rfl ?_;(refine run ?_;repeat intro b);refine dY 7 (by kernel_rfl) rfl rfl ?_;(refine run ?_;repeat intro b);refine eC (Hp.sub.refl _) (dM rfl) ?_;refine fk (by kernel_rfl) (kn _ (VS.l6 71 ?_));refine VS.l5 3 [.v (i64 n.now),.row 4 0 n.gz.length 0] rfl ⟨⟨trivial,rfl⟩,⟨(by decide:4<5),(a8 (fun m=>some (Value.slice none m 0)) h0.symm)⟩,trivial⟩ rfl ?_;exact VS.mM (nx':=7) [(0,0),(1,1),(2,2),(3,5),(4,6)] [2,3,4,6,10] [(0,⟨some b0,[.v (i64 n.now),.v (.slice n.p n.gz.length n.c)],62,2⟩),(1,⟨some b1,x.row.map .v,71,12⟩),(2,⟨some b2,[.v (i64 0),.v (.slice none 0 0)],62,2⟩),(5,⟨some b,[.v (i64 n.now),.row 6 0 n.gz.length 0],62,2⟩),(6,⟨none,(List.flatMap LP.row ([]:List LP)).map .v,71,0 * 12⟩)]
    (dU rfl (dU rfl (dU rfl (dU rfl (dU rfl trivial))))) rfl rfl rfl rfl rfl rfl ⟨(F,([]:List LP),none,0,b),⟨Hp.sub.refl _,by rw[hw0],by simp,Nat.le_of_eq h0,fun _=>⟨h0,rfl⟩⟩,rfl⟩
  simp only[aP,cM,cX]at wX ⊢;(refine run ?_;repeat intro b);refine eC (Hp.sub.refl _) (dM rfl) ?_;refine dR [5] (f':=1) (by kernel_rfl) rfl rfl rfl ?_;(refine run ?_;repeat intro b);refine dY 7 (by kernel_rfl) rfl rfl ?_;(refine run ?_;repeat intro b);refine eC (Hp.sub.refl _) (dM rfl) ?_;refine fk (by kernel_rfl) (kn _ ?_);refine VS.l5 3 [.v (i64 n.now),.row 4 0 n.gz.length c5] rfl ⟨⟨trivial,rfl⟩,⟨(by decide:4<5),rfl⟩,trivial⟩ rfl ?_;exact VS.mM (nx':=7) [(0,0),(1,1),(2,2),(3,5),(4,6)] [2,3,4,6,10] [(0,⟨some b0,[.v (i64 n.now),.v (.slice n.p n.gz.length n.c)],62,2⟩),(1,⟨some b1,x.row.map .v,71,12⟩),(2,⟨some b2,[.v (i64 0),.v (.slice none 0 0)],62,2⟩),(5,⟨some b,[.v (i64 n.now),.row 6 0 n.gz.length c5],62,2⟩),(6,⟨(some b5),(List.flatMap LP.row n.gz).map .v,71,c5 * 12⟩)]
   (dU rfl (dU rfl (dU rfl (dU rfl (ff ⟨_,rfl,rfl,rfl,rfl,.inl ⟨rfl,fun e he=>fw _ e he⟩⟩ trivial))))) rfl rfl rfl rfl rfl rfl ⟨(F,n.gz,(some b5),c5,b),⟨Hp.sub.refl _,rfl,hn.each,wX,fun h=>by cases h⟩,rfl⟩
 case rest=>
  rintro⟨F1,M,gl,c1,b9⟩ ⟨g1,g2,g3,g4,g5⟩;dsimp only at g1 g2 g3 g4 g5 ⊢;(refine run ?_;repeat intro b);refine eU (P8 n x.l fs F)
   (fun q=>⟨[(3,.loc 0 0),(4,.loc 1 0),(6,.loc 2 0),(10,.loc 5 0),(42,.v (.slice pf fs.length cf)),(43,.v (i64 (fs.length:Nat))),(44,.v (i64 (q.1:Nat)))],q.2.2.1,[(0,⟨some b0,[.v (i64 n.now),.v (.slice n.p n.gz.length n.c)],62,2⟩),(1,⟨some b1,x.row.map .v,71,12⟩),(2,⟨some b2,[.v (i64 0),.v (.slice none 0 0)],62,2⟩),(5,⟨some b9,[.v (i64 n.now),.row 7 0 (n.gz.length+q.1) q.2.2.2.2],62,2⟩),(7,⟨q.2.2.2.1,(q.2.1.flatMap LP.row).map .v,71,q.2.2.2.2 * 12⟩)],8⟩) (fun q=>fs.length - q.1) (0,M,F1,gl,c1) ⟨az _,by rw[g2];simp,g3,g1,g5,g4⟩
   (VS.mM (nx':=8) [(0,0),(1,1),(2,2),(5,5),(6,7)] [3,4,6,10,42,43,44] [(0,⟨some b0,[.v (i64 n.now),.v (.slice n.p n.gz.length n.c)],62,2⟩),(1,⟨some b1,x.row.map .v,71,12⟩),(2,⟨some b2,[.v (i64 0),.v (.slice none 0 0)],62,2⟩),(5,⟨some b9,[.v (i64 n.now),.row 7 0 n.gz.length c1],62,2⟩),(7,⟨gl,(M.flatMap LP.row).map .v,71,c1 * 12⟩)]
    (dU rfl (dU rfl (dU rfl (dU rfl (ff ⟨_,rfl,rfl,rfl,rfl,.inl ⟨rfl,fun e he=>fw _ e he⟩⟩ trivial))))) rfl rfl rfl rfl rfl rfl rfl) ?_
  rintro⟨k,L,F2,FX,cap⟩ ⟨h1,h2,h3,h4,h5,h6⟩;dsimp only at h1 h2 h3 h4 h5 h6 ⊢;have hL:L.length=n.gz.length+k:=by
   have:=a8 List.length h2;simp only[ab,ag,aw]at this;omega
  by_cases hlt:k<fs.length
  ·have g:=gQ Rg (j:=k) (by rw[ab];exact hlt);rw[cD]at g;obtain⟨r1,r2⟩:=AK hbad hlt;have h2':(L.map LP.l)++[x.l.by (n.now+fs[k])]=n.gz.map LP.l++((fs.take (k+1)).map fun k=>x.l.by (n.now+k)):=by rw[h2,al hlt,aF,bM];rfl
   generalize fs[k]=f at g r1 r2 h2';have ew:IntKind.i64.wrap (n.now+f)=n.now+f:=wrap_i64 (by omega) (by omega);(refine run ?_;repeat intro b);refine gm rfl (by omega) ?_;(refine run ?_;repeat intro b);refine dI rfl rfl rfl ⟨by omega,by omega,dO Rg (j:=k) (by rw[ab];exact hlt)⟩ ?_;refine fr (i64 f) rfl rfl rfl rfl (by rw[ae,aA];exact iS h4 g) ?_;(refine run ?_;repeat intro b);rw[ew];refine fv rfl rfl rfl rfl rfl rfl rfl rfl (fb rfl rfl) (gy _ (qe [(⟨x.l.by (n.now+f),x.ph,x.ch,x.a⟩:LP)])) h5 h6 rfl (by rw[ab,dL je,hL];exact ah _) (by show _ * 152≤_;omega) (fun h=>by cases h) (fun _ b3 c3 hc3=>?_);(refine run ?_;repeat intro b);have hcells:=nU L ⟨x.l.by (n.now+f),x.ph,x.ch,x.a⟩ (n.gz.length+k) hL;have ax:=LP.eX h4 hx;rw[dQ (by omega)];exact fE (k+1,L++[(⟨x.l.by (n.now+f),x.ph,x.ch,x.a⟩:LP)],F2,some b3,c3) 7 [(0,0),(1,1),(2,2),(5,5),(10,7)] [3,4,6,10,42,43,44] [(0,⟨some b0,[.v (i64 n.now),.v (.slice n.p n.gz.length n.c)],62,2⟩),(1,⟨some b1,x.row.map .v,71,12⟩),(2,⟨some b2,[.v (i64 0),.v (.slice none 0 0)],62,2⟩),(5,⟨some b9,[.v (i64 n.now),.row 7 0 (n.gz.length+(k+1)) c3],62,2⟩),(7,⟨some b3,((L++[(⟨x.l.by (n.now+f),x.ph,x.ch,x.a⟩:LP)]).flatMap LP.row).map .v,71,c3 * 12⟩)]
    ⟨hlt,by rw[aF,←h2'];rfl,fun z hz=>by rcases aK.1 hz with hz | hz;exact h3 z hz;rw[aB.1 hz];exact⟨ax.dP,ax.nJ⟩,h4,(fun h=>by cases h),hc3⟩ (by simp only;omega) (aM _ _)
    (dU rfl (dU rfl (dU rfl (dU rfl (ff ⟨_,rfl,rfl,rfl,rfl,.inl ⟨hcells.symm,fun e he=>fw _ e (hcells ▸ he)⟩⟩ trivial))))) rfl rfl rfl rfl rfl rfl rfl
  have hge:k=fs.length:=by omega
  subst hge;rw[aD]at h2;(refine run ?_;repeat intro b);refine gu rfl (by omega) ?_;(refine run ?_;repeat intro b);cases FX with
  | none=>
   obtain⟨e1,e2⟩:=h5 rfl;have e3:L=[]:=aq (by omega);subst e3;exact eM (VS.id ⟨_,rfl,uH hE [] hL h2 (by decide) (eG _ _) (by simp)⟩)
  | some b5=>
   exact eM (VS.freeze 7 [6,7] rfl (eD _) rfl rfl fun F4 hs4 zU=>VS.id ⟨_,rfl,uH hE L hL h2 (by omega) zU (fun z hz=>LP.eX hs4 (h3 z hz))⟩)
end
section
open Go.TR
@[reducible] def TL.jH (s:TL) (n1 n2:Nat):List EV:=[.v (i64 s.dF.queue.most),.v (.slice s.cl.w s.dF.queue.wait.length s.cl.cw),.v (i64 s.dF.batch),.v (i64 s.dF.every),.v (i64 s.dF.now),.v (.slice s.cl.h s.dF.dP.length s.cl.ch),.v (.slice s.cl.b s.dF.ee.length s.cl.cb),.row n1 0 s.dK.length s.co,.row n2 0 s.polls.length s.cp,.v (i64 s.fJ.now),.v (.slice s.fJ.p s.fJ.gz.length s.fJ.c)]
@[reducible] def TL.g8 (n:Nat) (s:TL) (b1:Nat) (z:Fr):RL:=[(n+6,⟨some z.b,z.cells.map EV.v,z.ty,z.cap⟩),(n+5,⟨s.be,(s.events.flatMap lU.row).map EV.v,167,s.ce * 4⟩),(n+4,⟨s.bf,s.iY.map EV.v,69,s.xf⟩),(n+3,⟨some b1,[.row (n+4) s.fo s.dX.length s.cf],138,1⟩),(n+2,⟨s.bp,(s.polls.flatMap Poll.row).map EV.v,159,s.cp * 6⟩),(n+1,⟨s.bo,(s.dK.flatMap jh.row).map EV.v,76,s.co * 8⟩),(n,⟨some s.b0,s.jH (n+1) (n+2),64,11⟩)]
@[reducible] def TL.L5 (s:TL) (b1:Nat) (z:Fr):RL:=[(6,⟨some z.b,z.cells.map EV.v,z.ty,z.cap⟩),(5,⟨s.be,(s.events.flatMap lU.row).map EV.v,167,s.ce * 4⟩),(4,⟨s.bf,s.iY.map EV.v,69,s.xf⟩),(3,⟨some b1,[.row 4 s.fo s.dX.length s.cf],138,1⟩),(2,⟨s.bp,(s.polls.flatMap Poll.row).map EV.v,159,s.cp * 6⟩),(1,⟨s.bo,(s.dK.flatMap jh.row).map EV.v,76,s.co * 8⟩),(0,⟨some s.b0,s.jH 1 2,64,11⟩)]
theorem TL.GF (n:Nat)(s:TL)(b1:Nat)(z:Fr):gB n (s.L5 b1 z)=s.g8 n b1 z:=by
 unfold gB gV TL.L5 TL.g8;simp only[a9,cM,pX];rfl
def ZT (s:TL)(b1:Nat)(z:Fr)(F:Hp)(t':fm)(e:EV)(F':Hp)(r:RL)(k:Nat):Prop:=
 e= .v (.tuple #[])∧k=7∧F.sub F'∧ ∃s':TL,s'.t=t'∧s'.at F'∧s'.b0=s.b0∧s'.events=s.events∧s'.be=s.be∧s'.ce=s.ce∧r=s'.L5 b1 z
def QW (s:TL)(b1:Nat)(z:Fr)(F:Hp)(f:FuncId)(ys:List Value)(t':fm):Prop:=
 eR Tryz.prog F (s.L5 b1 z) 7 f (ys.map EV.v) (fun e F' rs' nx'=>∃r k e0,rs'=gB 7 r∧nx'=7+k∧e=gX 7 e0∧ZT s b1 z F t' e0 F' r k)
theorem FI (ρ:List (Nat×Nat)): ∀ys:List Value,sx ρ (ys.map EV.v)=some (ys.map EV.v)
 | []=>rfl
 | a::l=>by simp only[a9,sx,qj,FI ρ l]
theorem QW.at {s:TL}{b1:Nat}{z:Fr}{F:Hp}{f:FuncId}{ys:List Value}{t':fm}(h:QW s b1 z F f ys t'){P0:RL}{nx2:Nat}(ρ:List (Nat×Nat))(hr:lQ ρ P0 ρ (s.L5 b1 z))(h1:oW ρ []=true)(h2:pc ρ []=true)(h3:vd 0 7 ρ=true)(hm:7≤nx2):
  eR Tryz.prog F P0 nx2 f (ys.map EV.v) (fun e F' rs' nx'=>e= .v (.tuple #[])∧F.sub F'∧nx'=nx2+7∧ ∃s':TL,s'.t=t'∧s'.at F'∧s'.b0=s.b0∧s'.events=s.events∧s'.be=s.be∧s'.ce=s.ce∧rs'=s'.g8 nx2 b1 z):=by
 refine (eR.named (m:=nx2 - 7) (nx2:=nx2) (vf:=s.L5 b1 z) (args2:=ys.map EV.v) (args:=ys.map EV.v) ρ h hr rfl (FI ρ ys) ?_ h1 h2 h3 (by omega) AA).mono fun e F' rs' nx' hq=>?_
 ·rw[eD];rfl
 obtain⟨e0,W4,W5,⟨r,k,e1,rfl,rfl,rfl,rfl,rfl,hs,s',ht,ha,hb,he1,he2,S5,rfl⟩,rfl,rfl,rfl⟩:=hq;refine⟨rfl,hs,by omega,s',ht,ha,hb,he1,he2,S5,?_⟩;rw[x5,←TL.GF];congr 1;omega
theorem Nv {N:Nat}{s s':TL}{b1:Nat}{z:Fr}{F0 F:Hp}{t':fm}{env:Env}{rs:RL}{nx:Nat}(m:Nat)(ρ:List (Nat×Nat))(hr:lQ ρ rs ρ (s'.g8 m b1 z))(h1:oW ρ []=true)(h2:pc ρ []=true)(h3:vd nx (m+7) ρ=true)(h4:Nat.ble nx (m+7)=true)(hF:F0.sub F)(ht:s'.t=t')(ha:s'.at F)(hb:s'.b0=s.b0)(he1:s'.events=s.events)(he2:s'.be=s.be)(S5:s'.ce=s.ce):VS N [] ⟨env,F,rs,nx⟩ fun st'=>∃e,yR tb st' []=some e∧(∃i r k e0,st'.rs=gB i r∧st'.nx=i+k∧e=gX i e0∧ZT s b1 z F0 t' e0 st'.F r k):=
 VS.mM ρ [] _ hr rfl rfl h1 h2 h3 h4 ⟨.v (.tuple #[]),rfl,m,s'.L5 b1 z,7,.v (.tuple #[]),(TL.GF m s' b1 z).symm,rfl,rfl,rfl,rfl,hF,s',ht,ha,hb,he1,he2,S5,rfl⟩
attribute [local irreducible] vc dT gx fc fA gC gG gw fG Plain eu eR dH VS fq fx fD ju fe IntKind.wrap
set_option maxRecDepth 100000
set_option maxHeartbeats 4000000
theorem EP (s:TL)(b1:Nat)(z:Fr)(x:LP)(f:List Int){pf:Option Addr}{cf:Nat}{F:Hp}(h:s.at F)(hx:x.at F)(hn:s.fJ.gz.length≤60)(hnf:gD s.fJ=0)(hfl:f.length≤4611686018427387904)(hf:eY F pf (f.map i64)):QW s b1 z F 69 [.agg x.row.toArray,.slice pf f.length cf,.pointer (some ⟨s.b0,0,none⟩)] (s.t.post x.l f):=by
 refine eR.args (args:=[.v (.agg x.row.toArray),.v (.slice pf f.length cf),.loc 0 0]) (eR.norm 7 (ah 7) (iQ (N:=19) (rv:=[]) eP mixed Tryz.func69 rfl rfl rfl rfl rfl ?_)) rfl;(refine fW ?_;repeat intro b);revert b;intro b7;refine fi rfl rfl rfl X4 rfl (Au s.fJ x f hnf (by omega) h.fJ hx hfl hf) ?_;rintro _ F2 hs2 ⟨y,rfl,hy,hyl,hy1,hy2⟩;(refine fW ?_;repeat intro b);revert b;intro b8;refine ez (decide (lD s.fJ f=0)) ?_ (fun h0=>?_) (fun h0=>?_)
 ·refine dS ?_;rw[ai];simp
 ·have h0:=ar h0;rw[aZ h0]at hy1 hy2;(refine fW ?_;repeat intro b);refine jR (Nv (s':={s with fJ:=y}) 9 [(6,15),(5,14),(4,13),(3,12),(2,11),(1,10),(0,9)] ?_ rfl rfl rfl rfl hs2 (pF s y x.l f hnf h0 hy1 hy2) (TL.vh (TL.eX hs2 h) hy) rfl rfl rfl rfl);exact (dJ rfl rfl (dJ rfl rfl (dJ rfl rfl (dU rfl (dJ rfl rfl (dJ rfl rfl (dU rfl trivial)))))))
 have h0:=au h0;(refine fW ?_;repeat intro b);refine jR (Nv (s':=s) 9 [(6,15),(5,14),(4,13),(3,12),(2,11),(1,10),(0,9)] ?_ rfl rfl rfl rfl hs2 (sf s x.l f hnf h0).symm (TL.eX hs2 h) rfl rfl rfl rfl);exact (dJ rfl rfl (dJ rfl rfl (dJ rfl rfl (dU rfl (dJ rfl rfl (dJ rfl rfl (dU rfl trivial)))))))
theorem DD (s:TL)(b1:Nat)(z:Fr)(x:LP){pp:Option Addr}{F:Hp}(h:s.at F)(hx:x.at F)(hn:s.fJ.gz.length≤60)(FR:gD s.fJ=0)(hf: ∀f∈s.dX,f.f.length≤17592186044416)(hp:gb F pp=some (.func (.func 69) #[] #[.pointer (some ⟨s.b0,0,none⟩)])):QW s b1 z F 71 [.agg x.row.toArray,.pointer (some ⟨b1,0,none⟩),.pointer pp] (s.t.send x.l):=by
 refine eR.args (args:=[.v (.agg x.row.toArray),.loc 3 0,.v (.pointer pp)]) (eR.norm 7 (ah 7) (iQ (N:=18) (rv:=[]) eP mixed Tryz.func71 rfl rfl rfl rfl rfl ?_)) rfl;(refine fW ?_;repeat intro b);rename_i bx;revert b;intro b8;refine k7 (β:=TL×ot×Hp) (fun q=>F.sub q.2.2∧q.1.at q.2.2∧q.1.b0=s.b0∧q.1.fJ=s.fJ∧q.1.events=s.events∧q.1.be=s.be∧q.1.ce=s.ce∧q.2.1.at q.2.2∧q.2.1.f.length≤17592186044416∧q.1.t.post x.l q.2.1.f=s.t.send x.l) (fun q=>⟨[(2,.v (.pointer pp)),(3,.loc 7 0),(4,.v q.2.1.v)],q.2.2,(7,⟨some bx,x.row.map .v,71,12⟩)::q.1.L5 b1 z,9⟩) rfl (fun q hq=>?_) (fun u7 kn kr ke=>?_)
 ·obtain⟨s1,f,F1⟩:=q;obtain⟨hs1,a1,hb0,FT,he1,he2,S5,hf1,hfl,hP⟩:=hq;dsimp only at hs1 a1 hb0 FT he1 he2 S5 hf1 hfl hP ⊢;have hnf:gD s1.fJ=0:=by rw[FT];exact FR
  (refine fW ?_;repeat intro b);refine fr _ rfl rfl rfl rfl (iS hs1 hp) ?_;(refine fW ?_;repeat intro b);rw[←hb0];refine om rfl rfl rfl TS rfl (QW.at (EP s1 b1 z x f.f a1 (LP.eX hs1 hx) (by rw[FT];exact hn) hnf (by omega) hf1) (nx2:=9) [(6,6),(5,5),(4,4),(3,3),(2,2),(1,1),(0,0)] (dJ rfl rfl (dJ rfl rfl (dJ rfl rfl (dU rfl (dJ rfl rfl (dJ rfl rfl (dU rfl trivial))))))) rfl rfl rfl (by decide)) ?_;rintro _ F2 _ _ _ _ ⟨rfl,hs2,rfl,s4,oU,pT,hb4,hv1,hv2,hv3,rfl⟩;(refine fW ?_;repeat intro b);exact jR (VS.id ⟨_,rfl,9,s4.L5 b1 z,7,.v (.tuple #[]),(TL.GF 9 s4 b1 z).symm,rfl,rfl,rfl,rfl,hs1.trans hs2,s4,oU.trans hP,pT,hb4.trans hb0,hv1.trans he1,hv2.trans he2,hv3.trans S5,rfl⟩)
 refine ez (decide (0<s.dX.length)) ?_ (fun h0=>?_) (fun h0=>?_)
 ·refine dS ?_;rw[ai];simp
 ·obtain⟨f,r,e⟩: ∃f r,s.dX=f::r:=by
   cases hh:s.dX with
   | nil=>rw[hh]at h0;cases h0
   | cons f r=>exact⟨f,r,rfl⟩
  have e0:=TL.Qc h e;have hl:s.dX.length=r.length+1:=by rw[e];rfl
  have hle:=h.Pw;obtain⟨bf,hbf⟩: ∃b,s.bf=some b:=by
   cases hh:s.bf with
   | some b=>exact⟨b,rfl⟩
   | none=>have:=h.vM hh;omega
  have hf1:=h.dX f (by rw[e];exact cP);have hf2:=hf f (by rw[e];exact cP);have Wx:=TL.Nm h e;have es:s.t.send x.l=fm.post ({s with fo:=gR s.fo 1 s.cf 1,dX:=r,cf:=s.cf - 1}:TL).t x.l f.f:=by
   unfold fm.send;simp only[TL.t,e,a9]
  rw[es]at kn;clear kr ke es;obtain⟨dF,cl,dK,polls,fJ,reach,iY,fo,dX,events,b0,bo,co,bp,cp,bf0,cf,xf,be,ce⟩:=s;dsimp only at *;subst hbf;dsimp only [TL.L5,TL.jH];(refine run ?_;repeat intro b);refine jK 6 (by kernel_rfl) rfl rfl ?_;(refine run ?_;repeat intro b);refine dI rfl rfl rfl ⟨by omega,by omega,_,_,rfl,rfl⟩ ?_;refine od f.v rfl rfl rfl rfl rfl (by exact EM (by simpa using e0)) ?_;(refine run ?_;repeat intro b);refine dI rfl rfl rfl ⟨by omega,by omega⟩ ?_;(refine run ?_;repeat intro b);refine kn _ (VS.freeze 8 [2,3,4] rfl rfl rfl rfl fun F1 hs1 hf3=>VS.id ?_);rw[e9,e9,e9,e9,e9];subst e;exact⟨(⟨dF,cl,dK,polls,fJ,reach,iY,gR fo 1 cf 1,r,events,b0,bo,co,bp,cp,some bf,cf - 1,xf,be,ce⟩,f,F1),⟨hs1,TL.eX hs1 Wx,rfl,rfl,rfl,rfl,rfl,ot.eX hs1 hf1,hf2,rfl⟩,rfl⟩
 (refine run ?_;repeat intro b);refine kn _ (VS.freeze 8 [2,3,4] rfl rfl rfl rfl fun F1 hs1 hf1=>VS.id ?_);rw[e9,e9,e9,e9,e9];refine⟨(s,⟨[1],some ⟨b8,0,none⟩,1⟩,F1),⟨hs1,TL.eX hs1 h,rfl,rfl,rfl,rfl,rfl,hf1,(show 1≤17592186044416 by decide),?_⟩,rfl⟩;unfold fm.send;have e:s.dX=[]:=by have:=au h0;exact List.length_eq_zero_iff.1 (by omega)
 simp only[TL.t,e,cM]
end
section
open Go.TR
def o7 (s:List UInt8):List (List UInt8):=if s=[] then [] else [s]
theorem Et {l:List Ask}{k:Nat}(h:k<l.length)(A:List (List UInt8)):((A++(l.take (k+1)).map Ask.name).map S).map EV.v=((A++(l.take k).map Ask.name).map S).map EV.v++[EV.v (S l[k].name)]:=by
 rw[al h];simp only[aF,a9,cM,bM]
theorem Sa (L:List (List UInt8))(s:List UInt8):(L.map S).map EV.v++[EV.v (S s)]=((L++[s]).map S).map EV.v:=by simp
attribute [local irreducible] vc dT gx fc fA gC gG gw fG Plain eu eR dH VS fq fx fD ju fe IntKind.wrap
attribute [local irreducible] dV gK ir gH fK kU
set_option maxRecDepth 100000
set_option maxHeartbeats 4000000
theorem qk (c:eE)(a:jf)(F:Hp):Plain Tryz.prog F 74 [c.v a] (.bool (gn c)):=by
 refine dN (N:=12) (rv:=[.tmp 2]) eP mixed Tryz.func74 rfl rfl rfl rfl rfl ?_;(refine run ?_;repeat intro b);have e:lL (((c.dP.length:Nat):Int)==40) true (c.now==1000000000)=gn c:=by
  rw[fu,ai];unfold gn;simp;omega
 rw[e];rfl
theorem GB (c:eE)(a:jf)(more:List UInt8)(hw:c.wf)(h0:0<c.ee.length)(hlen:(jE c (o7 more)).length≤1000000)(hm:more.length≤4611686018427387904){F:Hp}(ha:c.at F a):
  Plain Tryz.prog F 126 [c.v a,S more] (i64 ((jF c (o7 more):Nat):Int)):=by
 obtain⟨bs,hb,wW,hbs⟩:=ha.b;have hbl:=ln hb;obtain⟨⟨ps,ls,cs⟩,k1,k2,k3⟩:=oc hb (k:=c.ee.length - 1) (by omega);have kc:=mX wW k1;have hat:=(hbs _ k3).2;have hwl: ∀x∈gH c,x.wf:=(hw.ee _ (mO h0)).2;have hll:=(hw.ee _ (mO h0)).1;rw[←vj h0]at k2;have oV:jE c (o7 more)=(gH c).map Entry.name++c.queue.wait.map Ask.name++o7 more:=rfl;have hbig: ∀s∈jE c (o7 more),s.length≤4611686018427387904:=fun s hs=>by
  rw[oV]at hs;rcases aK.1 hs with hs | hs
  ·rcases aK.1 hs with hs | hs
   ·obtain⟨x,hx,rfl⟩:=aG.1 hs;exact (hwl x hx).1
   obtain⟨x,hx,rfl⟩:=aG.1 hs;exact (hw.queue.wait x hx).name
  unfold o7 at hs;split at hs
  ·cases hs
  rw[aB.1 hs];exact hm
 have hN:(gH c).length+c.queue.wait.length+(o7 more).length≤1000000:=by
  have:=hlen;rw[oV]at this;simp only[ag,ab]at this;omega
 have hfw:=ha.w;have hbn:=hw.OG;simp only at k2 hat;unfold jF;rw[oV]at hbig ⊢;clear hlen oV;subst k2;generalize gH c=ls at *;have ew:IntKind.i64.wrap (((c.ee.length:Nat):Int) - 1)=((c.ee.length - 1:Nat):Int):=by rw[wrap_i64 (by omega) (by omega)];omega
 refine dN (N:=52) (rv:=[.tmp 4]) eP mixed Tryz.func126 rfl rfl rfl rfl rfl ?_;(refine run ?_;repeat intro b);rw[ew];refine dI rfl rfl rfl ⟨by omega,by omega,dO wW (j:=c.ee.length - 1) (by rw[ab,hbl];omega)⟩ ?_;refine fr (Bk.v (ps,ls,cs)) rfl rfl rfl rfl (by rw[ae,aA];exact kc) ?_;(refine run ?_;repeat intro b);revert b;intro bC;refine eU (fun q:Nat×Option Nat×Nat=>q.1≤ls.length∧(q.2.1=none→q.1=0∧q.2.2=0)∧q.1≤q.2.2)
  (fun q=>⟨[(5,.row 1 0 q.1 q.2.2),(1,.v (S more)),(2,.loc 0 0),(17,.v (.slice ps ls.length cs)),(18,.v (i64 (ls.length:Nat))),(19,.v (i64 (q.1:Nat)))],F,[(1,⟨q.2.1,(((ls.take q.1).map Entry.name).map S).map EV.v,9,q.2.2 * 1⟩),(0,⟨some bC,[.v (i64 c.queue.most),.v (.slice a.w c.queue.wait.length a.cw),.v (i64 c.batch),.v (i64 c.every),.v (i64 c.now),.v (.slice a.h c.dP.length a.ch),.v (.slice a.b c.ee.length a.cb)],28,7⟩)],2⟩) (fun q=>ls.length - q.1) (0,none,0) ⟨az _,fun _=>⟨rfl,rfl⟩,ah _⟩ (VS.nT 5 9 [1,2,17,18,19] rfl rfl (VS.id rfl)) ?_
 rintro⟨k,gl,cap⟩ ⟨hk,h3,h4⟩;dsimp only at hk h3 h4 ⊢;have hlk:((((ls.take k).map Entry.name).map S).map EV.v).length=k:=by rw[ab,ab,ab,aw];omega
 by_cases hlt:k<ls.length
 ·obtain⟨o1,o2⟩:=eZ eI (by decide) hat k hlt;have hsn:=zq hlt;generalize ls[k]=x at o2 hsn;(refine run ?_;repeat intro b);refine gm rfl (by omega) ?_;(refine run ?_;repeat intro b);refine dI rfl rfl rfl ⟨by omega,by omega,dO hat (j:=k * 2) (by rw[dL eI];omega)⟩ ?_;refine fy x.row rfl rfl rfl rfl rfl (by rw[ae];exact o1) (by rw[ae];exact o2) ?_;(refine run ?_;repeat intro b);refine fv rfl rfl rfl rfl rfl rfl rfl rfl (fb rfl rfl) tl h3 h4 rfl (by rw[hlk,aA];exact ah _) (by show _ * 16≤_;omega) (fun h=>by cases h) (fun _ b2 c2 hc2=>?_);(refine run ?_;repeat intro b);have hcells:((((ls.take k).map Entry.name).map S).map EV.v).take (k * 1)++[EV.v (S x.name)]=(((ls.take (k+1)).map Entry.name).map S).map EV.v:=by
   rw[hsn,an (by rw[hlk,aA];exact ah _)]
  rw[dQ (by omega)];exact fE (k+1,some b2,c2) 1 [(4,1),(0,0)] [5,1,2,17,18,19] [(1,⟨some b2,(((ls.take (k+1)).map Entry.name).map S).map EV.v,9,c2 * 1⟩),(0,⟨some bC,[.v (i64 c.queue.most),.v (.slice a.w c.queue.wait.length a.cw),.v (i64 c.batch),.v (i64 c.every),.v (i64 c.now),.v (.slice a.h c.dP.length a.ch),.v (.slice a.b c.ee.length a.cb)],28,7⟩)] ⟨hlt,(fun h=>by cases h),hc2⟩ (by simp only;omega) (aM _ _)
   (ff ⟨_,rfl,rfl,rfl,rfl,.inl ⟨hcells.symm,fun e he=>fw _ e (hcells ▸ he)⟩⟩ (dU rfl trivial)) rfl rfl rfl rfl rfl rfl rfl
 have hge:k=ls.length:=by omega
 subst hge;rw[aD]at hlk ⊢;(refine run ?_;repeat intro b);refine gu rfl (by omega) ?_;(refine run ?_;repeat intro b);have hA:(ls.map Entry.name).length=ls.length:=ab ..;have h3':gl=none→(ls.map Entry.name).length+0=0∧cap=0:=fun h=>by have:=h3 h;omega
 have h4':(ls.map Entry.name).length+0≤cap:=by omega
 rw[←hA];generalize ls.map Entry.name=A at *;refine eU (fun q:Nat×Option Nat×Nat=>q.1≤c.queue.wait.length∧(q.2.1=none→A.length+q.1=0∧q.2.2=0)∧A.length+q.1≤q.2.2)
  (fun q=>⟨[(5,.row 2 0 (A.length+q.1) q.2.2),(1,.v (S more)),(2,.loc 0 0),(31,.v (.slice a.w c.queue.wait.length a.cw)),(32,.v (i64 (c.queue.wait.length:Nat))),(33,.v (i64 (q.1:Nat)))],F,[(2,⟨q.2.1,((A++(c.queue.wait.take q.1).map Ask.name).map S).map EV.v,9,q.2.2 * 1⟩),(0,⟨some bC,[.v (i64 c.queue.most),.v (.slice a.w c.queue.wait.length a.cw),.v (i64 c.batch),.v (i64 c.every),.v (i64 c.now),.v (.slice a.h c.dP.length a.ch),.v (.slice a.b c.ee.length a.cb)],28,7⟩)],3⟩) (fun q=>c.queue.wait.length - q.1) (0,gl,cap) ⟨az _,h3',h4'⟩ (VS.mM (nx':=3) [(1,2),(0,0)] [5,1,2,31,32,33] [(2,⟨gl,((A++(c.queue.wait.take 0).map Ask.name).map S).map EV.v,9,cap * 1⟩),(0,⟨some bC,[.v (i64 c.queue.most),.v (.slice a.w c.queue.wait.length a.cw),.v (i64 c.batch),.v (i64 c.every),.v (i64 c.now),.v (.slice a.h c.dP.length a.ch),.v (.slice a.b c.ee.length a.cb)],28,7⟩)] (ff ⟨_,rfl,rfl,rfl,rfl,.inl ⟨(by rw[db,cM,bT]),fun e he=>fw _ e he⟩⟩ (dU rfl trivial)) rfl rfl rfl rfl rfl rfl rfl) ?_
 clear h3' h4';clear h3 h4 hlt;rintro⟨k,gl,cap⟩ ⟨hk,h3,h4⟩;dsimp only at hk h3 h4 ⊢;have hlk:(((A++(c.queue.wait.take k).map Ask.name).map S).map EV.v).length=A.length+k:=by rw[ab,ab,ag,ab,aw];omega
 by_cases hlt:k<c.queue.wait.length
 ·obtain⟨o1,o2⟩:=eZ gj (by decide) hfw k hlt;have hsn:=Et hlt A;generalize c.queue.wait[k]=x at o2 hsn;(refine run ?_;repeat intro b);refine gm rfl (by omega) ?_;(refine run ?_;repeat intro b);refine dI rfl rfl rfl ⟨by omega,by omega,dO hfw (j:=k * 4) (by rw[dL gj];omega)⟩ ?_;refine fy x.cells rfl rfl rfl rfl rfl (by rw[ae];exact o1) (by rw[ae];exact o2) ?_;(refine run ?_;repeat intro b);refine fv rfl rfl rfl rfl rfl rfl rfl rfl (fb rfl rfl) tl h3 h4 rfl (by rw[hlk,aA];exact ah _) (by show _ * 16≤_;omega) (fun h=>by cases h) (fun _ b2 c2 hc2=>?_);(refine run ?_;repeat intro b);have hcells:(((A++(c.queue.wait.take k).map Ask.name).map S).map EV.v).take ((A.length+k) * 1)++[EV.v (S x.name)]=((A++(c.queue.wait.take (k+1)).map Ask.name).map S).map EV.v:=by
   rw[hsn,an (by rw[hlk,aA];exact ah _)]
  rw[dQ (by omega)];exact fE (k+1,some b2,c2) 2 [(5,2),(0,0)] [5,1,2,31,32,33] [(2,⟨some b2,((A++(c.queue.wait.take (k+1)).map Ask.name).map S).map EV.v,9,c2 * 1⟩),(0,⟨some bC,[.v (i64 c.queue.most),.v (.slice a.w c.queue.wait.length a.cw),.v (i64 c.batch),.v (i64 c.every),.v (i64 c.now),.v (.slice a.h c.dP.length a.ch),.v (.slice a.b c.ee.length a.cb)],28,7⟩)] ⟨hlt,(fun h=>by cases h),hc2⟩ (by simp only;omega) (aM _ _)
   (ff ⟨_,rfl,rfl,rfl,rfl,.inl ⟨hcells.symm,fun e he=>fw _ e (hcells ▸ he)⟩⟩ (dU rfl trivial)) rfl rfl rfl rfl rfl rfl rfl
 have hge:k=c.queue.wait.length:=by omega
 subst hge;rw[aD]at hlk ⊢;have hB:(A++c.queue.wait.map Ask.name).length=A.length+c.queue.wait.length:=by rw[ag,ab]
 (refine run ?_;repeat intro b);refine gu rfl (by omega) ?_;(refine run ?_;repeat intro b);generalize Z9:A++c.queue.wait.map Ask.name=B at *;rw[←hB];have aay:B.length≤1000000:=by omega
 have h3':gl=none→B.length=0∧cap=0:=fun h=>by have:=h3 h;omega
 refine ez (decide (more≠[])) ?_ (fun h=>?_) (fun h=>?_)
 ·refine dS ?_;show (!decide (bl (jB more)=bl (jB [])))=_;rw[NH,NH,ai];simp
 ·have hmo:o7 more=[more]:=by unfold o7;rw[aY (ar h)]
  rw[hmo]at hbig hN ⊢;have hx:(B++[more]).length=B.length+1:=by simp
  (refine run ?_;repeat intro b);refine fv rfl rfl rfl rfl rfl rfl rfl rfl (fb rfl rfl) tl h3' (by omega) rfl (by rw[hlk,aA,hB];exact ah _) (by show _ * 16≤_;omega) (fun h=>by cases h) (fun _ b2 c2 hc2=>?_);have hcells:((B.map S).map EV.v).take (B.length * 1)++[EV.v (S more)]=((B++[more]).map S).map EV.v:=by
   rw[←Sa,an (by rw[hlk,aA,hB];exact ah _)]
  rw[hcells];refine fT (VS.freeze 4 [2,48] rfl (eD _) rfl rfl fun F1 hs1 hf1=>VS.id ?_);(refine run ?_;repeat intro b);have Dr:=tj (B++[more]) (c:=c2) (by rw[hx];omega) hbig hf1;rw[hx]at Dr;refine fi rfl rfl rfl N5 rfl Dr ?_;rintro _ F2 hF2 ⟨p3,c3,rfl,hf3⟩;(refine run ?_;repeat intro b);rfl
 have hmo:o7 more=[]:=by unfold o7;rw[aZ (by simpa using h)]
 rw[hmo,bT]at hbig ⊢;(refine lY ?_;repeat intro b);refine mq (VS.shut (fun pS=>[(5,.v (.slice pS B.length cap))]) 2 [5] rfl (eD _) (fun _=>rfl) rfl (fun _=>rfl) rfl fun F2 pS hF2 hgS=>?_);(refine run ?_;repeat intro b);have Dr:=tj B (c:=cap) (by omega) hbig hgS;refine fi rfl rfl rfl N5 rfl Dr ?_;rintro _ F3 FU ⟨p3,c3,rfl,hf3⟩;(refine run ?_;repeat intro b);rfl
end
section
open Go.TR
attribute [local irreducible] vc dT gx fc fA gC gG gw fG Plain eu eR dH VS fq fx fD ju fe IntKind.wrap
attribute [local irreducible] dV gK ir gH fK ga fg fp jD jF
set_option maxRecDepth 100000
set_option maxHeartbeats 4000000
end
end Go.Proofs.YthbnddgjkonkdaaGreatDoor
