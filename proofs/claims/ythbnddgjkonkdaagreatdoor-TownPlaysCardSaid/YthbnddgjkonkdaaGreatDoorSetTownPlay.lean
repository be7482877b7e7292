/- A part of the proof. -/
import Derived.Test.YthbnddgjkonkdaaGreatDoorSetOwner4
import Derived.Test.YthbnddgjkonkdaaGreatDoorSetTownBegin
set_option linter.unusedVariables false
set_option linter.unusedSimpArgs false
namespace Go.Proofs.YthbnddgjkonkdaaGreatDoor
open Go.TR
structure TV where
 dI:eI
 cl:ji
 dN:List jk
 po:Option Addr
 co:Nat
 polls:List Poll
 pp:Option Addr
 cp:Nat
 fN:NP
@[reducible] def TV.row (s:TV):List Value:=[i64 s.dI.queue.most,.slice s.cl.w s.dI.queue.wait.length s.cl.cw,i64 s.dI.batch,i64 s.dI.every,i64 s.dI.now,.slice s.cl.h s.dI.dS.length s.cl.ch,.slice s.cl.b s.dI.ez.length s.cl.cb,.slice s.po s.dN.length s.co,.slice s.pp s.polls.length s.cp,i64 s.fN.now,.slice s.fN.p s.fN.gE.length s.fN.c]
structure TV.at (F:Hp) (s:TV):Prop where
 dI:s.dI.at F s.cl
 po:e9 F s.po (s.dN.flatMap jk.row)
 dN: ∀x∈s.dN,x.at F
 pp:e9 F s.pp (s.polls.flatMap Poll.row)
 fN:s.fN.at F
theorem TV.e8 {F F':Hp}(h:F.sub F'){s:TV}(k:s.at F):s.at F':=⟨eI.e8 h k.dI,eu h k.po,fun x hx=>jk.e8 h (k.dN x hx),eu h k.pp,NP.e8 h k.fN⟩
structure TV.Is (s:TV) (t:fr):Prop where
 dI:s.dI=t.dI
 dN:s.dN.map jk.o=t.dN
 polls:s.polls=t.polls
 now:s.fN.now=t.now
 gE:s.fN.gE.map LP.l=t.gE
structure NG (s:TV):Prop where
 dI:Fits s.dI
 dN:s.dN.length≤1000
 Ql: ∀x∈s.dN,x.o.wanted.length≤1000
 polls:s.polls.length≤1000
 gE:s.fN.gE.length≤4611686018427387904
 wf: ∀x∈s.fN.gE,x.l.wf
attribute [local irreducible] vc dW gz fg fD gF gJ gB fJ Plain eD eX dK VS fv fA fG jt fh IntKind.wrap
attribute [local irreducible] dY gN iu gK fL
set_option maxRecDepth 100000
set_option maxHeartbeats 4000000
theorem sT (a b:TV){t:fr}(ia:a.Is t)(ib:b.Is t)(hf:NG a){F:Hp}(ha:a.at F)(hb:b.at F):Plain Tryz.prog F 24 [.agg a.row.toArray,.agg b.row.toArray] (.bool true):=by
 have ec:a.dI=b.dI:=ia.dI.trans ib.dI.symm;have eo:a.dN.map jk.o=b.dN.map jk.o:=ia.dN.trans ib.dN.symm;have ep:a.polls=b.polls:=ia.polls.trans ib.polls.symm;have en:a.fN.now=b.fN.now:=ia.now.trans ib.now.symm;have ew:a.fN.gE.map LP.l=b.fN.gE.map LP.l:=ia.gE.trans ib.gE.symm;have lo:a.dN.length=b.dN.length:=by simpa using a8 List.length eo
 obtain⟨c,cl,ows,po,co,ps,pp,cp,nt⟩:=a;obtain⟨c2,Zi,Ou,po2,co2,ps2,pp2,cp2,Zj⟩:=b;dsimp only at ec eo ep en ew lo;subst ec ep;obtain⟨hf1,hf2,hf3,zX,FU,OB⟩:=hf;obtain⟨ha1,ha2,Q9,pW,Xd⟩:=ha;obtain⟨hb1,hb2,hb3,hb4,hb5⟩:=hb;dsimp only at hf1 hf2 hf3 zX FU OB ha1 ha2 Q9 pW Xd hb1 hb2 hb3 hb4 hb5;clear ia ib;have hC:=zF c cl Zi hf1 ha1 hb1;have hN:=Hn nt Zj en ew OB Xd hb5 FU;refine dQ (N:=76) (rv:=[.tmp 4]) eW mixed Tryz.func24 rfl rfl rfl rfl rfl ?_;(refine run ?_;repeat intro b);rename_i bX;revert b;intro bY;refine dJ _ rfl rfl rfl XE rfl hC ?_;(refine run ?_;repeat intro b);refine dJ _ rfl rfl rfl Xi rfl hN ?_;(refine run ?_;repeat intro b);refine eE false ?_ (fun h=>by cases h) (fun _=>?_)
 ·refine dV ?_;simp[lS,lo]
 (refine run ?_;repeat intro b);refine eY (fun k:Nat=>k≤ows.length)
  (fun k=>⟨[(2,.loc 0 0),(3,.loc 1 0),(41,.v (i64 (ows.length:Nat))),(42,.v (i64 (k:Nat)))],F,
   [(1,⟨some bY,(TV.row ⟨c,Zi,Ou,po2,co2,ps,pp2,cp2,Zj⟩).map EV.v,64,11⟩),
    (0,⟨some bX,(TV.row ⟨c,cl,ows,po,co,ps,pp,cp,nt⟩).map EV.v,64,11⟩)],2⟩) (fun k=>ows.length - k) 0 (az _) (VS.eL [2,3,41,42] rfl rfl) ?_
 rintro k hk;by_cases hlt:k<ows.length
 ·have hlt2:k<Ou.length:=by omega
  obtain⟨o1,o2⟩:=fa gZ (by decide) ha2 k hlt;obtain⟨o3,o4⟩:=fa gZ (by decide) hb2 k hlt2;have hxy:ows[k].o=Ou[k].o:=by
   have:=a8 (fun l=>l[k]?) eo;simpa [hlt,hlt2] using this
  have x1:=Q9 _ (aj hlt);have x2:=hb3 _ (aj hlt2);have x3:=hf3 _ (aj hlt);generalize ows[k]=x at o1 o2 hxy x1 x3;generalize Ou[k]=y at o3 o4 hxy x2;have hS:=yL x.o (n1:=x.o.wanted.length) (n2:=y.o.wanted.length) (c1:=x.c) (c2:=y.c) rfl (by rw[hxy]) x3 x1 (by have:=x2;unfold jk.at at this;rw[hxy];exact this);have ey:x.o.v8 y.p y.o.wanted.length y.c= .agg y.row.toArray:=by rw[hxy]
  rw[ey]at hS;(refine run ?_;repeat intro b);refine gw rfl (by omega) ?_;(refine run ?_;repeat intro b);refine fO (by kernel_rfl) ?_;(refine run ?_;repeat intro b);refine dL rfl rfl rfl ⟨by omega,by dsimp only;omega,dR ha2 (j:=k * 8) (by rw[dO gZ];omega)⟩ ?_;refine fB x.row rfl rfl rfl rfl rfl (by rw[ae];exact o1) (by rw[ae];exact o2) ?_;(refine run ?_;repeat intro b);refine dL rfl rfl rfl ⟨by omega,by dsimp only;omega,dR hb2 (j:=k * 8) (by rw[dO gZ];omega)⟩ ?_;refine fB y.row rfl rfl rfl rfl rfl (by rw[ae];exact o3) (by rw[ae];exact o4) ?_;(refine run ?_;repeat intro b);refine dJ _ rfl rfl rfl Ye rfl hS ?_;(refine run ?_;repeat intro b);rw[dT (by omega)];exact fp (k+1) hlt (by omega) (VS.eL [2,3,41,42] rfl rfl)
 have hge:k=ows.length:=by omega
 subst hge;(refine run ?_;repeat intro b);refine gy rfl (by omega) ?_;(refine run ?_;repeat intro b);refine eY (fun k:Nat=>k≤ps.length)
  (fun k=>⟨[(2,.loc 0 0),(3,.loc 1 0),(60,.v (i64 (ps.length:Nat))),(61,.v (i64 (k:Nat)))],F,
   [(1,⟨some bY,(TV.row ⟨c,Zi,Ou,po2,co2,ps,pp2,cp2,Zj⟩).map EV.v,64,11⟩),
    (0,⟨some bX,(TV.row ⟨c,cl,ows,po,co,ps,pp,cp,nt⟩).map EV.v,64,11⟩)],2⟩) (fun k=>ps.length - k) 0 (az _) (VS.eL [2,3,60,61] rfl rfl) ?_
 rintro k hk;by_cases hlt:k<ps.length
 ·obtain⟨o1,o2⟩:=fa iR (by decide) pW k hlt;obtain⟨o3,o4⟩:=fa iR (by decide) hb4 k hlt;generalize ps[k]=x at o1 o2 o3 o4;(refine run ?_;repeat intro b);refine gw rfl (by omega) ?_;(refine run ?_;repeat intro b);refine fO (by kernel_rfl) ?_;(refine run ?_;repeat intro b);refine dL rfl rfl rfl ⟨by omega,by dsimp only;omega,dR pW (j:=k * 6) (by rw[dO iR];omega)⟩ ?_;refine fB x.row rfl rfl rfl rfl rfl (by rw[ae];exact o1) (by rw[ae];exact o2) ?_;(refine run ?_;repeat intro b);refine dL rfl rfl rfl ⟨by omega,by dsimp only;omega,dR hb4 (j:=k * 6) (by rw[dO iR];omega)⟩ ?_;refine fB x.row rfl rfl rfl rfl rfl (by rw[ae];exact o3) (by rw[ae];exact o4) ?_;(refine run ?_;repeat intro b);refine eE false ?_ (fun h=>by cases h) (fun _=>?_)
  ·refine dV ?_;simp
  (refine run ?_;repeat intro b);rw[dT (by omega)];exact fp (k+1) hlt (by omega) (VS.eL [2,3,60,61] rfl rfl)
 have hge:k=ps.length:=by omega
 subst hge;(refine run ?_;repeat intro b);refine gy rfl (by omega) ?_;(refine run ?_;repeat intro b);rfl
theorem xg (l:List lW)(hl:l.length≤4611686018427387904){p q:Option Addr}{c c2:Nat}{F:Hp}(ha:e9 F p (l.flatMap lW.row))(hb:e9 F q (l.flatMap lW.row)):Plain Tryz.prog F 26 [.slice p l.length c,.slice q l.length c2] (.bool true):=by
 refine dQ (N:=26) (rv:=[.tmp 4]) eW mixed Tryz.func26 rfl rfl rfl rfl rfl ?_;(refine run ?_;repeat intro b);refine eE false ?_ (fun h=>by cases h) (fun _=>?_)
 ·refine dV ?_;simp
 (refine run ?_;repeat intro b);refine eY (fun k:Nat=>k≤l.length) (fun k=>⟨[(0,.v (.slice p l.length c)),(1,.v (.slice q l.length c2)),(12,.v (i64 l.length)),(13,.v (i64 (k:Nat)))],F,[],0⟩) (fun k=>l.length - k) 0 (az _) (VS.eL [0,1,12,13] rfl rfl) ?_;intro k hk;by_cases hlt:k<l.length
 ·obtain⟨o1,o2⟩:=fa nD (by decide) ha k hlt;obtain⟨o3,o4⟩:=fa nD (by decide) hb k hlt;generalize l[k]=x at o1 o2 o3 o4;(refine run ?_;repeat intro b);refine gw rfl (by omega) ?_;(refine run ?_;repeat intro b);refine fO (by kernel_rfl) ?_;(refine run ?_;repeat intro b);refine dL rfl rfl rfl ⟨by omega,by omega,dR ha (j:=k * 4) (by rw[dO nD];omega)⟩ ?_;refine fB x.row rfl rfl rfl rfl rfl (by rw[ae];exact o1) (by rw[ae];exact o2) ?_;(refine run ?_;repeat intro b);refine dL rfl rfl rfl ⟨by omega,by omega,dR hb (j:=k * 4) (by rw[dO nD];omega)⟩ ?_;refine fB x.row rfl rfl rfl rfl rfl (by rw[ae];exact o3) (by rw[ae];exact o4) ?_;(refine run ?_;repeat intro b);refine eE false ?_ (fun h=>by cases h) (fun _=>?_)
  ·refine dV ?_;simp
  (refine run ?_;repeat intro b);rw[dT (by omega)];exact fp (k+1) hlt (by omega) (VS.eL [0,1,12,13] rfl rfl)
 have hge:k=l.length:=by omega
 subst hge;(refine run ?_;repeat intro b);refine gy rfl (by omega) ?_;(refine run ?_;repeat intro b);rfl
end Go.Proofs.YthbnddgjkonkdaaGreatDoor
namespace Go.TR
section
variable {P:Program} {tb:Tb} {N:Nat}
theorem VS.Jc {env env':Env}{F:Hp}{rs rs':RL}{nx:Nat}{G:St→Prop}(id:Nat){gq:Option Nat}{cells:List EV}{ty:TypeId}{cap:Nat}{cs:List Value}(slots:List Nat)(hr:fU rs id=some ⟨gq,cells,ty,cap⟩)(hcs:iZ rs cells=some cs)(h1: ∀b,iv (vM b id rs)=some rs')(h2:iv (Go.TR.iB [id] rs)=some rs')
  (h3: ∀b,Go.TR.eL (At b id env) slots=some env') (h4:Go.TR.eL (HF id env) slots=some env') (k: ∀F',F.sub F'→e9 F' (gq.map fun b=>⟨b,0,none⟩) cs→VS N [] ⟨env',F',rs',nx⟩ G) (hty:Nat.beq ty 0=false:=by rfl):VS N [] ⟨env,F,rs,nx⟩ G:=by
 cases gq with
 | none=>
  refine VS.Fi hr (fun e=>by rw[e]at hty;cases hty) fun⟨hc,_⟩=>VS.M1 id slots hr h4 (VS.iB [id] h2 (k F (Hp.sub.refl F) ?_));subst hc;cases hcs;exact fun j u h=>by simp at h
 | some b=>exact VS.trans (VS.freeze id slots hr hcs (h1 b) (h3 b) fun F' hs hf=>VS.id (k F' hs hf))
end
end Go.TR
namespace Go.Proofs.YthbnddgjkonkdaaGreatDoor
open Go.TR
theorem tz (t:fr)(l:mN)(f:List Int):(t.post l f).ej=t.ej:=by
 unfold fr.post;split<;>rfl
theorem xY (t:fr)(l:mN):(t.send l).ej.length≤t.ej.length:=by
 unfold fr.send;split
 ·rw[tz];exact ah _
 rename_i f r e;rw[tz,e];simp
theorem HK (t:fr)(l:mN):(t.mO l).ej.length≤t.ej.length:=by
 unfold fr.mO fr.answer fr.IK fr.O6;split
 ·split
  ·exact xY _ _
  exact ah _
 split<;>exact ah _
theorem wg: ∀(l:List mN)(t:fr),(t.comes l).ej.length≤t.ej.length
 | [],t=>ah _
 | x::l,t=>dq (wg l (t.mO x)) (HK t x)
theorem KN (t:fr)(k:Nat):(t.ask k).ej.length≤t.ej.length:=by
 have h:(t.asked k).ej.length≤t.ej.length:=by unfold fr.asked;exact xY _ _
 unfold fr.ask;split
 ·split
  ·exact h
  exact h
 exact ah _
theorem zT (t:fr): ∀k,(t.asks k).ej.length≤t.ej.length
 | 0=>ah _
 | k+1=>by
  rw[nH];exact dq (KN _ k) (zT t k)
theorem LK (t:fr)(d:sW):(t.pX d).ej.length≤t.ej.length+1:=by
 unfold fr.pX;split
 ·unfold fr.want;split<;>exact dp _
 split
 ·show (t.ej++[d.ej]).length≤_;simp
 split
 ·split
  ·rw[tz];omega
  omega
 split
 ·unfold fr.tick;split
  ·omega
  have h1:=zT (t.next.comes t.due) t.dN.length;have h2:=wg t.due t.next;have h6:t.next.ej=t.ej:=rfl;rw[h6]at h2;omega
 omega
structure K9 where
 l:List qS
 p:Option Addr
 c:Nat
theorem Cx (x:qS):x.row.length=16:=rfl
structure K9.at (F:Hp) (d:K9):Prop where
 row:e9 F d.p (d.l.flatMap qS.row)
 each: ∀x∈d.l,x.at F
 ok: ∀x∈d.l,x.d.ok
theorem qS.e8 {F F':Hp}(h:F.sub F'){x:qS}(k:x.at F):x.at F':=⟨oC.e8 h k.f,LP.e8 h k.x⟩
theorem K9.e8 {F F':Hp}(h:F.sub F'){d:K9}(k:d.at F):d.at F':=⟨eu h k.row,fun x hx=>qS.e8 h (k.each x hx),k.ok⟩
theorem xt {n:Nat}: ∀(l:List sW) (t:fr),t.Inv n→(∀d∈l,d.ok)→(t.oB l).Inv n∧(t.oB l).events.length≤t.events.length+l.length * 64∧(t.oB l).ej.length≤t.ej.length+l.length
 | [],t,h,_=>⟨h,by simp[fr.oB],by simp[fr.oB]⟩
 | d::l,t,h,hd=>by
  have h1:=h.pX (hd d cT);have h2:=Uh h d;have h3:=LK t d;obtain⟨i1,i2,i3⟩:=xt l (t.pX d) h1 fun x hx=>hd x (cR _ hx);have e:t.oB (d::l)=(t.pX d).oB l:=rfl;rw[e,aH];exact⟨i1,by omega,by omega⟩
def T6 (s:lX)(l:List sW)(x:Value)(F:Hp):Prop:=
 (mQ s l.length≠0∧ ∃T:TV,T.Is ⟨eI.none,[],[],0,[],0,[],[]⟩∧T.at F∧x= .tuple #[.agg T.row.toArray,.slice none 0 0,i64 (mQ s l.length)])∨
 (mQ s l.length=0∧ ∃(T:TV) (pe:Option Addr) (ce:Nat),T.Is ((firstT s).oB l)∧T.at F∧e9 F pe (((firstT s).oB l).events.flatMap lW.row)∧x= .tuple #[.agg T.row.toArray,.slice pe ((firstT s).oB l).events.length ce,i64 0])
theorem TL.J6 (n:Nat)(s:TL):gD n s.Qq=[(n+4,⟨s.be,(s.events.flatMap lW.row).map EV.v,167,s.ce * 4⟩),(n+3,⟨s.bf,s.jb.map EV.v,69,s.xf⟩),(n+2,⟨s.bp,(s.polls.flatMap Poll.row).map EV.v,159,s.cp * 6⟩),(n+1,⟨s.bo,(s.dN.flatMap jk.row).map EV.v,76,s.co * 8⟩),(n,⟨some s.b0,s.cells (n+1) (n+2) (n+3) (n+4),140,14⟩)]:=by
 unfold gD gY TL.Qq;simp only[a9,cP,qd];rfl
theorem map_lt (n:Nat)(L:List Value): ∀e∈L.map EV.v,e.lt n:=fun e he=>by
 obtain⟨v,_,rfl⟩:=aG.1 he;trivial
theorem TL.RX (s:TL): ∀id r,fU s.Qq id=some r→id<5∧ ∀e∈r.cells,e.lt 5:=uj ⟨⟨by decide,map_lt _ _⟩,⟨by decide,map_lt _ _⟩,⟨by decide,map_lt _ _⟩,⟨by decide,map_lt _ _⟩,⟨by decide,fun e he=>by
 simp only[aT,da,dH]at he;rcases he with rfl | rfl | rfl | rfl | rfl | rfl | rfl | rfl | rfl | rfl | rfl | rfl | rfl | rfl<;>first | trivial | (show _<5;decide)⟩,trivial⟩
attribute [local irreducible] vc dW gz fg fD gF gJ gB fJ Plain eD eX dK VS fv fA fG jt fh IntKind.wrap
attribute [local irreducible] dY gN eP jH jS
set_option maxRecDepth 100000
set_option maxHeartbeats 8000000
theorem Pt (s:lX)(a:Ar)(hw:s.wf)(d:K9)(hl:d.l.length≤4611686018427387904){F:Hp}(ha:s.at F a)(hd:d.at F):iy Tryz.prog F 15 [.agg (s.row a).toArray,.slice d.p d.l.length d.c] (T6 s (d.l.map qS.d)):=by
 refine eD.drop (fW (N:=45) (rv:=[.cell 4 64,.tmp 5,.tmp 6]) eW mixed Tryz.func15 rfl rfl rfl rfl rfl ?_);(refine run ?_;repeat intro b);rename_i bS;revert b;intro bR;refine q7 rfl rfl rfl Xg rfl (NW s a hw ha) ?_;rintro _ F1 _ hs1 (⟨h0,rfl,rfl⟩ | ⟨h0,T,rfl,hT,Lc,rfl⟩)
 ·refine⟨0,.v (pair (.pointer none) (i64 (ig s))),(fun id r h=>by cases h),rfl,?_⟩;have he:mQ s (d.l.map qS.d).length=ig s:=pA h0;(refine run ?_;repeat intro b);refine eE false ?_ (fun h=>by cases h) (fun _=>?_)
  ·refine dV ?_;have h9:(ig s==0)=false:=by simpa using h0
   rw[h9];rfl
  (refine run ?_;repeat intro b);refine eE true ?_ (fun _=>?_) (fun h=>by cases h)
  ·refine dV ?_;simp[h0]
  (refine run ?_;repeat intro b);exact eU (VS.id ⟨_,rfl,.inl ⟨by rw[he];exact h0,⟨eI.none,ji.nil,[],none,0,[],none,0,NP.none⟩,⟨rfl,rfl,rfl,rfl,rfl⟩,⟨eI.kH _,eJ _ _,(fun x hx=>by cases hx),eJ _ _,NP.xk _⟩,by rw[he];rfl⟩⟩)
 refine⟨5,.v (pair (.pointer (some ⟨T.b0,0,none⟩)) (i64 0)),T.RX,rfl,?_⟩;rw[TL.J6];have hlm:(d.l.map qS.d).length=d.l.length:=ab _;have he:=yO (n:=d.l.length) h0;(refine run ?_;repeat intro b);refine eE (decide (200<d.l.length)) ?_ (fun h2=>?_) (fun h2=>?_)
 ·refine dV ?_;simp[lS];omega
 ·rw[aZ (ar h2)]at he;(refine run ?_;repeat intro b);exact eU (VS.id ⟨_,rfl,.inl ⟨by rw[hlm,he];decide,⟨eI.none,ji.nil,[],none,0,[],none,0,NP.none⟩,⟨rfl,rfl,rfl,rfl,rfl⟩,⟨eI.kH _,eJ _ _,(fun x hx=>by cases hx),eJ _ _,NP.xk _⟩,by rw[hlm,he];rfl⟩⟩)
 have h2:=au h2;rw[aY h2]at he;have hi0:=tg hw h0;have hdd:=K9.e8 hs1 hd;(refine run ?_;repeat intro b);refine eY (fun q:Nat×TL×Hp=>q.1≤d.l.length∧F1.sub q.2.2∧q.2.1.at q.2.2∧q.2.1.b0=T.b0∧q.2.1.t=(firstT s).oB ((d.l.map qS.d).take q.1))
  (fun q=>⟨[(4,.v (.pointer (some ⟨bR,0,none⟩))),(7,.v (.pointer (some ⟨T.b0,0,none⟩))),(27,.v (.slice d.p d.l.length d.c)),(28,.v (i64 (d.l.length:Nat))),(29,.v (i64 (q.1:Nat)))],q.2.2,q.2.1.zU 7 ⟨bR,(TV.row ⟨eI.none,ji.nil,[],none,0,[],none,0,NP.none⟩),64,11⟩,13⟩) (fun q=>d.l.length - q.1) (0,T,F1) ⟨az _,Hp.sub.refl _,Lc,rfl,hT⟩
  (VS.trans (VS.env (env':=[(4,.v (.pointer (some ⟨bR,0,none⟩))),(7,.v (.pointer (some ⟨T.b0,0,none⟩))),(27,.v (.slice d.p d.l.length d.c)),(28,.v (i64 (d.l.length:Nat))),(29,.v (i64 0))]) (fQ rfl rfl) (VS.mP (nx':=13) [(1,12),(6,11),(5,10),(4,9),(3,8),(2,7)] [4,7,27,28,29] (TL.zU 7 T ⟨bR,(TV.row ⟨eI.none,ji.nil,[],none,0,[],none,0,NP.none⟩),64,11⟩) (fi ⟨_,rfl,rfl,rfl,rfl,.inl ⟨rfl,fz (TV.row ⟨eI.none,ji.nil,[],none,0,[],none,0,NP.none⟩)⟩⟩ (dM rfl rfl (dM rfl rfl (dM rfl rfl (dM rfl rfl (dX rfl trivial)))))) rfl rfl rfl rfl rfl rfl rfl))) ?_
 rintro⟨k,s1,G⟩ ⟨k1,k2,k3,k4,k5⟩;dsimp only at k1 k2 k3 k4 k5 ⊢;have hok: ∀x∈d.l.map qS.d,x.ok:=fun x hx=>by obtain⟨y,hy,rfl⟩:=aG.1 hx;exact hd.ok y hy
 by_cases hlt:k<d.l.length
 ·obtain⟨o1,o2⟩:=fa Cx (by decide) (eu k2 hdd.row) k hlt;have hx:=qS.e8 k2 (hdd.each _ (aj hlt));have hxo:=hd.ok _ (aj hlt);have Sv:k<(d.l.map qS.d).length:=by rw[ab];exact hlt
  have hst:=Bt (firstT s) Sv;rw[cG]at hst;obtain⟨i1,i2,i3⟩:=xt ((d.l.map qS.d).take k) (firstT s) hi0 fun x hx=>hok x (cY hx);rw[←k5]at i1 i2 i3 hst;rw[aw,ab]at i2 i3;have z1:(firstT s).events.length=0:=rfl;have z2:(firstT s).ej.length=0:=rfl;have z3:s1.t.events=s1.events:=rfl;have z4:s1.t.ej.length=s1.ej.length:=by simp[TL.t]
  rw[z1,z3]at i2;rw[z2,z4]at i3;generalize d.l[k]=x at *;(refine fZ ?_;repeat intro b);refine gw rfl (by omega) ?_;(refine fZ ?_;repeat intro b);refine dL rfl rfl rfl ⟨by omega,by omega,dR (eu k2 hdd.row) (j:=k * 16) (by rw[dO Cx];omega)⟩ ?_;refine fB x.row rfl rfl rfl rfl rfl (by rw[ae];exact o1) (by rw[ae];exact o2) ?_;(refine fZ ?_;repeat intro b);revert b;intro bd;refine fX (VS.env (env':=[(4,.v (.pointer (some ⟨bR,0,none⟩))),(7,.v (.pointer (some ⟨T.b0,0,none⟩))),(27,.v (.slice d.p d.l.length d.c)),(28,.v (i64 (d.l.length:Nat))),(29,.v (i64 (k:Nat))),(33,.loc 7 0),(34,.v (.agg x.row.toArray))]) (fQ (by rw[←k4];rfl) rfl) ?_);refine nQ rfl rfl rfl Yl rfl (ox.at (Uz s1 ⟨bR,(TV.row ⟨eI.none,ji.nil,[],none,0,[],none,0,NP.none⟩),64,11⟩ x k3 i1 hx hxo (by omega) (by omega)) (nx2:=14) [(12,5),(11,4),(10,3),(9,2),(8,1),(7,0)] 7 (dM rfl rfl (dM rfl rfl (dM rfl rfl (dM rfl rfl (dM rfl rfl (dX rfl trivial)))))) rfl rfl rfl rfl (by decide)) ?_;rintro _ G1 _ _ _ _ ⟨rfl,hs4,rfl,s4,oX,pW,hb4,rfl⟩;rw[TL.FE];(refine fZ ?_;repeat intro b);rw[dT (by omega)];exact fH (k+1,s4,G1) 7 [(19,12),(18,11),(17,10),(16,9),(15,8),(14,7)] [4,7,27,28,29] (s4.zU 7 ⟨bR,(TV.row ⟨eI.none,ji.nil,[],none,0,[],none,0,NP.none⟩),64,11⟩) ⟨hlt,k2.trans hs4,pW,hb4.trans k4,oX.trans hst.symm⟩ (by simp only;omega) (aM _ _) (dM rfl rfl (dM rfl rfl (dM rfl rfl (dM rfl rfl (dM rfl rfl (dX rfl trivial)))))) rfl rfl rfl rfl rfl rfl rfl
 have hge:k=d.l.length:=by omega
 subst hge;rw[an (by rw[ab];exact ah _)]at k5;(refine fZ ?_;repeat intro b);refine gy rfl (by omega) ?_;(refine l5 ?_;repeat intro b);refine mA (VS.env (env':=[(4,.loc 12 0),(7,.loc 7 0)]) (fQ (by rw[←k4];rfl) rfl) ?_);refine fC [7] (by kernel_rfl) ?_;refine dU [0,1,2,3,4,5,6,7] (f':=3) (by kernel_rfl) rfl rfl rfl ?_;(refine run ?_;repeat intro b);refine ee 8 (by kernel_rfl) rfl rfl ?_;(refine run ?_;repeat intro b);refine eG (Hp.sub.refl _) (dP rfl) ?_;refine ee 9 (by kernel_rfl) rfl rfl ?_;(refine run ?_;repeat intro b);refine eG (Hp.sub.refl _) (dP rfl) ?_;refine ee 10 (by kernel_rfl) rfl rfl ?_;(refine run ?_;repeat intro b);refine eG (Hp.sub.refl _) (dP rfl) ?_;refine fq (by kernel_rfl) ?_;(refine run ?_;repeat intro b);have hpe:mQ s (d.l.map qS.d).length=0:=by rw[hlm];exact he
 have hE:((firstT s).oB (d.l.map qS.d)).events=s1.events:=by rw[←k5];rfl
 refine eU (VS.iB [7,10] rfl (VS.Jc (env':=[(6,.v (i64 0)),(5,.row 11 0 s1.events.length s1.ce),(4,.loc 12 0)]) 8 [6,5,4] rfl (eH _) (fun b=>?_) rfl (fun _=>rfl) rfl fun F5 hs5 FU=>VS.Jc (env':=[(6,.v (i64 0)),(5,.row 11 0 s1.events.length s1.ce),(4,.loc 12 0)]) 9 [6,5,4] rfl (eH _) (fun b=>?_) rfl (fun _=>rfl) rfl fun F6 hs6 OB=>VS.shut (fun pp=>[(6,.v (i64 0)),(5,.v (.slice pp s1.events.length s1.ce)),(4,.loc 12 0)]) 11 [6,5,4] rfl (eH _) (fun _=>rfl) rfl (fun _=>rfl) rfl fun F7 p7 hs7 YM=>?_))
 ·rw[fE];show some [(7+5,(⟨_,_,_,_⟩:kg)),(7+4,⟨_,mS b 8 (List.map EV.v _),_,_⟩),(7+2,⟨_,mS b 8 (List.map EV.v _),_,_⟩)]=_;rw[fc,fc];rfl
 ·rw[fE];show some [(7+5,(⟨_,_,_,_⟩:kg)),(7+4,⟨_,mS b 9 (List.map EV.v _),_,_⟩)]=_;rw[fc];rfl
 refine⟨_,rfl,.inr ⟨hpe,⟨s1.dI,s1.cl,s1.dN,s1.bo.map fun b=>⟨b,0,none⟩,s1.co,s1.polls,s1.bp.map fun b=>⟨b,0,none⟩,s1.cp,s1.fN⟩,p7,s1.ce,?_,?_,?_,?_⟩⟩
 ·rw[←k5];exact⟨rfl,rfl,rfl,rfl,rfl⟩
 ·have h4:=TL.e8 (hs5.trans (hs6.trans hs7)) k3;exact⟨h4.dI,eu (hs6.trans hs7) FU,h4.dN,eu hs7 OB,h4.fN⟩
 ·rw[hE];exact YM
 rw[hE];rfl
end Go.Proofs.YthbnddgjkonkdaaGreatDoor
