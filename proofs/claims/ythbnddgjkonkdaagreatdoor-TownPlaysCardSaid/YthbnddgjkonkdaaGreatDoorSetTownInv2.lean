/- A part of the proof. -/
import Derived.Test.YthbnddgjkonkdaaGreatDoorSetTown3
import Derived.Test.YthbnddgjkonkdaaGreatDoorSetFwZ
set_option linter.unusedVariables false
set_option linter.unusedSimpArgs false
namespace Go.Proofs.YthbnddgjkonkdaaGreatDoor
section
open Go.TR
theorem Aw {cells:List EV}{k:Nat}{ow:jh}(h:(cells.take (0+k * 8+8)).drop (0+k * 8)=ow.row.map EV.v):cells[0+k * 8+0]? =some (.v (S ow.o.name)):=by
 have:=a8 (·[0]?) h;simp only[cu]at this;rw[cB,aZ (by omega)]at this;exact this
attribute [local irreducible] vc dT gx fc fA gC gG gw fG Plain eu eR dH VS fq fx fD ju fe IntKind.wrap
set_option maxRecDepth 100000
set_option maxHeartbeats 4000000
theorem Jj (s:TL)(z:Fr)(x:LP){F:Hp}(h:s.at F)(hx:x.at F)(wx:x.l.wf)(hno:s.dK.length≤4)(hwo: ∀x∈s.dK,x.o.wf∧kf x.o=0)(hcw:s.dF.wf)(hsi: -9223372036854775808≤x.l.since∧x.l.since≤9223372036854775807)(hre:1≤s.reach∧s.reach≤40)(wr0:s.t.owned x.l.from_=true→(s.t.pD x.l).wf)(hw: ∀y∈s.fJ.gz,y.l.wf)(hn:s.fJ.gz.length≤60)(FR:gD s.fJ=0)(hf: ∀f∈s.dX,f.f.length≤17592186044416):oy s z F 176 [.agg x.row.toArray] (s.t.answer x.l):=by
 refine eR.norm 6 (ah 6) (iQ (N:=76) (rv:=[]) eP mixed Tryz.func176 rfl rfl rfl rfl rfl ?_);(refine fW ?_;repeat intro b);revert b;intro bx;refine om rfl rfl rfl N7 rfl (ya s z ⟨some bx,x.row.map EV.v,71,12⟩ x.l.from_ F hno) ?_;rintro _ F' _ _ _ _ ⟨rfl,hF,rfl,rfl⟩;have hF:=hF.symm;subst hF;(refine fW ?_;repeat intro b);refine ez (!s.t.owned x.l.from_) rfl (fun h0=>?_) (fun h0=>?_)
 ·(refine fW ?_;repeat intro b);refine Ba (iJ (s':=s) 7 [(5,12),(4,11),(3,10),(2,9),(1,8),(0,7)] ?_ rfl rfl rfl rfl (Hp.sub.refl _) ?_ h rfl)
  ·rw[TL.gT];exact (dJ rfl rfl (dJ rfl rfl (dJ rfl rfl (dJ rfl rfl (dJ rfl rfl (dU rfl trivial))))))
  unfold fm.answer;rw[aY];cases ho:s.t.owned x.l.from_ with
  | false=>exact Bool.false_ne_true
  | true=>rw[ho]at h0;cases h0
 have ho:s.t.owned x.l.from_=true:=by cases hh:s.t.owned x.l.from_ with
  | true=>rfl
  | false=>rw[hh]at h0;cases h0
 have wr:=wr0 ho;clear wr0;obtain⟨k0,k1⟩:=TL.get ho;have e1:s.t.ow x.l.from_.toNat=(s.dK[x.l.from_.toNat]).o:=by
  unfold fm.ow;simp[TL.t,List.getD,k1]
 have ek:s.t.answer x.l=s.t.send (s.t.pD x.l):=by unfold fm.answer;rw[aZ ho]
 unfold fm.pD at ek wr;rw[e1]at ek wr;obtain⟨hwk,BC⟩:=hwo _ (aj k1);obtain⟨ow,how⟩: ∃y,s.dK[x.l.from_.toNat]=y:=⟨_,rfl⟩;have kH:=kQ (f:=jh.row) (k:=8) gW k1;have oL:=dL gW s.dK;rw[how]at ek wr hwk BC kH;obtain⟨bo,Dp⟩: ∃b,s.bo=some b:=by
  cases hh:s.bo with
  | some b=>exact⟨b,rfl⟩
  | none=>have:=h.rD hh;omega
 obtain⟨dF,cl,dK,polls,fJ,reach,iY,fo,dX,events,b0,Ss,co,bp,cp,bf,cf,xf,be,ce⟩:=s;dsimp only at *;subst Dp;have k2:x.l.from_.toNat<dK.length:=k1;dsimp only [TL.rs,TL.cells];have hhl:=hcw.hlen;(refine fW ?_;repeat intro b);have eN:IntKind.i64.wrap (((dF.dP.length:Nat):Int) - 1)=((dF.dP.length:Nat):Int) - 1:=wrap_i64 (by omega) (by omega);rw[eN];have eF:(if 0>(if ((dF.dP.length:Nat):Int) - 1<x.l.since then ((dF.dP.length:Nat):Int) - 1 else x.l.since) then 0 else (if ((dF.dP.length:Nat):Int) - 1<x.l.since then ((dF.dP.length:Nat):Int) - 1 else x.l.since))=kg dF x.l.since:=by
  unfold kg;split<;>split<;>omega
 rw[eF];have hf0:0≤kg dF x.l.since∧kg dF x.l.since≤4398046511104:=by unfold kg;omega
 rw[wrap_i64 (n:=kg dF x.l.since+reach) (by omega) (by omega),wrap_i64 (n:=kg dF x.l.since+reach - 1) (by omega) (by omega)];have eT:(if ((dF.dP.length:Nat):Int) - 1<kg dF x.l.since+reach - 1 then ((dF.dP.length:Nat):Int) - 1 else kg dF x.l.since+reach - 1)=jo dF x.l.since reach:=by
  unfold jo;split<;>omega
 rw[eT];have ht0: -1≤jo dF x.l.since reach∧jo dF x.l.since reach≤4398046511104:=by unfold jo;omega
 refine fi rfl rfl rfl Vu rfl (zZ dF cl (kg dF x.l.since) (jo dF x.l.since reach) hcw h.dF) ?_;rintro _ F2 hs2 ⟨p2,c2,rfl,_,hp2⟩;(refine fW ?_;repeat intro b);refine fz [0,6,1] (by kernel_rfl) ?_;refine dR [0,1,2,3,4,5,6,7,8,9,10,11,12,13,14,15] (f':=7) (by kernel_rfl) rfl rfl rfl ?_;(refine run ?_;repeat intro b);refine dI rfl rfl rfl ⟨k0,by omega,_,_,rfl,rfl⟩ ?_;(refine run ?_;repeat intro b);refine od (S ow.o.name) rfl rfl rfl rfl rfl (by exact Aw kH) ?_;(refine run ?_;repeat intro b);refine jC 16 20 (by kernel_rfl) rfl rfl rfl ?_ ?_
 ·refine fi rfl rfl rfl U6 rfl (tY dF cl ow.o.name (jo dF x.l.since reach) hcw hwk.name ⟨by omega,by omega⟩ (eE.eX hs2 h.dF)) ?_;rintro _ F3 hs3 ⟨a3,rfl,Q6⟩;(refine run ?_;repeat intro b);refine eC (hs3) ⟨⟨rfl,rfl,rfl,rfl,rfl,rfl,rfl,rfl,rfl,rfl,rfl,rfl,rfl,rfl,rfl,trivial⟩,⟨rfl,rfl,rfl,rfl,rfl,rfl,rfl,rfl,rfl,rfl,rfl,rfl,rfl,trivial⟩,⟨rfl,fQ _ _ _⟩,trivial⟩ ?_;refine dR [17,18,19] (f':=3) (by kernel_rfl) rfl rfl rfl ?_;(refine run ?_;repeat intro b);refine dY 20 (by kernel_rfl) rfl rfl ?_;(refine run ?_;repeat intro b);revert b;intro bR;refine eC (Hp.sub.refl _) ⟨⟨rfl,rfl,rfl,rfl,rfl,rfl,rfl,rfl,rfl,rfl,rfl,rfl,rfl,rfl,rfl,trivial⟩,⟨rfl,rfl,rfl,rfl,rfl,rfl,rfl,rfl,rfl,rfl,rfl,rfl,rfl,trivial⟩,⟨rfl,fQ _ _ _⟩,trivial⟩ ?_;refine dY 21 (by kernel_rfl) rfl rfl ?_;(refine run ?_;repeat intro b);refine eC (Hp.sub.refl _) ⟨⟨rfl,rfl,rfl,rfl,rfl,rfl,rfl,rfl,rfl,rfl,rfl,rfl,rfl,rfl,rfl,trivial⟩,⟨rfl,rfl,rfl,rfl,rfl,rfl,rfl,rfl,rfl,rfl,rfl,rfl,rfl,trivial⟩,⟨rfl,fQ _ _ _⟩,trivial⟩ ?_;refine dR [22] (f':=0) (by kernel_rfl) rfl rfl rfl ?_;(refine run ?_;repeat intro b);refine fk (by kernel_rfl) ?_;(refine fW ?_;repeat intro b);have cn:=C3 (⟨dF,cl,dK,polls,fJ,reach,iY,fo,dX,events,b0,some bo,co,bp,cp,bf,cf,xf,be,ce⟩:TL) z ⟨⟨x.l.from_,0,0,0,k8 dF (kg dF x.l.since) (jo dF x.l.since reach),o8 dF ow.o.name (jo dF x.l.since reach),nq dF ow.o.name (jo dF x.l.since reach)⟩,p2,c2,a3⟩ (TL.eX (hs2.trans hs3) h) ⟨dZ hs3 hp2,Q6⟩ wr hw hn FR hf;refine om rfl rfl rfl MR rfl (oy.at cn (nx2:=8) [(5,5),(4,4),(3,3),(2,2),(1,1),(0,0)] 0 (dJ rfl rfl (dJ rfl rfl (dJ rfl rfl (dJ rfl rfl (dJ rfl rfl (dU rfl trivial)))))) rfl rfl rfl rfl (by decide)) ?_;rintro _ F4 _ _ _ _ ⟨rfl,hs4,rfl,s4,oU,pT,hb4,rfl⟩;(refine fW ?_;repeat intro b);exact jR (VS.id ⟨_,rfl,8,s4.rs z,6,.v (.tuple #[]),rfl,rfl,rfl,rfl,rfl,hs2.trans (hs3.trans hs4),s4,oU.trans ek.symm,pT,hb4,rfl⟩)
 (refine run ?_;repeat intro b);revert b;intro bR;refine eC (Hp.sub.refl _) ⟨⟨rfl,rfl,rfl,rfl,rfl,rfl,rfl,rfl,rfl,rfl,rfl,rfl,rfl,rfl,rfl,trivial⟩,⟨rfl,rfl,rfl,rfl,rfl,rfl,rfl,rfl,rfl,rfl,rfl,rfl,rfl,trivial⟩,⟨rfl,fQ _ _ _⟩,trivial⟩ ?_;refine dY 16 (by kernel_rfl) rfl rfl ?_;refine fi rfl rfl rfl U6 rfl (tY dF cl ow.o.name (jo dF x.l.since reach) hcw hwk.name ⟨by omega,by omega⟩ (eE.eX hs2 h.dF)) ?_;rintro _ F3 hs3 ⟨a3,rfl,Q6⟩;(refine run ?_;repeat intro b);refine eC (hs3) ⟨⟨rfl,rfl,rfl,rfl,rfl,rfl,rfl,rfl,rfl,rfl,rfl,rfl,rfl,rfl,rfl,trivial⟩,⟨rfl,rfl,rfl,rfl,rfl,rfl,rfl,rfl,rfl,rfl,rfl,rfl,rfl,trivial⟩,⟨rfl,fQ _ _ _⟩,trivial⟩ ?_;refine dR [17,18,19] (f':=2) (by kernel_rfl) rfl rfl rfl ?_;(refine run ?_;repeat intro b);refine dY 21 (by kernel_rfl) rfl rfl ?_;(refine run ?_;repeat intro b);refine eC (Hp.sub.refl _) ⟨⟨rfl,rfl,rfl,rfl,rfl,rfl,rfl,rfl,rfl,rfl,rfl,rfl,rfl,rfl,rfl,trivial⟩,⟨rfl,rfl,rfl,rfl,rfl,rfl,rfl,rfl,rfl,rfl,rfl,rfl,rfl,trivial⟩,⟨rfl,fQ _ _ _⟩,trivial⟩ ?_;refine dR [22] (f':=0) (by kernel_rfl) rfl rfl rfl ?_;(refine run ?_;repeat intro b);refine fk (by kernel_rfl) ?_;(refine fW ?_;repeat intro b);have cn:=C3 (⟨dF,cl,dK,polls,fJ,reach,iY,fo,dX,events,b0,some bo,co,bp,cp,bf,cf,xf,be,ce⟩:TL) z ⟨⟨x.l.from_,0,0,0,k8 dF (kg dF x.l.since) (jo dF x.l.since reach),o8 dF ow.o.name (jo dF x.l.since reach),nq dF ow.o.name (jo dF x.l.since reach)⟩,p2,c2,a3⟩ (TL.eX (hs2.trans hs3) h) ⟨dZ hs3 hp2,Q6⟩ wr hw hn FR hf;refine om rfl rfl rfl MR rfl (oy.at cn (nx2:=8) [(5,5),(4,4),(3,3),(2,2),(1,1),(0,0)] 0 (dJ rfl rfl (dJ rfl rfl (dJ rfl rfl (dJ rfl rfl (dJ rfl rfl (dU rfl trivial)))))) rfl rfl rfl rfl (by decide)) ?_;rintro _ F4 _ _ _ _ ⟨rfl,hs4,rfl,s4,oU,pT,hb4,rfl⟩;(refine fW ?_;repeat intro b);exact jR (VS.id ⟨_,rfl,8,s4.rs z,6,.v (.tuple #[]),rfl,rfl,rfl,rfl,rfl,hs2.trans (hs3.trans hs4),s4,oU.trans ek.symm,pT,hb4,rfl⟩)
end
section
open Go.TR
theorem EJ (l:List Poll):(l.flatMap Poll.row).length=l.length * 6:=dL iN l
attribute [local irreducible] vc dT gx fc fA gC gG gw fG Plain eu eR dH VS fq fx fD ju fe IntKind.wrap
set_option maxRecDepth 100000
set_option maxHeartbeats 4000000
theorem RR (s:TL)(z:Fr)(x:LP){F:Hp}(h:s.at F)(hx:x.at F)(wx:x.l.wf)(k0:0≤x.l.iM)(k2:x.l.iM.toNat<s.dK.length)(hpl:s.polls.length=s.dK.length)(hwo: ∀x∈s.dK,x.o.wf∧kf x.o=0)(hpb: ∀p∈s.polls,p.bad=false)(Wp:0≤s.dF.now∧s.dF.now≤1000000000)(hev:s.events.length≤1000000):oy s z F 177 [.agg x.row.toArray] (s.t.IC x.l):=by
 refine eR.norm 6 (ah 6) (iQ (N:=75) (rv:=[]) eP mixed Tryz.func177 rfl rfl rfl rfl rfl ?_);have e1:s.t.ow x.l.iM.toNat=(s.dK[x.l.iM.toNat]).o:=by
  unfold fm.ow;simp[TL.t,List.getD,k2]
 have oT:=h.dK _ (aj k2);obtain⟨hwk,BC⟩:=hwo _ (aj k2);have kH:=kQ (f:=jh.row) (k:=8) gW k2;have oL:=dL gW s.dK;obtain⟨K,hK⟩: ∃K,s.t.GK x.l=K:=⟨_,rfl⟩;obtain⟨O,hO⟩: ∃O,s.t.seen x.l=O:=⟨_,rfl⟩;have hK1:FJ (s.dK[x.l.iM.toNat]).o x.l.dP x.l.head x.l.nJ=K:=by rw[←hK];unfold fm.GK;rw[e1]
 have Y6:uy (s.dK[x.l.iM.toNat]).o x.l.dP x.l.head x.l.nJ=O:=by rw[←hO];unfold fm.seen;rw[e1]
 obtain⟨ow,how⟩: ∃y,s.dK[x.l.iM.toNat]=y:=⟨_,rfl⟩;rw[how]at oT hwk BC kH hK1 Y6;obtain⟨bo,Dp⟩: ∃b,s.bo=some b:=by
  cases hh:s.bo with
  | some b=>exact⟨b,rfl⟩
  | none=>have:=h.rD hh;omega
 obtain⟨dF,cl,dK,polls,fJ,reach,iY,fo,dX,events,b0,Ss,co,bp,cp,bf,cf,xf,be,ce⟩:=s;dsimp only at *;subst Dp;have k3:x.l.iM.toNat<dK.length:=k2;have zV:0+x.l.iM.toNat * 8+8≤((dK.flatMap jh.row).map EV.v).length:=by rw[ab,oL];omega
 dsimp only [TL.rs,TL.cells];(refine fW ?_;repeat intro b);revert b;intro bx;refine k7 (β:=Hp×Option Addr×Nat×Nat) (fun q=>F.sub q.1∧eY q.1 q.2.1 (O.wanted.map S)) (fun q=>⟨[(0,.loc 0 0),(3,.loc 6 0),(4,.loc 7 0),(5,.v (i64 K))],q.1,
  (7,⟨some q.2.2.2,(jh.row ⟨O,q.2.1,q.2.2.1⟩).map EV.v,76,8⟩)::(6,⟨some bx,x.row.map EV.v,71,12⟩)::(⟨dF,cl,dK,polls,fJ,reach,iY,fo,dX,events,b0,some bo,co,bp,cp,bf,cf,xf,be,ce⟩:TL).rs z,8⟩) rfl (fun q hq=>?_) (fun u7 kn kr ke=>?_)
 ·obtain⟨F2,pw,cw,bO⟩:=q;obtain⟨hs2,hfw⟩:=hq;dsimp only at hs2 hfw ⊢;dsimp only [TL.rs,TL.cells];(refine fW ?_;repeat intro b);refine jK 8 (by kernel_rfl) rfl rfl ?_;(refine fW ?_;repeat intro b);refine dI rfl rfl rfl ⟨k0,by omega,_,_,rfl,rfl⟩ ?_;refine iP (((dK.set x.l.iM.toNat ⟨O,pw,cw⟩).flatMap jh.row).map EV.v) rfl rfl rfl rfl rfl rfl (by exact zV) (by exact mj (f:=jh.row) gW k2) rfl ?_;(refine fW ?_;repeat intro b);refine fT (VS.freeze 6 [0,3,5,34,36,37,40] rfl rfl rfl rfl fun F3 hs3 hf3=>?_);rw[e9,e9,e9,e9,e9,e9];refine VS.env (env':=[(0,.v (.pointer (some ⟨b0,0,none⟩))),(3,.v (.pointer (some ⟨bx,0,none⟩))),(5,.v (i64 K)),(34,.loc 0 0),(36,.v (i64 x.l.iM)),(37,.v (i64 K)),(40,.v (i64 O.head.dW))]) (fN rfl rfl) ?_;have h3:=TL.eX (hs2.trans hs3) h;have at2:(⟨dF,cl,dK.set x.l.iM.toNat ⟨O,pw,cw⟩,polls,fJ,reach,iY,fo,dX,events,b0,some bo,co,bp,cp,bf,cf,xf,be,ce⟩:TL).at F3:={ h3 with dK:=(fun x hx=>(cW hx).elim (h3.dK x) (fun e=>by subst e;exact dZ hs3 hfw)),rD:=(fun hn=>by cases hn),IV:=(by show (dK.set _ _).length≤co;rw[cJ];exact h3.IV) };have cn:=CX (⟨dF,cl,dK.set x.l.iM.toNat ⟨O,pw,cw⟩,polls,fJ,reach,iY,fo,dX,events,b0,some bo,co,bp,cp,bf,cf,xf,be,ce⟩:TL) z 2 x.l.iM K O.head.dW at2 hev;refine om rfl rfl rfl N9 rfl (oy.at cn (nx2:=8) [(5,5),(4,4),(3,3),(2,2),(1,1),(0,0)] 0 ?_ rfl rfl rfl rfl (by decide)) ?_
  ·dsimp only [TL.rs,TL.cells];rw[cJ];exact (dJ rfl rfl (dJ rfl rfl (dJ rfl rfl (dJ rfl rfl (dJ rfl rfl (dU rfl trivial))))))
  rintro _ F4 _ _ _ _ ⟨rfl,hs4,rfl,s4,oU,pT,hb4,rfl⟩;have WN:s4.t=(⟨dF,cl,dK,polls,fJ,reach,iY,fo,dX,events,b0,some bo,co,bp,cp,bf,cf,xf,be,ce⟩:TL).t.PN x.l:=by
   rw[oU];unfold fm.PN;rw[hK,hO];refine a8 (fun o=>fm.note o _) ?_;simp only[TL.t,List.map_set]
  (refine fW ?_;repeat intro b);refine ez (decide (K=0∨K=1)) ?_ (fun hk=>?_) (fun hk=>?_)
  ·refine dS ?_;rw[fu,ai];simp
  ·have ek:(⟨dF,cl,dK,polls,fJ,reach,iY,fo,dX,events,b0,some bo,co,bp,cp,bf,cf,xf,be,ce⟩:TL).t.IC x.l={ s4.t with polls:=polls.set x.l.iM.toNat ((polls.getD x.l.iM.toNat Poll.none).heard dF.now) }:=by
    unfold fm.IC;rw[hK,aZ (ar hk),WN];rfl
   have kp:x.l.iM.toNat<polls.length:=by omega
   have egp:polls.getD x.l.iM.toNat Poll.none=polls[x.l.iM.toNat]:=by simp[List.getD,kp]
   have K2:=hpb _ (aj kp);rw[egp]at ek;have qL:=kQ (f:=Poll.row) (k:=6) iN kp;have On:=fun y=>mj (f:=Poll.row) (x:=y) iN kp;have u5:=EJ polls;generalize polls[x.l.iM.toNat]=p at *;have hp4:s4.polls=polls:=by have:=a8 fm.polls oU;exact this
   have hc4:s4.dF=dF:=by have:=a8 fm.dF oU;exact this
   have FQ:=dZ hs4 hf3;obtain⟨tw,cl4,P5,vV,Y7,SS,Y8,SC,SU,P6,SD,SE,SF,WO,Q9,SH,SI,SJ,W2,W3⟩:=s4;dsimp only at hp4 hc4 hb4;subst hp4 hc4 hb4;obtain⟨SG,hbp⟩: ∃b,WO=some b:=by
    cases WO with
    | some b=>exact⟨b,rfl⟩
    | none=>have:=(pT.wY rfl).1;dsimp only at this;omega
   subst hbp;rw[TL.gT];dsimp only [TL.cells];refine mq (VS.env (env':=[(0,.loc 8 0),(3,.v (.pointer (some ⟨bx,0,none⟩)))]) (fN rfl rfl) ?_);have ehp:(p.heard tw.now).hU (p.kv tw.now)=p.heard tw.now:=by
    unfold Poll.hU Poll.kv;rw[K2,aY];simp only[bq,dB];rw[aY (by omega)];decide
   have kp4:x.l.iM.toNat<vV.length:=kp;refine fz [8] (by kernel_rfl) ?_;refine dR [0,1,2,3,4,5,6,7,8,9,10,11,12,13,14,16,17,18,19,20,21] (f':=7) (by kernel_rfl) rfl rfl rfl ?_;(refine run ?_;repeat intro b);refine dI rfl rfl rfl rfl ?_;refine fr (i64 x.l.iM) rfl rfl rfl rfl (by exact FQ 0 _ rfl) ?_;(refine run ?_;repeat intro b);refine dI rfl rfl rfl rfl ?_;refine fr (i64 x.l.iM) rfl rfl rfl rfl (by exact FQ 0 _ rfl) ?_;refine dI rfl rfl rfl ⟨k0,by omega,_,_,rfl,rfl⟩ ?_;(refine run ?_;repeat intro b);refine dY 15 (by kernel_rfl) rfl rfl ?_;refine lB p.row rfl rfl rfl rfl rfl (by show 0+x.l.iM.toNat * 6+6≤((vV.flatMap Poll.row).map EV.v).length;rw[ab,u5];omega) (by exact qL) ?_;(refine run ?_;repeat intro b);refine eC (Hp.sub.refl _) (dM rfl) ?_;refine dY 22 (by kernel_rfl) rfl rfl ?_;refine dG _ rfl rfl rfl Wj rfl (GJ p tw.now F4) ?_;(refine run ?_;repeat intro b);refine eC (Hp.sub.refl _) (dM rfl) ?_;refine dR [23,24,25] (f':=2) (by kernel_rfl) rfl rfl rfl ?_;(refine run ?_;repeat intro b);refine dY 26 (by kernel_rfl) rfl rfl ?_;refine dI rfl rfl rfl ⟨k0,by omega,_,_,rfl,rfl⟩ ?_;(refine run ?_;repeat intro b);refine eC (Hp.sub.refl _) (dM rfl) ?_;refine dY 27 (by kernel_rfl) rfl rfl ?_;rw[ehp];refine iP (((vV.set x.l.iM.toNat (p.heard tw.now)).flatMap Poll.row).map EV.v) rfl rfl rfl rfl rfl rfl (by show 0+x.l.iM.toNat * 6+6≤((vV.flatMap Poll.row).map EV.v).length;rw[ab,u5];omega) (by exact On _) rfl ?_;(refine run ?_;repeat intro b);refine eC (Hp.sub.refl _) (dM rfl) ?_;refine fk (by kernel_rfl) ?_;(refine fW ?_;repeat intro b);refine jR (iJ (s':=(⟨tw,cl4,P5,vV.set x.l.iM.toNat (p.heard tw.now),Y7,SS,Y8,SC,SU,P6,SD,SE,SF,some SG,Q9,SH,SI,SJ,W2,W3⟩:TL)) 14 [(13,19),(12,18),(11,17),(10,16),(9,15),(8,14)] ?_ rfl rfl rfl rfl (hs2.trans (hs3.trans hs4)) ek.symm { pT with wY:=(fun hn=>by cases hn),K7:=(by show (vV.set _ _).length≤Q9;rw[cJ];exact pT.K7) } rfl);rw[TL.gT];dsimp only [TL.cells];rw[cJ];exact (dJ rfl rfl (dJ rfl rfl (dJ rfl rfl (dJ rfl rfl (dJ rfl rfl (dU rfl trivial))))))
  (refine fW ?_;repeat intro b);refine jR (VS.id ⟨_,rfl,8,s4.rs z,6,.v (.tuple #[]),rfl,rfl,rfl,rfl,rfl,hs2.trans (hs3.trans hs4),s4,?_,pT,hb4,rfl⟩);unfold fm.IC;rw[hK,aY (au hk),WN]
 refine fz [0,6,1] (by kernel_rfl) ?_;refine dR [0,1,2,3,4,5,6,7,8,9,10,11,12] (f':=9) (by kernel_rfl) rfl rfl rfl ?_;(refine run ?_;repeat intro b);refine dI rfl rfl rfl ⟨k0,by omega,_,_,rfl,rfl⟩ ?_;refine lB ow.row rfl rfl rfl rfl rfl (by exact zV) (by exact kH) ?_;(refine run ?_;repeat intro b);refine jC 13 18 (by kernel_rfl) rfl rfl rfl ?_ ?_
 ·refine fi rfl rfl rfl P7 rfl (Lu ow.o x.l.dP x.l.head x.l.nJ x.a hwk (by have:=wx.dP;omega) wx.each wx.nJ oT hx.dP hx.nJ) ?_;rintro _ F2 hs2 ⟨pw,cw,rfl,hfw⟩;rw[hK1];rw[Y6]at hfw ⊢;(refine run ?_;repeat intro b);refine eC (hs2) ⟨⟨rfl,rfl,rfl,rfl,rfl,rfl,rfl,rfl,rfl,rfl,rfl,rfl,rfl,rfl,rfl,trivial⟩,⟨rfl,rfl,rfl,rfl,rfl,rfl,rfl,rfl,rfl,rfl,rfl,rfl,rfl,trivial⟩,⟨rfl,fQ _ _ _⟩,trivial⟩ ?_;refine dR [14,15,16,17] (f':=4) (by kernel_rfl) rfl rfl rfl ?_;(refine run ?_;repeat intro b);refine dY 18 (by kernel_rfl) rfl rfl ?_;(refine run ?_;repeat intro b);revert b;intro bO;refine eC (Hp.sub.refl _) ⟨⟨rfl,rfl,rfl,rfl,rfl,rfl,rfl,rfl,rfl,rfl,rfl,rfl,rfl,rfl,rfl,trivial⟩,⟨rfl,rfl,rfl,rfl,rfl,rfl,rfl,rfl,rfl,rfl,rfl,rfl,rfl,trivial⟩,⟨rfl,fQ _ _ _⟩,trivial⟩ ?_;refine dY 19 (by kernel_rfl) rfl rfl ?_;(refine run ?_;repeat intro b);refine eC (Hp.sub.refl _) ⟨⟨rfl,rfl,rfl,rfl,rfl,rfl,rfl,rfl,rfl,rfl,rfl,rfl,rfl,rfl,rfl,trivial⟩,⟨rfl,rfl,rfl,rfl,rfl,rfl,rfl,rfl,rfl,rfl,rfl,rfl,rfl,trivial⟩,⟨rfl,fQ _ _ _⟩,trivial⟩ ?_;refine dR [20,21] (f':=0) (by kernel_rfl) rfl rfl rfl ?_;(refine run ?_;repeat intro b);refine fk (by kernel_rfl) ?_;(refine run ?_;repeat intro b);exact kn _ (VS.eH [0,3,4,5] rfl ⟨(F2,pw,cw,bO),⟨hs2,hfw⟩,rfl⟩)
 (refine run ?_;repeat intro b);revert b;intro bO;refine eC (Hp.sub.refl _) ⟨⟨rfl,rfl,rfl,rfl,rfl,rfl,rfl,rfl,rfl,rfl,rfl,rfl,rfl,rfl,rfl,trivial⟩,⟨rfl,rfl,rfl,rfl,rfl,rfl,rfl,rfl,rfl,rfl,rfl,rfl,rfl,trivial⟩,⟨rfl,fQ _ _ _⟩,trivial⟩ ?_;refine dY 13 (by kernel_rfl) rfl rfl ?_;refine fi rfl rfl rfl P7 rfl (Lu ow.o x.l.dP x.l.head x.l.nJ x.a hwk (by have:=wx.dP;omega) wx.each wx.nJ oT hx.dP hx.nJ) ?_;rintro _ F2 hs2 ⟨pw,cw,rfl,hfw⟩;rw[hK1];rw[Y6]at hfw ⊢;(refine run ?_;repeat intro b);refine eC (hs2) ⟨⟨rfl,rfl,rfl,rfl,rfl,rfl,rfl,rfl,rfl,rfl,rfl,rfl,rfl,rfl,rfl,trivial⟩,⟨rfl,rfl,rfl,rfl,rfl,rfl,rfl,rfl,rfl,rfl,rfl,rfl,rfl,trivial⟩,⟨rfl,fQ _ _ _⟩,trivial⟩ ?_;refine dR [14,15,16,17] (f':=3) (by kernel_rfl) rfl rfl rfl ?_;(refine run ?_;repeat intro b);refine dY 19 (by kernel_rfl) rfl rfl ?_;(refine run ?_;repeat intro b);refine eC (Hp.sub.refl _) ⟨⟨rfl,rfl,rfl,rfl,rfl,rfl,rfl,rfl,rfl,rfl,rfl,rfl,rfl,rfl,rfl,trivial⟩,⟨rfl,rfl,rfl,rfl,rfl,rfl,rfl,rfl,rfl,rfl,rfl,rfl,rfl,trivial⟩,⟨rfl,fQ _ _ _⟩,trivial⟩ ?_;refine dR [20,21] (f':=0) (by kernel_rfl) rfl rfl rfl ?_;(refine run ?_;repeat intro b);refine fk (by kernel_rfl) ?_;(refine run ?_;repeat intro b);exact kn _ (VS.eH [0,3,4,5] rfl ⟨(F2,pw,cw,bO),⟨hs2,hfw⟩,rfl⟩)
end
section
open Go.TR
theorem Bf (a b c d:Int):(⟨a,b,c,d,[],Head.none,jn.none⟩:mJ).wf:=by
 have h1:Head.none.wf:=⟨by decide,by decide,by decide,by decide⟩;have h2:jn.none.wf:=by constructor<;>simp[jn.none]
 exact⟨by simp,(fun x hx=>by cases hx),h1,h2,by simp[jn.none],by simp[jn.none]⟩
theorem rY (t:fm)(l:mJ):(t.send l).dF=t.dF∧(t.send l).events=t.events:=by
 unfold fm.send fm.post;split<;>split<;>exact⟨rfl,rfl⟩
theorem yC {l:List jh}{k:Nat}(h:k<l.length):0+k * 8+8≤((l.flatMap jh.row).map EV.v).length∧((l.flatMap jh.row).map EV.v)[0+k * 8+2+0]? =some (.v (i64 (l[k]).o.head.dW)):=by
 have h1:=kQ (f:=jh.row) (k:=8) gW h;constructor
 ·rw[ab,dL gW];omega
 have:=a8 (·[2]?) h1;simp only[cu]at this;rw[cB,aZ (by omega)]at this;exact this
attribute [local irreducible] vc dT gx fc fA gC gG gw fG Plain eu eR dH VS fq fx fD ju fe IntKind.wrap
set_option maxRecDepth 100000
set_option maxHeartbeats 4000000
theorem RB (s:TL)(z:Fr)(k:Nat){F:Hp}(h:s.at F)(k2:k<s.dK.length)(hpl:s.polls.length=s.dK.length)(hk:k≤4)(W1:0≤(s.dK[k]).o.head.dW∧(s.dK[k]).o.head.dW≤1000000000)(hpb: ∀p∈s.polls,p.bad=false)(hsb:(s.t.pl k).lC s.dF.now=0→((s.t.pl k).mP s.dF.now).bad=false)(hev:s.events.length≤1000000)
  (hw: ∀y∈s.fJ.gz,y.l.wf) (hn:s.fJ.gz.length≤60) (FR:gD s.fJ=0) (hf: ∀f∈s.dX,f.f.length≤17592186044416):oy s z F 178 [i64 (k:Nat)] (s.t.ask k):=by
 refine eR.norm 6 (ah 6) (iQ (N:=84) (rv:=[]) eP mixed Tryz.func178 rfl rfl rfl rfl rfl ?_);have kp:k<s.polls.length:=by omega
 have e1:s.t.pl k=s.polls[k]:=by
  unfold fm.pl;simp[TL.t,List.getD,kp]
 have e2:s.t.ow k=(s.dK[k]).o:=by
  unfold fm.ow;simp[TL.t,List.getD,k2]
 have ek:s.t.ask k=if (s.polls[k]).lC s.dF.now=0 then (if decide ((s.polls[k]).asked+1=(s.polls[k]).lost)=true then (s.t.asked k).note ⟨3,(k:Nat),0,s.dF.now⟩ else s.t.asked k) else s.t:=by
  unfold fm.ask fm.Ng;rw[e1];rfl
 have ea:s.t.asked k=fm.send { s.t with polls:=s.polls.set k ((s.polls[k]).mP s.dF.now) } ⟨-1,(k:Nat),(s.dK[k]).o.head.dW+1,0,[],Head.none,jn.none⟩:=by
  unfold fm.asked fm.Cm;rw[e1,e2];rfl
 rw[e1]at hsb;have qL:=kQ (f:=Poll.row) (k:=6) iN kp;have On:=fun y=>mj (f:=Poll.row) (x:=y) iN kp;have u5:=EJ s.polls;have K2:=hpb _ (aj kp);obtain⟨p,hp⟩: ∃y,s.polls[k]=y:=⟨_,rfl⟩;rw[hp]at hsb ek ea qL K2;clear e1 hp;obtain⟨bp,hbp⟩: ∃b,s.bp=some b:=by
  cases hh:s.bp with
  | some b=>exact⟨b,rfl⟩
  | none=>have:=h.wY hh;omega
 obtain⟨bo,Dp⟩: ∃b,s.bo=some b:=by
  cases hh:s.bo with
  | some b=>exact⟨b,rfl⟩
  | none=>have:=h.rD hh;omega
 obtain⟨hE,hD⟩:=yC k2;obtain⟨dF,cl,dK,polls,fJ,reach,iY,fo,dX,events,b0,Ss,co,u4,cp,bf,cf,xf,be,ce⟩:=s;dsimp only at *;subst hbp Dp;have k3:k<dK.length:=k2;have kp3:k<polls.length:=kp;have Dq:0+k * 6+6≤((polls.flatMap Poll.row).map EV.v).length:=by rw[ab,u5];omega
 dsimp only [TL.rs,TL.cells];(refine fW ?_;repeat intro b);refine k7 (β:=Nat) (fun _=>True) (fun q=>⟨[(0,.loc 0 0),(1,.v (i64 (k:Nat))),(4,.loc 6 0),(5,.v (i64 (p.lC dF.now)))],F,
  (6,⟨some q,((p.mP dF.now).hU (p.lC dF.now)).row.map EV.v,159,6⟩)::(⟨dF,cl,dK,polls,fJ,reach,iY,fo,dX,events,b0,some bo,co,some bp,cp,bf,cf,xf,be,ce⟩:TL).rs z,7⟩) rfl (fun q _=>?_) (fun u7 kn kr ke=>?_)
 ·dsimp only [TL.rs,TL.cells];(refine fW ?_;repeat intro b);refine ez (decide (p.lC dF.now≠0)) ?_ (fun h1=>?_) (fun h1=>?_)
  ·refine dS ?_;rw[ai];simp
  ·have h1:=ar h1;rw[aY h1]at ek;(refine fW ?_;repeat intro b);refine Ba (iJ (s':=(⟨dF,cl,dK,polls,fJ,reach,iY,fo,dX,events,b0,some bo,co,some bp,cp,bf,cf,xf,be,ce⟩:TL)) 7 [(5,12),(4,11),(3,10),(2,9),(1,8),(0,7)] ?_ rfl rfl rfl rfl (Hp.sub.refl _) ek.symm h rfl);rw[TL.gT];exact (dJ rfl rfl (dJ rfl rfl (dJ rfl rfl (dJ rfl rfl (dJ rfl rfl (dU rfl trivial))))))
  have h1:p.lC dF.now=0:=by have:=au h1;omega
  rw[aZ h1]at ek;have Y5:=hsb h1;have eO:(p.mP dF.now).hU (p.lC dF.now)=p.mP dF.now:=by unfold Poll.hU;rw[aY (by omega)]
  rw[eO];(refine fW ?_;repeat intro b);refine dI rfl rfl rfl ⟨by omega,by omega,_,_,rfl,rfl⟩ ?_;rw[ae];refine lB p.row rfl rfl rfl rfl rfl (by exact Dq) (by exact qL) ?_;(refine fW ?_;repeat intro b);refine dG _ rfl rfl rfl Qt rfl (AD p F) ?_;(refine fW ?_;repeat intro b);refine dG _ rfl rfl rfl Qt rfl (AD (p.mP dF.now) F) ?_;(refine fW ?_;repeat intro b);refine jK 7 (by kernel_rfl) rfl rfl ?_;(refine fW ?_;repeat intro b);refine dI rfl rfl rfl ⟨by omega,by omega,_,_,rfl,rfl⟩ ?_;(refine fW ?_;repeat intro b);rw[ae];refine iP (((polls.set k (p.mP dF.now)).flatMap Poll.row).map EV.v) rfl rfl rfl rfl rfl rfl (by exact Dq) (by exact On _) rfl ?_;(refine fW ?_;repeat intro b);refine dI rfl rfl rfl ⟨by omega,by omega,_,_,rfl,rfl⟩ ?_;(refine fW ?_;repeat intro b);rw[ae];refine od (i64 (dK[k]).o.head.dW) rfl rfl rfl rfl rfl (by exact hD) ?_;(refine fW ?_;repeat intro b);rw[wrap_i64 (n:=(dK[k]).o.head.dW+1) (by omega) (by omega)];have at2:(⟨dF,cl,dK,polls.set k (p.mP dF.now),fJ,reach,iY,fo,dX,events,b0,some bo,co,some bp,cp,bf,cf,xf,be,ce⟩:TL).at F:={ h with wY:=(fun hn=>by cases hn),K7:=(by show (polls.set _ _).length≤cp;rw[cJ];exact h.K7) };have cn:=C3 (⟨dF,cl,dK,polls.set k (p.mP dF.now),fJ,reach,iY,fo,dX,events,b0,some bo,co,some bp,cp,bf,cf,xf,be,ce⟩:TL) z (⟨⟨-1,(k:Nat),(dK[k]).o.head.dW+1,0,[],Head.none,jn.none⟩,none,0,⟨none,0,none,0⟩⟩:LP) at2 ⟨eG _ _,eG _ _,eG _ _⟩ (Bf _ _ _ _) hw hn FR hf;refine fT (VS.env (env':=[(0,.v (.pointer (some ⟨b0,0,none⟩))),(1,.v (i64 (k:Nat))),(8,.v (.bool (!(p.mP dF.now).bad&&decide ((p.mP dF.now).lost≤(p.mP dF.now).asked)))),(6,.v (.bool (!p.bad&&decide (p.lost≤p.asked)))),(55,.loc 0 0),(68,.v (.agg (⟨⟨-1,(k:Nat),(dK[k]).o.head.dW+1,0,[],Head.none,jn.none⟩,none,0,⟨none,0,none,0⟩⟩:LP).row.toArray))]) (fN rfl rfl) ?_);refine om rfl rfl rfl MR rfl (oy.at cn (nx2:=7) [(5,5),(4,4),(3,3),(2,2),(1,1),(0,0)] 0 ?_ rfl rfl rfl rfl (by decide)) ?_
  ·dsimp only [TL.rs,TL.cells];rw[cJ];exact (dJ rfl rfl (dJ rfl rfl (dJ rfl rfl (dJ rfl rfl (dJ rfl rfl (dU rfl trivial))))))
  rintro _ F4 _ _ _ _ ⟨rfl,hs4,rfl,s4,oU,pT,hb4,rfl⟩;have es4:s4.t=(⟨dF,cl,dK,polls,fJ,reach,iY,fo,dX,events,b0,some bo,co,some bp,cp,bf,cf,xf,be,ce⟩:TL).t.asked k:=by rw[oU,ea];rfl
  have hb5:s4.b0=b0:=hb4;have hse:=rY (⟨dF,cl,dK,polls.set k (p.mP dF.now),fJ,reach,iY,fo,dX,events,b0,some bo,co,some bp,cp,bf,cf,xf,be,ce⟩:TL).t (⟨⟨-1,(k:Nat),(dK[k]).o.head.dW+1,0,[],Head.none,jn.none⟩,none,0,⟨none,0,none,0⟩⟩:LP).l;have hc4:s4.dF=dF:=by have:=a8 fm.dF oU;exact this.trans hse.1
  have he4:s4.events=events:=by have:=a8 fm.events oU;exact this.trans hse.2
  (refine fW ?_;repeat intro b);refine ez (decide (p.asked+1=p.lost)) ?_ (fun h2=>?_) (fun h2=>?_)
  ·refine dS ?_;have hl:(p.mP dF.now).lost=p.lost:=rfl;have hb2:0≤p.asked∧p.asked≤1000000:=by
    unfold Poll.bad at K2;simp only[aQ,aU]at K2;omega
   have ha2:(p.mP dF.now).asked=p.asked+1:=wrap_i64 (by omega) (by omega);rw[fH,Y5,K2,hl,ha2,ai];simp;omega
  ·rw[aZ h2]at ek;rw[TL.gT];refine mq (VS.env (env':=[(0,.loc 7 0),(1,.v (i64 (k:Nat)))]) ⟨⟨_,_,rfl,by rw[hb5];rfl,rfl⟩,⟨_,_,rfl,rfl,rfl⟩,trivial⟩ ?_);(refine fW ?_;repeat intro b);have cn2:=CX s4 z 3 (k:Nat) 0 s4.dF.now pT (by rw[he4];exact hev);refine om rfl rfl rfl N9 rfl (oy.at cn2 (nx2:=13) [(12,5),(11,4),(10,3),(9,2),(8,1),(7,0)] 7 (dJ rfl rfl (dJ rfl rfl (dJ rfl rfl (dJ rfl rfl (dJ rfl rfl (dU rfl trivial)))))) rfl rfl rfl rfl (by decide)) ?_;rintro _ F5 _ _ _ _ ⟨rfl,hs5,rfl,s5,Wu,Xa,hb6,rfl⟩;(refine fW ?_;repeat intro b);refine jR (VS.id ⟨_,rfl,13,s5.rs z,6,.v (.tuple #[]),rfl,rfl,rfl,rfl,rfl,hs4.trans hs5,s5,?_,Xa,hb6.trans hb4,rfl⟩);rw[Wu,ek,es4,hc4]
  rw[aY (by rw[h2];decide)]at ek;(refine fW ?_;repeat intro b);exact jR (VS.id ⟨_,rfl,7,s4.rs z,6,.v (.tuple #[]),rfl,rfl,rfl,rfl,rfl,hs4,s4,es4.trans ek.symm,pT,hb4,rfl⟩)
 refine fz [0,2] (by kernel_rfl) ?_;refine dR [0,1,2,3,4,5,6,7,8,9,10,11,12,13] (f':=7) (by kernel_rfl) rfl rfl rfl ?_;(refine run ?_;repeat intro b);refine dI rfl rfl rfl ⟨by omega,by omega,_,_,rfl,rfl⟩ ?_;rw[ae];refine lB p.row rfl rfl rfl rfl rfl (by exact Dq) (by exact qL) ?_;(refine run ?_;repeat intro b);refine jC 14 18 (by kernel_rfl) rfl rfl rfl ?_ ?_
 ·refine dG _ rfl rfl rfl QD rfl (AQ p dF.now F) ?_;(refine run ?_;repeat intro b);refine eC (Hp.sub.refl _) ⟨⟨rfl,rfl,rfl,rfl,rfl,rfl,rfl,rfl,rfl,rfl,rfl,rfl,rfl,rfl,rfl,trivial⟩,⟨rfl,fQ _ _ _⟩,trivial⟩ ?_;refine dR [15,16,17] (f':=3) (by kernel_rfl) rfl rfl rfl ?_;(refine run ?_;repeat intro b);refine dY 18 (by kernel_rfl) rfl rfl ?_;(refine run ?_;repeat intro b);revert b;intro bP;refine eC (Hp.sub.refl _) ⟨⟨rfl,rfl,rfl,rfl,rfl,rfl,rfl,rfl,rfl,rfl,rfl,rfl,rfl,rfl,rfl,trivial⟩,⟨rfl,fQ _ _ _⟩,trivial⟩ ?_;refine dY 19 (by kernel_rfl) rfl rfl ?_;(refine run ?_;repeat intro b);refine eC (Hp.sub.refl _) ⟨⟨rfl,rfl,rfl,rfl,rfl,rfl,rfl,rfl,rfl,rfl,rfl,rfl,rfl,rfl,rfl,trivial⟩,⟨rfl,fQ _ _ _⟩,trivial⟩ ?_;refine dR [20] (f':=0) (by kernel_rfl) rfl rfl rfl ?_;(refine run ?_;repeat intro b);refine fk (by kernel_rfl) ?_;(refine run ?_;repeat intro b);exact kn _ (VS.eH [0,1,4,5] rfl ⟨bP,trivial,rfl⟩)
 (refine run ?_;repeat intro b);revert b;intro bP;refine eC (Hp.sub.refl _) ⟨⟨rfl,rfl,rfl,rfl,rfl,rfl,rfl,rfl,rfl,rfl,rfl,rfl,rfl,rfl,rfl,trivial⟩,⟨rfl,fQ _ _ _⟩,trivial⟩ ?_;refine dY 14 (by kernel_rfl) rfl rfl ?_;refine dG _ rfl rfl rfl QD rfl (AQ p dF.now F) ?_;(refine run ?_;repeat intro b);refine eC (Hp.sub.refl _) ⟨⟨rfl,rfl,rfl,rfl,rfl,rfl,rfl,rfl,rfl,rfl,rfl,rfl,rfl,rfl,rfl,trivial⟩,⟨rfl,fQ _ _ _⟩,trivial⟩ ?_;refine dR [15,16,17] (f':=2) (by kernel_rfl) rfl rfl rfl ?_;(refine run ?_;repeat intro b);refine dY 19 (by kernel_rfl) rfl rfl ?_;(refine run ?_;repeat intro b);refine eC (Hp.sub.refl _) ⟨⟨rfl,rfl,rfl,rfl,rfl,rfl,rfl,rfl,rfl,rfl,rfl,rfl,rfl,rfl,rfl,trivial⟩,⟨rfl,fQ _ _ _⟩,trivial⟩ ?_;refine dR [20] (f':=0) (by kernel_rfl) rfl rfl rfl ?_;(refine run ?_;repeat intro b);refine fk (by kernel_rfl) ?_;(refine run ?_;repeat intro b);exact kn _ (VS.eH [0,1,4,5] rfl ⟨bP,trivial,rfl⟩)
end
section
open Go.TR
structure H9 (l:mJ) (n:Nat):Prop where
 wf:l.wf
 iM:l.iM<(n:Int)
 since: -9223372036854775808≤l.since∧l.since≤9223372036854775807
structure fm.Inv (t:fm) (n:Nat):Prop where
 iA:Good t.dF
 asks: ∀a∈t.dF.queue.wait,a.wf
 n4:n≤4
 dK:t.dK.length=n
 own: ∀o∈t.dK,o.wf∧kf o=0
 polls:t.polls.length=n
 jN: ∀p∈t.polls,p.bad=false
 now:t.now=t.dF.now
 gz:t.gz.length≤60
 late: ∀l∈t.gz,t.now<l.due
 Ip: ∀l∈t.gz,H9 l n
 reach:1≤t.reach∧t.reach≤40
 dX: ∀f∈t.dX,f.length≤17592186044416
theorem H9.by {l:mJ}{n:Nat}(h:H9 l n)(k:Int):H9 (l.by k) n:=⟨⟨h.wf.dP,h.wf.each,h.wf.head,h.wf.nJ,h.wf.fZ,h.wf.fC⟩,h.iM,h.since⟩
theorem fm.Inv.note {t:fm}{n:Nat}(h:t.Inv n)(e:lU):(t.note e).Inv n:=
 ⟨h.iA,h.asks,h.n4,h.dK,h.own,h.polls,h.jN,h.now,h.gz,h.late,h.Ip,h.reach,h.dX⟩
theorem fm.Inv.post {t:fm}{n:Nat}(h:t.Inv n){l:mJ}(hl:H9 l n)(f:List Int):(t.post l f).Inv n:=by
 unfold fm.post;split
 ·exact h
 rename_i hf;unfold fm.full at hf;simp only[bD,av,not_or]at hf;have hb: ∀k∈f,1≤k:=fun k hk=>by
  have:=bJ.1 (by simpa using hf.1) k hk;simp only[jZ,bD,av,not_or]at this;omega
 refine { h with gz:=?_,late:=fun x hx=>?_,Ip:=fun x hx=>?_ }
 ·show (t.gz++f.map _).length≤60;rw[ag,ab];omega
 ·rcases aK.1 hx with hx | hx
  ·exact h.late x hx
  obtain⟨k,hk,rfl⟩:=aG.1 hx;have:=hb k hk;show t.now<t.now+k;omega
 rcases aK.1 hx with hx | hx
 ·exact h.Ip x hx
 obtain⟨k,hk,rfl⟩:=aG.1 hx;exact hl.by _
theorem fm.Inv.send {t:fm}{n:Nat}(h:t.Inv n){l:mJ}(hl:H9 l n):(t.send l).Inv n:=by
 unfold fm.send;split
 ·exact h.post hl _
 rename_i f r e;have h2:fm.Inv { t with dX:=r } n:={ h with dX:=fun x hx=>h.dX x (by rw[e];exact cO _ hx) };exact h2.post hl _
theorem fm.Inv.get {t:fm}{n:Nat}(h:t.Inv n){k:Int}(ho:t.owned k=true):0≤k∧k<(n:Int)∧(t.ow k.toNat).wf∧kf (t.ow k.toNat)=0∧t.ow k.toNat∈t.dK:=by
 unfold fm.owned at ho;simp only[aL,av]at ho;have hk:k.toNat<t.dK.length:=by omega
 have e:t.ow k.toNat=t.dK[k.toNat]:=by unfold fm.ow;simp[List.getD,hk]
 have hm:t.dK[k.toNat]∈t.dK:=aj hk;rw[e];have:=h.dK;exact⟨ho.1,by omega,(h.own _ hm).1,(h.own _ hm).2,hm⟩
theorem fm.Inv.want {t:fm}{n:Nat}(h:t.Inv n)(iZ:Int){v:List UInt8}(hv:v.length≤4611686018427387904):(t.want iZ v).Inv n:=by
 unfold fm.want;split
 ·rename_i he;unfold fm.qR at he;simp only[aL,av]at he;obtain⟨⟨h1,h2⟩,h3⟩:=he;obtain⟨k0,k1,k2,k3,k4⟩:=h.get h1;obtain⟨w1,w2⟩:=MF k3 h2;obtain⟨f1,_,_⟩:=sW (v:=v) k2 hv;have hg:=Nl h.iA h3;have hc:=(pI h3).1;have hz:=(iT w1);refine fm.Inv.note (t:={ t with dK:=t.dK.set iZ.toNat (jQ (t.ow iZ.toNat) v),dF:=jj t.dF (iI (t.ow iZ.toNat) v) }) ⟨hg,Lx h3 h.asks f1,h.n4,by rw[cJ];exact h.dK,fun o ho=>?_,h.polls,h.jN,?_,h.gz,h.late,h.Ip,h.reach,h.dX⟩ _
  ·rcases cW ho with ho | rfl
   ·exact h.own o ho
   refine⟨?_,w1⟩;rw[w2]at hz ⊢;refine⟨k2.name,k2.key,k2.head,by have:=hz.2.2.1;dsimp only at this ⊢;omega,fun s hs=>?_,k2.jA⟩;rcases aK.1 hs with hs | hs
   ·exact k2.each s hs
   rw[aB.1 hs];exact hv
  show t.now=(jj t.dF (iI (t.ow iZ.toNat) v)).now;rw[hc];exact h.now
 exact h
theorem sM:jn.none.wf:=⟨by decide,by decide,(fun x hx=>by cases hx),by decide,(fun x hx=>by cases hx)⟩
theorem JA {l:List Entry}{n:List UInt8}(hl:l.length≤24)(hw: ∀x∈l,x.wf)(hn:n.length≤4611686018427387904):(lS l n).wf∧(lS l n).fZ.length≤24∧(lS l n).fC.length=16:=by
 have h1:=uo l (ej n);refine⟨⟨hn,?_,fun x hx=>hw x (Jd hx),?_,fun m hm=>?_⟩,?_,jv _ _ _⟩
 ·show (iW l (ej n)).length≤_;omega
 ·show (iv l n 16).length≤_;rw[jv];decide
 ·have hm:m∈iv l n 16:=hm;unfold iv at hm;obtain⟨j,_,rfl⟩:=aG.1 hm;have:=uS l (vz (ej n) (15 - j));unfold Bq;have:MM≤18446744073709551616:=by decide
  omega
 show (iW l (ej n)).length≤_;omega
theorem GS {c:eE}(h:Good c)(hw:c.wf)(n:List UInt8)(k:Int)(hn:n.length≤4611686018427387904):(nq c n k).wf∧(nq c n k).fZ.length * 32≤140737488355328∧(nq c n k).fC.length * 8≤140737488355328:=by
 unfold nq;split
 ·unfold nr;split
  ·have hb:(kR c k).length≤24:=by
    unfold kR;split
    ·rw[aE];cases hh:c.ee[k.toNat]? with
     | none=>simp
     | some b=>
      have:=(fL (m9 (by have:=h.lens;omega) h.roots b (cT hh))).1;simpa using this
    simp
   obtain⟨m1,m2,m3⟩:=JA hb (vZ hw k).2 hn;exact⟨m1,by omega,by omega⟩
  exact⟨sM,by decide,by decide⟩
 exact⟨sM,by decide,by decide⟩
theorem DG {c:eE}(hw:c.wf)(f t:Int):(k8 c f t).length≤c.dP.length∧ ∀x∈k8 c f t,x.wf:=by
 unfold k8;split
 ·unfold o9;split
  ·refine⟨?_,fun x hx=>hw.dP x (cV (cU hx))⟩;rw[aR,aw];omega
  exact⟨az _,fun x hx=>by cases hx⟩
 exact⟨az _,fun x hx=>by cases hx⟩
theorem HG {c:eE}(hw:c.wf)(n:List UInt8)(k:Int):(o8 c n k).wf:=by
 have h0:Head.none.wf:=⟨by decide,by decide,by decide,by decide⟩;unfold o8;split
 ·rw[aE];cases hh:c.dP[k.toNat]? with
  | none=>exact h0
  | some b=>exact hw.dP b (cT hh)
 exact h0
theorem fm.Inv.pD {t:fm}{n:Nat}(h:t.Inv n)(l:mJ)(ho:t.owned l.from_=true):H9 (t.pD l) n:=by
 obtain⟨k0,k1,k2,k3,k4⟩:=h.get ho;have hw:=oB h.iA h.asks;have hl:=h.iA.lens;obtain⟨p1,p2,p3⟩:=GS h.iA hw (t.ow l.from_.toNat).name (jo t.dF l.since t.reach) k2.name;obtain⟨q1,q2⟩:=DG hw (kg t.dF l.since) (jo t.dF l.since t.reach);exact⟨⟨by show (k8 t.dF (kg t.dF l.since) (jo t.dF l.since t.reach)).length * 32≤_;omega,q2,HG hw _ _,p1,p2,p3⟩,k1,⟨by show (-9223372036854775808:Int)≤0;decide,by show (0:Int)≤9223372036854775807;decide⟩⟩
theorem fm.Inv.answer {t:fm}{n:Nat}(h:t.Inv n)(l:mJ):(t.answer l).Inv n:=by
 unfold fm.answer;split
 ·rename_i ho;exact h.send (h.pD l ho)
 exact h
theorem fm.Inv.IC {t:fm}{n:Nat}(h:t.Inv n){l:mJ}(hl:H9 l n)(h0:0≤l.iM):(t.IC l).Inv n:=by
 have hto:=hl.iM;have ho:t.owned l.iM=true:=by
  unfold fm.owned;have:=h.dK;simp only[aL,av];omega
 obtain⟨k0,k1,k2,k3,k4⟩:=h.get ho;obtain⟨w1,w2⟩:=Jc l.dP l.head l.nJ k3;have Wy:(t.PN l).Inv n:=by
  refine fm.Inv.note (t:={ t with dK:=t.dK.set l.iM.toNat (t.seen l) }) ⟨h.iA,h.asks,h.n4,by rw[cJ];exact h.dK,fun o ho=>?_,h.polls,h.jN,h.now,h.gz,h.late,h.Ip,h.reach,h.dX⟩ _;rcases cW ho with ho | rfl
  ·exact h.own o ho
  refine⟨?_,w1⟩;have hz:=iT w1;unfold fm.seen;rw[w2]at hz ⊢;split
  ·rename_i hv;rw[aZ hv]at hz;exact⟨k2.name,k2.key,hl.wf.head,k2.wanted,k2.each,⟨by have:=hz.2.2.2.2.1;dsimp only at this ⊢;omega,by have:=hz.2.2.2.2.2;have:=hz.2.2.1;dsimp only at *;omega⟩⟩
  exact k2
 unfold fm.IC;split
 ·refine { Wy with polls:=?_,jN:=fun p hp=>?_ }
  ·show (t.polls.set _ _).length=n;rw[cJ];exact h.polls
  rcases cW hp with hp | rfl
  ·exact h.jN p hp
  have hk:l.iM.toNat<t.polls.length:=by rw[h.polls];omega
  have e:t.pl l.iM.toNat=t.polls[l.iM.toNat]:=by unfold fm.pl;simp[List.getD,hk]
  have ht:=h.iA.times;rw[e];exact LM (h.jN _ (aj hk)) ⟨by omega,by omega⟩
 exact Wy
theorem fm.Inv.ask {t:fm}{n:Nat}(h:t.Inv n){k:Nat}(hk:k<n):(t.ask k).Inv n:=by
 have ht:=h.iA.times;have hkp:k<t.polls.length:=by rw[h.polls];exact hk
 have hko:k<t.dK.length:=by rw[h.dK];exact hk
 have e1:t.pl k=t.polls[k]:=by unfold fm.pl;simp[List.getD,hkp]
 have e2:t.ow k=t.dK[k]:=by unfold fm.ow;simp[List.getD,hko]
 have hf:=iT (h.own _ (aj hko)).2;have hr:=Head.uR hf.2.1;unfold fm.ask;split
 ·rename_i hs;have ha:(t.asked k).Inv n:=by
   unfold fm.asked;refine fm.Inv.send (t:={ t with polls:=t.polls.set k ((t.pl k).mP t.dF.now) }) (l:=t.Cm k) { h with polls:=?_,jN:=fun p hp=>?_ } ⟨Bf _ _ _ _,?_,?_⟩
   ·show (t.polls.set _ _).length=n;rw[cJ];exact h.polls
   ·rcases cW hp with hp | rfl
    ·exact h.jN p hp
    rw[e1]at hs ⊢;exact IQ (h.jN _ (aj hkp)) ⟨by omega,by omega⟩ hs
   ·show (-1:Int)<n;omega
   show -9223372036854775808≤(t.ow k).head.dW+1∧(t.ow k).head.dW+1≤9223372036854775807;rw[e2];omega
  split
  ·exact ha.note _
  exact ha
 exact h
end
section
open Go.TR
theorem fm.Inv.next {t:fm}{n:Nat}(h:t.Inv n)(hc:gn t.dF=false):t.next.Inv n:=by
 refine { h with iA:=Kp h.iA,asks:=Km h.iA h.asks,now:=?_,gz:=?_,late:=fun l hl=>?_,Ip:=fun l hl=>h.Ip l (cQ.1 hl).1 }
 ·show t.now+1=(fP t.dF).now;rw[Em h.iA hc,h.now]
 ·exact dk (cG _ _) h.gz
 obtain⟨h1,h2⟩:=cQ.1 hl;have:=h.late l h1;simp only[bz,aU]at h2;show t.now+1<l.due;omega
theorem fm.Inv.mL {t:fm}{n:Nat}(h:t.Inv n){l:mJ}(hl:H9 l n):(t.mL l).Inv n:=by
 unfold fm.mL;split
 ·exact h.answer l
 exact h.IC hl (by omega)
theorem fm.Inv.comes: ∀{l:List mJ}{t:fm}{n:Nat},t.Inv n→(∀x∈l,H9 x n)→(t.comes l).Inv n
 | [],_,_,h,_=>h
 | x::l,t,n,h,hl=>fm.Inv.comes (l:=l) (t:=t.mL x) (h.mL (hl x cP)) fun y hy=>hl y (cO _ hy)
theorem fm.Inv.Ih {t:fm}{n:Nat}(h:t.Inv n): ∀k,k≤n→(t.asks k).Inv n
 | 0,_=>h
 | k+1,hk=>by
  rw[nG];exact (h.Ih k (by omega)).ask (by omega)
theorem fm.Inv.due {t:fm}{n:Nat}(h:t.Inv n):t.due.length≤60∧ ∀x∈t.due,H9 x n:=
 ⟨dk (cG _ _) h.gz,fun l hl=>h.Ip l (cQ.1 hl).1⟩
theorem fm.Inv.tick {t:fm}{n:Nat}(h:t.Inv n):t.tick.Inv n:=by
 unfold fm.tick;split
 ·exact h
 rename_i hc;exact ((h.next (by simpa using hc)).comes h.due.2).Ih _ (by rw[h.dK];exact ah _)
structure s8.ok (d:s8):Prop where
 value:d.value.length≤4611686018427387904
 dX:d.dX.length≤17592186044416
 letter:d.letter.wf
 since: -9223372036854775808≤d.letter.since∧d.letter.since≤9223372036854775807
theorem s8.ok.Ip {d:s8}(h:d.ok){t:fm}{n:Nat}(hi:t.Inv n)(ho:t.owned d.iZ=true):H9 (d.letter.for_ d.iZ) n:=
 ⟨⟨h.letter.dP,h.letter.each,h.letter.head,h.letter.nJ,h.letter.fZ,h.letter.fC⟩,(hi.get ho).2.1,h.since⟩
theorem fm.Inv.pU {t:fm}{n:Nat}(h:t.Inv n){d:s8}(hd:d.ok):(t.pU d).Inv n:=by
 unfold fm.pU;split
 ·exact h.want _ hd.value
 split
 ·refine { h with dX:=fun f hf=>?_ };rcases aK.1 hf with hf | hf
  ·exact h.dX f hf
  rw[aB.1 hf];exact hd.dX
 split
 ·split
  ·rename_i ho;exact h.post (hd.Ip h ho) _
  exact h
 split
 ·exact h.tick
 exact h
theorem fm.Inv.fJ {t:fm}{n:Nat}(h:t.Inv n){s:TL}(e:s.t=t):gD s.fJ=0∧s.fJ.gz.length≤60∧(∀y∈s.fJ.gz,y.l.wf)∧s.dK.length=n∧s.polls.length=n∧(∀x∈s.dK,x.o.wf∧kf x.o=0)∧(∀f∈s.dX,f.f.length≤17592186044416):=by
 subst e;have ht:=h.iA.times;have hn:s.fJ.now=s.dF.now:=h.now;have hw:s.fJ.gz.length≤60:=by have:=h.gz;simpa [TL.t] using this
 have ho:s.dK.length=n:=by have:=h.dK;simpa [TL.t] using this
 refine⟨?_,hw,fun y hy=>(h.Ip _ (cR hy)).wf,ho,h.polls,fun x hx=>h.own _ (cR hx),fun f hf=>h.dX _ (cR hf)⟩;have hc:s.t.dF=s.dF:=rfl;rw[hc]at ht;unfold gD;rw[aY (by omega),aY (by omega),aY];intro hh;obtain⟨y,hy,hd⟩:=bK.1 hh;have hl:=h.late _ (cR hy);have hl:s.fJ.now<y.l.due:=hl;simp only[av]at hd;omega
theorem PD (t:fm)(l:mJ)(f:List Int):(t.post l f).events=t.events:=by
 unfold fm.post;split<;>rfl
theorem PQ (t:fm)(l:mJ):(t.mL l).events.length≤t.events.length+1:=by
 unfold fm.mL fm.answer fm.IC fm.PN;split
 ·split
  ·rw[(rY t _).2];omega
  omega
 split<;>simp[fm.note]
theorem pP: ∀(l:List mJ)(t:fm),(t.comes l).events.length≤t.events.length+l.length
 | [],t=>ah _
 | x::l,t=>by
  have h1:=pP l (t.mL x);have h2:=PQ t x;have e:t.comes (x::l)=(t.mL x).comes l:=rfl;rw[e,aH];omega
theorem Rw (t:fm)(k:Nat):(t.ask k).events.length≤t.events.length+1:=by
 have h:(t.asked k).events=t.events:=by unfold fm.asked;exact (rY _ _).2
 unfold fm.ask;split
 ·split
  ·show ((t.asked k).events++[_]).length≤_;rw[h];simp
  rw[h];omega
 omega
theorem xq (t:fm): ∀k,(t.asks k).events.length≤t.events.length+k
 | 0=>ah _
 | k+1=>by
  have h1:=xq t k;have h2:=Rw (t.asks k) k;rw[nG];omega
theorem V7 {t:fm}{n:Nat}(h:t.Inv n)(d:s8):(t.pU d).events.length≤t.events.length+64:=by
 unfold fm.pU;split
 ·unfold fm.want;split
  ·simp[fm.note]
  omega
 split
 ·show t.events.length≤_;omega
 split
 ·split
  ·rw[PD];omega
  omega
 split
 ·unfold fm.tick;split
  ·omega
  have h1:=xq (t.next.comes t.due) t.dK.length;have h2:=pP t.due t.next;have h3:=h.due.1;have h4:=h.dK;have h5:=h.n4;have h6:t.next.events=t.events:=rfl;rw[h6]at h2;omega
 omega
end
end Go.Proofs.YthbnddgjkonkdaaGreatDoor
