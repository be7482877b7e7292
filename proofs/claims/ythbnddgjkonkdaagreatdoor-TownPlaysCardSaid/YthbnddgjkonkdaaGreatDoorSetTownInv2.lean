/- A part of the proof. -/
import Derived.Test.YthbnddgjkonkdaaGreatDoorSetTown3
import Derived.Test.YthbnddgjkonkdaaGreatDoorSetFwZ
set_option linter.unusedVariables false
set_option linter.unusedSimpArgs false
namespace Go.Proofs.YthbnddgjkonkdaaGreatDoor
section
open Go.TR
theorem Bx {cells:List EV}{k:Nat}{ow:jk}(h:(cells.take (0+k * 8+8)).drop (0+k * 8)=ow.row.map EV.v):cells[0+k * 8+0]? =some (.v (S ow.o.name)):=by
 have:=a8 (·[0]?) h;simp only[cA]at this;rw[cE,aZ (by omega)]at this;exact this
attribute [local irreducible] vc dW gz fg fD gF gJ gB fJ Plain eD eX dK VS fv fA fG jt fh IntKind.wrap
set_option maxRecDepth 100000
set_option maxHeartbeats 4000000
theorem JK (s:TL)(z:Fr)(x:LP){F:Hp}(h:s.at F)(hx:x.at F)(wx:x.l.wf)(hno:s.dN.length≤4)(hwo: ∀x∈s.dN,x.o.wf∧ki x.o=0)(hcw:s.dI.wf)(hsi: -9223372036854775808≤x.l.since∧x.l.since≤9223372036854775807)(hre:1≤s.reach∧s.reach≤40)(wr0:s.t.owned x.l.from_=true→(s.t.pd x.l).wf)(hw: ∀y∈s.fN.gE,y.l.wf)(hn:s.fN.gE.length≤60)(FV:gG s.fN=0)(hf: ∀f∈s.ej,f.f.length≤17592186044416):ox s z F 176 [.agg x.row.toArray] (s.t.answer x.l):=by
 refine eX.norm 6 (ah 6) (iT (N:=76) (rv:=[]) eW mixed Tryz.func176 rfl rfl rfl rfl rfl ?_);(refine fZ ?_;repeat intro b);revert b;intro bx;refine nQ rfl rfl rfl Lg rfl (zR s z ⟨some bx,x.row.map EV.v,71,12⟩ x.l.from_ F hno) ?_;rintro _ F' _ _ _ _ ⟨rfl,hF,rfl,rfl⟩;have hF:=hF.symm;subst hF;(refine fZ ?_;repeat intro b);refine eE (!s.t.owned x.l.from_) rfl (fun h0=>?_) (fun h0=>?_)
 ·(refine fZ ?_;repeat intro b);refine A5 (iM (s':=s) 7 [(5,12),(4,11),(3,10),(2,9),(1,8),(0,7)] ?_ rfl rfl rfl rfl (Hp.sub.refl _) ?_ h rfl)
  ·rw[TL.gW];exact (dM rfl rfl (dM rfl rfl (dM rfl rfl (dM rfl rfl (dM rfl rfl (dX rfl trivial))))))
  unfold fr.answer;rw[aY];cases ho:s.t.owned x.l.from_ with
  | false=>exact Bool.false_ne_true
  | true=>rw[ho]at h0;cases h0
 have ho:s.t.owned x.l.from_=true:=by cases hh:s.t.owned x.l.from_ with
  | true=>rfl
  | false=>rw[hh]at h0;cases h0
 have wr:=wr0 ho;clear wr0;obtain⟨k0,k1⟩:=TL.get ho;have e1:s.t.ow x.l.from_.toNat=(s.dN[x.l.from_.toNat]).o:=by
  unfold fr.ow;simp[TL.t,List.getD,k1]
 have ek:s.t.answer x.l=s.t.send (s.t.pd x.l):=by unfold fr.answer;rw[aZ ho]
 unfold fr.pd at ek wr;rw[e1]at ek wr;obtain⟨hwk,BF⟩:=hwo _ (aj k1);obtain⟨ow,how⟩: ∃y,s.dN[x.l.from_.toNat]=y:=⟨_,rfl⟩;have kK:=kT (f:=jk.row) (k:=8) gZ k1;have oP:=dO gZ s.dN;rw[how]at ek wr hwk BF kK;obtain⟨bo,Ds⟩: ∃b,s.bo=some b:=by
  cases hh:s.bo with
  | some b=>exact⟨b,rfl⟩
  | none=>have:=h.rq hh;omega
 obtain⟨dI,cl,dN,polls,fN,reach,jb,fo,ej,events,b0,Sx,co,bp,cp,bf,cf,xf,be,ce⟩:=s;dsimp only at *;subst Ds;have k2:x.l.from_.toNat<dN.length:=k1;dsimp only [TL.rs,TL.cells];have hhl:=hcw.hlen;(refine fZ ?_;repeat intro b);have eN:IntKind.i64.wrap (((dI.dS.length:Nat):Int) - 1)=((dI.dS.length:Nat):Int) - 1:=wrap_i64 (by omega) (by omega);rw[eN];have eF:(if 0>(if ((dI.dS.length:Nat):Int) - 1<x.l.since then ((dI.dS.length:Nat):Int) - 1 else x.l.since) then 0 else (if ((dI.dS.length:Nat):Int) - 1<x.l.since then ((dI.dS.length:Nat):Int) - 1 else x.l.since))=ku dI x.l.since:=by
  unfold ku;split<;>split<;>omega
 rw[eF];have hf0:0≤ku dI x.l.since∧ku dI x.l.since≤4398046511104:=by unfold ku;omega
 rw[wrap_i64 (n:=ku dI x.l.since+reach) (by omega) (by omega),wrap_i64 (n:=ku dI x.l.since+reach - 1) (by omega) (by omega)];have eT:(if ((dI.dS.length:Nat):Int) - 1<ku dI x.l.since+reach - 1 then ((dI.dS.length:Nat):Int) - 1 else ku dI x.l.since+reach - 1)=jC dI x.l.since reach:=by
  unfold jC;split<;>omega
 rw[eT];have ht0: -1≤jC dI x.l.since reach∧jC dI x.l.since reach≤4398046511104:=by unfold jC;omega
 refine fm rfl rfl rfl UC rfl (Ax dI cl (ku dI x.l.since) (jC dI x.l.since reach) hcw h.dI) ?_;rintro _ F2 hs2 ⟨p2,c2,rfl,_,hp2⟩;(refine fZ ?_;repeat intro b);refine fC [0,6,1] (by kernel_rfl) ?_;refine dU [0,1,2,3,4,5,6,7,8,9,10,11,12,13,14,15] (f':=7) (by kernel_rfl) rfl rfl rfl ?_;(refine run ?_;repeat intro b);refine dL rfl rfl rfl ⟨k0,by omega,_,_,rfl,rfl⟩ ?_;(refine run ?_;repeat intro b);refine om (S ow.o.name) rfl rfl rfl rfl rfl (by exact Bx kK) ?_;(refine run ?_;repeat intro b);refine jF 16 20 (by kernel_rfl) rfl rfl rfl ?_ ?_
 ·refine fm rfl rfl rfl UJ rfl (uT dI cl ow.o.name (jC dI x.l.since reach) hcw hwk.name ⟨by omega,by omega⟩ (eI.e8 hs2 h.dI)) ?_;rintro _ F3 hs3 ⟨a3,rfl,Q9⟩;(refine run ?_;repeat intro b);refine eG (hs3) ⟨⟨rfl,rfl,rfl,rfl,rfl,rfl,rfl,rfl,rfl,rfl,rfl,rfl,rfl,rfl,rfl,trivial⟩,⟨rfl,rfl,rfl,rfl,rfl,rfl,rfl,rfl,rfl,rfl,rfl,rfl,rfl,trivial⟩,⟨rfl,fT _ _ _⟩,trivial⟩ ?_;refine dU [17,18,19] (f':=3) (by kernel_rfl) rfl rfl rfl ?_;(refine run ?_;repeat intro b);refine ee 20 (by kernel_rfl) rfl rfl ?_;(refine run ?_;repeat intro b);revert b;intro bR;refine eG (Hp.sub.refl _) ⟨⟨rfl,rfl,rfl,rfl,rfl,rfl,rfl,rfl,rfl,rfl,rfl,rfl,rfl,rfl,rfl,trivial⟩,⟨rfl,rfl,rfl,rfl,rfl,rfl,rfl,rfl,rfl,rfl,rfl,rfl,rfl,trivial⟩,⟨rfl,fT _ _ _⟩,trivial⟩ ?_;refine ee 21 (by kernel_rfl) rfl rfl ?_;(refine run ?_;repeat intro b);refine eG (Hp.sub.refl _) ⟨⟨rfl,rfl,rfl,rfl,rfl,rfl,rfl,rfl,rfl,rfl,rfl,rfl,rfl,rfl,rfl,trivial⟩,⟨rfl,rfl,rfl,rfl,rfl,rfl,rfl,rfl,rfl,rfl,rfl,rfl,rfl,trivial⟩,⟨rfl,fT _ _ _⟩,trivial⟩ ?_;refine dU [22] (f':=0) (by kernel_rfl) rfl rfl rfl ?_;(refine run ?_;repeat intro b);refine fq (by kernel_rfl) ?_;(refine fZ ?_;repeat intro b);have cn:=BT (⟨dI,cl,dN,polls,fN,reach,jb,fo,ej,events,b0,some bo,co,bp,cp,bf,cf,xf,be,ce⟩:TL) z ⟨⟨x.l.from_,0,0,0,k7 dI (ku dI x.l.since) (jC dI x.l.since reach),pQ dI ow.o.name (jC dI x.l.since reach),nu dI ow.o.name (jC dI x.l.since reach)⟩,p2,c2,a3⟩ (TL.e8 (hs2.trans hs3) h) ⟨eu hs3 hp2,Q9⟩ wr hw hn FV hf;refine nQ rfl rfl rfl Lp rfl (ox.at cn (nx2:=8) [(5,5),(4,4),(3,3),(2,2),(1,1),(0,0)] 0 (dM rfl rfl (dM rfl rfl (dM rfl rfl (dM rfl rfl (dM rfl rfl (dX rfl trivial)))))) rfl rfl rfl rfl (by decide)) ?_;rintro _ F4 _ _ _ _ ⟨rfl,hs4,rfl,s4,oX,pW,hb4,rfl⟩;(refine fZ ?_;repeat intro b);exact jU (VS.id ⟨_,rfl,8,s4.rs z,6,.v (.tuple #[]),rfl,rfl,rfl,rfl,rfl,hs2.trans (hs3.trans hs4),s4,oX.trans ek.symm,pW,hb4,rfl⟩)
 (refine run ?_;repeat intro b);revert b;intro bR;refine eG (Hp.sub.refl _) ⟨⟨rfl,rfl,rfl,rfl,rfl,rfl,rfl,rfl,rfl,rfl,rfl,rfl,rfl,rfl,rfl,trivial⟩,⟨rfl,rfl,rfl,rfl,rfl,rfl,rfl,rfl,rfl,rfl,rfl,rfl,rfl,trivial⟩,⟨rfl,fT _ _ _⟩,trivial⟩ ?_;refine ee 16 (by kernel_rfl) rfl rfl ?_;refine fm rfl rfl rfl UJ rfl (uT dI cl ow.o.name (jC dI x.l.since reach) hcw hwk.name ⟨by omega,by omega⟩ (eI.e8 hs2 h.dI)) ?_;rintro _ F3 hs3 ⟨a3,rfl,Q9⟩;(refine run ?_;repeat intro b);refine eG (hs3) ⟨⟨rfl,rfl,rfl,rfl,rfl,rfl,rfl,rfl,rfl,rfl,rfl,rfl,rfl,rfl,rfl,trivial⟩,⟨rfl,rfl,rfl,rfl,rfl,rfl,rfl,rfl,rfl,rfl,rfl,rfl,rfl,trivial⟩,⟨rfl,fT _ _ _⟩,trivial⟩ ?_;refine dU [17,18,19] (f':=2) (by kernel_rfl) rfl rfl rfl ?_;(refine run ?_;repeat intro b);refine ee 21 (by kernel_rfl) rfl rfl ?_;(refine run ?_;repeat intro b);refine eG (Hp.sub.refl _) ⟨⟨rfl,rfl,rfl,rfl,rfl,rfl,rfl,rfl,rfl,rfl,rfl,rfl,rfl,rfl,rfl,trivial⟩,⟨rfl,rfl,rfl,rfl,rfl,rfl,rfl,rfl,rfl,rfl,rfl,rfl,rfl,trivial⟩,⟨rfl,fT _ _ _⟩,trivial⟩ ?_;refine dU [22] (f':=0) (by kernel_rfl) rfl rfl rfl ?_;(refine run ?_;repeat intro b);refine fq (by kernel_rfl) ?_;(refine fZ ?_;repeat intro b);have cn:=BT (⟨dI,cl,dN,polls,fN,reach,jb,fo,ej,events,b0,some bo,co,bp,cp,bf,cf,xf,be,ce⟩:TL) z ⟨⟨x.l.from_,0,0,0,k7 dI (ku dI x.l.since) (jC dI x.l.since reach),pQ dI ow.o.name (jC dI x.l.since reach),nu dI ow.o.name (jC dI x.l.since reach)⟩,p2,c2,a3⟩ (TL.e8 (hs2.trans hs3) h) ⟨eu hs3 hp2,Q9⟩ wr hw hn FV hf;refine nQ rfl rfl rfl Lp rfl (ox.at cn (nx2:=8) [(5,5),(4,4),(3,3),(2,2),(1,1),(0,0)] 0 (dM rfl rfl (dM rfl rfl (dM rfl rfl (dM rfl rfl (dM rfl rfl (dX rfl trivial)))))) rfl rfl rfl rfl (by decide)) ?_;rintro _ F4 _ _ _ _ ⟨rfl,hs4,rfl,s4,oX,pW,hb4,rfl⟩;(refine fZ ?_;repeat intro b);exact jU (VS.id ⟨_,rfl,8,s4.rs z,6,.v (.tuple #[]),rfl,rfl,rfl,rfl,rfl,hs2.trans (hs3.trans hs4),s4,oX.trans ek.symm,pW,hb4,rfl⟩)
end
section
open Go.TR
theorem DN (l:List Poll):(l.flatMap Poll.row).length=l.length * 6:=dO iR l
attribute [local irreducible] vc dW gz fg fD gF gJ gB fJ Plain eD eX dK VS fv fA fG jt fh IntKind.wrap
set_option maxRecDepth 100000
set_option maxHeartbeats 4000000
theorem Sc (s:TL)(z:Fr)(x:LP){F:Hp}(h:s.at F)(hx:x.at F)(wx:x.l.wf)(k0:0≤x.l.iP)(k2:x.l.iP.toNat<s.dN.length)(hpl:s.polls.length=s.dN.length)(hwo: ∀x∈s.dN,x.o.wf∧ki x.o=0)(hpb: ∀p∈s.polls,p.bad=false)(Ws:0≤s.dI.now∧s.dI.now≤1000000000)(hev:s.events.length≤1000000):ox s z F 177 [.agg x.row.toArray] (s.t.IK x.l):=by
 refine eX.norm 6 (ah 6) (iT (N:=75) (rv:=[]) eW mixed Tryz.func177 rfl rfl rfl rfl rfl ?_);have e1:s.t.ow x.l.iP.toNat=(s.dN[x.l.iP.toNat]).o:=by
  unfold fr.ow;simp[TL.t,List.getD,k2]
 have oW:=h.dN _ (aj k2);obtain⟨hwk,BF⟩:=hwo _ (aj k2);have kK:=kT (f:=jk.row) (k:=8) gZ k2;have oP:=dO gZ s.dN;obtain⟨K,hK⟩: ∃K,s.t.GH x.l=K:=⟨_,rfl⟩;obtain⟨O,hO⟩: ∃O,s.t.seen x.l=O:=⟨_,rfl⟩;have hK1:EF (s.dN[x.l.iP.toNat]).o x.l.dS x.l.head x.l.nL=K:=by rw[←hK];unfold fr.GH;rw[e1]
 have Y9:tL (s.dN[x.l.iP.toNat]).o x.l.dS x.l.head x.l.nL=O:=by rw[←hO];unfold fr.seen;rw[e1]
 obtain⟨ow,how⟩: ∃y,s.dN[x.l.iP.toNat]=y:=⟨_,rfl⟩;rw[how]at oW hwk BF kK hK1 Y9;obtain⟨bo,Ds⟩: ∃b,s.bo=some b:=by
  cases hh:s.bo with
  | some b=>exact⟨b,rfl⟩
  | none=>have:=h.rq hh;omega
 obtain⟨dI,cl,dN,polls,fN,reach,jb,fo,ej,events,b0,Sx,co,bp,cp,bf,cf,xf,be,ce⟩:=s;dsimp only at *;subst Ds;have k3:x.l.iP.toNat<dN.length:=k2;have zY:0+x.l.iP.toNat * 8+8≤((dN.flatMap jk.row).map EV.v).length:=by rw[ab,oP];omega
 dsimp only [TL.rs,TL.cells];(refine fZ ?_;repeat intro b);revert b;intro bx;refine lp (β:=Hp×Option Addr×Nat×Nat) (fun q=>F.sub q.1∧e9 q.1 q.2.1 (O.wanted.map S)) (fun q=>⟨[(0,.loc 0 0),(3,.loc 6 0),(4,.loc 7 0),(5,.v (i64 K))],q.1,
  (7,⟨some q.2.2.2,(jk.row ⟨O,q.2.1,q.2.2.1⟩).map EV.v,76,8⟩)::(6,⟨some bx,x.row.map EV.v,71,12⟩)::(⟨dI,cl,dN,polls,fN,reach,jb,fo,ej,events,b0,some bo,co,bp,cp,bf,cf,xf,be,ce⟩:TL).rs z,8⟩) rfl (fun q hq=>?_) (fun vb kn kr ke=>?_)
 ·obtain⟨F2,pw,cw,bO⟩:=q;obtain⟨hs2,hfw⟩:=hq;dsimp only at hs2 hfw ⊢;dsimp only [TL.rs,TL.cells];(refine fZ ?_;repeat intro b);refine jM 8 (by kernel_rfl) rfl rfl ?_;(refine fZ ?_;repeat intro b);refine dL rfl rfl rfl ⟨k0,by omega,_,_,rfl,rfl⟩ ?_;refine iS (((dN.set x.l.iP.toNat ⟨O,pw,cw⟩).flatMap jk.row).map EV.v) rfl rfl rfl rfl rfl rfl (by exact zY) (by exact mI (f:=jk.row) gZ k2) rfl ?_;(refine fZ ?_;repeat intro b);refine fX (VS.freeze 6 [0,3,5,34,36,37,40] rfl rfl rfl rfl fun F3 hs3 hf3=>?_);rw[fc,fc,fc,fc,fc,fc];refine VS.env (env':=[(0,.v (.pointer (some ⟨b0,0,none⟩))),(3,.v (.pointer (some ⟨bx,0,none⟩))),(5,.v (i64 K)),(34,.loc 0 0),(36,.v (i64 x.l.iP)),(37,.v (i64 K)),(40,.v (i64 O.head.dZ))]) (fQ rfl rfl) ?_;have h3:=TL.e8 (hs2.trans hs3) h;have at2:(⟨dI,cl,dN.set x.l.iP.toNat ⟨O,pw,cw⟩,polls,fN,reach,jb,fo,ej,events,b0,some bo,co,bp,cp,bf,cf,xf,be,ce⟩:TL).at F3:={ h3 with dN:=(fun x hx=>(cZ hx).elim (h3.dN x) (fun e=>by subst e;exact eu hs3 hfw)),rq:=(fun hn=>by cases hn),It:=(by show (dN.set _ _).length≤co;rw[cM];exact h3.It) };have cn:=B8 (⟨dI,cl,dN.set x.l.iP.toNat ⟨O,pw,cw⟩,polls,fN,reach,jb,fo,ej,events,b0,some bo,co,bp,cp,bf,cf,xf,be,ce⟩:TL) z 2 x.l.iP K O.head.dZ at2 hev;refine nQ rfl rfl rfl Nn rfl (ox.at cn (nx2:=8) [(5,5),(4,4),(3,3),(2,2),(1,1),(0,0)] 0 ?_ rfl rfl rfl rfl (by decide)) ?_
  ·dsimp only [TL.rs,TL.cells];rw[cM];exact (dM rfl rfl (dM rfl rfl (dM rfl rfl (dM rfl rfl (dM rfl rfl (dX rfl trivial))))))
  rintro _ F4 _ _ _ _ ⟨rfl,hs4,rfl,s4,oX,pW,hb4,rfl⟩;have WR:s4.t=(⟨dI,cl,dN,polls,fN,reach,jb,fo,ej,events,b0,some bo,co,bp,cp,bf,cf,xf,be,ce⟩:TL).t.O6 x.l:=by
   rw[oX];unfold fr.O6;rw[hK,hO];refine a8 (fun o=>fr.note o _) ?_;simp only[TL.t,List.map_set]
  (refine fZ ?_;repeat intro b);refine eE (decide (K=0∨K=1)) ?_ (fun hk=>?_) (fun hk=>?_)
  ·refine dV ?_;rw[fx,ai];simp
  ·have ek:(⟨dI,cl,dN,polls,fN,reach,jb,fo,ej,events,b0,some bo,co,bp,cp,bf,cf,xf,be,ce⟩:TL).t.IK x.l={ s4.t with polls:=polls.set x.l.iP.toNat ((polls.getD x.l.iP.toNat Poll.none).heard dI.now) }:=by
    unfold fr.IK;rw[hK,aZ (ar hk),WR];rfl
   have kp:x.l.iP.toNat<polls.length:=by omega
   have egp:polls.getD x.l.iP.toNat Poll.none=polls[x.l.iP.toNat]:=by simp[List.getD,kp]
   have K5:=hpb _ (aj kp);rw[egp]at ek;have qO:=kT (f:=Poll.row) (k:=6) iR kp;have Ot:=fun y=>mI (f:=Poll.row) (x:=y) iR kp;have u9:=DN polls;generalize polls[x.l.iP.toNat]=p at *;have hp4:s4.polls=polls:=by have:=a8 fr.polls oX;exact this
   have hc4:s4.dI=dI:=by have:=a8 fr.dI oX;exact this
   have FU:=eu hs4 hf3;obtain⟨tB,cl4,P8,vY,Za,SW,Zb,SF,SX,P9,SG,SH,SI,WS,Rc,SK,SL,SM,W5,W6⟩:=s4;dsimp only at hp4 hc4 hb4;subst hp4 hc4 hb4;obtain⟨SJ,hbp⟩: ∃b,WS=some b:=by
    cases WS with
    | some b=>exact⟨b,rfl⟩
    | none=>have:=(pW.w9 rfl).1;dsimp only at this;omega
   subst hbp;rw[TL.gW];dsimp only [TL.cells];refine mA (VS.env (env':=[(0,.loc 8 0),(3,.v (.pointer (some ⟨bx,0,none⟩)))]) (fQ rfl rfl) ?_);have ehp:(p.heard tB.now).ij (p.kE tB.now)=p.heard tB.now:=by
    unfold Poll.ij Poll.kE;rw[K5,aY];simp only[bq,dE];rw[aY (by omega)];decide
   have kp4:x.l.iP.toNat<vY.length:=kp;refine fC [8] (by kernel_rfl) ?_;refine dU [0,1,2,3,4,5,6,7,8,9,10,11,12,13,14,16,17,18,19,20,21] (f':=7) (by kernel_rfl) rfl rfl rfl ?_;(refine run ?_;repeat intro b);refine dL rfl rfl rfl rfl ?_;refine fw (i64 x.l.iP) rfl rfl rfl rfl (by exact FU 0 _ rfl) ?_;(refine run ?_;repeat intro b);refine dL rfl rfl rfl rfl ?_;refine fw (i64 x.l.iP) rfl rfl rfl rfl (by exact FU 0 _ rfl) ?_;refine dL rfl rfl rfl ⟨k0,by omega,_,_,rfl,rfl⟩ ?_;(refine run ?_;repeat intro b);refine ee 15 (by kernel_rfl) rfl rfl ?_;refine lA p.row rfl rfl rfl rfl rfl (by show 0+x.l.iP.toNat * 6+6≤((vY.flatMap Poll.row).map EV.v).length;rw[ab,u9];omega) (by exact qO) ?_;(refine run ?_;repeat intro b);refine eG (Hp.sub.refl _) (dP rfl) ?_;refine ee 22 (by kernel_rfl) rfl rfl ?_;refine dJ _ rfl rfl rfl Wf rfl (Hq p tB.now F4) ?_;(refine run ?_;repeat intro b);refine eG (Hp.sub.refl _) (dP rfl) ?_;refine dU [23,24,25] (f':=2) (by kernel_rfl) rfl rfl rfl ?_;(refine run ?_;repeat intro b);refine ee 26 (by kernel_rfl) rfl rfl ?_;refine dL rfl rfl rfl ⟨k0,by omega,_,_,rfl,rfl⟩ ?_;(refine run ?_;repeat intro b);refine eG (Hp.sub.refl _) (dP rfl) ?_;refine ee 27 (by kernel_rfl) rfl rfl ?_;rw[ehp];refine iS (((vY.set x.l.iP.toNat (p.heard tB.now)).flatMap Poll.row).map EV.v) rfl rfl rfl rfl rfl rfl (by show 0+x.l.iP.toNat * 6+6≤((vY.flatMap Poll.row).map EV.v).length;rw[ab,u9];omega) (by exact Ot _) rfl ?_;(refine run ?_;repeat intro b);refine eG (Hp.sub.refl _) (dP rfl) ?_;refine fq (by kernel_rfl) ?_;(refine fZ ?_;repeat intro b);refine jU (iM (s':=(⟨tB,cl4,P8,vY.set x.l.iP.toNat (p.heard tB.now),Za,SW,Zb,SF,SX,P9,SG,SH,SI,some SJ,Rc,SK,SL,SM,W5,W6⟩:TL)) 14 [(13,19),(12,18),(11,17),(10,16),(9,15),(8,14)] ?_ rfl rfl rfl rfl (hs2.trans (hs3.trans hs4)) ek.symm { pW with w9:=(fun hn=>by cases hn),K8:=(by show (vY.set _ _).length≤Rc;rw[cM];exact pW.K8) } rfl);rw[TL.gW];dsimp only [TL.cells];rw[cM];exact (dM rfl rfl (dM rfl rfl (dM rfl rfl (dM rfl rfl (dM rfl rfl (dX rfl trivial))))))
  (refine fZ ?_;repeat intro b);refine jU (VS.id ⟨_,rfl,8,s4.rs z,6,.v (.tuple #[]),rfl,rfl,rfl,rfl,rfl,hs2.trans (hs3.trans hs4),s4,?_,pW,hb4,rfl⟩);unfold fr.IK;rw[hK,aY (au hk),WR]
 refine fC [0,6,1] (by kernel_rfl) ?_;refine dU [0,1,2,3,4,5,6,7,8,9,10,11,12] (f':=9) (by kernel_rfl) rfl rfl rfl ?_;(refine run ?_;repeat intro b);refine dL rfl rfl rfl ⟨k0,by omega,_,_,rfl,rfl⟩ ?_;refine lA ow.row rfl rfl rfl rfl rfl (by exact zY) (by exact kK) ?_;(refine run ?_;repeat intro b);refine jF 13 18 (by kernel_rfl) rfl rfl rfl ?_ ?_
 ·refine fm rfl rfl rfl QW rfl (MW ow.o x.l.dS x.l.head x.l.nL x.a hwk (by have:=wx.dS;omega) wx.each wx.nL oW hx.dS hx.nL) ?_;rintro _ F2 hs2 ⟨pw,cw,rfl,hfw⟩;rw[hK1];rw[Y9]at hfw ⊢;(refine run ?_;repeat intro b);refine eG (hs2) ⟨⟨rfl,rfl,rfl,rfl,rfl,rfl,rfl,rfl,rfl,rfl,rfl,rfl,rfl,rfl,rfl,trivial⟩,⟨rfl,rfl,rfl,rfl,rfl,rfl,rfl,rfl,rfl,rfl,rfl,rfl,rfl,trivial⟩,⟨rfl,fT _ _ _⟩,trivial⟩ ?_;refine dU [14,15,16,17] (f':=4) (by kernel_rfl) rfl rfl rfl ?_;(refine run ?_;repeat intro b);refine ee 18 (by kernel_rfl) rfl rfl ?_;(refine run ?_;repeat intro b);revert b;intro bO;refine eG (Hp.sub.refl _) ⟨⟨rfl,rfl,rfl,rfl,rfl,rfl,rfl,rfl,rfl,rfl,rfl,rfl,rfl,rfl,rfl,trivial⟩,⟨rfl,rfl,rfl,rfl,rfl,rfl,rfl,rfl,rfl,rfl,rfl,rfl,rfl,trivial⟩,⟨rfl,fT _ _ _⟩,trivial⟩ ?_;refine ee 19 (by kernel_rfl) rfl rfl ?_;(refine run ?_;repeat intro b);refine eG (Hp.sub.refl _) ⟨⟨rfl,rfl,rfl,rfl,rfl,rfl,rfl,rfl,rfl,rfl,rfl,rfl,rfl,rfl,rfl,trivial⟩,⟨rfl,rfl,rfl,rfl,rfl,rfl,rfl,rfl,rfl,rfl,rfl,rfl,rfl,trivial⟩,⟨rfl,fT _ _ _⟩,trivial⟩ ?_;refine dU [20,21] (f':=0) (by kernel_rfl) rfl rfl rfl ?_;(refine run ?_;repeat intro b);refine fq (by kernel_rfl) ?_;(refine run ?_;repeat intro b);exact kn _ (VS.eL [0,3,4,5] rfl ⟨(F2,pw,cw,bO),⟨hs2,hfw⟩,rfl⟩)
 (refine run ?_;repeat intro b);revert b;intro bO;refine eG (Hp.sub.refl _) ⟨⟨rfl,rfl,rfl,rfl,rfl,rfl,rfl,rfl,rfl,rfl,rfl,rfl,rfl,rfl,rfl,trivial⟩,⟨rfl,rfl,rfl,rfl,rfl,rfl,rfl,rfl,rfl,rfl,rfl,rfl,rfl,trivial⟩,⟨rfl,fT _ _ _⟩,trivial⟩ ?_;refine ee 13 (by kernel_rfl) rfl rfl ?_;refine fm rfl rfl rfl QW rfl (MW ow.o x.l.dS x.l.head x.l.nL x.a hwk (by have:=wx.dS;omega) wx.each wx.nL oW hx.dS hx.nL) ?_;rintro _ F2 hs2 ⟨pw,cw,rfl,hfw⟩;rw[hK1];rw[Y9]at hfw ⊢;(refine run ?_;repeat intro b);refine eG (hs2) ⟨⟨rfl,rfl,rfl,rfl,rfl,rfl,rfl,rfl,rfl,rfl,rfl,rfl,rfl,rfl,rfl,trivial⟩,⟨rfl,rfl,rfl,rfl,rfl,rfl,rfl,rfl,rfl,rfl,rfl,rfl,rfl,trivial⟩,⟨rfl,fT _ _ _⟩,trivial⟩ ?_;refine dU [14,15,16,17] (f':=3) (by kernel_rfl) rfl rfl rfl ?_;(refine run ?_;repeat intro b);refine ee 19 (by kernel_rfl) rfl rfl ?_;(refine run ?_;repeat intro b);refine eG (Hp.sub.refl _) ⟨⟨rfl,rfl,rfl,rfl,rfl,rfl,rfl,rfl,rfl,rfl,rfl,rfl,rfl,rfl,rfl,trivial⟩,⟨rfl,rfl,rfl,rfl,rfl,rfl,rfl,rfl,rfl,rfl,rfl,rfl,rfl,trivial⟩,⟨rfl,fT _ _ _⟩,trivial⟩ ?_;refine dU [20,21] (f':=0) (by kernel_rfl) rfl rfl rfl ?_;(refine run ?_;repeat intro b);refine fq (by kernel_rfl) ?_;(refine run ?_;repeat intro b);exact kn _ (VS.eL [0,3,4,5] rfl ⟨(F2,pw,cw,bO),⟨hs2,hfw⟩,rfl⟩)
end
section
open Go.TR
theorem AQ (a b c d:Int):(⟨a,b,c,d,[],Head.none,jo.none⟩:mN).wf:=by
 have h1:Head.none.wf:=⟨by decide,by decide,by decide,by decide⟩;have h2:jo.none.wf:=by constructor<;>simp[jo.none]
 exact⟨by simp,(fun x hx=>by cases hx),h1,h2,by simp[jo.none],by simp[jo.none]⟩
theorem sm (t:fr)(l:mN):(t.send l).dI=t.dI∧(t.send l).events=t.events:=by
 unfold fr.send fr.post;split<;>split<;>exact⟨rfl,rfl⟩
theorem yN {l:List jk}{k:Nat}(h:k<l.length):0+k * 8+8≤((l.flatMap jk.row).map EV.v).length∧((l.flatMap jk.row).map EV.v)[0+k * 8+2+0]? =some (.v (i64 (l[k]).o.head.dZ)):=by
 have h1:=kT (f:=jk.row) (k:=8) gZ h;constructor
 ·rw[ab,dO gZ];omega
 have:=a8 (·[2]?) h1;simp only[cA]at this;rw[cE,aZ (by omega)]at this;exact this
attribute [local irreducible] vc dW gz fg fD gF gJ gB fJ Plain eD eX dK VS fv fA fG jt fh IntKind.wrap
set_option maxRecDepth 100000
set_option maxHeartbeats 4000000
theorem RY (s:TL)(z:Fr)(k:Nat){F:Hp}(h:s.at F)(k2:k<s.dN.length)(hpl:s.polls.length=s.dN.length)(hk:k≤4)(W4:0≤(s.dN[k]).o.head.dZ∧(s.dN[k]).o.head.dZ≤1000000000)(hpb: ∀p∈s.polls,p.bad=false)(hsb:(s.t.pl k).lF s.dI.now=0→((s.t.pl k).mU s.dI.now).bad=false)(hev:s.events.length≤1000000)
  (hw: ∀y∈s.fN.gE,y.l.wf) (hn:s.fN.gE.length≤60) (FV:gG s.fN=0) (hf: ∀f∈s.ej,f.f.length≤17592186044416):ox s z F 178 [i64 (k:Nat)] (s.t.ask k):=by
 refine eX.norm 6 (ah 6) (iT (N:=84) (rv:=[]) eW mixed Tryz.func178 rfl rfl rfl rfl rfl ?_);have kp:k<s.polls.length:=by omega
 have e1:s.t.pl k=s.polls[k]:=by
  unfold fr.pl;simp[TL.t,List.getD,kp]
 have e2:s.t.ow k=(s.dN[k]).o:=by
  unfold fr.ow;simp[TL.t,List.getD,k2]
 have ek:s.t.ask k=if (s.polls[k]).lF s.dI.now=0 then (if decide ((s.polls[k]).asked+1=(s.polls[k]).lost)=true then (s.t.asked k).note ⟨3,(k:Nat),0,s.dI.now⟩ else s.t.asked k) else s.t:=by
  unfold fr.ask fr.LX;rw[e1];rfl
 have ea:s.t.asked k=fr.send { s.t with polls:=s.polls.set k ((s.polls[k]).mU s.dI.now) } ⟨-1,(k:Nat),(s.dN[k]).o.head.dZ+1,0,[],Head.none,jo.none⟩:=by
  unfold fr.asked fr.Cr;rw[e1,e2];rfl
 rw[e1]at hsb;have qO:=kT (f:=Poll.row) (k:=6) iR kp;have Ot:=fun y=>mI (f:=Poll.row) (x:=y) iR kp;have u9:=DN s.polls;have K5:=hpb _ (aj kp);obtain⟨p,hp⟩: ∃y,s.polls[k]=y:=⟨_,rfl⟩;rw[hp]at hsb ek ea qO K5;clear e1 hp;obtain⟨bp,hbp⟩: ∃b,s.bp=some b:=by
  cases hh:s.bp with
  | some b=>exact⟨b,rfl⟩
  | none=>have:=h.w9 hh;omega
 obtain⟨bo,Ds⟩: ∃b,s.bo=some b:=by
  cases hh:s.bo with
  | some b=>exact⟨b,rfl⟩
  | none=>have:=h.rq hh;omega
 obtain⟨hE,hD⟩:=yN k2;obtain⟨dI,cl,dN,polls,fN,reach,jb,fo,ej,events,b0,Sx,co,u7,cp,bf,cf,xf,be,ce⟩:=s;dsimp only at *;subst hbp Ds;have k3:k<dN.length:=k2;have kp3:k<polls.length:=kp;have Dt:0+k * 6+6≤((polls.flatMap Poll.row).map EV.v).length:=by rw[ab,u9];omega
 dsimp only [TL.rs,TL.cells];(refine fZ ?_;repeat intro b);refine lp (β:=Nat) (fun _=>True) (fun q=>⟨[(0,.loc 0 0),(1,.v (i64 (k:Nat))),(4,.loc 6 0),(5,.v (i64 (p.lF dI.now)))],F,
  (6,⟨some q,((p.mU dI.now).ij (p.lF dI.now)).row.map EV.v,159,6⟩)::(⟨dI,cl,dN,polls,fN,reach,jb,fo,ej,events,b0,some bo,co,some bp,cp,bf,cf,xf,be,ce⟩:TL).rs z,7⟩) rfl (fun q _=>?_) (fun vb kn kr ke=>?_)
 ·dsimp only [TL.rs,TL.cells];(refine fZ ?_;repeat intro b);refine eE (decide (p.lF dI.now≠0)) ?_ (fun h1=>?_) (fun h1=>?_)
  ·refine dV ?_;rw[ai];simp
  ·have h1:=ar h1;rw[aY h1]at ek;(refine fZ ?_;repeat intro b);refine A5 (iM (s':=(⟨dI,cl,dN,polls,fN,reach,jb,fo,ej,events,b0,some bo,co,some bp,cp,bf,cf,xf,be,ce⟩:TL)) 7 [(5,12),(4,11),(3,10),(2,9),(1,8),(0,7)] ?_ rfl rfl rfl rfl (Hp.sub.refl _) ek.symm h rfl);rw[TL.gW];exact (dM rfl rfl (dM rfl rfl (dM rfl rfl (dM rfl rfl (dM rfl rfl (dX rfl trivial))))))
  have h1:p.lF dI.now=0:=by have:=au h1;omega
  rw[aZ h1]at ek;have Y8:=hsb h1;have eO:(p.mU dI.now).ij (p.lF dI.now)=p.mU dI.now:=by unfold Poll.ij;rw[aY (by omega)]
  rw[eO];(refine fZ ?_;repeat intro b);refine dL rfl rfl rfl ⟨by omega,by omega,_,_,rfl,rfl⟩ ?_;rw[ae];refine lA p.row rfl rfl rfl rfl rfl (by exact Dt) (by exact qO) ?_;(refine fZ ?_;repeat intro b);refine dJ _ rfl rfl rfl QT rfl (Bi p F) ?_;(refine fZ ?_;repeat intro b);refine dJ _ rfl rfl rfl QT rfl (Bi (p.mU dI.now) F) ?_;(refine fZ ?_;repeat intro b);refine jM 7 (by kernel_rfl) rfl rfl ?_;(refine fZ ?_;repeat intro b);refine dL rfl rfl rfl ⟨by omega,by omega,_,_,rfl,rfl⟩ ?_;(refine fZ ?_;repeat intro b);rw[ae];refine iS (((polls.set k (p.mU dI.now)).flatMap Poll.row).map EV.v) rfl rfl rfl rfl rfl rfl (by exact Dt) (by exact Ot _) rfl ?_;(refine fZ ?_;repeat intro b);refine dL rfl rfl rfl ⟨by omega,by omega,_,_,rfl,rfl⟩ ?_;(refine fZ ?_;repeat intro b);rw[ae];refine om (i64 (dN[k]).o.head.dZ) rfl rfl rfl rfl rfl (by exact hD) ?_;(refine fZ ?_;repeat intro b);rw[wrap_i64 (n:=(dN[k]).o.head.dZ+1) (by omega) (by omega)];have at2:(⟨dI,cl,dN,polls.set k (p.mU dI.now),fN,reach,jb,fo,ej,events,b0,some bo,co,some bp,cp,bf,cf,xf,be,ce⟩:TL).at F:={ h with w9:=(fun hn=>by cases hn),K8:=(by show (polls.set _ _).length≤cp;rw[cM];exact h.K8) };have cn:=BT (⟨dI,cl,dN,polls.set k (p.mU dI.now),fN,reach,jb,fo,ej,events,b0,some bo,co,some bp,cp,bf,cf,xf,be,ce⟩:TL) z (⟨⟨-1,(k:Nat),(dN[k]).o.head.dZ+1,0,[],Head.none,jo.none⟩,none,0,⟨none,0,none,0⟩⟩:LP) at2 ⟨eJ _ _,eJ _ _,eJ _ _⟩ (AQ _ _ _ _) hw hn FV hf;refine fX (VS.env (env':=[(0,.v (.pointer (some ⟨b0,0,none⟩))),(1,.v (i64 (k:Nat))),(8,.v (.bool (!(p.mU dI.now).bad&&decide ((p.mU dI.now).lost≤(p.mU dI.now).asked)))),(6,.v (.bool (!p.bad&&decide (p.lost≤p.asked)))),(55,.loc 0 0),(68,.v (.agg (⟨⟨-1,(k:Nat),(dN[k]).o.head.dZ+1,0,[],Head.none,jo.none⟩,none,0,⟨none,0,none,0⟩⟩:LP).row.toArray))]) (fQ rfl rfl) ?_);refine nQ rfl rfl rfl Lp rfl (ox.at cn (nx2:=7) [(5,5),(4,4),(3,3),(2,2),(1,1),(0,0)] 0 ?_ rfl rfl rfl rfl (by decide)) ?_
  ·dsimp only [TL.rs,TL.cells];rw[cM];exact (dM rfl rfl (dM rfl rfl (dM rfl rfl (dM rfl rfl (dM rfl rfl (dX rfl trivial))))))
  rintro _ F4 _ _ _ _ ⟨rfl,hs4,rfl,s4,oX,pW,hb4,rfl⟩;have es4:s4.t=(⟨dI,cl,dN,polls,fN,reach,jb,fo,ej,events,b0,some bo,co,some bp,cp,bf,cf,xf,be,ce⟩:TL).t.asked k:=by rw[oX,ea];rfl
  have hb5:s4.b0=b0:=hb4;have hse:=sm (⟨dI,cl,dN,polls.set k (p.mU dI.now),fN,reach,jb,fo,ej,events,b0,some bo,co,some bp,cp,bf,cf,xf,be,ce⟩:TL).t (⟨⟨-1,(k:Nat),(dN[k]).o.head.dZ+1,0,[],Head.none,jo.none⟩,none,0,⟨none,0,none,0⟩⟩:LP).l;have hc4:s4.dI=dI:=by have:=a8 fr.dI oX;exact this.trans hse.1
  have he4:s4.events=events:=by have:=a8 fr.events oX;exact this.trans hse.2
  (refine fZ ?_;repeat intro b);refine eE (decide (p.asked+1=p.lost)) ?_ (fun h2=>?_) (fun h2=>?_)
  ·refine dV ?_;have hl:(p.mU dI.now).lost=p.lost:=rfl;have hb2:0≤p.asked∧p.asked≤1000000:=by
    unfold Poll.bad at K5;simp only[aQ,aU]at K5;omega
   have ha2:(p.mU dI.now).asked=p.asked+1:=wrap_i64 (by omega) (by omega);rw[fK,Y8,K5,hl,ha2,ai];simp;omega
  ·rw[aZ h2]at ek;rw[TL.gW];refine mA (VS.env (env':=[(0,.loc 7 0),(1,.v (i64 (k:Nat)))]) ⟨⟨_,_,rfl,by rw[hb5];rfl,rfl⟩,⟨_,_,rfl,rfl,rfl⟩,trivial⟩ ?_);(refine fZ ?_;repeat intro b);have cn2:=B8 s4 z 3 (k:Nat) 0 s4.dI.now pW (by rw[he4];exact hev);refine nQ rfl rfl rfl Nn rfl (ox.at cn2 (nx2:=13) [(12,5),(11,4),(10,3),(9,2),(8,1),(7,0)] 7 (dM rfl rfl (dM rfl rfl (dM rfl rfl (dM rfl rfl (dM rfl rfl (dX rfl trivial)))))) rfl rfl rfl rfl (by decide)) ?_;rintro _ F5 _ _ _ _ ⟨rfl,hs5,rfl,s5,Wx,Xd,hb6,rfl⟩;(refine fZ ?_;repeat intro b);refine jU (VS.id ⟨_,rfl,13,s5.rs z,6,.v (.tuple #[]),rfl,rfl,rfl,rfl,rfl,hs4.trans hs5,s5,?_,Xd,hb6.trans hb4,rfl⟩);rw[Wx,ek,es4,hc4]
  rw[aY (by rw[h2];decide)]at ek;(refine fZ ?_;repeat intro b);exact jU (VS.id ⟨_,rfl,7,s4.rs z,6,.v (.tuple #[]),rfl,rfl,rfl,rfl,rfl,hs4,s4,es4.trans ek.symm,pW,hb4,rfl⟩)
 refine fC [0,2] (by kernel_rfl) ?_;refine dU [0,1,2,3,4,5,6,7,8,9,10,11,12,13] (f':=7) (by kernel_rfl) rfl rfl rfl ?_;(refine run ?_;repeat intro b);refine dL rfl rfl rfl ⟨by omega,by omega,_,_,rfl,rfl⟩ ?_;rw[ae];refine lA p.row rfl rfl rfl rfl rfl (by exact Dt) (by exact qO) ?_;(refine run ?_;repeat intro b);refine jF 14 18 (by kernel_rfl) rfl rfl rfl ?_ ?_
 ·refine dJ _ rfl rfl rfl Qo rfl (Be p dI.now F) ?_;(refine run ?_;repeat intro b);refine eG (Hp.sub.refl _) ⟨⟨rfl,rfl,rfl,rfl,rfl,rfl,rfl,rfl,rfl,rfl,rfl,rfl,rfl,rfl,rfl,trivial⟩,⟨rfl,fT _ _ _⟩,trivial⟩ ?_;refine dU [15,16,17] (f':=3) (by kernel_rfl) rfl rfl rfl ?_;(refine run ?_;repeat intro b);refine ee 18 (by kernel_rfl) rfl rfl ?_;(refine run ?_;repeat intro b);revert b;intro bP;refine eG (Hp.sub.refl _) ⟨⟨rfl,rfl,rfl,rfl,rfl,rfl,rfl,rfl,rfl,rfl,rfl,rfl,rfl,rfl,rfl,trivial⟩,⟨rfl,fT _ _ _⟩,trivial⟩ ?_;refine ee 19 (by kernel_rfl) rfl rfl ?_;(refine run ?_;repeat intro b);refine eG (Hp.sub.refl _) ⟨⟨rfl,rfl,rfl,rfl,rfl,rfl,rfl,rfl,rfl,rfl,rfl,rfl,rfl,rfl,rfl,trivial⟩,⟨rfl,fT _ _ _⟩,trivial⟩ ?_;refine dU [20] (f':=0) (by kernel_rfl) rfl rfl rfl ?_;(refine run ?_;repeat intro b);refine fq (by kernel_rfl) ?_;(refine run ?_;repeat intro b);exact kn _ (VS.eL [0,1,4,5] rfl ⟨bP,trivial,rfl⟩)
 (refine run ?_;repeat intro b);revert b;intro bP;refine eG (Hp.sub.refl _) ⟨⟨rfl,rfl,rfl,rfl,rfl,rfl,rfl,rfl,rfl,rfl,rfl,rfl,rfl,rfl,rfl,trivial⟩,⟨rfl,fT _ _ _⟩,trivial⟩ ?_;refine ee 14 (by kernel_rfl) rfl rfl ?_;refine dJ _ rfl rfl rfl Qo rfl (Be p dI.now F) ?_;(refine run ?_;repeat intro b);refine eG (Hp.sub.refl _) ⟨⟨rfl,rfl,rfl,rfl,rfl,rfl,rfl,rfl,rfl,rfl,rfl,rfl,rfl,rfl,rfl,trivial⟩,⟨rfl,fT _ _ _⟩,trivial⟩ ?_;refine dU [15,16,17] (f':=2) (by kernel_rfl) rfl rfl rfl ?_;(refine run ?_;repeat intro b);refine ee 19 (by kernel_rfl) rfl rfl ?_;(refine run ?_;repeat intro b);refine eG (Hp.sub.refl _) ⟨⟨rfl,rfl,rfl,rfl,rfl,rfl,rfl,rfl,rfl,rfl,rfl,rfl,rfl,rfl,rfl,trivial⟩,⟨rfl,fT _ _ _⟩,trivial⟩ ?_;refine dU [20] (f':=0) (by kernel_rfl) rfl rfl rfl ?_;(refine run ?_;repeat intro b);refine fq (by kernel_rfl) ?_;(refine run ?_;repeat intro b);exact kn _ (VS.eL [0,1,4,5] rfl ⟨bP,trivial,rfl⟩)
end
section
open Go.TR
structure IY (l:mN) (n:Nat):Prop where
 wf:l.wf
 iP:l.iP<(n:Int)
 since: -9223372036854775808≤l.since∧l.since≤9223372036854775807
structure fr.Inv (t:fr) (n:Nat):Prop where
 iC:Good t.dI
 asks: ∀a∈t.dI.queue.wait,a.wf
 n4:n≤4
 dN:t.dN.length=n
 own: ∀o∈t.dN,o.wf∧ki o=0
 polls:t.polls.length=n
 jO: ∀p∈t.polls,p.bad=false
 now:t.now=t.dI.now
 gE:t.gE.length≤60
 late: ∀l∈t.gE,t.now<l.due
 I2: ∀l∈t.gE,IY l n
 reach:1≤t.reach∧t.reach≤40
 ej: ∀f∈t.ej,f.length≤17592186044416
theorem IY.by {l:mN}{n:Nat}(h:IY l n)(k:Int):IY (l.by k) n:=⟨⟨h.wf.dS,h.wf.each,h.wf.head,h.wf.nL,h.wf.gg,h.wf.fF⟩,h.iP,h.since⟩
theorem fr.Inv.note {t:fr}{n:Nat}(h:t.Inv n)(e:lW):(t.note e).Inv n:=
 ⟨h.iC,h.asks,h.n4,h.dN,h.own,h.polls,h.jO,h.now,h.gE,h.late,h.I2,h.reach,h.ej⟩
theorem fr.Inv.post {t:fr}{n:Nat}(h:t.Inv n){l:mN}(hl:IY l n)(f:List Int):(t.post l f).Inv n:=by
 unfold fr.post;split
 ·exact h
 rename_i hf;unfold fr.full at hf;simp only[bD,av,not_or]at hf;have hb: ∀k∈f,1≤k:=fun k hk=>by
  have:=bM.1 (by simpa using hf.1) k hk;simp only[kf,bD,av,not_or]at this;omega
 refine { h with gE:=?_,late:=fun x hx=>?_,I2:=fun x hx=>?_ }
 ·show (t.gE++f.map _).length≤60;rw[ag,ab];omega
 ·rcases aK.1 hx with hx | hx
  ·exact h.late x hx
  obtain⟨k,hk,rfl⟩:=aG.1 hx;have:=hb k hk;show t.now<t.now+k;omega
 rcases aK.1 hx with hx | hx
 ·exact h.I2 x hx
 obtain⟨k,hk,rfl⟩:=aG.1 hx;exact hl.by _
theorem fr.Inv.send {t:fr}{n:Nat}(h:t.Inv n){l:mN}(hl:IY l n):(t.send l).Inv n:=by
 unfold fr.send;split
 ·exact h.post hl _
 rename_i f r e;have h2:fr.Inv { t with ej:=r } n:={ h with ej:=fun x hx=>h.ej x (by rw[e];exact cR _ hx) };exact h2.post hl _
theorem fr.Inv.get {t:fr}{n:Nat}(h:t.Inv n){k:Int}(ho:t.owned k=true):0≤k∧k<(n:Int)∧(t.ow k.toNat).wf∧ki (t.ow k.toNat)=0∧t.ow k.toNat∈t.dN:=by
 unfold fr.owned at ho;simp only[aL,av]at ho;have hk:k.toNat<t.dN.length:=by omega
 have e:t.ow k.toNat=t.dN[k.toNat]:=by unfold fr.ow;simp[List.getD,hk]
 have hm:t.dN[k.toNat]∈t.dN:=aj hk;rw[e];have:=h.dN;exact⟨ho.1,by omega,(h.own _ hm).1,(h.own _ hm).2,hm⟩
theorem fr.Inv.want {t:fr}{n:Nat}(h:t.Inv n)(jc:Int){v:List UInt8}(hv:v.length≤4611686018427387904):(t.want jc v).Inv n:=by
 unfold fr.want;split
 ·rename_i he;unfold fr.rf at he;simp only[aL,av]at he;obtain⟨⟨h1,h2⟩,h3⟩:=he;obtain⟨k0,k1,k2,k3,k4⟩:=h.get h1;obtain⟨w1,w2⟩:=MA k3 h2;obtain⟨f1,_,_⟩:=s9 (v:=v) k2 hv;have hg:=Nt h.iC h3;have hc:=(pF h3).1;have hz:=(iW w1);refine fr.Inv.note (t:={ t with dN:=t.dN.set jc.toNat (jR (t.ow jc.toNat) v),dI:=jm t.dI (iL (t.ow jc.toNat) v) }) ⟨hg,NV h3 h.asks f1,h.n4,by rw[cM];exact h.dN,fun o ho=>?_,h.polls,h.jO,?_,h.gE,h.late,h.I2,h.reach,h.ej⟩ _
  ·rcases cZ ho with ho | rfl
   ·exact h.own o ho
   refine⟨?_,w1⟩;rw[w2]at hz ⊢;refine⟨k2.name,k2.key,k2.head,by have:=hz.2.2.1;dsimp only at this ⊢;omega,fun s hs=>?_,k2.jD⟩;rcases aK.1 hs with hs | hs
   ·exact k2.each s hs
   rw[aB.1 hs];exact hv
  show t.now=(jm t.dI (iL (t.ow jc.toNat) v)).now;rw[hc];exact h.now
 exact h
theorem sP:jo.none.wf:=⟨by decide,by decide,(fun x hx=>by cases hx),by decide,(fun x hx=>by cases hx)⟩
theorem Jm {l:List Entry}{n:List UInt8}(hl:l.length≤24)(hw: ∀x∈l,x.wf)(hn:n.length≤4611686018427387904):(lT l n).wf∧(lT l n).gg.length≤24∧(lT l n).fF.length=16:=by
 have h1:=uk l (eC n);refine⟨⟨hn,?_,fun x hx=>hw x (Je hx),?_,fun m hm=>?_⟩,?_,jy _ _ _⟩
 ·show (iY l (eC n)).length≤_;omega
 ·show (iA l n 16).length≤_;rw[jy];decide
 ·have hm:m∈iA l n 16:=hm;unfold iA at hm;obtain⟨j,_,rfl⟩:=aG.1 hm;have:=uC l (vk (eC n) (15 - j));unfold Bu;have:MM≤18446744073709551616:=by decide
  omega
 show (iY l (eC n)).length≤_;omega
theorem HA {c:eI}(h:Good c)(hw:c.wf)(n:List UInt8)(k:Int)(hn:n.length≤4611686018427387904):(nu c n k).wf∧(nu c n k).gg.length * 32≤140737488355328∧(nu c n k).fF.length * 8≤140737488355328:=by
 unfold nu;split
 ·unfold nw;split
  ·have hb:(kV c k).length≤24:=by
    unfold kV;split
    ·rw[aE];cases hh:c.ez[k.toNat]? with
     | none=>simp
     | some b=>
      have:=(fP (ni (by have:=h.lens;omega) h.roots b (cW hh))).1;simpa using this
    simp
   obtain⟨m1,m2,m3⟩:=Jm hb (wu hw k).2 hn;exact⟨m1,by omega,by omega⟩
  exact⟨sP,by decide,by decide⟩
 exact⟨sP,by decide,by decide⟩
theorem Fc {c:eI}(hw:c.wf)(f t:Int):(k7 c f t).length≤c.dS.length∧ ∀x∈k7 c f t,x.wf:=by
 unfold k7;split
 ·unfold pT;split
  ·refine⟨?_,fun x hx=>hw.dS x (cY (cX hx))⟩;rw[aR,aw];omega
  exact⟨az _,fun x hx=>by cases hx⟩
 exact⟨az _,fun x hx=>by cases hx⟩
theorem GJ {c:eI}(hw:c.wf)(n:List UInt8)(k:Int):(pQ c n k).wf:=by
 have h0:Head.none.wf:=⟨by decide,by decide,by decide,by decide⟩;unfold pQ;split
 ·rw[aE];cases hh:c.dS[k.toNat]? with
  | none=>exact h0
  | some b=>exact hw.dS b (cW hh)
 exact h0
theorem fr.Inv.pd {t:fr}{n:Nat}(h:t.Inv n)(l:mN)(ho:t.owned l.from_=true):IY (t.pd l) n:=by
 obtain⟨k0,k1,k2,k3,k4⟩:=h.get ho;have hw:=oD h.iC h.asks;have hl:=h.iC.lens;obtain⟨p1,p2,p3⟩:=HA h.iC hw (t.ow l.from_.toNat).name (jC t.dI l.since t.reach) k2.name;obtain⟨q1,q2⟩:=Fc hw (ku t.dI l.since) (jC t.dI l.since t.reach);exact⟨⟨by show (k7 t.dI (ku t.dI l.since) (jC t.dI l.since t.reach)).length * 32≤_;omega,q2,GJ hw _ _,p1,p2,p3⟩,k1,⟨by show (-9223372036854775808:Int)≤0;decide,by show (0:Int)≤9223372036854775807;decide⟩⟩
theorem fr.Inv.answer {t:fr}{n:Nat}(h:t.Inv n)(l:mN):(t.answer l).Inv n:=by
 unfold fr.answer;split
 ·rename_i ho;exact h.send (h.pd l ho)
 exact h
theorem fr.Inv.IK {t:fr}{n:Nat}(h:t.Inv n){l:mN}(hl:IY l n)(h0:0≤l.iP):(t.IK l).Inv n:=by
 have hto:=hl.iP;have ho:t.owned l.iP=true:=by
  unfold fr.owned;have:=h.dN;simp only[aL,av];omega
 obtain⟨k0,k1,k2,k3,k4⟩:=h.get ho;obtain⟨w1,w2⟩:=IF l.dS l.head l.nL k3;have WB:(t.O6 l).Inv n:=by
  refine fr.Inv.note (t:={ t with dN:=t.dN.set l.iP.toNat (t.seen l) }) ⟨h.iC,h.asks,h.n4,by rw[cM];exact h.dN,fun o ho=>?_,h.polls,h.jO,h.now,h.gE,h.late,h.I2,h.reach,h.ej⟩ _;rcases cZ ho with ho | rfl
  ·exact h.own o ho
  refine⟨?_,w1⟩;have hz:=iW w1;unfold fr.seen;rw[w2]at hz ⊢;split
  ·rename_i hv;rw[aZ hv]at hz;exact⟨k2.name,k2.key,hl.wf.head,k2.wanted,k2.each,⟨by have:=hz.2.2.2.2.1;dsimp only at this ⊢;omega,by have:=hz.2.2.2.2.2;have:=hz.2.2.1;dsimp only at *;omega⟩⟩
  exact k2
 unfold fr.IK;split
 ·refine { WB with polls:=?_,jO:=fun p hp=>?_ }
  ·show (t.polls.set _ _).length=n;rw[cM];exact h.polls
  rcases cZ hp with hp | rfl
  ·exact h.jO p hp
  have hk:l.iP.toNat<t.polls.length:=by rw[h.polls];omega
  have e:t.pl l.iP.toNat=t.polls[l.iP.toNat]:=by unfold fr.pl;simp[List.getD,hk]
  have ht:=h.iC.times;rw[e];exact Nv (h.jO _ (aj hk)) ⟨by omega,by omega⟩
 exact WB
theorem fr.Inv.ask {t:fr}{n:Nat}(h:t.Inv n){k:Nat}(hk:k<n):(t.ask k).Inv n:=by
 have ht:=h.iC.times;have hkp:k<t.polls.length:=by rw[h.polls];exact hk
 have hko:k<t.dN.length:=by rw[h.dN];exact hk
 have e1:t.pl k=t.polls[k]:=by unfold fr.pl;simp[List.getD,hkp]
 have e2:t.ow k=t.dN[k]:=by unfold fr.ow;simp[List.getD,hko]
 have hf:=iW (h.own _ (aj hko)).2;have hr:=Head.uh hf.2.1;unfold fr.ask;split
 ·rename_i hs;have ha:(t.asked k).Inv n:=by
   unfold fr.asked;refine fr.Inv.send (t:={ t with polls:=t.polls.set k ((t.pl k).mU t.dI.now) }) (l:=t.Cr k) { h with polls:=?_,jO:=fun p hp=>?_ } ⟨AQ _ _ _ _,?_,?_⟩
   ·show (t.polls.set _ _).length=n;rw[cM];exact h.polls
   ·rcases cZ hp with hp | rfl
    ·exact h.jO p hp
    rw[e1]at hs ⊢;exact Ii (h.jO _ (aj hkp)) ⟨by omega,by omega⟩ hs
   ·show (-1:Int)<n;omega
   show -9223372036854775808≤(t.ow k).head.dZ+1∧(t.ow k).head.dZ+1≤9223372036854775807;rw[e2];omega
  split
  ·exact ha.note _
  exact ha
 exact h
end
section
open Go.TR
theorem fr.Inv.next {t:fr}{n:Nat}(h:t.Inv n)(hc:gu t.dI=false):t.next.Inv n:=by
 refine { h with iC:=Kl h.iC,asks:=JS h.iC h.asks,now:=?_,gE:=?_,late:=fun l hl=>?_,I2:=fun l hl=>h.I2 l (cU.1 hl).1 }
 ·show t.now+1=(fS t.dI).now;rw[DV h.iC hc,h.now]
 ·exact dq (cJ _ _) h.gE
 obtain⟨h1,h2⟩:=cU.1 hl;have:=h.late l h1;simp only[bz,aU]at h2;show t.now+1<l.due;omega
theorem fr.Inv.mO {t:fr}{n:Nat}(h:t.Inv n){l:mN}(hl:IY l n):(t.mO l).Inv n:=by
 unfold fr.mO;split
 ·exact h.answer l
 exact h.IK hl (by omega)
theorem fr.Inv.comes: ∀{l:List mN}{t:fr}{n:Nat},t.Inv n→(∀x∈l,IY x n)→(t.comes l).Inv n
 | [],_,_,h,_=>h
 | x::l,t,n,h,hl=>fr.Inv.comes (l:=l) (t:=t.mO x) (h.mO (hl x cT)) fun y hy=>hl y (cR _ hy)
theorem fr.Inv.IP {t:fr}{n:Nat}(h:t.Inv n): ∀k,k≤n→(t.asks k).Inv n
 | 0,_=>h
 | k+1,hk=>by
  rw[nH];exact (h.IP k (by omega)).ask (by omega)
theorem fr.Inv.due {t:fr}{n:Nat}(h:t.Inv n):t.due.length≤60∧ ∀x∈t.due,IY x n:=
 ⟨dq (cJ _ _) h.gE,fun l hl=>h.I2 l (cU.1 hl).1⟩
theorem fr.Inv.tick {t:fr}{n:Nat}(h:t.Inv n):t.tick.Inv n:=by
 unfold fr.tick;split
 ·exact h
 rename_i hc;exact ((h.next (by simpa using hc)).comes h.due.2).IP _ (by rw[h.dN];exact ah _)
structure sW.ok (d:sW):Prop where
 value:d.value.length≤4611686018427387904
 ej:d.ej.length≤17592186044416
 letter:d.letter.wf
 since: -9223372036854775808≤d.letter.since∧d.letter.since≤9223372036854775807
theorem sW.ok.I2 {d:sW}(h:d.ok){t:fr}{n:Nat}(hi:t.Inv n)(ho:t.owned d.jc=true):IY (d.letter.for_ d.jc) n:=
 ⟨⟨h.letter.dS,h.letter.each,h.letter.head,h.letter.nL,h.letter.gg,h.letter.fF⟩,(hi.get ho).2.1,h.since⟩
theorem fr.Inv.pX {t:fr}{n:Nat}(h:t.Inv n){d:sW}(hd:d.ok):(t.pX d).Inv n:=by
 unfold fr.pX;split
 ·exact h.want _ hd.value
 split
 ·refine { h with ej:=fun f hf=>?_ };rcases aK.1 hf with hf | hf
  ·exact h.ej f hf
  rw[aB.1 hf];exact hd.ej
 split
 ·split
  ·rename_i ho;exact h.post (hd.I2 h ho) _
  exact h
 split
 ·exact h.tick
 exact h
theorem fr.Inv.fN {t:fr}{n:Nat}(h:t.Inv n){s:TL}(e:s.t=t):gG s.fN=0∧s.fN.gE.length≤60∧(∀y∈s.fN.gE,y.l.wf)∧s.dN.length=n∧s.polls.length=n∧(∀x∈s.dN,x.o.wf∧ki x.o=0)∧(∀f∈s.ej,f.f.length≤17592186044416):=by
 subst e;have ht:=h.iC.times;have hn:s.fN.now=s.dI.now:=h.now;have hw:s.fN.gE.length≤60:=by have:=h.gE;simpa [TL.t] using this
 have ho:s.dN.length=n:=by have:=h.dN;simpa [TL.t] using this
 refine⟨?_,hw,fun y hy=>(h.I2 _ (cV hy)).wf,ho,h.polls,fun x hx=>h.own _ (cV hx),fun f hf=>h.ej _ (cV hf)⟩;have hc:s.t.dI=s.dI:=rfl;rw[hc]at ht;unfold gG;rw[aY (by omega),aY (by omega),aY];intro hh;obtain⟨y,hy,hd⟩:=bT.1 hh;have hl:=h.late _ (cV hy);have hl:s.fN.now<y.l.due:=hl;simp only[av]at hd;omega
theorem Pp (t:fr)(l:mN)(f:List Int):(t.post l f).events=t.events:=by
 unfold fr.post;split<;>rfl
theorem PE (t:fr)(l:mN):(t.mO l).events.length≤t.events.length+1:=by
 unfold fr.mO fr.answer fr.IK fr.O6;split
 ·split
  ·rw[(sm t _).2];omega
  omega
 split<;>simp[fr.note]
theorem pV: ∀(l:List mN)(t:fr),(t.comes l).events.length≤t.events.length+l.length
 | [],t=>ah _
 | x::l,t=>by
  have h1:=pV l (t.mO x);have h2:=PE t x;have e:t.comes (x::l)=(t.mO x).comes l:=rfl;rw[e,aH];omega
theorem RI (t:fr)(k:Nat):(t.ask k).events.length≤t.events.length+1:=by
 have h:(t.asked k).events=t.events:=by unfold fr.asked;exact (sm _ _).2
 unfold fr.ask;split
 ·split
  ·show ((t.asked k).events++[_]).length≤_;rw[h];simp
  rw[h];omega
 omega
theorem xn (t:fr): ∀k,(t.asks k).events.length≤t.events.length+k
 | 0=>ah _
 | k+1=>by
  have h1:=xn t k;have h2:=RI (t.asks k) k;rw[nH];omega
theorem Uh {t:fr}{n:Nat}(h:t.Inv n)(d:sW):(t.pX d).events.length≤t.events.length+64:=by
 unfold fr.pX;split
 ·unfold fr.want;split
  ·simp[fr.note]
  omega
 split
 ·show t.events.length≤_;omega
 split
 ·split
  ·rw[Pp];omega
  omega
 split
 ·unfold fr.tick;split
  ·omega
  have h1:=xn (t.next.comes t.due) t.dN.length;have h2:=pV t.due t.next;have h3:=h.due.1;have h4:=h.dN;have h5:=h.n4;have h6:t.next.events=t.events:=rfl;rw[h6]at h2;omega
 omega
end
end Go.Proofs.YthbnddgjkonkdaaGreatDoor
