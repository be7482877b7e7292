/- A part of the proof. -/
import Derived.Test.YthbnddgjkonkdaaGreatDoorSetOwner4
import Derived.Test.YthbnddgjkonkdaaGreatDoorSetTownBegin
set_option linter.unusedVariables false
set_option linter.unusedSimpArgs false
namespace Go.Proofs.YthbnddgjkonkdaaGreatDoor
open Go.TR
structure TV where
 dF:eE
 cl:jf
 dK:List jh
 po:Option Addr
 co:Nat
 polls:List Poll
 pp:Option Addr
 cp:Nat
 fJ:NP
@[reducible] def TV.row (s:TV):List Value:=[i64 s.dF.queue.most,.slice s.cl.w s.dF.queue.wait.length s.cl.cw,i64 s.dF.batch,i64 s.dF.every,i64 s.dF.now,.slice s.cl.h s.dF.dP.length s.cl.ch,.slice s.cl.b s.dF.ee.length s.cl.cb,.slice s.po s.dK.length s.co,.slice s.pp s.polls.length s.cp,i64 s.fJ.now,.slice s.fJ.p s.fJ.gz.length s.fJ.c]
structure TV.at (F:Hp) (s:TV):Prop where
 dF:s.dF.at F s.cl
 po:eY F s.po (s.dK.flatMap jh.row)
 dK: ∀x∈s.dK,x.at F
 pp:eY F s.pp (s.polls.flatMap Poll.row)
 fJ:s.fJ.at F
theorem TV.eX {F F':Hp}(h:F.sub F'){s:TV}(k:s.at F):s.at F':=⟨eE.eX h k.dF,dZ h k.po,fun x hx=>jh.eX h (k.dK x hx),dZ h k.pp,NP.eX h k.fJ⟩
structure TV.Is (s:TV) (t:fm):Prop where
 dF:s.dF=t.dF
 dK:s.dK.map jh.o=t.dK
 polls:s.polls=t.polls
 now:s.fJ.now=t.now
 gz:s.fJ.gz.map LP.l=t.gz
structure Np (s:TV):Prop where
 dF:Fits s.dF
 dK:s.dK.length≤1000
 Qi: ∀x∈s.dK,x.o.wanted.length≤1000
 polls:s.polls.length≤1000
 gz:s.fJ.gz.length≤4611686018427387904
 wf: ∀x∈s.fJ.gz,x.l.wf
attribute [local irreducible] vc dT gx fc fA gC gG gw fG Plain eu eR dH VS fq fx fD ju fe IntKind.wrap
attribute [local irreducible] dV gK ir gH fK
set_option maxRecDepth 100000
set_option maxHeartbeats 4000000
theorem sQ (a b:TV){t:fm}(ia:a.Is t)(ib:b.Is t)(hf:Np a){F:Hp}(ha:a.at F)(hb:b.at F):Plain Tryz.prog F 24 [.agg a.row.toArray,.agg b.row.toArray] (.bool true):=by
 have ec:a.dF=b.dF:=ia.dF.trans ib.dF.symm;have eo:a.dK.map jh.o=b.dK.map jh.o:=ia.dK.trans ib.dK.symm;have ep:a.polls=b.polls:=ia.polls.trans ib.polls.symm;have en:a.fJ.now=b.fJ.now:=ia.now.trans ib.now.symm;have ew:a.fJ.gz.map LP.l=b.fJ.gz.map LP.l:=ia.gz.trans ib.gz.symm;have lo:a.dK.length=b.dK.length:=by simpa using a8 List.length eo
 obtain⟨c,cl,ows,po,co,ps,pp,cp,nt⟩:=a;obtain⟨c2,Zf,Oo,po2,co2,ps2,pp2,cp2,Zg⟩:=b;dsimp only at ec eo ep en ew lo;subst ec ep;obtain⟨hf1,hf2,hf3,zU,FQ,Oy⟩:=hf;obtain⟨ha1,ha2,Q6,pT,Xa⟩:=ha;obtain⟨hb1,hb2,hb3,hb4,hb5⟩:=hb;dsimp only at hf1 hf2 hf3 zU FQ Oy ha1 ha2 Q6 pT Xa hb1 hb2 hb3 hb4 hb5;clear ia ib;have hC:=yj c cl Zf hf1 ha1 hb1;have hN:=Ho nt Zg en ew Oy Xa hb5 FQ;refine dN (N:=76) (rv:=[.tmp 4]) eP mixed Tryz.func24 rfl rfl rfl rfl rfl ?_;(refine run ?_;repeat intro b);rename_i bX;revert b;intro bY;refine dG _ rfl rfl rfl XJ rfl hC ?_;(refine run ?_;repeat intro b);refine dG _ rfl rfl rfl Ye rfl hN ?_;(refine run ?_;repeat intro b);refine ez false ?_ (fun h=>by cases h) (fun _=>?_)
 ·refine dS ?_;simp[lL,lo]
 (refine run ?_;repeat intro b);refine eU (fun k:Nat=>k≤ows.length)
  (fun k=>⟨[(2,.loc 0 0),(3,.loc 1 0),(41,.v (i64 (ows.length:Nat))),(42,.v (i64 (k:Nat)))],F,
   [(1,⟨some bY,(TV.row ⟨c,Zf,Oo,po2,co2,ps,pp2,cp2,Zg⟩).map EV.v,64,11⟩),
    (0,⟨some bX,(TV.row ⟨c,cl,ows,po,co,ps,pp,cp,nt⟩).map EV.v,64,11⟩)],2⟩) (fun k=>ows.length - k) 0 (az _) (VS.eH [2,3,41,42] rfl rfl) ?_
 rintro k hk;by_cases hlt:k<ows.length
 ·have hlt2:k<Oo.length:=by omega
  obtain⟨o1,o2⟩:=eZ gW (by decide) ha2 k hlt;obtain⟨o3,o4⟩:=eZ gW (by decide) hb2 k hlt2;have hxy:ows[k].o=Oo[k].o:=by
   have:=a8 (fun l=>l[k]?) eo;simpa [hlt,hlt2] using this
  have x1:=Q6 _ (aj hlt);have x2:=hb3 _ (aj hlt2);have x3:=hf3 _ (aj hlt);generalize ows[k]=x at o1 o2 hxy x1 x3;generalize Oo[k]=y at o3 o4 hxy x2;have hS:=xS x.o (n1:=x.o.wanted.length) (n2:=y.o.wanted.length) (c1:=x.c) (c2:=y.c) rfl (by rw[hxy]) x3 x1 (by have:=x2;unfold jh.at at this;rw[hxy];exact this);have ey:x.o.v8 y.p y.o.wanted.length y.c= .agg y.row.toArray:=by rw[hxy]
  rw[ey]at hS;(refine run ?_;repeat intro b);refine gm rfl (by omega) ?_;(refine run ?_;repeat intro b);refine fM (by kernel_rfl) ?_;(refine run ?_;repeat intro b);refine dI rfl rfl rfl ⟨by omega,by dsimp only;omega,dO ha2 (j:=k * 8) (by rw[dL gW];omega)⟩ ?_;refine fy x.row rfl rfl rfl rfl rfl (by rw[ae];exact o1) (by rw[ae];exact o2) ?_;(refine run ?_;repeat intro b);refine dI rfl rfl rfl ⟨by omega,by dsimp only;omega,dO hb2 (j:=k * 8) (by rw[dL gW];omega)⟩ ?_;refine fy y.row rfl rfl rfl rfl rfl (by rw[ae];exact o3) (by rw[ae];exact o4) ?_;(refine run ?_;repeat intro b);refine dG _ rfl rfl rfl Xm rfl hS ?_;(refine run ?_;repeat intro b);rw[dQ (by omega)];exact fj (k+1) hlt (by omega) (VS.eH [2,3,41,42] rfl rfl)
 have hge:k=ows.length:=by omega
 subst hge;(refine run ?_;repeat intro b);refine gu rfl (by omega) ?_;(refine run ?_;repeat intro b);refine eU (fun k:Nat=>k≤ps.length)
  (fun k=>⟨[(2,.loc 0 0),(3,.loc 1 0),(60,.v (i64 (ps.length:Nat))),(61,.v (i64 (k:Nat)))],F,
   [(1,⟨some bY,(TV.row ⟨c,Zf,Oo,po2,co2,ps,pp2,cp2,Zg⟩).map EV.v,64,11⟩),
    (0,⟨some bX,(TV.row ⟨c,cl,ows,po,co,ps,pp,cp,nt⟩).map EV.v,64,11⟩)],2⟩) (fun k=>ps.length - k) 0 (az _) (VS.eH [2,3,60,61] rfl rfl) ?_
 rintro k hk;by_cases hlt:k<ps.length
 ·obtain⟨o1,o2⟩:=eZ iN (by decide) pT k hlt;obtain⟨o3,o4⟩:=eZ iN (by decide) hb4 k hlt;generalize ps[k]=x at o1 o2 o3 o4;(refine run ?_;repeat intro b);refine gm rfl (by omega) ?_;(refine run ?_;repeat intro b);refine fM (by kernel_rfl) ?_;(refine run ?_;repeat intro b);refine dI rfl rfl rfl ⟨by omega,by dsimp only;omega,dO pT (j:=k * 6) (by rw[dL iN];omega)⟩ ?_;refine fy x.row rfl rfl rfl rfl rfl (by rw[ae];exact o1) (by rw[ae];exact o2) ?_;(refine run ?_;repeat intro b);refine dI rfl rfl rfl ⟨by omega,by dsimp only;omega,dO hb4 (j:=k * 6) (by rw[dL iN];omega)⟩ ?_;refine fy x.row rfl rfl rfl rfl rfl (by rw[ae];exact o3) (by rw[ae];exact o4) ?_;(refine run ?_;repeat intro b);refine ez false ?_ (fun h=>by cases h) (fun _=>?_)
  ·refine dS ?_;simp
  (refine run ?_;repeat intro b);rw[dQ (by omega)];exact fj (k+1) hlt (by omega) (VS.eH [2,3,60,61] rfl rfl)
 have hge:k=ps.length:=by omega
 subst hge;(refine run ?_;repeat intro b);refine gu rfl (by omega) ?_;(refine run ?_;repeat intro b);rfl
theorem w8 (l:List lU)(hl:l.length≤4611686018427387904){p q:Option Addr}{c c2:Nat}{F:Hp}(ha:eY F p (l.flatMap lU.row))(hb:eY F q (l.flatMap lU.row)):Plain Tryz.prog F 26 [.slice p l.length c,.slice q l.length c2] (.bool true):=by
 refine dN (N:=26) (rv:=[.tmp 4]) eP mixed Tryz.func26 rfl rfl rfl rfl rfl ?_;(refine run ?_;repeat intro b);refine ez false ?_ (fun h=>by cases h) (fun _=>?_)
 ·refine dS ?_;simp
 (refine run ?_;repeat intro b);refine eU (fun k:Nat=>k≤l.length) (fun k=>⟨[(0,.v (.slice p l.length c)),(1,.v (.slice q l.length c2)),(12,.v (i64 l.length)),(13,.v (i64 (k:Nat)))],F,[],0⟩) (fun k=>l.length - k) 0 (az _) (VS.eH [0,1,12,13] rfl rfl) ?_;intro k hk;by_cases hlt:k<l.length
 ·obtain⟨o1,o2⟩:=eZ nv (by decide) ha k hlt;obtain⟨o3,o4⟩:=eZ nv (by decide) hb k hlt;generalize l[k]=x at o1 o2 o3 o4;(refine run ?_;repeat intro b);refine gm rfl (by omega) ?_;(refine run ?_;repeat intro b);refine fM (by kernel_rfl) ?_;(refine run ?_;repeat intro b);refine dI rfl rfl rfl ⟨by omega,by omega,dO ha (j:=k * 4) (by rw[dL nv];omega)⟩ ?_;refine fy x.row rfl rfl rfl rfl rfl (by rw[ae];exact o1) (by rw[ae];exact o2) ?_;(refine run ?_;repeat intro b);refine dI rfl rfl rfl ⟨by omega,by omega,dO hb (j:=k * 4) (by rw[dL nv];omega)⟩ ?_;refine fy x.row rfl rfl rfl rfl rfl (by rw[ae];exact o3) (by rw[ae];exact o4) ?_;(refine run ?_;repeat intro b);refine ez false ?_ (fun h=>by cases h) (fun _=>?_)
  ·refine dS ?_;simp
  (refine run ?_;repeat intro b);rw[dQ (by omega)];exact fj (k+1) hlt (by omega) (VS.eH [0,1,12,13] rfl rfl)
 have hge:k=l.length:=by omega
 subst hge;(refine run ?_;repeat intro b);refine gu rfl (by omega) ?_;(refine run ?_;repeat intro b);rfl
end Go.Proofs.YthbnddgjkonkdaaGreatDoor
namespace Go.TR
section
variable {P:Program} {tb:Tb} {N:Nat}
theorem VS.IL {env env':Env}{F:Hp}{rs rs':RL}{nx:Nat}{G:St→Prop}(id:Nat){gl:Option Nat}{cells:List EV}{ty:TypeId}{cap:Nat}{cs:List Value}(slots:List Nat)(hr:fR rs id=some ⟨gl,cells,ty,cap⟩)(hcs:iU rs cells=some cs)(h1: ∀b,iq (u9 b id rs)=some rs')(h2:iq (Go.TR.iy [id] rs)=some rs')
  (h3: ∀b,Go.TR.eH (At b id env) slots=some env') (h4:Go.TR.eH (GI id env) slots=some env') (k: ∀F',F.sub F'→eY F' (gl.map fun b=>⟨b,0,none⟩) cs→VS N [] ⟨env',F',rs',nx⟩ G) (hty:Nat.beq ty 0=false:=by rfl):VS N [] ⟨env,F,rs,nx⟩ G:=by
 cases gl with
 | none=>
  refine VS.FL hr (fun e=>by rw[e]at hty;cases hty) fun⟨hc,_⟩=>VS.NM id slots hr h4 (VS.iy [id] h2 (k F (Hp.sub.refl F) ?_));subst hc;cases hcs;exact fun j u h=>by simp at h
 | some b=>exact VS.trans (VS.freeze id slots hr hcs (h1 b) (h3 b) fun F' hs hf=>VS.id (k F' hs hf))
end
end Go.TR
namespace Go.Proofs.YthbnddgjkonkdaaGreatDoor
open Go.TR
theorem sX (t:fm)(l:mJ)(f:List Int):(t.post l f).dX=t.dX:=by
 unfold fm.post;split<;>rfl
theorem zL (t:fm)(l:mJ):(t.send l).dX.length≤t.dX.length:=by
 unfold fm.send;split
 ·rw[sX];exact ah _
 rename_i f r e;rw[sX,e];simp
theorem Hm (t:fm)(l:mJ):(t.mL l).dX.length≤t.dX.length:=by
 unfold fm.mL fm.answer fm.IC fm.PN;split
 ·split
  ·exact zL _ _
  exact ah _
 split<;>exact ah _
theorem vY: ∀(l:List mJ)(t:fm),(t.comes l).dX.length≤t.dX.length
 | [],t=>ah _
 | x::l,t=>dk (vY l (t.mL x)) (Hm t x)
theorem JZ (t:fm)(k:Nat):(t.ask k).dX.length≤t.dX.length:=by
 have h:(t.asked k).dX.length≤t.dX.length:=by unfold fm.asked;exact zL _ _
 unfold fm.ask;split
 ·split
  ·exact h
  exact h
 exact ah _
theorem yP (t:fm): ∀k,(t.asks k).dX.length≤t.dX.length
 | 0=>ah _
 | k+1=>by
  rw[nG];exact dk (JZ _ k) (yP t k)
theorem Mg (t:fm)(d:s8):(t.pU d).dX.length≤t.dX.length+1:=by
 unfold fm.pU;split
 ·unfold fm.want;split<;>exact dj _
 split
 ·show (t.dX++[d.dX]).length≤_;simp
 split
 ·split
  ·rw[sX];omega
  omega
 split
 ·unfold fm.tick;split
  ·omega
  have h1:=yP (t.next.comes t.due) t.dK.length;have h2:=vY t.due t.next;have h6:t.next.dX=t.dX:=rfl;rw[h6]at h2;omega
 omega
structure K6 where
 l:List qP
 p:Option Addr
 c:Nat
theorem Cl (x:qP):x.row.length=16:=rfl
structure K6.at (F:Hp) (d:K6):Prop where
 row:eY F d.p (d.l.flatMap qP.row)
 each: ∀x∈d.l,x.at F
 ok: ∀x∈d.l,x.d.ok
theorem qP.eX {F F':Hp}(h:F.sub F'){x:qP}(k:x.at F):x.at F':=⟨ot.eX h k.f,LP.eX h k.x⟩
theorem K6.eX {F F':Hp}(h:F.sub F'){d:K6}(k:d.at F):d.at F':=⟨dZ h k.row,fun x hx=>qP.eX h (k.each x hx),k.ok⟩
theorem xA {n:Nat}: ∀(l:List s8) (t:fm),t.Inv n→(∀d∈l,d.ok)→(t.ou l).Inv n∧(t.ou l).events.length≤t.events.length+l.length * 64∧(t.ou l).dX.length≤t.dX.length+l.length
 | [],t,h,_=>⟨h,by simp[fm.ou],by simp[fm.ou]⟩
 | d::l,t,h,hd=>by
  have h1:=h.pU (hd d cP);have h2:=V7 h d;have h3:=Mg t d;obtain⟨i1,i2,i3⟩:=xA l (t.pU d) h1 fun x hx=>hd x (cO _ hx);have e:t.ou (d::l)=(t.pU d).ou l:=rfl;rw[e,aH];exact⟨i1,by omega,by omega⟩
def TP (s:lT)(l:List s8)(x:Value)(F:Hp):Prop:=
 (mN s l.length≠0∧ ∃T:TV,T.Is ⟨eE.none,[],[],0,[],0,[],[]⟩∧T.at F∧x= .tuple #[.agg T.row.toArray,.slice none 0 0,i64 (mN s l.length)])∨
 (mN s l.length=0∧ ∃(T:TV) (pe:Option Addr) (ce:Nat),T.Is ((firstT s).ou l)∧T.at F∧eY F pe (((firstT s).ou l).events.flatMap lU.row)∧x= .tuple #[.agg T.row.toArray,.slice pe ((firstT s).ou l).events.length ce,i64 0])
theorem TL.KC (n:Nat)(s:TL):gB n s.Qv=[(n+4,⟨s.be,(s.events.flatMap lU.row).map EV.v,167,s.ce * 4⟩),(n+3,⟨s.bf,s.iY.map EV.v,69,s.xf⟩),(n+2,⟨s.bp,(s.polls.flatMap Poll.row).map EV.v,159,s.cp * 6⟩),(n+1,⟨s.bo,(s.dK.flatMap jh.row).map EV.v,76,s.co * 8⟩),(n,⟨some s.b0,s.cells (n+1) (n+2) (n+3) (n+4),140,14⟩)]:=by
 unfold gB gV TL.Qv;simp only[a9,cM,pX];rfl
theorem map_lt (n:Nat)(L:List Value): ∀e∈L.map EV.v,e.lt n:=fun e he=>by
 obtain⟨v,_,rfl⟩:=aG.1 he;trivial
theorem TL.RJ (s:TL): ∀id r,fR s.Qv id=some r→id<5∧ ∀e∈r.cells,e.lt 5:=uj ⟨⟨by decide,map_lt _ _⟩,⟨by decide,map_lt _ _⟩,⟨by decide,map_lt _ _⟩,⟨by decide,map_lt _ _⟩,⟨by decide,fun e he=>by
 simp only[aT,cZ,dE]at he;rcases he with rfl | rfl | rfl | rfl | rfl | rfl | rfl | rfl | rfl | rfl | rfl | rfl | rfl | rfl<;>first | trivial | (show _<5;decide)⟩,trivial⟩
attribute [local irreducible] vc dT gx fc fA gC gG gw fG Plain eu eR dH VS fq fx fD ju fe IntKind.wrap
attribute [local irreducible] dV gK eL jG jM
set_option maxRecDepth 100000
set_option maxHeartbeats 8000000
theorem Pg (s:lT)(a:Ak)(hw:s.wf)(d:K6)(hl:d.l.length≤4611686018427387904){F:Hp}(ha:s.at F a)(hd:d.at F):iu Tryz.prog F 15 [.agg (s.row a).toArray,.slice d.p d.l.length d.c] (TP s (d.l.map qP.d)):=by
 refine eu.drop (fU (N:=45) (rv:=[.cell 4 64,.tmp 5,.tmp 6]) eP mixed Tryz.func15 rfl rfl rfl rfl rfl ?_);(refine run ?_;repeat intro b);rename_i bS;revert b;intro bR;refine rJ rfl rfl rfl Xe rfl (NZ s a hw ha) ?_;rintro _ F1 _ hs1 (⟨h0,rfl,rfl⟩ | ⟨h0,T,rfl,hT,K9,rfl⟩)
 ·refine⟨0,.v (pair (.pointer none) (i64 (hZ s))),(fun id r h=>by cases h),rfl,?_⟩;have he:mN s (d.l.map qP.d).length=hZ s:=pH h0;(refine run ?_;repeat intro b);refine ez false ?_ (fun h=>by cases h) (fun _=>?_)
  ·refine dS ?_;have h9:(hZ s==0)=false:=by simpa using h0
   rw[h9];rfl
  (refine run ?_;repeat intro b);refine ez true ?_ (fun _=>?_) (fun h=>by cases h)
  ·refine dS ?_;simp[h0]
  (refine run ?_;repeat intro b);exact eM (VS.id ⟨_,rfl,.inl ⟨by rw[he];exact h0,⟨eE.none,jf.nil,[],none,0,[],none,0,NP.none⟩,⟨rfl,rfl,rfl,rfl,rfl⟩,⟨eE.kx _,eG _ _,(fun x hx=>by cases hx),eG _ _,NP.xr _⟩,by rw[he];rfl⟩⟩)
 refine⟨5,.v (pair (.pointer (some ⟨T.b0,0,none⟩)) (i64 0)),T.RJ,rfl,?_⟩;rw[TL.KC];have hlm:(d.l.map qP.d).length=d.l.length:=ab _;have he:=yT (n:=d.l.length) h0;(refine run ?_;repeat intro b);refine ez (decide (200<d.l.length)) ?_ (fun h2=>?_) (fun h2=>?_)
 ·refine dS ?_;simp[lL];omega
 ·rw[aZ (ar h2)]at he;(refine run ?_;repeat intro b);exact eM (VS.id ⟨_,rfl,.inl ⟨by rw[hlm,he];decide,⟨eE.none,jf.nil,[],none,0,[],none,0,NP.none⟩,⟨rfl,rfl,rfl,rfl,rfl⟩,⟨eE.kx _,eG _ _,(fun x hx=>by cases hx),eG _ _,NP.xr _⟩,by rw[hlm,he];rfl⟩⟩)
 have h2:=au h2;rw[aY h2]at he;have hi0:=tq hw h0;have hdd:=K6.eX hs1 hd;(refine run ?_;repeat intro b);refine eU (fun q:Nat×TL×Hp=>q.1≤d.l.length∧F1.sub q.2.2∧q.2.1.at q.2.2∧q.2.1.b0=T.b0∧q.2.1.t=(firstT s).ou ((d.l.map qP.d).take q.1))
  (fun q=>⟨[(4,.v (.pointer (some ⟨bR,0,none⟩))),(7,.v (.pointer (some ⟨T.b0,0,none⟩))),(27,.v (.slice d.p d.l.length d.c)),(28,.v (i64 (d.l.length:Nat))),(29,.v (i64 (q.1:Nat)))],q.2.2,q.2.1.yv 7 ⟨bR,(TV.row ⟨eE.none,jf.nil,[],none,0,[],none,0,NP.none⟩),64,11⟩,13⟩) (fun q=>d.l.length - q.1) (0,T,F1) ⟨az _,Hp.sub.refl _,K9,rfl,hT⟩
  (VS.trans (VS.env (env':=[(4,.v (.pointer (some ⟨bR,0,none⟩))),(7,.v (.pointer (some ⟨T.b0,0,none⟩))),(27,.v (.slice d.p d.l.length d.c)),(28,.v (i64 (d.l.length:Nat))),(29,.v (i64 0))]) (fN rfl rfl) (VS.mM (nx':=13) [(1,12),(6,11),(5,10),(4,9),(3,8),(2,7)] [4,7,27,28,29] (TL.yv 7 T ⟨bR,(TV.row ⟨eE.none,jf.nil,[],none,0,[],none,0,NP.none⟩),64,11⟩) (ff ⟨_,rfl,rfl,rfl,rfl,.inl ⟨rfl,fw (TV.row ⟨eE.none,jf.nil,[],none,0,[],none,0,NP.none⟩)⟩⟩ (dJ rfl rfl (dJ rfl rfl (dJ rfl rfl (dJ rfl rfl (dU rfl trivial)))))) rfl rfl rfl rfl rfl rfl rfl))) ?_
 rintro⟨k,s1,G⟩ ⟨k1,k2,k3,k4,k5⟩;dsimp only at k1 k2 k3 k4 k5 ⊢;have hok: ∀x∈d.l.map qP.d,x.ok:=fun x hx=>by obtain⟨y,hy,rfl⟩:=aG.1 hx;exact hd.ok y hy
 by_cases hlt:k<d.l.length
 ·obtain⟨o1,o2⟩:=eZ Cl (by decide) (dZ k2 hdd.row) k hlt;have hx:=qP.eX k2 (hdd.each _ (aj hlt));have hxo:=hd.ok _ (aj hlt);have Sr:k<(d.l.map qP.d).length:=by rw[ab];exact hlt
  have hst:=Bz (firstT s) Sr;rw[cD]at hst;obtain⟨i1,i2,i3⟩:=xA ((d.l.map qP.d).take k) (firstT s) hi0 fun x hx=>hok x (cV hx);rw[←k5]at i1 i2 i3 hst;rw[aw,ab]at i2 i3;have z1:(firstT s).events.length=0:=rfl;have z2:(firstT s).dX.length=0:=rfl;have z3:s1.t.events=s1.events:=rfl;have z4:s1.t.dX.length=s1.dX.length:=by simp[TL.t]
  rw[z1,z3]at i2;rw[z2,z4]at i3;generalize d.l[k]=x at *;(refine fW ?_;repeat intro b);refine gm rfl (by omega) ?_;(refine fW ?_;repeat intro b);refine dI rfl rfl rfl ⟨by omega,by omega,dO (dZ k2 hdd.row) (j:=k * 16) (by rw[dL Cl];omega)⟩ ?_;refine fy x.row rfl rfl rfl rfl rfl (by rw[ae];exact o1) (by rw[ae];exact o2) ?_;(refine fW ?_;repeat intro b);revert b;intro bd;refine fT (VS.env (env':=[(4,.v (.pointer (some ⟨bR,0,none⟩))),(7,.v (.pointer (some ⟨T.b0,0,none⟩))),(27,.v (.slice d.p d.l.length d.c)),(28,.v (i64 (d.l.length:Nat))),(29,.v (i64 (k:Nat))),(33,.loc 7 0),(34,.v (.agg x.row.toArray))]) (fN (by rw[←k4];rfl) rfl) ?_);refine om rfl rfl rfl Yc rfl (oy.at (Ug s1 ⟨bR,(TV.row ⟨eE.none,jf.nil,[],none,0,[],none,0,NP.none⟩),64,11⟩ x k3 i1 hx hxo (by omega) (by omega)) (nx2:=14) [(12,5),(11,4),(10,3),(9,2),(8,1),(7,0)] 7 (dJ rfl rfl (dJ rfl rfl (dJ rfl rfl (dJ rfl rfl (dJ rfl rfl (dU rfl trivial)))))) rfl rfl rfl rfl (by decide)) ?_;rintro _ G1 _ _ _ _ ⟨rfl,hs4,rfl,s4,oU,pT,hb4,rfl⟩;rw[TL.Fp];(refine fW ?_;repeat intro b);rw[dQ (by omega)];exact fE (k+1,s4,G1) 7 [(19,12),(18,11),(17,10),(16,9),(15,8),(14,7)] [4,7,27,28,29] (s4.yv 7 ⟨bR,(TV.row ⟨eE.none,jf.nil,[],none,0,[],none,0,NP.none⟩),64,11⟩) ⟨hlt,k2.trans hs4,pT,hb4.trans k4,oU.trans hst.symm⟩ (by simp only;omega) (aM _ _) (dJ rfl rfl (dJ rfl rfl (dJ rfl rfl (dJ rfl rfl (dJ rfl rfl (dU rfl trivial)))))) rfl rfl rfl rfl rfl rfl rfl
 have hge:k=d.l.length:=by omega
 subst hge;rw[an (by rw[ab];exact ah _)]at k5;(refine fW ?_;repeat intro b);refine gu rfl (by omega) ?_;(refine lY ?_;repeat intro b);refine mq (VS.env (env':=[(4,.loc 12 0),(7,.loc 7 0)]) (fN (by rw[←k4];rfl) rfl) ?_);refine fz [7] (by kernel_rfl) ?_;refine dR [0,1,2,3,4,5,6,7] (f':=3) (by kernel_rfl) rfl rfl rfl ?_;(refine run ?_;repeat intro b);refine dY 8 (by kernel_rfl) rfl rfl ?_;(refine run ?_;repeat intro b);refine eC (Hp.sub.refl _) (dM rfl) ?_;refine dY 9 (by kernel_rfl) rfl rfl ?_;(refine run ?_;repeat intro b);refine eC (Hp.sub.refl _) (dM rfl) ?_;refine dY 10 (by kernel_rfl) rfl rfl ?_;(refine run ?_;repeat intro b);refine eC (Hp.sub.refl _) (dM rfl) ?_;refine fk (by kernel_rfl) ?_;(refine run ?_;repeat intro b);have hpe:mN s (d.l.map qP.d).length=0:=by rw[hlm];exact he
 have hE:((firstT s).ou (d.l.map qP.d)).events=s1.events:=by rw[←k5];rfl
 refine eM (VS.iy [7,10] rfl (VS.IL (env':=[(6,.v (i64 0)),(5,.row 11 0 s1.events.length s1.ce),(4,.loc 12 0)]) 8 [6,5,4] rfl (eD _) (fun b=>?_) rfl (fun _=>rfl) rfl fun F5 hs5 FQ=>VS.IL (env':=[(6,.v (i64 0)),(5,.row 11 0 s1.events.length s1.ce),(4,.loc 12 0)]) 9 [6,5,4] rfl (eD _) (fun b=>?_) rfl (fun _=>rfl) rfl fun F6 hs6 Oy=>VS.shut (fun pp=>[(6,.v (i64 0)),(5,.v (.slice pp s1.events.length s1.ce)),(4,.loc 12 0)]) 11 [6,5,4] rfl (eD _) (fun _=>rfl) rfl (fun _=>rfl) rfl fun F7 p7 hs7 YJ=>?_))
 ·rw[fB];show some [(7+5,(⟨_,_,_,_⟩:kj)),(7+4,⟨_,mT b 8 (List.map EV.v _),_,_⟩),(7+2,⟨_,mT b 8 (List.map EV.v _),_,_⟩)]=_;rw[e9,e9];rfl
 ·rw[fB];show some [(7+5,(⟨_,_,_,_⟩:kj)),(7+4,⟨_,mT b 9 (List.map EV.v _),_,_⟩)]=_;rw[e9];rfl
 refine⟨_,rfl,.inr ⟨hpe,⟨s1.dF,s1.cl,s1.dK,s1.bo.map fun b=>⟨b,0,none⟩,s1.co,s1.polls,s1.bp.map fun b=>⟨b,0,none⟩,s1.cp,s1.fJ⟩,p7,s1.ce,?_,?_,?_,?_⟩⟩
 ·rw[←k5];exact⟨rfl,rfl,rfl,rfl,rfl⟩
 ·have h4:=TL.eX (hs5.trans (hs6.trans hs7)) k3;exact⟨h4.dF,dZ (hs6.trans hs7) FQ,h4.dK,dZ hs7 Oy,h4.fJ⟩
 ·rw[hE];exact YJ
 rw[hE];rfl
end Go.Proofs.YthbnddgjkonkdaaGreatDoor
