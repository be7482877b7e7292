/- A part of the proof. -/
import Derived.Test.YthbnddgjkonkdaaGreatDoorSetTownInv2
set_option linter.unusedVariables false
set_option linter.unusedSimpArgs false
namespace Go.Proofs.YthbnddgjkonkdaaGreatDoor
section
open Go.TR
theorem Az {n:NP}{e:Int}(h:rP n=e)(h0:e≠0)(F:Hp):Mw n (triple NP.none.v (.slice none 0 0) (i64 e)) F:=by
 subst h;exact⟨NP.none,[],none,0,rfl,NP.xr F,by decide,by decide,eG _ _,by simp,by rw[aY h0];rfl,by rw[aY h0];rfl,by rw[aY h0];rfl⟩
def qF (t:Int)(l:List LP):List LP:=l.filter fun x=> !decide (x.l.due=t)
def qK (t:Int)(l:List LP):List LP:=l.filter fun x=>decide (x.l.due=t)
theorem Ew (t:Int)(l:List LP):(qF t l).length≤l.length:=cG _ _
theorem Fw (t:Int)(l:List LP):(qK t l).length≤l.length:=cG _ _
theorem yS {t:Int}{l:List LP}{k:Nat}(h:k<l.length):qF t (l.take (k+1))=qF t (l.take k)++if l[k].l.due=t then [] else [l[k]]:=by
 unfold qF;rw[al h,List.filter_append];by_cases h1:l[k].l.due=t<;>simp[h1]
theorem yx {t:Int}{l:List LP}{k:Nat}(h:k<l.length):qK t (l.take (k+1))=qK t (l.take k)++if l[k].l.due=t then [l[k]] else []:=by
 unfold qK;rw[al h,List.filter_append];by_cases h1:l[k].l.due=t<;>simp[h1]
theorem uD (l:List LP)(x:LP):l.length+1=(l++[x]).length:=by simp
theorem Lr (t:Int)(l:List LP):qF t (l.take 0)=[]:=rfl
theorem N8 (t:Int)(l:List LP):qK t (l.take 0)=[]:=rfl
theorem MW {n:NP}{F:Hp}(h:rP n=0)(M:List LP)(hM:M.map LP.l=n.gz.map LP.l)(h60:M.length≤60)(ha: ∀x∈M,x.at F){pa pb:Option Addr}{ca cb:Nat}(h1:eY F pa ((qF (n.now+1) M).flatMap LP.row))(h2:eY F pb ((qK (n.now+1) M).flatMap LP.row)):
  Mw n (triple (.agg #[i64 (n.now+1),.slice pa (qF (n.now+1) M).length ca]) (.slice pb (qK (n.now+1) M).length cb) (i64 0)) F:=by
 have a1:=Ew (n.now+1) M;have a2:=Fw (n.now+1) M;refine⟨⟨n.now+1,qF (n.now+1) M,pa,ca⟩,qK (n.now+1) M,pb,cb,by rw[h],⟨h1,fun x hx=>ha x (cQ.1 hx).1⟩,by simp only;omega,by omega,h2,fun x hx=>ha x (cQ.1 hx).1,by rw[aZ h],?_,?_⟩
 ·rw[aZ h,←hM,List.filter_map];rfl
 rw[aZ h,←hM,List.filter_map];rfl
attribute [local irreducible] vc dT gx fc fA gC gG gw fG Plain eu eR dH VS fq fx fD ju fe IntKind.wrap
attribute [local irreducible] qF qK
set_option maxRecDepth 100000
set_option maxHeartbeats 4000000
theorem Gg (n:NP){F:Hp}(hl:n.gz.length≤4611686018427387904)(hw: ∀y∈n.gz,y.l.wf)(hn:n.at F):iu Tryz.prog F 175 [n.v] (Mw n):=by
 refine eu.drop (fU (N:=50) (rv:=[.cell 2 62,.tmp 3,.tmp 4]) eP mixed Tryz.func175 rfl rfl rfl rfl rfl ?_);(refine run ?_;repeat intro b);rename_i b0;generalize b=b1;refine dG _ rfl rfl rfl QH rfl (wQ n hl hn) ?_;(refine run ?_;repeat intro b);refine ez (decide (gD n≠0)) ?_ (fun h=>?_) (fun h=>?_)
 ·refine dS ?_;rw[ai];simp
 ·have h:=ar h;(refine run ?_;repeat intro b);exact eM (VS.id ⟨_,rfl,Az (by unfold rP;rw[aZ h]) h F⟩)
 have hz:gD n=0:=by have:=au h;omega
 obtain⟨z1,z2,z3⟩:=oR hz;have hE:rP n=if n.now=1000000000 then 9 else 0:=by unfold rP;rw[aY (by simpa using hz)]
 (refine run ?_;repeat intro b);refine ez (decide (n.now=1000000000)) ?_ (fun h=>?_) (fun h=>?_)
 ·refine dS ?_;rw[ai];simp
 ·rw[aZ (ar h)]at hE;(refine run ?_;repeat intro b);exact eM (VS.id ⟨_,rfl,Az hE (by decide) F⟩)
 rw[aY (au h)]at hE;have ew:IntKind.i64.wrap (n.now+1)=n.now+1:=wrap_i64 (by omega) (by omega);(refine run ?_;repeat intro b);generalize b=b2;refine fi rfl rfl rfl M6 rfl (JC n.gz z3 hw hn.gz hn.each) ?_;rintro _ F1 hF1 ⟨M,p1,c1,rfl,m1,m2,m3⟩;have hM:M.length=n.gz.length:=by simpa using a8 List.length m2
 rw[ew,←hM];(refine run ?_;repeat intro b);refine eU (fun q:Nat×(List LP×Option Nat×Nat)×(List LP×Option Nat×Nat)=>q.1≤M.length∧q.2.1.1=qF (n.now+1) (M.take q.1)∧q.2.2.1=qK (n.now+1) (M.take q.1)∧(q.2.1.2.1=none→q.2.1.1.length=0∧q.2.1.2.2=0)∧q.2.1.1.length≤q.2.1.2.2∧(q.2.2.2.1=none→q.2.2.1.length=0∧q.2.2.2.2=0)∧q.2.2.1.length≤q.2.2.2.2)
  (fun q=>⟨[(7,.row 3 0 q.2.2.1.length q.2.2.2.2),(2,.loc 1 0),(6,.loc 2 0),(26,.v (.slice p1 M.length c1)),(27,.v (i64 (M.length:Nat))),(28,.v (i64 (q.1:Nat)))],F1,[(4,⟨q.2.1.2.1,(q.2.1.1.flatMap LP.row).map .v,71,q.2.1.2.2 * 12⟩),(3,⟨q.2.2.2.1,(q.2.2.1.flatMap LP.row).map .v,71,q.2.2.2.2 * 12⟩),(2,⟨some b2,[.v (i64 (n.now+1)),.row 4 0 q.2.1.1.length q.2.1.2.2],62,2⟩),(1,⟨some b1,[.v (i64 0),.v (.slice none 0 0)],62,2⟩)],5⟩) (fun q=>M.length - q.1) (0,([],none,0),([],none,0)) ⟨az _,(Lr _ _).symm,(N8 _ _).symm,fun _=>⟨rfl,rfl⟩,ah _,fun _=>⟨rfl,rfl⟩,ah _⟩
  (VS.nT 7 71 [2,6,26,27,28] rfl rfl (VS.l6 71 (VS.l5 2 [.v (i64 (n.now+1)),.row 4 0 0 0] rfl ⟨⟨trivial,rfl⟩,⟨(by decide:4<5),rfl⟩,trivial⟩ rfl (VS.iy [0] rfl (VS.id rfl))))) ?_
 rintro⟨k,⟨A,ba,ca⟩,⟨B,bb,cb⟩⟩ ⟨h1,h2,h3,h4,h5,h6,h7⟩;dsimp only at h1 h2 h3 h4 h5 h6 h7 ⊢;have la:=Ew (n.now+1) (M.take k);have lb:=Fw (n.now+1) (M.take k);rw[←h2,aw]at la;rw[←h3,aw]at lb;by_cases hlt:k<M.length
 ·obtain⟨o1,o2⟩:=eZ je (by decide) m1 k hlt;have s1:=yS (t:=n.now+1) hlt;have s2:=yx (t:=n.now+1) hlt;rw[←h2]at s1;rw[←h3]at s2;generalize M[k]=x at o2 s1 s2;(refine run ?_;repeat intro b);refine gm rfl (by omega) ?_;(refine run ?_;repeat intro b);refine dI rfl rfl rfl ⟨by omega,by omega,dO m1 (j:=k * 12) (by rw[dL je];omega)⟩ ?_;refine fy x.row rfl rfl rfl rfl rfl (by rw[ae];exact o1) (by rw[ae];exact o2) ?_;(refine run ?_;repeat intro b);refine ez (decide (x.l.due=n.now+1)) ?_ (fun h=>?_) (fun h=>?_)
  ·refine dS ?_;rw[ai];simp
  ·rw[aZ (ar h),bT]at s1;rw[aZ (ar h)]at s2;(refine run ?_;repeat intro b);refine fv rfl rfl rfl rfl rfl rfl rfl rfl (fb rfl rfl) (gy _ (qe [x])) h6 h7 rfl (by rw[ab,dL je];exact ah _) (by show _ * 152≤_;omega) (fun h=>by cases h) (fun _ b3 c3 hc3=>?_);(refine run ?_;repeat intro b);have hcells:=nU B x B.length rfl;rw[dQ (by omega)];exact fE (k+1,(A,ba,ca),(B++[x],some b3,c3)) 3 [(4,4),(7,3),(2,2),(1,1)] [7,2,6,26,27,28] [(4,⟨ba,(A.flatMap LP.row).map .v,71,ca * 12⟩),(3,⟨some b3,((B++[x]).flatMap LP.row).map .v,71,c3 * 12⟩),(2,⟨some b2,[.v (i64 (n.now+1)),.row 4 0 A.length ca],62,2⟩),(1,⟨some b1,[.v (i64 0),.v (.slice none 0 0)],62,2⟩)]
    ⟨hlt,s1.symm,s2.symm,h4,h5,(fun h=>by cases h),by rw[ag];exact hc3⟩ (by simp only;omega) (aM _ _)
    (ff ⟨_,rfl,rfl,rfl,rfl,.inl ⟨rfl,fun e he=>fw _ e he⟩⟩ (ff ⟨_,rfl,rfl,rfl,rfl,.inl ⟨hcells.symm,fun e he=>fw _ e (hcells ▸ he)⟩⟩ (dU rfl (dU rfl trivial)))) rfl rfl rfl rfl rfl rfl (a8 (fun m=>(⟨[(7,.row 3 0 m c3),(2,.loc 1 0),(6,.loc 2 0),(26,.v (.slice p1 M.length c1)),(27,.v (i64 (M.length:Nat))),(28,.v (i64 ((k+1:Nat):Nat)))],F1,[(4,⟨ba,(A.flatMap LP.row).map .v,71,ca * 12⟩),(3,⟨some b3,((B++[x]).flatMap LP.row).map .v,71,c3 * 12⟩),(2,⟨some b2,[.v (i64 (n.now+1)),.row 4 0 A.length ca],62,2⟩),(1,⟨some b1,[.v (i64 0),.v (.slice none 0 0)],62,2⟩)],5⟩:St)) (uD B x))
  rw[aY (au h)]at s1;rw[aY (au h),bT]at s2;(refine run ?_;repeat intro b);refine fv rfl rfl rfl rfl rfl rfl rfl rfl (fb rfl rfl) (gy _ (qe [x])) h4 h5 rfl (by rw[ab,dL je];exact ah _) (by show _ * 152≤_;omega) (fun h=>by cases h) (fun _ b3 c3 hc3=>?_);(refine run ?_;repeat intro b);have hcells:=nU A x A.length rfl;rw[dQ (by omega)];exact fE (k+1,(A++[x],some b3,c3),(B,bb,cb)) 3 [(7,4),(3,3),(2,2),(1,1)] [7,2,6,26,27,28] [(4,⟨some b3,((A++[x]).flatMap LP.row).map .v,71,c3 * 12⟩),(3,⟨bb,(B.flatMap LP.row).map .v,71,cb * 12⟩),(2,⟨some b2,[.v (i64 (n.now+1)),.row 4 0 (A.length+1) c3],62,2⟩),(1,⟨some b1,[.v (i64 0),.v (.slice none 0 0)],62,2⟩)]
   ⟨hlt,s1.symm,s2.symm,(fun h=>by cases h),by rw[ag];exact hc3,h6,h7⟩ (by simp only;omega) (aM _ _)
   (ff ⟨_,rfl,rfl,rfl,rfl,.inl ⟨hcells.symm,fun e he=>fw _ e (hcells ▸ he)⟩⟩ (ff ⟨_,rfl,rfl,rfl,rfl,.inl ⟨rfl,fun e he=>fw _ e he⟩⟩ (dU rfl (dU rfl trivial)))) rfl rfl rfl rfl rfl rfl (a8 (fun m=>(⟨[(7,.row 3 0 B.length cb),(2,.loc 1 0),(6,.loc 2 0),(26,.v (.slice p1 M.length c1)),(27,.v (i64 (M.length:Nat))),(28,.v (i64 ((k+1:Nat):Nat)))],F1,[(4,⟨some b3,((A++[x]).flatMap LP.row).map .v,71,c3 * 12⟩),(3,⟨bb,(B.flatMap LP.row).map .v,71,cb * 12⟩),(2,⟨some b2,[.v (i64 (n.now+1)),.row 4 0 m c3],62,2⟩),(1,⟨some b1,[.v (i64 0),.v (.slice none 0 0)],62,2⟩)],5⟩:St)) (uD A x))
 have hge:k=M.length:=by omega
 subst hge;rw[aD]at h2 h3;(refine run ?_;repeat intro b);refine gu rfl (by omega) ?_;(refine run ?_;repeat intro b);have hend:=fun (F':Hp) (hs:F1.sub F') (pa pb:Option Addr)=>MW (F:=F') (pa:=pa) (pb:=pb) (ca:=ca) (cb:=cb) hE M m2 (by omega) (fun x hx=>LP.eX hs (m3 x hx));rw[←h2,←h3]at hend;cases bb with
 | none=>
  have eB:B=[]:=aq (h6 rfl).1;subst eB;cases ba with
  | none=>
   have eA:A=[]:=aq (h4 rfl).1;subst eA;exact eM (VS.id ⟨_,rfl,hend F1 (Hp.sub.refl _) _ _ (eG _ _) (eG _ _)⟩)
  | some b4=>
   exact eM (VS.freeze 4 [2,3,4] rfl (eD _) rfl rfl fun F2 hs2 hf2=>VS.id ⟨_,rfl,hend F2 hs2 _ _ hf2 (eG _ _)⟩)
 | some b5=>
  cases ba with
  | none=>
   have eA:A=[]:=aq (h4 rfl).1;subst eA;exact eM (VS.freeze 3 [2,3,4] rfl (eD _) rfl rfl fun F2 hs2 hf2=>VS.id ⟨_,rfl,hend F2 hs2 _ _ (eG _ _) hf2⟩)
  | some b4=>
   exact eM (VS.freeze 3 [2,3,4] rfl (eD _) rfl rfl fun F2 hs2 hf2=>VS.freeze 4 [2,3,4] rfl (by rw[e9];exact eD _) rfl rfl fun F3 hs3 hf3=>VS.id ⟨_,rfl,hend F3 (hs2.trans hs3) _ _ hf3 (dZ hs3 hf2)⟩)
end
section
open Go.TR
@[reducible] def TL.yv (n:Nat) (s:TL) (z:Fr):RL:=[(n+5,⟨some z.b,z.cells.map EV.v,z.ty,z.cap⟩),(n+4,⟨s.be,(s.events.flatMap lU.row).map EV.v,167,s.ce * 4⟩),(n+3,⟨s.bf,s.iY.map EV.v,69,s.xf⟩),(n+2,⟨s.bp,(s.polls.flatMap Poll.row).map EV.v,159,s.cp * 6⟩),(n+1,⟨s.bo,(s.dK.flatMap jh.row).map EV.v,76,s.co * 8⟩),(n,⟨some s.b0,s.cells (n+1) (n+2) (n+3) (n+4),140,14⟩)]
theorem TL.Fp (n:Nat)(s:TL)(z:Fr):gB n (s.rs z)=s.yv n z:=TL.gT n s z
attribute [local irreducible] vc dT gx fc fA gC gG gw fG Plain eu eR dH VS fq fx fD ju fe IntKind.wrap
set_option maxRecDepth 100000
set_option maxHeartbeats 4000000
theorem Pb (s:TL)(z:Fr){n:Nat}{F:Hp}(h:s.at F)(hi:s.t.Inv n)(hev:s.events.length≤900000):oy s z F 115 [] s.t.tick:=by
 refine eR.norm 6 (ah 6) (iQ (N:=79) (rv:=[]) eP mixed Tryz.func115 rfl rfl rfl rfl rfl ?_);have hg:Good s.dF:=hi.iA;have ha: ∀a∈s.dF.queue.wait,a.wf:=hi.asks;have hcw:=oB hg ha;have hct:=hg.times;obtain⟨n1,n2,n3,n4,n5,n6,n7⟩:=hi.fJ rfl;have Wp:s.fJ.now=s.dF.now:=hi.now;(refine fW ?_;repeat intro b);refine fi rfl rfl rfl Xt rfl (Cw s.dF s.cl hcw h.dF) ?_;rintro _ F1 hs1 ⟨lc,rfl,hlc⟩;(refine fW ?_;repeat intro b);revert b;intro bC;refine fM (by kernel_rfl) ?_;(refine fW ?_;repeat intro b);refine ez (gn s.dF) ?_ (fun hc=>?_) (fun hc=>?_)
 ·refine dS ?_;cases hc:gn s.dF with
  | true=>rw[(nh hg.fault hc).1];simp
  | false=>rw[Em hg hc];simp;omega
 ·have ek:s.t.tick=s.t:=by unfold fm.tick;rw[aZ];exact hc
  (refine fW ?_;repeat intro b);refine Ba (iJ (s':=s) 7 [(5,12),(4,11),(3,10),(2,9),(1,8),(0,7)] ?_ rfl rfl rfl rfl hs1 ek.symm (TL.eX hs1 h) rfl);rw[TL.gT];exact (dJ rfl rfl (dJ rfl rfl (dJ rfl rfl (dJ rfl rfl (dJ rfl rfl (dU rfl trivial))))))
 have ek:s.t.tick=(s.t.next.comes s.t.due).asks s.t.dK.length:=by unfold fm.tick;rw[aY];rw[show s.t.dF=s.dF from rfl,hc];decide
 have hcn:s.dF.now≠1000000000:=by
  unfold gn at hc;simp only[aQ,aU]at hc;exact hc.2
 have hE:rP s.fJ=0:=by unfold rP;rw[aY (by omega),aY (by omega)]
 (refine fW ?_;repeat intro b);refine fi rfl rfl rfl TX rfl (Gg s.fJ (by omega) n3 (NP.eX hs1 h.fJ)) ?_;rintro _ F2 hs2 ⟨y,l,pl,cl,rfl,y1,y2,y3,y4,y5,y6,y7,y8⟩;rw[aZ hE]at y6 y7 y8;(refine fW ?_;repeat intro b);revert b;intro bN;have et:({s with dF:=fP s.dF,cl:=lc,fJ:=y}:TL).t=s.t.next:=by
  simp only[TL.t,fm.next,y6,y7];rfl
 have ed:s.t.due=l.map LP.l:=y8.symm;have hi1:s.t.next.Inv n:=hi.next hc;have hdl:=hi.due;have Sq:=hi.n4;have h2:=TL.eX (hs1.trans hs2) h;have Wx:({s with dF:=fP s.dF,cl:=lc,fJ:=y}:TL).at F2:={ h2 with dF:=eE.eX hs2 hlc,fJ:=y1 };refine eU (fun q:Nat×TL×Hp=>q.1≤l.length∧F2.sub q.2.2∧q.2.1.at q.2.2∧q.2.1.b0=s.b0∧q.2.1.t=s.t.next.comes ((l.map LP.l).take q.1))
  (fun q=>⟨[(0,.v (.pointer (some ⟨s.b0,0,none⟩))),(50,.v (.slice pl l.length cl)),(51,.v (i64 (l.length:Nat))),(52,.v (i64 (q.1:Nat)))],q.2.2,q.2.1.yv 8 z,14⟩) (fun q=>l.length - q.1) (0,{s with dF:=fP s.dF,cl:=lc,fJ:=y},F2) ⟨az _,Hp.sub.refl _,Wx,rfl,et⟩
  (VS.trans (VS.env (env':=[(0,.v (.pointer (some ⟨s.b0,0,none⟩))),(50,.v (.slice pl l.length cl)),(51,.v (i64 (l.length:Nat))),(52,.v (i64 0))]) (fN rfl rfl) (VS.mM (nx':=14) [(5,13),(4,12),(3,11),(2,10),(1,9),(0,8)] [0,50,51,52] (TL.yv 8 {s with dF:=fP s.dF,cl:=lc,fJ:=y} z) (dJ rfl rfl (dJ rfl rfl (dJ rfl rfl (dJ rfl rfl (dJ rfl rfl (dU rfl trivial)))))) rfl rfl rfl rfl rfl rfl rfl))) ?_
 rintro⟨k,s1,G⟩ ⟨k1,k2,k3,k4,k5⟩;dsimp only at k1 k2 k3 k4 k5 ⊢;by_cases hlt:k<l.length
 ·obtain⟨o1,o2⟩:=eZ je (by decide) (dZ k2 y4) k hlt;have hx:=LP.eX k2 (y5 _ (aj hlt));have hlm:k<(l.map LP.l).length:=by rw[ab];exact hlt
  have hst:=zi s.t.next hlm;rw[cD]at hst;have hlo:H9 l[k].l n:=hdl.2 _ (by rw[ed];exact cR (aj hlt));have hI:s1.t.Inv n:=by rw[k5];exact hi1.comes fun x hx=>hdl.2 x (by rw[ed];exact cV hx)
  have hE1:s1.events.length≤1000000:=by
   have h1:=pP ((l.map LP.l).take k) s.t.next;rw[←k5,aw,ab]at h1;have h3:s1.t.events=s1.events:=rfl;have h4:s.t.next.events=s.events:=rfl;have h5:=hdl.1;rw[ed,ab]at h5;rw[h3,h4]at h1;omega
  obtain⟨m1,m2,m3,m4,m5,m6,m7⟩:=hI.fJ rfl;have hg1:Good s1.dF:=hI.iA;have hw1:=oB hg1 hI.asks;have aan:=hg1.times;generalize l[k]=x at *;(refine fW ?_;repeat intro b);refine gm rfl (by omega) ?_;(refine fW ?_;repeat intro b);refine dI rfl rfl rfl ⟨by omega,by omega,dO (dZ k2 y4) (j:=k * 12) (by rw[dL je];omega)⟩ ?_;refine fy x.row rfl rfl rfl rfl rfl (by rw[ae];exact o1) (by rw[ae];exact o2) ?_;(refine fW ?_;repeat intro b);refine ez (decide (x.l.iM<0)) rfl (fun hneg=>?_) (fun hneg=>?_)
  ·have hneg:=ar hneg;have wr:s1.t.owned x.l.from_=true→(s1.t.pD x.l).wf:=fun ho=>(hI.pD x.l ho).wf;(refine fW ?_;repeat intro b);refine fT (VS.env (env':=[(0,.v (.pointer (some ⟨s.b0,0,none⟩))),(50,.v (.slice pl l.length cl)),(51,.v (i64 (l.length:Nat))),(52,.v (i64 (k:Nat))),(59,.loc 8 0),(60,.v (.agg x.row.toArray))]) (fN (by rw[←k4];rfl) rfl) ?_);refine om rfl rfl rfl T9 rfl (oy.at (Jj s1 z x k3 hx hlo.wf (by omega) m6 hw1 hlo.since hI.reach wr m3 m2 m1 m7) (nx2:=15) [(13,5),(12,4),(11,3),(10,2),(9,1),(8,0)] 8 (dJ rfl rfl (dJ rfl rfl (dJ rfl rfl (dJ rfl rfl (dJ rfl rfl (dU rfl trivial)))))) rfl rfl rfl rfl (by decide)) ?_;rintro _ G1 _ _ _ _ ⟨rfl,hs4,rfl,s4,oU,pT,hb4,rfl⟩;rw[TL.Fp];(refine fW ?_;repeat intro b);rw[dQ (by omega)];exact fE (k+1,s4,G1) 8 [(20,13),(19,12),(18,11),(17,10),(16,9),(15,8)] [0,50,51,52] (s4.yv 8 z) ⟨hlt,k2.trans hs4,pT,hb4.trans k4,by rw[oU,hst,k5];unfold fm.mL;rw[aZ hneg]⟩ (by simp only;omega) (aM _ _) (dJ rfl rfl (dJ rfl rfl (dJ rfl rfl (dJ rfl rfl (dJ rfl rfl (dU rfl trivial)))))) rfl rfl rfl rfl rfl rfl rfl
  have hneg:=au hneg;have hto:=hlo.iM;(refine fW ?_;repeat intro b);refine fT (VS.env (env':=[(0,.v (.pointer (some ⟨s.b0,0,none⟩))),(50,.v (.slice pl l.length cl)),(51,.v (i64 (l.length:Nat))),(52,.v (i64 (k:Nat))),(62,.loc 8 0),(63,.v (.agg x.row.toArray))]) (fN (by rw[←k4];rfl) rfl) ?_);refine om rfl rfl rfl VX rfl (oy.at (RR s1 z x k3 hx hlo.wf (by omega) (by omega) (by omega) m6 hI.jN ⟨by omega,by omega⟩ hE1) (nx2:=15) [(13,5),(12,4),(11,3),(10,2),(9,1),(8,0)] 8 (dJ rfl rfl (dJ rfl rfl (dJ rfl rfl (dJ rfl rfl (dJ rfl rfl (dU rfl trivial)))))) rfl rfl rfl rfl (by decide)) ?_;rintro _ G1 _ _ _ _ ⟨rfl,hs4,rfl,s4,oU,pT,hb4,rfl⟩;rw[TL.Fp];(refine fW ?_;repeat intro b);rw[dQ (by omega)];exact fE (k+1,s4,G1) 8 [(20,13),(19,12),(18,11),(17,10),(16,9),(15,8)] [0,50,51,52] (s4.yv 8 z) ⟨hlt,k2.trans hs4,pT,hb4.trans k4,by rw[oU,hst,k5];unfold fm.mL;rw[aY hneg]⟩ (by simp only;omega) (aM _ _) (dJ rfl rfl (dJ rfl rfl (dJ rfl rfl (dJ rfl rfl (dJ rfl rfl (dU rfl trivial)))))) rfl rfl rfl rfl rfl rfl rfl
 have hkl:k=l.length:=by omega
 subst hkl;rw[an (by rw[ab];exact ah _),←ed]at k5;(refine fW ?_;repeat intro b);refine gu rfl (by omega) ?_;(refine lY ?_;repeat intro b);refine mq (VS.env (env':=[(0,.loc 8 0)]) (fN (by rw[←k4];rfl) rfl) ?_);have hI:s1.t.Inv n:=by rw[k5];exact hi1.comes hdl.2
 have hE1:s1.events.length≤900060:=by
  have h1:=pP s.t.due s.t.next;rw[←k5]at h1;have h3:s1.t.events=s1.events:=rfl;have h4:s.t.next.events=s.events:=rfl;have h5:=hdl.1;rw[h3,h4]at h1;omega
 have ho1:=(hI.fJ rfl).2.2.2.1;have ek2:s.t.tick=s1.t.asks n:=by rw[ek,k5,hi.dK]
 (refine fW ?_;repeat intro b);refine eU (fun q:Nat×TL×Hp=>q.1≤n∧G.sub q.2.2∧q.2.1.at q.2.2∧q.2.1.b0=s.b0∧q.2.1.t=s1.t.asks q.1)
  (fun q=>⟨[(0,.v (.pointer (some ⟨s.b0,0,none⟩))),(71,.v (i64 (s1.dK.length:Nat))),(72,.v (i64 (q.1:Nat)))],q.2.2,q.2.1.yv 14 z,20⟩) (fun q=>n - q.1) (0,s1,G) ⟨az _,Hp.sub.refl _,k3,k4,rfl⟩
  (VS.trans (VS.env (env':=[(0,.v (.pointer (some ⟨s.b0,0,none⟩))),(71,.v (i64 (s1.dK.length:Nat))),(72,.v (i64 0))]) ⟨⟨_,_,rfl,by rw[←k4];rfl,rfl⟩,⟨_,_,rfl,rfl,rfl⟩,⟨_,_,rfl,rfl,rfl⟩,trivial⟩ (VS.mM (nx':=20) [(13,19),(12,18),(11,17),(10,16),(9,15),(8,14)] [0,71,72] (TL.yv 14 s1 z) (dJ rfl rfl (dJ rfl rfl (dJ rfl rfl (dJ rfl rfl (dJ rfl rfl (dU rfl trivial)))))) rfl rfl rfl rfl rfl rfl rfl))) ?_
 rintro⟨k,s2,G2⟩ ⟨j1,j2,j3,j4,j5⟩;dsimp only at j1 j2 j3 j4 j5 ⊢;(refine fW ?_;repeat intro b);by_cases hlt:k<n
 ·have hI2:s2.t.Inv n:=by rw[j5];exact hI.Ih k j1
  have hE2:s2.events.length≤1000000:=by
   have h1:=xq s1.t k;rw[←j5]at h1;have h3:s1.t.events=s1.events:=rfl;have h4:s2.t.events=s2.events:=rfl;rw[h3,h4]at h1;omega
  obtain⟨m1,m2,m3,m4,m5,m6,m7⟩:=hI2.fJ rfl;have hko:k<s2.dK.length:=by omega
  have hkp:k<s2.t.polls.length:=by rw[hI2.polls];exact hlt
  have W1:=Head.uR (iT (m6 _ (aj hko)).2).2.1;have Og:=hI2.iA.times;have hsb:(s2.t.pl k).lC s2.dF.now=0→((s2.t.pl k).mP s2.dF.now).bad=false:=fun h=>by
   have e1:s2.t.pl k=s2.t.polls[k]:=by unfold fm.pl;simp[List.getD,hkp]
   rw[e1]at h ⊢;exact IQ (hI2.jN _ (aj hkp)) ⟨Og.2.2.2.2.1,Og.2.2.2.2.2⟩ h
  refine gm rfl (by omega) ?_;(refine fW ?_;repeat intro b);refine fT (VS.env (env':=[(0,.v (.pointer (some ⟨s.b0,0,none⟩))),(71,.v (i64 (s1.dK.length:Nat))),(72,.v (i64 (k:Nat))),(75,.loc 14 0),(76,.v (i64 (k:Nat)))]) (fN (by rw[←j4];rfl) rfl) ?_);refine om rfl rfl rfl T8 rfl (oy.at (RB s2 z k j3 hko (by omega) (by omega) ⟨W1.1,by omega⟩ hI2.jN hsb hE2 m3 m2 m1 m7) (nx2:=20) [(19,5),(18,4),(17,3),(16,2),(15,1),(14,0)] 14 (dJ rfl rfl (dJ rfl rfl (dJ rfl rfl (dJ rfl rfl (dJ rfl rfl (dU rfl trivial)))))) rfl rfl rfl rfl (by decide)) ?_;rintro _ G3 _ _ _ _ ⟨rfl,hs4,rfl,s4,oU,pT,hb4,rfl⟩;rw[TL.Fp];(refine fW ?_;repeat intro b);rw[dQ (by omega)];exact fE (k+1,s4,G3) 14 [(25,19),(24,18),(23,17),(22,16),(21,15),(20,14)] [0,71,72] (s4.yv 14 z) ⟨hlt,j2.trans hs4,pT,hb4.trans j4,by rw[oU,nG,j5]⟩ (by simp only;omega) (aM _ _) (dJ rfl rfl (dJ rfl rfl (dJ rfl rfl (dJ rfl rfl (dJ rfl rfl (dU rfl trivial)))))) rfl rfl rfl rfl rfl rfl rfl
 have hkn:k=n:=by omega
 subst hkn;refine gu rfl (by omega) ?_;(refine fW ?_;repeat intro b);exact jR (VS.id ⟨_,rfl,14,s2.rs z,6,.v (.tuple #[]),(TL.Fp 14 s2 z).symm,rfl,rfl,rfl,rfl,hs1.trans (hs2.trans (k2.trans j2)),s2,j5.trans ek2.symm,j3,j4,rfl⟩)
end
section
open Go.TR
theorem uI: ∀{l:List EV}{L:List Value},(∀e∈l,e∈L.map EV.v)→∃l':List Value,l=l'.map EV.v
 | [],_,_=>⟨[],rfl⟩
 | e::l,L,h=>by
  obtain⟨v,_,rfl⟩:=aG.1 (h e cP);obtain⟨l',rfl⟩:=uI (l:=l) (L:=L) fun x hx=>h x (cO _ hx);exact⟨v::l',rfl⟩
theorem TL.xh {s:TL}{F:Hp}(h:s.at F){f:ot}(hf:f.at F)(pre:List Value){b c' x':Nat}(hc:s.dX.length+1≤c')(hx:pre.length+c'≤x'):({s with dX:=s.dX++[f],iY:=pre++(s.dX.map ot.v++[f.v]),bf:=some b,fo:=pre.length,cf:=c',xf:=x'}:TL).at F:=by
 refine { h with dX:=fun x hx=>?_,xb:=?_,xM:=?_,zp:=hx,Pw:=?_,vM:=fun hn=>by cases hn }
 ·rcases aK.1 hx with hx | hx
  ·exact h.dX x hx
  rw[aB.1 hx];exact hf
 ·show ((pre++(s.dX.map ot.v++[f.v])).drop pre.length).take (s.dX++[f]).length=(s.dX++[f]).map ot.v;rw[List.drop_left,an (by simp),aF];rfl
 ·show pre.length+(s.dX++[f]).length≤(pre++(s.dX.map ot.v++[f.v])).length;simp
 show (s.dX++[f]).length≤c';simpa using hc
attribute [local irreducible] vc dT gx fc fA gC gG gw fG Plain eu eR dH VS fq fx fD ju fe IntKind.wrap
set_option maxRecDepth 100000
theorem Jk (cs:List Value)(n:Nat){p:Option Addr}{c:Nat}{F:Hp}(hl:cs.length=n * 1)(hf:eY F p cs)(h1: ∀x∈cs,Go.TR.one (.v x)=true)(hb:n * 8≤140737488355328):eu Tryz.prog F 112 [.slice p n c] (fun x _ new=>ml 3 1 cs n x new):=by
 refine fU (N:=8) (rv:=[.tmp 2]) eP mixed Tryz.func112 rfl rfl rfl rfl rfl ?_;(refine run ?_;repeat intro b);refine p9 (b:=p.isNone) eP rfl rfl rfl ?_;cases p with
 | none=>
  have hn:n=0:=by
   rcases dh n with h | h
   ·exact h
   have:=dO hf (j:=0) (by rw[hl];omega);cases this
  subst hn;(refine run ?_;repeat intro b);refine eM (VS.id ⟨_,rfl,.inl ⟨rfl,rfl,none,rfl⟩⟩)
 | some a=>
  (refine run ?_;repeat intro b);refine fv rfl rfl rfl rfl rfl rfl rfl rfl (iV hl hf) (gy _ h1) (fun h=>by cases h) (ah 0) rfl (az _) (by show (0+n) * 8≤_;omega) (fun hn=>?_) (fun hn b2 c2 hc2=>?_)
  ·subst hn;(refine run ?_;repeat intro b);refine eM ?_;refine VS.freeze 0 [2] rfl (cs:=[]) rfl rfl rfl fun F' hs1 hf1=>VS.id ⟨_,rfl,.inl ⟨rfl,rfl,_,rfl⟩⟩
  (refine run ?_;repeat intro b);simp only[aP]at hc2 ⊢;refine mI (qN.mM (nx':=1) [(1,0)] [2] [(0,⟨some b2,cs.map EV.v,3,c2 * 1⟩)] (ff ⟨_,rfl,rfl,rfl,rfl,.inl ⟨rfl,fun e he=>fw _ e he⟩⟩ trivial) rfl rfl rfl rfl rfl rfl ⟨_,rfl,.inr ⟨hn,b2,c2,hc2,rfl,rfl⟩⟩)
set_option maxHeartbeats 4000000
theorem Ug (s:TL)(z:Fr)(d:qP){n:Nat}{F:Hp}(h:s.at F)(hi:s.t.Inv n)(hd:d.at F)(hk:d.d.ok)(hev:s.events.length≤900000)(hfl:s.dX.length≤1000000):oy s z F 53 [.agg d.row.toArray] (s.t.pU d.d):=by
 refine eR.norm 6 (ah 6) (iQ (N:=61) (rv:=[]) eP mixed Tryz.func53 rfl rfl rfl rfl rfl ?_);obtain⟨n1,n2,n3,n4,n5,n6,n7⟩:=hi.fJ rfl;have Sq:=hi.n4;have hcw:=oB hi.iA hi.asks;have e0:d.d.kind=d.kind:=rfl;(refine fW ?_;repeat intro b);revert b;intro bd;refine ez (decide (d.kind=1)) rfl (fun h1=>?_) (fun h1=>?_)
 ·have h1:=ar h1;have ek:s.t.pU d.d=s.t.want d.iZ d.value:=by unfold fm.pU;rw[aZ (by rw[e0];exact h1)];rfl
  (refine fW ?_;repeat intro b);refine om rfl rfl rfl Uw rfl (oy.at (Pj s z d h hd (by omega) n6 hk.value hcw (by omega)) (nx2:=7) [(5,5),(4,4),(3,3),(2,2),(1,1),(0,0)] 0 (dJ rfl rfl (dJ rfl rfl (dJ rfl rfl (dJ rfl rfl (dJ rfl rfl (dU rfl trivial)))))) rfl rfl rfl rfl (by decide)) ?_;rintro _ F4 _ _ _ _ ⟨rfl,hs4,rfl,s4,oU,pT,hb4,rfl⟩;(refine fW ?_;repeat intro b);exact jR (VS.id ⟨_,rfl,7,s4.rs z,6,.v (.tuple #[]),rfl,rfl,rfl,rfl,rfl,hs4,s4,oU.trans ek.symm,pT,hb4,rfl⟩)
 have h1:=au h1;(refine fW ?_;repeat intro b);refine ez (decide (d.kind=2)) rfl (fun h2=>?_) (fun h2=>?_)
 ·have h2:=ar h2;have ek:s.t.pU d.d={ s.t with dX:=s.t.dX++[d.f.f] }:=by unfold fm.pU;rw[e0,aY h1,aZ h2];rfl
  have hfn:=hk.dX;have hfn:d.f.f.length≤17592186044416:=hfn;have hcl:=fun F2 (hs:F.sub F2)=>eu.MH (fun h=>by rw[aq h];rfl) (Jk (c:=d.f.c) (d.f.f.map i64) d.f.f.length (by rw[ab,aA]) (dZ hs hd.f) (fun v hv=>by obtain⟨m,_,rfl⟩:=aG.1 hv;rfl) (by omega));(refine fW ?_;repeat intro b);refine fz [6] (by kernel_rfl) ?_;refine dR [0,1,2,3,5,6] (f':=7) (by kernel_rfl) rfl rfl rfl ?_;(refine run ?_;repeat intro b);refine jC 4 7 (by kernel_rfl) rfl rfl rfl ?_ ?_
  ·(refine run ?_;repeat intro b);refine eC (Hp.sub.refl _) (dM rfl) ?_;refine dY 7 (by kernel_rfl) rfl rfl ?_;refine fi rfl rfl rfl Qm rfl (hcl F (Hp.sub.refl _)) ?_;rintro _ F1 hs1 ⟨p1,c1,rfl,_,hf1⟩;(refine run ?_;repeat intro b);refine eC hs1 (dM rfl) ?_;refine dY 8 (by kernel_rfl) rfl rfl ?_;(refine run ?_;repeat intro b);refine eC (Hp.sub.refl _) (dM rfl) ?_;refine dY 9 (by kernel_rfl) rfl rfl ?_;refine BZ eP rfl rfl rfl rfl rfl rfl rfl rfl (fb (m:=1) rfl rfl) (gy _ (l:=[.slice p1 d.f.f.length c1]) (fun x hx=>by rw[aB.1 hx];rfl)) rfl (by decide) h.vM (by rw[aA];exact h.zp) (by rw[ab,aA];exact h.xM) (by show _ * 24≤_;omega) rfl (fun bF o' c' cap' pre hpl hpm hc1 hc2=>?_);obtain⟨pre,rfl⟩:=uI hpm;rw[ab]at hpl;subst hpl;rw[aA]at hc2;(refine run ?_;repeat intro b);refine eC (Hp.sub.refl _) (dM rfl) ?_;refine dR [10,11] (f':=1) (by kernel_rfl) rfl rfl rfl ?_;(refine run ?_;repeat intro b);refine dY 12 (by kernel_rfl) rfl rfl ?_;(refine run ?_;repeat intro b);refine eC (Hp.sub.refl _) (dM rfl) ?_;refine fk (by kernel_rfl) ?_;(refine fW ?_;repeat intro b);refine jR (iJ (s':={s with dX:=s.dX++[⟨d.f.f,p1,c1⟩],iY:=pre++(s.dX.map ot.v++[ot.v ⟨d.f.f,p1,c1⟩]),bf:=some bF,fo:=pre.length,cf:=c',xf:=cap'}) 9 [(5,14),(4,13),(8,12),(2,11),(1,10),(0,9)] ?_ rfl rfl rfl rfl hs1 (by rw[ek];simp[TL.t]) (TL.xh (f:=⟨d.f.f,p1,c1⟩) (TL.eX hs1 h) hf1 pre hc1 hc2) rfl);rw[TL.gT];have hcells:pre.map EV.v++((((s.iY.map EV.v).drop s.fo).take (s.dX.length * 1))++[EV.v (.slice p1 d.f.f.length c1)])=(pre++(s.dX.map ot.v++[ot.v ⟨d.f.f,p1,c1⟩])).map EV.v:=by
    rw[aA,←cK,←cN,h.xb,aF,aF];rfl
   have hlf:(s.dX++[(⟨d.f.f,p1,c1⟩:ot)]).length=s.dX.length+1:=by simp
   dsimp only [TL.cells];rw[hlf];exact (dJ rfl rfl (dJ rfl rfl (ff ⟨_,rfl,rfl,rfl,rfl,.inl ⟨hcells.symm,fun e he=>fw _ e (hcells ▸ he)⟩⟩ (dJ rfl rfl (dJ rfl rfl (dU rfl trivial))))))
  refine fi rfl rfl rfl Qm rfl (hcl F (Hp.sub.refl _)) ?_;rintro _ F1 hs1 ⟨p1,c1,rfl,_,hf1⟩;(refine run ?_;repeat intro b);refine eC hs1 (dM rfl) ?_;refine jC 4 8 (by kernel_rfl) rfl rfl rfl ?_ ?_
  ·(refine run ?_;repeat intro b);refine eC (Hp.sub.refl _) (dM rfl) ?_;refine dY 8 (by kernel_rfl) rfl rfl ?_;(refine run ?_;repeat intro b);refine eC (Hp.sub.refl _) (dM rfl) ?_;refine dY 9 (by kernel_rfl) rfl rfl ?_;refine BZ eP rfl rfl rfl rfl rfl rfl rfl rfl (fb (m:=1) rfl rfl) (gy _ (l:=[.slice p1 d.f.f.length c1]) (fun x hx=>by rw[aB.1 hx];rfl)) rfl (by decide) h.vM (by rw[aA];exact h.zp) (by rw[ab,aA];exact h.xM) (by show _ * 24≤_;omega) rfl (fun bF o' c' cap' pre hpl hpm hc1 hc2=>?_);obtain⟨pre,rfl⟩:=uI hpm;rw[ab]at hpl;subst hpl;rw[aA]at hc2;(refine run ?_;repeat intro b);refine eC (Hp.sub.refl _) (dM rfl) ?_;refine dR [10,11] (f':=1) (by kernel_rfl) rfl rfl rfl ?_;(refine run ?_;repeat intro b);refine dY 12 (by kernel_rfl) rfl rfl ?_;(refine run ?_;repeat intro b);refine eC (Hp.sub.refl _) (dM rfl) ?_;refine fk (by kernel_rfl) ?_;(refine fW ?_;repeat intro b);refine jR (iJ (s':={s with dX:=s.dX++[⟨d.f.f,p1,c1⟩],iY:=pre++(s.dX.map ot.v++[ot.v ⟨d.f.f,p1,c1⟩]),bf:=some bF,fo:=pre.length,cf:=c',xf:=cap'}) 9 [(5,14),(4,13),(8,12),(2,11),(1,10),(0,9)] ?_ rfl rfl rfl rfl hs1 (by rw[ek];simp[TL.t]) (TL.xh (f:=⟨d.f.f,p1,c1⟩) (TL.eX hs1 h) hf1 pre hc1 hc2) rfl);rw[TL.gT];have hcells:pre.map EV.v++((((s.iY.map EV.v).drop s.fo).take (s.dX.length * 1))++[EV.v (.slice p1 d.f.f.length c1)])=(pre++(s.dX.map ot.v++[ot.v ⟨d.f.f,p1,c1⟩])).map EV.v:=by
    rw[aA,←cK,←cN,h.xb,aF,aF];rfl
   have hlf:(s.dX++[(⟨d.f.f,p1,c1⟩:ot)]).length=s.dX.length+1:=by simp
   dsimp only [TL.cells];rw[hlf];exact (dJ rfl rfl (dJ rfl rfl (ff ⟨_,rfl,rfl,rfl,rfl,.inl ⟨hcells.symm,fun e he=>fw _ e (hcells ▸ he)⟩⟩ (dJ rfl rfl (dJ rfl rfl (dU rfl trivial))))))
  (refine run ?_;repeat intro b);refine eC (Hp.sub.refl _) (dM rfl) ?_;refine dY 4 (by kernel_rfl) rfl rfl ?_;(refine run ?_;repeat intro b);refine eC (Hp.sub.refl _) (dM rfl) ?_;refine dY 9 (by kernel_rfl) rfl rfl ?_;refine BZ eP rfl rfl rfl rfl rfl rfl rfl rfl (fb (m:=1) rfl rfl) (gy _ (l:=[.slice p1 d.f.f.length c1]) (fun x hx=>by rw[aB.1 hx];rfl)) rfl (by decide) h.vM (by rw[aA];exact h.zp) (by rw[ab,aA];exact h.xM) (by show _ * 24≤_;omega) rfl (fun bF o' c' cap' pre hpl hpm hc1 hc2=>?_);obtain⟨pre,rfl⟩:=uI hpm;rw[ab]at hpl;subst hpl;rw[aA]at hc2;(refine run ?_;repeat intro b);refine eC (Hp.sub.refl _) (dM rfl) ?_;refine dR [10,11] (f':=1) (by kernel_rfl) rfl rfl rfl ?_;(refine run ?_;repeat intro b);refine dY 12 (by kernel_rfl) rfl rfl ?_;(refine run ?_;repeat intro b);refine eC (Hp.sub.refl _) (dM rfl) ?_;refine fk (by kernel_rfl) ?_;(refine fW ?_;repeat intro b);refine jR (iJ (s':={s with dX:=s.dX++[⟨d.f.f,p1,c1⟩],iY:=pre++(s.dX.map ot.v++[ot.v ⟨d.f.f,p1,c1⟩]),bf:=some bF,fo:=pre.length,cf:=c',xf:=cap'}) 9 [(5,14),(4,13),(8,12),(2,11),(1,10),(0,9)] ?_ rfl rfl rfl rfl hs1 (by rw[ek];simp[TL.t]) (TL.xh (f:=⟨d.f.f,p1,c1⟩) (TL.eX hs1 h) hf1 pre hc1 hc2) rfl);rw[TL.gT];have hcells:pre.map EV.v++((((s.iY.map EV.v).drop s.fo).take (s.dX.length * 1))++[EV.v (.slice p1 d.f.f.length c1)])=(pre++(s.dX.map ot.v++[ot.v ⟨d.f.f,p1,c1⟩])).map EV.v:=by
   rw[aA,←cK,←cN,h.xb,aF,aF];rfl
  have hlf:(s.dX++[(⟨d.f.f,p1,c1⟩:ot)]).length=s.dX.length+1:=by simp
  dsimp only [TL.cells];rw[hlf];exact (dJ rfl rfl (dJ rfl rfl (ff ⟨_,rfl,rfl,rfl,rfl,.inl ⟨hcells.symm,fun e he=>fw _ e (hcells ▸ he)⟩⟩ (dJ rfl rfl (dJ rfl rfl (dU rfl trivial))))))
 have h2:=au h2;(refine fW ?_;repeat intro b);refine ez (decide (d.kind=3)) rfl (fun h3=>?_) (fun h3=>?_)
 ·have h3:=ar h3;have ek:s.t.pU d.d=if s.t.owned d.iZ=true then s.t.post (d.d.letter.for_ d.iZ) [1] else s.t:=by unfold fm.pU;rw[e0,aY h1,aY h2,aZ h3];rfl
  (refine fW ?_;repeat intro b);refine om rfl rfl rfl N7 rfl (ya s z ⟨some bd,d.row.map EV.v,73,16⟩ d.iZ F (by omega)) ?_;rintro _ F' _ _ _ _ ⟨rfl,hF,rfl,rfl⟩;have hF:=hF.symm;subst hF;(refine fW ?_;repeat intro b);refine ez (s.t.owned d.iZ) rfl (fun ho=>?_) (fun ho=>?_)
  ·rw[aZ ho]at ek;have wx:(d.x.l.for_ d.iZ).wf:=(hk.Ip hi ho).wf;obtain⟨x,ex⟩: ∃x:LP,x=⟨d.x.l.for_ d.iZ,d.x.ph,d.x.ch,d.x.a⟩:=⟨_,rfl⟩;have hx:x.at F:=by rw[ex];exact⟨hd.x.dP,hd.x.nJ⟩
   have wx:x.l.wf:=by rw[ex];exact wx
   have ek:s.t.pU d.d=s.t.post x.l [1]:=by rw[ek,ex];rfl
   have ec:Value.agg #[i64 d.iZ,i64 d.x.l.from_,i64 d.x.l.since,i64 d.x.l.due,.slice d.x.ph d.x.l.dP.length d.x.ch,i64 d.x.l.head.dW,u64 (d.x.l.head.root:Nat),u64 (d.x.l.head.prev:Nat),i64 d.x.l.head.at_,S d.x.l.nJ.name,.slice d.x.a.e d.x.l.nJ.fZ.length d.x.a.ce,.slice d.x.a.s d.x.l.nJ.fC.length d.x.a.cs]=Value.agg x.row.toArray:=by rw[ex];rfl
   (refine fW ?_;repeat intro b);refine fz [0,7] (by kernel_rfl) ?_;refine dR [0,1,2,3,4,5] (f':=8) (by kernel_rfl) rfl rfl rfl ?_;(refine run ?_;repeat intro b);refine jC 6 11 (by kernel_rfl) rfl rfl rfl ?_ ?_
   ·(refine run ?_;repeat intro b);refine eC (Hp.sub.refl _) (dM rfl) ?_;refine jC 7 11 (by kernel_rfl) rfl rfl rfl ?_ ?_
    ·refine fT (VS.freeze 8 [0,44,45,46] rfl rfl rfl rfl fun F1 hs1 hf1=>VS.id ?_);rw[e9,e9,e9,e9,e9,e9];have hns:=nV s.fJ x [1] (cf:=1) (by omega) n3 (NP.eX hs1 h.fJ) wx (LP.eX hs1 hx) (by decide) hf1;rw[←ec]at hns;refine fi rfl rfl rfl DA rfl hns ?_;rintro _ F2 hs2 ⟨y,rfl,hy,hyl,hy1,hy2⟩;(refine run ?_;repeat intro b);refine eC (hs1.trans hs2) (dM rfl) ?_;refine dR [8,9,10] (f':=3) (by kernel_rfl) rfl rfl rfl ?_;(refine run ?_;repeat intro b);refine dY 11 (by kernel_rfl) rfl rfl ?_;(refine run ?_;repeat intro b);refine eC (Hp.sub.refl _) (dM rfl) ?_;refine dY 12 (by kernel_rfl) rfl rfl ?_;(refine run ?_;repeat intro b);refine eC (Hp.sub.refl _) (dM rfl) ?_;refine dY 13 (by kernel_rfl) rfl rfl ?_;(refine run ?_;repeat intro b);refine eC (Hp.sub.refl _) (dM rfl) ?_;refine fk (by kernel_rfl) ?_;(refine run ?_;repeat intro b);refine ez (decide (lD s.fJ [1]=0)) ?_ (fun h0=>?_) (fun h0=>?_)
     ·refine dS ?_;rw[ai];simp
     ·have h0:=ar h0;rw[aZ h0]at hy1 hy2;(refine fW ?_;repeat intro b);refine jR (iJ (s':={s with fJ:=y}) 10 [(5,15),(4,14),(3,13),(2,12),(1,11),(0,10)] ?_ rfl rfl rfl rfl (hs1.trans hs2) ((pF s y x.l [1] n1 h0 hy1 hy2).trans ek.symm) (TL.vh (TL.eX (hs1.trans hs2) h) hy) rfl);rw[TL.gT];exact (dJ rfl rfl (dJ rfl rfl (dJ rfl rfl (dJ rfl rfl (dJ rfl rfl (dU rfl trivial))))))
     have h0:=au h0;(refine fW ?_;repeat intro b);refine jR (iJ (s':=s) 10 [(5,15),(4,14),(3,13),(2,12),(1,11),(0,10)] ?_ rfl rfl rfl rfl (hs1.trans hs2) ((sf s x.l [1] n1 h0).symm.trans ek.symm) (TL.eX (hs1.trans hs2) h) rfl);rw[TL.gT];exact (dJ rfl rfl (dJ rfl rfl (dJ rfl rfl (dJ rfl rfl (dJ rfl rfl (dU rfl trivial))))))
    (refine run ?_;repeat intro b);refine eC (Hp.sub.refl _) (dM rfl) ?_;refine dY 7 (by kernel_rfl) rfl rfl ?_;refine fT (VS.freeze 8 [0,5,44,45,46] rfl rfl rfl rfl fun F1 hs1 hf1=>VS.id ?_);rw[e9,e9,e9,e9,e9,e9];have hns:=nV s.fJ x [1] (cf:=1) (by omega) n3 (NP.eX hs1 h.fJ) wx (LP.eX hs1 hx) (by decide) hf1;rw[←ec]at hns;refine fi rfl rfl rfl DA rfl hns ?_;rintro _ F2 hs2 ⟨y,rfl,hy,hyl,hy1,hy2⟩;(refine run ?_;repeat intro b);refine eC (hs1.trans hs2) (dM rfl) ?_;refine dR [8,9,10] (f':=2) (by kernel_rfl) rfl rfl rfl ?_;(refine run ?_;repeat intro b);refine dY 12 (by kernel_rfl) rfl rfl ?_;(refine run ?_;repeat intro b);refine eC (Hp.sub.refl _) (dM rfl) ?_;refine dY 13 (by kernel_rfl) rfl rfl ?_;(refine run ?_;repeat intro b);refine eC (Hp.sub.refl _) (dM rfl) ?_;refine fk (by kernel_rfl) ?_;(refine run ?_;repeat intro b);refine ez (decide (lD s.fJ [1]=0)) ?_ (fun h0=>?_) (fun h0=>?_)
    ·refine dS ?_;rw[ai];simp
    ·have h0:=ar h0;rw[aZ h0]at hy1 hy2;(refine fW ?_;repeat intro b);refine jR (iJ (s':={s with fJ:=y}) 10 [(5,15),(4,14),(3,13),(2,12),(1,11),(0,10)] ?_ rfl rfl rfl rfl (hs1.trans hs2) ((pF s y x.l [1] n1 h0 hy1 hy2).trans ek.symm) (TL.vh (TL.eX (hs1.trans hs2) h) hy) rfl);rw[TL.gT];exact (dJ rfl rfl (dJ rfl rfl (dJ rfl rfl (dJ rfl rfl (dJ rfl rfl (dU rfl trivial))))))
    have h0:=au h0;(refine fW ?_;repeat intro b);refine jR (iJ (s':=s) 10 [(5,15),(4,14),(3,13),(2,12),(1,11),(0,10)] ?_ rfl rfl rfl rfl (hs1.trans hs2) ((sf s x.l [1] n1 h0).symm.trans ek.symm) (TL.eX (hs1.trans hs2) h) rfl);rw[TL.gT];exact (dJ rfl rfl (dJ rfl rfl (dJ rfl rfl (dJ rfl rfl (dJ rfl rfl (dU rfl trivial))))))
   (refine run ?_;repeat intro b);refine eC (Hp.sub.refl _) (dM rfl) ?_;refine dY 6 (by kernel_rfl) rfl rfl ?_;(refine run ?_;repeat intro b);refine eC (Hp.sub.refl _) (dM rfl) ?_;refine dY 7 (by kernel_rfl) rfl rfl ?_;refine fT (VS.freeze 9 [0,5,44,45,46] rfl rfl rfl rfl fun F1 hs1 hf1=>VS.id ?_);rw[e9,e9,e9,e9,e9,e9];have hns:=nV s.fJ x [1] (cf:=1) (by omega) n3 (NP.eX hs1 h.fJ) wx (LP.eX hs1 hx) (by decide) hf1;rw[←ec]at hns;refine fi rfl rfl rfl DA rfl hns ?_;rintro _ F2 hs2 ⟨y,rfl,hy,hyl,hy1,hy2⟩;(refine run ?_;repeat intro b);refine eC (hs1.trans hs2) (dM rfl) ?_;refine dR [8,9,10] (f':=2) (by kernel_rfl) rfl rfl rfl ?_;(refine run ?_;repeat intro b);refine dY 12 (by kernel_rfl) rfl rfl ?_;(refine run ?_;repeat intro b);refine eC (Hp.sub.refl _) (dM rfl) ?_;refine dY 13 (by kernel_rfl) rfl rfl ?_;(refine run ?_;repeat intro b);refine eC (Hp.sub.refl _) (dM rfl) ?_;refine fk (by kernel_rfl) ?_;(refine run ?_;repeat intro b);refine ez (decide (lD s.fJ [1]=0)) ?_ (fun h0=>?_) (fun h0=>?_)
   ·refine dS ?_;rw[ai];simp
   ·have h0:=ar h0;rw[aZ h0]at hy1 hy2;(refine fW ?_;repeat intro b);refine jR (iJ (s':={s with fJ:=y}) 10 [(5,15),(4,14),(3,13),(2,12),(1,11),(0,10)] ?_ rfl rfl rfl rfl (hs1.trans hs2) ((pF s y x.l [1] n1 h0 hy1 hy2).trans ek.symm) (TL.vh (TL.eX (hs1.trans hs2) h) hy) rfl);rw[TL.gT];exact (dJ rfl rfl (dJ rfl rfl (dJ rfl rfl (dJ rfl rfl (dJ rfl rfl (dU rfl trivial))))))
   have h0:=au h0;(refine fW ?_;repeat intro b);refine jR (iJ (s':=s) 10 [(5,15),(4,14),(3,13),(2,12),(1,11),(0,10)] ?_ rfl rfl rfl rfl (hs1.trans hs2) ((sf s x.l [1] n1 h0).symm.trans ek.symm) (TL.eX (hs1.trans hs2) h) rfl);rw[TL.gT];exact (dJ rfl rfl (dJ rfl rfl (dJ rfl rfl (dJ rfl rfl (dJ rfl rfl (dU rfl trivial))))))
  rw[aY (by rw[ho];decide)]at ek;(refine fW ?_;repeat intro b);refine jR (iJ (s':=s) 7 [(5,12),(4,11),(3,10),(2,9),(1,8),(0,7)] ?_ rfl rfl rfl rfl (Hp.sub.refl _) ek.symm h rfl);rw[TL.gT];exact (dJ rfl rfl (dJ rfl rfl (dJ rfl rfl (dJ rfl rfl (dJ rfl rfl (dU rfl trivial))))))
 have h3:=au h3;(refine fW ?_;repeat intro b);refine ez (decide (d.kind=4)) rfl (fun h4=>?_) (fun h4=>?_)
 ·have h4:=ar h4;have ek:s.t.pU d.d=s.t.tick:=by unfold fm.pU;rw[e0,aY h1,aY h2,aY h3,aZ h4]
  (refine fW ?_;repeat intro b);refine om rfl rfl rfl Uh rfl (oy.at (Pb s z h hi hev) (nx2:=7) [(5,5),(4,4),(3,3),(2,2),(1,1),(0,0)] 0 (dJ rfl rfl (dJ rfl rfl (dJ rfl rfl (dJ rfl rfl (dJ rfl rfl (dU rfl trivial)))))) rfl rfl rfl rfl (by decide)) ?_;rintro _ F4 _ _ _ _ ⟨rfl,hs4,rfl,s4,oU,pT,hb4,rfl⟩;(refine fW ?_;repeat intro b);exact jR (VS.id ⟨_,rfl,7,s4.rs z,6,.v (.tuple #[]),rfl,rfl,rfl,rfl,rfl,hs4,s4,oU.trans ek.symm,pT,hb4,rfl⟩)
 have h4:=au h4;have ek:s.t.pU d.d=s.t:=by unfold fm.pU;rw[e0,aY h1,aY h2,aY h3,aY h4]
 (refine fW ?_;repeat intro b);refine jR (iJ (s':=s) 7 [(5,12),(4,11),(3,10),(2,9),(1,8),(0,7)] ?_ rfl rfl rfl rfl (Hp.sub.refl _) ek.symm h rfl);rw[TL.gT];exact (dJ rfl rfl (dJ rfl rfl (dJ rfl rfl (dJ rfl rfl (dJ rfl rfl (dU rfl trivial))))))
end
end Go.Proofs.YthbnddgjkonkdaaGreatDoor
