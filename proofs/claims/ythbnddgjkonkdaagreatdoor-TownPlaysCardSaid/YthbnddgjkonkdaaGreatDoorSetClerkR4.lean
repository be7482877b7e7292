/- A part of the proof. -/
import Derived.Test.YthbnddgjkonkdaaGreatDoorSetClerkR2
import Derived.Test.YthbnddgjkonkdaaGreatDoorSetProofMake
set_option linter.unusedVariables false
set_option linter.unusedSimpArgs false
namespace Go.Proofs.YthbnddgjkonkdaaGreatDoor
section
open Go.TR
theorem pJ {ids:List Nat}{rs:RL}: ∀k r,fR (Go.TR.iy ids rs) k=some r→fR rs k=some r:=fun k r hk=>by
 rw[vO]at hk;split at hk
 ·cases hk
 exact hk
theorem eu.PM {P:Program}{F:Hp}{f:FuncId}{args:List Value}{Q:Value→Hp→RL→Prop}(ids:List Nat)(h:eu P F f args fun x F' new=>Q x F' (Go.TR.iy ids new)):eu P F f args Q:=fun w hw=>by
 refine (h w hw).mono fun e w' hh=>?_;obtain⟨x,F',new,h1,h2,h3,h4,h5,h6,h7,h8⟩:=hh;refine⟨x,F',Go.TR.iy ids new,h1,h2,h3,h4,h5,⟨fun id r hr=>?_,fun i j r s b hi hj=>h6.apart i j r s b (pJ _ _ hi) (pJ _ _ hj)⟩,fun id r b hr=>h7 id r b (pJ _ _ hr),h8⟩;have g:=h6.own id r (pJ _ _ hr);cases hb:r.gl with
 | none=>rw[hb]at g;exact g
 | some b=>
  rw[hb]at g;obtain⟨g1,g2,cur,g3,g4,g5⟩:=g;exact⟨g1,g2,cur,g3,g4,fun j ev x hj hx=>g5 j ev x hj (val_sub pJ hx)⟩
def L0 (b0:Nat)(p:Option Addr):Prop:=∀b,p=some ⟨b,0,none⟩→b0≤b
theorem gU.kz {F F':Hp}{e:TypeId}{size:Nat}{p:Option Addr}{n c:Nat}{cs:List Value}(h:F.sub F')(k:gU F e size p n c cs):gU F' e size p n c cs:=by
 obtain⟨h1,h2,h3⟩:=k;refine⟨h1,h2,?_⟩;rcases h3 with h3 | ⟨b,cur,e1,e2,e3⟩
 ·exact .inl h3
 exact .inr ⟨b,cur,e1,h _ _ e2,e3⟩
def DO (F:Hp)(s:Bk):Prop:=gU F 122 2 s.1 s.2.1.length s.2.2 (s.2.1.flatMap Entry.row)
theorem DO.at {F:Hp}{s:Bk}(h:DO F s):Bk.at F s:=⟨trivial,gU.kq h⟩
structure Own (c:eE) (F:Hp) (a:jf) (bA bh bb:Nat) (bs:List Bk):Prop where
 w:gU F 35 4 a.w c.queue.wait.length a.cw (c.queue.wait.flatMap Ask.cells)
 yw:L0 bA a.w
 h:a.h=some ⟨bh,0,none⟩
 ch:c.dP.length≤a.ch
 b:a.b=some ⟨bb,0,none⟩
 cb:c.ee.length≤a.cb
 eb:bs.map (·.2.1)=c.ee
 each: ∀s∈bs,DO F s
attribute [local irreducible] vc dT gx fc fA gC gG gw fG Plain eu eR dH VS fq fx fD ju fe IntKind.wrap
attribute [local irreducible] dV gK ir gH fK
set_option maxRecDepth 100000
set_option maxHeartbeats 4000000
theorem wO (c:eE)(a:jf)(hS:Small c)(hz:0<c.dP.length)(hz2:0<c.ee.length){F:Hp}(ha:c.at F a):eu Tryz.prog F 127 [c.v a] (fun x F' new=>∃a' bA bh bb bs,x=c.v a'∧Own c F' a' bA bh bb bs∧new=[(5,⟨some bb,(bs.map Bk.v).map .v,42,a'.cb * 1⟩),(4,⟨some bh,(c.dP.flatMap Head.row).map .v,41,a'.ch * 4⟩),(3,Go.TR.mark bA)]):=by
 obtain⟨bs,hb,wW,hbs⟩:=ha.b;have hbl:=ln hb;have q1:=hS.wait;have q2:=hS.dP;have q3:=hS.ee;refine eu.PM [0,1] (fU (N:=32) (rv:=[.cell 2 28]) eP mixed Tryz.func127 rfl rfl rfl rfl rfl ?_);(refine run ?_;repeat intro b);rename_i bX;revert b;intro bY;refine jy [] rfl rfl rfl rfl rfl rfl rfl (eG _ _) (iV (dL gj _) ha.w) (gy _ (xg _)) (by show _ * 48≤_;omega) (fun h=>?_) (fun hpos bw WU hcw2=>?_)
 ·refine fT (VS.mark fun b9 _=>VS.mark fun bA _=>VS.iy [2] rfl (VS.id ?_));have sw:gU F 35 4 none c.queue.wait.length 0 (c.queue.wait.flatMap Ask.cells):=by
   rw[aq h];exact⟨rfl,ah _,.inl ⟨rfl,rfl,rfl⟩⟩
  have yw:L0 bA none:=fun b hb=>by cases hb
  (refine run ?_;repeat intro b);refine jy [] rfl rfl rfl rfl rfl rfl rfl (eG _ _) (iV (dL eW _) (dZ (Hp.sub.refl F) ha.h)) (gy _ (oY _)) (by show _ * 32≤_;omega) (fun h=>by omega) (fun _ bh c5 wX=>?_);rw[aP c.dP.length];rw[aP c.dP.length]at wX;(refine run ?_;repeat intro b);refine eU (fun q:Nat×List Bk×Hp×Option Nat×Nat=>q.1≤c.ee.length∧F.sub q.2.2.1∧q.2.1.map (·.2.1)=c.ee.take q.1∧(∀s∈q.2.1,DO q.2.2.1 s)∧(q.2.2.2.1=none→q.1=0∧q.2.2.2.2=0)∧q.1≤q.2.2.2.2)
   (fun q=>⟨[(3,.row 5 0 q.1 q.2.2.2.2),(1,.loc 0 0),(2,.loc 1 0),(17,.v (.slice a.b c.ee.length a.cb)),(18,.v (i64 (c.ee.length:Nat))),(19,.v (i64 (q.1:Nat)))],q.2.2.1,
    [(5,⟨q.2.2.2.1,(q.2.1.map Bk.v).map .v,42,q.2.2.2.2 * 1⟩),(4,⟨some bh,(c.dP.flatMap Head.row).map .v,41,c5 * 4⟩),(3,Go.TR.mark bA),
     (1,⟨some bY,[.v (i64 0),.v (.slice none 0 0),.v (i64 0),.v (i64 0),.v (i64 0),.v (.slice none 0 0),.v (.slice none 0 0)],28,7⟩),
     (0,⟨some bX,[.v (i64 c.queue.most),.v (.slice none c.queue.wait.length 0),.v (i64 c.batch),.v (i64 c.every),.v (i64 c.now),.row 4 0 c.dP.length c5,.v (.slice a.b c.ee.length a.cb)],28,7⟩)],6⟩)
   (fun q=>c.ee.length - q.1) (0,[],F,none,0) ⟨az _,fun _ _ h=>h,rfl,(fun s hs=>by cases hs),fun _=>⟨rfl,rfl⟩,ah _⟩ (VS.nT 3 42 [1,2,17,18,19] rfl rfl (VS.id (by first | rfl | (rw[h];rfl)))) ?_
  rintro⟨k,ds,G,gl,cap⟩ ⟨hk,hG,hds,K1,h3,h4⟩;dsimp only at hk hG hds K1 h3 h4 ⊢;have hdl:ds.length=k:=by
   have:=a8 List.length hds;rw[ab,aw]at this;omega
  have hlk:((ds.map Bk.v).map EV.v).length=k:=by rw[ab,ab];exact hdl
  have Om:F.sub G:=Hp.sub.trans (Hp.sub.refl F) hG;by_cases hlt:k<c.ee.length
  ·obtain⟨⟨ps,ls,cs⟩,k1,k2,k3⟩:=oc hb hlt;have kc:=iS Om (mX wW k1);have hat:=Bk.eX Om (hbs _ k3);have tA:=hS.each c.ee[k] (aj hlt);have htk:c.ee.take (k+1)=c.ee.take k++[c.ee[k]]:=al hlt;simp only at k2 hat;rw[←k2]at tA htk;(refine run ?_;repeat intro b);refine gm rfl (by omega) ?_;(refine run ?_;repeat intro b);refine dI rfl rfl rfl ⟨by omega,by omega,dO (dZ Om wW) (j:=k) (by rw[ab,hbl];omega)⟩ ?_;refine fr (Bk.v (ps,ls,cs)) rfl rfl rfl rfl (by rw[ae,aA];exact kc) ?_;(refine run ?_;repeat intro b);refine jy [] rfl rfl rfl rfl rfl rfl rfl (eG _ _) (iV (dL eI _) hat.2) (gy _ (iK _)) (by have Zi:ls.length≤24:=tA;show (0+ls.length) * 32≤_;omega) (fun he=>?_) (fun hpos be c6 hc6=>?_)
   ·(refine run ?_;repeat intro b);refine fv rfl rfl rfl rfl rfl rfl rfl rfl (fb rfl rfl) (fun e he=>by rw[aB.1 he];exact⟨rfl,_,rfl⟩) h3 h4 rfl (by rw[hlk,aA];exact ah _) (by show _ * 24≤_;omega) (fun h=>by cases h) (fun _ b2 c2 hc2=>?_);have hcells:((ds.map Bk.v).map EV.v).take (k * 1)++[EV.v (.slice none 0 0)]=((ds++[((none,ls,0):Bk)]).map Bk.v).map EV.v:=by
     rw[an (by rw[hlk,aA];exact ah _)];simp[he]
    (refine run ?_;repeat intro b);rw[dQ (by omega)];exact fE (k+1,ds++[(none,ls,0)],G,some b2,c2) 5 [(7,5),(4,4),(3,3),(1,1),(0,0)] [3,1,2,17,18,19]
     [(5,⟨some b2,((ds++[((none,ls,0):Bk)]).map Bk.v).map .v,42,c2 * 1⟩),(4,⟨some bh,(c.dP.flatMap Head.row).map .v,41,c5 * 4⟩),(3,Go.TR.mark bA),
      (1,⟨some bY,[.v (i64 0),.v (.slice none 0 0),.v (i64 0),.v (i64 0),.v (i64 0),.v (.slice none 0 0),.v (.slice none 0 0)],28,7⟩),
      (0,⟨some bX,[.v (i64 c.queue.most),.v (.slice none c.queue.wait.length 0),.v (i64 c.batch),.v (i64 c.every),.v (i64 c.now),.row 4 0 c.dP.length c5,.v (.slice a.b c.ee.length a.cb)],28,7⟩)]
     ⟨hlt,hG,by rw[htk,aF,hds];rfl,(fun s hs=>by
      rcases aK.1 hs with hs | hs
      ·exact K1 s hs
      rw[aB.1 hs];exact (by show gU _ _ _ _ ls.length _ _;exact⟨dL eI _,Nat.le_of_eq he,.inl ⟨rfl,he,rfl⟩⟩)),(fun h=>by cases h),hc2⟩ (by simp only;omega) (aM _ _)
     (ff ⟨_,rfl,rfl,rfl,rfl,.inl ⟨hcells.symm,fun e he=>fw _ e (hcells ▸ he)⟩⟩ (ff ⟨_,rfl,rfl,rfl,rfl,.inl ⟨rfl,fun e he=>fw _ e he⟩⟩ (dU rfl (dU rfl (dU rfl trivial))))) rfl rfl rfl rfl rfl rfl rfl
   rw[aP ls.length];rw[aP ls.length]at hc6;refine fT (VS.iz (n:=ls.length) (c:=c6) 6 [1,2,3,17,18,19,23,25] rfl (eD _) rfl rfl rfl (dL eI _) hc6 (by rw[dL eI];exact Nat.mul_pos hpos (by decide)) fun G2 hG2 hf2 _=>VS.id ?_);rw[e9,e9];(refine run ?_;repeat intro b);refine fv rfl rfl rfl rfl rfl rfl rfl rfl (fb rfl rfl) (fun e he=>by rw[aB.1 he];exact⟨rfl,_,rfl⟩) h3 h4 rfl (by rw[hlk,aA];exact ah _) (by show _ * 24≤_;omega) (fun h=>by cases h) (fun _ b2 c2 hc2=>?_);have hcells:((ds.map Bk.v).map EV.v).take (k * 1)++[EV.v (.slice (some ⟨be,0,none⟩) ls.length c6)]=((ds++[((some ⟨be,0,none⟩,ls,c6):Bk)]).map Bk.v).map EV.v:=by
    rw[an (by rw[hlk,aA];exact ah _)];simp
   (refine run ?_;repeat intro b);rw[dQ (by omega)];exact fE (k+1,ds++[(some ⟨be,0,none⟩,ls,c6)],G2,some b2,c2) 5 [(8,5),(4,4),(3,3),(1,1),(0,0)] [3,1,2,17,18,19]
    [(5,⟨some b2,((ds++[((some ⟨be,0,none⟩,ls,c6):Bk)]).map Bk.v).map .v,42,c2 * 1⟩),(4,⟨some bh,(c.dP.flatMap Head.row).map .v,41,c5 * 4⟩),(3,Go.TR.mark bA),
     (1,⟨some bY,[.v (i64 0),.v (.slice none 0 0),.v (i64 0),.v (i64 0),.v (i64 0),.v (.slice none 0 0),.v (.slice none 0 0)],28,7⟩),
     (0,⟨some bX,[.v (i64 c.queue.most),.v (.slice none c.queue.wait.length 0),.v (i64 c.batch),.v (i64 c.every),.v (i64 c.now),.row 4 0 c.dP.length c5,.v (.slice a.b c.ee.length a.cb)],28,7⟩)]
    ⟨hlt,hG.trans hG2,by rw[htk,aF,hds];rfl,(fun s hs=>by
     rcases aK.1 hs with hs | hs
     ·exact gU.kz hG2 (K1 s hs)
     rw[aB.1 hs];exact hf2),(fun h=>by cases h),hc2⟩ (by simp only;omega) (aM _ _)
    (ff ⟨_,rfl,rfl,rfl,rfl,.inl ⟨hcells.symm,fun e he=>fw _ e (hcells ▸ he)⟩⟩ (ff ⟨_,rfl,rfl,rfl,rfl,.inl ⟨rfl,fun e he=>fw _ e he⟩⟩ (dU rfl (dU rfl (dU rfl trivial))))) rfl rfl rfl rfl rfl rfl rfl
  have hge:k=c.ee.length:=by omega
  subst hge;rw[aD]at hds;obtain⟨bb,rfl⟩: ∃bb,gl=some bb:=by
   cases hbk:gl with
   | none=>have:=(h3 hbk).1;omega
   | some bb=>exact⟨bb,rfl⟩
  (refine run ?_;repeat intro b);refine gu rfl (by omega) ?_;(refine run ?_;repeat intro b);refine eM (VS.id ?_);refine⟨_,rfl,⟨none,0,some ⟨bh,0,none⟩,c5,some ⟨bb,0,none⟩,cap⟩,bA,bh,bb,ds,rfl,⟨gU.kz hG sw,yw,rfl,wX,rfl,h4,hds,K1⟩,rfl⟩
 rw[aP c.queue.wait.length];rw[aP c.queue.wait.length]at hcw2;refine fT (VS.mark fun bA hA=>VS.iz (n:=c.queue.wait.length) (c:=WU) 2 [1,2,9] rfl (eD _) rfl rfl rfl (dL gj _) hcw2 (by rw[dL gj];omega) fun F1 hs1 sw _=>VS.id ?_);have hbw:bA≤bw:=hA 2 _ bw rfl rfl;clear hA;have yw:L0 bA (some ⟨bw,0,none⟩):=fun b hb=>by cases hb;exact hbw
 (refine run ?_;repeat intro b);refine jy [] rfl rfl rfl rfl rfl rfl rfl (eG _ _) (iV (dL eW _) (dZ hs1 ha.h)) (gy _ (oY _)) (by show _ * 32≤_;omega) (fun h=>by omega) (fun _ bh c5 wX=>?_);rw[aP c.dP.length];rw[aP c.dP.length]at wX;(refine run ?_;repeat intro b);refine eU (fun q:Nat×List Bk×Hp×Option Nat×Nat=>q.1≤c.ee.length∧F1.sub q.2.2.1∧q.2.1.map (·.2.1)=c.ee.take q.1∧(∀s∈q.2.1,DO q.2.2.1 s)∧(q.2.2.2.1=none→q.1=0∧q.2.2.2.2=0)∧q.1≤q.2.2.2.2)
  (fun q=>⟨[(3,.row 5 0 q.1 q.2.2.2.2),(1,.loc 0 0),(2,.loc 1 0),(17,.v (.slice a.b c.ee.length a.cb)),(18,.v (i64 (c.ee.length:Nat))),(19,.v (i64 (q.1:Nat)))],q.2.2.1,
   [(5,⟨q.2.2.2.1,(q.2.1.map Bk.v).map .v,42,q.2.2.2.2 * 1⟩),(4,⟨some bh,(c.dP.flatMap Head.row).map .v,41,c5 * 4⟩),(3,Go.TR.mark bA),
    (1,⟨some bY,[.v (i64 0),.v (.slice none 0 0),.v (i64 0),.v (i64 0),.v (i64 0),.v (.slice none 0 0),.v (.slice none 0 0)],28,7⟩),
    (0,⟨some bX,[.v (i64 c.queue.most),.v (.slice (some ⟨bw,0,none⟩) c.queue.wait.length WU),.v (i64 c.batch),.v (i64 c.every),.v (i64 c.now),.row 4 0 c.dP.length c5,.v (.slice a.b c.ee.length a.cb)],28,7⟩)],6⟩)
  (fun q=>c.ee.length - q.1) (0,[],F1,none,0) ⟨az _,fun _ _ h=>h,rfl,(fun s hs=>by cases hs),fun _=>⟨rfl,rfl⟩,ah _⟩ (VS.nT 3 42 [1,2,17,18,19] rfl rfl (VS.id (by first | rfl | (rw[h];rfl)))) ?_
 rintro⟨k,ds,G,gl,cap⟩ ⟨hk,hG,hds,K1,h3,h4⟩;dsimp only at hk hG hds K1 h3 h4 ⊢;have hdl:ds.length=k:=by
  have:=a8 List.length hds;rw[ab,aw]at this;omega
 have hlk:((ds.map Bk.v).map EV.v).length=k:=by rw[ab,ab];exact hdl
 have Om:F.sub G:=Hp.sub.trans hs1 hG;by_cases hlt:k<c.ee.length
 ·obtain⟨⟨ps,ls,cs⟩,k1,k2,k3⟩:=oc hb hlt;have kc:=iS Om (mX wW k1);have hat:=Bk.eX Om (hbs _ k3);have tA:=hS.each c.ee[k] (aj hlt);have htk:c.ee.take (k+1)=c.ee.take k++[c.ee[k]]:=al hlt;simp only at k2 hat;rw[←k2]at tA htk;(refine run ?_;repeat intro b);refine gm rfl (by omega) ?_;(refine run ?_;repeat intro b);refine dI rfl rfl rfl ⟨by omega,by omega,dO (dZ Om wW) (j:=k) (by rw[ab,hbl];omega)⟩ ?_;refine fr (Bk.v (ps,ls,cs)) rfl rfl rfl rfl (by rw[ae,aA];exact kc) ?_;(refine run ?_;repeat intro b);refine jy [] rfl rfl rfl rfl rfl rfl rfl (eG _ _) (iV (dL eI _) hat.2) (gy _ (iK _)) (by have Zi:ls.length≤24:=tA;show (0+ls.length) * 32≤_;omega) (fun he=>?_) (fun hpos be c6 hc6=>?_)
  ·(refine run ?_;repeat intro b);refine fv rfl rfl rfl rfl rfl rfl rfl rfl (fb rfl rfl) (fun e he=>by rw[aB.1 he];exact⟨rfl,_,rfl⟩) h3 h4 rfl (by rw[hlk,aA];exact ah _) (by show _ * 24≤_;omega) (fun h=>by cases h) (fun _ b2 c2 hc2=>?_);have hcells:((ds.map Bk.v).map EV.v).take (k * 1)++[EV.v (.slice none 0 0)]=((ds++[((none,ls,0):Bk)]).map Bk.v).map EV.v:=by
    rw[an (by rw[hlk,aA];exact ah _)];simp[he]
   (refine run ?_;repeat intro b);rw[dQ (by omega)];exact fE (k+1,ds++[(none,ls,0)],G,some b2,c2) 5 [(7,5),(4,4),(3,3),(1,1),(0,0)] [3,1,2,17,18,19]
    [(5,⟨some b2,((ds++[((none,ls,0):Bk)]).map Bk.v).map .v,42,c2 * 1⟩),(4,⟨some bh,(c.dP.flatMap Head.row).map .v,41,c5 * 4⟩),(3,Go.TR.mark bA),
     (1,⟨some bY,[.v (i64 0),.v (.slice none 0 0),.v (i64 0),.v (i64 0),.v (i64 0),.v (.slice none 0 0),.v (.slice none 0 0)],28,7⟩),
     (0,⟨some bX,[.v (i64 c.queue.most),.v (.slice (some ⟨bw,0,none⟩) c.queue.wait.length WU),.v (i64 c.batch),.v (i64 c.every),.v (i64 c.now),.row 4 0 c.dP.length c5,.v (.slice a.b c.ee.length a.cb)],28,7⟩)]
    ⟨hlt,hG,by rw[htk,aF,hds];rfl,(fun s hs=>by
     rcases aK.1 hs with hs | hs
     ·exact K1 s hs
     rw[aB.1 hs];exact (by show gU _ _ _ _ ls.length _ _;exact⟨dL eI _,Nat.le_of_eq he,.inl ⟨rfl,he,rfl⟩⟩)),(fun h=>by cases h),hc2⟩ (by simp only;omega) (aM _ _)
    (ff ⟨_,rfl,rfl,rfl,rfl,.inl ⟨hcells.symm,fun e he=>fw _ e (hcells ▸ he)⟩⟩ (ff ⟨_,rfl,rfl,rfl,rfl,.inl ⟨rfl,fun e he=>fw _ e he⟩⟩ (dU rfl (dU rfl (dU rfl trivial))))) rfl rfl rfl rfl rfl rfl rfl
  rw[aP ls.length];rw[aP ls.length]at hc6;refine fT (VS.iz (n:=ls.length) (c:=c6) 6 [1,2,3,17,18,19,23,25] rfl (eD _) rfl rfl rfl (dL eI _) hc6 (by rw[dL eI];exact Nat.mul_pos hpos (by decide)) fun G2 hG2 hf2 _=>VS.id ?_);rw[e9,e9];(refine run ?_;repeat intro b);refine fv rfl rfl rfl rfl rfl rfl rfl rfl (fb rfl rfl) (fun e he=>by rw[aB.1 he];exact⟨rfl,_,rfl⟩) h3 h4 rfl (by rw[hlk,aA];exact ah _) (by show _ * 24≤_;omega) (fun h=>by cases h) (fun _ b2 c2 hc2=>?_);have hcells:((ds.map Bk.v).map EV.v).take (k * 1)++[EV.v (.slice (some ⟨be,0,none⟩) ls.length c6)]=((ds++[((some ⟨be,0,none⟩,ls,c6):Bk)]).map Bk.v).map EV.v:=by
   rw[an (by rw[hlk,aA];exact ah _)];simp
  (refine run ?_;repeat intro b);rw[dQ (by omega)];exact fE (k+1,ds++[(some ⟨be,0,none⟩,ls,c6)],G2,some b2,c2) 5 [(8,5),(4,4),(3,3),(1,1),(0,0)] [3,1,2,17,18,19]
   [(5,⟨some b2,((ds++[((some ⟨be,0,none⟩,ls,c6):Bk)]).map Bk.v).map .v,42,c2 * 1⟩),(4,⟨some bh,(c.dP.flatMap Head.row).map .v,41,c5 * 4⟩),(3,Go.TR.mark bA),
    (1,⟨some bY,[.v (i64 0),.v (.slice none 0 0),.v (i64 0),.v (i64 0),.v (i64 0),.v (.slice none 0 0),.v (.slice none 0 0)],28,7⟩),
    (0,⟨some bX,[.v (i64 c.queue.most),.v (.slice (some ⟨bw,0,none⟩) c.queue.wait.length WU),.v (i64 c.batch),.v (i64 c.every),.v (i64 c.now),.row 4 0 c.dP.length c5,.v (.slice a.b c.ee.length a.cb)],28,7⟩)]
   ⟨hlt,hG.trans hG2,by rw[htk,aF,hds];rfl,(fun s hs=>by
    rcases aK.1 hs with hs | hs
    ·exact gU.kz hG2 (K1 s hs)
    rw[aB.1 hs];exact hf2),(fun h=>by cases h),hc2⟩ (by simp only;omega) (aM _ _)
   (ff ⟨_,rfl,rfl,rfl,rfl,.inl ⟨hcells.symm,fun e he=>fw _ e (hcells ▸ he)⟩⟩ (ff ⟨_,rfl,rfl,rfl,rfl,.inl ⟨rfl,fun e he=>fw _ e he⟩⟩ (dU rfl (dU rfl (dU rfl trivial))))) rfl rfl rfl rfl rfl rfl rfl
 have hge:k=c.ee.length:=by omega
 subst hge;rw[aD]at hds;obtain⟨bb,rfl⟩: ∃bb,gl=some bb:=by
  cases hbk:gl with
  | none=>have:=(h3 hbk).1;omega
  | some bb=>exact⟨bb,rfl⟩
 (refine run ?_;repeat intro b);refine gu rfl (by omega) ?_;(refine run ?_;repeat intro b);refine eM (VS.id ?_);refine⟨_,rfl,⟨(some ⟨bw,0,none⟩),WU,some ⟨bh,0,none⟩,c5,some ⟨bb,0,none⟩,cap⟩,bA,bh,bb,ds,rfl,⟨gU.kz hG sw,yw,rfl,wX,rfl,h4,hds,K1⟩,rfl⟩
end
section
open Go.TR
def uG (now every:Int)(j:Nat):Int:=if j=0 then now else (now / every+(j:Int)) * every
theorem M5 {now every:Int}(he:1≤every)(j:Nat):uG now every j / every=now / every+(j:Int):=by
 unfold uG;split
 ·rename_i h;subst h;simp
 exact Int.mul_ediv_cancel _ (by omega)
theorem CL {now every:Int}(j:Nat):uG now every (j+1)=(now / every+(j:Int)+1) * every:=by
 unfold uG;rw[aY (by omega)];congr 1;omega
theorem NQ {now every:Int}(he:1≤every)(h0:0≤now)(j:Nat):uG now every j<uG now every (j+1)∧uG now every (j+1)≤uG now every j+every:=by
 have h1:=M5 (now:=now) he j;have h2:=Int.emod_add_mul_ediv (uG now every j) every;have h3:=Int.emod_nonneg (uG now every j) (by omega:every≠0);have h4:=Int.emod_lt_of_pos (uG now every j) (by omega:0<every);rw[h1]at h2;rw[CL];have h5:(now / every+(j:Int)+1) * every=every * (now / every+(j:Int))+every:=by
  rw[Int.add_mul,Int.one_mul,Int.mul_comm]
 omega
theorem Nb {now every x:Int}(he:1≤every){j:Nat}(h1:uG now every j<x)(h2:x≤uG now every (j+1)):x % every=0 ↔ x=uG now every (j+1):=by
 have e1:=M5 (now:=now) he j;have e2:=Int.emod_add_mul_ediv (uG now every j) every;have e3:=Int.emod_nonneg (uG now every j) (by omega:every≠0);rw[e1]at e2;rw[CL]at h2 ⊢;have h5:(now / every+(j:Int)+1) * every=every * (now / every+(j:Int))+every:=by
  rw[Int.add_mul,Int.one_mul,Int.mul_comm]
 constructor
 ·intro h;have h6:=Int.emod_add_mul_ediv x every;rw[h]at h6;have h7:every * (now / every+(j:Int))<every * (x / every):=by omega
  have h8:=Int.lt_of_mul_lt_mul_left h7 (by omega);have h9:every * (now / every+(j:Int)+1)≤every * (x / every):=Int.mul_le_mul_of_nonneg_left (by omega) (by omega);rw[Int.mul_comm (now / every+(j:Int)+1)]at h2 ⊢;omega
 rintro rfl;exact Int.mul_emod_left _ _
theorem Il {now every w batch:Int}(h0:0≤now)(he:1≤every)(hb:1≤batch)(hw:0≤w){j:Nat}(h1:(j:Int) * batch≤w)(h2:w<(j:Int) * batch+batch):uG now every (j+1)=now - now % every+(w / batch+1) * every:=by
 have e1:w / batch=(j:Int):=by
  rw[Int.ediv_eq_iff_of_pos (by omega)];exact⟨h1,h2⟩
 have e2:=Int.emod_add_mul_ediv now every;rw[CL,e1];have h5:(now / every+(j:Int)+1) * every=every * (now / every)+((j:Int)+1) * every:=by
  rw[Int.add_assoc,Int.add_mul,Int.mul_comm (now / every)]
 omega
end
section
open Go.TR
theorem gU.plus {F:Hp}{e e':TypeId}{size size':Nat}{p q:Option Addr}{n c n' c':Nat}{cs cs':List Value}(h:gU F e size p n c cs)(hq:gU F e' size' q n' c' cs')(hne:e≠e'){b:Nat}{o:Obj}(hb:q=some ⟨b,0,none⟩∨F b=none):gU (F.plus b o) e size p n c cs:=by
 refine gU.other h fun b2 hp e2=>?_;subst e2;obtain⟨_,_,h3⟩:=h;rcases h3 with⟨h3,_,_⟩ | ⟨b3,cur,h4,h5,_⟩
 ·rw[h3]at hp;cases hp
 rw[hp]at h4;obtain rfl:b2=b3:=by cases h4;rfl
 rcases hb with hb | hb
 ·obtain⟨_,_,g3⟩:=hq;rcases g3 with⟨g3,_,_⟩ | ⟨b4,aaz,g4,g5,_⟩
  ·rw[g3]at hb;cases hb
  rw[hb]at g4;obtain rfl:b2=b4:=by cases g4;rfl
  rw[h5]at g5;cases g5;exact hne rfl
 rw[h5]at hb;cases hb
theorem rm {now every:Int}(he:1≤every)(h1:every≤1000)(h0:0≤now)(h2:now≤1000000000): ∀j:Nat,0≤uG now every j∧uG now every j≤1000000000+(j:Int) * 1000
 | 0=>by unfold uG;simp;omega
 | j+1=>by
  have:=rm he h1 h0 h2 j;have h3:=NQ he h0 j (now:=now);omega
theorem Mv (bA:Nat)(bs:List Bk)(hs:List Head)(bh bb n m:Nat): ∀id r,fR [(5,(⟨some bb,(bs.map Bk.v).map .v,42,n⟩:kj)),(4,⟨some bh,(hs.flatMap Head.row).map .v,41,m⟩),(3,Go.TR.mark bA)] id=some r→id<6∧ ∀e∈r.cells,EV.lt 6 e:=fun id r hr=>by
 rw[e8]at hr;split at hr
 ·cases hr;exact⟨by omega,fun e he=>lu _ e he⟩
 rw[e8]at hr;split at hr
 ·cases hr;exact⟨by omega,fun e he=>lu _ e he⟩
 rw[e8]at hr;split at hr
 ·cases hr;exact⟨by omega,fun e he=>by rw[aB.1 he];trivial⟩
 simp[fR]at hr
theorem E7 (n:Nat)(l:List Value):(l.map EV.v).map (gX n)=l.map EV.v:=by
 rw[cL];rfl
theorem Bn (n bA:Nat)(bs:List Bk)(hs:List Head)(bh bb i j:Nat):gB n [(5,(⟨some bb,(bs.map Bk.v).map .v,42,i⟩:kj)),(4,⟨some bh,(hs.flatMap Head.row).map .v,41,j⟩),(3,Go.TR.mark bA)]=[(n+5,(⟨some bb,(bs.map Bk.v).map .v,42,i⟩:kj)),(n+4,⟨some bh,(hs.flatMap Head.row).map .v,41,j⟩),(n+3,Go.TR.mark bA)]:=by
 unfold gB gV;simp only[a9,cM];rw[E7,E7];rfl
theorem Fi (now every:Int):uG now every 0=now:=by unfold uG;rw[aZ rfl]
attribute [local irreducible] vc dT gx fc fA gC gG gw fG Plain eu eR dH VS fq fx fD ju fe IntKind.wrap
attribute [local irreducible] dV gK ir gH fK ga fg fp jD jF eJ gn uG Hp.plus
set_option maxRecDepth 100000
set_option maxHeartbeats 4000000
theorem JD (c:eE)(l:jf)(x:Ask)(hG:Good c)(hw:c.wf)(hx:x.wf){F:Hp}(ha:c.at F l):iu Tryz.prog F 72 [c.v l,x.v] (fun y F'=>∃l',y=triple ((jj c x).v l') (i64 (pG c x)) (i64 (oz c x))∧(jj c x).at F' l'):=by
 have h0:=hG.fault;have hS:=hG.small;obtain⟨q1,q2,q3,_⟩:=lf hG.queue;obtain⟨t1,t2,t3,t4,t5,t6⟩:=hG.times;have hlen:=hG.lens;have hsp:=sT (a:=x) h0;refine eu.drop (fU (N:=74) (rv:=[.cell 4 28,.tmp 5,.tmp 6]) eP mixed Tryz.func72 rfl rfl rfl rfl rfl ?_);(refine run ?_;repeat intro b);rename_i bc ba;revert b;intro br;refine dG _ rfl rfl rfl TY rfl (D2 x.name x.value hx.name F) ?_;(refine run ?_;repeat intro b);refine ez (decide (eJ x.name x.value≠0)) ?_ (fun f0=>?_) (fun f0=>?_)
 ·refine dS ?_;rw[ai];simp
 ·have f0:=ar f0;rw[aZ f0]at hsp;obtain⟨e1,e2⟩:=mC (c:=c) (a:=x) (by rw[hsp];exact f0);rw[hsp,e1,e2];(refine run ?_;repeat intro b);exact eM (VS.id ⟨_,rfl,jf.nil,rfl,eE.kx _⟩)
 have f0:eJ x.name x.value=0:=by have:=au f0;omega
 have hgn:=(EN f0).1;have hne:x.name≠[]:=fun e=>by rw[e]at hgn;exact absurd hgn (by decide)
 have hmo:o7 x.name=[x.name]:=by unfold o7;rw[aY hne]
 have hno:=GB c l x.name hw (by omega) (by rw[hmo];exact AP hS (by omega) [x.name] (ah 1)) hx.name ha;rw[hmo]at hno;rw[f0,aY (by decide)]at hsp;(refine run ?_;repeat intro b);refine dG _ rfl rfl rfl Rn rfl (qk c l F) ?_;(refine run ?_;repeat intro b);refine ez (gn c) rfl (fun h1=>?_) (fun h1=>?_)
 ·rw[aZ h1]at hsp;obtain⟨e1,e2⟩:=mC (c:=c) (a:=x) (by rw[hsp];decide);rw[hsp,e1,e2];(refine run ?_;repeat intro b);exact eM (VS.id ⟨_,rfl,jf.nil,rfl,eE.kx _⟩)
 rw[aY (by rw[h1];decide)]at hsp;(refine run ?_;repeat intro b);refine gi _ rfl rfl rfl rfl Wi rfl rfl (fun _=>hno) ?_;(refine run ?_;repeat intro b);refine ez (decide ((c.queue.wait.length:Int)=c.queue.most∨24<jF c [x.name])) ?_ (fun h2=>?_) (fun h2=>?_)
 ·refine dS ?_;rw[fu,ai];simp;omega
 ·rw[aZ (ar h2)]at hsp;obtain⟨e1,e2⟩:=mC (c:=c) (a:=x) (by rw[hsp];decide);rw[hsp,e1,e2];(refine run ?_;repeat intro b);exact eM (VS.id ⟨_,rfl,jf.nil,rfl,eE.kx _⟩)
 have h2:=au h2;rw[aY h2]at hsp;obtain⟨e1,e2⟩:=pI (c:=c) (a:=x) hsp;rw[hsp,e1,e2];(refine run ?_;repeat intro b);refine rJ rfl rfl rfl Q0 rfl (wO c l hS (by omega) (by omega) ha) ?_;rintro _ F1 _ hF1 ⟨l',bA,bh,bb,bs,rfl,hO,rfl⟩;refine⟨6,.v (c.v l'),Mv bA bs c.dP bh bb _ _,rfl,?_⟩;obtain⟨lw,Ga,lh,HX,lb,FY⟩:=l';obtain⟨hsw,Rb,rfl,hch,rfl,hcb,hbs,Ds⟩:=hO;simp only at hsw Rb hch hcb;rw[Bn];have hbl:=ln hbs;refine fT (VS.iz (n:=c.dP.length) (c:=HX) 7 [2,3,4,40] rfl (eD _) rfl rfl rfl (dL eW _) hch (by rw[dL eW];omega) fun Fa hsa FZ _=>?_);refine VS.iz (n:=c.ee.length) (c:=FY) (cs:=bs.map Bk.v) 8 [2,3,4,40] rfl (by rw[e9];exact eD _) rfl rfl rfl (by rw[ab,hbl,aA]) hcb (by rw[ab,hbl];omega) fun Fb hsb hB0 _=>VS.id ?_;have hH0:=gU.kz hsb FZ;have WT:=hsa.trans hsb
 replace hsw:=gU.kz WT hsw
 replace Ds: ∀s∈bs,DO Fb s:=fun s hs=>gU.kz WT (Ds s hs)
 (refine run ?_;repeat intro b);rename_i bo;have hfx:((c.queue.wait++[x]).flatMap Ask.cells)=c.queue.wait.flatMap Ask.cells++x.cells:=vg _ _;by_cases S8:lw=none
 ·subst S8;obtain⟨hn0,hc0⟩:c.queue.wait.length=0∧Ga=0:=by
   rcases hsw.2.2 with⟨_,h4,h5⟩ | ⟨b4,_,h4,_⟩
   ·exact⟨h4,h5⟩
   cases h4
  obtain rfl:Ga=c.queue.wait.length:=by omega
  refine jy (c.queue.wait.flatMap Ask.cells) rfl rfl rfl rfl rfl rfl (dL gj _) hsw.kq (fb rfl rfl) (rU _ x) (by show _ * 48≤_;omega) (fun h=>by cases h) (fun _ b2 c2 hc2=>?_);have hcells:(c.queue.wait.flatMap Ask.cells).map EV.v++x.cells.map EV.v=((c.queue.wait++[x]).flatMap Ask.cells).map EV.v:=by rw[hfx,aF]
  refine fT (VS.freeze 11 [2,3,4,8,46] rfl ((a8 (iU _) hcells).trans (eD _)) rfl rfl fun F2 hs2 hW=>VS.id ?_);have hWc:=hc2;have hH:=gU.kz hs2 hH0;have hB:=gU.kz hs2 hB0;have Zh: ∀s∈bs,DO F2 s:=fun s hs=>gU.kz hs2 (Ds s hs);(refine run ?_;repeat intro b);refine fM (by kernel_rfl) ?_;(refine run ?_;repeat intro b);refine eU (fun q:Nat×Int=>0≤q.2∧(q.1:Int) * c.batch+q.2=(c.queue.wait.length:Int))
   (fun q=>⟨[(9,.v (i64 (uG c.now c.every q.1))),(10,.v (i64 q.2)),(2,.loc 0 0),(4,.loc 2 0),(8,.loc 9 0)],F2,[(9,⟨some bo,[.v (i64 c.queue.most),.v (.slice (some ⟨b2,0,none⟩) (c.queue.wait.length+1) c2),.v (i64 c.batch),.v (i64 c.every),.v (i64 c.now),.v (.slice (some ⟨bh,0,none⟩) c.dP.length HX),.v (.slice (some ⟨bb,0,none⟩) c.ee.length FY)],28,7⟩),
    (2,⟨some br,[.v (i64 0),.v (.slice none 0 0),.v (i64 0),.v (i64 0),.v (i64 0),.v (.slice none 0 0),.v (.slice none 0 0)],28,7⟩),
    (0,⟨some bc,[.v (i64 c.queue.most),.v (.slice l.w c.queue.wait.length l.cw),.v (i64 c.batch),.v (i64 c.every),.v (i64 c.now),.v (.slice l.h c.dP.length l.ch),.v (.slice l.b c.ee.length l.cb)],28,7⟩)],12⟩) (fun q=>q.2.toNat) (0,(c.queue.wait.length:Int)) ⟨by simp only;omega,by simp⟩ (by rw[Fi];exact VS.iy [10,6,1] rfl (VS.eH [9,10,2,4,8] rfl rfl)) ?_
  rintro⟨j,L⟩ ⟨hL0,hL⟩;dsimp only at hL0 hL ⊢;have hj1:(j:Int) * 1≤(j:Int) * c.batch:=Int.mul_le_mul_of_nonneg_left t1 (by omega);have hjb:=rm t3 t4 t5 t6 j;have hjb1:=rm t3 t4 t5 t6 (j+1);obtain⟨hle1,hle2⟩:=NQ t3 t5 j;have hmid:=fun x=>Nb (now:=c.now) (every:=c.every) (x:=x) t3 (j:=j);have hlast:=Il (w:=(c.queue.wait.length:Int)) t5 t3 t1 (by omega) (j:=j);have hjw:(j:Int)≤30:=by omega
  have hjs:((j+1:Nat):Int)=(j:Int)+1:=by omega
  rw[hjs]at hjb1;generalize hT:uG c.now c.every j=T at *;generalize hT1:uG c.now c.every (j+1)=T1 at *;(refine run ?_;repeat intro b);rw[wrap_i64 (n:=T+1) (by omega) (by omega)];(refine run ?_;repeat intro b);refine eU (fun x:Int=>T<x∧x≤T1)
   (fun x=>⟨[(9,.v (i64 x)),(10,.v (i64 L)),(2,.loc 0 0),(4,.loc 2 0),(8,.loc 9 0)],F2,[(9,⟨some bo,[.v (i64 c.queue.most),.v (.slice (some ⟨b2,0,none⟩) (c.queue.wait.length+1) c2),.v (i64 c.batch),.v (i64 c.every),.v (i64 c.now),.v (.slice (some ⟨bh,0,none⟩) c.dP.length HX),.v (.slice (some ⟨bb,0,none⟩) c.ee.length FY)],28,7⟩),
    (2,⟨some br,[.v (i64 0),.v (.slice none 0 0),.v (i64 0),.v (i64 0),.v (i64 0),.v (.slice none 0 0),.v (.slice none 0 0)],28,7⟩),
    (0,⟨some bc,[.v (i64 c.queue.most),.v (.slice l.w c.queue.wait.length l.cw),.v (i64 c.batch),.v (i64 c.every),.v (i64 c.now),.v (.slice l.h c.dP.length l.ch),.v (.slice l.b c.ee.length l.cb)],28,7⟩)],12⟩) (fun x=>(T1 - x).toNat) (T+1) ⟨by omega,by omega⟩ (VS.eH [9,10,2,4,8] rfl rfl) ?_
  rintro x ⟨hx1,hx2⟩;dsimp only;have hm:=hmid x hx1 hx2;(refine run ?_;repeat intro b);refine dI rfl rfl rfl (by omega) ?_;rw[rn (by omega)];(refine run ?_;repeat intro b);refine ez (decide (x % c.every≠0)) ?_ (fun g=>?_) (fun g=>?_)
  ·refine dS ?_;rw[ai];simp
  ·have g:=ar g;have hxn:x≠T1:=fun e=>g (hm.2 e);(refine run ?_;repeat intro b);rw[wrap_i64 (n:=x+1) (by omega) (by omega)];exact fj (x+1) ⟨by omega,by omega⟩ (by omega) (VS.eH [9,10,2,4,8] rfl rfl)
  have g:x % c.every=0:=by have:=au g;omega
  obtain rfl:=hm.1 g;(refine run ?_;repeat intro b);refine ez (decide (L<c.batch)) rfl (fun g2=>?_) (fun g2=>?_)
  ·have g2:=ar g2;rw[←hlast (by omega) (by omega)];(refine run ?_;repeat intro b);exact eM (VS.id ⟨_,rfl,⟨(some ⟨b2,0,none⟩),c2,some ⟨bh,0,none⟩,HX,some ⟨bb,0,none⟩,FY⟩,(by simp only[eE.v,ag];rfl),hW,(by rw[ag];exact hWc),hH.kq,hH.2.1,hB.2.1,bs,hbs,hB.kq,fun s hs=>(Zh s hs).at⟩)
  have g2:=au g2;have hjn:((j+1:Nat):Int) * c.batch=(j:Int) * c.batch+c.batch:=by rw[hjs,Int.add_mul,Int.one_mul]
  (refine run ?_;repeat intro b);rw[wrap_i64 (n:=L - c.batch) (by omega) (by omega),←hT1];exact fj (j+1,L - c.batch) ⟨by simp only;omega,by simp only;rw[hjn];omega⟩ (by simp only;omega) (VS.eH [9,10,2,4,8] rfl rfl)
 obtain⟨b1,aaA,e3,e4,_⟩: ∃b cur,lw=some ⟨b,0,none⟩∧Fb b=some (.cells cur 35 (0,0))∧True:=by
  rcases hsw.2.2 with⟨h4,_⟩ | ⟨b4,cur,h4,h5,_⟩
  ·exact absurd h4 S8
  exact⟨b4,cur,h4,h5,trivial⟩
 refine RA (m:=1) (b0:=bA) (id:=6) (vs:=x.cells) eP rfl rfl rfl rfl rfl rfl (fb rfl rfl) (rU _ x) (by decide) rfl (by show _ * 48≤_;omega) rfl (mY bA) e4 (Rb _ e3) hsw Rb (fun b2 c2 o2 hb2 hs2=>?_);have hb2':lw=some ⟨b2,0,none⟩∨Fb b2=none:=by
  rcases hb2 with h | h
  ·exact .inl h
  exact .inr h.1
 have hW:eY (Fb.plus b2 o2) (some ⟨b2,0,none⟩) ((c.queue.wait++[x]).flatMap Ask.cells):=by rw[hfx];exact hs2.kq
 have hWc:=hs2.2.1;have hH:=gU.plus hH0 hsw (by decide) hb2' (o:=o2);have hB:=gU.plus hB0 hsw (by decide) hb2' (o:=o2);have Zh: ∀s∈bs,DO (Fb.plus b2 o2) s:=fun s hs=>gU.plus (Ds s hs) hsw (by decide) hb2' (o:=o2);(refine run ?_;repeat intro b);refine fM (by kernel_rfl) ?_;(refine run ?_;repeat intro b);refine eU (fun q:Nat×Int=>0≤q.2∧(q.1:Int) * c.batch+q.2=(c.queue.wait.length:Int))
  (fun q=>⟨[(9,.v (i64 (uG c.now c.every q.1))),(10,.v (i64 q.2)),(2,.loc 0 0),(4,.loc 2 0),(8,.loc 9 0)],(Fb.plus b2 o2),[(9,⟨some bo,[.v (i64 c.queue.most),.v (.slice (some ⟨b2,0,none⟩) (c.queue.wait.length+1) c2),.v (i64 c.batch),.v (i64 c.every),.v (i64 c.now),.v (.slice (some ⟨bh,0,none⟩) c.dP.length HX),.v (.slice (some ⟨bb,0,none⟩) c.ee.length FY)],28,7⟩),
   (2,⟨some br,[.v (i64 0),.v (.slice none 0 0),.v (i64 0),.v (i64 0),.v (i64 0),.v (.slice none 0 0),.v (.slice none 0 0)],28,7⟩),
   (0,⟨some bc,[.v (i64 c.queue.most),.v (.slice l.w c.queue.wait.length l.cw),.v (i64 c.batch),.v (i64 c.every),.v (i64 c.now),.v (.slice l.h c.dP.length l.ch),.v (.slice l.b c.ee.length l.cb)],28,7⟩)],11⟩) (fun q=>q.2.toNat) (0,(c.queue.wait.length:Int)) ⟨by simp only;omega,by simp⟩ (by rw[Fi];exact VS.iy [10,6,1] rfl (VS.eH [9,10,2,4,8] rfl rfl)) ?_
 rintro⟨j,L⟩ ⟨hL0,hL⟩;dsimp only at hL0 hL ⊢;have hj1:(j:Int) * 1≤(j:Int) * c.batch:=Int.mul_le_mul_of_nonneg_left t1 (by omega);have hjb:=rm t3 t4 t5 t6 j;have hjb1:=rm t3 t4 t5 t6 (j+1);obtain⟨hle1,hle2⟩:=NQ t3 t5 j;have hmid:=fun x=>Nb (now:=c.now) (every:=c.every) (x:=x) t3 (j:=j);have hlast:=Il (w:=(c.queue.wait.length:Int)) t5 t3 t1 (by omega) (j:=j);have hjw:(j:Int)≤30:=by omega
 have hjs:((j+1:Nat):Int)=(j:Int)+1:=by omega
 rw[hjs]at hjb1;generalize hT:uG c.now c.every j=T at *;generalize hT1:uG c.now c.every (j+1)=T1 at *;(refine run ?_;repeat intro b);rw[wrap_i64 (n:=T+1) (by omega) (by omega)];(refine run ?_;repeat intro b);refine eU (fun x:Int=>T<x∧x≤T1)
  (fun x=>⟨[(9,.v (i64 x)),(10,.v (i64 L)),(2,.loc 0 0),(4,.loc 2 0),(8,.loc 9 0)],(Fb.plus b2 o2),[(9,⟨some bo,[.v (i64 c.queue.most),.v (.slice (some ⟨b2,0,none⟩) (c.queue.wait.length+1) c2),.v (i64 c.batch),.v (i64 c.every),.v (i64 c.now),.v (.slice (some ⟨bh,0,none⟩) c.dP.length HX),.v (.slice (some ⟨bb,0,none⟩) c.ee.length FY)],28,7⟩),
   (2,⟨some br,[.v (i64 0),.v (.slice none 0 0),.v (i64 0),.v (i64 0),.v (i64 0),.v (.slice none 0 0),.v (.slice none 0 0)],28,7⟩),
   (0,⟨some bc,[.v (i64 c.queue.most),.v (.slice l.w c.queue.wait.length l.cw),.v (i64 c.batch),.v (i64 c.every),.v (i64 c.now),.v (.slice l.h c.dP.length l.ch),.v (.slice l.b c.ee.length l.cb)],28,7⟩)],11⟩) (fun x=>(T1 - x).toNat) (T+1) ⟨by omega,by omega⟩ (VS.eH [9,10,2,4,8] rfl rfl) ?_
 rintro x ⟨hx1,hx2⟩;dsimp only;have hm:=hmid x hx1 hx2;(refine run ?_;repeat intro b);refine dI rfl rfl rfl (by omega) ?_;rw[rn (by omega)];(refine run ?_;repeat intro b);refine ez (decide (x % c.every≠0)) ?_ (fun g=>?_) (fun g=>?_)
 ·refine dS ?_;rw[ai];simp
 ·have g:=ar g;have hxn:x≠T1:=fun e=>g (hm.2 e);(refine run ?_;repeat intro b);rw[wrap_i64 (n:=x+1) (by omega) (by omega)];exact fj (x+1) ⟨by omega,by omega⟩ (by omega) (VS.eH [9,10,2,4,8] rfl rfl)
 have g:x % c.every=0:=by have:=au g;omega
 obtain rfl:=hm.1 g;(refine run ?_;repeat intro b);refine ez (decide (L<c.batch)) rfl (fun g2=>?_) (fun g2=>?_)
 ·have g2:=ar g2;rw[←hlast (by omega) (by omega)];(refine run ?_;repeat intro b);exact eM (VS.id ⟨_,rfl,⟨(some ⟨b2,0,none⟩),c2,some ⟨bh,0,none⟩,HX,some ⟨bb,0,none⟩,FY⟩,(by simp only[eE.v,ag];rfl),hW,(by rw[ag];exact hWc),hH.kq,hH.2.1,hB.2.1,bs,hbs,hB.kq,fun s hs=>(Zh s hs).at⟩)
 have g2:=au g2;have hjn:((j+1:Nat):Int) * c.batch=(j:Int) * c.batch+c.batch:=by rw[hjs,Int.add_mul,Int.one_mul]
 (refine run ?_;repeat intro b);rw[wrap_i64 (n:=L - c.batch) (by omega) (by omega),←hT1];exact fj (j+1,L - c.batch) ⟨by simp only;omega,by simp only;rw[hjn];omega⟩ (by simp only;omega) (VS.eH [9,10,2,4,8] rfl rfl)
end
end Go.Proofs.YthbnddgjkonkdaaGreatDoor
