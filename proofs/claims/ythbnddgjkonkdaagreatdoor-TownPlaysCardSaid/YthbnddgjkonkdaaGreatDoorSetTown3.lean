/- A part of the proof. -/
import Derived.Test.YthbnddgjkonkdaaGreatDoorSetNetOwn
set_option linter.unusedVariables false
set_option linter.unusedSimpArgs false
namespace Go.Proofs.YthbnddgjkonkdaaGreatDoor
section
open Go.TR
theorem oX {n:NP}{l:mJ}{fs:List Int}{e:Int}(h:lD n fs=e)(h0:e≠0)(F:Hp):IK n l fs (pair NP.none.v (i64 e)) F:=by
 subst h;exact⟨NP.none,rfl,NP.xr F,by decide,by rw[aY h0];rfl,by rw[aY h0];rfl⟩
theorem uH {n:NP}{l:mJ}{fs:List Int}{F:Hp}(h:lD n fs=0)(M:List LP){p:Option Addr}{c len:Nat}(hlen:M.length=len)(hM:M.map LP.l=I5 n l fs)(hl:M.length≤60)(hf:eY F p (M.flatMap LP.row))(ha: ∀x∈M,x.at F):IK n l fs (pair (.agg #[i64 n.now,.slice p len c]) (i64 0)) F:=by
 subst hlen;exact⟨⟨n.now,M,p,c⟩,by rw[h],⟨hf,ha⟩,by simp only;omega,by rw[aZ h],by rw[aZ h];exact hM⟩
theorem AK {fs:List Int}(h:fs.any jZ=false){k:Nat}(hk:k<fs.length):1≤fs[k]∧fs[k]≤100:=by
 have:=bJ.1 h _ (aj hk);simp only[jZ,bD,av,not_or]at this;omega
def Qj (n:NP)(F:Hp)(q:Hp×List LP×Option Nat×Nat×Nat):Prop:=F.sub q.1∧q.2.1.map LP.l=n.gz.map LP.l∧(∀y∈q.2.1,y.at q.1)∧n.gz.length≤q.2.2.2.1∧(q.2.2.1=none→n.gz.length=0∧q.2.2.2.1=0)
def P8 (n:NP)(l:mJ)(fs:List Int)(F:Hp)(q:Nat×List LP×Hp×Option Nat×Nat):Prop:=q.1≤fs.length∧q.2.1.map LP.l=n.gz.map LP.l++((fs.take q.1).map fun k=>l.by (n.now+k))∧(∀y∈q.2.1,y.at q.2.2.1)∧F.sub q.2.2.1∧(q.2.2.2.1=none→n.gz.length+q.1=0∧q.2.2.2.2=0)∧n.gz.length+q.1≤q.2.2.2.2
attribute [local irreducible] vc dT gx fc fA gC gG gw fG Plain eu eR dH VS fq fx fD ju fe IntKind.wrap
set_option maxRecDepth 100000
set_option maxHeartbeats 4000000
theorem OP (k:Int)(F:Hp):Plain Tryz.prog F 172 [i64 k] (.bool (jZ k)):=by
 refine dN (N:=9) (rv:=[.tmp 2]) eP mixed Tryz.func172 rfl rfl rfl rfl rfl ?_;(refine run ?_;repeat intro b);rw[fu];rfl
theorem nV (n:NP)(x:LP)(fs:List Int){pf:Option Addr}{cf:Nat}{F:Hp}(hl:n.gz.length≤4611686018427387904)(hw: ∀y∈n.gz,y.l.wf)(hn:n.at F)(wx:x.l.wf)(hx:x.at F)(hfl:fs.length≤4611686018427387904)(Rg:eY F pf (fs.map i64)):
  iu Tryz.prog F 114 [n.v,.agg x.row.toArray,.slice pf fs.length cf] (IK n x.l fs):=by
 refine eu.drop (fU (N:=60) (rv:=[.cell 6 62,.tmp 7]) eP mixed Tryz.func114 rfl rfl rfl rfl rfl ?_);(refine run ?_;repeat intro b);rename_i b0 b1;generalize b=b2;refine dG _ rfl rfl rfl QH rfl (wQ n hl hn) ?_;(refine run ?_;repeat intro b);refine ez (decide (gD n≠0)) ?_ (fun h=>?_) (fun h=>?_)
 ·refine dS ?_;rw[ai];simp
 ·have h:=ar h;(refine run ?_;repeat intro b);exact eM (VS.id ⟨_,rfl,oX (by unfold lD;rw[aZ h]) h F⟩)
 have hz:gD n=0:=by have:=au h;omega
 obtain⟨z1,z2,z3⟩:=oR hz;(refine run ?_;repeat intro b);refine dG _ rfl rfl rfl VR rfl (NN jZ _ #[] Ur fs Rg hfl (fun k _=>OP k _)) ?_;(refine run ?_;repeat intro b);refine ez (fs.any jZ) rfl (fun h=>?_) (fun h=>?_)
 ·(refine run ?_;repeat intro b);exact eM (VS.id ⟨_,rfl,oX (e:=4) (by unfold lD;rw[aY (by simpa using hz),aZ h]) (by decide) F⟩)
 have hbad:=h;have hE:lD n fs=if 60<n.gz.length+fs.length then 7 else 0:=by unfold lD;rw[aY (by simpa using hz),aY (by rw[h];decide)]
 (refine run ?_;repeat intro b);refine ez (decide (60<n.gz.length+fs.length)) ?_ (fun h=>?_) (fun h=>?_)
 ·refine dS ?_;rw[wrap_i64 (by omega) (by omega),ai];simp;omega
 ·rw[aZ (ar h)]at hE;(refine run ?_;repeat intro b);exact eM (VS.id ⟨_,rfl,oX hE (by decide) F⟩)
 have hlen:=au h;rw[aY hlen]at hE;(refine run ?_;repeat intro b);refine k7 (Qj n F)
  (fun q=>⟨[(2,.v (.slice pf fs.length cf)),(3,.loc 0 0),(4,.loc 1 0),(6,.loc 2 0),(9,.loc 5 0)],q.1,[(0,⟨some b0,[.v (i64 n.now),.v (.slice n.p n.gz.length n.c)],62,2⟩),(1,⟨some b1,x.row.map .v,71,12⟩),(2,⟨some b2,[.v (i64 0),.v (.slice none 0 0)],62,2⟩),(5,⟨some q.2.2.2.2,[.v (i64 n.now),.row 6 0 n.gz.length q.2.2.2.1],62,2⟩),(6,⟨q.2.2.1,(q.2.1.flatMap LP.row).map .v,71,q.2.2.2.1 * 12⟩)],7⟩) rfl ?rest ?reg
 case reg=>
  intro u7 kn kr ke;refine fz [0] (by kernel_rfl) ?_;refine dR [0,1,2,3] (f':=4) (by kernel_rfl) rfl rfl rfl ?_;(refine run ?_;repeat intro b);refine jC 4 6 (by kernel_rfl) rfl rfl rfl ?_ ?_
  ·refine Je (fun v F' new h=>h) rfl rfl rfl M6 rfl (yn n.gz z3 hw hn.gz hn.each) (fun F1 gl c1 cs hF1 hc1 hb1 hR=>?_);(refine run ?_;repeat intro b);refine eC hF1 (dM rfl) ?_;refine dR [5] (f':=2) (by kernel_rfl) rfl rfl rfl ?_;(refine run ?_;repeat intro b);refine dY 6 (by kernel_rfl) rfl rfl ?_;(refine run ?_;repeat intro b);refine eC (Hp.sub.refl _) (dM rfl) ?_;refine dY 7 (by kernel_rfl) rfl rfl ?_;(refine run ?_;repeat intro b);refine eC (Hp.sub.refl _) (dM rfl) ?_;refine fk (by kernel_rfl) ?_;obtain⟨M,rfl,e2,e3⟩:=hR;refine kn _ (VS.l5 4 [.v (i64 n.now),.row 3 0 n.gz.length c1] rfl ⟨⟨trivial,rfl⟩,⟨(by decide:3<5),rfl⟩,trivial⟩ rfl ?_);exact VS.mM (nx':=7) [(0,0),(1,1),(2,2),(4,5),(3,6)] [2,3,4,6,9] [(0,⟨some b0,[.v (i64 n.now),.v (.slice n.p n.gz.length n.c)],62,2⟩),(1,⟨some b1,x.row.map .v,71,12⟩),(2,⟨some b2,[.v (i64 0),.v (.slice none 0 0)],62,2⟩),(5,⟨some b,[.v (i64 n.now),.row 6 0 n.gz.length c1],62,2⟩),(6,⟨gl,(M.flatMap LP.row).map .v,71,c1 * 12⟩)]
    (dU rfl (dU rfl (dU rfl (dU rfl (ff ⟨_,rfl,rfl,rfl,rfl,.inl ⟨rfl,fun e he=>fw _ e he⟩⟩ trivial))))) rfl rfl rfl rfl rfl rfl ⟨(F1,M,gl,c1,b),⟨hF1,e2,e3,hc1,hb1⟩,rfl⟩
  (refine run ?_;repeat intro b);refine eC (Hp.sub.refl _) (dM rfl) ?_;refine dY 4 (by kernel_rfl) rfl rfl ?_;refine Je (fun v F' new h=>h) rfl rfl rfl M6 rfl (yn n.gz z3 hw hn.gz hn.each) (fun F1 gl c1 cs hF1 hc1 hb1 hR=>?_);(refine run ?_;repeat intro b);refine eC hF1 (dM rfl) ?_;refine dR [5] (f':=1) (by kernel_rfl) rfl rfl rfl ?_;(refine run ?_;repeat intro b);refine dY 7 (by kernel_rfl) rfl rfl ?_;(refine run ?_;repeat intro b);refine eC (Hp.sub.refl _) (dM rfl) ?_;refine fk (by kernel_rfl) ?_;obtain⟨M,rfl,e2,e3⟩:=hR;refine kn _ (VS.l5 3 [.v (i64 n.now),.row 4 0 n.gz.length c1] rfl ⟨⟨trivial,rfl⟩,⟨(by decide:4<5),rfl⟩,trivial⟩ rfl ?_);exact VS.mM (nx':=7) [(0,0),(1,1),(2,2),(3,5),(4,6)] [2,3,4,6,9] [(0,⟨some b0,[.v (i64 n.now),.v (.slice n.p n.gz.length n.c)],62,2⟩),(1,⟨some b1,x.row.map .v,71,12⟩),(2,⟨some b2,[.v (i64 0),.v (.slice none 0 0)],62,2⟩),(5,⟨some b,[.v (i64 n.now),.row 6 0 n.gz.length c1],62,2⟩),(6,⟨gl,(M.flatMap LP.row).map .v,71,c1 * 12⟩)]
   (dU rfl (dU rfl (dU rfl (dU rfl (ff ⟨_,rfl,rfl,rfl,rfl,.inl ⟨rfl,fun e he=>fw _ e he⟩⟩ trivial))))) rfl rfl rfl rfl rfl rfl ⟨(F1,M,gl,c1,b),⟨hF1,e2,e3,hc1,hb1⟩,rfl⟩
 case rest=>
  rintro⟨F1,M,gl,c1,b9⟩ ⟨g1,g2,g3,g4,g5⟩;dsimp only at g1 g2 g3 g4 g5 ⊢;(refine run ?_;repeat intro b);refine eU (P8 n x.l fs F)
   (fun q=>⟨[(3,.loc 0 0),(4,.loc 1 0),(6,.loc 2 0),(9,.loc 5 0),(39,.v (.slice pf fs.length cf)),(40,.v (i64 (fs.length:Nat))),(41,.v (i64 (q.1:Nat)))],q.2.2.1,[(0,⟨some b0,[.v (i64 n.now),.v (.slice n.p n.gz.length n.c)],62,2⟩),(1,⟨some b1,x.row.map .v,71,12⟩),(2,⟨some b2,[.v (i64 0),.v (.slice none 0 0)],62,2⟩),(5,⟨some b9,[.v (i64 n.now),.row 7 0 (n.gz.length+q.1) q.2.2.2.2],62,2⟩),(7,⟨q.2.2.2.1,(q.2.1.flatMap LP.row).map .v,71,q.2.2.2.2 * 12⟩)],8⟩) (fun q=>fs.length - q.1) (0,M,F1,gl,c1) ⟨az _,by rw[g2];simp,g3,g1,g5,g4⟩
   (VS.mM (nx':=8) [(0,0),(1,1),(2,2),(5,5),(6,7)] [3,4,6,9,39,40,41] [(0,⟨some b0,[.v (i64 n.now),.v (.slice n.p n.gz.length n.c)],62,2⟩),(1,⟨some b1,x.row.map .v,71,12⟩),(2,⟨some b2,[.v (i64 0),.v (.slice none 0 0)],62,2⟩),(5,⟨some b9,[.v (i64 n.now),.row 7 0 n.gz.length c1],62,2⟩),(7,⟨gl,(M.flatMap LP.row).map .v,71,c1 * 12⟩)]
    (dU rfl (dU rfl (dU rfl (dU rfl (ff ⟨_,rfl,rfl,rfl,rfl,.inl ⟨rfl,fun e he=>fw _ e he⟩⟩ trivial))))) rfl rfl rfl rfl rfl rfl rfl) ?_
  rintro⟨k,L,F2,FX,cap⟩ ⟨h1,h2,h3,h4,h5,h6⟩;dsimp only at h1 h2 h3 h4 h5 h6 ⊢;have hL:L.length=n.gz.length+k:=by
   have:=a8 List.length h2;simp only[ab,ag,aw]at this;omega
  by_cases hlt:k<fs.length
  ·have g:=gQ Rg (j:=k) (by rw[ab];exact hlt);rw[cD]at g;obtain⟨r1,r2⟩:=AK hbad hlt;have h2':(L.map LP.l)++[x.l.by (n.now+fs[k])]=n.gz.map LP.l++((fs.take (k+1)).map fun k=>x.l.by (n.now+k)):=by rw[h2,al hlt,aF,bM];rfl
   generalize fs[k]=f at g r1 r2 h2';have ew:IntKind.i64.wrap (n.now+f)=n.now+f:=wrap_i64 (by omega) (by omega);(refine run ?_;repeat intro b);refine gm rfl (by omega) ?_;(refine run ?_;repeat intro b);refine dI rfl rfl rfl ⟨by omega,by omega,dO Rg (j:=k) (by rw[ab];exact hlt)⟩ ?_;refine fr (i64 f) rfl rfl rfl rfl (by rw[ae,aA];exact iS h4 g) ?_;(refine run ?_;repeat intro b);refine fi rfl rfl rfl QA rfl (NY x wx (LP.eX h4 hx)) ?_;rintro _ F3 FU ⟨y,rfl,ey,ay⟩;(refine run ?_;repeat intro b);rw[ew];refine fv rfl rfl rfl rfl rfl rfl rfl rfl (fb rfl rfl) (gy _ (qe [(⟨y.l.by (n.now+f),y.ph,y.ch,y.a⟩:LP)])) h5 h6 rfl (by rw[ab,dL je,hL];exact ah _) (by show _ * 152≤_;omega) (fun h=>by cases h) (fun _ b3 c3 hc3=>?_);(refine run ?_;repeat intro b);have hcells:=nU L ⟨y.l.by (n.now+f),y.ph,y.ch,y.a⟩ (n.gz.length+k) hL;rw[dQ (by omega)];exact fE (k+1,L++[(⟨y.l.by (n.now+f),y.ph,y.ch,y.a⟩:LP)],F3,some b3,c3) 7 [(0,0),(1,1),(2,2),(5,5),(10,7)] [3,4,6,9,39,40,41] [(0,⟨some b0,[.v (i64 n.now),.v (.slice n.p n.gz.length n.c)],62,2⟩),(1,⟨some b1,x.row.map .v,71,12⟩),(2,⟨some b2,[.v (i64 0),.v (.slice none 0 0)],62,2⟩),(5,⟨some b9,[.v (i64 n.now),.row 7 0 (n.gz.length+(k+1)) c3],62,2⟩),(7,⟨some b3,((L++[(⟨y.l.by (n.now+f),y.ph,y.ch,y.a⟩:LP)]).flatMap LP.row).map .v,71,c3 * 12⟩)]
    ⟨hlt,by rw[aF,←h2',←ey];rfl,fun z hz=>by rcases aK.1 hz with hz | hz;exact LP.eX FU (h3 z hz);rw[aB.1 hz];exact⟨ay.dP,ay.nJ⟩,h4.trans FU,(fun h=>by cases h),hc3⟩ (by simp only;omega) (aM _ _)
    (dU rfl (dU rfl (dU rfl (dU rfl (ff ⟨_,rfl,rfl,rfl,rfl,.inl ⟨hcells.symm,fun e he=>fw _ e (hcells ▸ he)⟩⟩ trivial))))) rfl rfl rfl rfl rfl rfl rfl
  have hge:k=fs.length:=by omega
  subst hge;rw[aD]at h2;(refine run ?_;repeat intro b);refine gu rfl (by omega) ?_;(refine run ?_;repeat intro b);cases FX with
  | none=>
   obtain⟨e1,e2⟩:=h5 rfl;have e3:L=[]:=aq (by omega);subst e3;exact eM (VS.id ⟨_,rfl,uH hE [] hL h2 (by decide) (eG _ _) (by simp)⟩)
  | some b5=>
   exact eM (VS.freeze 7 [6,7] rfl (eD _) rfl rfl fun F4 hs4 zU=>VS.id ⟨_,rfl,uH hE L hL h2 (by omega) zU (fun z hz=>LP.eX hs4 (h3 z hz))⟩)
end
section
open Go.TR
theorem xz (l:List lU): ∀x∈l.flatMap lU.row,Go.TR.one (.v x)=true:=fun x hx=>by
 obtain⟨a,_,ha⟩:=List.mem_flatMap.1 hx;simp only[lU.row,aT,cZ,dE]at ha;rcases ha with rfl | rfl | rfl | rfl<;>rfl
theorem sr (l:List lU)(x:lU):((l.flatMap lU.row).map EV.v).take (l.length * 4)++x.row.map EV.v=((l++[x]).flatMap lU.row).map EV.v:=by
 rw[an (by rw[ab,dL nv];exact ah _)];simp
attribute [local irreducible] vc dT gx fc fA gC gG gw fG Plain eu eR dH VS fq fx fD ju fe IntKind.wrap
set_option maxRecDepth 100000
set_option maxHeartbeats 4000000
theorem CX (s:TL)(z:Fr)(kind iZ n at_:Int){F:Hp}(h:s.at F)(hn:s.events.length≤1000000):oy s z F 169 [i64 kind,i64 iZ,i64 n,i64 at_] (s.t.note ⟨kind,iZ,n,at_⟩):=by
 refine eR.norm 6 (ah 6) (iQ (N:=24) (rv:=[]) eP mixed Tryz.func169 rfl rfl rfl rfl rfl ?_);(refine run ?_;repeat intro b);refine fv rfl rfl rfl rfl rfl rfl rfl rfl (fb rfl rfl) (gy _ (xz [(⟨kind,iZ,n,at_⟩:lU)])) h.vt h.Js rfl (by rw[ab,dL nv];exact ah _) (by show _ * 32≤_;omega) (fun h=>by cases h) (fun _ b2 c2 hc2=>?_);have hcells:=sr s.events ⟨kind,iZ,n,at_⟩;have hl:(s.events++[(⟨kind,iZ,n,at_⟩:lU)]).length=s.events.length+1:=by simp
 (refine fW ?_;repeat intro b);refine jR (iJ (s':={s with events:=s.events++[⟨kind,iZ,n,at_⟩],be:=some b2,ce:=c2}) 8 [(5,13),(7,12),(3,11),(2,10),(1,9),(0,8)] ?_ rfl rfl rfl rfl (Hp.sub.refl F) rfl
  { h with vt:=(fun h=>by cases h),Js:=(by rw[hl];exact hc2) } rfl)
 rw[TL.gT];dsimp only [TL.cells];rw[hl];exact (dJ rfl rfl (ff ⟨_,rfl,rfl,rfl,rfl,.inl ⟨hcells.symm,fun e he=>fw _ e (hcells ▸ he)⟩⟩ (dJ rfl rfl (dJ rfl rfl (dJ rfl rfl (dU rfl trivial))))))
theorem ya (s:TL)(z:Fr)(x:kj)(k:Int)(F:Hp)(ho:s.dK.length≤4):eR Tryz.prog F ((6,x)::s.rs z) 7 113 [.loc 0 0,.v (i64 k)] (fun e F' rs' nx'=>e= .v (.bool (s.t.owned k))∧F'=F∧rs'=(6,x)::s.rs z∧nx'=7):=by
 refine iQ (N:=17) (rv:=[.tmp 4]) eP mixed Tryz.func113 rfl rfl rfl rfl rfl ?_;(refine run ?_;repeat intro b);refine⟨?_,rfl,rfl,rfl⟩;rw[fH];refine a8 (fun b=>EV.v (.bool b)) ?_;show _=(decide (0≤k)&&decide (k<((s.dK.map jh.o).length:Int)));rw[ab]
end
section
open Go.TR
theorem EM {l:List Value}{j:Nat}{x:Value}(h:l[j]? =some x):(l.map EV.v)[j]? =some (.v x):=by
 rw[aI,h];rfl
theorem TL.Qc {s:TL}{F:Hp}(h:s.at F){f:ot}{r:List ot}(e:s.dX=f::r):s.iY[s.fo]? =some f.v:=by
 have h1:=h.xb;rw[e]at h1;have h2:=a8 (·[0]?) h1;simp only[a9,cr,aH]at h2;rw[cB,aZ (by omega),cu]at h2;simpa using h2
theorem TL.Nm {s:TL}{F:Hp}(h:s.at F){f:ot}{r:List ot}(e:s.dX=f::r):({s with fo:=gR s.fo 1 s.cf 1,dX:=r,cf:=s.cf - 1}:TL).at F:=by
 have hl:s.dX.length=r.length+1:=by rw[e];rfl
 have h1:=h.xb;have h2:=h.xM;have h3:=h.zp;have h4:=h.Pw;have hcase:(s.cf=1∧gR s.fo 1 s.cf 1=s.fo∧r=[])∨gR s.fo 1 s.cf 1=s.fo+1:=by
  unfold gR;split
  ·rename_i hc;exact .inl ⟨by omega,rfl,List.length_eq_zero_iff.1 (by omega)⟩
  exact .inr (by omega)
 refine { h with dX:=(fun x hx=>h.dX x (by rw[e];exact cO _ hx)),xb:=?_,xM:=(by show gR s.fo 1 s.cf 1+r.length≤s.iY.length;omega),zp:=(by show gR s.fo 1 s.cf 1+(s.cf - 1)≤s.xf;omega),Pw:=(by show r.length≤s.cf - 1;omega),vM:=(fun hn=>?_) }
 ·show (s.iY.drop (gR s.fo 1 s.cf 1)).take r.length=r.map ot.v;rcases hcase with⟨_,_,rfl⟩ | h5
  ·rfl
  rw[h5];rw[e]at h1;have:=a8 (List.drop 1) h1;rw[List.drop_take,List.drop_drop,aH]at this;simpa using this
 have:=h.vM hn;omega
theorem TL.vh {s:TL}{F:Hp}(h:s.at F){y:NP}(hy:y.at F):({s with fJ:=y}:TL).at F:={ h with fJ:=hy }
theorem yf (s:TL)(fs:List Int)(h:gD s.fJ=0):lD s.fJ fs=0 ↔ ¬s.t.full fs=true:=by
 unfold lD fm.full;rw[aY (by omega)];simp only[TL.t,ab];cases fs.any jZ<;>simp
theorem pF (s:TL)(y:NP)(l:mJ)(fs:List Int)(h:gD s.fJ=0)(h0:lD s.fJ fs=0)(h1:y.now=s.fJ.now)(h2:y.gz.map LP.l=I5 s.fJ l fs):({s with fJ:=y}:TL).t=s.t.post l fs:=by
 unfold fm.post;rw[aY ((yf s fs h).1 h0)];simp only[TL.t,h1,h2,I5]
theorem sf (s:TL)(l:mJ)(fs:List Int)(h:gD s.fJ=0)(h0:lD s.fJ fs≠0):s.t.post l fs=s.t:=by
 unfold fm.post;rw[aZ];cases hf:s.t.full fs with
 | true=>rfl
 | false=>exact absurd ((yf s fs h).2 (by rw[hf];decide)) h0
attribute [local irreducible] vc dT gx fc fA gC gG gw fG Plain eu eR dH VS fq fx fD ju fe IntKind.wrap
set_option maxRecDepth 100000
set_option maxHeartbeats 4000000
theorem C3 (s:TL)(z:Fr)(x:LP){F:Hp}(h:s.at F)(hx:x.at F)(wx:x.l.wf)(hw: ∀y∈s.fJ.gz,y.l.wf)(hn:s.fJ.gz.length≤60)(FR:gD s.fJ=0)(hf: ∀f∈s.dX,f.f.length≤17592186044416):oy s z F 236 [.agg x.row.toArray] (s.t.send x.l):=by
 refine eR.norm 6 (ah 6) (iQ (N:=46) (rv:=[]) eP mixed Tryz.func236 rfl rfl rfl rfl rfl ?_);(refine run ?_;repeat intro b);rename_i bx;revert b;intro b7;refine k7 (β:=TL×ot×Hp) (fun q=>F.sub q.2.2∧q.1.at q.2.2∧q.1.b0=s.b0∧q.1.fJ=s.fJ∧q.2.1.at q.2.2∧q.2.1.f.length≤17592186044416∧q.1.t.post x.l q.2.1.f=s.t.send x.l) (fun q=>⟨[(0,.loc 0 0),(3,.loc 6 0),(4,.v q.2.1.v)],q.2.2,(6,⟨some bx,x.row.map .v,71,12⟩)::q.1.rs z,8⟩) rfl (fun q hq=>?_) (fun u7 kn kr ke=>?_)
 ·obtain⟨s1,f,F1⟩:=q;obtain⟨hs1,a1,hb0,FT,hf1,hfl,hP⟩:=hq;dsimp only at hs1 a1 hb0 FT hf1 hfl hP ⊢;(refine run ?_;repeat intro b);refine fz [0,6] (by kernel_rfl) ?_;refine dR [0,1,2,3,4,5,6] (f':=7) (by kernel_rfl) rfl rfl rfl ?_;(refine run ?_;repeat intro b);have wn: ∀y∈s1.fJ.gz,y.l.wf:=by rw[FT];exact hw
  have hnf:gD s1.fJ=0:=by rw[FT];exact FR
  have hn1:s1.fJ.gz.length≤4611686018427387904:=by rw[FT];omega
  refine jC 7 11 (by kernel_rfl) rfl rfl rfl ?_ ?_
  ·refine fi rfl rfl rfl DA rfl (nV s1.fJ x f.f hn1 wn a1.fJ wx (LP.eX hs1 hx) (by omega) hf1) ?_;rintro _ F2 hs2 ⟨y,rfl,hy,hyl,hy1,hy2⟩;(refine run ?_;repeat intro b);refine eC hs2 (dM rfl) ?_;refine dR [8,9,10] (f':=3) (by kernel_rfl) rfl rfl rfl ?_;(refine run ?_;repeat intro b);refine dY 11 (by kernel_rfl) rfl rfl ?_;(refine run ?_;repeat intro b);refine eC (Hp.sub.refl _) (dM rfl) ?_;refine dY 12 (by kernel_rfl) rfl rfl ?_;(refine run ?_;repeat intro b);refine eC (Hp.sub.refl _) (dM rfl) ?_;refine dY 13 (by kernel_rfl) rfl rfl ?_;(refine run ?_;repeat intro b);refine eC (Hp.sub.refl _) (dM rfl) ?_;refine fk (by kernel_rfl) ?_;(refine run ?_;repeat intro b);refine ez (decide (lD s1.fJ f.f=0)) ?_ (fun h0=>?_) (fun h0=>?_)
   ·refine dS ?_;rw[ai];simp
   ·have h0:=ar h0;rw[aZ h0]at hy1 hy2;(refine fW ?_;repeat intro b);refine jR (iJ (s':={s1 with fJ:=y}) 9 [(5,14),(4,13),(3,12),(2,11),(1,10),(0,9)] ?_ rfl rfl rfl rfl (hs1.trans hs2) (hP ▸ pF s1 y x.l f.f hnf h0 hy1 hy2) (TL.vh (TL.eX hs2 a1) hy) hb0);rw[TL.gT];exact (dJ rfl rfl (dJ rfl rfl (dJ rfl rfl (dJ rfl rfl (dJ rfl rfl (dU rfl trivial))))))
   have h0:=au h0;(refine fW ?_;repeat intro b);refine jR (iJ (s':=s1) 9 [(5,14),(4,13),(3,12),(2,11),(1,10),(0,9)] ?_ rfl rfl rfl rfl (hs1.trans hs2) (hP ▸ (sf s1 x.l f.f hnf h0).symm) (TL.eX hs2 a1) hb0);rw[TL.gT];exact (dJ rfl rfl (dJ rfl rfl (dJ rfl rfl (dJ rfl rfl (dJ rfl rfl (dU rfl trivial))))))
  (refine run ?_;repeat intro b);refine eC (Hp.sub.refl _) (dM rfl) ?_;refine dY 7 (by kernel_rfl) rfl rfl ?_;refine fi rfl rfl rfl DA rfl (nV s1.fJ x f.f hn1 wn a1.fJ wx (LP.eX hs1 hx) (by omega) hf1) ?_;rintro _ F2 hs2 ⟨y,rfl,hy,hyl,hy1,hy2⟩;(refine run ?_;repeat intro b);refine eC hs2 (dM rfl) ?_;refine dR [8,9,10] (f':=2) (by kernel_rfl) rfl rfl rfl ?_;(refine run ?_;repeat intro b);refine dY 12 (by kernel_rfl) rfl rfl ?_;(refine run ?_;repeat intro b);refine eC (Hp.sub.refl _) (dM rfl) ?_;refine dY 13 (by kernel_rfl) rfl rfl ?_;(refine run ?_;repeat intro b);refine eC (Hp.sub.refl _) (dM rfl) ?_;refine fk (by kernel_rfl) ?_;(refine run ?_;repeat intro b);refine ez (decide (lD s1.fJ f.f=0)) ?_ (fun h0=>?_) (fun h0=>?_)
  ·refine dS ?_;rw[ai];simp
  ·have h0:=ar h0;rw[aZ h0]at hy1 hy2;(refine fW ?_;repeat intro b);refine jR (iJ (s':={s1 with fJ:=y}) 9 [(5,14),(4,13),(3,12),(2,11),(1,10),(0,9)] ?_ rfl rfl rfl rfl (hs1.trans hs2) (hP ▸ pF s1 y x.l f.f hnf h0 hy1 hy2) (TL.vh (TL.eX hs2 a1) hy) hb0);rw[TL.gT];exact (dJ rfl rfl (dJ rfl rfl (dJ rfl rfl (dJ rfl rfl (dJ rfl rfl (dU rfl trivial))))))
  have h0:=au h0;(refine fW ?_;repeat intro b);refine jR (iJ (s':=s1) 9 [(5,14),(4,13),(3,12),(2,11),(1,10),(0,9)] ?_ rfl rfl rfl rfl (hs1.trans hs2) (hP ▸ (sf s1 x.l f.f hnf h0).symm) (TL.eX hs2 a1) hb0);rw[TL.gT];exact (dJ rfl rfl (dJ rfl rfl (dJ rfl rfl (dJ rfl rfl (dJ rfl rfl (dU rfl trivial))))))
 refine ez (decide (0<s.dX.length)) ?_ (fun h0=>?_) (fun h0=>?_)
 ·refine dS ?_;rw[ai];simp
 ·obtain⟨f,r,e⟩: ∃f r,s.dX=f::r:=by
   cases hh:s.dX with
   | nil=>rw[hh]at h0;cases h0
   | cons f r=>exact⟨f,r,rfl⟩
  have e0:=TL.Qc h e;have hl:s.dX.length=r.length+1:=by rw[e];rfl
  have hle:=h.Pw;obtain⟨bf,hbf⟩: ∃b,s.bf=some b:=by
   cases hh:s.bf with
   | some b=>exact⟨b,rfl⟩
   | none=>have:=h.vM hh;omega
  have hf1:=h.dX f (by rw[e];exact cP);have hf2:=hf f (by rw[e];exact cP);have Wx:=TL.Nm h e;have es:s.t.send x.l=fm.post ({s with fo:=gR s.fo 1 s.cf 1,dX:=r,cf:=s.cf - 1}:TL).t x.l f.f:=by
   unfold fm.send;simp only[TL.t,e,a9]
  rw[es]at kn;clear kr ke es;obtain⟨dF,cl,dK,polls,fJ,reach,iY,fo,dX,events,b0,bo,co,bp,cp,bf0,cf,xf,be,ce⟩:=s;dsimp only at *;subst hbf;dsimp only [TL.rs,TL.cells];(refine run ?_;repeat intro b);refine jK 15 (by kernel_rfl) rfl rfl ?_;(refine run ?_;repeat intro b);refine dI rfl rfl rfl ⟨by omega,by omega,_,_,rfl,rfl⟩ ?_;refine od f.v rfl rfl rfl rfl rfl (by exact EM (by simpa using e0)) ?_;(refine run ?_;repeat intro b);refine dI rfl rfl rfl ⟨by omega,by omega⟩ ?_;(refine run ?_;repeat intro b);refine kn _ (VS.freeze 7 [0,3,4] rfl rfl rfl rfl fun F1 hs1 hf3=>VS.id ?_);rw[e9,e9,e9,e9,e9];subst e;exact⟨(⟨dF,cl,dK,polls,fJ,reach,iY,gR fo 1 cf 1,r,events,b0,bo,co,bp,cp,some bf,cf - 1,xf,be,ce⟩,f,F1),⟨hs1,TL.eX hs1 Wx,rfl,rfl,ot.eX hs1 hf1,hf2,rfl⟩,rfl⟩
 (refine run ?_;repeat intro b);refine kn _ (VS.freeze 7 [0,3,4] rfl rfl rfl rfl fun F1 hs1 hf1=>VS.id ?_);rw[e9,e9,e9,e9,e9];refine⟨(s,⟨[1],some ⟨b7,0,none⟩,1⟩,F1),⟨hs1,TL.eX hs1 h,rfl,rfl,hf1,(show 1≤17592186044416 by decide),?_⟩,rfl⟩;unfold fm.send;have e:s.dX=[]:=by have:=au h0;exact List.length_eq_zero_iff.1 (by omega)
 simp only[TL.t,e,cM]
end
section
open Go.TR
structure qP where
 kind:Int
 iZ:Int
 value:List UInt8
 f:ot
 x:LP
def qP.d (s:qP):s8:=⟨s.kind,s.iZ,s.value,s.f.f,s.x.l⟩
@[reducible] def qP.row (s:qP):List Value:=i64 s.kind::i64 s.iZ::S s.value::s.f.v::s.x.row
structure qP.at (F:Hp) (s:qP):Prop where
 f:s.f.at F
 x:s.x.at F
theorem TL.get {s:TL}{k:Int}(h:s.t.owned k=true):0≤k∧k.toNat<s.dK.length:=by
 unfold fm.owned at h;simp only[TL.t,ab,aL,av]at h;omega
theorem A6 {cells:List EV}{k:Nat}{ow:jh}(h:(cells.take (0+k * 8+8)).drop (0+k * 8)=ow.row.map EV.v):cells[0+k * 8+6]? =some (.v (.slice ow.p ow.o.wanted.length ow.c)):=by
 have:=a8 (·[6]?) h;simp only[cu]at this;rw[cB,aZ (by omega)]at this;exact this
@[reducible] def eE.row (c:eE) (a:jf):List Value:=[i64 c.queue.most,.slice a.w c.queue.wait.length a.cw,i64 c.batch,i64 c.every,i64 c.now,.slice a.h c.dP.length a.ch,.slice a.b c.ee.length a.cb]
theorem Wn {x:Nat}(h:x<MM):x<18446744073709551616:=by
 unfold MM at h;omega
theorem O4 (k:Nat)(s:List UInt8):vL k s<18446744073709551616:=Wn (kZ _)
theorem sW {o:Ow}{v:List UInt8}(hw:o.wf)(hv:v.length≤4611686018427387904):(iI o v).wf∧(jQ o v).key<18446744073709551616∧(jq o v=0→rG (jQ o v).key (iI o v)=true):=by
 have h0:Ask.none.wf:=⟨by decide,by decide,by decide,by decide⟩;by_cases h:jq o v=0
 ·have hf:eJ o.name v=0:=by
   unfold jq at h;split at h
   ·rename_i h1;exact absurd h h1
   rename_i h1;have h1:kf o=0:=by omega
   split at h
   ·cases h
   rename_i h2;unfold ng at h2;rw[av]at h2;unfold eJ;rw[aZ (iT h1).1,aY h2]
  have e:iI o v=⟨o.name,v,o.wanted.length,vL o.key (jO o.name v o.wanted.length)⟩:=by
   unfold iI uv;rw[aZ h,aZ hf]
  have e2:(jQ o v).key=o.key:=by unfold jQ;rw[aZ h]
  have h3:=hw.wanted;rw[e,e2];refine⟨⟨hw.name,hv,by show o.wanted.length<_;omega,?_⟩,hw.key,fun _=>?_⟩
  ·have h5:=O4 o.key (jO o.name v o.wanted.length);generalize vL o.key (jO o.name v o.wanted.length)=t at *;exact h5
  unfold rG;rw[hf];simp
 have e:iI o v=Ask.none:=by unfold iI;rw[aY h]
 have e2:(jQ o v).key=0:=by unfold jQ;rw[aY h];rfl
 rw[e,e2];exact⟨h0,by decide,fun h'=>absurd h' h⟩
attribute [local irreducible] vc dT gx fc fA gC gG gw fG Plain eu eR dH VS fq fx fD ju fe IntKind.wrap
set_option maxRecDepth 100000
set_option maxHeartbeats 4000000
theorem Pj (s:TL)(z:Fr)(d:qP){F:Hp}(h:s.at F)(hd:d.at F)(hno:s.dK.length≤4)(hwo: ∀x∈s.dK,x.o.wf∧kf x.o=0)(hv:d.value.length≤4611686018427387904)(hcw:s.dF.wf)(hev:s.events.length≤1000000):oy s z F 111 [.agg d.row.toArray] (s.t.want d.iZ d.value):=by
 refine eR.norm 6 (ah 6) (iQ (N:=84) (rv:=[]) eP mixed Tryz.func111 rfl rfl rfl rfl rfl ?_);(refine fW ?_;repeat intro b);revert b;intro Y9;refine om rfl rfl rfl N7 rfl (ya s z ⟨some Y9,d.row.map EV.v,73,16⟩ d.iZ F hno) ?_;rintro _ F' _ _ _ _ ⟨rfl,hF,rfl,rfl⟩;have hF:=hF.symm;subst hF;(refine fW ?_;repeat intro b);refine ez (!s.t.owned d.iZ) rfl (fun h0=>?_) (fun h0=>?_)
 ·(refine fW ?_;repeat intro b);refine Ba (iJ (s':=s) 7 [(5,12),(4,11),(3,10),(2,9),(1,8),(0,7)] ?_ rfl rfl rfl rfl (Hp.sub.refl _) ?_ h rfl)
  ·rw[TL.gT];exact (dJ rfl rfl (dJ rfl rfl (dJ rfl rfl (dJ rfl rfl (dJ rfl rfl (dU rfl trivial))))))
  unfold fm.want fm.qR;rw[aY];cases ho:s.t.owned d.iZ with
  | false=>exact Bool.false_ne_true
  | true=>rw[ho]at h0;cases h0
 have ho:s.t.owned d.iZ=true:=by cases hh:s.t.owned d.iZ with
  | true=>rfl
  | false=>rw[hh]at h0;cases h0
 obtain⟨k0,k1⟩:=TL.get ho;have ek:s.t.want d.iZ d.value=if jq (s.dK[d.iZ.toNat]).o d.value=0∧oz s.dF (iI (s.dK[d.iZ.toNat]).o d.value)=0 then
   fm.note { s.t with dK:=(s.dK.map jh.o).set d.iZ.toNat (jQ (s.dK[d.iZ.toNat]).o d.value),dF:=jj s.dF (iI (s.dK[d.iZ.toNat]).o d.value) } ⟨1,d.iZ,((s.dK[d.iZ.toNat]).o.wanted.length:Nat),pG s.dF (iI (s.dK[d.iZ.toNat]).o d.value)⟩ else s.t:=by
  have e1:s.t.ow d.iZ.toNat=(s.dK[d.iZ.toNat]).o:=by
   unfold fm.ow;simp[TL.t,List.getD,k1]
  unfold fm.want fm.qR;rw[ho,e1];simp only[Bool.true_and,aL,av];rfl
 have oT:=h.dK _ (aj k1);obtain⟨hwk,BC⟩:=hwo _ (aj k1);obtain⟨ow,how⟩: ∃x,s.dK[d.iZ.toNat]=x:=⟨_,rfl⟩;have kH:=kQ (f:=jh.row) (k:=8) gW k1;have oL:=dL gW s.dK;rw[how]at ek oT hwk BC kH;obtain⟨bo,Dp⟩: ∃b,s.bo=some b:=by
  cases hh:s.bo with
  | some b=>exact⟨b,rfl⟩
  | none=>have:=h.rD hh;omega
 obtain⟨dF,cl,dK,polls,fJ,reach,iY,fo,dX,events,b0,Ss,co,bp,cp,bf,cf,xf,be,ce⟩:=s;dsimp only at *;subst Dp;have k2:d.iZ.toNat<dK.length:=k1;dsimp only [TL.rs,TL.cells];(refine fW ?_;repeat intro b);refine fM (by kernel_rfl) ?_;(refine fW ?_;repeat intro b);refine dI rfl rfl rfl ⟨k0,by omega,_,_,rfl,rfl⟩ ?_;(refine fW ?_;repeat intro b);refine od (.slice ow.p ow.o.wanted.length ow.c) rfl rfl rfl rfl rfl (by exact A6 kH) ?_;(refine fW ?_;repeat intro b);have zV:0+d.iZ.toNat * 8+8≤((dK.flatMap jh.row).map EV.v).length:=by rw[ab,oL];omega
 refine k7 (β:=Hp×Option Addr×Nat×Nat×Nat) (fun q=>F.sub q.1∧eY q.1 q.2.1 ((jQ ow.o d.value).wanted.map S)) (fun q=>⟨[(0,.loc 0 0),(3,.loc 6 0),(4,.v (i64 (ow.o.wanted.length:Nat))),(5,.loc 9 0),(6,.loc 10 0),(7,.v (i64 (jq ow.o d.value)))],q.1,
  (10,⟨some q.2.2.2.2,(iI ow.o d.value).cells.map EV.v,35,4⟩)::(9,⟨some q.2.2.2.1,(jh.row ⟨jQ ow.o d.value,q.2.1,q.2.2.1⟩).map EV.v,76,8⟩)::(6,⟨some Y9,d.row.map EV.v,73,16⟩)::(⟨dF,cl,dK,polls,fJ,reach,iY,fo,dX,events,b0,some bo,co,bp,cp,bf,cf,xf,be,ce⟩:TL).rs z,11⟩) rfl (fun q hq=>?_) (fun u7 kn kr ke=>?_)
 ·obtain⟨F2,pw,cw,bO,bA⟩:=q;obtain⟨hs2,hfw⟩:=hq;dsimp only at hs2 hfw ⊢;obtain⟨S3,hkA,htA⟩:=sW (v:=d.value) hwk hv;(refine fW ?_;repeat intro b);refine gi (.bool (rG (jQ ow.o d.value).key (iI ow.o d.value))) rfl rfl rfl rfl VB rfl rfl (fun _=>El _ _ hkA S3 F2) ?_;(refine fW ?_;repeat intro b);refine ez (decide (jq ow.o d.value≠0)) ?_ (fun h1=>?_) (fun h1=>?_)
  ·refine dS ?_;rw[fu];by_cases hz:jq ow.o d.value=0
   ·rw[htA hz,hz];rfl
   simp[hz]
  ·have h1:=ar h1;rw[aY (fun hh=>h1 hh.1)]at ek;(refine fW ?_;repeat intro b);refine Ba (iJ (s':=(⟨dF,cl,dK,polls,fJ,reach,iY,fo,dX,events,b0,some bo,co,bp,cp,bf,cf,xf,be,ce⟩:TL)) 11 [(5,16),(4,15),(3,14),(2,13),(1,12),(0,11)] ?_ rfl rfl rfl rfl hs2 ek.symm (TL.eX hs2 h) rfl);rw[TL.gT];exact (dJ rfl rfl (dJ rfl rfl (dJ rfl rfl (dJ rfl rfl (dJ rfl rfl (dU rfl trivial))))))
  have h1:jq ow.o d.value=0:=by have:=au h1;omega
  (refine fW ?_;repeat intro b);refine k7 (β:=Hp×jf×Nat) (fun q=>F2.sub q.1∧(jj dF (iI ow.o d.value)).at q.1 q.2.1) (fun q=>⟨[(0,.loc 0 0),(3,.loc 6 0),(4,.v (i64 (ow.o.wanted.length:Nat))),(5,.loc 9 0),(7,.v (i64 (oz dF (iI ow.o d.value)))),(8,.loc 11 0),(9,.v (i64 (pG dF (iI ow.o d.value))))],q.1,
   (11,⟨some q.2.2,(eE.row (jj dF (iI ow.o d.value)) q.2.1).map EV.v,28,7⟩)::(10,⟨some bA,(iI ow.o d.value).cells.map EV.v,35,4⟩)::(9,⟨some bO,(jh.row ⟨jQ ow.o d.value,pw,cw⟩).map EV.v,76,8⟩)::(6,⟨some Y9,d.row.map EV.v,73,16⟩)::(⟨dF,cl,dK,polls,fJ,reach,iY,fo,dX,events,b0,some bo,co,bp,cp,bf,cf,xf,be,ce⟩:TL).rs z,12⟩) rfl (fun q hq=>?_) (fun u7 kn kr ke=>?_)
  ·obtain⟨F3,lc,bC⟩:=q;obtain⟨hs3,hlc⟩:=hq;dsimp only at hs3 hlc ⊢;(refine fW ?_;repeat intro b);refine ez (decide (oz dF (iI ow.o d.value)≠0)) ?_ (fun h2=>?_) (fun h2=>?_)
   ·refine dS ?_;rw[ai];simp
   ·have h2:=ar h2;rw[aY (fun hh=>h2 hh.2)]at ek;(refine fW ?_;repeat intro b);refine Ba (iJ (s':=(⟨dF,cl,dK,polls,fJ,reach,iY,fo,dX,events,b0,some bo,co,bp,cp,bf,cf,xf,be,ce⟩:TL)) 12 [(5,17),(4,16),(3,15),(2,14),(1,13),(0,12)] ?_ rfl rfl rfl rfl (hs2.trans hs3) ek.symm (TL.eX (hs2.trans hs3) h) rfl);rw[TL.gT];exact (dJ rfl rfl (dJ rfl rfl (dJ rfl rfl (dJ rfl rfl (dJ rfl rfl (dU rfl trivial))))))
   have h2:oz dF (iI ow.o d.value)=0:=by have:=au h2;omega
   rw[aZ ⟨h1,h2⟩]at ek;(refine fW ?_;repeat intro b);refine fz [6,9,11] (by kernel_rfl) ?_;refine dR [0,1,2,3,5,6,7,8,9] (f':=7) (by kernel_rfl) rfl rfl rfl ?_;(refine run ?_;repeat intro b);refine dY 4 (by kernel_rfl) rfl rfl ?_;(refine run ?_;repeat intro b);refine eC (Hp.sub.refl _) (dM rfl) ?_;refine dY 10 (by kernel_rfl) rfl rfl ?_;refine dI rfl rfl rfl ⟨k0,by omega,_,_,rfl,rfl⟩ ?_;(refine run ?_;repeat intro b);refine eC (Hp.sub.refl _) (dM rfl) ?_;refine dY 11 (by kernel_rfl) rfl rfl ?_;refine iP (((dK.set d.iZ.toNat ⟨jQ ow.o d.value,pw,cw⟩).flatMap jh.row).map EV.v) rfl rfl rfl rfl rfl rfl (by exact zV) (by exact mj (f:=jh.row) gW k2) rfl ?_;(refine run ?_;repeat intro b);refine eC (Hp.sub.refl _) (dM rfl) ?_;refine dR [12,13,14] (f':=1) (by kernel_rfl) rfl rfl rfl ?_;(refine run ?_;repeat intro b);refine dY 15 (by kernel_rfl) rfl rfl ?_;(refine run ?_;repeat intro b);refine eC (Hp.sub.refl _) (dM rfl) ?_;refine fk (by kernel_rfl) ?_;(refine fW ?_;repeat intro b);have h3:=TL.eX (hs2.trans hs3) h;have at2:(⟨jj dF (iI ow.o d.value),lc,dK.set d.iZ.toNat ⟨jQ ow.o d.value,pw,cw⟩,polls,fJ,reach,iY,fo,dX,events,b0,some bo,co,bp,cp,bf,cf,xf,be,ce⟩:TL).at F3:={ h3 with dF:=hlc,dK:=(fun x hx=>(cW hx).elim (h3.dK x) (fun e=>by subst e;exact dZ hs3 hfw)),rD:=(fun hn=>by cases hn),IV:=(by show (dK.set _ _).length≤co;rw[cJ];exact h3.IV) };have cn:=CX (⟨jj dF (iI ow.o d.value),lc,dK.set d.iZ.toNat ⟨jQ ow.o d.value,pw,cw⟩,polls,fJ,reach,iY,fo,dX,events,b0,some bo,co,bp,cp,bf,cf,xf,be,ce⟩:TL) z 1 d.iZ (ow.o.wanted.length:Nat) (pG dF (iI ow.o d.value)) at2 hev;refine om rfl rfl rfl N9 rfl (oy.at cn (nx2:=12) [(5,5),(4,4),(3,3),(2,2),(1,1),(0,0)] 0 ?_ rfl rfl rfl rfl (by decide)) ?_
   ·dsimp only [TL.rs,TL.cells];rw[cJ];exact (dJ rfl rfl (dJ rfl rfl (dJ rfl rfl (dJ rfl rfl (dJ rfl rfl (dU rfl trivial))))))
   rintro _ F4 _ _ _ _ ⟨rfl,hs4,rfl,s4,oU,pT,hb4,rfl⟩;(refine fW ?_;repeat intro b);refine jR (VS.id ⟨_,rfl,12,s4.rs z,6,.v (.tuple #[]),rfl,rfl,rfl,rfl,rfl,hs2.trans (hs3.trans hs4),s4,?_,pT,hb4,rfl⟩);rw[oU,ek];refine a8 (fun o=>fm.note o _) ?_;simp only[TL.t,List.map_set]
  refine fz [0,10] (by kernel_rfl) ?_;refine dR [0,1,2,3,4,5] (f':=9) (by kernel_rfl) rfl rfl rfl ?_;(refine run ?_;repeat intro b);refine jC 6 11 (by kernel_rfl) rfl rfl rfl ?_ ?_
  ·refine fi rfl rfl rfl Ti rfl (wv dF cl (iI ow.o d.value) hcw S3 (eE.eX hs2 h.dF)) ?_;rintro _ F3 hs3 ⟨lc,rfl,hlc⟩;(refine run ?_;repeat intro b);refine eC (hs3) (dM rfl) ?_;refine dR [7,8,9,10] (f':=4) (by kernel_rfl) rfl rfl rfl ?_;(refine run ?_;repeat intro b);refine dY 11 (by kernel_rfl) rfl rfl ?_;(refine run ?_;repeat intro b);revert b;intro bC;refine eC (Hp.sub.refl _) (dM rfl) ?_;refine dY 12 (by kernel_rfl) rfl rfl ?_;(refine run ?_;repeat intro b);refine eC (Hp.sub.refl _) (dM rfl) ?_;refine dR [13,14] (f':=0) (by kernel_rfl) rfl rfl rfl ?_;(refine run ?_;repeat intro b);refine fk (by kernel_rfl) ?_;(refine run ?_;repeat intro b);exact kn _ (VS.eH [0,3,4,5,7,8,9] rfl ⟨(F3,lc,bC),⟨hs3,hlc⟩,rfl⟩)
  (refine run ?_;repeat intro b);revert b;intro bC;refine eC (Hp.sub.refl _) (dM rfl) ?_;refine dY 6 (by kernel_rfl) rfl rfl ?_;refine fi rfl rfl rfl Ti rfl (wv dF cl (iI ow.o d.value) hcw S3 (eE.eX hs2 h.dF)) ?_;rintro _ F3 hs3 ⟨lc,rfl,hlc⟩;(refine run ?_;repeat intro b);refine eC (hs3) (dM rfl) ?_;refine dR [7,8,9,10] (f':=3) (by kernel_rfl) rfl rfl rfl ?_;(refine run ?_;repeat intro b);refine dY 12 (by kernel_rfl) rfl rfl ?_;(refine run ?_;repeat intro b);refine eC (Hp.sub.refl _) (dM rfl) ?_;refine dR [13,14] (f':=0) (by kernel_rfl) rfl rfl rfl ?_;(refine run ?_;repeat intro b);refine fk (by kernel_rfl) ?_;(refine run ?_;repeat intro b);exact kn _ (VS.eH [0,3,4,5,7,8,9] rfl ⟨(F3,lc,bC),⟨hs3,hlc⟩,rfl⟩)
 refine fz [0,6,1] (by kernel_rfl) ?_;refine dR [0,1,2,3,4,5,6,7,8,9,10] (f':=10) (by kernel_rfl) rfl rfl rfl ?_;(refine run ?_;repeat intro b);refine dI rfl rfl rfl ⟨k0,by omega,_,_,rfl,rfl⟩ ?_;refine lB ow.row rfl rfl rfl rfl rfl (by exact zV) (by exact kH) ?_;(refine run ?_;repeat intro b);refine OH 11 16 17 (by kernel_rfl) rfl rfl rfl rfl ?_ ?_ ?_
 ·refine fi rfl rfl rfl DU rfl (tF ow.o d.value hwk oT) ?_;rintro _ F2 hs2 ⟨pw,cw,rfl,hfw⟩;(refine run ?_;repeat intro b);refine eC (hs2) ⟨⟨rfl,rfl,rfl,rfl,rfl,rfl,rfl,rfl,rfl,rfl,rfl,rfl,rfl,rfl,rfl,trivial⟩,⟨rfl,rfl,rfl,rfl,rfl,rfl,rfl,rfl,rfl,rfl,rfl,rfl,rfl,rfl,rfl,rfl,rfl,trivial⟩,⟨rfl,fQ _ _ _⟩,trivial⟩ ?_;refine dR [12,13,14,15] (f':=5) (by kernel_rfl) rfl rfl rfl ?_;(refine run ?_;repeat intro b);refine jC 16 17 (by kernel_rfl) rfl rfl rfl ?_ ?_
  ·(refine run ?_;repeat intro b);revert b;intro bO;refine eC (Hp.sub.refl _) ⟨⟨rfl,rfl,rfl,rfl,rfl,rfl,rfl,rfl,rfl,rfl,rfl,rfl,rfl,rfl,rfl,trivial⟩,⟨rfl,rfl,rfl,rfl,rfl,rfl,rfl,rfl,rfl,rfl,rfl,rfl,rfl,rfl,rfl,rfl,rfl,trivial⟩,⟨rfl,fQ _ _ _⟩,trivial⟩ ?_;refine dY 17 (by kernel_rfl) rfl rfl ?_;(refine run ?_;repeat intro b);revert b;intro bA;refine eC (Hp.sub.refl _) ⟨⟨rfl,rfl,rfl,rfl,rfl,rfl,rfl,rfl,rfl,rfl,rfl,rfl,rfl,rfl,rfl,trivial⟩,⟨rfl,rfl,rfl,rfl,rfl,rfl,rfl,rfl,rfl,rfl,rfl,rfl,rfl,rfl,rfl,rfl,rfl,trivial⟩,⟨rfl,fQ _ _ _⟩,trivial⟩ ?_;refine dY 18 (by kernel_rfl) rfl rfl ?_;(refine run ?_;repeat intro b);refine eC (Hp.sub.refl _) ⟨⟨rfl,rfl,rfl,rfl,rfl,rfl,rfl,rfl,rfl,rfl,rfl,rfl,rfl,rfl,rfl,trivial⟩,⟨rfl,rfl,rfl,rfl,rfl,rfl,rfl,rfl,rfl,rfl,rfl,rfl,rfl,rfl,rfl,rfl,rfl,trivial⟩,⟨rfl,fQ _ _ _⟩,trivial⟩ ?_;refine dY 19 (by kernel_rfl) rfl rfl ?_;(refine run ?_;repeat intro b);refine eC (Hp.sub.refl _) ⟨⟨rfl,rfl,rfl,rfl,rfl,rfl,rfl,rfl,rfl,rfl,rfl,rfl,rfl,rfl,rfl,trivial⟩,⟨rfl,rfl,rfl,rfl,rfl,rfl,rfl,rfl,rfl,rfl,rfl,rfl,rfl,rfl,rfl,rfl,rfl,trivial⟩,⟨rfl,fQ _ _ _⟩,trivial⟩ ?_;refine dR [20] (f':=0) (by kernel_rfl) rfl rfl rfl ?_;(refine run ?_;repeat intro b);refine fk (by kernel_rfl) ?_;(refine run ?_;repeat intro b)
   first | refine kn _ (VS.mM (nx':=11) [(8,10),(7,9),(6,6),(5,5),(4,4),(3,3),(2,2),(1,1),(0,0)] [0,3,4,5,6,7] _ ?_ rfl rfl rfl rfl rfl rfl ⟨(F2,pw,cw,bO,bA),⟨hs2,hfw⟩,rfl⟩) | refine kn _ (VS.mM (nx':=11) [(7,10),(8,9),(6,6),(5,5),(4,4),(3,3),(2,2),(1,1),(0,0)] [0,3,4,5,6,7] _ ?_ rfl rfl rfl rfl rfl rfl ⟨(F2,pw,cw,bO,bA),⟨hs2,hfw⟩,rfl⟩)
   exact (dU rfl (dU rfl (dU rfl (dJ rfl rfl (dJ rfl rfl (dJ rfl rfl (dJ rfl rfl (dJ rfl rfl (dU rfl trivial)))))))))
  (refine run ?_;repeat intro b);revert b;intro bA;refine eC (Hp.sub.refl _) ⟨⟨rfl,rfl,rfl,rfl,rfl,rfl,rfl,rfl,rfl,rfl,rfl,rfl,rfl,rfl,rfl,trivial⟩,⟨rfl,rfl,rfl,rfl,rfl,rfl,rfl,rfl,rfl,rfl,rfl,rfl,rfl,rfl,rfl,rfl,rfl,trivial⟩,⟨rfl,fQ _ _ _⟩,trivial⟩ ?_;refine dY 16 (by kernel_rfl) rfl rfl ?_;(refine run ?_;repeat intro b);revert b;intro bO;refine eC (Hp.sub.refl _) ⟨⟨rfl,rfl,rfl,rfl,rfl,rfl,rfl,rfl,rfl,rfl,rfl,rfl,rfl,rfl,rfl,trivial⟩,⟨rfl,rfl,rfl,rfl,rfl,rfl,rfl,rfl,rfl,rfl,rfl,rfl,rfl,rfl,rfl,rfl,rfl,trivial⟩,⟨rfl,fQ _ _ _⟩,trivial⟩ ?_;refine dY 18 (by kernel_rfl) rfl rfl ?_;(refine run ?_;repeat intro b);refine eC (Hp.sub.refl _) ⟨⟨rfl,rfl,rfl,rfl,rfl,rfl,rfl,rfl,rfl,rfl,rfl,rfl,rfl,rfl,rfl,trivial⟩,⟨rfl,rfl,rfl,rfl,rfl,rfl,rfl,rfl,rfl,rfl,rfl,rfl,rfl,rfl,rfl,rfl,rfl,trivial⟩,⟨rfl,fQ _ _ _⟩,trivial⟩ ?_;refine dY 19 (by kernel_rfl) rfl rfl ?_;(refine run ?_;repeat intro b);refine eC (Hp.sub.refl _) ⟨⟨rfl,rfl,rfl,rfl,rfl,rfl,rfl,rfl,rfl,rfl,rfl,rfl,rfl,rfl,rfl,trivial⟩,⟨rfl,rfl,rfl,rfl,rfl,rfl,rfl,rfl,rfl,rfl,rfl,rfl,rfl,rfl,rfl,rfl,rfl,trivial⟩,⟨rfl,fQ _ _ _⟩,trivial⟩ ?_;refine dR [20] (f':=0) (by kernel_rfl) rfl rfl rfl ?_;(refine run ?_;repeat intro b);refine fk (by kernel_rfl) ?_;(refine run ?_;repeat intro b)
  first | refine kn _ (VS.mM (nx':=11) [(8,10),(7,9),(6,6),(5,5),(4,4),(3,3),(2,2),(1,1),(0,0)] [0,3,4,5,6,7] _ ?_ rfl rfl rfl rfl rfl rfl ⟨(F2,pw,cw,bO,bA),⟨hs2,hfw⟩,rfl⟩) | refine kn _ (VS.mM (nx':=11) [(7,10),(8,9),(6,6),(5,5),(4,4),(3,3),(2,2),(1,1),(0,0)] [0,3,4,5,6,7] _ ?_ rfl rfl rfl rfl rfl rfl ⟨(F2,pw,cw,bO,bA),⟨hs2,hfw⟩,rfl⟩)
  exact (dU rfl (dU rfl (dU rfl (dJ rfl rfl (dJ rfl rfl (dJ rfl rfl (dJ rfl rfl (dJ rfl rfl (dU rfl trivial)))))))))
 ·(refine run ?_;repeat intro b);revert b;intro bO;refine eC (Hp.sub.refl _) ⟨⟨rfl,rfl,rfl,rfl,rfl,rfl,rfl,rfl,rfl,rfl,rfl,rfl,rfl,rfl,rfl,trivial⟩,⟨rfl,rfl,rfl,rfl,rfl,rfl,rfl,rfl,rfl,rfl,rfl,rfl,rfl,rfl,rfl,rfl,rfl,trivial⟩,⟨rfl,fQ _ _ _⟩,trivial⟩ ?_;refine jC 11 17 (by kernel_rfl) rfl rfl rfl ?_ ?_
  ·refine fi rfl rfl rfl DU rfl (tF ow.o d.value hwk oT) ?_;rintro _ F2 hs2 ⟨pw,cw,rfl,hfw⟩;(refine run ?_;repeat intro b);refine eC (hs2) ⟨⟨rfl,rfl,rfl,rfl,rfl,rfl,rfl,rfl,rfl,rfl,rfl,rfl,rfl,rfl,rfl,trivial⟩,⟨rfl,rfl,rfl,rfl,rfl,rfl,rfl,rfl,rfl,rfl,rfl,rfl,rfl,rfl,rfl,rfl,rfl,trivial⟩,⟨rfl,fQ _ _ _⟩,trivial⟩ ?_;refine dR [12,13,14,15] (f':=4) (by kernel_rfl) rfl rfl rfl ?_;(refine run ?_;repeat intro b);refine dY 17 (by kernel_rfl) rfl rfl ?_;(refine run ?_;repeat intro b);revert b;intro bA;refine eC (Hp.sub.refl _) ⟨⟨rfl,rfl,rfl,rfl,rfl,rfl,rfl,rfl,rfl,rfl,rfl,rfl,rfl,rfl,rfl,trivial⟩,⟨rfl,rfl,rfl,rfl,rfl,rfl,rfl,rfl,rfl,rfl,rfl,rfl,rfl,rfl,rfl,rfl,rfl,trivial⟩,⟨rfl,fQ _ _ _⟩,trivial⟩ ?_;refine dY 18 (by kernel_rfl) rfl rfl ?_;(refine run ?_;repeat intro b);refine eC (Hp.sub.refl _) ⟨⟨rfl,rfl,rfl,rfl,rfl,rfl,rfl,rfl,rfl,rfl,rfl,rfl,rfl,rfl,rfl,trivial⟩,⟨rfl,rfl,rfl,rfl,rfl,rfl,rfl,rfl,rfl,rfl,rfl,rfl,rfl,rfl,rfl,rfl,rfl,trivial⟩,⟨rfl,fQ _ _ _⟩,trivial⟩ ?_;refine dY 19 (by kernel_rfl) rfl rfl ?_;(refine run ?_;repeat intro b);refine eC (Hp.sub.refl _) ⟨⟨rfl,rfl,rfl,rfl,rfl,rfl,rfl,rfl,rfl,rfl,rfl,rfl,rfl,rfl,rfl,trivial⟩,⟨rfl,rfl,rfl,rfl,rfl,rfl,rfl,rfl,rfl,rfl,rfl,rfl,rfl,rfl,rfl,rfl,rfl,trivial⟩,⟨rfl,fQ _ _ _⟩,trivial⟩ ?_;refine dR [20] (f':=0) (by kernel_rfl) rfl rfl rfl ?_;(refine run ?_;repeat intro b);refine fk (by kernel_rfl) ?_;(refine run ?_;repeat intro b)
   first | refine kn _ (VS.mM (nx':=11) [(8,10),(7,9),(6,6),(5,5),(4,4),(3,3),(2,2),(1,1),(0,0)] [0,3,4,5,6,7] _ ?_ rfl rfl rfl rfl rfl rfl ⟨(F2,pw,cw,bO,bA),⟨hs2,hfw⟩,rfl⟩) | refine kn _ (VS.mM (nx':=11) [(7,10),(8,9),(6,6),(5,5),(4,4),(3,3),(2,2),(1,1),(0,0)] [0,3,4,5,6,7] _ ?_ rfl rfl rfl rfl rfl rfl ⟨(F2,pw,cw,bO,bA),⟨hs2,hfw⟩,rfl⟩)
   exact (dU rfl (dU rfl (dU rfl (dJ rfl rfl (dJ rfl rfl (dJ rfl rfl (dJ rfl rfl (dJ rfl rfl (dU rfl trivial)))))))))
  (refine run ?_;repeat intro b);revert b;intro bA;refine eC (Hp.sub.refl _) ⟨⟨rfl,rfl,rfl,rfl,rfl,rfl,rfl,rfl,rfl,rfl,rfl,rfl,rfl,rfl,rfl,trivial⟩,⟨rfl,rfl,rfl,rfl,rfl,rfl,rfl,rfl,rfl,rfl,rfl,rfl,rfl,rfl,rfl,rfl,rfl,trivial⟩,⟨rfl,fQ _ _ _⟩,trivial⟩ ?_;refine dY 11 (by kernel_rfl) rfl rfl ?_;refine fi rfl rfl rfl DU rfl (tF ow.o d.value hwk oT) ?_;rintro _ F2 hs2 ⟨pw,cw,rfl,hfw⟩;(refine run ?_;repeat intro b);refine eC (hs2) ⟨⟨rfl,rfl,rfl,rfl,rfl,rfl,rfl,rfl,rfl,rfl,rfl,rfl,rfl,rfl,rfl,trivial⟩,⟨rfl,rfl,rfl,rfl,rfl,rfl,rfl,rfl,rfl,rfl,rfl,rfl,rfl,rfl,rfl,rfl,rfl,trivial⟩,⟨rfl,fQ _ _ _⟩,trivial⟩ ?_;refine dR [12,13,14,15] (f':=3) (by kernel_rfl) rfl rfl rfl ?_;(refine run ?_;repeat intro b);refine dY 18 (by kernel_rfl) rfl rfl ?_;(refine run ?_;repeat intro b);refine eC (Hp.sub.refl _) ⟨⟨rfl,rfl,rfl,rfl,rfl,rfl,rfl,rfl,rfl,rfl,rfl,rfl,rfl,rfl,rfl,trivial⟩,⟨rfl,rfl,rfl,rfl,rfl,rfl,rfl,rfl,rfl,rfl,rfl,rfl,rfl,rfl,rfl,rfl,rfl,trivial⟩,⟨rfl,fQ _ _ _⟩,trivial⟩ ?_;refine dY 19 (by kernel_rfl) rfl rfl ?_;(refine run ?_;repeat intro b);refine eC (Hp.sub.refl _) ⟨⟨rfl,rfl,rfl,rfl,rfl,rfl,rfl,rfl,rfl,rfl,rfl,rfl,rfl,rfl,rfl,trivial⟩,⟨rfl,rfl,rfl,rfl,rfl,rfl,rfl,rfl,rfl,rfl,rfl,rfl,rfl,rfl,rfl,rfl,rfl,trivial⟩,⟨rfl,fQ _ _ _⟩,trivial⟩ ?_;refine dR [20] (f':=0) (by kernel_rfl) rfl rfl rfl ?_;(refine run ?_;repeat intro b);refine fk (by kernel_rfl) ?_;(refine run ?_;repeat intro b)
  first | refine kn _ (VS.mM (nx':=11) [(8,10),(7,9),(6,6),(5,5),(4,4),(3,3),(2,2),(1,1),(0,0)] [0,3,4,5,6,7] _ ?_ rfl rfl rfl rfl rfl rfl ⟨(F2,pw,cw,bO,bA),⟨hs2,hfw⟩,rfl⟩) | refine kn _ (VS.mM (nx':=11) [(7,10),(8,9),(6,6),(5,5),(4,4),(3,3),(2,2),(1,1),(0,0)] [0,3,4,5,6,7] _ ?_ rfl rfl rfl rfl rfl rfl ⟨(F2,pw,cw,bO,bA),⟨hs2,hfw⟩,rfl⟩)
  exact (dU rfl (dU rfl (dU rfl (dJ rfl rfl (dJ rfl rfl (dJ rfl rfl (dJ rfl rfl (dJ rfl rfl (dU rfl trivial)))))))))
 (refine run ?_;repeat intro b);revert b;intro bA;refine eC (Hp.sub.refl _) ⟨⟨rfl,rfl,rfl,rfl,rfl,rfl,rfl,rfl,rfl,rfl,rfl,rfl,rfl,rfl,rfl,trivial⟩,⟨rfl,rfl,rfl,rfl,rfl,rfl,rfl,rfl,rfl,rfl,rfl,rfl,rfl,rfl,rfl,rfl,rfl,trivial⟩,⟨rfl,fQ _ _ _⟩,trivial⟩ ?_;refine jC 11 16 (by kernel_rfl) rfl rfl rfl ?_ ?_
 ·refine fi rfl rfl rfl DU rfl (tF ow.o d.value hwk oT) ?_;rintro _ F2 hs2 ⟨pw,cw,rfl,hfw⟩;(refine run ?_;repeat intro b);refine eC (hs2) ⟨⟨rfl,rfl,rfl,rfl,rfl,rfl,rfl,rfl,rfl,rfl,rfl,rfl,rfl,rfl,rfl,trivial⟩,⟨rfl,rfl,rfl,rfl,rfl,rfl,rfl,rfl,rfl,rfl,rfl,rfl,rfl,rfl,rfl,rfl,rfl,trivial⟩,⟨rfl,fQ _ _ _⟩,trivial⟩ ?_;refine dR [12,13,14,15] (f':=4) (by kernel_rfl) rfl rfl rfl ?_;(refine run ?_;repeat intro b);refine dY 16 (by kernel_rfl) rfl rfl ?_;(refine run ?_;repeat intro b);revert b;intro bO;refine eC (Hp.sub.refl _) ⟨⟨rfl,rfl,rfl,rfl,rfl,rfl,rfl,rfl,rfl,rfl,rfl,rfl,rfl,rfl,rfl,trivial⟩,⟨rfl,rfl,rfl,rfl,rfl,rfl,rfl,rfl,rfl,rfl,rfl,rfl,rfl,rfl,rfl,rfl,rfl,trivial⟩,⟨rfl,fQ _ _ _⟩,trivial⟩ ?_;refine dY 18 (by kernel_rfl) rfl rfl ?_;(refine run ?_;repeat intro b);refine eC (Hp.sub.refl _) ⟨⟨rfl,rfl,rfl,rfl,rfl,rfl,rfl,rfl,rfl,rfl,rfl,rfl,rfl,rfl,rfl,trivial⟩,⟨rfl,rfl,rfl,rfl,rfl,rfl,rfl,rfl,rfl,rfl,rfl,rfl,rfl,rfl,rfl,rfl,rfl,trivial⟩,⟨rfl,fQ _ _ _⟩,trivial⟩ ?_;refine dY 19 (by kernel_rfl) rfl rfl ?_;(refine run ?_;repeat intro b);refine eC (Hp.sub.refl _) ⟨⟨rfl,rfl,rfl,rfl,rfl,rfl,rfl,rfl,rfl,rfl,rfl,rfl,rfl,rfl,rfl,trivial⟩,⟨rfl,rfl,rfl,rfl,rfl,rfl,rfl,rfl,rfl,rfl,rfl,rfl,rfl,rfl,rfl,rfl,rfl,trivial⟩,⟨rfl,fQ _ _ _⟩,trivial⟩ ?_;refine dR [20] (f':=0) (by kernel_rfl) rfl rfl rfl ?_;(refine run ?_;repeat intro b);refine fk (by kernel_rfl) ?_;(refine run ?_;repeat intro b)
  first | refine kn _ (VS.mM (nx':=11) [(8,10),(7,9),(6,6),(5,5),(4,4),(3,3),(2,2),(1,1),(0,0)] [0,3,4,5,6,7] _ ?_ rfl rfl rfl rfl rfl rfl ⟨(F2,pw,cw,bO,bA),⟨hs2,hfw⟩,rfl⟩) | refine kn _ (VS.mM (nx':=11) [(7,10),(8,9),(6,6),(5,5),(4,4),(3,3),(2,2),(1,1),(0,0)] [0,3,4,5,6,7] _ ?_ rfl rfl rfl rfl rfl rfl ⟨(F2,pw,cw,bO,bA),⟨hs2,hfw⟩,rfl⟩)
  exact (dU rfl (dU rfl (dU rfl (dJ rfl rfl (dJ rfl rfl (dJ rfl rfl (dJ rfl rfl (dJ rfl rfl (dU rfl trivial)))))))))
 (refine run ?_;repeat intro b);revert b;intro bO;refine eC (Hp.sub.refl _) ⟨⟨rfl,rfl,rfl,rfl,rfl,rfl,rfl,rfl,rfl,rfl,rfl,rfl,rfl,rfl,rfl,trivial⟩,⟨rfl,rfl,rfl,rfl,rfl,rfl,rfl,rfl,rfl,rfl,rfl,rfl,rfl,rfl,rfl,rfl,rfl,trivial⟩,⟨rfl,fQ _ _ _⟩,trivial⟩ ?_;refine dY 11 (by kernel_rfl) rfl rfl ?_;refine fi rfl rfl rfl DU rfl (tF ow.o d.value hwk oT) ?_;rintro _ F2 hs2 ⟨pw,cw,rfl,hfw⟩;(refine run ?_;repeat intro b);refine eC (hs2) ⟨⟨rfl,rfl,rfl,rfl,rfl,rfl,rfl,rfl,rfl,rfl,rfl,rfl,rfl,rfl,rfl,trivial⟩,⟨rfl,rfl,rfl,rfl,rfl,rfl,rfl,rfl,rfl,rfl,rfl,rfl,rfl,rfl,rfl,rfl,rfl,trivial⟩,⟨rfl,fQ _ _ _⟩,trivial⟩ ?_;refine dR [12,13,14,15] (f':=3) (by kernel_rfl) rfl rfl rfl ?_;(refine run ?_;repeat intro b);refine dY 18 (by kernel_rfl) rfl rfl ?_;(refine run ?_;repeat intro b);refine eC (Hp.sub.refl _) ⟨⟨rfl,rfl,rfl,rfl,rfl,rfl,rfl,rfl,rfl,rfl,rfl,rfl,rfl,rfl,rfl,trivial⟩,⟨rfl,rfl,rfl,rfl,rfl,rfl,rfl,rfl,rfl,rfl,rfl,rfl,rfl,rfl,rfl,rfl,rfl,trivial⟩,⟨rfl,fQ _ _ _⟩,trivial⟩ ?_;refine dY 19 (by kernel_rfl) rfl rfl ?_;(refine run ?_;repeat intro b);refine eC (Hp.sub.refl _) ⟨⟨rfl,rfl,rfl,rfl,rfl,rfl,rfl,rfl,rfl,rfl,rfl,rfl,rfl,rfl,rfl,trivial⟩,⟨rfl,rfl,rfl,rfl,rfl,rfl,rfl,rfl,rfl,rfl,rfl,rfl,rfl,rfl,rfl,rfl,rfl,trivial⟩,⟨rfl,fQ _ _ _⟩,trivial⟩ ?_;refine dR [20] (f':=0) (by kernel_rfl) rfl rfl rfl ?_;(refine run ?_;repeat intro b);refine fk (by kernel_rfl) ?_;(refine run ?_;repeat intro b)
 first | refine kn _ (VS.mM (nx':=11) [(8,10),(7,9),(6,6),(5,5),(4,4),(3,3),(2,2),(1,1),(0,0)] [0,3,4,5,6,7] _ ?_ rfl rfl rfl rfl rfl rfl ⟨(F2,pw,cw,bO,bA),⟨hs2,hfw⟩,rfl⟩) | refine kn _ (VS.mM (nx':=11) [(7,10),(8,9),(6,6),(5,5),(4,4),(3,3),(2,2),(1,1),(0,0)] [0,3,4,5,6,7] _ ?_ rfl rfl rfl rfl rfl rfl ⟨(F2,pw,cw,bO,bA),⟨hs2,hfw⟩,rfl⟩)
 exact (dU rfl (dU rfl (dU rfl (dJ rfl rfl (dJ rfl rfl (dJ rfl rfl (dJ rfl rfl (dJ rfl rfl (dU rfl trivial)))))))))
end
end Go.Proofs.YthbnddgjkonkdaaGreatDoor
