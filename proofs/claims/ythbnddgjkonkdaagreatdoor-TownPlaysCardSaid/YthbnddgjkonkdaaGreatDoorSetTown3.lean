/- A part of the proof. -/
import Derived.Test.YthbnddgjkonkdaaGreatDoorSetNetOwn
set_option linter.unusedVariables false
set_option linter.unusedSimpArgs false
namespace Go.Proofs.YthbnddgjkonkdaaGreatDoor
section
open Go.TR
theorem pj {n:NP}{l:mN}{fs:List Int}{e:Int}(h:lG n fs=e)(h0:e≠0)(F:Hp):Ja n l fs (pair NP.none.v (i64 e)) F:=by
 subst h;exact⟨NP.none,rfl,NP.xk F,by decide,by rw[aY h0];rfl,by rw[aY h0];rfl⟩
theorem tT {n:NP}{l:mN}{fs:List Int}{F:Hp}(h:lG n fs=0)(M:List LP){p:Option Addr}{c len:Nat}(hlen:M.length=len)(hM:M.map LP.l=Iu n l fs)(hl:M.length≤60)(hf:e9 F p (M.flatMap LP.row))(ha: ∀x∈M,x.at F):Ja n l fs (pair (.agg #[i64 n.now,.slice p len c]) (i64 0)) F:=by
 subst hlen;exact⟨⟨n.now,M,p,c⟩,by rw[h],⟨hf,ha⟩,by simp only;omega,by rw[aZ h],by rw[aZ h];exact hM⟩
theorem A0 {fs:List Int}(h:fs.any kf=false){k:Nat}(hk:k<fs.length):1≤fs[k]∧fs[k]≤100:=by
 have:=bM.1 h _ (aj hk);simp only[kf,bD,av,not_or]at this;omega
def QP (n:NP)(F:Hp)(q:Hp×List LP×Option Nat×Nat×Nat):Prop:=F.sub q.1∧q.2.1.map LP.l=n.gE.map LP.l∧(∀y∈q.2.1,y.at q.1)∧n.gE.length≤q.2.2.2.1∧(q.2.2.1=none→n.gE.length=0∧q.2.2.2.1=0)
def QG (n:NP)(l:mN)(fs:List Int)(F:Hp)(q:Nat×List LP×Hp×Option Nat×Nat):Prop:=q.1≤fs.length∧q.2.1.map LP.l=n.gE.map LP.l++((fs.take q.1).map fun k=>l.by (n.now+k))∧(∀y∈q.2.1,y.at q.2.2.1)∧F.sub q.2.2.1∧(q.2.2.2.1=none→n.gE.length+q.1=0∧q.2.2.2.2=0)∧n.gE.length+q.1≤q.2.2.2.2
attribute [local irreducible] vc dW gz fg fD gF gJ gB fJ Plain eD eX dK VS fv fA fG jt fh IntKind.wrap
set_option maxRecDepth 100000
set_option maxHeartbeats 4000000
theorem Pj (k:Int)(F:Hp):Plain Tryz.prog F 172 [i64 k] (.bool (kf k)):=by
 refine dQ (N:=9) (rv:=[.tmp 2]) eW mixed Tryz.func172 rfl rfl rfl rfl rfl ?_;(refine run ?_;repeat intro b);rw[fx];rfl
theorem nS (n:NP)(x:LP)(fs:List Int){pf:Option Addr}{cf:Nat}{F:Hp}(hl:n.gE.length≤4611686018427387904)(hw: ∀y∈n.gE,y.l.wf)(hn:n.at F)(wx:x.l.wf)(hx:x.at F)(hfl:fs.length≤4611686018427387904)(Rj:e9 F pf (fs.map i64)):
  iy Tryz.prog F 114 [n.v,.agg x.row.toArray,.slice pf fs.length cf] (Ja n x.l fs):=by
 refine eD.drop (fW (N:=60) (rv:=[.cell 6 62,.tmp 7]) eW mixed Tryz.func114 rfl rfl rfl rfl rfl ?_);(refine run ?_;repeat intro b);rename_i b0 b1;generalize b=b2;refine dJ _ rfl rfl rfl QF rfl (v9 n hl hn) ?_;(refine run ?_;repeat intro b);refine eE (decide (gG n≠0)) ?_ (fun h=>?_) (fun h=>?_)
 ·refine dV ?_;rw[ai];simp
 ·have h:=ar h;(refine run ?_;repeat intro b);exact eU (VS.id ⟨_,rfl,pj (by unfold lG;rw[aZ h]) h F⟩)
 have hz:gG n=0:=by have:=au h;omega
 obtain⟨z1,z2,z3⟩:=oT hz;(refine run ?_;repeat intro b);refine dJ _ rfl rfl rfl Wi rfl (NT kf _ #[] TZ fs Rj hfl (fun k _=>Pj k _)) ?_;(refine run ?_;repeat intro b);refine eE (fs.any kf) rfl (fun h=>?_) (fun h=>?_)
 ·(refine run ?_;repeat intro b);exact eU (VS.id ⟨_,rfl,pj (e:=4) (by unfold lG;rw[aY (by simpa using hz),aZ h]) (by decide) F⟩)
 have hbad:=h;have hE:lG n fs=if 60<n.gE.length+fs.length then 7 else 0:=by unfold lG;rw[aY (by simpa using hz),aY (by rw[h];decide)]
 (refine run ?_;repeat intro b);refine eE (decide (60<n.gE.length+fs.length)) ?_ (fun h=>?_) (fun h=>?_)
 ·refine dV ?_;rw[wrap_i64 (by omega) (by omega),ai];simp;omega
 ·rw[aZ (ar h)]at hE;(refine run ?_;repeat intro b);exact eU (VS.id ⟨_,rfl,pj hE (by decide) F⟩)
 have hlen:=au h;rw[aY hlen]at hE;(refine run ?_;repeat intro b);refine lp (QP n F)
  (fun q=>⟨[(2,.v (.slice pf fs.length cf)),(3,.loc 0 0),(4,.loc 1 0),(6,.loc 2 0),(9,.loc 5 0)],q.1,[(0,⟨some b0,[.v (i64 n.now),.v (.slice n.p n.gE.length n.c)],62,2⟩),(1,⟨some b1,x.row.map .v,71,12⟩),(2,⟨some b2,[.v (i64 0),.v (.slice none 0 0)],62,2⟩),(5,⟨some q.2.2.2.2,[.v (i64 n.now),.row 6 0 n.gE.length q.2.2.2.1],62,2⟩),(6,⟨q.2.2.1,(q.2.1.flatMap LP.row).map .v,71,q.2.2.2.1 * 12⟩)],7⟩) rfl ?rest ?reg
 case reg=>
  intro vb kn kr ke;refine fC [0] (by kernel_rfl) ?_;refine dU [0,1,2,3] (f':=4) (by kernel_rfl) rfl rfl rfl ?_;(refine run ?_;repeat intro b);refine jF 4 6 (by kernel_rfl) rfl rfl rfl ?_ ?_
  ·refine I0 (fun v F' new h=>h) rfl rfl rfl M8 rfl (yf n.gE z3 hw hn.gE hn.each) (fun F1 gq c1 cs hF1 hc1 hb1 hR=>?_);(refine run ?_;repeat intro b);refine eG hF1 (dP rfl) ?_;refine dU [5] (f':=2) (by kernel_rfl) rfl rfl rfl ?_;(refine run ?_;repeat intro b);refine ee 6 (by kernel_rfl) rfl rfl ?_;(refine run ?_;repeat intro b);refine eG (Hp.sub.refl _) (dP rfl) ?_;refine ee 7 (by kernel_rfl) rfl rfl ?_;(refine run ?_;repeat intro b);refine eG (Hp.sub.refl _) (dP rfl) ?_;refine fq (by kernel_rfl) ?_;obtain⟨M,rfl,e2,e3⟩:=hR;refine kn _ (VS.l6 4 [.v (i64 n.now),.row 3 0 n.gE.length c1] rfl ⟨⟨trivial,rfl⟩,⟨(by decide:3<5),rfl⟩,trivial⟩ rfl ?_);exact VS.mP (nx':=7) [(0,0),(1,1),(2,2),(4,5),(3,6)] [2,3,4,6,9] [(0,⟨some b0,[.v (i64 n.now),.v (.slice n.p n.gE.length n.c)],62,2⟩),(1,⟨some b1,x.row.map .v,71,12⟩),(2,⟨some b2,[.v (i64 0),.v (.slice none 0 0)],62,2⟩),(5,⟨some b,[.v (i64 n.now),.row 6 0 n.gE.length c1],62,2⟩),(6,⟨gq,(M.flatMap LP.row).map .v,71,c1 * 12⟩)]
    (dX rfl (dX rfl (dX rfl (dX rfl (fi ⟨_,rfl,rfl,rfl,rfl,.inl ⟨rfl,fun e he=>fz _ e he⟩⟩ trivial))))) rfl rfl rfl rfl rfl rfl ⟨(F1,M,gq,c1,b),⟨hF1,e2,e3,hc1,hb1⟩,rfl⟩
  (refine run ?_;repeat intro b);refine eG (Hp.sub.refl _) (dP rfl) ?_;refine ee 4 (by kernel_rfl) rfl rfl ?_;refine I0 (fun v F' new h=>h) rfl rfl rfl M8 rfl (yf n.gE z3 hw hn.gE hn.each) (fun F1 gq c1 cs hF1 hc1 hb1 hR=>?_);(refine run ?_;repeat intro b);refine eG hF1 (dP rfl) ?_;refine dU [5] (f':=1) (by kernel_rfl) rfl rfl rfl ?_;(refine run ?_;repeat intro b);refine ee 7 (by kernel_rfl) rfl rfl ?_;(refine run ?_;repeat intro b);refine eG (Hp.sub.refl _) (dP rfl) ?_;refine fq (by kernel_rfl) ?_;obtain⟨M,rfl,e2,e3⟩:=hR;refine kn _ (VS.l6 3 [.v (i64 n.now),.row 4 0 n.gE.length c1] rfl ⟨⟨trivial,rfl⟩,⟨(by decide:4<5),rfl⟩,trivial⟩ rfl ?_);exact VS.mP (nx':=7) [(0,0),(1,1),(2,2),(3,5),(4,6)] [2,3,4,6,9] [(0,⟨some b0,[.v (i64 n.now),.v (.slice n.p n.gE.length n.c)],62,2⟩),(1,⟨some b1,x.row.map .v,71,12⟩),(2,⟨some b2,[.v (i64 0),.v (.slice none 0 0)],62,2⟩),(5,⟨some b,[.v (i64 n.now),.row 6 0 n.gE.length c1],62,2⟩),(6,⟨gq,(M.flatMap LP.row).map .v,71,c1 * 12⟩)]
   (dX rfl (dX rfl (dX rfl (dX rfl (fi ⟨_,rfl,rfl,rfl,rfl,.inl ⟨rfl,fun e he=>fz _ e he⟩⟩ trivial))))) rfl rfl rfl rfl rfl rfl ⟨(F1,M,gq,c1,b),⟨hF1,e2,e3,hc1,hb1⟩,rfl⟩
 case rest=>
  rintro⟨F1,M,gq,c1,b9⟩ ⟨g1,g2,g3,g4,g5⟩;dsimp only at g1 g2 g3 g4 g5 ⊢;(refine run ?_;repeat intro b);refine eY (QG n x.l fs F)
   (fun q=>⟨[(3,.loc 0 0),(4,.loc 1 0),(6,.loc 2 0),(9,.loc 5 0),(39,.v (.slice pf fs.length cf)),(40,.v (i64 (fs.length:Nat))),(41,.v (i64 (q.1:Nat)))],q.2.2.1,[(0,⟨some b0,[.v (i64 n.now),.v (.slice n.p n.gE.length n.c)],62,2⟩),(1,⟨some b1,x.row.map .v,71,12⟩),(2,⟨some b2,[.v (i64 0),.v (.slice none 0 0)],62,2⟩),(5,⟨some b9,[.v (i64 n.now),.row 7 0 (n.gE.length+q.1) q.2.2.2.2],62,2⟩),(7,⟨q.2.2.2.1,(q.2.1.flatMap LP.row).map .v,71,q.2.2.2.2 * 12⟩)],8⟩) (fun q=>fs.length - q.1) (0,M,F1,gq,c1) ⟨az _,by rw[g2];simp,g3,g1,g5,g4⟩
   (VS.mP (nx':=8) [(0,0),(1,1),(2,2),(5,5),(6,7)] [3,4,6,9,39,40,41] [(0,⟨some b0,[.v (i64 n.now),.v (.slice n.p n.gE.length n.c)],62,2⟩),(1,⟨some b1,x.row.map .v,71,12⟩),(2,⟨some b2,[.v (i64 0),.v (.slice none 0 0)],62,2⟩),(5,⟨some b9,[.v (i64 n.now),.row 7 0 n.gE.length c1],62,2⟩),(7,⟨gq,(M.flatMap LP.row).map .v,71,c1 * 12⟩)]
    (dX rfl (dX rfl (dX rfl (dX rfl (fi ⟨_,rfl,rfl,rfl,rfl,.inl ⟨rfl,fun e he=>fz _ e he⟩⟩ trivial))))) rfl rfl rfl rfl rfl rfl rfl) ?_
  rintro⟨k,L,F2,F8,cap⟩ ⟨h1,h2,h3,h4,h5,h6⟩;dsimp only at h1 h2 h3 h4 h5 h6 ⊢;have hL:L.length=n.gE.length+k:=by
   have:=a8 List.length h2;simp only[ab,ag,aw]at this;omega
  by_cases hlt:k<fs.length
  ·have g:=gS Rj (j:=k) (by rw[ab];exact hlt);rw[cG]at g;obtain⟨r1,r2⟩:=A0 hbad hlt;have h2':(L.map LP.l)++[x.l.by (n.now+fs[k])]=n.gE.map LP.l++((fs.take (k+1)).map fun k=>x.l.by (n.now+k)):=by rw[h2,al hlt,aF,bU];rfl
   generalize fs[k]=f at g r1 r2 h2';have ew:IntKind.i64.wrap (n.now+f)=n.now+f:=wrap_i64 (by omega) (by omega);(refine run ?_;repeat intro b);refine gw rfl (by omega) ?_;(refine run ?_;repeat intro b);refine dL rfl rfl rfl ⟨by omega,by omega,dR Rj (j:=k) (by rw[ab];exact hlt)⟩ ?_;refine fw (i64 f) rfl rfl rfl rfl (by rw[ae,aA];exact iV h4 g) ?_;(refine run ?_;repeat intro b);refine fm rfl rfl rfl QB rfl (L6 x wx (LP.e8 h4 hx)) ?_;rintro _ F3 FX ⟨y,rfl,ey,ay⟩;(refine run ?_;repeat intro b);rw[ew];refine fy rfl rfl rfl rfl rfl rfl rfl rfl (ff rfl rfl) (gC _ (qn [(⟨y.l.by (n.now+f),y.ph,y.ch,y.a⟩:LP)])) h5 h6 rfl (by rw[ab,dO je,hL];exact ah _) (by show _ * 152≤_;omega) (fun h=>by cases h) (fun _ b3 c3 hc3=>?_);(refine run ?_;repeat intro b);have hcells:=nO L ⟨y.l.by (n.now+f),y.ph,y.ch,y.a⟩ (n.gE.length+k) hL;rw[dT (by omega)];exact fH (k+1,L++[(⟨y.l.by (n.now+f),y.ph,y.ch,y.a⟩:LP)],F3,some b3,c3) 7 [(0,0),(1,1),(2,2),(5,5),(10,7)] [3,4,6,9,39,40,41] [(0,⟨some b0,[.v (i64 n.now),.v (.slice n.p n.gE.length n.c)],62,2⟩),(1,⟨some b1,x.row.map .v,71,12⟩),(2,⟨some b2,[.v (i64 0),.v (.slice none 0 0)],62,2⟩),(5,⟨some b9,[.v (i64 n.now),.row 7 0 (n.gE.length+(k+1)) c3],62,2⟩),(7,⟨some b3,((L++[(⟨y.l.by (n.now+f),y.ph,y.ch,y.a⟩:LP)]).flatMap LP.row).map .v,71,c3 * 12⟩)]
    ⟨hlt,by rw[aF,←h2',←ey];rfl,fun z hz=>by rcases aK.1 hz with hz | hz;exact LP.e8 FX (h3 z hz);rw[aB.1 hz];exact⟨ay.dS,ay.nL⟩,h4.trans FX,(fun h=>by cases h),hc3⟩ (by simp only;omega) (aM _ _)
    (dX rfl (dX rfl (dX rfl (dX rfl (fi ⟨_,rfl,rfl,rfl,rfl,.inl ⟨hcells.symm,fun e he=>fz _ e (hcells ▸ he)⟩⟩ trivial))))) rfl rfl rfl rfl rfl rfl rfl
  have hge:k=fs.length:=by omega
  subst hge;rw[aD]at h2;(refine run ?_;repeat intro b);refine gy rfl (by omega) ?_;(refine run ?_;repeat intro b);cases F8 with
  | none=>
   obtain⟨e1,e2⟩:=h5 rfl;have e3:L=[]:=aq (by omega);subst e3;exact eU (VS.id ⟨_,rfl,tT hE [] hL h2 (by decide) (eJ _ _) (by simp)⟩)
  | some b5=>
   exact eU (VS.freeze 7 [6,7] rfl (eH _) rfl rfl fun F4 hs4 zX=>VS.id ⟨_,rfl,tT hE L hL h2 (by omega) zX (fun z hz=>LP.e8 hs4 (h3 z hz))⟩)
end
section
open Go.TR
theorem xF (l:List lW): ∀x∈l.flatMap lW.row,Go.TR.one (.v x)=true:=fun x hx=>by
 obtain⟨a,_,ha⟩:=List.mem_flatMap.1 hx;simp only[lW.row,aT,da,dH]at ha;rcases ha with rfl | rfl | rfl | rfl<;>rfl
theorem sx (l:List lW)(x:lW):((l.flatMap lW.row).map EV.v).take (l.length * 4)++x.row.map EV.v=((l++[x]).flatMap lW.row).map EV.v:=by
 rw[an (by rw[ab,dO nD];exact ah _)];simp
attribute [local irreducible] vc dW gz fg fD gF gJ gB fJ Plain eD eX dK VS fv fA fG jt fh IntKind.wrap
set_option maxRecDepth 100000
set_option maxHeartbeats 4000000
theorem B8 (s:TL)(z:Fr)(kind jc n at_:Int){F:Hp}(h:s.at F)(hn:s.events.length≤1000000):ox s z F 169 [i64 kind,i64 jc,i64 n,i64 at_] (s.t.note ⟨kind,jc,n,at_⟩):=by
 refine eX.norm 6 (ah 6) (iT (N:=24) (rv:=[]) eW mixed Tryz.func169 rfl rfl rfl rfl rfl ?_);(refine run ?_;repeat intro b);refine fy rfl rfl rfl rfl rfl rfl rfl rfl (ff rfl rfl) (gC _ (xF [(⟨kind,jc,n,at_⟩:lW)])) h.vo h.Ks rfl (by rw[ab,dO nD];exact ah _) (by show _ * 32≤_;omega) (fun h=>by cases h) (fun _ b2 c2 hc2=>?_);have hcells:=sx s.events ⟨kind,jc,n,at_⟩;have hl:(s.events++[(⟨kind,jc,n,at_⟩:lW)]).length=s.events.length+1:=by simp
 (refine fZ ?_;repeat intro b);refine jU (iM (s':={s with events:=s.events++[⟨kind,jc,n,at_⟩],be:=some b2,ce:=c2}) 8 [(5,13),(7,12),(3,11),(2,10),(1,9),(0,8)] ?_ rfl rfl rfl rfl (Hp.sub.refl F) rfl
  { h with vo:=(fun h=>by cases h),Ks:=(by rw[hl];exact hc2) } rfl)
 rw[TL.gW];dsimp only [TL.cells];rw[hl];exact (dM rfl rfl (fi ⟨_,rfl,rfl,rfl,rfl,.inl ⟨hcells.symm,fun e he=>fz _ e (hcells ▸ he)⟩⟩ (dM rfl rfl (dM rfl rfl (dM rfl rfl (dX rfl trivial))))))
theorem zR (s:TL)(z:Fr)(x:kg)(k:Int)(F:Hp)(ho:s.dN.length≤4):eX Tryz.prog F ((6,x)::s.rs z) 7 113 [.loc 0 0,.v (i64 k)] (fun e F' rs' nx'=>e= .v (.bool (s.t.owned k))∧F'=F∧rs'=(6,x)::s.rs z∧nx'=7):=by
 refine iT (N:=17) (rv:=[.tmp 4]) eW mixed Tryz.func113 rfl rfl rfl rfl rfl ?_;(refine run ?_;repeat intro b);refine⟨?_,rfl,rfl,rfl⟩;rw[fK];refine a8 (fun b=>EV.v (.bool b)) ?_;show _=(decide (0≤k)&&decide (k<((s.dN.map jk.o).length:Int)));rw[ab]
end
section
open Go.TR
theorem DJ {l:List Value}{j:Nat}{x:Value}(h:l[j]? =some x):(l.map EV.v)[j]? =some (.v x):=by
 rw[aI,h];rfl
theorem TL.Qg {s:TL}{F:Hp}(h:s.at F){f:oC}{r:List oC}(e:s.ej=f::r):s.jb[s.fo]? =some f.v:=by
 have h1:=h.xi;rw[e]at h1;have h2:=a8 (·[0]?) h1;simp only[a9,cz,aH]at h2;rw[cE,aZ (by omega),cA]at h2;simpa using h2
theorem TL.Nh {s:TL}{F:Hp}(h:s.at F){f:oC}{r:List oC}(e:s.ej=f::r):({s with fo:=gU s.fo 1 s.cf 1,ej:=r,cf:=s.cf - 1}:TL).at F:=by
 have hl:s.ej.length=r.length+1:=by rw[e];rfl
 have h1:=h.xi;have h2:=h.zg;have h3:=h.zQ;have h4:=h.OP;have hcase:(s.cf=1∧gU s.fo 1 s.cf 1=s.fo∧r=[])∨gU s.fo 1 s.cf 1=s.fo+1:=by
  unfold gU;split
  ·rename_i hc;exact .inl ⟨by omega,rfl,List.length_eq_zero_iff.1 (by omega)⟩
  exact .inr (by omega)
 refine { h with ej:=(fun x hx=>h.ej x (by rw[e];exact cR _ hx)),xi:=?_,zg:=(by show gU s.fo 1 s.cf 1+r.length≤s.jb.length;omega),zQ:=(by show gU s.fo 1 s.cf 1+(s.cf - 1)≤s.xf;omega),OP:=(by show r.length≤s.cf - 1;omega),vP:=(fun hn=>?_) }
 ·show (s.jb.drop (gU s.fo 1 s.cf 1)).take r.length=r.map oC.v;rcases hcase with⟨_,_,rfl⟩ | h5
  ·rfl
  rw[h5];rw[e]at h1;have:=a8 (List.drop 1) h1;rw[List.drop_take,List.drop_drop,aH]at this;simpa using this
 have:=h.vP hn;omega
theorem TL.vv {s:TL}{F:Hp}(h:s.at F){y:NP}(hy:y.at F):({s with fN:=y}:TL).at F:={ h with fN:=hy }
theorem zr (s:TL)(fs:List Int)(h:gG s.fN=0):lG s.fN fs=0 ↔ ¬s.t.full fs=true:=by
 unfold lG fr.full;rw[aY (by omega)];simp only[TL.t,ab];cases fs.any kf<;>simp
theorem pP (s:TL)(y:NP)(l:mN)(fs:List Int)(h:gG s.fN=0)(h0:lG s.fN fs=0)(h1:y.now=s.fN.now)(h2:y.gE.map LP.l=Iu s.fN l fs):({s with fN:=y}:TL).t=s.t.post l fs:=by
 unfold fr.post;rw[aY ((zr s fs h).1 h0)];simp only[TL.t,h1,h2,Iu]
theorem r7 (s:TL)(l:mN)(fs:List Int)(h:gG s.fN=0)(h0:lG s.fN fs≠0):s.t.post l fs=s.t:=by
 unfold fr.post;rw[aZ];cases hf:s.t.full fs with
 | true=>rfl
 | false=>exact absurd ((zr s fs h).2 (by rw[hf];decide)) h0
attribute [local irreducible] vc dW gz fg fD gF gJ gB fJ Plain eD eX dK VS fv fA fG jt fh IntKind.wrap
set_option maxRecDepth 100000
set_option maxHeartbeats 4000000
theorem BT (s:TL)(z:Fr)(x:LP){F:Hp}(h:s.at F)(hx:x.at F)(wx:x.l.wf)(hw: ∀y∈s.fN.gE,y.l.wf)(hn:s.fN.gE.length≤60)(FV:gG s.fN=0)(hf: ∀f∈s.ej,f.f.length≤17592186044416):ox s z F 236 [.agg x.row.toArray] (s.t.send x.l):=by
 refine eX.norm 6 (ah 6) (iT (N:=46) (rv:=[]) eW mixed Tryz.func236 rfl rfl rfl rfl rfl ?_);(refine run ?_;repeat intro b);rename_i bx;revert b;intro b7;refine lp (β:=TL×oC×Hp) (fun q=>F.sub q.2.2∧q.1.at q.2.2∧q.1.b0=s.b0∧q.1.fN=s.fN∧q.2.1.at q.2.2∧q.2.1.f.length≤17592186044416∧q.1.t.post x.l q.2.1.f=s.t.send x.l) (fun q=>⟨[(0,.loc 0 0),(3,.loc 6 0),(4,.v q.2.1.v)],q.2.2,(6,⟨some bx,x.row.map .v,71,12⟩)::q.1.rs z,8⟩) rfl (fun q hq=>?_) (fun vb kn kr ke=>?_)
 ·obtain⟨s1,f,F1⟩:=q;obtain⟨hs1,a1,hb0,FW,hf1,hfl,hP⟩:=hq;dsimp only at hs1 a1 hb0 FW hf1 hfl hP ⊢;(refine run ?_;repeat intro b);refine fC [0,6] (by kernel_rfl) ?_;refine dU [0,1,2,3,4,5,6] (f':=7) (by kernel_rfl) rfl rfl rfl ?_;(refine run ?_;repeat intro b);have wn: ∀y∈s1.fN.gE,y.l.wf:=by rw[FW];exact hw
  have hnf:gG s1.fN=0:=by rw[FW];exact FV
  have hn1:s1.fN.gE.length≤4611686018427387904:=by rw[FW];omega
  refine jF 7 11 (by kernel_rfl) rfl rfl rfl ?_ ?_
  ·refine fm rfl rfl rfl D1 rfl (nS s1.fN x f.f hn1 wn a1.fN wx (LP.e8 hs1 hx) (by omega) hf1) ?_;rintro _ F2 hs2 ⟨y,rfl,hy,hyl,hy1,hy2⟩;(refine run ?_;repeat intro b);refine eG hs2 (dP rfl) ?_;refine dU [8,9,10] (f':=3) (by kernel_rfl) rfl rfl rfl ?_;(refine run ?_;repeat intro b);refine ee 11 (by kernel_rfl) rfl rfl ?_;(refine run ?_;repeat intro b);refine eG (Hp.sub.refl _) (dP rfl) ?_;refine ee 12 (by kernel_rfl) rfl rfl ?_;(refine run ?_;repeat intro b);refine eG (Hp.sub.refl _) (dP rfl) ?_;refine ee 13 (by kernel_rfl) rfl rfl ?_;(refine run ?_;repeat intro b);refine eG (Hp.sub.refl _) (dP rfl) ?_;refine fq (by kernel_rfl) ?_;(refine run ?_;repeat intro b);refine eE (decide (lG s1.fN f.f=0)) ?_ (fun h0=>?_) (fun h0=>?_)
   ·refine dV ?_;rw[ai];simp
   ·have h0:=ar h0;rw[aZ h0]at hy1 hy2;(refine fZ ?_;repeat intro b);refine jU (iM (s':={s1 with fN:=y}) 9 [(5,14),(4,13),(3,12),(2,11),(1,10),(0,9)] ?_ rfl rfl rfl rfl (hs1.trans hs2) (hP ▸ pP s1 y x.l f.f hnf h0 hy1 hy2) (TL.vv (TL.e8 hs2 a1) hy) hb0);rw[TL.gW];exact (dM rfl rfl (dM rfl rfl (dM rfl rfl (dM rfl rfl (dM rfl rfl (dX rfl trivial))))))
   have h0:=au h0;(refine fZ ?_;repeat intro b);refine jU (iM (s':=s1) 9 [(5,14),(4,13),(3,12),(2,11),(1,10),(0,9)] ?_ rfl rfl rfl rfl (hs1.trans hs2) (hP ▸ (r7 s1 x.l f.f hnf h0).symm) (TL.e8 hs2 a1) hb0);rw[TL.gW];exact (dM rfl rfl (dM rfl rfl (dM rfl rfl (dM rfl rfl (dM rfl rfl (dX rfl trivial))))))
  (refine run ?_;repeat intro b);refine eG (Hp.sub.refl _) (dP rfl) ?_;refine ee 7 (by kernel_rfl) rfl rfl ?_;refine fm rfl rfl rfl D1 rfl (nS s1.fN x f.f hn1 wn a1.fN wx (LP.e8 hs1 hx) (by omega) hf1) ?_;rintro _ F2 hs2 ⟨y,rfl,hy,hyl,hy1,hy2⟩;(refine run ?_;repeat intro b);refine eG hs2 (dP rfl) ?_;refine dU [8,9,10] (f':=2) (by kernel_rfl) rfl rfl rfl ?_;(refine run ?_;repeat intro b);refine ee 12 (by kernel_rfl) rfl rfl ?_;(refine run ?_;repeat intro b);refine eG (Hp.sub.refl _) (dP rfl) ?_;refine ee 13 (by kernel_rfl) rfl rfl ?_;(refine run ?_;repeat intro b);refine eG (Hp.sub.refl _) (dP rfl) ?_;refine fq (by kernel_rfl) ?_;(refine run ?_;repeat intro b);refine eE (decide (lG s1.fN f.f=0)) ?_ (fun h0=>?_) (fun h0=>?_)
  ·refine dV ?_;rw[ai];simp
  ·have h0:=ar h0;rw[aZ h0]at hy1 hy2;(refine fZ ?_;repeat intro b);refine jU (iM (s':={s1 with fN:=y}) 9 [(5,14),(4,13),(3,12),(2,11),(1,10),(0,9)] ?_ rfl rfl rfl rfl (hs1.trans hs2) (hP ▸ pP s1 y x.l f.f hnf h0 hy1 hy2) (TL.vv (TL.e8 hs2 a1) hy) hb0);rw[TL.gW];exact (dM rfl rfl (dM rfl rfl (dM rfl rfl (dM rfl rfl (dM rfl rfl (dX rfl trivial))))))
  have h0:=au h0;(refine fZ ?_;repeat intro b);refine jU (iM (s':=s1) 9 [(5,14),(4,13),(3,12),(2,11),(1,10),(0,9)] ?_ rfl rfl rfl rfl (hs1.trans hs2) (hP ▸ (r7 s1 x.l f.f hnf h0).symm) (TL.e8 hs2 a1) hb0);rw[TL.gW];exact (dM rfl rfl (dM rfl rfl (dM rfl rfl (dM rfl rfl (dM rfl rfl (dX rfl trivial))))))
 refine eE (decide (0<s.ej.length)) ?_ (fun h0=>?_) (fun h0=>?_)
 ·refine dV ?_;rw[ai];simp
 ·obtain⟨f,r,e⟩: ∃f r,s.ej=f::r:=by
   cases hh:s.ej with
   | nil=>rw[hh]at h0;cases h0
   | cons f r=>exact⟨f,r,rfl⟩
  have e0:=TL.Qg h e;have hl:s.ej.length=r.length+1:=by rw[e];rfl
  have hle:=h.OP;obtain⟨bf,hbf⟩: ∃b,s.bf=some b:=by
   cases hh:s.bf with
   | some b=>exact⟨b,rfl⟩
   | none=>have:=h.vP hh;omega
  have hf1:=h.ej f (by rw[e];exact cT);have hf2:=hf f (by rw[e];exact cT);have WA:=TL.Nh h e;have es:s.t.send x.l=fr.post ({s with fo:=gU s.fo 1 s.cf 1,ej:=r,cf:=s.cf - 1}:TL).t x.l f.f:=by
   unfold fr.send;simp only[TL.t,e,a9]
  rw[es]at kn;clear kr ke es;obtain⟨dI,cl,dN,polls,fN,reach,jb,fo,ej,events,b0,bo,co,bp,cp,bf0,cf,xf,be,ce⟩:=s;dsimp only at *;subst hbf;dsimp only [TL.rs,TL.cells];(refine run ?_;repeat intro b);refine jM 15 (by kernel_rfl) rfl rfl ?_;(refine run ?_;repeat intro b);refine dL rfl rfl rfl ⟨by omega,by omega,_,_,rfl,rfl⟩ ?_;refine om f.v rfl rfl rfl rfl rfl (by exact DJ (by simpa using e0)) ?_;(refine run ?_;repeat intro b);refine dL rfl rfl rfl ⟨by omega,by omega⟩ ?_;(refine run ?_;repeat intro b);refine kn _ (VS.freeze 7 [0,3,4] rfl rfl rfl rfl fun F1 hs1 hf3=>VS.id ?_);rw[fc,fc,fc,fc,fc];subst e;exact⟨(⟨dI,cl,dN,polls,fN,reach,jb,gU fo 1 cf 1,r,events,b0,bo,co,bp,cp,some bf,cf - 1,xf,be,ce⟩,f,F1),⟨hs1,TL.e8 hs1 WA,rfl,rfl,oC.e8 hs1 hf1,hf2,rfl⟩,rfl⟩
 (refine run ?_;repeat intro b);refine kn _ (VS.freeze 7 [0,3,4] rfl rfl rfl rfl fun F1 hs1 hf1=>VS.id ?_);rw[fc,fc,fc,fc,fc];refine⟨(s,⟨[1],some ⟨b7,0,none⟩,1⟩,F1),⟨hs1,TL.e8 hs1 h,rfl,rfl,hf1,(show 1≤17592186044416 by decide),?_⟩,rfl⟩;unfold fr.send;have e:s.ej=[]:=by have:=au h0;exact List.length_eq_zero_iff.1 (by omega)
 simp only[TL.t,e,cP]
end
section
open Go.TR
structure qS where
 kind:Int
 jc:Int
 value:List UInt8
 f:oC
 x:LP
def qS.d (s:qS):sW:=⟨s.kind,s.jc,s.value,s.f.f,s.x.l⟩
@[reducible] def qS.row (s:qS):List Value:=i64 s.kind::i64 s.jc::S s.value::s.f.v::s.x.row
structure qS.at (F:Hp) (s:qS):Prop where
 f:s.f.at F
 x:s.x.at F
theorem TL.get {s:TL}{k:Int}(h:s.t.owned k=true):0≤k∧k.toNat<s.dN.length:=by
 unfold fr.owned at h;simp only[TL.t,ab,aL,av]at h;omega
theorem AB {cells:List EV}{k:Nat}{ow:jk}(h:(cells.take (0+k * 8+8)).drop (0+k * 8)=ow.row.map EV.v):cells[0+k * 8+6]? =some (.v (.slice ow.p ow.o.wanted.length ow.c)):=by
 have:=a8 (·[6]?) h;simp only[cA]at this;rw[cE,aZ (by omega)]at this;exact this
@[reducible] def eI.row (c:eI) (a:ji):List Value:=[i64 c.queue.most,.slice a.w c.queue.wait.length a.cw,i64 c.batch,i64 c.every,i64 c.now,.slice a.h c.dS.length a.ch,.slice a.b c.ez.length a.cb]
theorem UK {x:Nat}(h:x<MM):x<18446744073709551616:=by
 unfold MM at h;omega
theorem PQ (k:Nat)(s:List UInt8):vi k s<18446744073709551616:=UK (ln _)
theorem s9 {o:Ow}{v:List UInt8}(hw:o.wf)(hv:v.length≤4611686018427387904):(iL o v).wf∧(jR o v).key<18446744073709551616∧(jv o v=0→rE (jR o v).key (iL o v)=true):=by
 have h0:Ask.none.wf:=⟨by decide,by decide,by decide,by decide⟩;by_cases h:jv o v=0
 ·have hf:eR o.name v=0:=by
   unfold jv at h;split at h
   ·rename_i h1;exact absurd h h1
   rename_i h1;have h1:ki o=0:=by omega
   split at h
   ·cases h
   rename_i h2;unfold nb at h2;rw[av]at h2;unfold eR;rw[aZ (iW h1).1,aY h2]
  have e:iL o v=⟨o.name,v,o.wanted.length,vi o.key (jT o.name v o.wanted.length)⟩:=by
   unfold iL uG;rw[aZ h,aZ hf]
  have e2:(jR o v).key=o.key:=by unfold jR;rw[aZ h]
  have h3:=hw.wanted;rw[e,e2];refine⟨⟨hw.name,hv,by show o.wanted.length<_;omega,?_⟩,hw.key,fun _=>?_⟩
  ·have h5:=PQ o.key (jT o.name v o.wanted.length);generalize vi o.key (jT o.name v o.wanted.length)=t at *;exact h5
  unfold rE;rw[hf];simp
 have e:iL o v=Ask.none:=by unfold iL;rw[aY h]
 have e2:(jR o v).key=0:=by unfold jR;rw[aY h];rfl
 rw[e,e2];exact⟨h0,by decide,fun h'=>absurd h' h⟩
attribute [local irreducible] vc dW gz fg fD gF gJ gB fJ Plain eD eX dK VS fv fA fG jt fh IntKind.wrap
set_option maxRecDepth 100000
set_option maxHeartbeats 4000000
theorem PW (s:TL)(z:Fr)(d:qS){F:Hp}(h:s.at F)(hd:d.at F)(hno:s.dN.length≤4)(hwo: ∀x∈s.dN,x.o.wf∧ki x.o=0)(hv:d.value.length≤4611686018427387904)(hcw:s.dI.wf)(hev:s.events.length≤1000000):ox s z F 111 [.agg d.row.toArray] (s.t.want d.jc d.value):=by
 refine eX.norm 6 (ah 6) (iT (N:=84) (rv:=[]) eW mixed Tryz.func111 rfl rfl rfl rfl rfl ?_);(refine fZ ?_;repeat intro b);revert b;intro Zc;refine nQ rfl rfl rfl Lg rfl (zR s z ⟨some Zc,d.row.map EV.v,73,16⟩ d.jc F hno) ?_;rintro _ F' _ _ _ _ ⟨rfl,hF,rfl,rfl⟩;have hF:=hF.symm;subst hF;(refine fZ ?_;repeat intro b);refine eE (!s.t.owned d.jc) rfl (fun h0=>?_) (fun h0=>?_)
 ·(refine fZ ?_;repeat intro b);refine A5 (iM (s':=s) 7 [(5,12),(4,11),(3,10),(2,9),(1,8),(0,7)] ?_ rfl rfl rfl rfl (Hp.sub.refl _) ?_ h rfl)
  ·rw[TL.gW];exact (dM rfl rfl (dM rfl rfl (dM rfl rfl (dM rfl rfl (dM rfl rfl (dX rfl trivial))))))
  unfold fr.want fr.rf;rw[aY];cases ho:s.t.owned d.jc with
  | false=>exact Bool.false_ne_true
  | true=>rw[ho]at h0;cases h0
 have ho:s.t.owned d.jc=true:=by cases hh:s.t.owned d.jc with
  | true=>rfl
  | false=>rw[hh]at h0;cases h0
 obtain⟨k0,k1⟩:=TL.get ho;have ek:s.t.want d.jc d.value=if jv (s.dN[d.jc.toNat]).o d.value=0∧oA s.dI (iL (s.dN[d.jc.toNat]).o d.value)=0 then
   fr.note { s.t with dN:=(s.dN.map jk.o).set d.jc.toNat (jR (s.dN[d.jc.toNat]).o d.value),dI:=jm s.dI (iL (s.dN[d.jc.toNat]).o d.value) } ⟨1,d.jc,((s.dN[d.jc.toNat]).o.wanted.length:Nat),pc s.dI (iL (s.dN[d.jc.toNat]).o d.value)⟩ else s.t:=by
  have e1:s.t.ow d.jc.toNat=(s.dN[d.jc.toNat]).o:=by
   unfold fr.ow;simp[TL.t,List.getD,k1]
  unfold fr.want fr.rf;rw[ho,e1];simp only[Bool.true_and,aL,av];rfl
 have oW:=h.dN _ (aj k1);obtain⟨hwk,BF⟩:=hwo _ (aj k1);obtain⟨ow,how⟩: ∃x,s.dN[d.jc.toNat]=x:=⟨_,rfl⟩;have kK:=kT (f:=jk.row) (k:=8) gZ k1;have oP:=dO gZ s.dN;rw[how]at ek oW hwk BF kK;obtain⟨bo,Ds⟩: ∃b,s.bo=some b:=by
  cases hh:s.bo with
  | some b=>exact⟨b,rfl⟩
  | none=>have:=h.rq hh;omega
 obtain⟨dI,cl,dN,polls,fN,reach,jb,fo,ej,events,b0,Sx,co,bp,cp,bf,cf,xf,be,ce⟩:=s;dsimp only at *;subst Ds;have k2:d.jc.toNat<dN.length:=k1;dsimp only [TL.rs,TL.cells];(refine fZ ?_;repeat intro b);refine fO (by kernel_rfl) ?_;(refine fZ ?_;repeat intro b);refine dL rfl rfl rfl ⟨k0,by omega,_,_,rfl,rfl⟩ ?_;(refine fZ ?_;repeat intro b);refine om (.slice ow.p ow.o.wanted.length ow.c) rfl rfl rfl rfl rfl (by exact AB kK) ?_;(refine fZ ?_;repeat intro b);have zY:0+d.jc.toNat * 8+8≤((dN.flatMap jk.row).map EV.v).length:=by rw[ab,oP];omega
 refine lp (β:=Hp×Option Addr×Nat×Nat×Nat) (fun q=>F.sub q.1∧e9 q.1 q.2.1 ((jR ow.o d.value).wanted.map S)) (fun q=>⟨[(0,.loc 0 0),(3,.loc 6 0),(4,.v (i64 (ow.o.wanted.length:Nat))),(5,.loc 9 0),(6,.loc 10 0),(7,.v (i64 (jv ow.o d.value)))],q.1,
  (10,⟨some q.2.2.2.2,(iL ow.o d.value).cells.map EV.v,35,4⟩)::(9,⟨some q.2.2.2.1,(jk.row ⟨jR ow.o d.value,q.2.1,q.2.2.1⟩).map EV.v,76,8⟩)::(6,⟨some Zc,d.row.map EV.v,73,16⟩)::(⟨dI,cl,dN,polls,fN,reach,jb,fo,ej,events,b0,some bo,co,bp,cp,bf,cf,xf,be,ce⟩:TL).rs z,11⟩) rfl (fun q hq=>?_) (fun vb kn kr ke=>?_)
 ·obtain⟨F2,pw,cw,bO,bA⟩:=q;obtain⟨hs2,hfw⟩:=hq;dsimp only at hs2 hfw ⊢;obtain⟨S6,hkA,htA⟩:=s9 (v:=d.value) hwk hv;(refine fZ ?_;repeat intro b);refine gm (.bool (rE (jR ow.o d.value).key (iL ow.o d.value))) rfl rfl rfl rfl UW rfl rfl (fun _=>FB _ _ hkA S6 F2) ?_;(refine fZ ?_;repeat intro b);refine eE (decide (jv ow.o d.value≠0)) ?_ (fun h1=>?_) (fun h1=>?_)
  ·refine dV ?_;rw[fx];by_cases hz:jv ow.o d.value=0
   ·rw[htA hz,hz];rfl
   simp[hz]
  ·have h1:=ar h1;rw[aY (fun hh=>h1 hh.1)]at ek;(refine fZ ?_;repeat intro b);refine A5 (iM (s':=(⟨dI,cl,dN,polls,fN,reach,jb,fo,ej,events,b0,some bo,co,bp,cp,bf,cf,xf,be,ce⟩:TL)) 11 [(5,16),(4,15),(3,14),(2,13),(1,12),(0,11)] ?_ rfl rfl rfl rfl hs2 ek.symm (TL.e8 hs2 h) rfl);rw[TL.gW];exact (dM rfl rfl (dM rfl rfl (dM rfl rfl (dM rfl rfl (dM rfl rfl (dX rfl trivial))))))
  have h1:jv ow.o d.value=0:=by have:=au h1;omega
  (refine fZ ?_;repeat intro b);refine lp (β:=Hp×ji×Nat) (fun q=>F2.sub q.1∧(jm dI (iL ow.o d.value)).at q.1 q.2.1) (fun q=>⟨[(0,.loc 0 0),(3,.loc 6 0),(4,.v (i64 (ow.o.wanted.length:Nat))),(5,.loc 9 0),(7,.v (i64 (oA dI (iL ow.o d.value)))),(8,.loc 11 0),(9,.v (i64 (pc dI (iL ow.o d.value))))],q.1,
   (11,⟨some q.2.2,(eI.row (jm dI (iL ow.o d.value)) q.2.1).map EV.v,28,7⟩)::(10,⟨some bA,(iL ow.o d.value).cells.map EV.v,35,4⟩)::(9,⟨some bO,(jk.row ⟨jR ow.o d.value,pw,cw⟩).map EV.v,76,8⟩)::(6,⟨some Zc,d.row.map EV.v,73,16⟩)::(⟨dI,cl,dN,polls,fN,reach,jb,fo,ej,events,b0,some bo,co,bp,cp,bf,cf,xf,be,ce⟩:TL).rs z,12⟩) rfl (fun q hq=>?_) (fun vb kn kr ke=>?_)
  ·obtain⟨F3,lc,bC⟩:=q;obtain⟨hs3,hlc⟩:=hq;dsimp only at hs3 hlc ⊢;(refine fZ ?_;repeat intro b);refine eE (decide (oA dI (iL ow.o d.value)≠0)) ?_ (fun h2=>?_) (fun h2=>?_)
   ·refine dV ?_;rw[ai];simp
   ·have h2:=ar h2;rw[aY (fun hh=>h2 hh.2)]at ek;(refine fZ ?_;repeat intro b);refine A5 (iM (s':=(⟨dI,cl,dN,polls,fN,reach,jb,fo,ej,events,b0,some bo,co,bp,cp,bf,cf,xf,be,ce⟩:TL)) 12 [(5,17),(4,16),(3,15),(2,14),(1,13),(0,12)] ?_ rfl rfl rfl rfl (hs2.trans hs3) ek.symm (TL.e8 (hs2.trans hs3) h) rfl);rw[TL.gW];exact (dM rfl rfl (dM rfl rfl (dM rfl rfl (dM rfl rfl (dM rfl rfl (dX rfl trivial))))))
   have h2:oA dI (iL ow.o d.value)=0:=by have:=au h2;omega
   rw[aZ ⟨h1,h2⟩]at ek;(refine fZ ?_;repeat intro b);refine fC [6,9,11] (by kernel_rfl) ?_;refine dU [0,1,2,3,5,6,7,8,9] (f':=7) (by kernel_rfl) rfl rfl rfl ?_;(refine run ?_;repeat intro b);refine ee 4 (by kernel_rfl) rfl rfl ?_;(refine run ?_;repeat intro b);refine eG (Hp.sub.refl _) (dP rfl) ?_;refine ee 10 (by kernel_rfl) rfl rfl ?_;refine dL rfl rfl rfl ⟨k0,by omega,_,_,rfl,rfl⟩ ?_;(refine run ?_;repeat intro b);refine eG (Hp.sub.refl _) (dP rfl) ?_;refine ee 11 (by kernel_rfl) rfl rfl ?_;refine iS (((dN.set d.jc.toNat ⟨jR ow.o d.value,pw,cw⟩).flatMap jk.row).map EV.v) rfl rfl rfl rfl rfl rfl (by exact zY) (by exact mI (f:=jk.row) gZ k2) rfl ?_;(refine run ?_;repeat intro b);refine eG (Hp.sub.refl _) (dP rfl) ?_;refine dU [12,13,14] (f':=1) (by kernel_rfl) rfl rfl rfl ?_;(refine run ?_;repeat intro b);refine ee 15 (by kernel_rfl) rfl rfl ?_;(refine run ?_;repeat intro b);refine eG (Hp.sub.refl _) (dP rfl) ?_;refine fq (by kernel_rfl) ?_;(refine fZ ?_;repeat intro b);have h3:=TL.e8 (hs2.trans hs3) h;have at2:(⟨jm dI (iL ow.o d.value),lc,dN.set d.jc.toNat ⟨jR ow.o d.value,pw,cw⟩,polls,fN,reach,jb,fo,ej,events,b0,some bo,co,bp,cp,bf,cf,xf,be,ce⟩:TL).at F3:={ h3 with dI:=hlc,dN:=(fun x hx=>(cZ hx).elim (h3.dN x) (fun e=>by subst e;exact eu hs3 hfw)),rq:=(fun hn=>by cases hn),It:=(by show (dN.set _ _).length≤co;rw[cM];exact h3.It) };have cn:=B8 (⟨jm dI (iL ow.o d.value),lc,dN.set d.jc.toNat ⟨jR ow.o d.value,pw,cw⟩,polls,fN,reach,jb,fo,ej,events,b0,some bo,co,bp,cp,bf,cf,xf,be,ce⟩:TL) z 1 d.jc (ow.o.wanted.length:Nat) (pc dI (iL ow.o d.value)) at2 hev;refine nQ rfl rfl rfl Nn rfl (ox.at cn (nx2:=12) [(5,5),(4,4),(3,3),(2,2),(1,1),(0,0)] 0 ?_ rfl rfl rfl rfl (by decide)) ?_
   ·dsimp only [TL.rs,TL.cells];rw[cM];exact (dM rfl rfl (dM rfl rfl (dM rfl rfl (dM rfl rfl (dM rfl rfl (dX rfl trivial))))))
   rintro _ F4 _ _ _ _ ⟨rfl,hs4,rfl,s4,oX,pW,hb4,rfl⟩;(refine fZ ?_;repeat intro b);refine jU (VS.id ⟨_,rfl,12,s4.rs z,6,.v (.tuple #[]),rfl,rfl,rfl,rfl,rfl,hs2.trans (hs3.trans hs4),s4,?_,pW,hb4,rfl⟩);rw[oX,ek];refine a8 (fun o=>fr.note o _) ?_;simp only[TL.t,List.map_set]
  refine fC [0,10] (by kernel_rfl) ?_;refine dU [0,1,2,3,4,5] (f':=9) (by kernel_rfl) rfl rfl rfl ?_;(refine run ?_;repeat intro b);refine jF 6 11 (by kernel_rfl) rfl rfl rfl ?_ ?_
  ·refine fm rfl rfl rfl T5 rfl (wT dI cl (iL ow.o d.value) hcw S6 (eI.e8 hs2 h.dI)) ?_;rintro _ F3 hs3 ⟨lc,rfl,hlc⟩;(refine run ?_;repeat intro b);refine eG (hs3) (dP rfl) ?_;refine dU [7,8,9,10] (f':=4) (by kernel_rfl) rfl rfl rfl ?_;(refine run ?_;repeat intro b);refine ee 11 (by kernel_rfl) rfl rfl ?_;(refine run ?_;repeat intro b);revert b;intro bC;refine eG (Hp.sub.refl _) (dP rfl) ?_;refine ee 12 (by kernel_rfl) rfl rfl ?_;(refine run ?_;repeat intro b);refine eG (Hp.sub.refl _) (dP rfl) ?_;refine dU [13,14] (f':=0) (by kernel_rfl) rfl rfl rfl ?_;(refine run ?_;repeat intro b);refine fq (by kernel_rfl) ?_;(refine run ?_;repeat intro b);exact kn _ (VS.eL [0,3,4,5,7,8,9] rfl ⟨(F3,lc,bC),⟨hs3,hlc⟩,rfl⟩)
  (refine run ?_;repeat intro b);revert b;intro bC;refine eG (Hp.sub.refl _) (dP rfl) ?_;refine ee 6 (by kernel_rfl) rfl rfl ?_;refine fm rfl rfl rfl T5 rfl (wT dI cl (iL ow.o d.value) hcw S6 (eI.e8 hs2 h.dI)) ?_;rintro _ F3 hs3 ⟨lc,rfl,hlc⟩;(refine run ?_;repeat intro b);refine eG (hs3) (dP rfl) ?_;refine dU [7,8,9,10] (f':=3) (by kernel_rfl) rfl rfl rfl ?_;(refine run ?_;repeat intro b);refine ee 12 (by kernel_rfl) rfl rfl ?_;(refine run ?_;repeat intro b);refine eG (Hp.sub.refl _) (dP rfl) ?_;refine dU [13,14] (f':=0) (by kernel_rfl) rfl rfl rfl ?_;(refine run ?_;repeat intro b);refine fq (by kernel_rfl) ?_;(refine run ?_;repeat intro b);exact kn _ (VS.eL [0,3,4,5,7,8,9] rfl ⟨(F3,lc,bC),⟨hs3,hlc⟩,rfl⟩)
 refine fC [0,6,1] (by kernel_rfl) ?_;refine dU [0,1,2,3,4,5,6,7,8,9,10] (f':=10) (by kernel_rfl) rfl rfl rfl ?_;(refine run ?_;repeat intro b);refine dL rfl rfl rfl ⟨k0,by omega,_,_,rfl,rfl⟩ ?_;refine lA ow.row rfl rfl rfl rfl rfl (by exact zY) (by exact kK) ?_;(refine run ?_;repeat intro b);refine OH 11 16 17 (by kernel_rfl) rfl rfl rfl rfl ?_ ?_ ?_
 ·refine fm rfl rfl rfl Eh rfl (tN ow.o d.value hwk oW) ?_;rintro _ F2 hs2 ⟨pw,cw,rfl,hfw⟩;(refine run ?_;repeat intro b);refine eG (hs2) ⟨⟨rfl,rfl,rfl,rfl,rfl,rfl,rfl,rfl,rfl,rfl,rfl,rfl,rfl,rfl,rfl,trivial⟩,⟨rfl,rfl,rfl,rfl,rfl,rfl,rfl,rfl,rfl,rfl,rfl,rfl,rfl,rfl,rfl,rfl,rfl,trivial⟩,⟨rfl,fT _ _ _⟩,trivial⟩ ?_;refine dU [12,13,14,15] (f':=5) (by kernel_rfl) rfl rfl rfl ?_;(refine run ?_;repeat intro b);refine jF 16 17 (by kernel_rfl) rfl rfl rfl ?_ ?_
  ·(refine run ?_;repeat intro b);revert b;intro bO;refine eG (Hp.sub.refl _) ⟨⟨rfl,rfl,rfl,rfl,rfl,rfl,rfl,rfl,rfl,rfl,rfl,rfl,rfl,rfl,rfl,trivial⟩,⟨rfl,rfl,rfl,rfl,rfl,rfl,rfl,rfl,rfl,rfl,rfl,rfl,rfl,rfl,rfl,rfl,rfl,trivial⟩,⟨rfl,fT _ _ _⟩,trivial⟩ ?_;refine ee 17 (by kernel_rfl) rfl rfl ?_;(refine run ?_;repeat intro b);revert b;intro bA;refine eG (Hp.sub.refl _) ⟨⟨rfl,rfl,rfl,rfl,rfl,rfl,rfl,rfl,rfl,rfl,rfl,rfl,rfl,rfl,rfl,trivial⟩,⟨rfl,rfl,rfl,rfl,rfl,rfl,rfl,rfl,rfl,rfl,rfl,rfl,rfl,rfl,rfl,rfl,rfl,trivial⟩,⟨rfl,fT _ _ _⟩,trivial⟩ ?_;refine ee 18 (by kernel_rfl) rfl rfl ?_;(refine run ?_;repeat intro b);refine eG (Hp.sub.refl _) ⟨⟨rfl,rfl,rfl,rfl,rfl,rfl,rfl,rfl,rfl,rfl,rfl,rfl,rfl,rfl,rfl,trivial⟩,⟨rfl,rfl,rfl,rfl,rfl,rfl,rfl,rfl,rfl,rfl,rfl,rfl,rfl,rfl,rfl,rfl,rfl,trivial⟩,⟨rfl,fT _ _ _⟩,trivial⟩ ?_;refine ee 19 (by kernel_rfl) rfl rfl ?_;(refine run ?_;repeat intro b);refine eG (Hp.sub.refl _) ⟨⟨rfl,rfl,rfl,rfl,rfl,rfl,rfl,rfl,rfl,rfl,rfl,rfl,rfl,rfl,rfl,trivial⟩,⟨rfl,rfl,rfl,rfl,rfl,rfl,rfl,rfl,rfl,rfl,rfl,rfl,rfl,rfl,rfl,rfl,rfl,trivial⟩,⟨rfl,fT _ _ _⟩,trivial⟩ ?_;refine dU [20] (f':=0) (by kernel_rfl) rfl rfl rfl ?_;(refine run ?_;repeat intro b);refine fq (by kernel_rfl) ?_;(refine run ?_;repeat intro b)
   first | refine kn _ (VS.mP (nx':=11) [(8,10),(7,9),(6,6),(5,5),(4,4),(3,3),(2,2),(1,1),(0,0)] [0,3,4,5,6,7] _ ?_ rfl rfl rfl rfl rfl rfl ⟨(F2,pw,cw,bO,bA),⟨hs2,hfw⟩,rfl⟩) | refine kn _ (VS.mP (nx':=11) [(7,10),(8,9),(6,6),(5,5),(4,4),(3,3),(2,2),(1,1),(0,0)] [0,3,4,5,6,7] _ ?_ rfl rfl rfl rfl rfl rfl ⟨(F2,pw,cw,bO,bA),⟨hs2,hfw⟩,rfl⟩)
   exact (dX rfl (dX rfl (dX rfl (dM rfl rfl (dM rfl rfl (dM rfl rfl (dM rfl rfl (dM rfl rfl (dX rfl trivial)))))))))
  (refine run ?_;repeat intro b);revert b;intro bA;refine eG (Hp.sub.refl _) ⟨⟨rfl,rfl,rfl,rfl,rfl,rfl,rfl,rfl,rfl,rfl,rfl,rfl,rfl,rfl,rfl,trivial⟩,⟨rfl,rfl,rfl,rfl,rfl,rfl,rfl,rfl,rfl,rfl,rfl,rfl,rfl,rfl,rfl,rfl,rfl,trivial⟩,⟨rfl,fT _ _ _⟩,trivial⟩ ?_;refine ee 16 (by kernel_rfl) rfl rfl ?_;(refine run ?_;repeat intro b);revert b;intro bO;refine eG (Hp.sub.refl _) ⟨⟨rfl,rfl,rfl,rfl,rfl,rfl,rfl,rfl,rfl,rfl,rfl,rfl,rfl,rfl,rfl,trivial⟩,⟨rfl,rfl,rfl,rfl,rfl,rfl,rfl,rfl,rfl,rfl,rfl,rfl,rfl,rfl,rfl,rfl,rfl,trivial⟩,⟨rfl,fT _ _ _⟩,trivial⟩ ?_;refine ee 18 (by kernel_rfl) rfl rfl ?_;(refine run ?_;repeat intro b);refine eG (Hp.sub.refl _) ⟨⟨rfl,rfl,rfl,rfl,rfl,rfl,rfl,rfl,rfl,rfl,rfl,rfl,rfl,rfl,rfl,trivial⟩,⟨rfl,rfl,rfl,rfl,rfl,rfl,rfl,rfl,rfl,rfl,rfl,rfl,rfl,rfl,rfl,rfl,rfl,trivial⟩,⟨rfl,fT _ _ _⟩,trivial⟩ ?_;refine ee 19 (by kernel_rfl) rfl rfl ?_;(refine run ?_;repeat intro b);refine eG (Hp.sub.refl _) ⟨⟨rfl,rfl,rfl,rfl,rfl,rfl,rfl,rfl,rfl,rfl,rfl,rfl,rfl,rfl,rfl,trivial⟩,⟨rfl,rfl,rfl,rfl,rfl,rfl,rfl,rfl,rfl,rfl,rfl,rfl,rfl,rfl,rfl,rfl,rfl,trivial⟩,⟨rfl,fT _ _ _⟩,trivial⟩ ?_;refine dU [20] (f':=0) (by kernel_rfl) rfl rfl rfl ?_;(refine run ?_;repeat intro b);refine fq (by kernel_rfl) ?_;(refine run ?_;repeat intro b)
  first | refine kn _ (VS.mP (nx':=11) [(8,10),(7,9),(6,6),(5,5),(4,4),(3,3),(2,2),(1,1),(0,0)] [0,3,4,5,6,7] _ ?_ rfl rfl rfl rfl rfl rfl ⟨(F2,pw,cw,bO,bA),⟨hs2,hfw⟩,rfl⟩) | refine kn _ (VS.mP (nx':=11) [(7,10),(8,9),(6,6),(5,5),(4,4),(3,3),(2,2),(1,1),(0,0)] [0,3,4,5,6,7] _ ?_ rfl rfl rfl rfl rfl rfl ⟨(F2,pw,cw,bO,bA),⟨hs2,hfw⟩,rfl⟩)
  exact (dX rfl (dX rfl (dX rfl (dM rfl rfl (dM rfl rfl (dM rfl rfl (dM rfl rfl (dM rfl rfl (dX rfl trivial)))))))))
 ·(refine run ?_;repeat intro b);revert b;intro bO;refine eG (Hp.sub.refl _) ⟨⟨rfl,rfl,rfl,rfl,rfl,rfl,rfl,rfl,rfl,rfl,rfl,rfl,rfl,rfl,rfl,trivial⟩,⟨rfl,rfl,rfl,rfl,rfl,rfl,rfl,rfl,rfl,rfl,rfl,rfl,rfl,rfl,rfl,rfl,rfl,trivial⟩,⟨rfl,fT _ _ _⟩,trivial⟩ ?_;refine jF 11 17 (by kernel_rfl) rfl rfl rfl ?_ ?_
  ·refine fm rfl rfl rfl Eh rfl (tN ow.o d.value hwk oW) ?_;rintro _ F2 hs2 ⟨pw,cw,rfl,hfw⟩;(refine run ?_;repeat intro b);refine eG (hs2) ⟨⟨rfl,rfl,rfl,rfl,rfl,rfl,rfl,rfl,rfl,rfl,rfl,rfl,rfl,rfl,rfl,trivial⟩,⟨rfl,rfl,rfl,rfl,rfl,rfl,rfl,rfl,rfl,rfl,rfl,rfl,rfl,rfl,rfl,rfl,rfl,trivial⟩,⟨rfl,fT _ _ _⟩,trivial⟩ ?_;refine dU [12,13,14,15] (f':=4) (by kernel_rfl) rfl rfl rfl ?_;(refine run ?_;repeat intro b);refine ee 17 (by kernel_rfl) rfl rfl ?_;(refine run ?_;repeat intro b);revert b;intro bA;refine eG (Hp.sub.refl _) ⟨⟨rfl,rfl,rfl,rfl,rfl,rfl,rfl,rfl,rfl,rfl,rfl,rfl,rfl,rfl,rfl,trivial⟩,⟨rfl,rfl,rfl,rfl,rfl,rfl,rfl,rfl,rfl,rfl,rfl,rfl,rfl,rfl,rfl,rfl,rfl,trivial⟩,⟨rfl,fT _ _ _⟩,trivial⟩ ?_;refine ee 18 (by kernel_rfl) rfl rfl ?_;(refine run ?_;repeat intro b);refine eG (Hp.sub.refl _) ⟨⟨rfl,rfl,rfl,rfl,rfl,rfl,rfl,rfl,rfl,rfl,rfl,rfl,rfl,rfl,rfl,trivial⟩,⟨rfl,rfl,rfl,rfl,rfl,rfl,rfl,rfl,rfl,rfl,rfl,rfl,rfl,rfl,rfl,rfl,rfl,trivial⟩,⟨rfl,fT _ _ _⟩,trivial⟩ ?_;refine ee 19 (by kernel_rfl) rfl rfl ?_;(refine run ?_;repeat intro b);refine eG (Hp.sub.refl _) ⟨⟨rfl,rfl,rfl,rfl,rfl,rfl,rfl,rfl,rfl,rfl,rfl,rfl,rfl,rfl,rfl,trivial⟩,⟨rfl,rfl,rfl,rfl,rfl,rfl,rfl,rfl,rfl,rfl,rfl,rfl,rfl,rfl,rfl,rfl,rfl,trivial⟩,⟨rfl,fT _ _ _⟩,trivial⟩ ?_;refine dU [20] (f':=0) (by kernel_rfl) rfl rfl rfl ?_;(refine run ?_;repeat intro b);refine fq (by kernel_rfl) ?_;(refine run ?_;repeat intro b)
   first | refine kn _ (VS.mP (nx':=11) [(8,10),(7,9),(6,6),(5,5),(4,4),(3,3),(2,2),(1,1),(0,0)] [0,3,4,5,6,7] _ ?_ rfl rfl rfl rfl rfl rfl ⟨(F2,pw,cw,bO,bA),⟨hs2,hfw⟩,rfl⟩) | refine kn _ (VS.mP (nx':=11) [(7,10),(8,9),(6,6),(5,5),(4,4),(3,3),(2,2),(1,1),(0,0)] [0,3,4,5,6,7] _ ?_ rfl rfl rfl rfl rfl rfl ⟨(F2,pw,cw,bO,bA),⟨hs2,hfw⟩,rfl⟩)
   exact (dX rfl (dX rfl (dX rfl (dM rfl rfl (dM rfl rfl (dM rfl rfl (dM rfl rfl (dM rfl rfl (dX rfl trivial)))))))))
  (refine run ?_;repeat intro b);revert b;intro bA;refine eG (Hp.sub.refl _) ⟨⟨rfl,rfl,rfl,rfl,rfl,rfl,rfl,rfl,rfl,rfl,rfl,rfl,rfl,rfl,rfl,trivial⟩,⟨rfl,rfl,rfl,rfl,rfl,rfl,rfl,rfl,rfl,rfl,rfl,rfl,rfl,rfl,rfl,rfl,rfl,trivial⟩,⟨rfl,fT _ _ _⟩,trivial⟩ ?_;refine ee 11 (by kernel_rfl) rfl rfl ?_;refine fm rfl rfl rfl Eh rfl (tN ow.o d.value hwk oW) ?_;rintro _ F2 hs2 ⟨pw,cw,rfl,hfw⟩;(refine run ?_;repeat intro b);refine eG (hs2) ⟨⟨rfl,rfl,rfl,rfl,rfl,rfl,rfl,rfl,rfl,rfl,rfl,rfl,rfl,rfl,rfl,trivial⟩,⟨rfl,rfl,rfl,rfl,rfl,rfl,rfl,rfl,rfl,rfl,rfl,rfl,rfl,rfl,rfl,rfl,rfl,trivial⟩,⟨rfl,fT _ _ _⟩,trivial⟩ ?_;refine dU [12,13,14,15] (f':=3) (by kernel_rfl) rfl rfl rfl ?_;(refine run ?_;repeat intro b);refine ee 18 (by kernel_rfl) rfl rfl ?_;(refine run ?_;repeat intro b);refine eG (Hp.sub.refl _) ⟨⟨rfl,rfl,rfl,rfl,rfl,rfl,rfl,rfl,rfl,rfl,rfl,rfl,rfl,rfl,rfl,trivial⟩,⟨rfl,rfl,rfl,rfl,rfl,rfl,rfl,rfl,rfl,rfl,rfl,rfl,rfl,rfl,rfl,rfl,rfl,trivial⟩,⟨rfl,fT _ _ _⟩,trivial⟩ ?_;refine ee 19 (by kernel_rfl) rfl rfl ?_;(refine run ?_;repeat intro b);refine eG (Hp.sub.refl _) ⟨⟨rfl,rfl,rfl,rfl,rfl,rfl,rfl,rfl,rfl,rfl,rfl,rfl,rfl,rfl,rfl,trivial⟩,⟨rfl,rfl,rfl,rfl,rfl,rfl,rfl,rfl,rfl,rfl,rfl,rfl,rfl,rfl,rfl,rfl,rfl,trivial⟩,⟨rfl,fT _ _ _⟩,trivial⟩ ?_;refine dU [20] (f':=0) (by kernel_rfl) rfl rfl rfl ?_;(refine run ?_;repeat intro b);refine fq (by kernel_rfl) ?_;(refine run ?_;repeat intro b)
  first | refine kn _ (VS.mP (nx':=11) [(8,10),(7,9),(6,6),(5,5),(4,4),(3,3),(2,2),(1,1),(0,0)] [0,3,4,5,6,7] _ ?_ rfl rfl rfl rfl rfl rfl ⟨(F2,pw,cw,bO,bA),⟨hs2,hfw⟩,rfl⟩) | refine kn _ (VS.mP (nx':=11) [(7,10),(8,9),(6,6),(5,5),(4,4),(3,3),(2,2),(1,1),(0,0)] [0,3,4,5,6,7] _ ?_ rfl rfl rfl rfl rfl rfl ⟨(F2,pw,cw,bO,bA),⟨hs2,hfw⟩,rfl⟩)
  exact (dX rfl (dX rfl (dX rfl (dM rfl rfl (dM rfl rfl (dM rfl rfl (dM rfl rfl (dM rfl rfl (dX rfl trivial)))))))))
 (refine run ?_;repeat intro b);revert b;intro bA;refine eG (Hp.sub.refl _) ⟨⟨rfl,rfl,rfl,rfl,rfl,rfl,rfl,rfl,rfl,rfl,rfl,rfl,rfl,rfl,rfl,trivial⟩,⟨rfl,rfl,rfl,rfl,rfl,rfl,rfl,rfl,rfl,rfl,rfl,rfl,rfl,rfl,rfl,rfl,rfl,trivial⟩,⟨rfl,fT _ _ _⟩,trivial⟩ ?_;refine jF 11 16 (by kernel_rfl) rfl rfl rfl ?_ ?_
 ·refine fm rfl rfl rfl Eh rfl (tN ow.o d.value hwk oW) ?_;rintro _ F2 hs2 ⟨pw,cw,rfl,hfw⟩;(refine run ?_;repeat intro b);refine eG (hs2) ⟨⟨rfl,rfl,rfl,rfl,rfl,rfl,rfl,rfl,rfl,rfl,rfl,rfl,rfl,rfl,rfl,trivial⟩,⟨rfl,rfl,rfl,rfl,rfl,rfl,rfl,rfl,rfl,rfl,rfl,rfl,rfl,rfl,rfl,rfl,rfl,trivial⟩,⟨rfl,fT _ _ _⟩,trivial⟩ ?_;refine dU [12,13,14,15] (f':=4) (by kernel_rfl) rfl rfl rfl ?_;(refine run ?_;repeat intro b);refine ee 16 (by kernel_rfl) rfl rfl ?_;(refine run ?_;repeat intro b);revert b;intro bO;refine eG (Hp.sub.refl _) ⟨⟨rfl,rfl,rfl,rfl,rfl,rfl,rfl,rfl,rfl,rfl,rfl,rfl,rfl,rfl,rfl,trivial⟩,⟨rfl,rfl,rfl,rfl,rfl,rfl,rfl,rfl,rfl,rfl,rfl,rfl,rfl,rfl,rfl,rfl,rfl,trivial⟩,⟨rfl,fT _ _ _⟩,trivial⟩ ?_;refine ee 18 (by kernel_rfl) rfl rfl ?_;(refine run ?_;repeat intro b);refine eG (Hp.sub.refl _) ⟨⟨rfl,rfl,rfl,rfl,rfl,rfl,rfl,rfl,rfl,rfl,rfl,rfl,rfl,rfl,rfl,trivial⟩,⟨rfl,rfl,rfl,rfl,rfl,rfl,rfl,rfl,rfl,rfl,rfl,rfl,rfl,rfl,rfl,rfl,rfl,trivial⟩,⟨rfl,fT _ _ _⟩,trivial⟩ ?_;refine ee 19 (by kernel_rfl) rfl rfl ?_;(refine run ?_;repeat intro b);refine eG (Hp.sub.refl _) ⟨⟨rfl,rfl,rfl,rfl,rfl,rfl,rfl,rfl,rfl,rfl,rfl,rfl,rfl,rfl,rfl,trivial⟩,⟨rfl,rfl,rfl,rfl,rfl,rfl,rfl,rfl,rfl,rfl,rfl,rfl,rfl,rfl,rfl,rfl,rfl,trivial⟩,⟨rfl,fT _ _ _⟩,trivial⟩ ?_;refine dU [20] (f':=0) (by kernel_rfl) rfl rfl rfl ?_;(refine run ?_;repeat intro b);refine fq (by kernel_rfl) ?_;(refine run ?_;repeat intro b)
  first | refine kn _ (VS.mP (nx':=11) [(8,10),(7,9),(6,6),(5,5),(4,4),(3,3),(2,2),(1,1),(0,0)] [0,3,4,5,6,7] _ ?_ rfl rfl rfl rfl rfl rfl ⟨(F2,pw,cw,bO,bA),⟨hs2,hfw⟩,rfl⟩) | refine kn _ (VS.mP (nx':=11) [(7,10),(8,9),(6,6),(5,5),(4,4),(3,3),(2,2),(1,1),(0,0)] [0,3,4,5,6,7] _ ?_ rfl rfl rfl rfl rfl rfl ⟨(F2,pw,cw,bO,bA),⟨hs2,hfw⟩,rfl⟩)
  exact (dX rfl (dX rfl (dX rfl (dM rfl rfl (dM rfl rfl (dM rfl rfl (dM rfl rfl (dM rfl rfl (dX rfl trivial)))))))))
 (refine run ?_;repeat intro b);revert b;intro bO;refine eG (Hp.sub.refl _) ⟨⟨rfl,rfl,rfl,rfl,rfl,rfl,rfl,rfl,rfl,rfl,rfl,rfl,rfl,rfl,rfl,trivial⟩,⟨rfl,rfl,rfl,rfl,rfl,rfl,rfl,rfl,rfl,rfl,rfl,rfl,rfl,rfl,rfl,rfl,rfl,trivial⟩,⟨rfl,fT _ _ _⟩,trivial⟩ ?_;refine ee 11 (by kernel_rfl) rfl rfl ?_;refine fm rfl rfl rfl Eh rfl (tN ow.o d.value hwk oW) ?_;rintro _ F2 hs2 ⟨pw,cw,rfl,hfw⟩;(refine run ?_;repeat intro b);refine eG (hs2) ⟨⟨rfl,rfl,rfl,rfl,rfl,rfl,rfl,rfl,rfl,rfl,rfl,rfl,rfl,rfl,rfl,trivial⟩,⟨rfl,rfl,rfl,rfl,rfl,rfl,rfl,rfl,rfl,rfl,rfl,rfl,rfl,rfl,rfl,rfl,rfl,trivial⟩,⟨rfl,fT _ _ _⟩,trivial⟩ ?_;refine dU [12,13,14,15] (f':=3) (by kernel_rfl) rfl rfl rfl ?_;(refine run ?_;repeat intro b);refine ee 18 (by kernel_rfl) rfl rfl ?_;(refine run ?_;repeat intro b);refine eG (Hp.sub.refl _) ⟨⟨rfl,rfl,rfl,rfl,rfl,rfl,rfl,rfl,rfl,rfl,rfl,rfl,rfl,rfl,rfl,trivial⟩,⟨rfl,rfl,rfl,rfl,rfl,rfl,rfl,rfl,rfl,rfl,rfl,rfl,rfl,rfl,rfl,rfl,rfl,trivial⟩,⟨rfl,fT _ _ _⟩,trivial⟩ ?_;refine ee 19 (by kernel_rfl) rfl rfl ?_;(refine run ?_;repeat intro b);refine eG (Hp.sub.refl _) ⟨⟨rfl,rfl,rfl,rfl,rfl,rfl,rfl,rfl,rfl,rfl,rfl,rfl,rfl,rfl,rfl,trivial⟩,⟨rfl,rfl,rfl,rfl,rfl,rfl,rfl,rfl,rfl,rfl,rfl,rfl,rfl,rfl,rfl,rfl,rfl,trivial⟩,⟨rfl,fT _ _ _⟩,trivial⟩ ?_;refine dU [20] (f':=0) (by kernel_rfl) rfl rfl rfl ?_;(refine run ?_;repeat intro b);refine fq (by kernel_rfl) ?_;(refine run ?_;repeat intro b)
 first | refine kn _ (VS.mP (nx':=11) [(8,10),(7,9),(6,6),(5,5),(4,4),(3,3),(2,2),(1,1),(0,0)] [0,3,4,5,6,7] _ ?_ rfl rfl rfl rfl rfl rfl ⟨(F2,pw,cw,bO,bA),⟨hs2,hfw⟩,rfl⟩) | refine kn _ (VS.mP (nx':=11) [(7,10),(8,9),(6,6),(5,5),(4,4),(3,3),(2,2),(1,1),(0,0)] [0,3,4,5,6,7] _ ?_ rfl rfl rfl rfl rfl rfl ⟨(F2,pw,cw,bO,bA),⟨hs2,hfw⟩,rfl⟩)
 exact (dX rfl (dX rfl (dX rfl (dM rfl rfl (dM rfl rfl (dM rfl rfl (dM rfl rfl (dM rfl rfl (dX rfl trivial)))))))))
end
end Go.Proofs.YthbnddgjkonkdaaGreatDoor
