/- A part of the proof. -/
import Derived.Test.YthbnddgjkonkdaaGreatDoorSetClerkR2
import Derived.Test.YthbnddgjkonkdaaGreatDoorClerkR5
import Derived.Test.YthbnddgjkonkdaaGreatDoorSetTownPlay
set_option linter.unusedVariables false
set_option linter.unusedSimpArgs false
namespace Go.Proofs.YthbnddgjkonkdaaGreatDoor
section
open Go.TR
theorem Nr:gK [] []=gg [0]:=pL rfl
attribute [local irreducible] vc dT gx fc fA gC gG gw fG Plain eu eR dH VS fq fx fD ju fe IntKind.wrap
attribute [local irreducible] dV gK ir gH fK ga fg fp jD jF eJ gn jM xK jG jj oz pG fP rK kR mf gg
set_option maxRecDepth 100000
set_option maxHeartbeats 4000000
end
section
open Go.TR
theorem MX (o:Ow)(l:List Head)(h:Head)(p:jn):0≤lR o l h p:=by
 unfold lR;split
 ·rcases wR o.head l with e | e | e | e<;>rw[e]<;>decide
 split
 ·decide
 split
 ·split<;>decide
 split<;>decide
theorem tf (t:fm)(l:mJ)(f:List Int):(t.post l f).reach=t.reach:=by
 unfold fm.post;split<;>rfl
theorem yu (t:fm)(l:mJ):(t.send l).reach=t.reach:=by
 unfold fm.send;split
 ·exact tf _ _ _
 rw[tf]
theorem Gx (t:fm)(l:mJ):(t.mL l).reach=t.reach:=by
 unfold fm.mL fm.answer fm.IC fm.PN;split
 ·split
  ·exact yu _ _
  rfl
 split<;>rfl
theorem rN: ∀(l:List mJ)(t:fm),(t.comes l).reach=t.reach
 | [],t=>rfl
 | x::l,t=>(rN l (t.mL x)).trans (Gx t x)
theorem JE (t:fm)(k:Nat):(t.ask k).reach=t.reach:=by
 have h:(t.asked k).reach=t.reach:=by unfold fm.asked;exact yu _ _
 unfold fm.ask;split
 ·split
  ·exact h
  exact h
 rfl
theorem zO (t:fm): ∀k,(t.asks k).reach=t.reach
 | 0=>rfl
 | k+1=>by rw[nG];exact (JE _ k).trans (zO t k)
theorem N3 (t:fm)(d:s8):(t.pU d).reach=t.reach:=by
 unfold fm.pU;split
 ·unfold fm.want;split<;>rfl
 split
 ·rfl
 split
 ·split
  ·exact tf _ _ _
  rfl
 split
 ·unfold fm.tick;split
  ·rfl
  exact (zO _ _).trans (rN _ _)
 rfl
theorem yb: ∀(l:List s8)(t:fm),(t.ou l).reach=t.reach
 | [],t=>rfl
 | d::l,t=>(yb l (t.pU d)).trans (N3 t d)
theorem Good.zero {c:eE}(h:Good c):(qO c.dP.head?).dW=0:=by
 have:=h.form;unfold ns at this;simp only[aQ,aU,ne_eq,bE]at this;have h1:=this.1.1;cases hh:c.dP with
 | nil=>rfl
 | cons a l=>rw[hh]at h1;simpa [qO] using h1
theorem Ld {t:fm}{n:Nat}(h:t.Inv n){l:mJ}(ho:t.owned l.from_=true){i m:Nat}(hi:(i:Int)=kg t.dF l.since)(hm:(m:Int)=jo t.dF l.since t.reach+1)(hn:eL (t.ow l.from_.toNat).name=true):
  t.pD l=⟨l.from_,0,0,0,(t.dF.dP.take m).drop i,t.dF.dP.getD (m - 1) Head.none,lS (t.dF.ee.getD (m - 1) []) (t.ow l.from_.toNat).name⟩:=by
 obtain⟨l1,l2,l3⟩:=h.iA.lens;have hr:=h.reach;have hf:=h.iA.fault;obtain⟨_,t2,_⟩:=h.iA.top;have hz:=h.iA.zero;have hm0:jo t.dF l.since t.reach=(m:Int) - 1:=by omega
 have hi1:kg t.dF l.since≤(t.dF.dP.length:Int) - 1:=by unfold kg;omega
 have him:kg t.dF l.since≤jo t.dF l.since t.reach:=by unfold jo;omega
 have Oe:jo t.dF l.since t.reach≤(t.dF.dP.length:Int) - 1:=by unfold jo;omega
 unfold fm.pD;rw[←hi,hm0];have hP:pt t.dF.dP (i:Int) ((m:Int) - 1)=0:=by
  unfold pt;rw[aY (by rw[h.iA.chain];decide),aY (by omega)]
 have hH:k8 t.dF (i:Int) ((m:Int) - 1)=(t.dF.dP.take m).drop i:=by
  have hE:qt t.dF (i:Int) ((m:Int) - 1)=0:=by unfold qt;rw[aY (by rw[hf];decide)];exact hP
  unfold k8;rw[aZ hE];unfold o9;rw[aZ hP,hz];have e1:((m:Int) - 1 - 0+1).toNat=m:=by omega
  have e2:((i:Int) - 0).toNat=i:=by omega
  rw[e1,e2]
 have hbE:mf t.dF ((m:Int) - 1)=0:=by
  unfold mf;rw[aY (by rw[hf];decide),aY (by omega)]
 have e3:((m:Int) - 1).toNat=m - 1:=by omega
 have hbO:kR t.dF ((m:Int) - 1)=t.dF.ee.getD (m - 1) []:=by
  unfold kR;rw[aZ hbE,e3]
 have hlt:m - 1<t.dF.ee.length:=by omega
 have hbf:dV (t.dF.ee.getD (m - 1) [])=0:=by
  have:=h.iA.book _ (aj hlt);simpa [List.getD,hlt] using this
 have hmk:mh (t.dF.ee.getD (m - 1) []) (t.ow l.from_.toNat).name=0:=by
  unfold mh;rw[aY (by rw[hbf];decide),aZ hn]
 have hL:qC t.dF (t.ow l.from_.toNat).name ((m:Int) - 1)=0:=by
  unfold qC;rw[aY (by rw[hbE];decide),hbO];exact hmk
 have hLH:o8 t.dF (t.ow l.from_.toNat).name ((m:Int) - 1)=t.dF.dP.getD (m - 1) Head.none:=by
  unfold o8;rw[aZ hL,e3]
 have hLP:nq t.dF (t.ow l.from_.toNat).name ((m:Int) - 1)=lS (t.dF.ee.getD (m - 1) []) (t.ow l.from_.toNat).name:=by
  unfold nq nr;rw[aZ hL,hbO,aZ hmk]
 rw[hH,hLH,hLP]
theorem DN {p:Poll}(h:p.bad=false):1≤p.least∧p.least≤p.most∧p.most≤1000∧1≤p.lost∧p.lost≤100∧p.least≤p.nE∧p.nE≤p.most∧0≤p.next∧p.next≤1000000000∧0≤p.asked∧p.asked≤1000000:=by
 unfold Poll.bad at h;simp only[aQ,aU]at h;omega
theorem JY {p:Poll}{now:Int}(hp:p.bad=false)(hn:0≤now∧now≤1000000000):p.lC now=0 ↔ ¬(now<p.next∨p.asked=1000000):=by
 have hf:p.kv now=0:=by unfold Poll.kv;rw[hp,aY (by decide),aY (by omega)]
 unfold Poll.lC Poll.zK;rw[hf,aY (by decide)];by_cases h1:p.next≤now
 ·rw[aY (by simp[h1])];by_cases h2:p.asked=1000000
  ·rw[aZ h2];simp[h2]
  rw[aY h2];simp[h2];omega
 rw[aZ (by simp[h1])];simp;omega
theorem HK {p:Poll}{now:Int}(hp:p.bad=false)(hn:0≤now∧now≤1000000000):p.xj now=p.mP now:=by
 obtain⟨b1,b2,b3,b4,b5,b6,b7,b8,b9,b10,b11⟩:=DN hp;have e1:IntKind.i64.wrap (now+p.nE)=now+p.nE:=wrap_i64 (by omega) (by omega);have e2:IntKind.i64.wrap (p.nE+p.nE)=p.nE+p.nE:=wrap_i64 (by omega) (by omega);have e3:IntKind.i64.wrap (2 * p.nE)=2 * p.nE:=wrap_i64 (by omega) (by omega);have e4:((p.nE.toNat:Nat):Int)=p.nE:=by omega
 unfold Poll.xj Poll.mP;have h1:steps now p.nE.toNat=later now p.nE:=by
  unfold steps later;rw[e1,e4];split<;>split<;>(try split)<;>omega
 have h2:(if p.most<IntKind.i64.wrap (p.nE+p.nE) then p.most else IntKind.i64.wrap (p.nE+p.nE))=min2 (IntKind.i64.wrap (2 * p.nE)) p.most:=by
  unfold min2;rw[e2,e3];split<;>split<;>omega
 rw[h1,h2]
end
section
open Go.TR
theorem Fu {l:List Entry}{n:List UInt8}{F:Hp}{pe ps:Option Addr}{ce cs:Nat}(h1:eY F pe ((iW l (ej n)).flatMap Entry.row))(h2:eY F ps ((iv l n 16).map mu)): ∃a,Value.agg #[S n,.slice pe (iW l (ej n)).length ce,.slice ps 16 cs]=(lS l n).v a∧(lS l n).at F a:=by
 refine⟨⟨pe,ce,ps,cs⟩,?_,h1,h2⟩;have e2:(lS l n).fC.length=16:=jv l n 16;show _=Value.agg #[S n,.slice pe (iW l (ej n)).length ce,.slice ps (lS l n).fC.length cs];rw[e2]
theorem Sp:qH 48=49:=by decide
theorem Rz:qH 49=48:=by decide
attribute [local irreducible] vc dT gx fc fA gC gG gw fG Plain eu eR dH VS fq fx fD ju fe IntKind.wrap
attribute [local irreducible] kB dV gK kG begun jX gg iW ej jS iv Bq vz sb xu eL lS
set_option maxRecDepth 100000
set_option maxHeartbeats 4000000
theorem GR (l:List Entry)(n:List UInt8)(tA:l.length≤24)(hw: ∀x∈l,x.wf)(hn:n.length≤4611686018427387904){p:Option Addr}{c:Nat}{F:Hp}(hf:eY F p (l.flatMap Entry.row)):
  iu Tryz.prog F 78 [.slice p l.length c,S n] (fun x F'=>∃a,x=(lS l n).v a∧(lS l n).at F' a):=by
 refine eu.drop (fU (N:=70) (rv:=[.cell 4 45]) eP mixed Tryz.func78 rfl rfl rfl rfl rfl ?_);(refine run ?_;repeat intro b);revert b;intro b4;refine dG _ rfl rfl rfl wT rfl (kW n hn F) ?_;(refine run ?_;repeat intro b);revert b;intro b9;have hg0:iW (l.take 0) (ej n)=[]:=by rw[db];exact IU _
 have hlen: ∀k,(iW (l.take k) (ej n)).length≤24:=fun k=>by
  have h1:=uo (l.take k) (ej n);rw[aw]at h1;omega
 refine eU (fun q:Nat×Option Nat×Nat=>q.1≤l.length∧(q.2.1=none→(iW (l.take q.1) (ej n)).length=0∧q.2.2=0)∧(iW (l.take q.1) (ej n)).length≤q.2.2)
  (fun q=>⟨[(0,.v (.slice p l.length c)),(5,.v (S (ej n))),(6,.loc 1 0),(18,.v (.slice p l.length c)),(19,.v (i64 (l.length:Nat))),(20,.v (i64 (q.1:Nat))),(4,.loc 0 0)],F,[(3,⟨none,[],33,0⟩),(2,⟨q.2.1,sb (iW (l.take q.1) (ej n)),122,q.2.2 * 2⟩),(1,⟨some b9,[.v (S n),.row 2 0 (iW (l.take q.1) (ej n)).length q.2.2,.row 3 0 0 0],45,3⟩),(0,⟨some b4,[.v (S []),.v (.slice none 0 0),.v (.slice none 0 0)],45,3⟩)],4⟩) (fun q=>l.length - q.1) (0,none,0) ⟨az _,fun _=>⟨by rw[hg0];rfl,rfl⟩,by rw[hg0];exact az _⟩
  (VS.trans (VS.eH [0,5,6,18,19,20,4] rfl (VS.l6 122 (VS.l6 33 (VS.l5 1 [.v (S n),.row 2 0 0 0,.row 3 0 0 0] rfl ⟨⟨trivial,rfl⟩,⟨(by decide:2<4),rfl⟩,⟨(by decide:3<4),rfl⟩,trivial⟩ rfl (VS.id (by rw[hg0,H8];rfl))))))) ?_
 rintro⟨k,gl,cap⟩ ⟨hk,h3,h4⟩;dsimp only at hk h3 h4 ⊢;by_cases hlt:k<l.length
 ·obtain⟨o1,o2⟩:=eZ eI (by decide) hf k hlt;have hst:=Fh (s:=ej n) hlt;have hle:=hlen k;have hwx:=hw l[k] (aj hlt);generalize l[k]=x at o2 hst hwx;generalize hL:iW (l.take k) (ej n)=L at *;(refine run ?_;repeat intro b);refine gm rfl (by omega) ?_;(refine run ?_;repeat intro b);refine dI rfl rfl rfl ⟨by omega,by omega,dO hf (j:=k * 2) (by rw[dL eI];omega)⟩ ?_;refine fy x.row rfl rfl rfl rfl rfl (by rw[ae];exact o1) (by rw[ae];exact o2) ?_;(refine run ?_;repeat intro b);refine dG _ rfl rfl rfl wT rfl (kW x.name hwx.1 F) ?_;(refine run ?_;repeat intro b);refine ez (decide (ej x.name=ej n)) rfl (fun h=>?_) (fun h=>?_)
  ·rw[aZ (ar h)]at hst;have hL2:(iW (l.take (k+1)) (ej n)).length=L.length+1:=by rw[hst,ag];rfl
   (refine run ?_;repeat intro b);refine fv rfl rfl rfl rfl rfl rfl rfl rfl (fb rfl rfl) (gy _ (l:=x.row) fun y hy=>iK [x] y (by simpa using hy)) h3 h4 rfl (by rw[C0];exact ah _) (by show _ * 32≤_;omega) (fun h=>by cases h) (fun _ b2 c2 hc2=>?_);(refine run ?_;repeat intro b);have hcells:(sb L).take (L.length * 2)++x.row.map EV.v=sb (iW (l.take (k+1)) (ej n)):=by rw[hst,Ej]
   have hall: ∀e∈(sb L).take (L.length * 2)++x.row.map EV.v,∃v,e=EV.v v:=fun e he=>by
    rw[hcells]at he;exact mz _ e he
   rw[dQ (by omega),←hL2];rw[←hL2]at hc2;exact fE (k+1,some b2,c2) 2 [(3,3),(6,2),(1,1),(0,0)] [0,5,6,18,19,20,4] [(3,⟨none,[],33,0⟩),(2,⟨some b2,sb (iW (l.take (k+1)) (ej n)),122,c2 * 2⟩),(1,⟨some b9,[.v (S n),.row 2 0 (iW (l.take (k+1)) (ej n)).length c2,.row 3 0 0 0],45,3⟩),(0,⟨some b4,[.v (S []),.v (.slice none 0 0),.v (.slice none 0 0)],45,3⟩)]
    ⟨hlt,(fun h=>by cases h),hc2⟩ (by simp only;omega) (aM _ _)
    (dU rfl (ff ⟨_,rfl,rfl,rfl,rfl,.inl ⟨hcells.symm,hall⟩⟩ (dU rfl (dU rfl trivial)))) rfl rfl rfl rfl rfl rfl rfl
  rw[aY (au h)]at hst;(refine run ?_;repeat intro b);rw[dQ (by omega)];exact fE (k+1,gl,cap) 2 [(3,3),(2,2),(1,1),(0,0)] [0,5,6,18,19,20,4] [(3,⟨none,[],33,0⟩),(2,⟨gl,sb L,122,cap * 2⟩),(1,⟨some b9,[.v (S n),.row 2 0 L.length cap,.row 3 0 0 0],45,3⟩),(0,⟨some b4,[.v (S []),.v (.slice none 0 0),.v (.slice none 0 0)],45,3⟩)]
   ⟨hlt,by rw[hst];exact h3,by rw[hst];exact h4⟩ (by simp only;omega) (aM _ _)
   (dU rfl (ff ⟨_,rfl,rfl,rfl,rfl,.inl ⟨rfl,mz _⟩⟩ (dU rfl (dU rfl trivial)))) rfl rfl rfl rfl rfl rfl (by rw[hst])
 have hge:k=l.length:=by omega
 subst hge;rw[aD]at h3 h4 ⊢;have Oh:=hlen l.length;rw[aD]at Oh;have hP:(ej n).length=16:=jJ n;(refine run ?_;repeat intro b);refine gu rfl (by omega) ?_;(refine run ?_;repeat intro b);refine fi rfl rfl rfl Qg rfl (AN l tA hw hf) ?_;rintro _ F1 hF1 ⟨bm,es,clock,rfl,hm,hM⟩;(refine run ?_;repeat intro b);refine eU (fun q:Nat×Option Nat×Nat=>q.1≤16∧(q.2.1=none→16 - q.1=0∧q.2.2=0)∧16 - q.1≤q.2.2)
  (fun q=>⟨[(5,.v (S (ej n))),(6,.loc 1 0),(9,.v (.map (some bm))),(10,.v (.int .i64 ((q.1:Int) - 1))),(4,.loc 0 0)],F1,[(4,⟨q.2.1,xu (iv l n (16 - q.1)),33,q.2.2 * 1⟩),(2,⟨gl,sb (iW l (ej n)),122,cap * 2⟩),(1,⟨some b9,[.v (S n),.row 2 0 (iW l (ej n)).length cap,.row 4 0 (16 - q.1) q.2.2],45,3⟩),(0,⟨some b4,[.v (S []),.v (.slice none 0 0),.v (.slice none 0 0)],45,3⟩)],5⟩) (fun q=>q.1) (16,none,0) ⟨ah _,fun _=>⟨rfl,rfl⟩,ah _⟩
  (VS.mM (nx':=5) [(3,4),(2,2),(1,1),(0,0)] [5,6,9,10,4] [(4,⟨none,[],33,0⟩),(2,⟨gl,sb (iW l (ej n)),122,cap * 2⟩),(1,⟨some b9,[.v (S n),.row 2 0 (iW l (ej n)).length cap,.row 4 0 0 0],45,3⟩),(0,⟨some b4,[.v (S []),.v (.slice none 0 0),.v (.slice none 0 0)],45,3⟩)]
   (dU rfl (ff ⟨_,rfl,rfl,rfl,rfl,.inl ⟨rfl,mz _⟩⟩ (dU rfl (dU rfl trivial)))) rfl rfl rfl rfl rfl rfl (by rw[Nat.sub_self,wK,H4];rfl)) ?_
 rintro⟨d1,FX,cap2⟩ ⟨g1,g2,g3⟩;dsimp only at g1 g2 g3 ⊢;cases d1 with
 | zero=>
  (refine run ?_;repeat intro b);cases FX with
  | none=>exact absurd (g2 rfl).1 (by decide)
  | some b3=>
   cases gl with
   | none=>
    obtain⟨e1,e2⟩:=h3 rfl;have e3:iW l (ej n)=[]:=aq e1;exact eM (VS.freeze 4 [4] rfl (ui _ _) rfl rfl fun F2 hs1 hf1=>VS.id ⟨_,rfl,Fu (by rw[e3];exact eG _ none) hf1⟩)
   | some b2=>
    exact eM (VS.freeze 4 [4] rfl (ui _ _) rfl rfl fun F2 hs1 hf1=>VS.freeze 2 [4] rfl (by rw[DM];exact FC _ _) rfl rfl fun F3 hs2 hf2=>VS.id ⟨_,rfl,Fu hf2 (dZ hs2 hf1)⟩)
 | succ d=>
  have ed:((d+1:Nat):Int) - 1=(d:Int):=by omega
  rw[ed];have hb:=ra n d (by omega);have e2:16 - (d+1)+1=16 - d:=by omega
  have hcells:(xu (iv l n (16 - (d+1)))).take ((16 - (d+1)) * 1)++[.v (mu (gK l (vz (ej n) d)))]=xu (iv l n (16 - d)):=by
   have:=EU (iv l n (16 - (d+1))) (gK l (vz (ej n) d));rw[jv]at this;rw[zk (d:=d) (by omega),←this]
  have hall: ∀e∈(xu (iv l n (16 - (d+1)))).take ((16 - (d+1)) * 1)++[.v (mu (gK l (vz (ej n) d)))],∃v,e=EV.v v:=fun e he=>by
   rw[hcells]at he;exact Jf _ e he
  (refine run ?_;repeat intro b);refine dI rfl rfl rfl ⟨by omega,by rw[fX];omega⟩ ?_;refine dI rfl rfl rfl (by show ((ej n).take d).length+1≤9223372036854775807;rw[aw];omega) ?_;(refine run ?_;repeat intro b);refine dI rfl rfl rfl ⟨by omega,by rw[fX];omega⟩ ?_;(refine run ?_;repeat intro b);have hgd:(bl (jB (ej n))).getD ((d:Nat):Int).toNat 0=(ej n).getD d 0:=by rw[fX,ae]
  rw[hgd];rcases hb with hb | hb
  ·have es:S (bl (jB (List.take ((d:Nat):Int).toNat (bl (jB (ej n)))))++bl ⟨#[49]⟩)=S (vz (ej n) d):=by
    rw[←B7,hb,Sp];rfl
   rw[es,hb];(refine run ?_;repeat intro b);refine pR (kG l (begun l)) (vz (ej n) d) qq nz rfl rfl rh rfl hm hM ?_;rw[aZ rfl];cases hbg:begun l (vz (ej n) d) with
   | true=>
    rw[pC hbg];(refine run ?_;repeat intro b);refine fv rfl rfl rfl rfl rfl rfl rfl rfl (fb rfl rfl) (gy _ (l:=[mu (gK l (vz (ej n) d))]) (by simp[one])) g2 g3 rfl (by show (16 - (d+1)) * 1≤_;rw[r8,jv];omega) (by show _ * 8≤_;omega) (fun h=>by cases h) (fun _ b5 c5 wX=>?_);(refine run ?_;repeat intro b);rw[wrap_i64 (by omega) (by omega),e2];rw[e2]at wX;exact fE (d,some b5,c5) 4 [(6,4),(2,2),(1,1),(0,0)] [5,6,9,10,4] [(4,⟨some b5,xu (iv l n (16 - d)),33,c5 * 1⟩),(2,⟨gl,sb (iW l (ej n)),122,cap * 2⟩),(1,⟨some b9,[.v (S n),.row 2 0 (iW l (ej n)).length cap,.row 4 0 (16 - d) c5],45,3⟩),(0,⟨some b4,[.v (S []),.v (.slice none 0 0),.v (.slice none 0 0)],45,3⟩)]
     ⟨by omega,(fun h=>by cases h),wX⟩ (dm d) (aM _ _)
     (ff ⟨_,rfl,rfl,rfl,rfl,.inl ⟨hcells.symm,hall⟩⟩ (ff ⟨_,rfl,rfl,rfl,rfl,.inl ⟨rfl,mz _⟩⟩ (dU rfl (dU rfl trivial)))) rfl rfl rfl rfl rfl rfl rfl
   | false=>
    rw[tM hbg];(refine run ?_;repeat intro b);refine dG _ rfl rfl rfl vQ rfl (nB F1) ?_;rw[←pL hbg];(refine run ?_;repeat intro b);refine fv rfl rfl rfl rfl rfl rfl rfl rfl (fb rfl rfl) (gy _ (l:=[mu (gK l (vz (ej n) d))]) (by simp[one])) g2 g3 rfl (by show (16 - (d+1)) * 1≤_;rw[r8,jv];omega) (by show _ * 8≤_;omega) (fun h=>by cases h) (fun _ b5 c5 wX=>?_);(refine run ?_;repeat intro b);rw[wrap_i64 (by omega) (by omega),e2];rw[e2]at wX;exact fE (d,some b5,c5) 4 [(6,4),(2,2),(1,1),(0,0)] [5,6,9,10,4] [(4,⟨some b5,xu (iv l n (16 - d)),33,c5 * 1⟩),(2,⟨gl,sb (iW l (ej n)),122,cap * 2⟩),(1,⟨some b9,[.v (S n),.row 2 0 (iW l (ej n)).length cap,.row 4 0 (16 - d) c5],45,3⟩),(0,⟨some b4,[.v (S []),.v (.slice none 0 0),.v (.slice none 0 0)],45,3⟩)]
     ⟨by omega,(fun h=>by cases h),wX⟩ (dm d) (aM _ _)
     (ff ⟨_,rfl,rfl,rfl,rfl,.inl ⟨hcells.symm,hall⟩⟩ (ff ⟨_,rfl,rfl,rfl,rfl,.inl ⟨rfl,mz _⟩⟩ (dU rfl (dU rfl trivial)))) rfl rfl rfl rfl rfl rfl rfl
  rw[hb];(refine run ?_;repeat intro b);refine dI rfl rfl rfl ⟨by omega,by rw[fX];omega⟩ ?_;refine dI rfl rfl rfl (by show ((ej n).take d).length+1≤9223372036854775807;rw[aw];omega) ?_;have es:S (bl (jB (List.take ((d:Nat):Int).toNat (bl (jB (ej n)))))++bl ⟨#[48]⟩)=S (vz (ej n) d):=by
   rw[←B7,hb,Rz];rfl
  rw[es];(refine run ?_;repeat intro b);refine pR (kG l (begun l)) (vz (ej n) d) qq nz rfl rfl rh rfl hm hM ?_;rw[aZ rfl];cases hbg:begun l (vz (ej n) d) with
  | true=>
   rw[pC hbg];(refine run ?_;repeat intro b);refine fv rfl rfl rfl rfl rfl rfl rfl rfl (fb rfl rfl) (gy _ (l:=[mu (gK l (vz (ej n) d))]) (by simp[one])) g2 g3 rfl (by show (16 - (d+1)) * 1≤_;rw[r8,jv];omega) (by show _ * 8≤_;omega) (fun h=>by cases h) (fun _ b5 c5 wX=>?_);(refine run ?_;repeat intro b);rw[wrap_i64 (by omega) (by omega),e2];rw[e2]at wX;exact fE (d,some b5,c5) 4 [(6,4),(2,2),(1,1),(0,0)] [5,6,9,10,4] [(4,⟨some b5,xu (iv l n (16 - d)),33,c5 * 1⟩),(2,⟨gl,sb (iW l (ej n)),122,cap * 2⟩),(1,⟨some b9,[.v (S n),.row 2 0 (iW l (ej n)).length cap,.row 4 0 (16 - d) c5],45,3⟩),(0,⟨some b4,[.v (S []),.v (.slice none 0 0),.v (.slice none 0 0)],45,3⟩)]
    ⟨by omega,(fun h=>by cases h),wX⟩ (dm d) (aM _ _)
    (ff ⟨_,rfl,rfl,rfl,rfl,.inl ⟨hcells.symm,hall⟩⟩ (ff ⟨_,rfl,rfl,rfl,rfl,.inl ⟨rfl,mz _⟩⟩ (dU rfl (dU rfl trivial)))) rfl rfl rfl rfl rfl rfl rfl
  | false=>
   rw[tM hbg];(refine run ?_;repeat intro b);refine dG _ rfl rfl rfl vQ rfl (nB F1) ?_;rw[←pL hbg];(refine run ?_;repeat intro b);refine fv rfl rfl rfl rfl rfl rfl rfl rfl (fb rfl rfl) (gy _ (l:=[mu (gK l (vz (ej n) d))]) (by simp[one])) g2 g3 rfl (by show (16 - (d+1)) * 1≤_;rw[r8,jv];omega) (by show _ * 8≤_;omega) (fun h=>by cases h) (fun _ b5 c5 wX=>?_);(refine run ?_;repeat intro b);rw[wrap_i64 (by omega) (by omega),e2];rw[e2]at wX;exact fE (d,some b5,c5) 4 [(6,4),(2,2),(1,1),(0,0)] [5,6,9,10,4] [(4,⟨some b5,xu (iv l n (16 - d)),33,c5 * 1⟩),(2,⟨gl,sb (iW l (ej n)),122,cap * 2⟩),(1,⟨some b9,[.v (S n),.row 2 0 (iW l (ej n)).length cap,.row 4 0 (16 - d) c5],45,3⟩),(0,⟨some b4,[.v (S []),.v (.slice none 0 0),.v (.slice none 0 0)],45,3⟩)]
    ⟨by omega,(fun h=>by cases h),wX⟩ (dm d) (aM _ _)
    (ff ⟨_,rfl,rfl,rfl,rfl,.inl ⟨hcells.symm,hall⟩⟩ (ff ⟨_,rfl,rfl,rfl,rfl,.inl ⟨rfl,mz _⟩⟩ (dU rfl (dU rfl trivial)))) rfl rfl rfl rfl rfl rfl rfl
end
end Go.Proofs.YthbnddgjkonkdaaGreatDoor
