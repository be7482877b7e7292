/- A part of the proof. -/
import Derived.Test.YthbnddgjkonkdaaGreatDoorSetClerkR2
import Derived.Test.YthbnddgjkonkdaaGreatDoorClerkR5
import Derived.Test.YthbnddgjkonkdaaGreatDoorSetTownPlay
set_option linter.unusedVariables false
set_option linter.unusedSimpArgs false
namespace Go.Proofs.YthbnddgjkonkdaaGreatDoor
section
open Go.TR
theorem LD:gN [][]=gj [0]:=pK rfl
attribute [local irreducible] vc dW gz fg fD gF gJ gB fJ Plain eD eX dK VS fv fA fG jt fh IntKind.wrap
attribute [local irreducible] dY gN iu gK fL gh fj fu jG jI eR gu jS zx jH jm oA pc fS rQ kV mj gj
set_option maxRecDepth 100000
set_option maxHeartbeats 4000000
end
section
open Go.TR
theorem M5 (o:Ow)(l:List Head)(h:Head)(p:jo):0≤lO o l h p:=by
 unfold lO;split
 ·rcases wX o.head l with e | e | e | e<;>rw[e]<;>decide
 split
 ·decide
 split
 ·split<;>decide
 split<;>decide
theorem tu (t:fr)(l:mN)(f:List Int):(t.post l f).reach=t.reach:=by
 unfold fr.post;split<;>rfl
theorem zk (t:fr)(l:mN):(t.send l).reach=t.reach:=by
 unfold fr.send;split
 ·exact tu _ _ _
 rw[tu]
theorem G8 (t:fr)(l:mN):(t.mO l).reach=t.reach:=by
 unfold fr.mO fr.answer fr.IK fr.O6;split
 ·split
  ·exact zk _ _
  rfl
 split<;>rfl
theorem rm: ∀(l:List mN)(t:fr),(t.comes l).reach=t.reach
 | [],t=>rfl
 | x::l,t=>(rm l (t.mO x)).trans (G8 t x)
theorem Kr (t:fr)(k:Nat):(t.ask k).reach=t.reach:=by
 have h:(t.asked k).reach=t.reach:=by unfold fr.asked;exact zk _ _
 unfold fr.ask;split
 ·split
  ·exact h
  exact h
 rfl
theorem yp (t:fr): ∀k,(t.asks k).reach=t.reach
 | 0=>rfl
 | k+1=>by rw[nH];exact (Kr _ k).trans (yp t k)
theorem NU (t:fr)(d:sW):(t.pX d).reach=t.reach:=by
 unfold fr.pX;split
 ·unfold fr.want;split<;>rfl
 split
 ·rfl
 split
 ·split
  ·exact tu _ _ _
  rfl
 split
 ·unfold fr.tick;split
  ·rfl
  exact (yp _ _).trans (rm _ _)
 rfl
theorem zp: ∀(l:List sW)(t:fr),(t.oB l).reach=t.reach
 | [],t=>rfl
 | d::l,t=>(zp l (t.pX d)).trans (NU t d)
theorem Good.zero {c:eI}(h:Good c):(qR c.dS.head?).dZ=0:=by
 have:=h.form;unfold ny at this;simp only[aQ,aU,ne_eq,bE]at this;have h1:=this.1.1;cases hh:c.dS with
 | nil=>rfl
 | cons a l=>rw[hh]at h1;simpa [qR] using h1
theorem Lu {t:fr}{n:Nat}(h:t.Inv n){l:mN}(ho:t.owned l.from_=true){i m:Nat}(hi:(i:Int)=ku t.dI l.since)(hm:(m:Int)=jC t.dI l.since t.reach+1)(hn:eP (t.ow l.from_.toNat).name=true):
  t.pd l=⟨l.from_,0,0,0,(t.dI.dS.take m).drop i,t.dI.dS.getD (m - 1) Head.none,lT (t.dI.ez.getD (m - 1) []) (t.ow l.from_.toNat).name⟩:=by
 obtain⟨l1,l2,l3⟩:=h.iC.lens;have hr:=h.reach;have hf:=h.iC.fault;obtain⟨_,t2,_⟩:=h.iC.top;have hz:=h.iC.zero;have hm0:jC t.dI l.since t.reach=(m:Int) - 1:=by omega
 have hi1:ku t.dI l.since≤(t.dI.dS.length:Int) - 1:=by unfold ku;omega
 have him:ku t.dI l.since≤jC t.dI l.since t.reach:=by unfold jC;omega
 have Oh:jC t.dI l.since t.reach≤(t.dI.dS.length:Int) - 1:=by unfold jC;omega
 unfold fr.pd;rw[←hi,hm0];have hP:pU t.dI.dS (i:Int) ((m:Int) - 1)=0:=by
  unfold pU;rw[aY (by rw[h.iC.chain];decide),aY (by omega)]
 have hH:k7 t.dI (i:Int) ((m:Int) - 1)=(t.dI.dS.take m).drop i:=by
  have hE:qj t.dI (i:Int) ((m:Int) - 1)=0:=by unfold qj;rw[aY (by rw[hf];decide)];exact hP
  unfold k7;rw[aZ hE];unfold pT;rw[aZ hP,hz];have e1:((m:Int) - 1 - 0+1).toNat=m:=by omega
  have e2:((i:Int) - 0).toNat=i:=by omega
  rw[e1,e2]
 have hbE:mj t.dI ((m:Int) - 1)=0:=by
  unfold mj;rw[aY (by rw[hf];decide),aY (by omega)]
 have e3:((m:Int) - 1).toNat=m - 1:=by omega
 have hbO:kV t.dI ((m:Int) - 1)=t.dI.ez.getD (m - 1) []:=by
  unfold kV;rw[aZ hbE,e3]
 have hlt:m - 1<t.dI.ez.length:=by omega
 have hbf:dY (t.dI.ez.getD (m - 1) [])=0:=by
  have:=h.iC.book _ (aj hlt);simpa [List.getD,hlt] using this
 have hmk:ml (t.dI.ez.getD (m - 1) []) (t.ow l.from_.toNat).name=0:=by
  unfold ml;rw[aY (by rw[hbf];decide),aZ hn]
 have hL:qH t.dI (t.ow l.from_.toNat).name ((m:Int) - 1)=0:=by
  unfold qH;rw[aY (by rw[hbE];decide),hbO];exact hmk
 have hLH:pQ t.dI (t.ow l.from_.toNat).name ((m:Int) - 1)=t.dI.dS.getD (m - 1) Head.none:=by
  unfold pQ;rw[aZ hL,e3]
 have hLP:nu t.dI (t.ow l.from_.toNat).name ((m:Int) - 1)=lT (t.dI.ez.getD (m - 1) []) (t.ow l.from_.toNat).name:=by
  unfold nu nw;rw[aZ hL,hbO,aZ hmk]
 rw[hH,hLH,hLP]
theorem EL {p:Poll}(h:p.bad=false):1≤p.least∧p.least≤p.most∧p.most≤1000∧1≤p.lost∧p.lost≤100∧p.least≤p.nJ∧p.nJ≤p.most∧0≤p.next∧p.next≤1000000000∧0≤p.asked∧p.asked≤1000000:=by
 unfold Poll.bad at h;simp only[aQ,aU]at h;omega
theorem KC {p:Poll}{now:Int}(hp:p.bad=false)(hn:0≤now∧now≤1000000000):p.lF now=0 ↔ ¬(now<p.next∨p.asked=1000000):=by
 have hf:p.kE now=0:=by unfold Poll.kE;rw[hp,aY (by decide),aY (by omega)]
 unfold Poll.lF Poll.zc;rw[hf,aY (by decide)];by_cases h1:p.next≤now
 ·rw[aY (by simp[h1])];by_cases h2:p.asked=1000000
  ·rw[aZ h2];simp[h2]
  rw[aY h2];simp[h2];omega
 rw[aZ (by simp[h1])];simp;omega
theorem Hb {p:Poll}{now:Int}(hp:p.bad=false)(hn:0≤now∧now≤1000000000):p.xo now=p.mU now:=by
 obtain⟨b1,b2,b3,b4,b5,b6,b7,b8,b9,b10,b11⟩:=EL hp;have e1:IntKind.i64.wrap (now+p.nJ)=now+p.nJ:=wrap_i64 (by omega) (by omega);have e2:IntKind.i64.wrap (p.nJ+p.nJ)=p.nJ+p.nJ:=wrap_i64 (by omega) (by omega);have e3:IntKind.i64.wrap (2 * p.nJ)=2 * p.nJ:=wrap_i64 (by omega) (by omega);have e4:((p.nJ.toNat:Nat):Int)=p.nJ:=by omega
 unfold Poll.xo Poll.mU;have h1:steps now p.nJ.toNat=later now p.nJ:=by
  unfold steps later;rw[e1,e4];split<;>split<;>(try split)<;>omega
 have h2:(if p.most<IntKind.i64.wrap (p.nJ+p.nJ) then p.most else IntKind.i64.wrap (p.nJ+p.nJ))=min2 (IntKind.i64.wrap (2 * p.nJ)) p.most:=by
  unfold min2;rw[e2,e3];split<;>split<;>omega
 rw[h1,h2]
end
section
open Go.TR
theorem DO {l:List Entry}{n:List UInt8}{F:Hp}{pe ps:Option Addr}{ce cs:Nat}(h1:e9 F pe ((iY l (eC n)).flatMap Entry.row))(h2:e9 F ps ((iA l n 16).map mu)): ∃a,Value.agg #[S n,.slice pe (iY l (eC n)).length ce,.slice ps 16 cs]=(lT l n).v a∧(lT l n).at F a:=by
 refine⟨⟨pe,ce,ps,cs⟩,?_,h1,h2⟩;have e2:(lT l n).fF.length=16:=jy l n 16;show _=Value.agg #[S n,.slice pe (iY l (eC n)).length ce,.slice ps (lT l n).fF.length cs];rw[e2]
theorem R6:qJ 48=49:=by decide
theorem Sa:qJ 49=48:=by decide
attribute [local irreducible] vc dW gz fg fD gF gJ gB fJ Plain eD eX dK VS fv fA fG jt fh IntKind.wrap
attribute [local irreducible] kB dY gN kJ begun ka gj iY eC jQ iA Bu vk sb xA eP lT
set_option maxRecDepth 100000
set_option maxHeartbeats 4000000
theorem Gm (l:List Entry)(n:List UInt8)(tD:l.length≤24)(hw: ∀x∈l,x.wf)(hn:n.length≤4611686018427387904){p:Option Addr}{c:Nat}{F:Hp}(hf:e9 F p (l.flatMap Entry.row)):
  iy Tryz.prog F 78 [.slice p l.length c,S n] (fun x F'=>∃a,x=(lT l n).v a∧(lT l n).at F' a):=by
 refine eD.drop (fW (N:=70) (rv:=[.cell 4 45]) eW mixed Tryz.func78 rfl rfl rfl rfl rfl ?_);(refine run ?_;repeat intro b);revert b;intro b4;refine dJ _ rfl rfl rfl wq rfl (lq n hn F) ?_;(refine run ?_;repeat intro b);revert b;intro b9;have hg0:iY (l.take 0) (eC n)=[]:=by rw[df];exact H9 _
 have hlen: ∀k,(iY (l.take k) (eC n)).length≤24:=fun k=>by
  have h1:=uk (l.take k) (eC n);rw[aw]at h1;omega
 refine eY (fun q:Nat×Option Nat×Nat=>q.1≤l.length∧(q.2.1=none→(iY (l.take q.1) (eC n)).length=0∧q.2.2=0)∧(iY (l.take q.1) (eC n)).length≤q.2.2)
  (fun q=>⟨[(0,.v (.slice p l.length c)),(5,.v (S (eC n))),(6,.loc 1 0),(18,.v (.slice p l.length c)),(19,.v (i64 (l.length:Nat))),(20,.v (i64 (q.1:Nat))),(4,.loc 0 0)],F,[(3,⟨none,[],33,0⟩),(2,⟨q.2.1,sb (iY (l.take q.1) (eC n)),122,q.2.2 * 2⟩),(1,⟨some b9,[.v (S n),.row 2 0 (iY (l.take q.1) (eC n)).length q.2.2,.row 3 0 0 0],45,3⟩),(0,⟨some b4,[.v (S []),.v (.slice none 0 0),.v (.slice none 0 0)],45,3⟩)],4⟩) (fun q=>l.length - q.1) (0,none,0) ⟨az _,fun _=>⟨by rw[hg0];rfl,rfl⟩,by rw[hg0];exact az _⟩
  (VS.trans (VS.eL [0,5,6,18,19,20,4] rfl (VS.l8 122 (VS.l8 33 (VS.l6 1 [.v (S n),.row 2 0 0 0,.row 3 0 0 0] rfl ⟨⟨trivial,rfl⟩,⟨(by decide:2<4),rfl⟩,⟨(by decide:3<4),rfl⟩,trivial⟩ rfl (VS.id (by rw[hg0,Jf];rfl))))))) ?_
 rintro⟨k,gq,cap⟩ ⟨hk,h3,h4⟩;dsimp only at hk h3 h4 ⊢;by_cases hlt:k<l.length
 ·obtain⟨o1,o2⟩:=fa eM (by decide) hf k hlt;have hst:=Ek (s:=eC n) hlt;have hle:=hlen k;have hwx:=hw l[k] (aj hlt);generalize l[k]=x at o2 hst hwx;generalize hL:iY (l.take k) (eC n)=L at *;(refine run ?_;repeat intro b);refine gw rfl (by omega) ?_;(refine run ?_;repeat intro b);refine dL rfl rfl rfl ⟨by omega,by omega,dR hf (j:=k * 2) (by rw[dO eM];omega)⟩ ?_;refine fB x.row rfl rfl rfl rfl rfl (by rw[ae];exact o1) (by rw[ae];exact o2) ?_;(refine run ?_;repeat intro b);refine dJ _ rfl rfl rfl wq rfl (lq x.name hwx.1 F) ?_;(refine run ?_;repeat intro b);refine eE (decide (eC x.name=eC n)) rfl (fun h=>?_) (fun h=>?_)
  ·rw[aZ (ar h)]at hst;have hL2:(iY (l.take (k+1)) (eC n)).length=L.length+1:=by rw[hst,ag];rfl
   (refine run ?_;repeat intro b);refine fy rfl rfl rfl rfl rfl rfl rfl rfl (ff rfl rfl) (gC _ (l:=x.row) fun y hy=>iN [x] y (by simpa using hy)) h3 h4 rfl (by rw[Cp];exact ah _) (by show _ * 32≤_;omega) (fun h=>by cases h) (fun _ b2 c2 hc2=>?_);(refine run ?_;repeat intro b);have hcells:(sb L).take (L.length * 2)++x.row.map EV.v=sb (iY (l.take (k+1)) (eC n)):=by rw[hst,FA]
   have hall: ∀e∈(sb L).take (L.length * 2)++x.row.map EV.v,∃v,e=EV.v v:=fun e he=>by
    rw[hcells]at he;exact mE _ e he
   rw[dT (by omega),←hL2];rw[←hL2]at hc2;exact fH (k+1,some b2,c2) 2 [(3,3),(6,2),(1,1),(0,0)] [0,5,6,18,19,20,4] [(3,⟨none,[],33,0⟩),(2,⟨some b2,sb (iY (l.take (k+1)) (eC n)),122,c2 * 2⟩),(1,⟨some b9,[.v (S n),.row 2 0 (iY (l.take (k+1)) (eC n)).length c2,.row 3 0 0 0],45,3⟩),(0,⟨some b4,[.v (S []),.v (.slice none 0 0),.v (.slice none 0 0)],45,3⟩)]
    ⟨hlt,(fun h=>by cases h),hc2⟩ (by simp only;omega) (aM _ _)
    (dX rfl (fi ⟨_,rfl,rfl,rfl,rfl,.inl ⟨hcells.symm,hall⟩⟩ (dX rfl (dX rfl trivial)))) rfl rfl rfl rfl rfl rfl rfl
  rw[aY (au h)]at hst;(refine run ?_;repeat intro b);rw[dT (by omega)];exact fH (k+1,gq,cap) 2 [(3,3),(2,2),(1,1),(0,0)] [0,5,6,18,19,20,4] [(3,⟨none,[],33,0⟩),(2,⟨gq,sb L,122,cap * 2⟩),(1,⟨some b9,[.v (S n),.row 2 0 L.length cap,.row 3 0 0 0],45,3⟩),(0,⟨some b4,[.v (S []),.v (.slice none 0 0),.v (.slice none 0 0)],45,3⟩)]
   ⟨hlt,by rw[hst];exact h3,by rw[hst];exact h4⟩ (by simp only;omega) (aM _ _)
   (dX rfl (fi ⟨_,rfl,rfl,rfl,rfl,.inl ⟨rfl,mE _⟩⟩ (dX rfl (dX rfl trivial)))) rfl rfl rfl rfl rfl rfl (by rw[hst])
 have hge:k=l.length:=by omega
 subst hge;rw[aD]at h3 h4 ⊢;have Ol:=hlen l.length;rw[aD]at Ol;have hP:(eC n).length=16:=jN n;(refine run ?_;repeat intro b);refine gy rfl (by omega) ?_;(refine run ?_;repeat intro b);refine fm rfl rfl rfl Qz rfl (A2 l tD hw hf) ?_;rintro _ F1 hF1 ⟨bm,es,clock,rfl,hm,hM⟩;(refine run ?_;repeat intro b);refine eY (fun q:Nat×Option Nat×Nat=>q.1≤16∧(q.2.1=none→16 - q.1=0∧q.2.2=0)∧16 - q.1≤q.2.2)
  (fun q=>⟨[(5,.v (S (eC n))),(6,.loc 1 0),(9,.v (.map (some bm))),(10,.v (.int .i64 ((q.1:Int) - 1))),(4,.loc 0 0)],F1,[(4,⟨q.2.1,xA (iA l n (16 - q.1)),33,q.2.2 * 1⟩),(2,⟨gq,sb (iY l (eC n)),122,cap * 2⟩),(1,⟨some b9,[.v (S n),.row 2 0 (iY l (eC n)).length cap,.row 4 0 (16 - q.1) q.2.2],45,3⟩),(0,⟨some b4,[.v (S []),.v (.slice none 0 0),.v (.slice none 0 0)],45,3⟩)],5⟩) (fun q=>q.1) (16,none,0) ⟨ah _,fun _=>⟨rfl,rfl⟩,ah _⟩
  (VS.mP (nx':=5) [(3,4),(2,2),(1,1),(0,0)] [5,6,9,10,4] [(4,⟨none,[],33,0⟩),(2,⟨gq,sb (iY l (eC n)),122,cap * 2⟩),(1,⟨some b9,[.v (S n),.row 2 0 (iY l (eC n)).length cap,.row 4 0 0 0],45,3⟩),(0,⟨some b4,[.v (S []),.v (.slice none 0 0),.v (.slice none 0 0)],45,3⟩)]
   (dX rfl (fi ⟨_,rfl,rfl,rfl,rfl,.inl ⟨rfl,mE _⟩⟩ (dX rfl (dX rfl trivial)))) rfl rfl rfl rfl rfl rfl (by rw[Nat.sub_self,wN,IE];rfl)) ?_
 rintro⟨d1,F8,cap2⟩ ⟨g1,g2,g3⟩;dsimp only at g1 g2 g3 ⊢;cases d1 with
 | zero=>
  (refine run ?_;repeat intro b);cases F8 with
  | none=>exact absurd (g2 rfl).1 (by decide)
  | some b3=>
   cases gq with
   | none=>
    obtain⟨e1,e2⟩:=h3 rfl;have e3:iY l (eC n)=[]:=aq e1;exact eU (VS.freeze 4 [4] rfl (tF _ _) rfl rfl fun F2 hs1 hf1=>VS.id ⟨_,rfl,DO (by rw[e3];exact eJ _ none) hf1⟩)
   | some b2=>
    exact eU (VS.freeze 4 [4] rfl (tF _ _) rfl rfl fun F2 hs1 hf1=>VS.freeze 2 [4] rfl (by rw[Ff];exact FF _ _) rfl rfl fun F3 hs2 hf2=>VS.id ⟨_,rfl,DO hf2 (eu hs2 hf1)⟩)
 | succ d=>
  have ed:((d+1:Nat):Int) - 1=(d:Int):=by omega
  rw[ed];have hb:=rk n d (by omega);have e2:16 - (d+1)+1=16 - d:=by omega
  have hcells:(xA (iA l n (16 - (d+1)))).take ((16 - (d+1)) * 1)++[.v (mu (gN l (vk (eC n) d)))]=xA (iA l n (16 - d)):=by
   have:=EZ (iA l n (16 - (d+1))) (gN l (vk (eC n) d));rw[jy]at this;rw[xR (d:=d) (by omega),←this]
  have hall: ∀e∈(xA (iA l n (16 - (d+1)))).take ((16 - (d+1)) * 1)++[.v (mu (gN l (vk (eC n) d)))],∃v,e=EV.v v:=fun e he=>by
   rw[hcells]at he;exact IM _ e he
  (refine run ?_;repeat intro b);refine dL rfl rfl rfl ⟨by omega,by rw[ga];omega⟩ ?_;refine dL rfl rfl rfl (by show ((eC n).take d).length+1≤9223372036854775807;rw[aw];omega) ?_;(refine run ?_;repeat intro b);refine dL rfl rfl rfl ⟨by omega,by rw[ga];omega⟩ ?_;(refine run ?_;repeat intro b);have hgd:(bl (jE (eC n))).getD ((d:Nat):Int).toNat 0=(eC n).getD d 0:=by rw[ga,ae]
  rw[hgd];rcases hb with hb | hb
  ·have es:S (bl (jE (List.take ((d:Nat):Int).toNat (bl (jE (eC n)))))++bl ⟨#[49]⟩)=S (vk (eC n) d):=by
    rw[←De,hb,R6];rfl
   rw[es,hb];(refine run ?_;repeat intro b);refine py (kJ l (begun l)) (vk (eC n) d) qy nB rfl rfl rN rfl hm hM ?_;rw[aZ rfl];cases hbg:begun l (vk (eC n) d) with
   | true=>
    rw[pM hbg];(refine run ?_;repeat intro b);refine fy rfl rfl rfl rfl rfl rfl rfl rfl (ff rfl rfl) (gC _ (l:=[mu (gN l (vk (eC n) d))]) (by simp[one])) g2 g3 rfl (by show (16 - (d+1)) * 1≤_;rw[rZ,jy];omega) (by show _ * 8≤_;omega) (fun h=>by cases h) (fun _ b5 c5 w6=>?_);(refine run ?_;repeat intro b);rw[wrap_i64 (by omega) (by omega),e2];rw[e2]at w6;exact fH (d,some b5,c5) 4 [(6,4),(2,2),(1,1),(0,0)] [5,6,9,10,4] [(4,⟨some b5,xA (iA l n (16 - d)),33,c5 * 1⟩),(2,⟨gq,sb (iY l (eC n)),122,cap * 2⟩),(1,⟨some b9,[.v (S n),.row 2 0 (iY l (eC n)).length cap,.row 4 0 (16 - d) c5],45,3⟩),(0,⟨some b4,[.v (S []),.v (.slice none 0 0),.v (.slice none 0 0)],45,3⟩)]
     ⟨by omega,(fun h=>by cases h),w6⟩ (dt d) (aM _ _)
     (fi ⟨_,rfl,rfl,rfl,rfl,.inl ⟨hcells.symm,hall⟩⟩ (fi ⟨_,rfl,rfl,rfl,rfl,.inl ⟨rfl,mE _⟩⟩ (dX rfl (dX rfl trivial)))) rfl rfl rfl rfl rfl rfl rfl
   | false=>
    rw[tK hbg];(refine run ?_;repeat intro b);refine dJ _ rfl rfl rfl vW rfl (nz F1) ?_;rw[←pK hbg];(refine run ?_;repeat intro b);refine fy rfl rfl rfl rfl rfl rfl rfl rfl (ff rfl rfl) (gC _ (l:=[mu (gN l (vk (eC n) d))]) (by simp[one])) g2 g3 rfl (by show (16 - (d+1)) * 1≤_;rw[rZ,jy];omega) (by show _ * 8≤_;omega) (fun h=>by cases h) (fun _ b5 c5 w6=>?_);(refine run ?_;repeat intro b);rw[wrap_i64 (by omega) (by omega),e2];rw[e2]at w6;exact fH (d,some b5,c5) 4 [(6,4),(2,2),(1,1),(0,0)] [5,6,9,10,4] [(4,⟨some b5,xA (iA l n (16 - d)),33,c5 * 1⟩),(2,⟨gq,sb (iY l (eC n)),122,cap * 2⟩),(1,⟨some b9,[.v (S n),.row 2 0 (iY l (eC n)).length cap,.row 4 0 (16 - d) c5],45,3⟩),(0,⟨some b4,[.v (S []),.v (.slice none 0 0),.v (.slice none 0 0)],45,3⟩)]
     ⟨by omega,(fun h=>by cases h),w6⟩ (dt d) (aM _ _)
     (fi ⟨_,rfl,rfl,rfl,rfl,.inl ⟨hcells.symm,hall⟩⟩ (fi ⟨_,rfl,rfl,rfl,rfl,.inl ⟨rfl,mE _⟩⟩ (dX rfl (dX rfl trivial)))) rfl rfl rfl rfl rfl rfl rfl
  rw[hb];(refine run ?_;repeat intro b);refine dL rfl rfl rfl ⟨by omega,by rw[ga];omega⟩ ?_;refine dL rfl rfl rfl (by show ((eC n).take d).length+1≤9223372036854775807;rw[aw];omega) ?_;have es:S (bl (jE (List.take ((d:Nat):Int).toNat (bl (jE (eC n)))))++bl ⟨#[48]⟩)=S (vk (eC n) d):=by
   rw[←De,hb,Sa];rfl
  rw[es];(refine run ?_;repeat intro b);refine py (kJ l (begun l)) (vk (eC n) d) qy nB rfl rfl rN rfl hm hM ?_;rw[aZ rfl];cases hbg:begun l (vk (eC n) d) with
  | true=>
   rw[pM hbg];(refine run ?_;repeat intro b);refine fy rfl rfl rfl rfl rfl rfl rfl rfl (ff rfl rfl) (gC _ (l:=[mu (gN l (vk (eC n) d))]) (by simp[one])) g2 g3 rfl (by show (16 - (d+1)) * 1≤_;rw[rZ,jy];omega) (by show _ * 8≤_;omega) (fun h=>by cases h) (fun _ b5 c5 w6=>?_);(refine run ?_;repeat intro b);rw[wrap_i64 (by omega) (by omega),e2];rw[e2]at w6;exact fH (d,some b5,c5) 4 [(6,4),(2,2),(1,1),(0,0)] [5,6,9,10,4] [(4,⟨some b5,xA (iA l n (16 - d)),33,c5 * 1⟩),(2,⟨gq,sb (iY l (eC n)),122,cap * 2⟩),(1,⟨some b9,[.v (S n),.row 2 0 (iY l (eC n)).length cap,.row 4 0 (16 - d) c5],45,3⟩),(0,⟨some b4,[.v (S []),.v (.slice none 0 0),.v (.slice none 0 0)],45,3⟩)]
    ⟨by omega,(fun h=>by cases h),w6⟩ (dt d) (aM _ _)
    (fi ⟨_,rfl,rfl,rfl,rfl,.inl ⟨hcells.symm,hall⟩⟩ (fi ⟨_,rfl,rfl,rfl,rfl,.inl ⟨rfl,mE _⟩⟩ (dX rfl (dX rfl trivial)))) rfl rfl rfl rfl rfl rfl rfl
  | false=>
   rw[tK hbg];(refine run ?_;repeat intro b);refine dJ _ rfl rfl rfl vW rfl (nz F1) ?_;rw[←pK hbg];(refine run ?_;repeat intro b);refine fy rfl rfl rfl rfl rfl rfl rfl rfl (ff rfl rfl) (gC _ (l:=[mu (gN l (vk (eC n) d))]) (by simp[one])) g2 g3 rfl (by show (16 - (d+1)) * 1≤_;rw[rZ,jy];omega) (by show _ * 8≤_;omega) (fun h=>by cases h) (fun _ b5 c5 w6=>?_);(refine run ?_;repeat intro b);rw[wrap_i64 (by omega) (by omega),e2];rw[e2]at w6;exact fH (d,some b5,c5) 4 [(6,4),(2,2),(1,1),(0,0)] [5,6,9,10,4] [(4,⟨some b5,xA (iA l n (16 - d)),33,c5 * 1⟩),(2,⟨gq,sb (iY l (eC n)),122,cap * 2⟩),(1,⟨some b9,[.v (S n),.row 2 0 (iY l (eC n)).length cap,.row 4 0 (16 - d) c5],45,3⟩),(0,⟨some b4,[.v (S []),.v (.slice none 0 0),.v (.slice none 0 0)],45,3⟩)]
    ⟨by omega,(fun h=>by cases h),w6⟩ (dt d) (aM _ _)
    (fi ⟨_,rfl,rfl,rfl,rfl,.inl ⟨hcells.symm,hall⟩⟩ (fi ⟨_,rfl,rfl,rfl,rfl,.inl ⟨rfl,mE _⟩⟩ (dX rfl (dX rfl trivial)))) rfl rfl rfl rfl rfl rfl rfl
end
end Go.Proofs.YthbnddgjkonkdaaGreatDoor
