/- A part of the proof. -/
import Derived.Test.YthbnddgjkonkdaaGreatDoorSetClerk5
import Derived.Test.YthbnddgjkonkdaaGreatDoorSetOwner5
set_option linter.unusedVariables false
set_option linter.unusedSimpArgs false
namespace Go.Proofs.YthbnddgjkonkdaaGreatDoor
section
open Go.TR
theorem KA (x y:Entry):(!(decide (bl (jB x.name)=bl (jB y.name))&&(decide (bl (jB x.value)=bl (jB y.value))&&true)))=decide (x≠y):=by
 obtain⟨a,b⟩:=x;obtain⟨a',b'⟩:=y;simp only[fX,ne_eq,Entry.mk.injEq];by_cases h1:a=a'<;>by_cases h2:b=b'<;>simp[h1,h2]
attribute [local irreducible] vc dT gx fc fA gC gG gw fG Plain eu eR dH VS fq fx fD ju fe IntKind.wrap
set_option maxRecDepth 100000
set_option maxHeartbeats 4000000
theorem DK (l1 l2:List Entry){p1 p2:Option Addr}{c1 c2:Nat}{F:Hp}(h1:eY F p1 (l1.flatMap Entry.row))(h2:eY F p2 (l2.flatMap Entry.row))(hn:l1.length≤4611686018427387904):Plain Tryz.prog F 121 [.slice p1 l1.length c1,.slice p2 l2.length c2] (.bool (decide (l1=l2))):=by
 refine dN (N:=26) (rv:=[.tmp 4]) eP mixed Tryz.func121 rfl rfl rfl rfl rfl ?_;(refine run ?_;repeat intro b);refine ez _ rfl (fun h=>?_) (fun h=>?_)
 ·(refine run ?_;repeat intro b);have hne:l1≠l2:=by rintro rfl;simp at h
  simp[gE,hne]
 have hl:l1.length=l2.length:=by simp at h;omega
 (refine run ?_;repeat intro b);refine eU (fun k:Nat=>k≤l1.length∧l1.take k=l2.take k) (fun k=>⟨[(0,.v (.slice p1 l1.length c1)),(1,.v (.slice p2 l2.length c2)),(12,.v (i64 l1.length)),(13,.v (i64 (k:Nat)))],F,[],0⟩) (fun k=>l1.length - k) 0 ⟨az _,rfl⟩ (VS.eH [0,1,12,13] rfl rfl) ?_;rintro k ⟨hk,ht⟩;by_cases hlt:k<l1.length
 ·have hlt2:k<l2.length:=by omega
  obtain⟨o1,o2⟩:=eZ eI (by decide) h1 k hlt;obtain⟨o3,o4⟩:=eZ eI (by decide) h2 k hlt2;obtain⟨x,hx⟩: ∃x,x=l1[k]:=⟨_,rfl⟩;obtain⟨y,hy⟩: ∃y,y=l2[k]:=⟨_,rfl⟩;rw[←hx]at o2;rw[←hy]at o4;(refine run ?_;repeat intro b);refine gm rfl (by omega) ?_;(refine run ?_;repeat intro b);refine fM (by kernel_rfl) ?_;(refine run ?_;repeat intro b);refine dI rfl rfl rfl ⟨by omega,by omega,dO h1 (j:=k * 2) (by rw[dL eI];omega)⟩ ?_;refine fy (Entry.row x) rfl rfl rfl rfl rfl (by rw[ae];exact o1) (by rw[ae];exact o2) ?_;(refine run ?_;repeat intro b);refine dI rfl rfl rfl ⟨by omega,by omega,dO h2 (j:=k * 2) (by rw[dL eI];omega)⟩ ?_;refine fy (Entry.row y) rfl rfl rfl rfl rfl (by rw[ae];exact o3) (by rw[ae];exact o4) ?_;(refine run ?_;repeat intro b);refine ez (decide (x≠y)) (a8 (fun b=>some (EV.v (.bool b))) (KA x y)) (fun h4=>?_) (fun h4=>?_)
  ·(refine run ?_;repeat intro b);have hne:l1≠l2:=pM hlt hlt2 (by rw[←hx,←hy];exact ar h4);simp[gE,hne]
  (refine run ?_;repeat intro b);rw[dQ (by omega)];exact fj (k+1) ⟨hlt,my ht hlt hlt2 (by rw[←hx,←hy];simpa using h4)⟩ (by omega) (VS.eH [0,1,12,13] rfl rfl)
 have hge:k=l1.length:=by omega
 subst hge;(refine run ?_;repeat intro b);refine gu rfl (by omega) ?_;(refine run ?_;repeat intro b);have he:l1=l2:=by rw[aD]at ht;rw[ht,hl,aD]
 simp[gE,he]
theorem BG (l1 l2:List Nat){p1 p2:Option Addr}{c1 c2:Nat}{F:Hp}(h1:eY F p1 (l1.map mu))(h2:eY F p2 (l2.map mu))(hn:l1.length≤9223372036854775806):Plain Tryz.prog F 303 [.slice p1 l1.length c1,.slice p2 l2.length c2] (.bool (decide (l1=l2))):=by
 refine dN (N:=26) (rv:=[.tmp 4]) eP mixed Tryz.func303 rfl rfl rfl rfl rfl ?_;(refine run ?_;repeat intro b);refine ez _ rfl (fun h=>?_) (fun h=>?_)
 ·(refine run ?_;repeat intro b);have hne:l1≠l2:=by rintro rfl;simp at h
  simp[gE,hne]
 have hl:l1.length=l2.length:=by simp at h;omega
 (refine run ?_;repeat intro b);refine eU (fun k:Nat=>k≤l1.length∧l1.take k=l2.take k) (fun k=>⟨[(0,.v (.slice p1 l1.length c1)),(1,.v (.slice p2 l2.length c2)),(12,.v (i64 l1.length)),(13,.v (i64 (k:Nat)))],F,[],0⟩) (fun k=>l1.length - k) 0 ⟨az _,rfl⟩ (VS.eH [0,1,12,13] rfl rfl) ?_;rintro k ⟨hk,ht⟩;(refine run ?_;repeat intro b);refine ez _ rfl (fun h3=>?_) (fun h3=>?_)
 ·have hlt:k<l1.length:=by simpa using h3
  have g1:k<(l1.map mu).length:=by simpa using hlt
  have g2:k<(l2.map mu).length:=by simpa using (hl ▸ hlt)
  (refine run ?_;repeat intro b);refine fM (by kernel_rfl) ?_;(refine run ?_;repeat intro b);refine dI rfl rfl rfl ⟨by omega,by omega,dO h1 g1⟩ ?_;refine fr (mu l1[k]) rfl rfl rfl rfl (by have:=gQ h1 g1;simpa using this) ?_;(refine run ?_;repeat intro b);refine dI rfl rfl rfl ⟨by omega,by omega,dO h2 g2⟩ ?_;refine fr (mu l2[k]) rfl rfl rfl rfl (by have:=gQ h2 g2;simpa using this) ?_;(refine run ?_;repeat intro b);refine ez _ rfl (fun h4=>?_) (fun h4=>?_)
  ·(refine run ?_;repeat intro b);have hne:l1≠l2:=pM hlt (hl ▸ hlt) (fun e=>by simp[e]at h4);simp[gE,hne]
  (refine run ?_;repeat intro b);rw[dQ (by omega)];exact fj (k+1) ⟨hlt,my ht hlt (hl ▸ hlt) (by first | simpa using h4 | (simp at h4;exact ar h4) | (simp at h4;omega))⟩ (by omega) (VS.eH [0,1,12,13] rfl rfl)
 have hge:k=l1.length:=by simp at h3;omega
 (refine run ?_;repeat intro b);subst hge;have he:l1=l2:=by rw[aD]at ht;rw[ht,hl,aD]
 simp[gE,he]
theorem sS (l m:List Entry)(e:l=m){p1 p2:Option Addr}{c1 c2:Nat}{F:Hp}(h1:eY F p1 (l.flatMap Entry.row))(h2:eY F p2 (m.flatMap Entry.row))(hn:l.length≤4611686018427387904):Plain Tryz.prog F 121 [.slice p1 l.length c1,.slice p2 m.length c2] (.bool true):=by
 have:=DK l m (c1:=c1) (c2:=c2) h1 h2 hn
 rwa [aW e]at this
theorem yM (l m:List Nat)(e:l=m){p1 p2:Option Addr}{c1 c2:Nat}{F:Hp}(h1:eY F p1 (l.map mu))(h2:eY F p2 (m.map mu))(hn:l.length≤4611686018427387904):Plain Tryz.prog F 303 [.slice p1 l.length c1,.slice p2 m.length c2] (.bool true):=by
 have:=BG l m (c1:=c1) (c2:=c2) h1 h2 (by omega)
 rwa [aW e]at this
theorem rf (l m:List Head)(e:l=m){p1 p2:Option Addr}{c1 c2:Nat}{F:Hp}(h1:eY F p1 (l.flatMap Head.row))(h2:eY F p2 (m.flatMap Head.row))(hn:l.length≤4611686018427387904):Plain Tryz.prog F 120 [.slice p1 l.length c1,.slice p2 m.length c2] (.bool true):=by
 have:=CY l m (c1:=c1) (c2:=c2) h1 h2 hn
 rwa [aW e]at this
theorem CR (p:jn)(a a':Lay){F:Hp}(hw:p.wf)(ha:p.at F a)(hb:p.at F a'):Plain Tryz.prog F 281 [p.v a,p.v a'] (.bool true):=by
 refine dN (N:=24) (rv:=[.tmp 4]) eP mixed Tryz.func281 rfl rfl rfl rfl rfl ?_;(refine run ?_;repeat intro b);refine gi _ rfl rfl rfl rfl Qd rfl rfl (fun _=>sS p.fZ p.fZ rfl ha.fZ hb.fZ hw.fZ) ?_;(refine run ?_;repeat intro b);refine gi _ rfl rfl rfl rfl V8 rfl rfl (fun _=>yM p.fC p.fC rfl ha.fC hb.fC hw.fC) ?_;(refine run ?_;repeat intro b);simp[gE,lL]
@[reducible] def MU (h:Head) (p:jn) (a:Lay):Value:=.agg #[i64 h.dW,u64 (h.root:Nat),u64 (h.prev:Nat),i64 h.at_,S p.name,.slice a.e p.fZ.length a.ce,.slice a.s p.fC.length a.cs]
theorem CN (h:Head)(p:jn)(a a':Lay){F:Hp}(hw:p.wf)(ha:p.at F a)(hb:p.at F a'):Plain Tryz.prog F 242 [MU h p a,MU h p a'] (.bool true):=by
 refine dN (N:=17) (rv:=[.tmp 4]) eP mixed Tryz.func242 rfl rfl rfl rfl rfl ?_;(refine run ?_;repeat intro b);refine gi _ rfl rfl rfl rfl Ui rfl rfl (fun _=>CR p a a' hw ha hb) ?_;(refine run ?_;repeat intro b);simp[gE,lL]
theorem Ar (x y:LP)(e:x.l=y.l){F:Hp}(hw:x.l.wf)(hx:x.at F)(hy:y.at F):Plain Tryz.prog F 182 [.agg x.row.toArray,.agg y.row.toArray] (.bool true):=by
 obtain⟨l,p1,c1,a1⟩:=x;obtain⟨m,p2,c2,a2⟩:=y;dsimp only at e hw;subst e;refine dN (N:=45) (rv:=[.tmp 4]) eP mixed Tryz.func182 rfl rfl rfl rfl rfl ?_;(refine run ?_;repeat intro b);have hl:=hw.dP;refine gi _ rfl rfl rfl rfl QG rfl rfl (fun _=>rf l.dP l.dP rfl hx.dP hy.dP (by omega)) ?_;(refine run ?_;repeat intro b);refine gi _ rfl rfl rfl rfl Tj rfl rfl (fun _=>CN l.head l.nJ a1 a2 hw.nJ hx.nJ hy.nJ) ?_;(refine run ?_;repeat intro b);simp[gE,lL]
theorem Ea (L M:List LP)(e:L.map LP.l=M.map LP.l){p1 p2:Option Addr}{c1 c2:Nat}{F:Hp}(hw: ∀x∈L,x.l.wf)(h1:eY F p1 (L.flatMap LP.row))(h2:eY F p2 (M.flatMap LP.row))(a1: ∀x∈L,x.at F)(a2: ∀x∈M,x.at F)(hn:L.length≤4611686018427387904):Plain Tryz.prog F 122 [.slice p1 L.length c1,.slice p2 M.length c2] (.bool true):=by
 have hl:L.length=M.length:=by simpa using a8 List.length e
 refine dN (N:=27) (rv:=[.tmp 4]) eP mixed Tryz.func122 rfl rfl rfl rfl rfl ?_;(refine run ?_;repeat intro b);refine ez false ?_ (fun h=>by cases h) (fun _=>?_)
 ·refine dS ?_;simp[hl]
 (refine run ?_;repeat intro b);refine eU (fun k:Nat=>k≤L.length) (fun k=>⟨[(0,.v (.slice p1 L.length c1)),(1,.v (.slice p2 M.length c2)),(12,.v (i64 L.length)),(13,.v (i64 (k:Nat)))],F,[],0⟩) (fun k=>L.length - k) 0 (az _) (VS.eH [0,1,12,13] rfl rfl) ?_;intro k hk;by_cases hlt:k<L.length
 ·have hlt2:k<M.length:=by omega
  obtain⟨o1,o2⟩:=eZ je (by decide) h1 k hlt;obtain⟨o3,o4⟩:=eZ je (by decide) h2 k hlt2;have hxy:L[k].l=M[k].l:=by
   have:=a8 (fun l=>l[k]?) e;simpa [hlt,hlt2] using this
  have x1:=a1 _ (aj hlt);have x2:=a2 _ (aj hlt2);have x3:=hw _ (aj hlt);generalize L[k]=x at *;generalize M[k]=y at *;(refine run ?_;repeat intro b);refine gm rfl (by omega) ?_;(refine run ?_;repeat intro b);refine fM (by kernel_rfl) ?_;(refine run ?_;repeat intro b);refine dI rfl rfl rfl ⟨by omega,by omega,dO h1 (j:=k * 12) (by rw[dL je];omega)⟩ ?_;refine fy x.row rfl rfl rfl rfl rfl (by rw[ae];exact o1) (by rw[ae];exact o2) ?_;(refine run ?_;repeat intro b);refine dI rfl rfl rfl ⟨by omega,by omega,dO h2 (j:=k * 12) (by rw[dL je];omega)⟩ ?_;refine fy y.row rfl rfl rfl rfl rfl (by rw[ae];exact o3) (by rw[ae];exact o4) ?_;(refine run ?_;repeat intro b);refine dG _ rfl rfl rfl U3 rfl (Ar x y hxy x3 x1 x2) ?_;(refine run ?_;repeat intro b);rw[dQ (by omega)];exact fj (k+1) hlt (by omega) (VS.eH [0,1,12,13] rfl rfl)
 have hge:k=L.length:=by omega
 subst hge;(refine run ?_;repeat intro b);refine gu rfl (by omega) ?_;(refine run ?_;repeat intro b);rfl
theorem Ho (n m:NP)(e0:n.now=m.now)(e:n.gz.map LP.l=m.gz.map LP.l){F:Hp}(hw: ∀x∈n.gz,x.l.wf)(h1:n.at F)(h2:m.at F)(hn:n.gz.length≤4611686018427387904):Plain Tryz.prog F 65 [n.v,m.v] (.bool true):=by
 refine dN (N:=17) (rv:=[.tmp 4]) eP mixed Tryz.func65 rfl rfl rfl rfl rfl ?_;(refine run ?_;repeat intro b);refine gi _ rfl rfl rfl rfl Tq rfl rfl (fun _=>Ea n.gz m.gz e hw h1.gz h2.gz h1.each h2.each hn) ?_;(refine run ?_;repeat intro b);simp[gE,lL,e0]
end
section
open Go.TR
structure Fits (c:eE):Prop where
 wait:c.queue.wait.length≤4611686018427387904
 dP:c.dP.length≤4611686018427387904
 ee:c.ee.length≤4611686018427387904
 each: ∀l∈c.ee,l.length≤4611686018427387904
theorem Fits.none:Fits eE.none:=⟨by decide,by decide,by decide,fun l hl=>by cases hl⟩
theorem Small.fits {c:eE}(h:Small c):Fits c:=⟨by have:=h.wait;omega,by have:=h.dP;omega,by have:=h.ee;omega,fun l hl=>by have:=h.each l hl;omega⟩
attribute [local irreducible] vc dT gx fc fA gC gG gw fG Plain eu eR dH VS fq fx fD ju fe IntKind.wrap
attribute [local irreducible] dV gK ir gH fK
set_option maxRecDepth 100000
set_option maxHeartbeats 4000000
theorem yj (c:eE)(a a':jf)(hf:Fits c){F:Hp}(ha:c.at F a)(ha':c.at F a'):Plain Tryz.prog F 64 [c.v a,c.v a'] (.bool true):=by
 have q1:=hf.wait;have q2:=hf.dP;have q3:=hf.ee;obtain⟨bs,hb,wW,hbs⟩:=ha.b;obtain⟨cs,hc,hfc,hcs⟩:=ha'.b;refine dN (N:=69) (rv:=[.tmp 4]) eP mixed Tryz.func64 rfl rfl rfl rfl rfl ?_;(refine run ?_;repeat intro b);rename_i bX;revert b;intro bY;have hq:=CT c.queue c.queue (c1:=a.cw) (c2:=a'.cw) ha.w ha'.w q1;rw[aW rfl]at hq;refine dG _ rfl rfl rfl Uq rfl hq ?_;(refine run ?_;repeat intro b);refine gi _ rfl rfl rfl rfl QG rfl rfl (fun _=>rf c.dP c.dP rfl ha.h ha'.h q2) ?_;(refine run ?_;repeat intro b);refine ez false ?_ (fun h=>by cases h) (fun _=>?_)
 ·refine dS ?_;simp only[bne_self_eq_false,Bool.not_true];rfl
 (refine run ?_;repeat intro b);refine eU (fun k:Nat=>k≤c.ee.length)
  (fun k=>⟨[(2,.loc 0 0),(3,.loc 1 0),(52,.v (i64 (c.ee.length:Nat))),(53,.v (i64 (k:Nat)))],F,
   [(1,⟨some bY,[.v (i64 c.queue.most),.v (.slice a'.w c.queue.wait.length a'.cw),.v (i64 c.batch),.v (i64 c.every),.v (i64 c.now),.v (.slice a'.h c.dP.length a'.ch),.v (.slice a'.b c.ee.length a'.cb)],28,7⟩),
    (0,⟨some bX,[.v (i64 c.queue.most),.v (.slice a.w c.queue.wait.length a.cw),.v (i64 c.batch),.v (i64 c.every),.v (i64 c.now),.v (.slice a.h c.dP.length a.ch),.v (.slice a.b c.ee.length a.cb)],28,7⟩)],2⟩) (fun k=>c.ee.length - k) 0 (az _) (VS.eH [2,3,52,53] rfl rfl) ?_
 rintro k hk;by_cases hlt:k<c.ee.length
 ·obtain⟨⟨p1,l1,c1⟩,k1,k2,k3⟩:=oc hb hlt;obtain⟨⟨p2,l2,c2⟩,m1,m2,m3⟩:=oc hc hlt;have kc:=mX wW k1;have mc:=mX hfc m1;have hl:=hf.each _ (aj hlt);simp only at k2 m2;rw[←k2]at hl;(refine run ?_;repeat intro b);refine gm rfl (by omega) ?_;(refine run ?_;repeat intro b);refine fM (by kernel_rfl) ?_;(refine run ?_;repeat intro b);refine dI rfl rfl rfl ⟨by omega,by omega,dO wW (j:=k) (by rw[ab,ln hb];omega)⟩ ?_;refine fr (.slice p1 l1.length c1) rfl rfl rfl rfl (by rw[ae,aA];exact kc) ?_;(refine run ?_;repeat intro b);refine dI rfl rfl rfl ⟨by omega,by omega,dO hfc (j:=k) (by rw[ab,ln hc];omega)⟩ ?_;refine fr (.slice p2 l2.length c2) rfl rfl rfl rfl (by rw[ae,aA];exact mc) ?_;(refine run ?_;repeat intro b);refine dG _ rfl rfl rfl Qd rfl (sS l1 l2 (by rw[k2,m2]) (hbs _ k3).2 (hcs _ m3).2 hl) ?_;(refine run ?_;repeat intro b);rw[dQ (by omega)];exact fj (k+1) hlt (by omega) (VS.eH [2,3,52,53] rfl rfl)
 have hge:k=c.ee.length:=by omega
 (refine run ?_;repeat intro b);refine gu rfl (by omega) ?_;(refine run ?_;repeat intro b);rfl
end
section
open Go.TR
theorem uQ {o:Ow}{l:List Head}{h:Head}{q:jn}{e:Int}(he:e≠0)(hh:lN o.head l=e):lR o l h q=e∧mE o l h q=0:=by
 unfold lR mE;rw[hh,aZ he,aZ he];exact⟨rfl,rfl⟩
theorem Jr {o:Ow}{l:List Head}{h:Head}{q:jn}(hh:lN o.head l=0):lR o l h q=(if iE h q≠0∨h≠fK l∨q.name≠o.name then 4
    else match gF q.fZ q.name with
     | Option.none=>if 0<o.jA then 5 else 0
     | some v=>if wZ v o.jA o.wanted 0=0 then 6 else 0)∧
  mE o l h q=(if iE h q≠0∨h≠fK l∨q.name≠o.name then 0
    else match gF q.fZ q.name with
     | Option.none=>0
     | some v=>wZ v o.jA o.wanted 0):=by
 have h1: ¬(lN o.head l≠0):=by simpa using hh
 exact⟨aY h1,aY h1⟩
attribute [local irreducible] vc dT gx fc fA gC gG gw fG Plain eu eR dH VS fq fx fD ju fe IntKind.wrap
set_option maxRecDepth 100000
theorem CG (l1 l2:List (List UInt8)){p1 p2:Option Addr}{c1 c2:Nat}{F:Hp}(h1:eY F p1 (l1.map S))(h2:eY F p2 (l2.map S))(hn:l1.length≤9223372036854775806):Plain Tryz.prog F 123 [.slice p1 l1.length c1,.slice p2 l2.length c2] (.bool (decide (l1=l2))):=by
 refine dN (N:=26) (rv:=[.tmp 4]) eP mixed Tryz.func123 rfl rfl rfl rfl rfl ?_;(refine run ?_;repeat intro b);refine ez _ rfl (fun h=>?_) (fun h=>?_)
 ·(refine run ?_;repeat intro b);have hne:l1≠l2:=by rintro rfl;simp at h
  simp[gE,hne]
 have hl:l1.length=l2.length:=by simp at h;omega
 (refine run ?_;repeat intro b);refine eU (fun k:Nat=>k≤l1.length∧l1.take k=l2.take k) (fun k=>⟨[(0,.v (.slice p1 l1.length c1)),(1,.v (.slice p2 l2.length c2)),(12,.v (i64 l1.length)),(13,.v (i64 (k:Nat)))],F,[],0⟩) (fun k=>l1.length - k) 0 ⟨az _,rfl⟩ (VS.eH [0,1,12,13] rfl rfl) ?_;rintro k ⟨hk,ht⟩;(refine run ?_;repeat intro b);refine ez _ rfl (fun h3=>?_) (fun h3=>?_)
 ·have hlt:k<l1.length:=by simpa using h3
  have g1:k<(l1.map S).length:=by simpa using hlt
  have g2:k<(l2.map S).length:=by simpa using (hl ▸ hlt)
  (refine run ?_;repeat intro b);refine fM (by kernel_rfl) ?_;(refine run ?_;repeat intro b);refine dI rfl rfl rfl ⟨by omega,by omega,dO h1 g1⟩ ?_;refine fr (S l1[k]) rfl rfl rfl rfl (by have:=gQ h1 g1;simpa using this) ?_;(refine run ?_;repeat intro b);refine dI rfl rfl rfl ⟨by omega,by omega,dO h2 g2⟩ ?_;refine fr (S l2[k]) rfl rfl rfl rfl (by have:=gQ h2 g2;simpa using this) ?_;(refine run ?_;repeat intro b);refine ez _ rfl (fun h4=>?_) (fun h4=>?_)
  ·(refine run ?_;repeat intro b);have hne:l1≠l2:=pM hlt (hl ▸ hlt) (fun e=>by simp[e]at h4);simp[gE,hne]
  (refine run ?_;repeat intro b);rw[dQ (by omega)];exact fj (k+1) ⟨hlt,my ht hlt (hl ▸ hlt) (by first | simpa using h4 | (simp at h4;exact ar h4) | (simp at h4;omega))⟩ (by omega) (VS.eH [0,1,12,13] rfl rfl)
 have hge:k=l1.length:=by simp at h3;omega
 (refine run ?_;repeat intro b);subst hge;have he:l1=l2:=by rw[aD]at ht;rw[ht,hl,aD]
 simp[gE,he]
@[reducible] def Ow.v8 (o:Ow) (p:Option Addr) (n c:Nat):Value:=.agg #[S o.name,u64 (o.key:Nat),i64 o.head.dW,u64 (o.head.root:Nat),u64 (o.head.prev:Nat),i64 o.head.at_,.slice p n c,i64 o.jA]
set_option maxHeartbeats 2000000 in
theorem xS (o:Ow){p1 p2:Option Addr}{n1 n2 c1 c2:Nat}{F:Hp}(e1:n1=o.wanted.length)(e2:n2=o.wanted.length)(hl:o.wanted.length≤1000)(h1:eY F p1 (o.wanted.map S))(h2:eY F p2 (o.wanted.map S)):Plain Tryz.prog F 66 [o.v8 p1 n1 c1,o.v8 p2 n2 c2] (.bool true):=by
 subst e1 e2;have hst:=CG o.wanted o.wanted (c1:=c1) (c2:=c2) h1 h2 (by omega);rw[aW rfl]at hst;refine dN (N:=38) (rv:=[.tmp 4]) eP mixed Tryz.func66 rfl rfl rfl rfl rfl ?_;(refine run ?_;repeat intro b);refine gi _ rfl rfl rfl rfl Tt rfl rfl (fun _=>hst) ?_;(refine run ?_;repeat intro b);simp[gE,lL]
set_option maxHeartbeats 8000000 in
theorem Kw (o:Ow)(l:List Head)(h:Head)(q:jn)(a:Lay)(hw:o.wf)(h0:kf o=0)(hl:l.length≤4611686018427387904)(hwl: ∀x∈l,x.wf)(hq:q.wf){p:Option Addr}{c:Nat}{pl:Option Addr}{cl:Nat}{F:Hp}(hf:eY F p (o.wanted.map S))(hfl:eY F pl (l.flatMap Head.row))(ha:q.at F a):
  Plain Tryz.prog F 76 [o.v p c,.slice pl l.length cl,Kh h q a] (pair (i64 (lR o l h q)) (i64 (mE o l h q:Nat))):=by
 obtain⟨g1,g2,g3,g4,g5,g6⟩:=iT h0;obtain⟨v1,v2,_⟩:=Head.uO g2;have ew:IntKind.i64.wrap (o.head.dW+1)=o.head.dW+1:=wrap_i64 (by omega) (by omega);refine dN (N:=126) (rv:=[.tmp 6,.tmp 7]) eP mixed Tryz.func76 rfl rfl rfl rfl rfl ?_;(refine run ?_;repeat intro b);rename_i b0;refine dG _ rfl rfl rfl Ut rfl (Ep l hl hwl hfl) ?_;(refine run ?_;repeat intro b);by_cases hz:(fp l).1=0
 ·obtain⟨z1,z2,z3,z4,z5⟩:=iL hz;have hz':l.length - 1<l.length:=by omega
  obtain⟨o1,o2⟩:=eZ eW (by decide) hfl 0 z1;obtain⟨o3,o4⟩:=eZ eW (by decide) hfl (l.length - 1) hz';have wy:=hwl _ (aj z1);rw[←uE z1]at o2 wy;rw[uB z1]at o4;have Y0:IntKind.i64.wrap (((l.length:Nat):Int) - 1)=((l.length - 1:Nat):Int):=by rw[wrap_i64 (by omega) (by omega)];omega
  rw[hz];(refine run ?_;repeat intro b);refine k7 (β:=Hp×Option Addr×Option Addr) (fun f=>F.sub f.1∧eY f.1 f.2.1 (qO l.head?).row∧eY f.1 f.2.2 (fK l).row) (fun f=>⟨[(1,.v (.slice pl l.length cl)),(3,.loc 0 0),(5,.loc 1 0),(10,.v (i64 o.head.dW)),(11,.v (.pointer f.2.1)),(12,.v (.pointer f.2.2))],f.1,[(1,⟨some b,[.v (i64 h.dW),.v (u64 (h.root:Nat)),.v (u64 (h.prev:Nat)),.v (i64 h.at_),.v (S q.name),.v (.slice a.e q.fZ.length a.ce),.v (.slice a.s q.fC.length a.cs)],47,7⟩),(0,⟨some b0,[.v (S o.name),.v (u64 (o.key:Nat)),.v (i64 o.head.dW),.v (u64 (o.head.root:Nat)),.v (u64 (o.head.prev:Nat)),.v (i64 o.head.at_),.v (.slice p o.wanted.length c),.v (i64 o.jA)],76,8⟩)],4⟩) rfl (fun f hf1=>?_) (fun u7 kn kr ke=>?_)
  ·obtain⟨F1,p1,p2⟩:=f;obtain⟨hs1,f1,f2⟩:=hf1;dsimp only at hs1 f1 f2 ⊢;have s1:p1.isSome=true:=dO f1 (j:=0) (du 3);have s2:p2.isSome=true:=dO f2 (j:=0) (du 3);have r1: ∀j,j<4→gb F1 (im p1 j)=(qO l.head?).row[j]? :=fun j hj=>by
    have hl:j<(qO l.head?).row.length:=hj;rw[ao hl];exact f1 j _ (ao hl)
   have r2: ∀j,j<4→gb F1 (im p2 j)=(fK l).row[j]? :=fun j hj=>by
    have hl:j<(fK l).row.length:=hj;rw[ao hl];exact f2 j _ (ao hl)
   have hho:=Hb z4 o.head;have hlk:lN o.head l=(if o.head.dW+1<(qO l.head?).dW∨((qO l.head?).dW=o.head.dW+1∧ji o.head (qO l.head?)=false) then 2 else if ((jL l o.head.dW).isSome&&decide (qO (jL l o.head.dW)≠o.head))=true then 3 else if (fK l).dW≤o.head.dW then 1 else 0):=by
    unfold lN;rw[aY (by simpa using hz),←hho];by_cases c1:o.head.dW+1<(qO l.head?).dW
    ·rw[aZ c1,aZ (.inl c1)]
    rw[aY c1];by_cases c2:(qO l.head?).dW=o.head.dW+1∧ji o.head (qO l.head?)=false
    ·rw[aZ c2,aZ (.inr c2)]
    rw[aY c2,aY (show¬(o.head.dW+1<(qO l.head?).dW∨((qO l.head?).dW=o.head.dW+1∧ji o.head (qO l.head?)=false)) from not_or.2 ⟨c1,c2⟩)]
   generalize qO l.head? =y at f1 r1 wy hlk;have hvg:=fun hh=>Jr (o:=o) (l:=l) (h:=h) (q:=q) hh;generalize fK l=z at f2 r2 hlk hvg;(refine run ?_;repeat intro b);refine dI rfl rfl rfl s1 ?_;refine fr (i64 y.dW) rfl rfl rfl rfl (r1 0 (by decide)) ?_;(refine run ?_;repeat intro b);refine iw rfl rfl rfl rfl rfl (fun _=>s1) ?_;refine sg (i64 y.dW) rfl rfl rfl rfl rfl rfl (fun _=>r1 0 (by decide)) ?_;(refine run ?_;repeat intro b);refine uc y.row rfl rfl rfl rfl rfl rfl rfl (fun _=>⟨s1,r1⟩) ?_;(refine run ?_;repeat intro b);refine gi _ rfl rfl rfl rfl QV rfl rfl (fun _=>D4 o.head y hw.head wy F1) ?_;(refine run ?_;repeat intro b);rw[ew];refine ez (decide (o.head.dW+1<y.dW∨(y.dW=o.head.dW+1∧ji o.head y=false))) ?_ (fun h1=>?_) (fun h1=>?_)
   ·refine dS ?_;have q1:(y.dW==o.head.dW+1)=decide (y.dW=o.head.dW+1):=by rw[ai];simp
    rw[q1];by_cases c1:o.head.dW+1<y.dW<;>by_cases c2:y.dW=o.head.dW+1<;>cases ji o.head y<;>simp[lL,c1,c2]
   ·rw[aZ (ar h1)]at hlk;obtain⟨e1,e2⟩:=uQ (o:=o) (h:=h) (q:=q) (by decide) hlk;rw[e1,e2];(refine run ?_;repeat intro b);rfl
   rw[aY (au h1)]at hlk;(refine run ?_;repeat intro b);refine dG _ rfl rfl rfl VO rfl (JU l o.head.dW hl (dZ hs1 hfl)) ?_;generalize qO (jL l o.head.dW)=x at hlk;generalize (jL l o.head.dW).isSome=is at hlk;(refine run ?_;repeat intro b);rename_i b4;refine ez (is&&decide (x≠o.head)) ?_ (fun h2=>?_) (fun h2=>?_)
   ·refine dS ?_;rw[fH,sn]
   ·rw[aZ h2]at hlk;obtain⟨e1,e2⟩:=uQ (o:=o) (h:=h) (q:=q) (by decide) hlk;rw[e1,e2];(refine run ?_;repeat intro b);rfl
   rw[aY (by rw[h2];decide)]at hlk;(refine run ?_;repeat intro b);refine dI rfl rfl rfl s2 ?_;refine fr (i64 z.dW) rfl rfl rfl rfl (r2 0 (by decide)) ?_;(refine run ?_;repeat intro b);refine ez (decide (z.dW≤o.head.dW)) rfl (fun h3=>?_) (fun h3=>?_)
   ·rw[aZ (ar h3)]at hlk;obtain⟨e1,e2⟩:=uQ (o:=o) (h:=h) (q:=q) (by decide) hlk;rw[e1,e2];(refine run ?_;repeat intro b);rfl
   rw[aY (au h3)]at hlk;obtain⟨e1,e2⟩:=hvg hlk;rw[e1,e2];(refine run ?_;repeat intro b);refine fy z.row rfl rfl rfl rfl rfl s2 r2 ?_;(refine run ?_;repeat intro b);refine gi _ rfl rfl rfl rfl Vr rfl rfl (fun _=>vB h q a hq (jn.eX hs1 ha)) ?_;(refine run ?_;repeat intro b);refine ez (decide (iE h q≠0∨h≠z∨q.name≠o.name)) ?_ (fun h4=>?_) (fun h4=>?_)
   ·refine dS ?_;have q1:(iE h q != 0)=decide (iE h q≠0):=by rw[ai];simp
    rw[fu,fu,sn,fX,fX,q1];by_cases c1:h=z<;>by_cases c2:q.name=o.name<;>by_cases c3:iE h q=0<;>simp only[c1,c2,c3,ne_eq,dD,not_false_eq_true,decide_true,decide_false,Bool.not_true,Bool.not_false,Bool.or_true,Bool.true_or,Bool.or_false,bu,or_true,true_or,dE,false_or]<;>simp[c1,c2,c3]
   ·rw[aZ (ar h4),aZ (ar h4)];(refine run ?_;repeat intro b);rfl
   have h4:=au h4;rw[aY h4,aY h4];have hnm:q.name=o.name:=by
    by_cases hc:q.name=o.name
    ·exact hc
    exact absurd (.inr (.inr hc)) h4
   rw[hnm];(refine run ?_;repeat intro b);refine dG _ rfl rfl rfl Vq rfl (tD q.fZ o.name hq.fZ (dZ hs1 ha.fZ)) ?_;cases gF q.fZ o.name with
   | none=>
    (refine run ?_;repeat intro b);refine ez (decide (0<o.jA)) rfl (fun h5=>?_) (fun h5=>?_)
    ·rw[aZ (ar h5)];(refine run ?_;repeat intro b);rfl
    rw[aY (au h5)];(refine run ?_;repeat intro b);rfl
   | some v=>
    dsimp only [dw,Option.isSome_some];(refine run ?_;repeat intro b);refine eU (fun k:Nat=>k≤o.wanted.length∧wZ v o.jA o.wanted 0=wZ v o.jA (o.wanted.drop k) k) (fun k=>⟨[(3,.loc 0 0),(15,.v (S v)),(106,.v (.slice p o.wanted.length c)),(107,.v (i64 (o.wanted.length:Nat))),(108,.v (i64 (k:Nat)))],F1,[(4,⟨some b,[.v (i64 x.dW),.v (u64 (x.root:Nat)),.v (u64 (x.prev:Nat)),.v (i64 x.at_)],41,4⟩),(1,⟨some b4,[.v (i64 h.dW),.v (u64 (h.root:Nat)),.v (u64 (h.prev:Nat)),.v (i64 h.at_),.v (S q.name),.v (.slice a.e q.fZ.length a.ce),.v (.slice a.s q.fC.length a.cs)],47,7⟩),(0,⟨some b0,[.v (S o.name),.v (u64 (o.key:Nat)),.v (i64 o.head.dW),.v (u64 (o.head.root:Nat)),.v (u64 (o.head.prev:Nat)),.v (i64 o.head.at_),.v (.slice p o.wanted.length c),.v (i64 o.jA)],76,8⟩)],5⟩) (fun k=>o.wanted.length - k) 0 ⟨az _,rfl⟩ (VS.eH [3,15,106,107,108] rfl (by rw[hnm];rfl)) ?_;rintro k ⟨hk,hj⟩;by_cases hlt:k<o.wanted.length
    ·have hget:gb F1 (im p (k * 1))=some (S o.wanted[k]):=by
      have:=gQ (dZ hs1 hf) (j:=k) (by simpa using hlt);simpa using this
     rw[Li hlt]at hj;generalize o.wanted[k]=w at hj hget;(refine run ?_;repeat intro b);refine gm rfl (by omega) ?_;(refine run ?_;repeat intro b);refine dI rfl rfl rfl ⟨by omega,by omega,dO hf (j:=k * 1) (by simpa using hlt)⟩ ?_;refine fr (S w) rfl rfl rfl rfl (by rw[ae];exact hget) ?_;(refine run ?_;repeat intro b);rw[dQ (by omega)];refine ez (decide (o.jA≤(k:Int)+1∧w=v)) ?_ (fun h6=>?_) (fun h6=>?_)
     ·refine dS ?_;have q1:decide (o.jA≤((k+1:Nat):Int))=decide (o.jA≤(k:Int)+1):=by rw[ai];simp
      rw[fH,fX,fX,q1];by_cases c1:o.jA≤(k:Int)+1<;>by_cases c2:w=v<;>simp[c1,c2]
     ·rw[aZ (ar h6)]at hj;rw[hj,aY (by omega)];(refine run ?_;repeat intro b);rw[dQ (by omega)];rfl
     rw[aY (au h6)]at hj;(refine run ?_;repeat intro b);rw[dQ (by omega)];exact fj (k+1) ⟨hlt,hj⟩ (by omega) (VS.eH [3,15,106,107,108] rfl rfl)
    have hge:k=o.wanted.length:=by omega
    subst hge;rw[bZ]at hj;have hj0:wZ v o.jA o.wanted 0=0:=hj;rw[hj0,aZ rfl];(refine run ?_;repeat intro b);refine gu rfl (by omega) ?_;(refine run ?_;repeat intro b);rfl
  obtain⟨y,hy⟩: ∃y,y=qO l.head? :=⟨_,rfl⟩;obtain⟨z,hzz⟩: ∃z,z=fK l:=⟨_,rfl⟩;rw[←hy]at o2;rw[←hzz]at o4;refine fz [] (by kernel_rfl) ?_;refine dR [0,1,2,3,4,5,6,7,8] (f':=4) (by kernel_rfl) rfl rfl rfl ?_;(refine run ?_;repeat intro b);refine dI rfl rfl rfl ⟨by omega,by omega,dO hfl (j:=0 * 4) (by rw[dL eW];omega)⟩ ?_;refine fy y.row rfl rfl rfl rfl rfl o1 o2 ?_;(refine run ?_;repeat intro b);rw[Y0];refine dI rfl rfl rfl ⟨by omega,by omega,dO hfl (j:=(l.length - 1) * 4) (by rw[dL eW];omega)⟩ ?_;refine fy z.row rfl rfl rfl rfl rfl (by rw[ae];exact o3) (by rw[ae];exact o4) ?_;(refine run ?_;repeat intro b);refine jC 9 10 (by kernel_rfl) rfl rfl rfl ?_ ?_
  ·(refine run ?_;repeat intro b);refine eC (Hp.sub.refl _) trivial ?_;refine dY 10 (by kernel_rfl) rfl rfl ?_;(refine run ?_;repeat intro b);refine eC (Hp.sub.refl _) trivial ?_;refine dY 11 (by kernel_rfl) rfl rfl ?_;(refine run ?_;repeat intro b);refine eC (Hp.sub.refl _) trivial ?_;refine dY 12 (by kernel_rfl) rfl rfl ?_;(refine run ?_;repeat intro b);refine eC (Hp.sub.refl _) trivial ?_;refine fk (by kernel_rfl) ?_;(refine run ?_;repeat intro b);exact kn _ (VS.freeze 2 [1,3,5,10,11,12] rfl rfl rfl rfl fun F1 hs1 hf1=>VS.freeze 3 [1,3,5,10,11,12] rfl rfl rfl rfl fun F2 hs2 hf2=>VS.id ⟨(F2,_,_),⟨hs1.trans hs2,by rw[←hy];exact dZ hs2 hf1,by rw[←hzz];exact hf2⟩,rfl⟩)
  (refine run ?_;repeat intro b);refine eC (Hp.sub.refl _) trivial ?_;refine dY 9 (by kernel_rfl) rfl rfl ?_;(refine run ?_;repeat intro b);refine eC (Hp.sub.refl _) trivial ?_;refine dY 11 (by kernel_rfl) rfl rfl ?_;(refine run ?_;repeat intro b);refine eC (Hp.sub.refl _) trivial ?_;refine dY 12 (by kernel_rfl) rfl rfl ?_;(refine run ?_;repeat intro b);refine eC (Hp.sub.refl _) trivial ?_;refine fk (by kernel_rfl) ?_;(refine run ?_;repeat intro b);exact kn _ (VS.freeze 3 [1,3,5,10,11,12] rfl rfl rfl rfl fun F1 hs1 hf1=>VS.freeze 2 [1,3,5,10,11,12] rfl rfl rfl rfl fun F2 hs2 hf2=>VS.id ⟨(F2,_,_),⟨hs1.trans hs2,by rw[←hy];exact dZ hs2 hf1,by rw[←hzz];exact hf2⟩,rfl⟩)
 have e:lN o.head l=2:=by unfold lN;rw[aZ hz]
 obtain⟨e1,e2⟩:=uQ (o:=o) (h:=h) (q:=q) (by decide) e;rw[e1,e2];refine ez true ?_ (fun _=>?_) (fun h=>by cases h)
 ·exact a8 (fun b=>some (EV.v (.bool b))) (bne_iff_ne.2 hz)
 (refine run ?_;repeat intro b);rfl
end
end Go.Proofs.YthbnddgjkonkdaaGreatDoor
