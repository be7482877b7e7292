/- A part of the proof. -/
import Derived.Test.YthbnddgjkonkdaaGreatDoorSetClerk5
import Derived.Test.YthbnddgjkonkdaaGreatDoorSetOwner5
set_option linter.unusedVariables false
set_option linter.unusedSimpArgs false
namespace Go.Proofs.YthbnddgjkonkdaaGreatDoor
section
open Go.TR
theorem JR (x y:Entry):(!(decide (bl (jE x.name)=bl (jE y.name))&&(decide (bl (jE x.value)=bl (jE y.value))&&true)))=decide (x≠y):=by
 obtain⟨a,b⟩:=x;obtain⟨a',b'⟩:=y;simp only[ga,ne_eq,Entry.mk.injEq];by_cases h1:a=a'<;>by_cases h2:b=b'<;>simp[h1,h2]
attribute [local irreducible] vc dW gz fg fD gF gJ gB fJ Plain eD eX dK VS fv fA fG jt fh IntKind.wrap
set_option maxRecDepth 100000
set_option maxHeartbeats 4000000
theorem Er (l1 l2:List Entry){p1 p2:Option Addr}{c1 c2:Nat}{F:Hp}(h1:e9 F p1 (l1.flatMap Entry.row))(h2:e9 F p2 (l2.flatMap Entry.row))(hn:l1.length≤4611686018427387904):Plain Tryz.prog F 121 [.slice p1 l1.length c1,.slice p2 l2.length c2] (.bool (decide (l1=l2))):=by
 refine dQ (N:=26) (rv:=[.tmp 4]) eW mixed Tryz.func121 rfl rfl rfl rfl rfl ?_;(refine run ?_;repeat intro b);refine eE _ rfl (fun h=>?_) (fun h=>?_)
 ·(refine run ?_;repeat intro b);have hne:l1≠l2:=by rintro rfl;simp at h
  simp[gH,hne]
 have hl:l1.length=l2.length:=by simp at h;omega
 (refine run ?_;repeat intro b);refine eY (fun k:Nat=>k≤l1.length∧l1.take k=l2.take k) (fun k=>⟨[(0,.v (.slice p1 l1.length c1)),(1,.v (.slice p2 l2.length c2)),(12,.v (i64 l1.length)),(13,.v (i64 (k:Nat)))],F,[],0⟩) (fun k=>l1.length - k) 0 ⟨az _,rfl⟩ (VS.eL [0,1,12,13] rfl rfl) ?_;rintro k ⟨hk,ht⟩;by_cases hlt:k<l1.length
 ·have hlt2:k<l2.length:=by omega
  obtain⟨o1,o2⟩:=fa eM (by decide) h1 k hlt;obtain⟨o3,o4⟩:=fa eM (by decide) h2 k hlt2;obtain⟨x,hx⟩: ∃x,x=l1[k]:=⟨_,rfl⟩;obtain⟨y,hy⟩: ∃y,y=l2[k]:=⟨_,rfl⟩;rw[←hx]at o2;rw[←hy]at o4;(refine run ?_;repeat intro b);refine gw rfl (by omega) ?_;(refine run ?_;repeat intro b);refine fO (by kernel_rfl) ?_;(refine run ?_;repeat intro b);refine dL rfl rfl rfl ⟨by omega,by omega,dR h1 (j:=k * 2) (by rw[dO eM];omega)⟩ ?_;refine fB (Entry.row x) rfl rfl rfl rfl rfl (by rw[ae];exact o1) (by rw[ae];exact o2) ?_;(refine run ?_;repeat intro b);refine dL rfl rfl rfl ⟨by omega,by omega,dR h2 (j:=k * 2) (by rw[dO eM];omega)⟩ ?_;refine fB (Entry.row y) rfl rfl rfl rfl rfl (by rw[ae];exact o3) (by rw[ae];exact o4) ?_;(refine run ?_;repeat intro b);refine eE (decide (x≠y)) (a8 (fun b=>some (EV.v (.bool b))) (JR x y)) (fun h4=>?_) (fun h4=>?_)
  ·(refine run ?_;repeat intro b);have hne:l1≠l2:=pO hlt hlt2 (by rw[←hx,←hy];exact ar h4);simp[gH,hne]
  (refine run ?_;repeat intro b);rw[dT (by omega)];exact fp (k+1) ⟨hlt,my ht hlt hlt2 (by rw[←hx,←hy];simpa using h4)⟩ (by omega) (VS.eL [0,1,12,13] rfl rfl)
 have hge:k=l1.length:=by omega
 subst hge;(refine run ?_;repeat intro b);refine gy rfl (by omega) ?_;(refine run ?_;repeat intro b);have he:l1=l2:=by rw[aD]at ht;rw[ht,hl,aD]
 simp[gH,he]
theorem CT (l1 l2:List Nat){p1 p2:Option Addr}{c1 c2:Nat}{F:Hp}(h1:e9 F p1 (l1.map mu))(h2:e9 F p2 (l2.map mu))(hn:l1.length≤9223372036854775806):Plain Tryz.prog F 303 [.slice p1 l1.length c1,.slice p2 l2.length c2] (.bool (decide (l1=l2))):=by
 refine dQ (N:=26) (rv:=[.tmp 4]) eW mixed Tryz.func303 rfl rfl rfl rfl rfl ?_;(refine run ?_;repeat intro b);refine eE _ rfl (fun h=>?_) (fun h=>?_)
 ·(refine run ?_;repeat intro b);have hne:l1≠l2:=by rintro rfl;simp at h
  simp[gH,hne]
 have hl:l1.length=l2.length:=by simp at h;omega
 (refine run ?_;repeat intro b);refine eY (fun k:Nat=>k≤l1.length∧l1.take k=l2.take k) (fun k=>⟨[(0,.v (.slice p1 l1.length c1)),(1,.v (.slice p2 l2.length c2)),(12,.v (i64 l1.length)),(13,.v (i64 (k:Nat)))],F,[],0⟩) (fun k=>l1.length - k) 0 ⟨az _,rfl⟩ (VS.eL [0,1,12,13] rfl rfl) ?_;rintro k ⟨hk,ht⟩;(refine run ?_;repeat intro b);refine eE _ rfl (fun h3=>?_) (fun h3=>?_)
 ·have hlt:k<l1.length:=by simpa using h3
  have g1:k<(l1.map mu).length:=by simpa using hlt
  have g2:k<(l2.map mu).length:=by simpa using (hl ▸ hlt)
  (refine run ?_;repeat intro b);refine fO (by kernel_rfl) ?_;(refine run ?_;repeat intro b);refine dL rfl rfl rfl ⟨by omega,by omega,dR h1 g1⟩ ?_;refine fw (mu l1[k]) rfl rfl rfl rfl (by have:=gS h1 g1;simpa using this) ?_;(refine run ?_;repeat intro b);refine dL rfl rfl rfl ⟨by omega,by omega,dR h2 g2⟩ ?_;refine fw (mu l2[k]) rfl rfl rfl rfl (by have:=gS h2 g2;simpa using this) ?_;(refine run ?_;repeat intro b);refine eE _ rfl (fun h4=>?_) (fun h4=>?_)
  ·(refine run ?_;repeat intro b);have hne:l1≠l2:=pO hlt (hl ▸ hlt) (fun e=>by simp[e]at h4);simp[gH,hne]
  (refine run ?_;repeat intro b);rw[dT (by omega)];exact fp (k+1) ⟨hlt,my ht hlt (hl ▸ hlt) (by first | simpa using h4 | (simp at h4;exact ar h4) | (simp at h4;omega))⟩ (by omega) (VS.eL [0,1,12,13] rfl rfl)
 have hge:k=l1.length:=by simp at h3;omega
 (refine run ?_;repeat intro b);subst hge;have he:l1=l2:=by rw[aD]at ht;rw[ht,hl,aD]
 simp[gH,he]
theorem sG (l m:List Entry)(e:l=m){p1 p2:Option Addr}{c1 c2:Nat}{F:Hp}(h1:e9 F p1 (l.flatMap Entry.row))(h2:e9 F p2 (m.flatMap Entry.row))(hn:l.length≤4611686018427387904):Plain Tryz.prog F 121 [.slice p1 l.length c1,.slice p2 m.length c2] (.bool true):=by
 have:=Er l m (c1:=c1) (c2:=c2) h1 h2 hn
 rwa [aW e]at this
theorem zK (l m:List Nat)(e:l=m){p1 p2:Option Addr}{c1 c2:Nat}{F:Hp}(h1:e9 F p1 (l.map mu))(h2:e9 F p2 (m.map mu))(hn:l.length≤4611686018427387904):Plain Tryz.prog F 303 [.slice p1 l.length c1,.slice p2 m.length c2] (.bool true):=by
 have:=CT l m (c1:=c1) (c2:=c2) h1 h2 (by omega)
 rwa [aW e]at this
theorem q9 (l m:List Head)(e:l=m){p1 p2:Option Addr}{c1 c2:Nat}{F:Hp}(h1:e9 F p1 (l.flatMap Head.row))(h2:e9 F p2 (m.flatMap Head.row))(hn:l.length≤4611686018427387904):Plain Tryz.prog F 120 [.slice p1 l.length c1,.slice p2 m.length c2] (.bool true):=by
 have:=BI l m (c1:=c1) (c2:=c2) h1 h2 hn
 rwa [aW e]at this
theorem BX (p:jo)(a a':Lay){F:Hp}(hw:p.wf)(ha:p.at F a)(hb:p.at F a'):Plain Tryz.prog F 281 [p.v a,p.v a'] (.bool true):=by
 refine dQ (N:=24) (rv:=[.tmp 4]) eW mixed Tryz.func281 rfl rfl rfl rfl rfl ?_;(refine run ?_;repeat intro b);refine gm _ rfl rfl rfl rfl QI rfl rfl (fun _=>sG p.gg p.gg rfl ha.gg hb.gg hw.gg) ?_;(refine run ?_;repeat intro b);refine gm _ rfl rfl rfl rfl Vf rfl rfl (fun _=>zK p.fF p.fF rfl ha.fF hb.fF hw.fF) ?_;(refine run ?_;repeat intro b);simp[gH,lS]
@[reducible] def Nx (h:Head) (p:jo) (a:Lay):Value:=.agg #[i64 h.dZ,u64 (h.root:Nat),u64 (h.prev:Nat),i64 h.at_,S p.name,.slice a.e p.gg.length a.ce,.slice a.s p.fF.length a.cs]
theorem BH (h:Head)(p:jo)(a a':Lay){F:Hp}(hw:p.wf)(ha:p.at F a)(hb:p.at F a'):Plain Tryz.prog F 242 [Nx h p a,Nx h p a'] (.bool true):=by
 refine dQ (N:=17) (rv:=[.tmp 4]) eW mixed Tryz.func242 rfl rfl rfl rfl rfl ?_;(refine run ?_;repeat intro b);refine gm _ rfl rfl rfl rfl Wh rfl rfl (fun _=>BX p a a' hw ha hb) ?_;(refine run ?_;repeat intro b);simp[gH,lS]
theorem Ad (x y:LP)(e:x.l=y.l){F:Hp}(hw:x.l.wf)(hx:x.at F)(hy:y.at F):Plain Tryz.prog F 182 [.agg x.row.toArray,.agg y.row.toArray] (.bool true):=by
 obtain⟨l,p1,c1,a1⟩:=x;obtain⟨m,p2,c2,a2⟩:=y;dsimp only at e hw;subst e;refine dQ (N:=45) (rv:=[.tmp 4]) eW mixed Tryz.func182 rfl rfl rfl rfl rfl ?_;(refine run ?_;repeat intro b);have hl:=hw.dS;refine gm _ rfl rfl rfl rfl Qf rfl rfl (fun _=>q9 l.dS l.dS rfl hx.dS hy.dS (by omega)) ?_;(refine run ?_;repeat intro b);refine gm _ rfl rfl rfl rfl Uw rfl rfl (fun _=>BH l.head l.nL a1 a2 hw.nL hx.nL hy.nL) ?_;(refine run ?_;repeat intro b);simp[gH,lS]
theorem DB (L M:List LP)(e:L.map LP.l=M.map LP.l){p1 p2:Option Addr}{c1 c2:Nat}{F:Hp}(hw: ∀x∈L,x.l.wf)(h1:e9 F p1 (L.flatMap LP.row))(h2:e9 F p2 (M.flatMap LP.row))(a1: ∀x∈L,x.at F)(a2: ∀x∈M,x.at F)(hn:L.length≤4611686018427387904):Plain Tryz.prog F 122 [.slice p1 L.length c1,.slice p2 M.length c2] (.bool true):=by
 have hl:L.length=M.length:=by simpa using a8 List.length e
 refine dQ (N:=27) (rv:=[.tmp 4]) eW mixed Tryz.func122 rfl rfl rfl rfl rfl ?_;(refine run ?_;repeat intro b);refine eE false ?_ (fun h=>by cases h) (fun _=>?_)
 ·refine dV ?_;simp[hl]
 (refine run ?_;repeat intro b);refine eY (fun k:Nat=>k≤L.length) (fun k=>⟨[(0,.v (.slice p1 L.length c1)),(1,.v (.slice p2 M.length c2)),(12,.v (i64 L.length)),(13,.v (i64 (k:Nat)))],F,[],0⟩) (fun k=>L.length - k) 0 (az _) (VS.eL [0,1,12,13] rfl rfl) ?_;intro k hk;by_cases hlt:k<L.length
 ·have hlt2:k<M.length:=by omega
  obtain⟨o1,o2⟩:=fa je (by decide) h1 k hlt;obtain⟨o3,o4⟩:=fa je (by decide) h2 k hlt2;have hxy:L[k].l=M[k].l:=by
   have:=a8 (fun l=>l[k]?) e;simpa [hlt,hlt2] using this
  have x1:=a1 _ (aj hlt);have x2:=a2 _ (aj hlt2);have x3:=hw _ (aj hlt);generalize L[k]=x at *;generalize M[k]=y at *;(refine run ?_;repeat intro b);refine gw rfl (by omega) ?_;(refine run ?_;repeat intro b);refine fO (by kernel_rfl) ?_;(refine run ?_;repeat intro b);refine dL rfl rfl rfl ⟨by omega,by omega,dR h1 (j:=k * 12) (by rw[dO je];omega)⟩ ?_;refine fB x.row rfl rfl rfl rfl rfl (by rw[ae];exact o1) (by rw[ae];exact o2) ?_;(refine run ?_;repeat intro b);refine dL rfl rfl rfl ⟨by omega,by omega,dR h2 (j:=k * 12) (by rw[dO je];omega)⟩ ?_;refine fB y.row rfl rfl rfl rfl rfl (by rw[ae];exact o3) (by rw[ae];exact o4) ?_;(refine run ?_;repeat intro b);refine dJ _ rfl rfl rfl Up rfl (Ad x y hxy x3 x1 x2) ?_;(refine run ?_;repeat intro b);rw[dT (by omega)];exact fp (k+1) hlt (by omega) (VS.eL [0,1,12,13] rfl rfl)
 have hge:k=L.length:=by omega
 subst hge;(refine run ?_;repeat intro b);refine gy rfl (by omega) ?_;(refine run ?_;repeat intro b);rfl
theorem Hn (n m:NP)(e0:n.now=m.now)(e:n.gE.map LP.l=m.gE.map LP.l){F:Hp}(hw: ∀x∈n.gE,x.l.wf)(h1:n.at F)(h2:m.at F)(hn:n.gE.length≤4611686018427387904):Plain Tryz.prog F 65 [n.v,m.v] (.bool true):=by
 refine dQ (N:=17) (rv:=[.tmp 4]) eW mixed Tryz.func65 rfl rfl rfl rfl rfl ?_;(refine run ?_;repeat intro b);refine gm _ rfl rfl rfl rfl V5 rfl rfl (fun _=>DB n.gE m.gE e hw h1.gE h2.gE h1.each h2.each hn) ?_;(refine run ?_;repeat intro b);simp[gH,lS,e0]
end
section
open Go.TR
structure Fits (c:eI):Prop where
 wait:c.queue.wait.length≤4611686018427387904
 dS:c.dS.length≤4611686018427387904
 ez:c.ez.length≤4611686018427387904
 each: ∀l∈c.ez,l.length≤4611686018427387904
theorem Fits.none:Fits eI.none:=⟨by decide,by decide,by decide,fun l hl=>by cases hl⟩
theorem Small.fits {c:eI}(h:Small c):Fits c:=⟨by have:=h.wait;omega,by have:=h.dS;omega,by have:=h.ez;omega,fun l hl=>by have:=h.each l hl;omega⟩
attribute [local irreducible] vc dW gz fg fD gF gJ gB fJ Plain eD eX dK VS fv fA fG jt fh IntKind.wrap
attribute [local irreducible] dY gN iu gK fL
set_option maxRecDepth 100000
set_option maxHeartbeats 4000000
theorem zF (c:eI)(a a':ji)(hf:Fits c){F:Hp}(ha:c.at F a)(ha':c.at F a'):Plain Tryz.prog F 64 [c.v a,c.v a'] (.bool true):=by
 have q1:=hf.wait;have q2:=hf.dS;have q3:=hf.ez;obtain⟨bs,hb,wZ,hbs⟩:=ha.b;obtain⟨cs,hc,hfc,hcs⟩:=ha'.b;refine dQ (N:=69) (rv:=[.tmp 4]) eW mixed Tryz.func64 rfl rfl rfl rfl rfl ?_;(refine run ?_;repeat intro b);rename_i bX;revert b;intro bY;have hq:=CL c.queue c.queue (c1:=a.cw) (c2:=a'.cw) ha.w ha'.w q1;rw[aW rfl]at hq;refine dJ _ rfl rfl rfl VV rfl hq ?_;(refine run ?_;repeat intro b);refine gm _ rfl rfl rfl rfl Qf rfl rfl (fun _=>q9 c.dS c.dS rfl ha.h ha'.h q2) ?_;(refine run ?_;repeat intro b);refine eE false ?_ (fun h=>by cases h) (fun _=>?_)
 ·refine dV ?_;simp only[bne_self_eq_false,Bool.not_true];rfl
 (refine run ?_;repeat intro b);refine eY (fun k:Nat=>k≤c.ez.length)
  (fun k=>⟨[(2,.loc 0 0),(3,.loc 1 0),(52,.v (i64 (c.ez.length:Nat))),(53,.v (i64 (k:Nat)))],F,
   [(1,⟨some bY,[.v (i64 c.queue.most),.v (.slice a'.w c.queue.wait.length a'.cw),.v (i64 c.batch),.v (i64 c.every),.v (i64 c.now),.v (.slice a'.h c.dS.length a'.ch),.v (.slice a'.b c.ez.length a'.cb)],28,7⟩),
    (0,⟨some bX,[.v (i64 c.queue.most),.v (.slice a.w c.queue.wait.length a.cw),.v (i64 c.batch),.v (i64 c.every),.v (i64 c.now),.v (.slice a.h c.dS.length a.ch),.v (.slice a.b c.ez.length a.cb)],28,7⟩)],2⟩) (fun k=>c.ez.length - k) 0 (az _) (VS.eL [2,3,52,53] rfl rfl) ?_
 rintro k hk;by_cases hlt:k<c.ez.length
 ·obtain⟨⟨p1,l1,c1⟩,k1,k2,k3⟩:=nW hb hlt;obtain⟨⟨p2,l2,c2⟩,m1,m2,m3⟩:=nW hc hlt;have kc:=m8 wZ k1;have mc:=m8 hfc m1;have hl:=hf.each _ (aj hlt);simp only at k2 m2;rw[←k2]at hl;(refine run ?_;repeat intro b);refine gw rfl (by omega) ?_;(refine run ?_;repeat intro b);refine fO (by kernel_rfl) ?_;(refine run ?_;repeat intro b);refine dL rfl rfl rfl ⟨by omega,by omega,dR wZ (j:=k) (by rw[ab,lC hb];omega)⟩ ?_;refine fw (.slice p1 l1.length c1) rfl rfl rfl rfl (by rw[ae,aA];exact kc) ?_;(refine run ?_;repeat intro b);refine dL rfl rfl rfl ⟨by omega,by omega,dR hfc (j:=k) (by rw[ab,lC hc];omega)⟩ ?_;refine fw (.slice p2 l2.length c2) rfl rfl rfl rfl (by rw[ae,aA];exact mc) ?_;(refine run ?_;repeat intro b);refine dJ _ rfl rfl rfl QI rfl (sG l1 l2 (by rw[k2,m2]) (hbs _ k3).2 (hcs _ m3).2 hl) ?_;(refine run ?_;repeat intro b);rw[dT (by omega)];exact fp (k+1) hlt (by omega) (VS.eL [2,3,52,53] rfl rfl)
 have hge:k=c.ez.length:=by omega
 (refine run ?_;repeat intro b);refine gy rfl (by omega) ?_;(refine run ?_;repeat intro b);rfl
end
section
open Go.TR
theorem uf {o:Ow}{l:List Head}{h:Head}{q:jo}{e:Int}(he:e≠0)(hh:lM o.head l=e):lO o l h q=e∧mJ o l h q=0:=by
 unfold lO mJ;rw[hh,aZ he,aZ he];exact⟨rfl,rfl⟩
theorem Kv {o:Ow}{l:List Head}{h:Head}{q:jo}(hh:lM o.head l=0):lO o l h q=(if iG h q≠0∨h≠fL l∨q.name≠o.name then 4
    else match gI q.gg q.name with
     | Option.none=>if 0<o.jD then 5 else 0
     | some v=>if w7 v o.jD o.wanted 0=0 then 6 else 0)∧
  mJ o l h q=(if iG h q≠0∨h≠fL l∨q.name≠o.name then 0
    else match gI q.gg q.name with
     | Option.none=>0
     | some v=>w7 v o.jD o.wanted 0):=by
 have h1: ¬(lM o.head l≠0):=by simpa using hh
 exact⟨aY h1,aY h1⟩
attribute [local irreducible] vc dW gz fg fD gF gJ gB fJ Plain eD eX dK VS fv fA fG jt fh IntKind.wrap
set_option maxRecDepth 100000
theorem CN (l1 l2:List (List UInt8)){p1 p2:Option Addr}{c1 c2:Nat}{F:Hp}(h1:e9 F p1 (l1.map S))(h2:e9 F p2 (l2.map S))(hn:l1.length≤9223372036854775806):Plain Tryz.prog F 123 [.slice p1 l1.length c1,.slice p2 l2.length c2] (.bool (decide (l1=l2))):=by
 refine dQ (N:=26) (rv:=[.tmp 4]) eW mixed Tryz.func123 rfl rfl rfl rfl rfl ?_;(refine run ?_;repeat intro b);refine eE _ rfl (fun h=>?_) (fun h=>?_)
 ·(refine run ?_;repeat intro b);have hne:l1≠l2:=by rintro rfl;simp at h
  simp[gH,hne]
 have hl:l1.length=l2.length:=by simp at h;omega
 (refine run ?_;repeat intro b);refine eY (fun k:Nat=>k≤l1.length∧l1.take k=l2.take k) (fun k=>⟨[(0,.v (.slice p1 l1.length c1)),(1,.v (.slice p2 l2.length c2)),(12,.v (i64 l1.length)),(13,.v (i64 (k:Nat)))],F,[],0⟩) (fun k=>l1.length - k) 0 ⟨az _,rfl⟩ (VS.eL [0,1,12,13] rfl rfl) ?_;rintro k ⟨hk,ht⟩;(refine run ?_;repeat intro b);refine eE _ rfl (fun h3=>?_) (fun h3=>?_)
 ·have hlt:k<l1.length:=by simpa using h3
  have g1:k<(l1.map S).length:=by simpa using hlt
  have g2:k<(l2.map S).length:=by simpa using (hl ▸ hlt)
  (refine run ?_;repeat intro b);refine fO (by kernel_rfl) ?_;(refine run ?_;repeat intro b);refine dL rfl rfl rfl ⟨by omega,by omega,dR h1 g1⟩ ?_;refine fw (S l1[k]) rfl rfl rfl rfl (by have:=gS h1 g1;simpa using this) ?_;(refine run ?_;repeat intro b);refine dL rfl rfl rfl ⟨by omega,by omega,dR h2 g2⟩ ?_;refine fw (S l2[k]) rfl rfl rfl rfl (by have:=gS h2 g2;simpa using this) ?_;(refine run ?_;repeat intro b);refine eE _ rfl (fun h4=>?_) (fun h4=>?_)
  ·(refine run ?_;repeat intro b);have hne:l1≠l2:=pO hlt (hl ▸ hlt) (fun e=>by simp[e]at h4);simp[gH,hne]
  (refine run ?_;repeat intro b);rw[dT (by omega)];exact fp (k+1) ⟨hlt,my ht hlt (hl ▸ hlt) (by first | simpa using h4 | (simp at h4;exact ar h4) | (simp at h4;omega))⟩ (by omega) (VS.eL [0,1,12,13] rfl rfl)
 have hge:k=l1.length:=by simp at h3;omega
 (refine run ?_;repeat intro b);subst hge;have he:l1=l2:=by rw[aD]at ht;rw[ht,hl,aD]
 simp[gH,he]
@[reducible] def Ow.v8 (o:Ow) (p:Option Addr) (n c:Nat):Value:=.agg #[S o.name,u64 (o.key:Nat),i64 o.head.dZ,u64 (o.head.root:Nat),u64 (o.head.prev:Nat),i64 o.head.at_,.slice p n c,i64 o.jD]
set_option maxHeartbeats 2000000 in
theorem yL (o:Ow){p1 p2:Option Addr}{n1 n2 c1 c2:Nat}{F:Hp}(e1:n1=o.wanted.length)(e2:n2=o.wanted.length)(hl:o.wanted.length≤1000)(h1:e9 F p1 (o.wanted.map S))(h2:e9 F p2 (o.wanted.map S)):Plain Tryz.prog F 66 [o.v8 p1 n1 c1,o.v8 p2 n2 c2] (.bool true):=by
 subst e1 e2;have hst:=CN o.wanted o.wanted (c1:=c1) (c2:=c2) h1 h2 (by omega);rw[aW rfl]at hst;refine dQ (N:=38) (rv:=[.tmp 4]) eW mixed Tryz.func66 rfl rfl rfl rfl rfl ?_;(refine run ?_;repeat intro b);refine gm _ rfl rfl rfl rfl VM rfl rfl (fun _=>hst) ?_;(refine run ?_;repeat intro b);simp[gH,lS]
set_option maxHeartbeats 8000000 in
theorem Kx (o:Ow)(l:List Head)(h:Head)(q:jo)(a:Lay)(hw:o.wf)(h0:ki o=0)(hl:l.length≤4611686018427387904)(hwl: ∀x∈l,x.wf)(hq:q.wf){p:Option Addr}{c:Nat}{pl:Option Addr}{cl:Nat}{F:Hp}(hf:e9 F p (o.wanted.map S))(hfl:e9 F pl (l.flatMap Head.row))(ha:q.at F a):
  Plain Tryz.prog F 76 [o.v p c,.slice pl l.length cl,J3 h q a] (pair (i64 (lO o l h q)) (i64 (mJ o l h q:Nat))):=by
 obtain⟨g1,g2,g3,g4,g5,g6⟩:=iW h0;obtain⟨v1,v2,_⟩:=Head.uK g2;have ew:IntKind.i64.wrap (o.head.dZ+1)=o.head.dZ+1:=wrap_i64 (by omega) (by omega);refine dQ (N:=126) (rv:=[.tmp 6,.tmp 7]) eW mixed Tryz.func76 rfl rfl rfl rfl rfl ?_;(refine run ?_;repeat intro b);rename_i b0;refine dJ _ rfl rfl rfl We rfl (D4 l hl hwl hfl) ?_;(refine run ?_;repeat intro b);by_cases hz:(fu l).1=0
 ·obtain⟨z1,z2,z3,z4,z5⟩:=iO hz;have hz':l.length - 1<l.length:=by omega
  obtain⟨o1,o2⟩:=fa eZ (by decide) hfl 0 z1;obtain⟨o3,o4⟩:=fa eZ (by decide) hfl (l.length - 1) hz';have wy:=hwl _ (aj z1);rw[←uA z1]at o2 wy;rw[tU z1]at o4;have Y3:IntKind.i64.wrap (((l.length:Nat):Int) - 1)=((l.length - 1:Nat):Int):=by rw[wrap_i64 (by omega) (by omega)];omega
  rw[hz];(refine run ?_;repeat intro b);refine lp (β:=Hp×Option Addr×Option Addr) (fun f=>F.sub f.1∧e9 f.1 f.2.1 (qR l.head?).row∧e9 f.1 f.2.2 (fL l).row) (fun f=>⟨[(1,.v (.slice pl l.length cl)),(3,.loc 0 0),(5,.loc 1 0),(10,.v (i64 o.head.dZ)),(11,.v (.pointer f.2.1)),(12,.v (.pointer f.2.2))],f.1,[(1,⟨some b,[.v (i64 h.dZ),.v (u64 (h.root:Nat)),.v (u64 (h.prev:Nat)),.v (i64 h.at_),.v (S q.name),.v (.slice a.e q.gg.length a.ce),.v (.slice a.s q.fF.length a.cs)],47,7⟩),(0,⟨some b0,[.v (S o.name),.v (u64 (o.key:Nat)),.v (i64 o.head.dZ),.v (u64 (o.head.root:Nat)),.v (u64 (o.head.prev:Nat)),.v (i64 o.head.at_),.v (.slice p o.wanted.length c),.v (i64 o.jD)],76,8⟩)],4⟩) rfl (fun f hf1=>?_) (fun vb kn kr ke=>?_)
  ·obtain⟨F1,p1,p2⟩:=f;obtain⟨hs1,f1,f2⟩:=hf1;dsimp only at hs1 f1 f2 ⊢;have s1:p1.isSome=true:=dR f1 (j:=0) (dx 3);have s2:p2.isSome=true:=dR f2 (j:=0) (dx 3);have r1: ∀j,j<4→gi F1 (iw p1 j)=(qR l.head?).row[j]? :=fun j hj=>by
    have hl:j<(qR l.head?).row.length:=hj;rw[ao hl];exact f1 j _ (ao hl)
   have r2: ∀j,j<4→gi F1 (iw p2 j)=(fL l).row[j]? :=fun j hj=>by
    have hl:j<(fL l).row.length:=hj;rw[ao hl];exact f2 j _ (ao hl)
   have hho:=Hy z4 o.head;have hlk:lM o.head l=(if o.head.dZ+1<(qR l.head?).dZ∨((qR l.head?).dZ=o.head.dZ+1∧jl o.head (qR l.head?)=false) then 2 else if ((jP l o.head.dZ).isSome&&decide (qR (jP l o.head.dZ)≠o.head))=true then 3 else if (fL l).dZ≤o.head.dZ then 1 else 0):=by
    unfold lM;rw[aY (by simpa using hz),←hho];by_cases c1:o.head.dZ+1<(qR l.head?).dZ
    ·rw[aZ c1,aZ (.inl c1)]
    rw[aY c1];by_cases c2:(qR l.head?).dZ=o.head.dZ+1∧jl o.head (qR l.head?)=false
    ·rw[aZ c2,aZ (.inr c2)]
    rw[aY c2,aY (show¬(o.head.dZ+1<(qR l.head?).dZ∨((qR l.head?).dZ=o.head.dZ+1∧jl o.head (qR l.head?)=false)) from not_or.2 ⟨c1,c2⟩)]
   generalize qR l.head? =y at f1 r1 wy hlk;have hvg:=fun hh=>Kv (o:=o) (l:=l) (h:=h) (q:=q) hh;generalize fL l=z at f2 r2 hlk hvg;(refine run ?_;repeat intro b);refine dL rfl rfl rfl s1 ?_;refine fw (i64 y.dZ) rfl rfl rfl rfl (r1 0 (by decide)) ?_;(refine run ?_;repeat intro b);refine iz rfl rfl rfl rfl rfl (fun _=>s1) ?_;refine su (i64 y.dZ) rfl rfl rfl rfl rfl rfl (fun _=>r1 0 (by decide)) ?_;(refine run ?_;repeat intro b);refine uM y.row rfl rfl rfl rfl rfl rfl rfl (fun _=>⟨s1,r1⟩) ?_;(refine run ?_;repeat intro b);refine gm _ rfl rfl rfl rfl Qt rfl rfl (fun _=>DR o.head y hw.head wy F1) ?_;(refine run ?_;repeat intro b);rw[ew];refine eE (decide (o.head.dZ+1<y.dZ∨(y.dZ=o.head.dZ+1∧jl o.head y=false))) ?_ (fun h1=>?_) (fun h1=>?_)
   ·refine dV ?_;have q1:(y.dZ==o.head.dZ+1)=decide (y.dZ=o.head.dZ+1):=by rw[ai];simp
    rw[q1];by_cases c1:o.head.dZ+1<y.dZ<;>by_cases c2:y.dZ=o.head.dZ+1<;>cases jl o.head y<;>simp[lS,c1,c2]
   ·rw[aZ (ar h1)]at hlk;obtain⟨e1,e2⟩:=uf (o:=o) (h:=h) (q:=q) (by decide) hlk;rw[e1,e2];(refine run ?_;repeat intro b);rfl
   rw[aY (au h1)]at hlk;(refine run ?_;repeat intro b);refine dJ _ rfl rfl rfl Um rfl (KQ l o.head.dZ hl (eu hs1 hfl)) ?_;generalize qR (jP l o.head.dZ)=x at hlk;generalize (jP l o.head.dZ).isSome=is at hlk;(refine run ?_;repeat intro b);rename_i b4;refine eE (is&&decide (x≠o.head)) ?_ (fun h2=>?_) (fun h2=>?_)
   ·refine dV ?_;rw[fK,sv]
   ·rw[aZ h2]at hlk;obtain⟨e1,e2⟩:=uf (o:=o) (h:=h) (q:=q) (by decide) hlk;rw[e1,e2];(refine run ?_;repeat intro b);rfl
   rw[aY (by rw[h2];decide)]at hlk;(refine run ?_;repeat intro b);refine dL rfl rfl rfl s2 ?_;refine fw (i64 z.dZ) rfl rfl rfl rfl (r2 0 (by decide)) ?_;(refine run ?_;repeat intro b);refine eE (decide (z.dZ≤o.head.dZ)) rfl (fun h3=>?_) (fun h3=>?_)
   ·rw[aZ (ar h3)]at hlk;obtain⟨e1,e2⟩:=uf (o:=o) (h:=h) (q:=q) (by decide) hlk;rw[e1,e2];(refine run ?_;repeat intro b);rfl
   rw[aY (au h3)]at hlk;obtain⟨e1,e2⟩:=hvg hlk;rw[e1,e2];(refine run ?_;repeat intro b);refine fB z.row rfl rfl rfl rfl rfl s2 r2 ?_;(refine run ?_;repeat intro b);refine gm _ rfl rfl rfl rfl Vz rfl rfl (fun _=>vO h q a hq (jo.e8 hs1 ha)) ?_;(refine run ?_;repeat intro b);refine eE (decide (iG h q≠0∨h≠z∨q.name≠o.name)) ?_ (fun h4=>?_) (fun h4=>?_)
   ·refine dV ?_;have q1:(iG h q != 0)=decide (iG h q≠0):=by rw[ai];simp
    rw[fx,fx,sv,ga,ga,q1];by_cases c1:h=z<;>by_cases c2:q.name=o.name<;>by_cases c3:iG h q=0<;>simp only[c1,c2,c3,ne_eq,dG,not_false_eq_true,decide_true,decide_false,Bool.not_true,Bool.not_false,Bool.or_true,Bool.true_or,Bool.or_false,bu,or_true,true_or,dH,false_or]<;>simp[c1,c2,c3]
   ·rw[aZ (ar h4),aZ (ar h4)];(refine run ?_;repeat intro b);rfl
   have h4:=au h4;rw[aY h4,aY h4];have hnm:q.name=o.name:=by
    by_cases hc:q.name=o.name
    ·exact hc
    exact absurd (.inr (.inr hc)) h4
   rw[hnm];(refine run ?_;repeat intro b);refine dJ _ rfl rfl rfl VI rfl (uS q.gg o.name hq.gg (eu hs1 ha.gg)) ?_;cases gI q.gg o.name with
   | none=>
    (refine run ?_;repeat intro b);refine eE (decide (0<o.jD)) rfl (fun h5=>?_) (fun h5=>?_)
    ·rw[aZ (ar h5)];(refine run ?_;repeat intro b);rfl
    rw[aY (au h5)];(refine run ?_;repeat intro b);rfl
   | some v=>
    dsimp only [dz,Option.isSome_some];(refine run ?_;repeat intro b);refine eY (fun k:Nat=>k≤o.wanted.length∧w7 v o.jD o.wanted 0=w7 v o.jD (o.wanted.drop k) k) (fun k=>⟨[(3,.loc 0 0),(15,.v (S v)),(106,.v (.slice p o.wanted.length c)),(107,.v (i64 (o.wanted.length:Nat))),(108,.v (i64 (k:Nat)))],F1,[(4,⟨some b,[.v (i64 x.dZ),.v (u64 (x.root:Nat)),.v (u64 (x.prev:Nat)),.v (i64 x.at_)],41,4⟩),(1,⟨some b4,[.v (i64 h.dZ),.v (u64 (h.root:Nat)),.v (u64 (h.prev:Nat)),.v (i64 h.at_),.v (S q.name),.v (.slice a.e q.gg.length a.ce),.v (.slice a.s q.fF.length a.cs)],47,7⟩),(0,⟨some b0,[.v (S o.name),.v (u64 (o.key:Nat)),.v (i64 o.head.dZ),.v (u64 (o.head.root:Nat)),.v (u64 (o.head.prev:Nat)),.v (i64 o.head.at_),.v (.slice p o.wanted.length c),.v (i64 o.jD)],76,8⟩)],5⟩) (fun k=>o.wanted.length - k) 0 ⟨az _,rfl⟩ (VS.eL [3,15,106,107,108] rfl (by rw[hnm];rfl)) ?_;rintro k ⟨hk,hj⟩;by_cases hlt:k<o.wanted.length
    ·have hget:gi F1 (iw p (k * 1))=some (S o.wanted[k]):=by
      have:=gS (eu hs1 hf) (j:=k) (by simpa using hlt);simpa using this
     rw[Lo hlt]at hj;generalize o.wanted[k]=w at hj hget;(refine run ?_;repeat intro b);refine gw rfl (by omega) ?_;(refine run ?_;repeat intro b);refine dL rfl rfl rfl ⟨by omega,by omega,dR hf (j:=k * 1) (by simpa using hlt)⟩ ?_;refine fw (S w) rfl rfl rfl rfl (by rw[ae];exact hget) ?_;(refine run ?_;repeat intro b);rw[dT (by omega)];refine eE (decide (o.jD≤(k:Int)+1∧w=v)) ?_ (fun h6=>?_) (fun h6=>?_)
     ·refine dV ?_;have q1:decide (o.jD≤((k+1:Nat):Int))=decide (o.jD≤(k:Int)+1):=by rw[ai];simp
      rw[fK,ga,ga,q1];by_cases c1:o.jD≤(k:Int)+1<;>by_cases c2:w=v<;>simp[c1,c2]
     ·rw[aZ (ar h6)]at hj;rw[hj,aY (by omega)];(refine run ?_;repeat intro b);rw[dT (by omega)];rfl
     rw[aY (au h6)]at hj;(refine run ?_;repeat intro b);rw[dT (by omega)];exact fp (k+1) ⟨hlt,hj⟩ (by omega) (VS.eL [3,15,106,107,108] rfl rfl)
    have hge:k=o.wanted.length:=by omega
    subst hge;rw[cg]at hj;have hj0:w7 v o.jD o.wanted 0=0:=hj;rw[hj0,aZ rfl];(refine run ?_;repeat intro b);refine gy rfl (by omega) ?_;(refine run ?_;repeat intro b);rfl
  obtain⟨y,hy⟩: ∃y,y=qR l.head? :=⟨_,rfl⟩;obtain⟨z,hzz⟩: ∃z,z=fL l:=⟨_,rfl⟩;rw[←hy]at o2;rw[←hzz]at o4;refine fC [] (by kernel_rfl) ?_;refine dU [0,1,2,3,4,5,6,7,8] (f':=4) (by kernel_rfl) rfl rfl rfl ?_;(refine run ?_;repeat intro b);refine dL rfl rfl rfl ⟨by omega,by omega,dR hfl (j:=0 * 4) (by rw[dO eZ];omega)⟩ ?_;refine fB y.row rfl rfl rfl rfl rfl o1 o2 ?_;(refine run ?_;repeat intro b);rw[Y3];refine dL rfl rfl rfl ⟨by omega,by omega,dR hfl (j:=(l.length - 1) * 4) (by rw[dO eZ];omega)⟩ ?_;refine fB z.row rfl rfl rfl rfl rfl (by rw[ae];exact o3) (by rw[ae];exact o4) ?_;(refine run ?_;repeat intro b);refine jF 9 10 (by kernel_rfl) rfl rfl rfl ?_ ?_
  ·(refine run ?_;repeat intro b);refine eG (Hp.sub.refl _) trivial ?_;refine ee 10 (by kernel_rfl) rfl rfl ?_;(refine run ?_;repeat intro b);refine eG (Hp.sub.refl _) trivial ?_;refine ee 11 (by kernel_rfl) rfl rfl ?_;(refine run ?_;repeat intro b);refine eG (Hp.sub.refl _) trivial ?_;refine ee 12 (by kernel_rfl) rfl rfl ?_;(refine run ?_;repeat intro b);refine eG (Hp.sub.refl _) trivial ?_;refine fq (by kernel_rfl) ?_;(refine run ?_;repeat intro b);exact kn _ (VS.freeze 2 [1,3,5,10,11,12] rfl rfl rfl rfl fun F1 hs1 hf1=>VS.freeze 3 [1,3,5,10,11,12] rfl rfl rfl rfl fun F2 hs2 hf2=>VS.id ⟨(F2,_,_),⟨hs1.trans hs2,by rw[←hy];exact eu hs2 hf1,by rw[←hzz];exact hf2⟩,rfl⟩)
  (refine run ?_;repeat intro b);refine eG (Hp.sub.refl _) trivial ?_;refine ee 9 (by kernel_rfl) rfl rfl ?_;(refine run ?_;repeat intro b);refine eG (Hp.sub.refl _) trivial ?_;refine ee 11 (by kernel_rfl) rfl rfl ?_;(refine run ?_;repeat intro b);refine eG (Hp.sub.refl _) trivial ?_;refine ee 12 (by kernel_rfl) rfl rfl ?_;(refine run ?_;repeat intro b);refine eG (Hp.sub.refl _) trivial ?_;refine fq (by kernel_rfl) ?_;(refine run ?_;repeat intro b);exact kn _ (VS.freeze 3 [1,3,5,10,11,12] rfl rfl rfl rfl fun F1 hs1 hf1=>VS.freeze 2 [1,3,5,10,11,12] rfl rfl rfl rfl fun F2 hs2 hf2=>VS.id ⟨(F2,_,_),⟨hs1.trans hs2,by rw[←hy];exact eu hs2 hf1,by rw[←hzz];exact hf2⟩,rfl⟩)
 have e:lM o.head l=2:=by unfold lM;rw[aZ hz]
 obtain⟨e1,e2⟩:=uf (o:=o) (h:=h) (q:=q) (by decide) e;rw[e1,e2];refine eE true ?_ (fun _=>?_) (fun h=>by cases h)
 ·exact a8 (fun b=>some (EV.v (.bool b))) (bne_iff_ne.2 hz)
 (refine run ?_;repeat intro b);rfl
end
end Go.Proofs.YthbnddgjkonkdaaGreatDoor
