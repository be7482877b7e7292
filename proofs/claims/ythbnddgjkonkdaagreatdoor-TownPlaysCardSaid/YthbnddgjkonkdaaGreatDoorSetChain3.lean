/- A part of the proof. -/
import Derived.Test.YthbnddgjkonkdaaGreatDoorSetHead
import Derived.Test.YthbnddgjkonkdaaGreatDoorSetQueue
import Derived.Test.YthbnddgjkonkdaaGreatDoorSetDiv
set_option linter.unusedVariables false
set_option linter.unusedSimpArgs false
namespace Go.Proofs.YthbnddgjkonkdaaGreatDoor
section
open Go.TR
def Zw (s:List UInt8):List EV:=[.v (u64 (wj s 0:Nat)),.v (u64 (wj s 1:Nat)),.v (u64 (wj s 2:Nat)),.v (u64 (wj s 3:Nat))]
def aaf:List EV:=[.v (u64 0),.v (u64 0),.v (u64 0),.v (u64 0)]
def Sk (s:List UInt8):Bool:=decide (s.length=33)&&(s.head? ==some 3)
def TU (s:List UInt8):Int:=if Sk s=true then (if (Np s).fault=0 then 0 else 3) else 3
def ZY (s:List UInt8):Head:=if TU s=0 then Np s else Head.none
attribute [local irreducible] vc dW gz fg fD gF gJ gB fJ Plain eD eX dK VS fv fA fG jt fh IntKind.wrap
set_option maxRecDepth 100000
end
section
open Go.TR
theorem JC {h:Head}(hw:h.wf){root:Nat}{at_:Int}(h0:h.fault=0)(h1: ¬h.dZ=1000000):h.kz root at_=if MM≤root∨at_<h.at_∨1000000000<at_ then 4 else 0:=by
 obtain⟨g1,g2,g3,g4,g5,g6,g7⟩:=Head.uK h0;unfold Head.kz;rw[aY (by simpa using h0),aY h1];have hm:h.rp<MM:=by unfold Head.rp;rw[aZ h0];exact ln _
 have hwr:IntKind.i64.wrap (h.dZ+1)=h.dZ+1:=wrap_i64 (by omega) (by omega);by_cases h2:at_<h.at_
 ·rw[aZ h2,aZ (.inr (.inl h2))]
 rw[aY h2];unfold Head.fault Head.vr Head.yb Head.m9;simp only[hwr];by_cases h3:MM≤root
 ·rw[aZ (by simp[h3]),aZ (.inl h3)]
 by_cases h4:1000000000<at_
 ·rw[aZ (by simp[h4]),aZ (.inr (.inr h4))]
 rw[aY (by simp;omega),aY (by simp;omega),aY (by omega)]
attribute [local irreducible] vc dW gz fg fD gF gJ gB fJ Plain eD eX dK VS fv fA fG jt fh IntKind.wrap
set_option maxRecDepth 100000
end
section
open Go.TR
@[reducible] def Head.row (h:Head):List Value:=[i64 h.dZ,u64 (h.root:Nat),u64 (h.prev:Nat),i64 h.at_]
theorem eZ (h:Head):h.row.length=4:=rfl
theorem oZ (l:List Head): ∀x∈l.flatMap Head.row,one (.v x)=true:=fun x hx=>by
 obtain⟨a,_,ha⟩:=List.mem_flatMap.1 hx;simp only[Head.row,aT,da,dH]at ha;rcases ha with rfl | rfl | rfl | rfl<;>rfl
def jl (a b:Head):Bool:=decide (a.fault=0)&&decide (b.fault=0)&&decide (b.dZ=a.dZ+1)&&decide (b.prev=a.mark)&&decide (a.at_≤b.at_)
def kq:List Head→Nat→Option (Int×Nat)
 | [],_=>none
 | h::t,i=>if h.fault=0 then kq t (i+1) else some (h.fault,i)
def td:List Head→Nat→Option Nat
 | [],_=>none
 | [_],_=>none
 | a::b::t,i=>if jl a b=true then td (b::t) (i+1) else some i
def C8 (l:List Head):Int:=match td l 1 with
 | some i=>(i:Int)
 | none=> -1
def ql (l:List Head):Int×Nat:=match kq l 0 with
 | some x=>x
 | none=>match td l 1 with
  | some i=>(8,i)
  | none=>(0,0)
def fu (l:List Head):Int×Nat:=if l.length=0 then (5,0) else if 40<l.length then (2,0) else ql l
theorem qc {l:List Head}{x:Int×Nat}(h:kq l 0=some x):ql l=x:=by unfold ql;rw[h]
theorem qw {l:List Head}{i:Nat}(h:kq l 0=none)(h2:td l 1=some i):ql l=(8,i):=by unfold ql;rw[h,h2]
theorem nI {l:List Head}(h:kq l 0=none)(h2:td l 1=none):ql l=(0,0):=by unfold ql;rw[h,h2]
theorem zC {l:List Head}{j:Nat}(hj:j<l.length):kq (l.drop j) j=if l[j].fault=0 then kq (l.drop (j+1)) (j+1) else some (l[j].fault,j):=by
 rw[aO hj];rfl
theorem Ev {l:List Head}{j:Nat}(hj:j+1<l.length):td (l.drop j) (j+1)=if jl l[j] l[j+1]=true then td (l.drop (j+1)) (j+2) else some (j+1):=by
 rw[aO (i:=j) (by omega),aO (i:=j+1) hj];rfl
theorem Iv {l:List Head}{j i:Nat}(hj:l.length≤j+1):td (l.drop j) i=none:=by
 have:(l.drop j).length≤1:=by rw[aR];omega
 match h:l.drop j with
 | []=>rfl
 | [_]=>rfl
 | _::_::_=>rw[h]at this;simp at this
theorem qk: ∀{l:List Head}{i:Nat},kq l i=none→∀h∈l,h.fault=0
 | [],_,_=>by simp
 | a::l,i,h=>fun x hx=>by
  unfold kq at h;split at h
  ·rename_i h0;rcases aT.1 hx with rfl | hx
   ·exact h0
   exact qk h x hx
  cases h
theorem Head.ext' {a b:Head}(h1:a.dZ=b.dZ)(h2:a.root=b.root)(h3:a.prev=b.prev)(h4:a.at_=b.at_):a=b:=by
 cases a;cases b;simp_all
theorem Hr {a b:Head}(hw:a.wf)(ha:a.fault=0)(hb:b.fault=0):(decide (a.kz b.root b.at_≠0)||decide ((a.m9 b.root b.at_).ij (a.kz b.root b.at_)≠b))= !jl a b:=by
 obtain⟨g1,g2,g3,g4,g5,g6,g7⟩:=Head.uK ha;obtain⟨f1,f2,f3,f4,f5,f6,f7⟩:=Head.uK hb;have hwr:IntKind.i64.wrap (a.dZ+1)=a.dZ+1:=wrap_i64 (by omega) (by omega);have hm:a.rp=a.mark:=by unfold Head.rp;rw[aZ ha]
 unfold jl;rw[aW ha,aW hb];by_cases h1:a.dZ=1000000
 ·have:a.kz b.root b.at_≠0:=by unfold Head.kz;rw[aY (by simpa using ha),aZ h1];decide
  rw[aW this];have: ¬b.dZ=a.dZ+1:=by omega
  simp[this]
 have hn:=JC (root:=b.root) (at_:=b.at_) hw ha h1;by_cases h2:b.at_<a.at_
 ·rw[aZ (.inr (.inl h2))]at hn;rw[hn];have: ¬a.at_≤b.at_:=by omega
  simp[this]
 rw[aY (by omega)]at hn;rw[hn];have h3:a.at_≤b.at_:=by omega
 unfold Head.ij Head.m9;rw[hwr,hm];by_cases h4:b.dZ=a.dZ+1
 ·by_cases h5:b.prev=a.mark
  ·have:(⟨a.dZ+1,b.root,a.mark,b.at_⟩:Head)=b:=Head.ext' h4.symm rfl h5.symm rfl;simp[this,h3,h4,h5]
  have:(⟨a.dZ+1,b.root,a.mark,b.at_⟩:Head)≠b:=fun e=>h5 (by rw[←e]);simp[this,h5]
 have:(⟨a.dZ+1,b.root,a.mark,b.at_⟩:Head)≠b:=fun e=>h4 (by rw[←e]);simp[this,h4]
theorem NZ: ∀{l:List Head}{i:Nat}{x:Int×Nat},kq l i=some x→x.1≠0:=by
 intro l
 induction l with
 | nil=>intro i x h;cases h
 | cons a l ih=>
  intro i x h;unfold kq at h;split at h
  ·exact ih h
  rename_i h0;cases h;exact h0
theorem iO {l:List Head}(h:(fu l).1=0):0<l.length∧l.length≤40∧(∀x∈l,x.fault=0)∧td l 1=none∧fu l=(0,0):=by
 unfold fu at h ⊢;split at h
 ·cases h
 rename_i h1;split at h
 ·cases h
 rename_i h2;rw[aY h1,aY h2];cases hb:kq l 0 with
 | some x=>
  rw[qc hb]at h;exact absurd h (NZ hb)
 | none=>
  cases hu:td l 1 with
  | some i=>
   rw[qw hb hu]at h;cases h
  | none=>exact⟨by omega,by omega,qk hb,rfl,nI hb hu⟩
def jP (l:List Head)(n:Int):Option Head:=l.find? fun h=>decide (h.dZ=n)
def qR:Option Head→Head
 | some h=>h
 | none=>Head.none
theorem sk: ∀{l:List Head}{i:Nat},td l i=none→∀(j:Nat)(h:j<l.length),l[j].dZ=(l[0]'(by omega)).dZ+(j:Int)
 | [],_,_,j,h=>by simp at h
 | [a],_,_,j,h=>by
  have:j=0:=by simp at h;omega
  subst this;simp
 | a::b::t,i,hu,0,h=>by simp
 | a::b::t,i,hu,j+1,h=>by
  unfold td at hu;split at hu
  ·rename_i hl;have:=sk hu j (by simpa using h);simp only[List.getElem_cons_succ,List.getElem_cons_zero]at this ⊢;rw[this];unfold jl at hl;simp only[aL,av]at hl;rw[hl.1.1.2];omega
  cases hu
end
section
open Go.TR
theorem sv (x y:Head):(!(x.dZ==y.dZ&&(((x.root:Nat):Int)==(y.root:Nat)&&(((x.prev:Nat):Int)==(y.prev:Nat)&&(x.at_==y.at_&&true)))))=decide (x≠y):=by
 rw[ai];simp only[bz,bn,dD,av,ne_eq];constructor
 ·rintro h rfl;simp at h
 intro h;by_cases h1:x.dZ=y.dZ
 ·by_cases h2:x.root=y.root
  ·by_cases h3:x.prev=y.prev
   ·by_cases h4:x.at_=y.at_
    ·exact absurd (Head.ext' h1 h2 h3 h4) h
    simp[h4]
   have: ¬((x.prev:Nat):Int)=(y.prev:Nat):=by omega
   simp[this]
  have: ¬((x.root:Nat):Int)=(y.root:Nat):=by omega
  simp[this]
 simp[h1]
attribute [local irreducible] vc dW gz fg fD gF gJ gB fJ Plain eD eX dK VS fv fA fG jt fh IntKind.wrap
set_option maxRecDepth 100000
set_option maxHeartbeats 4000000 in
theorem BI (l1 l2:List Head){p1 p2:Option Addr}{c1 c2:Nat}{F:Hp}(h1:e9 F p1 (l1.flatMap Head.row))(h2:e9 F p2 (l2.flatMap Head.row))(hn:l1.length≤4611686018427387904):Plain Tryz.prog F 120 [.slice p1 l1.length c1,.slice p2 l2.length c2] (.bool (decide (l1=l2))):=by
 refine dQ (N:=26) (rv:=[.tmp 4]) eW mixed Tryz.func120 rfl rfl rfl rfl rfl ?_;(refine run ?_;repeat intro b);refine eE _ rfl (fun h=>?_) (fun h=>?_)
 ·(refine run ?_;repeat intro b);have hne:l1≠l2:=by rintro rfl;simp at h
  simp[gH,hne]
 have hl:l1.length=l2.length:=by simp at h;omega
 (refine run ?_;repeat intro b);refine eY (fun k:Nat=>k≤l1.length∧l1.take k=l2.take k) (fun k=>⟨[(0,.v (.slice p1 l1.length c1)),(1,.v (.slice p2 l2.length c2)),(12,.v (i64 l1.length)),(13,.v (i64 (k:Nat)))],F,[],0⟩) (fun k=>l1.length - k) 0 ⟨az _,rfl⟩ (VS.eL [0,1,12,13] rfl rfl) ?_;rintro k ⟨hk,ht⟩;by_cases hlt:k<l1.length
 ·have hlt2:k<l2.length:=by omega
  obtain⟨o1,o2⟩:=fa eZ (by decide) h1 k hlt;obtain⟨o3,o4⟩:=fa eZ (by decide) h2 k hlt2;obtain⟨x,hx⟩: ∃x,x=l1[k]:=⟨_,rfl⟩;obtain⟨y,hy⟩: ∃y,y=l2[k]:=⟨_,rfl⟩;rw[←hx]at o2;rw[←hy]at o4;(refine run ?_;repeat intro b);refine gw rfl (by omega) ?_;(refine run ?_;repeat intro b);refine fO (by kernel_rfl) ?_;(refine run ?_;repeat intro b);refine dL rfl rfl rfl ⟨by omega,by omega,dR h1 (j:=k * 4) (by rw[dO eZ];omega)⟩ ?_;refine fB (Head.row x) rfl rfl rfl rfl rfl (by rw[ae];exact o1) (by rw[ae];exact o2) ?_;(refine run ?_;repeat intro b);refine dL rfl rfl rfl ⟨by omega,by omega,dR h2 (j:=k * 4) (by rw[dO eZ];omega)⟩ ?_;refine fB (Head.row y) rfl rfl rfl rfl rfl (by rw[ae];exact o3) (by rw[ae];exact o4) ?_;(refine run ?_;repeat intro b);refine eE (decide (x≠y)) (a8 (fun b=>some (EV.v (.bool b))) (sv x y)) (fun h4=>?_) (fun h4=>?_)
  ·(refine run ?_;repeat intro b);have hne:l1≠l2:=pO hlt hlt2 (by rw[←hx,←hy];exact ar h4);simp[gH,hne]
  (refine run ?_;repeat intro b);rw[dT (by omega)];exact fp (k+1) ⟨hlt,my ht hlt hlt2 (by rw[←hx,←hy];simpa using h4)⟩ (by omega) (VS.eL [0,1,12,13] rfl rfl)
 have hge:k=l1.length:=by omega
 subst hge;(refine run ?_;repeat intro b);refine gy rfl (by omega) ?_;(refine run ?_;repeat intro b);have he:l1=l2:=by rw[aD]at ht;rw[ht,hl,aD]
 simp[gH,he]
set_option maxHeartbeats 4000000 in
theorem AO (l:List Head)(hl:l.length≤4611686018427387904)(hw: ∀x∈l,x.wf)(hv: ∀x∈l,x.fault=0){p:Option Addr}{c:Nat}{F:Hp}(hf:e9 F p (l.flatMap Head.row)):Plain Tryz.prog F 150 [.slice p l.length c] (i64 (C8 l)):=by
 refine dQ (N:=42) (rv:=[.tmp 2]) eW mixed Tryz.func150 rfl rfl rfl rfl rfl ?_;(refine run ?_;repeat intro b);refine eY (fun k:Nat=>(k=0∨k+1≤l.length)∧td l 1=td (l.drop k) (k+1)) (fun k=>⟨[(0,.v (.slice p l.length c)),(3,.v (i64 ((k+1:Nat):Nat)))],F,[],0⟩) (fun k=>l.length - k) 0 ⟨.inl rfl,rfl⟩ (VS.eL [0,3] rfl rfl) ?_;rintro k ⟨hk,hu⟩;by_cases hlt:k+1<l.length
 ·have K2:k<l.length:=by omega
  obtain⟨o1,o2⟩:=fa eZ (by decide) hf k K2;obtain⟨o3,o4⟩:=fa eZ (by decide) hf (k+1) hlt;rw[Ev hlt]at hu;have w1:=hw l[k] (aj K2);have v1:=hv l[k] (aj K2);have v2:=hv l[k+1] (aj hlt);generalize l[k]=a at hu o2 w1 v1;generalize l[k+1]=y at hu o4 v2;clear hw hv;have e1:IntKind.i64.wrap (((k+1:Nat):Int) - 1)=((k:Nat):Int):=by rw[wrap_i64 (by omega) (by omega)];omega
  have hs2:(iw p ((k+1) * 4)).isSome=true:=o3;(refine run ?_;repeat intro b);refine gw rfl (by omega) ?_;(refine run ?_;repeat intro b);refine fC [] (by kernel_rfl) ?_;refine dU [0,1,2,3,4,5,6,7,8,9,10,11,12,13,14,15,16,17,18] (f':=3) (by kernel_rfl) rfl rfl rfl ?_;(refine run ?_;repeat intro b);rw[e1];refine dL rfl rfl rfl ⟨by omega,by omega,dR hf (j:=k * 4) (by rw[dO eZ];omega)⟩ ?_;refine fB a.row rfl rfl rfl rfl rfl (by rw[ae];exact o1) (by rw[ae];exact o2) ?_;(refine run ?_;repeat intro b);refine dL rfl rfl rfl ⟨by omega,by omega,dR hf (j:=(k+1) * 4) (by rw[dO eZ];omega)⟩ ?_;(refine run ?_;repeat intro b);refine dL rfl rfl rfl (by rw[ae];exact o3) ?_;refine fw (u64 (y.root:Nat)) rfl rfl rfl rfl (by rw[ae];exact o4 1 (by decide)) ?_;(refine run ?_;repeat intro b);refine dL rfl rfl rfl ⟨by omega,by omega,dR hf (j:=(k+1) * 4) (by rw[dO eZ];omega)⟩ ?_;(refine run ?_;repeat intro b);refine dL rfl rfl rfl (by rw[ae];exact o3) ?_;refine fw (i64 y.at_) rfl rfl rfl rfl (by rw[ae];exact o4 3 (by decide)) ?_;(refine run ?_;repeat intro b);refine dJ _ rfl rfl rfl UD rfl (v5 a w1 y.root y.at_ F) ?_;(refine run ?_;repeat intro b);refine ee 19 (by kernel_rfl) rfl rfl ?_;(refine run ?_;repeat intro b);refine eG (Hp.sub.refl _) trivial ?_;refine ee 20 (by kernel_rfl) rfl rfl ?_;(refine run ?_;repeat intro b);refine eG (Hp.sub.refl _) trivial ?_;refine dU [21] (f':=0) (by kernel_rfl) rfl rfl rfl ?_;(refine run ?_;repeat intro b);refine fq (by kernel_rfl) ?_;(refine run ?_;repeat intro b);refine fO (by kernel_rfl) ?_;(refine run ?_;repeat intro b);refine iz rfl rfl rfl rfl rfl (fun _=>⟨by omega,by omega,dR hf (j:=(k+1) * 4) (by rw[dO eZ];omega)⟩) ?_;refine uM y.row rfl rfl rfl rfl rfl rfl rfl (fun _=>⟨by rw[ae];exact o3,by rw[ae];exact o4⟩) ?_;(refine run ?_;repeat intro b);refine eE (!jl a y) ?_ (fun h=>?_) (fun h=>?_)
  ·refine dV ?_;have e0:(a.kz y.root y.at_ != 0)=decide (a.kz y.root y.at_≠0):=by rw[ai];simp
   rw[fx,←Hr w1 v1 v2,←e0];congr 1;exact sv _ _
  ·have h1: ¬jl a y=true:=by simpa using h
   rw[aY h1]at hu;(refine run ?_;repeat intro b);unfold C8;rw[hu];rfl
  have h1:jl a y=true:=by simpa using h
  rw[aZ h1]at hu;(refine run ?_;repeat intro b);rw[dT (by omega)];exact iK (k+1) [0] [0,3] ⟨.inr (by omega),hu⟩ (by omega) rfl rfl rfl rfl trivial rfl
 have hge:l.length≤k+1:=by omega
 rw[Iv hge]at hu;(refine run ?_;repeat intro b);refine gy rfl (by omega) ?_;(refine run ?_;repeat intro b);unfold C8;rw[hu];rfl
end
section
open Go.TR
attribute [local irreducible] vc dW gz fg fD gF gJ gB fJ Plain eD eX dK VS fv fA fG jt fh IntKind.wrap
set_option maxRecDepth 100000
set_option maxHeartbeats 4000000 in
theorem DR (x y:Head)(ha:x.wf)(hb:y.wf)(F:Hp):Plain Tryz.prog F 134 [x.v,y.v] (.bool (jl x y)):=by
 refine dQ (N:=35) (rv:=[.tmp 4]) eW mixed Tryz.func134 rfl rfl rfl rfl rfl ?_;(refine run ?_;repeat intro b);refine fO (by kernel_rfl) ?_;(refine run ?_;repeat intro b);refine dJ _ rfl rfl rfl IQ rfl (oJ x F) ?_;(refine run ?_;repeat intro b);refine gm _ rfl rfl rfl rfl IQ rfl rfl (fun _=>oJ y F) ?_;(refine run ?_;repeat intro b);refine gm _ rfl rfl rfl rfl Ub rfl rfl (fun _=>rL x ha F) ?_;(refine run ?_;repeat intro b);simp only[gH];congr 1;unfold jl;simp only[fK];by_cases h1:x.fault=0
 ·have hr:=Head.uK h1;have hw:IntKind.i64.wrap (x.dZ+1)=x.dZ+1:=wrap_i64 (by omega) (by omega);rw[hw,ai];simp[h1];omega
 simp[h1]
set_option maxHeartbeats 4000000 in
theorem oR (l:List Head)(hl:l.length≤4611686018427387904)(hw: ∀x∈l,x.wf){p:Option Addr}{c:Nat}{F:Hp}(hf:e9 F p (l.flatMap Head.row)):Plain Tryz.prog F 90 [.slice p l.length c] (pair (i64 (fu l).1) (i64 ((fu l).2:Nat))):=by
 refine dQ (N:=35) (rv:=[.tmp 2,.tmp 3]) eW mixed Tryz.func90 rfl rfl rfl rfl rfl ?_;(refine run ?_;repeat intro b);refine eE (decide (l.length=0)) ?_ (fun h=>?_) (fun h=>?_)
 ·refine dV ?_;rw[ai];simp
 ·have e:fu l=(5,0):=by unfold fu;rw[aZ (ar h)]
  (refine run ?_;repeat intro b);rw[e];rfl
 have h0: ¬l.length=0:=au h;(refine run ?_;repeat intro b);refine eE (decide (40<l.length)) ?_ (fun h=>?_) (fun h=>?_)
 ·refine dV ?_;rw[ai,av,av];omega
 ·have e:fu l=(2,0):=by unfold fu;rw[aY h0,aZ (ar h)]
  (refine run ?_;repeat intro b);rw[e];rfl
 have h1: ¬40<l.length:=au h;have e:fu l=ql l:=by unfold fu;rw[aY h0,aY h1]
 (refine run ?_;repeat intro b);refine eY (fun k:Nat=>k≤l.length∧kq l 0=kq (l.drop k) k) (fun k=>⟨[(0,.v (.slice p l.length c)),(16,.v (.slice p l.length c)),(17,.v (i64 (l.length:Nat))),(18,.v (i64 (k:Nat)))],F,[],0⟩) (fun k=>l.length - k) 0 ⟨az _,rfl⟩ (VS.eL [0,16,17,18] rfl rfl) ?_;rintro k ⟨hk,hu⟩;by_cases hlt:k<l.length
 ·obtain⟨o1,o2⟩:=fa eZ (by decide) hf k hlt;rw[zC hlt]at hu;generalize l[k]=x at hu o2;(refine run ?_;repeat intro b);refine gw rfl (by omega) ?_;(refine run ?_;repeat intro b);refine dL rfl rfl rfl ⟨by omega,by omega,dR hf (j:=k * 4) (by rw[dO eZ];omega)⟩ ?_;refine fB x.row rfl rfl rfl rfl rfl (by rw[ae];exact o1) (by rw[ae];exact o2) ?_;(refine run ?_;repeat intro b);refine dJ _ rfl rfl rfl HI rfl (kA x F) ?_;(refine run ?_;repeat intro b);refine eE (decide (x.fault≠0)) ?_ (fun h=>?_) (fun h=>?_)
  ·refine dV ?_;rw[ai];simp
  ·rw[aY (ar h)]at hu;(refine run ?_;repeat intro b);rw[e,qc hu];rfl
  rw[aZ (by simpa using h)]at hu;(refine run ?_;repeat intro b);rw[dT (by omega)];exact iK (k+1) [0] [0,16,17,18] ⟨hlt,hu⟩ (by omega) rfl rfl rfl rfl trivial rfl
 have hge:k=l.length:=by omega
 subst hge;rw[cg]at hu;have hv:=qk hu;(refine run ?_;repeat intro b);refine gy rfl (by omega) ?_;(refine run ?_;repeat intro b);refine dJ _ rfl rfl rfl QA rfl (AO l hl hw hv hf) ?_;(refine run ?_;repeat intro b);cases hun:td l 1 with
 | none=>
  have e1:C8 l= -1:=by unfold C8;rw[hun]
  rw[e1];(refine run ?_;repeat intro b);rw[e,nI hu hun];rfl
 | some i=>
  have e1:C8 l=(i:Int):=by unfold C8;rw[hun]
  rw[e1];refine eE true ?_ (fun _=>?_) (fun h=>by cases h)
  ·exact a8 (fun b=>some (EV.v (.bool b))) (aW (by omega))
  (refine run ?_;repeat intro b);rw[e,qw hu hun];rfl
set_option maxHeartbeats 4000000 in
theorem D4 (l:List Head)(hl:l.length≤4611686018427387904)(hw: ∀x∈l,x.wf){p:Option Addr}{c:Nat}{F:Hp}(hf:e9 F p (l.flatMap Head.row)):Plain Tryz.prog F 133 [.slice p l.length c] (pair (i64 (fu l).1) (i64 ((fu l).2:Nat))):=by
 refine dQ (N:=46) (rv:=[.tmp 2,.tmp 3]) eW mixed Tryz.func133 rfl rfl rfl rfl rfl ?_;(refine run ?_;repeat intro b);refine eE (decide (l.length=0)) ?_ (fun h=>?_) (fun h=>?_)
 ·refine dV ?_;rw[ai];simp
 ·have e:fu l=(5,0):=by unfold fu;rw[aZ (ar h)]
  (refine run ?_;repeat intro b);rw[e];rfl
 have h0: ¬l.length=0:=au h;(refine run ?_;repeat intro b);refine eE (decide (40<l.length)) ?_ (fun h=>?_) (fun h=>?_)
 ·refine dV ?_;rw[ai,av,av];omega
 ·have e:fu l=(2,0):=by unfold fu;rw[aY h0,aZ (ar h)]
  (refine run ?_;repeat intro b);rw[e];rfl
 have h1: ¬40<l.length:=au h;have e:fu l=ql l:=by unfold fu;rw[aY h0,aY h1]
 (refine run ?_;repeat intro b);refine eY (fun k:Nat=>k≤l.length∧kq l 0=kq (l.drop k) k) (fun k=>⟨[(0,.v (.slice p l.length c)),(14,.v (.slice p l.length c)),(15,.v (i64 (l.length:Nat))),(16,.v (i64 (k:Nat)))],F,[],0⟩) (fun k=>l.length - k) 0 ⟨az _,rfl⟩ (VS.eL [0,14,15,16] rfl rfl) ?_;rintro k ⟨hk,hu⟩;by_cases hlt:k<l.length
 ·obtain⟨o1,o2⟩:=fa eZ (by decide) hf k hlt;rw[zC hlt]at hu;generalize l[k]=x at hu o2;(refine run ?_;repeat intro b);refine gw rfl (by omega) ?_;(refine run ?_;repeat intro b);refine dL rfl rfl rfl ⟨by omega,by omega,dR hf (j:=k * 4) (by rw[dO eZ];omega)⟩ ?_;refine fB x.row rfl rfl rfl rfl rfl (by rw[ae];exact o1) (by rw[ae];exact o2) ?_;(refine run ?_;repeat intro b);refine dJ _ rfl rfl rfl IQ rfl (oJ x F) ?_;(refine run ?_;repeat intro b);refine eE (decide (x.fault≠0)) ?_ (fun h=>?_) (fun h=>?_)
  ·refine dV ?_;rw[ai];simp
  ·rw[aY (ar h)]at hu;(refine run ?_;repeat intro b);rw[e,qc hu];rfl
  rw[aZ (by simpa using h)]at hu;(refine run ?_;repeat intro b);rw[dT (by omega)];exact iK (k+1) [0] [0,14,15,16] ⟨hlt,hu⟩ (by omega) rfl rfl rfl rfl trivial rfl
 have hge:k=l.length:=by omega
 subst hge;rw[cg]at hu;have hv:=qk hu;(refine run ?_;repeat intro b);refine gy rfl (by omega) ?_;(refine run ?_;repeat intro b);refine eY (fun k:Nat=>(k=0∨k+1≤l.length)∧td l 1=td (l.drop k) (k+1)) (fun k=>⟨[(0,.v (.slice p l.length c)),(7,.v (i64 ((k+1:Nat):Nat)))],F,[],0⟩) (fun k=>l.length - k) 0 ⟨.inl rfl,rfl⟩ (VS.eL [0,7] rfl rfl) ?_;rintro k ⟨hk,hu2⟩;by_cases hlt:k+1<l.length
 ·have K2:k<l.length:=by omega
  obtain⟨o1,o2⟩:=fa eZ (by decide) hf k K2;obtain⟨o3,o4⟩:=fa eZ (by decide) hf (k+1) hlt;rw[Ev hlt]at hu2;have w1:=hw l[k] (aj K2);have w2:=hw l[k+1] (aj hlt);generalize l[k]=a at hu2 o2 w1;generalize l[k+1]=y at hu2 o4 w2;clear hw hv;have e1:IntKind.i64.wrap (((k+1:Nat):Int) - 1)=((k:Nat):Int):=by rw[wrap_i64 (by omega) (by omega)];omega
  (refine run ?_;repeat intro b);refine gw rfl (by omega) ?_;(refine run ?_;repeat intro b);refine fO (by kernel_rfl) ?_;(refine run ?_;repeat intro b);rw[e1];refine dL rfl rfl rfl ⟨by omega,by omega,dR hf (j:=k * 4) (by rw[dO eZ];omega)⟩ ?_;refine fB a.row rfl rfl rfl rfl rfl (by rw[ae];exact o1) (by rw[ae];exact o2) ?_;(refine run ?_;repeat intro b);refine dL rfl rfl rfl ⟨by omega,by omega,dR hf (j:=(k+1) * 4) (by rw[dO eZ];omega)⟩ ?_;refine fB y.row rfl rfl rfl rfl rfl (by rw[ae];exact o3) (by rw[ae];exact o4) ?_;(refine run ?_;repeat intro b);refine dJ _ rfl rfl rfl Qt rfl (DR a y w1 w2 F) ?_;(refine run ?_;repeat intro b);refine eE (!jl a y) rfl (fun h=>?_) (fun h=>?_)
  ·have h1: ¬jl a y=true:=by simpa using h
   rw[aY h1]at hu2;(refine run ?_;repeat intro b);rw[e,qw hu hu2];rfl
  have h1:jl a y=true:=by simpa using h
  rw[aZ h1]at hu2;(refine run ?_;repeat intro b);rw[dT (by omega)];exact fp (k+1) ⟨.inr (by omega),hu2⟩ (by omega) (VS.eL [0,7] rfl rfl)
 have hge:l.length≤k+1:=by omega
 rw[Iv hge]at hu2;(refine run ?_;repeat intro b);refine gy rfl (by omega) ?_;(refine run ?_;repeat intro b);rw[e,nI hu hu2];rfl
set_option maxHeartbeats 4000000 in
theorem KQ (l:List Head)(n:Int)(hl:l.length≤4611686018427387904){p:Option Addr}{c:Nat}{F:Hp}(hf:e9 F p (l.flatMap Head.row)):Plain Tryz.prog F 135 [.slice p l.length c,i64 n] (pair (qR (jP l n)).v (.bool (jP l n).isSome)):=by
 refine dQ (N:=21) (rv:=[.cell 4 41,.tmp 5]) eW mixed Tryz.func135 rfl rfl rfl rfl rfl ?_;(refine run ?_;repeat intro b);refine eY (fun k:Nat=>k≤l.length∧jP l n=jP (l.drop k) n) (fun k=>⟨[(1,.v (i64 n)),(4,.loc 0 0),(8,.v (.slice p l.length c)),(9,.v (i64 (l.length:Nat))),(10,.v (i64 (k:Nat)))],F,[(0,⟨some b,[.v (i64 0),.v (u64 0),.v (u64 0),.v (i64 0)],41,4⟩)],1⟩) (fun k=>l.length - k) 0 ⟨az _,rfl⟩ (VS.eL [1,4,8,9,10] rfl rfl) ?_;rintro k ⟨hk,hu⟩;by_cases hlt:k<l.length
 ·obtain⟨o1,o2⟩:=fa eZ (by decide) hf k hlt;have hd:jP (l.drop k) n=if l[k].dZ=n then some l[k] else jP (l.drop (k+1)) n:=by
   rw[aO hlt];unfold jP;rw[List.find?_cons];by_cases h:l[k].dZ=n<;>simp[h]
  rw[hd]at hu;generalize l[k]=x at hu o2;(refine run ?_;repeat intro b);refine gw rfl (by omega) ?_;(refine run ?_;repeat intro b);refine dL rfl rfl rfl ⟨by omega,by omega,dR hf (j:=k * 4) (by rw[dO eZ];omega)⟩ ?_;refine fB x.row rfl rfl rfl rfl rfl (by rw[ae];exact o1) (by rw[ae];exact o2) ?_;(refine run ?_;repeat intro b);refine eE (decide (x.dZ=n)) ?_ (fun h=>?_) (fun h=>?_)
  ·refine dV ?_;rw[ai];simp
  ·rw[aZ (ar h)]at hu;(refine run ?_;repeat intro b);rw[hu];rfl
  rw[aY (au h)]at hu;(refine run ?_;repeat intro b);rw[dT (by omega)];exact iK (k+1) [1] [1,4,8,9,10] ⟨hlt,hu⟩ (by omega) rfl rfl rfl rfl ⟨⟨Nat.zero_lt_one,by intro e he;simp only[aT,da,dH]at he;rcases he with rfl | rfl | rfl | rfl<;>trivial⟩,trivial⟩ rfl
 have hge:k=l.length:=by omega
 subst hge;rw[cg]at hu;(refine run ?_;repeat intro b);refine gy rfl (by omega) ?_;(refine run ?_;repeat intro b);rw[hu];rfl
end
section
open Go.TR
abbrev S3:=Option Addr×List Head×Nat
@[reducible] def S3.v (s:S3):Value:=.slice s.1 s.2.1.length s.2.2
def q6:List S3→Int
 | []=>0
 | s::t=>if (fu s.2.1).1=0 then q6 t else (fu s.2.1).1
theorem Eo {l:List S3}{j:Nat}(hj:j<l.length):q6 (l.drop j)=if (fu l[j].2.1).1=0 then q6 (l.drop (j+1)) else (fu l[j].2.1).1:=by
 rw[aO hj];rfl
theorem GW (p:Option Addr)(l:List Head)(c:Nat):q6 [(p,l,c)]=(fu l).1:=by
 unfold q6;split
 ·rename_i h;rw[h];rfl
 rfl
theorem qV (rs:RL)(h:Head):ll rs (h.row.map .v):=gC rs (by
 intro x hx;simp only[Head.row,aT,da,dH]at hx;rcases hx with rfl | rfl | rfl | rfl<;>rfl)
theorem vz (l:List Head)(a:Head):(l++[a]).flatMap Head.row=l.flatMap Head.row++a.row:=by simp
def fL (l:List Head):Head:=l.getLastD Head.none
def qG (l:List Head)(root:Nat)(at_:Int):Int:=if (fu l).1≠0 then (fu l).1 else if l.length=40 then 7 else (fL l).kz root at_
def ub (l:List Head)(root:Nat)(at_:Int):List Head:=if qG l root at_=0 then l++[((fL l).m9 root at_).ij ((fL l).kz root at_)] else []
def pU (l:List Head)(from_ iP:Int):Int:=if (fu l).1≠0 then (fu l).1 else if from_>iP∨from_<(qR l.head?).dZ∨iP>(fL l).dZ then 4 else 0
def pT (l:List Head)(from_ iP:Int):List Head:=if pU l from_ iP=0 then (l.take ((iP - (qR l.head?).dZ+1).toNat)).drop ((from_ - (qR l.head?).dZ).toNat) else []
def ye (h:Head)(l:List Head):Int:=if (fu l).1≠0 then (fu l).1 else h.fault
def yA (h:Head)(l:List Head):Bool:=decide (ye h l=0)&&jl h (qR l.head?)
attribute [local irreducible] vc dW gz fg fD gF gJ gB fJ Plain eD eX dK VS fv fA fG jt fh IntKind.wrap
set_option maxRecDepth 100000
theorem s6 (cs:List Value)(n:Nat){p:Option Addr}{c:Nat}{F:Hp}(hl:cs.length=n * 4)(hf:e9 F p cs)(h1: ∀x∈cs,Go.TR.one (.v x)=true)(hb:n * 32≤140737488355328):eD Tryz.prog F 58 [.slice p n c] (fun x _ new=>mC 41 4 cs n x new):=by
 refine fW (N:=8) (rv:=[.tmp 2]) eW mixed Tryz.func58 rfl rfl rfl rfl rfl ?_;(refine run ?_;repeat intro b);refine qg (b:=p.isNone) eW rfl rfl rfl ?_;cases p with
 | none=>
  have hn:n=0:=by
   rcases dk n with h | h
   ·exact h
   have:=dR hf (j:=0) (by rw[hl];omega);cases this
  subst hn;(refine run ?_;repeat intro b);refine eU (VS.id ⟨_,rfl,.inl ⟨rfl,rfl,none,rfl⟩⟩)
 | some a=>
  (refine run ?_;repeat intro b);refine fy rfl rfl rfl rfl rfl rfl rfl rfl (iX hl hf) (gC _ h1) (fun h=>by cases h) (ah 0) rfl (az _) (by show (0+n) * 32≤_;omega) (fun hn=>?_) (fun hn b2 c2 hc2=>?_)
  ·subst hn;(refine run ?_;repeat intro b);refine eU ?_;refine VS.freeze 0 [2] rfl (cs:=[]) rfl rfl rfl fun F' hs1 hf1=>VS.id ⟨_,rfl,.inl ⟨rfl,rfl,_,rfl⟩⟩
  (refine run ?_;repeat intro b);simp only[aP]at hc2 ⊢;refine mH (qQ.mP (nx':=1) [(1,0)] [2] [(0,⟨some b2,cs.map EV.v,41,c2 * 4⟩)] (fi ⟨_,rfl,rfl,rfl,rfl,.inl ⟨rfl,fun e he=>fz _ e he⟩⟩ trivial) rfl rfl rfl rfl rfl rfl ⟨_,rfl,.inr ⟨hn,b2,c2,hc2,rfl,rfl⟩⟩)
set_option maxHeartbeats 4000000 in
theorem JO (ss:List S3)(hn:ss.length≤4611686018427387904){pp:Option Addr}{cc:Nat}{F:Hp}(hf:e9 F pp (ss.map S3.v))(hs: ∀s∈ss,s.2.1.length≤4611686018427387904∧(∀x∈s.2.1,x.wf)∧e9 F s.1 (s.2.1.flatMap Head.row)):Plain Tryz.prog F 55 [.slice pp ss.length cc] (i64 (q6 ss)):=by
 refine dQ (N:=22) (rv:=[.tmp 2]) eW mixed Tryz.func55 rfl rfl rfl rfl rfl ?_;(refine run ?_;repeat intro b);refine eY (fun k:Nat=>k≤ss.length∧q6 ss=q6 (ss.drop k)) (fun k=>⟨[(7,.v (.slice pp ss.length cc)),(8,.v (i64 (ss.length:Nat))),(9,.v (i64 (k:Nat)))],F,[],0⟩) (fun k=>ss.length - k) 0 ⟨az _,rfl⟩ (VS.eL [7,8,9] rfl rfl) ?_;rintro k ⟨hk,hu⟩;by_cases hlt:k<ss.length
 ·have g:=gS hf (j:=k) (by rw[ab];exact hlt);rw[cG]at g;obtain⟨g1,g2,g3⟩:=hs ss[k] (aj hlt);rw[Eo hlt]at hu;generalize ss[k]=s at hu g g1 g2 g3;obtain⟨ps,ls,cs⟩:=s;simp only at hu g g1 g2 g3;(refine run ?_;repeat intro b);refine gw rfl (by omega) ?_;(refine run ?_;repeat intro b);refine dL rfl rfl rfl ⟨by omega,by omega,dR hf (j:=k) (by rw[ab];exact hlt)⟩ ?_;refine fw (.slice ps ls.length cs) rfl rfl rfl rfl (by rw[ae,aA];exact g) ?_;(refine run ?_;repeat intro b);refine dJ _ rfl rfl rfl R0 rfl (oR ls g1 g2 g3) ?_;(refine run ?_;repeat intro b);refine eE (decide ((fu ls).1≠0)) ?_ (fun h=>?_) (fun h=>?_)
  ·refine dV ?_;rw[ai];simp
  ·rw[aY (ar h)]at hu;(refine run ?_;repeat intro b);rw[hu];rfl
  rw[aZ (by simpa using h)]at hu;(refine run ?_;repeat intro b);rw[dT (by omega)];exact fp (k+1) ⟨hlt,hu⟩ (by omega) (VS.eL [7,8,9] rfl rfl)
 have hge:k=ss.length:=by omega
 subst hge;rw[cg]at hu;(refine run ?_;repeat intro b);refine gy rfl (by omega) ?_;(refine run ?_;repeat intro b);rw[hu];rfl
theorem vL (l:List Head)(hl:l.length≤4611686018427387904)(hw: ∀x∈l,x.wf){pp p:Option Addr}{cc c:Nat}{F:Hp}(hf:e9 F pp [.slice p l.length c])(h1:e9 F p (l.flatMap Head.row)):Plain Tryz.prog F 55 [.slice pp 1 cc] (i64 (fu l).1):=by
 have:=JO [(p,l,c)] (by simp) (cc:=cc) hf (fun s hs=>by rw[aB.1 hs];exact⟨hl,hw,h1⟩);rw[GW]at this;exact this
set_option maxHeartbeats 4000000 in
theorem tX (l:List Head)(root:Nat)(at_:Int)(hl:l.length≤4611686018427387904)(hw: ∀x∈l,x.wf){p:Option Addr}{c:Nat}{F:Hp}(hf:e9 F p (l.flatMap Head.row)):iy Tryz.prog F 46 [.slice p l.length c,u64 root,i64 at_] (fun x F'=>∃p' c',x=pair (.slice p' (ub l root at_).length c') (i64 (qG l root at_))∧(ub l root at_).length≤c'∧e9 F' p' ((ub l root at_).flatMap Head.row)):=by
 refine eD.drop ?_;refine fW (N:=41) (rv:=[.tmp 6,.tmp 7]) eW mixed Tryz.func46 rfl rfl rfl rfl rfl ?_;have hE: ∀e,e≠0→qG l root at_=e→ub l root at_=[]:=fun e he h=>by unfold ub;rw[h,aY he]
 (refine run ?_;repeat intro b);refine fX (VS.freeze 0 [0,1,2,11] rfl rfl rfl rfl fun F1 hs1 hf1=>VS.id ?_);refine dJ _ rfl rfl rfl RQ rfl (vL l hl hw hf1 (eu hs1 hf)) ?_;(refine run ?_;repeat intro b);refine eE (decide ((fu l).1≠0)) ?_ (fun h=>?_) (fun h=>?_)
 ·refine dV ?_;rw[ai];simp
 ·have h0:=ar h;have e1:qG l root at_=(fu l).1:=by unfold qG;rw[aZ h0]
  rw[hE _ h0 e1,e1];(refine run ?_;repeat intro b);exact eU (VS.id ⟨_,rfl,none,0,rfl,ah _,eJ _ _⟩)
 have h0:(fu l).1=0:=by simpa using h
 obtain⟨z1,z2,z3,z4,z5⟩:=iO h0;(refine run ?_;repeat intro b);refine eE (decide (l.length=40)) ?_ (fun h=>?_) (fun h=>?_)
 ·refine dV ?_;rw[ai,av,beq_iff_eq];omega
 ·have e1:qG l root at_=7:=by unfold qG;rw[aY (by simpa using h0),aZ (ar h)]
  rw[hE _ (by decide) e1,e1];(refine run ?_;repeat intro b);exact eU (VS.id ⟨_,rfl,none,0,rfl,ah _,eJ _ _⟩)
 have h1: ¬l.length=40:=au h;have e1:qG l root at_=(fL l).kz root at_:=by unfold qG;rw[aY (by simpa using h0),aY h1]
 have hlt:l.length - 1<l.length:=by omega
 obtain⟨o1,o2⟩:=fa eZ (by decide) (eu hs1 hf) (l.length - 1) hlt;have hla:l[l.length - 1]=fL l:=by
  unfold fL;rw[List.getLastD_eq_getLast?,List.getLast?_eq_getElem?,ao hlt];rfl
 have wla:=hw _ (aj hlt);rw[hla]at o2 wla;have ew:IntKind.i64.wrap (((l.length:Nat):Int) - 1)=((l.length - 1:Nat):Int):=by rw[wrap_i64 (by omega) (by omega)];omega
 (refine run ?_;repeat intro b);rw[ew];refine dL rfl rfl rfl ⟨by omega,by omega,dR hf (j:=(l.length - 1) * 4) (by rw[dO eZ];omega)⟩ ?_;refine fB (fL l).row rfl rfl rfl rfl rfl (by rw[ae];exact o1) (by rw[ae];exact o2) ?_;(refine run ?_;repeat intro b);refine dJ _ rfl rfl rfl UD rfl (v5 (fL l) wla root at_ F1) ?_;(refine run ?_;repeat intro b);refine eE (decide ((fL l).kz root at_≠0)) ?_ (fun h=>?_) (fun h=>?_)
 ·refine dV ?_;rw[ai];simp
 ·have h2:=ar h;rw[hE _ h2 e1,e1];(refine run ?_;repeat intro b);exact eU (VS.id ⟨_,rfl,none,0,rfl,ah _,eJ _ _⟩)
 have h2:(fL l).kz root at_=0:=by simpa using h
 rw[h2]at e1;have e2:ub l root at_=l++[((fL l).m9 root at_).ij ((fL l).kz root at_)]:=by unfold ub;rw[aZ e1]
 rw[e1,e2];generalize ((fL l).m9 root at_).ij ((fL l).kz root at_)=nx;have hcl:=s6 (l.flatMap Head.row) l.length (dO eZ _) (eu hs1 hf) (oZ _) (c:=c) (by omega);(refine run ?_;repeat intro b);refine fC [1] (by kernel_rfl) ?_;refine dU [0,2] (f':=5) (by kernel_rfl) rfl rfl rfl ?_;(refine run ?_;repeat intro b);refine jF 1 3 (by kernel_rfl) rfl rfl rfl ?_ ?_
 ·refine nC (R:=fun _ cs=>cs=l.flatMap Head.row) (fun x F' new h=>⟨_,h,rfl⟩) rfl rfl rfl MZ rfl hcl (fun hk0 F2 p1 cs hF2 hcs=>by omega) (fun hk1 F2 b1 c1 cs hF2 hc1 hcs=>?_);(refine run ?_;repeat intro b);refine eG hF2 (dP rfl) ?_;refine ee 3 (by kernel_rfl) rfl rfl ?_;(refine run ?_;repeat intro b);(refine run ?_;repeat intro b);refine eG (Hp.sub.refl _) (dP rfl) ?_;refine ee 4 (by kernel_rfl) rfl rfl ?_;subst hcs;refine fy rfl rfl rfl rfl rfl rfl rfl rfl (ff rfl rfl) (qV _ _) (fun h=>by cases h) hc1 rfl (by rw[ab,dO eZ];exact ah _) (by show _ * 32≤_;omega) (fun h=>by cases h) (fun _ b2 c2 hc2=>?_);(refine run ?_;repeat intro b);refine eG (Hp.sub.refl _) (dP rfl) ?_;refine dU [5,6] (f':=0) (by kernel_rfl) rfl rfl rfl ?_;(refine run ?_;repeat intro b);refine fq (by kernel_rfl) ?_;(refine run ?_;repeat intro b);refine eU ?_;have hcells:((l.flatMap Head.row).map EV.v).take (l.length * 4)++nx.row.map EV.v=((l++[nx]).flatMap Head.row).map EV.v:=by
   rw[vz,aF,an (by rw[ab,dO eZ];exact ah _)]
  refine VS.freeze 4 [6,7] rfl ((a8 (iZ _) hcells).trans (eH _)) rfl rfl fun F' hs1 hf1=>VS.id ⟨_,rfl,some ⟨b2,0,none⟩,c2,by rw[ag];rfl,by rw[ag];exact hc2,hf1⟩
 (refine run ?_;repeat intro b);(refine run ?_;repeat intro b);refine eG (Hp.sub.refl _) (dP rfl) ?_;refine ee 1 (by kernel_rfl) rfl rfl ?_;refine nC (R:=fun _ cs=>cs=l.flatMap Head.row) (fun x F' new h=>⟨_,h,rfl⟩) rfl rfl rfl MZ rfl hcl (fun hk0 F2 p1 cs hF2 hcs=>by omega) (fun hk1 F2 b1 c1 cs hF2 hc1 hcs=>?_);(refine run ?_;repeat intro b);refine eG hF2 (dP rfl) ?_;refine ee 4 (by kernel_rfl) rfl rfl ?_;subst hcs;refine fy rfl rfl rfl rfl rfl rfl rfl rfl (ff rfl rfl) (qV _ _) (fun h=>by cases h) hc1 rfl (by rw[ab,dO eZ];exact ah _) (by show _ * 32≤_;omega) (fun h=>by cases h) (fun _ b2 c2 hc2=>?_);(refine run ?_;repeat intro b);refine eG (Hp.sub.refl _) (dP rfl) ?_;refine dU [5,6] (f':=0) (by kernel_rfl) rfl rfl rfl ?_;(refine run ?_;repeat intro b);refine fq (by kernel_rfl) ?_;(refine run ?_;repeat intro b);refine eU ?_;have hcells:((l.flatMap Head.row).map EV.v).take (l.length * 4)++nx.row.map EV.v=((l++[nx]).flatMap Head.row).map EV.v:=by
  rw[vz,aF,an (by rw[ab,dO eZ];exact ah _)]
 refine VS.freeze 4 [6,7] rfl ((a8 (iZ _) hcells).trans (eH _)) rfl rfl fun F' hs1 hf1=>VS.id ⟨_,rfl,some ⟨b2,0,none⟩,c2,by rw[ag];rfl,by rw[ag];exact hc2,hf1⟩
theorem DA (l:List Head)(n:Nat){p:Option Addr}{c:Nat}{F:Hp}(hn:n=l.length)(hf:e9 F p (l.flatMap Head.row))(hb:n≤1000000000000):iy Tryz.prog F 58 [.slice p n c] (fun x F'=>∃p c,x= .slice p n c∧n≤c∧e9 F' p (l.flatMap Head.row)):=
 eD.Mu (fun h=>by rw[aq (by omega:l.length=0)];rfl) (s6 (l.flatMap Head.row) n (by rw[dO eZ,hn]) hf (oZ _) (by omega))
theorem uA {l:List Head}(h:0<l.length):qR l.head? =l[0]:=by
 cases l with
 | nil=>simp at h
 | cons a l=>rfl
theorem tU {l:List Head}(h:0<l.length):l[l.length - 1]=fL l:=by
 unfold fL;rw[List.getLastD_eq_getLast?,List.getLast?_eq_getElem?,ao (by omega)];rfl
set_option maxHeartbeats 4000000 in
theorem C6 (l:List Head)(from_ iP:Int)(hl:l.length≤4611686018427387904)(hw: ∀x∈l,x.wf){p:Option Addr}{c:Nat}{F:Hp}(hc:l.length≤c)(hf:e9 F p (l.flatMap Head.row)):iy Tryz.prog F 20 [.slice p l.length c,i64 from_,i64 iP] (fun x F'=>∃p' c',x=pair (.slice p' (pT l from_ iP).length c') (i64 (pU l from_ iP))∧(pT l from_ iP).length≤c'∧e9 F' p' ((pT l from_ iP).flatMap Head.row)):=by
 refine eD.drop ?_;refine fW (N:=51) (rv:=[.tmp 6,.tmp 7]) eW mixed Tryz.func20 rfl rfl rfl rfl rfl ?_;have hE: ∀e,e≠0→pU l from_ iP=e→pT l from_ iP=[]:=fun e he h=>by unfold pT;rw[h,aY he]
 (refine run ?_;repeat intro b);refine fX (VS.freeze 0 [0,1,2,12] rfl rfl rfl rfl fun F1 hs1 hf1=>VS.id ?_);refine dJ _ rfl rfl rfl RQ rfl (vL l hl hw hf1 (eu hs1 hf)) ?_;(refine run ?_;repeat intro b);refine eE (decide ((fu l).1≠0)) ?_ (fun h=>?_) (fun h=>?_)
 ·refine dV ?_;rw[ai];simp
 ·have h0:=ar h;have e1:pU l from_ iP=(fu l).1:=by unfold pU;rw[aZ h0]
  rw[hE _ h0 e1,e1];(refine run ?_;repeat intro b);exact eU (VS.id ⟨_,rfl,none,0,rfl,ah _,eJ _ _⟩)
 have h0:(fu l).1=0:=by simpa using h
 obtain⟨z1,z2,z3,z4,z5⟩:=iO h0;have hf':=eu hs1 hf;obtain⟨o1,o2⟩:=fa eZ (by decide) hf' 0 z1;obtain⟨o3,o4⟩:=fa eZ (by decide) hf' (l.length - 1) (by omega);have ue:=sk z4 (l.length - 1) (by omega);have v1:=Head.uK (z3 _ (aj z1));have v2:=Head.uK (z3 _ (aj (show l.length - 1<l.length by omega)));have hla:=tU z1;rw[hla]at o4 ue v2;rw[←uA z1]at o2 ue v1;have ew:IntKind.i64.wrap (((l.length:Nat):Int) - 1)=((l.length - 1:Nat):Int):=by rw[wrap_i64 (by omega) (by omega)];omega
 have hP:pU l from_ iP=if from_>iP∨from_<(qR l.head?).dZ∨iP>(fL l).dZ then 4 else 0:=by unfold pU;rw[aY (by simpa using h0)]
 have hPL:pU l from_ iP=0→pT l from_ iP=(l.take ((iP - (qR l.head?).dZ+1).toNat)).drop ((from_ - (qR l.head?).dZ).toNat):=fun h=>by unfold pT;rw[aZ h]
 generalize qR l.head? =x at o2 ue v1 hP hPL;generalize fL l=y at o4 ue v2 hP;(refine run ?_;repeat intro b);refine fO (by kernel_rfl) ?_;(refine run ?_;repeat intro b);refine dL rfl rfl rfl ⟨by omega,by omega,dR hf (j:=0 * 4) (by rw[dO eZ];omega)⟩ ?_;(refine run ?_;repeat intro b);refine dL rfl rfl rfl o1 ?_;refine fw (i64 x.dZ) rfl rfl rfl rfl (o2 0 (by decide)) ?_;(refine run ?_;repeat intro b);rw[ew];refine dL rfl rfl rfl ⟨by omega,by omega,dR hf (j:=(l.length - 1) * 4) (by rw[dO eZ];omega)⟩ ?_;(refine run ?_;repeat intro b);refine dL rfl rfl rfl (by rw[ae];exact o3) ?_;refine fw (i64 y.dZ) rfl rfl rfl rfl (by rw[ae];exact o4 0 (by decide)) ?_;(refine run ?_;repeat intro b);refine eE (decide (from_>iP∨from_<x.dZ∨iP>y.dZ)) ?_ (fun h=>?_) (fun h=>?_)
 ·refine dV ?_;rw[fx,fx,Bool.decide_or,Bool.decide_or,Bool.or_assoc]
 ·rw[aZ (ar h)]at hP;rw[hE _ (by decide) hP,hP];(refine run ?_;repeat intro b);exact eU (VS.id ⟨_,rfl,none,0,rfl,ah _,eJ _ _⟩)
 have h1:=au h;rw[aY h1]at hP;have WI:=hPL hP;obtain⟨m,hm⟩: ∃m:Nat,m=(from_ - x.dZ).toNat:=⟨_,rfl⟩;obtain⟨k,hk⟩: ∃k:Nat,k=(iP - x.dZ+1).toNat:=⟨_,rfl⟩;have em:IntKind.i64.wrap (from_ - x.dZ)=(m:Int):=by rw[wrap_i64 (by omega) (by omega)];omega
 have ek:IntKind.i64.wrap (IntKind.i64.wrap (iP - x.dZ)+1)=(k:Int):=by rw[wrap_i64 (n:=iP - x.dZ) (by omega) (by omega),wrap_i64 (by omega) (by omega)];omega
 have hkl:k≤l.length:=by omega
 have hmk:m≤k:=by omega
 rw[←hm,←hk]at WI;have hlen:((l.take k).drop m).length=k - m:=by rw[aR,aw];omega
 have f1:=mL eZ (nN eZ hf' k) m c (by rw[aw];omega) (by rw[aw];omega);rw[hP,WI];(refine run ?_;repeat intro b);rw[em,ek];refine dL rfl rfl rfl ⟨by omega,by omega,by omega⟩ ?_;rw[ae,ae];(refine run ?_;repeat intro b);refine fm rfl rfl rfl MZ rfl (DA ((l.take k).drop m) (k - m) hlen.symm f1 (by omega)) ?_;rintro _ F2 hF2 ⟨pa,ca,rfl,Sy,hfa⟩;(refine run ?_;repeat intro b);exact eU (VS.id ⟨_,rfl,pa,ca,by rw[hlen];rfl,by rw[hlen];exact Sy,hfa⟩)
theorem Ms (a b:Head):decide (C8 [a,b]<0)=jl a b:=by
 unfold C8 td td;cases h:jl a b<;>simp
set_option maxHeartbeats 4000000 in
theorem Dl (h0:Head)(l:List Head)(h0w:h0.wf)(hl:l.length≤4611686018427387904)(hw: ∀x∈l,x.wf){p:Option Addr}{c:Nat}{F:Hp}(hf:e9 F p (l.flatMap Head.row)):Plain Tryz.prog F 317 [h0.v,.slice p l.length c] (pair (.bool (yA h0 l)) (i64 (ye h0 l))):=by
 refine dQ (N:=24) (rv:=[.tmp 4,.tmp 5]) eW mixed Tryz.func317 rfl rfl rfl rfl rfl ?_;(refine run ?_;repeat intro b);refine fX (VS.freeze 1 [1,2,8] rfl rfl rfl rfl fun F1 hs1 hf1=>VS.id ?_);refine dJ _ rfl rfl rfl RQ rfl (vL l hl hw hf1 (eu hs1 hf)) ?_;(refine run ?_;repeat intro b);by_cases hz:(fu l).1=0
 ·obtain⟨z1,z2,z3,z4,z5⟩:=iO hz;have hf':=eu hs1 hf;obtain⟨o1,o2⟩:=fa eZ (by decide) hf' 0 z1;have wl:=hw _ (aj z1);have vl:=z3 _ (aj z1);rw[←uA z1]at o2 wl vl;have hE:ye h0 l=h0.fault:=by unfold ye;rw[aY (by simpa using hz)]
  have hB:yA h0 l=(decide (h0.fault=0)&&jl h0 (qR l.head?)):=by unfold yA;rw[hE]
  rw[hE,hB,hz];generalize qR l.head? =y at o2 wl vl;(refine run ?_;repeat intro b);refine dJ _ rfl rfl rfl HI rfl (kA h0 F1) ?_;(refine run ?_;repeat intro b);refine eE (decide (h0.fault≠0)) ?_ (fun h=>?_) (fun h=>?_)
  ·refine dV ?_;rw[ai];simp
  ·have h1:=ar h;rw[aX h1];(refine run ?_;repeat intro b);rfl
  have h1:h0.fault=0:=by simpa using h
  rw[aW h1,h1];(refine run ?_;repeat intro b);refine fC [0] (by kernel_rfl) ?_;refine dU [0,1,2,3] (f':=5) (by kernel_rfl) rfl rfl rfl ?_;(refine run ?_;repeat intro b);refine dL rfl rfl rfl ⟨by omega,by omega,dR hf (j:=0 * 4) (by rw[dO eZ];omega)⟩ ?_;refine fB y.row rfl rfl rfl rfl rfl o1 o2 ?_;(refine run ?_;repeat intro b);refine ee 4 (by kernel_rfl) rfl rfl ?_;(refine run ?_;repeat intro b);(refine run ?_;repeat intro b);refine eG (Hp.sub.refl _) (dP rfl) ?_;refine ee 5 (by kernel_rfl) rfl rfl ?_;refine fX (VS.freeze 2 [1,2,21] rfl rfl rfl rfl fun F2 hs2 hf2=>VS.id ?_);refine dJ _ rfl rfl rfl QA rfl (AO [h0,y] (by show 2≤_;omega) (fun x hx=>?_) (fun x hx=>?_) hf2) ?_
  ·simp only[aT,da,dH]at hx;rcases hx with rfl | rfl
   ·exact h0w
   exact wl
  ·simp only[aT,da,dH]at hx;rcases hx with rfl | rfl
   ·exact h1
   exact vl
  (refine run ?_;repeat intro b);(refine run ?_;repeat intro b);refine eG hs2 (dP rfl) ?_;refine dU [6,7,8] (f':=0) (by kernel_rfl) rfl rfl rfl ?_;(refine run ?_;repeat intro b);refine fq (by kernel_rfl) ?_;(refine run ?_;repeat intro b);rw[Ms];rfl
 have hE:ye h0 l=(fu l).1:=by unfold ye;rw[aZ hz]
 have hB:yA h0 l=false:=by unfold yA;rw[hE,aX hz];rfl
 rw[hE,hB];generalize (fu l).1=e at hz;refine eE false ?_ (fun h=>by cases h) (fun _=>?_)
 ·refine dV ?_;rw[dD];exact hz
 (refine run ?_;repeat intro b);refine eE true ?_ (fun _=>?_) (fun h=>by cases h)
 ·refine dV ?_;rw[bne_iff_ne];exact hz
 (refine run ?_;repeat intro b);rfl
end
end Go.Proofs.YthbnddgjkonkdaaGreatDoor
