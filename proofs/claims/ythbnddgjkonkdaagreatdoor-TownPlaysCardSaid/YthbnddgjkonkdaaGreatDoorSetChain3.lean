/- A part of the proof. -/
import Derived.Test.YthbnddgjkonkdaaGreatDoorSetHead
import Derived.Test.YthbnddgjkonkdaaGreatDoorSetQueue
import Derived.Test.YthbnddgjkonkdaaGreatDoorSetDiv
set_option linter.unusedVariables false
set_option linter.unusedSimpArgs false
namespace Go.Proofs.YthbnddgjkonkdaaGreatDoor
section
open Go.TR
def Zm (s:List UInt8):List EV:=[.v (u64 (wu s 0:Nat)),.v (u64 (wu s 1:Nat)),.v (u64 (wu s 2:Nat)),.v (u64 (wu s 3:Nat))]
def aah:List EV:=[.v (u64 0),.v (u64 0),.v (u64 0),.v (u64 0)]
def Rv (s:List UInt8):Bool:=decide (s.length=33)&&(s.head? ==some 3)
def Uc (s:List UInt8):Int:=if Rv s=true then (if (Ml s).fault=0 then 0 else 3) else 3
def ZW (s:List UInt8):Head:=if Uc s=0 then Ml s else Head.none
attribute [local irreducible] vc dT gx fc fA gC gG gw fG Plain eu eR dH VS fq fx fD ju fe IntKind.wrap
set_option maxRecDepth 100000
end
section
open Go.TR
theorem J0 {h:Head}(hw:h.wf){root:Nat}{at_:Int}(h0:h.fault=0)(h1: ¬h.dW=1000000):h.ku root at_=if MM≤root∨at_<h.at_∨1000000000<at_ then 4 else 0:=by
 obtain⟨g1,g2,g3,g4,g5,g6,g7⟩:=Head.uO h0;unfold Head.ku;rw[aY (by simpa using h0),aY h1];have hm:h.qY<MM:=by unfold Head.qY;rw[aZ h0];exact kZ _
 have hwr:IntKind.i64.wrap (h.dW+1)=h.dW+1:=wrap_i64 (by omega) (by omega);by_cases h2:at_<h.at_
 ·rw[aZ h2,aZ (.inr (.inl h2))]
 rw[aY h2];unfold Head.fault Head.vu Head.xG Head.nc;simp only[hwr];by_cases h3:MM≤root
 ·rw[aZ (by simp[h3]),aZ (.inl h3)]
 by_cases h4:1000000000<at_
 ·rw[aZ (by simp[h4]),aZ (.inr (.inr h4))]
 rw[aY (by simp;omega),aY (by simp;omega),aY (by omega)]
attribute [local irreducible] vc dT gx fc fA gC gG gw fG Plain eu eR dH VS fq fx fD ju fe IntKind.wrap
set_option maxRecDepth 100000
end
section
open Go.TR
@[reducible] def Head.row (h:Head):List Value:=[i64 h.dW,u64 (h.root:Nat),u64 (h.prev:Nat),i64 h.at_]
theorem eW (h:Head):h.row.length=4:=rfl
theorem oY (l:List Head): ∀x∈l.flatMap Head.row,one (.v x)=true:=fun x hx=>by
 obtain⟨a,_,ha⟩:=List.mem_flatMap.1 hx;simp only[Head.row,aT,cZ,dE]at ha;rcases ha with rfl | rfl | rfl | rfl<;>rfl
def ji (a b:Head):Bool:=decide (a.fault=0)&&decide (b.fault=0)&&decide (b.dW=a.dW+1)&&decide (b.prev=a.mark)&&decide (a.at_≤b.at_)
def kb:List Head→Nat→Option (Int×Nat)
 | [],_=>none
 | h::t,i=>if h.fault=0 then kb t (i+1) else some (h.fault,i)
def sZ:List Head→Nat→Option Nat
 | [],_=>none
 | [_],_=>none
 | a::b::t,i=>if ji a b=true then sZ (b::t) (i+1) else some i
def CP (l:List Head):Int:=match sZ l 1 with
 | some i=>(i:Int)
 | none=> -1
def qy (l:List Head):Int×Nat:=match kb l 0 with
 | some x=>x
 | none=>match sZ l 1 with
  | some i=>(8,i)
  | none=>(0,0)
def fp (l:List Head):Int×Nat:=if l.length=0 then (5,0) else if 40<l.length then (2,0) else qy l
theorem pZ {l:List Head}{x:Int×Nat}(h:kb l 0=some x):qy l=x:=by unfold qy;rw[h]
theorem qg {l:List Head}{i:Nat}(h:kb l 0=none)(h2:sZ l 1=some i):qy l=(8,i):=by unfold qy;rw[h,h2]
theorem nD {l:List Head}(h:kb l 0=none)(h2:sZ l 1=none):qy l=(0,0):=by unfold qy;rw[h,h2]
theorem yJ {l:List Head}{j:Nat}(hj:j<l.length):kb (l.drop j) j=if l[j].fault=0 then kb (l.drop (j+1)) (j+1) else some (l[j].fault,j):=by
 rw[aO hj];rfl
theorem ET {l:List Head}{j:Nat}(hj:j+1<l.length):sZ (l.drop j) (j+1)=if ji l[j] l[j+1]=true then sZ (l.drop (j+1)) (j+2) else some (j+1):=by
 rw[aO (i:=j) (by omega),aO (i:=j+1) hj];rfl
theorem IJ {l:List Head}{j i:Nat}(hj:l.length≤j+1):sZ (l.drop j) i=none:=by
 have:(l.drop j).length≤1:=by rw[aR];omega
 match h:l.drop j with
 | []=>rfl
 | [_]=>rfl
 | _::_::_=>rw[h]at this;simp at this
theorem pV: ∀{l:List Head}{i:Nat},kb l i=none→∀h∈l,h.fault=0
 | [],_,_=>by simp
 | a::l,i,h=>fun x hx=>by
  unfold kb at h;split at h
  ·rename_i h0;rcases aT.1 hx with rfl | hx
   ·exact h0
   exact pV h x hx
  cases h
theorem Head.ext' {a b:Head}(h1:a.dW=b.dW)(h2:a.root=b.root)(h3:a.prev=b.prev)(h4:a.at_=b.at_):a=b:=by
 cases a;cases b;simp_all
theorem Hy {a b:Head}(hw:a.wf)(ha:a.fault=0)(hb:b.fault=0):(decide (a.ku b.root b.at_≠0)||decide ((a.nc b.root b.at_).hU (a.ku b.root b.at_)≠b))= !ji a b:=by
 obtain⟨g1,g2,g3,g4,g5,g6,g7⟩:=Head.uO ha;obtain⟨f1,f2,f3,f4,f5,f6,f7⟩:=Head.uO hb;have hwr:IntKind.i64.wrap (a.dW+1)=a.dW+1:=wrap_i64 (by omega) (by omega);have hm:a.qY=a.mark:=by unfold Head.qY;rw[aZ ha]
 unfold ji;rw[aW ha,aW hb];by_cases h1:a.dW=1000000
 ·have:a.ku b.root b.at_≠0:=by unfold Head.ku;rw[aY (by simpa using ha),aZ h1];decide
  rw[aW this];have: ¬b.dW=a.dW+1:=by omega
  simp[this]
 have hn:=J0 (root:=b.root) (at_:=b.at_) hw ha h1;by_cases h2:b.at_<a.at_
 ·rw[aZ (.inr (.inl h2))]at hn;rw[hn];have: ¬a.at_≤b.at_:=by omega
  simp[this]
 rw[aY (by omega)]at hn;rw[hn];have h3:a.at_≤b.at_:=by omega
 unfold Head.hU Head.nc;rw[hwr,hm];by_cases h4:b.dW=a.dW+1
 ·by_cases h5:b.prev=a.mark
  ·have:(⟨a.dW+1,b.root,a.mark,b.at_⟩:Head)=b:=Head.ext' h4.symm rfl h5.symm rfl;simp[this,h3,h4,h5]
  have:(⟨a.dW+1,b.root,a.mark,b.at_⟩:Head)≠b:=fun e=>h5 (by rw[←e]);simp[this,h5]
 have:(⟨a.dW+1,b.root,a.mark,b.at_⟩:Head)≠b:=fun e=>h4 (by rw[←e]);simp[this,h4]
theorem Nj: ∀{l:List Head}{i:Nat}{x:Int×Nat},kb l i=some x→x.1≠0:=by
 intro l
 induction l with
 | nil=>intro i x h;cases h
 | cons a l ih=>
  intro i x h;unfold kb at h;split at h
  ·exact ih h
  rename_i h0;cases h;exact h0
theorem iL {l:List Head}(h:(fp l).1=0):0<l.length∧l.length≤40∧(∀x∈l,x.fault=0)∧sZ l 1=none∧fp l=(0,0):=by
 unfold fp at h ⊢;split at h
 ·cases h
 rename_i h1;split at h
 ·cases h
 rename_i h2;rw[aY h1,aY h2];cases hb:kb l 0 with
 | some x=>
  rw[pZ hb]at h;exact absurd h (Nj hb)
 | none=>
  cases hu:sZ l 1 with
  | some i=>
   rw[qg hb hu]at h;cases h
  | none=>exact⟨by omega,by omega,pV hb,rfl,nD hb hu⟩
def jL (l:List Head)(n:Int):Option Head:=l.find? fun h=>decide (h.dW=n)
def qO:Option Head→Head
 | some h=>h
 | none=>Head.none
theorem sq: ∀{l:List Head}{i:Nat},sZ l i=none→∀(j:Nat)(h:j<l.length),l[j].dW=(l[0]'(by omega)).dW+(j:Int)
 | [],_,_,j,h=>by simp at h
 | [a],_,_,j,h=>by
  have:j=0:=by simp at h;omega
  subst this;simp
 | a::b::t,i,hu,0,h=>by simp
 | a::b::t,i,hu,j+1,h=>by
  unfold sZ at hu;split at hu
  ·rename_i hl;have:=sq hu j (by simpa using h);simp only[List.getElem_cons_succ,List.getElem_cons_zero]at this ⊢;rw[this];unfold ji at hl;simp only[aL,av]at hl;rw[hl.1.1.2];omega
  cases hu
end
section
open Go.TR
theorem sn (x y:Head):(!(x.dW==y.dW&&(((x.root:Nat):Int)==(y.root:Nat)&&(((x.prev:Nat):Int)==(y.prev:Nat)&&(x.at_==y.at_&&true)))))=decide (x≠y):=by
 rw[ai];simp only[bz,bn,dA,av,ne_eq];constructor
 ·rintro h rfl;simp at h
 intro h;by_cases h1:x.dW=y.dW
 ·by_cases h2:x.root=y.root
  ·by_cases h3:x.prev=y.prev
   ·by_cases h4:x.at_=y.at_
    ·exact absurd (Head.ext' h1 h2 h3 h4) h
    simp[h4]
   have: ¬((x.prev:Nat):Int)=(y.prev:Nat):=by omega
   simp[this]
  have: ¬((x.root:Nat):Int)=(y.root:Nat):=by omega
  simp[this]
 simp[h1]
attribute [local irreducible] vc dT gx fc fA gC gG gw fG Plain eu eR dH VS fq fx fD ju fe IntKind.wrap
set_option maxRecDepth 100000
set_option maxHeartbeats 4000000 in
theorem CY (l1 l2:List Head){p1 p2:Option Addr}{c1 c2:Nat}{F:Hp}(h1:eY F p1 (l1.flatMap Head.row))(h2:eY F p2 (l2.flatMap Head.row))(hn:l1.length≤4611686018427387904):Plain Tryz.prog F 120 [.slice p1 l1.length c1,.slice p2 l2.length c2] (.bool (decide (l1=l2))):=by
 refine dN (N:=26) (rv:=[.tmp 4]) eP mixed Tryz.func120 rfl rfl rfl rfl rfl ?_;(refine run ?_;repeat intro b);refine ez _ rfl (fun h=>?_) (fun h=>?_)
 ·(refine run ?_;repeat intro b);have hne:l1≠l2:=by rintro rfl;simp at h
  simp[gE,hne]
 have hl:l1.length=l2.length:=by simp at h;omega
 (refine run ?_;repeat intro b);refine eU (fun k:Nat=>k≤l1.length∧l1.take k=l2.take k) (fun k=>⟨[(0,.v (.slice p1 l1.length c1)),(1,.v (.slice p2 l2.length c2)),(12,.v (i64 l1.length)),(13,.v (i64 (k:Nat)))],F,[],0⟩) (fun k=>l1.length - k) 0 ⟨az _,rfl⟩ (VS.eH [0,1,12,13] rfl rfl) ?_;rintro k ⟨hk,ht⟩;by_cases hlt:k<l1.length
 ·have hlt2:k<l2.length:=by omega
  obtain⟨o1,o2⟩:=eZ eW (by decide) h1 k hlt;obtain⟨o3,o4⟩:=eZ eW (by decide) h2 k hlt2;obtain⟨x,hx⟩: ∃x,x=l1[k]:=⟨_,rfl⟩;obtain⟨y,hy⟩: ∃y,y=l2[k]:=⟨_,rfl⟩;rw[←hx]at o2;rw[←hy]at o4;(refine run ?_;repeat intro b);refine gm rfl (by omega) ?_;(refine run ?_;repeat intro b);refine fM (by kernel_rfl) ?_;(refine run ?_;repeat intro b);refine dI rfl rfl rfl ⟨by omega,by omega,dO h1 (j:=k * 4) (by rw[dL eW];omega)⟩ ?_;refine fy (Head.row x) rfl rfl rfl rfl rfl (by rw[ae];exact o1) (by rw[ae];exact o2) ?_;(refine run ?_;repeat intro b);refine dI rfl rfl rfl ⟨by omega,by omega,dO h2 (j:=k * 4) (by rw[dL eW];omega)⟩ ?_;refine fy (Head.row y) rfl rfl rfl rfl rfl (by rw[ae];exact o3) (by rw[ae];exact o4) ?_;(refine run ?_;repeat intro b);refine ez (decide (x≠y)) (a8 (fun b=>some (EV.v (.bool b))) (sn x y)) (fun h4=>?_) (fun h4=>?_)
  ·(refine run ?_;repeat intro b);have hne:l1≠l2:=pM hlt hlt2 (by rw[←hx,←hy];exact ar h4);simp[gE,hne]
  (refine run ?_;repeat intro b);rw[dQ (by omega)];exact fj (k+1) ⟨hlt,my ht hlt hlt2 (by rw[←hx,←hy];simpa using h4)⟩ (by omega) (VS.eH [0,1,12,13] rfl rfl)
 have hge:k=l1.length:=by omega
 subst hge;(refine run ?_;repeat intro b);refine gu rfl (by omega) ?_;(refine run ?_;repeat intro b);have he:l1=l2:=by rw[aD]at ht;rw[ht,hl,aD]
 simp[gE,he]
set_option maxHeartbeats 4000000 in
theorem Bt (l:List Head)(hl:l.length≤4611686018427387904)(hw: ∀x∈l,x.wf)(hv: ∀x∈l,x.fault=0){p:Option Addr}{c:Nat}{F:Hp}(hf:eY F p (l.flatMap Head.row)):Plain Tryz.prog F 150 [.slice p l.length c] (i64 (CP l)):=by
 refine dN (N:=42) (rv:=[.tmp 2]) eP mixed Tryz.func150 rfl rfl rfl rfl rfl ?_;(refine run ?_;repeat intro b);refine eU (fun k:Nat=>(k=0∨k+1≤l.length)∧sZ l 1=sZ (l.drop k) (k+1)) (fun k=>⟨[(0,.v (.slice p l.length c)),(3,.v (i64 ((k+1:Nat):Nat)))],F,[],0⟩) (fun k=>l.length - k) 0 ⟨.inl rfl,rfl⟩ (VS.eH [0,3] rfl rfl) ?_;rintro k ⟨hk,hu⟩;by_cases hlt:k+1<l.length
 ·have KZ:k<l.length:=by omega
  obtain⟨o1,o2⟩:=eZ eW (by decide) hf k KZ;obtain⟨o3,o4⟩:=eZ eW (by decide) hf (k+1) hlt;rw[ET hlt]at hu;have w1:=hw l[k] (aj KZ);have v1:=hv l[k] (aj KZ);have v2:=hv l[k+1] (aj hlt);generalize l[k]=a at hu o2 w1 v1;generalize l[k+1]=y at hu o4 v2;clear hw hv;have e1:IntKind.i64.wrap (((k+1:Nat):Int) - 1)=((k:Nat):Int):=by rw[wrap_i64 (by omega) (by omega)];omega
  have hs2:(im p ((k+1) * 4)).isSome=true:=o3;(refine run ?_;repeat intro b);refine gm rfl (by omega) ?_;(refine run ?_;repeat intro b);refine fz [] (by kernel_rfl) ?_;refine dR [0,1,2,3,4,5,6,7,8,9,10,11,12,13,14,15,16,17,18] (f':=3) (by kernel_rfl) rfl rfl rfl ?_;(refine run ?_;repeat intro b);rw[e1];refine dI rfl rfl rfl ⟨by omega,by omega,dO hf (j:=k * 4) (by rw[dL eW];omega)⟩ ?_;refine fy a.row rfl rfl rfl rfl rfl (by rw[ae];exact o1) (by rw[ae];exact o2) ?_;(refine run ?_;repeat intro b);refine dI rfl rfl rfl ⟨by omega,by omega,dO hf (j:=(k+1) * 4) (by rw[dL eW];omega)⟩ ?_;(refine run ?_;repeat intro b);refine dI rfl rfl rfl (by rw[ae];exact o3) ?_;refine fr (u64 (y.root:Nat)) rfl rfl rfl rfl (by rw[ae];exact o4 1 (by decide)) ?_;(refine run ?_;repeat intro b);refine dI rfl rfl rfl ⟨by omega,by omega,dO hf (j:=(k+1) * 4) (by rw[dL eW];omega)⟩ ?_;(refine run ?_;repeat intro b);refine dI rfl rfl rfl (by rw[ae];exact o3) ?_;refine fr (i64 y.at_) rfl rfl rfl rfl (by rw[ae];exact o4 3 (by decide)) ?_;(refine run ?_;repeat intro b);refine dG _ rfl rfl rfl Vx rfl (wG a w1 y.root y.at_ F) ?_;(refine run ?_;repeat intro b);refine dY 19 (by kernel_rfl) rfl rfl ?_;(refine run ?_;repeat intro b);refine eC (Hp.sub.refl _) trivial ?_;refine dY 20 (by kernel_rfl) rfl rfl ?_;(refine run ?_;repeat intro b);refine eC (Hp.sub.refl _) trivial ?_;refine dR [21] (f':=0) (by kernel_rfl) rfl rfl rfl ?_;(refine run ?_;repeat intro b);refine fk (by kernel_rfl) ?_;(refine run ?_;repeat intro b);refine fM (by kernel_rfl) ?_;(refine run ?_;repeat intro b);refine iw rfl rfl rfl rfl rfl (fun _=>⟨by omega,by omega,dO hf (j:=(k+1) * 4) (by rw[dL eW];omega)⟩) ?_;refine uc y.row rfl rfl rfl rfl rfl rfl rfl (fun _=>⟨by rw[ae];exact o3,by rw[ae];exact o4⟩) ?_;(refine run ?_;repeat intro b);refine ez (!ji a y) ?_ (fun h=>?_) (fun h=>?_)
  ·refine dS ?_;have e0:(a.ku y.root y.at_ != 0)=decide (a.ku y.root y.at_≠0):=by rw[ai];simp
   rw[fu,←Hy w1 v1 v2,←e0];congr 1;exact sn _ _
  ·have h1: ¬ji a y=true:=by simpa using h
   rw[aY h1]at hu;(refine run ?_;repeat intro b);unfold CP;rw[hu];rfl
  have h1:ji a y=true:=by simpa using h
  rw[aZ h1]at hu;(refine run ?_;repeat intro b);rw[dQ (by omega)];exact iH (k+1) [0] [0,3] ⟨.inr (by omega),hu⟩ (by omega) rfl rfl rfl rfl trivial rfl
 have hge:l.length≤k+1:=by omega
 rw[IJ hge]at hu;(refine run ?_;repeat intro b);refine gu rfl (by omega) ?_;(refine run ?_;repeat intro b);unfold CP;rw[hu];rfl
end
section
open Go.TR
attribute [local irreducible] vc dT gx fc fA gC gG gw fG Plain eu eR dH VS fq fx fD ju fe IntKind.wrap
set_option maxRecDepth 100000
set_option maxHeartbeats 4000000 in
theorem D4 (x y:Head)(ha:x.wf)(hb:y.wf)(F:Hp):Plain Tryz.prog F 134 [x.v,y.v] (.bool (ji x y)):=by
 refine dN (N:=35) (rv:=[.tmp 4]) eP mixed Tryz.func134 rfl rfl rfl rfl rfl ?_;(refine run ?_;repeat intro b);refine fM (by kernel_rfl) ?_;(refine run ?_;repeat intro b);refine dG _ rfl rfl rfl I9 rfl (oE x F) ?_;(refine run ?_;repeat intro b);refine gi _ rfl rfl rfl rfl I9 rfl rfl (fun _=>oE y F) ?_;(refine run ?_;repeat intro b);refine gi _ rfl rfl rfl rfl TT rfl rfl (fun _=>rz x ha F) ?_;(refine run ?_;repeat intro b);simp only[gE];congr 1;unfold ji;simp only[fH];by_cases h1:x.fault=0
 ·have hr:=Head.uO h1;have hw:IntKind.i64.wrap (x.dW+1)=x.dW+1:=wrap_i64 (by omega) (by omega);rw[hw,ai];simp[h1];omega
 simp[h1]
set_option maxHeartbeats 4000000 in
theorem oO (l:List Head)(hl:l.length≤4611686018427387904)(hw: ∀x∈l,x.wf){p:Option Addr}{c:Nat}{F:Hp}(hf:eY F p (l.flatMap Head.row)):Plain Tryz.prog F 90 [.slice p l.length c] (pair (i64 (fp l).1) (i64 ((fp l).2:Nat))):=by
 refine dN (N:=35) (rv:=[.tmp 2,.tmp 3]) eP mixed Tryz.func90 rfl rfl rfl rfl rfl ?_;(refine run ?_;repeat intro b);refine ez (decide (l.length=0)) ?_ (fun h=>?_) (fun h=>?_)
 ·refine dS ?_;rw[ai];simp
 ·have e:fp l=(5,0):=by unfold fp;rw[aZ (ar h)]
  (refine run ?_;repeat intro b);rw[e];rfl
 have h0: ¬l.length=0:=au h;(refine run ?_;repeat intro b);refine ez (decide (40<l.length)) ?_ (fun h=>?_) (fun h=>?_)
 ·refine dS ?_;rw[ai,av,av];omega
 ·have e:fp l=(2,0):=by unfold fp;rw[aY h0,aZ (ar h)]
  (refine run ?_;repeat intro b);rw[e];rfl
 have h1: ¬40<l.length:=au h;have e:fp l=qy l:=by unfold fp;rw[aY h0,aY h1]
 (refine run ?_;repeat intro b);refine eU (fun k:Nat=>k≤l.length∧kb l 0=kb (l.drop k) k) (fun k=>⟨[(0,.v (.slice p l.length c)),(16,.v (.slice p l.length c)),(17,.v (i64 (l.length:Nat))),(18,.v (i64 (k:Nat)))],F,[],0⟩) (fun k=>l.length - k) 0 ⟨az _,rfl⟩ (VS.eH [0,16,17,18] rfl rfl) ?_;rintro k ⟨hk,hu⟩;by_cases hlt:k<l.length
 ·obtain⟨o1,o2⟩:=eZ eW (by decide) hf k hlt;rw[yJ hlt]at hu;generalize l[k]=x at hu o2;(refine run ?_;repeat intro b);refine gm rfl (by omega) ?_;(refine run ?_;repeat intro b);refine dI rfl rfl rfl ⟨by omega,by omega,dO hf (j:=k * 4) (by rw[dL eW];omega)⟩ ?_;refine fy x.row rfl rfl rfl rfl rfl (by rw[ae];exact o1) (by rw[ae];exact o2) ?_;(refine run ?_;repeat intro b);refine dG _ rfl rfl rfl Gq rfl (kC x F) ?_;(refine run ?_;repeat intro b);refine ez (decide (x.fault≠0)) ?_ (fun h=>?_) (fun h=>?_)
  ·refine dS ?_;rw[ai];simp
  ·rw[aY (ar h)]at hu;(refine run ?_;repeat intro b);rw[e,pZ hu];rfl
  rw[aZ (by simpa using h)]at hu;(refine run ?_;repeat intro b);rw[dQ (by omega)];exact iH (k+1) [0] [0,16,17,18] ⟨hlt,hu⟩ (by omega) rfl rfl rfl rfl trivial rfl
 have hge:k=l.length:=by omega
 subst hge;rw[bZ]at hu;have hv:=pV hu;(refine run ?_;repeat intro b);refine gu rfl (by omega) ?_;(refine run ?_;repeat intro b);refine dG _ rfl rfl rfl QR rfl (Bt l hl hw hv hf) ?_;(refine run ?_;repeat intro b);cases hun:sZ l 1 with
 | none=>
  have e1:CP l= -1:=by unfold CP;rw[hun]
  rw[e1];(refine run ?_;repeat intro b);rw[e,nD hu hun];rfl
 | some i=>
  have e1:CP l=(i:Int):=by unfold CP;rw[hun]
  rw[e1];refine ez true ?_ (fun _=>?_) (fun h=>by cases h)
  ·exact a8 (fun b=>some (EV.v (.bool b))) (aW (by omega))
  (refine run ?_;repeat intro b);rw[e,qg hu hun];rfl
set_option maxHeartbeats 4000000 in
theorem Ep (l:List Head)(hl:l.length≤4611686018427387904)(hw: ∀x∈l,x.wf){p:Option Addr}{c:Nat}{F:Hp}(hf:eY F p (l.flatMap Head.row)):Plain Tryz.prog F 133 [.slice p l.length c] (pair (i64 (fp l).1) (i64 ((fp l).2:Nat))):=by
 refine dN (N:=46) (rv:=[.tmp 2,.tmp 3]) eP mixed Tryz.func133 rfl rfl rfl rfl rfl ?_;(refine run ?_;repeat intro b);refine ez (decide (l.length=0)) ?_ (fun h=>?_) (fun h=>?_)
 ·refine dS ?_;rw[ai];simp
 ·have e:fp l=(5,0):=by unfold fp;rw[aZ (ar h)]
  (refine run ?_;repeat intro b);rw[e];rfl
 have h0: ¬l.length=0:=au h;(refine run ?_;repeat intro b);refine ez (decide (40<l.length)) ?_ (fun h=>?_) (fun h=>?_)
 ·refine dS ?_;rw[ai,av,av];omega
 ·have e:fp l=(2,0):=by unfold fp;rw[aY h0,aZ (ar h)]
  (refine run ?_;repeat intro b);rw[e];rfl
 have h1: ¬40<l.length:=au h;have e:fp l=qy l:=by unfold fp;rw[aY h0,aY h1]
 (refine run ?_;repeat intro b);refine eU (fun k:Nat=>k≤l.length∧kb l 0=kb (l.drop k) k) (fun k=>⟨[(0,.v (.slice p l.length c)),(14,.v (.slice p l.length c)),(15,.v (i64 (l.length:Nat))),(16,.v (i64 (k:Nat)))],F,[],0⟩) (fun k=>l.length - k) 0 ⟨az _,rfl⟩ (VS.eH [0,14,15,16] rfl rfl) ?_;rintro k ⟨hk,hu⟩;by_cases hlt:k<l.length
 ·obtain⟨o1,o2⟩:=eZ eW (by decide) hf k hlt;rw[yJ hlt]at hu;generalize l[k]=x at hu o2;(refine run ?_;repeat intro b);refine gm rfl (by omega) ?_;(refine run ?_;repeat intro b);refine dI rfl rfl rfl ⟨by omega,by omega,dO hf (j:=k * 4) (by rw[dL eW];omega)⟩ ?_;refine fy x.row rfl rfl rfl rfl rfl (by rw[ae];exact o1) (by rw[ae];exact o2) ?_;(refine run ?_;repeat intro b);refine dG _ rfl rfl rfl I9 rfl (oE x F) ?_;(refine run ?_;repeat intro b);refine ez (decide (x.fault≠0)) ?_ (fun h=>?_) (fun h=>?_)
  ·refine dS ?_;rw[ai];simp
  ·rw[aY (ar h)]at hu;(refine run ?_;repeat intro b);rw[e,pZ hu];rfl
  rw[aZ (by simpa using h)]at hu;(refine run ?_;repeat intro b);rw[dQ (by omega)];exact iH (k+1) [0] [0,14,15,16] ⟨hlt,hu⟩ (by omega) rfl rfl rfl rfl trivial rfl
 have hge:k=l.length:=by omega
 subst hge;rw[bZ]at hu;have hv:=pV hu;(refine run ?_;repeat intro b);refine gu rfl (by omega) ?_;(refine run ?_;repeat intro b);refine eU (fun k:Nat=>(k=0∨k+1≤l.length)∧sZ l 1=sZ (l.drop k) (k+1)) (fun k=>⟨[(0,.v (.slice p l.length c)),(7,.v (i64 ((k+1:Nat):Nat)))],F,[],0⟩) (fun k=>l.length - k) 0 ⟨.inl rfl,rfl⟩ (VS.eH [0,7] rfl rfl) ?_;rintro k ⟨hk,hu2⟩;by_cases hlt:k+1<l.length
 ·have KZ:k<l.length:=by omega
  obtain⟨o1,o2⟩:=eZ eW (by decide) hf k KZ;obtain⟨o3,o4⟩:=eZ eW (by decide) hf (k+1) hlt;rw[ET hlt]at hu2;have w1:=hw l[k] (aj KZ);have w2:=hw l[k+1] (aj hlt);generalize l[k]=a at hu2 o2 w1;generalize l[k+1]=y at hu2 o4 w2;clear hw hv;have e1:IntKind.i64.wrap (((k+1:Nat):Int) - 1)=((k:Nat):Int):=by rw[wrap_i64 (by omega) (by omega)];omega
  (refine run ?_;repeat intro b);refine gm rfl (by omega) ?_;(refine run ?_;repeat intro b);refine fM (by kernel_rfl) ?_;(refine run ?_;repeat intro b);rw[e1];refine dI rfl rfl rfl ⟨by omega,by omega,dO hf (j:=k * 4) (by rw[dL eW];omega)⟩ ?_;refine fy a.row rfl rfl rfl rfl rfl (by rw[ae];exact o1) (by rw[ae];exact o2) ?_;(refine run ?_;repeat intro b);refine dI rfl rfl rfl ⟨by omega,by omega,dO hf (j:=(k+1) * 4) (by rw[dL eW];omega)⟩ ?_;refine fy y.row rfl rfl rfl rfl rfl (by rw[ae];exact o3) (by rw[ae];exact o4) ?_;(refine run ?_;repeat intro b);refine dG _ rfl rfl rfl QV rfl (D4 a y w1 w2 F) ?_;(refine run ?_;repeat intro b);refine ez (!ji a y) rfl (fun h=>?_) (fun h=>?_)
  ·have h1: ¬ji a y=true:=by simpa using h
   rw[aY h1]at hu2;(refine run ?_;repeat intro b);rw[e,qg hu hu2];rfl
  have h1:ji a y=true:=by simpa using h
  rw[aZ h1]at hu2;(refine run ?_;repeat intro b);rw[dQ (by omega)];exact fj (k+1) ⟨.inr (by omega),hu2⟩ (by omega) (VS.eH [0,7] rfl rfl)
 have hge:l.length≤k+1:=by omega
 rw[IJ hge]at hu2;(refine run ?_;repeat intro b);refine gu rfl (by omega) ?_;(refine run ?_;repeat intro b);rw[e,nD hu hu2];rfl
set_option maxHeartbeats 4000000 in
theorem JU (l:List Head)(n:Int)(hl:l.length≤4611686018427387904){p:Option Addr}{c:Nat}{F:Hp}(hf:eY F p (l.flatMap Head.row)):Plain Tryz.prog F 135 [.slice p l.length c,i64 n] (pair (qO (jL l n)).v (.bool (jL l n).isSome)):=by
 refine dN (N:=21) (rv:=[.cell 4 41,.tmp 5]) eP mixed Tryz.func135 rfl rfl rfl rfl rfl ?_;(refine run ?_;repeat intro b);refine eU (fun k:Nat=>k≤l.length∧jL l n=jL (l.drop k) n) (fun k=>⟨[(1,.v (i64 n)),(4,.loc 0 0),(8,.v (.slice p l.length c)),(9,.v (i64 (l.length:Nat))),(10,.v (i64 (k:Nat)))],F,[(0,⟨some b,[.v (i64 0),.v (u64 0),.v (u64 0),.v (i64 0)],41,4⟩)],1⟩) (fun k=>l.length - k) 0 ⟨az _,rfl⟩ (VS.eH [1,4,8,9,10] rfl rfl) ?_;rintro k ⟨hk,hu⟩;by_cases hlt:k<l.length
 ·obtain⟨o1,o2⟩:=eZ eW (by decide) hf k hlt;have hd:jL (l.drop k) n=if l[k].dW=n then some l[k] else jL (l.drop (k+1)) n:=by
   rw[aO hlt];unfold jL;rw[List.find?_cons];by_cases h:l[k].dW=n<;>simp[h]
  rw[hd]at hu;generalize l[k]=x at hu o2;(refine run ?_;repeat intro b);refine gm rfl (by omega) ?_;(refine run ?_;repeat intro b);refine dI rfl rfl rfl ⟨by omega,by omega,dO hf (j:=k * 4) (by rw[dL eW];omega)⟩ ?_;refine fy x.row rfl rfl rfl rfl rfl (by rw[ae];exact o1) (by rw[ae];exact o2) ?_;(refine run ?_;repeat intro b);refine ez (decide (x.dW=n)) ?_ (fun h=>?_) (fun h=>?_)
  ·refine dS ?_;rw[ai];simp
  ·rw[aZ (ar h)]at hu;(refine run ?_;repeat intro b);rw[hu];rfl
  rw[aY (au h)]at hu;(refine run ?_;repeat intro b);rw[dQ (by omega)];exact iH (k+1) [1] [1,4,8,9,10] ⟨hlt,hu⟩ (by omega) rfl rfl rfl rfl ⟨⟨Nat.zero_lt_one,by intro e he;simp only[aT,cZ,dE]at he;rcases he with rfl | rfl | rfl | rfl<;>trivial⟩,trivial⟩ rfl
 have hge:k=l.length:=by omega
 subst hge;rw[bZ]at hu;(refine run ?_;repeat intro b);refine gu rfl (by omega) ?_;(refine run ?_;repeat intro b);rw[hu];rfl
end
section
open Go.TR
abbrev SV:=Option Addr×List Head×Nat
@[reducible] def SV.v (s:SV):Value:=.slice s.1 s.2.1.length s.2.2
def qT:List SV→Int
 | []=>0
 | s::t=>if (fp s.2.1).1=0 then qT t else (fp s.2.1).1
theorem EL {l:List SV}{j:Nat}(hj:j<l.length):qT (l.drop j)=if (fp l[j].2.1).1=0 then qT (l.drop (j+1)) else (fp l[j].2.1).1:=by
 rw[aO hj];rfl
theorem GN (p:Option Addr)(l:List Head)(c:Nat):qT [(p,l,c)]=(fp l).1:=by
 unfold qT;split
 ·rename_i h;rw[h];rfl
 rfl
theorem rB (rs:RL)(h:Head):lj rs (h.row.map .v):=gy rs (by
 intro x hx;simp only[Head.row,aT,cZ,dE]at hx;rcases hx with rfl | rfl | rfl | rfl<;>rfl)
theorem vv (l:List Head)(a:Head):(l++[a]).flatMap Head.row=l.flatMap Head.row++a.row:=by simp
def fK (l:List Head):Head:=l.getLastD Head.none
def qI (l:List Head)(root:Nat)(at_:Int):Int:=if (fp l).1≠0 then (fp l).1 else if l.length=40 then 7 else (fK l).ku root at_
def tS (l:List Head)(root:Nat)(at_:Int):List Head:=if qI l root at_=0 then l++[((fK l).nc root at_).hU ((fK l).ku root at_)] else []
def pt (l:List Head)(from_ iM:Int):Int:=if (fp l).1≠0 then (fp l).1 else if from_>iM∨from_<(qO l.head?).dW∨iM>(fK l).dW then 4 else 0
def o9 (l:List Head)(from_ iM:Int):List Head:=if pt l from_ iM=0 then (l.take ((iM - (qO l.head?).dW+1).toNat)).drop ((from_ - (qO l.head?).dW).toNat) else []
def xI (h:Head)(l:List Head):Int:=if (fp l).1≠0 then (fp l).1 else h.fault
def y9 (h:Head)(l:List Head):Bool:=decide (xI h l=0)&&ji h (qO l.head?)
attribute [local irreducible] vc dT gx fc fA gC gG gw fG Plain eu eR dH VS fq fx fD ju fe IntKind.wrap
set_option maxRecDepth 100000
theorem s7 (cs:List Value)(n:Nat){p:Option Addr}{c:Nat}{F:Hp}(hl:cs.length=n * 4)(hf:eY F p cs)(h1: ∀x∈cs,Go.TR.one (.v x)=true)(hb:n * 32≤140737488355328):eu Tryz.prog F 58 [.slice p n c] (fun x _ new=>ml 41 4 cs n x new):=by
 refine fU (N:=8) (rv:=[.tmp 2]) eP mixed Tryz.func58 rfl rfl rfl rfl rfl ?_;(refine run ?_;repeat intro b);refine p9 (b:=p.isNone) eP rfl rfl rfl ?_;cases p with
 | none=>
  have hn:n=0:=by
   rcases dh n with h | h
   ·exact h
   have:=dO hf (j:=0) (by rw[hl];omega);cases this
  subst hn;(refine run ?_;repeat intro b);refine eM (VS.id ⟨_,rfl,.inl ⟨rfl,rfl,none,rfl⟩⟩)
 | some a=>
  (refine run ?_;repeat intro b);refine fv rfl rfl rfl rfl rfl rfl rfl rfl (iV hl hf) (gy _ h1) (fun h=>by cases h) (ah 0) rfl (az _) (by show (0+n) * 32≤_;omega) (fun hn=>?_) (fun hn b2 c2 hc2=>?_)
  ·subst hn;(refine run ?_;repeat intro b);refine eM ?_;refine VS.freeze 0 [2] rfl (cs:=[]) rfl rfl rfl fun F' hs1 hf1=>VS.id ⟨_,rfl,.inl ⟨rfl,rfl,_,rfl⟩⟩
  (refine run ?_;repeat intro b);simp only[aP]at hc2 ⊢;refine mI (qN.mM (nx':=1) [(1,0)] [2] [(0,⟨some b2,cs.map EV.v,41,c2 * 4⟩)] (ff ⟨_,rfl,rfl,rfl,rfl,.inl ⟨rfl,fun e he=>fw _ e he⟩⟩ trivial) rfl rfl rfl rfl rfl rfl ⟨_,rfl,.inr ⟨hn,b2,c2,hc2,rfl,rfl⟩⟩)
set_option maxHeartbeats 4000000 in
theorem Jl (ss:List SV)(hn:ss.length≤4611686018427387904){pp:Option Addr}{cc:Nat}{F:Hp}(hf:eY F pp (ss.map SV.v))(hs: ∀s∈ss,s.2.1.length≤4611686018427387904∧(∀x∈s.2.1,x.wf)∧eY F s.1 (s.2.1.flatMap Head.row)):Plain Tryz.prog F 55 [.slice pp ss.length cc] (i64 (qT ss)):=by
 refine dN (N:=22) (rv:=[.tmp 2]) eP mixed Tryz.func55 rfl rfl rfl rfl rfl ?_;(refine run ?_;repeat intro b);refine eU (fun k:Nat=>k≤ss.length∧qT ss=qT (ss.drop k)) (fun k=>⟨[(7,.v (.slice pp ss.length cc)),(8,.v (i64 (ss.length:Nat))),(9,.v (i64 (k:Nat)))],F,[],0⟩) (fun k=>ss.length - k) 0 ⟨az _,rfl⟩ (VS.eH [7,8,9] rfl rfl) ?_;rintro k ⟨hk,hu⟩;by_cases hlt:k<ss.length
 ·have g:=gQ hf (j:=k) (by rw[ab];exact hlt);rw[cD]at g;obtain⟨g1,g2,g3⟩:=hs ss[k] (aj hlt);rw[EL hlt]at hu;generalize ss[k]=s at hu g g1 g2 g3;obtain⟨ps,ls,cs⟩:=s;simp only at hu g g1 g2 g3;(refine run ?_;repeat intro b);refine gm rfl (by omega) ?_;(refine run ?_;repeat intro b);refine dI rfl rfl rfl ⟨by omega,by omega,dO hf (j:=k) (by rw[ab];exact hlt)⟩ ?_;refine fr (.slice ps ls.length cs) rfl rfl rfl rfl (by rw[ae,aA];exact g) ?_;(refine run ?_;repeat intro b);refine dG _ rfl rfl rfl Rq rfl (oO ls g1 g2 g3) ?_;(refine run ?_;repeat intro b);refine ez (decide ((fp ls).1≠0)) ?_ (fun h=>?_) (fun h=>?_)
  ·refine dS ?_;rw[ai];simp
  ·rw[aY (ar h)]at hu;(refine run ?_;repeat intro b);rw[hu];rfl
  rw[aZ (by simpa using h)]at hu;(refine run ?_;repeat intro b);rw[dQ (by omega)];exact fj (k+1) ⟨hlt,hu⟩ (by omega) (VS.eH [7,8,9] rfl rfl)
 have hge:k=ss.length:=by omega
 subst hge;rw[bZ]at hu;(refine run ?_;repeat intro b);refine gu rfl (by omega) ?_;(refine run ?_;repeat intro b);rw[hu];rfl
theorem vk (l:List Head)(hl:l.length≤4611686018427387904)(hw: ∀x∈l,x.wf){pp p:Option Addr}{cc c:Nat}{F:Hp}(hf:eY F pp [.slice p l.length c])(h1:eY F p (l.flatMap Head.row)):Plain Tryz.prog F 55 [.slice pp 1 cc] (i64 (fp l).1):=by
 have:=Jl [(p,l,c)] (by simp) (cc:=cc) hf (fun s hs=>by rw[aB.1 hs];exact⟨hl,hw,h1⟩);rw[GN]at this;exact this
set_option maxHeartbeats 4000000 in
theorem tV (l:List Head)(root:Nat)(at_:Int)(hl:l.length≤4611686018427387904)(hw: ∀x∈l,x.wf){p:Option Addr}{c:Nat}{F:Hp}(hf:eY F p (l.flatMap Head.row)):iu Tryz.prog F 46 [.slice p l.length c,u64 root,i64 at_] (fun x F'=>∃p' c',x=pair (.slice p' (tS l root at_).length c') (i64 (qI l root at_))∧(tS l root at_).length≤c'∧eY F' p' ((tS l root at_).flatMap Head.row)):=by
 refine eu.drop ?_;refine fU (N:=41) (rv:=[.tmp 6,.tmp 7]) eP mixed Tryz.func46 rfl rfl rfl rfl rfl ?_;have hE: ∀e,e≠0→qI l root at_=e→tS l root at_=[]:=fun e he h=>by unfold tS;rw[h,aY he]
 (refine run ?_;repeat intro b);refine fT (VS.freeze 0 [0,1,2,11] rfl rfl rfl rfl fun F1 hs1 hf1=>VS.id ?_);refine dG _ rfl rfl rfl RU rfl (vk l hl hw hf1 (dZ hs1 hf)) ?_;(refine run ?_;repeat intro b);refine ez (decide ((fp l).1≠0)) ?_ (fun h=>?_) (fun h=>?_)
 ·refine dS ?_;rw[ai];simp
 ·have h0:=ar h;have e1:qI l root at_=(fp l).1:=by unfold qI;rw[aZ h0]
  rw[hE _ h0 e1,e1];(refine run ?_;repeat intro b);exact eM (VS.id ⟨_,rfl,none,0,rfl,ah _,eG _ _⟩)
 have h0:(fp l).1=0:=by simpa using h
 obtain⟨z1,z2,z3,z4,z5⟩:=iL h0;(refine run ?_;repeat intro b);refine ez (decide (l.length=40)) ?_ (fun h=>?_) (fun h=>?_)
 ·refine dS ?_;rw[ai,av,beq_iff_eq];omega
 ·have e1:qI l root at_=7:=by unfold qI;rw[aY (by simpa using h0),aZ (ar h)]
  rw[hE _ (by decide) e1,e1];(refine run ?_;repeat intro b);exact eM (VS.id ⟨_,rfl,none,0,rfl,ah _,eG _ _⟩)
 have h1: ¬l.length=40:=au h;have e1:qI l root at_=(fK l).ku root at_:=by unfold qI;rw[aY (by simpa using h0),aY h1]
 have hlt:l.length - 1<l.length:=by omega
 obtain⟨o1,o2⟩:=eZ eW (by decide) (dZ hs1 hf) (l.length - 1) hlt;have hla:l[l.length - 1]=fK l:=by
  unfold fK;rw[List.getLastD_eq_getLast?,List.getLast?_eq_getElem?,ao hlt];rfl
 have wla:=hw _ (aj hlt);rw[hla]at o2 wla;have ew:IntKind.i64.wrap (((l.length:Nat):Int) - 1)=((l.length - 1:Nat):Int):=by rw[wrap_i64 (by omega) (by omega)];omega
 (refine run ?_;repeat intro b);rw[ew];refine dI rfl rfl rfl ⟨by omega,by omega,dO hf (j:=(l.length - 1) * 4) (by rw[dL eW];omega)⟩ ?_;refine fy (fK l).row rfl rfl rfl rfl rfl (by rw[ae];exact o1) (by rw[ae];exact o2) ?_;(refine run ?_;repeat intro b);refine dG _ rfl rfl rfl Vx rfl (wG (fK l) wla root at_ F1) ?_;(refine run ?_;repeat intro b);refine ez (decide ((fK l).ku root at_≠0)) ?_ (fun h=>?_) (fun h=>?_)
 ·refine dS ?_;rw[ai];simp
 ·have h2:=ar h;rw[hE _ h2 e1,e1];(refine run ?_;repeat intro b);exact eM (VS.id ⟨_,rfl,none,0,rfl,ah _,eG _ _⟩)
 have h2:(fK l).ku root at_=0:=by simpa using h
 rw[h2]at e1;have e2:tS l root at_=l++[((fK l).nc root at_).hU ((fK l).ku root at_)]:=by unfold tS;rw[aZ e1]
 rw[e1,e2];generalize ((fK l).nc root at_).hU ((fK l).ku root at_)=nx;have hcl:=s7 (l.flatMap Head.row) l.length (dL eW _) (dZ hs1 hf) (oY _) (c:=c) (by omega);(refine run ?_;repeat intro b);refine fz [1] (by kernel_rfl) ?_;refine dR [0,2] (f':=5) (by kernel_rfl) rfl rfl rfl ?_;(refine run ?_;repeat intro b);refine jC 1 3 (by kernel_rfl) rfl rfl rfl ?_ ?_
 ·refine nA (R:=fun _ cs=>cs=l.flatMap Head.row) (fun x F' new h=>⟨_,h,rfl⟩) rfl rfl rfl Ms rfl hcl (fun hk0 F2 p1 cs hF2 hcs=>by omega) (fun hk1 F2 b1 c1 cs hF2 hc1 hcs=>?_);(refine run ?_;repeat intro b);refine eC hF2 (dM rfl) ?_;refine dY 3 (by kernel_rfl) rfl rfl ?_;(refine run ?_;repeat intro b);(refine run ?_;repeat intro b);refine eC (Hp.sub.refl _) (dM rfl) ?_;refine dY 4 (by kernel_rfl) rfl rfl ?_;subst hcs;refine fv rfl rfl rfl rfl rfl rfl rfl rfl (fb rfl rfl) (rB _ _) (fun h=>by cases h) hc1 rfl (by rw[ab,dL eW];exact ah _) (by show _ * 32≤_;omega) (fun h=>by cases h) (fun _ b2 c2 hc2=>?_);(refine run ?_;repeat intro b);refine eC (Hp.sub.refl _) (dM rfl) ?_;refine dR [5,6] (f':=0) (by kernel_rfl) rfl rfl rfl ?_;(refine run ?_;repeat intro b);refine fk (by kernel_rfl) ?_;(refine run ?_;repeat intro b);refine eM ?_;have hcells:((l.flatMap Head.row).map EV.v).take (l.length * 4)++nx.row.map EV.v=((l++[nx]).flatMap Head.row).map EV.v:=by
   rw[vv,aF,an (by rw[ab,dL eW];exact ah _)]
  refine VS.freeze 4 [6,7] rfl ((a8 (iU _) hcells).trans (eD _)) rfl rfl fun F' hs1 hf1=>VS.id ⟨_,rfl,some ⟨b2,0,none⟩,c2,by rw[ag];rfl,by rw[ag];exact hc2,hf1⟩
 (refine run ?_;repeat intro b);(refine run ?_;repeat intro b);refine eC (Hp.sub.refl _) (dM rfl) ?_;refine dY 1 (by kernel_rfl) rfl rfl ?_;refine nA (R:=fun _ cs=>cs=l.flatMap Head.row) (fun x F' new h=>⟨_,h,rfl⟩) rfl rfl rfl Ms rfl hcl (fun hk0 F2 p1 cs hF2 hcs=>by omega) (fun hk1 F2 b1 c1 cs hF2 hc1 hcs=>?_);(refine run ?_;repeat intro b);refine eC hF2 (dM rfl) ?_;refine dY 4 (by kernel_rfl) rfl rfl ?_;subst hcs;refine fv rfl rfl rfl rfl rfl rfl rfl rfl (fb rfl rfl) (rB _ _) (fun h=>by cases h) hc1 rfl (by rw[ab,dL eW];exact ah _) (by show _ * 32≤_;omega) (fun h=>by cases h) (fun _ b2 c2 hc2=>?_);(refine run ?_;repeat intro b);refine eC (Hp.sub.refl _) (dM rfl) ?_;refine dR [5,6] (f':=0) (by kernel_rfl) rfl rfl rfl ?_;(refine run ?_;repeat intro b);refine fk (by kernel_rfl) ?_;(refine run ?_;repeat intro b);refine eM ?_;have hcells:((l.flatMap Head.row).map EV.v).take (l.length * 4)++nx.row.map EV.v=((l++[nx]).flatMap Head.row).map EV.v:=by
  rw[vv,aF,an (by rw[ab,dL eW];exact ah _)]
 refine VS.freeze 4 [6,7] rfl ((a8 (iU _) hcells).trans (eD _)) rfl rfl fun F' hs1 hf1=>VS.id ⟨_,rfl,some ⟨b2,0,none⟩,c2,by rw[ag];rfl,by rw[ag];exact hc2,hf1⟩
theorem EB (l:List Head)(n:Nat){p:Option Addr}{c:Nat}{F:Hp}(hn:n=l.length)(hf:eY F p (l.flatMap Head.row))(hb:n≤1000000000000):iu Tryz.prog F 58 [.slice p n c] (fun x F'=>∃p c,x= .slice p n c∧n≤c∧eY F' p (l.flatMap Head.row)):=
 eu.MH (fun h=>by rw[aq (by omega:l.length=0)];rfl) (s7 (l.flatMap Head.row) n (by rw[dL eW,hn]) hf (oY _) (by omega))
theorem uE {l:List Head}(h:0<l.length):qO l.head? =l[0]:=by
 cases l with
 | nil=>simp at h
 | cons a l=>rfl
theorem uB {l:List Head}(h:0<l.length):l[l.length - 1]=fK l:=by
 unfold fK;rw[List.getLastD_eq_getLast?,List.getLast?_eq_getElem?,ao (by omega)];rfl
set_option maxHeartbeats 4000000 in
theorem Dn (l:List Head)(from_ iM:Int)(hl:l.length≤4611686018427387904)(hw: ∀x∈l,x.wf){p:Option Addr}{c:Nat}{F:Hp}(hc:l.length≤c)(hf:eY F p (l.flatMap Head.row)):iu Tryz.prog F 20 [.slice p l.length c,i64 from_,i64 iM] (fun x F'=>∃p' c',x=pair (.slice p' (o9 l from_ iM).length c') (i64 (pt l from_ iM))∧(o9 l from_ iM).length≤c'∧eY F' p' ((o9 l from_ iM).flatMap Head.row)):=by
 refine eu.drop ?_;refine fU (N:=51) (rv:=[.tmp 6,.tmp 7]) eP mixed Tryz.func20 rfl rfl rfl rfl rfl ?_;have hE: ∀e,e≠0→pt l from_ iM=e→o9 l from_ iM=[]:=fun e he h=>by unfold o9;rw[h,aY he]
 (refine run ?_;repeat intro b);refine fT (VS.freeze 0 [0,1,2,12] rfl rfl rfl rfl fun F1 hs1 hf1=>VS.id ?_);refine dG _ rfl rfl rfl RU rfl (vk l hl hw hf1 (dZ hs1 hf)) ?_;(refine run ?_;repeat intro b);refine ez (decide ((fp l).1≠0)) ?_ (fun h=>?_) (fun h=>?_)
 ·refine dS ?_;rw[ai];simp
 ·have h0:=ar h;have e1:pt l from_ iM=(fp l).1:=by unfold pt;rw[aZ h0]
  rw[hE _ h0 e1,e1];(refine run ?_;repeat intro b);exact eM (VS.id ⟨_,rfl,none,0,rfl,ah _,eG _ _⟩)
 have h0:(fp l).1=0:=by simpa using h
 obtain⟨z1,z2,z3,z4,z5⟩:=iL h0;have hf':=dZ hs1 hf;obtain⟨o1,o2⟩:=eZ eW (by decide) hf' 0 z1;obtain⟨o3,o4⟩:=eZ eW (by decide) hf' (l.length - 1) (by omega);have ue:=sq z4 (l.length - 1) (by omega);have v1:=Head.uO (z3 _ (aj z1));have v2:=Head.uO (z3 _ (aj (show l.length - 1<l.length by omega)));have hla:=uB z1;rw[hla]at o4 ue v2;rw[←uE z1]at o2 ue v1;have ew:IntKind.i64.wrap (((l.length:Nat):Int) - 1)=((l.length - 1:Nat):Int):=by rw[wrap_i64 (by omega) (by omega)];omega
 have hP:pt l from_ iM=if from_>iM∨from_<(qO l.head?).dW∨iM>(fK l).dW then 4 else 0:=by unfold pt;rw[aY (by simpa using h0)]
 have hPL:pt l from_ iM=0→o9 l from_ iM=(l.take ((iM - (qO l.head?).dW+1).toNat)).drop ((from_ - (qO l.head?).dW).toNat):=fun h=>by unfold o9;rw[aZ h]
 generalize qO l.head? =x at o2 ue v1 hP hPL;generalize fK l=y at o4 ue v2 hP;(refine run ?_;repeat intro b);refine fM (by kernel_rfl) ?_;(refine run ?_;repeat intro b);refine dI rfl rfl rfl ⟨by omega,by omega,dO hf (j:=0 * 4) (by rw[dL eW];omega)⟩ ?_;(refine run ?_;repeat intro b);refine dI rfl rfl rfl o1 ?_;refine fr (i64 x.dW) rfl rfl rfl rfl (o2 0 (by decide)) ?_;(refine run ?_;repeat intro b);rw[ew];refine dI rfl rfl rfl ⟨by omega,by omega,dO hf (j:=(l.length - 1) * 4) (by rw[dL eW];omega)⟩ ?_;(refine run ?_;repeat intro b);refine dI rfl rfl rfl (by rw[ae];exact o3) ?_;refine fr (i64 y.dW) rfl rfl rfl rfl (by rw[ae];exact o4 0 (by decide)) ?_;(refine run ?_;repeat intro b);refine ez (decide (from_>iM∨from_<x.dW∨iM>y.dW)) ?_ (fun h=>?_) (fun h=>?_)
 ·refine dS ?_;rw[fu,fu,Bool.decide_or,Bool.decide_or,Bool.or_assoc]
 ·rw[aZ (ar h)]at hP;rw[hE _ (by decide) hP,hP];(refine run ?_;repeat intro b);exact eM (VS.id ⟨_,rfl,none,0,rfl,ah _,eG _ _⟩)
 have h1:=au h;rw[aY h1]at hP;have WE:=hPL hP;obtain⟨m,hm⟩: ∃m:Nat,m=(from_ - x.dW).toNat:=⟨_,rfl⟩;obtain⟨k,hk⟩: ∃k:Nat,k=(iM - x.dW+1).toNat:=⟨_,rfl⟩;have em:IntKind.i64.wrap (from_ - x.dW)=(m:Int):=by rw[wrap_i64 (by omega) (by omega)];omega
 have ek:IntKind.i64.wrap (IntKind.i64.wrap (iM - x.dW)+1)=(k:Int):=by rw[wrap_i64 (n:=iM - x.dW) (by omega) (by omega),wrap_i64 (by omega) (by omega)];omega
 have hkl:k≤l.length:=by omega
 have hmk:m≤k:=by omega
 rw[←hm,←hk]at WE;have hlen:((l.take k).drop m).length=k - m:=by rw[aR,aw];omega
 have f1:=mn eW (nK eW hf' k) m c (by rw[aw];omega) (by rw[aw];omega);rw[hP,WE];(refine run ?_;repeat intro b);rw[em,ek];refine dI rfl rfl rfl ⟨by omega,by omega,by omega⟩ ?_;rw[ae,ae];(refine run ?_;repeat intro b);refine fi rfl rfl rfl Ms rfl (EB ((l.take k).drop m) (k - m) hlen.symm f1 (by omega)) ?_;rintro _ F2 hF2 ⟨pa,ca,rfl,Su,hfa⟩;(refine run ?_;repeat intro b);exact eM (VS.id ⟨_,rfl,pa,ca,by rw[hlen];rfl,by rw[hlen];exact Su,hfa⟩)
theorem LF (a b:Head):decide (CP [a,b]<0)=ji a b:=by
 unfold CP sZ sZ;cases h:ji a b<;>simp
set_option maxHeartbeats 4000000 in
theorem BX (h0:Head)(l:List Head)(h0w:h0.wf)(hl:l.length≤4611686018427387904)(hw: ∀x∈l,x.wf){p:Option Addr}{c:Nat}{F:Hp}(hf:eY F p (l.flatMap Head.row)):Plain Tryz.prog F 317 [h0.v,.slice p l.length c] (pair (.bool (y9 h0 l)) (i64 (xI h0 l))):=by
 refine dN (N:=24) (rv:=[.tmp 4,.tmp 5]) eP mixed Tryz.func317 rfl rfl rfl rfl rfl ?_;(refine run ?_;repeat intro b);refine fT (VS.freeze 1 [1,2,8] rfl rfl rfl rfl fun F1 hs1 hf1=>VS.id ?_);refine dG _ rfl rfl rfl RU rfl (vk l hl hw hf1 (dZ hs1 hf)) ?_;(refine run ?_;repeat intro b);by_cases hz:(fp l).1=0
 ·obtain⟨z1,z2,z3,z4,z5⟩:=iL hz;have hf':=dZ hs1 hf;obtain⟨o1,o2⟩:=eZ eW (by decide) hf' 0 z1;have wl:=hw _ (aj z1);have vl:=z3 _ (aj z1);rw[←uE z1]at o2 wl vl;have hE:xI h0 l=h0.fault:=by unfold xI;rw[aY (by simpa using hz)]
  have hB:y9 h0 l=(decide (h0.fault=0)&&ji h0 (qO l.head?)):=by unfold y9;rw[hE]
  rw[hE,hB,hz];generalize qO l.head? =y at o2 wl vl;(refine run ?_;repeat intro b);refine dG _ rfl rfl rfl Gq rfl (kC h0 F1) ?_;(refine run ?_;repeat intro b);refine ez (decide (h0.fault≠0)) ?_ (fun h=>?_) (fun h=>?_)
  ·refine dS ?_;rw[ai];simp
  ·have h1:=ar h;rw[aX h1];(refine run ?_;repeat intro b);rfl
  have h1:h0.fault=0:=by simpa using h
  rw[aW h1,h1];(refine run ?_;repeat intro b);refine fz [0] (by kernel_rfl) ?_;refine dR [0,1,2,3] (f':=5) (by kernel_rfl) rfl rfl rfl ?_;(refine run ?_;repeat intro b);refine dI rfl rfl rfl ⟨by omega,by omega,dO hf (j:=0 * 4) (by rw[dL eW];omega)⟩ ?_;refine fy y.row rfl rfl rfl rfl rfl o1 o2 ?_;(refine run ?_;repeat intro b);refine dY 4 (by kernel_rfl) rfl rfl ?_;(refine run ?_;repeat intro b);(refine run ?_;repeat intro b);refine eC (Hp.sub.refl _) (dM rfl) ?_;refine dY 5 (by kernel_rfl) rfl rfl ?_;refine fT (VS.freeze 2 [1,2,21] rfl rfl rfl rfl fun F2 hs2 hf2=>VS.id ?_);refine dG _ rfl rfl rfl QR rfl (Bt [h0,y] (by show 2≤_;omega) (fun x hx=>?_) (fun x hx=>?_) hf2) ?_
  ·simp only[aT,cZ,dE]at hx;rcases hx with rfl | rfl
   ·exact h0w
   exact wl
  ·simp only[aT,cZ,dE]at hx;rcases hx with rfl | rfl
   ·exact h1
   exact vl
  (refine run ?_;repeat intro b);(refine run ?_;repeat intro b);refine eC hs2 (dM rfl) ?_;refine dR [6,7,8] (f':=0) (by kernel_rfl) rfl rfl rfl ?_;(refine run ?_;repeat intro b);refine fk (by kernel_rfl) ?_;(refine run ?_;repeat intro b);rw[LF];rfl
 have hE:xI h0 l=(fp l).1:=by unfold xI;rw[aZ hz]
 have hB:y9 h0 l=false:=by unfold y9;rw[hE,aX hz];rfl
 rw[hE,hB];generalize (fp l).1=e at hz;refine ez false ?_ (fun h=>by cases h) (fun _=>?_)
 ·refine dS ?_;rw[dA];exact hz
 (refine run ?_;repeat intro b);refine ez true ?_ (fun _=>?_) (fun h=>by cases h)
 ·refine dS ?_;rw[bne_iff_ne];exact hz
 (refine run ?_;repeat intro b);rfl
end
end Go.Proofs.YthbnddgjkonkdaaGreatDoor
