/- A part of the proof. -/
import Derived.Test.YthbnddgjkonkdaaGreatDoorSetClerk3
set_option linter.unusedVariables false
set_option linter.unusedSimpArgs false
namespace Go.Proofs.YthbnddgjkonkdaaGreatDoor
open Go.TR
theorem tA {c:eI}{a:Ask}(h0:gh c=0):oA c a=if eR a.name a.value≠0 then eR a.name a.value else if gu c=true then 9 else if (c.queue.wait.length:Int)=c.queue.most∨24<jI c [a.name] then 7 else 0:=by
 unfold oA;rw[aY (by rw[h0];decide)]
theorem mz {c:eI}{a:Ask}(h:oA c a≠0):jm c a=eI.none∧pc c a=0:=by
 unfold jm pc;rw[aY h,aY h];exact⟨rfl,rfl⟩
theorem pF {c:eI}{a:Ask}(h:oA c a=0):jm c a={ c with queue:=⟨c.queue.most,c.queue.wait++[a]⟩ }∧pc c a=c.now - c.now % c.every+((c.queue.wait.length:Int) / c.batch+1) * c.every:=by
 unfold jm pc;rw[aZ h,aZ h];exact⟨rfl,rfl⟩
theorem CS (n v:List UInt8):eR n v=0∨eR n v=2∨eR n v=3:=by
 unfold eR;split
 ·split
  ·exact .inr (.inl rfl)
  exact .inl rfl
 exact .inr (.inr rfl)
theorem qY {a b:Int}(h:0≤a):a.tmod b=a % b:=Int.tmod_eq_emod_of_nonneg h
theorem sI:dY []=0:=by unfold dY;rfl
attribute [local irreducible] vc dW gz fg fD gF gJ gB fJ Plain eD eX dK VS fv fA fG jt fh IntKind.wrap
attribute [local irreducible] dY gN iu gK fL gh fj fu jG jI eR gu
set_option maxRecDepth 100000
set_option maxHeartbeats 4000000
theorem wT (c:eI)(l:ji)(x:Ask)(hw:c.wf)(hx:x.wf){F:Hp}(ha:c.at F l):iy Tryz.prog F 10 [c.v l,x.v] (fun y F'=>∃l',y=triple ((jm c x).v l') (i64 (pc c x)) (i64 (oA c x))∧(jm c x).at F' l'):=by
 refine eD.drop (fW (N:=76) (rv:=[.cell 4 28,.tmp 5,.tmp 6]) eW mixed Tryz.func10 rfl rfl rfl rfl rfl ?_);(refine run ?_;repeat intro b);refine dJ _ rfl rfl rfl OI rfl (m0 c l hw ha) ?_;(refine run ?_;repeat intro b);refine eE (decide (gh c≠0)) ?_ (fun h0=>?_) (fun h0=>?_)
 ·refine dV ?_;rw[ai];simp
 ·have h0:=ar h0;have e:oA c x=gh c:=by unfold oA;rw[aZ h0]
  obtain⟨e1,e2⟩:=mz (c:=c) (a:=x) (by rw[e];exact h0);rw[e,e1,e2];(refine run ?_;repeat intro b);exact eU (VS.id ⟨_,rfl,ji.nil,rfl,eI.kH _⟩)
 have h0:gh c=0:=by have:=au h0;omega
 have hG:=nh h0;have hS:=hG.small;obtain⟨q1,q2,q3,_⟩:=lf hG.queue;obtain⟨t1,t2,t3,t4,t5,t6⟩:=hG.times;have hlen:=hG.lens;have hsp:=tA (a:=x) h0;have hqe:oL c.queue x=if eR x.name x.value=0 then (if (c.queue.wait.length:Int)=c.queue.most then 7 else 0) else eR x.name x.value:=by unfold oL;rw[aZ hG.queue]
 (refine run ?_;repeat intro b);refine fm rfl rfl rfl XF rfl (Fv c.queue x hw.queue hx ha.w) ?_;rintro _ F1 hF1 ⟨pq,cq,rfl,hq,hcq⟩;rcases CS x.name x.value with f0 | f0
 ·rw[f0,aY (by decide)]at hsp;rw[aZ f0]at hqe;by_cases hfull:(c.queue.wait.length:Int)=c.queue.most
  ·rw[aZ hfull]at hqe;rw[aZ (Or.inl hfull)]at hsp;rw[hqe];(refine run ?_;repeat intro b);refine dJ _ rfl rfl rfl Sh rfl (vR c l F1) ?_;(refine run ?_;repeat intro b);refine eE (gu c) rfl (fun h1=>?_) (fun h1=>?_)
   ·rw[aZ h1]at hsp;obtain⟨e1,e2⟩:=mz (c:=c) (a:=x) (by rw[hsp];decide);rw[hsp,e1,e2];(refine run ?_;repeat intro b);exact eU (VS.id ⟨_,rfl,ji.nil,rfl,eI.kH _⟩)
   rw[aY (by rw[h1];decide)]at hsp;obtain⟨e1,e2⟩:=mz (c:=c) (a:=x) (by rw[hsp];decide);rw[hsp,e1,e2];(refine run ?_;repeat intro b);exact eU (VS.id ⟨_,rfl,ji.nil,rfl,eI.kH _⟩)
  rw[aY hfull]at hqe;have eQ:sL c.queue x=⟨c.queue.most,c.queue.wait++[x]⟩:=by unfold sL;rw[aZ hqe]
  have eK:yF c.queue x=(c.queue.wait.length:Int):=by unfold yF;rw[aZ hqe]
  rw[hqe,eQ,eK];rw[eQ]at hq hcq;(refine run ?_;repeat intro b);refine dJ _ rfl rfl rfl Sh rfl (vR c l F1) ?_;(refine run ?_;repeat intro b);refine eE (gu c) rfl (fun h1=>?_) (fun h1=>?_)
  ·rw[aZ h1]at hsp;obtain⟨e1,e2⟩:=mz (c:=c) (a:=x) (by rw[hsp];decide);rw[hsp,e1,e2];(refine run ?_;repeat intro b);exact eU (VS.id ⟨_,rfl,ji.nil,rfl,eI.kH _⟩)
  rw[aY (by rw[h1];decide)]at hsp;(refine run ?_;repeat intro b);refine fX (VS.freeze 4 [2,3,4,8,9,10,43,44,47] rfl rfl rfl rfl fun F2 hs2 hf2=>VS.id ?_);have hF2:=hF1.trans hs2;(refine run ?_;repeat intro b);refine dJ _ rfl rfl rfl UI rfl (ED c l [x.name] hw hS (by omega) (ah 1) (fun s hs=>by rw[aB.1 hs];exact hx.name) (eI.e8 hF2 ha) hf2) ?_;(refine run ?_;repeat intro b);refine eE (decide (24<jI c [x.name])) ?_ (fun h2=>?_) (fun h2=>?_)
  ·refine dV ?_;rw[aV];omega
  ·rw[aZ (Or.inr (ar h2))]at hsp;obtain⟨e1,e2⟩:=mz (c:=c) (a:=x) (by rw[hsp];decide);rw[hsp,e1,e2];(refine run ?_;repeat intro b);exact eU (VS.id ⟨_,rfl,ji.nil,rfl,eI.kH _⟩)
  have h2:=au h2;rw[aY (by omega)]at hsp;obtain⟨e1,e2⟩:=pF (c:=c) (a:=x) hsp;rw[hsp,e1,e2];(refine run ?_;repeat intro b);refine fm rfl rfl rfl Tv rfl (xX c l hw hS (eI.e8 hF2 ha)) ?_;rintro _ F3 FX ⟨l',rfl,ha',aao⟩;(refine run ?_;repeat intro b);refine dJ _ rfl rfl rfl XP rfl (Cq (c.queue.wait.length:Int) c.batch c.every F3) ?_;have hwb:qo (c.queue.wait.length:Int) c.batch c.every=false:=by
   unfold qo;simp only[aQ,aU];omega
  have hwe:ym (c.queue.wait.length:Int) c.batch c.every=0:=by unfold ym;rw[hwb];rfl
  have hwn:zq (c.queue.wait.length:Int) c.batch c.every=((c.queue.wait.length:Int) / c.batch+1) * c.every:=by unfold zq;rw[hwb];rfl
  have hd1:0≤(c.queue.wait.length:Int) / c.batch:=Int.ediv_nonneg (by omega) (by omega);have hd2:(c.queue.wait.length:Int) / c.batch≤30:=Int.le_trans (Int.ediv_le_self _ (by omega)) (by omega);have hm1:0≤((c.queue.wait.length:Int) / c.batch+1) * c.every:=Int.mul_nonneg (by omega) (by omega);have hm2:((c.queue.wait.length:Int) / c.batch+1) * c.every≤31 * 1000:=Int.mul_le_mul (by omega) t4 (by omega) (by omega);have hr1:=Int.emod_nonneg c.now (by omega:c.every≠0);have hr2:=Int.emod_lt_of_pos c.now (by omega:0<c.every);rw[hwe,hwn];generalize ((c.queue.wait.length:Int) / c.batch+1) * c.every=W at *;(refine run ?_;repeat intro b);refine fC [0] (by kernel_rfl) ?_;refine dU [0,1,2,3,4,5,6,7,8,9,10] (f':=3) (by kernel_rfl) rfl rfl rfl ?_;(refine run ?_;repeat intro b);refine dL rfl rfl rfl (by omega) ?_;rw[qY t5];(refine run ?_;repeat intro b);rw[wrap_i64 (n:=c.now - c.now % c.every) (by omega) (by omega),wrap_i64 (n:=c.now - c.now % c.every+W) (by omega) (by omega)];(refine run ?_;repeat intro b);refine ee 11 (by kernel_rfl) rfl rfl ?_;(refine run ?_;repeat intro b);refine eG (Hp.sub.refl _) (dP rfl) ?_;refine dU [12,13] (f':=0) (by kernel_rfl) rfl rfl rfl ?_;(refine run ?_;repeat intro b);refine fq (by kernel_rfl) ?_;(refine run ?_;repeat intro b);exact eU (VS.id ⟨_,rfl,⟨pq,cq,l'.h,l'.ch,l'.b,l'.cb⟩,rfl,eu (hs2.trans FX) hq,hcq,ha'.h,ha'.ch,ha'.cb,ha'.b⟩)
 have hne:eR x.name x.value≠0:=by omega
 rw[aZ hne]at hsp;rw[aY hne]at hqe;obtain⟨e1,e2⟩:=mz (c:=c) (a:=x) (by rw[hsp];exact hne);rw[hqe,hsp,e1,e2];rcases f0 with f0 | f0
 ·rw[f0];(refine run ?_;repeat intro b);exact eU (VS.id ⟨_,rfl,ji.nil,rfl,eI.kH _⟩)
 rw[f0];(refine run ?_;repeat intro b);exact eU (VS.id ⟨_,rfl,ji.nil,rfl,eI.kH _⟩)
theorem CZ (c:eI)(l:ji)(n:Int)(hw:c.wf)(hn: -9223372036854775808≤n∧n≤9223372036854775807){F:Hp}(ha:c.at F l):iy Tryz.prog F 47 [c.v l,i64 n] (fun y F'=>∃p' c',y=pair (.slice p' (kV c n).length c') (i64 (mj c n))∧e9 F' p' ((kV c n).flatMap Entry.row)):=by
 refine eD.drop (fW (N:=27) (rv:=[.tmp 4,.tmp 5]) eW mixed Tryz.func47 rfl rfl rfl rfl rfl ?_);have hB:mj c n≠0→kV c n=[]:=fun h=>by unfold kV;rw[aY h]
 (refine run ?_;repeat intro b);refine dJ _ rfl rfl rfl OI rfl (m0 c l hw ha) ?_;(refine run ?_;repeat intro b);refine eE (decide (gh c≠0)) ?_ (fun h0=>?_) (fun h0=>?_)
 ·refine dV ?_;rw[ai];simp
 ·have h0:=ar h0;have e:mj c n=gh c:=by unfold mj;rw[aZ h0]
  rw[hB (by rw[e];exact h0),e];(refine run ?_;repeat intro b);exact eU (VS.id ⟨_,rfl,none,0,rfl,eJ _ _⟩)
 have h0:gh c=0:=by have:=au h0;omega
 have hG:=nh h0;have hlen:=hG.lens;have e:mj c n=if n<0∨(c.ez.length:Int)≤n then 4 else 0:=by unfold mj;rw[aY (by rw[h0];decide)]
 (refine run ?_;repeat intro b);refine eE (decide (n<0∨(c.ez.length:Int)≤n)) ?_ (fun h1=>?_) (fun h1=>?_)
 ·refine dV ?_;rw[fx,ai];simp
 ·rw[aZ (ar h1)]at e;rw[hB (by rw[e];decide),e];(refine run ?_;repeat intro b);exact eU (VS.id ⟨_,rfl,none,0,rfl,eJ _ _⟩)
 have h1:=au h1;rw[aY h1]at e;obtain⟨k,rfl⟩: ∃k:Nat,n=(k:Int):=⟨n.toNat,by omega⟩;have hk:k<c.ez.length:=by omega
 have eO:kV c (k:Int)=c.ez[k]:=by
  unfold kV;rw[aZ e,ae];simp[List.getD,hk]
 obtain⟨bs,hb,wZ,hbs⟩:=ha.b;have hbl:=lC hb;obtain⟨⟨ps,ls,cs⟩,k1,k2,k3⟩:=nW hb hk;have kc:=m8 wZ k1;have hat:=hbs _ k3;have tD:=hG.small.each c.ez[k] (aj hk);simp only at k2 hat;rw[e,eO,←k2];rw[←k2]at tD;(refine run ?_;repeat intro b);refine dL rfl rfl rfl ⟨by omega,by omega,dR wZ (j:=k) (by rw[ab,hbl];omega)⟩ ?_;refine fw (Bk.v (ps,ls,cs)) rfl rfl rfl rfl (by rw[ae,aA];exact kc) ?_;(refine run ?_;repeat intro b);refine fm rfl rfl rfl D6 rfl (eD.Mu (fun h=>by rw[aq h];rfl) (mg (ls.flatMap Entry.row) ls.length (dO eM _) hat.2 (iN _) (by omega))) ?_;rintro _ G2 hG2 ⟨p2,c2,rfl,hc2,hf2⟩;(refine run ?_;repeat intro b);exact eU (VS.id ⟨_,rfl,p2,c2,rfl,hf2⟩)
theorem KR (most batch every:Int):(((!(decide (1≤most)&&decide (most≤30)))||(!(decide (1≤batch)&&decide (batch≤30))))||(!(decide (1≤every)&&decide (every≤1000))))=jH most batch every:=by
 unfold jH;rw[ai];simp only[bD,bz,bn,aU,av];omega
theorem Ei (most batch every:Int){F:Hp}:iy Tryz.prog F 8 [i64 most,i64 batch,i64 every] (fun y F'=>∃l',y=pair ((jS most batch every).v l') (i64 (zx most batch every))∧(jS most batch every).at F' l'):=by
 refine eD.drop (fW (N:=43) (rv:=[.cell 6 28,.tmp 7]) eW mixed Tryz.func8 rfl rfl rfl rfl rfl ?_);(refine run ?_;repeat intro b);refine dJ _ rfl rfl rfl MR rfl (tE most 30 F) ?_;(refine run ?_;repeat intro b);refine gm _ rfl rfl rfl rfl MR rfl rfl (fun _=>tE batch 30 F) ?_;(refine run ?_;repeat intro b);refine gm _ rfl rfl rfl rfl MR rfl rfl (fun _=>tE every 1000 F) ?_;(refine run ?_;repeat intro b);refine eE (jH most batch every) ?_ (fun h1=>?_) (fun h1=>?_)
 ·refine dV ?_;rw[fx,fx,←KR]
 ·have e1:jS most batch every=eI.none:=by unfold jS;rw[aZ h1]
  have e2:zx most batch every=4:=by unfold zx;rw[aZ h1]
  rw[e1,e2];(refine run ?_;repeat intro b);exact eU (VS.id ⟨_,rfl,ji.nil,rfl,eI.kH _⟩)
 have e1:jS most batch every=⟨⟨most,[]⟩,batch,every,0,[⟨0,gN [] [],0,0⟩],[[]]⟩:=by unfold jS;rw[aY (by rw[h1];decide)]
 have e2:zx most batch every=0:=by unfold zx;rw[aY (by rw[h1];decide)]
 rw[e1,e2];have r0:=ry [] (az _) (fun x hx=>by cases hx) (c:=0) (eJ F none);obtain⟨r1,r2⟩:=tP sI ru;rw[r1,r2]at r0;have hlt:=uC [] [];have hf0:(⟨0,gN [] [],0,0⟩:Head).fault=0:=Head.n9 (by decide) (by decide) hlt (by decide) (by decide) (by decide) (fun _=>rfl);have hh:=Cm (gN [] []) 0 F;rw[hf0]at hh;(refine run ?_;repeat intro b);refine dJ _ rfl rfl rfl RB rfl r0 ?_;(refine run ?_;repeat intro b);refine dJ _ rfl rfl rfl Xm rfl hh ?_;(refine run ?_;repeat intro b);rename_i bA bB;revert b;intro bC;refine eU ?_;refine VS.freeze 3 [6,7] rfl rfl rfl rfl fun F1 hs1 hf1=>?_;refine VS.freeze 2 [6,7] rfl rfl rfl rfl fun F2 hs2 hf2=>VS.id ⟨_,rfl,⟨none,0,some ⟨bB,0,none⟩,1,some ⟨bC,0,none⟩,1⟩,rfl,eJ _ _,ah _,hf2,ah _,ah _,[(none,[],0)],rfl,eu hs2 hf1,fun s hs=>?_⟩;rw[aB.1 hs];exact⟨trivial,eJ _ _⟩
end Go.Proofs.YthbnddgjkonkdaaGreatDoor
namespace Go.TR
variable {P:Program} {tb:Tb} {N:Nat} {dr:Bool} {all rest:List Oper} {K:fe→St→Prop}
theorem GK {c:Ctx}{g:fe}{env:Env}{F:Hp}{rs:RL}{nx:Nat}{a:Act}{w:World}(h:fI c N g ⟨env,F,rs,nx⟩ a w){id b0:Nat}{r:kg}(hr:fU rs id=some r)(hb:r.gq=some b0){cells':List EV}(hl:cells'.length≤r.cells.length)
  (hv: ∀(j:Nat) (e':EV),cells'[j]? =some e'→e'.lt nx∧ ∀x,e'.val rs=some x→∃e:EV,r.cells[j]? =some e∧e.val rs=some x):fI c N g ⟨env,F,qP rs id ⟨r.gq,cells',r.ty,r.cap⟩,nx⟩ a w:=by
 have hown:=h.fR.own.own id r hr;have hval:=fun e=>zS (r':=⟨r.gq,cells',r.ty,r.cap⟩) hr rfl e;exact {
  size:=h.size
  defers:=h.defers
  fR:={
   le:=h.fR.le
   own:={
    own:=fun k' s hs=>by
     rw[jg]at hs;split at hs
     ·rw[hr]at hs;simp only[aJ,aa]at hs;subst hs;rw[hb]at hown;simp only[hb];obtain⟨o1,o2,cur,o3,o4,o5⟩:=hown;refine⟨o1,dq hl o2,cur,o3,o4,fun j ev x hj hx=>?_⟩;have hx':ev.val rs=some x:=by rw[←hval ev,←hx,hb]
      obtain⟨e,he1,he2⟩:=(hv j ev hj).2 x hx';exact o5 j e x he1 he2
     have h1:=h.fR.own.own k' s hs;cases hsb:s.gq with
     | none=>rw[hsb]at h1;exact h1
     | some b'=>
      rw[hsb]at h1;obtain⟨g1,g2,cur',g3,g4,g5⟩:=h1;exact⟨g1,g2,cur',g3,g4,fun j ev x hj hx=>g5 j ev x hj (by rw[←hval ev];exact hx)⟩
    apart:=fun i j s t b' hi hj hs ht=>by
     rw[jg]at hi hj;have conv: ∀{k:Nat} {s:kg},(if k=id then (fU rs id).map fun _=>(⟨r.gq,cells',r.ty,r.cap⟩:kg) else fU rs k)=some s→s.gq=some b'→∃s',fU rs k=some s'∧s'.gq=some b':=by
      intro k s hk hsb;split at hk
      ·rename_i rV;rw[hr]at hk;simp only[aJ,aa]at hk;subst hk;subst rV;exact⟨r,hr,hsb⟩
      exact⟨s,hk,hsb⟩
     obtain⟨s',hs1,hs2⟩:=conv hi hs;obtain⟨t',ht1,ht2⟩:=conv hj ht;exact h.fR.own.apart i j s' t' b' hs1 ht1 hs2 ht2 }
   ir:=h.fR.ir
   new:=fun k s b' hs hsb=>by
    rw[jg]at hs;split at hs
    ·rw[hr]at hs;simp only[aJ,aa]at hs;subst hs;exact h.fR.new id r b' hr (kg.BL hb hsb rfl)
    exact h.fR.new k s b' hs hsb
   jW:=h.fR.jW
   sz:=h.fR.sz
   tp:=h.fR.tp }
  gL:={
   sub:=h.gL.sub
   kX:=h.gL.kX
   succ:=fun k s hk hs=>by
    rw[jg]at hs;split at hs
    ·rename_i rV;subst rV;rw[hr]at hs;simp only[aJ,aa]at hs;subst hs;exact h.gL.succ k r hk hr
    exact h.gL.succ k s hk hs }
  gV:=fun k s hs=>by
   simp only[jg]at hs;split at hs
   ·rename_i rV;rw[hr]at hs;simp only[aJ,aa]at hs;subst hs;obtain⟨q1,q2⟩:=h.gV id r hr;refine⟨by rw[rV];exact q1,fun e he=>?_⟩;obtain⟨j,hj,rfl⟩:=List.mem_iff_getElem.1 he;exact (hv j _ (ao hj)).1
   exact h.gV k s hs
  ids:=h.ids
  env:=fun n e x h1 h2 h3=>h.env n e x h1 h2 (by rw[←hval e];exact h3)
  gv:=fun n ch e h1=>by
   obtain⟨q1,q2,q3,q4⟩:=h.gv n ch e h1;exact⟨fun hga=>⟨fun x hx=>(q1 hga).1 x (by rw[←hval e];exact hx),(q1 hga).2⟩,q2,q3,q4⟩ }
def Cl (nx:Nat)(rs:RL):List EV→List EV→Prop
 | e::l,e'::l'=>(e'.lt nx∧e.val rs=e'.val rs)∧Cl nx rs l l'
 | [],[]=>True
 | _,_=>False
theorem wA {nx:Nat}{rs:RL}: ∀{l l':List EV},Cl nx rs l l'→l'.length=l.length∧ ∀(j:Nat) (e':EV),l'[j]? =some e'→e'.lt nx∧ ∃e,l[j]? =some e∧e.val rs=e'.val rs
 | [],[],_=>⟨rfl,fun j e' h=>by simp at h⟩
 | [],_::_,h=>h.elim
 | _::_,[],h=>h.elim
 | e::l,e1::l',h=>by
  obtain⟨h1,h2⟩:=wA h.2;refine⟨by simp[h1],fun j e' hj=>?_⟩;cases j with
  | zero=>
   simp only[cz,aa]at hj;subst hj;exact⟨h.1.1,e,rfl,h.1.2⟩
  | succ j=>exact h2 j e' (by simpa using hj)
theorem VS.l6 {env:Env}{F:Hp}{rs rs':RL}{nx:Nat}{G:St→Prop}(id:Nat){b0:Nat}{cells:List EV}{ty:TypeId}{cap:Nat}(cells':List EV)(hr:fU rs id=some ⟨some b0,cells,ty,cap⟩)(hc:Cl nx rs cells cells')
  (hrs:iv (qP rs id ⟨some b0,cells',ty,cap⟩)=some rs') (k:VS N [] ⟨env,F,rs',nx⟩ G):VS N [] ⟨env,F,rs,nx⟩ G:=fun c a w hs=>by
 rw[fE,aa]at hrs;subst hrs;obtain⟨h1,h2⟩:=wA hc;refine k c a w (GK hs hr rfl (cells':=cells') (by rw[h1];exact ah _) fun j e' hj=>?_);obtain⟨h3,e,h4,h5⟩:=h2 j e' hj;exact⟨h3,fun x hx=>⟨e,h4,h5.trans hx⟩⟩
theorem VS.l8 {env:Env}{F:Hp}{rs:RL}{nx:Nat}{G:St→Prop}(ty:TypeId)(k:VS N [] ⟨env,F,(nx,⟨none,[],ty,0⟩)::rs,nx+1⟩ G):VS N [] ⟨env,F,rs,nx⟩ G:=by
 intro c a w hs;have hne: ∀id r,fU rs id=some r→id≠nx:=fun id r hr=>by have:=(hs.gV id r hr).1;simp only at this;omega
 refine k c a w ?_;exact {
  size:=hs.size
  defers:=hs.defers
  fR:={
   le:=hs.fR.le
   own:={
    own:=fun id r hr=>by
     rw[fb]at hr;split at hr
     ·simp only[aa]at hr;subst hr;exact⟨.inl rfl,rfl⟩
     have h1:=hs.fR.own.own id r hr;cases hb:r.gq with
     | none=>rw[hb]at h1;exact h1
     | some b=>
      rw[hb]at h1;obtain⟨g1,g2,cur,g3,g4,g5⟩:=h1;refine⟨g1,g2,cur,g3,g4,fun j ev x hj hx=>?_⟩;rw[kI ((hs.gV id r hr).2 ev (cW hj))]at hx;exact g5 j ev x hj hx
    apart:=fun i j r s b hi hj hb hs'=>by
     rw[fb]at hi hj;split at hi
     ·simp only[aa]at hi;subst hi;cases hb
     split at hj
     ·simp only[aa]at hj;subst hj;cases hs'
     exact hs.fR.own.apart i j r s b hi hj hb hs' }
   ir:=hs.fR.ir
   new:=fun id r b hr hb=>by
    rw[fb]at hr;split at hr
    ·simp only[aa]at hr;subst hr;rcases hb with hb | ⟨_,_,hb⟩<;>cases hb
    exact hs.fR.new id r b hr hb
   jW:=hs.fR.jW
   sz:=hs.fR.sz
   tp:=hs.fR.tp }
  gL:=hs.gL.cons _
  gV:=fun id r hr=>by
   simp only[fb]at hr;split at hr
   ·simp only[aa]at hr;subst hr;exact⟨by simp only;omega,fun e he=>by cases he⟩
   obtain⟨h1,h2⟩:=hs.gV id r hr;exact⟨by simp only at h1 ⊢;omega,fun e he=>(h2 e he).mono (dp _)⟩
  ids:=fun n e he=>(hs.ids n e he).mono (dp _)
  env:=fun n e x hg he hx=>by
   rw[kI (hs.ids n e he)]at hx;exact hs.env n e x rfl he hx
  gv:=fun n ch e he=>by simp[rA]at he }
def MC (e:TypeId)(size:Nat)(cs:List Value)(n:Nat)(x:Value)(new:RL):Prop:=
 ∃(gq:Option Nat) (c:Nat),n≤c∧(gq=none→n=0∧c=0)∧new=[(0,⟨gq,cs.map .v,e,c * size⟩)]∧x= .slice (gq.map fun b=>⟨b,0,none⟩) n c
theorem I0 {d:Nat}{f:Operand}{args:Array Operand}{ts:Array TypeId}{n:FuncId}{first captured:Array Value}{xs ys:List Value}{ty:TypeId}{pos:String}{af:Array Edge}{env:Env}{F:Hp}{rs:RL}{nx:Nat}{e:TypeId}{size k:Nat}{Q:Value→Hp→RL→Prop}{R:Hp→List Value→Prop}(hQ: ∀x F' new,Q x F' new→∃cs,MC e size cs k x new∧R F' cs)
  (hf:gO rs [] env [] f=some (.v (.func (.func n) first captured))) (hx:sy rs (gO rs [] env []) args.toList=some xs) (hy':iv (first.toList++xs++captured.toList)=some ys) (hb:dK P n) (hd:Nat.blt d N=true) (hc:eD P F n ys Q)
  (k1: ∀F' gq c cs,F.sub F'→k≤c→(gq=none→k=0∧c=0)→R F' cs→dW P tb N false all rest K [] ⟨(d,.row nx 0 k c)::env,F',(nx,⟨gq,cs.map .v,e,c * size⟩)::rs,nx+1⟩):
  dW P tb N false all (⟨some d,.call ⟨.value f,args,ts⟩,ty,pos,af,none⟩::rest) K [] ⟨env,F,rs,nx⟩:=
 q7 hf hx hy' hb hd hc fun x F' new h1 h2=>by
  obtain⟨cs,⟨gq,c,h5,h6,rfl,rfl⟩,h4⟩:=hQ x F' new h2;refine⟨1,.row 0 0 k c,fun id r h=>?_,by simp only[EV.val,fb,dF],?_⟩
  ·rw[fb]at h;split at h
   ·rename_i h0;simp only[aa]at h;subst h h0;refine⟨Nat.zero_lt_one,fun e he=>?_⟩;obtain⟨u,_,rfl⟩:=aG.1 he;trivial
   simp[fU]at h
  have e1:(cs.map EV.v).map (g8 nx)=cs.map EV.v:=by rw[cO];rfl
  have:=k1 F' gq c cs h1 h5 h6 h4;simp only[g8,gD,gY,a9,cP,di,e1,bZ,c7];exact this
theorem eD.At {P:Program}{F:Hp}{f:FuncId}{args:List Value}{e:TypeId}{size n:Nat}{R:Hp→List Value→Prop}(hR: ∀F F' cs,F.sub F'→R F cs→R F' cs)(hn: ∀F cs,n=0→R F cs→cs=[])(h:eD P F f args fun x F' new=>∃cs,MC e size cs n x new∧R F' cs):iy P F f args fun x F'=>∃p c cs,x= .slice p n c∧n≤c∧e9 F' p cs∧R F' cs:=fun w hw=>by
 refine (h w hw).mono fun ex w' hh=>?_;obtain⟨x,F',new,h1,h2,h3,h4,h5,h6,h7,cs,⟨gq,c,h10,hb,rfl,rfl⟩,h8⟩:=hh;have nil:nv F' [] w':=⟨fun id r hr=>by simp[fU]at hr,fun i j r s b hi=>by simp[fU]at hi⟩;cases gq with
 | none=>
  obtain⟨e1,e2⟩:=hb rfl;subst e1 e2;exact⟨_,F',[],h1,h2,h3,h4,h5,nil,fun id r b hr=>by simp[fU]at hr,rfl,none,0,cs,rfl,ah _,by rw[hn F' cs rfl h8];intro j u hj;simp at hj,h8⟩
 | some b=>
  have hown:=h6.own 0 _ (by rw[fb,aZ rfl]);simp only at hown;obtain⟨g1,g2,cur,g3,g4,g5⟩:=hown;have hbn:w.heap.size≤b:=h7 0 _ b (by rw[fb,aZ rfl]) (.inl rfl);have hsub:F'.sub fun k=>if k=b then some (.cells cur e (0,0)) else F' k:=fun k o hk=>by
   simp only;rw[aY (fun hkb=>by rw[hkb,g1]at hk;cases hk)];exact hk
  refine⟨_,fun k=>if k=b then some (.cells cur e (0,0)) else F' k,[],h1,h2.trans hsub,fun k o hk=>?_,h4,fun k hk=>?_,⟨fun id r hr=>by simp[fU]at hr,fun i j r s b hi=>by simp[fU]at hi⟩,fun id r b hr=>by simp[fU]at hr,rfl,_,c,cs,rfl,h10,fun j u hj=>?_,hR _ _ _ hsub h8⟩
  ·simp only at hk;split at hk
   ·rename_i hkb;subst hkb;rw[←hk];exact g3
   exact h3 k o hk
  ·simp only at hk;split at hk
   ·rename_i hkb;subst hkb;exact .inr hbn
   exact h5 k hk
  have hc:=g5 j (.v u) u (by rw[aI,hj];rfl) rfl;cases j with
  | zero=>simpa [gi,iw,jz,Addr.add] using hc
  | succ j=>simpa [gi,iw,jz,Addr.add] using hc
end Go.TR
namespace Go.Proofs.YthbnddgjkonkdaaGreatDoor
open Go.TR
def qJ (b:UInt8):UInt8:=if b=48 then 49 else 48
def vk (p:List UInt8)(k:Nat):List UInt8:=p.take k++[qJ (p.getD k 0)]
def Bu (l:List Entry)(n:List UInt8)(j:Nat):Nat:=gN l (vk (eC n) (15 - j))
def iA (l:List Entry)(n:List UInt8)(k:Nat):List Nat:=(List.range k).map (Bu l n)
theorem E5 (l:List Entry)(n:List UInt8)(k:Nat):iA l n (k+1)=iA l n k++[Bu l n k]:=by
 unfold iA;rw[List.range_succ,aF];rfl
theorem jy (l:List Entry)(n:List UInt8)(k:Nat):(iA l n k).length=k:=by unfold iA;rw[ab,List.length_range]
theorem wN (l:List Entry)(n:List UInt8):iA l n 0=[]:=rfl
theorem NB {n:List UInt8}{k:Nat}(hk:k<16):kB (vk (eC n) k)=true:=by
 have hb: ∀x∈eC n,An [48,49] x=true:=fun x hx=>by
  obtain⟨j,hj,rfl⟩:=cH hx;have h16:=jN n;have:=rk n j (by omega);rw[aE,ao hj]at this;rcases this with h | h
  ·have h:(eC n)[j]=48:=h;rw[h];decide
  have h:(eC n)[j]=49:=h;rw[h];decide
 unfold kB vk;rw[aL,av,List.all_append,aL,ag,aw,jN];refine⟨⟨?_,?_⟩,by simp;omega⟩
 ·rw[bJ];exact fun x hx=>hb x (cY hx)
 unfold qJ;split<;>decide
def lT (l:List Entry)(n:List UInt8):jo:=⟨n,iY l (eC n),iA l n 16⟩
def ml (l:List Entry)(n:List UInt8):Int:=if dY l≠0 then dY l else if eP n=true then 0 else 3
def jo.none:jo:=⟨[],[],[]⟩
def nw (l:List Entry)(n:List UInt8):jo:=if ml l n=0 then lT l n else jo.none
theorem H9 (s:List UInt8):iY [] s=[]:=rfl
theorem Ek {l:List Entry}{s:List UInt8}{k:Nat}(h:k<l.length):iY (l.take (k+1)) s=if eC l[k].name=s then iY (l.take k) s++[l[k]] else iY (l.take k) s:=by
 rw[al h,zv]
def sb (l:List Entry):List EV:=(l.flatMap Entry.row).map EV.v
theorem Jf:sb []=[]:=rfl
theorem Cp (l:List Entry):(sb l).length=l.length * 2:=by unfold sb;rw[ab,dO eM]
theorem FA (l:List Entry)(x:Entry):(sb l).take (l.length * 2)++x.row.map EV.v=sb (l++[x]):=by
 rw[an (by rw[Cp];exact ah _)];unfold sb;simp
def xA (l:List Nat):List EV:=(l.map mu).map EV.v
theorem IE:xA []=[]:=rfl
theorem rZ (l:List Nat):(xA l).length=l.length:=by unfold xA;simp
theorem EZ (l:List Nat)(x:Nat):(xA l).take (l.length * 1)++[EV.v (mu x)]=xA (l++[x]):=by
 rw[an (by rw[rZ];omega)];unfold xA;simp
theorem mE (l:List Entry): ∀e∈sb l,∃v,e= .v v:=fz _
theorem IM (l:List Nat): ∀e∈xA l,∃v,e= .v v:=fz _
theorem DM (n:Int)(c:UInt8)(h:Utf8.encode n=jE [c])(w:World):(convert 21 9 (.int .i32 n)).run Tryz.prog w= .ok (S [c]) w:=by
 have h1:Tryz.prog.underlying 21=some (.int .i32):=by kernel_rfl
 have h2:Tryz.prog.underlying 9=some .string:=by kernel_rfl
 simp only[convert,Go.TR.run_bind,Go.TR.fk h1,Go.TR.fk h2,Conv.intToString,h];rfl
theorem EX {s:List UInt8}(h:eP s=true):jQ s=eC s:=aZ h
theorem NR {P:Program}{tb:Tb}{N:Nat}{all rest:List Oper}{K:fe→St→Prop}{d:Nat}{op:Op}{ty:TypeId}{pos:String}{af:Array Edge}(e:EV){env:Env}{F:Hp}{rs:RL}{nx:Nat}(hd:Nat.blt d N=true)
  (h: ∀(c:Ctx) (a:Act) (w:World) (o:Oper),fI c N [] ⟨env,F,rs,nx⟩ a w→o.op=op→∃v,(execOp a.eval o).run P w= .ok (.value v) w∧e.val rs=some v)
  (k:dW P tb N false all rest K [] ⟨(d,e)::env,F,rs,nx⟩):dW P tb N false all (⟨some d,op,ty,pos,af,none⟩::rest) K [] ⟨env,F,rs,nx⟩:=
 rK e hd (fun c a w o hs ho=>by obtain⟨v,h1,h2⟩:=h c a w o hs ho;exact⟨v,w,h1,hs,h2⟩) k
theorem VP:Utf8.encode 48=jE [48]:=by decide
theorem Tj:Utf8.encode 49=jE [49]:=by decide
theorem JG {l:List Entry}{n:List UInt8}{e:Int}(h:ml l n=e)(he:e≠0):nw l n=jo.none:=by unfold nw;rw[h,aY he]
theorem vq {l:List Entry}{n:List UInt8}{e:Int}(h:ml l n=e)(he:e≠0)(F:Hp): ∃a,pair (.agg #[S [],.slice none 0 0,.slice none 0 0]) (i64 e)=pair ((nw l n).v a) (i64 (ml l n))∧(nw l n).at F a:=by
 rw[JG h he,h];exact⟨⟨none,0,none,0⟩,rfl,eJ _ _,eJ _ _⟩
theorem wG {l:List Entry}(n:List UInt8)(h:dY l≠0):ml l n=dY l:=aZ h
theorem GA {l:List Entry}{n:List UInt8}(h:dY l=0)(hg:eP n=false):ml l n=3:=by unfold ml;rw[aY (by rw[h];decide),aY (by rw[hg];decide)]
theorem Gk {l:List Entry}{n:List UInt8}(h:dY l=0)(hg:eP n=true):ml l n=0:=by unfold ml;rw[aY (by rw[h];decide),aZ hg]
theorem E4 {l:List Entry}{n:List UInt8}(h:ml l n=0){F:Hp}{pe ps:Option Addr}{ce cs:Nat}(h1:e9 F pe ((iY l (eC n)).flatMap Entry.row))(h2:e9 F ps ((iA l n 16).map mu)): ∃a,pair (.agg #[S n,.slice pe (iY l (eC n)).length ce,.slice ps 16 cs]) (i64 0)=pair ((nw l n).v a) (i64 (ml l n))∧(nw l n).at F a:=by
 have e:nw l n=lT l n:=by unfold nw;rw[aZ h]
 rw[e,h];refine⟨⟨pe,ce,ps,cs⟩,?_,h1,h2⟩;have e2:(lT l n).fF.length=16:=jy l n 16;show _=pair (.agg #[S n,.slice pe (iY l (eC n)).length ce,.slice ps (lT l n).fF.length cs]) _;rw[e2]
theorem tF (rs:RL)(l:List Nat):iZ rs (xA l)=some (l.map mu):=eH _
theorem FF (rs:RL)(l:List Entry):iZ rs (sb l)=some (l.flatMap Entry.row):=eH _
theorem fc (b id:Nat): ∀l:List Value,mS b id (l.map EV.v)=l.map EV.v
 | []=>rfl
 | x::l=>a8 (EV.v x:: ·) (fc b id l)
theorem Ff (b id:Nat)(l:List Entry):mS b id (sb l)=sb l:=fc b id _
theorem De (p:List UInt8)(k:Nat):p.take k++[qJ (p.getD k 0)]=vk p k:=rfl
theorem Em {p:List UInt8}{d:Nat}(h:p.getD d 0=48∨p.getD d 0=49):IntKind.i32.wrap (97 - IntKind.i32.wrap (((p.getD d 0).toNat:Nat):Int))=(((qJ (p.getD d 0)).toNat:Nat):Int):=by
 rcases h with h | h<;>rw[h]<;>rfl
theorem EP {p:List UInt8}{d:Nat}(h:p.getD d 0=48∨p.getD d 0=49):Utf8.encode (((qJ (p.getD d 0)).toNat:Nat):Int)=jE [qJ (p.getD d 0)]:=by
 have e1:qJ 48=49:=by decide
 have e2:qJ 49=48:=by decide
 rcases h with h | h
 ·rw[h,e1];exact Tj
 rw[h,e2];exact VP
theorem xR {l:List Entry}{n:List UInt8}{d:Nat}(hd:d<16):iA l n (16 - d)=iA l n (16 - (d+1))++[gN l (vk (eC n) d)]:=by
 have e:16 - d=(16 - (d+1))+1:=by omega
 rw[e,E5];unfold Bu;have e2:15 - (16 - (d+1))=d:=by omega
 rw[e2]
attribute [local irreducible] vc dW gz fg fD gF gJ gB fJ Plain eD eX dK VS fv fA fG jt fh IntKind.wrap
attribute [local irreducible] kB dY gN kJ begun ka gj iY eC jQ iA Bu vk sb xA eP nw ml
set_option maxRecDepth 100000
set_option maxHeartbeats 4000000
theorem OZ (l:List Entry)(n:List UInt8)(hl:l.length≤4611686018427387904)(hw: ∀x∈l,x.wf)(hn:n.length≤4611686018427387904){p:Option Addr}{c:Nat}{F:Hp}(hf:e9 F p (l.flatMap Entry.row)):
  iy Tryz.prog F 48 [.slice p l.length c,S n] (fun x F'=>∃a,x=pair ((nw l n).v a) (i64 (ml l n))∧(nw l n).at F' a):=by
 refine eD.drop (fW (N:=78) (rv:=[.cell 4 45,.tmp 5]) eW mixed Tryz.func48 rfl rfl rfl rfl rfl ?_);(refine run ?_;repeat intro b);revert b;intro b4;refine dJ _ rfl rfl rfl NK rfl (mK l hl hw hf) ?_;rcases lY l with h0 | h0 | h0
 ·obtain⟨tD,hgood,_⟩:=fP h0;rw[h0];(refine run ?_;repeat intro b);refine dJ _ rfl rfl rfl Lw rfl (vI n hn F) ?_;cases hg:eP n with
  | false=>
   rw[aY Bool.false_ne_true];(refine run ?_;repeat intro b);exact eU (VS.id ⟨_,rfl,vq (GA h0 hg) (by decide) F⟩)
  | true=>
   rw[aZ rfl];have ew:jQ n=eC n:=EX hg;have hE:=Gk h0 hg;rw[ew];(refine run ?_;repeat intro b);revert b;intro b9;have hg0:iY (l.take 0) (eC n)=[]:=by rw[df];exact H9 _
   have hlen: ∀k,(iY (l.take k) (eC n)).length≤24:=fun k=>by
    have h1:=uk (l.take k) (eC n);rw[aw]at h1;omega
   refine eY (fun q:Nat×Option Nat×Nat=>q.1≤l.length∧(q.2.1=none→(iY (l.take q.1) (eC n)).length=0∧q.2.2=0)∧(iY (l.take q.1) (eC n)).length≤q.2.2)
    (fun q=>⟨[(0,.v (.slice p l.length c)),(4,.loc 0 0),(7,.v (S (eC n))),(9,.loc 1 0),(33,.v (.slice p l.length c)),(34,.v (i64 (l.length:Nat))),(35,.v (i64 (q.1:Nat)))],F,[(3,⟨none,[],33,0⟩),(2,⟨q.2.1,sb (iY (l.take q.1) (eC n)),122,q.2.2 * 2⟩),(1,⟨some b9,[.v (S n),.row 2 0 (iY (l.take q.1) (eC n)).length q.2.2,.row 3 0 0 0],45,3⟩),(0,⟨some b4,[.v (S []),.v (.slice none 0 0),.v (.slice none 0 0)],45,3⟩)],4⟩) (fun q=>l.length - q.1) (0,none,0) ⟨az _,fun _=>⟨by rw[hg0];rfl,rfl⟩,by rw[hg0];exact az _⟩
    (VS.trans (VS.eL [0,4,7,9,33,34,35] rfl (VS.l8 122 (VS.l8 33 (VS.l6 1 [.v (S n),.row 2 0 0 0,.row 3 0 0 0] rfl ⟨⟨trivial,rfl⟩,⟨(by decide:2<4),rfl⟩,⟨(by decide:3<4),rfl⟩,trivial⟩ rfl (VS.id (by rw[hg0,Jf];rfl))))))) ?_
   rintro⟨k,gq,cap⟩ ⟨hk,h3,h4⟩;dsimp only at hk h3 h4 ⊢;by_cases hlt:k<l.length
   ·obtain⟨o1,o2⟩:=fa eM (by decide) hf k hlt;have hst:=Ek (s:=eC n) hlt;have hle:=hlen k;have hwx:=hw l[k] (aj hlt);have hgx:=(hgood l[k] (aj hlt)).1;generalize l[k]=x at o2 hst hwx hgx;generalize hL:iY (l.take k) (eC n)=L at *;(refine run ?_;repeat intro b);refine gw rfl (by omega) ?_;(refine run ?_;repeat intro b);refine dL rfl rfl rfl ⟨by omega,by omega,dR hf (j:=k * 2) (by rw[dO eM];omega)⟩ ?_;refine fB x.row rfl rfl rfl rfl rfl (by rw[ae];exact o1) (by rw[ae];exact o2) ?_;(refine run ?_;repeat intro b);refine dJ _ rfl rfl rfl IC rfl (oE x.name hwx.1 F) ?_;rw[EX hgx];(refine run ?_;repeat intro b);refine eE (decide (eC x.name=eC n)) rfl (fun h=>?_) (fun h=>?_)
    ·rw[aZ (ar h)]at hst;have hL2:(iY (l.take (k+1)) (eC n)).length=L.length+1:=by rw[hst,ag];rfl
     (refine run ?_;repeat intro b);refine fy rfl rfl rfl rfl rfl rfl rfl rfl (ff rfl rfl) (gC _ (l:=x.row) fun y hy=>iN [x] y (by simpa using hy)) h3 h4 rfl (by rw[Cp];exact ah _) (by show _ * 32≤_;omega) (fun h=>by cases h) (fun _ b2 c2 hc2=>?_);(refine run ?_;repeat intro b);have hcells:(sb L).take (L.length * 2)++x.row.map EV.v=sb (iY (l.take (k+1)) (eC n)):=by rw[hst,FA]
     have hall: ∀e∈(sb L).take (L.length * 2)++x.row.map EV.v,∃v,e=EV.v v:=fun e he=>by
      rw[hcells]at he;exact mE _ e he
     rw[dT (by omega),←hL2];rw[←hL2]at hc2;exact fH (k+1,some b2,c2) 2 [(3,3),(6,2),(1,1),(0,0)] [0,4,7,9,33,34,35] [(3,⟨none,[],33,0⟩),(2,⟨some b2,sb (iY (l.take (k+1)) (eC n)),122,c2 * 2⟩),(1,⟨some b9,[.v (S n),.row 2 0 (iY (l.take (k+1)) (eC n)).length c2,.row 3 0 0 0],45,3⟩),(0,⟨some b4,[.v (S []),.v (.slice none 0 0),.v (.slice none 0 0)],45,3⟩)]
      ⟨hlt,(fun h=>by cases h),hc2⟩ (by simp only;omega) (aM _ _)
      (dX rfl (fi ⟨_,rfl,rfl,rfl,rfl,.inl ⟨hcells.symm,hall⟩⟩ (dX rfl (dX rfl trivial)))) rfl rfl rfl rfl rfl rfl rfl
    rw[aY (au h)]at hst;(refine run ?_;repeat intro b);rw[dT (by omega)];exact fH (k+1,gq,cap) 2 [(3,3),(2,2),(1,1),(0,0)] [0,4,7,9,33,34,35] [(3,⟨none,[],33,0⟩),(2,⟨gq,sb L,122,cap * 2⟩),(1,⟨some b9,[.v (S n),.row 2 0 L.length cap,.row 3 0 0 0],45,3⟩),(0,⟨some b4,[.v (S []),.v (.slice none 0 0),.v (.slice none 0 0)],45,3⟩)]
     ⟨hlt,by rw[hst];exact h3,by rw[hst];exact h4⟩ (by simp only;omega) (aM _ _)
     (dX rfl (fi ⟨_,rfl,rfl,rfl,rfl,.inl ⟨rfl,mE _⟩⟩ (dX rfl (dX rfl trivial)))) rfl rfl rfl rfl rfl rfl (by rw[hst])
   have hge:k=l.length:=by omega
   subst hge;rw[aD]at h3 h4 ⊢;have Ol:=hlen l.length;rw[aD]at Ol;have hP:(eC n).length=16:=jN n;(refine run ?_;repeat intro b);refine gy rfl (by omega) ?_;(refine run ?_;repeat intro b);refine eY (fun q:Nat×Option Nat×Nat=>q.1≤16∧(q.2.1=none→16 - q.1=0∧q.2.2=0)∧16 - q.1≤q.2.2)
    (fun q=>⟨[(0,.v (.slice p l.length c)),(4,.loc 0 0),(7,.v (S (eC n))),(9,.loc 1 0),(12,.v (.int .i64 ((q.1:Int) - 1)))],F,[(4,⟨q.2.1,xA (iA l n (16 - q.1)),33,q.2.2 * 1⟩),(2,⟨gq,sb (iY l (eC n)),122,cap * 2⟩),(1,⟨some b9,[.v (S n),.row 2 0 (iY l (eC n)).length cap,.row 4 0 (16 - q.1) q.2.2],45,3⟩),(0,⟨some b4,[.v (S []),.v (.slice none 0 0),.v (.slice none 0 0)],45,3⟩)],5⟩) (fun q=>q.1) (16,none,0) ⟨ah _,fun _=>⟨rfl,rfl⟩,ah _⟩
    (VS.mP (nx':=5) [(3,4),(2,2),(1,1),(0,0)] [0,4,7,9,12] [(4,⟨none,[],33,0⟩),(2,⟨gq,sb (iY l (eC n)),122,cap * 2⟩),(1,⟨some b9,[.v (S n),.row 2 0 (iY l (eC n)).length cap,.row 4 0 0 0],45,3⟩),(0,⟨some b4,[.v (S []),.v (.slice none 0 0),.v (.slice none 0 0)],45,3⟩)]
     (dX rfl (fi ⟨_,rfl,rfl,rfl,rfl,.inl ⟨rfl,mE _⟩⟩ (dX rfl (dX rfl trivial)))) rfl rfl rfl rfl rfl rfl (by rw[Nat.sub_self,wN,IE];rfl)) ?_
   rintro⟨d1,F8,cap2⟩ ⟨g1,g2,g3⟩;dsimp only at g1 g2 g3 ⊢;cases d1 with
   | zero=>
    (refine run ?_;repeat intro b);cases F8 with
    | none=>exact absurd (g2 rfl).1 (by decide)
    | some b3=>
     cases gq with
     | none=>
      obtain⟨e1,e2⟩:=h3 rfl;have e3:iY l (eC n)=[]:=aq e1;exact eU (VS.freeze 4 [4,5] rfl (tF _ _) rfl rfl fun F1 hs1 hf1=>VS.id ⟨_,rfl,E4 hE (by rw[e3];exact eJ _ none) hf1⟩)
     | some b2=>
      exact eU (VS.freeze 4 [4,5] rfl (tF _ _) rfl rfl fun F1 hs1 hf1=>VS.freeze 2 [4,5] rfl (by rw[Ff];exact FF _ _) rfl rfl fun F2 hs2 hf2=>VS.id ⟨_,rfl,E4 hE hf2 (eu hs2 hf1)⟩)
   | succ d=>
    have ed:((d+1:Nat):Int) - 1=(d:Int):=by omega
    rw[ed];have hb:=rk n d (by omega);(refine run ?_;repeat intro b);refine lp (fun _:Unit=>True) (fun _=>⟨[(0,.v (.slice p l.length c)),(4,.loc 0 0),(7,.v (S (eC n))),(9,.loc 1 0),(12,.v (i64 (d:Nat))),(13,.v (S (vk (eC n) d)))],F,[(4,⟨F8,xA (iA l n (16 - (d+1))),33,cap2 * 1⟩),(2,⟨gq,sb (iY l (eC n)),122,cap * 2⟩),(1,⟨some b9,[.v (S n),.row 2 0 (iY l (eC n)).length cap,.row 4 0 (16 - (d+1)) cap2],45,3⟩),(0,⟨some b4,[.v (S []),.v (.slice none 0 0),.v (.slice none 0 0)],45,3⟩)],5⟩) rfl ?rest ?reg
    case reg=>
     intro vb kn kr ke;refine fC [] (by kernel_rfl) ?_;refine dU [0,1,3,4] (f':=7) (by kernel_rfl) rfl rfl rfl ?_;(refine run ?_;repeat intro b);refine jF 2 5 (by kernel_rfl) rfl rfl rfl ?_ ?_
     ·refine dL rfl rfl rfl ⟨by omega,by rw[ga];omega⟩ ?_;(refine run ?_;repeat intro b);refine eG (Hp.sub.refl _) trivial ?_;refine dU [5,6,7] (f':=3) (by kernel_rfl) rfl rfl rfl ?_;refine dL rfl rfl rfl ⟨by omega,by rw[ga];omega⟩ ?_;(refine run ?_;repeat intro b);rw[ga,ae,Em hb];refine ee 8 (by kernel_rfl) rfl rfl ?_;refine NR (.v (S [qJ ((eC n).getD d 0)])) rfl (fun c a w o hs ho=>?_) ?_
      ·have ex:=fM (x:=.tmp 62) hs rfl;simp only[EV.val,aa]at ex;refine⟨_,?_,rfl⟩;simp only[execOp,ho,←ex];rw[Go.TR.run_bind,DM _ _ (EP hb)];rfl
      (refine run ?_;repeat intro b);refine eG (Hp.sub.refl _) trivial ?_;refine dU [9,10] (f':=0) (by kernel_rfl) rfl rfl rfl ?_;refine dL rfl rfl rfl (by show ((eC n).take d).length+1≤9223372036854775807;rw[aw];omega) ?_;rw[ga,ga,De];(refine run ?_;repeat intro b);refine fq (by kernel_rfl) ?_;exact kn _ (VS.eL [0,4,7,9,12,13] rfl ⟨(),trivial,rfl⟩)
     refine dL rfl rfl rfl ⟨by omega,by rw[ga];omega⟩ ?_;(refine run ?_;repeat intro b);refine eG (Hp.sub.refl _) trivial ?_;refine dU [2,6,7] (f':=3) (by kernel_rfl) rfl rfl rfl ?_;refine dL rfl rfl rfl ⟨by omega,by rw[ga];omega⟩ ?_;(refine run ?_;repeat intro b);rw[ga,ae,Em hb];refine ee 8 (by kernel_rfl) rfl rfl ?_;refine NR (.v (S [qJ ((eC n).getD d 0)])) rfl (fun c a w o hs ho=>?_) ?_
     ·have ex:=fM (x:=.tmp 62) hs rfl;simp only[EV.val,aa]at ex;refine⟨_,?_,rfl⟩;simp only[execOp,ho,←ex];rw[Go.TR.run_bind,DM _ _ (EP hb)];rfl
     (refine run ?_;repeat intro b);refine eG (Hp.sub.refl _) trivial ?_;refine dU [9,10] (f':=0) (by kernel_rfl) rfl rfl rfl ?_;refine dL rfl rfl rfl (by show ((eC n).take d).length+1≤9223372036854775807;rw[aw];omega) ?_;rw[ga,ga,De];(refine run ?_;repeat intro b);refine fq (by kernel_rfl) ?_;exact kn _ (VS.eL [0,4,7,9,12,13] rfl ⟨(),trivial,rfl⟩)
    rintro _ _;have hgs:=NB (n:=n) (k:=d) (by omega);obtain⟨r1,r2⟩:=tP h0 hgs;(refine run ?_;repeat intro b);refine dJ _ rfl rfl rfl Ux rfl (AY l (vk (eC n) d) hl hw (by have:=wW hgs;omega) hf) ?_;rw[r1,r2];(refine run ?_;repeat intro b);have es:16 - (d+1)=15 - d:=by omega
    refine fy rfl rfl rfl rfl rfl rfl rfl rfl (ff rfl rfl) (gC _ (l:=[mu (gN l (vk (eC n) d))]) (by simp[one])) g2 g3 rfl (by show (16 - (d+1)) * 1≤_;rw[rZ,jy];omega) (by show _ * 8≤_;omega) (fun h=>by cases h) (fun _ b5 c5 w6=>?_);(refine run ?_;repeat intro b);have hcells:(xA (iA l n (16 - (d+1)))).take ((16 - (d+1)) * 1)++[.v (mu (gN l (vk (eC n) d)))]=xA (iA l n (16 - d)):=by
     have:=EZ (iA l n (16 - (d+1))) (gN l (vk (eC n) d));rw[jy]at this;rw[xR (d:=d) (by omega),←this]
    have hall: ∀e∈(xA (iA l n (16 - (d+1)))).take ((16 - (d+1)) * 1)++[.v (mu (gN l (vk (eC n) d)))],∃v,e=EV.v v:=fun e he=>by
     rw[hcells]at he;exact IM _ e he
    have e2:16 - (d+1)+1=16 - d:=by omega
    rw[wrap_i64 (by omega) (by omega),e2];rw[e2]at w6;exact fH (d,some b5,c5) 4 [(6,4),(2,2),(1,1),(0,0)] [0,4,7,9,12] [(4,⟨some b5,xA (iA l n (16 - d)),33,c5 * 1⟩),(2,⟨gq,sb (iY l (eC n)),122,cap * 2⟩),(1,⟨some b9,[.v (S n),.row 2 0 (iY l (eC n)).length cap,.row 4 0 (16 - d) c5],45,3⟩),(0,⟨some b4,[.v (S []),.v (.slice none 0 0),.v (.slice none 0 0)],45,3⟩)]
     ⟨by omega,(fun h=>by cases h),w6⟩ (dt d) (aM _ _)
     (fi ⟨_,rfl,rfl,rfl,rfl,.inl ⟨hcells.symm,hall⟩⟩ (fi ⟨_,rfl,rfl,rfl,rfl,.inl ⟨rfl,mE _⟩⟩ (dX rfl (dX rfl trivial)))) rfl rfl rfl rfl rfl rfl rfl
 ·have hq:=vq (e:=dY l) (wG n (by rw[h0];decide)) (by rw[h0];decide) F;rw[h0]at hq ⊢;(refine run ?_;repeat intro b);exact eU (VS.id ⟨_,rfl,hq⟩)
 have hq:=vq (e:=dY l) (wG n (by rw[h0];decide)) (by rw[h0];decide) F;rw[h0]at hq ⊢;(refine run ?_;repeat intro b);exact eU (VS.id ⟨_,rfl,hq⟩)
end Go.Proofs.YthbnddgjkonkdaaGreatDoor
