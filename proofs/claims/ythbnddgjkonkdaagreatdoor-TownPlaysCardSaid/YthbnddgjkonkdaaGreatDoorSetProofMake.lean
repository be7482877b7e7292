/- A part of the proof. -/
import Derived.Test.YthbnddgjkonkdaaGreatDoorSetClerk3
set_option linter.unusedVariables false
set_option linter.unusedSimpArgs false
namespace Go.Proofs.YthbnddgjkonkdaaGreatDoor
open Go.TR
theorem sT {c:eE}{a:Ask}(h0:ga c=0):oz c a=if eJ a.name a.value≠0 then eJ a.name a.value else if gn c=true then 9 else if (c.queue.wait.length:Int)=c.queue.most∨24<jF c [a.name] then 7 else 0:=by
 unfold oz;rw[aY (by rw[h0];decide)]
theorem mC {c:eE}{a:Ask}(h:oz c a≠0):jj c a=eE.none∧pG c a=0:=by
 unfold jj pG;rw[aY h,aY h];exact⟨rfl,rfl⟩
theorem pI {c:eE}{a:Ask}(h:oz c a=0):jj c a={ c with queue:=⟨c.queue.most,c.queue.wait++[a]⟩ }∧pG c a=c.now - c.now % c.every+((c.queue.wait.length:Int) / c.batch+1) * c.every:=by
 unfold jj pG;rw[aZ h,aZ h];exact⟨rfl,rfl⟩
theorem B4 (n v:List UInt8):eJ n v=0∨eJ n v=2∨eJ n v=3:=by
 unfold eJ;split
 ·split
  ·exact .inr (.inl rfl)
  exact .inl rfl
 exact .inr (.inr rfl)
theorem rn {a b:Int}(h:0≤a):a.tmod b=a % b:=Int.tmod_eq_emod_of_nonneg h
theorem sP:dV []=0:=by unfold dV;rfl
attribute [local irreducible] vc dT gx fc fA gC gG gw fG Plain eu eR dH VS fq fx fD ju fe IntKind.wrap
attribute [local irreducible] dV gK ir gH fK ga fg fp jD jF eJ gn
set_option maxRecDepth 100000
set_option maxHeartbeats 4000000
theorem wv (c:eE)(l:jf)(x:Ask)(hw:c.wf)(hx:x.wf){F:Hp}(ha:c.at F l):iu Tryz.prog F 10 [c.v l,x.v] (fun y F'=>∃l',y=triple ((jj c x).v l') (i64 (pG c x)) (i64 (oz c x))∧(jj c x).at F' l'):=by
 refine eu.drop (fU (N:=76) (rv:=[.cell 4 28,.tmp 5,.tmp 6]) eP mixed Tryz.func10 rfl rfl rfl rfl rfl ?_);(refine run ?_;repeat intro b);refine dG _ rfl rfl rfl O5 rfl (mW c l hw ha) ?_;(refine run ?_;repeat intro b);refine ez (decide (ga c≠0)) ?_ (fun h0=>?_) (fun h0=>?_)
 ·refine dS ?_;rw[ai];simp
 ·have h0:=ar h0;have e:oz c x=ga c:=by unfold oz;rw[aZ h0]
  obtain⟨e1,e2⟩:=mC (c:=c) (a:=x) (by rw[e];exact h0);rw[e,e1,e2];(refine run ?_;repeat intro b);exact eM (VS.id ⟨_,rfl,jf.nil,rfl,eE.kx _⟩)
 have h0:ga c=0:=by have:=au h0;omega
 have hG:=nb h0;have hS:=hG.small;obtain⟨q1,q2,q3,_⟩:=lf hG.queue;obtain⟨t1,t2,t3,t4,t5,t6⟩:=hG.times;have hlen:=hG.lens;have hsp:=sT (a:=x) h0;have hqe:oG c.queue x=if eJ x.name x.value=0 then (if (c.queue.wait.length:Int)=c.queue.most then 7 else 0) else eJ x.name x.value:=by unfold oG;rw[aZ hG.queue]
 (refine run ?_;repeat intro b);refine fi rfl rfl rfl Yb rfl (Fy c.queue x hw.queue hx ha.w) ?_;rintro _ F1 hF1 ⟨pq,cq,rfl,hq,hcq⟩;rcases B4 x.name x.value with f0 | f0
 ·rw[f0,aY (by decide)]at hsp;rw[aZ f0]at hqe;by_cases hfull:(c.queue.wait.length:Int)=c.queue.most
  ·rw[aZ hfull]at hqe;rw[aZ (Or.inl hfull)]at hsp;rw[hqe];(refine run ?_;repeat intro b);refine dG _ rfl rfl rfl Sn rfl (vF c l F1) ?_;(refine run ?_;repeat intro b);refine ez (gn c) rfl (fun h1=>?_) (fun h1=>?_)
   ·rw[aZ h1]at hsp;obtain⟨e1,e2⟩:=mC (c:=c) (a:=x) (by rw[hsp];decide);rw[hsp,e1,e2];(refine run ?_;repeat intro b);exact eM (VS.id ⟨_,rfl,jf.nil,rfl,eE.kx _⟩)
   rw[aY (by rw[h1];decide)]at hsp;obtain⟨e1,e2⟩:=mC (c:=c) (a:=x) (by rw[hsp];decide);rw[hsp,e1,e2];(refine run ?_;repeat intro b);exact eM (VS.id ⟨_,rfl,jf.nil,rfl,eE.kx _⟩)
  rw[aY hfull]at hqe;have eQ:sF c.queue x=⟨c.queue.most,c.queue.wait++[x]⟩:=by unfold sF;rw[aZ hqe]
  have eK:zm c.queue x=(c.queue.wait.length:Int):=by unfold zm;rw[aZ hqe]
  rw[hqe,eQ,eK];rw[eQ]at hq hcq;(refine run ?_;repeat intro b);refine dG _ rfl rfl rfl Sn rfl (vF c l F1) ?_;(refine run ?_;repeat intro b);refine ez (gn c) rfl (fun h1=>?_) (fun h1=>?_)
  ·rw[aZ h1]at hsp;obtain⟨e1,e2⟩:=mC (c:=c) (a:=x) (by rw[hsp];decide);rw[hsp,e1,e2];(refine run ?_;repeat intro b);exact eM (VS.id ⟨_,rfl,jf.nil,rfl,eE.kx _⟩)
  rw[aY (by rw[h1];decide)]at hsp;(refine run ?_;repeat intro b);refine fT (VS.freeze 4 [2,3,4,8,9,10,43,44,47] rfl rfl rfl rfl fun F2 hs2 hf2=>VS.id ?_);have hF2:=hF1.trans hs2;(refine run ?_;repeat intro b);refine dG _ rfl rfl rfl UC rfl (Fo c l [x.name] hw hS (by omega) (ah 1) (fun s hs=>by rw[aB.1 hs];exact hx.name) (eE.eX hF2 ha) hf2) ?_;(refine run ?_;repeat intro b);refine ez (decide (24<jF c [x.name])) ?_ (fun h2=>?_) (fun h2=>?_)
  ·refine dS ?_;rw[aV];omega
  ·rw[aZ (Or.inr (ar h2))]at hsp;obtain⟨e1,e2⟩:=mC (c:=c) (a:=x) (by rw[hsp];decide);rw[hsp,e1,e2];(refine run ?_;repeat intro b);exact eM (VS.id ⟨_,rfl,jf.nil,rfl,eE.kx _⟩)
  have h2:=au h2;rw[aY (by omega)]at hsp;obtain⟨e1,e2⟩:=pI (c:=c) (a:=x) hsp;rw[hsp,e1,e2];(refine run ?_;repeat intro b);refine fi rfl rfl rfl VP rfl (yB c l hw hS (eE.eX hF2 ha)) ?_;rintro _ F3 FU ⟨l',rfl,ha',aao⟩;(refine run ?_;repeat intro b);refine dG _ rfl rfl rfl Ym rfl (C8 (c.queue.wait.length:Int) c.batch c.every F3) ?_;have hwb:pY (c.queue.wait.length:Int) c.batch c.every=false:=by
   unfold pY;simp only[aQ,aU];omega
  have hwe:yI (c.queue.wait.length:Int) c.batch c.every=0:=by unfold yI;rw[hwb];rfl
  have hwn:x9 (c.queue.wait.length:Int) c.batch c.every=((c.queue.wait.length:Int) / c.batch+1) * c.every:=by unfold x9;rw[hwb];rfl
  have hd1:0≤(c.queue.wait.length:Int) / c.batch:=Int.ediv_nonneg (by omega) (by omega);have hd2:(c.queue.wait.length:Int) / c.batch≤30:=Int.le_trans (Int.ediv_le_self _ (by omega)) (by omega);have hm1:0≤((c.queue.wait.length:Int) / c.batch+1) * c.every:=Int.mul_nonneg (by omega) (by omega);have hm2:((c.queue.wait.length:Int) / c.batch+1) * c.every≤31 * 1000:=Int.mul_le_mul (by omega) t4 (by omega) (by omega);have hr1:=Int.emod_nonneg c.now (by omega:c.every≠0);have hr2:=Int.emod_lt_of_pos c.now (by omega:0<c.every);rw[hwe,hwn];generalize ((c.queue.wait.length:Int) / c.batch+1) * c.every=W at *;(refine run ?_;repeat intro b);refine fz [0] (by kernel_rfl) ?_;refine dR [0,1,2,3,4,5,6,7,8,9,10] (f':=3) (by kernel_rfl) rfl rfl rfl ?_;(refine run ?_;repeat intro b);refine dI rfl rfl rfl (by omega) ?_;rw[rn t5];(refine run ?_;repeat intro b);rw[wrap_i64 (n:=c.now - c.now % c.every) (by omega) (by omega),wrap_i64 (n:=c.now - c.now % c.every+W) (by omega) (by omega)];(refine run ?_;repeat intro b);refine dY 11 (by kernel_rfl) rfl rfl ?_;(refine run ?_;repeat intro b);refine eC (Hp.sub.refl _) (dM rfl) ?_;refine dR [12,13] (f':=0) (by kernel_rfl) rfl rfl rfl ?_;(refine run ?_;repeat intro b);refine fk (by kernel_rfl) ?_;(refine run ?_;repeat intro b);exact eM (VS.id ⟨_,rfl,⟨pq,cq,l'.h,l'.ch,l'.b,l'.cb⟩,rfl,dZ (hs2.trans FU) hq,hcq,ha'.h,ha'.ch,ha'.cb,ha'.b⟩)
 have hne:eJ x.name x.value≠0:=by omega
 rw[aZ hne]at hsp;rw[aY hne]at hqe;obtain⟨e1,e2⟩:=mC (c:=c) (a:=x) (by rw[hsp];exact hne);rw[hqe,hsp,e1,e2];rcases f0 with f0 | f0
 ·rw[f0];(refine run ?_;repeat intro b);exact eM (VS.id ⟨_,rfl,jf.nil,rfl,eE.kx _⟩)
 rw[f0];(refine run ?_;repeat intro b);exact eM (VS.id ⟨_,rfl,jf.nil,rfl,eE.kx _⟩)
theorem CM (c:eE)(l:jf)(n:Int)(hw:c.wf)(hn: -9223372036854775808≤n∧n≤9223372036854775807){F:Hp}(ha:c.at F l):iu Tryz.prog F 47 [c.v l,i64 n] (fun y F'=>∃p' c',y=pair (.slice p' (kR c n).length c') (i64 (mf c n))∧eY F' p' ((kR c n).flatMap Entry.row)):=by
 refine eu.drop (fU (N:=27) (rv:=[.tmp 4,.tmp 5]) eP mixed Tryz.func47 rfl rfl rfl rfl rfl ?_);have hB:mf c n≠0→kR c n=[]:=fun h=>by unfold kR;rw[aY h]
 (refine run ?_;repeat intro b);refine dG _ rfl rfl rfl O5 rfl (mW c l hw ha) ?_;(refine run ?_;repeat intro b);refine ez (decide (ga c≠0)) ?_ (fun h0=>?_) (fun h0=>?_)
 ·refine dS ?_;rw[ai];simp
 ·have h0:=ar h0;have e:mf c n=ga c:=by unfold mf;rw[aZ h0]
  rw[hB (by rw[e];exact h0),e];(refine run ?_;repeat intro b);exact eM (VS.id ⟨_,rfl,none,0,rfl,eG _ _⟩)
 have h0:ga c=0:=by have:=au h0;omega
 have hG:=nb h0;have hlen:=hG.lens;have e:mf c n=if n<0∨(c.ee.length:Int)≤n then 4 else 0:=by unfold mf;rw[aY (by rw[h0];decide)]
 (refine run ?_;repeat intro b);refine ez (decide (n<0∨(c.ee.length:Int)≤n)) ?_ (fun h1=>?_) (fun h1=>?_)
 ·refine dS ?_;rw[fu,ai];simp
 ·rw[aZ (ar h1)]at e;rw[hB (by rw[e];decide),e];(refine run ?_;repeat intro b);exact eM (VS.id ⟨_,rfl,none,0,rfl,eG _ _⟩)
 have h1:=au h1;rw[aY h1]at e;obtain⟨k,rfl⟩: ∃k:Nat,n=(k:Int):=⟨n.toNat,by omega⟩;have hk:k<c.ee.length:=by omega
 have eO:kR c (k:Int)=c.ee[k]:=by
  unfold kR;rw[aZ e,ae];simp[List.getD,hk]
 obtain⟨bs,hb,wW,hbs⟩:=ha.b;have hbl:=ln hb;obtain⟨⟨ps,ls,cs⟩,k1,k2,k3⟩:=oc hb hk;have kc:=mX wW k1;have hat:=hbs _ k3;have tA:=hG.small.each c.ee[k] (aj hk);simp only at k2 hat;rw[e,eO,←k2];rw[←k2]at tA;(refine run ?_;repeat intro b);refine dI rfl rfl rfl ⟨by omega,by omega,dO wW (j:=k) (by rw[ab,hbl];omega)⟩ ?_;refine fr (Bk.v (ps,ls,cs)) rfl rfl rfl rfl (by rw[ae,aA];exact kc) ?_;(refine run ?_;repeat intro b);refine fi rfl rfl rfl EF rfl (eu.MH (fun h=>by rw[aq h];rfl) (me (ls.flatMap Entry.row) ls.length (dL eI _) hat.2 (iK _) (by omega))) ?_;rintro _ G2 hG2 ⟨p2,c2,rfl,hc2,hf2⟩;(refine run ?_;repeat intro b);exact eM (VS.id ⟨_,rfl,p2,c2,rfl,hf2⟩)
theorem Ju (most batch every:Int):(((!(decide (1≤most)&&decide (most≤30)))||(!(decide (1≤batch)&&decide (batch≤30))))||(!(decide (1≤every)&&decide (every≤1000))))=jG most batch every:=by
 unfold jG;rw[ai];simp only[bD,bz,bn,aU,av];omega
theorem EZ (most batch every:Int){F:Hp}:iu Tryz.prog F 8 [i64 most,i64 batch,i64 every] (fun y F'=>∃l',y=pair ((jM most batch every).v l') (i64 (xK most batch every))∧(jM most batch every).at F' l'):=by
 refine eu.drop (fU (N:=43) (rv:=[.cell 6 28,.tmp 7]) eP mixed Tryz.func8 rfl rfl rfl rfl rfl ?_);(refine run ?_;repeat intro b);refine dG _ rfl rfl rfl Md rfl (ur most 30 F) ?_;(refine run ?_;repeat intro b);refine gi _ rfl rfl rfl rfl Md rfl rfl (fun _=>ur batch 30 F) ?_;(refine run ?_;repeat intro b);refine gi _ rfl rfl rfl rfl Md rfl rfl (fun _=>ur every 1000 F) ?_;(refine run ?_;repeat intro b);refine ez (jG most batch every) ?_ (fun h1=>?_) (fun h1=>?_)
 ·refine dS ?_;rw[fu,fu,←Ju]
 ·have e1:jM most batch every=eE.none:=by unfold jM;rw[aZ h1]
  have e2:xK most batch every=4:=by unfold xK;rw[aZ h1]
  rw[e1,e2];(refine run ?_;repeat intro b);exact eM (VS.id ⟨_,rfl,jf.nil,rfl,eE.kx _⟩)
 have e1:jM most batch every=⟨⟨most,[]⟩,batch,every,0,[⟨0,gK [] [],0,0⟩],[[]]⟩:=by unfold jM;rw[aY (by rw[h1];decide)]
 have e2:xK most batch every=0:=by unfold xK;rw[aY (by rw[h1];decide)]
 rw[e1,e2];have r0:=qQ [] (az _) (fun x hx=>by cases hx) (c:=0) (eG F none);obtain⟨r1,r2⟩:=uF sP re;rw[r1,r2]at r0;have hlt:=uS [] [];have hf0:(⟨0,gK [] [],0,0⟩:Head).fault=0:=Head.nM (by decide) (by decide) hlt (by decide) (by decide) (by decide) (fun _=>rfl);have hh:=Cd (gK [] []) 0 F;rw[hf0]at hh;(refine run ?_;repeat intro b);refine dG _ rfl rfl rfl R4 rfl r0 ?_;(refine run ?_;repeat intro b);refine dG _ rfl rfl rfl Yg rfl hh ?_;(refine run ?_;repeat intro b);rename_i bA bB;revert b;intro bC;refine eM ?_;refine VS.freeze 3 [6,7] rfl rfl rfl rfl fun F1 hs1 hf1=>?_;refine VS.freeze 2 [6,7] rfl rfl rfl rfl fun F2 hs2 hf2=>VS.id ⟨_,rfl,⟨none,0,some ⟨bB,0,none⟩,1,some ⟨bC,0,none⟩,1⟩,rfl,eG _ _,ah _,hf2,ah _,ah _,[(none,[],0)],rfl,dZ hs2 hf1,fun s hs=>?_⟩;rw[aB.1 hs];exact⟨trivial,eG _ _⟩
end Go.Proofs.YthbnddgjkonkdaaGreatDoor
namespace Go.TR
variable {P:Program} {tb:Tb} {N:Nat} {dr:Bool} {all rest:List Oper} {K:fa→St→Prop}
theorem HM {c:Ctx}{g:fa}{env:Env}{F:Hp}{rs:RL}{nx:Nat}{a:Act}{w:World}(h:fF c N g ⟨env,F,rs,nx⟩ a w){id b0:Nat}{r:kj}(hr:fR rs id=some r)(hb:r.gl=some b0){cells':List EV}(hl:cells'.length≤r.cells.length)
  (hv: ∀(j:Nat) (e':EV),cells'[j]? =some e'→e'.lt nx∧ ∀x,e'.val rs=some x→∃e:EV,r.cells[j]? =some e∧e.val rs=some x):fF c N g ⟨env,F,qM rs id ⟨r.gl,cells',r.ty,r.cap⟩,nx⟩ a w:=by
 have hown:=h.fO.own.own id r hr;have hval:=fun e=>yO (r':=⟨r.gl,cells',r.ty,r.cap⟩) hr rfl e;exact {
  size:=h.size
  defers:=h.defers
  fO:={
   le:=h.fO.le
   own:={
    own:=fun k' s hs=>by
     rw[jd]at hs;split at hs
     ·rw[hr]at hs;simp only[aJ,aa]at hs;subst hs;rw[hb]at hown;simp only[hb];obtain⟨o1,o2,cur,o3,o4,o5⟩:=hown;refine⟨o1,dk hl o2,cur,o3,o4,fun j ev x hj hx=>?_⟩;have hx':ev.val rs=some x:=by rw[←hval ev,←hx,hb]
      obtain⟨e,he1,he2⟩:=(hv j ev hj).2 x hx';exact o5 j e x he1 he2
     have h1:=h.fO.own.own k' s hs;cases hsb:s.gl with
     | none=>rw[hsb]at h1;exact h1
     | some b'=>
      rw[hsb]at h1;obtain⟨g1,g2,cur',g3,g4,g5⟩:=h1;exact⟨g1,g2,cur',g3,g4,fun j ev x hj hx=>g5 j ev x hj (by rw[←hval ev];exact hx)⟩
    apart:=fun i j s t b' hi hj hs ht=>by
     rw[jd]at hi hj;have conv: ∀{k:Nat} {s:kj},(if k=id then (fR rs id).map fun _=>(⟨r.gl,cells',r.ty,r.cap⟩:kj) else fR rs k)=some s→s.gl=some b'→∃s',fR rs k=some s'∧s'.gl=some b':=by
      intro k s hk hsb;split at hk
      ·rename_i rS;rw[hr]at hk;simp only[aJ,aa]at hk;subst hk;subst rS;exact⟨r,hr,hsb⟩
      exact⟨s,hk,hsb⟩
     obtain⟨s',hs1,hs2⟩:=conv hi hs;obtain⟨t',ht1,ht2⟩:=conv hj ht;exact h.fO.own.apart i j s' t' b' hs1 ht1 hs2 ht2 }
   il:=h.fO.il
   new:=fun k s b' hs hsb=>by
    rw[jd]at hs;split at hs
    ·rw[hr]at hs;simp only[aJ,aa]at hs;subst hs;exact h.fO.new id r b' hr (kj.Dk hb hsb rfl)
    exact h.fO.new k s b' hs hsb
   jT:=h.fO.jT
   sz:=h.fO.sz
   tp:=h.fO.tp }
  gI:={
   sub:=h.gI.sub
   kT:=h.gI.kT
   succ:=fun k s hk hs=>by
    rw[jd]at hs;split at hs
    ·rename_i rS;subst rS;rw[hr]at hs;simp only[aJ,aa]at hs;subst hs;exact h.gI.succ k r hk hr
    exact h.gI.succ k s hk hs }
  gS:=fun k s hs=>by
   simp only[jd]at hs;split at hs
   ·rename_i rS;rw[hr]at hs;simp only[aJ,aa]at hs;subst hs;obtain⟨q1,q2⟩:=h.gS id r hr;refine⟨by rw[rS];exact q1,fun e he=>?_⟩;obtain⟨j,hj,rfl⟩:=List.mem_iff_getElem.1 he;exact (hv j _ (ao hj)).1
   exact h.gS k s hs
  ids:=h.ids
  env:=fun n e x h1 h2 h3=>h.env n e x h1 h2 (by rw[←hval e];exact h3)
  gv:=fun n ch e h1=>by
   obtain⟨q1,q2,q3,q4⟩:=h.gv n ch e h1;exact⟨fun hga=>⟨fun x hx=>(q1 hga).1 x (by rw[←hval e];exact hx),(q1 hga).2⟩,q2,q3,q4⟩ }
def Cq (nx:Nat)(rs:RL):List EV→List EV→Prop
 | e::l,e'::l'=>(e'.lt nx∧e.val rs=e'.val rs)∧Cq nx rs l l'
 | [],[]=>True
 | _,_=>False
theorem wF {nx:Nat}{rs:RL}: ∀{l l':List EV},Cq nx rs l l'→l'.length=l.length∧ ∀(j:Nat) (e':EV),l'[j]? =some e'→e'.lt nx∧ ∃e,l[j]? =some e∧e.val rs=e'.val rs
 | [],[],_=>⟨rfl,fun j e' h=>by simp at h⟩
 | [],_::_,h=>h.elim
 | _::_,[],h=>h.elim
 | e::l,e1::l',h=>by
  obtain⟨h1,h2⟩:=wF h.2;refine⟨by simp[h1],fun j e' hj=>?_⟩;cases j with
  | zero=>
   simp only[cr,aa]at hj;subst hj;exact⟨h.1.1,e,rfl,h.1.2⟩
  | succ j=>exact h2 j e' (by simpa using hj)
theorem VS.l5 {env:Env}{F:Hp}{rs rs':RL}{nx:Nat}{G:St→Prop}(id:Nat){b0:Nat}{cells:List EV}{ty:TypeId}{cap:Nat}(cells':List EV)(hr:fR rs id=some ⟨some b0,cells,ty,cap⟩)(hc:Cq nx rs cells cells')
  (hrs:iq (qM rs id ⟨some b0,cells',ty,cap⟩)=some rs') (k:VS N [] ⟨env,F,rs',nx⟩ G):VS N [] ⟨env,F,rs,nx⟩ G:=fun c a w hs=>by
 rw[fB,aa]at hrs;subst hrs;obtain⟨h1,h2⟩:=wF hc;refine k c a w (HM hs hr rfl (cells':=cells') (by rw[h1];exact ah _) fun j e' hj=>?_);obtain⟨h3,e,h4,h5⟩:=h2 j e' hj;exact⟨h3,fun x hx=>⟨e,h4,h5.trans hx⟩⟩
theorem VS.l6 {env:Env}{F:Hp}{rs:RL}{nx:Nat}{G:St→Prop}(ty:TypeId)(k:VS N [] ⟨env,F,(nx,⟨none,[],ty,0⟩)::rs,nx+1⟩ G):VS N [] ⟨env,F,rs,nx⟩ G:=by
 intro c a w hs;have hne: ∀id r,fR rs id=some r→id≠nx:=fun id r hr=>by have:=(hs.gS id r hr).1;simp only at this;omega
 refine k c a w ?_;exact {
  size:=hs.size
  defers:=hs.defers
  fO:={
   le:=hs.fO.le
   own:={
    own:=fun id r hr=>by
     rw[e8]at hr;split at hr
     ·simp only[aa]at hr;subst hr;exact⟨.inl rfl,rfl⟩
     have h1:=hs.fO.own.own id r hr;cases hb:r.gl with
     | none=>rw[hb]at h1;exact h1
     | some b=>
      rw[hb]at h1;obtain⟨g1,g2,cur,g3,g4,g5⟩:=h1;refine⟨g1,g2,cur,g3,g4,fun j ev x hj hx=>?_⟩;rw[kF ((hs.gS id r hr).2 ev (cT hj))]at hx;exact g5 j ev x hj hx
    apart:=fun i j r s b hi hj hb hs'=>by
     rw[e8]at hi hj;split at hi
     ·simp only[aa]at hi;subst hi;cases hb
     split at hj
     ·simp only[aa]at hj;subst hj;cases hs'
     exact hs.fO.own.apart i j r s b hi hj hb hs' }
   il:=hs.fO.il
   new:=fun id r b hr hb=>by
    rw[e8]at hr;split at hr
    ·simp only[aa]at hr;subst hr;rcases hb with hb | ⟨_,_,hb⟩<;>cases hb
    exact hs.fO.new id r b hr hb
   jT:=hs.fO.jT
   sz:=hs.fO.sz
   tp:=hs.fO.tp }
  gI:=hs.gI.cons _
  gS:=fun id r hr=>by
   simp only[e8]at hr;split at hr
   ·simp only[aa]at hr;subst hr;exact⟨by simp only;omega,fun e he=>by cases he⟩
   obtain⟨h1,h2⟩:=hs.gS id r hr;exact⟨by simp only at h1 ⊢;omega,fun e he=>(h2 e he).mono (dj _)⟩
  ids:=fun n e he=>(hs.ids n e he).mono (dj _)
  env:=fun n e x hg he hx=>by
   rw[kF (hs.ids n e he)]at hx;exact hs.env n e x rfl he hx
  gv:=fun n ch e he=>by simp[rp]at he }
def M7 (e:TypeId)(size:Nat)(cs:List Value)(n:Nat)(x:Value)(new:RL):Prop:=
 ∃(gl:Option Nat) (c:Nat),n≤c∧(gl=none→n=0∧c=0)∧new=[(0,⟨gl,cs.map .v,e,c * size⟩)]∧x= .slice (gl.map fun b=>⟨b,0,none⟩) n c
theorem Je {d:Nat}{f:Operand}{args:Array Operand}{ts:Array TypeId}{n:FuncId}{first captured:Array Value}{xs ys:List Value}{ty:TypeId}{pos:String}{af:Array Edge}{env:Env}{F:Hp}{rs:RL}{nx:Nat}{e:TypeId}{size k:Nat}{Q:Value→Hp→RL→Prop}{R:Hp→List Value→Prop}(hQ: ∀x F' new,Q x F' new→∃cs,M7 e size cs k x new∧R F' cs)
  (hf:gL rs [] env [] f=some (.v (.func (.func n) first captured))) (hx:su rs (gL rs [] env []) args.toList=some xs) (hy':iq (first.toList++xs++captured.toList)=some ys) (hb:dH P n) (hd:Nat.blt d N=true) (hc:eu P F n ys Q)
  (k1: ∀F' gl c cs,F.sub F'→k≤c→(gl=none→k=0∧c=0)→R F' cs→dT P tb N false all rest K [] ⟨(d,.row nx 0 k c)::env,F',(nx,⟨gl,cs.map .v,e,c * size⟩)::rs,nx+1⟩):
  dT P tb N false all (⟨some d,.call ⟨.value f,args,ts⟩,ty,pos,af,none⟩::rest) K [] ⟨env,F,rs,nx⟩:=
 rJ hf hx hy' hb hd hc fun x F' new h1 h2=>by
  obtain⟨cs,⟨gl,c,h5,h6,rfl,rfl⟩,h4⟩:=hQ x F' new h2;refine⟨1,.row 0 0 k c,fun id r h=>?_,by simp only[EV.val,e8,dC],?_⟩
  ·rw[e8]at h;split at h
   ·rename_i h0;simp only[aa]at h;subst h h0;refine⟨Nat.zero_lt_one,fun e he=>?_⟩;obtain⟨u,_,rfl⟩:=aG.1 he;trivial
   simp[fR]at h
  have e1:(cs.map EV.v).map (gX nx)=cs.map EV.v:=by rw[cL];rfl
  have:=k1 F' gl c cs h1 h5 h6 h4;simp only[gX,gB,gV,a9,cM,df,e1,bV,cX];exact this
theorem eu.At {P:Program}{F:Hp}{f:FuncId}{args:List Value}{e:TypeId}{size n:Nat}{R:Hp→List Value→Prop}(hR: ∀F F' cs,F.sub F'→R F cs→R F' cs)(hn: ∀F cs,n=0→R F cs→cs=[])(h:eu P F f args fun x F' new=>∃cs,M7 e size cs n x new∧R F' cs):iu P F f args fun x F'=>∃p c cs,x= .slice p n c∧n≤c∧eY F' p cs∧R F' cs:=fun w hw=>by
 refine (h w hw).mono fun ex w' hh=>?_;obtain⟨x,F',new,h1,h2,h3,h4,h5,h6,h7,cs,⟨gl,c,h10,hb,rfl,rfl⟩,h8⟩:=hh;have nil:nu F' [] w':=⟨fun id r hr=>by simp[fR]at hr,fun i j r s b hi=>by simp[fR]at hi⟩;cases gl with
 | none=>
  obtain⟨e1,e2⟩:=hb rfl;subst e1 e2;exact⟨_,F',[],h1,h2,h3,h4,h5,nil,fun id r b hr=>by simp[fR]at hr,rfl,none,0,cs,rfl,ah _,by rw[hn F' cs rfl h8];intro j u hj;simp at hj,h8⟩
 | some b=>
  have hown:=h6.own 0 _ (by rw[e8,aZ rfl]);simp only at hown;obtain⟨g1,g2,cur,g3,g4,g5⟩:=hown;have hbn:w.heap.size≤b:=h7 0 _ b (by rw[e8,aZ rfl]) (.inl rfl);have hsub:F'.sub fun k=>if k=b then some (.cells cur e (0,0)) else F' k:=fun k o hk=>by
   simp only;rw[aY (fun hkb=>by rw[hkb,g1]at hk;cases hk)];exact hk
  refine⟨_,fun k=>if k=b then some (.cells cur e (0,0)) else F' k,[],h1,h2.trans hsub,fun k o hk=>?_,h4,fun k hk=>?_,⟨fun id r hr=>by simp[fR]at hr,fun i j r s b hi=>by simp[fR]at hi⟩,fun id r b hr=>by simp[fR]at hr,rfl,_,c,cs,rfl,h10,fun j u hj=>?_,hR _ _ _ hsub h8⟩
  ·simp only at hk;split at hk
   ·rename_i hkb;subst hkb;rw[←hk];exact g3
   exact h3 k o hk
  ·simp only at hk;split at hk
   ·rename_i hkb;subst hkb;exact .inr hbn
   exact h5 k hk
  have hc:=g5 j (.v u) u (by rw[aI,hj];rfl) rfl;cases j with
  | zero=>simpa [gb,im,jx,Addr.add] using hc
  | succ j=>simpa [gb,im,jx,Addr.add] using hc
end Go.TR
namespace Go.Proofs.YthbnddgjkonkdaaGreatDoor
open Go.TR
def qH (b:UInt8):UInt8:=if b=48 then 49 else 48
def vz (p:List UInt8)(k:Nat):List UInt8:=p.take k++[qH (p.getD k 0)]
def Bq (l:List Entry)(n:List UInt8)(j:Nat):Nat:=gK l (vz (ej n) (15 - j))
def iv (l:List Entry)(n:List UInt8)(k:Nat):List Nat:=(List.range k).map (Bq l n)
theorem Es (l:List Entry)(n:List UInt8)(k:Nat):iv l n (k+1)=iv l n k++[Bq l n k]:=by
 unfold iv;rw[List.range_succ,aF];rfl
theorem jv (l:List Entry)(n:List UInt8)(k:Nat):(iv l n k).length=k:=by unfold iv;rw[ab,List.length_range]
theorem wK (l:List Entry)(n:List UInt8):iv l n 0=[]:=rfl
theorem Lv {n:List UInt8}{k:Nat}(hk:k<16):kB (vz (ej n) k)=true:=by
 have hb: ∀x∈ej n,Av [48,49] x=true:=fun x hx=>by
  obtain⟨j,hj,rfl⟩:=cE hx;have h16:=jJ n;have:=ra n j (by omega);rw[aE,ao hj]at this;rcases this with h | h
  ·have h:(ej n)[j]=48:=h;rw[h];decide
  have h:(ej n)[j]=49:=h;rw[h];decide
 unfold kB vz;rw[aL,av,List.all_append,aL,ag,aw,jJ];refine⟨⟨?_,?_⟩,by simp;omega⟩
 ·rw[List.all_eq_true];exact fun x hx=>hb x (cV hx)
 unfold qH;split<;>decide
def lS (l:List Entry)(n:List UInt8):jn:=⟨n,iW l (ej n),iv l n 16⟩
def mh (l:List Entry)(n:List UInt8):Int:=if dV l≠0 then dV l else if eL n=true then 0 else 3
def jn.none:jn:=⟨[],[],[]⟩
def nr (l:List Entry)(n:List UInt8):jn:=if mh l n=0 then lS l n else jn.none
theorem IU (s:List UInt8):iW [] s=[]:=rfl
theorem Fh {l:List Entry}{s:List UInt8}{k:Nat}(h:k<l.length):iW (l.take (k+1)) s=if ej l[k].name=s then iW (l.take k) s++[l[k]] else iW (l.take k) s:=by
 rw[al h,yl]
def sb (l:List Entry):List EV:=(l.flatMap Entry.row).map EV.v
theorem H8:sb []=[]:=rfl
theorem C0 (l:List Entry):(sb l).length=l.length * 2:=by unfold sb;rw[ab,dL eI]
theorem Ej (l:List Entry)(x:Entry):(sb l).take (l.length * 2)++x.row.map EV.v=sb (l++[x]):=by
 rw[an (by rw[C0];exact ah _)];unfold sb;simp
def xu (l:List Nat):List EV:=(l.map mu).map EV.v
theorem H4:xu []=[]:=rfl
theorem r8 (l:List Nat):(xu l).length=l.length:=by unfold xu;simp
theorem EU (l:List Nat)(x:Nat):(xu l).take (l.length * 1)++[EV.v (mu x)]=xu (l++[x]):=by
 rw[an (by rw[r8];omega)];unfold xu;simp
theorem mz (l:List Entry): ∀e∈sb l,∃v,e= .v v:=fw _
theorem Jf (l:List Nat): ∀e∈xu l,∃v,e= .v v:=fw _
theorem DI (n:Int)(c:UInt8)(h:Utf8.encode n=jB [c])(w:World):(convert 21 9 (.int .i32 n)).run Tryz.prog w= .ok (S [c]) w:=by
 have h1:Tryz.prog.underlying 21=some (.int .i32):=by kernel_rfl
 have h2:Tryz.prog.underlying 9=some .string:=by kernel_rfl
 simp only[convert,Go.TR.run_bind,Go.TR.fh h1,Go.TR.fh h2,Conv.intToString,h];rfl
theorem DC {s:List UInt8}(h:eL s=true):jS s=ej s:=aZ h
theorem Lg {P:Program}{tb:Tb}{N:Nat}{all rest:List Oper}{K:fa→St→Prop}{d:Nat}{op:Op}{ty:TypeId}{pos:String}{af:Array Edge}(e:EV){env:Env}{F:Hp}{rs:RL}{nx:Nat}(hd:Nat.blt d N=true)
  (h: ∀(c:Ctx) (a:Act) (w:World) (o:Oper),fF c N [] ⟨env,F,rs,nx⟩ a w→o.op=op→∃v,(execOp a.eval o).run P w= .ok (.value v) w∧e.val rs=some v)
  (k:dT P tb N false all rest K [] ⟨(d,e)::env,F,rs,nx⟩):dT P tb N false all (⟨some d,op,ty,pos,af,none⟩::rest) K [] ⟨env,F,rs,nx⟩:=
 q9 e hd (fun c a w o hs ho=>by obtain⟨v,h1,h2⟩:=h c a w o hs ho;exact⟨v,w,h1,hs,h2⟩) k
theorem Tu:Utf8.encode 48=jB [48]:=by decide
theorem TD:Utf8.encode 49=jB [49]:=by decide
theorem KD {l:List Entry}{n:List UInt8}{e:Int}(h:mh l n=e)(he:e≠0):nr l n=jn.none:=by unfold nr;rw[h,aY he]
theorem vm {l:List Entry}{n:List UInt8}{e:Int}(h:mh l n=e)(he:e≠0)(F:Hp): ∃a,pair (.agg #[S [],.slice none 0 0,.slice none 0 0]) (i64 e)=pair ((nr l n).v a) (i64 (mh l n))∧(nr l n).at F a:=by
 rw[KD h he,h];exact⟨⟨none,0,none,0⟩,rfl,eG _ _,eG _ _⟩
theorem wJ {l:List Entry}(n:List UInt8)(h:dV l≠0):mh l n=dV l:=aZ h
theorem Hc {l:List Entry}{n:List UInt8}(h:dV l=0)(hg:eL n=false):mh l n=3:=by unfold mh;rw[aY (by rw[h];decide),aY (by rw[hg];decide)]
theorem Ge {l:List Entry}{n:List UInt8}(h:dV l=0)(hg:eL n=true):mh l n=0:=by unfold mh;rw[aY (by rw[h];decide),aZ hg]
theorem DV {l:List Entry}{n:List UInt8}(h:mh l n=0){F:Hp}{pe ps:Option Addr}{ce cs:Nat}(h1:eY F pe ((iW l (ej n)).flatMap Entry.row))(h2:eY F ps ((iv l n 16).map mu)): ∃a,pair (.agg #[S n,.slice pe (iW l (ej n)).length ce,.slice ps 16 cs]) (i64 0)=pair ((nr l n).v a) (i64 (mh l n))∧(nr l n).at F a:=by
 have e:nr l n=lS l n:=by unfold nr;rw[aZ h]
 rw[e,h];refine⟨⟨pe,ce,ps,cs⟩,?_,h1,h2⟩;have e2:(lS l n).fC.length=16:=jv l n 16;show _=pair (.agg #[S n,.slice pe (iW l (ej n)).length ce,.slice ps (lS l n).fC.length cs]) _;rw[e2]
theorem ui (rs:RL)(l:List Nat):iU rs (xu l)=some (l.map mu):=eD _
theorem FC (rs:RL)(l:List Entry):iU rs (sb l)=some (l.flatMap Entry.row):=eD _
theorem e9 (b id:Nat): ∀l:List Value,mT b id (l.map EV.v)=l.map EV.v
 | []=>rfl
 | x::l=>a8 (EV.v x:: ·) (e9 b id l)
theorem DM (b id:Nat)(l:List Entry):mT b id (sb l)=sb l:=e9 b id _
theorem B7 (p:List UInt8)(k:Nat):p.take k++[qH (p.getD k 0)]=vz p k:=rfl
theorem E1 {p:List UInt8}{d:Nat}(h:p.getD d 0=48∨p.getD d 0=49):IntKind.i32.wrap (97 - IntKind.i32.wrap (((p.getD d 0).toNat:Nat):Int))=(((qH (p.getD d 0)).toNat:Nat):Int):=by
 rcases h with h | h<;>rw[h]<;>rfl
theorem E6 {p:List UInt8}{d:Nat}(h:p.getD d 0=48∨p.getD d 0=49):Utf8.encode (((qH (p.getD d 0)).toNat:Nat):Int)=jB [qH (p.getD d 0)]:=by
 have e1:qH 48=49:=by decide
 have e2:qH 49=48:=by decide
 rcases h with h | h
 ·rw[h,e1];exact TD
 rw[h,e2];exact Tu
theorem zk {l:List Entry}{n:List UInt8}{d:Nat}(hd:d<16):iv l n (16 - d)=iv l n (16 - (d+1))++[gK l (vz (ej n) d)]:=by
 have e:16 - d=(16 - (d+1))+1:=by omega
 rw[e,Es];unfold Bq;have e2:15 - (16 - (d+1))=d:=by omega
 rw[e2]
attribute [local irreducible] vc dT gx fc fA gC gG gw fG Plain eu eR dH VS fq fx fD ju fe IntKind.wrap
attribute [local irreducible] kB dV gK kG begun jX gg iW ej jS iv Bq vz sb xu eL nr mh
set_option maxRecDepth 100000
set_option maxHeartbeats 4000000
theorem Pf (l:List Entry)(n:List UInt8)(hl:l.length≤4611686018427387904)(hw: ∀x∈l,x.wf)(hn:n.length≤4611686018427387904){p:Option Addr}{c:Nat}{F:Hp}(hf:eY F p (l.flatMap Entry.row)):
  iu Tryz.prog F 48 [.slice p l.length c,S n] (fun x F'=>∃a,x=pair ((nr l n).v a) (i64 (mh l n))∧(nr l n).at F' a):=by
 refine eu.drop (fU (N:=78) (rv:=[.cell 4 45,.tmp 5]) eP mixed Tryz.func48 rfl rfl rfl rfl rfl ?_);(refine run ?_;repeat intro b);revert b;intro b4;refine dG _ rfl rfl rfl Ma rfl (mw l hl hw hf) ?_;rcases lV l with h0 | h0 | h0
 ·obtain⟨tA,hgood,_⟩:=fL h0;rw[h0];(refine run ?_;repeat intro b);refine dG _ rfl rfl rfl Mp rfl (vp n hn F) ?_;cases hg:eL n with
  | false=>
   rw[aY Bool.false_ne_true];(refine run ?_;repeat intro b);exact eM (VS.id ⟨_,rfl,vm (Hc h0 hg) (by decide) F⟩)
  | true=>
   rw[aZ rfl];have ew:jS n=ej n:=DC hg;have hE:=Ge h0 hg;rw[ew];(refine run ?_;repeat intro b);revert b;intro b9;have hg0:iW (l.take 0) (ej n)=[]:=by rw[db];exact IU _
   have hlen: ∀k,(iW (l.take k) (ej n)).length≤24:=fun k=>by
    have h1:=uo (l.take k) (ej n);rw[aw]at h1;omega
   refine eU (fun q:Nat×Option Nat×Nat=>q.1≤l.length∧(q.2.1=none→(iW (l.take q.1) (ej n)).length=0∧q.2.2=0)∧(iW (l.take q.1) (ej n)).length≤q.2.2)
    (fun q=>⟨[(0,.v (.slice p l.length c)),(4,.loc 0 0),(7,.v (S (ej n))),(9,.loc 1 0),(33,.v (.slice p l.length c)),(34,.v (i64 (l.length:Nat))),(35,.v (i64 (q.1:Nat)))],F,[(3,⟨none,[],33,0⟩),(2,⟨q.2.1,sb (iW (l.take q.1) (ej n)),122,q.2.2 * 2⟩),(1,⟨some b9,[.v (S n),.row 2 0 (iW (l.take q.1) (ej n)).length q.2.2,.row 3 0 0 0],45,3⟩),(0,⟨some b4,[.v (S []),.v (.slice none 0 0),.v (.slice none 0 0)],45,3⟩)],4⟩) (fun q=>l.length - q.1) (0,none,0) ⟨az _,fun _=>⟨by rw[hg0];rfl,rfl⟩,by rw[hg0];exact az _⟩
    (VS.trans (VS.eH [0,4,7,9,33,34,35] rfl (VS.l6 122 (VS.l6 33 (VS.l5 1 [.v (S n),.row 2 0 0 0,.row 3 0 0 0] rfl ⟨⟨trivial,rfl⟩,⟨(by decide:2<4),rfl⟩,⟨(by decide:3<4),rfl⟩,trivial⟩ rfl (VS.id (by rw[hg0,H8];rfl))))))) ?_
   rintro⟨k,gl,cap⟩ ⟨hk,h3,h4⟩;dsimp only at hk h3 h4 ⊢;by_cases hlt:k<l.length
   ·obtain⟨o1,o2⟩:=eZ eI (by decide) hf k hlt;have hst:=Fh (s:=ej n) hlt;have hle:=hlen k;have hwx:=hw l[k] (aj hlt);have hgx:=(hgood l[k] (aj hlt)).1;generalize l[k]=x at o2 hst hwx hgx;generalize hL:iW (l.take k) (ej n)=L at *;(refine run ?_;repeat intro b);refine gm rfl (by omega) ?_;(refine run ?_;repeat intro b);refine dI rfl rfl rfl ⟨by omega,by omega,dO hf (j:=k * 2) (by rw[dL eI];omega)⟩ ?_;refine fy x.row rfl rfl rfl rfl rfl (by rw[ae];exact o1) (by rw[ae];exact o2) ?_;(refine run ?_;repeat intro b);refine dG _ rfl rfl rfl I6 rfl (oJ x.name hwx.1 F) ?_;rw[DC hgx];(refine run ?_;repeat intro b);refine ez (decide (ej x.name=ej n)) rfl (fun h=>?_) (fun h=>?_)
    ·rw[aZ (ar h)]at hst;have hL2:(iW (l.take (k+1)) (ej n)).length=L.length+1:=by rw[hst,ag];rfl
     (refine run ?_;repeat intro b);refine fv rfl rfl rfl rfl rfl rfl rfl rfl (fb rfl rfl) (gy _ (l:=x.row) fun y hy=>iK [x] y (by simpa using hy)) h3 h4 rfl (by rw[C0];exact ah _) (by show _ * 32≤_;omega) (fun h=>by cases h) (fun _ b2 c2 hc2=>?_);(refine run ?_;repeat intro b);have hcells:(sb L).take (L.length * 2)++x.row.map EV.v=sb (iW (l.take (k+1)) (ej n)):=by rw[hst,Ej]
     have hall: ∀e∈(sb L).take (L.length * 2)++x.row.map EV.v,∃v,e=EV.v v:=fun e he=>by
      rw[hcells]at he;exact mz _ e he
     rw[dQ (by omega),←hL2];rw[←hL2]at hc2;exact fE (k+1,some b2,c2) 2 [(3,3),(6,2),(1,1),(0,0)] [0,4,7,9,33,34,35] [(3,⟨none,[],33,0⟩),(2,⟨some b2,sb (iW (l.take (k+1)) (ej n)),122,c2 * 2⟩),(1,⟨some b9,[.v (S n),.row 2 0 (iW (l.take (k+1)) (ej n)).length c2,.row 3 0 0 0],45,3⟩),(0,⟨some b4,[.v (S []),.v (.slice none 0 0),.v (.slice none 0 0)],45,3⟩)]
      ⟨hlt,(fun h=>by cases h),hc2⟩ (by simp only;omega) (aM _ _)
      (dU rfl (ff ⟨_,rfl,rfl,rfl,rfl,.inl ⟨hcells.symm,hall⟩⟩ (dU rfl (dU rfl trivial)))) rfl rfl rfl rfl rfl rfl rfl
    rw[aY (au h)]at hst;(refine run ?_;repeat intro b);rw[dQ (by omega)];exact fE (k+1,gl,cap) 2 [(3,3),(2,2),(1,1),(0,0)] [0,4,7,9,33,34,35] [(3,⟨none,[],33,0⟩),(2,⟨gl,sb L,122,cap * 2⟩),(1,⟨some b9,[.v (S n),.row 2 0 L.length cap,.row 3 0 0 0],45,3⟩),(0,⟨some b4,[.v (S []),.v (.slice none 0 0),.v (.slice none 0 0)],45,3⟩)]
     ⟨hlt,by rw[hst];exact h3,by rw[hst];exact h4⟩ (by simp only;omega) (aM _ _)
     (dU rfl (ff ⟨_,rfl,rfl,rfl,rfl,.inl ⟨rfl,mz _⟩⟩ (dU rfl (dU rfl trivial)))) rfl rfl rfl rfl rfl rfl (by rw[hst])
   have hge:k=l.length:=by omega
   subst hge;rw[aD]at h3 h4 ⊢;have Oh:=hlen l.length;rw[aD]at Oh;have hP:(ej n).length=16:=jJ n;(refine run ?_;repeat intro b);refine gu rfl (by omega) ?_;(refine run ?_;repeat intro b);refine eU (fun q:Nat×Option Nat×Nat=>q.1≤16∧(q.2.1=none→16 - q.1=0∧q.2.2=0)∧16 - q.1≤q.2.2)
    (fun q=>⟨[(0,.v (.slice p l.length c)),(4,.loc 0 0),(7,.v (S (ej n))),(9,.loc 1 0),(12,.v (.int .i64 ((q.1:Int) - 1)))],F,[(4,⟨q.2.1,xu (iv l n (16 - q.1)),33,q.2.2 * 1⟩),(2,⟨gl,sb (iW l (ej n)),122,cap * 2⟩),(1,⟨some b9,[.v (S n),.row 2 0 (iW l (ej n)).length cap,.row 4 0 (16 - q.1) q.2.2],45,3⟩),(0,⟨some b4,[.v (S []),.v (.slice none 0 0),.v (.slice none 0 0)],45,3⟩)],5⟩) (fun q=>q.1) (16,none,0) ⟨ah _,fun _=>⟨rfl,rfl⟩,ah _⟩
    (VS.mM (nx':=5) [(3,4),(2,2),(1,1),(0,0)] [0,4,7,9,12] [(4,⟨none,[],33,0⟩),(2,⟨gl,sb (iW l (ej n)),122,cap * 2⟩),(1,⟨some b9,[.v (S n),.row 2 0 (iW l (ej n)).length cap,.row 4 0 0 0],45,3⟩),(0,⟨some b4,[.v (S []),.v (.slice none 0 0),.v (.slice none 0 0)],45,3⟩)]
     (dU rfl (ff ⟨_,rfl,rfl,rfl,rfl,.inl ⟨rfl,mz _⟩⟩ (dU rfl (dU rfl trivial)))) rfl rfl rfl rfl rfl rfl (by rw[Nat.sub_self,wK,H4];rfl)) ?_
   rintro⟨d1,FX,cap2⟩ ⟨g1,g2,g3⟩;dsimp only at g1 g2 g3 ⊢;cases d1 with
   | zero=>
    (refine run ?_;repeat intro b);cases FX with
    | none=>exact absurd (g2 rfl).1 (by decide)
    | some b3=>
     cases gl with
     | none=>
      obtain⟨e1,e2⟩:=h3 rfl;have e3:iW l (ej n)=[]:=aq e1;exact eM (VS.freeze 4 [4,5] rfl (ui _ _) rfl rfl fun F1 hs1 hf1=>VS.id ⟨_,rfl,DV hE (by rw[e3];exact eG _ none) hf1⟩)
     | some b2=>
      exact eM (VS.freeze 4 [4,5] rfl (ui _ _) rfl rfl fun F1 hs1 hf1=>VS.freeze 2 [4,5] rfl (by rw[DM];exact FC _ _) rfl rfl fun F2 hs2 hf2=>VS.id ⟨_,rfl,DV hE hf2 (dZ hs2 hf1)⟩)
   | succ d=>
    have ed:((d+1:Nat):Int) - 1=(d:Int):=by omega
    rw[ed];have hb:=ra n d (by omega);(refine run ?_;repeat intro b);refine k7 (fun _:Unit=>True) (fun _=>⟨[(0,.v (.slice p l.length c)),(4,.loc 0 0),(7,.v (S (ej n))),(9,.loc 1 0),(12,.v (i64 (d:Nat))),(13,.v (S (vz (ej n) d)))],F,[(4,⟨FX,xu (iv l n (16 - (d+1))),33,cap2 * 1⟩),(2,⟨gl,sb (iW l (ej n)),122,cap * 2⟩),(1,⟨some b9,[.v (S n),.row 2 0 (iW l (ej n)).length cap,.row 4 0 (16 - (d+1)) cap2],45,3⟩),(0,⟨some b4,[.v (S []),.v (.slice none 0 0),.v (.slice none 0 0)],45,3⟩)],5⟩) rfl ?rest ?reg
    case reg=>
     intro u7 kn kr ke;refine fz [] (by kernel_rfl) ?_;refine dR [0,1,3,4] (f':=7) (by kernel_rfl) rfl rfl rfl ?_;(refine run ?_;repeat intro b);refine jC 2 5 (by kernel_rfl) rfl rfl rfl ?_ ?_
     ·refine dI rfl rfl rfl ⟨by omega,by rw[fX];omega⟩ ?_;(refine run ?_;repeat intro b);refine eC (Hp.sub.refl _) trivial ?_;refine dR [5,6,7] (f':=3) (by kernel_rfl) rfl rfl rfl ?_;refine dI rfl rfl rfl ⟨by omega,by rw[fX];omega⟩ ?_;(refine run ?_;repeat intro b);rw[fX,ae,E1 hb];refine dY 8 (by kernel_rfl) rfl rfl ?_;refine Lg (.v (S [qH ((ej n).getD d 0)])) rfl (fun c a w o hs ho=>?_) ?_
      ·have ex:=fI (x:=.tmp 62) hs rfl;simp only[EV.val,aa]at ex;refine⟨_,?_,rfl⟩;simp only[execOp,ho,←ex];rw[Go.TR.run_bind,DI _ _ (E6 hb)];rfl
      (refine run ?_;repeat intro b);refine eC (Hp.sub.refl _) trivial ?_;refine dR [9,10] (f':=0) (by kernel_rfl) rfl rfl rfl ?_;refine dI rfl rfl rfl (by show ((ej n).take d).length+1≤9223372036854775807;rw[aw];omega) ?_;rw[fX,fX,B7];(refine run ?_;repeat intro b);refine fk (by kernel_rfl) ?_;exact kn _ (VS.eH [0,4,7,9,12,13] rfl ⟨(),trivial,rfl⟩)
     refine dI rfl rfl rfl ⟨by omega,by rw[fX];omega⟩ ?_;(refine run ?_;repeat intro b);refine eC (Hp.sub.refl _) trivial ?_;refine dR [2,6,7] (f':=3) (by kernel_rfl) rfl rfl rfl ?_;refine dI rfl rfl rfl ⟨by omega,by rw[fX];omega⟩ ?_;(refine run ?_;repeat intro b);rw[fX,ae,E1 hb];refine dY 8 (by kernel_rfl) rfl rfl ?_;refine Lg (.v (S [qH ((ej n).getD d 0)])) rfl (fun c a w o hs ho=>?_) ?_
     ·have ex:=fI (x:=.tmp 62) hs rfl;simp only[EV.val,aa]at ex;refine⟨_,?_,rfl⟩;simp only[execOp,ho,←ex];rw[Go.TR.run_bind,DI _ _ (E6 hb)];rfl
     (refine run ?_;repeat intro b);refine eC (Hp.sub.refl _) trivial ?_;refine dR [9,10] (f':=0) (by kernel_rfl) rfl rfl rfl ?_;refine dI rfl rfl rfl (by show ((ej n).take d).length+1≤9223372036854775807;rw[aw];omega) ?_;rw[fX,fX,B7];(refine run ?_;repeat intro b);refine fk (by kernel_rfl) ?_;exact kn _ (VS.eH [0,4,7,9,12,13] rfl ⟨(),trivial,rfl⟩)
    rintro _ _;have hgs:=Lv (n:=n) (k:=d) (by omega);obtain⟨r1,r2⟩:=uF h0 hgs;(refine run ?_;repeat intro b);refine dG _ rfl rfl rfl Tr rfl (Bg l (vz (ej n) d) hl hw (by have:=wD hgs;omega) hf) ?_;rw[r1,r2];(refine run ?_;repeat intro b);have es:16 - (d+1)=15 - d:=by omega
    refine fv rfl rfl rfl rfl rfl rfl rfl rfl (fb rfl rfl) (gy _ (l:=[mu (gK l (vz (ej n) d))]) (by simp[one])) g2 g3 rfl (by show (16 - (d+1)) * 1≤_;rw[r8,jv];omega) (by show _ * 8≤_;omega) (fun h=>by cases h) (fun _ b5 c5 wX=>?_);(refine run ?_;repeat intro b);have hcells:(xu (iv l n (16 - (d+1)))).take ((16 - (d+1)) * 1)++[.v (mu (gK l (vz (ej n) d)))]=xu (iv l n (16 - d)):=by
     have:=EU (iv l n (16 - (d+1))) (gK l (vz (ej n) d));rw[jv]at this;rw[zk (d:=d) (by omega),←this]
    have hall: ∀e∈(xu (iv l n (16 - (d+1)))).take ((16 - (d+1)) * 1)++[.v (mu (gK l (vz (ej n) d)))],∃v,e=EV.v v:=fun e he=>by
     rw[hcells]at he;exact Jf _ e he
    have e2:16 - (d+1)+1=16 - d:=by omega
    rw[wrap_i64 (by omega) (by omega),e2];rw[e2]at wX;exact fE (d,some b5,c5) 4 [(6,4),(2,2),(1,1),(0,0)] [0,4,7,9,12] [(4,⟨some b5,xu (iv l n (16 - d)),33,c5 * 1⟩),(2,⟨gl,sb (iW l (ej n)),122,cap * 2⟩),(1,⟨some b9,[.v (S n),.row 2 0 (iW l (ej n)).length cap,.row 4 0 (16 - d) c5],45,3⟩),(0,⟨some b4,[.v (S []),.v (.slice none 0 0),.v (.slice none 0 0)],45,3⟩)]
     ⟨by omega,(fun h=>by cases h),wX⟩ (dm d) (aM _ _)
     (ff ⟨_,rfl,rfl,rfl,rfl,.inl ⟨hcells.symm,hall⟩⟩ (ff ⟨_,rfl,rfl,rfl,rfl,.inl ⟨rfl,mz _⟩⟩ (dU rfl (dU rfl trivial)))) rfl rfl rfl rfl rfl rfl rfl
 ·have hq:=vm (e:=dV l) (wJ n (by rw[h0];decide)) (by rw[h0];decide) F;rw[h0]at hq ⊢;(refine run ?_;repeat intro b);exact eM (VS.id ⟨_,rfl,hq⟩)
 have hq:=vm (e:=dV l) (wJ n (by rw[h0];decide)) (by rw[h0];decide) F;rw[h0]at hq ⊢;(refine run ?_;repeat intro b);exact eM (VS.id ⟨_,rfl,hq⟩)
end Go.Proofs.YthbnddgjkonkdaaGreatDoor
