/- A part of the proof. -/
import Derived.Lib.AppendZeros
import Derived.Test.YthbnddgjkonkdaaGreatDoorSetQueue
set_option linter.unusedVariables false
set_option linter.unusedSimpArgs false
namespace Go.TR
open Go
section
variable {P:Program} {tb:Tb} {N:Nat} {all rest:List Oper} {K:fe→St→Prop} {st:St}
def QE (rs:RL)(op:BinOp):Option EV→Option EV→Option Bool
 | some (.v (.slice p _ _)),some (.v (.slice none 0 0))=>match op with
  | .eql=>some p.isNone
  | .neq=>some (!p.isNone)
  | _=>none
 | some (.row id _ _ _),some (.v (.slice none 0 0))=>match fU rs id with
  | some r=>(match op with
   | .eql=>some r.gq.isNone
   | .neq=>some (!r.gq.isNone)
   | _=>none)
  | none=>none
 | _,_=>none
theorem FN {t e:TypeId}(hp:P.underlying t=some (.slice e))(w:World)(p:Option Addr)(l c:Nat):
  (binOp .eql t (.slice p l c) (.slice none 0 0)).run P w= .ok (.bool p.isNone) w∧(binOp .neq t (.slice p l c) (.slice none 0 0)).run P w= .ok (.bool (!p.isNone)) w:=by
 have h: ∀(d:Nat) (a:Option Addr) (l c:Nat),(Op.equalIn (d+1) t (.slice a l c) (.slice none 0 0)).run P w= .ok a.isNone w:=fun d a l c=>by
  cases a<;>simp[Op.equalIn,run_underlying hp]
 refine⟨?_,?_⟩<;>simp only[binOp]<;>simp[Op.equal,Op.maxDepth,h 9999]
theorem wi {op:BinOp}{t:TypeId}{x y:Operand}(w:World)(p q:Option Addr)(l c l' c':Nat):(eqGuard op t x y (.slice p l c) (.slice q l' c')).run P w= .ok () w:=by
 unfold eqGuard;cases op<;>simp
theorem qg {d:Nat}{op:BinOp}{t u e:TypeId}{x y:Operand}{ty:TypeId}{pos:String}{af:Array Edge}{env:Env}{F:Hp}{rs:RL}{nx:Nat}{b:Bool}(htb:g9 P tb)(ht:tk tb t=some (.slice e))
  (h:QE rs op (gO rs [] env [] x) (gO rs [] env [] y)=some b) (hd:Nat.blt d N=true)
  (k:dW P tb N false all rest K [] ⟨(d,.v (.bool b))::env,F,rs,nx⟩):dW P tb N false all (⟨some d,.binOp op t x y u,ty,pos,af,none⟩::rest) K [] ⟨env,F,rs,nx⟩:=by
 have hu:=jq htb ht;refine rK (.v (.bool b)) hd (fun c a w o hs ho=>⟨.bool b,w,?_,hs,rfl⟩) k;have run:(eqGuard op t x y (a.eval x) (a.eval y)).run P w= .ok () w∧(binOp op t (a.eval x) (a.eval y)).run P w= .ok (.bool b) w:=by
  unfold QE at h;split at h
  ·rename_i p l c' hx hy;have ex:=fM hs hx;have ey:=fM hs hy;simp only[EV.val,aa]at ex ey;rw[←ex,←ey];obtain⟨h1,h2⟩:=FN hu w p l c';have hg:=wi (P:=P) (op:=op) (t:=t) (x:=x) (y:=y) w p none l c' 0 0;split at h<;>simp at h<;>subst h<;>exact⟨hg,by first | exact h1 | simpa using h2⟩
  ·rename_i id o n c' hx hy;have ex:=fM hs hx;have ey:=fM hs hy;simp only[EV.val,aa]at ey;rw[←ey];simp only[EV.val]at ex;cases hr:fU rs id with
   | none=>rw[hr]at h;cases h
   | some r=>
    rw[hr]at h ex;simp only[aa]at ex;rw[←ex];obtain⟨h1,h2⟩:=FN hu w (r.gq.map fun b=>⟨b,o,none⟩) n c';have hg:=wi (P:=P) (op:=op) (t:=t) (x:=x) (y:=y) w (r.gq.map fun b=>⟨b,o,none⟩) none n c' 0 0;simp only[Option.isNone_map]at h1 h2;simp only at h;split at h<;>simp at h<;>subst h<;>exact⟨hg,by first | exact h1 | simpa using h2⟩
  cases h
 simp[execOp,ho,run.1,run.2]
end
theorem eD.drop {P:Program}{F:Hp}{f:FuncId}{args:List Value}{Q:Value→Hp→Prop}(h:eD P F f args fun x F' _=>Q x F'):iy P F f args Q:=fun w hw=>by
 refine (h w hw).mono fun e w' hh=>?_;obtain⟨x,F',new,h1,h2,h3,h4,h5,h6,h7,h8⟩:=hh;exact⟨x,F',[],h1,h2,h3,h4,h5,⟨fun id r hr=>by simp[fU]at hr,fun i j r s b hi=>by simp[fU]at hi⟩,fun id r b hr=>by simp[fU]at hr,rfl,h8⟩
theorem eD.Mu {P:Program}{F:Hp}{f:FuncId}{args:List Value}{e:TypeId}{size n:Nat}{cs:List Value}(hn:n=0→cs=[])(h:eD P F f args fun x _ new=>mC e size cs n x new):iy P F f args fun x F'=>∃p c,x= .slice p n c∧n≤c∧e9 F' p cs:=fun w hw=>by
 refine (h w hw).mono fun ex w' hh=>?_;obtain⟨x,F',new,h1,h2,h3,h4,h5,h6,h7,h8⟩:=hh;have nil:nv F' [] w':=⟨fun id r hr=>by simp[fU]at hr,fun i j r s b hi=>by simp[fU]at hi⟩;rcases h8 with⟨h9,rfl,p,rfl⟩ | ⟨h9,b,c,h10,rfl,rfl⟩
 ·subst h9;exact⟨_,F',[],h1,h2,h3,h4,h5,nil,fun id r b hr=>by simp[fU]at hr,rfl,p,0,rfl,ah _,by rw[hn rfl];intro j u hj;simp at hj⟩
 have hown:=h6.own 0 _ (by rw[fb,aZ rfl]);simp only at hown;obtain⟨g1,g2,cur,g3,g4,g5⟩:=hown;have hbn:w.heap.size≤b:=h7 0 _ b (by rw[fb,aZ rfl]) (.inl rfl);refine⟨_,fun k=>if k=b then some (.cells cur e (0,0)) else F' k,[],h1,fun k o hk=>?_,fun k o hk=>?_,h4,fun k hk=>?_,⟨fun id r hr=>by simp[fU]at hr,fun i j r s b hi=>by simp[fU]at hi⟩,fun id r b hr=>by simp[fU]at hr,rfl,_,c,rfl,h10,fun j u hj=>?_⟩
 ·have:=h2 k o hk;simp only;rw[aY (fun hkb=>by rw[hkb,g1]at this;cases this)];exact this
 ·simp only at hk;split at hk
  ·rename_i hkb;subst hkb;rw[←hk];exact g3
  exact h3 k o hk
 ·simp only at hk;split at hk
  ·rename_i hkb;subst hkb;exact .inr hbn
  exact h5 k hk
 have hc:=g5 j (.v u) u (by rw[aI,hj];rfl) rfl;cases j with
 | zero=>simpa [gi,iw,jz,Addr.add] using hc
 | succ j=>simpa [gi,iw,jz,Addr.add] using hc
section
variable {P:Program} {tb:Tb} {N:Nat} {KK:Exit→St→Prop} {st:St}
def yu:Code→Bool
 | .region _ _ _=>true
 | .seq x _=>yu x
 | .block _ x=>yu x
 | _=>false
theorem Ln: ∀{c:Code}{KK:Exit→St→Prop}{st:St},yu c=true→(VS N [] st fun st=>vc P tb N c KK st)→vc P tb N c KK st
 | .region _ _ _,_,_,_,hv=>mA hv
 | .seq x y,KK,st,h,hv=>by
  show vc P tb N x (gz (vc P tb N y KK) KK) st;exact Ln (c:=x) h hv
 | .block id x,KK,st,h,hv=>by
  show vc P tb N x (fg id KK) st;exact Ln (c:=x) h hv
 | .skip,_,_,h,_=>by cases h
 | .ret,_,_,h,_=>by cases h
 | .exit _,_,_,h,_=>by cases h
 | .cond _ _ _,_,_,h,_=>by cases h
 | .loop _,_,_,h,_=>by cases h
 | .goto _,_,_,h,_=>by cases h
theorem lp {x c:Code}{β:Type}(JP:β→Prop)(J:β→St)(hc:yu c=true)(hJ: ∀j,JP j→vc P tb N c KK (J j))
  (hx: ∀vb:Exit→St→Prop,(∀st,(VS N [] st fun st'=>∃j,JP j∧st'=J j)→vb .normal st)→(∀st,KK .ret st→vb .ret st)→(∀i st,KK (.exit i) st→vb (.exit i) st)→vc P tb N x vb st):vc P tb N x (gz (vc P tb N c KK) KK) st:=
 hx _ (fun st h=>Ln hc (fun c' a w hs=>by
  obtain⟨st',h1,j,h2,rfl⟩:=h c' a w hs;exact⟨_,h1,hJ j h2⟩)) (fun _ h=>h) (fun _ _ h=>h)
end
end Go.TR
namespace Go.Proofs.YthbnddgjkonkdaaGreatDoor
section
open Go.TR
attribute [local irreducible] vc dW gz fg fD gF gJ gB fJ Plain eD eX dK VS fv fA fG jt fh IntKind.wrap
set_option maxRecDepth 100000
theorem Br (cs:List Value)(n:Nat){p:Option Addr}{c:Nat}{F:Hp}(hl:cs.length=n * 4)(hf:e9 F p cs)(h1: ∀x∈cs,Go.TR.one (.v x)=true)(hb:n * 48≤140737488355328):eD Tryz.prog F 93 [.slice p n c] (fun x _ new=>mC 35 4 cs n x new):=by
 refine fW (N:=8) (rv:=[.tmp 2]) eW mixed Tryz.func93 rfl rfl rfl rfl rfl ?_;(refine run ?_;repeat intro b);refine qg (b:=p.isNone) eW rfl rfl rfl ?_;cases p with
 | none=>
  have hn:n=0:=by
   rcases dk n with h | h
   ·exact h
   have:=dR hf (j:=0) (by rw[hl];omega);cases this
  subst hn;(refine run ?_;repeat intro b);refine eU (VS.id ⟨_,rfl,.inl ⟨rfl,rfl,none,rfl⟩⟩)
 | some a=>
  (refine run ?_;repeat intro b);refine fy rfl rfl rfl rfl rfl rfl rfl rfl (iX hl hf) (gC _ h1) (fun h=>by cases h) (ah 0) rfl (az _) (by show (0+n) * 48≤_;omega) (fun hn=>?_) (fun hn b2 c2 hc2=>?_)
  ·subst hn;(refine run ?_;repeat intro b);refine eU ?_;refine VS.freeze 0 [2] rfl (cs:=[]) rfl rfl rfl fun F' hs1 hf1=>VS.id ⟨_,rfl,.inl ⟨rfl,rfl,_,rfl⟩⟩
  (refine run ?_;repeat intro b);simp only[aP]at hc2 ⊢;refine mH (qQ.mP (nx':=1) [(1,0)] [2] [(0,⟨some b2,cs.map EV.v,35,c2 * 4⟩)] (fi ⟨_,rfl,rfl,rfl,rfl,.inl ⟨rfl,fun e he=>fz _ e he⟩⟩ trivial) rfl rfl rfl rfl rfl rfl ⟨_,rfl,.inr ⟨hn,b2,c2,hc2,rfl,rfl⟩⟩)
end
section
open Go.TR
theorem Sm (x y:Ask):(!(decide (bl (jE x.name)=bl (jE y.name))&&(decide (bl (jE x.value)=bl (jE y.value))&&(((x.n:Nat):Int)==((y.n:Nat):Int)&&(((x.tag:Nat):Int)==((y.tag:Nat):Int)&&true)))))=decide (x≠y):=by
 obtain⟨a,b,c,d⟩:=x;obtain⟨a',b',c',d'⟩:=y;simp only[ga,ne_eq,Ask.mk.injEq];by_cases h1:a=a'<;>by_cases h2:b=b'<;>by_cases h3:c=c'<;>by_cases h4:d=d'<;>simp[h1,h2,h3,h4]<;>omega
attribute [local irreducible] vc dW gz fg fD gF gJ gB fJ Plain eD eX dK VS fv fA fG jt fh IntKind.wrap
set_option maxRecDepth 100000
set_option maxHeartbeats 1000000 in
theorem E7 (l1 l2:List Ask){p1 p2:Option Addr}{c1 c2:Nat}{F:Hp}(h1:e9 F p1 (l1.flatMap Ask.cells))(h2:e9 F p2 (l2.flatMap Ask.cells))(hn:l1.length≤4611686018427387904):Plain Tryz.prog F 181 [.slice p1 l1.length c1,.slice p2 l2.length c2] (.bool (decide (l1=l2))):=by
 refine dQ (N:=26) (rv:=[.tmp 4]) eW mixed Tryz.func181 rfl rfl rfl rfl rfl ?_;(refine run ?_;repeat intro b);refine eE _ rfl (fun h=>?_) (fun h=>?_)
 ·(refine run ?_;repeat intro b);have hne:l1≠l2:=by rintro rfl;simp at h
  simp[gH,hne]
 have hl:l1.length=l2.length:=by simp at h;omega
 (refine run ?_;repeat intro b);refine eY (fun k:Nat=>k≤l1.length∧l1.take k=l2.take k) (fun k=>⟨[(0,.v (.slice p1 l1.length c1)),(1,.v (.slice p2 l2.length c2)),(12,.v (i64 l1.length)),(13,.v (i64 (k:Nat)))],F,[],0⟩) (fun k=>l1.length - k) 0 ⟨az _,rfl⟩ (VS.eL [0,1,12,13] rfl rfl) ?_;rintro k ⟨hk,ht⟩;by_cases hlt:k<l1.length
 ·have hlt2:k<l2.length:=by omega
  obtain⟨o1,o2⟩:=fa gn (by decide) h1 k hlt;obtain⟨o3,o4⟩:=fa gn (by decide) h2 k hlt2;obtain⟨x,hx⟩: ∃x,x=l1[k]:=⟨_,rfl⟩;obtain⟨y,hy⟩: ∃y,y=l2[k]:=⟨_,rfl⟩;rw[←hx]at o2;rw[←hy]at o4;(refine run ?_;repeat intro b);refine gw rfl (by omega) ?_;(refine run ?_;repeat intro b);refine fO (by kernel_rfl) ?_;(refine run ?_;repeat intro b);refine dL rfl rfl rfl ⟨by omega,by omega,dR h1 (j:=k * 4) (by rw[dO gn];omega)⟩ ?_;refine fB x.cells rfl rfl rfl rfl rfl (by rw[ae];exact o1) (by rw[ae];exact o2) ?_;(refine run ?_;repeat intro b);refine dL rfl rfl rfl ⟨by omega,by omega,dR h2 (j:=k * 4) (by rw[dO gn];omega)⟩ ?_;refine fB y.cells rfl rfl rfl rfl rfl (by rw[ae];exact o3) (by rw[ae];exact o4) ?_;(refine run ?_;repeat intro b);refine eE (decide (x≠y)) (a8 (fun b=>some (EV.v (.bool b))) (Sm x y)) (fun h4=>?_) (fun h4=>?_)
  ·(refine run ?_;repeat intro b);have hne:l1≠l2:=pO hlt hlt2 (by rw[←hx,←hy];exact ar h4);simp[gH,hne]
  (refine run ?_;repeat intro b);rw[dT (by omega)];exact fp (k+1) ⟨hlt,my ht hlt hlt2 (by rw[←hx,←hy];simpa using h4)⟩ (by omega) (VS.eL [0,1,12,13] rfl rfl)
 have hge:k=l1.length:=by omega
 subst hge;(refine run ?_;repeat intro b);refine gy rfl (by omega) ?_;(refine run ?_;repeat intro b);have he:l1=l2:=by rw[aD]at ht;rw[ht,hl,aD]
 simp[gH,he]
theorem CL (q1 q2:Queue){p1 p2:Option Addr}{c1 c2:Nat}{F:Hp}(h1:e9 F p1 (q1.wait.flatMap Ask.cells))(h2:e9 F p2 (q2.wait.flatMap Ask.cells))(hn:q1.wait.length≤4611686018427387904):Plain Tryz.prog F 119 [qv q1.most p1 q1.wait.length c1,qv q2.most p2 q2.wait.length c2] (.bool (decide (q1=q2))):=by
 obtain⟨m1,l1⟩:=q1;obtain⟨m2,l2⟩:=q2;simp only at h1 h2 hn ⊢;refine dQ (N:=17) (rv:=[.tmp 4]) eW mixed Tryz.func119 rfl rfl rfl rfl rfl ?_;(refine run ?_;repeat intro b);refine gm _ rfl rfl rfl rfl U0 rfl rfl (fun _=>E7 l1 l2 h1 h2 hn) ?_;(refine run ?_;repeat intro b);rw[fK];simp only[gH];congr 1;rw[ai];simp
end
section
open Go.TR
def oL (q:Queue)(a:Ask):Int:=if fj q=0 then (if eR a.name a.value=0 then (if (q.wait.length:Int)=q.most then 7 else 0) else eR a.name a.value) else fj q
def sL (q:Queue)(a:Ask):Queue:=if oL q a=0 then ⟨q.most,q.wait++[a]⟩ else Queue.nil
def yF (q:Queue)(a:Ask):Int:=if oL q a=0 then (q.wait.length:Int) else 0
theorem qI {q:Queue}(h:fj q=0):1≤q.most∧q.most≤30∧(q.wait.length:Int)≤q.most:=by
 unfold fj at h;split at h
 ·cases h
 split at h
 ·cases h
 omega
theorem vw (l:List Ask)(a:Ask):(l++[a]).flatMap Ask.cells=l.flatMap Ask.cells++a.cells:=by simp
theorem sf (rs:RL)(a:Ask):ll rs (a.cells.map .v):=gC rs fun x hx=>xE [a] x (by simpa using hx)
attribute [local irreducible] vc dW gz fg fD gF gJ gB fJ Plain eD eX dK VS fv fA fG jt fh IntKind.wrap
set_option maxRecDepth 100000
set_option maxHeartbeats 2000000 in
theorem Fv (q:Queue)(a:Ask)(hw:q.wf)(ha:a.wf){p:Option Addr}{c:Nat}{F:Hp}(hf:e9 F p (q.wait.flatMap Ask.cells)):iy Tryz.prog F 37 [qv q.most p q.wait.length c,a.v] (fun x F'=>∃p c,x=triple (qv (sL q a).most p (sL q a).wait.length c) (i64 (yF q a)) (i64 (oL q a))∧e9 F' p ((sL q a).wait.flatMap Ask.cells)∧(sL q a).wait.length≤c):=by
 refine eD.drop ?_;refine fW (N:=42) (rv:=[.cell 4 24,.tmp 5,.tmp 6]) eW mixed Tryz.func37 rfl rfl rfl rfl rfl ?_;have SQ:=oQ q hw (c:=c) hf;have hri:=sQ a ha F;have hE: ∀e,e≠0→oL q a=e→sL q a=Queue.nil∧yF q a=0:=fun e he h=>by
  unfold sL yF;rw[h,aY he,aY he];exact⟨rfl,rfl⟩
 (refine run ?_;repeat intro b);refine dJ _ rfl rfl rfl Rv rfl SQ ?_;(refine run ?_;repeat intro b);refine eE (decide (fj q=0)) ?_ (fun h=>?_) (fun h=>?_)
 ·refine dV ?_;rw[ai];simp
 ·have h0:fj q=0:=ar h;obtain⟨g1,g2,g3⟩:=qI h0;(refine run ?_;repeat intro b);refine dJ _ rfl rfl rfl Va rfl hri ?_;(refine run ?_;repeat intro b);by_cases h1:eR a.name a.value=0
  ·rw[h1];by_cases h2:(q.wait.length:Int)=q.most
   ·have e1:oL q a=7:=by unfold oL;rw[aZ h0,aZ h1,aZ h2]
    obtain⟨e2,e3⟩:=hE 7 (by decide) e1;rw[e1,e2,e3];(refine run ?_;repeat intro b);refine eE true ?_ (fun _=>?_) (fun h=>by cases h)
    ·refine dV ?_;show (((q.wait.length:Nat):Int)==q.most)=true;rw[beq_iff_eq];exact h2
    (refine run ?_;repeat intro b);exact eU (VS.id ⟨_,rfl,none,0,rfl,eJ _ _,ah _⟩)
   have e1:oL q a=0:=by unfold oL;rw[aZ h0,aZ h1,aY h2]
   have e2:sL q a=⟨q.most,q.wait++[a]⟩:=by unfold sL;rw[aZ e1]
   have e3:yF q a=(q.wait.length:Int):=by unfold yF;rw[aZ e1]
   rw[e1,e2,e3];have hcl:=Br (q.wait.flatMap Ask.cells) q.wait.length (dO gn _) hf (xE _) (c:=c) (by omega);(refine run ?_;repeat intro b);refine eE false ?_ (fun h=>by cases h) (fun _=>?_)
   ·refine dV ?_;show (((q.wait.length:Nat):Int)==q.most)=false;rw[dD];exact h2
   (refine run ?_;repeat intro b);refine fC [0,1] (by kernel_rfl) ?_;refine dU [0,1,2,3,5,9] (f':=7) (by kernel_rfl) rfl rfl rfl ?_;(refine run ?_;repeat intro b);refine jF 4 6 (by kernel_rfl) rfl rfl rfl ?_ ?_
   ·refine nC (R:=fun _ cs=>cs=q.wait.flatMap Ask.cells) (fun x F' new h=>⟨_,h,rfl⟩) rfl rfl rfl Mv rfl hcl (fun hk0 F1 p1 cs hF1 hcs=>?_) (fun hk1 F1 b1 c1 cs hF1 hc1 hcs=>?_)
    ·(refine run ?_;repeat intro b);refine eG hF1 (dP rfl) ?_;refine ee 6 (by kernel_rfl) rfl rfl ?_;(refine run ?_;repeat intro b);(refine run ?_;repeat intro b);refine eG (Hp.sub.refl _) (dP rfl) ?_;refine ee 7 (by kernel_rfl) rfl rfl ?_;refine jA [] rfl rfl rfl rfl rfl rfl rfl (eJ _ _) (ff rfl rfl) (sf _ a) (by decide) (fun h=>by cases h) (fun _ b2 c2 hc2=>?_);(refine run ?_;repeat intro b);refine eG (Hp.sub.refl _) (dP rfl) ?_;refine dU [8] (f':=3) (by kernel_rfl) rfl rfl rfl ?_;(refine run ?_;repeat intro b);refine ee 10 (by kernel_rfl) rfl rfl ?_;(refine run ?_;repeat intro b);refine eG (Hp.sub.refl _) (dP rfl) ?_;refine dU [11,12] (f':=0) (by kernel_rfl) rfl rfl rfl ?_;(refine run ?_;repeat intro b);refine fq (by kernel_rfl) ?_;(refine run ?_;repeat intro b);have hnil:q.wait=[]:=aq hk0;rw[hnil];refine eU ?_;refine VS.freeze 4 [4,5,6] rfl (eH a.cells) rfl rfl fun F' hs1 hf1=>VS.id ⟨_,rfl,some ⟨b2,0,none⟩,c2,rfl,hf1,hc2⟩
    (refine run ?_;repeat intro b);refine eG hF1 (dP rfl) ?_;refine ee 6 (by kernel_rfl) rfl rfl ?_;(refine run ?_;repeat intro b);(refine run ?_;repeat intro b);refine eG (Hp.sub.refl _) (dP rfl) ?_;refine ee 7 (by kernel_rfl) rfl rfl ?_;subst hcs;refine fy rfl rfl rfl rfl rfl rfl rfl rfl (ff rfl rfl) (sf _ a) (fun h=>by cases h) hc1 rfl (by rw[ab,dO gn];exact ah _) (by show _ * 48≤_;omega) (fun h=>by cases h) (fun _ b2 c2 hc2=>?_);(refine run ?_;repeat intro b);refine eG (Hp.sub.refl _) (dP rfl) ?_;refine dU [8] (f':=3) (by kernel_rfl) rfl rfl rfl ?_;(refine run ?_;repeat intro b);refine ee 10 (by kernel_rfl) rfl rfl ?_;(refine run ?_;repeat intro b);refine eG (Hp.sub.refl _) (dP rfl) ?_;refine dU [11,12] (f':=0) (by kernel_rfl) rfl rfl rfl ?_;(refine run ?_;repeat intro b);refine fq (by kernel_rfl) ?_;(refine run ?_;repeat intro b);refine eU ?_;have hcells:((q.wait.flatMap Ask.cells).map EV.v).take (q.wait.length * 4)++a.cells.map EV.v=((q.wait++[a]).flatMap Ask.cells).map EV.v:=by
     rw[vw,aF,an (by rw[ab,dO gn];exact ah _)]
    refine VS.freeze 5 [4,5,6] rfl ((a8 (iZ _) hcells).trans (eH _)) rfl rfl fun F' hs1 hf1=>VS.id ⟨_,rfl,some ⟨b2,0,none⟩,c2,by rw[ag];rfl,hf1,by rw[ag];exact hc2⟩
   (refine run ?_;repeat intro b);(refine run ?_;repeat intro b);refine eG (Hp.sub.refl _) (dP rfl) ?_;refine ee 4 (by kernel_rfl) rfl rfl ?_;refine nC (R:=fun _ cs=>cs=q.wait.flatMap Ask.cells) (fun x F' new h=>⟨_,h,rfl⟩) rfl rfl rfl Mv rfl hcl (fun hk0 F1 p1 cs hF1 hcs=>?_) (fun hk1 F1 b1 c1 cs hF1 hc1 hcs=>?_)
   ·(refine run ?_;repeat intro b);refine eG hF1 (dP rfl) ?_;refine ee 7 (by kernel_rfl) rfl rfl ?_;refine jA [] rfl rfl rfl rfl rfl rfl rfl (eJ _ _) (ff rfl rfl) (sf _ a) (by decide) (fun h=>by cases h) (fun _ b2 c2 hc2=>?_);(refine run ?_;repeat intro b);refine eG (Hp.sub.refl _) (dP rfl) ?_;refine dU [8] (f':=3) (by kernel_rfl) rfl rfl rfl ?_;(refine run ?_;repeat intro b);refine ee 10 (by kernel_rfl) rfl rfl ?_;(refine run ?_;repeat intro b);refine eG (Hp.sub.refl _) (dP rfl) ?_;refine dU [11,12] (f':=0) (by kernel_rfl) rfl rfl rfl ?_;(refine run ?_;repeat intro b);refine fq (by kernel_rfl) ?_;(refine run ?_;repeat intro b);have hnil:q.wait=[]:=aq hk0;rw[hnil];refine eU ?_;refine VS.freeze 4 [4,5,6] rfl (eH a.cells) rfl rfl fun F' hs1 hf1=>VS.id ⟨_,rfl,some ⟨b2,0,none⟩,c2,rfl,hf1,hc2⟩
   (refine run ?_;repeat intro b);refine eG hF1 (dP rfl) ?_;refine ee 7 (by kernel_rfl) rfl rfl ?_;subst hcs;refine fy rfl rfl rfl rfl rfl rfl rfl rfl (ff rfl rfl) (sf _ a) (fun h=>by cases h) hc1 rfl (by rw[ab,dO gn];exact ah _) (by show _ * 48≤_;omega) (fun h=>by cases h) (fun _ b2 c2 hc2=>?_);(refine run ?_;repeat intro b);refine eG (Hp.sub.refl _) (dP rfl) ?_;refine dU [8] (f':=3) (by kernel_rfl) rfl rfl rfl ?_;(refine run ?_;repeat intro b);refine ee 10 (by kernel_rfl) rfl rfl ?_;(refine run ?_;repeat intro b);refine eG (Hp.sub.refl _) (dP rfl) ?_;refine dU [11,12] (f':=0) (by kernel_rfl) rfl rfl rfl ?_;(refine run ?_;repeat intro b);refine fq (by kernel_rfl) ?_;(refine run ?_;repeat intro b);refine eU ?_;have hcells:((q.wait.flatMap Ask.cells).map EV.v).take (q.wait.length * 4)++a.cells.map EV.v=((q.wait++[a]).flatMap Ask.cells).map EV.v:=by
    rw[vw,aF,an (by rw[ab,dO gn];exact ah _)]
   refine VS.freeze 5 [4,5,6] rfl ((a8 (iZ _) hcells).trans (eH _)) rfl rfl fun F' hs1 hf1=>VS.id ⟨_,rfl,some ⟨b2,0,none⟩,c2,by rw[ag];rfl,hf1,by rw[ag];exact hc2⟩
  have e1:oL q a=eR a.name a.value:=by unfold oL;rw[aZ h0,aY h1]
  obtain⟨e2,e3⟩:=hE _ h1 e1;rw[e1,e2,e3];generalize eR a.name a.value=e at h1;(refine run ?_;repeat intro b);refine eE false ?_ (fun h=>by cases h) (fun _=>?_)
  ·refine dV ?_;rw[fK,dD.2 h1];rfl
  (refine run ?_;repeat intro b);refine eE true ?_ (fun _=>?_) (fun h=>by cases h)
  ·refine dV ?_;rw[bne_iff_ne];exact h1
  (refine run ?_;repeat intro b);exact eU (VS.id ⟨_,rfl,none,0,rfl,eJ _ _,ah _⟩)
 have h0: ¬fj q=0:=au h;have e1:oL q a=fj q:=by unfold oL;rw[aY h0]
 obtain⟨e2,e3⟩:=hE _ h0 e1;rw[e1,e2,e3];generalize fj q=e at h0;(refine run ?_;repeat intro b);refine eE false ?_ (fun h=>by cases h) (fun _=>?_)
 ·refine dV ?_;rw[fK,dD.2 h0];rfl
 (refine run ?_;repeat intro b);refine eE true ?_ (fun _=>?_) (fun h=>by cases h)
 ·refine dV ?_;rw[bne_iff_ne];exact h0
 (refine run ?_;repeat intro b);exact eU (VS.id ⟨_,rfl,none,0,rfl,eJ _ _,ah _⟩)
end
section
open Go.TR
def pN (q:Queue)(n:Int):Int:=if fj q=0 then (if n<0 then 4 else 0) else fj q
def lQ (q:Queue)(n:Int):Nat:=min n.toNat q.wait.length
def sJ (q:Queue)(n:Int):Queue:=if pN q n=0 then ⟨q.most,q.wait.drop (lQ q n)⟩ else Queue.nil
def wR (q:Queue)(n:Int):List Ask:=if pN q n=0 then q.wait.take (lQ q n) else []
theorem tt (l:List Ask)(n:Nat){p:Option Addr}{c:Nat}{F:Hp}(hn:n=l.length)(hf:e9 F p (l.flatMap Ask.cells))(hb:n≤1000000000000):iy Tryz.prog F 93 [.slice p n c] (fun x F'=>∃p c,x= .slice p n c∧n≤c∧e9 F' p (l.flatMap Ask.cells)):=
 eD.Mu (fun h=>by rw[aq (by omega:l.length=0)];rfl) (Br (l.flatMap Ask.cells) n (by rw[dO gn,hn]) hf (xE _) (by omega))
attribute [local irreducible] vc dW gz fg fD gF gJ gB fJ Plain eD eX dK VS fv fA fG jt fh IntKind.wrap
set_option maxRecDepth 100000
set_option maxHeartbeats 2000000 in
theorem B1 (q:Queue)(n:Int)(hw:q.wf){p:Option Addr}{c:Nat}{F:Hp}(hc:q.wait.length≤c)(hf:e9 F p (q.wait.flatMap Ask.cells)):iy Tryz.prog F 42 [qv q.most p q.wait.length c,i64 n] (fun x F'=>∃p c p2 c2,x=triple (qv (sJ q n).most p (sJ q n).wait.length c) (.slice p2 (wR q n).length c2) (i64 (pN q n))∧e9 F' p ((sJ q n).wait.flatMap Ask.cells)∧e9 F' p2 ((wR q n).flatMap Ask.cells)∧(sJ q n).wait.length≤c):=by
 refine eD.drop ?_;refine fW (N:=35) (rv:=[.cell 4 24,.tmp 5,.tmp 6]) eW mixed Tryz.func42 rfl rfl rfl rfl rfl ?_;have SQ:=oQ q hw (c:=c) hf;have hE: ∀e,e≠0→pN q n=e→sJ q n=Queue.nil∧wR q n=[]:=fun e he h=>by
  unfold sJ wR;rw[h,aY he,aY he];exact⟨rfl,rfl⟩
 (refine run ?_;repeat intro b);refine dJ _ rfl rfl rfl Rv rfl SQ ?_;(refine run ?_;repeat intro b);refine eE (decide (fj q≠0)) ?_ (fun h=>?_) (fun h=>?_)
 ·refine dV ?_;rw[ai];simp
 ·have h0:fj q≠0:=ar h;have e1:pN q n=fj q:=by unfold pN;rw[aY h0]
  obtain⟨e2,e3⟩:=hE _ h0 e1;rw[e1,e2,e3];(refine run ?_;repeat intro b);exact eU (VS.id ⟨_,rfl,none,0,none,0,rfl,eJ _ _,eJ _ _,ah _⟩)
 have h0:fj q=0:=by simpa using h
 obtain⟨g1,g2,g3⟩:=qI h0;(refine run ?_;repeat intro b);refine eE (decide (n<0)) rfl (fun h2=>?_) (fun h2=>?_)
 ·have e1:pN q n=4:=by unfold pN;rw[aZ h0,aZ (ar h2)]
  obtain⟨e2,e3⟩:=hE 4 (by decide) e1;rw[e1,e2,e3];(refine run ?_;repeat intro b);exact eU (VS.id ⟨_,rfl,none,0,none,0,rfl,eJ _ _,eJ _ _,ah _⟩)
 have h2': ¬n<0:=au h2;have e1:pN q n=0:=by unfold pN;rw[aZ h0,aY h2']
 have e2:sJ q n=⟨q.most,q.wait.drop (lQ q n)⟩:=by unfold sJ;rw[aZ e1]
 have e3:wR q n=q.wait.take (lQ q n):=by unfold wR;rw[aZ e1]
 rw[e1,e2,e3];have hmin:(if ((q.wait.length:Nat):Int)<n then ((q.wait.length:Nat):Int) else n)=((lQ q n:Nat):Int):=by
  unfold lQ;split<;>omega
 have hm:lQ q n≤q.wait.length:=by unfold lQ;omega
 have hl1:(q.wait.drop (lQ q n)).length=q.wait.length - lQ q n:=aR;have hl2:(q.wait.take (lQ q n)).length=lQ q n:=by rw[aw];omega
 have f1:=mL gn hf (lQ q n) c hm hc;have f2:e9 F (jJ p 0 c 4) ((q.wait.take (lQ q n)).flatMap Ask.cells):=by
  have:jJ p 0 c 4=p:=by
   unfold jJ;split
   ·rfl
   cases p with
   | none=>rfl
   | some ad=>simp[Addr.add]
  rw[this];exact nN gn hf _
 have hcl:=tt (q.wait.drop (lQ q n)) (q.wait.length - lQ q n) (c:=c - lQ q n) hl1.symm f1 (by omega);(refine run ?_;repeat intro b);rw[hmin];refine fC [0] (by kernel_rfl) ?_;refine dU [0,1,2,3,4,5,8,9,10,11] (f':=6) (by kernel_rfl) rfl rfl rfl ?_;(refine run ?_;repeat intro b);refine dL rfl rfl rfl ⟨by omega,by omega,hc⟩ ?_;rw[ae];(refine run ?_;repeat intro b);refine dL rfl rfl rfl ⟨by omega,by omega⟩ ?_;rw[ae];(refine run ?_;repeat intro b);refine ee 6 (by kernel_rfl) rfl rfl ?_;refine fm rfl rfl rfl Mv rfl hcl ?_;rintro _ F1 hF1 ⟨pa,ca,rfl,Sy,hfa⟩;(refine run ?_;repeat intro b);refine eG hF1 (dP rfl) ?_;refine dU [7] (f':=4) (by kernel_rfl) rfl rfl rfl ?_;(refine run ?_;repeat intro b);refine ee 12 (by kernel_rfl) rfl rfl ?_;refine fm rfl rfl rfl Mv rfl (tt (q.wait.take (lQ q n)) (lQ q n) (c:=c) hl2.symm (eu hF1 f2) (by omega)) ?_;rintro _ F2 hF2 ⟨pb,cb,rfl,hcb,wZ⟩;(refine run ?_;repeat intro b);refine eG hF2 (dP rfl) ?_;refine ee 13 (by kernel_rfl) rfl rfl ?_;(refine run ?_;repeat intro b);refine eG (Hp.sub.refl _) (dP rfl) ?_;refine dU [14,15] (f':=0) (by kernel_rfl) rfl rfl rfl ?_;(refine run ?_;repeat intro b);refine fq (by kernel_rfl) ?_;(refine run ?_;repeat intro b);exact eU (VS.id ⟨_,rfl,pa,ca,pb,cb,by rw[hl1,hl2];rfl,eu hF2 hfa,wZ,by rw[hl1];exact Sy⟩)
end
section
open Go.TR
theorem nq (n:Int):IntKind.u64.wrap n=n % 18446744073709551616:=by
 simp[IntKind.wrap,IntKind.bits,IntKind.signed]
theorem Ox (n:Int):IntKind.u8.wrap n=n % 256:=by
 simp[IntKind.wrap,IntKind.bits,IntKind.signed]
theorem IZ (a b:Nat):IntKind.u64.wrap ((a:Int)+(b:Int))=(((a+b) % 18446744073709551616:Nat):Int):=by rw[nq];omega
theorem Uu (a b:Nat):IntKind.u64.wrap ((a:Int) * (b:Int))=(((a * b) % 18446744073709551616:Nat):Int):=by rw[nq,←Int.natCast_mul];omega
theorem Sq (a:Nat):IntKind.u64.wrap (2 * (a:Int))=(((2 * a) % 18446744073709551616:Nat):Int):=by rw[nq];omega
theorem Lt (a:Nat):IntKind.u64.wrap (4294967296 * (a:Int))=(((a * 4294967296) % 18446744073709551616:Nat):Int):=by rw[nq];omega
theorem Cf (a:Nat)(h:1≤a)(h2:a<18446744073709551616):IntKind.u64.wrap ((a:Int) - 1)=((a - 1:Nat):Int):=by rw[nq];omega
theorem IA (a b:Nat)(h:a<18446744073709551616):IntKind.u64.wrap ((a:Int).tdiv (b:Int))=((a / b:Nat):Int):=by
 have e:(a:Int).tdiv (b:Int)=((a / b:Nat):Int):=(Int.ofNat_tdiv a b).symm;rw[e,nq];have:a / b≤a:=Nat.div_le_self _ _;generalize a / b=q at *;omega
theorem tH (a b:Nat):(a:Int).tmod (b:Int)=((a % b:Nat):Int):=Int.ofNat_tmod a b ▸ rfl
theorem C3 (a:Nat):Int.fdiv (a:Int) (2 ^ min (Int.toNat 32) IntKind.u64.bits)=((a / 4294967296:Nat):Int):=by
 have:(2 ^ min (Int.toNat 32) IntKind.u64.bits:Int)=((4294967296:Nat):Int):=by decide
 rw[this,←bG]
theorem OM (a:Nat):Int.fdiv (a:Int) (2 ^ min (Int.toNat 16) IntKind.u64.bits)=((a / 65536:Nat):Int):=by
 have:(2 ^ min (Int.toNat 16) IntKind.u64.bits:Int)=((65536:Nat):Int):=by decide
 rw[this,←bG]
theorem Sn (a:Nat):Int.fdiv (a:Int) (2 ^ min (Int.toNat 8) IntKind.u64.bits)=((a / 256:Nat):Int):=by
 have:(2 ^ min (Int.toNat 8) IntKind.u64.bits:Int)=((256:Nat):Int):=by decide
 rw[this,←bG]
theorem Jd (a:Nat):IntKind.u64.wrap (((BitVec.ofInt IntKind.u64.bits (a:Int) &&& BitVec.ofInt IntKind.u64.bits 4294967295).toNat:Nat):Int)=((a % 4294967296:Nat):Int):=by
 have h1:(BitVec.ofInt IntKind.u64.bits (a:Int) &&& BitVec.ofInt IntKind.u64.bits 4294967295).toNat=a % 4294967296:=by
  rw[BitVec.toNat_and];have e1:(BitVec.ofInt IntKind.u64.bits (a:Int)).toNat=a % 18446744073709551616:=by simp[IntKind.bits]
  have e2:(BitVec.ofInt IntKind.u64.bits 4294967295).toNat=2 ^ 32 - 1:=by decide
  rw[e1,e2,Nat.and_two_pow_sub_one_eq_mod];omega
 rw[h1,nq];omega
theorem JY (x y:Nat):x * y=(x / 4294967296) * (y / 4294967296) * 18446744073709551616+((x / 4294967296) * (y % 4294967296)+(x % 4294967296) * (y / 4294967296)) * 4294967296+(x % 4294967296) * (y % 4294967296):=by
 have hx:x=(x / 4294967296) * 4294967296+x % 4294967296:=by omega
 have hy:y=(y / 4294967296) * 4294967296+y % 4294967296:=by omega
 generalize x / 4294967296=x1 at *;generalize x % 4294967296=x0 at *;generalize y / 4294967296=y1 at *;generalize y % 4294967296=y0 at *;subst hx hy
 grind
theorem tM {a b:Nat}(ha:a<4294967296)(hb:b<4294967296):a * b≤18446744065119617025:=by
 have:=Nat.mul_le_mul (show a≤4294967295 by omega) (show b≤4294967295 by omega);omega
theorem RO (x y:Nat)(hx:x<18446744073709551616)(hy:y<18446744073709551616):
  (((x / 4294967296 * (y / 4294967296)) % 18446744073709551616+((x / 4294967296 * (y % 4294967296) % 18446744073709551616+x % 4294967296 * (y % 4294967296) % 18446744073709551616 / 4294967296) % 18446744073709551616) / 4294967296) % 18446744073709551616+
   ((((x / 4294967296 * (y % 4294967296) % 18446744073709551616+x % 4294967296 * (y % 4294967296) % 18446744073709551616 / 4294967296) % 18446744073709551616) % 4294967296+(x % 4294967296 * (y / 4294967296)) % 18446744073709551616) % 18446744073709551616) / 4294967296) % 18446744073709551616=x * y / 18446744073709551616:=by
 rw[JY x y];have h1:=tM (a:=x / 4294967296) (b:=y / 4294967296) (by omega) (by omega);have h2:=tM (a:=x / 4294967296) (b:=y % 4294967296) (by omega) (by omega);have h3:=tM (a:=x % 4294967296) (b:=y / 4294967296) (by omega) (by omega);have h4:=tM (a:=x % 4294967296) (b:=y % 4294967296) (by omega) (by omega);generalize x / 4294967296 * (y / 4294967296)=A at *;generalize x / 4294967296 * (y % 4294967296)=B at *;generalize x % 4294967296 * (y / 4294967296)=C at *;generalize x % 4294967296 * (y % 4294967296)=D at *;omega
end
section
open Go.TR
attribute [local irreducible] vc dW gz fg fD gF gJ gB fJ Plain eD eX dK VS fv fA fG jt fh
set_option maxRecDepth 100000
theorem E8 (x y:Nat)(hx:x<18446744073709551616)(hy:y<18446744073709551616)(F:Hp):Plain Tryz.prog F 179 [u64 x,u64 y] (pair (u64 (x * y / 18446744073709551616:Nat)) (u64 (x * y % 18446744073709551616:Nat))):=by
 refine dQ (N:=51) (rv:=[.tmp 4,.tmp 5]) eW mixed Tryz.func179 rfl rfl rfl rfl rfl ?_;(refine run ?_;repeat intro b);simp only[gH,Jd,C3,Uu,IZ,RO x y hx hy]
def mB:List UInt8:=[0,1,2,2,3,3,3,3,4,4,4,4,4,4,4,4,5,5,5,5,5,5,5,5,5,5,5,5,5,5,5,5,6,6,6,6,6,6,6,6,6,6,6,6,6,6,6,6,6,6,6,6,6,6,6,6,6,6,6,6,6,6,6,6,7,7,7,7,7,7,7,7,7,7,7,7,7,7,7,7,7,7,7,7,7,7,7,7,7,7,7,7,7,7,7,7,7,7,7,7,7,7,7,7,7,7,7,7,7,7,7,7,7,7,7,7,7,7,7,7,7,7,7,7,7,7,7,7,8,8,8,8,8,8,8,8,8,8,8,8,8,8,8,8,8,8,8,8,8,8,8,8,8,8,8,8,8,8,8,8,8,8,8,8,8,8,8,8,8,8,8,8,8,8,8,8,8,8,8,8,8,8,8,8,8,8,8,8,8,8,8,8,8,8,8,8,8,8,8,8,8,8,8,8,8,8,8,8,8,8,8,8,8,8,8,8,8,8,8,8,8,8,8,8,8,8,8,8,8,8,8,8,8,8,8,8,8,8,8,8,8,8,8,8,8,8,8,8,8,8,8,8,8,8,8,8]
theorem Jb: ∀i:Fin 256,i.val<2 ^ (mB.getD i.val 0).toNat∧(mB.getD i.val 0).toNat≤8:=by decide
def RV (x n:Nat):Nat:=n+(mB.getD x 0).toNat
def PF (x n:Nat):Nat:=if 256≤x then RV (x / 256) (n+8) else RV x n
def PI (x n:Nat):Nat:=if 65536≤x then PF (x / 65536) (n+16) else PF x n
def Bw (x:Nat):Nat:=if 4294967296≤x then PI (x / 4294967296) 32 else PI x 0
theorem u8_in (e:Int):0≤IntKind.u8.wrap e∧IntKind.u8.wrap e<((bl (jE mB)).length:Nat):=by
 have:((bl (jE mB)).length:Nat)=256:=by decide
 rw[this,Ox];omega
theorem Pk (n y m:Nat)(hy:y<256)(h:IntKind.u8.wrap (y:Int)=(y:Int)→(bl (jE mB)).getD (y:Int).toNat 0=mB.getD y 0→n+(mB.getD y 0).toNat=m)(hn:n≤64):IntKind.i64.wrap ((n:Int)+IntKind.i64.wrap ((((bl (jE mB)).getD (IntKind.u8.wrap (y:Int)).toNat 0).toNat:Nat):Int))=((m:Nat):Int):=by
 have e1:IntKind.u8.wrap (y:Int)=(y:Int):=by rw[Ox];omega
 have e2:(bl (jE mB)).getD (y:Int).toNat 0=mB.getD y 0:=rfl;have e3:=(Jb ⟨y,hy⟩).2;have e4:=h e1 e2;simp only at e3;rw[e1,e2,wrap_i64 (n:=((mB.getD y 0).toNat:Int)) (by omega) (by omega),wrap_i64 (by omega) (by omega),←e4];omega
set_option maxHeartbeats 1000000 in
theorem FR (x:Nat)(hx:x<18446744073709551616)(F:Hp):Plain Tryz.prog F 183 [u64 x] (i64 (Bw x:Nat)):=by
 refine dQ (N:=25) (rv:=[.tmp 2]) eW mixed Tryz.func183 rfl rfl rfl rfl rfl ?_;(refine run ?_;repeat intro b);refine eE _ rfl (fun h=>?_) (fun h=>?_)
 all_goals
  (refine run ?_;repeat intro b)
  try rw[C3]
  refine eE _ rfl (fun h2=>?_) (fun h2=>?_)
  all_goals
   (refine run ?_;repeat intro b)
   try rw[OM]
   refine eE _ rfl (fun h3=>?_) (fun h3=>?_)
   all_goals
    (refine run ?_;repeat intro b)
    try rw[Sn]
    refine dL rfl rfl rfl (u8_in _) ?_;(refine run ?_;repeat intro b);simp only[av,aU]at h h2 h3;refine a8 (Value.int .i64) (Pk _ _ _ (by omega) (fun _ _=>?_) (by decide));unfold Bw
    (first | rw[aZ (show 4294967296≤x by omega)] | rw[aY (show¬4294967296≤x by omega)])
    unfold PI
    (first | rw[aZ (by omega)] | rw[aY (by omega)])
    unfold PF
    (first | rw[aZ (by omega)] | rw[aY (by omega)])
    rfl
theorem Oa (x:Nat)(hx:x<18446744073709551616):x<2 ^ Bw x∧Bw x≤64:=by
 have key: ∀y n:Nat,y<256→n≤56→∀z,z<2 ^ n * (y+1)→z<2 ^ (n+(mB.getD y 0).toNat)∧n+(mB.getD y 0).toNat≤64:=fun y n hy hn z hz=>by
  obtain⟨h1,h2⟩:=Jb ⟨y,hy⟩;simp only at h1 h2;refine⟨?_,by omega⟩;rw[Nat.pow_add];exact Nat.lt_of_lt_of_le hz (Nat.mul_le_mul_left _ h1)
 unfold Bw PI PF RV
 repeat' split
 all_goals (refine key _ _ (by omega) (by decide) x ?_;omega)
end
section
open Go.TR
theorem XW:IntKind.i64.wrap (64 - 61)=3:=by decide
theorem es:IntKind.u64.wrap 3=3:=by decide
theorem e61:IntKind.u64.wrap (64 - 3)=61:=by decide
theorem eV:IntKind.u64.wrap (2305843009213693951 * 2 ^ min (Int.toNat 3) IntKind.u64.bits)=18446744073709551608:=by decide
theorem ey1:Int.fdiv 18446744073709551608 (2 ^ min (Int.toNat 32) IntKind.u64.bits)=4294967295:=by decide
theorem ey0:IntKind.u64.wrap (((BitVec.ofInt IntKind.u64.bits 18446744073709551608 &&& BitVec.ofInt IntKind.u64.bits 4294967295).toNat:Nat):Int)=4294967288:=by decide
attribute [local irreducible] vc dW gz fg fD gF gJ gB fJ Plain eD eX dK VS fv fA fG jt fh IntKind.wrap
set_option maxRecDepth 100000
def nV (A b:Nat)(p:Nat×Nat):Prop:=p.1 * 4294967295+p.2=A∧(A * 4294967296+b) / 18446744073709551608≤p.1∧p.1≤4294967297∧p.2<4294967296∧A<18446744073709551608∧b<4294967296
theorem wK (A b:Nat)(hA:A<18446744073709551608)(hb:b<4294967296):nV A b (A / 4294967295,A % 4294967295):=by
 unfold nV;simp only;refine⟨by omega,by omega,by omega,by omega,hA,hb⟩
theorem wz {A b q r:Nat}(h:nV A b (q,r))(h2:q * 4294967288≤r * 4294967296+b):q=(A * 4294967296+b) / 18446744073709551608:=by
 unfold nV at h;simp only at h;omega
theorem yj {A b q r:Nat}(h:nV A b (q,r))(h1:4294967296≤q∨r * 4294967296+b<q * 4294967288)(h2:r+4294967295<4294967296):nV A b (q - 1,r+4294967295)∧1≤q:=by
 unfold nV at h ⊢;simp only at h ⊢;omega
theorem yK {A b q r:Nat}(h:nV A b (q,r))(h1:4294967296≤q∨r * 4294967296+b<q * 4294967288)(h2:4294967296≤r+4294967295):q - 1=(A * 4294967296+b) / 18446744073709551608∧1≤q:=by
 unfold nV at h;simp only at h;omega
theorem rY {A b q r:Nat}(h:nV A b (q,r)):q * 4294967288 % 18446744073709551616=q * 4294967288∧r * 4294967296 % 18446744073709551616=r * 4294967296∧(r * 4294967296+b) % 18446744073709551616=r * 4294967296+b∧(r+4294967295) % 18446744073709551616=r+4294967295∧q<18446744073709551616∧r<4294967296∧b<4294967296:=by
 unfold nV at h;simp only at h;omega
theorem RP (a:Nat):IntKind.u64.wrap ((a:Int) * 2 ^ min (Int.toNat 3) IntKind.u64.bits)=((a * 8 % 18446744073709551616:Nat):Int):=by
 have:(2 ^ min (Int.toNat 3) IntKind.u64.bits:Int)=8:=by decide
 rw[this,nq];omega
theorem Py (a:Nat):Int.fdiv (a:Int) (2 ^ min (Int.toNat 61) IntKind.u64.bits)=((a / 2305843009213693952:Nat):Int):=by
 have:(2 ^ min (Int.toNat 61) IntKind.u64.bits:Int)=((2305843009213693952:Nat):Int):=by decide
 rw[this,←bG]
theorem Sl (a:Nat):Int.fdiv (a:Int) (2 ^ min (Int.toNat 3) IntKind.u64.bits)=((a / 8:Nat):Int):=by
 have:(2 ^ min (Int.toNat 3) IntKind.u64.bits:Int)=((8:Nat):Int):=by decide
 rw[this,←bG]
theorem XO (a c:Nat)(ha:a<2305843009213693952)(hc:c<8):IntKind.u64.wrap (((BitVec.ofInt IntKind.u64.bits ((a * 8 % 18446744073709551616:Nat):Int) ||| BitVec.ofInt IntKind.u64.bits (c:Int)).toNat:Nat):Int)=((a * 8+c:Nat):Int):=by
 have h1:(BitVec.ofInt IntKind.u64.bits ((a * 8 % 18446744073709551616:Nat):Int) ||| BitVec.ofInt IntKind.u64.bits (c:Int)).toNat=a * 8+c:=by
  rw[BitVec.toNat_or];have e1:(BitVec.ofInt IntKind.u64.bits ((a * 8 % 18446744073709551616:Nat):Int)).toNat=a <<< 3:=by
   rw[Nat.shiftLeft_eq];simp[IntKind.bits];omega
  have e2:(BitVec.ofInt IntKind.u64.bits (c:Int)).toNat=c:=by simp[IntKind.bits];omega
  rw[e1,e2,←Nat.shiftLeft_add_eq_or_of_lt (show c<2 ^ 3 by omega),Nat.shiftLeft_eq]
 rw[h1,nq];omega
theorem Zn (a:Nat)(h:a<18446744073709551616):IntKind.u64.wrap ((a:Int).tdiv 4294967295)=((a / 4294967295:Nat):Int):=IA a 4294967295 h
theorem US (a:Nat):IntKind.u64.wrap ((a:Int) - IntKind.u64.wrap (((a / 4294967295:Nat):Int) * 4294967295))=((a % 4294967295:Nat):Int):=by rw[nq,nq];omega
theorem Xr (a:Nat):IntKind.u64.wrap ((a:Int) * 4294967288)=((a * 4294967288 % 18446744073709551616:Nat):Int):=by rw[nq];omega
theorem RD (a:Nat):IntKind.u64.wrap ((a:Int)+4294967295)=(((a+4294967295) % 18446744073709551616:Nat):Int):=by rw[nq];omega
theorem Nu (A b q:Nat)(h:q=(A * 4294967296+b) / 18446744073709551608):IntKind.u64.wrap (IntKind.u64.wrap (IntKind.u64.wrap ((A:Int) * 4294967296)+(b:Int)) - IntKind.u64.wrap ((q:Int) * 18446744073709551608))=(((A * 4294967296+b) % 18446744073709551608:Nat):Int):=by
 subst h;simp only[nq];omega
theorem uB {A b q r:Nat}(h:nV A b (q,r)):lS (decide ((4294967296:Int)≤(q:Int))) true (decide (IntKind.u64.wrap (IntKind.u64.wrap (4294967296 * (r:Int))+(b:Int))<IntKind.u64.wrap ((q:Int) * 4294967288)))=true ↔ 4294967296≤q∨r * 4294967296+b<q * 4294967288:=by
 have g:=rY h;rw[fx,Xr,Lt,IZ,g.1,g.2.1,g.2.2.1];simp only[bD,av];omega
theorem uZ {A b q r:Nat}(h:nV A b (q,r)):decide ((4294967296:Int)≤IntKind.u64.wrap ((r:Int)+4294967295))=true ↔ 4294967296≤r+4294967295:=by
 have g:=rY h;rw[RD,g.2.2.2.1];simp only[av];omega
theorem Tn (F:Hp):Plain Tryz.prog F 280 [u64 2305843009213693951] (i64 3):=by
 refine dQ (N:=6) (rv:=[.tmp 2]) eW mixed Tryz.func280 rfl rfl rfl rfl rfl ?_;(refine run ?_;repeat intro b);refine dJ (i64 61) rfl rfl rfl Qv rfl (FR 2305843009213693951 (by decide) F) ?_;(refine run ?_;repeat intro b);exact a8 (Value.int .i64) XW
def x4 (hi lo:Nat):Nat:=(hi * 18446744073709551616+lo) % 2305843009213693951
def V1 (hi lo:Nat):Int:=IntKind.u64.wrap (IntKind.u64.wrap ((((hi * 8+lo / 2305843009213693952) * 4294967296+lo * 8 % 18446744073709551616 / 4294967296) / 18446744073709551608:Nat) * 4294967296)+((((((hi * 8+lo / 2305843009213693952) * 4294967296+lo * 8 % 18446744073709551616 / 4294967296) % 18446744073709551608) * 4294967296+lo * 8 % 18446744073709551616 % 4294967296) / 18446744073709551608:Nat):Int))
set_option maxHeartbeats 1000000 in
theorem Ml (hi lo:Nat)(hhi:hi<2305843009213693951)(hlo:lo<18446744073709551616)(F:Hp): ∃q:Int,Plain Tryz.prog F 241 [u64 hi,u64 lo,u64 2305843009213693951] (pair (u64 q) (u64 (x4 hi lo:Nat))):=by
 by_cases h0:hi=0
 ·subst h0;refine⟨((lo / 2305843009213693951:Nat):Int),dQ (N:=135) (rv:=[.tmp 6,.tmp 7]) eW mixed Tryz.func241 rfl rfl rfl rfl rfl ?_⟩;(refine run ?_;repeat intro b);refine fO (by kernel_rfl) ?_;(refine run ?_;repeat intro b);simp only[gH];have e1:=IA lo 2305843009213693951 hlo;have e2:=tH lo 2305843009213693951;have e3:x4 0 lo=lo % 2305843009213693951:=by unfold x4;omega
  rw[e3,←e1,←e2];rfl
 refine⟨V1 hi lo,dQ (N:=135) (rv:=[.tmp 6,.tmp 7]) eW mixed Tryz.func241 rfl rfl rfl rfl rfl ?_⟩;(refine run ?_;repeat intro b);refine eE _ rfl (fun h=>?_) (fun _=>?_)
 ·simp at h;omega
 (refine run ?_;repeat intro b);refine eE _ rfl (fun h=>?_) (fun _=>?_)
 ·simp at h;omega
 (refine run ?_;repeat intro b);refine dJ (i64 3) rfl rfl rfl Un rfl (Tn F) ?_;(refine run ?_;repeat intro b);rw[es];(refine run ?_;repeat intro b);rw[e61];(refine run ?_;repeat intro b);rw[eV,ey1];(refine run ?_;repeat intro b);obtain⟨A,hA⟩: ∃A:Nat,A=hi * 8+lo / 2305843009213693952:=⟨_,rfl⟩;obtain⟨b1,hb1⟩: ∃b:Nat,b=lo * 8 % 18446744073709551616 / 4294967296:=⟨_,rfl⟩;obtain⟨b0,hb0⟩: ∃b:Nat,b=lo * 8 % 18446744073709551616 % 4294967296:=⟨_,rfl⟩;have hA1:A<18446744073709551608:=by omega
 have hor:=XO hi (lo / 2305843009213693952) (by omega) (by omega);refine Ic 0 (fun p:Nat×Nat=>nV A b1 p) (fun p=>⟨[(2,.v (u64 18446744073709551608)),(8,.v (u64 3)),(9,.v (u64 4294967295)),(10,.v (u64 4294967288)),(11,.v (u64 (A:Nat))),(13,.v (u64 (b1:Nat))),(14,.v (u64 (b0:Nat))),(15,.v (u64 (p.1:Nat))),(16,.v (u64 (p.2:Nat)))],F,[],0⟩) (fun p=>p.1) (A / 4294967295,A % 4294967295)
  (fun q:Nat=>q=(A * 4294967296+b1) / 18446744073709551608) (fun q=>⟨[(2,.v (u64 18446744073709551608)),(8,.v (u64 3)),(9,.v (u64 4294967295)),(10,.v (u64 4294967288)),(11,.v (u64 (A:Nat))),(13,.v (u64 (b1:Nat))),(14,.v (u64 (b0:Nat))),(15,.v (u64 (q:Nat)))],F,[],0⟩)
  (wK A b1 hA1 (by omega)) (VS.eL [2,8,9,10,11,13,14,15,16] rfl ?_) ?_ ?_
 ·simp only[ey0,RP,Py,hor,C3,Jd,←hA,←hb1,←hb0,Zn A (by omega),US A]
 ·intro q1 hq1;(refine run ?_;repeat intro b);rw[Nu A b1 q1 hq1];obtain⟨R,hR⟩: ∃R:Nat,R=(A * 4294967296+b1) % 18446744073709551608:=⟨_,rfl⟩;rw[←hR];have Xa:R<18446744073709551608:=by omega
  refine Ic 2 (fun p:Nat×Nat=>nV R b0 p) (fun p=>⟨[(2,.v (u64 18446744073709551608)),(8,.v (u64 3)),(9,.v (u64 4294967295)),(10,.v (u64 4294967288)),(14,.v (u64 (b0:Nat))),(15,.v (u64 (q1:Nat))),(17,.v (u64 (R:Nat))),(18,.v (u64 (p.1:Nat))),(16,.v (u64 (p.2:Nat)))],F,[],0⟩) (fun p=>p.1) (R / 4294967295,R % 4294967295)
   (fun q:Nat=>q=(R * 4294967296+b0) / 18446744073709551608) (fun q=>⟨[(2,.v (u64 18446744073709551608)),(8,.v (u64 3)),(14,.v (u64 (b0:Nat))),(15,.v (u64 (q1:Nat))),(17,.v (u64 (R:Nat))),(18,.v (u64 (q:Nat)))],F,[],0⟩)
   (wK R b0 Xa (by omega)) (VS.eL [2,8,9,10,14,15,17,18,16] rfl ?_) ?_ ?_
  ·simp only[Zn R (by omega),US R]
  ·intro q0 hq0;(refine run ?_;repeat intro b);rw[Nu R b0 q0 hq0,Sl];have hr:(R * 4294967296+b0) % 18446744073709551608 / 8=x4 hi lo:=by unfold x4;omega
   rw[hr];simp only[gH,V1,←hA,←hb1,←hb0,←hR,←hq0,←hq1]
  intro ⟨q,r⟩ hg vb hn hx hret;(refine run ?_;repeat intro b);refine eE _ rfl (fun h=>?_) (fun h=>?_)
  ·have h1:=(uB hg).1 h;(refine run ?_;repeat intro b);have g3:=rY hg;refine eE _ rfl (fun h2=>?_) (fun h2=>?_)
   ·have h3:=(uZ hg).1 h2;obtain⟨g1,g2⟩:=yK hg h1 h3;(refine run ?_;repeat intro b);exact hx _ (VS.eL [2,8,14,15,17,18] rfl ⟨q - 1,g1,by rw[Cf q g2 (by omega)]⟩)
   have h3: ¬4294967296≤r+4294967295:=fun e=>by rw[(uZ hg).2 e]at h2;cases h2
   obtain⟨g1,g2⟩:=yj hg h1 (by omega);(refine run ?_;repeat intro b);exact hn _ (qQ.of (VS.eL [2,8,9,10,14,15,17,18,16] rfl ⟨(q - 1,r+4294967295),g1,by rw[Cf q g2 (by omega),RD r,g3.2.2.2.1],Nat.sub_lt g2 Nat.one_pos⟩))
  have h1: ¬(4294967296≤q∨r * 4294967296+b0<q * 4294967288):=fun e=>by rw[(uB hg).2 e]at h;cases h
  (refine run ?_;repeat intro b);exact hx _ (VS.eL [2,8,14,15,17,18] rfl ⟨q,wz hg (by omega),rfl⟩)
 intro ⟨q,r⟩ hg vb hn hx hret;(refine run ?_;repeat intro b);refine eE _ rfl (fun h=>?_) (fun h=>?_)
 ·have h1:=(uB hg).1 h;(refine run ?_;repeat intro b);have g3:=rY hg;refine eE _ rfl (fun h2=>?_) (fun h2=>?_)
  ·have h3:=(uZ hg).1 h2;obtain⟨g1,g2⟩:=yK hg h1 h3;(refine run ?_;repeat intro b);exact hx _ (VS.eL [2,8,9,10,11,13,14,15] rfl ⟨q - 1,g1,by rw[Cf q g2 (by omega)]⟩)
  have h3: ¬4294967296≤r+4294967295:=fun e=>by rw[(uZ hg).2 e]at h2;cases h2
  obtain⟨g1,g2⟩:=yj hg h1 (by omega);(refine run ?_;repeat intro b);exact hn _ (qQ.of (VS.eL [2,8,9,10,11,13,14,15,16] rfl ⟨(q - 1,r+4294967295),g1,by rw[Cf q g2 (by omega),RD r,g3.2.2.2.1],Nat.sub_lt g2 Nat.one_pos⟩))
 have h1: ¬(4294967296≤q∨r * 4294967296+b1<q * 4294967288):=fun e=>by rw[(uB hg).2 e]at h;cases h
 (refine run ?_;repeat intro b);exact hx _ (VS.eL [2,8,9,10,11,13,14,15] rfl ⟨q,wz hg (by omega),rfl⟩)
theorem L1 (hi lo:Nat)(hlo:lo<18446744073709551616)(F:Hp):Plain Tryz.prog F 180 [u64 hi,u64 lo,u64 2305843009213693951] (u64 (x4 hi lo:Nat)):=by
 refine dQ (N:=19) (rv:=[.tmp 6]) eW mixed Tryz.func180 rfl rfl rfl rfl rfl ?_;(refine run ?_;repeat intro b);obtain⟨q,hq⟩:=Ml (hi % 2305843009213693951) lo (du _ (by decide)) hlo F;have e:((hi:Int).tmod 2305843009213693951)=((hi % 2305843009213693951:Nat):Int):=tH hi 2305843009213693951;rw[e];refine dJ _ rfl rfl rfl TA rfl hq ?_;(refine run ?_;repeat intro b);have e2:x4 (hi % 2305843009213693951) lo=x4 hi lo:=by unfold x4;omega
 rw[e2];rfl
end
end Go.Proofs.YthbnddgjkonkdaaGreatDoor
