/- A part of the proof. -/
import Derived.Lib.AppendZeros
import Derived.Test.YthbnddgjkonkdaaGreatDoorSetQueue
set_option linter.unusedVariables false
set_option linter.unusedSimpArgs false
namespace Go.TR
open Go
section
variable {P:Program} {tb:Tb} {N:Nat} {all rest:List Oper} {K:fa→St→Prop} {st:St}
def Q3 (rs:RL)(op:BinOp):Option EV→Option EV→Option Bool
 | some (.v (.slice p _ _)),some (.v (.slice none 0 0))=>match op with
  | .eql=>some p.isNone
  | .neq=>some (!p.isNone)
  | _=>none
 | some (.row id _ _ _),some (.v (.slice none 0 0))=>match fR rs id with
  | some r=>(match op with
   | .eql=>some r.gl.isNone
   | .neq=>some (!r.gl.isNone)
   | _=>none)
  | none=>none
 | _,_=>none
theorem D8 {t e:TypeId}(hp:P.underlying t=some (.slice e))(w:World)(p:Option Addr)(l c:Nat):
  (binOp .eql t (.slice p l c) (.slice none 0 0)).run P w= .ok (.bool p.isNone) w∧(binOp .neq t (.slice p l c) (.slice none 0 0)).run P w= .ok (.bool (!p.isNone)) w:=by
 have h: ∀(d:Nat) (a:Option Addr) (l c:Nat),(Op.equalIn (d+1) t (.slice a l c) (.slice none 0 0)).run P w= .ok a.isNone w:=fun d a l c=>by
  cases a<;>simp[Op.equalIn,run_underlying hp]
 refine⟨?_,?_⟩<;>simp only[binOp]<;>simp[Op.equal,Op.maxDepth,h 9999]
theorem wS {op:BinOp}{t:TypeId}{x y:Operand}(w:World)(p q:Option Addr)(l c l' c':Nat):(eqGuard op t x y (.slice p l c) (.slice q l' c')).run P w= .ok () w:=by
 unfold eqGuard;cases op<;>simp
theorem p9 {d:Nat}{op:BinOp}{t u e:TypeId}{x y:Operand}{ty:TypeId}{pos:String}{af:Array Edge}{env:Env}{F:Hp}{rs:RL}{nx:Nat}{b:Bool}(htb:gZ P tb)(ht:tk tb t=some (.slice e))
  (h:Q3 rs op (gL rs [] env [] x) (gL rs [] env [] y)=some b) (hd:Nat.blt d N=true)
  (k:dT P tb N false all rest K [] ⟨(d,.v (.bool b))::env,F,rs,nx⟩):dT P tb N false all (⟨some d,.binOp op t x y u,ty,pos,af,none⟩::rest) K [] ⟨env,F,rs,nx⟩:=by
 have hu:=jm htb ht;refine q9 (.v (.bool b)) hd (fun c a w o hs ho=>⟨.bool b,w,?_,hs,rfl⟩) k;have run:(eqGuard op t x y (a.eval x) (a.eval y)).run P w= .ok () w∧(binOp op t (a.eval x) (a.eval y)).run P w= .ok (.bool b) w:=by
  unfold Q3 at h;split at h
  ·rename_i p l c' hx hy;have ex:=fI hs hx;have ey:=fI hs hy;simp only[EV.val,aa]at ex ey;rw[←ex,←ey];obtain⟨h1,h2⟩:=D8 hu w p l c';have hg:=wS (P:=P) (op:=op) (t:=t) (x:=x) (y:=y) w p none l c' 0 0;split at h<;>simp at h<;>subst h<;>exact⟨hg,by first | exact h1 | simpa using h2⟩
  ·rename_i id o n c' hx hy;have ex:=fI hs hx;have ey:=fI hs hy;simp only[EV.val,aa]at ey;rw[←ey];simp only[EV.val]at ex;cases hr:fR rs id with
   | none=>rw[hr]at h;cases h
   | some r=>
    rw[hr]at h ex;simp only[aa]at ex;rw[←ex];obtain⟨h1,h2⟩:=D8 hu w (r.gl.map fun b=>⟨b,o,none⟩) n c';have hg:=wS (P:=P) (op:=op) (t:=t) (x:=x) (y:=y) w (r.gl.map fun b=>⟨b,o,none⟩) none n c' 0 0;simp only[Option.isNone_map]at h1 h2;simp only at h;split at h<;>simp at h<;>subst h<;>exact⟨hg,by first | exact h1 | simpa using h2⟩
  cases h
 simp[execOp,ho,run.1,run.2]
end
theorem eu.drop {P:Program}{F:Hp}{f:FuncId}{args:List Value}{Q:Value→Hp→Prop}(h:eu P F f args fun x F' _=>Q x F'):iu P F f args Q:=fun w hw=>by
 refine (h w hw).mono fun e w' hh=>?_;obtain⟨x,F',new,h1,h2,h3,h4,h5,h6,h7,h8⟩:=hh;exact⟨x,F',[],h1,h2,h3,h4,h5,⟨fun id r hr=>by simp[fR]at hr,fun i j r s b hi=>by simp[fR]at hi⟩,fun id r b hr=>by simp[fR]at hr,rfl,h8⟩
theorem eu.MH {P:Program}{F:Hp}{f:FuncId}{args:List Value}{e:TypeId}{size n:Nat}{cs:List Value}(hn:n=0→cs=[])(h:eu P F f args fun x _ new=>ml e size cs n x new):iu P F f args fun x F'=>∃p c,x= .slice p n c∧n≤c∧eY F' p cs:=fun w hw=>by
 refine (h w hw).mono fun ex w' hh=>?_;obtain⟨x,F',new,h1,h2,h3,h4,h5,h6,h7,h8⟩:=hh;have nil:nu F' [] w':=⟨fun id r hr=>by simp[fR]at hr,fun i j r s b hi=>by simp[fR]at hi⟩;rcases h8 with⟨h9,rfl,p,rfl⟩ | ⟨h9,b,c,h10,rfl,rfl⟩
 ·subst h9;exact⟨_,F',[],h1,h2,h3,h4,h5,nil,fun id r b hr=>by simp[fR]at hr,rfl,p,0,rfl,ah _,by rw[hn rfl];intro j u hj;simp at hj⟩
 have hown:=h6.own 0 _ (by rw[e8,aZ rfl]);simp only at hown;obtain⟨g1,g2,cur,g3,g4,g5⟩:=hown;have hbn:w.heap.size≤b:=h7 0 _ b (by rw[e8,aZ rfl]) (.inl rfl);refine⟨_,fun k=>if k=b then some (.cells cur e (0,0)) else F' k,[],h1,fun k o hk=>?_,fun k o hk=>?_,h4,fun k hk=>?_,⟨fun id r hr=>by simp[fR]at hr,fun i j r s b hi=>by simp[fR]at hi⟩,fun id r b hr=>by simp[fR]at hr,rfl,_,c,rfl,h10,fun j u hj=>?_⟩
 ·have:=h2 k o hk;simp only;rw[aY (fun hkb=>by rw[hkb,g1]at this;cases this)];exact this
 ·simp only at hk;split at hk
  ·rename_i hkb;subst hkb;rw[←hk];exact g3
  exact h3 k o hk
 ·simp only at hk;split at hk
  ·rename_i hkb;subst hkb;exact .inr hbn
  exact h5 k hk
 have hc:=g5 j (.v u) u (by rw[aI,hj];rfl) rfl;cases j with
 | zero=>simpa [gb,im,jx,Addr.add] using hc
 | succ j=>simpa [gb,im,jx,Addr.add] using hc
section
variable {P:Program} {tb:Tb} {N:Nat} {KK:Exit→St→Prop} {st:St}
def zu:Code→Bool
 | .region _ _ _=>true
 | .seq x _=>zu x
 | .block _ x=>zu x
 | _=>false
theorem LA: ∀{c:Code}{KK:Exit→St→Prop}{st:St},zu c=true→(VS N [] st fun st=>vc P tb N c KK st)→vc P tb N c KK st
 | .region _ _ _,_,_,_,hv=>mq hv
 | .seq x y,KK,st,h,hv=>by
  show vc P tb N x (gx (vc P tb N y KK) KK) st;exact LA (c:=x) h hv
 | .block id x,KK,st,h,hv=>by
  show vc P tb N x (fc id KK) st;exact LA (c:=x) h hv
 | .skip,_,_,h,_=>by cases h
 | .ret,_,_,h,_=>by cases h
 | .exit _,_,_,h,_=>by cases h
 | .cond _ _ _,_,_,h,_=>by cases h
 | .loop _,_,_,h,_=>by cases h
 | .goto _,_,_,h,_=>by cases h
theorem k7 {x c:Code}{β:Type}(JP:β→Prop)(J:β→St)(hc:zu c=true)(hJ: ∀j,JP j→vc P tb N c KK (J j))
  (hx: ∀u7:Exit→St→Prop,(∀st,(VS N [] st fun st'=>∃j,JP j∧st'=J j)→u7 .normal st)→(∀st,KK .ret st→u7 .ret st)→(∀i st,KK (.exit i) st→u7 (.exit i) st)→vc P tb N x u7 st):vc P tb N x (gx (vc P tb N c KK) KK) st:=
 hx _ (fun st h=>LA hc (fun c' a w hs=>by
  obtain⟨st',h1,j,h2,rfl⟩:=h c' a w hs;exact⟨_,h1,hJ j h2⟩)) (fun _ h=>h) (fun _ _ h=>h)
end
end Go.TR
namespace Go.Proofs.YthbnddgjkonkdaaGreatDoor
section
open Go.TR
attribute [local irreducible] vc dT gx fc fA gC gG gw fG Plain eu eR dH VS fq fx fD ju fe IntKind.wrap
set_option maxRecDepth 100000
theorem Bw (cs:List Value)(n:Nat){p:Option Addr}{c:Nat}{F:Hp}(hl:cs.length=n * 4)(hf:eY F p cs)(h1: ∀x∈cs,Go.TR.one (.v x)=true)(hb:n * 48≤140737488355328):eu Tryz.prog F 93 [.slice p n c] (fun x _ new=>ml 35 4 cs n x new):=by
 refine fU (N:=8) (rv:=[.tmp 2]) eP mixed Tryz.func93 rfl rfl rfl rfl rfl ?_;(refine run ?_;repeat intro b);refine p9 (b:=p.isNone) eP rfl rfl rfl ?_;cases p with
 | none=>
  have hn:n=0:=by
   rcases dh n with h | h
   ·exact h
   have:=dO hf (j:=0) (by rw[hl];omega);cases this
  subst hn;(refine run ?_;repeat intro b);refine eM (VS.id ⟨_,rfl,.inl ⟨rfl,rfl,none,rfl⟩⟩)
 | some a=>
  (refine run ?_;repeat intro b);refine fv rfl rfl rfl rfl rfl rfl rfl rfl (iV hl hf) (gy _ h1) (fun h=>by cases h) (ah 0) rfl (az _) (by show (0+n) * 48≤_;omega) (fun hn=>?_) (fun hn b2 c2 hc2=>?_)
  ·subst hn;(refine run ?_;repeat intro b);refine eM ?_;refine VS.freeze 0 [2] rfl (cs:=[]) rfl rfl rfl fun F' hs1 hf1=>VS.id ⟨_,rfl,.inl ⟨rfl,rfl,_,rfl⟩⟩
  (refine run ?_;repeat intro b);simp only[aP]at hc2 ⊢;refine mI (qN.mM (nx':=1) [(1,0)] [2] [(0,⟨some b2,cs.map EV.v,35,c2 * 4⟩)] (ff ⟨_,rfl,rfl,rfl,rfl,.inl ⟨rfl,fun e he=>fw _ e he⟩⟩ trivial) rfl rfl rfl rfl rfl rfl ⟨_,rfl,.inr ⟨hn,b2,c2,hc2,rfl,rfl⟩⟩)
end
section
open Go.TR
theorem Sg (x y:Ask):(!(decide (bl (jB x.name)=bl (jB y.name))&&(decide (bl (jB x.value)=bl (jB y.value))&&(((x.n:Nat):Int)==((y.n:Nat):Int)&&(((x.tag:Nat):Int)==((y.tag:Nat):Int)&&true)))))=decide (x≠y):=by
 obtain⟨a,b,c,d⟩:=x;obtain⟨a',b',c',d'⟩:=y;simp only[fX,ne_eq,Ask.mk.injEq];by_cases h1:a=a'<;>by_cases h2:b=b'<;>by_cases h3:c=c'<;>by_cases h4:d=d'<;>simp[h1,h2,h3,h4]<;>omega
attribute [local irreducible] vc dT gx fc fA gC gG gw fG Plain eu eR dH VS fq fx fD ju fe IntKind.wrap
set_option maxRecDepth 100000
set_option maxHeartbeats 1000000 in
theorem Ee (l1 l2:List Ask){p1 p2:Option Addr}{c1 c2:Nat}{F:Hp}(h1:eY F p1 (l1.flatMap Ask.cells))(h2:eY F p2 (l2.flatMap Ask.cells))(hn:l1.length≤4611686018427387904):Plain Tryz.prog F 181 [.slice p1 l1.length c1,.slice p2 l2.length c2] (.bool (decide (l1=l2))):=by
 refine dN (N:=26) (rv:=[.tmp 4]) eP mixed Tryz.func181 rfl rfl rfl rfl rfl ?_;(refine run ?_;repeat intro b);refine ez _ rfl (fun h=>?_) (fun h=>?_)
 ·(refine run ?_;repeat intro b);have hne:l1≠l2:=by rintro rfl;simp at h
  simp[gE,hne]
 have hl:l1.length=l2.length:=by simp at h;omega
 (refine run ?_;repeat intro b);refine eU (fun k:Nat=>k≤l1.length∧l1.take k=l2.take k) (fun k=>⟨[(0,.v (.slice p1 l1.length c1)),(1,.v (.slice p2 l2.length c2)),(12,.v (i64 l1.length)),(13,.v (i64 (k:Nat)))],F,[],0⟩) (fun k=>l1.length - k) 0 ⟨az _,rfl⟩ (VS.eH [0,1,12,13] rfl rfl) ?_;rintro k ⟨hk,ht⟩;by_cases hlt:k<l1.length
 ·have hlt2:k<l2.length:=by omega
  obtain⟨o1,o2⟩:=eZ gj (by decide) h1 k hlt;obtain⟨o3,o4⟩:=eZ gj (by decide) h2 k hlt2;obtain⟨x,hx⟩: ∃x,x=l1[k]:=⟨_,rfl⟩;obtain⟨y,hy⟩: ∃y,y=l2[k]:=⟨_,rfl⟩;rw[←hx]at o2;rw[←hy]at o4;(refine run ?_;repeat intro b);refine gm rfl (by omega) ?_;(refine run ?_;repeat intro b);refine fM (by kernel_rfl) ?_;(refine run ?_;repeat intro b);refine dI rfl rfl rfl ⟨by omega,by omega,dO h1 (j:=k * 4) (by rw[dL gj];omega)⟩ ?_;refine fy x.cells rfl rfl rfl rfl rfl (by rw[ae];exact o1) (by rw[ae];exact o2) ?_;(refine run ?_;repeat intro b);refine dI rfl rfl rfl ⟨by omega,by omega,dO h2 (j:=k * 4) (by rw[dL gj];omega)⟩ ?_;refine fy y.cells rfl rfl rfl rfl rfl (by rw[ae];exact o3) (by rw[ae];exact o4) ?_;(refine run ?_;repeat intro b);refine ez (decide (x≠y)) (a8 (fun b=>some (EV.v (.bool b))) (Sg x y)) (fun h4=>?_) (fun h4=>?_)
  ·(refine run ?_;repeat intro b);have hne:l1≠l2:=pM hlt hlt2 (by rw[←hx,←hy];exact ar h4);simp[gE,hne]
  (refine run ?_;repeat intro b);rw[dQ (by omega)];exact fj (k+1) ⟨hlt,my ht hlt hlt2 (by rw[←hx,←hy];simpa using h4)⟩ (by omega) (VS.eH [0,1,12,13] rfl rfl)
 have hge:k=l1.length:=by omega
 subst hge;(refine run ?_;repeat intro b);refine gu rfl (by omega) ?_;(refine run ?_;repeat intro b);have he:l1=l2:=by rw[aD]at ht;rw[ht,hl,aD]
 simp[gE,he]
theorem CT (q1 q2:Queue){p1 p2:Option Addr}{c1 c2:Nat}{F:Hp}(h1:eY F p1 (q1.wait.flatMap Ask.cells))(h2:eY F p2 (q2.wait.flatMap Ask.cells))(hn:q1.wait.length≤4611686018427387904):Plain Tryz.prog F 119 [qv q1.most p1 q1.wait.length c1,qv q2.most p2 q2.wait.length c2] (.bool (decide (q1=q2))):=by
 obtain⟨m1,l1⟩:=q1;obtain⟨m2,l2⟩:=q2;simp only at h1 h2 hn ⊢;refine dN (N:=17) (rv:=[.tmp 4]) eP mixed Tryz.func119 rfl rfl rfl rfl rfl ?_;(refine run ?_;repeat intro b);refine gi _ rfl rfl rfl rfl V0 rfl rfl (fun _=>Ee l1 l2 h1 h2 hn) ?_;(refine run ?_;repeat intro b);rw[fH];simp only[gE];congr 1;rw[ai];simp
end
section
open Go.TR
def oG (q:Queue)(a:Ask):Int:=if fg q=0 then (if eJ a.name a.value=0 then (if (q.wait.length:Int)=q.most then 7 else 0) else eJ a.name a.value) else fg q
def sF (q:Queue)(a:Ask):Queue:=if oG q a=0 then ⟨q.most,q.wait++[a]⟩ else Queue.nil
def zm (q:Queue)(a:Ask):Int:=if oG q a=0 then (q.wait.length:Int) else 0
theorem qD {q:Queue}(h:fg q=0):1≤q.most∧q.most≤30∧(q.wait.length:Int)≤q.most:=by
 unfold fg at h;split at h
 ·cases h
 split at h
 ·cases h
 omega
theorem vg (l:List Ask)(a:Ask):(l++[a]).flatMap Ask.cells=l.flatMap Ask.cells++a.cells:=by simp
theorem rU (rs:RL)(a:Ask):lj rs (a.cells.map .v):=gy rs fun x hx=>xg [a] x (by simpa using hx)
attribute [local irreducible] vc dT gx fc fA gC gG gw fG Plain eu eR dH VS fq fx fD ju fe IntKind.wrap
set_option maxRecDepth 100000
set_option maxHeartbeats 2000000 in
theorem Fy (q:Queue)(a:Ask)(hw:q.wf)(ha:a.wf){p:Option Addr}{c:Nat}{F:Hp}(hf:eY F p (q.wait.flatMap Ask.cells)):iu Tryz.prog F 37 [qv q.most p q.wait.length c,a.v] (fun x F'=>∃p c,x=triple (qv (sF q a).most p (sF q a).wait.length c) (i64 (zm q a)) (i64 (oG q a))∧eY F' p ((sF q a).wait.flatMap Ask.cells)∧(sF q a).wait.length≤c):=by
 refine eu.drop ?_;refine fU (N:=42) (rv:=[.cell 4 24,.tmp 5,.tmp 6]) eP mixed Tryz.func37 rfl rfl rfl rfl rfl ?_;have SN:=oM q hw (c:=c) hf;have hri:=sK a ha F;have hE: ∀e,e≠0→oG q a=e→sF q a=Queue.nil∧zm q a=0:=fun e he h=>by
  unfold sF zm;rw[h,aY he,aY he];exact⟨rfl,rfl⟩
 (refine run ?_;repeat intro b);refine dG _ rfl rfl rfl R2 rfl SN ?_;(refine run ?_;repeat intro b);refine ez (decide (fg q=0)) ?_ (fun h=>?_) (fun h=>?_)
 ·refine dS ?_;rw[ai];simp
 ·have h0:fg q=0:=ar h;obtain⟨g1,g2,g3⟩:=qD h0;(refine run ?_;repeat intro b);refine dG _ rfl rfl rfl UF rfl hri ?_;(refine run ?_;repeat intro b);by_cases h1:eJ a.name a.value=0
  ·rw[h1];by_cases h2:(q.wait.length:Int)=q.most
   ·have e1:oG q a=7:=by unfold oG;rw[aZ h0,aZ h1,aZ h2]
    obtain⟨e2,e3⟩:=hE 7 (by decide) e1;rw[e1,e2,e3];(refine run ?_;repeat intro b);refine ez true ?_ (fun _=>?_) (fun h=>by cases h)
    ·refine dS ?_;show (((q.wait.length:Nat):Int)==q.most)=true;rw[beq_iff_eq];exact h2
    (refine run ?_;repeat intro b);exact eM (VS.id ⟨_,rfl,none,0,rfl,eG _ _,ah _⟩)
   have e1:oG q a=0:=by unfold oG;rw[aZ h0,aZ h1,aY h2]
   have e2:sF q a=⟨q.most,q.wait++[a]⟩:=by unfold sF;rw[aZ e1]
   have e3:zm q a=(q.wait.length:Int):=by unfold zm;rw[aZ e1]
   rw[e1,e2,e3];have hcl:=Bw (q.wait.flatMap Ask.cells) q.wait.length (dL gj _) hf (xg _) (c:=c) (by omega);(refine run ?_;repeat intro b);refine ez false ?_ (fun h=>by cases h) (fun _=>?_)
   ·refine dS ?_;show (((q.wait.length:Nat):Int)==q.most)=false;rw[dA];exact h2
   (refine run ?_;repeat intro b);refine fz [0,1] (by kernel_rfl) ?_;refine dR [0,1,2,3,5,9] (f':=7) (by kernel_rfl) rfl rfl rfl ?_;(refine run ?_;repeat intro b);refine jC 4 6 (by kernel_rfl) rfl rfl rfl ?_ ?_
   ·refine nA (R:=fun _ cs=>cs=q.wait.flatMap Ask.cells) (fun x F' new h=>⟨_,h,rfl⟩) rfl rfl rfl Mn rfl hcl (fun hk0 F1 p1 cs hF1 hcs=>?_) (fun hk1 F1 b1 c1 cs hF1 hc1 hcs=>?_)
    ·(refine run ?_;repeat intro b);refine eC hF1 (dM rfl) ?_;refine dY 6 (by kernel_rfl) rfl rfl ?_;(refine run ?_;repeat intro b);(refine run ?_;repeat intro b);refine eC (Hp.sub.refl _) (dM rfl) ?_;refine dY 7 (by kernel_rfl) rfl rfl ?_;refine jy [] rfl rfl rfl rfl rfl rfl rfl (eG _ _) (fb rfl rfl) (rU _ a) (by decide) (fun h=>by cases h) (fun _ b2 c2 hc2=>?_);(refine run ?_;repeat intro b);refine eC (Hp.sub.refl _) (dM rfl) ?_;refine dR [8] (f':=3) (by kernel_rfl) rfl rfl rfl ?_;(refine run ?_;repeat intro b);refine dY 10 (by kernel_rfl) rfl rfl ?_;(refine run ?_;repeat intro b);refine eC (Hp.sub.refl _) (dM rfl) ?_;refine dR [11,12] (f':=0) (by kernel_rfl) rfl rfl rfl ?_;(refine run ?_;repeat intro b);refine fk (by kernel_rfl) ?_;(refine run ?_;repeat intro b);have hnil:q.wait=[]:=aq hk0;rw[hnil];refine eM ?_;refine VS.freeze 4 [4,5,6] rfl (eD a.cells) rfl rfl fun F' hs1 hf1=>VS.id ⟨_,rfl,some ⟨b2,0,none⟩,c2,rfl,hf1,hc2⟩
    (refine run ?_;repeat intro b);refine eC hF1 (dM rfl) ?_;refine dY 6 (by kernel_rfl) rfl rfl ?_;(refine run ?_;repeat intro b);(refine run ?_;repeat intro b);refine eC (Hp.sub.refl _) (dM rfl) ?_;refine dY 7 (by kernel_rfl) rfl rfl ?_;subst hcs;refine fv rfl rfl rfl rfl rfl rfl rfl rfl (fb rfl rfl) (rU _ a) (fun h=>by cases h) hc1 rfl (by rw[ab,dL gj];exact ah _) (by show _ * 48≤_;omega) (fun h=>by cases h) (fun _ b2 c2 hc2=>?_);(refine run ?_;repeat intro b);refine eC (Hp.sub.refl _) (dM rfl) ?_;refine dR [8] (f':=3) (by kernel_rfl) rfl rfl rfl ?_;(refine run ?_;repeat intro b);refine dY 10 (by kernel_rfl) rfl rfl ?_;(refine run ?_;repeat intro b);refine eC (Hp.sub.refl _) (dM rfl) ?_;refine dR [11,12] (f':=0) (by kernel_rfl) rfl rfl rfl ?_;(refine run ?_;repeat intro b);refine fk (by kernel_rfl) ?_;(refine run ?_;repeat intro b);refine eM ?_;have hcells:((q.wait.flatMap Ask.cells).map EV.v).take (q.wait.length * 4)++a.cells.map EV.v=((q.wait++[a]).flatMap Ask.cells).map EV.v:=by
     rw[vg,aF,an (by rw[ab,dL gj];exact ah _)]
    refine VS.freeze 5 [4,5,6] rfl ((a8 (iU _) hcells).trans (eD _)) rfl rfl fun F' hs1 hf1=>VS.id ⟨_,rfl,some ⟨b2,0,none⟩,c2,by rw[ag];rfl,hf1,by rw[ag];exact hc2⟩
   (refine run ?_;repeat intro b);(refine run ?_;repeat intro b);refine eC (Hp.sub.refl _) (dM rfl) ?_;refine dY 4 (by kernel_rfl) rfl rfl ?_;refine nA (R:=fun _ cs=>cs=q.wait.flatMap Ask.cells) (fun x F' new h=>⟨_,h,rfl⟩) rfl rfl rfl Mn rfl hcl (fun hk0 F1 p1 cs hF1 hcs=>?_) (fun hk1 F1 b1 c1 cs hF1 hc1 hcs=>?_)
   ·(refine run ?_;repeat intro b);refine eC hF1 (dM rfl) ?_;refine dY 7 (by kernel_rfl) rfl rfl ?_;refine jy [] rfl rfl rfl rfl rfl rfl rfl (eG _ _) (fb rfl rfl) (rU _ a) (by decide) (fun h=>by cases h) (fun _ b2 c2 hc2=>?_);(refine run ?_;repeat intro b);refine eC (Hp.sub.refl _) (dM rfl) ?_;refine dR [8] (f':=3) (by kernel_rfl) rfl rfl rfl ?_;(refine run ?_;repeat intro b);refine dY 10 (by kernel_rfl) rfl rfl ?_;(refine run ?_;repeat intro b);refine eC (Hp.sub.refl _) (dM rfl) ?_;refine dR [11,12] (f':=0) (by kernel_rfl) rfl rfl rfl ?_;(refine run ?_;repeat intro b);refine fk (by kernel_rfl) ?_;(refine run ?_;repeat intro b);have hnil:q.wait=[]:=aq hk0;rw[hnil];refine eM ?_;refine VS.freeze 4 [4,5,6] rfl (eD a.cells) rfl rfl fun F' hs1 hf1=>VS.id ⟨_,rfl,some ⟨b2,0,none⟩,c2,rfl,hf1,hc2⟩
   (refine run ?_;repeat intro b);refine eC hF1 (dM rfl) ?_;refine dY 7 (by kernel_rfl) rfl rfl ?_;subst hcs;refine fv rfl rfl rfl rfl rfl rfl rfl rfl (fb rfl rfl) (rU _ a) (fun h=>by cases h) hc1 rfl (by rw[ab,dL gj];exact ah _) (by show _ * 48≤_;omega) (fun h=>by cases h) (fun _ b2 c2 hc2=>?_);(refine run ?_;repeat intro b);refine eC (Hp.sub.refl _) (dM rfl) ?_;refine dR [8] (f':=3) (by kernel_rfl) rfl rfl rfl ?_;(refine run ?_;repeat intro b);refine dY 10 (by kernel_rfl) rfl rfl ?_;(refine run ?_;repeat intro b);refine eC (Hp.sub.refl _) (dM rfl) ?_;refine dR [11,12] (f':=0) (by kernel_rfl) rfl rfl rfl ?_;(refine run ?_;repeat intro b);refine fk (by kernel_rfl) ?_;(refine run ?_;repeat intro b);refine eM ?_;have hcells:((q.wait.flatMap Ask.cells).map EV.v).take (q.wait.length * 4)++a.cells.map EV.v=((q.wait++[a]).flatMap Ask.cells).map EV.v:=by
    rw[vg,aF,an (by rw[ab,dL gj];exact ah _)]
   refine VS.freeze 5 [4,5,6] rfl ((a8 (iU _) hcells).trans (eD _)) rfl rfl fun F' hs1 hf1=>VS.id ⟨_,rfl,some ⟨b2,0,none⟩,c2,by rw[ag];rfl,hf1,by rw[ag];exact hc2⟩
  have e1:oG q a=eJ a.name a.value:=by unfold oG;rw[aZ h0,aY h1]
  obtain⟨e2,e3⟩:=hE _ h1 e1;rw[e1,e2,e3];generalize eJ a.name a.value=e at h1;(refine run ?_;repeat intro b);refine ez false ?_ (fun h=>by cases h) (fun _=>?_)
  ·refine dS ?_;rw[fH,dA.2 h1];rfl
  (refine run ?_;repeat intro b);refine ez true ?_ (fun _=>?_) (fun h=>by cases h)
  ·refine dS ?_;rw[bne_iff_ne];exact h1
  (refine run ?_;repeat intro b);exact eM (VS.id ⟨_,rfl,none,0,rfl,eG _ _,ah _⟩)
 have h0: ¬fg q=0:=au h;have e1:oG q a=fg q:=by unfold oG;rw[aY h0]
 obtain⟨e2,e3⟩:=hE _ h0 e1;rw[e1,e2,e3];generalize fg q=e at h0;(refine run ?_;repeat intro b);refine ez false ?_ (fun h=>by cases h) (fun _=>?_)
 ·refine dS ?_;rw[fH,dA.2 h0];rfl
 (refine run ?_;repeat intro b);refine ez true ?_ (fun _=>?_) (fun h=>by cases h)
 ·refine dS ?_;rw[bne_iff_ne];exact h0
 (refine run ?_;repeat intro b);exact eM (VS.id ⟨_,rfl,none,0,rfl,eG _ _,ah _⟩)
end
section
open Go.TR
def pE (q:Queue)(n:Int):Int:=if fg q=0 then (if n<0 then 4 else 0) else fg q
def lM (q:Queue)(n:Int):Nat:=min n.toNat q.wait.length
def sD (q:Queue)(n:Int):Queue:=if pE q n=0 then ⟨q.most,q.wait.drop (lM q n)⟩ else Queue.nil
def wN (q:Queue)(n:Int):List Ask:=if pE q n=0 then q.wait.take (lM q n) else []
theorem tu (l:List Ask)(n:Nat){p:Option Addr}{c:Nat}{F:Hp}(hn:n=l.length)(hf:eY F p (l.flatMap Ask.cells))(hb:n≤1000000000000):iu Tryz.prog F 93 [.slice p n c] (fun x F'=>∃p c,x= .slice p n c∧n≤c∧eY F' p (l.flatMap Ask.cells)):=
 eu.MH (fun h=>by rw[aq (by omega:l.length=0)];rfl) (Bw (l.flatMap Ask.cells) n (by rw[dL gj,hn]) hf (xg _) (by omega))
attribute [local irreducible] vc dT gx fc fA gC gG gw fG Plain eu eR dH VS fq fx fD ju fe IntKind.wrap
set_option maxRecDepth 100000
set_option maxHeartbeats 2000000 in
theorem Cf (q:Queue)(n:Int)(hw:q.wf){p:Option Addr}{c:Nat}{F:Hp}(hc:q.wait.length≤c)(hf:eY F p (q.wait.flatMap Ask.cells)):iu Tryz.prog F 42 [qv q.most p q.wait.length c,i64 n] (fun x F'=>∃p c p2 c2,x=triple (qv (sD q n).most p (sD q n).wait.length c) (.slice p2 (wN q n).length c2) (i64 (pE q n))∧eY F' p ((sD q n).wait.flatMap Ask.cells)∧eY F' p2 ((wN q n).flatMap Ask.cells)∧(sD q n).wait.length≤c):=by
 refine eu.drop ?_;refine fU (N:=35) (rv:=[.cell 4 24,.tmp 5,.tmp 6]) eP mixed Tryz.func42 rfl rfl rfl rfl rfl ?_;have SN:=oM q hw (c:=c) hf;have hE: ∀e,e≠0→pE q n=e→sD q n=Queue.nil∧wN q n=[]:=fun e he h=>by
  unfold sD wN;rw[h,aY he,aY he];exact⟨rfl,rfl⟩
 (refine run ?_;repeat intro b);refine dG _ rfl rfl rfl R2 rfl SN ?_;(refine run ?_;repeat intro b);refine ez (decide (fg q≠0)) ?_ (fun h=>?_) (fun h=>?_)
 ·refine dS ?_;rw[ai];simp
 ·have h0:fg q≠0:=ar h;have e1:pE q n=fg q:=by unfold pE;rw[aY h0]
  obtain⟨e2,e3⟩:=hE _ h0 e1;rw[e1,e2,e3];(refine run ?_;repeat intro b);exact eM (VS.id ⟨_,rfl,none,0,none,0,rfl,eG _ _,eG _ _,ah _⟩)
 have h0:fg q=0:=by simpa using h
 obtain⟨g1,g2,g3⟩:=qD h0;(refine run ?_;repeat intro b);refine ez (decide (n<0)) rfl (fun h2=>?_) (fun h2=>?_)
 ·have e1:pE q n=4:=by unfold pE;rw[aZ h0,aZ (ar h2)]
  obtain⟨e2,e3⟩:=hE 4 (by decide) e1;rw[e1,e2,e3];(refine run ?_;repeat intro b);exact eM (VS.id ⟨_,rfl,none,0,none,0,rfl,eG _ _,eG _ _,ah _⟩)
 have h2': ¬n<0:=au h2;have e1:pE q n=0:=by unfold pE;rw[aZ h0,aY h2']
 have e2:sD q n=⟨q.most,q.wait.drop (lM q n)⟩:=by unfold sD;rw[aZ e1]
 have e3:wN q n=q.wait.take (lM q n):=by unfold wN;rw[aZ e1]
 rw[e1,e2,e3];have hmin:(if ((q.wait.length:Nat):Int)<n then ((q.wait.length:Nat):Int) else n)=((lM q n:Nat):Int):=by
  unfold lM;split<;>omega
 have hm:lM q n≤q.wait.length:=by unfold lM;omega
 have hl1:(q.wait.drop (lM q n)).length=q.wait.length - lM q n:=aR;have hl2:(q.wait.take (lM q n)).length=lM q n:=by rw[aw];omega
 have f1:=mn gj hf (lM q n) c hm hc;have f2:eY F (jI p 0 c 4) ((q.wait.take (lM q n)).flatMap Ask.cells):=by
  have:jI p 0 c 4=p:=by
   unfold jI;split
   ·rfl
   cases p with
   | none=>rfl
   | some ad=>simp[Addr.add]
  rw[this];exact nK gj hf _
 have hcl:=tu (q.wait.drop (lM q n)) (q.wait.length - lM q n) (c:=c - lM q n) hl1.symm f1 (by omega);(refine run ?_;repeat intro b);rw[hmin];refine fz [0] (by kernel_rfl) ?_;refine dR [0,1,2,3,4,5,8,9,10,11] (f':=6) (by kernel_rfl) rfl rfl rfl ?_;(refine run ?_;repeat intro b);refine dI rfl rfl rfl ⟨by omega,by omega,hc⟩ ?_;rw[ae];(refine run ?_;repeat intro b);refine dI rfl rfl rfl ⟨by omega,by omega⟩ ?_;rw[ae];(refine run ?_;repeat intro b);refine dY 6 (by kernel_rfl) rfl rfl ?_;refine fi rfl rfl rfl Mn rfl hcl ?_;rintro _ F1 hF1 ⟨pa,ca,rfl,Su,hfa⟩;(refine run ?_;repeat intro b);refine eC hF1 (dM rfl) ?_;refine dR [7] (f':=4) (by kernel_rfl) rfl rfl rfl ?_;(refine run ?_;repeat intro b);refine dY 12 (by kernel_rfl) rfl rfl ?_;refine fi rfl rfl rfl Mn rfl (tu (q.wait.take (lM q n)) (lM q n) (c:=c) hl2.symm (dZ hF1 f2) (by omega)) ?_;rintro _ F2 hF2 ⟨pb,cb,rfl,hcb,wW⟩;(refine run ?_;repeat intro b);refine eC hF2 (dM rfl) ?_;refine dY 13 (by kernel_rfl) rfl rfl ?_;(refine run ?_;repeat intro b);refine eC (Hp.sub.refl _) (dM rfl) ?_;refine dR [14,15] (f':=0) (by kernel_rfl) rfl rfl rfl ?_;(refine run ?_;repeat intro b);refine fk (by kernel_rfl) ?_;(refine run ?_;repeat intro b);exact eM (VS.id ⟨_,rfl,pa,ca,pb,cb,by rw[hl1,hl2];rfl,dZ hF2 hfa,wW,by rw[hl1];exact Su⟩)
end
section
open Go.TR
theorem nk (n:Int):IntKind.u64.wrap n=n % 18446744073709551616:=by
 simp[IntKind.wrap,IntKind.bits,IntKind.signed]
theorem Ot (n:Int):IntKind.u8.wrap n=n % 256:=by
 simp[IntKind.wrap,IntKind.bits,IntKind.signed]
theorem Io (a b:Nat):IntKind.u64.wrap ((a:Int)+(b:Int))=(((a+b) % 18446744073709551616:Nat):Int):=by rw[nk];omega
theorem Ul (a b:Nat):IntKind.u64.wrap ((a:Int) * (b:Int))=(((a * b) % 18446744073709551616:Nat):Int):=by rw[nk,←Int.natCast_mul];omega
theorem Rt (a:Nat):IntKind.u64.wrap (2 * (a:Int))=(((2 * a) % 18446744073709551616:Nat):Int):=by rw[nk];omega
theorem N0 (a:Nat):IntKind.u64.wrap (4294967296 * (a:Int))=(((a * 4294967296) % 18446744073709551616:Nat):Int):=by rw[nk];omega
theorem CV (a:Nat)(h:1≤a)(h2:a<18446744073709551616):IntKind.u64.wrap ((a:Int) - 1)=((a - 1:Nat):Int):=by rw[nk];omega
theorem IA (a b:Nat)(h:a<18446744073709551616):IntKind.u64.wrap ((a:Int).tdiv (b:Int))=((a / b:Nat):Int):=by
 have e:(a:Int).tdiv (b:Int)=((a / b:Nat):Int):=(Int.ofNat_tdiv a b).symm;rw[e,nk];have:a / b≤a:=Nat.div_le_self _ _;generalize a / b=q at *;omega
theorem tG (a b:Nat):(a:Int).tmod (b:Int)=((a % b:Nat):Int):=Int.ofNat_tmod a b ▸ rfl
theorem Ca (a:Nat):Int.fdiv (a:Int) (2 ^ min (Int.toNat 32) IntKind.u64.bits)=((a / 4294967296:Nat):Int):=by
 have:(2 ^ min (Int.toNat 32) IntKind.u64.bits:Int)=((4294967296:Nat):Int):=by decide
 rw[this,←bG]
theorem Pn (a:Nat):Int.fdiv (a:Int) (2 ^ min (Int.toNat 16) IntKind.u64.bits)=((a / 65536:Nat):Int):=by
 have:(2 ^ min (Int.toNat 16) IntKind.u64.bits:Int)=((65536:Nat):Int):=by decide
 rw[this,←bG]
theorem Sd (a:Nat):Int.fdiv (a:Int) (2 ^ min (Int.toNat 8) IntKind.u64.bits)=((a / 256:Nat):Int):=by
 have:(2 ^ min (Int.toNat 8) IntKind.u64.bits:Int)=((256:Nat):Int):=by decide
 rw[this,←bG]
theorem I2 (a:Nat):IntKind.u64.wrap (((BitVec.ofInt IntKind.u64.bits (a:Int) &&& BitVec.ofInt IntKind.u64.bits 4294967295).toNat:Nat):Int)=((a % 4294967296:Nat):Int):=by
 have h1:(BitVec.ofInt IntKind.u64.bits (a:Int) &&& BitVec.ofInt IntKind.u64.bits 4294967295).toNat=a % 4294967296:=by
  rw[BitVec.toNat_and];have e1:(BitVec.ofInt IntKind.u64.bits (a:Int)).toNat=a % 18446744073709551616:=by simp[IntKind.bits]
  have e2:(BitVec.ofInt IntKind.u64.bits 4294967295).toNat=2 ^ 32 - 1:=by decide
  rw[e1,e2,Nat.and_two_pow_sub_one_eq_mod];omega
 rw[h1,nk];omega
theorem Kv (x y:Nat):x * y=(x / 4294967296) * (y / 4294967296) * 18446744073709551616+((x / 4294967296) * (y % 4294967296)+(x % 4294967296) * (y / 4294967296)) * 4294967296+(x % 4294967296) * (y % 4294967296):=by
 have hx:x=(x / 4294967296) * 4294967296+x % 4294967296:=by omega
 have hy:y=(y / 4294967296) * 4294967296+y % 4294967296:=by omega
 generalize x / 4294967296=x1 at *;generalize x % 4294967296=x0 at *;generalize y / 4294967296=y1 at *;generalize y % 4294967296=y0 at *;subst hx hy
 grind
theorem uW {a b:Nat}(ha:a<4294967296)(hb:b<4294967296):a * b≤18446744065119617025:=by
 have:=Nat.mul_le_mul (show a≤4294967295 by omega) (show b≤4294967295 by omega);omega
theorem So (x y:Nat)(hx:x<18446744073709551616)(hy:y<18446744073709551616):
  (((x / 4294967296 * (y / 4294967296)) % 18446744073709551616+((x / 4294967296 * (y % 4294967296) % 18446744073709551616+x % 4294967296 * (y % 4294967296) % 18446744073709551616 / 4294967296) % 18446744073709551616) / 4294967296) % 18446744073709551616+
   ((((x / 4294967296 * (y % 4294967296) % 18446744073709551616+x % 4294967296 * (y % 4294967296) % 18446744073709551616 / 4294967296) % 18446744073709551616) % 4294967296+(x % 4294967296 * (y / 4294967296)) % 18446744073709551616) % 18446744073709551616) / 4294967296) % 18446744073709551616=x * y / 18446744073709551616:=by
 rw[Kv x y];have h1:=uW (a:=x / 4294967296) (b:=y / 4294967296) (by omega) (by omega);have h2:=uW (a:=x / 4294967296) (b:=y % 4294967296) (by omega) (by omega);have h3:=uW (a:=x % 4294967296) (b:=y / 4294967296) (by omega) (by omega);have h4:=uW (a:=x % 4294967296) (b:=y % 4294967296) (by omega) (by omega);generalize x / 4294967296 * (y / 4294967296)=A at *;generalize x / 4294967296 * (y % 4294967296)=B at *;generalize x % 4294967296 * (y / 4294967296)=C at *;generalize x % 4294967296 * (y % 4294967296)=D at *;omega
end
section
open Go.TR
attribute [local irreducible] vc dT gx fc fA gC gG gw fG Plain eu eR dH VS fq fx fD ju fe
set_option maxRecDepth 100000
theorem D5 (x y:Nat)(hx:x<18446744073709551616)(hy:y<18446744073709551616)(F:Hp):Plain Tryz.prog F 179 [u64 x,u64 y] (pair (u64 (x * y / 18446744073709551616:Nat)) (u64 (x * y % 18446744073709551616:Nat))):=by
 refine dN (N:=51) (rv:=[.tmp 4,.tmp 5]) eP mixed Tryz.func179 rfl rfl rfl rfl rfl ?_;(refine run ?_;repeat intro b);simp only[gE,I2,Ca,Ul,Io,So x y hx hy]
def mF:List UInt8:=[0,1,2,2,3,3,3,3,4,4,4,4,4,4,4,4,5,5,5,5,5,5,5,5,5,5,5,5,5,5,5,5,6,6,6,6,6,6,6,6,6,6,6,6,6,6,6,6,6,6,6,6,6,6,6,6,6,6,6,6,6,6,6,6,7,7,7,7,7,7,7,7,7,7,7,7,7,7,7,7,7,7,7,7,7,7,7,7,7,7,7,7,7,7,7,7,7,7,7,7,7,7,7,7,7,7,7,7,7,7,7,7,7,7,7,7,7,7,7,7,7,7,7,7,7,7,7,7,8,8,8,8,8,8,8,8,8,8,8,8,8,8,8,8,8,8,8,8,8,8,8,8,8,8,8,8,8,8,8,8,8,8,8,8,8,8,8,8,8,8,8,8,8,8,8,8,8,8,8,8,8,8,8,8,8,8,8,8,8,8,8,8,8,8,8,8,8,8,8,8,8,8,8,8,8,8,8,8,8,8,8,8,8,8,8,8,8,8,8,8,8,8,8,8,8,8,8,8,8,8,8,8,8,8,8,8,8,8,8,8,8,8,8,8,8,8,8,8,8,8,8,8,8,8,8,8]
theorem Ij: ∀i:Fin 256,i.val<2 ^ (mF.getD i.val 0).toNat∧(mF.getD i.val 0).toNat≤8:=by decide
def R0 (x n:Nat):Nat:=n+(mF.getD x 0).toNat
def Pe (x n:Nat):Nat:=if 256≤x then R0 (x / 256) (n+8) else R0 x n
def OX (x n:Nat):Nat:=if 65536≤x then Pe (x / 65536) (n+16) else Pe x n
def Bs (x:Nat):Nat:=if 4294967296≤x then OX (x / 4294967296) 32 else OX x 0
theorem u8_in (e:Int):0≤IntKind.u8.wrap e∧IntKind.u8.wrap e<((bl (jB mF)).length:Nat):=by
 have:((bl (jB mF)).length:Nat)=256:=by decide
 rw[this,Ot];omega
theorem O3 (n y m:Nat)(hy:y<256)(h:IntKind.u8.wrap (y:Int)=(y:Int)→(bl (jB mF)).getD (y:Int).toNat 0=mF.getD y 0→n+(mF.getD y 0).toNat=m)(hn:n≤64):IntKind.i64.wrap ((n:Int)+IntKind.i64.wrap ((((bl (jB mF)).getD (IntKind.u8.wrap (y:Int)).toNat 0).toNat:Nat):Int))=((m:Nat):Int):=by
 have e1:IntKind.u8.wrap (y:Int)=(y:Int):=by rw[Ot];omega
 have e2:(bl (jB mF)).getD (y:Int).toNat 0=mF.getD y 0:=rfl;have e3:=(Ij ⟨y,hy⟩).2;have e4:=h e1 e2;simp only at e3;rw[e1,e2,wrap_i64 (n:=((mF.getD y 0).toNat:Int)) (by omega) (by omega),wrap_i64 (by omega) (by omega),←e4];omega
set_option maxHeartbeats 1000000 in
theorem Fx (x:Nat)(hx:x<18446744073709551616)(F:Hp):Plain Tryz.prog F 183 [u64 x] (i64 (Bs x:Nat)):=by
 refine dN (N:=25) (rv:=[.tmp 2]) eP mixed Tryz.func183 rfl rfl rfl rfl rfl ?_;(refine run ?_;repeat intro b);refine ez _ rfl (fun h=>?_) (fun h=>?_)
 all_goals
  (refine run ?_;repeat intro b)
  try rw[Ca]
  refine ez _ rfl (fun h2=>?_) (fun h2=>?_)
  all_goals
   (refine run ?_;repeat intro b)
   try rw[Pn]
   refine ez _ rfl (fun h3=>?_) (fun h3=>?_)
   all_goals
    (refine run ?_;repeat intro b)
    try rw[Sd]
    refine dI rfl rfl rfl (u8_in _) ?_;(refine run ?_;repeat intro b);simp only[av,aU]at h h2 h3;refine a8 (Value.int .i64) (O3 _ _ _ (by omega) (fun _ _=>?_) (by decide));unfold Bs
    (first | rw[aZ (show 4294967296≤x by omega)] | rw[aY (show¬4294967296≤x by omega)])
    unfold OX
    (first | rw[aZ (by omega)] | rw[aY (by omega)])
    unfold Pe
    (first | rw[aZ (by omega)] | rw[aY (by omega)])
    rfl
theorem Mu (x:Nat)(hx:x<18446744073709551616):x<2 ^ Bs x∧Bs x≤64:=by
 have key: ∀y n:Nat,y<256→n≤56→∀z,z<2 ^ n * (y+1)→z<2 ^ (n+(mF.getD y 0).toNat)∧n+(mF.getD y 0).toNat≤64:=fun y n hy hn z hz=>by
  obtain⟨h1,h2⟩:=Ij ⟨y,hy⟩;simp only at h1 h2;refine⟨?_,by omega⟩;rw[Nat.pow_add];exact Nat.lt_of_lt_of_le hz (Nat.mul_le_mul_left _ h1)
 unfold Bs OX Pe R0
 repeat' split
 all_goals (refine key _ _ (by omega) (by decide) x ?_;omega)
end
section
open Go.TR
theorem Xu:IntKind.i64.wrap (64 - 61)=3:=by decide
theorem es:IntKind.u64.wrap 3=3:=by decide
theorem e61:IntKind.u64.wrap (64 - 3)=61:=by decide
theorem eV:IntKind.u64.wrap (2305843009213693951 * 2 ^ min (Int.toNat 3) IntKind.u64.bits)=18446744073709551608:=by decide
theorem ey1:Int.fdiv 18446744073709551608 (2 ^ min (Int.toNat 32) IntKind.u64.bits)=4294967295:=by decide
theorem ey0:IntKind.u64.wrap (((BitVec.ofInt IntKind.u64.bits 18446744073709551608 &&& BitVec.ofInt IntKind.u64.bits 4294967295).toNat:Nat):Int)=4294967288:=by decide
attribute [local irreducible] vc dT gx fc fA gC gG gw fG Plain eu eR dH VS fq fx fD ju fe IntKind.wrap
set_option maxRecDepth 100000
def nS (A b:Nat)(p:Nat×Nat):Prop:=p.1 * 4294967295+p.2=A∧(A * 4294967296+b) / 18446744073709551608≤p.1∧p.1≤4294967297∧p.2<4294967296∧A<18446744073709551608∧b<4294967296
theorem wA (A b:Nat)(hA:A<18446744073709551608)(hb:b<4294967296):nS A b (A / 4294967295,A % 4294967295):=by
 unfold nS;simp only;refine⟨by omega,by omega,by omega,by omega,hA,hb⟩
theorem wU {A b q r:Nat}(h:nS A b (q,r))(h2:q * 4294967288≤r * 4294967296+b):q=(A * 4294967296+b) / 18446744073709551608:=by
 unfold nS at h;simp only at h;omega
theorem zR {A b q r:Nat}(h:nS A b (q,r))(h1:4294967296≤q∨r * 4294967296+b<q * 4294967288)(h2:r+4294967295<4294967296):nS A b (q - 1,r+4294967295)∧1≤q:=by
 unfold nS at h ⊢;simp only at h ⊢;omega
theorem xQ {A b q r:Nat}(h:nS A b (q,r))(h1:4294967296≤q∨r * 4294967296+b<q * 4294967288)(h2:4294967296≤r+4294967295):q - 1=(A * 4294967296+b) / 18446744073709551608∧1≤q:=by
 unfold nS at h;simp only at h;omega
theorem se {A b q r:Nat}(h:nS A b (q,r)):q * 4294967288 % 18446744073709551616=q * 4294967288∧r * 4294967296 % 18446744073709551616=r * 4294967296∧(r * 4294967296+b) % 18446744073709551616=r * 4294967296+b∧(r+4294967295) % 18446744073709551616=r+4294967295∧q<18446744073709551616∧r<4294967296∧b<4294967296:=by
 unfold nS at h;simp only at h;omega
theorem Ro (a:Nat):IntKind.u64.wrap ((a:Int) * 2 ^ min (Int.toNat 3) IntKind.u64.bits)=((a * 8 % 18446744073709551616:Nat):Int):=by
 have:(2 ^ min (Int.toNat 3) IntKind.u64.bits:Int)=8:=by decide
 rw[this,nk];omega
theorem Py (a:Nat):Int.fdiv (a:Int) (2 ^ min (Int.toNat 61) IntKind.u64.bits)=((a / 2305843009213693952:Nat):Int):=by
 have:(2 ^ min (Int.toNat 61) IntKind.u64.bits:Int)=((2305843009213693952:Nat):Int):=by decide
 rw[this,←bG]
theorem RS (a:Nat):Int.fdiv (a:Int) (2 ^ min (Int.toNat 3) IntKind.u64.bits)=((a / 8:Nat):Int):=by
 have:(2 ^ min (Int.toNat 3) IntKind.u64.bits:Int)=((8:Nat):Int):=by decide
 rw[this,←bG]
theorem XW (a c:Nat)(ha:a<2305843009213693952)(hc:c<8):IntKind.u64.wrap (((BitVec.ofInt IntKind.u64.bits ((a * 8 % 18446744073709551616:Nat):Int) ||| BitVec.ofInt IntKind.u64.bits (c:Int)).toNat:Nat):Int)=((a * 8+c:Nat):Int):=by
 have h1:(BitVec.ofInt IntKind.u64.bits ((a * 8 % 18446744073709551616:Nat):Int) ||| BitVec.ofInt IntKind.u64.bits (c:Int)).toNat=a * 8+c:=by
  rw[BitVec.toNat_or];have e1:(BitVec.ofInt IntKind.u64.bits ((a * 8 % 18446744073709551616:Nat):Int)).toNat=a <<< 3:=by
   rw[Nat.shiftLeft_eq];simp[IntKind.bits];omega
  have e2:(BitVec.ofInt IntKind.u64.bits (c:Int)).toNat=c:=by simp[IntKind.bits];omega
  rw[e1,e2,←Nat.shiftLeft_add_eq_or_of_lt (show c<2 ^ 3 by omega),Nat.shiftLeft_eq]
 rw[h1,nk];omega
theorem ZN (a:Nat)(h:a<18446744073709551616):IntKind.u64.wrap ((a:Int).tdiv 4294967295)=((a / 4294967295:Nat):Int):=IA a 4294967295 h
theorem UN (a:Nat):IntKind.u64.wrap ((a:Int) - IntKind.u64.wrap (((a / 4294967295:Nat):Int) * 4294967295))=((a % 4294967295:Nat):Int):=by rw[nk,nk];omega
theorem XK (a:Nat):IntKind.u64.wrap ((a:Int) * 4294967288)=((a * 4294967288 % 18446744073709551616:Nat):Int):=by rw[nk];omega
theorem Rp (a:Nat):IntKind.u64.wrap ((a:Int)+4294967295)=(((a+4294967295) % 18446744073709551616:Nat):Int):=by rw[nk];omega
theorem L3 (A b q:Nat)(h:q=(A * 4294967296+b) / 18446744073709551608):IntKind.u64.wrap (IntKind.u64.wrap (IntKind.u64.wrap ((A:Int) * 4294967296)+(b:Int)) - IntKind.u64.wrap ((q:Int) * 18446744073709551608))=(((A * 4294967296+b) % 18446744073709551608:Nat):Int):=by
 subst h;simp only[nk];omega
theorem uh {A b q r:Nat}(h:nS A b (q,r)):lL (decide ((4294967296:Int)≤(q:Int))) true (decide (IntKind.u64.wrap (IntKind.u64.wrap (4294967296 * (r:Int))+(b:Int))<IntKind.u64.wrap ((q:Int) * 4294967288)))=true ↔ 4294967296≤q∨r * 4294967296+b<q * 4294967288:=by
 have g:=se h;rw[fu,XK,N0,Io,g.1,g.2.1,g.2.2.1];simp only[bD,av];omega
theorem ua {A b q r:Nat}(h:nS A b (q,r)):decide ((4294967296:Int)≤IntKind.u64.wrap ((r:Int)+4294967295))=true ↔ 4294967296≤r+4294967295:=by
 have g:=se h;rw[Rp,g.2.2.2.1];simp only[av];omega
theorem TU (F:Hp):Plain Tryz.prog F 280 [u64 2305843009213693951] (i64 3):=by
 refine dN (N:=6) (rv:=[.tmp 2]) eP mixed Tryz.func280 rfl rfl rfl rfl rfl ?_;(refine run ?_;repeat intro b);refine dG (i64 61) rfl rfl rfl QE rfl (Fx 2305843009213693951 (by decide) F) ?_;(refine run ?_;repeat intro b);exact a8 (Value.int .i64) Xu
def zf (hi lo:Nat):Nat:=(hi * 18446744073709551616+lo) % 2305843009213693951
def Vl (hi lo:Nat):Int:=IntKind.u64.wrap (IntKind.u64.wrap ((((hi * 8+lo / 2305843009213693952) * 4294967296+lo * 8 % 18446744073709551616 / 4294967296) / 18446744073709551608:Nat) * 4294967296)+((((((hi * 8+lo / 2305843009213693952) * 4294967296+lo * 8 % 18446744073709551616 / 4294967296) % 18446744073709551608) * 4294967296+lo * 8 % 18446744073709551616 % 4294967296) / 18446744073709551608:Nat):Int))
set_option maxHeartbeats 1000000 in
theorem L8 (hi lo:Nat)(hhi:hi<2305843009213693951)(hlo:lo<18446744073709551616)(F:Hp): ∃q:Int,Plain Tryz.prog F 241 [u64 hi,u64 lo,u64 2305843009213693951] (pair (u64 q) (u64 (zf hi lo:Nat))):=by
 by_cases h0:hi=0
 ·subst h0;refine⟨((lo / 2305843009213693951:Nat):Int),dN (N:=135) (rv:=[.tmp 6,.tmp 7]) eP mixed Tryz.func241 rfl rfl rfl rfl rfl ?_⟩;(refine run ?_;repeat intro b);refine fM (by kernel_rfl) ?_;(refine run ?_;repeat intro b);simp only[gE];have e1:=IA lo 2305843009213693951 hlo;have e2:=tG lo 2305843009213693951;have e3:zf 0 lo=lo % 2305843009213693951:=by unfold zf;omega
  rw[e3,←e1,←e2];rfl
 refine⟨Vl hi lo,dN (N:=135) (rv:=[.tmp 6,.tmp 7]) eP mixed Tryz.func241 rfl rfl rfl rfl rfl ?_⟩;(refine run ?_;repeat intro b);refine ez _ rfl (fun h=>?_) (fun _=>?_)
 ·simp at h;omega
 (refine run ?_;repeat intro b);refine ez _ rfl (fun h=>?_) (fun _=>?_)
 ·simp at h;omega
 (refine run ?_;repeat intro b);refine dG (i64 3) rfl rfl rfl Uu rfl (TU F) ?_;(refine run ?_;repeat intro b);rw[es];(refine run ?_;repeat intro b);rw[e61];(refine run ?_;repeat intro b);rw[eV,ey1];(refine run ?_;repeat intro b);obtain⟨A,hA⟩: ∃A:Nat,A=hi * 8+lo / 2305843009213693952:=⟨_,rfl⟩;obtain⟨b1,hb1⟩: ∃b:Nat,b=lo * 8 % 18446744073709551616 / 4294967296:=⟨_,rfl⟩;obtain⟨b0,hb0⟩: ∃b:Nat,b=lo * 8 % 18446744073709551616 % 4294967296:=⟨_,rfl⟩;have hA1:A<18446744073709551608:=by omega
 have hor:=XW hi (lo / 2305843009213693952) (by omega) (by omega);refine I7 0 (fun p:Nat×Nat=>nS A b1 p) (fun p=>⟨[(2,.v (u64 18446744073709551608)),(8,.v (u64 3)),(9,.v (u64 4294967295)),(10,.v (u64 4294967288)),(11,.v (u64 (A:Nat))),(13,.v (u64 (b1:Nat))),(14,.v (u64 (b0:Nat))),(15,.v (u64 (p.1:Nat))),(16,.v (u64 (p.2:Nat)))],F,[],0⟩) (fun p=>p.1) (A / 4294967295,A % 4294967295)
  (fun q:Nat=>q=(A * 4294967296+b1) / 18446744073709551608) (fun q=>⟨[(2,.v (u64 18446744073709551608)),(8,.v (u64 3)),(9,.v (u64 4294967295)),(10,.v (u64 4294967288)),(11,.v (u64 (A:Nat))),(13,.v (u64 (b1:Nat))),(14,.v (u64 (b0:Nat))),(15,.v (u64 (q:Nat)))],F,[],0⟩)
  (wA A b1 hA1 (by omega)) (VS.eH [2,8,9,10,11,13,14,15,16] rfl ?_) ?_ ?_
 ·simp only[ey0,Ro,Py,hor,Ca,I2,←hA,←hb1,←hb0,ZN A (by omega),UN A]
 ·intro q1 hq1;(refine run ?_;repeat intro b);rw[L3 A b1 q1 hq1];obtain⟨R,hR⟩: ∃R:Nat,R=(A * 4294967296+b1) % 18446744073709551608:=⟨_,rfl⟩;rw[←hR];have W7:R<18446744073709551608:=by omega
  refine I7 2 (fun p:Nat×Nat=>nS R b0 p) (fun p=>⟨[(2,.v (u64 18446744073709551608)),(8,.v (u64 3)),(9,.v (u64 4294967295)),(10,.v (u64 4294967288)),(14,.v (u64 (b0:Nat))),(15,.v (u64 (q1:Nat))),(17,.v (u64 (R:Nat))),(18,.v (u64 (p.1:Nat))),(16,.v (u64 (p.2:Nat)))],F,[],0⟩) (fun p=>p.1) (R / 4294967295,R % 4294967295)
   (fun q:Nat=>q=(R * 4294967296+b0) / 18446744073709551608) (fun q=>⟨[(2,.v (u64 18446744073709551608)),(8,.v (u64 3)),(14,.v (u64 (b0:Nat))),(15,.v (u64 (q1:Nat))),(17,.v (u64 (R:Nat))),(18,.v (u64 (q:Nat)))],F,[],0⟩)
   (wA R b0 W7 (by omega)) (VS.eH [2,8,9,10,14,15,17,18,16] rfl ?_) ?_ ?_
  ·simp only[ZN R (by omega),UN R]
  ·intro q0 hq0;(refine run ?_;repeat intro b);rw[L3 R b0 q0 hq0,RS];have hr:(R * 4294967296+b0) % 18446744073709551608 / 8=zf hi lo:=by unfold zf;omega
   rw[hr];simp only[gE,Vl,←hA,←hb1,←hb0,←hR,←hq0,←hq1]
  intro ⟨q,r⟩ hg u7 hn hx hret;(refine run ?_;repeat intro b);refine ez _ rfl (fun h=>?_) (fun h=>?_)
  ·have h1:=(uh hg).1 h;(refine run ?_;repeat intro b);have g3:=se hg;refine ez _ rfl (fun h2=>?_) (fun h2=>?_)
   ·have h3:=(ua hg).1 h2;obtain⟨g1,g2⟩:=xQ hg h1 h3;(refine run ?_;repeat intro b);exact hx _ (VS.eH [2,8,14,15,17,18] rfl ⟨q - 1,g1,by rw[CV q g2 (by omega)]⟩)
   have h3: ¬4294967296≤r+4294967295:=fun e=>by rw[(ua hg).2 e]at h2;cases h2
   obtain⟨g1,g2⟩:=zR hg h1 (by omega);(refine run ?_;repeat intro b);exact hn _ (qN.of (VS.eH [2,8,9,10,14,15,17,18,16] rfl ⟨(q - 1,r+4294967295),g1,by rw[CV q g2 (by omega),Rp r,g3.2.2.2.1],Nat.sub_lt g2 Nat.one_pos⟩))
  have h1: ¬(4294967296≤q∨r * 4294967296+b0<q * 4294967288):=fun e=>by rw[(uh hg).2 e]at h;cases h
  (refine run ?_;repeat intro b);exact hx _ (VS.eH [2,8,14,15,17,18] rfl ⟨q,wU hg (by omega),rfl⟩)
 intro ⟨q,r⟩ hg u7 hn hx hret;(refine run ?_;repeat intro b);refine ez _ rfl (fun h=>?_) (fun h=>?_)
 ·have h1:=(uh hg).1 h;(refine run ?_;repeat intro b);have g3:=se hg;refine ez _ rfl (fun h2=>?_) (fun h2=>?_)
  ·have h3:=(ua hg).1 h2;obtain⟨g1,g2⟩:=xQ hg h1 h3;(refine run ?_;repeat intro b);exact hx _ (VS.eH [2,8,9,10,11,13,14,15] rfl ⟨q - 1,g1,by rw[CV q g2 (by omega)]⟩)
  have h3: ¬4294967296≤r+4294967295:=fun e=>by rw[(ua hg).2 e]at h2;cases h2
  obtain⟨g1,g2⟩:=zR hg h1 (by omega);(refine run ?_;repeat intro b);exact hn _ (qN.of (VS.eH [2,8,9,10,11,13,14,15,16] rfl ⟨(q - 1,r+4294967295),g1,by rw[CV q g2 (by omega),Rp r,g3.2.2.2.1],Nat.sub_lt g2 Nat.one_pos⟩))
 have h1: ¬(4294967296≤q∨r * 4294967296+b1<q * 4294967288):=fun e=>by rw[(uh hg).2 e]at h;cases h
 (refine run ?_;repeat intro b);exact hx _ (VS.eH [2,8,9,10,11,13,14,15] rfl ⟨q,wU hg (by omega),rfl⟩)
theorem Lh (hi lo:Nat)(hlo:lo<18446744073709551616)(F:Hp):Plain Tryz.prog F 180 [u64 hi,u64 lo,u64 2305843009213693951] (u64 (zf hi lo:Nat)):=by
 refine dN (N:=19) (rv:=[.tmp 6]) eP mixed Tryz.func180 rfl rfl rfl rfl rfl ?_;(refine run ?_;repeat intro b);obtain⟨q,hq⟩:=L8 (hi % 2305843009213693951) lo (dp _ (by decide)) hlo F;have e:((hi:Int).tmod 2305843009213693951)=((hi % 2305843009213693951:Nat):Int):=tG hi 2305843009213693951;rw[e];refine dG _ rfl rfl rfl Tp rfl hq ?_;(refine run ?_;repeat intro b);have e2:zf (hi % 2305843009213693951) lo=zf hi lo:=by unfold zf;omega
 rw[e2];rfl
end
end Go.Proofs.YthbnddgjkonkdaaGreatDoor
