/- A part of the proof. -/
import Derived.Test.YthbnddgjkonkdaaGreatDoorSetClerk5
set_option linter.unusedVariables false
set_option linter.unusedSimpArgs false
namespace Go.Proofs.YthbnddgjkonkdaaGreatDoor
section
open Go.TR
theorem Bj: ∀{l:List Ask}{a:Ask},ij l=0→eJ a.name a.value=0→ij (l++[a])=0
 | [],a,_,h=>by simp only[cX,ij];rw[aZ h]
 | x::l,a,h1,h=>by
  unfold ij at h1;split at h1
  ·rename_i h2;simp only[bV,ij];rw[aZ h2];exact Bj h1 h
  rename_i h2;exact absurd h1 h2
theorem Bd: ∀(k:Nat){l:List Ask},ij l=0→ij (l.drop k)=0
 | 0,l,h=>h
 | k+1,[],h=>h
 | k+1,x::l,h=>by
  unfold ij at h;split at h
  ·exact Bd k h
  rename_i h2;exact absurd h h2
theorem oA {q:Queue}(h:fg q=0):1≤q.most∧q.most≤30∧(q.wait.length:Int)≤q.most∧ij q.wait=0:=by
 obtain⟨h1,h2,h3,_⟩:=lf h;unfold fg at h;rw[aY (by omega),aY (by omega)]at h;exact⟨h1,h2,h3,h⟩
theorem ER {q:Queue}(h1:1≤q.most)(h2:q.most≤30)(h3:(q.wait.length:Int)≤q.most)(h:ij q.wait=0):fg q=0:=by
 unfold fg;rw[aY (by omega),aY (by omega),h]
theorem AR: ∀{A B:List (List UInt8)},A.Nodup→(∀x∈A,x∈B)→A.length≤B.length
 | [],_,_,_=>az _
 | a::A,B,hn,hs=>by
  obtain⟨h1,h2⟩:=cY.1 hn;have hb:=hs a cP;have:=AR (A:=A) (B:=B.erase a) h2 fun x hx=>(List.mem_erase_of_ne (fun e=>h1 (by rw[←e];exact hx))).2 (hs x (cO _ hx));rw[List.length_erase_of_mem hb]at this;have:=List.length_pos_of_mem hb;simp only[aH];omega
theorem O0 {A B:List (List UInt8)}(h: ∀x∈A,x∈B):(kU A).length≤(kU B).length:=
 AR (qu (pQ A)) fun x hx=>(mD B x).2 (h x ((mD A x).1 hx))
theorem Nl {c:eE}{a:Ask}(h:Good c)(he:oz c a=0):Good (jj c a):=by
 have hF:=h.fault;rw[(pI he).1];rw[sT hF]at he;obtain⟨q1,q2,q3,q4⟩:=oA h.queue;split at he
 ·rename_i h1;exact absurd he h1
 rename_i h1;split at he
 ·cases he
 split at he
 ·cases he
 rename_i h3;have h1:eJ a.name a.value=0:=bE.1 h1;have h4:(c.queue.wait.length:Int)≠c.queue.most:=fun e=>h3 (.inl e);refine⟨ER q1 q2 (by simp only[ag,aH,cH];omega) (Bj q4 h1),h.span,h.chain,h.form,h.roots,?_⟩;have e:jE { c with queue:=⟨c.queue.most,c.queue.wait++[a]⟩ } []=jE c [a.name]:=by
  unfold jE gH;simp
 unfold jF;rw[e];exact Nat.le_of_not_lt fun hh=>h3 (.inr hh)
theorem yN: ∀{l:List Head}{i:Nat}{x:Head},kb l i=none→x.fault=0→kb (l++[x]) i=none
 | [],i,x,_,h=>by simp only[cX,kb];rw[aZ h]
 | y::l,i,x,h1,h=>by
  unfold kb at h1;split at h1
  ·rename_i h2;simp only[bV,kb];rw[aZ h2];exact yN h1 h
  cases h1
theorem D9: ∀{l:List Head}{i:Nat}{x:Head},sZ l i=none→(0<l.length→ji (fK l) x=true)→sZ (l++[x]) i=none
 | [],i,x,_,_=>rfl
 | [a],i,x,_,h=>by
  have hh:ji a x=true:=h (by simp);simp only[bV,cX,sZ];rw[aZ hh]
 | a::b::t,i,x,h1,h=>by
  unfold sZ at h1;split at h1
  ·rename_i h2;simp only[bV,sZ];rw[aZ h2];exact D9 (l:=b::t) h1 fun _=>h (by simp)
  cases h1
theorem AE: ∀{l:List Head}{i:Nat},(∀h∈l,h.fault=0)→kb l i=none
 | [],_,_=>rfl
 | y::l,i,h=>by
  unfold kb;rw[aZ (h y cP)];exact AE fun x hx=>h x (cO _ hx)
theorem HH {l:List Head}{x:Head}(h:(fp l).1=0)(hl:l.length<40)(hx:x.fault=0)(hk:ji (fK l) x=true):(fp (l++[x])).1=0:=by
 obtain⟨h1,h2,h3,h4,_⟩:=iL h;have hn:(l++[x]).length=l.length+1:=by simp
 unfold fp;rw[aY (by omega),aY (by omega),nD (yN (AE h3) hx) (D9 h4 fun _=>hk)]
attribute [local irreducible] gK dV gg Head.mark
theorem zS: ∀{hs:List Head}{bs:List (List Entry)}{x:Head}{b:List Entry},ir hs bs=0→hs.length=bs.length→dV b=0→gK b []=x.root→ir (hs++[x]) (bs++[b])=0
 | [],[],x,b,_,_,h1,h2=>by
  simp only[cX,ir];rw[aY (by omega),aY (fun h=>h h2)]
 | [],_::_,_,_,_,hl,_,_=>by simp at hl
 | _::_,[],_,_,_,hl,_,_=>by simp at hl
 | y::hs,c::bs,x,b,h,hl,h1,h2=>by
  unfold ir at h;split at h
  ·rename_i h3;exact absurd h h3
  rename_i h3;split at h
  ·cases h
  rename_i h4;simp only[bV,ir];rw[aY h3,aY h4];exact zS h (by simpa using hl) h1 h2
theorem Kp {c:eE}(h:Good c):Good (fP c):=by
 have hF:=h.fault;by_cases hc:gn c=true
 ·rw[(nh hF hc).1];exact h
 have hc:gn c=false:=by simpa using hc
 obtain⟨t1,t2,t3,t4,t5,t6⟩:=h.times;obtain⟨l1,l2,l3⟩:=h.lens;have hc2:=hc;unfold gn at hc2;simp only[aQ,aU]at hc2;obtain⟨tp1,tp2,tp3⟩:=h.top;have Re:sR { c with now:=c.now+1 }=false:=by
  unfold sR;simp only[aQ,aU];omega
 have hform:=h.form;unfold ns at hform;simp only[aQ,aU,ne_eq,bE]at hform;by_cases hd:(c.now+1) % c.every=0
 ·rw[(q6 hF hc hd).1];obtain⟨q1,q2,q3,q4⟩:=oA h.queue;obtain⟨s1,s2,_⟩:=h.Rk;obtain⟨n1,n2,n3,n4⟩:=h.next hc (root:=gK (fY c) []) (uS _ _);have ef:(kM c).fault=0:=by
   unfold Head.ku at n1;rw[aY (by rw[tp1];decide),aY (by omega),aY (by omega)]at n1;have e2:(fK c.dP).nc (gK (fY c) []) (c.now+1)=kM c:=n2;rw[e2]at n1;exact n1
  have ek:ji (fK c.dP) (kM c)=true:=by
   unfold ji;rw[tp1,ef];simp only[decide_true,Bool.true_and,aL,av];exact⟨⟨rfl,rfl⟩,by show (fK c.dP).at_≤c.now+1;omega⟩
  refine⟨ER q1 q2 (by show ((c.queue.wait.drop c.batch.toNat).length:Int)≤c.queue.most;rw[aR];omega) (Bd _ q4),Re,HH h.chain (by omega) ef ek,?_,zS h.roots l1.symm s1 rfl,?_⟩
  ·unfold ns;have e1:(c.dP++[kM c]).getD 0 Head.none=c.dP.getD 0 Head.none:=by
    cases hh:c.dP with
    | nil=>rw[hh]at l2;cases l2
    | cons y t=>rfl
   have e2:fK (c.dP++[kM c])=kM c:=by simp[fK]
   rw[e1,e2];simp only[aQ,aU,ne_eq,bE,ag,aH,cH];exact⟨⟨hform.1.1,by omega⟩,by show¬c.now+1<c.now+1;omega⟩
  unfold jF;refine dk (O0 (B:=jE c []) fun x hx=>?_) h.names;unfold jE at hx;have e3:gH ⟨⟨c.queue.most,c.queue.wait.drop c.batch.toNat⟩,c.batch,c.every,c.now+1,c.dP++[kM c],c.ee++[fY c]⟩=fY c:=by simp[gH]
  rw[e3]at hx;simp only[bT,aK,aG]at hx;rcases hx with⟨y,hy,rfl⟩ | ⟨y,hy,rfl⟩
  ·exact s2 y hy
  exact (h.zb y (cU hy)).1
 rw[(pB hF hc hd).1];refine⟨h.queue,Re,h.chain,?_,h.roots,h.names⟩;unfold ns;simp only[aQ,aU,ne_eq,bE];exact⟨hform.1,by show¬c.now+1<(fK c.dP).at_;omega⟩
end
section
open Go.TR
theorem Ix {o:Ow}(h1:eL o.name=true)(h2:o.head.fault=0)(h3:o.wanted.length≤30)(h4:o.wanted.any ng=false)(h5:0≤o.jA)(h6:o.jA≤o.wanted.length):kf o=0:=by
 unfold kf;rw[aZ h1,aY (by omega),aY (by rw[h4];simp;omega),aY (by omega)]
theorem MF {o:Ow}{v:List UInt8}(h:kf o=0)(he:jq o v=0):kf (jQ o v)=0∧jQ o v=⟨o.name,o.key,o.head,o.wanted++[v],o.jA⟩:=by
 have e:jQ o v=⟨o.name,o.key,o.head,o.wanted++[v],o.jA⟩:=by unfold jQ;rw[aZ he]
 obtain⟨g1,g2,g3,g4,g5,g6⟩:=iT h;unfold jq at he;rw[aY (by omega)]at he;split at he
 ·cases he
 rename_i h1;split at he
 ·cases he
 rename_i h2;rw[e];refine⟨Ix g1 g2 (by simp only[ag,aH,cH];omega) ?_ g5 (by simp only[ag,aH,cH];omega),rfl⟩;simp only[bI,g4,List.any_cons,List.any_nil,Bool.or_false,bu];simpa using h1
theorem ze {p:Poll}(h:p.bad=false):1≤p.least∧p.least≤p.most∧p.most≤1000∧1≤p.lost∧p.lost≤100∧p.least≤p.nE∧p.nE≤p.most∧0≤p.next∧p.next≤1000000000∧0≤p.asked∧p.asked≤1000000:=by
 unfold Poll.bad at h;simp only[aQ,aU]at h;omega
theorem IZ {p:Poll}(h:1≤p.least∧p.least≤p.most∧p.most≤1000∧1≤p.lost∧p.lost≤100∧p.least≤p.nE∧p.nE≤p.most∧0≤p.next∧p.next≤1000000000∧0≤p.asked∧p.asked≤1000000):p.bad=false:=by
 unfold Poll.bad;simp only[aQ,aU];omega
theorem v5 {now n:Int}(h:0≤now∧now≤1000000000)(hn:0≤n∧n≤1000):0≤later now n∧later now n≤1000000000:=by
 unfold later;rw[wrap_i64 (by omega) (by omega)];split<;>omega
theorem LM {p:Poll}{now:Int}(h:p.bad=false)(hn:0≤now∧now≤1000000000):(p.heard now).bad=false:=by
 have r:=ze h;have l:=v5 hn (n:=p.least) (by omega);refine IZ ?_;unfold Poll.heard min2;dsimp only;split<;>omega
theorem IQ {p:Poll}{now:Int}(h:p.bad=false)(hn:0≤now∧now≤1000000000)(he:p.lC now=0):(p.mP now).bad=false:=by
 have r:=ze h;have l:=v5 hn (n:=p.nE) (by omega);unfold Poll.lC at he;split at he
 ·rename_i h1;exact absurd he h1
 split at he
 ·cases he
 split at he
 ·cases he
 rename_i h3;refine IZ ?_;unfold Poll.mP min2;dsimp only;rw[wrap_i64 (n:=p.asked+1) (by omega) (by omega),wrap_i64 (n:=2 * p.nE) (by omega) (by omega)];split<;>omega
theorem LV {v:List UInt8}{jA:Int}: ∀(l:List (List UInt8)) (k:Nat),wZ v jA l k≤k+l.length
 | [],k=>az _
 | w::t,k=>by
  unfold wZ;split
  ·simp only[aH];omega
  have:=LV (v:=v) (jA:=jA) t (k+1);simp only[aH];omega
theorem Jc {o:Ow}(l:List Head)(h:Head)(q:jn)(hF:kf o=0):kf (uy o l h q)=0∧uy o l h q=if lR o l h q=0 then ⟨o.name,o.key,h,o.wanted,(mE o l h q:Nat)⟩ else o:=by
 have e:uy o l h q=if lR o l h q=0 then ⟨o.name,o.key,h,o.wanted,(mE o l h q:Nat)⟩ else o:=by unfold uy;rw[aZ hF]
 rw[e];refine⟨?_,rfl⟩;split
 ·rename_i hv;obtain⟨g1,g2,g3,g4,g5,g6⟩:=iT hF;have hn:mE o l h q≤o.wanted.length:=by
   unfold mE;split
   ·exact az _
   split
   ·exact az _
   split
   ·exact az _
   have:=LV (v:= ‹List UInt8›) (jA:=o.jA) o.wanted 0;omega
  have hh:h.fault=0:=by
   unfold lR at hv;split at hv
   ·rename_i h1;exact absurd hv h1
   split at hv
   ·cases hv
   rename_i h2;have h3:iE h q=0:=bE.1 fun hh=>h2 (.inl hh);unfold iE at h3;split at h3
   ·rename_i h4;exact absurd h3 h4
   rename_i h4;exact bE.1 h4
  exact Ix g1 hh g3 g4 (by simp) (by show ((mE o l h q:Nat):Int)≤(o.wanted.length:Nat);omega)
 exact hF
theorem Fc {x:Nat}(h:x<MM):x<18446744073709551616:=by
 unfold MM at h;omega
theorem Jn {h:Head}(hf:h.fault=0):h.wf:=by
 obtain⟨h1,h2,h3,h4,h5,h6⟩:=Head.uR hf;exact⟨Fc h3,Fc h4,⟨by omega,by omega⟩,⟨by omega,by omega⟩⟩
theorem As {s:List UInt8}(h:eL s=true):s.length≤12:=by
 unfold eL at h;simp only[aL,av]at h;exact h.1.2
theorem oB {c:eE}(h:Good c)(ha: ∀a∈c.queue.wait,a.wf):c.wf:=by
 obtain⟨l1,l2,l3⟩:=h.lens;obtain⟨t1,t2,t3,t4,t5,t6⟩:=h.times;obtain⟨q1,q2,q3,_⟩:=oA h.queue;obtain⟨_,_,c3,_⟩:=iL h.chain;refine⟨⟨ha,by omega⟩,fun x hx=>Jn (c3 x hx),by omega,by omega,⟨by omega,by omega⟩,fun l hl=>?_⟩;obtain⟨b1,b2,_⟩:=fL (m9 (by omega) h.roots l hl);refine⟨by omega,fun x hx=>?_⟩;obtain⟨g1,g2⟩:=b2 x hx;have:=As g1;exact⟨by omega,by omega⟩
theorem Km {c:eE}(h:Good c)(ha: ∀a∈c.queue.wait,a.wf): ∀a∈(fP c).queue.wait,a.wf:=by
 have hF:=h.fault;by_cases hc:gn c=true
 ·rw[(nh hF hc).1];exact ha
 have hc:gn c=false:=by simpa using hc
 by_cases hd:(c.now+1) % c.every=0
 ·rw[(q6 hF hc hd).1];exact fun a hx=>ha a (cU hx)
 rw[(pB hF hc hd).1];exact ha
theorem Lx {c:eE}{a:Ask}(he:oz c a=0)(ha: ∀a∈c.queue.wait,a.wf)(hx:a.wf): ∀y∈(jj c a).queue.wait,y.wf:=by
 rw[(pI he).1];intro y hy;rcases aK.1 hy with hy | hy
 ·exact ha y hy
 rw[aB.1 hy];exact hx
theorem Em {c:eE}(h:Good c)(hc:gn c=false):(fP c).now=c.now+1:=by
 by_cases hd:(c.now+1) % c.every=0
 ·rw[(q6 h.fault hc hd).1]
 rw[(pB h.fault hc hd).1]
end
end Go.Proofs.YthbnddgjkonkdaaGreatDoor
namespace Go.TR
variable {P:Program}
theorem xd.Wb {c c':Ctx}{F:Hp}{rs:RL}{w:World}(h:xd c F rs w)(h1:c'.wE=c.wE)(h2:c'.F0=c.F0)(h3:c'.F1=c.F1)(h4:c'.sz=c.sz):xd c' F rs w:=
 ⟨h.le,h.own,by rw[h1];exact h.il,by rw[h1];exact h.new,by rw[h1,h2];exact h.jT,by rw[h4];exact h.sz,by rw[h1,h2,h3];exact h.tp⟩
theorem pz (m:Nat)(rs:RL)(e:EV):(gX m e).val (gB m rs)=e.val rs:=by
 have:=BS (nx:=m) (new:=rs) (rs:=[]) (fun id r h=>by simp[fR]at h) e
 rwa [bT]at this
theorem lP {m:Nat}{rs:RL}{id:Nat}{r:kj}(h:fR (gB m rs) id=some r):m≤id∧ ∃r0,fR rs (id - m)=some r0∧r=gV m r0:=by
 rw[sm]at h;split at h
 ·rename_i hm;cases hl:fR rs (id - m) with
  | none=>rw[hl]at h;cases h
  | some r0=>rw[hl]at h;exact⟨hm,r0,rfl,(dy h).symm⟩
 cases h
theorem nu.shift {F:Hp}{rs:RL}{w:World}(h:nu F rs w)(m:Nat):nu F (gB m rs) w where
 own:=fun id r hr=>by
  obtain⟨hm,r0,h1,rfl⟩:=lP hr;have ho:=h.own _ r0 h1;show match r0.gl with
   | none=>((gV m r0).cells=[]∨r0.ty=0∧ ∃b:Nat,(gV m r0).cells=[.v (.int .i64 (b:Int))])∧r0.cap=0
   | some b=>F b=none∧(gV m r0).cells.length≤r0.cap∧ ∃cur:Array Value,w.heap[b]? =some (.cells cur r0.ty (0,0))∧cur.size=r0.cap∧
    ∀(j:Nat) (ev:EV) (x:Value),(gV m r0).cells[j]? =some ev→ev.val (gB m rs)=some x→cur[j]? =some x
  cases hb:r0.gl with
  | none=>
   rw[hb]at ho;obtain⟨g1,g2⟩:=ho;refine⟨?_,g2⟩;rcases g1 with g1 | ⟨g0,b,g1⟩
   ·left;simp[gV,g1]
   right;exact⟨g0,b,by simp[gV,g1,gX]⟩
  | some b=>
   rw[hb]at ho;obtain⟨g1,g2,cur,g3,g4,g5⟩:=ho;refine⟨g1,by simpa [gV] using g2,cur,g3,g4,fun j ev x hj hx=>?_⟩;simp only[gV,aI,aS]at hj;obtain⟨e0,hj0,rfl⟩:=hj;rw[pz]at hx;exact g5 j e0 x hj0 hx
 apart:=fun i j r s b hi hj hb1 hb2=>by
  obtain⟨m1,r0,g1,rfl⟩:=lP hi;obtain⟨m2,s0,g2,rfl⟩:=lP hj;have:=h.apart _ _ r0 s0 b g1 g2 hb1 hb2;omega
theorem Ey {ρ:List (Nat×Nat)}{rs rs':RL}(hnd:(ρ.map (·.2)).Nodup)(h:lQ ρ rs ρ rs'): ∀{l l':List EV} {ys:List Value},sx ρ l=some l'→iU rs' l'=some ys→iU rs l=some ys
 | [],l',ys,h1,h2=>by
  simp only[sx,aa]at h1;subst h1;exact h2
 | e::t,l',ys,h1,h2=>by
  simp only[sx]at h1;split at h1
  ·rename_i e1 t1 g1 g2;simp only[aa]at h1;subst h1;simp only[iU]at h2 ⊢;split at h2
   ·rename_i x xs q1 q2;rw[Jb hnd h g1 q1,Ey hnd h g2 q2];exact h2
   cases h2
  cases h1
theorem eR.named {F:Hp}{rs vf P0:RL}{nx nx2 m:Nat}{f:FuncId}{args args2:List EV}{Q:EV→Hp→RL→Nat→Prop}(ρ:List (Nat×Nat))(hc:eR P F rs nx f args Q)(hr:lQ ρ P0 ρ vf)(hrs:vf=rs)(ha:sx ρ args2=some args)(hv:(iU rs args).isSome=true)
  (h1:oW ρ []=true) (h2:pc ρ []=true) (h3:vd 0 nx ρ=true) (hm:m+nx=nx2) (hQ: ∀e F' rs' nx',Q e F' rs' nx'→nx≤nx'∧ ∀id r,fR rs' id=some r→nx≤id):
  eR P F P0 nx2 f args2 (fun e F' rs' nx'=>∃e0 W4 W5,Q e0 F' W4 W5∧e=gX m e0∧rs'=gB m W4∧nx'=m+W5):=by
 subst hrs;intro c w hw hh Zb aax WQ xs hxs;have hs:fF { c with vf:=[],QI:=0 } 0 [] ⟨[],F,P0,nx2⟩ ⟨#[],[]⟩ w:={
  size:=rfl
  defers:=rfl
  fO:=hw.Wb rfl rfl rfl rfl
  gI:=⟨hh.sub,az _,fun id r hid=>absurd hid (Nat.not_lt_zero _)⟩
  gS:=Zb
  ids:=fun n e he=>by simp[lk]at he
  env:=fun n e x _ he=>by simp[lk]at he
  gv:=fun n ch e he=>by simp[rp]at he }
 have hs2:=Cr (k:=0) ρ [] (az _) hs hr rfl h1 h2 h3 (az _);have Zc:iU vf args=some xs:=by
  cases hy:iU vf args with
  | none=>rw[hy]at hv;cases hv
  | some ys=>rw[←hxs,Ey (BF h2).1 hr ha hy]
 refine (hc { c with vf:=vf,QI:=nx } w (hs2.fO.Wb rfl rfl rfl rfl) ⟨hh.sub,ah _,fun id r _ hr=>⟨r,hr,rfl⟩⟩ hs2.gS rfl rfl xs Zc).mono fun e w' hh'=>?_;obtain⟨x,ev,F',rs',nx',e1,e2,e3,e4,e5,e6,e7⟩:=hh';obtain⟨q1,q2⟩:=hQ _ _ _ _ e7;refine⟨x,gX m ev,F',gB m rs',m+nx',e1,?_,?_,?_,py e5,by rw[pz];exact e6,ev,rs',nx',e7,rfl,rfl,rfl⟩
 ·exact {
   le:=e2.le
   own:=e2.own.shift m
   il:=e2.il
   new:=fun id r b hr hb=>by
    obtain⟨_,r0,g1,rfl⟩:=lP hr;exact e2.new _ r0 b g1 (rX hb)
   jT:=e2.jT
   sz:=e2.sz
   tp:=e2.tp }
 ·exact {
   sub:=e3.sub
   kT:=by rw[WQ];omega
   succ:=fun id r hid hr=>by
    obtain⟨g0,r0,g1,_⟩:=lP hr;have:=q2 _ _ g1;rw[WQ]at hid;omega }
 intro id r hr;obtain⟨g0,r0,g1,rfl⟩:=lP hr;obtain⟨g2,g3⟩:=e4 _ _ g1;refine⟨by omega,fun e he=>?_⟩;simp only[gV,aG]at he;obtain⟨e0,he0,rfl⟩:=he;exact py (g3 e0 he0)
theorem rF {m:Nat}{rs:RL}{id:Nat}{r:kj}(h:fR rs id=some r):fR (gB m rs) (m+id)=some (gV m r):=by
 rw[sm,aZ (di m id),de,h];rfl
theorem nu.OU {F:Hp}{rs:RL}{w:World}{m:Nat}(h:nu F (gB m rs) w):nu F rs w where
 own:=fun id r hr=>by
  have ho:=h.own _ _ (rF (m:=m) hr);have hb:(gV m r).gl=r.gl:=rfl;cases hbk:r.gl with
  | none=>
   rw[hb,hbk]at ho;obtain⟨g1,g2⟩:=ho;refine⟨?_,g2⟩;rcases g1 with g1 | ⟨g0,b,g1⟩
   ·left;simpa [gV] using g1
   right;rcases rX (n:=m) (r:=r) (b:=b) (.inr ⟨hb.trans hbk,g0,g1⟩) with h1 | ⟨_,_,h1⟩
   ·rw[hbk]at h1;cases h1
   exact⟨g0,b,h1⟩
  | some b=>
   rw[hb,hbk]at ho;obtain⟨g1,g2,cur,g3,g4,g5⟩:=ho;refine⟨g1,by simpa [gV] using g2,cur,g3,g4,fun j ev x hj hx=>?_⟩;refine g5 j (gX m ev) x ?_ (by rw[pz];exact hx);simp[gV,hj]
 apart:=fun i j r s b hi hj hb1 hb2=>by
  have:=h.apart _ _ _ _ b (rF (m:=m) hi) (rF (m:=m) hj) hb1 hb2;omega
theorem Lm {m:Nat}{r:kj}{b:Nat}(h:r.at b):(gV m r).at b:=by
 rcases h with h | ⟨h1,h0,h2⟩
 ·exact .inl h
 exact .inr ⟨h1,h0,by simp[gV,h2,gX]⟩
theorem yi {m k:Nat}{e:EV}(h:(gX m e).lt (m+k)):e.lt k:=by
 cases e<;>simp only[gX,EV.lt]at * <;>omega
theorem eR.args {F:Hp}{rs:RL}{nx:Nat}{f:FuncId}{args args':List EV}{Q:EV→Hp→RL→Nat→Prop}(h:eR P F rs nx f args Q)(e:iU rs args'=iU rs args):eR P F rs nx f args' Q:=
 fun c w h1 h2 h3 h4 h5 xs hx=>h c w h1 h2 h3 h4 h5 xs (e ▸ hx)
theorem eR.mono {F:Hp}{rs:RL}{nx:Nat}{f:FuncId}{args:List EV}{Q Q':EV→Hp→RL→Nat→Prop}(h:eR P F rs nx f args Q)(hq: ∀e F' rs' nx',Q e F' rs' nx'→Q' e F' rs' nx'):eR P F rs nx f args Q':=
 fun c w h1 h2 h3 h4 h5 xs hx=>(h c w h1 h2 h3 h4 h5 xs hx).mono fun e w' hh=>by
  obtain⟨x,ev,F',rs',nx',e1,e2,e3,e4,e5,e6,e7⟩:=hh;exact⟨x,ev,F',rs',nx',e1,e2,e3,e4,e5,e6,hq _ _ _ _ e7⟩
theorem eR.norm {F:Hp}{rs:RL}{nx:Nat}{f:FuncId}{args:List EV}{Q:EV→Hp→RL→Nat→Prop}(j:Nat)(hj:nx≤j)
  (h:eR P F rs nx f args (fun e F' rs' nx'=>∃i r k e0,rs'=gB i r∧nx'=i+k∧e=gX i e0∧Q e0 F' r k)):
  eR P F rs nx f args (fun e F' rs' nx'=>∃r k e0,rs'=gB j r∧nx'=j+k∧e=gX j e0∧Q e0 F' r k):=by
 intro c w h1 h2 h3 h4 h5 xs hx;refine (h c w h1 h2 h3 h4 h5 xs hx).mono fun e w' hh=>?_;obtain⟨x,ev,F',rs',nx',e1,e2,e3,e4,e5,e6,i,r,k,e0,rfl,rfl,rfl,hq⟩:=hh;have hr: ∀id b,fR r id=some b→id<k∧ ∀e∈b.cells,e.lt k:=fun id b hb=>by
  obtain⟨g1,g2⟩:=e4 _ _ (rF (m:=i) hb);refine⟨by omega,fun e he=>yi (g2 (gX i e) ?_)⟩;simp only[gV,aG];exact⟨e,he,rfl⟩
 rw[pz]at e6;refine⟨x,gX j e0,F',gB j r,j+k,e1,?_,?_,?_,py (yi e5),by rw[pz];exact e6,r,k,e0,rfl,rfl,rfl,hq⟩
 ·exact {
   le:=e2.le
   own:=e2.own.OU.shift j
   il:=e2.il
   new:=fun id r' b hr' hb=>by
    obtain⟨_,r0,g1,rfl⟩:=lP hr';exact e2.new _ _ b (rF (m:=i) g1) (Lm (rX hb))
   jT:=e2.jT
   sz:=e2.sz
   tp:=e2.tp }
 ·exact {
   sub:=e3.sub
   kT:=by rw[h5];omega
   succ:=fun id r' hid hr'=>by
    obtain⟨g0,_⟩:=lP hr';rw[h5]at hid;omega }
 intro id r' hr';obtain⟨g0,r0,g1,rfl⟩:=lP hr';obtain⟨g2,g3⟩:=hr _ _ g1;refine⟨by omega,fun e he=>?_⟩;simp only[gV,aG]at he;obtain⟨e',he',rfl⟩:=he;exact py (g3 e' he')
theorem jR {tb:Tb}{N:Nat}{rv:List ResultVar}{Q:EV→Hp→RL→Nat→Prop}{st:St}(h:VS N [] st fun st'=>∃e,yR tb st' rv=some e∧Q e st'.F st'.rs st'.nx):gw N tb rv Q .normal st:=h
theorem Ba {tb:Tb}{N:Nat}{rv:List ResultVar}{Q:EV→Hp→RL→Nat→Prop}{st:St}(h:VS N [] st fun st'=>∃e,yR tb st' rv=some e∧Q e st'.F st'.rs st'.nx):gw N tb rv Q .ret st:=h
theorem pX (n:Nat)(l:List Value):(l.map EV.v).map (gX n)=l.map EV.v:=by
 rw[cL];rfl
theorem HC (a b:Nat)(e:EV):gX a (gX b e)=gX (a+b) e:=by
 cases e<;>simp[gX,Nat.add_assoc]
theorem x5 (a b:Nat)(rs:RL):gB a (gB b rs)=gB (a+b) rs:=by
 unfold gB;rw[cL];refine List.map_congr_left fun x _=>?_;simp only[Function.comp,gV,cL,Nat.add_assoc];congr 2;refine List.map_congr_left fun e _=>?_;exact HC a b e
theorem AA {nx:Nat}{Q:EV→Hp→RL→Nat→Prop}: ∀e F' rs' nx',(∃r k e0,rs'=gB nx r∧nx'=nx+k∧e=gX nx e0∧Q e0 F' r k)→nx≤nx'∧ ∀id r,fR rs' id=some r→nx≤id:=fun e F' rs' nx' h=>by
 obtain⟨r,k,e0,rfl,rfl,_,_⟩:=h;exact⟨di _ _,fun id b hb=>(lP hb).1⟩
end Go.TR
