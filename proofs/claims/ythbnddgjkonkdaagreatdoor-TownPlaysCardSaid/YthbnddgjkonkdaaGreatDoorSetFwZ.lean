/- A part of the proof. -/
import Derived.Test.YthbnddgjkonkdaaGreatDoorSetClerk5
set_option linter.unusedVariables false
set_option linter.unusedSimpArgs false
namespace Go.Proofs.YthbnddgjkonkdaaGreatDoor
section
open Go.TR
theorem AE: ∀{l:List Ask}{a:Ask},im l=0→eR a.name a.value=0→im (l++[a])=0
 | [],a,_,h=>by simp only[c7,im];rw[aZ h]
 | x::l,a,h1,h=>by
  unfold im at h1;split at h1
  ·rename_i h2;simp only[bZ,im];rw[aZ h2];exact AE h1 h
  rename_i h2;exact absurd h1 h2
theorem A7: ∀(k:Nat){l:List Ask},im l=0→im (l.drop k)=0
 | 0,l,h=>h
 | k+1,[],h=>h
 | k+1,x::l,h=>by
  unfold im at h;split at h
  ·exact A7 k h
  rename_i h2;exact absurd h h2
theorem oI {q:Queue}(h:fj q=0):1≤q.most∧q.most≤30∧(q.wait.length:Int)≤q.most∧im q.wait=0:=by
 obtain⟨h1,h2,h3,_⟩:=lf h;unfold fj at h;rw[aY (by omega),aY (by omega)]at h;exact⟨h1,h2,h3,h⟩
theorem Dz {q:Queue}(h1:1≤q.most)(h2:q.most≤30)(h3:(q.wait.length:Int)≤q.most)(h:im q.wait=0):fj q=0:=by
 unfold fj;rw[aY (by omega),aY (by omega),h]
theorem AJ: ∀{A B:List (List UInt8)},A.Nodup→(∀x∈A,x∈B)→A.length≤B.length
 | [],_,_,_=>az _
 | a::A,B,hn,hs=>by
  obtain⟨h1,h2⟩:=c8.1 hn;have hb:=hs a cT;have:=AJ (A:=A) (B:=B.erase a) h2 fun x hx=>(List.mem_erase_of_ne (fun e=>h1 (by rw[←e];exact hx))).2 (hs x (cR _ hx));rw[List.length_erase_of_mem hb]at this;have:=List.length_pos_of_mem hb;simp only[aH];omega
theorem PC {A B:List (List UInt8)}(h: ∀x∈A,x∈B):(kW A).length≤(kW B).length:=
 AJ (pY (pC A)) fun x hx=>(mD B x).2 (h x ((mD A x).1 hx))
theorem Nt {c:eI}{a:Ask}(h:Good c)(he:oA c a=0):Good (jm c a):=by
 have hF:=h.fault;rw[(pF he).1];rw[tA hF]at he;obtain⟨q1,q2,q3,q4⟩:=oI h.queue;split at he
 ·rename_i h1;exact absurd he h1
 rename_i h1;split at he
 ·cases he
 split at he
 ·cases he
 rename_i h3;have h1:eR a.name a.value=0:=bE.1 h1;have h4:(c.queue.wait.length:Int)≠c.queue.most:=fun e=>h3 (.inl e);refine⟨Dz q1 q2 (by simp only[ag,aH,cK];omega) (AE q4 h1),h.span,h.chain,h.form,h.roots,?_⟩;have e:jK { c with queue:=⟨c.queue.most,c.queue.wait++[a]⟩ } []=jK c [a.name]:=by
  unfold jK gK;simp
 unfold jI;rw[e];exact Nat.le_of_not_lt fun hh=>h3 (.inr hh)
theorem yn: ∀{l:List Head}{i:Nat}{x:Head},kq l i=none→x.fault=0→kq (l++[x]) i=none
 | [],i,x,_,h=>by simp only[c7,kq];rw[aZ h]
 | y::l,i,x,h1,h=>by
  unfold kq at h1;split at h1
  ·rename_i h2;simp only[bZ,kq];rw[aZ h2];exact yn h1 h
  cases h1
theorem EG: ∀{l:List Head}{i:Nat}{x:Head},td l i=none→(0<l.length→jl (fL l) x=true)→td (l++[x]) i=none
 | [],i,x,_,_=>rfl
 | [a],i,x,_,h=>by
  have hh:jl a x=true:=h (by simp);simp only[bZ,c7,td];rw[aZ hh]
 | a::b::t,i,x,h1,h=>by
  unfold td at h1;split at h1
  ·rename_i h2;simp only[bZ,td];rw[aZ h2];exact EG (l:=b::t) h1 fun _=>h (by simp)
  cases h1
theorem AV: ∀{l:List Head}{i:Nat},(∀h∈l,h.fault=0)→kq l i=none
 | [],_,_=>rfl
 | y::l,i,h=>by
  unfold kq;rw[aZ (h y cT)];exact AV fun x hx=>h x (cR _ hx)
theorem GG {l:List Head}{x:Head}(h:(fu l).1=0)(hl:l.length<40)(hx:x.fault=0)(hk:jl (fL l) x=true):(fu (l++[x])).1=0:=by
 obtain⟨h1,h2,h3,h4,_⟩:=iO h;have hn:(l++[x]).length=l.length+1:=by simp
 unfold fu;rw[aY (by omega),aY (by omega),nI (yn (AV h3) hx) (EG h4 fun _=>hk)]
attribute [local irreducible] gN dY gj Head.mark
theorem zi: ∀{hs:List Head}{bs:List (List Entry)}{x:Head}{b:List Entry},iu hs bs=0→hs.length=bs.length→dY b=0→gN b []=x.root→iu (hs++[x])(bs++[b])=0
 | [],[],x,b,_,_,h1,h2=>by
  simp only[c7,iu];rw[aY (by omega),aY (fun h=>h h2)]
 | [],_::_,_,_,_,hl,_,_=>by simp at hl
 | _::_,[],_,_,_,hl,_,_=>by simp at hl
 | y::hs,c::bs,x,b,h,hl,h1,h2=>by
  unfold iu at h;split at h
  ·rename_i h3;exact absurd h h3
  rename_i h3;split at h
  ·cases h
  rename_i h4;simp only[bZ,iu];rw[aY h3,aY h4];exact zi h (by simpa using hl) h1 h2
theorem Kl {c:eI}(h:Good c):Good (fS c):=by
 have hF:=h.fault;by_cases hc:gu c=true
 ·rw[(nk hF hc).1];exact h
 have hc:gu c=false:=by simpa using hc
 obtain⟨t1,t2,t3,t4,t5,t6⟩:=h.times;obtain⟨l1,l2,l3⟩:=h.lens;have hc2:=hc;unfold gu at hc2;simp only[aQ,aU]at hc2;obtain⟨tp1,tp2,tp3⟩:=h.top;have Rh:sS { c with now:=c.now+1 }=false:=by
  unfold sS;simp only[aQ,aU];omega
 have hform:=h.form;unfold ny at hform;simp only[aQ,aU,ne_eq,bE]at hform;by_cases hd:(c.now+1) % c.every=0
 ·rw[(rr hF hc hd).1];obtain⟨q1,q2,q3,q4⟩:=oI h.queue;obtain⟨s1,s2,_⟩:=h.R8;obtain⟨n1,n2,n3,n4⟩:=h.next hc (root:=gN (gb c) []) (uC _ _);have ef:(kQ c).fault=0:=by
   unfold Head.kz at n1;rw[aY (by rw[tp1];decide),aY (by omega),aY (by omega)]at n1;have e2:(fL c.dS).m9 (gN (gb c) []) (c.now+1)=kQ c:=n2;rw[e2]at n1;exact n1
  have ek:jl (fL c.dS) (kQ c)=true:=by
   unfold jl;rw[tp1,ef];simp only[decide_true,Bool.true_and,aL,av];exact⟨⟨rfl,rfl⟩,by show (fL c.dS).at_≤c.now+1;omega⟩
  refine⟨Dz q1 q2 (by show ((c.queue.wait.drop c.batch.toNat).length:Int)≤c.queue.most;rw[aR];omega) (A7 _ q4),Rh,GG h.chain (by omega) ef ek,?_,zi h.roots l1.symm s1 rfl,?_⟩
  ·unfold ny;have e1:(c.dS++[kQ c]).getD 0 Head.none=c.dS.getD 0 Head.none:=by
    cases hh:c.dS with
    | nil=>rw[hh]at l2;cases l2
    | cons y t=>rfl
   have e2:fL (c.dS++[kQ c])=kQ c:=by simp[fL]
   rw[e1,e2];simp only[aQ,aU,ne_eq,bE,ag,aH,cK];exact⟨⟨hform.1.1,by omega⟩,by show¬c.now+1<c.now+1;omega⟩
  unfold jI;refine dq (PC (B:=jK c []) fun x hx=>?_) h.names;unfold jK at hx;have e3:gK ⟨⟨c.queue.most,c.queue.wait.drop c.batch.toNat⟩,c.batch,c.every,c.now+1,c.dS++[kQ c],c.ez++[gb c]⟩=gb c:=by simp[gK]
  rw[e3]at hx;simp only[bV,aK,aG]at hx;rcases hx with⟨y,hy,rfl⟩ | ⟨y,hy,rfl⟩
  ·exact s2 y hy
  exact (h.zJ y (cX hy)).1
 rw[(pR hF hc hd).1];refine⟨h.queue,Rh,h.chain,?_,h.roots,h.names⟩;unfold ny;simp only[aQ,aU,ne_eq,bE];exact⟨hform.1,by show¬c.now+1<(fL c.dS).at_;omega⟩
end
section
open Go.TR
theorem Iq {o:Ow}(h1:eP o.name=true)(h2:o.head.fault=0)(h3:o.wanted.length≤30)(h4:o.wanted.any nb=false)(h5:0≤o.jD)(h6:o.jD≤o.wanted.length):ki o=0:=by
 unfold ki;rw[aZ h1,aY (by omega),aY (by rw[h4];simp;omega),aY (by omega)]
theorem MA {o:Ow}{v:List UInt8}(h:ki o=0)(he:jv o v=0):ki (jR o v)=0∧jR o v=⟨o.name,o.key,o.head,o.wanted++[v],o.jD⟩:=by
 have e:jR o v=⟨o.name,o.key,o.head,o.wanted++[v],o.jD⟩:=by unfold jR;rw[aZ he]
 obtain⟨g1,g2,g3,g4,g5,g6⟩:=iW h;unfold jv at he;rw[aY (by omega)]at he;split at he
 ·cases he
 rename_i h1;split at he
 ·cases he
 rename_i h2;rw[e];refine⟨Iq g1 g2 (by simp only[ag,aH,cK];omega) ?_ g5 (by simp only[ag,aH,cK];omega),rfl⟩;simp only[bK,g4,List.any_cons,List.any_nil,Bool.or_false,bu];simpa using h1
theorem yV {p:Poll}(h:p.bad=false):1≤p.least∧p.least≤p.most∧p.most≤1000∧1≤p.lost∧p.lost≤100∧p.least≤p.nJ∧p.nJ≤p.most∧0≤p.next∧p.next≤1000000000∧0≤p.asked∧p.asked≤1000000:=by
 unfold Poll.bad at h;simp only[aQ,aU]at h;omega
theorem Il {p:Poll}(h:1≤p.least∧p.least≤p.most∧p.most≤1000∧1≤p.lost∧p.lost≤100∧p.least≤p.nJ∧p.nJ≤p.most∧0≤p.next∧p.next≤1000000000∧0≤p.asked∧p.asked≤1000000):p.bad=false:=by
 unfold Poll.bad;simp only[aQ,aU];omega
theorem wL {now n:Int}(h:0≤now∧now≤1000000000)(hn:0≤n∧n≤1000):0≤later now n∧later now n≤1000000000:=by
 unfold later;rw[wrap_i64 (by omega) (by omega)];split<;>omega
theorem Nv {p:Poll}{now:Int}(h:p.bad=false)(hn:0≤now∧now≤1000000000):(p.heard now).bad=false:=by
 have r:=yV h;have l:=wL hn (n:=p.least) (by omega);refine Il ?_;unfold Poll.heard min2;dsimp only;split<;>omega
theorem Ii {p:Poll}{now:Int}(h:p.bad=false)(hn:0≤now∧now≤1000000000)(he:p.lF now=0):(p.mU now).bad=false:=by
 have r:=yV h;have l:=wL hn (n:=p.nJ) (by omega);unfold Poll.lF at he;split at he
 ·rename_i h1;exact absurd he h1
 split at he
 ·cases he
 split at he
 ·cases he
 rename_i h3;refine Il ?_;unfold Poll.mU min2;dsimp only;rw[wrap_i64 (n:=p.asked+1) (by omega) (by omega),wrap_i64 (n:=2 * p.nJ) (by omega) (by omega)];split<;>omega
theorem NQ {v:List UInt8}{jD:Int}: ∀(l:List (List UInt8)) (k:Nat),w7 v jD l k≤k+l.length
 | [],k=>az _
 | w::t,k=>by
  unfold w7;split
  ·simp only[aH];omega
  have:=NQ (v:=v) (jD:=jD) t (k+1);simp only[aH];omega
theorem IF {o:Ow}(l:List Head)(h:Head)(q:jo)(hF:ki o=0):ki (tL o l h q)=0∧tL o l h q=if lO o l h q=0 then ⟨o.name,o.key,h,o.wanted,(mJ o l h q:Nat)⟩ else o:=by
 have e:tL o l h q=if lO o l h q=0 then ⟨o.name,o.key,h,o.wanted,(mJ o l h q:Nat)⟩ else o:=by unfold tL;rw[aZ hF]
 rw[e];refine⟨?_,rfl⟩;split
 ·rename_i hv;obtain⟨g1,g2,g3,g4,g5,g6⟩:=iW hF;have hn:mJ o l h q≤o.wanted.length:=by
   unfold mJ;split
   ·exact az _
   split
   ·exact az _
   split
   ·exact az _
   have:=NQ (v:= ‹List UInt8›) (jD:=o.jD) o.wanted 0;omega
  have hh:h.fault=0:=by
   unfold lO at hv;split at hv
   ·rename_i h1;exact absurd hv h1
   split at hv
   ·cases hv
   rename_i h2;have h3:iG h q=0:=bE.1 fun hh=>h2 (.inl hh);unfold iG at h3;split at h3
   ·rename_i h4;exact absurd h3 h4
   rename_i h4;exact bE.1 h4
  exact Iq g1 hh g3 g4 (by simp) (by show ((mJ o l h q:Nat):Int)≤(o.wanted.length:Nat);omega)
 exact hF
theorem Fu {x:Nat}(h:x<MM):x<18446744073709551616:=by
 unfold MM at h;omega
theorem Jt {h:Head}(hf:h.fault=0):h.wf:=by
 obtain⟨h1,h2,h3,h4,h5,h6⟩:=Head.uh hf;exact⟨Fu h3,Fu h4,⟨by omega,by omega⟩,⟨by omega,by omega⟩⟩
theorem Ao {s:List UInt8}(h:eP s=true):s.length≤12:=by
 unfold eP at h;simp only[aL,av]at h;exact h.1.2
theorem oD {c:eI}(h:Good c)(ha: ∀a∈c.queue.wait,a.wf):c.wf:=by
 obtain⟨l1,l2,l3⟩:=h.lens;obtain⟨t1,t2,t3,t4,t5,t6⟩:=h.times;obtain⟨q1,q2,q3,_⟩:=oI h.queue;obtain⟨_,_,c3,_⟩:=iO h.chain;refine⟨⟨ha,by omega⟩,fun x hx=>Jt (c3 x hx),by omega,by omega,⟨by omega,by omega⟩,fun l hl=>?_⟩;obtain⟨b1,b2,_⟩:=fP (ni (by omega) h.roots l hl);refine⟨by omega,fun x hx=>?_⟩;obtain⟨g1,g2⟩:=b2 x hx;have:=Ao g1;exact⟨by omega,by omega⟩
theorem JS {c:eI}(h:Good c)(ha: ∀a∈c.queue.wait,a.wf): ∀a∈(fS c).queue.wait,a.wf:=by
 have hF:=h.fault;by_cases hc:gu c=true
 ·rw[(nk hF hc).1];exact ha
 have hc:gu c=false:=by simpa using hc
 by_cases hd:(c.now+1) % c.every=0
 ·rw[(rr hF hc hd).1];exact fun a hx=>ha a (cX hx)
 rw[(pR hF hc hd).1];exact ha
theorem NV {c:eI}{a:Ask}(he:oA c a=0)(ha: ∀a∈c.queue.wait,a.wf)(hx:a.wf): ∀y∈(jm c a).queue.wait,y.wf:=by
 rw[(pF he).1];intro y hy;rcases aK.1 hy with hy | hy
 ·exact ha y hy
 rw[aB.1 hy];exact hx
theorem DV {c:eI}(h:Good c)(hc:gu c=false):(fS c).now=c.now+1:=by
 by_cases hd:(c.now+1) % c.every=0
 ·rw[(rr h.fault hc hd).1]
 rw[(pR h.fault hc hd).1]
end
end Go.Proofs.YthbnddgjkonkdaaGreatDoor
namespace Go.TR
variable {P:Program}
theorem xd.VD {c c':Ctx}{F:Hp}{rs:RL}{w:World}(h:xd c F rs w)(h1:c'.wE=c.wE)(h2:c'.F0=c.F0)(h3:c'.F1=c.F1)(h4:c'.sz=c.sz):xd c' F rs w:=
 ⟨h.le,h.own,by rw[h1];exact h.ir,by rw[h1];exact h.new,by rw[h1,h2];exact h.jW,by rw[h4];exact h.sz,by rw[h1,h2,h3];exact h.tp⟩
theorem pG (m:Nat)(rs:RL)(e:EV):(g8 m e).val (gD m rs)=e.val rs:=by
 have:=CH (nx:=m) (new:=rs) (rs:=[]) (fun id r h=>by simp[fU]at h) e
 rwa [bV]at this
theorem lU {m:Nat}{rs:RL}{id:Nat}{r:kg}(h:fU (gD m rs) id=some r):m≤id∧ ∃r0,fU rs (id - m)=some r0∧r=gY m r0:=by
 rw[r8]at h;split at h
 ·rename_i hm;cases hl:fU rs (id - m) with
  | none=>rw[hl]at h;cases h
  | some r0=>rw[hl]at h;exact⟨hm,r0,rfl,(dB h).symm⟩
 cases h
theorem nv.shift {F:Hp}{rs:RL}{w:World}(h:nv F rs w)(m:Nat):nv F (gD m rs) w where
 own:=fun id r hr=>by
  obtain⟨hm,r0,h1,rfl⟩:=lU hr;have ho:=h.own _ r0 h1;show match r0.gq with
   | none=>((gY m r0).cells=[]∨r0.ty=0∧ ∃b:Nat,(gY m r0).cells=[.v (.int .i64 (b:Int))])∧r0.cap=0
   | some b=>F b=none∧(gY m r0).cells.length≤r0.cap∧ ∃cur:Array Value,w.heap[b]? =some (.cells cur r0.ty (0,0))∧cur.size=r0.cap∧
    ∀(j:Nat) (ev:EV) (x:Value),(gY m r0).cells[j]? =some ev→ev.val (gD m rs)=some x→cur[j]? =some x
  cases hb:r0.gq with
  | none=>
   rw[hb]at ho;obtain⟨g1,g2⟩:=ho;refine⟨?_,g2⟩;rcases g1 with g1 | ⟨g0,b,g1⟩
   ·left;simp[gY,g1]
   right;exact⟨g0,b,by simp[gY,g1,g8]⟩
  | some b=>
   rw[hb]at ho;obtain⟨g1,g2,cur,g3,g4,g5⟩:=ho;refine⟨g1,by simpa [gY] using g2,cur,g3,g4,fun j ev x hj hx=>?_⟩;simp only[gY,aI,aS]at hj;obtain⟨e0,hj0,rfl⟩:=hj;rw[pG]at hx;exact g5 j e0 x hj0 hx
 apart:=fun i j r s b hi hj hb1 hb2=>by
  obtain⟨m1,r0,g1,rfl⟩:=lU hi;obtain⟨m2,s0,g2,rfl⟩:=lU hj;have:=h.apart _ _ r0 s0 b g1 g2 hb1 hb2;omega
theorem DU {ρ:List (Nat×Nat)}{rs rs':RL}(hnd:(ρ.map (·.2)).Nodup)(h:lR ρ rs ρ rs'): ∀{l l':List EV} {ys:List Value},sD ρ l=some l'→iZ rs' l'=some ys→iZ rs l=some ys
 | [],l',ys,h1,h2=>by
  simp only[sD,aa]at h1;subst h1;exact h2
 | e::t,l',ys,h1,h2=>by
  simp only[sD]at h1;split at h1
  ·rename_i e1 t1 g1 g2;simp only[aa]at h1;subst h1;simp only[iZ]at h2 ⊢;split at h2
   ·rename_i x xs q1 q2;rw[Im hnd h g1 q1,DU hnd h g2 q2];exact h2
   cases h2
  cases h1
theorem eX.named {F:Hp}{rs vD P3:RL}{nx nx2 m:Nat}{f:FuncId}{args args2:List EV}{Q:EV→Hp→RL→Nat→Prop}(ρ:List (Nat×Nat))(hc:eX P F rs nx f args Q)(hr:lR ρ P3 ρ vD)(hrs:vD=rs)(ha:sD ρ args2=some args)(hv:(iZ rs args).isSome=true)
  (h1:o8 ρ []=true) (h2:px ρ []=true) (h3:vm 0 nx ρ=true) (hm:m+nx=nx2) (hQ: ∀e F' rs' nx',Q e F' rs' nx'→nx≤nx'∧ ∀id r,fU rs' id=some r→nx≤id):
  eX P F P3 nx2 f args2 (fun e F' rs' nx'=>∃e0 W7 W8,Q e0 F' W7 W8∧e=g8 m e0∧rs'=gD m W7∧nx'=m+W8):=by
 subst hrs;intro c w hw hh Ze aax WT xs hxs;have hs:fI { c with vD:=[],QL:=0 } 0 [] ⟨[],F,P3,nx2⟩ ⟨#[],[]⟩ w:={
  size:=rfl
  defers:=rfl
  fR:=hw.VD rfl rfl rfl rfl
  gL:=⟨hh.sub,az _,fun id r hid=>absurd hid (Nat.not_lt_zero _)⟩
  gV:=Ze
  ids:=fun n e he=>by simp[lk]at he
  env:=fun n e x _ he=>by simp[lk]at he
  gv:=fun n ch e he=>by simp[rA]at he }
 have hs2:=Ci (k:=0) ρ [] (az _) hs hr rfl h1 h2 h3 (az _);have Zf:iZ vD args=some xs:=by
  cases hy:iZ vD args with
  | none=>rw[hy]at hv;cases hv
  | some ys=>rw[←hxs,DU (BM h2).1 hr ha hy]
 refine (hc { c with vD:=vD,QL:=nx } w (hs2.fR.VD rfl rfl rfl rfl) ⟨hh.sub,ah _,fun id r _ hr=>⟨r,hr,rfl⟩⟩ hs2.gV rfl rfl xs Zf).mono fun e w' hh'=>?_;obtain⟨x,ev,F',rs',nx',e1,e2,e3,e4,e5,e6,e7⟩:=hh';obtain⟨q1,q2⟩:=hQ _ _ _ _ e7;refine⟨x,g8 m ev,F',gD m rs',m+nx',e1,?_,?_,?_,o7 e5,by rw[pG];exact e6,ev,rs',nx',e7,rfl,rfl,rfl⟩
 ·exact {
   le:=e2.le
   own:=e2.own.shift m
   ir:=e2.ir
   new:=fun id r b hr hb=>by
    obtain⟨_,r0,g1,rfl⟩:=lU hr;exact e2.new _ r0 b g1 (r9 hb)
   jW:=e2.jW
   sz:=e2.sz
   tp:=e2.tp }
 ·exact {
   sub:=e3.sub
   kX:=by rw[WT];omega
   succ:=fun id r hid hr=>by
    obtain⟨g0,r0,g1,_⟩:=lU hr;have:=q2 _ _ g1;rw[WT]at hid;omega }
 intro id r hr;obtain⟨g0,r0,g1,rfl⟩:=lU hr;obtain⟨g2,g3⟩:=e4 _ _ g1;refine⟨by omega,fun e he=>?_⟩;simp only[gY,aG]at he;obtain⟨e0,he0,rfl⟩:=he;exact o7 (g3 e0 he0)
theorem rU {m:Nat}{rs:RL}{id:Nat}{r:kg}(h:fU rs id=some r):fU (gD m rs) (m+id)=some (gY m r):=by
 rw[r8,aZ (dm m id),dh,h];rfl
theorem nv.Pe {F:Hp}{rs:RL}{w:World}{m:Nat}(h:nv F (gD m rs) w):nv F rs w where
 own:=fun id r hr=>by
  have ho:=h.own _ _ (rU (m:=m) hr);have hb:(gY m r).gq=r.gq:=rfl;cases hbk:r.gq with
  | none=>
   rw[hb,hbk]at ho;obtain⟨g1,g2⟩:=ho;refine⟨?_,g2⟩;rcases g1 with g1 | ⟨g0,b,g1⟩
   ·left;simpa [gY] using g1
   right;rcases r9 (n:=m) (r:=r) (b:=b) (.inr ⟨hb.trans hbk,g0,g1⟩) with h1 | ⟨_,_,h1⟩
   ·rw[hbk]at h1;cases h1
   exact⟨g0,b,h1⟩
  | some b=>
   rw[hb,hbk]at ho;obtain⟨g1,g2,cur,g3,g4,g5⟩:=ho;refine⟨g1,by simpa [gY] using g2,cur,g3,g4,fun j ev x hj hx=>?_⟩;refine g5 j (g8 m ev) x ?_ (by rw[pG];exact hx);simp[gY,hj]
 apart:=fun i j r s b hi hj hb1 hb2=>by
  have:=h.apart _ _ _ _ b (rU (m:=m) hi) (rU (m:=m) hj) hb1 hb2;omega
theorem N7 {m:Nat}{r:kg}{b:Nat}(h:r.at b):(gY m r).at b:=by
 rcases h with h | ⟨h1,h0,h2⟩
 ·exact .inl h
 exact .inr ⟨h1,h0,by simp[gY,h2,g8]⟩
theorem zM {m k:Nat}{e:EV}(h:(g8 m e).lt (m+k)):e.lt k:=by
 cases e<;>simp only[g8,EV.lt]at * <;>omega
theorem eX.args {F:Hp}{rs:RL}{nx:Nat}{f:FuncId}{args args':List EV}{Q:EV→Hp→RL→Nat→Prop}(h:eX P F rs nx f args Q)(e:iZ rs args'=iZ rs args):eX P F rs nx f args' Q:=
 fun c w h1 h2 h3 h4 h5 xs hx=>h c w h1 h2 h3 h4 h5 xs (e ▸ hx)
theorem eX.mono {F:Hp}{rs:RL}{nx:Nat}{f:FuncId}{args:List EV}{Q Q':EV→Hp→RL→Nat→Prop}(h:eX P F rs nx f args Q)(hq: ∀e F' rs' nx',Q e F' rs' nx'→Q' e F' rs' nx'):eX P F rs nx f args Q':=
 fun c w h1 h2 h3 h4 h5 xs hx=>(h c w h1 h2 h3 h4 h5 xs hx).mono fun e w' hh=>by
  obtain⟨x,ev,F',rs',nx',e1,e2,e3,e4,e5,e6,e7⟩:=hh;exact⟨x,ev,F',rs',nx',e1,e2,e3,e4,e5,e6,hq _ _ _ _ e7⟩
theorem eX.norm {F:Hp}{rs:RL}{nx:Nat}{f:FuncId}{args:List EV}{Q:EV→Hp→RL→Nat→Prop}(j:Nat)(hj:nx≤j)
  (h:eX P F rs nx f args (fun e F' rs' nx'=>∃i r k e0,rs'=gD i r∧nx'=i+k∧e=g8 i e0∧Q e0 F' r k)):
  eX P F rs nx f args (fun e F' rs' nx'=>∃r k e0,rs'=gD j r∧nx'=j+k∧e=g8 j e0∧Q e0 F' r k):=by
 intro c w h1 h2 h3 h4 h5 xs hx;refine (h c w h1 h2 h3 h4 h5 xs hx).mono fun e w' hh=>?_;obtain⟨x,ev,F',rs',nx',e1,e2,e3,e4,e5,e6,i,r,k,e0,rfl,rfl,rfl,hq⟩:=hh;have hr: ∀id b,fU r id=some b→id<k∧ ∀e∈b.cells,e.lt k:=fun id b hb=>by
  obtain⟨g1,g2⟩:=e4 _ _ (rU (m:=i) hb);refine⟨by omega,fun e he=>zM (g2 (g8 i e) ?_)⟩;simp only[gY,aG];exact⟨e,he,rfl⟩
 rw[pG]at e6;refine⟨x,g8 j e0,F',gD j r,j+k,e1,?_,?_,?_,o7 (zM e5),by rw[pG];exact e6,r,k,e0,rfl,rfl,rfl,hq⟩
 ·exact {
   le:=e2.le
   own:=e2.own.Pe.shift j
   ir:=e2.ir
   new:=fun id r' b hr' hb=>by
    obtain⟨_,r0,g1,rfl⟩:=lU hr';exact e2.new _ _ b (rU (m:=i) g1) (N7 (r9 hb))
   jW:=e2.jW
   sz:=e2.sz
   tp:=e2.tp }
 ·exact {
   sub:=e3.sub
   kX:=by rw[h5];omega
   succ:=fun id r' hid hr'=>by
    obtain⟨g0,_⟩:=lU hr';rw[h5]at hid;omega }
 intro id r' hr';obtain⟨g0,r0,g1,rfl⟩:=lU hr';obtain⟨g2,g3⟩:=hr _ _ g1;refine⟨by omega,fun e he=>?_⟩;simp only[gY,aG]at he;obtain⟨e',he',rfl⟩:=he;exact o7 (g3 e' he')
theorem jU {tb:Tb}{N:Nat}{rv:List ResultVar}{Q:EV→Hp→RL→Nat→Prop}{st:St}(h:VS N [] st fun st'=>∃e,xL tb st' rv=some e∧Q e st'.F st'.rs st'.nx):gB N tb rv Q .normal st:=h
theorem A5 {tb:Tb}{N:Nat}{rv:List ResultVar}{Q:EV→Hp→RL→Nat→Prop}{st:St}(h:VS N [] st fun st'=>∃e,xL tb st' rv=some e∧Q e st'.F st'.rs st'.nx):gB N tb rv Q .ret st:=h
theorem qd (n:Nat)(l:List Value):(l.map EV.v).map (g8 n)=l.map EV.v:=by
 rw[cO];rfl
theorem Gt (a b:Nat)(e:EV):g8 a (g8 b e)=g8 (a+b) e:=by
 cases e<;>simp[g8,Nat.add_assoc]
theorem yD (a b:Nat)(rs:RL):gD a (gD b rs)=gD (a+b) rs:=by
 unfold gD;rw[cO];refine List.map_congr_left fun x _=>?_;simp only[Function.comp,gY,cO,Nat.add_assoc];congr 2;refine List.map_congr_left fun e _=>?_;exact Gt a b e
theorem A4 {nx:Nat}{Q:EV→Hp→RL→Nat→Prop}: ∀e F' rs' nx',(∃r k e0,rs'=gD nx r∧nx'=nx+k∧e=g8 nx e0∧Q e0 F' r k)→nx≤nx'∧ ∀id r,fU rs' id=some r→nx≤id:=fun e F' rs' nx' h=>by
 obtain⟨r,k,e0,rfl,rfl,_,_⟩:=h;exact⟨dm _ _,fun id b hb=>(lU hb).1⟩
end Go.TR
