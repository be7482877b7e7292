/- A part of the proof. -/
import Derived.Test.YthbnddgjkonkdaaGreatDoorFwA
import Derived.Deep.AppendSrc
import Derived.Deep.Upon
import Derived.Laws.BytesArg
import Derived.Laws.CopyRow
import Derived.Deep.LoopGhost
import Derived.Lib.Builder
import Derived.Laws.Externs
set_option linter.unusedVariables false
set_option linter.unusedSimpArgs false
namespace Go.TR
section
variable {P:Program} {tb:Tb} {N:Nat}
theorem pj {rs:RL}{id k:Nat}:fR (tJ rs id) k=if k=id then none else fR rs k:=by
 induction rs with
 | nil=>simp[tJ,fR]
 | cons p rs ih=>
  obtain⟨m,r⟩:=p;simp only[tJ];by_cases hm:id=m
  ·subst hm;simp only[Nat.beq_refl];rw[ih,e8];by_cases hk:k=id<;>simp[hk]
  rw[show Nat.beq id m=false from (by cases hb:Nat.beq id m with | false=>rfl | true=>exact absurd (dg hb) hm)];simp only[];rw[e8,ih,e8];by_cases hk:k=m
  ·subst hk;rw[aZ rfl,aY (fun e=>hm e.symm),aZ rfl]
  rw[aY hk,aY hk]
theorem val_sub {rs rs':RL}(h: ∀k r,fR rs' k=some r→fR rs k=some r){e:EV}{x:Value}(hx:e.val rs'=some x):e.val rs=some x:=by
 cases e with
 | v y=>exact hx
 | loc id o=>
  simp only[EV.val]at hx ⊢;split at hx
  ·rename_i r hr;rw[h _ _ hr];exact hx
  simp at hx
 | row id o n c=>
  simp only[EV.val]at hx ⊢;split at hx
  ·rename_i r hr;rw[h _ _ hr];exact hx
  simp at hx
theorem vR {c:Ctx}{g:fa}{env:Env}{F:Hp}{rs rs':RL}{nx:Nat}{a:Act}{w w':World}(h:fF c N g ⟨env,F,rs,nx⟩ a w)(hsub: ∀k r,fR rs' k=some r→fR rs k=some r){b:Nat}{X:List Nat}(hp:g9 X w w')(hX: ∀y∈X,y=b)
  (hF:F b=none) (hb:c.wE.heap.size≤b) (SK: ∀k r,fR rs' k=some r→r.gl≠some b) {cur:Array Value} {t:TypeId} (qB:w'.heap[b]? =some (.cells cur t (0,0))) {cells:List EV} {cap:Nat} (hcap:cur.size=cap) (hlen:cells.length≤cap)
  (hlt: ∀e∈cells,e.lt nx) (hcells: ∀(j:Nat) (e:EV) (x:Value),cells[j]? =some e→e.val rs=some x→cur[j]? =some x):
  fF c N g ⟨env,F,(nx,⟨some b,cells,t,cap⟩)::rs',nx+1⟩ a w':=by
 have hne: ∀id r,fR rs' id=some r→id≠nx:=fun id r hr=>by have:=(h.gS id r (hsub _ _ hr)).1;simp only at this;omega
 have hval: ∀e:EV,e.lt nx→∀x,e.val ((nx,⟨some b,cells,t,cap⟩)::rs')=some x→e.val rs=some x:=fun e he x hx=>by
  rw[kF he]at hx;exact val_sub hsub hx
 have hle:=h.fO.le.il hp (fun y hy=>by rw[hX y hy];exact hF);exact {
  size:=h.size
  defers:=h.defers
  fO:={
   le:=hle
   own:={
    own:=fun id r hr=>by
     rw[e8]at hr;split at hr
     ·simp only[aa]at hr;subst hr;refine⟨hF,hlen,cur,qB,hcap,fun j ev x hj hx=>?_⟩;exact hcells j ev x hj (hval ev (hlt ev (cT hj)) x hx)
     have h1:=h.fO.own.own id r (hsub _ _ hr);have hd:=SK id r hr;cases hbr:r.gl with
     | none=>rw[hbr]at h1;exact h1
     | some b'=>
      rw[hbr]at h1;obtain⟨g1,g2,cur',g3,g4,g5⟩:=h1;have hbb:b' ∉ X:=fun hm=>hd (by rw[hbr,hX _ hm]);refine⟨g1,g2,cur',(hp.block _ (gJ g3) hbb).trans g3,g4,fun j ev x hj hx=>g5 j ev x hj ?_⟩;exact hval ev ((h.gS id r (hsub _ _ hr)).2 ev (cT hj)) x hx
    apart:=fun i j r s b' hi hj hbr hbs=>by
     rw[e8]at hi hj;split at hi
     ·split at hj
      ·omega
      simp only[aa]at hi;subst hi;simp only[aa]at hbr;subst hbr;exact absurd hbs (SK j s hj)
     split at hj
     ·simp only[aa]at hj;subst hj;simp only[aa]at hbs;subst hbs;exact absurd hbr (SK i r hi)
     exact h.fO.own.apart i j r s b' (hsub _ _ hi) (hsub _ _ hj) hbr hbs }
   il:=h.fO.il.trans' hp (fun y hy=>.inr (by rw[hX y hy];exact hb))
   new:=fun id r b' hr hbr=>by
    rw[e8]at hr;split at hr
    ·simp only[aa]at hr;subst hr;rcases hbr with hbr | ⟨hbr,_⟩
     ·simp only[aa]at hbr;omega
     cases hbr
    exact h.fO.new id r b' (hsub _ _ hr) hbr
   jT:=h.fO.jT
   sz:=dk h.fO.sz hp.size
   tp:=h.fO.tp }
  gI:=BR.cons {
   sub:=h.gI.sub
   kT:=h.gI.kT
   succ:=fun id r hid hr=>h.gI.succ id r hid (hsub _ _ hr) } _
  gS:=fun id r hr=>by
   simp only[e8]at hr;split at hr
   ·simp only[aa]at hr;subst hr;exact⟨by simp only;omega,fun e he=>(hlt e he).mono (dj _)⟩
   obtain⟨h1,h2⟩:=h.gS id r (hsub _ _ hr);exact⟨by simp only at h1 ⊢;omega,fun e he=>(h2 e he).mono (dj _)⟩
  ids:=fun n e he=>(h.ids n e he).mono (dj _)
  env:=fun n e x hg he hx=>h.env n e x hg he (hval e (h.ids n e he) x hx)
  gv:=fun n ch e hg=>by
   obtain⟨h1,h2,h3,h4⟩:=h.gv n ch e hg;exact⟨fun hA=>⟨fun x hx=>(h1 hA).1 x (hval e h3 x hx),(h1 hA).2⟩,h2,h3.mono (dj _),h4⟩ }
theorem jm (htb:gZ P tb){t e:TypeId}(h:tk tb t=some (.slice e)):P.underlying t=some (.slice e):=by
 obtain⟨d,h1,h2⟩:=gN htb h;simp only[TK.fits]at h2;rw[h1,h2]
theorem Iz (htb:gZ P tb){t:TypeId}(h:tk tb t=some .string):P.underlying t=some .string:=by
 obtain⟨d,h1,h2⟩:=gN htb h;simp only[TK.fits]at h2;rw[h1,h2]
theorem kI (b o j:Nat):((⟨b,o,none⟩:Addr).add j)=⟨b,o+j,none⟩:=mB b o j
theorem r9 {c:Ctx}{g:fa}{st:St}{a:Act}{w:World}(h:fF c N g st a w){id:Nat}{r:kj}{b:Nat}(hr:fR st.rs id=some r)(hb:r.gl=some b){o k:Nat}(hk:o+k≤r.cells.length):
  ∃vs:List Value,vs.length=k∧(∀j u,vs[j]? =some u→w.cell? ⟨b,o+j,none⟩=some u)∧ ∀(j:Nat) (e:EV) (x:Value),((r.cells.take (o+k)).drop o)[j]? =some e→e.val st.rs=some x→vs[j]? =some x:=by
 have hown:=h.fO.own.own id r hr;rw[hb]at hown;obtain⟨_,o2,cur,o3,o4,o5⟩:=hown;refine⟨(cur.toList.take (o+k)).drop o,by simp;omega,fun j u hj=>?_,fun j e x hj hx=>?_⟩
 ·rw[cu,cB]at hj;split at hj
  ·simp only[World.cell?,o3];simpa using hj
  simp at hj
 rw[cu,cB]at hj ⊢;split at hj
 ·rename_i hlt;rw[aZ hlt];simpa using o5 _ e x hj hx
 simp at hj
theorem r6 {F:Hp}{w:World}(hF:F.le w){ad:Addr}{cs:List Value}(h:eY F (some ad) cs): ∀j u,cs[j]? =some u→w.cell? (ad.add j)=some u:=fun j u hj=>by
 have:=h j u hj;simp only[im,aJ,gb,Option.bind_some]at this;exact jx.world hF this
theorem BW (htb:gZ P tb){c:Ctx}{g:fa}{st:St}{a:Act}{w:World}(h:fF c N g st a w){t2:TypeId}{size:Nat}(hs0:0<size)(ht2:wh (tk tb t2)=true){y:Operand}{K:Nat→List EV→Prop}(hk:HJ st.F st.rs size (fun m news=>lj st.rs news∧K m news) (gL st.rs g st.env [] y)):
  ∃m news vs,K m news∧Src P size t2 (a.eval y) m vs w∧vs.length=news.length∧(∀e∈news,e.lt st.nx)∧ ∀(j:Nat) (e:EV) (x:Value),news[j]? =some e→e.val st.rs=some x→vs[j]? =some x:=by
 have hrl: ∀id r,fR st.rs id=some r→id<st.nx:=fun id r hr=>(h.gS id r hr).1;have hty:(∃e,P.underlying t2=some (.slice e))∨P.underlying t2=some .string:=by
  unfold wh at ht2;split at ht2
  ·rename_i e he;exact .inl ⟨e,jm htb he⟩
  ·rename_i he;exact .inr (Iz htb he)
  cases ht2
 have hF:=gO h (iR a);unfold HJ at hk;split at hk
 ·rename_i id o m cc hy;have e1:=hF _ _ hy;cases hr:fR st.rs id with
  | none=>simp[hr,Ah]at hk
  | some r=>
   simp only[EV.val,hr]at e1;simp only[aa]at e1;obtain⟨rb,cells,ty,cap⟩:=r;cases rb with
   | none=>
    simp only[hr,Ah]at hk;obtain⟨rfl,h1,h2⟩:=hk;refine⟨0,[],[],h2,?_,rfl,fun e he=>(by cases he),fun j e x hj=>(by simp at hj)⟩;rw[←e1];exact⟨hty,fun _=>rfl,run_firstCells_none w size 0 0 cc,run_firstCells_none w.drew size 0 0 cc,by simp,fun _ h=>by cases h⟩
   | some b=>
    simp only[hr,Ah]at hk;obtain⟨h1,h2,h3⟩:=hk;obtain⟨vs,v1,v2,v3⟩:=r9 h hr rfl h1;have hl:((cells.take (o+m * size)).drop o).length=m * size:=by simp;omega
    refine⟨m,_,vs,h3,?_,by rw[v1,hl],fun e he=>(h.gS id _ hr).2 e (cV (cU he)),v3⟩;rw[←e1];have hc: ∀j u,vs[j]? =some u→w.cell? ((⟨b,o,none⟩:Addr).add j)=some u:=fun j u hj=>by rw[kI];exact v2 j u hj
    refine⟨hty,fun _=>rfl,run_firstCells_some w size m _ _ _ vs v1 hc,run_firstCells_some w.drew size m _ _ _ vs v1 (by simpa using hc),v1,fun u hu=>?_⟩;obtain⟨j,hj⟩:=cA hu;have hjl:j<((cells.take (o+m * size)).drop o).length:=by rw[hl,←v1];exact (cz.1 hj).1
    have he:=ao hjl;obtain⟨g1,x,g2⟩:=h2 _ (cT he);have:=v3 j _ x he g2;rw[hj]at this;simp only[aa]at this;subst this;exact tR g1 g2
 ·rename_i p m cc hy;have e1:=hF _ _ hy;simp only[EV.val,aa]at e1;obtain⟨cs,h1,h2,h3,h4⟩:=hk;refine⟨m,_,cs,h4,?_,by simp,fun e he=>?_,fun j e x hj hx=>?_⟩
  ·rw[←e1];have hone: ∀u∈cs,u.oneCell'=true:=fun u hu=>by
    obtain⟨g1,x,g2⟩:=h3 (.v u) (aG.2 ⟨u,hu,rfl⟩);simp only[EV.val,aa]at g2;exact tR (rs:=st.rs) g1 rfl
   cases p with
   | none=>
    have:cs=[]:=by
     cases cs with
     | nil=>rfl
     | cons u t=>have:=h2 0 u rfl;simp[im,gb]at this
    subst this;have hm:m=0:=by
     simp only[cH]at h1;rcases Nat.mul_eq_zero.1 h1.symm with h0 | h0
     ·exact h0
     omega
    subst hm;exact⟨hty,fun _=>rfl,run_firstCells_none w size 0 0 cc,run_firstCells_none w.drew size 0 0 cc,by simp,fun _ h=>by cases h⟩
   | some ad=>
    have hc:=r6 h.fO.le h2;exact⟨hty,fun _=>rfl,run_firstCells_some w size m _ _ _ cs h1 hc,run_firstCells_some w.drew size m _ _ _ cs h1 (by simpa using hc),h1,hone⟩
  ·obtain⟨u,_,rfl⟩:=aG.1 he;trivial
  rw[aI,aS]at hj;obtain⟨u,hu,rfl⟩:=hj;simp only[EV.val,aa]at hx;subst hx;exact hu
 ·rename_i s hy;have e1:=hF _ _ hy;simp only[EV.val,aa]at e1;obtain⟨rfl,h3,h4⟩:=hk;refine⟨_,_,byteCells s,h4,?_,by simp[byteCells,bl],fun e he=>?_,fun j e x hj hx=>?_⟩
  ·rw[←e1];have hl:s.size=(bl s).length:=by simp[mH]
   rw[←hl];exact⟨hty,fun _=>rfl,firstCells_string s w,firstCells_string s w.drew,by rw[byteCells_length,aA],fun u hu=>by
    obtain⟨_,_,rfl⟩:=aG.1 hu;rfl⟩
  ·obtain⟨u,_,rfl⟩:=aG.1 he;trivial
  rw[aI,aS]at hj;obtain⟨u,hu,rfl⟩:=hj;simp only[EV.val,aa]at hx;subst hx;simp only[byteCells,aI];rw[show s.data.toList[j]? =some u from hu];rfl
 exact hk.elim
theorem oI (htb:gZ P tb){e:TypeId}{ti:TI}(h:tb e=some ti): ∃i z,P.info? e=some i∧i.size=ti.size∧i.bytes=ti.bytes∧i.zero=some z∧z.cells.size=ti.zero.length:=by
 obtain⟨i,h1,h2,h3,z,h4,h5⟩:=(htb e ti h).info;exact⟨i,z,h1,h2,h3,h4,by rw[←h5];simp⟩
theorem l8 (w:World)(t tx ty e:TypeId)(i:TypeInfo)(ht:P.underlying t=some (.slice e))(hi:P.info? e=some i)(b sLen sCap:Nat)(x:Value)(n:Nat)(news:List Value)(hs:Src P i.size tx x n news w)
  (hroom:sLen+n≤sCap) {cur:Array Value} {ct:TypeId} (qB:w.heap[b]? =some (.cells cur ct (0,0))) (hfit:sLen * i.size+news.length≤cur.size):
  (Builtin.append_ #[t,tx] ty #[.slice (some ⟨b,0,none⟩) sLen sCap,x]).run P w= .ok (.slice (some ⟨b,0,none⟩) (sLen+n) sCap) (w.setRow b (cur.toList.take (sLen * i.size)++news++cur.toList.drop (sLen * i.size+news.length)).toArray):=by
 have hst:=run_storeCells_at (P:=P) b (sLen * i.size) ct news 0 cur w qB (by simpa using hfit) hs.one;simp only[df]at hst;have h0:(⟨b,0,none⟩:Addr).add (sLen * i.size)=⟨b,sLen * i.size,none⟩:=by rw[kI,aP]
 rcases hs.kind with⟨e',hk⟩ | hk<;>simp[Builtin.append_,run_underlying ht,run_underlying hk,sizeOf,typeInfo,hi,hs.len,hroom,hs.cells,h0,hst]
theorem ie {a:Act}{o:Oper}{args:Array Operand}{ts:Array TypeId}{x y:Operand}{t1 t2:TypeId}(ho:o.op= .call ⟨.builtin .append,args,ts⟩)(ha:args.toList=[x,y])(ht:ts.toList=[t1,t2]){w w':World}{v:Value}
  (h:(Builtin.append_ #[t1,t2] o.type #[a.eval x,a.eval y]).run P w= .ok v w'):(execOp a.eval o).run P w= .ok (.value v) w':=by
 have e1:args= #[x,y]:=by apply bg;simpa using ha
 have e2:ts= #[t1,t2]:=by apply bg;simpa using ht
 subst e1 e2;simp[execOp,ho,resolve,invoke,builtin,h]
theorem xV {c:Ctx}{g:fa}{env:Env}{F:Hp}{rs rs':RL}{nx:Nat}{a:Act}{w:World}(h:fF c N g ⟨env,F,rs,nx⟩ a w)(hsub: ∀k r,fR rs' k=some r→fR rs k=some r){cells:List EV}{xs:List Value}{rest:Array Value}{e:TypeId}{cap:Nat}
  (hl:xs.length=cells.length) (hcap:xs.length+rest.size=cap) (hlt: ∀e∈cells,e.lt nx) (hcells: ∀(j:Nat) (e:EV) (x:Value),cells[j]? =some e→e.val rs=some x→xs[j]? =some x):
  fF c N g ⟨env,F,(nx,⟨some w.heap.size,cells,e,cap⟩)::rs',nx+1⟩ a (w.drew.alloc (.cells (xs.toArray++rest) e)):=by
 have hs0:w.drew.heap.size=w.heap.size:=rfl;have hp:g9 [] w (w.drew.alloc (.cells (xs.toArray++rest) e)):=(g9.drewN [] w 1).trans (g9.alloc [] w.drew _);have hfr:F w.heap.size=none:=by
  cases hf:F w.heap.size with
  | none=>rfl
  | some o=>have:=gJ (h.fO.le _ _ hf);omega
 refine vR h hsub hp (fun y hy=>by cases hy) hfr h.fO.il.size (fun k r hr hb=>?_) (cur:=xs.toArray++rest) (by rw[←hs0];exact heap_alloc_new w.drew _) (by simp[←hcap]) (by omega) hlt (fun j e x hj hx=>?_)
 ·have:=h.fO.own.lt (hsub _ _ hr) hb;omega
 have:=hcells j e x hj hx;have hj':=(cz.1 this).1;rw[Array.getElem?_append_left (by simpa using hj')];simpa using this
theorem RQ (htb:gZ P tb){c:Ctx}{g:fa}{st:St}{a:Act}{w:World}(h:fF c N g st a w){o:Oper}{args:Array Operand}{ts:Array TypeId}(ho:o.op= .call ⟨.builtin .append,args,ts⟩){K:fa→St→Prop}{Q:Exit→Act→World→Prop}{K':Act→World→Prop}
  (hK: ∀g' st' a' w',fF c N g' st' a' w'→K g' st'→K' a' w') {x y:Operand} {t1 t2:TypeId} (ha:args.toList=[x,y]) (hts:ts.toList=[t1,t2])
  (hk:MQ tb N o.dst K g st t2 (gL st.rs g st.env [] x) (gL st.rs g st.env [] y) (tk tb t1)):o.wp P a w K' Q:=by
 unfold MQ at hk;split at hk
 ·rename_i e ht1;obtain⟨hst,hk⟩:=hk;cases hti:tb e with
  | none=>simp[hti,MJ]at hk
  | some ti=>
   rw[hti]at hk;simp only[MJ]at hk;obtain⟨hs0,hb0,hz0,hk⟩:=hk;obtain⟨m,news,vs,hk,hsrc,hvl,Wz,hnv⟩:=BW htb h hs0 hst hk;obtain⟨i,z,hi,hsz,hby,hz,hzs⟩:=oI htb hti;have hut:=jm htb ht1;have hF:=gO h (iR a);have hsrc':Src P i.size t2 (a.eval y) m vs w:=by rw[hsz];exact hsrc
   have hnl:vs.length=m * ti.size:=hsrc.newsLen;obtain⟨env,F,rs,nx⟩:=st;have fin: ∀{rs':RL} {olds:List EV} {b cap n:Nat} {w':World},fF c N g ⟨env,F,(nx,⟨some b,olds++news,e,cap * ti.size⟩)::rs',nx+1⟩ a w'→ig N [] o.dst (.row nx 0 (n+m) cap) K g ⟨env,F,(nx,⟨some b,olds++news,e,cap * ti.size⟩)::rs',nx+1⟩→K' (a.put o.dst (.slice (some ⟨b,0,none⟩) (n+m) cap)) w':=fun {rs' olds b cap n w'} hs hput=>by
    have hv:(EV.row nx 0 (n+m) cap).val ((nx,⟨some b,olds++news,e,cap * ti.size⟩)::rs')=some (.slice (some ⟨b,0,none⟩) (n+m) cap):=by
     simp only[EV.val,e8,dC];rfl
    obtain⟨g',st',h1,_,_,_,h2,_⟩:=ki hs (ch:=[]) (e:=.row nx 0 (n+m) cap) (by simp only[EV.lt];omega) (fun _=>hv) (fun _=>trivial) (jV _ _) hput;exact hK _ _ _ _ (h2 (iR a)) h1
   have same: ∀{ev:EV} {v:Value},gL rs g env [] x=some ev→ev.val rs=some v→ig N [] o.dst ev K g ⟨env,F,rs,nx⟩→K' (a.put o.dst v) w:=fun {ev v} hev hv hput=>by
    obtain⟨g',st',h1,_,_,_,h2,_⟩:=ki h (ch:=[]) (e:=ev) (v:=v) (CH h [] _ _ hev) (fun _=>hv) (fun _=>trivial) (jV _ _) hput;exact hK _ _ _ _ (h2 (iR a)) h1
   have grow: ∀{p:Option Addr} {n cc:Nat} {oldE:List EV} {oldV:List Value} {rs':RL},a.eval x= .slice p n cc→(∀k r,fR rs' k=some r→fR rs k=some r)→(Builtin.firstCells i.size n (.slice p n cc)).run P w.drew= .ok oldV.toArray w.drew→oldV.length=n * ti.size→oldE.length=oldV.length→(∀e∈oldE,e.lt nx)→
     (∀(j:Nat) (e:EV) (x:Value),oldE[j]? =some e→e.val rs=some x→oldV[j]? =some x)→cc<n+m→(n+m) * ti.bytes≤140737488355328→
     (∀b cap,n+m≤cap→ig N [] o.dst (.row nx 0 (n+m) cap) K g ⟨env,F,(nx,⟨some b,oldE++news,e,cap * ti.size⟩)::rs',nx+1⟩)→o.wp P a w K' Q:=fun {p n cc oldE oldV rs'} hax hsub hold hol hoe hlt hov hg HT hput=>by
    have hnm:n+m≤(n+m) * ti.bytes:=Nat.le_mul_of_pos_right _ hb0;have hr:=run_append_grow_src w t1 t2 o.type e i z hut hi hz p n cc oldV hold (a.eval y) m vs hsrc' hg (by omega) (growslice_fits hg (by rw[hby];exact HT));rw[←hax]at hr;refine kK (ie ho ha hts hr) ?_;have hge:=grownCap_ge w (n+m) cc e;refine fin (olds:=oldE) (rs':=rs') ?_ (hput _ _ hge);refine xV h hsub (by simp[hoe,hvl]) ?_ (fun e he=>?_) (fun j e x hj hx=>?_)
    ·rw[size_zeroCells,hzs,hz0,ag,hol,hnl,←dc,←dc];congr 1;omega
    ·rcases aK.1 he with he | he
     ·exact hlt e he
     exact Wz e he
    rw[cj]at hj ⊢;rw[←hoe];split
    ·rename_i hlo;rw[aZ hlo]at hj;exact hov j e x hj hx
    rename_i hlo;rw[aY hlo]at hj;exact hnv _ e x hj hx
   unfold Pa at hk;split at hk
   ·rename_i id n cc hx;have e1:=hF _ _ hx;simp only at hk hx;cases hr:fR rs id with
    | none=>simp[hr,Ko]at hk
    | some r=>
     have hsub: ∀k r,fR (tJ rs id) k=some r→fR rs k=some r:=fun k r hkr=>by
      rw[pj]at hkr;split at hkr
      ·cases hkr
      exact hkr
     simp only[EV.val,hr,aa]at e1;have hval:(EV.row id 0 n cc).val rs=some (a.eval x):=by simp only[EV.val,hr,e1]
     obtain⟨rb,cells,ty,cap⟩:=r;cases rb with
     | none=>
      simp only[hr,Ko,Ch]at hk;obtain⟨rfl,rfl,hk1,hk2⟩:=hk;simp only[dx]at e1;rcases dh m with hm | hm
      ·have hvs:vs=[]:=aq (by rw[hnl,hm,dv]);subst hvs;subst hm;have hr:=run_append_nothing w t1 t2 o.type e i hut hi none 0 0 (ah _) (a.eval y) hsrc';rw[e1]at hr;exact kK (ie ho ha hts hr) (same hx hval (hk1 rfl))
      obtain⟨HT,hput⟩:=hk2 hm;exact grow (oldE:=[]) (oldV:=[]) e1.symm hsub (run_firstCells_none _ _ _ _ _) (by simp) rfl (fun e he=>by cases he) (fun j e x hj=>by simp at hj) (by omega) (HT (by omega)) (fun b cap hc=>hput b cap hc (fun h=>by omega))
     | some b=>
      simp only[hr,Ko,Ch]at hk;obtain⟨rfl,hnc,hcap,P1,hk1,hk2⟩:=hk;simp only[aJ]at e1;rcases dh m with hm | hm
      ·have hvs:vs=[]:=aq (by rw[hnl,hm,dv]);subst hvs;subst hm;have hr:=run_append_nothing w t1 t2 o.type ty i hut hi (some ⟨b,0,none⟩) n cc hnc (a.eval y) hsrc';rw[e1]at hr;exact kK (ie ho ha hts hr) (same hx hval (hk1 rfl))
      obtain⟨HT,hput⟩:=hk2 hm;by_cases hroom:n+m≤cc
      ·have hown:=h.fO.own.own id _ hr;simp only at hown;obtain⟨o1,o2,cur,o3,o4,o5⟩:=hown;have hfit:n * ti.size+vs.length≤cur.size:=by
        rw[o4,hcap,hnl,←dc];exact dq _ hroom
       have hrun:=l8 w t1 t2 o.type ty i hut hi b n cc (a.eval y) m vs hsrc' hroom o3 (by rw[hsz];exact hfit);rw[e1,hsz]at hrun;refine kK (ie ho ha hts hrun) ?_;refine fin (olds:=cells.take (n * ti.size)) (rs':=tJ rs id) ?_ (hput b cc hroom (fun _=>rfl));have hp:g9 [b] w (w.setRow b (cur.toList.take (n * ti.size)++vs++cur.toList.drop (n * ti.size+vs.length)).toArray):=⟨rfl,rfl,rfl,by simp[World.setRow],fun k _ hk=>setRow_other w b k _ (by simpa using hk)⟩;refine vR h hsub hp (fun y hy=>by simpa using hy) o1 (h.fO.new id _ b hr (.inl rfl)) (fun k r hkr hbr=>?_) (setRow_heap w b cur _ _ _ o3) ?_ ?_ (fun e he=>?_) (fun j e x hj hx=>?_)
       ·rw[pj]at hkr;split at hkr
        ·cases hkr
        rename_i hne;exact hne (h.fO.own.apart k id r _ b hkr hr hbr rfl)
       ·simp only[c8,ag,aw,aR,bj];omega
       ·rw[ag,aw,←hvl];omega
       ·rcases aK.1 he with he | he
        ·exact (h.gS id _ hr).2 e (cV he)
        exact Wz e he
       simp only[cC];rw[bM,cj];rw[cj]at hj;have e2:(cells.take (n * ti.size)).length=n * ti.size:=by simp;omega
       have e3:(cur.toList.take (n * ti.size)).length=n * ti.size:=by simp;omega
       rw[e2]at hj;rw[e3];split
       ·rename_i hlo;rw[aZ hlo,cB,aZ hlo]at hj;rw[cB,aZ hlo];simpa using o5 j e x hj hx
       rename_i hlo;rw[aY hlo]at hj;have:=hnv _ e x hj hx;rw[List.getElem?_append_left (cz.1 this).1];exact this
      obtain⟨BA,v1,v2,v3⟩:=r9 h (st:=⟨env,F,rs,nx⟩) hr rfl (o:=0) (k:=n * ti.size) (by simpa using P1);refine grow (oldE:=cells.take (n * ti.size)) (oldV:=BA) e1.symm hsub ?_ v1 (by rw[v1];simp;omega) (fun e he=>(h.gS id _ hr).2 e (cV he)) (fun j e x hj hx=>v3 j e x (by simpa using hj) hx) (by omega) (HT (by omega)) (fun b cap hc=>hput b cap hc (fun h=>absurd h hroom));rw[hsz];exact run_firstCells_some w.drew ti.size n _ _ _ BA v1 (fun j u hj=>by rw[kI];simpa using v2 j u hj)
   ·rename_i p n cc hx;have e1:=hF _ _ hx;simp only[EV.val,aa]at e1;simp only[Sh,Ch]at hk;obtain⟨rfl,cs,hcl,hfr,hk1,hk2⟩:=hk;rcases dh m with hm | hm
    ·have hvs:vs=[]:=aq (by rw[hnl,hm,dv]);subst hvs;subst hm;have hr:=run_append_nothing w t1 t2 o.type e i hut hi p n n (ah _) (a.eval y) hsrc';rw[e1]at hr;exact kK (ie ho ha hts hr) (same hx (by simp only[EV.val,e1]) (hk1 rfl))
    obtain⟨HT,hput⟩:=hk2 hm;refine grow (oldE:=cs.map .v) (oldV:=cs) e1.symm (fun k r hkr=>hkr) ?_ hcl (by simp) (fun e he=>by obtain⟨u,_,rfl⟩:=aG.1 he;trivial) (fun j e x hj hx=>?_) (by omega) (HT (by omega)) (fun b cap hc=>hput b cap hc (fun h=>by omega))
    ·cases p with
     | none=>
      have:cs=[]:=by
       cases cs with
       | nil=>rfl
       | cons u t=>have:=hfr 0 u rfl;simp[im,gb]at this
      subst this;exact run_firstCells_none _ _ _ _ _
     | some ad=>
      rw[hsz];exact run_firstCells_some w.drew ti.size n _ _ _ cs hcl (fun j u hj=>by simpa using r6 h.fO.le hfr j u hj)
    rw[aI,aS]at hj;obtain⟨u,hu,rfl⟩:=hj;simp only[EV.val,aa]at hx;subst hx;exact hu
   exact hk.elim
 exact hk.elim
theorem qG (bs:List UInt8):strOfNums (bs.map fun b=>(b.toNat:Int))=jB bs:=by
 unfold strOfNums jB;congr 2;rw[cL]
 conv=>rhs;rw[←List.map_id bs]
 apply List.map_congr_left;intro b _;simp
theorem Sl (htb:gZ P tb){c:Ctx}{g:fa}{st:St}{a:Act}{w:World}(h:fF c N g st a w){o:Oper}{s t:TypeId}{x:Operand}(ho:o.op= .convert s t x){K:fa→St→Prop}{Q:Exit→Act→World→Prop}{K':Act→World→Prop}
  (hK: ∀g' st' a' w',fF c N g' st' a' w'→K g' st'→K' a' w') (hs:oH tb (tk tb s)=true) (ht:isStr (tk tb t)=true) (hk:OS st.F st.rs (fun bs=>ig N [] o.dst (.v (S bs)) K g st) (gL st.rs g st.env [] x)):o.wp P a w K' Q:=by
 obtain⟨e,hu,he⟩: ∃e,P.underlying s=some (.slice e)∧P.underlying e=some (.int .u8):=by
  unfold oH at hs;split at hs
  ·rename_i e h1;split at hs
   ·rename_i h2;refine⟨e,jm htb h1,?_⟩;obtain⟨d,h3,h4⟩:=gN htb h2;simp only[TK.fits]at h4;rw[h3,h4]
   cases hs
  cases hs
 have hd:P.underlying t=some .string:=by
  unfold isStr at ht;split at ht
  ·rename_i h1;exact Iz htb h1
  cases ht
 have hF:=gO h (iR a);have fin: ∀bs:List UInt8,(convert s t (a.eval x)).run P w= .ok (S bs) w→ig N [] o.dst (.v (S bs)) K g st→o.wp P a w K' Q:=fun bs hrun hput=>by
  obtain⟨g',st',h1,_,_,_,h2,_⟩:=ki h (ch:=[]) (e:=.v (S bs)) (v:=S bs) trivial (fun _=>rfl) (fun _=>trivial) (jV _ _) hput;refine kK ?_ (hK _ _ _ _ (h2 (iR a)) h1);simp only[execOp,ho,run_bind,hrun,run_pure]
 unfold OS at hk;split at hk
 ·rename_i id off m cc hx;have e1:=hF _ _ hx;cases hr:fR st.rs id with
  | none=>simp[hr,Ah]at hk
  | some r=>
   simp only[EV.val,hr,aa]at e1;obtain⟨rb,cells,ty,cap⟩:=r;cases rb with
   | none=>
    simp only[hr,Ah]at hk;obtain⟨rfl,bs,h1,h2⟩:=hk;have:bs=[]:=by cases bs with | nil=>rfl | cons u l=>simp at h1
    subst this;refine fin [] ?_ h2;rw[←e1];exact run_convert_bytes_nil w s e hu he 0 cc t hd
   | some b=>
    simp only[hr,Ah,aA]at hk;obtain⟨h1,bs,h2,h3⟩:=hk;obtain⟨vs,v1,v2,v3⟩:=r9 h hr rfl h1;have hbl:bs.length=m:=by
     have:=a8 List.length h2;simp at this;omega
    refine fin bs ?_ h3;rw[←e1];have:=run_convert_bytes_arg w s e hu he b off m cc (bs.map fun b=>(b.toNat:Int)) (by simpa using hbl) (fun i hi=>by
     have hlt:i<bs.length:=by omega
     have e2:((cells.take (off+m)).drop off)[i]? =some (.v (.int .u8 (bs[i].toNat:Int))):=by
      rw[h2];simp[hlt]
     have:=v2 i _ (v3 i _ _ e2 rfl);rw[this];simp[List.getD,hlt]) t hd
    rw[qG]at this;exact this
 ·rename_i p m cc hx;have e1:=hF _ _ hx;simp only[EV.val,aa]at e1;obtain⟨bs,h1,h2,h3⟩:=hk;refine fin bs ?_ h3;rw[←e1];cases p with
  | none=>
   have:bs=[]:=by
    cases bs with
    | nil=>rfl
    | cons u l=>have:=h2 0 _ rfl;simp[im,gb]at this
   subst this;simp only[cH]at h1;subst h1;exact run_convert_bytes_nil w s e hu he 0 cc t hd
  | some ad=>
   have hl:(loadCells ad m).run P w= .ok ((bs.map fun b=>(b.toNat:Int)).map (Value.int .u8)).toArray w:=by
    have:=run_loadCells_list (P:=P) w ad (bs.map fun b=>Value.int .u8 (b.toNat:Int)) (r6 h.fO.le h2);rw[ab,h1]at this;rw[this,cL];rfl
   rw[run_convert_bytes_string w s t e _ m cc hu he hd,run_bytesToString w ad m cc _ hl,foldl_push_bytes];have:=qG bs;unfold strOfNums at this;simp only[S,←this];simp[ByteArray.empty,ByteArray.emptyWithCapacity];rfl
 exact hk.elim
theorem xd.ctx {c c':Ctx}{F:Hp}{rs:RL}{w:World}(h:xd c F rs w)(h1:c'.wE=c.wE)(h2:c'.F0=c.F0)(h3:c'.sz=c.sz)(h4:c'.F1=c.F1):xd c' F rs w where
 le:=h.le
 own:=h.own
 il:=by rw[h1];exact h.il
 new:=by rw[h1];exact h.new
 jT:=by rw[h1,h2];exact h.jT
 sz:=by rw[h3];exact h.sz
 tp:=by rw[h1,h2,h4];exact h.tp
theorem DY {rs:RL}{ρ:Operand→Option EV}{ρ':Operand→Value}(hρ:Fits rs ρ ρ'): ∀{l:List Operand} {es:List EV},F8 ρ l=some es→iU rs es=some (l.map ρ')
 | [],es,h=>by simp only[F8,aa]at h;subst h;rfl
 | o::l,es,h=>by
  simp only[F8]at h;split at h
  ·rename_i e es' he hes;simp only[aa]at h;subst h;have:=DY hρ hes;simp only[iU,hρ _ _ he,this,a9]
  simp at h
theorem ru {rs:RL}: ∀{l1 l2:List EV} {x1 x2:List Value},iU rs l1=some x1→iU rs l2=some x2→iU rs (l1++l2)=some (x1++x2)
 | [],l2,x1,x2,h1,h2=>by simp only[iU,aa]at h1;subst h1;simpa using h2
 | e::l1,l2,x1,x2,h1,h2=>by
  simp only[iU]at h1;split at h1
  ·rename_i x xs hx hxs;simp only[aa]at h1;subst h1;have:=ru hxs h2;simp only[bV,iU,hx,this]
  simp at h1
theorem eD {rs:RL}: ∀(l:List Value),iU rs (l.map .v)=some l
 | []=>rfl
 | x::l=>by simp only[a9,iU,EV.val,eD l]
theorem val_succ {c:Ctx}{F:Hp}{rs:RL}{nx:Nat}(h:BR c F rs nx){e:EV}(he:e.lt c.QI){x:Value}(hx:e.val rs=some x):e.val c.vf=some x:=by
 cases e with
 | v y=>exact hx
 | loc id o=>
  simp only[EV.val]at hx ⊢;split at hx
  ·rename_i r hr;obtain⟨r0,h1,h2⟩:=h.succ id r he hr;rw[h1];simp only[h2];exact hx
  simp at hx
 | row id o n c'=>
  simp only[EV.val]at hx ⊢;split at hx
  ·rename_i r hr;obtain⟨r0,h1,h2⟩:=h.succ id r he hr;rw[h1];simp only[h2];exact hx
  simp at hx
theorem UX {c:Ctx}{g:fa}{st:St}{a:Act}{w:World}(h:fF c N g st a w){o:Oper}{f:Operand}{args:Array Operand}{ts:Array TypeId}(ho:o.op= .call ⟨.value f,args,ts⟩){K:fa→St→Prop}{Q:Exit→Act→World→Prop}{K':Act→World→Prop}
  (hK: ∀g' st' a' w',fF c N g' st' a' w'→K g' st'→K' a' w') (hk:Me P N o.dst K g st (gL st.rs g st.env [] f) (F8 (gL st.rs g st.env []) args.toList)):o.wp P a w K' Q:=by
 have hF:=gO h (iR a);obtain⟨env,F,rs,nx⟩:=st;unfold Me at hk;split at hk
 ·rename_i env F rs nx n first captured es hst hf he;simp only[St.mk.injEq]at hst;obtain⟨rfl,rfl,rfl,rfl⟩:=hst;obtain⟨hb,QQ,hc,hq⟩:=hk;have e1:=hF _ _ hf;simp only[EV.val,aa]at e1;have e2:=DY hF he;have e3:=ru (ru (eD (rs:=rs) first.toList) e2) (eD (rs:=rs) captured.toList);have e4:first++args.map a.eval++captured=(first.toList++args.toList.map a.eval++captured.toList).toArray:=by
   apply bg;simp
  unfold Oper.wp;rw[yX ho e1.symm hb,Oper.upon_enter,e4];refine (hc ⟨c.wE,c.F0,c.F1,rs,nx,c.sz⟩ w (h.fO.ctx rfl rfl rfl rfl) ⟨h.gI.sub,ah _,fun id r _ hr=>⟨r,hr,rfl⟩⟩ h.gS rfl rfl _ e3).mono fun e w' ⟨x,ev,F',rs',nx',he',hw',hh',hr',hlt,hv,hQ⟩=>?_;subst he';have hs:fF c N g ⟨env,F',rs',nx'⟩ a w':={
   size:=h.size
   defers:=h.defers
   fO:=hw'.ctx rfl rfl rfl rfl
   gI:={
    sub:=hh'.sub
    kT:=dk h.gI.kT hh'.kT
    succ:=fun id r hid hr=>by
     obtain⟨r0,h1,h2⟩:=hh'.succ id r (Nat.lt_of_lt_of_le hid h.gI.kT) hr;obtain⟨r1,h3,h4⟩:=h.gI.succ id r0 hid h1;exact⟨r1,h3,h4.trans h2⟩ }
   gS:=hr'
   ids:=fun n e he=>(h.ids n e he).mono hh'.kT
   env:=fun n e x hg he hx=>h.env n e x hg he (val_succ hh' (h.ids n e he) hx)
   gv:=fun n ch e hg=>by
    obtain⟨h1,h2,h3,h4⟩:=h.gv n ch e hg;exact⟨fun hA=>⟨fun x hx=>(h1 hA).1 x (val_succ hh' h3 hx),(h1 hA).2⟩,h2,h3.mono hh'.kT,h4⟩ }
  have hput:=hq ev F' rs' nx' trivial hh'.kT hQ;cases hd:o.dst with
  | none=>
   rw[hd]at hput;exact hK _ _ _ _ hs hput
  | some d=>
   rw[hd]at hput;obtain⟨g',st',h1,_,_,_,h2,_⟩:=ki hs (ch:=[]) (d:=some d) (e:=ev) (v:=x) hlt (fun _=>hv) (fun _=>trivial) (jV _ _) hput;exact hK _ _ _ _ (h2 (iR a)) h1
 exact hk.elim
theorem NI (htb:gZ P tb){c:Ctx}{g:fa}{st:St}{a:Act}{w:World}(h:fF c N g st a w){o:Oper}{K:fa→St→Prop}{Q:Exit→Act→World→Prop}{K':Act→World→Prop}
  (hK: ∀g' st' a' w',fF c N g' st' a' w'→K g' st'→K' a' w') (hk:Nn P tb N o.dst K g st o.op):o.wp P a w K' Q:=by
 cases ho:o.op with
 | call cc=>
  rw[ho]at hk;obtain⟨callee,args,ts⟩:=cc;cases callee with
  | value f=>exact UX h ho hK hk
  | builtin b=>
   cases b with
   | append=>
    obtain⟨x,y,t1,t2,h1,h2,h3⟩:=hk;exact RQ htb h ho hK h1 h2 h3
   | _=>exact hk.elim
  | invoke r m=>exact hk.elim
 | convert s t x=>
  rw[ho]at hk;exact Sl htb h ho hK hk.1 hk.2.1 hk.2.2
 | _=>rw[ho]at hk;exact hk.elim
theorem R6 {c:Ctx}{g:fa}{st:St}{a:Act}{w:World}(h:fF c N g st a w){o:Oper}{K:fa→St→Prop}{Q:Exit→Act→World→Prop}{K':Act→World→Prop}
  (hK: ∀g' st' a' w',fF c N g' st' a' w'→K g' st'→K' a' w') (hk:VJ P N o.dst K g st o.op):o.wp P a w K' Q:=by
 obtain⟨ι,ef,stf,hr,WA⟩:=hk;obtain⟨i,v,w',h1,h2,h3⟩:=hr c a w o h rfl;have hput:=WA i;generalize ef i=e at hput h3;generalize stf i=st' at hput h2 h3;rcases h1 with h1 | ⟨h0,h1⟩
 rotate_left
 ·unfold Oper.wp;rw[h1];show K' (a.put o.dst undef) w';rw[h0]at hput ⊢;exact hK _ _ _ _ h2 hput
 refine kK h1 ?_;cases hd:o.dst with
 | none=>
  rw[hd]at hput;exact hK _ _ _ _ h2 hput
 | some d=>
  rw[hd]at hput;obtain⟨g',aap,g1,_,_,_,g2,_⟩:=ki h2 (ch:=[]) (d:=some d) (e:=e) (v:=v) (mU (fun id r hr=>(h2.gS id r hr).1) h3) (fun _=>h3) (fun _=>trivial) (jV _ _) hput;exact hK _ _ _ _ (g2 (iR a)) g1
end
section
variable {P:Program} {tb:Tb} {N:Nat}
theorem yc (l1 l2:RL)(id:Nat):fR (l1++l2) id=match fR l1 id with | some r=>some r | none=>fR l2 id:=by
 induction l1 with
 | nil=>rfl
 | cons p l1 ih=>
  obtain⟨m,r⟩:=p;rw[bV,e8,e8,ih];by_cases h:id=m<;>simp[h]
theorem sm (n:Nat)(new:RL)(id:Nat):fR (gB n new) id=if n≤id then (fR new (id - n)).map (gV n) else none:=by
 induction new with
 | nil=>simp[gB,fR]
 | cons p new ih=>
  obtain⟨m,r⟩:=p;have ih':fR (List.map (fun x=>(n+x.1,gV n x.2)) new) id=if n≤id then (fR new (id - n)).map (gV n) else none:=ih
  simp only[gB,a9];rw[e8,ih',e8];by_cases h:id=n+m
  ·subst h;rw[aZ rfl,aZ (by omega),aZ (by omega)];rfl
  rw[aY h];by_cases h2:n≤id
  ·rw[aZ h2,aZ h2,aY (by omega)]
  rw[aY h2,aY h2]
theorem Ce {nx:Nat}{new rs:RL}{id:Nat}(h:nx≤id)(hr: ∀id r,fR rs id=some r→id<nx):fR (gB nx new++rs) id=(fR new (id - nx)).map (gV nx):=by
 rw[yc,sm,aZ h];cases hl:fR new (id - nx) with
 | some r=>rfl
 | none=>
  simp only[dx];cases hk:fR rs id with
  | none=>rfl
  | some r=>have:=hr id r hk;omega
theorem BU {nx:Nat}{new rs:RL}{id:Nat}(h:id<nx):fR (gB nx new++rs) id=fR rs id:=by
 rw[yc,sm,aY (by omega)]
theorem B6 {nx:Nat}{new rs:RL}{e:EV}(h:e.lt nx):e.val (gB nx new++rs)=e.val rs:=by
 cases e with
 | v x=>rfl
 | loc id o=>simp only[EV.lt]at h;simp only[EV.val,BU h]
 | row id o n c=>simp only[EV.lt]at h;simp only[EV.val,BU h]
theorem BS {nx:Nat}{new rs:RL}(hr: ∀id r,fR rs id=some r→id<nx)(e:EV):(gX nx e).val (gB nx new++rs)=e.val new:=by
 cases e with
 | v x=>rfl
 | loc id o=>
  simp only[gX,EV.val,Ce (di nx id) hr,de];cases fR new id<;>rfl
 | row id o n c=>
  simp only[gX,EV.val,Ce (di nx id) hr,de];cases fR new id<;>rfl
theorem py {nx m:Nat}{e:EV}(h:e.lt m):(gX nx e).lt (nx+m):=by
 cases e<;>simp only[gX,EV.lt]at * <;>omega
theorem rX {n:Nat}{r:kj}{b:Nat}(h:(gV n r).at b):r.at b:=by
 rcases h with h | ⟨h1,h0,h2⟩
 ·exact .inl h
 refine .inr ⟨h1,h0,?_⟩;simp only[gV,List.map_eq_singleton_iff]at h2;obtain⟨e,he,h3⟩:=h2;rw[he];cases e with
 | v x=>exact a8 (fun e=>[e]) h3
 | loc id o=>cases h3
 | row id o n c=>cases h3
theorem ND {c:Ctx}{g:fa}{env:Env}{F F':Hp}{rs new:RL}{nx m:Nat}{a:Act}{w w':World}(h:fF c N g ⟨env,F,rs,nx⟩ a w)(hsub:F.sub F')(hle:F'.le w')(hp:g9 [] w w')(hfn:PR F F' w.heap.size)
  (hown:nu F' new w') (hnb: ∀id r b,fR new id=some r→r.at b→w.heap.size≤b) (hm: ∀id r,fR new id=some r→id<m∧ ∀e∈r.cells,e.lt m):fF c N g ⟨env,F',gB nx new++rs,nx+m⟩ a w':=by
 have hrl: ∀id r,fR rs id=some r→id<nx:=fun id r hr=>(h.gS id r hr).1;have cases': ∀id r,fR (gB nx new++rs) id=some r→(id<nx∧fR rs id=some r)∨(nx≤id∧ ∃r0,fR new (id - nx)=some r0∧r=gV nx r0):=fun id r hr=>by
  by_cases hid:id<nx
  ·rw[BU hid]at hr;exact .inl ⟨hid,hr⟩
  have WB:nx≤id:=by omega
  rw[Ce WB hrl,aS]at hr;obtain⟨r0,h1,h2⟩:=hr;exact .inr ⟨WB,r0,h1,h2.symm⟩
 have hw:=h.fO.zB hp;exact {
  size:=h.size
  defers:=h.defers
  fO:={
   le:=hle
   own:={
    own:=fun id r hr=>by
     rcases cases' id r hr with⟨hid,hr'⟩ | ⟨hid,r0,hr0,rfl⟩
     ·have h1:=hw.own.own id r hr';cases hb:r.gl with
      | none=>rw[hb]at h1;exact h1
      | some b=>
       rw[hb]at h1;obtain⟨g1,g2,cur,g3,g4,g5⟩:=h1;have hbl:=h.fO.own.lt hr' hb;refine⟨?_,g2,cur,g3,g4,fun j ev x hj hx=>g5 j ev x hj ?_⟩
       ·show F' b=none;cases hf:F' b with
        | none=>rfl
        | some o=>
         have g1':F b=none:=g1;rcases hfn b (by simp[hf]) with h' | h'
         ·rw[g1']at h';cases h'
         omega
       rw[B6 ((h.gS id r hr').2 ev (cT hj))]at hx;exact hx
     have h1:=hown.own (id - nx) r0 hr0;simp only[gV];cases hb:r0.gl with
     | none=>rw[hb]at h1;exact⟨h1.1.elim (fun e=>.inl (by rw[e];rfl)) (fun⟨e0,b,e⟩=>.inr ⟨e0,b,by rw[e];rfl⟩),h1.2⟩
     | some b=>
      rw[hb]at h1;obtain⟨g1,g2,cur,g3,g4,g5⟩:=h1;refine⟨g1,by rw[ab];exact g2,cur,g3,g4,fun j ev x hj hx=>?_⟩;rw[aI,aS]at hj;obtain⟨ev0,hj0,rfl⟩:=hj;rw[BS hrl]at hx;exact g5 j ev0 x hj0 hx
    apart:=fun i j r s b hi hj hb hs=>by
     rcases cases' i r hi with⟨hid,hr'⟩ | ⟨hid,r0,hr0,rfl⟩<;>rcases cases' j s hj with⟨hjd,hs'⟩ | ⟨hjd,s0,hs0,rfl⟩
     ·exact h.fO.own.apart i j r s b hr' hs' hb hs
     ·have h1:=h.fO.own.lt hr' hb;have h2:=hnb _ s0 b hs0 (.inl hs);omega
     ·have h1:=h.fO.own.lt hs' hs;have h2:=hnb _ r0 b hr0 (.inl hb);omega
     have:=hown.apart _ _ r0 s0 b hr0 hs0 hb hs;omega }
   il:=hw.il
   new:=fun id r b hr hb=>by
    rcases cases' id r hr with⟨hid,hr'⟩ | ⟨hid,r0,hr0,rfl⟩
    ·exact h.fO.new id r b hr' hb
    have h1:=hnb _ r0 b hr0 (rX hb);have h2:=h.fO.il.size;omega
   jT:=fun k hk=>by
    rcases hfn k hk with h' | h'
    ·exact h.fO.jT k h'
    have h2:=h.fO.il.size;right;omega
   sz:=dk h.fO.sz hp.size
   tp:=h.fO.tp }
  gI:={
   sub:=h.gI.sub.trans hsub
   kT:=dk h.gI.kT (di _ _)
   succ:=fun id r hid hr=>by
    have:=h.gI.kT;rcases cases' id r hr with⟨_,hr'⟩ | ⟨hge,_⟩
    ·exact h.gI.succ id r hid hr'
    simp only at this;omega }
  gS:=fun id r hr=>by
   rcases cases' id r hr with⟨hid,hr'⟩ | ⟨hid,r0,hr0,rfl⟩
   ·obtain⟨h1,h2⟩:=h.gS id r hr';exact⟨by simp only at h1 ⊢;omega,fun e he=>(h2 e he).mono (di _ _)⟩
   obtain⟨h1,h2⟩:=hm _ r0 hr0;refine⟨by simp only;omega,fun e he=>?_⟩;simp only[gV,aG]at he;obtain⟨e0,he0,rfl⟩:=he;exact py (h2 e0 he0)
  ids:=fun n e he=>(h.ids n e he).mono (di _ _)
  env:=fun n e x hg he hx=>by
   rw[B6 (h.ids n e he)]at hx;exact h.env n e x hg he hx
  gv:=fun n ch e hg=>by
   obtain⟨h1,h2,h3,h4⟩:=h.gv n ch e hg;refine⟨fun hA=>⟨fun x hx=>(h1 hA).1 x ?_,(h1 hA).2⟩,h2,h3.mono (di _ _),h4⟩;rw[B6 h3]at hx;exact hx }
theorem G0 {new:RL}{m:Nat}(hm: ∀id r,fR new id=some r→id<m∧ ∀e∈r.cells,e.lt m){e:EV}{x:Value}(h:e.val new=some x):e.lt m:=by
 cases e with
 | v _=>trivial
 | loc id o=>
  simp only[EV.val]at h;split at h
  ·rename_i r hl;exact (hm _ _ hl).1
  simp at h
 | row id o n c=>
  simp only[EV.val]at h;split at h
  ·rename_i r hl;exact (hm _ _ hl).1
  simp at h
theorem Hi {c:Ctx}{g:fa}{st:St}{a:Act}{w:World}(h:fF c N g st a w){o:Oper}{f:Operand}{args:Array Operand}{ts:Array TypeId}(ho:o.op= .call ⟨.value f,args,ts⟩)
  {n:FuncId} {first captured:Array Value} {xs:List Value} (hf:gL st.rs g st.env [] f=some (.v (.func (.func n) first captured))) (hx:su st.rs (gL st.rs g st.env []) args.toList=some xs) (hb:dH P n)
  {K:fa→St→Prop} {Q:Exit→Act→World→Prop} {K':Act→World→Prop} (hK: ∀g' st' a' w',fF c N g' st' a' w'→K g' st'→K' a' w')
  (hk:CD P N n (first.toList++xs++captured.toList) o.dst K g st):o.wp P a w K' Q:=by
 have hF:=gO h (iR a);have e1:=hF _ _ hf;simp only[EV.val,aa]at e1;have e2:=tK hF hx;have e3:first++args.map a.eval++captured=(first.toList++xs++captured.toList).toArray:=by
  apply bg;simp[←e2]
 clear hF e1;have hf':a.eval f= .func (.func n) first captured:=by
  have:=gO h (iR a) _ _ hf;simp only[EV.val,aa]at this;exact this.symm
 unfold Oper.wp;rw[yX ho hf' hb,Oper.upon_enter,e3];obtain⟨st,h,QQ,hc,hq⟩:=hk c a w h;refine (hc w h.fO.le).mono fun e w' ⟨x,F',new,he,hsub,hle,hp,hfn,hown,hnb,hQ⟩=>?_;subst he;obtain⟨m,ev,hm,hv,hput⟩:=hq x F' new hsub hQ;obtain⟨env,F,rs,nx⟩:=st;have hs:=ND h hsub hle hp hfn hown hnb hm;have hrl: ∀id r,fR rs id=some r→id<nx:=fun id r hr=>(h.gS id r hr).1;obtain⟨g',st',h1,_,_,_,h2,_⟩:=ki hs (ch:=[]) (e:=gX nx ev) (v:=x) (py (G0 hm hv)) (fun _=>by rw[BS hrl];exact hv) (fun _=>trivial) (jV _ _) hput;exact hK _ _ _ _ (h2 (iR a)) h1
theorem Nx {c:Ctx}{g:fa}{st:St}{a:Act}{w:World}(h:fF c N g st a w){ch:gq}{o:Oper}{e:EV}{v:Value}(hq:Quiet P st ch a o e v)(hA:gA ch a){K':Act→World→Prop}{Q:Exit→Act→World→Prop}
  (hk: ∀w',C c st w'→K' (a.put o.dst v) w'):o.wp P a w K' Q:=
 Oper.wp_of_quiet (C:=C c st) (K:=fun a'=>a'=a.put o.dst v) h.fO (fun a' w' hw' e=>by subst e;exact hk w' hw') ⟨v,hq.run hA _ (M3 c st),rfl⟩
theorem xO (htb:gZ P tb){c:Ctx}{g:fa}{st:St}{a:Act}{w:World}(h:fF c N g st a w){ch:gq}(hA:gA ch a)(u6:gA ch a→gP ch)(hfree:Dj g st.env ch){o:Oper}{K:fa→St→Prop}{Q:Exit→Act→World→Prop}{K':Act→World→Prop}
  (ih: ∀g' st' a' w',fF c N g' st' a' w'→K g' st'→K' a' w') (hop:nI P tb N false ch o.dst K g st o.op):o.wp P a w K' Q:=by
  have quiet:nI P tb N true ch o.dst K g st o.op→o.wp P a w K' Q:=fun hop'=>by
   obtain⟨e,v,hq,hp⟩:=tH htb h u6 hop';obtain⟨g',st',YK,hF,hrs,_,h1,h2⟩:=ki h hq.lt hq.val u6 hfree hp;refine Nx h hq hA fun w' hw'=>?_;refine ih g' st' _ w' ((h1 hA).world ?_) YK;unfold C at hw' ⊢;rw[hF,hrs];exact hw'
  have WC:ch=[]→o.wp P a w K' Q→o.wp P a w K' Q:=fun _ hw=>hw;cases ho:o.op with
  | call cc=>
   obtain⟨callee,args,ts⟩:=cc;cases callee with
   | value f=>
    cases ch with
    | cons c0 ch=>
     refine quiet ?_;rw[ho]at hop ⊢;simp only[nI]at hop ⊢;unfold lW at hop ⊢;split at hop
     ·rename_i hf hx;simp only[E4]at hop ⊢;exact hop
     exact hop.elim
    | nil=>
     refine WC rfl ?_;rw[ho]at hop;simp only[nI]at hop;unfold lW at hop;split at hop
     ·rename_i n first captured xs hf hx;simp only[E4]at hop;exact Hi h ho hf hx hop.1 ih hop.2
     exact hop.elim
   | builtin b=>exact quiet (by rw[ho]at hop ⊢;exact hop)
   | invoke r m=>rw[ho]at hop;exact hop.elim
  | alloc t=>
   rw[ho]at hop;simp only[nI]at hop;exact WC hop.2.1 (L1 htb h ho ih hop.2.2)
  | box t x=>
   rw[ho]at hop;simp only[nI]at hop;obtain⟨_,rfl,hop⟩:=hop;exact WC rfl (RD h ho ih hop)
  | buildSlice t n ps=>
   rw[ho]at hop;simp only[nI]at hop;obtain⟨_,rfl,hop⟩:=hop;exact WC rfl (J8 htb h ho ih hop)
  | store t x y=>
   rw[ho]at hop;simp only[nI]at hop;obtain⟨_,rfl,hd,hop⟩:=hop;exact WC rfl (LI htb h ho hd ih hop)
  | pick x y z=>exact quiet (by rw[ho]at hop ⊢;cases x<;>exact hop)
  | load t x=>exact quiet (by rw[ho]at hop ⊢;exact hop)
  | move x=>exact quiet (by rw[ho]at hop ⊢;exact hop)
  | assign x=>exact quiet (by rw[ho]at hop ⊢;exact hop)
  | build _ _=>exact quiet (by rw[ho]at hop ⊢;exact hop)
  | nilCheck _=>exact quiet (by rw[ho]at hop ⊢;exact hop)
  | binOp _ _ _ _ _=>exact quiet (by rw[ho]at hop ⊢;exact hop)
  | unOp _ _ _=>exact quiet (by rw[ho]at hop ⊢;exact hop)
  | convert _ _ _=>exact quiet (by rw[ho]at hop ⊢;exact hop)
  | makeFunc _ _ _=>exact quiet (by rw[ho]at hop ⊢;exact hop)
  | slice _ _ _ _ _=>exact quiet (by rw[ho]at hop ⊢;exact hop)
  | fieldAddr _ _ _=>exact quiet (by rw[ho]at hop ⊢;exact hop)
  | field _ _ _=>exact quiet (by rw[ho]at hop ⊢;exact hop)
  | indexAddr _ _ _=>exact quiet (by rw[ho]at hop ⊢;exact hop)
  | index _ _ _=>exact quiet (by rw[ho]at hop ⊢;exact hop)
  | extract _ _=>exact quiet (by rw[ho]at hop ⊢;exact hop)
  | _=>rw[ho]at hop;exact hop.elim
theorem NV (htb:gZ P tb){c:Ctx}{g:fa}{st:St}{a:Act}{w:World}(h:fF c N g st a w){o:Oper}{K:fa→St→Prop}{Q:Exit→Act→World→Prop}{K':Act→World→Prop}
  (hK: ∀g' st' a' w',fF c N g' st' a' w'→K g' st'→K' a' w') (hk:WX P tb N false o.dst K g st o.op):o.wp P a w K' Q:=by
 rcases hk with hk | ⟨_,hk⟩ | ⟨_,hk⟩
 ·exact xO htb h (iR a) (fun _=>trivial) (jV _ _) hK hk
 ·exact NI htb h hK hk
 obtain⟨st',h1,hk | hk | hk⟩:=hk c a w h
 ·exact xO htb h1 (iR a) (fun _=>trivial) (jV _ _) hK hk
 ·exact NI htb h1 hK hk
 exact R6 h1 hK hk
theorem yz (htb:gZ P tb){c:Ctx}{g:fa}{st:St}{a:Act}{w:World}(h:fF c N g st a w){ops:Array Oper}{o:Oper}{K:fa→St→Prop}{Q:Exit→Act→World→Prop}{K':Act→World→Prop}
  (hK: ∀g' st' a' w',fF c N g' st' a' w'→K g' st'→K' a' w') (hk:wm P tb N false ops.toList o.op o.dst K g st o.guard):
  (Region.wanted o (yielded ops a.tmps)=true→o.wp P a w K' Q)∧(¬Region.wanted o (yielded ops a.tmps)=true→K' (a.put o.dst undef) w):=by
 cases hg:o.guard with
 | none=>
  rw[hg]at hk;have hw:Region.wanted o (yielded ops a.tmps)=true:=by simp only[Region.wanted,hg]
  exact⟨fun _=>NV htb h hK hk,fun hn=>absurd hw hn⟩
 | some jw=>
  obtain⟨j,want⟩:=jw;rw[hg]at hk;rcases hk with hk | hk
  ·obtain⟨ch,hG,h2,h3⟩:=uV h hg hk;refine⟨fun hw=>xO htb h (hG.wanted.1 hw) hG.gp hG.free hK h2,fun hn=>?_⟩;have hA: ¬gA ch a:=fun hA=>hn (hG.wanted.2 hA);have quiet:nI P tb N true ch o.dst K g st o.op:=by
    cases ho:o.op with
    | call cc=>
     obtain⟨callee,args,ts⟩:=cc;cases callee with
     | value f=>
      cases ch with
      | nil=>exact absurd rfl h3
      | cons c0 ch=>
       rw[ho]at h2;simp only[nI]at h2 ⊢;unfold lW at h2 ⊢;split at h2
       ·simp only[E4]at h2 ⊢;exact h2
       exact h2.elim
     | builtin b=>rw[ho]at h2;exact h2
     | invoke r m=>rw[ho]at h2;exact h2.elim
    | alloc t=>rw[ho]at h2;simp only[nI]at h2;exact absurd h2.2.1 h3
    | box t x=>rw[ho]at h2;simp only[nI]at h2;exact absurd h2.2.1 h3
    | buildSlice t n ps=>rw[ho]at h2;simp only[nI]at h2;exact absurd h2.2.1 h3
    | store t x y=>rw[ho]at h2;simp only[nI]at h2;exact absurd h2.2.1 h3
    | pick x y z=>rw[ho]at h2;cases x<;>exact h2
    | _=>rw[ho]at h2;exact h2
   obtain⟨e,v,hq,hp⟩:=tH htb h hG.gp quiet;obtain⟨g',st',YK,hF,hrs,_,h1,h4⟩:=ki h hq.lt hq.val hG.gp hG.free hp;exact hK _ _ _ _ (h4 hA) YK
  rcases sE h hg hk with⟨hw,hk⟩ | ⟨hw,hk⟩
  ·exact⟨fun _=>NV htb h hK hk,fun hn=>absurd hw hn⟩
  obtain⟨g',st',h1,_,_,_,h2⟩:=E2 h hk;exact⟨fun hn=>absurd hn hw,fun _=>hK _ _ _ _ h2 h1⟩
theorem rW (htb:gZ P tb){c:Ctx}{ops:Array Oper}{K:fa→St→Prop}{Q:Exit→Act→World→Prop}(hQ: ∀g st a w,fF c N g st a w→K g st→Q .normal a w): ∀(l:List Oper) (g:fa) (st:St) (a:Act) (w:World),fF c N g st a w→
  dT P tb N false ops.toList l K g st→wpList P ops Q l a w
 | [],g,st,a,w,h,hk=>hQ g st a w h hk
 | o::l,g,st,a,w,h,hk=>by
  have hs:=yz htb (ops:=ops) (o:=o) (Q:=Q) (K':=wpList P ops Q l) h (fun g' st' a' w' h1 h2=>rW htb hQ l g' st' a' w' h1 h2) hk;unfold wpList;split
  ·rename_i hw;exact .inl (hs.1 hw)
  rename_i hw;exact hs.2 hw
end
section
section
variable {P:Program} {ops:Array Oper} {md:Region.Mode} {R:Act→World→Prop}
def Qn (R:Act→World→Prop):Exit→Act→World→Prop:=fun e a w=>e= .normal∧R a w
theorem Qn.out: ¬LetsOut (Qn R):=fun h=>by
 have:=h;unfold LetsOut at this;simp[Qn]at this
def lX (P:Program)(md:Region.Mode)(ops:Array Oper)(R:Act→World→Prop):Nat→Array Bool→(World→Prop)→Act→World→Prop
 | 0,done,_,a,w=>Region.ready md ops done=[]∧R a w
 | f+1,done,S,a,w=>(Region.ready md ops done=[]→R a w)∧
   ∀i∈Region.ready md ops done,wpOp P ops (Qn R) i (fun a' w'=>∃S' T':World→Prop,(∀x,S' x→S x)∧(∀x,T' x→S' x)∧(∀x y,T' x→g9 [] x y→T' y)∧T' w'∧ ∀x,T' x→lX P md ops R f (done.setIfInBounds i true) S' a' x) a w
theorem ME {o:Oper}{a:Act}{w:World}{K:Act→World→Prop}{Q:Exit→Act→World→Prop}(h:o.wp P a w K (Qn R)):o.wp P a w K Q:=by
 unfold Oper.wp at *;generalize (execOp a.eval o).run P w=r at *;cases r with
 | ok n w'=>
  cases n<;>simp only[Oper.upon]at h ⊢ <;>
   first
    | exact h
    | exact Calls.mono h (fun e w'' he=>by
      cases e
      ·exact he
      ·exact absurd he.1 (by simp)
      exact absurd he Qn.out)
 | halt x w'=>cases x<;>simp only[Oper.upon]at h ⊢ <;>first | exact h | exact absurd h.1 (by simp)
theorem lX.any {Q:Exit→Act→World→Prop}(hQ: ∀a w,R a w→Q .normal a w): ∀(f:Nat) (done:Array Bool) (S:World→Prop) (a:Act) (w:World),lX P md ops R f done S a w→wpAny P md ops Q f done a w:=by
 intro f
 induction f with
 | zero=>intro done S a w h;exact⟨h.1,hQ _ _ h.2⟩
 | succ f ih=>
  intro done S a w h;refine⟨fun h0=>hQ _ _ (h.1 h0),fun i hi=>?_⟩;have h1:=h.2 i hi;have go: ∀{a' w'},(∃S' T':World→Prop,(∀x,S' x→S x)∧(∀x,T' x→S' x)∧(∀x y,T' x→g9 [] x y→T' y)∧T' w'∧ ∀x,T' x→lX P md ops R f (done.setIfInBounds i true) S' a' x)→wpAny P md ops Q f (done.setIfInBounds i true) a' w':=fun {a' w'} ⟨S',T',_,_,_,h4,h5⟩=>ih _ _ _ _ (h5 _ h4);unfold wpOp at h1 ⊢;split
  ·rename_i ho;rw[ho]at h1;exact go h1
  rename_i o ho;rw[ho]at h1;simp only at h1;split
  ·rename_i hw;rw[aZ hw]at h1;rcases h1 with h1 | h1
   ·exact .inl (Oper.wp_mono (fun a' w' h'=>go h') (ME h1))
   exact absurd h1.2 Qn.out
  rename_i hw;rw[aY hw]at h1;exact go h1
def jk (P:Program)(ops:Array Oper)(S:World→Prop)(o:Oper)(v:Value)(a:Act):Prop:=
 if Region.wanted o (yielded ops a.tmps) then∀w,S w→o.quietAt P a (g9 [] w) w v else v=undef
theorem Dc {o:Oper}{v:Value}{a a':Act}{C:World→Prop}{w:World}(h:o.quietAt P a C w v)(he:execOp a'.eval o=execOp a.eval o):o.quietAt P a' C w v:=by
 unfold Oper.quietAt at *;rw[he];exact h
theorem CW {o:Oper}{v:Value}{a:Act}{C C':World→Prop}{w:World}(h:o.quietAt P a C w v)(hC: ∀x,C x→C' x):o.quietAt P a C' w v:=by
 unfold Oper.quietAt at *;generalize (execOp a.eval o).run P w=r at *;unfold Oper.quietUpon at *;split at h
 all_goals first
  | exact h
  | exact⟨h.1,h.2.mono fun e w2 he=>⟨he.1,hC _ he.2⟩⟩
theorem jk.of_same {S:World→Prop}{o:Oper}{v:Value}{a a':Act}(hy:jk P ops S o v a)(he:execOp a'.eval o=execOp a.eval o)(hw:Region.wanted o (yielded ops a'.tmps)=Region.wanted o (yielded ops a.tmps)):jk P ops S o v a':=by
 unfold jk at *;rw[hw];split
 ·rename_i h;rw[aZ h]at hy;exact fun w hs=>Dc (hy w hs) he
 rename_i h;rw[aY h]at hy;exact hy
theorem jk.mono {S S':World→Prop}{o:Oper}{v:Value}{a:Act}(hy:jk P ops S o v a)(h: ∀x,S' x→S x):jk P ops S' o v a:=by
 unfold jk at *;split
 ·rename_i hw;rw[aZ hw]at hy;exact fun w hs=>hy w (h w hs)
 rename_i hw;rw[aY hw]at hy;exact hy
theorem RF {oi oj:Oper}{v:Value}{a:Act}{w:World}{K:Act→World→Prop}(he:execOp (a.put oi.dst v).eval oj=execOp a.eval oj)(hd: ∀(b:Act) (u:Value),(b.put oi.dst v).put oj.dst u=(b.put oj.dst u).put oi.dst v)
  (h:oj.wp P (a.put oi.dst v) w K (Qn R)):oj.wp P a w (fun a' w'=>(∃d u,a'=({ a with defers:=d }:Act).put oj.dst u)∧K (a'.put oi.dst v) w') (Qn R):=by
 unfold Oper.wp at *;rw[he]at h;generalize (execOp a.eval oj).run P w=r at *;cases r with
 | ok n w'=>
  cases n with
  | value u=>exact⟨⟨a.defers,u,rfl⟩,by rw[←hd];exact h⟩
  | skip=>exact⟨⟨a.defers,undef,rfl⟩,by rw[←hd];exact h⟩
  | defer d=>
   simp only[Oper.upon]at h ⊢;refine⟨⟨d::a.defers,undef,rfl⟩,?_⟩;rw[←hd];have e:({ a.put oi.dst v with defers:=d::(a.put oi.dst v).defers }:Act)=({ a with defers:=d::a.defers }:Act).put oi.dst v:=by cases oi.dst<;>rfl
   rw[e]at h;exact h
  | enter f args=>
   simp only[Oper.upon]at h ⊢;exact Calls.mono h (fun e w'' he=>by
      cases e
      ·exact⟨⟨a.defers,_,rfl⟩,by rw[←hd];exact he⟩
      ·exact absurd he.1 (by simp)
      exact absurd he Qn.out)
  | row r args=>
   simp only[Oper.upon]at h ⊢;exact Rows.mono h (fun u w'' he=>⟨⟨a.defers,u,rfl⟩,by rw[←hd];exact he⟩)
  | _=>simp only[Oper.upon]at h
 | halt x w'=>cases x<;>simp only[Oper.upon]at h ⊢ <;>first | exact h.elim | exact absurd h.1 (by simp)
theorem C6 {i:Nat}{oi:Oper}{v:Value}(hi:ops[i]? =some oi)(hsel: ∀(j:Nat) (o:Oper) cs b,ops[j]? =some o→o.op≠ .select cs b):
  ∀(f:Nat) (done:Array Bool) (S T:World→Prop) (a:Act),(∀x,T x→S x)→(∀x y,T x→g9 [] x y→T y)→
   (∀j oj,ops[j]? =some oj→j≠i→done.getD j true=false→(∀e∈oj.after,Region.binds md e=true→e.on≠i)→oi.apart ops oj=true)→
   i∈Region.ready md ops done→jk P ops S oi v a→(∀x,T x→lX P md ops R f (done.setIfInBounds i true) S (a.put oi.dst v) x)→∀w,T w→lX P md ops R (f+1) done S a w:=by
 have self: ∀(f:Nat) (done:Array Bool) (S T:World→Prop) (a:Act),(∀x,T x→S x)→(∀x y,T x→g9 [] x y→T y)→jk P ops S oi v a→(∀x,T x→lX P md ops R f (done.setIfInBounds i true) S (a.put oi.dst v) x)→∀w,T w→
   wpOp P ops (Qn R) i (fun a' w'=>∃S' T':World→Prop,(∀x,S' x→S x)∧(∀x,T' x→S' x)∧(∀x y,T' x→g9 [] x y→T' y)∧T' w'∧ ∀x,T' x→lX P md ops R f (done.setIfInBounds i true) S' a' x) a w:=fun f done S T a SL Ra hy H w hT=>by
  unfold wpOp;simp only[hi];unfold jk at hy;split
  ·rename_i hw;rw[aZ hw]at hy;left;exact Oper.wp_of_quiet (C:=g9 [] w) (K:=fun a'=>a'=a.put oi.dst v) (g9.refl [] w) (fun a' w' hw' e=>by subst e;exact⟨S,T,fun _ h=>h,SL,Ra,Ra _ _ hT hw',H⟩) ⟨v,fun x hx=>CW (hy x (SL _ (Ra _ _ hT hx))) (fun y hy=>hx.trans hy),rfl⟩
  rename_i hw;rw[aY hw]at hy;subst hy;exact⟨S,T,fun _ h=>h,SL,Ra,hT,H⟩
 intro f
 induction f with
 | zero=>
  intro done S T a SL Ra _ hr hy H w hT;refine⟨fun h=>(by rw[h]at hr;cases hr),fun j hj=>?_⟩;by_cases hji:j=i
  ·subst hji;exact self 0 done S T a SL Ra hy H w hT
  have:=ready_mono hj hji;rw[(H w hT).1]at this;cases this
 | succ f ih=>
  intro done S T a SL Ra hfree hr hy H w hT;have hun:=(mem_ready.1 hr).1;refine⟨fun h=>(by rw[h]at hr;cases hr),fun j hj=>?_⟩;by_cases hji:j=i
  ·subst hji;exact self (f+1) done S T a SL Ra hy H w hT
  obtain⟨hjun,oj,hoj,hall⟩:=mem_ready.1 hj;have hnot: ∀e∈oj.after,Region.binds md e=true→e.on≠i:=fun e he hb heq=>by
   have h1:=hall e he hb;rw[heq,getD_both hun]at h1;cases h1
  obtain⟨h1,h2,h3⟩:=Oper.apart_spec (hfree j oj hoj hji hjun hnot);have hsi: ∀cs b,oi.op≠ .select cs b:=fun cs b=>hsel i oi cs b hi;have hsj: ∀cs b,oj.op≠ .select cs b:=fun cs b=>hsel j oj cs b hoj;have C2: ∀(a:Act),jk P ops S oi v a→∀u,jk P ops S oi v (a.put oj.dst u):=fun a hy u=>
   hy.of_same (execOp_put oi hsi a oj.dst u h3) (wanted_put oi a oj.dst u h3)
  have WD: ∀(a:Act) d,jk P ops S oi v a→jk P ops S oi v { a with defers:=d }:=fun a d hy=>hy;have step: ∀a' w',jk P ops S oi v a'→(∃S' T':World→Prop,(∀x,S' x→S x)∧(∀x,T' x→S' x)∧(∀x y,T' x→g9 [] x y→T' y)∧T' w'∧ ∀x,T' x→lX P md ops R f ((done.setIfInBounds i true).setIfInBounds j true) S' (a'.put oi.dst v) x)→
    ∃S' T':World→Prop,(∀x,S' x→S x)∧(∀x,T' x→S' x)∧(∀x y,T' x→g9 [] x y→T' y)∧T' w'∧ ∀x,T' x→lX P md ops R (f+1) (done.setIfInBounds j true) S' a' x:=fun a' w' hy' ⟨S',T',k1,k2,k3,k4,k5⟩=>by
   refine⟨S',T',k1,k2,k3,k4,ih (done.setIfInBounds j true) S' T' a' k2 k3 (fun k ok hk hki hu hno=>hfree k ok hk hki ?_ hno) (ready_mono hr (Ne.symm hji)) (hy'.mono k1) (fun x hx=>?_)⟩
   ·by_cases hjk:j=k
    ·subst hjk;exact hjun
    rw[getD_set_ne true hjk]at hu;exact hu
   rw[Array.setIfInBounds_comm _ _ hji];exact k5 x hx
  have h0:=(H w hT).2 j (ready_mono hj hji);unfold wpOp at h0 ⊢;simp only[hoj]at h0 ⊢;rw[wanted_put oj a oi.dst v h1]at h0;split
  ·rename_i hw;rw[aZ hw]at h0;rcases h0 with h0 | h0
   ·left;refine Oper.wp_mono (fun a' w' h'=>?_) (RF (execOp_put oj hsj a oi.dst v h1) (fun b u=>Act.put_comm b v u h2) h0);obtain⟨⟨d,u,rfl⟩,h''⟩:=h';exact step _ _ (C2 _ (WD _ _ hy) u) h''
   exact absurd h0.2 Qn.out
  rename_i hw;rw[aY hw]at h0;refine step _ _ (C2 _ hy _) ?_;rw[←Act.put_comm a v undef h2];exact h0
end
section
variable {P:Program} {tb:Tb} {N:Nat}
def O7 (kept:List Nat)(st:St):St:=⟨st.env,st.F,mask kept st.rs,st.nx⟩
theorem uP (kept:List Nat)(rs:RL)(id:Nat):fR (mask kept rs) id=(fR rs id).map fun r=>if kept.contains id then r else ⟨r.gl,[],r.ty,r.cap⟩:=by
 induction rs with
 | nil=>rfl
 | cons p rs ih=>
  obtain⟨m,⟨b,cells,ty,cap⟩⟩:=p;simp only[mask];split
  ·rename_i hc;rw[e8,e8,ih];by_cases h:id=m
   ·subst h;simp only[dC,aJ,hc]
   simp only[aY h]
  rename_i hc;rw[e8,e8,ih];by_cases h:id=m
  ·subst h;simp only[dC,aJ,hc];rfl
  simp only[aY h]
theorem nW (kept:List Nat)(rs:RL)(e:EV):e.val (mask kept rs)=e.val rs:=by
 cases e with
 | v x=>rfl
 | loc id o=>
  simp only[EV.val,uP];cases fR rs id with
  | none=>rfl
  | some r=>simp only[aJ];cases kept.contains id<;>rfl
 | row id o n c=>
  simp only[EV.val,uP];cases fR rs id with
  | none=>rfl
  | some r=>simp only[aJ];cases kept.contains id<;>rfl
theorem m0 {kept:List Nat}{rs:RL}{id:Nat}{r:kj}(h:fR (mask kept rs) id=some r): ∃r0,fR rs id=some r0∧r.gl=r0.gl∧r.ty=r0.ty∧r.cap=r0.cap∧(r.cells=r0.cells∨r.cells=[])∧(r.cells≠[]→id∈kept∧r=r0):=by
 rw[uP,aS]at h;obtain⟨r0,h1,h2⟩:=h;refine⟨r0,h1,?_⟩;subst h2;split
 ·rename_i hc;exact⟨rfl,rfl,rfl,.inl rfl,fun _=>⟨by simpa using hc,rfl⟩⟩
 exact⟨rfl,rfl,rfl,.inr rfl,fun h=>absurd rfl h⟩
theorem Lp {c:Ctx}{g:fa}{st:St}{a:Act}{w:World}(h:fF c N g st a w)(kept:List Nat):fF c N g (O7 kept st) a w where
 size:=h.size
 defers:=h.defers
 fO:={
  le:=h.fO.le
  own:={
   own:=fun id r hr=>by
    obtain⟨r0,h1,h2,h3,h4,h5,_⟩:=m0 hr;have hv:=fun e=>nW kept st.rs e;have h6:=h.fO.own.own id r0 h1;obtain⟨rb,rc,rt,aaq⟩:=r;simp only at h2 h3 h4 h5;subst h2 h3 h4;cases hb:r0.gl with
    | none=>
     rw[hb]at h6;rcases h5 with rfl | rfl
     ·exact h6
     exact⟨.inl rfl,h6.2⟩
    | some b=>
     rw[hb]at h6;obtain⟨g1,g2,cur,g3,g4,g5⟩:=h6;rcases h5 with rfl | rfl
     ·exact⟨g1,g2,cur,g3,g4,fun j ev x hj hx=>g5 j ev x hj (by rw[←hv ev];exact hx)⟩
     exact⟨g1,az _,cur,g3,g4,fun j ev x hj=>by simp at hj⟩
   apart:=fun i j r s b hi hj hr hs=>by
    obtain⟨r0,h1,h2,_⟩:=m0 hi;obtain⟨s0,h3,h4,_⟩:=m0 hj;exact h.fO.own.apart i j r0 s0 b h1 h3 (h2 ▸ hr) (h4 ▸ hs) }
  il:=h.fO.il
  new:=fun id r b hr hb=>by
   obtain⟨r0,h1,h2,h3,h4,h5⟩:=m0 hr;refine h.fO.new id r0 b h1 ?_;rcases hb with hb | ⟨hb,hb0,hb1⟩
   ·exact .inl (h2 ▸ hb)
   rcases h5 with h5 | h5
   ·exact .inr ⟨h2 ▸ hb,h3 ▸ hb0,h5 ▸ hb1⟩
   rw[h5]at hb1;cases hb1
  jT:=h.fO.jT
  sz:=h.fO.sz
  tp:=h.fO.tp }
 gI:={
  sub:=h.gI.sub
  kT:=h.gI.kT
  succ:=fun id r hid hr=>by
   obtain⟨r0,h1,h2,_⟩:=m0 hr;obtain⟨r1,h3,h4⟩:=h.gI.succ id r0 hid h1;exact⟨r1,h3,h4.trans h2.symm⟩ }
 gS:=fun id r hr=>by
  obtain⟨r0,h1,_,_,_,h5,_⟩:=m0 hr;obtain⟨h6,h7⟩:=h.gS id r0 h1;refine⟨h6,fun e he=>?_⟩;rcases h5 with h5 | h5
  ·rw[h5]at he;exact h7 e he
  rw[h5]at he;cases he
 ids:=h.ids
 env:=fun n e x hg he hx=>h.env n e x hg he (by rw[←nW kept];exact hx)
 gv:=fun n ch e hg=>by
  obtain⟨h1,h2,h3,h4⟩:=h.gv n ch e hg;exact⟨fun hA=>⟨fun x hx=>(h1 hA).1 x (by rw[←nW kept];exact hx),(h1 hA).2⟩,h2,h3,h4⟩
theorem NB {c:Ctx}{g g':fa}{env env':Env}{F:Hp}{rs:RL}{nx:Nat}{kept:List Nat}{a a':Act}{w:World}(h:fF c N g ⟨env,F,rs,nx⟩ a w)(h':fF c N g' ⟨env',F,mask kept rs,nx⟩ a' w):fF c N g' ⟨env',F,rs,nx⟩ a' w where
 size:=h'.size
 defers:=h'.defers
 fO:=h.fO
 gI:=h.gI
 gS:=h.gS
 ids:=h'.ids
 env:=fun n e x hg he hx=>h'.env n e x hg he (by rw[nW];exact hx)
 gv:=fun n ch e hg=>by
  obtain⟨h1,h2,h3,h4⟩:=h'.gv n ch e hg;exact⟨fun hA=>⟨fun x hx=>(h1 hA).1 x (by rw[nW];exact hx),(h1 hA).2⟩,h2,h3,h4⟩
theorem Bm {rs rs':RL}: ∀{l:List EV},ED rs rs' l→∀e∈l,e.val rs'=e.val rs
 | [],_,e,he=>by cases he
 | x::l,h,e,he=>by
  rcases aT.1 he with rfl | he
  ·exact h.1
  exact Bm h.2 e he
theorem zs {rs rs':RL}: ∀{kept:List Nat},vA rs rs' kept→∀id∈kept,∀r,fR rs id=some r→fR rs' id=some r∧ ∀e∈r.cells,e.val rs'=e.val rs
 | [],_,id,hid,_,_=>by cases hid
 | k::kept,h,id,hid,r,hr=>by
  rcases aT.1 hid with rfl | hid
  ·have:=h.1;rw[hr]at this;exact⟨this.1,Bm this.2⟩
  exact zs h.2 id hid r hr
theorem O2 {kept:List Nat}{st st':St}(hF:st.F.sub st'.F)(hk:vA st.rs st'.rs kept){x:World}(h:Sw (O7 kept st') x):Sw (O7 kept st) x:=by
 refine⟨fun k o e=>h.1 k o (hF k o e),fun id r b hr hb hne=>?_⟩;obtain⟨r0,h1,_,_,_,_,h6⟩:=m0 (kept:=kept) (rs:=st.rs) hr;obtain⟨hid,rfl⟩:=h6 hne;obtain⟨h2,h3⟩:=zs hk id hid r h1;have h4:fR (mask kept st'.rs) id=some r:=by
  rw[uP,h2,aJ,aZ (by simpa using hid)]
 obtain⟨cur,g1,g2⟩:=h.2 id r b h4 hb hne;refine⟨cur,g1,fun j ev u hj hu=>g2 j ev u hj ?_⟩;simp only[O7,nW]at hu ⊢;rw[h3 ev (cT hj)];exact hu
theorem M1 {c:Ctx}{kept:List Nat}{st:St}{x:World}(h:xd c st.F st.rs x):Sw (O7 kept st) x:=by
 refine⟨h.le,fun id r b hr hb hne=>?_⟩;obtain⟨r0,h1,_,_,_,_,h6⟩:=m0 (kept:=kept) (rs:=st.rs) hr;obtain⟨hid,rfl⟩:=h6 hne;have h2:=h.own.own id r h1;rw[hb]at h2;obtain⟨_,_,cur,h3,_,h4⟩:=h2;exact⟨cur,h3,fun j ev u hj hu=>h4 j ev u hj (by rw[←nW kept];exact hu)⟩
theorem CS (htb:gZ P tb){c:Ctx}{ops:Array Oper}{kept:List Nat}{R:Act→World→Prop}(hsel:Region.noSelect ops=true){KK:fa→St→Prop}{F:Hp}{rs:RL}{nx:Nat}{S:World→Prop}(hS: ∀env x,S x→Sw ⟨env,F,mask kept rs,nx⟩ x)(hT: ∀x,xd c F rs x→S x){f:Nat}:
  ∀(is:List Nat) (l:List Oper) (done:Array Bool) (g:fa) (env:Env) (a:Act),(∀x,xd c F rs x→fF c N g ⟨env,F,rs,nx⟩ a x)→uT .any ops done is=true→SW ops.toList is=some l→dT P tb N true ops.toList l KK g ⟨env,F,mask kept rs,nx⟩→
   (∀g' env' a',(∀x,xd c F rs x→fF c N g' ⟨env',F,rs,nx⟩ a' x)→KK g' ⟨env',F,mask kept rs,nx⟩→∀x,xd c F rs x→lX P .any ops R f (CJ done is) S a' x)→∀x,xd c F rs x→lX P .any ops R (f+is.length) done S a x:=by
 intro is
 induction is with
 | nil=>
  intro l done g env a h _ hl hk H x hx;simp only[SW,aa]at hl;subst hl;exact H g env a h hk x hx
 | cons i is ih=>
  intro l done g env a h hB hl hk H w hw;simp only[SW]at hl;split at hl
  ·rename_i o l' ho hl';simp only[aa]at hl;subst hl;simp only[uT,aL]at hB;obtain⟨⟨hB1,hB2⟩,hB3⟩:=hB;have ho':ops[i]? =some o:=by simpa using ho
   have hi':i∈Region.ready .any ops done:=by simpa using hB1
   have hm:fF c N g ⟨env,F,mask kept rs,nx⟩ a w:=Lp (h w hw) kept;obtain⟨v,g',st',hK,hF,hrs,hnx,h1,h2⟩:=xU htb hm (o:=o) hk;obtain⟨env',F',rs',nx'⟩:=st';simp only at hF hrs hnx;subst hF hrs hnx;obtain⟨v',hv1,hv2⟩: ∃v',jk P ops S o v' a∧fF c N g' ⟨env',F',mask kept rs,nx'⟩ (a.put o.dst v') w:=by
    by_cases hw:Region.wanted o (yielded ops a.tmps)=true
    ·refine⟨v,?_,(h1 hw).2⟩;unfold jk;rw[aZ hw];exact fun x hx=>(h1 hw).1 (g9 [] x) ⟨fun y hy=>(TQ _).il _ _ (hS env x hx) hy,fun y z hy hz=>hy.trans hz⟩ x (g9.refl [] x)
    refine⟨undef,?_,h2 hw⟩;unfold jk;rw[aY hw]
   have hs:=NB (h w hw) hv2;refine C6 (R:=R) ho' (Region.noSelect_spec hsel) (f+is.length) done S (fun x=>xd c F' rs x) a hT (fun x y hx hy=>xd.zB hx hy) (Region.free_spec ho' hB2) hi' hv1 (fun x hx=>?_) w hw;exact ih l' (done.setIfInBounds i true) g' env' _ (fun y hy=>hs.world hy) hB3 hl' hK H x hx
  simp at hl
theorem KQ (htb:gZ P tb){c:Ctx}{ops:Array Oper}{kept:List Nat}{K:St→Prop}(hsel:Region.noSelect ops=true): ∀(m f:Nat) (done:Array Bool) (g:fa) (st:St) (a:Act) (w:World),fF c N g st a w→fq P tb N ops kept K m f done g st→
  lX P .any ops (fun a w=>∃st,Sat c N st a w∧K st) f done (Sw (O7 kept st)) a w:=by
 have stop: ∀{g:fa} {st:St} {a:Act} {w:World},fF c N g st a w→VS N [] st K→∃st,Sat c N st a w∧K st:=fun h hv=>by
  obtain⟨st',h1,h2⟩:=hv c _ _ h.drop;exact⟨st',h1,h2⟩
 intro m
 induction m with
 | zero=>intro f done g st a w h hk;exact hk.elim
 | succ m ih=>
  intro f done g st a w h hk;rcases hk with⟨hr,hv⟩ | ⟨f',is,l,rfl,hB,hl,hk⟩ | ⟨f',rfl,hne,hk⟩
  ·cases f with
   | zero=>exact⟨hr,stop h hv⟩
   | succ f=>exact⟨fun _=>stop h hv,fun i hi=>by rw[hr]at hi;cases hi⟩
  ·obtain⟨env,F,rs,nx⟩:=st;refine CS htb (kept:=kept) hsel (S:=Sw (O7 kept ⟨env,F,rs,nx⟩)) (fun env' x hx=>hx) (fun x hx=>M1 (st:=⟨env,F,rs,nx⟩) hx) is l done g env a (fun x hx=>h.world hx) hB hl hk (fun g' env' a' hs hk' x hx=>?_) w h.fO;exact ih f' _ g' ⟨env',F,rs,nx⟩ a' x (hs x hx) hk'
  refine⟨fun h0=>absurd h0 hne,fun i hi=>?_⟩;obtain⟨o,ho,hk⟩:=hk i hi;have key:=yz htb h (ops:=ops) (o:=o) (Q:=Qn (fun a w=>∃st,Sat c N st a w∧K st)) (K':=fun a' w'=>∃S' T':World→Prop,(∀x,S' x→Sw (O7 kept st) x)∧(∀x,T' x→S' x)∧(∀x y,T' x→g9 [] x y→T' y)∧T' w'∧ ∀x,T' x→lX P .any ops (fun a w=>∃st,Sat c N st a w∧K st) f' (done.setIfInBounds i true) S' a' x) (fun g' st' a' w' h1 h2=>by
    obtain⟨h3,h4⟩:=h2;exact⟨Sw (O7 kept st'),C c st',fun x hx=>O2 (h3.1) h3.2 hx,fun x hx=>M1 hx,fun x y hx hy=>xd.zB hx hy,h1.fO,fun x hx=>ih _ _ g' st' a' x (h1.world hx) h4⟩) hk
  unfold wpOp;simp only[ho];split
  ·rename_i hw;exact .inl (key.1 hw)
  rename_i hw;exact key.2 hw
end
end
section
variable {P:Program} {tb:Tb} {N:Nat}
theorem mr (htb:gZ P tb)(hm:P.follows .mixedOrders=true)(c:Ctx): ∀(code:Code) (K:Exit→St→Prop) (st:St) (a:Act) (w:World),Sat c N st a w→vc P tb N code K st→code.wp P (lift c N K) a w
 | .skip,K,st,a,w,h,hk=>wp_skip ⟨st,h,hk⟩
 | .ret,K,st,a,w,h,hk=>wp_ret ⟨st,h,hk⟩
 | .exit id,K,st,a,w,h,hk=>wp_exit ⟨st,h,hk⟩
 | .seq x y,K,st,a,w,h,hk=>by
  refine wp_seq (wp_mono (mr htb hm c x _ st a w h hk) ?_);rintro e a' w' ⟨st',h',hk'⟩;cases e with
  | normal=>exact mr htb hm c y K st' a' w' h' hk'
  | _=>exact⟨st',h',hk'⟩
 | .block id x,K,st,a,w,h,hk=>by
  refine wp_block (wp_mono (mr htb hm c x _ st a w h hk) ?_);rintro e a' w' ⟨st',h',hk'⟩;cases e with
  | exit j=>
   simp only[Exit.inBlock];simp only[fc]at hk';by_cases hj:j=id
   ·subst hj;simp only[beq_self_eq_true,DE]at hk';simp only[dC];exact⟨st',h',hk'⟩
   rw[show (j==id)=false by simpa using hj]at hk';simp only[DE]at hk';rw[aY hj];exact⟨st',h',hk'⟩
  | _=>exact⟨st',h',hk'⟩
 | .cond o x y,K,st,a,w,h,hk=>by
  simp only[vc]at hk;cases ho:gL st.rs [] st.env [] o with
  | none=>simp[ho,I4]at hk
  | some e=>
   have e1:=gO h (iR a) _ _ ho;cases e with
   | v u=>
    cases u with
    | bool b=>
     simp only[EV.val,aa]at e1;cases b with
     | true=>
      rw[ho]at hk;exact wp_cond_true e1.symm (mr htb hm c x K st a w h hk)
     | false=>
      rw[ho]at hk;exact wp_cond_false e1.symm (mr htb hm c y K st a w h hk)
    | _=>simp[ho,I4]at hk
   | _=>simp[ho,I4]at hk
 | .loop x,K,st,a,w,h,hk=>by
  obtain⟨ι,T,μ,h0,hr⟩:=hk;obtain⟨st0,hs0,i,rfl⟩:=h0 c a w h;refine wp_loop_ghost (fun n a w=>∃i,μ i=n∧Sat c N (T i) a w) (μ i) ⟨i,rfl,hs0⟩ ?_;rintro n a w ⟨i,rfl,hs⟩;refine wp_mono (mr htb hm c x _ (T i) a w hs (hr i)) ?_;rintro e a' w' ⟨st',h',hk'⟩;cases e with
  | normal=>
   obtain⟨st2,h2,j,rfl,hlt⟩:=hk' c a' w' (Nat.le_min.2 ⟨h.gI.kT,hs.gI.kT⟩) h';exact⟨μ j,hlt,j,rfl,h2⟩
  | ret=>
   obtain⟨st2,h2,h3⟩:=hk' c a' w' h';exact⟨st2,h2,h3⟩
  | exit j=>
   obtain⟨st2,h2,h3⟩:=hk' c a' w' h';exact⟨st2,h2,h3⟩
  | _=>exact⟨st',h',hk'⟩
 | .region id ops dr,K,st,a,w,h,hk=>by
  obtain⟨st,h,hk⟩:=hk c a w h;have mono: ∀{ops:Array Oper} (l:List Oper) (a:Act) {Q Q':Act→Prop},(∀a,Q a→Q' a)→wpQuiet P ops (C c st) Q l a→wpQuiet P ops (C c st) Q' l a:=by
   intro ops l
   induction l with
   | nil=>intro a Q Q' hq h;exact hq _ h
   | cons o l ih=>
    intro a Q Q' hq h;unfold wpQuiet at h ⊢;split
    ·rename_i hw;rw[aZ hw]at h;exact Oper.quiet_mono (fun a' h'=>ih a' hq h') h
    rename_i hw;rw[aY hw]at h;exact ih _ hq h
  have Oj:C c st { w with drawn:=w.drawn+1 }:=xd.zB h.fO (g9.drewN [] w 1);have fin: ∀g st a w,fF c N g st a w→fx (K .normal) g st→lift c N K .normal a w:=fun g st a w hs hk=>⟨st,hs.drop,hk⟩;rcases hk with⟨h1,h2⟩ | ⟨n,hB,h2⟩ | ⟨rfl,hsel,kept,hk⟩ | hk
  ·cases dr with
   | false=>exact wp_region_list (rW htb fin _ _ _ _ _ h h2)
   | true=>
    have h3:=so htb ops.toList [] st a w h h2;refine wp_region_quiet (C:=C c st) hm (h1 rfl) Oj ?_;exact mono _ _ (fun a' ⟨g',st',hk',hs'⟩ w' hw'=>fin _ _ _ _ (hs' w' hw') hk') h3
  ·obtain⟨l⟩:=ops;have h3:=so htb (ops:=l.toArray) (l.take n) [] st a w h h2;cases dr with
   | false=>
    refine wp_region_list ?_;have key: ∀(l1 l2:List Oper) (a:Act) (w:World) {G:Act→Prop},C c st w→wpQuiet P l.toArray (C c st) G l1 a→
      (∀a' w',C c st w'→G a'→wpList P l.toArray (lift c N K) l2 a' w')→wpList P l.toArray (lift c N K) (l1++l2) a w:=by
     intro l1
     induction l1 with
     | nil=>intro l2 a w G hw h1 h2;exact h2 a w hw h1
     | cons o l1 ih=>
      intro l2 a w G hw h1 h2;rw[bV];unfold wpQuiet at h1;unfold wpList;split
      ·rename_i hwt;rw[aZ hwt]at h1;exact .inl (Oper.wp_of_quiet hw (fun a' w' hw' h'=>ih l2 a' w' hw' h' h2) h1)
      rename_i hwt;rw[aY hwt]at h1;exact ih l2 _ w hw h1 h2
    have:=key (l.take n) (l.drop n) a w h.fO h3 (fun a' w' hw' ⟨g',st',h4,h5⟩=>rW htb (ops:=l.toArray) fin _ _ _ _ _ (h5 w' hw').drop h4)
    rwa [List.take_append_drop]at this
   | true=>
    refine yQ (C:=C c st) n hm hB Oj ?_;exact mono _ _ (fun a' ⟨g',st',h4,h5⟩ w' hw'=>rW htb (ops:=l.toArray) fin _ _ _ _ _ (h5 w' hw').drop h4) h3
  ·refine wp_region_any hm ?_;have:=KQ htb (c:=c) (K:=K .normal) hsel (ops.size+1) ops.size (Array.replicate ops.size false) [] st a _ (h.world Oj) hk;exact lX.any (fun a w ⟨st',h1,h2⟩=>⟨st',h1,h2⟩) _ _ _ _ _ this
  have h4:=hk c a w h;cases dr with
  | false=>exact wp_region_list h4
  | true=>exact wp_region_any hm h4
 | .rangeFunc _ _ _ _,_,_,_,_,_,hk=>hk.elim
 | .scope _,_,_,_,_,_,hk=>hk.elim
 | .label _,_,_,_,_,_,hk=>hk.elim
 | .goto _,_,_,_,_,_,hk=>hk.elim
 | .refuse _,_,_,_,_,_,hk=>hk.elim
def vb (tmps:Array Value):ResultVar→Sem Value
 | .tmp t=>Pure.pure (tmps.getD t undef)
 | .cell ad t=>do loadVar t (←asAddr (tmps.getD ad undef))
theorem qS (htb:gZ P tb){c:Ctx}{st:St}{a:Act}{w:World}(h:Sat c N st a w): ∀(l:List ResultVar) (xs:List Value),nC tb st l=some xs→
  (l.mapM (m:=Sem) (vb a.tmps)).run P w= .ok xs w
 | [],xs,hx=>by simp only[nC,aa]at hx;subst hx;rfl
 | .tmp t::l,xs,hx=>by
  simp only[nC]at hx;split at hx
  ·rename_i e he;split at hx
   ·rename_i x ys hv hy;simp only[aa]at hx;subst hx;have ih:=qS htb h l ys hy;have:=h.env t e x rfl he hv;rw[List.mapM_cons];simp only[vb,run_bind,run_pure,this,ih]
   simp at hx
  simp at hx
 | .cell ad t::l,xs,hx=>by
  simp only[nC]at hx;split at hx
  ·rename_i id off i he0 hi;obtain⟨he,hal⟩:lk st.env ad=some (.loc id off)∧ ∃x,(EV.loc id off).val st.rs=some x:=by
    cases hl:lk st.env ad with
    | none=>rw[hl]at he0;simp[oP]at he0
    | some e0=>
     rw[hl]at he0;obtain⟨h1,h2⟩:=ma he0;exact⟨by rw[h1],by rw[h1];exact h2⟩
   split at hx
   ·rename_i r ys hr hy;have hbn: ∃b,r.gl=some b:=by
     obtain⟨x,hx⟩:=hal;simp only[EV.val,hr]at hx;split at hx
     ·rename_i b hb;exact⟨b,hb⟩
     simp at hx
    have ih:=qS htb h l ys hy;have key: ∀b v,r.gl=some b→(loadVar t ⟨b,off,none⟩).run P w= .ok v w→((ResultVar.cell ad t::l).mapM (m:=Sem) (vb a.tmps)).run P w= .ok (v::ys) w:=fun b v hb hl=>by
     have hv:(EV.loc id off).val st.rs=some (.pointer (some ⟨b,off,none⟩)):=by simp only[EV.val,hr,hb]
     have:=h.env ad _ _ rfl he hv;rw[List.mapM_cons];simp only[vb,run_bind,this,asAddr,run_pure,hl,ih]
    have la: ∀{b:Nat} {v:Value},(Instr.loadAt t (.pointer (some ⟨b,off,none⟩))).run P w= .ok v w→(loadVar t ⟨b,off,none⟩).run P w= .ok v w:=fun {b v} hl=>by
     simpa only[Instr.loadAt,Instr.sureAddr,run_bind,run_pure] using hl
    split at hx
    ·rename_i ha;split at hx
     ·rename_i cs hcs;split at hx
      ·rename_i hle;simp only[aa]at hx;subst hx;obtain⟨hl,hcells⟩:=oZ hcs;obtain⟨b,hb⟩:=hbn;refine key b _ hb (la ?_);refine nL htb hi ha (by rw[hl];simp;omega) fun j v hj=>?_;obtain⟨e',he',hv⟩:=hcells j v hj;rw[mB];refine h.fO.own.cell hr hb ?_ hv;rw[cu,cB]at he';split at he'
       ·exact he'
       simp at he'
      simp at hx
     simp at hx
    rename_i ha;have ha':i.kind.agg=false:=by simpa using ha
    split at hx
    ·rename_i e' he';split at hx
     ·rename_i x hv;simp only[aa]at hx;subst hx;obtain⟨b,hb⟩:=hbn;exact key b _ hb (la (nn htb hi ha' (h.fO.own.cell hr hb he' hv)))
     simp at hx
    simp at hx
   simp at hx
  simp at hx
theorem ql (htb:gZ P tb){c:Ctx}{st:St}{a:Act}{w:World}(h:Sat c N st a w){fn:Func}{xs:List Value}(hx:nC tb st fn.results.toList=some xs):(results fn a.tmps).run P w= .ok (gE xs) w:=by
 have h1:=qS htb h _ _ hx;have h2:(fn.results.mapM (m:=Sem) (vb a.tmps)).run P w= .ok xs.toArray w:=by
  rw[Array.mapM_eq_mapM_toList,←bind_pure_comp,run_bind,h1];rfl
 have e:results fn a.tmps=(do let vs←fn.results.mapM (m:=Sem) (vb a.tmps);Pure.pure (if h:vs.size=1 then vs[0] else .tuple vs)):=by
  unfold results;congr 1
 rw[e,run_bind,h2];show Result.ok _ w=_;congr 1
 match xs with
 | []=>rfl
 | [x]=>rfl
 | x::y::t=>rfl
def mG:Nat→List Value→Env
 | _,[]=>[]
 | k,x::xs=>(k,.v x)::mG (k+1) xs
theorem rA: ∀(xs:List Value)(k n:Nat)(e:EV),lk (mG k xs) n=some e→k≤n∧ ∃x,xs[n - k]? =some x∧e= .v x
 | [],k,n,e,h=>by simp[mG,lk]at h
 | x::xs,k,n,e,h=>by
  simp only[mG,kS]at h;split at h
  ·rename_i hn;subst hn;simp only[aa]at h;exact⟨ah _,x,by simp,h.symm⟩
  rename_i hn;obtain⟨h1,y,h2,h3⟩:=rA xs (k+1) n e h;refine⟨by omega,y,?_,h3⟩;have:n - k=(n - (k+1))+1:=by omega
  rw[this,List.getElem?_cons_succ];exact h2
theorem A5 {args:List Value}{N:Nat}(hN:args.length≤N){F:Hp}{w:World}(hF:F.le w):
  Sat ⟨w,F,F,[],0,0⟩ N ⟨mG 0 args,F,[],0⟩ { tmps:=args.toArray++Array.replicate (N - args.toArray.size) undef,defers:=[] } w where
 size:=by simp;omega
 defers:=rfl
 fO:={
  le:=hF
  own:={ own:=fun id r h=>by simp[fR]at h,apart:=fun i j r s b h=>by simp[fR]at h }
  il:=g9.refl _ _
  new:=fun id r b h=>by simp[fR]at h
  jT:=fun k h=>.inl h
  sz:=az _
  tp:=fun k hk=>by
   have hk':w.heap.size≤k:=hk;constructor<;>exact Option.eq_none_iff_forall_ne_some.2 (fun o ho=>by have:=hF k o ho;have:=gJ this;omega) }
 gI:=⟨Hp.sub.refl F,ah _,fun id r _ h=>by simp[fR]at h⟩
 gS:=fun id r h=>by simp[fR]at h
 ids:=fun n e h=>by
  obtain⟨_,x,_,rfl⟩:=rA _ _ _ _ h;trivial
 env:=fun n e x _ h hx=>by
  obtain⟨_,y,h2,rfl⟩:=rA _ _ _ _ h;simp only[EV.val,aa]at hx;subst hx;simp only[Nat.sub_zero]at h2;rw[Array.getD_eq_getD_getElem?,Array.getElem?_append_left (by have:=(cz.1 h2).1;simpa using this)];simp[h2]
 gv:=fun n ch e h=>by simp[rp]at h
theorem Fq (htb:gZ P tb)(hm:P.follows .mixedOrders=true){f:FuncId}{fn:Func}{code:Code}(hf:P.funcs[f]? =some fn)(hb:fn.body=some code){args:List Value}(hN:Nat.ble args.length fn.ntmps=true){F:Hp}{x:Value}
  (h:vc P tb fn.ntmps code (gC tb fn.results.toList (fun v=>v=x)) ⟨mG 0 args,F,[],0⟩):Plain P F f args x:=by
 intro w hF;have hN':args.length≤fn.ntmps:=by simpa using hN
 refine calls_of_wp hf hb ?_;refine wp_mono (mr htb hm ⟨w,F,F,[],0,0⟩ code _ _ _ w (A5 hN' hF) h) ?_;rintro e a' w' ⟨st,hs,hk⟩;have key:Dv (fun v=>v=x) (nC tb st fn.results.toList)→a'.defers=[]∧ ∃v,(results fn a'.tmps).run P w'= .ok v w'∧(Ending.returned v= .returned x∧g9 [] w w'):=fun hk=>by
  cases hr:nC tb st fn.results.toList with
  | none=>simp[hr,Dv]at hk
  | some xs=>
   rw[hr]at hk;simp only[Dv]at hk;exact⟨hs.defers,_,ql htb hs hr,by rw[hk],hs.fO.il⟩
 cases e with
 | normal=>exact key hk
 | ret=>exact key hk
 | _=>exact hk.elim
theorem Hr (htb:gZ P tb)(hm:P.follows .mixedOrders=true){f:FuncId}{fn:Func}{code:Code}(hf:P.funcs[f]? =some fn)(hb:fn.body=some code){args:List Value}(hN:Nat.ble args.length fn.ntmps=true){F:Hp}{Q:Value→Hp→RL→Prop}
  (h:vc P tb fn.ntmps code (gG fn.ntmps tb fn.results.toList Q) ⟨mG 0 args,F,[],0⟩):eu P F f args Q:=by
 intro w hF;have hN':args.length≤fn.ntmps:=by simpa using hN
 refine calls_of_wp hf hb ?_;refine wp_mono (mr htb hm ⟨w,F,F,[],0,0⟩ code _ _ _ w (A5 hN' hF) h) ?_;rintro e a' w' ⟨st,hs,hk⟩;have key:(qN 0 fn.ntmps [] st fun st'=>∃xs,nC tb st' fn.results.toList=some xs∧Q (gE xs) st'.F st'.rs)→a'.defers=[]∧ ∃v,(results fn a'.tmps).run P w'= .ok v w'∧ ∃x F' new,Ending.returned v= .returned x∧F.sub F'∧F'.le w'∧g9 [] w w'∧PR F F' w.heap.size∧
   nu F' new w'∧(∀id r b,fR new id=some r→r.at b→w.heap.size≤b)∧Q x F' new:=fun hk=>by
  obtain⟨st',hs',xs,hr,hq⟩:=hk _ a' w' (ah 0) hs;refine⟨hs'.defers,_,ql htb hs' hr,_,st'.F,st'.rs,rfl,hs'.gI.sub,hs'.fO.le,hs'.fO.il,hs'.fO.jT,hs'.fO.own,fun id r b h1 h2=>hs'.fO.new id r b h1 h2,hq⟩
 cases e with
 | normal=>exact key hk
 | ret=>exact key hk
 | _=>exact hk.elim
def q7:Nat→List EV→Env
 | _,[]=>[]
 | k,x::xs=>(k,x)::q7 (k+1) xs
theorem vP: ∀(xs:List EV)(k n:Nat)(e:EV),lk (q7 k xs) n=some e→k≤n∧xs[n - k]? =some e
 | [],k,n,e,h=>by simp[q7,lk]at h
 | x::xs,k,n,e,h=>by
  simp only[q7,kS]at h;split at h
  ·rename_i hn;subst hn;simp only[aa]at h;exact⟨ah _,by simp[h]⟩
  rename_i hn;obtain⟨h1,h2⟩:=vP xs (k+1) n e h;refine⟨by omega,?_⟩;have:n - k=(n - (k+1))+1:=by omega
  rw[this,List.getElem?_cons_succ];exact h2
theorem xX {rs:RL}: ∀{l:List EV} {xs:List Value},iU rs l=some xs→∀(j:Nat) (e:EV),l[j]? =some e→∃x,xs[j]? =some x∧e.val rs=some x
 | [],_,_,j,e,h=>by simp at h
 | e0::l,xs,h,j,e,hj=>by
  simp only[iU]at h;split at h
  ·rename_i x ys hx hy;simp only[aa]at h;subst h;cases j with
   | zero=>simp only[cr,aa]at hj;subst hj;exact⟨x,rfl,hx⟩
   | succ j=>exact xX hy j e (by simpa using hj)
  simp at h
theorem wj {rs:RL}: ∀{l:List EV} {xs:List Value},iU rs l=some xs→xs.length=l.length
 | [],xs,h=>by simp only[iU,aa]at h;subst h;rfl
 | e0::l,xs,h=>by
  simp only[iU]at h;split at h
  ·rename_i x ys hx hy;simp only[aa]at h;subst h;simp[wj hy]
  simp at h
theorem OI (htb:gZ P tb){c:Ctx}{st:St}{a:Act}{w:World}(h:Sat c N st a w){fn:Func}{e:EV}(hx:yR tb st fn.results.toList=some e): ∃x,(results fn a.tmps).run P w= .ok x w∧e.val st.rs=some x∧e.lt st.nx:=by
 unfold yR at hx;split at hx
 ·rename_i t ht;unfold oP at hx;split at hx
  ·rename_i e0 he;obtain⟨rfl,x,hv⟩:=ma hx;refine⟨x,?_,hv,h.ids t _ he⟩;have:nC tb st fn.results.toList=some [x]:=by rw[ht];simp only[nC,he,hv]
   exact ql htb h this
  simp at hx
 rename_i l _;split at hx
 ·rename_i xs hr;simp only[aa]at hx;subst hx;exact⟨gE xs,ql htb h hr,rfl,trivial⟩
 simp at hx
theorem tQ (htb:gZ P tb)(hm:P.follows .mixedOrders=true){f:FuncId}{fn:Func}{code:Code}(hf:P.funcs[f]? =some fn)(hb:fn.body=some code){args:List EV}(hN:Nat.ble args.length fn.ntmps=true){F:Hp}{rs:RL}{nx:Nat}{Q:EV→Hp→RL→Nat→Prop}
  (h:vc P tb fn.ntmps code (gw fn.ntmps tb fn.results.toList Q) ⟨q7 0 args,F,rs,nx⟩):eR P F rs nx f args Q:=by
 intro c w hw hh hr h2 h3 xs hxs;have hN':args.length≤fn.ntmps:=by simpa using hN
 have hl:=wj hxs;refine calls_of_wp hf hb ?_;have hs0:Sat c fn.ntmps ⟨q7 0 args,F,rs,nx⟩ { tmps:=xs.toArray++Array.replicate (fn.ntmps - xs.toArray.size) undef,defers:=[] } w:={
  size:=by simp;omega
  defers:=rfl
  fO:=hw
  gI:=hh
  gS:=hr
  ids:=fun n e he=>by
   obtain⟨_,h5⟩:=vP _ _ _ _ he;obtain⟨x,_,h7⟩:=xX hxs _ _ h5;exact mU (fun id r hr'=>(hr id r hr').1) h7
  env:=fun n e x _ he hx=>by
   obtain⟨_,h5⟩:=vP _ _ _ _ he;obtain⟨y,h6,h7⟩:=xX hxs _ _ h5;simp only[Nat.sub_zero]at h6;simp only at hx;rw[h7]at hx;simp only[aa]at hx;subst hx;rw[Array.getD_eq_getD_getElem?,Array.getElem?_append_left (by have:=(cz.1 h6).1;simpa using this)];simp[h6]
  gv:=fun n ch e he=>by simp[rp]at he }
 refine wp_mono (mr htb hm c code _ _ _ w hs0 h) ?_;rintro e a' w' ⟨st,hs,hk⟩;have key:(VS fn.ntmps [] st fun st'=>∃e,yR tb st' fn.results.toList=some e∧Q e st'.F st'.rs st'.nx)→a'.defers=[]∧ ∃v,(results fn a'.tmps).run P w'= .ok v w'∧ ∃x ev F' rs' nx',Ending.returned v= .returned x∧xd c F' rs' w'∧BR c F' rs' nx'∧(∀id r,fR rs' id=some r→id<nx'∧ ∀e∈r.cells,e.lt nx')∧ev.lt nx'∧ev.val rs'=some x∧Q ev F' rs' nx':=fun hk=>by
  obtain⟨st',hs',ev,hr,hq⟩:=hk _ a' w' hs;obtain⟨x,g1,g2,g3⟩:=OI htb hs' hr;exact⟨hs'.defers,x,g1,x,ev,st'.F,st'.rs,st'.nx,rfl,hs'.fO,hs'.gI,hs'.gS,g3,g2,hq⟩
 cases e with
 | normal=>exact key hk
 | ret=>exact key hk
 | _=>exact hk.elim
end
section
section
variable {P:Program} {tb:Tb} {N:Nat} {dr:Bool} {all rest:List Oper} {K:fa→St→Prop} {KK:Exit→St→Prop} {g:fa} {st:St}
theorem vS {f:FuncId}{args:List Value}{x:Value}{d:Option Nat}{K:fa→St→Prop}{env:Env}{F:Hp}{rs:RL}{nx:Nat}(hp:Plain P F f args x)(hk:ig N [] d (.v x) K g ⟨env,F,rs,nx⟩):CD P N f args d K g ⟨env,F,rs,nx⟩:=by
 refine VS.id ⟨fun v F' new=>v=x∧F'=F∧new=[],fun w hF=>?_,?_⟩
 ·refine (hp w hF).mono fun e w' ⟨he,hpr⟩=>⟨x,F,[],he,Hp.sub.refl F,hF.il hpr (by simp),hpr,fun k hk=>.inl hk,⟨fun id r h=>by simp[fR]at h,fun i j r s b h=>by simp[fR]at h⟩,fun id r b h=>by simp[fR]at h,rfl,rfl,rfl⟩
 rintro v F' new _ ⟨rfl,rfl,rfl⟩;exact⟨0,.v v,fun id r h=>by simp[fR]at h,rfl,hk⟩
theorem dG {d:Nat}{f:Operand}{args:Array Operand}{ts:Array TypeId}{n:FuncId}{first captured:Array Value}{xs ys:List Value}{ty:TypeId}{pos:String}{af:Array Edge}{env:Env}{F:Hp}{rs:RL}{nx:Nat}(x:Value)
  (hf:gL rs [] env [] f=some (.v (.func (.func n) first captured))) (hx:su rs (gL rs [] env []) args.toList=some xs) (hy':iq (first.toList++xs++captured.toList)=some ys) (hb:dH P n) (hd:Nat.blt d N=true) (hp:Plain P F n ys x)
  (k:dT P tb N dr all rest K [] ⟨(d,.v x)::env,F,rs,nx⟩):dT P tb N dr all (⟨some d,.call ⟨.value f,args,ts⟩,ty,pos,af,none⟩::rest) K [] ⟨env,F,rs,nx⟩:=by
 have hd':d<N:=by simpa using hd
 rw[fB,aa]at hy';subst hy';refine .inl ?_;simp only[nI,hf,hx,lW];refine⟨hb,?_⟩;have hput:ig N [] (some d) (.v x) (dT P tb N dr all rest K) [] ⟨env,F,rs,nx⟩:=by simp only[ig];exact⟨hd',k⟩
 cases dr with
 | true=>exact⟨x,hp,hput⟩
 | false=>exact vS hp hput
theorem gi {d j:Nat}{want:Bool}{f:Operand}{args:Array Operand}{ts:Array TypeId}{n:FuncId}{first captured:Array Value}{xs ys:List Value}{ty:TypeId}{pos:String}{af:Array Edge}{env:Env}{F:Hp}{rs:RL}{nx:Nat}{c:Nat×Bool×Bool}{ch:gq}(x:Value)
  (hg:ny all g env j want=some (c::ch)) (hf:gL rs g env (c::ch) f=some (.v (.func (.func n) first captured))) (hx:su rs (gL rs g env (c::ch)) args.toList=some xs) (hy':iq (first.toList++xs++captured.toList)=some ys) (hb:dH P n) (hd:Nat.blt d N=true) (hc:(ik d g&&nw d env)=true)
  (hp:gP (c::ch)→Plain P F n ys x)
  (k:dT P tb N dr all rest K ((d,c::ch,.v x)::g) ⟨env,F,rs,nx⟩):dT P tb N dr all (⟨some d,.call ⟨.value f,args,ts⟩,ty,pos,af,some (j,want)⟩::rest) K g ⟨env,F,rs,nx⟩:=by
 have hd':d<N:=by simpa using hd
 rw[fB,aa]at hy';subst hy';refine ld (st:=⟨env,F,rs,nx⟩) hg ?_;simp only[nI,hf,hx,lW];refine⟨hb,?_⟩;have hput:ig N (c::ch) (some d) (.v x) (dT P tb N dr all rest K) g ⟨env,F,rs,nx⟩:=by simp only[ig];exact⟨hd',hc,k⟩
 cases dr with
 | true=>exact⟨x,hp,hput⟩
 | false=>exact⟨x,hp,hput⟩
theorem fr {d:Nat}{t:TypeId}{a:Operand}{ty:TypeId}{pos:String}{af:Array Edge}{env:Env}{F:Hp}{rs:RL}{nx:Nat}{i:TI}{p:Option Addr}(x:Value)(hi:tb t=some i)(ha:i.kind.agg=false)(hp:gL rs [] env [] a=some (.v (.pointer p)))(hd:Nat.blt d N=true)(hx:gb F p=some x)
  (k:dT P tb N dr all rest K [] ⟨(d,.v x)::env,F,rs,nx⟩):dT P tb N dr all (⟨some d,.load t a,ty,pos,af,none⟩::rest) K [] ⟨env,F,rs,nx⟩:=by
 have hd':d<N:=by simpa using hd
 refine .inl ?_;simp only[nI,hi,hp,oo,ha,yE,Aj,ig];exact⟨x,hx,hd',k⟩
theorem sg {d j:Nat}{want:Bool}{t:TypeId}{a:Operand}{ty:TypeId}{pos:String}{af:Array Edge}{env:Env}{F:Hp}{rs:RL}{nx:Nat}{i:TI}{p:Option Addr}{c:Nat×Bool×Bool}{ch:gq}(x:Value)(hg:ny all g env j want=some (c::ch))(hi:tb t=some i)(ha:i.kind.agg=false)
  (hp:gL rs g env (c::ch) a=some (.v (.pointer p))) (hd:Nat.blt d N=true) (hc:(ik d g&&nw d env)=true) (hx:gP (c::ch)→gb F p=some x)
  (k:dT P tb N dr all rest K ((d,c::ch,.v x)::g) ⟨env,F,rs,nx⟩):dT P tb N dr all (⟨some d,.load t a,ty,pos,af,some (j,want)⟩::rest) K g ⟨env,F,rs,nx⟩:=by
 have hd':d<N:=by simpa using hd
 refine ld (st:=⟨env,F,rs,nx⟩) hg ?_;simp only[nI,hi,hp,oo,ha,yE,Aj,ig];exact⟨x,hx,hd',hc,k⟩
theorem fy {d:Nat}{t:TypeId}{a:Operand}{ty:TypeId}{pos:String}{af:Array Edge}{env:Env}{F:Hp}{rs:RL}{nx:Nat}{i:TI}{p:Option Addr}(cs:List Value)(hi:tb t=some i)(ha:i.kind.agg=true)(hp:gL rs [] env [] a=some (.v (.pointer p)))(hd:Nat.blt d N=true)(hl:cs.length=i.size)
  (hs:p.isSome=true) (hx: ∀j,j<i.size→gb F (im p j)=cs[j]?)
  (k:dT P tb N dr all rest K [] ⟨(d,.v (.agg cs.toArray))::env,F,rs,nx⟩):dT P tb N dr all (⟨some d,.load t a,ty,pos,af,none⟩::rest) K [] ⟨env,F,rs,nx⟩:=by
 have hd':d<N:=by simpa using hd
 refine .inl ?_;simp only[nI,hi,hp,oo,ha,yE,Aj,ig];exact⟨cs,hl,⟨hs,hx⟩,hd',k⟩
def U8:List (Nat×TI)→Tb
 | [],_=>none
 | (m,i)::t,n=>match Nat.beq n m with
  | true=>some i
  | false=>U8 t n
def QM (P:Program):List (Nat×TI)→Prop
 | []=>True
 | (m,i)::t=>i.ok P m∧QM P t
theorem N6: ∀{l:List (Nat×TI)},QM P l→gZ P (U8 l)
 | [],_,t,i,h=>by simp[U8]at h
 | (m,j)::l,h0,t,i,h=>by
  simp only[U8]at h;split at h
  ·rename_i hb;simp only[aa]at h;subst h;have:=dg hb;subst this;exact h0.1
  exact N6 h0.2 t i h
def qU (rs rs':RL)(env:Env):Env→Prop
 | []=>True
 | (n,e)::t=>(∃e' x,lk env n=some e'∧e'.val rs=some x∧e.val rs'=some x)∧qU rs rs' env t
theorem fN {rs rs':RL}{env:Env}: ∀{l:Env},(l.map fun p=>(lk env p.1).bind (EV.val rs))=(l.map fun p=>EV.val rs' p.2)→(l.all fun p=>(EV.val rs' p.2).isSome)=true→qU rs rs' env l
 | [],_,_=>trivial
 | (n,e)::t,h,k=>by
  simp only[a9,bU]at h;simp only[List.all_cons,aL]at k;obtain⟨x,hx⟩:=Option.isSome_iff_exists.1 k.1;have h1:=h.1;rw[hx]at h1;obtain⟨e',h2,h3⟩:=Option.bind_eq_some_iff.1 h1;exact⟨⟨e',x,h2,h3,hx⟩,fN h.2 k.2⟩
theorem qU.lk {rs rs':RL}{env:Env}: ∀{env':Env},qU rs rs' env env'→∀n e,lk env' n=some e→∃e' x,Go.TR.lk env n=some e'∧e'.val rs=some x∧e.val rs'=some x
 | [],_,n,e,h=>by simp[Go.TR.lk]at h
 | (m,v)::t,hs,n,e,h=>by
  rw[kS]at h;split at h
  ·rename_i hn;simp only[aa]at h;subst hn h;exact hs.1
  exact qU.lk hs.2 n e h
theorem VS.env {env env':Env}{F:Hp}{rs:RL}{nx:Nat}{G:St→Prop}(h:qU rs rs env env')(k:G ⟨env',F,rs,nx⟩):VS N [] ⟨env,F,rs,nx⟩ G:=by
 intro c a w hs;refine⟨_,?_,k⟩;exact {
  size:=hs.size
  defers:=hs.defers
  fO:=hs.fO
  gI:=hs.gI
  gS:=hs.gS
  ids:=fun n e he=>by
   obtain⟨e',x,h1,h2,h3⟩:=h.lk n e he;exact mU (fun id r hr=>(hs.gS id r hr).1) h3
  env:=fun n e x _ he hx=>by
   obtain⟨e',x',h1,h2,h3⟩:=h.lk n e he;have:=hs.env n e' x' rfl h1 h2;simp only at hx;rw[hx]at h3;rw[this];exact (dy h3).symm
  gv:=fun n ch e he=>by simp[rp]at he }
def DH (rs:RL)(env:Env):List Nat→Option Env
 | []=>some []
 | n::t=>match Go.TR.lk env n with
  | some e=>(match alive rs e,DH rs env t with
   | some e',some l=>some ((n,e')::l)
   | _,_=>none)
  | none=>none
theorem A4 {rs:RL}{env:Env}: ∀{slots:List Nat} {env':Env},DH rs env slots=some env'→qU rs rs env env'
 | [],env',h=>by simp only[DH,aa]at h;subst h;trivial
 | n::t,env',h=>by
  simp only[DH]at h;split at h
  ·rename_i e he;split at h
   ·rename_i e' l ha hl;simp only[aa]at h;subst h;obtain⟨rfl,x,hx⟩:=ma ha;exact⟨⟨_,x,he,hx,hx⟩,A4 hl⟩
   simp at h
  simp at h
theorem VS.C2 {env env':Env}{F:Hp}{rs:RL}{nx:Nat}{G:St→Prop}(slots:List Nat)(h:DH rs env slots=some env')(k:G ⟨env',F,rs,nx⟩):VS N [] ⟨env,F,rs,nx⟩ G:=VS.env (A4 h) k
theorem Mb {x:Code}{ι:Type}(T:ι→St)(μ:ι→Nat)(i:ι)(h0:VS N [] st fun st'=>st'=T i)(hr: ∀i,vc P tb N x (fA N st.nx T μ i KK) (T i)):vc P tb N (.loop x) KK st:=
 ⟨ι,T,μ,fun c a w hs=>by
  obtain⟨st',h1,h2⟩:=h0 c a w hs;exact⟨st',h1,i,h2⟩,hr⟩
theorem PB {ι:Type}{kn:Nat}{T:ι→St}{μ:ι→Nat}{i:ι}(j:ι)(hj:μ j<μ i)(h:VS N [] st fun st'=>st'=T j):fA N kn T μ i KK .normal st:=fun c a w _ hs=>by
 obtain⟨st',h1,h2⟩:=h c a w hs;exact⟨st',h1,j,h2,hj⟩
theorem B9 {ι:Type}{kn:Nat}{T:ι→St}{μ:ι→Nat}{i:ι}(k:KK .ret st):fA N kn T μ i KK .ret st:=VS.id k
theorem Dh {ι:Type}{kn:Nat}{T:ι→St}{μ:ι→Nat}{i:ι}{id:Nat}(k:KK (.exit id) st):fA N kn T μ i KK (.exit id) st:=VS.id k
theorem dN (htb:gZ P tb)(hm:P.follows .mixedOrders=true){f:FuncId}{fn:Func}(hf:P.funcs[f]? =some fn){code:Code}(hb:fn.body=some code){N:Nat}(hn:fn.ntmps=N){rv:List ResultVar}(hr:fn.results.toList=rv){args:List Value}{env:Env}(he:mG 0 args=env)
  (hN:Nat.ble args.length N=true) {F:Hp} {x:Value} (h:vc P tb N code (gC tb rv (fun v=>v=x)) ⟨env,F,[],0⟩):Plain P F f args x:=by
 subst hn hr he;exact Fq htb hm hf hb hN h
theorem fU (htb:gZ P tb)(hm:P.follows .mixedOrders=true){f:FuncId}{fn:Func}(hf:P.funcs[f]? =some fn){code:Code}(hb:fn.body=some code){N:Nat}(hn:fn.ntmps=N){rv:List ResultVar}(hr:fn.results.toList=rv){args:List Value}{env:Env}(he:mG 0 args=env)
  (hN:Nat.ble args.length N=true) {F:Hp} {Q:Value→Hp→RL→Prop} (h:vc P tb N code (gG N tb rv Q) ⟨env,F,[],0⟩):eu P F f args Q:=by
 subst hn hr he;exact Hr htb hm hf hb hN h
theorem ez {c:Operand}{x y:Code}(b:Bool)(h:gL st.rs [] st.env [] c=some (.v (.bool b)))(k1:b=true→vc P tb N x KK st)(k2:b=false→vc P tb N y KK st):vc P tb N (.cond c x y) KK st:=RI h k1 k2
theorem gm {c:Operand}{x y:Code}{p:Prop}[d:Decidable p](h:gL st.rs [] st.env [] c=some (.v (.bool (decide p))))(hp:p)(k:vc P tb N x KK st):vc P tb N (.cond c x y) KK st:=ez true (by rw[h,aW hp]) (fun _=>k) (fun h=>by cases h)
theorem gu {c:Operand}{x y:Code}{p:Prop}[d:Decidable p](h:gL st.rs [] st.env [] c=some (.v (.bool (decide p))))(hp: ¬p)(k:vc P tb N y KK st):vc P tb N (.cond c x y) KK st:=ez false (by rw[h,aX hp]) (fun h=>by cases h) (fun _=>k)
theorem dS {a b:Bool}(h:a=b):some (EV.v (.bool a))=some (EV.v (.bool b)):=by rw[h]
theorem fT {d:Option Nat}{op:Op}{ty:TypeId}{pos:String}{af:Array Edge}(h:VS N g st fun st=>dT P tb N false all (⟨d,op,ty,pos,af,none⟩::rest) K g st):dT P tb N false all (⟨d,op,ty,pos,af,none⟩::rest) K g st:=by
 refine .inr (.inr ⟨rfl,fun c a w hs=>?_⟩);obtain⟨st',h1,h2⟩:=h c a w hs;rcases h2 with h2 | ⟨_,h2⟩ | ⟨_,h2⟩
 ·exact⟨st',h1,.inl h2⟩
 ·exact⟨st',h1,.inr (.inl h2)⟩
 exact h2 c a w h1
theorem q9 {d:Nat}{op:Op}{ty:TypeId}{pos:String}{af:Array Edge}(e:EV){env:Env}{F:Hp}{rs:RL}{nx:Nat}(hd:Nat.blt d N=true)
  (h: ∀(c:Ctx) (a:Act) (w:World) (o:Oper),fF c N [] st a w→o.op=op→∃v w',(execOp a.eval o).run P w= .ok (.value v) w'∧fF c N [] ⟨env,F,rs,nx⟩ a w'∧e.val rs=some v)
  (k:dT P tb N false all rest K [] ⟨(d,e)::env,F,rs,nx⟩):dT P tb N false all (⟨some d,op,ty,pos,af,none⟩::rest) K [] st:=by
 have hd':d<N:=by simpa using hd
 refine .inr (.inr ⟨rfl,VS.id (.inr (.inr ⟨Unit,fun _=>e,fun _=>⟨env,F,rs,nx⟩,fun c a w o h1 h2=>(by obtain⟨v,w',q1,q2,q3⟩:=h c a w o h1 h2;exact⟨(),v,w',.inl q1,q2,q3⟩),fun _=>?_⟩))⟩);simp only[vq,ig];exact⟨hd',k⟩
theorem nY {d:Nat}{op:Op}{ty:TypeId}{pos:String}{af:Array Edge}{ι:Type}(e:ι→EV){env:ι→Env}{F:ι→Hp}{rs:ι→RL}{nx:ι→Nat}(hd:Nat.blt d N=true)
  (h: ∀(c:Ctx) (a:Act) (w:World) (o:Oper),fF c N [] st a w→o.op=op→∃i v w',(execOp a.eval o).run P w= .ok (.value v) w'∧fF c N [] ⟨env i,F i,rs i,nx i⟩ a w'∧(e i).val (rs i)=some v)
  (k: ∀i,dT P tb N false all rest K [] ⟨(d,e i)::env i,F i,rs i,nx i⟩):dT P tb N false all (⟨some d,op,ty,pos,af,none⟩::rest) K [] st:=by
 have hd':d<N:=by simpa using hd
 refine .inr (.inr ⟨rfl,VS.id (.inr (.inr ⟨ι,e,fun i=>⟨env i,F i,rs i,nx i⟩,fun c a w o h1 h2=>(by obtain⟨i,v,w',q1,q2,q3⟩:=h c a w o h1 h2;exact⟨i,v,w',.inl q1,q2,q3⟩),fun i=>?_⟩))⟩);simp only[vq,ig];exact⟨hd',k i⟩
theorem uc {d j:Nat}{want:Bool}{t:TypeId}{a:Operand}{ty:TypeId}{pos:String}{af:Array Edge}{env:Env}{F:Hp}{rs:RL}{nx:Nat}{i:TI}{p:Option Addr}{c:Nat×Bool×Bool}{ch:gq}(cs:List Value)(hg:ny all g env j want=some (c::ch))(hi:tb t=some i)(ha:i.kind.agg=true)
  (hp:gL rs g env (c::ch) a=some (.v (.pointer p))) (hd:Nat.blt d N=true) (hc:(ik d g&&nw d env)=true) (hl:cs.length=i.size) (hs:gP (c::ch)→p.isSome=true∧ ∀j,j<i.size→gb F (im p j)=cs[j]?)
  (k:dT P tb N dr all rest K ((d,c::ch,.v (.agg cs.toArray))::g) ⟨env,F,rs,nx⟩):dT P tb N dr all (⟨some d,.load t a,ty,pos,af,some (j,want)⟩::rest) K g ⟨env,F,rs,nx⟩:=by
 have hd':d<N:=by simpa using hd
 refine ld (st:=⟨env,F,rs,nx⟩) hg ?_;simp only[nI,hi,hp,oo,ha,yE,Aj,ig];exact⟨cs,hl,hs,hd',hc,k⟩
theorem od {d:Nat}{t:TypeId}{a:Operand}{ty:TypeId}{pos:String}{af:Array Edge}{env:Env}{F:Hp}{rs:RL}{nx id off:Nat}{i:TI}{r:kj}(x:Value)(hi:tb t=some i)(ha:i.kind.agg=false)(hp:gL rs [] env [] a=some (.loc id off))(hr:fR rs id=some r)(hd:Nat.blt d N=true)(hx:r.cells[off]? =some (.v x))
  (k:dT P tb N dr all rest K [] ⟨(d,.v x)::env,F,rs,nx⟩):dT P tb N dr all (⟨some d,.load t a,ty,pos,af,none⟩::rest) K [] ⟨env,F,rs,nx⟩:=by
 have hd':d<N:=by simpa using hd
 refine .inl ?_;simp only[nI,hi,hp,oo,hr,ha,wz,hx,oP,alive,Jq,Aj,ig];exact⟨hd',k⟩
theorem lB {d:Nat}{t:TypeId}{a:Operand}{ty:TypeId}{pos:String}{af:Array Edge}{env:Env}{F:Hp}{rs:RL}{nx id off:Nat}{i:TI}{r:kj}(cs:List Value)(hi:tb t=some i)(ha:i.kind.agg=true)(hp:gL rs [] env [] a=some (.loc id off))(hr:fR rs id=some r)(hd:Nat.blt d N=true)(hle:off+i.size≤r.cells.length)(hx:(r.cells.take (off+i.size)).drop off=cs.map .v)
  (k:dT P tb N dr all rest K [] ⟨(d,.v (.agg cs.toArray))::env,F,rs,nx⟩):dT P tb N dr all (⟨some d,.load t a,ty,pos,af,none⟩::rest) K [] ⟨env,F,rs,nx⟩:=by
 have hd':d<N:=by simpa using hd
 refine .inl ?_;simp only[nI,hi,hp,oo,hr,ha,wz,hx,eD,MC,Aj,ig];exact⟨hle,hd',k⟩
theorem iP {t:TypeId}{a x:Operand}{ty:TypeId}{pos:String}{af:Array Edge}{env:Env}{F:Hp}{rs rs':RL}{nx id off:Nat}{i:TI}{r:kj}{e:EV}(cells':List EV)(hi:tb t=some i)(ha:gL rs g env [] a=some (.loc id off))(hx:gL rs g env [] x=some e)(hr:fR rs id=some r)(hl:(cellsOf e).length=i.size)(h1:(cellsOf e).all one=true)(hle:off+i.size≤r.cells.length)
  (hc:r.cells.take off++cellsOf e++r.cells.drop (off+i.size)=cells') (hrs:iq (qM rs id ⟨r.gl,cells',r.ty,r.cap⟩)=some rs')
  (k:dT P tb N false all rest K g ⟨env,F,rs',nx⟩):dT P tb N false all (⟨none,.store t a x,ty,pos,af,none⟩::rest) K g ⟨env,F,rs,nx⟩:=by
 rw[fB,aa]at hrs;subst hc hrs;refine .inl ?_;simp only[nI,hi,ha,hx,uU,hr,uC];exact⟨trivial,trivial,trivial,hl,h1,hle,k⟩
theorem zx {d:Nat}{t e:TypeId}{n:Nat}{ps:Array (Nat×Operand)}{ty:TypeId}{pos:String}{af:Array Edge}{env:Env}{F:Hp}{rs:RL}{nx:Nat}{xs:List (Nat×Value)}{cs:List Value}{cells:List EV}{ti:TI}{m:Nat}(ht:tk tb t=some (.slice e))(hi:tb e=some ti)(hp:partsOf rs (gL rs [] env []) ps.toList=some xs)(hz:Nat.ble (n * ti.size) 16777216=true)
  (hf:sN (fun i=>some (i * ti.size,ti.size)) (zv (n * ti.size) ti.zero) xs=some cs) (hc:iq (cs.map EV.v)=some cells) (hm:cells.length=m) (hd:Nat.blt d N=true)
  (k: ∀b,dT P tb N false all rest K [] ⟨(d,.row nx 0 n n)::env,F,(nx,⟨some b,cells,e,m⟩)::rs,nx+1⟩):dT P tb N false all (⟨some d,.buildSlice t n ps,ty,pos,af,none⟩::rest) K [] ⟨env,F,rs,nx⟩:=by
 have hd':d<N:=by simpa using hd
 have hz':n * ti.size≤2 ^ 24:=by simpa using hz
 rw[fB,aa]at hc;subst hc hm;refine .inl ?_;simp only[nI,ht,hp,OQ,hi,BL,hf,Cp,RT,ig];exact⟨trivial,trivial,hz',fun b=>⟨hd',k b⟩⟩
def vX (F:Hp)(rs:RL)(size:Nat)(y:Option EV)(m:Nat)(news:List EV):Prop:=∀k:Nat→List EV→Prop,k m news→HJ F rs size k y
theorem fb {F:Hp}{rs:RL}{size id m c b:Nat}{cells:List EV}{ty:TypeId}{cap:Nat}(hr:fR rs id=some ⟨some b,cells,ty,cap⟩)(hl:m * size=cells.length):vX F rs size (some (.row id 0 m c)) m cells:=fun k hk=>by
 simp only[HJ,hr,Ah];refine⟨by omega,?_⟩;rw[aP,hl,aD,List.drop_zero];exact hk
theorem iV {F:Hp}{rs:RL}{size m c:Nat}{p:Option Addr}{cs:List Value}(hl:cs.length=m * size)(h:eY F p cs):vX F rs size (some (.v (.slice p m c))) m (cs.map .v):=fun k hk=>by
 simp only[HJ];exact⟨cs,hl,h,hk⟩
theorem IW {F:Hp}{rs:RL}{l:List UInt8}:vX F rs 1 (some (.v (S l))) l.length (l.map fun b=>.v (.int .u8 (b.toNat:Int))):=fun k hk=>by
 simp only[HJ];exact⟨trivial,hk⟩
theorem gy (rs:RL){l:List Value}(h: ∀x∈l,one (.v x)=true):lj rs (l.map .v):=fun e he=>by
 obtain⟨x,hx,rfl⟩:=aG.1 he;exact⟨h x hx,x,rfl⟩
theorem fv {d:Nat}{x y:Operand}{t1 t2 e:TypeId}{ty:TypeId}{pos:String}{af:Array Edge}{env:Env}{F:Hp}{rs rs':RL}{nx id n c cap:Nat}{gl:Option Nat}{cells:List EV}{ti:TI}{m:Nat}{news:List EV}(ht:tk tb t1=some (.slice e))(ht2:wh (tk tb t2)=true)(hi:tb e=some ti)(h0:(Nat.blt 0 ti.size&&Nat.blt 0 ti.bytes&&Nat.beq ti.zero.length ti.size)=true)
  (hx:gL rs [] env [] x=some (.row id 0 n c)) (hr:fR rs id=some ⟨gl,cells,e,cap⟩) (hrs:iq (tJ rs id)=some rs') (hd:Nat.blt d N=true) (hsrc:vX F rs ti.size (gL rs [] env [] y) m news) (hone:lj rs news) (hok:gl=none→n=0∧c=0) (hnc:n≤c) (hcap:cap=c * ti.size) (hcl:n * ti.size≤cells.length)
  (hby:(n+m) * ti.bytes≤140737488355328)
  (k0:m=0→dT P tb N false all rest K [] ⟨(d,.row id 0 n c)::env,F,rs,nx⟩)
  (k:0<m→∀b cap,n+m≤cap→dT P tb N false all rest K [] ⟨(d,.row nx 0 (n+m) cap)::env,F,(nx,⟨some b,cells.take (n * ti.size)++news,e,cap * ti.size⟩)::rs',nx+1⟩):
  dT P tb N false all (⟨some d,.call ⟨.builtin .append,#[x,y],#[t1,t2]⟩,ty,pos,af,none⟩::rest) K [] ⟨env,F,rs,nx⟩:=by
 have hd':d<N:=by simpa using hd
 simp only[aL,Nat.blt_eq,Nat.beq_eq]at h0;obtain⟨⟨h1,h2⟩,h3⟩:=h0;rw[fB,aa]at hrs;subst hrs;refine .inr (.inl ⟨rfl,x,y,t1,t2,rfl,rfl,?_⟩);simp only[ht,MQ,ht2,hi,MJ,true_and];refine⟨h1,h2,h3,hsrc _ ⟨hone,?_⟩⟩;simp only[hx,Pa,hr];cases gl with
 | none=>
  obtain⟨rfl,rfl⟩:=hok rfl;simp only[Ko,Ch,ig,aP];simp only[aP,dv,db,cX]at k hby;exact⟨trivial,trivial,fun hm=>⟨hd',k0 hm⟩,fun hm=>⟨fun _=>hby,fun b cap hc _=>⟨hd',k hm b cap hc⟩⟩⟩
 | some b0=>
  simp only[Ko,Ch,ig];exact⟨trivial,hnc,hcap,hcl,fun hm=>⟨hd',k0 hm⟩,fun hm=>⟨fun _=>hby,fun b cap hc _=>⟨hd',k hm b cap hc⟩⟩⟩
theorem jy {d:Nat}{x y:Operand}{t1 t2 e:TypeId}{ty:TypeId}{pos:String}{af:Array Edge}{env:Env}{F:Hp}{rs:RL}{nx n:Nat}{p:Option Addr}{ti:TI}{m:Nat}{news:List EV}(cs:List Value)(ht:tk tb t1=some (.slice e))(ht2:wh (tk tb t2)=true)(hi:tb e=some ti)(h0:(Nat.blt 0 ti.size&&Nat.blt 0 ti.bytes&&Nat.beq ti.zero.length ti.size)=true)
  (hx:gL rs [] env [] x=some (.v (.slice p n n))) (hd:Nat.blt d N=true) (hcl:cs.length=n * ti.size) (hfr:eY F p cs) (hsrc:vX F rs ti.size (gL rs [] env [] y) m news) (hone:lj rs news)
  (hby:(n+m) * ti.bytes≤140737488355328)
  (k0:m=0→dT P tb N false all rest K [] ⟨(d,.v (.slice p n n))::env,F,rs,nx⟩)
  (k:0<m→∀b cap,n+m≤cap→dT P tb N false all rest K [] ⟨(d,.row nx 0 (n+m) cap)::env,F,(nx,⟨some b,cs.map .v++news,e,cap * ti.size⟩)::rs,nx+1⟩):
  dT P tb N false all (⟨some d,.call ⟨.builtin .append,#[x,y],#[t1,t2]⟩,ty,pos,af,none⟩::rest) K [] ⟨env,F,rs,nx⟩:=by
 have hd':d<N:=by simpa using hd
 simp only[aL,Nat.blt_eq,Nat.beq_eq]at h0;obtain⟨⟨h1,h2⟩,h3⟩:=h0;refine .inr (.inl ⟨rfl,x,y,t1,t2,rfl,rfl,?_⟩);simp only[ht,MQ,ht2,hi,MJ,true_and];refine⟨h1,h2,h3,hsrc _ ⟨hone,?_⟩⟩;simp only[hx,Pa,Sh,Ch,ig,true_and];exact⟨cs,hcl,hfr,fun hm=>⟨hd',k0 hm⟩,fun hm=>⟨fun _=>hby,fun b cap hc _=>⟨hd',k hm b cap hc⟩⟩⟩
theorem qo {d:Nat}{x:Operand}{s t:TypeId}{ty:TypeId}{pos:String}{af:Array Edge}{env:Env}{F:Hp}{rs:RL}{nx id m c b cap:Nat}{cells:List EV}{xD:TypeId}(bs:List UInt8)(hs:(oH tb (tk tb s)&&isStr (tk tb t))=true)(hx:gL rs [] env [] x=some (.row id 0 m c))(hr:fR rs id=some ⟨some b,cells,xD,cap⟩)(hd:Nat.blt d N=true)
  (hm:m≤cells.length) (hc:cells.take m=bs.map fun b=>.v (.int .u8 (b.toNat:Int)))
  (k:dT P tb N false all rest K [] ⟨(d,.v (S bs))::env,F,rs,nx⟩):dT P tb N false all (⟨some d,.convert s t x,ty,pos,af,none⟩::rest) K [] ⟨env,F,rs,nx⟩:=by
 have hd':d<N:=by simpa using hd
 simp only[aL]at hs;refine .inr (.inl ⟨rfl,hs.1,hs.2,?_⟩);simp only[hx,OS,hr,Ah,aA,aP,List.drop_zero,ig];exact⟨hm,bs,hc,hd',k⟩
theorem rJ {d:Nat}{f:Operand}{args:Array Operand}{ts:Array TypeId}{n:FuncId}{first captured:Array Value}{xs ys:List Value}{ty:TypeId}{pos:String}{af:Array Edge}{env:Env}{F:Hp}{rs:RL}{nx:Nat}{Q:Value→Hp→RL→Prop}
  (hf:gL rs [] env [] f=some (.v (.func (.func n) first captured))) (hx:su rs (gL rs [] env []) args.toList=some xs) (hy':iq (first.toList++xs++captured.toList)=some ys) (hb:dH P n) (hd:Nat.blt d N=true) (hc:eu P F n ys Q)
  (k: ∀x F' new,F.sub F'→Q x F' new→∃(m:Nat) (e:EV),(∀id r,fR new id=some r→id<m∧ ∀e∈r.cells,e.lt m)∧e.val new=some x∧dT P tb N false all rest K [] ⟨(d,gX nx e)::env,F',gB nx new++rs,nx+m⟩):
  dT P tb N false all (⟨some d,.call ⟨.value f,args,ts⟩,ty,pos,af,none⟩::rest) K [] ⟨env,F,rs,nx⟩:=by
 have hd':d<N:=by simpa using hd
 rw[fB,aa]at hy';subst hy';refine .inl ?_;simp only[nI,hf,hx,lW];refine⟨hb,VS.id ⟨Q,hc,fun x F' new h1 h2=>?_⟩⟩;obtain⟨m,e,h3,h4,h5⟩:=k x F' new h1 h2;exact⟨m,e,h3,h4,by simp only[ig];exact⟨hd',h5⟩⟩
abbrev iu (P:Program)(F:Hp)(f:FuncId)(args:List Value)(Q:Value→Hp→Prop):Prop:=eu P F f args fun x F' new=>new=[]∧Q x F'
theorem fi {d:Nat}{f:Operand}{args:Array Operand}{ts:Array TypeId}{n:FuncId}{first captured:Array Value}{xs ys:List Value}{ty:TypeId}{pos:String}{af:Array Edge}{env:Env}{F:Hp}{rs:RL}{nx:Nat}{Q:Value→Hp→Prop}
  (hf:gL rs [] env [] f=some (.v (.func (.func n) first captured))) (hx:su rs (gL rs [] env []) args.toList=some xs) (hy':iq (first.toList++xs++captured.toList)=some ys) (hb:dH P n) (hd:Nat.blt d N=true) (hc:iu P F n ys Q)
  (k: ∀x F',F.sub F'→Q x F'→dT P tb N false all rest K [] ⟨(d,.v x)::env,F',rs,nx⟩):
  dT P tb N false all (⟨some d,.call ⟨.value f,args,ts⟩,ty,pos,af,none⟩::rest) K [] ⟨env,F,rs,nx⟩:=
 rJ hf hx hy' hb hd hc fun x F' new h1 h2=>by
  obtain⟨rfl,h3⟩:=h2;exact⟨0,.v x,fun id r h=>by simp[fR]at h,rfl,k x F' h1 h3⟩
def ml (e:TypeId)(size:Nat)(cs:List Value)(n:Nat)(x:Value)(new:RL):Prop:=
 (n=0∧new=[]∧ ∃p,x= .slice p 0 0)∨(0<n∧ ∃b c,n≤c∧new=[(0,⟨some b,cs.map .v,e,c * size⟩)]∧x= .slice (some ⟨b,0,none⟩) n c)
theorem nA {d:Nat}{f:Operand}{args:Array Operand}{ts:Array TypeId}{n:FuncId}{first captured:Array Value}{xs ys:List Value}{ty:TypeId}{pos:String}{af:Array Edge}{env:Env}{F:Hp}{rs:RL}{nx:Nat}{e:TypeId}{size k:Nat}{Q:Value→Hp→RL→Prop}{R:Hp→List Value→Prop}(hQ: ∀x F' new,Q x F' new→∃cs,ml e size cs k x new∧R F' cs)
  (hf:gL rs [] env [] f=some (.v (.func (.func n) first captured))) (hx:su rs (gL rs [] env []) args.toList=some xs) (hy':iq (first.toList++xs++captured.toList)=some ys) (hb:dH P n) (hd:Nat.blt d N=true) (hc:eu P F n ys Q)
  (k0:k=0→∀F' p cs,F.sub F'→R F' cs→dT P tb N false all rest K [] ⟨(d,.v (.slice p 0 0))::env,F',rs,nx⟩)
  (k1:0<k→∀F' b c cs,F.sub F'→k≤c→R F' cs→dT P tb N false all rest K [] ⟨(d,.row nx 0 k c)::env,F',(nx,⟨some b,cs.map .v,e,c * size⟩)::rs,nx+1⟩):
  dT P tb N false all (⟨some d,.call ⟨.value f,args,ts⟩,ty,pos,af,none⟩::rest) K [] ⟨env,F,rs,nx⟩:=
 rJ hf hx hy' hb hd hc fun x F' new h1 h2=>by
  obtain⟨cs,h3,h4⟩:=hQ x F' new h2;rcases h3 with⟨h5,rfl,p,rfl⟩ | ⟨h5,b,c,h6,rfl,rfl⟩
  ·exact⟨0,.v _,fun id r h=>by simp[fR]at h,rfl,k0 h5 F' p cs h1 h4⟩
  refine⟨1,.row 0 0 k c,fun id r h=>?_,by simp only[EV.val,e8,dC];rfl,?_⟩
  ·rw[e8]at h;split at h
   ·rename_i h0;simp only[aa]at h;subst h h0;refine⟨Nat.zero_lt_one,fun e he=>?_⟩;obtain⟨u,_,rfl⟩:=aG.1 he;trivial
   simp[fR]at h
  have e1:(cs.map EV.v).map (gX nx)=cs.map EV.v:=by rw[cL];rfl
  have:=k1 h5 F' b c cs h1 h6 h4;simp only[gX,gB,gV,a9,cM,df,e1,bV,cX];exact this
theorem iG {d:Nat}{f:Operand}{args:Array Operand}{ts:Array TypeId}{n:FuncId}{first captured:Array Value}{es:List EV}{ty:TypeId}{pos:String}{af:Array Edge}{env env':Env}{F:Hp}{rs:RL}{nx:Nat}(htb:gZ P tb)(hm:P.follows .mixedOrders=true)
  {fn:Func} (hfn:P.funcs[n]? =some fn) {code:Code} (hbody:fn.body=some code) {N':Nat} (hn:fn.ntmps=N') {rv:List ResultVar} (hrv:fn.results.toList=rv)
  (hf:gL rs [] env [] f=some (.v (.func (.func n) first captured))) (he:F8 (gL rs [] env []) args.toList=some es) (np:q7 0 (first.toList.map EV.v++es++captured.toList.map EV.v)=env') (hN:Nat.ble (first.toList.map EV.v++es++captured.toList.map EV.v).length N'=true) (hb:dH P n) (hd:Nat.blt d N=true)
  (k:vc P tb N' code (gw N' tb rv (fun e F' rs' nx'=>dT P tb N false all rest K [] ⟨(d,e)::env,F',rs',nx'⟩)) ⟨env',F,rs,nx⟩):
  dT P tb N false all (⟨some d,.call ⟨.value f,args,ts⟩,ty,pos,af,none⟩::rest) K [] ⟨env,F,rs,nx⟩:=by
 have hd':d<N:=by simpa using hd
 subst hn hrv np;refine .inr (.inl ⟨rfl,?_⟩);simp only[Nn,hf,he,Me];refine⟨hb,_,tQ htb hm hfn hbody hN k,fun e F' rs' nx' _ _ h=>?_⟩;simp only[vq,ig];exact⟨hd',h⟩
theorem xi {rv:List ResultVar}{Q:EV→Hp→RL→Nat→Prop}{e:EV}(h:yR tb st rv=some e)(k:Q e st.F st.rs st.nx):gw N tb rv Q .ret st:=VS.id ⟨e,h,k⟩
theorem D6 {rv:List ResultVar}{Q:EV→Hp→RL→Nat→Prop}{e:EV}(h:yR tb st rv=some e)(k:Q e st.F st.rs st.nx):gw N tb rv Q .normal st:=VS.id ⟨e,h,k⟩
theorem eM {rv:List ResultVar}{Q:Value→Hp→RL→Prop}(h:VS N [] st fun st'=>∃xs,nC tb st' rv=some xs∧Q (gE xs) st'.F st'.rs):gG N tb rv Q .ret st:=fun c a w _ hs=>h c a w hs
theorem mI {rv:List ResultVar}{Q:Value→Hp→RL→Prop}(h:qN 0 N [] st fun st'=>∃xs,nC tb st' rv=some xs∧Q (gE xs) st'.F st'.rs):gG N tb rv Q .ret st:=h
theorem fk {ops:Array Oper}{kept:List Nat}{K:St→Prop}{m f:Nat}{done:Array Bool}(h:Region.ready .any ops done=[])(k:K st):fq P tb N ops kept K (m+1) f done g st:=.inl ⟨h,VS.id k⟩
theorem dR {ops:Array Oper}{kept:List Nat}{K:St→Prop}{m f':Nat}{done:Array Bool}{env:Env}{F:Hp}{rs rsm:RL}{nx:Nat}(is:List Nat){l lo:List Oper}(hB:uT .any ops done is=true)(hlo:ops.toList=lo)(hl:SW lo is=some l)(hm:mask kept rs=rsm)(k:dT P tb N true lo l (fD rs (fq P tb N ops kept K m f' (CJ done is))) g ⟨env,F,rsm,nx⟩):
  fq P tb N ops kept K (m+1) (f'+is.length) done g ⟨env,F,rs,nx⟩:=by
 subst hm hlo;exact .inr (.inl ⟨f',is,l,rfl,hB,hl,k⟩)
theorem HN {env:Env}{F:Hp}{rs rs':RL}{nx:Nat}(k:K g ⟨env,F,rs,nx⟩):fD rs K g ⟨env,F,rs',nx⟩:=k
theorem dY {ops:Array Oper}{kept:List Nat}{K:St→Prop}{m f':Nat}{done:Array Bool}{lo:List Oper}(i:Nat){o:Oper}(hr:Region.ready .any ops done=[i])(hlo:ops.toList=lo)(ho:lo[i]? =some o)(k:dT P tb N false lo [o] (ju kept st.F st.rs (fq P tb N ops kept K m f' (done.setIfInBounds i true))) g st):
  fq P tb N ops kept K (m+1) (f'+1) done g st:=by
 subst hlo;refine .inr (.inr ⟨f',rfl,by rw[hr];simp,fun j hj=>?_⟩);rw[hr,aB]at hj;subst hj;obtain⟨d,op,ty,pos,af,gd⟩:=o;exact⟨⟨d,op,ty,pos,af,gd⟩,by simpa using ho,k⟩
theorem jC {ops:Array Oper}{kept:List Nat}{K:St→Prop}{m f':Nat}{done:Array Bool}{lo:List Oper}(i j:Nat){o o':Oper}(hr:Region.ready .any ops done=[i,j])(hlo:ops.toList=lo)(ho:lo[i]? =some o)(ho':lo[j]? =some o')(k:dT P tb N false lo [o] (ju kept st.F st.rs (fq P tb N ops kept K m f' (done.setIfInBounds i true))) g st)
  (k':dT P tb N false lo [o'] (ju kept st.F st.rs (fq P tb N ops kept K m f' (done.setIfInBounds j true))) g st):fq P tb N ops kept K (m+1) (f'+1) done g st:=by
 subst hlo;refine .inr (.inr ⟨f',rfl,by rw[hr];simp,fun q hq=>?_⟩);rw[hr]at hq;obtain⟨d,op,ty,pos,af,gd⟩:=o;obtain⟨d',op',ty',pos',YL,YM⟩:=o';simp only[aT,cZ,dE]at hq;rcases hq with rfl | rfl
 ·exact⟨⟨d,op,ty,pos,af,gd⟩,by simpa using ho,k⟩
 exact⟨⟨d',op',ty',pos',YL,YM⟩,by simpa using ho',k'⟩
theorem Nw {rs rs':RL}: ∀{l:List EV},l.map (EV.val rs')=l.map (EV.val rs)→ED rs rs' l
 | [],_=>trivial
 | e::t,h=>by
  simp only[a9,bU]at h;exact⟨h.1,Nw h.2⟩
theorem dM {rs rs':RL}: ∀{l:List Nat},(l.map fun id=>(fR rs' id,(fR rs id).map fun r=>r.cells.map (EV.val rs')))=(l.map fun id=>(fR rs id,(fR rs id).map fun r=>r.cells.map (EV.val rs)))→vA rs rs' l
 | [],_=>trivial
 | id::t,h=>by
  simp only[a9,bU,aC]at h;refine⟨?_,dM h.2⟩;cases hr:fR rs id with
  | none=>trivial
  | some r=>
   obtain⟨⟨h1,h2⟩,_⟩:=h;rw[hr]at h1 h2;simp only[aJ,aa]at h2;exact⟨h1,Nw h2⟩
theorem eC {kept:List Nat}{F:Hp}{rs:RL}(h1:F.sub st.F)(h2:vA rs st.rs kept)(k:K g st):ju kept F rs K g st:=⟨⟨h1,h2⟩,k⟩
end
end
section
section
variable {N:Nat}
def th (b id:Nat):EV→EV
 | .v x=>.v x
 | .loc i o=>match Nat.beq i id with
  | true=>.v (.pointer (some ⟨b,o,none⟩))
  | false=>.loc i o
 | .row i o n c=>match Nat.beq i id with
  | true=>.v (.slice (some ⟨b,o,none⟩) n c)
  | false=>.row i o n c
def mT (b id:Nat):List EV→List EV
 | []=>[]
 | e::t=>th b id e::mT b id t
def u9 (b id:Nat):RL→RL
 | []=>[]
 | (m,⟨bb,cells,ty,cap⟩)::t=>match Nat.beq m id with
  | true=>u9 b id t
  | false=>(m,⟨bb,mT b id cells,ty,cap⟩)::u9 b id t
def At (b id:Nat):Env→Env
 | []=>[]
 | (n,e)::t=>(n,th b id e)::At b id t
theorem pN (b id:Nat): ∀l:List EV,mT b id l=l.map (th b id)
 | []=>rfl
 | e::t=>by simp only[mT,a9,pN b id t]
theorem e9 (b id:Nat)(l:List Value):mT b id (l.map .v)=l.map .v:=by
 rw[pN,cL];rfl
theorem beq_false {m n:Nat}(h:m≠n):Nat.beq m n=false:=by cases hb:Nat.beq m n with | false=>rfl | true=>exact absurd (dg hb) h
theorem Cc {b id:Nat}{rs:RL}{k:Nat}:fR (u9 b id rs) k=if k=id then none else (fR rs k).map fun r=>⟨r.gl,mT b id r.cells,r.ty,r.cap⟩:=by
 induction rs with
 | nil=>simp[u9,fR]
 | cons p rs ih=>
  obtain⟨m,⟨bb,cells,ty,cap⟩⟩:=p;simp only[u9];by_cases hm:m=id
  ·subst hm;simp only[Nat.beq_refl];rw[ih,e8];by_cases hk:k=m<;>simp[hk]
  rw[beq_false hm];simp only[];rw[e8,ih,e8];by_cases hk:k=m
  ·subst hk;simp[hm]
  simp only[aY hk]
theorem Mq {b id:Nat}{env:Env}{k:Nat}:lk (At b id env) k=(lk env k).map (th b id):=by
 induction env with
 | nil=>rfl
 | cons p env ih=>
  obtain⟨m,e⟩:=p;simp only[At];rw[kS,ih,kS];by_cases hk:k=m<;>simp[hk]
theorem Pq {id b:Nat}{rs:RL}{r:kj}(hr:fR rs id=some r)(hb:r.gl=some b)(e:EV)(x:Value)(hx:(th b id e).val (u9 b id rs)=some x):e.val rs=some x:=by
 cases e with
 | v y=>exact hx
 | loc i o=>
  by_cases hi:i=id
  ·subst hi;simp only[th,Nat.beq_refl,EV.val]at hx;simp only[EV.val,hr,hb];exact hx
  simp only[th,beq_false hi,EV.val,Cc,aY hi]at hx;simp only[EV.val];cases hk:fR rs i with
  | none=>simp[hk]at hx
  | some s=>rw[hk]at hx;exact hx
 | row i o n c=>
  by_cases hi:i=id
  ·subst hi;simp only[th,Nat.beq_refl,EV.val]at hx;simp only[EV.val,hr,hb];exact hx
  simp only[th,beq_false hi,EV.val,Cc,aY hi]at hx;simp only[EV.val];cases hk:fR rs i with
  | none=>simp[hk]at hx
  | some s=>rw[hk]at hx;exact hx
theorem LG {b id nx:Nat}{e:EV}(h:e.lt nx):(th b id e).lt nx:=by
 cases e with
 | v x=>trivial
 | loc i o=>simp only[th];split<;>first | trivial | exact h
 | row i o n c=>simp only[th];split<;>first | trivial | exact h
end
section
variable {N:Nat}
def Hp.plus (F:Hp)(b:Nat)(o:Obj):Hp:=fun k=>if k=b then some o else F k
theorem Sm {b id:Nat}{r:kj}{b':Nat}(h:(⟨r.gl,mT b id r.cells,r.ty,r.cap⟩:kj).at b'):r.at b':=by
 rcases h with h | ⟨h1,h0,h2⟩
 ·exact .inl h
 refine .inr ⟨h1,h0,?_⟩;simp only[pN,List.map_eq_singleton_iff]at h2;obtain⟨e,he,h3⟩:=h2;rw[he];cases e with
 | v x=>exact a8 (fun e=>[e]) h3
 | loc i o=>simp only[th]at h3;split at h3<;>cases h3
 | row i o n c=>simp only[th]at h3;split at h3<;>cases h3
theorem yD {c:Ctx}{env:Env}{F:Hp}{rs:RL}{nx:Nat}{a:Act}{w:World}(h:fF c N [] ⟨env,F,rs,nx⟩ a w){id:Nat}{r:kj}{b:Nat}(hr:fR rs id=some r)(hb:r.gl=some b){cs:List Value}(hcs:iU rs r.cells=some cs):
  ∃F',F.sub F'∧eY F' (some ⟨b,0,none⟩) cs∧fF c N [] ⟨At b id env,F',u9 b id rs,nx⟩ a w:=by
 have hown:=h.fO.own.own id r hr;rw[hb]at hown;obtain⟨o1,o2,cur,o3,o4,o5⟩:=hown;have o1:F b=none:=o1;have hsub:F.sub (F.plus b (.cells cur r.ty (0,0))):=fun k o e=>by
  unfold Hp.plus;rw[aY (by rintro rfl;rw[o1]at e;cases e)];exact e
 have hv: ∀e x,(th b id e).val (u9 b id rs)=some x→e.val rs=some x:=fun e x hx=>Pq hr hb e x hx;have hlk: ∀{k s},fR (u9 b id rs) k=some s→k≠id∧ ∃s0,fR rs k=some s0∧s=⟨s0.gl,mT b id s0.cells,s0.ty,s0.cap⟩:=fun {k s} hs=>by
  rw[Cc]at hs;split at hs
  ·cases hs
  rename_i hk;rw[aS]at hs;obtain⟨s0,h1,h2⟩:=hs;exact⟨hk,s0,h1,h2.symm⟩
 refine⟨F.plus b (.cells cur r.ty (0,0)),hsub,fun j u hj=>?_,?_⟩
 ·obtain⟨e,he,hx⟩:=(oZ hcs).2 j u hj;have:=o5 j e u he hx;simp only[im,aJ,gb,Option.bind_some,kI,aP,jx,Hp.plus,dC];simpa using this
 exact {
  size:=h.size
  defers:=h.defers
  fO:={
   le:=fun k o e=>by
    have e:(if k=b then some (.cells cur r.ty (0,0)) else F k)=some o:=e;by_cases hk:k=b
    ·subst hk;rw[aZ rfl]at e;rw[←e];exact o3
    rw[aY hk]at e;exact h.fO.le k o e
   own:={
    own:=fun k s hs=>by
     obtain⟨hk,s0,h1,rfl⟩:=hlk hs;have h2:=h.fO.own.own k s0 h1;cases hsb:s0.gl with
     | none=>
      rw[hsb]at h2;simp only;exact⟨h2.1.elim (fun e=>.inl (by rw[e];rfl)) (fun⟨e0,b,e⟩=>.inr ⟨e0,b,by rw[e];rfl⟩),h2.2⟩
     | some b'=>
      rw[hsb]at h2;simp only;obtain⟨g1,g2,cur',g3,g4,g5⟩:=h2;have hne:b'≠b:=by
       rintro rfl;exact hk (h.fO.own.apart k id s0 r _ h1 hr hsb hb)
      refine⟨by unfold Hp.plus;rw[aY hne];exact g1,by rw[pN,ab];exact g2,cur',g3,g4,fun j ev x hj hx=>?_⟩;rw[pN,aI,aS]at hj;obtain⟨e0,h5,rfl⟩:=hj;exact g5 j e0 x h5 (hv e0 x hx)
    apart:=fun i j s t b' hi hj hs ht=>by
     obtain⟨_,s0,h1,rfl⟩:=hlk hi;obtain⟨_,t0,h2,rfl⟩:=hlk hj;exact h.fO.own.apart i j s0 t0 b' h1 h2 hs ht }
   il:=h.fO.il
   new:=fun k s b' hs hsb=>by
    obtain⟨_,s0,h1,rfl⟩:=hlk hs;exact h.fO.new k s0 b' h1 (Sm hsb)
   jT:=fun k hk=>by
    have hk:(if k=b then some (.cells cur r.ty (0,0)) else F k).isSome=true:=hk;by_cases he:k=b
    ·subst he;exact .inr (h.fO.new id r _ hr (.inl hb))
    rw[aY he]at hk;exact h.fO.jT k hk
   sz:=h.fO.sz
   tp:=h.fO.tp }
  gI:={
   sub:=h.gI.sub.trans hsub
   kT:=h.gI.kT
   succ:=fun k s hk hs=>by
    obtain⟨_,s0,h1,rfl⟩:=hlk hs;exact h.gI.succ k s0 hk h1 }
  gS:=fun k s hs=>by
   obtain⟨_,s0,h1,rfl⟩:=hlk hs;obtain⟨h2,h3⟩:=h.gS k s0 h1;refine⟨h2,fun e he=>?_⟩;simp only[pN,aG]at he;obtain⟨e0,h4,rfl⟩:=he;exact LG (h3 e0 h4)
  ids:=fun n e he=>by
   simp only[Mq,aS]at he;obtain⟨e0,h1,rfl⟩:=he;exact LG (h.ids n e0 h1)
  env:=fun n e x _ he hx=>by
   simp only[Mq,aS]at he;obtain⟨e0,h1,rfl⟩:=he;exact h.env n e0 x rfl h1 (hv e0 x hx)
  gv:=fun n ch e he=>by simp[rp]at he }
def eH (env:Env):List Nat→Option Env
 | []=>some []
 | n::t=>match Go.TR.lk env n with
  | some (.v (.slice p n' c'))=>(match eH env t with
   | some l=>some ((n,.v (.slice (p) n' c'))::l)
   | none=>none)
  | some (.v (.pointer p))=>(match eH env t with
   | some l=>some ((n,.v (.pointer (p)))::l)
   | none=>none)
  | some (.v x)=>(match eH env t with
   | some l=>some ((n,.v x)::l)
   | none=>none)
  | some (.loc i o)=>(match eH env t with
   | some l=>some ((n,.loc i o)::l)
   | none=>none)
  | some (.row i o n' c')=>(match eH env t with
   | some l=>some ((n,.row i o n' c')::l)
   | none=>none)
  | none=>none
theorem rI: ∀{slots:List Nat}{env env':Env},eH env slots=some env'→∀n e,lk env' n=some e→lk env n=some e
 | [],env,env',h,n,e,he=>by simp only[eH,aa]at h;subst h;simp[lk]at he
 | m::t,env,env',h,n,e,he=>by
  have step: ∀{x:EV} {l:Env},lk env m=some x→eH env t=some l→lk ((m,x)::l) n=some e→lk env n=some e:=fun {x l} hx hl hk=>by
   rw[kS]at hk;split at hk
   ·rename_i hn;subst hn;rw[hx];exact hk
   exact rI hl n e hk
  simp only[eH]at h;split at h<;>first | (simp at h;done) | skip
  all_goals
   rename_i hx;split at h<;>first | (simp at h;done) | skip
   rename_i l hl;simp only[aa]at h;subst h;exact step hx hl he
theorem pO {c:Ctx}{env env':Env}{F:Hp}{rs:RL}{nx:Nat}{a:Act}{w:World}{slots:List Nat}(hk:eH env slots=some env')(h:fF c N [] ⟨env,F,rs,nx⟩ a w):fF c N [] ⟨env',F,rs,nx⟩ a w where
 size:=h.size
 defers:=h.defers
 fO:=h.fO
 gI:=h.gI
 gS:=h.gS
 ids:=fun n e he=>h.ids n e (rI hk n e he)
 env:=fun n e x hg he hx=>h.env n e x hg (rI hk n e he) hx
 gv:=fun n ch e he=>by simp[rp]at he
theorem VS.eH {env env':Env}{F:Hp}{rs:RL}{nx:Nat}{G:St→Prop}(slots:List Nat)(h:eH env slots=some env')(k:G ⟨env',F,rs,nx⟩):VS N [] ⟨env,F,rs,nx⟩ G:=fun _ _ _ hs=>⟨_,pO h hs,k⟩
theorem VS.freeze {env env':Env}{F:Hp}{rs rs':RL}{nx:Nat}{G:St→Prop}(id:Nat){b:Nat}{cells:List EV}{ty:TypeId}{cap:Nat}{cs:List Value}(slots:List Nat)(hr:fR rs id=some ⟨some b,cells,ty,cap⟩)(hcs:iU rs cells=some cs)(hrs:iq (u9 b id rs)=some rs')(np:Go.TR.eH (At b id env) slots=some env')
  (k: ∀F',F.sub F'→eY F' (some ⟨b,0,none⟩) cs→VS N [] ⟨env',F',rs',nx⟩ G):VS N [] ⟨env,F,rs,nx⟩ G:=by
 intro c a w hs;obtain⟨F',h1,h2,h3⟩:=yD hs hr rfl hcs;rw[fB,aa]at hrs;subst hrs;exact k F' h1 h2 c a w (pO np h3)
theorem VS.done {G:St→Prop}{st:St}(k:G st):VS N [] st G:=VS.id k
def iy (ids:List Nat):RL→RL
 | []=>[]
 | (m,r)::t=>match ids.contains m with
  | true=>iy ids t
  | false=>(m,r)::iy ids t
theorem vO {ids:List Nat}{rs:RL}{k:Nat}:fR (iy ids rs) k=if k∈ids then none else fR rs k:=by
 induction rs with
 | nil=>simp[iy,fR]
 | cons p rs ih=>
  obtain⟨m,s⟩:=p;simp only[iy];split
  ·rename_i hc;rw[ih,e8];by_cases hk:k=m
   ·subst hk;rw[aZ (by simpa using hc),aZ (by simpa using hc)]
   simp only[aY hk]
  rename_i hc;rw[e8,ih,e8];by_cases hk:k=m
  ·subst hk;rw[aZ rfl,aY (by simpa using hc),aZ rfl]
  simp only[aY hk]
theorem C1 {c:Ctx}{env:Env}{F:Hp}{rs rs':RL}{nx:Nat}{a:Act}{w:World}(h:fF c N [] ⟨env,F,rs,nx⟩ a w)(hsub: ∀k r,fR rs' k=some r→fR rs k=some r):fF c N [] ⟨env,F,rs',nx⟩ a w where
 size:=h.size
 defers:=h.defers
 fO:={
  le:=h.fO.le
  own:={
   own:=fun id r hr=>by
    have h1:=h.fO.own.own id r (hsub _ _ hr);cases hb:r.gl with
    | none=>rw[hb]at h1;exact h1
    | some b=>
     rw[hb]at h1;obtain⟨g1,g2,cur,g3,g4,g5⟩:=h1;exact⟨g1,g2,cur,g3,g4,fun j ev x hj hx=>g5 j ev x hj (val_sub hsub hx)⟩
   apart:=fun i j r s b hi hj=>h.fO.own.apart i j r s b (hsub _ _ hi) (hsub _ _ hj) }
  il:=h.fO.il
  new:=fun id r b hr=>h.fO.new id r b (hsub _ _ hr)
  jT:=h.fO.jT
  sz:=h.fO.sz
  tp:=h.fO.tp }
 gI:=⟨h.gI.sub,h.gI.kT,fun id r hid hr=>h.gI.succ id r hid (hsub _ _ hr)⟩
 gS:=fun id r hr=>h.gS id r (hsub _ _ hr)
 ids:=h.ids
 env:=fun n e x hg he hx=>h.env n e x hg he (val_sub hsub hx)
 gv:=fun n ch e he=>by simp[rp]at he
theorem VS.iy {env:Env}{F:Hp}{rs rs':RL}{nx:Nat}{G:St→Prop}(ids:List Nat)(hrs:iq (Go.TR.iy ids rs)=some rs')(k:VS N [] ⟨env,F,rs',nx⟩ G):VS N [] ⟨env,F,rs,nx⟩ G:=by
 intro c a w hs;rw[fB,aa]at hrs;subst hrs;exact k c a w (C1 hs (fun k r hk=>by
  rw[vO]at hk;split at hk
  ·cases hk
  exact hk))
theorem VS.nT {env env':Env}{F:Hp}{rs:RL}{nx:Nat}{G:St→Prop}(s:Nat)(ty:TypeId)(slots:List Nat)(h:lk env s=some (.v (.slice none 0 0)))(np:Go.TR.eH env slots=some env')(k:VS N [] ⟨(s,.row nx 0 0 0)::env',F,(nx,⟨none,[],ty,0⟩)::rs,nx+1⟩ G):VS N [] ⟨env,F,rs,nx⟩ G:=by
 intro c a w hs;have hne: ∀id r,fR rs id=some r→id≠nx:=fun id r hr=>by have:=(hs.gS id r hr).1;simp only at this;omega
 have h0:=hs.env s _ _ rfl h rfl;refine k c a w ?_;exact {
  size:=hs.size
  defers:=hs.defers
  fO:={
   le:=hs.fO.le
   own:={
    own:=fun id r hr=>by
     rw[e8]at hr;split at hr
     ·simp only[aa]at hr;subst hr;exact⟨.inl rfl,rfl⟩
     have h1:=hs.fO.own.own id r hr;cases hb:r.gl with
     | none=>rw[hb]at h1;exact h1
     | some b=>
      rw[hb]at h1;obtain⟨g1,g2,cur,g3,g4,g5⟩:=h1;refine⟨g1,g2,cur,g3,g4,fun j ev x hj hx=>?_⟩;rw[kF ((hs.gS id r hr).2 ev (cT hj))]at hx;exact g5 j ev x hj hx
    apart:=fun i j r s b hi hj hb hs'=>by
     rw[e8]at hi hj;split at hi
     ·simp only[aa]at hi;subst hi;cases hb
     split at hj
     ·simp only[aa]at hj;subst hj;cases hs'
     exact hs.fO.own.apart i j r s b hi hj hb hs' }
   il:=hs.fO.il
   new:=fun id r b hr hb=>by
    rw[e8]at hr;split at hr
    ·simp only[aa]at hr;subst hr;rcases hb with hb | ⟨_,_,hb⟩<;>cases hb
    exact hs.fO.new id r b hr hb
   jT:=hs.fO.jT
   sz:=hs.fO.sz
   tp:=hs.fO.tp }
  gI:=hs.gI.cons _
  gS:=fun id r hr=>by
   simp only[e8]at hr;split at hr
   ·simp only[aa]at hr;subst hr;exact⟨by simp only;omega,fun e he=>by cases he⟩
   obtain⟨h1,h2⟩:=hs.gS id r hr;exact⟨by simp only at h1 ⊢;omega,fun e he=>(h2 e he).mono (dj _)⟩
  ids:=fun n e he=>by
   simp only[kS]at he;split at he
   ·simp only[aa]at he;subst he;simp only[EV.lt];omega
   exact (hs.ids n e (rI np n e he)).mono (dj _)
  env:=fun n e x hg he hx=>by
   simp only[kS]at he;split at he
   ·rename_i hn;subst hn;simp only[aa]at he;subst he;simp only[EV.val,e8,dC,dx,aa]at hx;rw[h0,hx]
   have hl:=rI np n e he;rw[kF (hs.ids n e hl)]at hx;exact hs.env n e x rfl hl hx
  gv:=fun n ch e he=>by simp[rp]at he }
theorem VS.trans {G:St→Prop}{st:St}(h:VS N [] st (fun st'=>VS N [] st' G)):VS N [] st G:=fun c a w hs=>by
 obtain⟨st',h1,h2⟩:=h c a w hs;exact h2 c a w h1
end
section
variable {P:Program} {tb:Tb} {N:Nat} {KK:Exit→St→Prop} {st:St}
def fe {α:Type}(N kn:Nat)(Inv:α→Prop)(T:α→St)(μ:α→Nat)(i:α)(K:Exit→St→Prop):Exit→St→Prop
 | .normal,st=>qN (min kn (T i).nx) N [] st fun st'=>∃j,Inv j∧st'=T j∧μ j<μ i
 | .ret,st=>VS N [] st (K .ret)
 | .exit j,st=>VS N [] st (K (.exit j))
 | .goto j,st=>K (.goto j) st
 | .panic c,st=>K (.panic c) st
 | .outgrown,st=>K .outgrown st
theorem Kn {α:Type}(kn:Nat)(Inv:α→Prop)(T:α→St)(μ:α→Nat)(i:α)(hi:Inv i)(K:Exit→St→Prop):fA N kn (fun s:{ a // Inv a }=>T s.1) (fun s=>μ s.1) ⟨i,hi⟩ K=fe N kn Inv T μ i K:=by
 funext e st;cases e<;>simp only[fA,fe]
 congr 1;funext st';exact propext ⟨fun⟨j,h1,h2⟩=>⟨j.1,j.2,h1,h2⟩,fun⟨j,h0,h1,h2⟩=>⟨⟨j,h0⟩,h1,h2⟩⟩
theorem eU {x:Code}{α:Type}(Inv:α→Prop)(T:α→St)(μ:α→Nat)(i:α)(hi:Inv i)(h0:VS N [] st fun st'=>st'=T i)(hr: ∀i,Inv i→vc P tb N x (fe N st.nx Inv T μ i KK) (T i)):vc P tb N (.loop x) KK st:=
 ⟨{ a // Inv a },fun s=>T s.1,fun s=>μ s.1,fun c a w hs=>by
  obtain⟨st',h1,h2⟩:=h0 c a w hs;exact⟨st',h1,⟨i,hi⟩,h2⟩,fun⟨i,hi⟩=>by rw[Kn];exact hr i hi⟩
theorem I7 {x:Code}{α β:Type}(id:Nat)(Inv:α→Prop)(T:α→St)(μ:α→Nat)(i:α)(JP:β→Prop)(J:β→St)(hi:Inv i)(h0:VS N [] st fun st'=>st'=T i)(hJ: ∀b,JP b→KK (.exit id) (J b))
  (hr: ∀i,Inv i→∀u7:Exit→St→Prop,(∀st',(qN (min st.nx (T i).nx) N [] st' fun st'=>∃j,Inv j∧st'=T j∧μ j<μ i)→u7 .normal st')→(∀st,(VS N [] st fun st'=>∃b,JP b∧st'=J b)→u7 (.exit id) st)→(∀st,KK .ret st→u7 .ret st)→vc P tb N x u7 (T i)):vc P tb N (.loop x) KK st:=
 eU Inv T μ i hi h0 fun i hi=>hr i hi _ (fun st h=>h) (fun st h c a w hs=>by
  obtain⟨st',h1,b,h2,rfl⟩:=h c a w hs;exact⟨_,h1,hJ b h2⟩) (fun st h=>VS.id h)
theorem fj {α:Type}{kn:Nat}{Inv:α→Prop}{T:α→St}{μ:α→Nat}{i:α}(j:α)(hj:Inv j)(hm:μ j<μ i)(h:VS N [] st fun st'=>st'=T j):fe N kn Inv T μ i KK .normal st:=fun c a w _ hs=>by
 obtain⟨st',h1,h2⟩:=h c a w hs;exact⟨st',h1,j,hj,h2,hm⟩
theorem qN.of {k:Nat}{G:St→Prop}(h:VS N [] st G):qN k N [] st G:=fun c a w _ hs=>h c a w hs
def WY (n:Nat):EV→Bool
 | .v _=>true
 | .loc id _=>Nat.blt id n
 | .row id _ _ _=>Nat.blt id n
def EW (n:Nat):Env→Bool
 | []=>true
 | (_,e)::t=>WY n e&&EW n t
def MZ (n:Nat):RL→Prop
 | []=>True
 | (id,r)::t=>(id<n∧ ∀e∈r.cells,e.lt n)∧MZ n t
theorem Lq {n:Nat}{e:EV}(h:WY n e=true):e.lt n:=by
 cases e<;>simp only[WY,Nat.blt_eq]at h<;>first | trivial | exact h
theorem D1 {n:Nat}: ∀{env:Env},EW n env=true→∀k e,lk env k=some e→e.lt n
 | [],_,k,e,h=>by simp[lk]at h
 | (m,x)::t,h,k,e,he=>by
  simp only[EW,aL]at h;rw[kS]at he;split at he
  ·simp only[aa]at he;subst he;exact Lq h.1
  exact D1 h.2 k e he
theorem uj {n:Nat}: ∀{rs:RL},MZ n rs→∀id r,fR rs id=some r→id<n∧ ∀e∈r.cells,e.lt n
 | [],_,id,r,h=>by simp[fR]at h
 | (m,x)::t,h,id,r,hr=>by
  rw[e8]at hr;split at hr
  ·rename_i hid;simp only[aa]at hr;subst hid hr;exact h.1
  exact uj h.2 id r hr
theorem qN.clean {k:Nat}{env env':Env}{F:Hp}{rs rs':RL}{nx:Nat}{G:St→Prop}(drop:List Nat)(slots:List Nat)(hrs:iq (Go.TR.iy drop rs)=some rs')(np:Go.TR.eH env slots=some env')(h1:EW k env'=true)(h2:MZ k rs')(kk:G ⟨env',F,rs',k⟩):qN k N [] ⟨env,F,rs,nx⟩ G:=by
 intro c a w hk hs;rw[fB,aa]at hrs;subst hrs;have hs1:=pO np (C1 (rs':=Go.TR.iy drop rs) hs (fun k r hk=>by
  rw[vO]at hk;split at hk
  ·cases hk
  exact hk))
 exact⟨⟨env',F,Go.TR.iy drop rs,k⟩,{
  size:=hs1.size
  defers:=hs1.defers
  fO:=hs1.fO
  env:=hs1.env
  gI:=⟨hs1.gI.sub,hk,hs1.gI.succ⟩
  gS:=uj h2
  ids:=D1 h1
  gv:=fun n ch e he=>by simp[rp]at he },kk⟩
theorem iH {α:Type}{kn:Nat}{Inv:α→Prop}{T:α→St}{μ:α→Nat}{i:α}{env env':Env}{F:Hp}{rs rs':RL}{nx k:Nat}(j:α)(drop:List Nat)(slots:List Nat)(hj:Inv j)(hm:μ j<μ i)(hrs:iq (Go.TR.iy drop rs)=some rs')(np:Go.TR.eH env slots=some env')(hk:(T i).nx=k)(h1:EW k env'=true)(h2:MZ k rs')(h:(⟨env',F,rs',k⟩:St)=T j):fe N kn Inv T μ i KK .normal ⟨env,F,rs,nx⟩:=by
 subst hk;exact fun c a w hk hs=>qN.clean drop slots hrs np h1 h2 ⟨j,hj,h,hm⟩ c a w (dk hk (Nat.min_le_right _ _)) hs
theorem xR {α:Type}{kn:Nat}{Inv:α→Prop}{T:α→St}{μ:α→Nat}{i:α}(k:KK .ret st):fe N kn Inv T μ i KK .ret st:=VS.id k
theorem yA {α:Type}{kn:Nat}{Inv:α→Prop}{T:α→St}{μ:α→Nat}{i:α}{id:Nat}(k:KK (.exit id) st):fe N kn Inv T μ i KK (.exit id) st:=VS.id k
end
end
section
open Go
section
variable {P:Program} {tb:Tb} {N:Nat} {st:St} {KK:Exit→St→Prop}
end
end
section
open Go
section
variable {P:Program} {tb:Tb} {N:Nat} {all rest:List Oper} {K:fa→St→Prop} {st:St}
theorem fI {c:Ctx}{a:Act}{w:World}(h:fF c N [] st a w){x:Operand}{e:EV}(hx:gL st.rs [] st.env [] x=some e):e.val st.rs=some (a.eval x):=gO h (iR a) _ _ hx
def Rr (op:BinOp):Option EV→Option EV→Option Bool
 | some (.v (.pointer none)),some (.v (.pointer none))=>match op with
  | .eql=>some true
  | .neq=>some false
  | _=>none
 | some (.loc _ _),some (.v (.pointer none))=>match op with
  | .eql=>some false
  | .neq=>some true
  | _=>none
 | some (.loc i o),some (.loc j o')=>match Nat.beq i j&&Nat.beq o o' with
  | true=>(match op with
   | .eql=>some true
   | .neq=>some false
   | _=>none)
  | false=>none
 | _,_=>none
theorem Px {t e:TypeId}{j:TypeInfo}(hp:P.underlying t=some (.pointer e))(hte:P.info? e=some j)(w:World):
  (∀a:Option Addr,(binOp .eql t (.pointer a) (.pointer none)).run P w= .ok (.bool a.isNone) w)∧(∀a:Option Addr,(binOp .neq t (.pointer a) (.pointer none)).run P w= .ok (.bool (!a.isNone)) w)∧
  (∀a:Addr,(binOp .eql t (.pointer (some a)) (.pointer (some a))).run P w= .ok (.bool true) w)∧(∀a:Addr,(binOp .neq t (.pointer (some a)) (.pointer (some a))).run P w= .ok (.bool false) w):=by
 have h: ∀(d:Nat) (a:Option Addr),(Op.equalIn (d+1) t (.pointer a) (.pointer none)).run P w= .ok a.isNone w:=fun d a=>by
  cases a<;>simp[Op.equalIn,run_underlying hp]
 have h2: ∀(d:Nat) (a:Addr),(Op.equalIn (d+1) t (.pointer (some a)) (.pointer (some a))).run P w= .ok true w:=fun d a=>by
  simp[Op.equalIn,run_underlying hp,sizeOf,typeInfo,hte,run_sameAddr_same]
 refine⟨fun a=>?_,fun a=>?_,fun a=>?_,fun a=>?_⟩<;>simp only[binOp]<;>simp[Op.equal,Op.maxDepth,h 9999,h2 9999]
theorem rr {d:Nat}{op:BinOp}{t u e:TypeId}{ti:TI}{x y:Operand}{ty:TypeId}{pos:String}{af:Array Edge}{env:Env}{F:Hp}{rs:RL}{nx:Nat}{b:Bool}(htb:gZ P tb)(ht:tk tb t=some (.pointer e))(hi:tb e=some ti)
  (h:Rr op (gL rs [] env [] x) (gL rs [] env [] y)=some b) (hd:Nat.blt d N=true)
  (k:dT P tb N false all rest K [] ⟨(d,.v (.bool b))::env,F,rs,nx⟩):dT P tb N false all (⟨some d,.binOp op t x y u,ty,pos,af,none⟩::rest) K [] ⟨env,F,rs,nx⟩:=by
 obtain⟨YN,hu,hf⟩:=gN htb ht;simp only[TK.fits]at hf;subst hf;obtain⟨info,hinfo,_⟩:=(htb e ti hi).info;refine q9 (.v (.bool b)) hd (fun c a w o hs ho=>⟨.bool b,w,?_,hs,rfl⟩) k;obtain⟨h1,h2,h3,h4⟩:=Px (P:=P) hu hinfo w;have run:(binOp op t (a.eval x) (a.eval y)).run P w= .ok (.bool b) w:=by
  unfold Rr at h;split at h
  ·rename_i hx hy;have ex:=fI hs hx;have ey:=fI hs hy;simp only[EV.val,aa]at ex ey;rw[←ex,←ey];split at h<;>simp at h<;>subst h
   ·exact h1 none
   exact h2 none
  ·rename_i i o hx hy;have ex:=fI hs hx;have ey:=fI hs hy;simp only[EV.val,aa]at ey;rw[←ey];simp only[EV.val]at ex;split at ex
   ·split at ex
    ·simp only[aa]at ex;rw[←ex];split at h<;>simp at h<;>subst h
     ·exact h1 (some _)
     exact h2 (some _)
    cases ex
   cases ex
  ·rename_i i o j o' hx hy;split at h
   ·rename_i hij;simp only[aL,Nat.beq_eq]at hij;obtain⟨rfl,rfl⟩:=hij;have ex:=fI hs hx;have ey:=fI hs hy;rw[ex]at ey;simp only[aa]at ey;rw[←ey];simp only[EV.val]at ex;split at ex
    ·split at ex
     ·simp only[aa]at ex;rw[←ex];split at h<;>simp at h<;>subst h
      ·exact h3 _
      exact h4 _
     cases ex
    cases ex
   cases h
  cases h
 have S6: ∀e:EV,(∃p,e= .v (.pointer p))∨(∃i o,e= .loc i o)→∀v,e.val rs=some v→∃p,v= .pointer p:=by
  rintro e (⟨p,rfl⟩ | ⟨i,o,rfl⟩) v hv
  ·simp only[EV.val,aa]at hv;exact⟨p,hv.symm⟩
  simp only[EV.val]at hv;split at hv
  ·split at hv
   ·simp only[aa]at hv;exact⟨_,hv.symm⟩
   cases hv
  cases hv
 have hg:(eqGuard op t x y (a.eval x) (a.eval y)).run P w= .ok () w:=by
  have:(∃p,a.eval x= .pointer p)∧ ∃q,a.eval y= .pointer q:=by
   unfold Rr at h;split at h
   ·rename_i hx hy;exact⟨S6 _ (.inl ⟨_,rfl⟩) _ (fI hs hx),S6 _ (.inl ⟨_,rfl⟩) _ (fI hs hy)⟩
   ·rename_i i o hx hy;exact⟨S6 _ (.inr ⟨_,_,rfl⟩) _ (fI hs hx),S6 _ (.inl ⟨_,rfl⟩) _ (fI hs hy)⟩
   ·rename_i i o j o' hx hy;exact⟨S6 _ (.inr ⟨_,_,rfl⟩) _ (fI hs hx),S6 _ (.inr ⟨_,_,rfl⟩) _ (fI hs hy)⟩
   cases h
  obtain⟨⟨p,e1⟩,q,e2⟩:=this;rw[e1,e2];unfold eqGuard;cases op<;>rfl
 simp only[execOp,ho,run_bind,hg,run,run_pure]
theorem AG {c:Ctx}{a:Act}{w:World}(h:fF c N [] st a w){id o:Nat}{v:Value}(hv:(EV.loc id o).val st.rs=some v): ∃r b,fR st.rs id=some r∧r.gl=some b∧v= .pointer (some ⟨b,o,none⟩)∧ ∃cur:Array Value,w.heap[b]? =some (.cells cur r.ty (0,0))∧cur.size=r.cap:=by
 simp only[EV.val]at hv;split at hv
 ·rename_i r hr;split at hv
  ·rename_i b hb;simp only[aa]at hv;have ho:=h.fO.own.own id r hr;rw[hb]at ho;obtain⟨_,_,cur,h1,h2,_⟩:=ho;exact⟨r,b,hr,hb,hv.symm,cur,h1,h2⟩
  cases hv
 cases hv
theorem zA {w:World}{b:Nat}{cur:Array Value}{ty:TypeId}(h:w.heap[b]? =some (.cells cur ty (0,0))):w.shape? b=some (ty,cur.size):=by
 simp[World.shape?,h]
theorem Gt {d:Nat}{s t e:TypeId}{ti:TI}{x:Operand}{ty:TypeId}{pos:String}{af:Array Edge}{env:Env}{F:Hp}{rs:RL}{nx id:Nat}{r:kj}(htb:gZ P tb)(hs:tk tb s=some (.pointer e))(ht:P.underlying t=some .unsafePointer)(hi:tb e=some ti)(hz:Nat.blt 0 ti.size=true)
  (hx:gL rs [] env [] x=some (.loc id 0)) (hr:fR rs id=some r) (hc:Nat.blt 0 r.cap=true) (hd:Nat.blt d N=true)
  (k:dT P tb N false all rest K [] ⟨(d,.loc id 0)::env,F,rs,nx⟩):dT P tb N false all (⟨some d,.convert s t x,ty,pos,af,none⟩::rest) K [] ⟨env,F,rs,nx⟩:=by
 obtain⟨YN,hu,hf⟩:=gN htb hs;simp only[TK.fits]at hf;subst hf;obtain⟨info,hinfo,hsz,_⟩:=(htb e ti hi).info;refine q9 (.loc id 0) hd (fun c a w o hs ho=>?_) k;have ex:=fI hs hx;obtain⟨r',b,h1,h2,h3,cur,h4,h5⟩:=AG hs ex;simp only at h1 ex;rw[hr,aa]at h1;subst h1;refine⟨a.eval x,w,?_,hs,ex⟩;have hz':0<ti.size:=by simpa using hz
 have hc':0<r.cap:=by simpa using hc
 have:=Lib.run_to_unsafe (P:=P) w ⟨b,0,none⟩ hu ht hinfo (by omega) (zA h4) (by simpa [h5] using hc');rw[←h3]at this;simp only[execOp,ho,run_bind,this,run_pure]
theorem Cv {d:Nat}{s t e:TypeId}{ti:TI}{x:Operand}{ty:TypeId}{pos:String}{af:Array Edge}{env:Env}{F:Hp}{rs:RL}{nx id:Nat}{r:kj}(htb:gZ P tb)(hs:P.underlying s=some .unsafePointer)(ht:tk tb t=some (.pointer e))(hi:tb e=some ti)
  (hx:gL rs [] env [] x=some (.loc id 0)) (hr:fR rs id=some r) (hl:liesAt P P.depth r.ty (r.cap / P.cellsOf r.ty) 0 e 1=true) (hd:Nat.blt d N=true)
  (k:dT P tb N false all rest K [] ⟨(d,.loc id 0)::env,F,rs,nx⟩):dT P tb N false all (⟨some d,.convert s t x,ty,pos,af,none⟩::rest) K [] ⟨env,F,rs,nx⟩:=by
 obtain⟨YN,hu,hf⟩:=gN htb ht;simp only[TK.fits]at hf;subst hf;obtain⟨info,hinfo,_⟩:=(htb e ti hi).info;refine q9 (.loc id 0) hd (fun c a w o hs' ho=>?_) k;have ex:=fI hs' hx;obtain⟨r',b,h1,h2,h3,cur,h4,h5⟩:=AG hs' ex;simp only at h1 ex;rw[hr,aa]at h1;subst h1;refine⟨a.eval x,w,?_,hs',ex⟩;have:=Lib.run_from_unsafe (P:=P) w ⟨b,0,none⟩ hs hu hinfo (zA h4) (by rw[h5];exact hl);rw[←h3]at this;simp only[execOp,ho,run_bind,this,run_pure]
theorem R5 {d:Nat}{f:Nat}{x:Operand}{ts:Array TypeId}{fn:Func}{ty:TypeId}{pos:String}{af:Array Edge}{e:EV}{env:Env}{F:Hp}{rs:RL}{nx:Nat}(hf:P.funcs[f]? =some fn)(hname:(fn.name== "runtime.NumGoroutine")=false)
  (hb:fn.body.isNone=true) (hn:Extern.findNext fn=none) (he:Extern.find fn=some Extern.AbiNoEscape.same) (hx:gL rs [] env [] x=some e) (hd:Nat.blt d N=true)
  (k:dT P tb N false all rest K [] ⟨(d,e)::env,F,rs,nx⟩):dT P tb N false all (⟨some d,.call ⟨.value (.func f),#[x],ts⟩,ty,pos,af,none⟩::rest) K [] ⟨env,F,rs,nx⟩:=by
 refine q9 e hd (fun c a w o hs ho=>⟨a.eval x,w,?_,hs,fI hs hx⟩) k;have h1:a.eval (.func f)= .func (.func f) #[] #[]:=rfl;have h2:=run_callFunc_extern hf hname hb hn he #[a.eval x] w;rw[Lib.run_noEscape]at h2;simp only[Result.andThen]at h2;simp[execOp,ho,resolve,h1,Deferred.ofValue,invoke,h2]
theorem PE {c:Ctx}{g:fa}{a:Act}{w w':World}{b:Nat}(h:fF c N g st a w)(hp:g9 [b] w w')(hF:st.F b=none)(hb:c.wE.heap.size≤b)(hrs: ∀k r,fR st.rs k=some r→r.gl≠some b):fF c N g st a w':=by
 refine { h with fO:=?_ };exact {
  le:=h.fO.le.il hp (fun x hx=>by rw[aB]at hx;subst hx;exact hF)
  own:={
   own:=fun id r hr=>by
    have h1:=h.fO.own.own id r hr;cases hk:r.gl with
    | none=>rw[hk]at h1;exact h1
    | some b'=>
     rw[hk]at h1;obtain⟨g1,g2,cur,g3,g4⟩:=h1;have hne:b'≠b:=fun e=>hrs id r hr (by rw[hk,e]);exact⟨g1,g2,cur,(hp.block b' (gJ g3) (by simpa using hne)).trans g3,g4⟩
   apart:=h.fO.own.apart }
  il:=h.fO.il.trans' hp (fun y hy=>by rw[aB]at hy;subst hy;exact .inr hb)
  new:=h.fO.new
  jT:=h.fO.jT
  sz:=dk h.fO.sz hp.size
  tp:=h.fO.tp }
theorem DP (w:World)(b n:Nat):g9 [b] w (w.freeze ⟨b,0,none⟩ n):=by
 unfold World.freeze;split
 ·exact g9.refl _ _
 refine⟨rfl,rfl,rfl,by simp,fun k hk hx=>?_⟩;have:b≠k:=fun e=>hx (by simp[e]);simp[Array.getElem?_modify,this]
theorem Pd {d:Nat}{x y:Operand}{t1 t2:TypeId}{ty:TypeId}{pos:String}{af:Array Edge}{env:Env}{F:Hp}{rs:RL}{nx:Nat}(hx:gL rs [] env [] x=some (.v (.pointer none)))(hy:gL rs [] env [] y=some (.v (.int .i64 0)))(hd:Nat.blt d N=true)
  (k:dT P tb N false all rest K [] ⟨(d,.v (S []))::env,F,rs,nx⟩):dT P tb N false all (⟨some d,.call ⟨.builtin .unsafeString,#[x,y],#[t1,t2]⟩,ty,pos,af,none⟩::rest) K [] ⟨env,F,rs,nx⟩:=by
 refine q9 (.v (S [])) hd (fun c' a w o hs ho=>?_) k;have ex:=fI hs hx;have ey:=fI hs hy;simp only[EV.val,aa]at ex ey;refine⟨S [],w,?_,hs,rfl⟩;have:=Lib.run_unsafeString_none (P:=P) w t1 t2 o.type none;rw[ex,ey]at this;simp[execOp,ho,resolve,invoke,builtin,this];rfl
theorem Rm {d:Nat}{x y:Operand}{t1 t2:TypeId}{ty:TypeId}{pos:String}{af:Array Edge}{env:Env}{F:Hp}{rs rs':RL}{nx id m b cap:Nat}{cells:List EV}{xD:TypeId}(l:List UInt8)(hp:P.underlying t1=some (.pointer xD))(h1:P.cellsOf xD=1)(hx:gL rs [] env [] x=some (.loc id 0))(hr:fR rs id=some ⟨some b,cells,xD,cap⟩)(hy:gL rs [] env [] y=some (.v (.int .i64 (m:Nat))))(hm:m=l.length)(hd:Nat.blt d N=true)
  (hrs:iq (tJ rs id)=some rs') (h0:l≠[]) (hl:l.length≤9223372036854775807) (hcl:l.length≤cells.length) (hc:cells.take l.length=l.map fun b=>.v (.int .u8 (b.toNat:Int)))
  (k:dT P tb N false all rest K [] ⟨(d,.v (S l))::env,F,rs',nx⟩):dT P tb N false all (⟨some d,.call ⟨.builtin .unsafeString,#[x,y],#[t1,t2]⟩,ty,pos,af,none⟩::rest) K [] ⟨env,F,rs,nx⟩:=by
 rw[fB,aa]at hrs;subst hrs hm;refine q9 (.v (S l)) hd (fun c' a w o hs ho=>?_) k;have ex:=fI hs hx;have ey:=fI hs hy;simp only[EV.val,hr,aa]at ex ey;have ho':=hs.fO.own.own id _ hr;obtain⟨g1,g2,cur,g3,g4,g5⟩:=ho';simp only at g1 g2 g4 g5;refine⟨S l,w.freeze ⟨b,0,none⟩ l.length,?_,PE (b:=b) (C1 hs fun k r hk=>?_) (DP w b _) g1 (hs.fO.new id _ b hr (.inl rfl)) (fun k r hk hb=>?_),rfl⟩
 ·have:=Lib.run_unsafeString_row (P:=P) w t1 t2 o.type xD hp h1 b cur.size (zA g3) l h0 (by omega) hl (fun j u hj=>by
   have hlt:j<l.length:=(cz.1 hj).1;have e2:cells[j]? =some (.v (.int .u8 (u.toNat:Int))):=by
    have:=a8 (fun q=>q[j]?) hc;simp only[cB,hlt,dC,aI,hj,aJ]at this;exact this
   have e3:=g5 j _ _ e2 rfl;rw[mB];simp only[World.cell?,g3,aP,Option.isSome_none,bq,dB];exact e3)
  rw[ex,ey]at this;simp[execOp,ho,resolve,invoke,builtin,this];rfl
 ·rw[pj]at hk;split at hk
  ·cases hk
  exact hk
 simp only at hk;rw[pj]at hk;split at hk
 ·cases hk
 rename_i hne;exact hne (hs.fO.own.apart _ _ _ _ _ hk hr hb rfl)
end
end
section
open Go
section
variable {P:Program} {tb:Tb} {N:Nat} {KK:Exit→St→Prop} {st:St}
def KU (ρ:List (Nat×Nat))(n:Nat):Option Nat:=
 match ρ with
 | []=>none
 | (m,k)::t=>match Nat.beq n m with
  | true=>some k
  | false=>KU t n
def qj (ρ:List (Nat×Nat)):EV→Option EV
 | .v x=>some (.v x)
 | .loc id o=>match KU ρ id with
  | some k=>some (.loc k o)
  | none=>none
 | .row id o n c=>match KU ρ id with
  | some k=>some (.row k o n c)
  | none=>none
def sx (ρ:List (Nat×Nat)):List EV→Option (List EV)
 | []=>some []
 | e::t=>match qj ρ e,sx ρ t with
  | some e',some t'=>some (e'::t')
  | _,_=>none
def qp (ρ:List (Nat×Nat))(env:Env):List Nat→Option Env
 | []=>some []
 | n::t=>match lk env n with
  | some e=>(match qj ρ e,qp ρ env t with
   | some e',some l=>some ((n,e')::l)
   | _,_=>none)
  | none=>none
def Rx (ρ:List (Nat×Nat))(r r':kj):Prop:=r'.gl=r.gl∧r'.ty=r.ty∧r'.cap=r.cap∧((r'.cells=r.cells∧ ∀e∈r.cells,∃x,e= .v x)∨sx ρ r.cells=some r'.cells)
def lQ (ρ:List (Nat×Nat))(rs:RL):List (Nat×Nat)→RL→Prop
 | [],[]=>True
 | (i,j)::t,(j',r')::rs'=>j'=j∧(∃r,fR rs i=some r∧Rx ρ r r')∧lQ ρ rs t rs'
 | _,_=>False
theorem dJ {ρ:List (Nat×Nat)}{rs rs':RL}{i j:Nat}{t:List (Nat×Nat)}{r':kj}{l:List Value}(h:fR rs i=some r')(hc:r'.cells=l.map EV.v)(k:lQ ρ rs t rs'):lQ ρ rs ((i,j)::t) ((j,r')::rs'):=
 ⟨rfl,⟨r',h,rfl,rfl,rfl,.inl ⟨rfl,fun e he=>by
  rw[hc]at he;obtain⟨x,_,rfl⟩:=aG.1 he;exact⟨x,rfl⟩⟩⟩,k⟩
theorem dU {ρ:List (Nat×Nat)}{rs rs':RL}{i j:Nat}{t:List (Nat×Nat)}{r':kj}(h:((fR rs i).map fun r=>(r.gl,r.ty,r.cap,sx ρ r.cells))=some (r'.gl,r'.ty,r'.cap,some r'.cells))(k:lQ ρ rs t rs'):lQ ρ rs ((i,j)::t) ((j,r')::rs'):=by
 obtain⟨r,h1,h2⟩:=aS.1 h;simp only[aC]at h2;exact⟨rfl,⟨r,h1,h2.1.symm,h2.2.1.symm,h2.2.2.1.symm,.inr h2.2.2.2⟩,k⟩
theorem ff {ρ:List (Nat×Nat)}{rs rs':RL}{i j:Nat}{t:List (Nat×Nat)}{r':kj}(h: ∃r,fR rs i=some r∧Rx ρ r r')(k:lQ ρ rs t rs'):lQ ρ rs ((i,j)::t) ((j,r')::rs'):=⟨rfl,h,k⟩
theorem fw (l:List Value): ∀e∈l.map EV.v,∃x,e= .v x:=fun e he=>by
 obtain⟨x,_,rfl⟩:=aG.1 he;exact⟨x,rfl⟩
theorem lQ.lk {ρ:List (Nat×Nat)}{rs:RL}: ∀{t:List (Nat×Nat)} {rs':RL},lQ ρ rs t rs'→∀j r',fR rs' j=some r'→∃i r,(i,j)∈t∧fR rs i=some r∧Rx ρ r r'
 | [],[],_,j,r',h=>by simp[fR]at h
 | (i,j0)::t,(j1,r1)::rs',h,j,r',hr=>by
  obtain⟨rfl,⟨r,h1,h2⟩,h3⟩:=h;rw[e8]at hr;split at hr
  ·rename_i hj;simp only[aa]at hr;subst hj hr;exact⟨i,r,cP,h1,h2⟩
  obtain⟨i',r2,g1,g2⟩:=h3.lk j r' hr;exact⟨i',r2,cO _ g1,g2⟩
 | [],_::_,h,_,_,_=>h.elim
 | _::_,[],h,_,_,_=>h.elim
def oW:List (Nat×Nat)→List Nat→Bool
 | [],_=>true
 | (i,_)::t,seen=> !(seen.contains i)&&oW t (i::seen)
def pc:List (Nat×Nat)→List Nat→Bool
 | [],_=>true
 | (_,j)::t,seen=> !(seen.contains j)&&pc t (j::seen)
theorem II: ∀{l:List (Nat×Nat)}{seen:List Nat},oW l seen=true→(l.map (·.1)).Nodup∧ ∀x∈l,x.1 ∉ seen
 | [],_,_=>⟨by simp,by simp⟩
 | (i,j)::t,seen,h=>by
  simp only[oW,aL,bz,List.contains_eq_mem,aU]at h;obtain⟨h1,h2⟩:=II h.2;refine⟨?_,fun x hx=>?_⟩
  ·simp only[a9,cY];refine⟨fun hm=>?_,h1⟩;obtain⟨y,hy,e⟩:=aG.1 hm;exact h2 y hy (by rw[e];exact cP)
  rcases aT.1 hx with rfl | hx
  ·exact h.1
  exact fun hs=>h2 x hx (cO _ hs)
theorem BF: ∀{l:List (Nat×Nat)}{seen:List Nat},pc l seen=true→(l.map (·.2)).Nodup∧ ∀x∈l,x.2 ∉ seen
 | [],_,_=>⟨by simp,by simp⟩
 | (i,j)::t,seen,h=>by
  simp only[pc,aL,bz,List.contains_eq_mem,aU]at h;obtain⟨h1,h2⟩:=BF h.2;refine⟨?_,fun x hx=>?_⟩
  ·simp only[a9,cY];refine⟨fun hm=>?_,h1⟩;obtain⟨y,hy,e⟩:=aG.1 hm;exact h2 y hy (by rw[e];exact cP)
  rcases aT.1 hx with rfl | hx
  ·exact h.1
  exact fun hs=>h2 x hx (cO _ hs)
theorem tO {ρ:List (Nat×Nat)}{n k:Nat}(h:KU ρ n=some k):(n,k)∈ρ:=by
 induction ρ with
 | nil=>simp[KU]at h
 | cons p t ih=>
  obtain⟨m,q⟩:=p;simp only[KU]at h;split at h
  ·rename_i hb;simp only[aa]at h;rw[dg hb,h];exact cP
  exact cO _ (ih h)
theorem JK {l:List (Nat×Nat)}(h:(l.map (·.1)).Nodup){i j j':Nat}(h1:(i,j)∈l)(h2:(i,j')∈l):j=j':=by
 induction l with
 | nil=>simp at h1
 | cons p t ih=>
  simp only[a9,cY]at h;rcases aT.1 h1 with e1 | h1<;>rcases aT.1 h2 with e2 | h2
  ·rw[←e2]at e1;cases e1;rfl
  ·exact absurd (aG.2 ⟨_,h2,by rw[←e1]⟩) h.1
  ·exact absurd (aG.2 ⟨_,h1,by rw[←e2]⟩) h.1
  exact ih h.2 h1 h2
theorem AY {l:List (Nat×Nat)}(h:(l.map (·.2)).Nodup){i i' j:Nat}(h1:(i,j)∈l)(h2:(i',j)∈l):i=i':=by
 induction l with
 | nil=>simp at h1
 | cons p t ih=>
  simp only[a9,cY]at h;rcases aT.1 h1 with e1 | h1<;>rcases aT.1 h2 with e2 | h2
  ·rw[←e2]at e1;cases e1;rfl
  ·exact absurd (aG.2 ⟨_,h2,by rw[←e1]⟩) h.1
  ·exact absurd (aG.2 ⟨_,h1,by rw[←e2]⟩) h.1
  exact ih h.2 h1 h2
def vd (k nx:Nat):List (Nat×Nat)→Bool
 | []=>true
 | (i,j)::t=>Nat.blt j nx&&(Nat.beq i j||Nat.ble k j)&&vd k nx t
theorem EA {k nx:Nat}: ∀{l:List (Nat×Nat)},vd k nx l=true→∀i j,(i,j)∈l→j<nx∧(i=j∨k≤j)
 | [],_,i,j,h=>by simp at h
 | (a,b)::t,h,i,j,hm=>by
  simp only[vd,aL,bD,Nat.blt_eq,Nat.beq_eq,Nat.ble_eq]at h;rcases aT.1 hm with e | hm
  ·cases e;exact h.1
  exact EA h.2 i j hm
theorem Jb {ρ:List (Nat×Nat)}{rs rs':RL}(hnd:(ρ.map (·.2)).Nodup)(h:lQ ρ rs ρ rs'){e e':EV}(he:qj ρ e=some e'){x:Value}(hx:e'.val rs'=some x):e.val rs=some x:=by
 cases e with
 | v y=>simp only[qj,aa]at he;subst he;exact hx
 | loc id o=>
  simp only[qj]at he;split at he
  ·rename_i k hk;simp only[aa]at he;subst he;simp only[EV.val]at hx ⊢;cases hr:fR rs' k with
   | none=>simp[hr]at hx
   | some r'=>
    obtain⟨i,r,h1,h2,h3,_⟩:=h.lk k r' hr;have:i=id:=AY hnd h1 (tO hk);subst this;rw[hr]at hx;rw[h2];simp only[h3]at hx ⊢;exact hx
  cases he
 | row id o n c=>
  simp only[qj]at he;split at he
  ·rename_i k hk;simp only[aa]at he;subst he;simp only[EV.val]at hx ⊢;cases hr:fR rs' k with
   | none=>simp[hr]at hx
   | some r'=>
    obtain⟨i,r,h1,h2,h3,_⟩:=h.lk k r' hr;have:i=id:=AY hnd h1 (tO hk);subst this;rw[hr]at hx;rw[h2];simp only[h3]at hx ⊢;exact hx
  cases he
theorem oe {ρ:List (Nat×Nat)}: ∀{l l':List EV},sx ρ l=some l'→l'.length=l.length∧ ∀(j:Nat) (e':EV),l'[j]? =some e'→∃e,l[j]? =some e∧qj ρ e=some e'
 | [],l',h=>by simp only[sx,aa]at h;subst h;exact⟨rfl,by simp⟩
 | e::t,l',h=>by
  simp only[sx]at h;split at h
  ·rename_i e1 t1 h1 h2;simp only[aa]at h;subst h;obtain⟨g1,g2⟩:=oe h2;refine⟨by simp[g1],fun j e' hj=>?_⟩;cases j with
   | zero=>simp at hj;subst hj;exact⟨e,rfl,h1⟩
   | succ j=>simpa using g2 j e' (by simpa using hj)
  cases h
theorem vI {ρ:List (Nat×Nat)}{env:Env}: ∀{slots:List Nat} {env':Env},qp ρ env slots=some env'→∀n e',lk env' n=some e'→∃e,lk env n=some e∧qj ρ e=some e'
 | [],env',h,n,e',hn=>by simp only[qp,aa]at h;subst h;simp[lk]at hn
 | s::t,env',h,n,e',hn=>by
  simp only[qp]at h;split at h
  ·rename_i e he;split at h
   ·rename_i e1 l h1 h2;simp only[aa]at h;subst h;rw[kS]at hn;split at hn
    ·rename_i hns;simp only[aa]at hn;subst hns hn;exact⟨e,he,h1⟩
    exact vI h2 n e' hn
   cases h
  cases h
theorem I8 {ρ:List (Nat×Nat)}{nx:Nat}(hb: ∀i j,(i,j)∈ρ→j<nx){e e':EV}(h:qj ρ e=some e'):e'.lt nx:=by
 cases e with
 | v y=>simp only[qj,aa]at h;subst h;trivial
 | loc id o=>
  simp only[qj]at h;split at h
  ·rename_i k hk;simp only[aa]at h;subst h;exact hb _ _ (tO hk)
  cases h
 | row id o n c=>
  simp only[qj]at h;split at h
  ·rename_i k hk;simp only[aa]at h;subst h;exact hb _ _ (tO hk)
  cases h
theorem Sb {ρ:List (Nat×Nat)}{r r':kj}{b:Nat}(b1:r'.gl=r.gl)(b2:r'.ty=r.ty)(b4:(r'.cells=r.cells∧ ∀e∈r.cells,∃x,e= .v x)∨sx ρ r.cells=some r'.cells)(h:r'.at b):r.at b:=by
 rcases h with h | ⟨h1,h0,h2⟩
 ·exact .inl (b1 ▸ h)
 refine .inr ⟨b1 ▸ h1,b2 ▸ h0,?_⟩;rcases b4 with⟨b4,_⟩ | b4
 ·rw[←b4];exact h2
 rw[h2]at b4;have hl:=(oe b4).1;obtain⟨e,g1,g2⟩:=(oe b4).2 0 _ rfl;cases hc:r.cells with
 | nil=>rw[hc]at hl;simp at hl
 | cons e1 t=>
  rw[hc]at hl g1;simp only[aH,cH,aP,Nat.add_eq_right]at hl;simp only[cr,aa]at g1;subst g1;have ht:t=[]:=aq (by omega);rw[ht];cases e1 with
  | v x=>simp only[qj,aa]at g2;rw[g2]
  | loc i o=>simp only[qj]at g2;split at g2<;>cases g2
  | row i o n c=>simp only[qj]at g2;split at g2<;>cases g2
theorem Cr {c:Ctx}{env env':Env}{F:Hp}{rs rs':RL}{nx nx' k:Nat}{a:Act}{w:World}(ρ:List (Nat×Nat))(slots:List Nat)(hk:c.QI≤k)(hs:fF c N [] ⟨env,F,rs,nx⟩ a w)(hr:lQ ρ rs ρ rs')(np:qp ρ env slots=some env')
  (h1:oW ρ []=true) (h2:pc ρ []=true) (h3:vd k nx' ρ=true) (h4:k≤nx'):fF c N [] ⟨env',F,rs',nx'⟩ a w:=by
 have nd1:=(II h1).1;have nd2:=(BF h2).1;have hb:=EA h3;have hval: ∀e e' x,qj ρ e=some e'→e'.val rs'=some x→e.val rs=some x:=fun e e' x h hx=>Jb nd2 hr h hx;exact {
  size:=hs.size
  defers:=hs.defers
  fO:={
   le:=hs.fO.le
   own:={
    own:=fun id r' hr'=>by
     obtain⟨i,r,g1,g2,b1,b2,b3,b4⟩:=hr.lk id r' hr';have ho:=hs.fO.own.own i r g2;rw[b1];cases hbk:r.gl with
     | none=>
      rw[hbk]at ho;refine⟨?_,by rw[b3];exact ho.2⟩;rcases b4 with⟨b4,_⟩ | b4
      ·rw[b4];exact b2.symm ▸ ho.1
      refine ho.1.elim (fun e=>.inl ?_) (fun⟨e0,b,e⟩=>.inr ⟨b2.trans e0,b,?_⟩)
      ·have:=(oe b4).1;rw[e]at this;exact aq this
      rw[e]at b4;exact (dy b4).symm
     | some b=>
      rw[hbk]at ho;obtain⟨o1,o2,cur,o3,o4,o5⟩:=ho;refine⟨o1,?_,cur,by rw[b2];exact o3,by rw[b3];exact o4,fun j ev x hj hx=>?_⟩
      ·rw[b3];rcases b4 with⟨b4,_⟩ | b4
       ·rw[b4];exact o2
       rw[(oe b4).1];exact o2
      rcases b4 with⟨b4,b5⟩ | b4
      ·rw[b4]at hj;obtain⟨y,rfl⟩:=b5 ev (cT hj);exact o5 j _ x hj hx
      obtain⟨e,q1,q2⟩:=(oe b4).2 j ev hj;exact o5 j e x q1 (hval e ev x q2 hx)
    apart:=fun i j r s b hi hj hb1 hb2=>by
     obtain⟨i',r0,g1,g2,b1,_⟩:=hr.lk i r hi;obtain⟨j',s0,g3,g4,c1,_⟩:=hr.lk j s hj;have:i'=j':=hs.fO.own.apart i' j' r0 s0 b g2 g4 (by rw[←b1];exact hb1) (by rw[←c1];exact hb2);subst this;exact JK nd1 g1 g3 }
   il:=hs.fO.il
   new:=fun id r' b hr' hb1=>by
    obtain⟨i,r,g1,g2,b1,b2,b3,b4⟩:=hr.lk id r' hr';exact hs.fO.new i r b g2 (Sb b1 b2 b4 hb1)
   jT:=hs.fO.jT
   sz:=hs.fO.sz
   tp:=hs.fO.tp }
  gI:={
   sub:=hs.gI.sub
   kT:=dk hk h4
   succ:=fun id r' hid hr'=>by
    obtain⟨i,r,g1,g2,b1,_⟩:=hr.lk id r' hr';rcases (hb i id g1).2 with rfl | hge
    ·obtain⟨r0,q1,q2⟩:=hs.gI.succ i r hid g2;exact⟨r0,q1,q2.trans b1.symm⟩
    omega }
  gS:=fun id r' hr'=>by
   obtain⟨i,r,g1,g2,b1,b2,b3,b4⟩:=hr.lk id r' hr';refine⟨(hb i id g1).1,fun e he=>?_⟩;rcases b4 with⟨b4,b5⟩ | b4
   ·rw[b4]at he;obtain⟨x,rfl⟩:=b5 e he;trivial
   obtain⟨j,hj⟩:=cA he;obtain⟨e0,_,q2⟩:=(oe b4).2 j e hj;exact I8 (fun i j h=>(hb i j h).1) q2
  ids:=fun n e he=>by
   obtain⟨e0,_,q2⟩:=vI np n e he;exact I8 (fun i j h=>(hb i j h).1) q2
  env:=fun n e x _ he hx=>by
   obtain⟨e0,q1,q2⟩:=vI np n e he;exact hs.env n e0 x rfl q1 (hval e0 e x q2 hx)
  gv:=fun n ch e he=>by simp[rp]at he }
theorem qN.mM {k:Nat}{env env':Env}{F:Hp}{rs rs':RL}{nx nx':Nat}{G:St→Prop}(ρ:List (Nat×Nat))(slots:List Nat)(vf:RL)(hr:lQ ρ rs ρ vf)(hrs:vf=rs')(np:qp ρ env slots=some env')
  (h1:oW ρ []=true) (h2:pc ρ []=true) (h3:vd k nx' ρ=true) (h4:Nat.ble k nx'=true) (kk:G ⟨env',F,rs',nx'⟩):qN k N [] ⟨env,F,rs,nx⟩ G:=fun c a w hk hs=>by
 subst hrs;exact⟨_,Cr ρ slots hk hs hr np h1 h2 h3 (by simpa using h4),kk⟩
theorem VS.mM {env env':Env}{F:Hp}{rs rs':RL}{nx nx':Nat}{G:St→Prop}(ρ:List (Nat×Nat))(slots:List Nat)(vf:RL)(hr:lQ ρ rs ρ vf)(hrs:vf=rs')(np:qp ρ env slots=some env')
  (h1:oW ρ []=true) (h2:pc ρ []=true) (h3:vd nx nx' ρ=true) (h4:Nat.ble nx nx'=true) (kk:G ⟨env',F,rs',nx'⟩):VS N [] ⟨env,F,rs,nx⟩ G:=fun c a w hs=>by
 subst hrs;exact⟨_,Cr ρ slots hs.gI.kT hs hr np h1 h2 h3 (by simpa using h4),kk⟩
theorem qN.trans {k:Nat}{G:St→Prop}{st:St}(h:VS N [] st (fun st'=>qN k N [] st' G)):qN k N [] st G:=fun c a w hk hs=>by
 obtain⟨st',h1,h2⟩:=h c a w hs;exact h2 c a w hk h1
theorem qN.id {k:Nat}{G:St→Prop}{st:St}(h:G st):qN k N [] st G:=fun _ _ _ _ hs=>⟨st,hs,h⟩
theorem fE {α:Type}{kn:Nat}{Inv:α→Prop}{T:α→St}{μ:α→Nat}{i:α}{env env':Env}{F:Hp}{rs rs':RL}{nx nx':Nat}(j:α)(k:Nat)(ρ:List (Nat×Nat))(slots:List Nat)(vf:RL)(hj:Inv j)(hm:μ j<μ i)(hk:min kn (T i).nx≤k)(hr:lQ ρ rs ρ vf)(hrs:vf=rs')(np:qp ρ env slots=some env')
  (h1:oW ρ []=true) (h2:pc ρ []=true) (h3:vd k nx' ρ=true) (h4:Nat.ble k nx'=true) (h:(⟨env',F,rs',nx'⟩:St)=T j):fe N kn Inv T μ i KK .normal ⟨env,F,rs,nx⟩:=fun c a w hk' hs=>
 qN.mM ρ slots vf hr hrs np h1 h2 h3 h4 ⟨j,hj,h,hm⟩ c a w (dk hk' hk) hs
def JV (id:Nat):EV→EV
 | .v x=>.v x
 | .loc i o=>.loc i o
 | .row i o n c=>match Nat.beq i id with
  | true=>.v (.slice none n c)
  | false=>.row i o n c
def GI (id:Nat):Env→Env
 | []=>[]
 | (n,e)::t=>(n,JV id e)::GI id t
theorem B8 {id:Nat}: ∀{env:Env} {n:Nat} {e':EV},lk (GI id env) n=some e'→∃e,lk env n=some e∧JV id e=e'
 | [],n,e',h=>by simp[GI,lk]at h
 | (m,e)::t,n,e',h=>by
  simp only[GI]at h;rw[kS]at h ⊢;split at h
  ·rename_i hn;simp only[aa]at h;exact⟨e,by rw[aZ hn],h⟩
  rename_i hn;obtain⟨e0,h1,h2⟩:=B8 h;exact⟨e0,by rw[aY hn];exact h1,h2⟩
theorem VS.NM {env env':Env}{F:Hp}{rs:RL}{nx:Nat}{G:St→Prop}(id:Nat){cells:List EV}{ty:TypeId}{cap:Nat}(slots:List Nat)(hr:fR rs id=some ⟨none,cells,ty,cap⟩)(np:Go.TR.eH (GI id env) slots=some env')(k:VS N [] ⟨env',F,rs,nx⟩ G):VS N [] ⟨env,F,rs,nx⟩ G:=fun c a w hs=>by
 have hv: ∀e x,(JV id e).val rs=some x→e.val rs=some x:=fun e x hx=>by
  cases e with
  | v y=>exact hx
  | loc i o=>exact hx
  | row i o n cc=>
   simp only[JV]at hx;split at hx
   ·rename_i hb;have:=dg hb;subst this;simp only[EV.val,hr,dx];exact hx
   exact hx
 have hlt: ∀e:EV,e.lt nx→(JV id e).lt nx:=fun e he=>by
  cases e with
  | v y=>trivial
  | loc i o=>exact he
  | row i o n cc=>
   simp only[JV];split
   ·trivial
   exact he
 refine k c a w (pO np ?_);exact {
  size:=hs.size
  defers:=hs.defers
  fO:=hs.fO
  gI:=hs.gI
  gS:=hs.gS
  ids:=fun n e he=>by
   obtain⟨e0,h1,rfl⟩:=B8 he;exact hlt e0 (hs.ids n e0 h1)
  env:=fun n e x _ he hx=>by
   obtain⟨e0,h1,rfl⟩:=B8 he;exact hs.env n e0 x rfl h1 (hv e0 x hx)
  gv:=fun n ch e he=>by simp[rp]at he }
theorem VS.FL {env:Env}{F:Hp}{rs:RL}{nx:Nat}{G:St→Prop}{id:Nat}{cells:List EV}{ty:TypeId}{cap:Nat}(hr:fR rs id=some ⟨none,cells,ty,cap⟩)(hty:ty≠0)(k:cells=[]∧cap=0→VS N [] ⟨env,F,rs,nx⟩ G):VS N [] ⟨env,F,rs,nx⟩ G:=fun c a w hs=>by
 obtain⟨h1,h2⟩:=hs.fO.own.own id _ hr;exact k ⟨h1.elim (fun e=>e) (fun⟨e,_⟩=>absurd e hty),h2⟩ c a w hs
end
end
section
theorem iD {A B C:Prop}(f:B→C)(k:A→B):A→C:=fun a=>f (k a)
theorem BE {A B:Nat→Prop}{C:Prop}(f:(∀b,B b)→C)(k: ∀b,A b→B b):(∀b,A b)→C:=fun a=>f fun b=>k b (a b)
theorem run {G:Prop}{H:Unit→Prop}(k:H ())(h: ∀u,H u→G:=by
 intro u
 repeat (first
  | refine iD (Go.TR.Dd rfl rfl rfl) ?_ | refine iD (Go.TR.IH rfl rfl) ?_ | refine iD (Go.TR.xx rfl rfl rfl) ?_ | refine iD (Go.TR.tv rfl rfl rfl) ?_
  | refine iD (Go.TR.ry rfl rfl rfl) ?_ | refine iD (Go.TR.ri rfl rfl rfl rfl rfl) ?_ | refine iD (Go.TR.qh rfl rfl rfl rfl rfl) ?_ | refine iD (Go.TR.C7 rfl rfl rfl rfl rfl) ?_
  | refine iD (Go.TR.GM rfl rfl rfl rfl) ?_ | refine iD (Go.TR.BJ rfl) ?_ | refine iD (Go.TR.B5 rfl rfl rfl rfl) ?_ | refine iD (Go.TR.Gf rfl rfl rfl) ?_
  | refine iD (Go.TR.xy rfl rfl) ?_ | refine iD (Go.TR.Dg rfl rfl) ?_ | refine iD (Go.TR.BV rfl rfl rfl rfl) ?_ | refine iD (Go.TR.Hg rfl rfl rfl) ?_
  | refine iD Go.TR.NT ?_ | refine iD Go.TR.Gb ?_ | refine iD Go.TR.HN ?_ | refine iD Go.TR.Gn ?_
  | refine iD Go.TR.He ?_ | refine iD Go.TR.Hv ?_ | refine iD Go.TR.LH ?_ | refine iD Go.TR.lJ ?_
  | refine iD Go.TR.BP ?_ | refine iD Go.TR.zc ?_ | refine iD Go.TR.yH ?_ | refine iD Go.TR.ym ?_
  | refine iD (Go.TR.za rfl) ?_ | refine iD Go.TR.Gh ?_ | refine iD Go.TR.My ?_ | refine iD Go.TR.G8 ?_
  | (refine' BE (Go.TR.Lo rfl rfl rfl rfl) (fun b=>?_);rotate_left) | (refine' BE (Go.TR.ux rfl rfl rfl rfl) (fun b=>?_);rotate_left) | refine iD (Go.TR.CB rfl) ?_ | refine iD (Go.TR.Cj rfl) ?_
  | (refine' BE (Go.TR.zx rfl rfl rfl rfl rfl rfl rfl rfl) (fun b=>?_);rotate_left) | refine iD Go.TR.B9 ?_ | refine iD Go.TR.Dh ?_ | refine iD Go.TR.xR ?_
  | refine iD Go.TR.yA ?_ | refine iD (Go.TR.dI rfl rfl rfl (by decide)) ?_ | refine iD (Go.TR.iw rfl rfl rfl rfl rfl (fun _=>by decide)) ?_ | refine iD (Go.TR.IF rfl) ?_
  | refine iD (Go.TR.M4 rfl) ?_ | refine iD (Go.TR.xi rfl) ?_ | refine iD (Go.TR.D6 rfl) ?_)
 exact fun h=>h):G:=h () k
theorem lY {G:Prop}{H:Unit→Prop}(k:H ())(h: ∀u,H u→G:=by
 intro u
 repeat (first
  | refine iD (Go.TR.Dd rfl rfl rfl) ?_ | refine iD (Go.TR.IH rfl rfl) ?_ | refine iD (Go.TR.xx rfl rfl rfl) ?_ | refine iD (Go.TR.tv rfl rfl rfl) ?_
  | refine iD (Go.TR.ry rfl rfl rfl) ?_ | refine iD (Go.TR.ri rfl rfl rfl rfl rfl) ?_ | refine iD (Go.TR.qh rfl rfl rfl rfl rfl) ?_ | refine iD (Go.TR.C7 rfl rfl rfl rfl rfl) ?_
  | refine iD (Go.TR.GM rfl rfl rfl rfl) ?_ | refine iD (Go.TR.BJ rfl) ?_ | refine iD (Go.TR.B5 rfl rfl rfl rfl) ?_ | refine iD (Go.TR.Gf rfl rfl rfl) ?_
  | refine iD (Go.TR.xy rfl rfl) ?_ | refine iD (Go.TR.Dg rfl rfl) ?_ | refine iD (Go.TR.BV rfl rfl rfl rfl) ?_ | refine iD (Go.TR.Hg rfl rfl rfl) ?_
  | refine iD Go.TR.NT ?_ | refine iD Go.TR.Gb ?_ | refine iD Go.TR.HN ?_ | refine iD Go.TR.Gn ?_
  | refine iD Go.TR.He ?_ | refine iD Go.TR.Hv ?_ | refine iD Go.TR.LH ?_ | refine iD Go.TR.BP ?_
  | refine iD Go.TR.zc ?_ | refine iD Go.TR.yH ?_ | refine iD Go.TR.ym ?_ | refine iD (Go.TR.za rfl) ?_
  | refine iD Go.TR.Gh ?_ | refine iD Go.TR.My ?_ | refine iD Go.TR.G8 ?_ | (refine' BE (Go.TR.Lo rfl rfl rfl rfl) (fun b=>?_);rotate_left)
  | (refine' BE (Go.TR.ux rfl rfl rfl rfl) (fun b=>?_);rotate_left) | refine iD (Go.TR.CB rfl) ?_ | refine iD (Go.TR.Cj rfl) ?_ | (refine' BE (Go.TR.zx rfl rfl rfl rfl rfl rfl rfl rfl) (fun b=>?_);rotate_left)
  | refine iD Go.TR.B9 ?_ | refine iD Go.TR.Dh ?_ | refine iD Go.TR.xR ?_ | refine iD Go.TR.yA ?_
  | refine iD (Go.TR.dI rfl rfl rfl (by decide)) ?_ | refine iD (Go.TR.iw rfl rfl rfl rfl rfl (fun _=>by decide)) ?_ | refine iD (Go.TR.IF rfl) ?_ | refine iD (Go.TR.M4 rfl) ?_
  | refine iD (Go.TR.xi rfl) ?_ | refine iD (Go.TR.D6 rfl) ?_)
 exact fun h=>h):G:=h () k
end
end Go.TR
