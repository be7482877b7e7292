/- A part of the proof. -/
import Derived.Test.YthbnddgjkonkdaaGreatDoorFwA
import Derived.Deep.AppendSrc
import Derived.Deep.Upon
import Derived.Laws.BytesArg
import Derived.Laws.CopyRow
import Derived.Deep.LoopGhost
import Derived.Lib.Builder
import Derived.Laws.Externs
set_option linter.unusedVariables false
set_option linter.unusedSimpArgs false
namespace Go.TR
section
variable {P:Program} {tb:Tb} {N:Nat}
theorem o9 {rs:RL}{id k:Nat}:fU (uL rs id) k=if k=id then none else fU rs k:=by
 induction rs with
 | nil=>simp[uL,fU]
 | cons p rs ih=>
  obtain⟨m,r⟩:=p;simp only[uL];by_cases hm:id=m
  ·subst hm;simp only[Nat.beq_refl];rw[ih,fb];by_cases hk:k=id<;>simp[hk]
  rw[show Nat.beq id m=false from (by cases hb:Nat.beq id m with | false=>rfl | true=>exact absurd (dj hb) hm)];simp only[];rw[fb,ih,fb];by_cases hk:k=m
  ·subst hk;rw[aZ rfl,aY (fun e=>hm e.symm),aZ rfl]
  rw[aY hk,aY hk]
theorem val_sub {rs rs':RL}(h: ∀k r,fU rs' k=some r→fU rs k=some r){e:EV}{x:Value}(hx:e.val rs'=some x):e.val rs=some x:=by
 cases e with
 | v y=>exact hx
 | loc id o=>
  simp only[EV.val]at hx ⊢;split at hx
  ·rename_i r hr;rw[h _ _ hr];exact hx
  simp at hx
 | row id o n c=>
  simp only[EV.val]at hx ⊢;split at hx
  ·rename_i r hr;rw[h _ _ hr];exact hx
  simp at hx
theorem vp {c:Ctx}{g:fe}{env:Env}{F:Hp}{rs rs':RL}{nx:Nat}{a:Act}{w w':World}(h:fI c N g ⟨env,F,rs,nx⟩ a w)(hsub: ∀k r,fU rs' k=some r→fU rs k=some r){b:Nat}{X:List Nat}(hp:ic X w w')(hX: ∀y∈X,y=b)
  (hF:F b=none) (hb:c.wE.heap.size≤b) (SN: ∀k r,fU rs' k=some r→r.gq≠some b) {cur:Array Value} {t:TypeId} (qE:w'.heap[b]? =some (.cells cur t (0,0))) {cells:List EV} {cap:Nat} (hcap:cur.size=cap) (hlen:cells.length≤cap)
  (hlt: ∀e∈cells,e.lt nx) (hcells: ∀(j:Nat) (e:EV) (x:Value),cells[j]? =some e→e.val rs=some x→cur[j]? =some x):
  fI c N g ⟨env,F,(nx,⟨some b,cells,t,cap⟩)::rs',nx+1⟩ a w':=by
 have hne: ∀id r,fU rs' id=some r→id≠nx:=fun id r hr=>by have:=(h.gV id r (hsub _ _ hr)).1;simp only at this;omega
 have hval: ∀e:EV,e.lt nx→∀x,e.val ((nx,⟨some b,cells,t,cap⟩)::rs')=some x→e.val rs=some x:=fun e he x hx=>by
  rw[kI he]at hx;exact val_sub hsub hx
 have hle:=h.fR.le.ir hp (fun y hy=>by rw[hX y hy];exact hF);exact {
  size:=h.size
  defers:=h.defers
  fR:={
   le:=hle
   own:={
    own:=fun id r hr=>by
     rw[fb]at hr;split at hr
     ·simp only[aa]at hr;subst hr;refine⟨hF,hlen,cur,qE,hcap,fun j ev x hj hx=>?_⟩;exact hcells j ev x hj (hval ev (hlt ev (cW hj)) x hx)
     have h1:=h.fR.own.own id r (hsub _ _ hr);have hd:=SN id r hr;cases hbr:r.gq with
     | none=>rw[hbr]at h1;exact h1
     | some b'=>
      rw[hbr]at h1;obtain⟨g1,g2,cur',g3,g4,g5⟩:=h1;have hbb:b' ∉ X:=fun hm=>hd (by rw[hbr,hX _ hm]);refine⟨g1,g2,cur',(hp.block _ (gM g3) hbb).trans g3,g4,fun j ev x hj hx=>g5 j ev x hj ?_⟩;exact hval ev ((h.gV id r (hsub _ _ hr)).2 ev (cW hj)) x hx
    apart:=fun i j r s b' hi hj hbr hbs=>by
     rw[fb]at hi hj;split at hi
     ·split at hj
      ·omega
      simp only[aa]at hi;subst hi;simp only[aa]at hbr;subst hbr;exact absurd hbs (SN j s hj)
     split at hj
     ·simp only[aa]at hj;subst hj;simp only[aa]at hbs;subst hbs;exact absurd hbr (SN i r hi)
     exact h.fR.own.apart i j r s b' (hsub _ _ hi) (hsub _ _ hj) hbr hbs }
   ir:=h.fR.ir.trans' hp (fun y hy=>.inr (by rw[hX y hy];exact hb))
   new:=fun id r b' hr hbr=>by
    rw[fb]at hr;split at hr
    ·simp only[aa]at hr;subst hr;rcases hbr with hbr | ⟨hbr,_⟩
     ·simp only[aa]at hbr;omega
     cases hbr
    exact h.fR.new id r b' (hsub _ _ hr) hbr
   jW:=h.fR.jW
   sz:=dq h.fR.sz hp.size
   tp:=h.fR.tp }
  gL:=BP.cons {
   sub:=h.gL.sub
   kX:=h.gL.kX
   succ:=fun id r hid hr=>h.gL.succ id r hid (hsub _ _ hr) } _
  gV:=fun id r hr=>by
   simp only[fb]at hr;split at hr
   ·simp only[aa]at hr;subst hr;exact⟨by simp only;omega,fun e he=>(hlt e he).mono (dp _)⟩
   obtain⟨h1,h2⟩:=h.gV id r (hsub _ _ hr);exact⟨by simp only at h1 ⊢;omega,fun e he=>(h2 e he).mono (dp _)⟩
  ids:=fun n e he=>(h.ids n e he).mono (dp _)
  env:=fun n e x hg he hx=>h.env n e x hg he (hval e (h.ids n e he) x hx)
  gv:=fun n ch e hg=>by
   obtain⟨h1,h2,h3,h4⟩:=h.gv n ch e hg;exact⟨fun hA=>⟨fun x hx=>(h1 hA).1 x (hval e h3 x hx),(h1 hA).2⟩,h2,h3.mono (dp _),h4⟩ }
theorem jq (htb:g9 P tb){t e:TypeId}(h:tk tb t=some (.slice e)):P.underlying t=some (.slice e):=by
 obtain⟨d,h1,h2⟩:=gR htb h;simp only[TK.fits]at h2;rw[h1,h2]
theorem Iz (htb:g9 P tb){t:TypeId}(h:tk tb t=some .string):P.underlying t=some .string:=by
 obtain⟨d,h1,h2⟩:=gR htb h;simp only[TK.fits]at h2;rw[h1,h2]
theorem kM (b o j:Nat):((⟨b,o,none⟩:Addr).add j)=⟨b,o+j,none⟩:=mw b o j
theorem sq {c:Ctx}{g:fe}{st:St}{a:Act}{w:World}(h:fI c N g st a w){id:Nat}{r:kg}{b:Nat}(hr:fU st.rs id=some r)(hb:r.gq=some b){o k:Nat}(hk:o+k≤r.cells.length):
  ∃vs:List Value,vs.length=k∧(∀j u,vs[j]? =some u→w.cell? ⟨b,o+j,none⟩=some u)∧ ∀(j:Nat) (e:EV) (x:Value),((r.cells.take (o+k)).drop o)[j]? =some e→e.val st.rs=some x→vs[j]? =some x:=by
 have hown:=h.fR.own.own id r hr;rw[hb]at hown;obtain⟨_,o2,cur,o3,o4,o5⟩:=hown;refine⟨(cur.toList.take (o+k)).drop o,by simp;omega,fun j u hj=>?_,fun j e x hj hx=>?_⟩
 ·rw[cA,cE]at hj;split at hj
  ·simp only[World.cell?,o3];simpa using hj
  simp at hj
 rw[cA,cE]at hj ⊢;split at hj
 ·rename_i hlt;rw[aZ hlt];simpa using o5 _ e x hj hx
 simp at hj
theorem sc {F:Hp}{w:World}(hF:F.le w){ad:Addr}{cs:List Value}(h:e9 F (some ad) cs): ∀j u,cs[j]? =some u→w.cell? (ad.add j)=some u:=fun j u hj=>by
 have:=h j u hj;simp only[iw,aJ,gi,Option.bind_some]at this;exact jz.world hF this
theorem B0 (htb:g9 P tb){c:Ctx}{g:fe}{st:St}{a:Act}{w:World}(h:fI c N g st a w){t2:TypeId}{size:Nat}(hs0:0<size)(ht2:wI (tk tb t2)=true){y:Operand}{K:Nat→List EV→Prop}(hk:Ht st.F st.rs size (fun m news=>ll st.rs news∧K m news) (gO st.rs g st.env [] y)):
  ∃m news vs,K m news∧Src P size t2 (a.eval y) m vs w∧vs.length=news.length∧(∀e∈news,e.lt st.nx)∧ ∀(j:Nat) (e:EV) (x:Value),news[j]? =some e→e.val st.rs=some x→vs[j]? =some x:=by
 have hrl: ∀id r,fU st.rs id=some r→id<st.nx:=fun id r hr=>(h.gV id r hr).1;have hty:(∃e,P.underlying t2=some (.slice e))∨P.underlying t2=some .string:=by
  unfold wI at ht2;split at ht2
  ·rename_i e he;exact .inl ⟨e,jq htb he⟩
  ·rename_i he;exact .inr (Iz htb he)
  cases ht2
 have hF:=gT h (iU a);unfold Ht at hk;split at hk
 ·rename_i id o m cc hy;have e1:=hF _ _ hy;cases hr:fU st.rs id with
  | none=>simp[hr,Af]at hk
  | some r=>
   simp only[EV.val,hr]at e1;simp only[aa]at e1;obtain⟨rb,cells,ty,cap⟩:=r;cases rb with
   | none=>
    simp only[hr,Af]at hk;obtain⟨rfl,h1,h2⟩:=hk;refine⟨0,[],[],h2,?_,rfl,fun e he=>(by cases he),fun j e x hj=>(by simp at hj)⟩;rw[←e1];exact⟨hty,fun _=>rfl,run_firstCells_none w size 0 0 cc,run_firstCells_none w.drew size 0 0 cc,by simp,fun _ h=>by cases h⟩
   | some b=>
    simp only[hr,Af]at hk;obtain⟨h1,h2,h3⟩:=hk;obtain⟨vs,v1,v2,v3⟩:=sq h hr rfl h1;have hl:((cells.take (o+m * size)).drop o).length=m * size:=by simp;omega
    refine⟨m,_,vs,h3,?_,by rw[v1,hl],fun e he=>(h.gV id _ hr).2 e (cY (cX he)),v3⟩;rw[←e1];have hc: ∀j u,vs[j]? =some u→w.cell? ((⟨b,o,none⟩:Addr).add j)=some u:=fun j u hj=>by rw[kM];exact v2 j u hj
    refine⟨hty,fun _=>rfl,run_firstCells_some w size m _ _ _ vs v1 hc,run_firstCells_some w.drew size m _ _ _ vs v1 (by simpa using hc),v1,fun u hu=>?_⟩;obtain⟨j,hj⟩:=cD hu;have hjl:j<((cells.take (o+m * size)).drop o).length:=by rw[hl,←v1];exact (cC.1 hj).1
    have he:=ao hjl;obtain⟨g1,x,g2⟩:=h2 _ (cW he);have:=v3 j _ x he g2;rw[hj]at this;simp only[aa]at this;subst this;exact tS g1 g2
 ·rename_i p m cc hy;have e1:=hF _ _ hy;simp only[EV.val,aa]at e1;obtain⟨cs,h1,h2,h3,h4⟩:=hk;refine⟨m,_,cs,h4,?_,by simp,fun e he=>?_,fun j e x hj hx=>?_⟩
  ·rw[←e1];have hone: ∀u∈cs,u.oneCell'=true:=fun u hu=>by
    obtain⟨g1,x,g2⟩:=h3 (.v u) (aG.2 ⟨u,hu,rfl⟩);simp only[EV.val,aa]at g2;exact tS (rs:=st.rs) g1 rfl
   cases p with
   | none=>
    have:cs=[]:=by
     cases cs with
     | nil=>rfl
     | cons u t=>have:=h2 0 u rfl;simp[iw,gi]at this
    subst this;have hm:m=0:=by
     simp only[cK]at h1;rcases Nat.mul_eq_zero.1 h1.symm with h0 | h0
     ·exact h0
     omega
    subst hm;exact⟨hty,fun _=>rfl,run_firstCells_none w size 0 0 cc,run_firstCells_none w.drew size 0 0 cc,by simp,fun _ h=>by cases h⟩
   | some ad=>
    have hc:=sc h.fR.le h2;exact⟨hty,fun _=>rfl,run_firstCells_some w size m _ _ _ cs h1 hc,run_firstCells_some w.drew size m _ _ _ cs h1 (by simpa using hc),h1,hone⟩
  ·obtain⟨u,_,rfl⟩:=aG.1 he;trivial
  rw[aI,aS]at hj;obtain⟨u,hu,rfl⟩:=hj;simp only[EV.val,aa]at hx;subst hx;exact hu
 ·rename_i s hy;have e1:=hF _ _ hy;simp only[EV.val,aa]at e1;obtain⟨rfl,h3,h4⟩:=hk;refine⟨_,_,byteCells s,h4,?_,by simp[byteCells,bl],fun e he=>?_,fun j e x hj hx=>?_⟩
  ·rw[←e1];have hl:s.size=(bl s).length:=by simp[mF]
   rw[←hl];exact⟨hty,fun _=>rfl,firstCells_string s w,firstCells_string s w.drew,by rw[byteCells_length,aA],fun u hu=>by
    obtain⟨_,_,rfl⟩:=aG.1 hu;rfl⟩
  ·obtain⟨u,_,rfl⟩:=aG.1 he;trivial
  rw[aI,aS]at hj;obtain⟨u,hu,rfl⟩:=hj;simp only[EV.val,aa]at hx;subst hx;simp only[byteCells,aI];rw[show s.data.toList[j]? =some u from hu];rfl
 exact hk.elim
theorem oM (htb:g9 P tb){e:TypeId}{ti:TI}(h:tb e=some ti): ∃i z,P.info? e=some i∧i.size=ti.size∧i.bytes=ti.bytes∧i.zero=some z∧z.cells.size=ti.zero.length:=by
 obtain⟨i,h1,h2,h3,z,h4,h5⟩:=(htb e ti h).info;exact⟨i,z,h1,h2,h3,h4,by rw[←h5];simp⟩
theorem l7 (w:World)(t tx ty e:TypeId)(i:TypeInfo)(ht:P.underlying t=some (.slice e))(hi:P.info? e=some i)(b sLen sCap:Nat)(x:Value)(n:Nat)(news:List Value)(hs:Src P i.size tx x n news w)
  (hroom:sLen+n≤sCap) {cur:Array Value} {ct:TypeId} (qE:w.heap[b]? =some (.cells cur ct (0,0))) (hfit:sLen * i.size+news.length≤cur.size):
  (Builtin.append_ #[t,tx] ty #[.slice (some ⟨b,0,none⟩) sLen sCap,x]).run P w= .ok (.slice (some ⟨b,0,none⟩) (sLen+n) sCap) (w.setRow b (cur.toList.take (sLen * i.size)++news++cur.toList.drop (sLen * i.size+news.length)).toArray):=by
 have hst:=run_storeCells_at (P:=P) b (sLen * i.size) ct news 0 cur w qE (by simpa using hfit) hs.one;simp only[di]at hst;have h0:(⟨b,0,none⟩:Addr).add (sLen * i.size)=⟨b,sLen * i.size,none⟩:=by rw[kM,aP]
 rcases hs.kind with⟨e',hk⟩ | hk<;>simp[Builtin.append_,run_underlying ht,run_underlying hk,sizeOf,typeInfo,hi,hs.len,hroom,hs.cells,h0,hst]
theorem ik {a:Act}{o:Oper}{args:Array Operand}{ts:Array TypeId}{x y:Operand}{t1 t2:TypeId}(ho:o.op= .call ⟨.builtin .append,args,ts⟩)(ha:args.toList=[x,y])(ht:ts.toList=[t1,t2]){w w':World}{v:Value}
  (h:(Builtin.append_ #[t1,t2] o.type #[a.eval x,a.eval y]).run P w= .ok v w'):(execOp a.eval o).run P w= .ok (.value v) w':=by
 have e1:args= #[x,y]:=by apply bg;simpa using ha
 have e2:ts= #[t1,t2]:=by apply bg;simpa using ht
 subst e1 e2;simp[execOp,ho,resolve,invoke,builtin,h]
theorem yG {c:Ctx}{g:fe}{env:Env}{F:Hp}{rs rs':RL}{nx:Nat}{a:Act}{w:World}(h:fI c N g ⟨env,F,rs,nx⟩ a w)(hsub: ∀k r,fU rs' k=some r→fU rs k=some r){cells:List EV}{xs:List Value}{rest:Array Value}{e:TypeId}{cap:Nat}
  (hl:xs.length=cells.length) (hcap:xs.length+rest.size=cap) (hlt: ∀e∈cells,e.lt nx) (hcells: ∀(j:Nat) (e:EV) (x:Value),cells[j]? =some e→e.val rs=some x→xs[j]? =some x):
  fI c N g ⟨env,F,(nx,⟨some w.heap.size,cells,e,cap⟩)::rs',nx+1⟩ a (w.drew.alloc (.cells (xs.toArray++rest) e)):=by
 have hs0:w.drew.heap.size=w.heap.size:=rfl;have hp:ic [] w (w.drew.alloc (.cells (xs.toArray++rest) e)):=(ic.drewN [] w 1).trans (ic.alloc [] w.drew _);have hfr:F w.heap.size=none:=by
  cases hf:F w.heap.size with
  | none=>rfl
  | some o=>have:=gM (h.fR.le _ _ hf);omega
 refine vp h hsub hp (fun y hy=>by cases hy) hfr h.fR.ir.size (fun k r hr hb=>?_) (cur:=xs.toArray++rest) (by rw[←hs0];exact heap_alloc_new w.drew _) (by simp[←hcap]) (by omega) hlt (fun j e x hj hx=>?_)
 ·have:=h.fR.own.lt (hsub _ _ hr) hb;omega
 have:=hcells j e x hj hx;have hj':=(cC.1 this).1;rw[Array.getElem?_append_left (by simpa using hj')];simpa using this
theorem Sf (htb:g9 P tb){c:Ctx}{g:fe}{st:St}{a:Act}{w:World}(h:fI c N g st a w){o:Oper}{args:Array Operand}{ts:Array TypeId}(ho:o.op= .call ⟨.builtin .append,args,ts⟩){K:fe→St→Prop}{Q:Exit→Act→World→Prop}{K':Act→World→Prop}
  (hK: ∀g' st' a' w',fI c N g' st' a' w'→K g' st'→K' a' w') {x y:Operand} {t1 t2:TypeId} (ha:args.toList=[x,y]) (hts:ts.toList=[t1,t2])
  (hk:Lk tb N o.dst K g st t2 (gO st.rs g st.env [] x) (gO st.rs g st.env [] y) (tk tb t1)):o.wp P a w K' Q:=by
 unfold Lk at hk;split at hk
 ·rename_i e ht1;obtain⟨hst,hk⟩:=hk;cases hti:tb e with
  | none=>simp[hti,MT]at hk
  | some ti=>
   rw[hti]at hk;simp only[MT]at hk;obtain⟨hs0,hb0,hz0,hk⟩:=hk;obtain⟨m,news,vs,hk,hsrc,hvl,WC,hnv⟩:=B0 htb h hs0 hst hk;obtain⟨i,z,hi,hsz,hby,hz,hzs⟩:=oM htb hti;have hut:=jq htb ht1;have hF:=gT h (iU a);have hsrc':Src P i.size t2 (a.eval y) m vs w:=by rw[hsz];exact hsrc
   have hnl:vs.length=m * ti.size:=hsrc.newsLen;obtain⟨env,F,rs,nx⟩:=st;have fin: ∀{rs':RL} {olds:List EV} {b cap n:Nat} {w':World},fI c N g ⟨env,F,(nx,⟨some b,olds++news,e,cap * ti.size⟩)::rs',nx+1⟩ a w'→il N [] o.dst (.row nx 0 (n+m) cap) K g ⟨env,F,(nx,⟨some b,olds++news,e,cap * ti.size⟩)::rs',nx+1⟩→K' (a.put o.dst (.slice (some ⟨b,0,none⟩) (n+m) cap)) w':=fun {rs' olds b cap n w'} hs hput=>by
    have hv:(EV.row nx 0 (n+m) cap).val ((nx,⟨some b,olds++news,e,cap * ti.size⟩)::rs')=some (.slice (some ⟨b,0,none⟩) (n+m) cap):=by
     simp only[EV.val,fb,dF];rfl
    obtain⟨g',st',h1,_,_,_,h2,_⟩:=kj hs (ch:=[]) (e:=.row nx 0 (n+m) cap) (by simp only[EV.lt];omega) (fun _=>hv) (fun _=>trivial) (jY _ _) hput;exact hK _ _ _ _ (h2 (iU a)) h1
   have same: ∀{ev:EV} {v:Value},gO rs g env [] x=some ev→ev.val rs=some v→il N [] o.dst ev K g ⟨env,F,rs,nx⟩→K' (a.put o.dst v) w:=fun {ev v} hev hv hput=>by
    obtain⟨g',st',h1,_,_,_,h2,_⟩:=kj h (ch:=[]) (e:=ev) (v:=v) (Cy h [] _ _ hev) (fun _=>hv) (fun _=>trivial) (jY _ _) hput;exact hK _ _ _ _ (h2 (iU a)) h1
   have grow: ∀{p:Option Addr} {n cc:Nat} {oldE:List EV} {oldV:List Value} {rs':RL},a.eval x= .slice p n cc→(∀k r,fU rs' k=some r→fU rs k=some r)→(Builtin.firstCells i.size n (.slice p n cc)).run P w.drew= .ok oldV.toArray w.drew→oldV.length=n * ti.size→oldE.length=oldV.length→(∀e∈oldE,e.lt nx)→
     (∀(j:Nat) (e:EV) (x:Value),oldE[j]? =some e→e.val rs=some x→oldV[j]? =some x)→cc<n+m→(n+m) * ti.bytes≤140737488355328→
     (∀b cap,n+m≤cap→il N [] o.dst (.row nx 0 (n+m) cap) K g ⟨env,F,(nx,⟨some b,oldE++news,e,cap * ti.size⟩)::rs',nx+1⟩)→o.wp P a w K' Q:=fun {p n cc oldE oldV rs'} hax hsub hold hol hoe hlt hov hg HW hput=>by
    have hnm:n+m≤(n+m) * ti.bytes:=Nat.le_mul_of_pos_right _ hb0;have hr:=run_append_grow_src w t1 t2 o.type e i z hut hi hz p n cc oldV hold (a.eval y) m vs hsrc' hg (by omega) (growslice_fits hg (by rw[hby];exact HW));rw[←hax]at hr;refine kL (ik ho ha hts hr) ?_;have hge:=grownCap_ge w (n+m) cc e;refine fin (olds:=oldE) (rs':=rs') ?_ (hput _ _ hge);refine yG h hsub (by simp[hoe,hvl]) ?_ (fun e he=>?_) (fun j e x hj hx=>?_)
    ·rw[size_zeroCells,hzs,hz0,ag,hol,hnl,←dg,←dg];congr 1;omega
    ·rcases aK.1 he with he | he
     ·exact hlt e he
     exact WC e he
    rw[cy]at hj ⊢;rw[←hoe];split
    ·rename_i hlo;rw[aZ hlo]at hj;exact hov j e x hj hx
    rename_i hlo;rw[aY hlo]at hj;exact hnv _ e x hj hx
   unfold Pw at hk;split at hk
   ·rename_i id n cc hx;have e1:=hF _ _ hx;simp only at hk hx;cases hr:fU rs id with
    | none=>simp[hr,KL]at hk
    | some r=>
     have hsub: ∀k r,fU (uL rs id) k=some r→fU rs k=some r:=fun k r hkr=>by
      rw[o9]at hkr;split at hkr
      ·cases hkr
      exact hkr
     simp only[EV.val,hr,aa]at e1;have hval:(EV.row id 0 n cc).val rs=some (a.eval x):=by simp only[EV.val,hr,e1]
     obtain⟨rb,cells,ty,cap⟩:=r;cases rb with
     | none=>
      simp only[hr,KL,BW]at hk;obtain⟨rfl,rfl,hk1,hk2⟩:=hk;simp only[dA]at e1;rcases dk m with hm | hm
      ·have hvs:vs=[]:=aq (by rw[hnl,hm,dy]);subst hvs;subst hm;have hr:=run_append_nothing w t1 t2 o.type e i hut hi none 0 0 (ah _) (a.eval y) hsrc';rw[e1]at hr;exact kL (ik ho ha hts hr) (same hx hval (hk1 rfl))
      obtain⟨HW,hput⟩:=hk2 hm;exact grow (oldE:=[]) (oldV:=[]) e1.symm hsub (run_firstCells_none _ _ _ _ _) (by simp) rfl (fun e he=>by cases he) (fun j e x hj=>by simp at hj) (by omega) (HW (by omega)) (fun b cap hc=>hput b cap hc (fun h=>by omega))
     | some b=>
      simp only[hr,KL,BW]at hk;obtain⟨rfl,hnc,hcap,P4,hk1,hk2⟩:=hk;simp only[aJ]at e1;rcases dk m with hm | hm
      ·have hvs:vs=[]:=aq (by rw[hnl,hm,dy]);subst hvs;subst hm;have hr:=run_append_nothing w t1 t2 o.type ty i hut hi (some ⟨b,0,none⟩) n cc hnc (a.eval y) hsrc';rw[e1]at hr;exact kL (ik ho ha hts hr) (same hx hval (hk1 rfl))
      obtain⟨HW,hput⟩:=hk2 hm;by_cases hroom:n+m≤cc
      ·have hown:=h.fR.own.own id _ hr;simp only at hown;obtain⟨o1,o2,cur,o3,o4,o5⟩:=hown;have hfit:n * ti.size+vs.length≤cur.size:=by
        rw[o4,hcap,hnl,←dg];exact dv _ hroom
       have hrun:=l7 w t1 t2 o.type ty i hut hi b n cc (a.eval y) m vs hsrc' hroom o3 (by rw[hsz];exact hfit);rw[e1,hsz]at hrun;refine kL (ik ho ha hts hrun) ?_;refine fin (olds:=cells.take (n * ti.size)) (rs':=uL rs id) ?_ (hput b cc hroom (fun _=>rfl));have hp:ic [b] w (w.setRow b (cur.toList.take (n * ti.size)++vs++cur.toList.drop (n * ti.size+vs.length)).toArray):=⟨rfl,rfl,rfl,by simp[World.setRow],fun k _ hk=>setRow_other w b k _ (by simpa using hk)⟩;refine vp h hsub hp (fun y hy=>by simpa using hy) o1 (h.fR.new id _ b hr (.inl rfl)) (fun k r hkr hbr=>?_) (setRow_heap w b cur _ _ _ o3) ?_ ?_ (fun e he=>?_) (fun j e x hj hx=>?_)
       ·rw[o9]at hkr;split at hkr
        ·cases hkr
        rename_i hne;exact hne (h.fR.own.apart k id r _ b hkr hr hbr rfl)
       ·simp only[dc,ag,aw,aR,bj];omega
       ·rw[ag,aw,←hvl];omega
       ·rcases aK.1 he with he | he
        ·exact (h.gV id _ hr).2 e (cY he)
        exact WC e he
       simp only[cF];rw[bU,cy];rw[cy]at hj;have e2:(cells.take (n * ti.size)).length=n * ti.size:=by simp;omega
       have e3:(cur.toList.take (n * ti.size)).length=n * ti.size:=by simp;omega
       rw[e2]at hj;rw[e3];split
       ·rename_i hlo;rw[aZ hlo,cE,aZ hlo]at hj;rw[cE,aZ hlo];simpa using o5 j e x hj hx
       rename_i hlo;rw[aY hlo]at hj;have:=hnv _ e x hj hx;rw[List.getElem?_append_left (cC.1 this).1];exact this
      obtain⟨BD,v1,v2,v3⟩:=sq h (st:=⟨env,F,rs,nx⟩) hr rfl (o:=0) (k:=n * ti.size) (by simpa using P4);refine grow (oldE:=cells.take (n * ti.size)) (oldV:=BD) e1.symm hsub ?_ v1 (by rw[v1];simp;omega) (fun e he=>(h.gV id _ hr).2 e (cY he)) (fun j e x hj hx=>v3 j e x (by simpa using hj) hx) (by omega) (HW (by omega)) (fun b cap hc=>hput b cap hc (fun h=>absurd h hroom));rw[hsz];exact run_firstCells_some w.drew ti.size n _ _ _ BD v1 (fun j u hj=>by rw[kM];simpa using v2 j u hj)
   ·rename_i p n cc hx;have e1:=hF _ _ hx;simp only[EV.val,aa]at e1;simp only[RU,BW]at hk;obtain⟨rfl,cs,hcl,hfr,hk1,hk2⟩:=hk;rcases dk m with hm | hm
    ·have hvs:vs=[]:=aq (by rw[hnl,hm,dy]);subst hvs;subst hm;have hr:=run_append_nothing w t1 t2 o.type e i hut hi p n n (ah _) (a.eval y) hsrc';rw[e1]at hr;exact kL (ik ho ha hts hr) (same hx (by simp only[EV.val,e1]) (hk1 rfl))
    obtain⟨HW,hput⟩:=hk2 hm;refine grow (oldE:=cs.map .v) (oldV:=cs) e1.symm (fun k r hkr=>hkr) ?_ hcl (by simp) (fun e he=>by obtain⟨u,_,rfl⟩:=aG.1 he;trivial) (fun j e x hj hx=>?_) (by omega) (HW (by omega)) (fun b cap hc=>hput b cap hc (fun h=>by omega))
    ·cases p with
     | none=>
      have:cs=[]:=by
       cases cs with
       | nil=>rfl
       | cons u t=>have:=hfr 0 u rfl;simp[iw,gi]at this
      subst this;exact run_firstCells_none _ _ _ _ _
     | some ad=>
      rw[hsz];exact run_firstCells_some w.drew ti.size n _ _ _ cs hcl (fun j u hj=>by simpa using sc h.fR.le hfr j u hj)
    rw[aI,aS]at hj;obtain⟨u,hu,rfl⟩:=hj;simp only[EV.val,aa]at hx;subst hx;exact hu
   exact hk.elim
 exact hk.elim
theorem qN (bs:List UInt8):strOfNums (bs.map fun b=>(b.toNat:Int))=jE bs:=by
 unfold strOfNums jE;congr 2;rw[cO]
 conv=>rhs;rw[←List.map_id bs]
 apply List.map_congr_left;intro b _;simp
theorem RM (htb:g9 P tb){c:Ctx}{g:fe}{st:St}{a:Act}{w:World}(h:fI c N g st a w){o:Oper}{s t:TypeId}{x:Operand}(ho:o.op= .convert s t x){K:fe→St→Prop}{Q:Exit→Act→World→Prop}{K':Act→World→Prop}
  (hK: ∀g' st' a' w',fI c N g' st' a' w'→K g' st'→K' a' w') (hs:oG tb (tk tb s)=true) (ht:isStr (tk tb t)=true) (hk:Ps st.F st.rs (fun bs=>il N [] o.dst (.v (S bs)) K g st) (gO st.rs g st.env [] x)):o.wp P a w K' Q:=by
 obtain⟨e,hu,he⟩: ∃e,P.underlying s=some (.slice e)∧P.underlying e=some (.int .u8):=by
  unfold oG at hs;split at hs
  ·rename_i e h1;split at hs
   ·rename_i h2;refine⟨e,jq htb h1,?_⟩;obtain⟨d,h3,h4⟩:=gR htb h2;simp only[TK.fits]at h4;rw[h3,h4]
   cases hs
  cases hs
 have hd:P.underlying t=some .string:=by
  unfold isStr at ht;split at ht
  ·rename_i h1;exact Iz htb h1
  cases ht
 have hF:=gT h (iU a);have fin: ∀bs:List UInt8,(convert s t (a.eval x)).run P w= .ok (S bs) w→il N [] o.dst (.v (S bs)) K g st→o.wp P a w K' Q:=fun bs hrun hput=>by
  obtain⟨g',st',h1,_,_,_,h2,_⟩:=kj h (ch:=[]) (e:=.v (S bs)) (v:=S bs) trivial (fun _=>rfl) (fun _=>trivial) (jY _ _) hput;refine kL ?_ (hK _ _ _ _ (h2 (iU a)) h1);simp only[execOp,ho,run_bind,hrun,run_pure]
 unfold Ps at hk;split at hk
 ·rename_i id off m cc hx;have e1:=hF _ _ hx;cases hr:fU st.rs id with
  | none=>simp[hr,Af]at hk
  | some r=>
   simp only[EV.val,hr,aa]at e1;obtain⟨rb,cells,ty,cap⟩:=r;cases rb with
   | none=>
    simp only[hr,Af]at hk;obtain⟨rfl,bs,h1,h2⟩:=hk;have:bs=[]:=by cases bs with | nil=>rfl | cons u l=>simp at h1
    subst this;refine fin [] ?_ h2;rw[←e1];exact run_convert_bytes_nil w s e hu he 0 cc t hd
   | some b=>
    simp only[hr,Af,aA]at hk;obtain⟨h1,bs,h2,h3⟩:=hk;obtain⟨vs,v1,v2,v3⟩:=sq h hr rfl h1;have hbl:bs.length=m:=by
     have:=a8 List.length h2;simp at this;omega
    refine fin bs ?_ h3;rw[←e1];have:=run_convert_bytes_arg w s e hu he b off m cc (bs.map fun b=>(b.toNat:Int)) (by simpa using hbl) (fun i hi=>by
     have hlt:i<bs.length:=by omega
     have e2:((cells.take (off+m)).drop off)[i]? =some (.v (.int .u8 (bs[i].toNat:Int))):=by
      rw[h2];simp[hlt]
     have:=v2 i _ (v3 i _ _ e2 rfl);rw[this];simp[List.getD,hlt]) t hd
    rw[qN]at this;exact this
 ·rename_i p m cc hx;have e1:=hF _ _ hx;simp only[EV.val,aa]at e1;obtain⟨bs,h1,h2,h3⟩:=hk;refine fin bs ?_ h3;rw[←e1];cases p with
  | none=>
   have:bs=[]:=by
    cases bs with
    | nil=>rfl
    | cons u l=>have:=h2 0 _ rfl;simp[iw,gi]at this
   subst this;simp only[cK]at h1;subst h1;exact run_convert_bytes_nil w s e hu he 0 cc t hd
  | some ad=>
   have hl:(loadCells ad m).run P w= .ok ((bs.map fun b=>(b.toNat:Int)).map (Value.int .u8)).toArray w:=by
    have:=run_loadCells_list (P:=P) w ad (bs.map fun b=>Value.int .u8 (b.toNat:Int)) (sc h.fR.le h2);rw[ab,h1]at this;rw[this,cO];rfl
   rw[run_convert_bytes_string w s t e _ m cc hu he hd,run_bytesToString w ad m cc _ hl,foldl_push_bytes];have:=qN bs;unfold strOfNums at this;simp only[S,←this];simp[ByteArray.empty,ByteArray.emptyWithCapacity];rfl
 exact hk.elim
theorem xd.ctx {c c':Ctx}{F:Hp}{rs:RL}{w:World}(h:xd c F rs w)(h1:c'.wE=c.wE)(h2:c'.F0=c.F0)(h3:c'.sz=c.sz)(h4:c'.F1=c.F1):xd c' F rs w where
 le:=h.le
 own:=h.own
 ir:=by rw[h1];exact h.ir
 new:=by rw[h1];exact h.new
 jW:=by rw[h1,h2];exact h.jW
 sz:=by rw[h3];exact h.sz
 tp:=by rw[h1,h2,h4];exact h.tp
theorem Dx {rs:RL}{ρ:Operand→Option EV}{ρ':Operand→Value}(hρ:Fits rs ρ ρ'): ∀{l:List Operand} {es:List EV},Gc ρ l=some es→iZ rs es=some (l.map ρ')
 | [],es,h=>by simp only[Gc,aa]at h;subst h;rfl
 | o::l,es,h=>by
  simp only[Gc]at h;split at h
  ·rename_i e es' he hes;simp only[aa]at h;subst h;have:=Dx hρ hes;simp only[iZ,hρ _ _ he,this,a9]
  simp at h
theorem ri {rs:RL}: ∀{l1 l2:List EV} {x1 x2:List Value},iZ rs l1=some x1→iZ rs l2=some x2→iZ rs (l1++l2)=some (x1++x2)
 | [],l2,x1,x2,h1,h2=>by simp only[iZ,aa]at h1;subst h1;simpa using h2
 | e::l1,l2,x1,x2,h1,h2=>by
  simp only[iZ]at h1;split at h1
  ·rename_i x xs hx hxs;simp only[aa]at h1;subst h1;have:=ri hxs h2;simp only[bZ,iZ,hx,this]
  simp at h1
theorem eH {rs:RL}: ∀(l:List Value),iZ rs (l.map .v)=some l
 | []=>rfl
 | x::l=>by simp only[a9,iZ,EV.val,eH l]
theorem val_succ {c:Ctx}{F:Hp}{rs:RL}{nx:Nat}(h:BP c F rs nx){e:EV}(he:e.lt c.QL){x:Value}(hx:e.val rs=some x):e.val c.vD=some x:=by
 cases e with
 | v y=>exact hx
 | loc id o=>
  simp only[EV.val]at hx ⊢;split at hx
  ·rename_i r hr;obtain⟨r0,h1,h2⟩:=h.succ id r he hr;rw[h1];simp only[h2];exact hx
  simp at hx
 | row id o n c'=>
  simp only[EV.val]at hx ⊢;split at hx
  ·rename_i r hr;obtain⟨r0,h1,h2⟩:=h.succ id r he hr;rw[h1];simp only[h2];exact hx
  simp at hx
theorem TS {c:Ctx}{g:fe}{st:St}{a:Act}{w:World}(h:fI c N g st a w){o:Oper}{f:Operand}{args:Array Operand}{ts:Array TypeId}(ho:o.op= .call ⟨.value f,args,ts⟩){K:fe→St→Prop}{Q:Exit→Act→World→Prop}{K':Act→World→Prop}
  (hK: ∀g' st' a' w',fI c N g' st' a' w'→K g' st'→K' a' w') (hk:Nj P N o.dst K g st (gO st.rs g st.env [] f) (Gc (gO st.rs g st.env []) args.toList)):o.wp P a w K' Q:=by
 have hF:=gT h (iU a);obtain⟨env,F,rs,nx⟩:=st;unfold Nj at hk;split at hk
 ·rename_i env F rs nx n first captured es hst hf he;simp only[St.mk.injEq]at hst;obtain⟨rfl,rfl,rfl,rfl⟩:=hst;obtain⟨hb,QQ,hc,hq⟩:=hk;have e1:=hF _ _ hf;simp only[EV.val,aa]at e1;have e2:=Dx hF he;have e3:=ri (ri (eH (rs:=rs) first.toList) e2) (eH (rs:=rs) captured.toList);have e4:first++args.map a.eval++captured=(first.toList++args.toList.map a.eval++captured.toList).toArray:=by
   apply bg;simp
  unfold Oper.wp;rw[yi ho e1.symm hb,Oper.upon_enter,e4];refine (hc ⟨c.wE,c.F0,c.F1,rs,nx,c.sz⟩ w (h.fR.ctx rfl rfl rfl rfl) ⟨h.gL.sub,ah _,fun id r _ hr=>⟨r,hr,rfl⟩⟩ h.gV rfl rfl _ e3).mono fun e w' ⟨x,ev,F',rs',nx',he',hw',hh',hr',hlt,hv,hQ⟩=>?_;subst he';have hs:fI c N g ⟨env,F',rs',nx'⟩ a w':={
   size:=h.size
   defers:=h.defers
   fR:=hw'.ctx rfl rfl rfl rfl
   gL:={
    sub:=hh'.sub
    kX:=dq h.gL.kX hh'.kX
    succ:=fun id r hid hr=>by
     obtain⟨r0,h1,h2⟩:=hh'.succ id r (Nat.lt_of_lt_of_le hid h.gL.kX) hr;obtain⟨r1,h3,h4⟩:=h.gL.succ id r0 hid h1;exact⟨r1,h3,h4.trans h2⟩ }
   gV:=hr'
   ids:=fun n e he=>(h.ids n e he).mono hh'.kX
   env:=fun n e x hg he hx=>h.env n e x hg he (val_succ hh' (h.ids n e he) hx)
   gv:=fun n ch e hg=>by
    obtain⟨h1,h2,h3,h4⟩:=h.gv n ch e hg;exact⟨fun hA=>⟨fun x hx=>(h1 hA).1 x (val_succ hh' h3 hx),(h1 hA).2⟩,h2,h3.mono hh'.kX,h4⟩ }
  have hput:=hq ev F' rs' nx' trivial hh'.kX hQ;cases hd:o.dst with
  | none=>
   rw[hd]at hput;exact hK _ _ _ _ hs hput
  | some d=>
   rw[hd]at hput;obtain⟨g',st',h1,_,_,_,h2,_⟩:=kj hs (ch:=[]) (d:=some d) (e:=ev) (v:=x) hlt (fun _=>hv) (fun _=>trivial) (jY _ _) hput;exact hK _ _ _ _ (h2 (iU a)) h1
 exact hk.elim
theorem NC (htb:g9 P tb){c:Ctx}{g:fe}{st:St}{a:Act}{w:World}(h:fI c N g st a w){o:Oper}{K:fe→St→Prop}{Q:Exit→Act→World→Prop}{K':Act→World→Prop}
  (hK: ∀g' st' a' w',fI c N g' st' a' w'→K g' st'→K' a' w') (hk:Mc P tb N o.dst K g st o.op):o.wp P a w K' Q:=by
 cases ho:o.op with
 | call cc=>
  rw[ho]at hk;obtain⟨callee,args,ts⟩:=cc;cases callee with
  | value f=>exact TS h ho hK hk
  | builtin b=>
   cases b with
   | append=>
    obtain⟨x,y,t1,t2,h1,h2,h3⟩:=hk;exact Sf htb h ho hK h1 h2 h3
   | _=>exact hk.elim
  | invoke r m=>exact hk.elim
 | convert s t x=>
  rw[ho]at hk;exact RM htb h ho hK hk.1 hk.2.1 hk.2.2
 | _=>rw[ho]at hk;exact hk.elim
theorem R7 {c:Ctx}{g:fe}{st:St}{a:Act}{w:World}(h:fI c N g st a w){o:Oper}{K:fe→St→Prop}{Q:Exit→Act→World→Prop}{K':Act→World→Prop}
  (hK: ∀g' st' a' w',fI c N g' st' a' w'→K g' st'→K' a' w') (hk:UE P N o.dst K g st o.op):o.wp P a w K' Q:=by
 obtain⟨ι,ef,stf,hr,WD⟩:=hk;obtain⟨i,v,w',h1,h2,h3⟩:=hr c a w o h rfl;have hput:=WD i;generalize ef i=e at hput h3;generalize stf i=st' at hput h2 h3;rcases h1 with h1 | ⟨h0,h1⟩
 rotate_left
 ·unfold Oper.wp;rw[h1];show K' (a.put o.dst undef) w';rw[h0]at hput ⊢;exact hK _ _ _ _ h2 hput
 refine kL h1 ?_;cases hd:o.dst with
 | none=>
  rw[hd]at hput;exact hK _ _ _ _ h2 hput
 | some d=>
  rw[hd]at hput;obtain⟨g',aap,g1,_,_,_,g2,_⟩:=kj h2 (ch:=[]) (d:=some d) (e:=e) (v:=v) (mX (fun id r hr=>(h2.gV id r hr).1) h3) (fun _=>h3) (fun _=>trivial) (jY _ _) hput;exact hK _ _ _ _ (g2 (iU a)) g1
end
section
variable {P:Program} {tb:Tb} {N:Nat}
theorem zD (l1 l2:RL)(id:Nat):fU (l1++l2) id=match fU l1 id with | some r=>some r | none=>fU l2 id:=by
 induction l1 with
 | nil=>rfl
 | cons p l1 ih=>
  obtain⟨m,r⟩:=p;rw[bZ,fb,fb,ih];by_cases h:id=m<;>simp[h]
theorem r8 (n:Nat)(new:RL)(id:Nat):fU (gD n new) id=if n≤id then (fU new (id - n)).map (gY n) else none:=by
 induction new with
 | nil=>simp[gD,fU]
 | cons p new ih=>
  obtain⟨m,r⟩:=p;have ih':fU (List.map (fun x=>(n+x.1,gY n x.2)) new) id=if n≤id then (fU new (id - n)).map (gY n) else none:=ih
  simp only[gD,a9];rw[fb,ih',fb];by_cases h:id=n+m
  ·subst h;rw[aZ rfl,aZ (by omega),aZ (by omega)];rfl
  rw[aY h];by_cases h2:n≤id
  ·rw[aZ h2,aZ h2,aY (by omega)]
  rw[aY h2,aY h2]
theorem C5 {nx:Nat}{new rs:RL}{id:Nat}(h:nx≤id)(hr: ∀id r,fU rs id=some r→id<nx):fU (gD nx new++rs) id=(fU new (id - nx)).map (gY nx):=by
 rw[zD,r8,aZ h];cases hl:fU new (id - nx) with
 | some r=>rfl
 | none=>
  simp only[dA];cases hk:fU rs id with
  | none=>rfl
  | some r=>have:=hr id r hk;omega
theorem BJ {nx:Nat}{new rs:RL}{id:Nat}(h:id<nx):fU (gD nx new++rs) id=fU rs id:=by
 rw[zD,r8,aY (by omega)]
theorem BS {nx:Nat}{new rs:RL}{e:EV}(h:e.lt nx):e.val (gD nx new++rs)=e.val rs:=by
 cases e with
 | v x=>rfl
 | loc id o=>simp only[EV.lt]at h;simp only[EV.val,BJ h]
 | row id o n c=>simp only[EV.lt]at h;simp only[EV.val,BJ h]
theorem CH {nx:Nat}{new rs:RL}(hr: ∀id r,fU rs id=some r→id<nx)(e:EV):(g8 nx e).val (gD nx new++rs)=e.val new:=by
 cases e with
 | v x=>rfl
 | loc id o=>
  simp only[g8,EV.val,C5 (dm nx id) hr,dh];cases fU new id<;>rfl
 | row id o n c=>
  simp only[g8,EV.val,C5 (dm nx id) hr,dh];cases fU new id<;>rfl
theorem o7 {nx m:Nat}{e:EV}(h:e.lt m):(g8 nx e).lt (nx+m):=by
 cases e<;>simp only[g8,EV.lt]at * <;>omega
theorem r9 {n:Nat}{r:kg}{b:Nat}(h:(gY n r).at b):r.at b:=by
 rcases h with h | ⟨h1,h0,h2⟩
 ·exact .inl h
 refine .inr ⟨h1,h0,?_⟩;simp only[gY,List.map_eq_singleton_iff]at h2;obtain⟨e,he,h3⟩:=h2;rw[he];cases e with
 | v x=>exact a8 (fun e=>[e]) h3
 | loc id o=>cases h3
 | row id o n c=>cases h3
theorem Nb {c:Ctx}{g:fe}{env:Env}{F F':Hp}{rs new:RL}{nx m:Nat}{a:Act}{w w':World}(h:fI c N g ⟨env,F,rs,nx⟩ a w)(hsub:F.sub F')(hle:F'.le w')(hp:ic [] w w')(hfn:O2 F F' w.heap.size)
  (hown:nv F' new w') (hnb: ∀id r b,fU new id=some r→r.at b→w.heap.size≤b) (hm: ∀id r,fU new id=some r→id<m∧ ∀e∈r.cells,e.lt m):fI c N g ⟨env,F',gD nx new++rs,nx+m⟩ a w':=by
 have hrl: ∀id r,fU rs id=some r→id<nx:=fun id r hr=>(h.gV id r hr).1;have cases': ∀id r,fU (gD nx new++rs) id=some r→(id<nx∧fU rs id=some r)∨(nx≤id∧ ∃r0,fU new (id - nx)=some r0∧r=gY nx r0):=fun id r hr=>by
  by_cases hid:id<nx
  ·rw[BJ hid]at hr;exact .inl ⟨hid,hr⟩
  have WE:nx≤id:=by omega
  rw[C5 WE hrl,aS]at hr;obtain⟨r0,h1,h2⟩:=hr;exact .inr ⟨WE,r0,h1,h2.symm⟩
 have hw:=h.fR.zL hp;exact {
  size:=h.size
  defers:=h.defers
  fR:={
   le:=hle
   own:={
    own:=fun id r hr=>by
     rcases cases' id r hr with⟨hid,hr'⟩ | ⟨hid,r0,hr0,rfl⟩
     ·have h1:=hw.own.own id r hr';cases hb:r.gq with
      | none=>rw[hb]at h1;exact h1
      | some b=>
       rw[hb]at h1;obtain⟨g1,g2,cur,g3,g4,g5⟩:=h1;have hbl:=h.fR.own.lt hr' hb;refine⟨?_,g2,cur,g3,g4,fun j ev x hj hx=>g5 j ev x hj ?_⟩
       ·show F' b=none;cases hf:F' b with
        | none=>rfl
        | some o=>
         have g1':F b=none:=g1;rcases hfn b (by simp[hf]) with h' | h'
         ·rw[g1']at h';cases h'
         omega
       rw[BS ((h.gV id r hr').2 ev (cW hj))]at hx;exact hx
     have h1:=hown.own (id - nx) r0 hr0;simp only[gY];cases hb:r0.gq with
     | none=>rw[hb]at h1;exact⟨h1.1.elim (fun e=>.inl (by rw[e];rfl)) (fun⟨e0,b,e⟩=>.inr ⟨e0,b,by rw[e];rfl⟩),h1.2⟩
     | some b=>
      rw[hb]at h1;obtain⟨g1,g2,cur,g3,g4,g5⟩:=h1;refine⟨g1,by rw[ab];exact g2,cur,g3,g4,fun j ev x hj hx=>?_⟩;rw[aI,aS]at hj;obtain⟨ev0,hj0,rfl⟩:=hj;rw[CH hrl]at hx;exact g5 j ev0 x hj0 hx
    apart:=fun i j r s b hi hj hb hs=>by
     rcases cases' i r hi with⟨hid,hr'⟩ | ⟨hid,r0,hr0,rfl⟩<;>rcases cases' j s hj with⟨hjd,hs'⟩ | ⟨hjd,s0,hs0,rfl⟩
     ·exact h.fR.own.apart i j r s b hr' hs' hb hs
     ·have h1:=h.fR.own.lt hr' hb;have h2:=hnb _ s0 b hs0 (.inl hs);omega
     ·have h1:=h.fR.own.lt hs' hs;have h2:=hnb _ r0 b hr0 (.inl hb);omega
     have:=hown.apart _ _ r0 s0 b hr0 hs0 hb hs;omega }
   ir:=hw.ir
   new:=fun id r b hr hb=>by
    rcases cases' id r hr with⟨hid,hr'⟩ | ⟨hid,r0,hr0,rfl⟩
    ·exact h.fR.new id r b hr' hb
    have h1:=hnb _ r0 b hr0 (r9 hb);have h2:=h.fR.ir.size;omega
   jW:=fun k hk=>by
    rcases hfn k hk with h' | h'
    ·exact h.fR.jW k h'
    have h2:=h.fR.ir.size;right;omega
   sz:=dq h.fR.sz hp.size
   tp:=h.fR.tp }
  gL:={
   sub:=h.gL.sub.trans hsub
   kX:=dq h.gL.kX (dm _ _)
   succ:=fun id r hid hr=>by
    have:=h.gL.kX;rcases cases' id r hr with⟨_,hr'⟩ | ⟨hge,_⟩
    ·exact h.gL.succ id r hid hr'
    simp only at this;omega }
  gV:=fun id r hr=>by
   rcases cases' id r hr with⟨hid,hr'⟩ | ⟨hid,r0,hr0,rfl⟩
   ·obtain⟨h1,h2⟩:=h.gV id r hr';exact⟨by simp only at h1 ⊢;omega,fun e he=>(h2 e he).mono (dm _ _)⟩
   obtain⟨h1,h2⟩:=hm _ r0 hr0;refine⟨by simp only;omega,fun e he=>?_⟩;simp only[gY,aG]at he;obtain⟨e0,he0,rfl⟩:=he;exact o7 (h2 e0 he0)
  ids:=fun n e he=>(h.ids n e he).mono (dm _ _)
  env:=fun n e x hg he hx=>by
   rw[BS (h.ids n e he)]at hx;exact h.env n e x hg he hx
  gv:=fun n ch e hg=>by
   obtain⟨h1,h2,h3,h4⟩:=h.gv n ch e hg;refine⟨fun hA=>⟨fun x hx=>(h1 hA).1 x ?_,(h1 hA).2⟩,h2,h3.mono (dm _ _),h4⟩;rw[BS h3]at hx;exact hx }
theorem G9 {new:RL}{m:Nat}(hm: ∀id r,fU new id=some r→id<m∧ ∀e∈r.cells,e.lt m){e:EV}{x:Value}(h:e.val new=some x):e.lt m:=by
 cases e with
 | v _=>trivial
 | loc id o=>
  simp only[EV.val]at h;split at h
  ·rename_i r hl;exact (hm _ _ hl).1
  simp at h
 | row id o n c=>
  simp only[EV.val]at h;split at h
  ·rename_i r hl;exact (hm _ _ hl).1
  simp at h
theorem HM {c:Ctx}{g:fe}{st:St}{a:Act}{w:World}(h:fI c N g st a w){o:Oper}{f:Operand}{args:Array Operand}{ts:Array TypeId}(ho:o.op= .call ⟨.value f,args,ts⟩)
  {n:FuncId} {first captured:Array Value} {xs:List Value} (hf:gO st.rs g st.env [] f=some (.v (.func (.func n) first captured))) (hx:sy st.rs (gO st.rs g st.env []) args.toList=some xs) (hb:dK P n)
  {K:fe→St→Prop} {Q:Exit→Act→World→Prop} {K':Act→World→Prop} (hK: ∀g' st' a' w',fI c N g' st' a' w'→K g' st'→K' a' w')
  (hk:C9 P N n (first.toList++xs++captured.toList) o.dst K g st):o.wp P a w K' Q:=by
 have hF:=gT h (iU a);have e1:=hF _ _ hf;simp only[EV.val,aa]at e1;have e2:=uQ hF hx;have e3:first++args.map a.eval++captured=(first.toList++xs++captured.toList).toArray:=by
  apply bg;simp[←e2]
 clear hF e1;have hf':a.eval f= .func (.func n) first captured:=by
  have:=gT h (iU a) _ _ hf;simp only[EV.val,aa]at this;exact this.symm
 unfold Oper.wp;rw[yi ho hf' hb,Oper.upon_enter,e3];obtain⟨st,h,QQ,hc,hq⟩:=hk c a w h;refine (hc w h.fR.le).mono fun e w' ⟨x,F',new,he,hsub,hle,hp,hfn,hown,hnb,hQ⟩=>?_;subst he;obtain⟨m,ev,hm,hv,hput⟩:=hq x F' new hsub hQ;obtain⟨env,F,rs,nx⟩:=st;have hs:=Nb h hsub hle hp hfn hown hnb hm;have hrl: ∀id r,fU rs id=some r→id<nx:=fun id r hr=>(h.gV id r hr).1;obtain⟨g',st',h1,_,_,_,h2,_⟩:=kj hs (ch:=[]) (e:=g8 nx ev) (v:=x) (o7 (G9 hm hv)) (fun _=>by rw[CH hrl];exact hv) (fun _=>trivial) (jY _ _) hput;exact hK _ _ _ _ (h2 (iU a)) h1
theorem N5 {c:Ctx}{g:fe}{st:St}{a:Act}{w:World}(h:fI c N g st a w){ch:gx}{o:Oper}{e:EV}{v:Value}(hq:Quiet P st ch a o e v)(hA:gA ch a){K':Act→World→Prop}{Q:Exit→Act→World→Prop}
  (hk: ∀w',C c st w'→K' (a.put o.dst v) w'):o.wp P a w K' Q:=
 Oper.wp_of_quiet (C:=C c st) (K:=fun a'=>a'=a.put o.dst v) h.fR (fun a' w' hw' e=>by subst e;exact hk w' hw') ⟨v,hq.run hA _ (L5 c st),rfl⟩
theorem zt (htb:g9 P tb){c:Ctx}{g:fe}{st:St}{a:Act}{w:World}(h:fI c N g st a w){ch:gx}(hA:gA ch a)(va:gA ch a→gP ch)(hfree:CD g st.env ch){o:Oper}{K:fe→St→Prop}{Q:Exit→Act→World→Prop}{K':Act→World→Prop}
  (ih: ∀g' st' a' w',fI c N g' st' a' w'→K g' st'→K' a' w') (hop:nK P tb N false ch o.dst K g st o.op):o.wp P a w K' Q:=by
  have quiet:nK P tb N true ch o.dst K g st o.op→o.wp P a w K' Q:=fun hop'=>by
   obtain⟨e,v,hq,hp⟩:=tJ htb h va hop';obtain⟨g',st',YN,hF,hrs,_,h1,h2⟩:=kj h hq.lt hq.val va hfree hp;refine N5 h hq hA fun w' hw'=>?_;refine ih g' st' _ w' ((h1 hA).world ?_) YN;unfold C at hw' ⊢;rw[hF,hrs];exact hw'
  have WG:ch=[]→o.wp P a w K' Q→o.wp P a w K' Q:=fun _ hw=>hw;cases ho:o.op with
  | call cc=>
   obtain⟨callee,args,ts⟩:=cc;cases callee with
   | value f=>
    cases ch with
    | cons c0 ch=>
     refine quiet ?_;rw[ho]at hop ⊢;simp only[nK]at hop ⊢;unfold lZ at hop ⊢;split at hop
     ·rename_i hf hx;simp only[FO]at hop ⊢;exact hop
     exact hop.elim
    | nil=>
     refine WG rfl ?_;rw[ho]at hop;simp only[nK]at hop;unfold lZ at hop;split at hop
     ·rename_i n first captured xs hf hx;simp only[FO]at hop;exact HM h ho hf hx hop.1 ih hop.2
     exact hop.elim
   | builtin b=>exact quiet (by rw[ho]at hop ⊢;exact hop)
   | invoke r m=>rw[ho]at hop;exact hop.elim
  | alloc t=>
   rw[ho]at hop;simp only[nK]at hop;exact WG hop.2.1 (N8 htb h ho ih hop.2.2)
  | box t x=>
   rw[ho]at hop;simp only[nK]at hop;obtain⟨_,rfl,hop⟩:=hop;exact WG rfl (Rw h ho ih hop)
  | buildSlice t n ps=>
   rw[ho]at hop;simp only[nK]at hop;obtain⟨_,rfl,hop⟩:=hop;exact WG rfl (KO htb h ho ih hop)
  | store t x y=>
   rw[ho]at hop;simp only[nK]at hop;obtain⟨_,rfl,hd,hop⟩:=hop;exact WG rfl (M4 htb h ho hd ih hop)
  | pick x y z=>exact quiet (by rw[ho]at hop ⊢;cases x<;>exact hop)
  | load t x=>exact quiet (by rw[ho]at hop ⊢;exact hop)
  | move x=>exact quiet (by rw[ho]at hop ⊢;exact hop)
  | assign x=>exact quiet (by rw[ho]at hop ⊢;exact hop)
  | build _ _=>exact quiet (by rw[ho]at hop ⊢;exact hop)
  | nilCheck _=>exact quiet (by rw[ho]at hop ⊢;exact hop)
  | binOp _ _ _ _ _=>exact quiet (by rw[ho]at hop ⊢;exact hop)
  | unOp _ _ _=>exact quiet (by rw[ho]at hop ⊢;exact hop)
  | convert _ _ _=>exact quiet (by rw[ho]at hop ⊢;exact hop)
  | makeFunc _ _ _=>exact quiet (by rw[ho]at hop ⊢;exact hop)
  | slice _ _ _ _ _=>exact quiet (by rw[ho]at hop ⊢;exact hop)
  | fieldAddr _ _ _=>exact quiet (by rw[ho]at hop ⊢;exact hop)
  | field _ _ _=>exact quiet (by rw[ho]at hop ⊢;exact hop)
  | indexAddr _ _ _=>exact quiet (by rw[ho]at hop ⊢;exact hop)
  | index _ _ _=>exact quiet (by rw[ho]at hop ⊢;exact hop)
  | extract _ _=>exact quiet (by rw[ho]at hop ⊢;exact hop)
  | _=>rw[ho]at hop;exact hop.elim
theorem Nc (htb:g9 P tb){c:Ctx}{g:fe}{st:St}{a:Act}{w:World}(h:fI c N g st a w){o:Oper}{K:fe→St→Prop}{Q:Exit→Act→World→Prop}{K':Act→World→Prop}
  (hK: ∀g' st' a' w',fI c N g' st' a' w'→K g' st'→K' a' w') (hk:W3 P tb N false o.dst K g st o.op):o.wp P a w K' Q:=by
 rcases hk with hk | ⟨_,hk⟩ | ⟨_,hk⟩
 ·exact zt htb h (iU a) (fun _=>trivial) (jY _ _) hK hk
 ·exact NC htb h hK hk
 obtain⟨st',h1,hk | hk | hk⟩:=hk c a w h
 ·exact zt htb h1 (iU a) (fun _=>trivial) (jY _ _) hK hk
 ·exact NC htb h1 hK hk
 exact R7 h1 hK hk
theorem yq (htb:g9 P tb){c:Ctx}{g:fe}{st:St}{a:Act}{w:World}(h:fI c N g st a w){ops:Array Oper}{o:Oper}{K:fe→St→Prop}{Q:Exit→Act→World→Prop}{K':Act→World→Prop}
  (hK: ∀g' st' a' w',fI c N g' st' a' w'→K g' st'→K' a' w') (hk:wU P tb N false ops.toList o.op o.dst K g st o.guard):
  (Region.wanted o (yielded ops a.tmps)=true→o.wp P a w K' Q)∧(¬Region.wanted o (yielded ops a.tmps)=true→K' (a.put o.dst undef) w):=by
 cases hg:o.guard with
 | none=>
  rw[hg]at hk;have hw:Region.wanted o (yielded ops a.tmps)=true:=by simp only[Region.wanted,hg]
  exact⟨fun _=>Nc htb h hK hk,fun hn=>absurd hw hn⟩
 | some jw=>
  obtain⟨j,want⟩:=jw;rw[hg]at hk;rcases hk with hk | hk
  ·obtain⟨ch,hG,h2,h3⟩:=tW h hg hk;refine⟨fun hw=>zt htb h (hG.wanted.1 hw) hG.gp hG.free hK h2,fun hn=>?_⟩;have hA: ¬gA ch a:=fun hA=>hn (hG.wanted.2 hA);have quiet:nK P tb N true ch o.dst K g st o.op:=by
    cases ho:o.op with
    | call cc=>
     obtain⟨callee,args,ts⟩:=cc;cases callee with
     | value f=>
      cases ch with
      | nil=>exact absurd rfl h3
      | cons c0 ch=>
       rw[ho]at h2;simp only[nK]at h2 ⊢;unfold lZ at h2 ⊢;split at h2
       ·simp only[FO]at h2 ⊢;exact h2
       exact h2.elim
     | builtin b=>rw[ho]at h2;exact h2
     | invoke r m=>rw[ho]at h2;exact h2.elim
    | alloc t=>rw[ho]at h2;simp only[nK]at h2;exact absurd h2.2.1 h3
    | box t x=>rw[ho]at h2;simp only[nK]at h2;exact absurd h2.2.1 h3
    | buildSlice t n ps=>rw[ho]at h2;simp only[nK]at h2;exact absurd h2.2.1 h3
    | store t x y=>rw[ho]at h2;simp only[nK]at h2;exact absurd h2.2.1 h3
    | pick x y z=>rw[ho]at h2;cases x<;>exact h2
    | _=>rw[ho]at h2;exact h2
   obtain⟨e,v,hq,hp⟩:=tJ htb h hG.gp quiet;obtain⟨g',st',YN,hF,hrs,_,h1,h4⟩:=kj h hq.lt hq.val hG.gp hG.free hp;exact hK _ _ _ _ (h4 hA) YN
  rcases sH h hg hk with⟨hw,hk⟩ | ⟨hw,hk⟩
  ·exact⟨fun _=>Nc htb h hK hk,fun hn=>absurd hw hn⟩
  obtain⟨g',st',h1,_,_,_,h2⟩:=Ep h hk;exact⟨fun hn=>absurd hn hw,fun _=>hK _ _ _ _ h2 h1⟩
theorem sd (htb:g9 P tb){c:Ctx}{ops:Array Oper}{K:fe→St→Prop}{Q:Exit→Act→World→Prop}(hQ: ∀g st a w,fI c N g st a w→K g st→Q .normal a w): ∀(l:List Oper) (g:fe) (st:St) (a:Act) (w:World),fI c N g st a w→
  dW P tb N false ops.toList l K g st→wpList P ops Q l a w
 | [],g,st,a,w,h,hk=>hQ g st a w h hk
 | o::l,g,st,a,w,h,hk=>by
  have hs:=yq htb (ops:=ops) (o:=o) (Q:=Q) (K':=wpList P ops Q l) h (fun g' st' a' w' h1 h2=>sd htb hQ l g' st' a' w' h1 h2) hk;unfold wpList;split
  ·rename_i hw;exact .inl (hs.1 hw)
  rename_i hw;exact hs.2 hw
end
section
section
variable {P:Program} {ops:Array Oper} {md:Region.Mode} {R:Act→World→Prop}
def Qn (R:Act→World→Prop):Exit→Act→World→Prop:=fun e a w=>e= .normal∧R a w
theorem Qn.out: ¬LetsOut (Qn R):=fun h=>by
 have:=h;unfold LetsOut at this;simp[Qn]at this
def me (P:Program)(md:Region.Mode)(ops:Array Oper)(R:Act→World→Prop):Nat→Array Bool→(World→Prop)→Act→World→Prop
 | 0,done,_,a,w=>Region.ready md ops done=[]∧R a w
 | f+1,done,S,a,w=>(Region.ready md ops done=[]→R a w)∧
   ∀i∈Region.ready md ops done,wpOp P ops (Qn R) i (fun a' w'=>∃S' T':World→Prop,(∀x,S' x→S x)∧(∀x,T' x→S' x)∧(∀x y,T' x→ic [] x y→T' y)∧T' w'∧ ∀x,T' x→me P md ops R f (done.setIfInBounds i true) S' a' x) a w
theorem LU {o:Oper}{a:Act}{w:World}{K:Act→World→Prop}{Q:Exit→Act→World→Prop}(h:o.wp P a w K (Qn R)):o.wp P a w K Q:=by
 unfold Oper.wp at *;generalize (execOp a.eval o).run P w=r at *;cases r with
 | ok n w'=>
  cases n<;>simp only[Oper.upon]at h ⊢ <;>
   first
    | exact h
    | exact Calls.mono h (fun e w'' he=>by
      cases e
      ·exact he
      ·exact absurd he.1 (by simp)
      exact absurd he Qn.out)
 | halt x w'=>cases x<;>simp only[Oper.upon]at h ⊢ <;>first | exact h | exact absurd h.1 (by simp)
theorem me.any {Q:Exit→Act→World→Prop}(hQ: ∀a w,R a w→Q .normal a w): ∀(f:Nat) (done:Array Bool) (S:World→Prop) (a:Act) (w:World),me P md ops R f done S a w→wpAny P md ops Q f done a w:=by
 intro f
 induction f with
 | zero=>intro done S a w h;exact⟨h.1,hQ _ _ h.2⟩
 | succ f ih=>
  intro done S a w h;refine⟨fun h0=>hQ _ _ (h.1 h0),fun i hi=>?_⟩;have h1:=h.2 i hi;have go: ∀{a' w'},(∃S' T':World→Prop,(∀x,S' x→S x)∧(∀x,T' x→S' x)∧(∀x y,T' x→ic [] x y→T' y)∧T' w'∧ ∀x,T' x→me P md ops R f (done.setIfInBounds i true) S' a' x)→wpAny P md ops Q f (done.setIfInBounds i true) a' w':=fun {a' w'} ⟨S',T',_,_,_,h4,h5⟩=>ih _ _ _ _ (h5 _ h4);unfold wpOp at h1 ⊢;split
  ·rename_i ho;rw[ho]at h1;exact go h1
  rename_i o ho;rw[ho]at h1;simp only at h1;split
  ·rename_i hw;rw[aZ hw]at h1;rcases h1 with h1 | h1
   ·exact .inl (Oper.wp_mono (fun a' w' h'=>go h') (LU h1))
   exact absurd h1.2 Qn.out
  rename_i hw;rw[aY hw]at h1;exact go h1
def jn (P:Program)(ops:Array Oper)(S:World→Prop)(o:Oper)(v:Value)(a:Act):Prop:=
 if Region.wanted o (yielded ops a.tmps) then∀w,S w→o.quietAt P a (ic [] w) w v else v=undef
theorem Co {o:Oper}{v:Value}{a a':Act}{C:World→Prop}{w:World}(h:o.quietAt P a C w v)(he:execOp a'.eval o=execOp a.eval o):o.quietAt P a' C w v:=by
 unfold Oper.quietAt at *;rw[he];exact h
theorem CO {o:Oper}{v:Value}{a:Act}{C C':World→Prop}{w:World}(h:o.quietAt P a C w v)(hC: ∀x,C x→C' x):o.quietAt P a C' w v:=by
 unfold Oper.quietAt at *;generalize (execOp a.eval o).run P w=r at *;unfold Oper.quietUpon at *;split at h
 all_goals first
  | exact h
  | exact⟨h.1,h.2.mono fun e w2 he=>⟨he.1,hC _ he.2⟩⟩
theorem jn.of_same {S:World→Prop}{o:Oper}{v:Value}{a a':Act}(hy:jn P ops S o v a)(he:execOp a'.eval o=execOp a.eval o)(hw:Region.wanted o (yielded ops a'.tmps)=Region.wanted o (yielded ops a.tmps)):jn P ops S o v a':=by
 unfold jn at *;rw[hw];split
 ·rename_i h;rw[aZ h]at hy;exact fun w hs=>Co (hy w hs) he
 rename_i h;rw[aY h]at hy;exact hy
theorem jn.mono {S S':World→Prop}{o:Oper}{v:Value}{a:Act}(hy:jn P ops S o v a)(h: ∀x,S' x→S x):jn P ops S' o v a:=by
 unfold jn at *;split
 ·rename_i hw;rw[aZ hw]at hy;exact fun w hs=>hy w (h w hs)
 rename_i hw;rw[aY hw]at hy;exact hy
theorem R4 {oi oj:Oper}{v:Value}{a:Act}{w:World}{K:Act→World→Prop}(he:execOp (a.put oi.dst v).eval oj=execOp a.eval oj)(hd: ∀(b:Act) (u:Value),(b.put oi.dst v).put oj.dst u=(b.put oj.dst u).put oi.dst v)
  (h:oj.wp P (a.put oi.dst v) w K (Qn R)):oj.wp P a w (fun a' w'=>(∃d u,a'=({ a with defers:=d }:Act).put oj.dst u)∧K (a'.put oi.dst v) w') (Qn R):=by
 unfold Oper.wp at *;rw[he]at h;generalize (execOp a.eval oj).run P w=r at *;cases r with
 | ok n w'=>
  cases n with
  | value u=>exact⟨⟨a.defers,u,rfl⟩,by rw[←hd];exact h⟩
  | skip=>exact⟨⟨a.defers,undef,rfl⟩,by rw[←hd];exact h⟩
  | defer d=>
   simp only[Oper.upon]at h ⊢;refine⟨⟨d::a.defers,undef,rfl⟩,?_⟩;rw[←hd];have e:({ a.put oi.dst v with defers:=d::(a.put oi.dst v).defers }:Act)=({ a with defers:=d::a.defers }:Act).put oi.dst v:=by cases oi.dst<;>rfl
   rw[e]at h;exact h
  | enter f args=>
   simp only[Oper.upon]at h ⊢;exact Calls.mono h (fun e w'' he=>by
      cases e
      ·exact⟨⟨a.defers,_,rfl⟩,by rw[←hd];exact he⟩
      ·exact absurd he.1 (by simp)
      exact absurd he Qn.out)
  | row r args=>
   simp only[Oper.upon]at h ⊢;exact Rows.mono h (fun u w'' he=>⟨⟨a.defers,u,rfl⟩,by rw[←hd];exact he⟩)
  | _=>simp only[Oper.upon]at h
 | halt x w'=>cases x<;>simp only[Oper.upon]at h ⊢ <;>first | exact h.elim | exact absurd h.1 (by simp)
theorem B6 {i:Nat}{oi:Oper}{v:Value}(hi:ops[i]? =some oi)(hsel: ∀(j:Nat) (o:Oper) cs b,ops[j]? =some o→o.op≠ .select cs b):
  ∀(f:Nat) (done:Array Bool) (S T:World→Prop) (a:Act),(∀x,T x→S x)→(∀x y,T x→ic [] x y→T y)→
   (∀j oj,ops[j]? =some oj→j≠i→done.getD j true=false→(∀e∈oj.after,Region.binds md e=true→e.on≠i)→oi.apart ops oj=true)→
   i∈Region.ready md ops done→jn P ops S oi v a→(∀x,T x→me P md ops R f (done.setIfInBounds i true) S (a.put oi.dst v) x)→∀w,T w→me P md ops R (f+1) done S a w:=by
 have self: ∀(f:Nat) (done:Array Bool) (S T:World→Prop) (a:Act),(∀x,T x→S x)→(∀x y,T x→ic [] x y→T y)→jn P ops S oi v a→(∀x,T x→me P md ops R f (done.setIfInBounds i true) S (a.put oi.dst v) x)→∀w,T w→
   wpOp P ops (Qn R) i (fun a' w'=>∃S' T':World→Prop,(∀x,S' x→S x)∧(∀x,T' x→S' x)∧(∀x y,T' x→ic [] x y→T' y)∧T' w'∧ ∀x,T' x→me P md ops R f (done.setIfInBounds i true) S' a' x) a w:=fun f done S T a SO Re hy H w hT=>by
  unfold wpOp;simp only[hi];unfold jn at hy;split
  ·rename_i hw;rw[aZ hw]at hy;left;exact Oper.wp_of_quiet (C:=ic [] w) (K:=fun a'=>a'=a.put oi.dst v) (ic.refl [] w) (fun a' w' hw' e=>by subst e;exact⟨S,T,fun _ h=>h,SO,Re,Re _ _ hT hw',H⟩) ⟨v,fun x hx=>CO (hy x (SO _ (Re _ _ hT hx))) (fun y hy=>hx.trans hy),rfl⟩
  rename_i hw;rw[aY hw]at hy;subst hy;exact⟨S,T,fun _ h=>h,SO,Re,hT,H⟩
 intro f
 induction f with
 | zero=>
  intro done S T a SO Re _ hr hy H w hT;refine⟨fun h=>(by rw[h]at hr;cases hr),fun j hj=>?_⟩;by_cases hji:j=i
  ·subst hji;exact self 0 done S T a SO Re hy H w hT
  have:=ready_mono hj hji;rw[(H w hT).1]at this;cases this
 | succ f ih=>
  intro done S T a SO Re hfree hr hy H w hT;have hun:=(mem_ready.1 hr).1;refine⟨fun h=>(by rw[h]at hr;cases hr),fun j hj=>?_⟩;by_cases hji:j=i
  ·subst hji;exact self (f+1) done S T a SO Re hy H w hT
  obtain⟨hjun,oj,hoj,hall⟩:=mem_ready.1 hj;have hnot: ∀e∈oj.after,Region.binds md e=true→e.on≠i:=fun e he hb heq=>by
   have h1:=hall e he hb;rw[heq,getD_both hun]at h1;cases h1
  obtain⟨h1,h2,h3⟩:=Oper.apart_spec (hfree j oj hoj hji hjun hnot);have hsi: ∀cs b,oi.op≠ .select cs b:=fun cs b=>hsel i oi cs b hi;have hsj: ∀cs b,oj.op≠ .select cs b:=fun cs b=>hsel j oj cs b hoj;have Ck: ∀(a:Act),jn P ops S oi v a→∀u,jn P ops S oi v (a.put oj.dst u):=fun a hy u=>
   hy.of_same (execOp_put oi hsi a oj.dst u h3) (wanted_put oi a oj.dst u h3)
  have WH: ∀(a:Act) d,jn P ops S oi v a→jn P ops S oi v { a with defers:=d }:=fun a d hy=>hy;have step: ∀a' w',jn P ops S oi v a'→(∃S' T':World→Prop,(∀x,S' x→S x)∧(∀x,T' x→S' x)∧(∀x y,T' x→ic [] x y→T' y)∧T' w'∧ ∀x,T' x→me P md ops R f ((done.setIfInBounds i true).setIfInBounds j true) S' (a'.put oi.dst v) x)→
    ∃S' T':World→Prop,(∀x,S' x→S x)∧(∀x,T' x→S' x)∧(∀x y,T' x→ic [] x y→T' y)∧T' w'∧ ∀x,T' x→me P md ops R (f+1) (done.setIfInBounds j true) S' a' x:=fun a' w' hy' ⟨S',T',k1,k2,k3,k4,k5⟩=>by
   refine⟨S',T',k1,k2,k3,k4,ih (done.setIfInBounds j true) S' T' a' k2 k3 (fun k ok hk hki hu hno=>hfree k ok hk hki ?_ hno) (ready_mono hr (Ne.symm hji)) (hy'.mono k1) (fun x hx=>?_)⟩
   ·by_cases hjk:j=k
    ·subst hjk;exact hjun
    rw[getD_set_ne true hjk]at hu;exact hu
   rw[Array.setIfInBounds_comm _ _ hji];exact k5 x hx
  have h0:=(H w hT).2 j (ready_mono hj hji);unfold wpOp at h0 ⊢;simp only[hoj]at h0 ⊢;rw[wanted_put oj a oi.dst v h1]at h0;split
  ·rename_i hw;rw[aZ hw]at h0;rcases h0 with h0 | h0
   ·left;refine Oper.wp_mono (fun a' w' h'=>?_) (R4 (execOp_put oj hsj a oi.dst v h1) (fun b u=>Act.put_comm b v u h2) h0);obtain⟨⟨d,u,rfl⟩,h''⟩:=h';exact step _ _ (Ck _ (WH _ _ hy) u) h''
   exact absurd h0.2 Qn.out
  rename_i hw;rw[aY hw]at h0;refine step _ _ (Ck _ hy _) ?_;rw[←Act.put_comm a v undef h2];exact h0
end
section
variable {P:Program} {tb:Tb} {N:Nat}
def PA (kept:List Nat)(st:St):St:=⟨st.env,st.F,mask kept st.rs,st.nx⟩
theorem uX (kept:List Nat)(rs:RL)(id:Nat):fU (mask kept rs) id=(fU rs id).map fun r=>if kept.contains id then r else ⟨r.gq,[],r.ty,r.cap⟩:=by
 induction rs with
 | nil=>rfl
 | cons p rs ih=>
  obtain⟨m,⟨b,cells,ty,cap⟩⟩:=p;simp only[mask];split
  ·rename_i hc;rw[fb,fb,ih];by_cases h:id=m
   ·subst h;simp only[dF,aJ,hc]
   simp only[aY h]
  rename_i hc;rw[fb,fb,ih];by_cases h:id=m
  ·subst h;simp only[dF,aJ,hc];rfl
  simp only[aY h]
theorem ot (kept:List Nat)(rs:RL)(e:EV):e.val (mask kept rs)=e.val rs:=by
 cases e with
 | v x=>rfl
 | loc id o=>
  simp only[EV.val,uX];cases fU rs id with
  | none=>rfl
  | some r=>simp only[aJ];cases kept.contains id<;>rfl
 | row id o n c=>
  simp only[EV.val,uX];cases fU rs id with
  | none=>rfl
  | some r=>simp only[aJ];cases kept.contains id<;>rfl
theorem ng {kept:List Nat}{rs:RL}{id:Nat}{r:kg}(h:fU (mask kept rs) id=some r): ∃r0,fU rs id=some r0∧r.gq=r0.gq∧r.ty=r0.ty∧r.cap=r0.cap∧(r.cells=r0.cells∨r.cells=[])∧(r.cells≠[]→id∈kept∧r=r0):=by
 rw[uX,aS]at h;obtain⟨r0,h1,h2⟩:=h;refine⟨r0,h1,?_⟩;subst h2;split
 ·rename_i hc;exact⟨rfl,rfl,rfl,.inl rfl,fun _=>⟨by simpa using hc,rfl⟩⟩
 exact⟨rfl,rfl,rfl,.inr rfl,fun h=>absurd rfl h⟩
theorem Ny {c:Ctx}{g:fe}{st:St}{a:Act}{w:World}(h:fI c N g st a w)(kept:List Nat):fI c N g (PA kept st) a w where
 size:=h.size
 defers:=h.defers
 fR:={
  le:=h.fR.le
  own:={
   own:=fun id r hr=>by
    obtain⟨r0,h1,h2,h3,h4,h5,_⟩:=ng hr;have hv:=fun e=>ot kept st.rs e;have h6:=h.fR.own.own id r0 h1;obtain⟨rb,rc,rt,aaq⟩:=r;simp only at h2 h3 h4 h5;subst h2 h3 h4;cases hb:r0.gq with
    | none=>
     rw[hb]at h6;rcases h5 with rfl | rfl
     ·exact h6
     exact⟨.inl rfl,h6.2⟩
    | some b=>
     rw[hb]at h6;obtain⟨g1,g2,cur,g3,g4,g5⟩:=h6;rcases h5 with rfl | rfl
     ·exact⟨g1,g2,cur,g3,g4,fun j ev x hj hx=>g5 j ev x hj (by rw[←hv ev];exact hx)⟩
     exact⟨g1,az _,cur,g3,g4,fun j ev x hj=>by simp at hj⟩
   apart:=fun i j r s b hi hj hr hs=>by
    obtain⟨r0,h1,h2,_⟩:=ng hi;obtain⟨s0,h3,h4,_⟩:=ng hj;exact h.fR.own.apart i j r0 s0 b h1 h3 (h2 ▸ hr) (h4 ▸ hs) }
  ir:=h.fR.ir
  new:=fun id r b hr hb=>by
   obtain⟨r0,h1,h2,h3,h4,h5⟩:=ng hr;refine h.fR.new id r0 b h1 ?_;rcases hb with hb | ⟨hb,hb0,hb1⟩
   ·exact .inl (h2 ▸ hb)
   rcases h5 with h5 | h5
   ·exact .inr ⟨h2 ▸ hb,h3 ▸ hb0,h5 ▸ hb1⟩
   rw[h5]at hb1;cases hb1
  jW:=h.fR.jW
  sz:=h.fR.sz
  tp:=h.fR.tp }
 gL:={
  sub:=h.gL.sub
  kX:=h.gL.kX
  succ:=fun id r hid hr=>by
   obtain⟨r0,h1,h2,_⟩:=ng hr;obtain⟨r1,h3,h4⟩:=h.gL.succ id r0 hid h1;exact⟨r1,h3,h4.trans h2.symm⟩ }
 gV:=fun id r hr=>by
  obtain⟨r0,h1,_,_,_,h5,_⟩:=ng hr;obtain⟨h6,h7⟩:=h.gV id r0 h1;refine⟨h6,fun e he=>?_⟩;rcases h5 with h5 | h5
  ·rw[h5]at he;exact h7 e he
  rw[h5]at he;cases he
 ids:=h.ids
 env:=fun n e x hg he hx=>h.env n e x hg he (by rw[←ot kept];exact hx)
 gv:=fun n ch e hg=>by
  obtain⟨h1,h2,h3,h4⟩:=h.gv n ch e hg;exact⟨fun hA=>⟨fun x hx=>(h1 hA).1 x (by rw[←ot kept];exact hx),(h1 hA).2⟩,h2,h3,h4⟩
theorem Li {c:Ctx}{g g':fe}{env env':Env}{F:Hp}{rs:RL}{nx:Nat}{kept:List Nat}{a a':Act}{w:World}(h:fI c N g ⟨env,F,rs,nx⟩ a w)(h':fI c N g' ⟨env',F,mask kept rs,nx⟩ a' w):fI c N g' ⟨env',F,rs,nx⟩ a' w where
 size:=h'.size
 defers:=h'.defers
 fR:=h.fR
 gL:=h.gL
 gV:=h.gV
 ids:=h'.ids
 env:=fun n e x hg he hx=>h'.env n e x hg he (by rw[ot];exact hx)
 gv:=fun n ch e hg=>by
  obtain⟨h1,h2,h3,h4⟩:=h'.gv n ch e hg;exact⟨fun hA=>⟨fun x hx=>(h1 hA).1 x (by rw[ot];exact hx),(h1 hA).2⟩,h2,h3,h4⟩
theorem AU {rs rs':RL}: ∀{l:List EV},ES rs rs' l→∀e∈l,e.val rs'=e.val rs
 | [],_,e,he=>by cases he
 | x::l,h,e,he=>by
  rcases aT.1 he with rfl | he
  ·exact h.1
  exact AU h.2 e he
theorem yz {rs rs':RL}: ∀{kept:List Nat},vj rs rs' kept→∀id∈kept,∀r,fU rs id=some r→fU rs' id=some r∧ ∀e∈r.cells,e.val rs'=e.val rs
 | [],_,id,hid,_,_=>by cases hid
 | k::kept,h,id,hid,r,hr=>by
  rcases aT.1 hid with rfl | hid
  ·have:=h.1;rw[hr]at this;exact⟨this.1,AU this.2⟩
  exact yz h.2 id hid r hr
theorem Pq {kept:List Nat}{st st':St}(hF:st.F.sub st'.F)(hk:vj st.rs st'.rs kept){x:World}(h:Sw (PA kept st') x):Sw (PA kept st) x:=by
 refine⟨fun k o e=>h.1 k o (hF k o e),fun id r b hr hb hne=>?_⟩;obtain⟨r0,h1,_,_,_,_,h6⟩:=ng (kept:=kept) (rs:=st.rs) hr;obtain⟨hid,rfl⟩:=h6 hne;obtain⟨h2,h3⟩:=yz hk id hid r h1;have h4:fU (mask kept st'.rs) id=some r:=by
  rw[uX,h2,aJ,aZ (by simpa using hid)]
 obtain⟨cur,g1,g2⟩:=h.2 id r b h4 hb hne;refine⟨cur,g1,fun j ev u hj hu=>g2 j ev u hj ?_⟩;simp only[PA,ot]at hu ⊢;rw[h3 ev (cW hj)];exact hu
theorem N1 {c:Ctx}{kept:List Nat}{st:St}{x:World}(h:xd c st.F st.rs x):Sw (PA kept st) x:=by
 refine⟨h.le,fun id r b hr hb hne=>?_⟩;obtain⟨r0,h1,_,_,_,_,h6⟩:=ng (kept:=kept) (rs:=st.rs) hr;obtain⟨hid,rfl⟩:=h6 hne;have h2:=h.own.own id r h1;rw[hb]at h2;obtain⟨_,_,cur,h3,_,h4⟩:=h2;exact⟨cur,h3,fun j ev u hj hu=>h4 j ev u hj (by rw[←ot kept];exact hu)⟩
theorem Dg (htb:g9 P tb){c:Ctx}{ops:Array Oper}{kept:List Nat}{R:Act→World→Prop}(hsel:Region.noSelect ops=true){KK:fe→St→Prop}{F:Hp}{rs:RL}{nx:Nat}{S:World→Prop}(hS: ∀env x,S x→Sw ⟨env,F,mask kept rs,nx⟩ x)(hT: ∀x,xd c F rs x→S x){f:Nat}:
  ∀(is:List Nat) (l:List Oper) (done:Array Bool) (g:fe) (env:Env) (a:Act),(∀x,xd c F rs x→fI c N g ⟨env,F,rs,nx⟩ a x)→ui .any ops done is=true→S1 ops.toList is=some l→dW P tb N true ops.toList l KK g ⟨env,F,mask kept rs,nx⟩→
   (∀g' env' a',(∀x,xd c F rs x→fI c N g' ⟨env',F,rs,nx⟩ a' x)→KK g' ⟨env',F,mask kept rs,nx⟩→∀x,xd c F rs x→me P .any ops R f (Cw done is) S a' x)→∀x,xd c F rs x→me P .any ops R (f+is.length) done S a x:=by
 intro is
 induction is with
 | nil=>
  intro l done g env a h _ hl hk H x hx;simp only[S1,aa]at hl;subst hl;exact H g env a h hk x hx
 | cons i is ih=>
  intro l done g env a h hB hl hk H w hw;simp only[S1]at hl;split at hl
  ·rename_i o l' ho hl';simp only[aa]at hl;subst hl;simp only[ui,aL]at hB;obtain⟨⟨hB1,hB2⟩,hB3⟩:=hB;have ho':ops[i]? =some o:=by simpa using ho
   have hi':i∈Region.ready .any ops done:=by simpa using hB1
   have hm:fI c N g ⟨env,F,mask kept rs,nx⟩ a w:=Ny (h w hw) kept;obtain⟨v,g',st',hK,hF,hrs,hnx,h1,h2⟩:=zs htb hm (o:=o) hk;obtain⟨env',F',rs',nx'⟩:=st';simp only at hF hrs hnx;subst hF hrs hnx;obtain⟨v',hv1,hv2⟩: ∃v',jn P ops S o v' a∧fI c N g' ⟨env',F',mask kept rs,nx'⟩ (a.put o.dst v') w:=by
    by_cases hw:Region.wanted o (yielded ops a.tmps)=true
    ·refine⟨v,?_,(h1 hw).2⟩;unfold jn;rw[aZ hw];exact fun x hx=>(h1 hw).1 (ic [] x) ⟨fun y hy=>(UU _).ir _ _ (hS env x hx) hy,fun y z hy hz=>hy.trans hz⟩ x (ic.refl [] x)
    refine⟨undef,?_,h2 hw⟩;unfold jn;rw[aY hw]
   have hs:=Li (h w hw) hv2;refine B6 (R:=R) ho' (Region.noSelect_spec hsel) (f+is.length) done S (fun x=>xd c F' rs x) a hT (fun x y hx hy=>xd.zL hx hy) (Region.free_spec ho' hB2) hi' hv1 (fun x hx=>?_) w hw;exact ih l' (done.setIfInBounds i true) g' env' _ (fun y hy=>hs.world hy) hB3 hl' hK H x hx
  simp at hl
theorem Kc (htb:g9 P tb){c:Ctx}{ops:Array Oper}{kept:List Nat}{K:St→Prop}(hsel:Region.noSelect ops=true): ∀(m f:Nat) (done:Array Bool) (g:fe) (st:St) (a:Act) (w:World),fI c N g st a w→fv P tb N ops kept K m f done g st→
  me P .any ops (fun a w=>∃st,Sat c N st a w∧K st) f done (Sw (PA kept st)) a w:=by
 have stop: ∀{g:fe} {st:St} {a:Act} {w:World},fI c N g st a w→VS N [] st K→∃st,Sat c N st a w∧K st:=fun h hv=>by
  obtain⟨st',h1,h2⟩:=hv c _ _ h.drop;exact⟨st',h1,h2⟩
 intro m
 induction m with
 | zero=>intro f done g st a w h hk;exact hk.elim
 | succ m ih=>
  intro f done g st a w h hk;rcases hk with⟨hr,hv⟩ | ⟨f',is,l,rfl,hB,hl,hk⟩ | ⟨f',rfl,hne,hk⟩
  ·cases f with
   | zero=>exact⟨hr,stop h hv⟩
   | succ f=>exact⟨fun _=>stop h hv,fun i hi=>by rw[hr]at hi;cases hi⟩
  ·obtain⟨env,F,rs,nx⟩:=st;refine Dg htb (kept:=kept) hsel (S:=Sw (PA kept ⟨env,F,rs,nx⟩)) (fun env' x hx=>hx) (fun x hx=>N1 (st:=⟨env,F,rs,nx⟩) hx) is l done g env a (fun x hx=>h.world hx) hB hl hk (fun g' env' a' hs hk' x hx=>?_) w h.fR;exact ih f' _ g' ⟨env',F,rs,nx⟩ a' x (hs x hx) hk'
  refine⟨fun h0=>absurd h0 hne,fun i hi=>?_⟩;obtain⟨o,ho,hk⟩:=hk i hi;have key:=yq htb h (ops:=ops) (o:=o) (Q:=Qn (fun a w=>∃st,Sat c N st a w∧K st)) (K':=fun a' w'=>∃S' T':World→Prop,(∀x,S' x→Sw (PA kept st) x)∧(∀x,T' x→S' x)∧(∀x y,T' x→ic [] x y→T' y)∧T' w'∧ ∀x,T' x→me P .any ops (fun a w=>∃st,Sat c N st a w∧K st) f' (done.setIfInBounds i true) S' a' x) (fun g' st' a' w' h1 h2=>by
    obtain⟨h3,h4⟩:=h2;exact⟨Sw (PA kept st'),C c st',fun x hx=>Pq (h3.1) h3.2 hx,fun x hx=>N1 hx,fun x y hx hy=>xd.zL hx hy,h1.fR,fun x hx=>ih _ _ g' st' a' x (h1.world hx) h4⟩) hk
  unfold wpOp;simp only[ho];split
  ·rename_i hw;exact .inl (key.1 hw)
  rename_i hw;exact key.2 hw
end
end
section
variable {P:Program} {tb:Tb} {N:Nat}
theorem mo (htb:g9 P tb)(hm:P.follows .mixedOrders=true)(c:Ctx): ∀(code:Code) (K:Exit→St→Prop) (st:St) (a:Act) (w:World),Sat c N st a w→vc P tb N code K st→code.wp P (lift c N K) a w
 | .skip,K,st,a,w,h,hk=>wp_skip ⟨st,h,hk⟩
 | .ret,K,st,a,w,h,hk=>wp_ret ⟨st,h,hk⟩
 | .exit id,K,st,a,w,h,hk=>wp_exit ⟨st,h,hk⟩
 | .seq x y,K,st,a,w,h,hk=>by
  refine wp_seq (wp_mono (mo htb hm c x _ st a w h hk) ?_);rintro e a' w' ⟨st',h',hk'⟩;cases e with
  | normal=>exact mo htb hm c y K st' a' w' h' hk'
  | _=>exact⟨st',h',hk'⟩
 | .block id x,K,st,a,w,h,hk=>by
  refine wp_block (wp_mono (mo htb hm c x _ st a w h hk) ?_);rintro e a' w' ⟨st',h',hk'⟩;cases e with
  | exit j=>
   simp only[Exit.inBlock];simp only[fg]at hk';by_cases hj:j=id
   ·subst hj;simp only[beq_self_eq_true,DG]at hk';simp only[dF];exact⟨st',h',hk'⟩
   rw[show (j==id)=false by simpa using hj]at hk';simp only[DG]at hk';rw[aY hj];exact⟨st',h',hk'⟩
  | _=>exact⟨st',h',hk'⟩
 | .cond o x y,K,st,a,w,h,hk=>by
  simp only[vc]at hk;cases ho:gO st.rs [] st.env [] o with
  | none=>simp[ho,Ix]at hk
  | some e=>
   have e1:=gT h (iU a) _ _ ho;cases e with
   | v u=>
    cases u with
    | bool b=>
     simp only[EV.val,aa]at e1;cases b with
     | true=>
      rw[ho]at hk;exact wp_cond_true e1.symm (mo htb hm c x K st a w h hk)
     | false=>
      rw[ho]at hk;exact wp_cond_false e1.symm (mo htb hm c y K st a w h hk)
    | _=>simp[ho,Ix]at hk
   | _=>simp[ho,Ix]at hk
 | .loop x,K,st,a,w,h,hk=>by
  obtain⟨ι,T,μ,h0,hr⟩:=hk;obtain⟨st0,hs0,i,rfl⟩:=h0 c a w h;refine wp_loop_ghost (fun n a w=>∃i,μ i=n∧Sat c N (T i) a w) (μ i) ⟨i,rfl,hs0⟩ ?_;rintro n a w ⟨i,rfl,hs⟩;refine wp_mono (mo htb hm c x _ (T i) a w hs (hr i)) ?_;rintro e a' w' ⟨st',h',hk'⟩;cases e with
  | normal=>
   obtain⟨st2,h2,j,rfl,hlt⟩:=hk' c a' w' (Nat.le_min.2 ⟨h.gL.kX,hs.gL.kX⟩) h';exact⟨μ j,hlt,j,rfl,h2⟩
  | ret=>
   obtain⟨st2,h2,h3⟩:=hk' c a' w' h';exact⟨st2,h2,h3⟩
  | exit j=>
   obtain⟨st2,h2,h3⟩:=hk' c a' w' h';exact⟨st2,h2,h3⟩
  | _=>exact⟨st',h',hk'⟩
 | .region id ops dr,K,st,a,w,h,hk=>by
  obtain⟨st,h,hk⟩:=hk c a w h;have mono: ∀{ops:Array Oper} (l:List Oper) (a:Act) {Q Q':Act→Prop},(∀a,Q a→Q' a)→wpQuiet P ops (C c st) Q l a→wpQuiet P ops (C c st) Q' l a:=by
   intro ops l
   induction l with
   | nil=>intro a Q Q' hq h;exact hq _ h
   | cons o l ih=>
    intro a Q Q' hq h;unfold wpQuiet at h ⊢;split
    ·rename_i hw;rw[aZ hw]at h;exact Oper.quiet_mono (fun a' h'=>ih a' hq h') h
    rename_i hw;rw[aY hw]at h;exact ih _ hq h
  have On:C c st { w with drawn:=w.drawn+1 }:=xd.zL h.fR (ic.drewN [] w 1);have fin: ∀g st a w,fI c N g st a w→fA (K .normal) g st→lift c N K .normal a w:=fun g st a w hs hk=>⟨st,hs.drop,hk⟩;rcases hk with⟨h1,h2⟩ | ⟨n,hB,h2⟩ | ⟨rfl,hsel,kept,hk⟩ | hk
  ·cases dr with
   | false=>exact wp_region_list (sd htb fin _ _ _ _ _ h h2)
   | true=>
    have h3:=rW htb ops.toList [] st a w h h2;refine wp_region_quiet (C:=C c st) hm (h1 rfl) On ?_;exact mono _ _ (fun a' ⟨g',st',hk',hs'⟩ w' hw'=>fin _ _ _ _ (hs' w' hw') hk') h3
  ·obtain⟨l⟩:=ops;have h3:=rW htb (ops:=l.toArray) (l.take n) [] st a w h h2;cases dr with
   | false=>
    refine wp_region_list ?_;have key: ∀(l1 l2:List Oper) (a:Act) (w:World) {G:Act→Prop},C c st w→wpQuiet P l.toArray (C c st) G l1 a→
      (∀a' w',C c st w'→G a'→wpList P l.toArray (lift c N K) l2 a' w')→wpList P l.toArray (lift c N K) (l1++l2) a w:=by
     intro l1
     induction l1 with
     | nil=>intro l2 a w G hw h1 h2;exact h2 a w hw h1
     | cons o l1 ih=>
      intro l2 a w G hw h1 h2;rw[bZ];unfold wpQuiet at h1;unfold wpList;split
      ·rename_i hwt;rw[aZ hwt]at h1;exact .inl (Oper.wp_of_quiet hw (fun a' w' hw' h'=>ih l2 a' w' hw' h' h2) h1)
      rename_i hwt;rw[aY hwt]at h1;exact ih l2 _ w hw h1 h2
    have:=key (l.take n) (l.drop n) a w h.fR h3 (fun a' w' hw' ⟨g',st',h4,h5⟩=>sd htb (ops:=l.toArray) fin _ _ _ _ _ (h5 w' hw').drop h4)
    rwa [List.take_append_drop]at this
   | true=>
    refine yh (C:=C c st) n hm hB On ?_;exact mono _ _ (fun a' ⟨g',st',h4,h5⟩ w' hw'=>sd htb (ops:=l.toArray) fin _ _ _ _ _ (h5 w' hw').drop h4) h3
  ·refine wp_region_any hm ?_;have:=Kc htb (c:=c) (K:=K .normal) hsel (ops.size+1) ops.size (Array.replicate ops.size false) [] st a _ (h.world On) hk;exact me.any (fun a w ⟨st',h1,h2⟩=>⟨st',h1,h2⟩) _ _ _ _ _ this
  have h4:=hk c a w h;cases dr with
  | false=>exact wp_region_list h4
  | true=>exact wp_region_any hm h4
 | .rangeFunc _ _ _ _,_,_,_,_,_,hk=>hk.elim
 | .scope _,_,_,_,_,_,hk=>hk.elim
 | .label _,_,_,_,_,_,hk=>hk.elim
 | .goto _,_,_,_,_,_,hk=>hk.elim
 | .refuse _,_,_,_,_,_,hk=>hk.elim
def vB (tmps:Array Value):ResultVar→Sem Value
 | .tmp t=>Pure.pure (tmps.getD t undef)
 | .cell ad t=>do loadVar t (←asAddr (tmps.getD ad undef))
theorem rh (htb:g9 P tb){c:Ctx}{st:St}{a:Act}{w:World}(h:Sat c N st a w): ∀(l:List ResultVar) (xs:List Value),nF tb st l=some xs→
  (l.mapM (m:=Sem) (vB a.tmps)).run P w= .ok xs w
 | [],xs,hx=>by simp only[nF,aa]at hx;subst hx;rfl
 | .tmp t::l,xs,hx=>by
  simp only[nF]at hx;split at hx
  ·rename_i e he;split at hx
   ·rename_i x ys hv hy;simp only[aa]at hx;subst hx;have ih:=rh htb h l ys hy;have:=h.env t e x rfl he hv;rw[List.mapM_cons];simp only[vB,run_bind,run_pure,this,ih]
   simp at hx
  simp at hx
 | .cell ad t::l,xs,hx=>by
  simp only[nF]at hx;split at hx
  ·rename_i id off i he0 hi;obtain⟨he,hal⟩:lk st.env ad=some (.loc id off)∧ ∃x,(EV.loc id off).val st.rs=some x:=by
    cases hl:lk st.env ad with
    | none=>rw[hl]at he0;simp[oV]at he0
    | some e0=>
     rw[hl]at he0;obtain⟨h1,h2⟩:=mh he0;exact⟨by rw[h1],by rw[h1];exact h2⟩
   split at hx
   ·rename_i r ys hr hy;have hbn: ∃b,r.gq=some b:=by
     obtain⟨x,hx⟩:=hal;simp only[EV.val,hr]at hx;split at hx
     ·rename_i b hb;exact⟨b,hb⟩
     simp at hx
    have ih:=rh htb h l ys hy;have key: ∀b v,r.gq=some b→(loadVar t ⟨b,off,none⟩).run P w= .ok v w→((ResultVar.cell ad t::l).mapM (m:=Sem) (vB a.tmps)).run P w= .ok (v::ys) w:=fun b v hb hl=>by
     have hv:(EV.loc id off).val st.rs=some (.pointer (some ⟨b,off,none⟩)):=by simp only[EV.val,hr,hb]
     have:=h.env ad _ _ rfl he hv;rw[List.mapM_cons];simp only[vB,run_bind,this,asAddr,run_pure,hl,ih]
    have la: ∀{b:Nat} {v:Value},(Instr.loadAt t (.pointer (some ⟨b,off,none⟩))).run P w= .ok v w→(loadVar t ⟨b,off,none⟩).run P w= .ok v w:=fun {b v} hl=>by
     simpa only[Instr.loadAt,Instr.sureAddr,run_bind,run_pure] using hl
    split at hx
    ·rename_i ha;split at hx
     ·rename_i cs hcs;split at hx
      ·rename_i hle;simp only[aa]at hx;subst hx;obtain⟨hl,hcells⟩:=pz hcs;obtain⟨b,hb⟩:=hbn;refine key b _ hb (la ?_);refine nT htb hi ha (by rw[hl];simp;omega) fun j v hj=>?_;obtain⟨e',he',hv⟩:=hcells j v hj;rw[mw];refine h.fR.own.cell hr hb ?_ hv;rw[cA,cE]at he';split at he'
       ·exact he'
       simp at he'
      simp at hx
     simp at hx
    rename_i ha;have ha':i.kind.agg=false:=by simpa using ha
    split at hx
    ·rename_i e' he';split at hx
     ·rename_i x hv;simp only[aa]at hx;subst hx;obtain⟨b,hb⟩:=hbn;exact key b _ hb (la (nr htb hi ha' (h.fR.own.cell hr hb he' hv)))
     simp at hx
    simp at hx
   simp at hx
  simp at hx
theorem qp (htb:g9 P tb){c:Ctx}{st:St}{a:Act}{w:World}(h:Sat c N st a w){fn:Func}{xs:List Value}(hx:nF tb st fn.results.toList=some xs):(results fn a.tmps).run P w= .ok (gH xs) w:=by
 have h1:=rh htb h _ _ hx;have h2:(fn.results.mapM (m:=Sem) (vB a.tmps)).run P w= .ok xs.toArray w:=by
  rw[Array.mapM_eq_mapM_toList,←bind_pure_comp,run_bind,h1];rfl
 have e:results fn a.tmps=(do let vs←fn.results.mapM (m:=Sem) (vB a.tmps);Pure.pure (if h:vs.size=1 then vs[0] else .tuple vs)):=by
  unfold results;congr 1
 rw[e,run_bind,h2];show Result.ok _ w=_;congr 1
 match xs with
 | []=>rfl
 | [x]=>rfl
 | x::y::t=>rfl
def mr:Nat→List Value→Env
 | _,[]=>[]
 | k,x::xs=>(k,.v x)::mr (k+1) xs
theorem qU: ∀(xs:List Value)(k n:Nat)(e:EV),lk (mr k xs) n=some e→k≤n∧ ∃x,xs[n - k]? =some x∧e= .v x
 | [],k,n,e,h=>by simp[mr,lk]at h
 | x::xs,k,n,e,h=>by
  simp only[mr,kU]at h;split at h
  ·rename_i hn;subst hn;simp only[aa]at h;exact⟨ah _,x,by simp,h.symm⟩
  rename_i hn;obtain⟨h1,y,h2,h3⟩:=qU xs (k+1) n e h;refine⟨by omega,y,?_,h3⟩;have:n - k=(n - (k+1))+1:=by omega
  rw[this,List.getElem?_cons_succ];exact h2
theorem Bs {args:List Value}{N:Nat}(hN:args.length≤N){F:Hp}{w:World}(hF:F.le w):
  Sat ⟨w,F,F,[],0,0⟩ N ⟨mr 0 args,F,[],0⟩ { tmps:=args.toArray++Array.replicate (N - args.toArray.size) undef,defers:=[] } w where
 size:=by simp;omega
 defers:=rfl
 fR:={
  le:=hF
  own:={ own:=fun id r h=>by simp[fU]at h,apart:=fun i j r s b h=>by simp[fU]at h }
  ir:=ic.refl _ _
  new:=fun id r b h=>by simp[fU]at h
  jW:=fun k h=>.inl h
  sz:=az _
  tp:=fun k hk=>by
   have hk':w.heap.size≤k:=hk;constructor<;>exact Option.eq_none_iff_forall_ne_some.2 (fun o ho=>by have:=hF k o ho;have:=gM this;omega) }
 gL:=⟨Hp.sub.refl F,ah _,fun id r _ h=>by simp[fU]at h⟩
 gV:=fun id r h=>by simp[fU]at h
 ids:=fun n e h=>by
  obtain⟨_,x,_,rfl⟩:=qU _ _ _ _ h;trivial
 env:=fun n e x _ h hx=>by
  obtain⟨_,y,h2,rfl⟩:=qU _ _ _ _ h;simp only[EV.val,aa]at hx;subst hx;simp only[Nat.sub_zero]at h2;rw[Array.getD_eq_getD_getElem?,Array.getElem?_append_left (by have:=(cC.1 h2).1;simpa using this)];simp[h2]
 gv:=fun n ch e h=>by simp[rA]at h
theorem FK (htb:g9 P tb)(hm:P.follows .mixedOrders=true){f:FuncId}{fn:Func}{code:Code}(hf:P.funcs[f]? =some fn)(hb:fn.body=some code){args:List Value}(hN:Nat.ble args.length fn.ntmps=true){F:Hp}{x:Value}
  (h:vc P tb fn.ntmps code (gF tb fn.results.toList (fun v=>v=x)) ⟨mr 0 args,F,[],0⟩):Plain P F f args x:=by
 intro w hF;have hN':args.length≤fn.ntmps:=by simpa using hN
 refine calls_of_wp hf hb ?_;refine wp_mono (mo htb hm ⟨w,F,F,[],0,0⟩ code _ _ _ w (Bs hN' hF) h) ?_;rintro e a' w' ⟨st,hs,hk⟩;have key:D3 (fun v=>v=x) (nF tb st fn.results.toList)→a'.defers=[]∧ ∃v,(results fn a'.tmps).run P w'= .ok v w'∧(Ending.returned v= .returned x∧ic [] w w'):=fun hk=>by
  cases hr:nF tb st fn.results.toList with
  | none=>simp[hr,D3]at hk
  | some xs=>
   rw[hr]at hk;simp only[D3]at hk;exact⟨hs.defers,_,qp htb hs hr,by rw[hk],hs.fR.ir⟩
 cases e with
 | normal=>exact key hk
 | ret=>exact key hk
 | _=>exact hk.elim
theorem Gh (htb:g9 P tb)(hm:P.follows .mixedOrders=true){f:FuncId}{fn:Func}{code:Code}(hf:P.funcs[f]? =some fn)(hb:fn.body=some code){args:List Value}(hN:Nat.ble args.length fn.ntmps=true){F:Hp}{Q:Value→Hp→RL→Prop}
  (h:vc P tb fn.ntmps code (gJ fn.ntmps tb fn.results.toList Q) ⟨mr 0 args,F,[],0⟩):eD P F f args Q:=by
 intro w hF;have hN':args.length≤fn.ntmps:=by simpa using hN
 refine calls_of_wp hf hb ?_;refine wp_mono (mo htb hm ⟨w,F,F,[],0,0⟩ code _ _ _ w (Bs hN' hF) h) ?_;rintro e a' w' ⟨st,hs,hk⟩;have key:(qQ 0 fn.ntmps [] st fun st'=>∃xs,nF tb st' fn.results.toList=some xs∧Q (gH xs) st'.F st'.rs)→a'.defers=[]∧ ∃v,(results fn a'.tmps).run P w'= .ok v w'∧ ∃x F' new,Ending.returned v= .returned x∧F.sub F'∧F'.le w'∧ic [] w w'∧O2 F F' w.heap.size∧
   nv F' new w'∧(∀id r b,fU new id=some r→r.at b→w.heap.size≤b)∧Q x F' new:=fun hk=>by
  obtain⟨st',hs',xs,hr,hq⟩:=hk _ a' w' (ah 0) hs;refine⟨hs'.defers,_,qp htb hs' hr,_,st'.F,st'.rs,rfl,hs'.gL.sub,hs'.fR.le,hs'.fR.ir,hs'.fR.jW,hs'.fR.own,fun id r b h1 h2=>hs'.fR.new id r b h1 h2,hq⟩
 cases e with
 | normal=>exact key hk
 | ret=>exact key hk
 | _=>exact hk.elim
def qT:Nat→List EV→Env
 | _,[]=>[]
 | k,x::xs=>(k,x)::qT (k+1) xs
theorem vV: ∀(xs:List EV)(k n:Nat)(e:EV),lk (qT k xs) n=some e→k≤n∧xs[n - k]? =some e
 | [],k,n,e,h=>by simp[qT,lk]at h
 | x::xs,k,n,e,h=>by
  simp only[qT,kU]at h;split at h
  ·rename_i hn;subst hn;simp only[aa]at h;exact⟨ah _,by simp[h]⟩
  rename_i hn;obtain⟨h1,h2⟩:=vV xs (k+1) n e h;refine⟨by omega,?_⟩;have:n - k=(n - (k+1))+1:=by omega
  rw[this,List.getElem?_cons_succ];exact h2
theorem xJ {rs:RL}: ∀{l:List EV} {xs:List Value},iZ rs l=some xs→∀(j:Nat) (e:EV),l[j]? =some e→∃x,xs[j]? =some x∧e.val rs=some x
 | [],_,_,j,e,h=>by simp at h
 | e0::l,xs,h,j,e,hj=>by
  simp only[iZ]at h;split at h
  ·rename_i x ys hx hy;simp only[aa]at h;subst h;cases j with
   | zero=>simp only[cz,aa]at hj;subst hj;exact⟨x,rfl,hx⟩
   | succ j=>exact xJ hy j e (by simpa using hj)
  simp at h
theorem wm {rs:RL}: ∀{l:List EV} {xs:List Value},iZ rs l=some xs→xs.length=l.length
 | [],xs,h=>by simp only[iZ,aa]at h;subst h;rfl
 | e0::l,xs,h=>by
  simp only[iZ]at h;split at h
  ·rename_i x ys hx hy;simp only[aa]at h;subst h;simp[wm hy]
  simp at h
theorem PS (htb:g9 P tb){c:Ctx}{st:St}{a:Act}{w:World}(h:Sat c N st a w){fn:Func}{e:EV}(hx:xL tb st fn.results.toList=some e): ∃x,(results fn a.tmps).run P w= .ok x w∧e.val st.rs=some x∧e.lt st.nx:=by
 unfold xL at hx;split at hx
 ·rename_i t ht;unfold oV at hx;split at hx
  ·rename_i e0 he;obtain⟨rfl,x,hv⟩:=mh hx;refine⟨x,?_,hv,h.ids t _ he⟩;have:nF tb st fn.results.toList=some [x]:=by rw[ht];simp only[nF,he,hv]
   exact qp htb h this
  simp at hx
 rename_i l _;split at hx
 ·rename_i xs hr;simp only[aa]at hx;subst hx;exact⟨gH xs,qp htb h hr,rfl,trivial⟩
 simp at hx
theorem tV (htb:g9 P tb)(hm:P.follows .mixedOrders=true){f:FuncId}{fn:Func}{code:Code}(hf:P.funcs[f]? =some fn)(hb:fn.body=some code){args:List EV}(hN:Nat.ble args.length fn.ntmps=true){F:Hp}{rs:RL}{nx:Nat}{Q:EV→Hp→RL→Nat→Prop}
  (h:vc P tb fn.ntmps code (gB fn.ntmps tb fn.results.toList Q) ⟨qT 0 args,F,rs,nx⟩):eX P F rs nx f args Q:=by
 intro c w hw hh hr h2 h3 xs hxs;have hN':args.length≤fn.ntmps:=by simpa using hN
 have hl:=wm hxs;refine calls_of_wp hf hb ?_;have hs0:Sat c fn.ntmps ⟨qT 0 args,F,rs,nx⟩ { tmps:=xs.toArray++Array.replicate (fn.ntmps - xs.toArray.size) undef,defers:=[] } w:={
  size:=by simp;omega
  defers:=rfl
  fR:=hw
  gL:=hh
  gV:=hr
  ids:=fun n e he=>by
   obtain⟨_,h5⟩:=vV _ _ _ _ he;obtain⟨x,_,h7⟩:=xJ hxs _ _ h5;exact mX (fun id r hr'=>(hr id r hr').1) h7
  env:=fun n e x _ he hx=>by
   obtain⟨_,h5⟩:=vV _ _ _ _ he;obtain⟨y,h6,h7⟩:=xJ hxs _ _ h5;simp only[Nat.sub_zero]at h6;simp only at hx;rw[h7]at hx;simp only[aa]at hx;subst hx;rw[Array.getD_eq_getD_getElem?,Array.getElem?_append_left (by have:=(cC.1 h6).1;simpa using this)];simp[h6]
  gv:=fun n ch e he=>by simp[rA]at he }
 refine wp_mono (mo htb hm c code _ _ _ w hs0 h) ?_;rintro e a' w' ⟨st,hs,hk⟩;have key:(VS fn.ntmps [] st fun st'=>∃e,xL tb st' fn.results.toList=some e∧Q e st'.F st'.rs st'.nx)→a'.defers=[]∧ ∃v,(results fn a'.tmps).run P w'= .ok v w'∧ ∃x ev F' rs' nx',Ending.returned v= .returned x∧xd c F' rs' w'∧BP c F' rs' nx'∧(∀id r,fU rs' id=some r→id<nx'∧ ∀e∈r.cells,e.lt nx')∧ev.lt nx'∧ev.val rs'=some x∧Q ev F' rs' nx':=fun hk=>by
  obtain⟨st',hs',ev,hr,hq⟩:=hk _ a' w' hs;obtain⟨x,g1,g2,g3⟩:=PS htb hs' hr;exact⟨hs'.defers,x,g1,x,ev,st'.F,st'.rs,st'.nx,rfl,hs'.fR,hs'.gL,hs'.gV,g3,g2,hq⟩
 cases e with
 | normal=>exact key hk
 | ret=>exact key hk
 | _=>exact hk.elim
end
section
section
variable {P:Program} {tb:Tb} {N:Nat} {dr:Bool} {all rest:List Oper} {K:fe→St→Prop} {KK:Exit→St→Prop} {g:fe} {st:St}
theorem vT {f:FuncId}{args:List Value}{x:Value}{d:Option Nat}{K:fe→St→Prop}{env:Env}{F:Hp}{rs:RL}{nx:Nat}(hp:Plain P F f args x)(hk:il N [] d (.v x) K g ⟨env,F,rs,nx⟩):C9 P N f args d K g ⟨env,F,rs,nx⟩:=by
 refine VS.id ⟨fun v F' new=>v=x∧F'=F∧new=[],fun w hF=>?_,?_⟩
 ·refine (hp w hF).mono fun e w' ⟨he,hpr⟩=>⟨x,F,[],he,Hp.sub.refl F,hF.ir hpr (by simp),hpr,fun k hk=>.inl hk,⟨fun id r h=>by simp[fU]at h,fun i j r s b h=>by simp[fU]at h⟩,fun id r b h=>by simp[fU]at h,rfl,rfl,rfl⟩
 rintro v F' new _ ⟨rfl,rfl,rfl⟩;exact⟨0,.v v,fun id r h=>by simp[fU]at h,rfl,hk⟩
theorem dJ {d:Nat}{f:Operand}{args:Array Operand}{ts:Array TypeId}{n:FuncId}{first captured:Array Value}{xs ys:List Value}{ty:TypeId}{pos:String}{af:Array Edge}{env:Env}{F:Hp}{rs:RL}{nx:Nat}(x:Value)
  (hf:gO rs [] env [] f=some (.v (.func (.func n) first captured))) (hx:sy rs (gO rs [] env []) args.toList=some xs) (hy':iv (first.toList++xs++captured.toList)=some ys) (hb:dK P n) (hd:Nat.blt d N=true) (hp:Plain P F n ys x)
  (k:dW P tb N dr all rest K [] ⟨(d,.v x)::env,F,rs,nx⟩):dW P tb N dr all (⟨some d,.call ⟨.value f,args,ts⟩,ty,pos,af,none⟩::rest) K [] ⟨env,F,rs,nx⟩:=by
 have hd':d<N:=by simpa using hd
 rw[fE,aa]at hy';subst hy';refine .inl ?_;simp only[nK,hf,hx,lZ];refine⟨hb,?_⟩;have hput:il N [] (some d) (.v x) (dW P tb N dr all rest K) [] ⟨env,F,rs,nx⟩:=by simp only[il];exact⟨hd',k⟩
 cases dr with
 | true=>exact⟨x,hp,hput⟩
 | false=>exact vT hp hput
theorem gm {d j:Nat}{want:Bool}{f:Operand}{args:Array Operand}{ts:Array TypeId}{n:FuncId}{first captured:Array Value}{xs ys:List Value}{ty:TypeId}{pos:String}{af:Array Edge}{env:Env}{F:Hp}{rs:RL}{nx:Nat}{c:Nat×Bool×Bool}{ch:gx}(x:Value)
  (hg:nE all g env j want=some (c::ch)) (hf:gO rs g env (c::ch) f=some (.v (.func (.func n) first captured))) (hx:sy rs (gO rs g env (c::ch)) args.toList=some xs) (hy':iv (first.toList++xs++captured.toList)=some ys) (hb:dK P n) (hd:Nat.blt d N=true) (hc:(iq d g&&nA d env)=true)
  (hp:gP (c::ch)→Plain P F n ys x)
  (k:dW P tb N dr all rest K ((d,c::ch,.v x)::g) ⟨env,F,rs,nx⟩):dW P tb N dr all (⟨some d,.call ⟨.value f,args,ts⟩,ty,pos,af,some (j,want)⟩::rest) K g ⟨env,F,rs,nx⟩:=by
 have hd':d<N:=by simpa using hd
 rw[fE,aa]at hy';subst hy';refine lg (st:=⟨env,F,rs,nx⟩) hg ?_;simp only[nK,hf,hx,lZ];refine⟨hb,?_⟩;have hput:il N (c::ch) (some d) (.v x) (dW P tb N dr all rest K) g ⟨env,F,rs,nx⟩:=by simp only[il];exact⟨hd',hc,k⟩
 cases dr with
 | true=>exact⟨x,hp,hput⟩
 | false=>exact⟨x,hp,hput⟩
theorem fw {d:Nat}{t:TypeId}{a:Operand}{ty:TypeId}{pos:String}{af:Array Edge}{env:Env}{F:Hp}{rs:RL}{nx:Nat}{i:TI}{p:Option Addr}(x:Value)(hi:tb t=some i)(ha:i.kind.agg=false)(hp:gO rs [] env [] a=some (.v (.pointer p)))(hd:Nat.blt d N=true)(hx:gi F p=some x)
  (k:dW P tb N dr all rest K [] ⟨(d,.v x)::env,F,rs,nx⟩):dW P tb N dr all (⟨some d,.load t a,ty,pos,af,none⟩::rest) K [] ⟨env,F,rs,nx⟩:=by
 have hd':d<N:=by simpa using hd
 refine .inl ?_;simp only[nK,hi,hp,nP,ha,zb,As,il];exact⟨x,hx,hd',k⟩
theorem su {d j:Nat}{want:Bool}{t:TypeId}{a:Operand}{ty:TypeId}{pos:String}{af:Array Edge}{env:Env}{F:Hp}{rs:RL}{nx:Nat}{i:TI}{p:Option Addr}{c:Nat×Bool×Bool}{ch:gx}(x:Value)(hg:nE all g env j want=some (c::ch))(hi:tb t=some i)(ha:i.kind.agg=false)
  (hp:gO rs g env (c::ch) a=some (.v (.pointer p))) (hd:Nat.blt d N=true) (hc:(iq d g&&nA d env)=true) (hx:gP (c::ch)→gi F p=some x)
  (k:dW P tb N dr all rest K ((d,c::ch,.v x)::g) ⟨env,F,rs,nx⟩):dW P tb N dr all (⟨some d,.load t a,ty,pos,af,some (j,want)⟩::rest) K g ⟨env,F,rs,nx⟩:=by
 have hd':d<N:=by simpa using hd
 refine lg (st:=⟨env,F,rs,nx⟩) hg ?_;simp only[nK,hi,hp,nP,ha,zb,As,il];exact⟨x,hx,hd',hc,k⟩
theorem fB {d:Nat}{t:TypeId}{a:Operand}{ty:TypeId}{pos:String}{af:Array Edge}{env:Env}{F:Hp}{rs:RL}{nx:Nat}{i:TI}{p:Option Addr}(cs:List Value)(hi:tb t=some i)(ha:i.kind.agg=true)(hp:gO rs [] env [] a=some (.v (.pointer p)))(hd:Nat.blt d N=true)(hl:cs.length=i.size)
  (hs:p.isSome=true) (hx: ∀j,j<i.size→gi F (iw p j)=cs[j]?)
  (k:dW P tb N dr all rest K [] ⟨(d,.v (.agg cs.toArray))::env,F,rs,nx⟩):dW P tb N dr all (⟨some d,.load t a,ty,pos,af,none⟩::rest) K [] ⟨env,F,rs,nx⟩:=by
 have hd':d<N:=by simpa using hd
 refine .inl ?_;simp only[nK,hi,hp,nP,ha,zb,As,il];exact⟨cs,hl,⟨hs,hx⟩,hd',k⟩
def TF:List (Nat×TI)→Tb
 | [],_=>none
 | (m,i)::t,n=>match Nat.beq n m with
  | true=>some i
  | false=>TF t n
def QX (P:Program):List (Nat×TI)→Prop
 | []=>True
 | (m,i)::t=>i.ok P m∧QX P t
theorem LA: ∀{l:List (Nat×TI)},QX P l→g9 P (TF l)
 | [],_,t,i,h=>by simp[TF]at h
 | (m,j)::l,h0,t,i,h=>by
  simp only[TF]at h;split at h
  ·rename_i hb;simp only[aa]at h;subst h;have:=dj hb;subst this;exact h0.1
  exact LA h0.2 t i h
def rM (rs rs':RL)(env:Env):Env→Prop
 | []=>True
 | (n,e)::t=>(∃e' x,lk env n=some e'∧e'.val rs=some x∧e.val rs'=some x)∧rM rs rs' env t
theorem fQ {rs rs':RL}{env:Env}: ∀{l:Env},(l.map fun p=>(lk env p.1).bind (EV.val rs))=(l.map fun p=>EV.val rs' p.2)→(l.all fun p=>(EV.val rs' p.2).isSome)=true→rM rs rs' env l
 | [],_,_=>trivial
 | (n,e)::t,h,k=>by
  simp only[a9,bW]at h;simp only[bI,aL]at k;obtain⟨x,hx⟩:=Option.isSome_iff_exists.1 k.1;have h1:=h.1;rw[hx]at h1;obtain⟨e',h2,h3⟩:=Option.bind_eq_some_iff.1 h1;exact⟨⟨e',x,h2,h3,hx⟩,fQ h.2 k.2⟩
theorem rM.lk {rs rs':RL}{env:Env}: ∀{env':Env},rM rs rs' env env'→∀n e,lk env' n=some e→∃e' x,Go.TR.lk env n=some e'∧e'.val rs=some x∧e.val rs'=some x
 | [],_,n,e,h=>by simp[Go.TR.lk]at h
 | (m,v)::t,hs,n,e,h=>by
  rw[kU]at h;split at h
  ·rename_i hn;simp only[aa]at h;subst hn h;exact hs.1
  exact rM.lk hs.2 n e h
theorem VS.env {env env':Env}{F:Hp}{rs:RL}{nx:Nat}{G:St→Prop}(h:rM rs rs env env')(k:G ⟨env',F,rs,nx⟩):VS N [] ⟨env,F,rs,nx⟩ G:=by
 intro c a w hs;refine⟨_,?_,k⟩;exact {
  size:=hs.size
  defers:=hs.defers
  fR:=hs.fR
  gL:=hs.gL
  gV:=hs.gV
  ids:=fun n e he=>by
   obtain⟨e',x,h1,h2,h3⟩:=h.lk n e he;exact mX (fun id r hr=>(hs.gV id r hr).1) h3
  env:=fun n e x _ he hx=>by
   obtain⟨e',x',h1,h2,h3⟩:=h.lk n e he;have:=hs.env n e' x' rfl h1 h2;simp only at hx;rw[hx]at h3;rw[this];exact (dB h3).symm
  gv:=fun n ch e he=>by simp[rA]at he }
def Fo (rs:RL)(env:Env):List Nat→Option Env
 | []=>some []
 | n::t=>match Go.TR.lk env n with
  | some e=>(match alive rs e,Fo rs env t with
   | some e',some l=>some ((n,e')::l)
   | _,_=>none)
  | none=>none
theorem AG {rs:RL}{env:Env}: ∀{slots:List Nat} {env':Env},Fo rs env slots=some env'→rM rs rs env env'
 | [],env',h=>by simp only[Fo,aa]at h;subst h;trivial
 | n::t,env',h=>by
  simp only[Fo]at h;split at h
  ·rename_i e he;split at h
   ·rename_i e' l ha hl;simp only[aa]at h;subst h;obtain⟨rfl,x,hx⟩:=mh ha;exact⟨⟨_,x,he,hx,hx⟩,AG hl⟩
   simp at h
  simp at h
theorem VS.Ck {env env':Env}{F:Hp}{rs:RL}{nx:Nat}{G:St→Prop}(slots:List Nat)(h:Fo rs env slots=some env')(k:G ⟨env',F,rs,nx⟩):VS N [] ⟨env,F,rs,nx⟩ G:=VS.env (AG h) k
theorem L2 {x:Code}{ι:Type}(T:ι→St)(μ:ι→Nat)(i:ι)(h0:VS N [] st fun st'=>st'=T i)(hr: ∀i,vc P tb N x (fD N st.nx T μ i KK) (T i)):vc P tb N (.loop x) KK st:=
 ⟨ι,T,μ,fun c a w hs=>by
  obtain⟨st',h1,h2⟩:=h0 c a w hs;exact⟨st',h1,i,h2⟩,hr⟩
theorem O9 {ι:Type}{kn:Nat}{T:ι→St}{μ:ι→Nat}{i:ι}(j:ι)(hj:μ j<μ i)(h:VS N [] st fun st'=>st'=T j):fD N kn T μ i KK .normal st:=fun c a w _ hs=>by
 obtain⟨st',h1,h2⟩:=h c a w hs;exact⟨st',h1,j,h2,hj⟩
theorem C4 {ι:Type}{kn:Nat}{T:ι→St}{μ:ι→Nat}{i:ι}(k:KK .ret st):fD N kn T μ i KK .ret st:=VS.id k
theorem BO {ι:Type}{kn:Nat}{T:ι→St}{μ:ι→Nat}{i:ι}{id:Nat}(k:KK (.exit id) st):fD N kn T μ i KK (.exit id) st:=VS.id k
theorem dQ (htb:g9 P tb)(hm:P.follows .mixedOrders=true){f:FuncId}{fn:Func}(hf:P.funcs[f]? =some fn){code:Code}(hb:fn.body=some code){N:Nat}(hn:fn.ntmps=N){rv:List ResultVar}(hr:fn.results.toList=rv){args:List Value}{env:Env}(he:mr 0 args=env)
  (hN:Nat.ble args.length N=true) {F:Hp} {x:Value} (h:vc P tb N code (gF tb rv (fun v=>v=x)) ⟨env,F,[],0⟩):Plain P F f args x:=by
 subst hn hr he;exact FK htb hm hf hb hN h
theorem fW (htb:g9 P tb)(hm:P.follows .mixedOrders=true){f:FuncId}{fn:Func}(hf:P.funcs[f]? =some fn){code:Code}(hb:fn.body=some code){N:Nat}(hn:fn.ntmps=N){rv:List ResultVar}(hr:fn.results.toList=rv){args:List Value}{env:Env}(he:mr 0 args=env)
  (hN:Nat.ble args.length N=true) {F:Hp} {Q:Value→Hp→RL→Prop} (h:vc P tb N code (gJ N tb rv Q) ⟨env,F,[],0⟩):eD P F f args Q:=by
 subst hn hr he;exact Gh htb hm hf hb hN h
theorem eE {c:Operand}{x y:Code}(b:Bool)(h:gO st.rs [] st.env [] c=some (.v (.bool b)))(k1:b=true→vc P tb N x KK st)(k2:b=false→vc P tb N y KK st):vc P tb N (.cond c x y) KK st:=So h k1 k2
theorem gw {c:Operand}{x y:Code}{p:Prop}[d:Decidable p](h:gO st.rs [] st.env [] c=some (.v (.bool (decide p))))(hp:p)(k:vc P tb N x KK st):vc P tb N (.cond c x y) KK st:=eE true (by rw[h,aW hp]) (fun _=>k) (fun h=>by cases h)
theorem gy {c:Operand}{x y:Code}{p:Prop}[d:Decidable p](h:gO st.rs [] st.env [] c=some (.v (.bool (decide p))))(hp: ¬p)(k:vc P tb N y KK st):vc P tb N (.cond c x y) KK st:=eE false (by rw[h,aX hp]) (fun h=>by cases h) (fun _=>k)
theorem dV {a b:Bool}(h:a=b):some (EV.v (.bool a))=some (EV.v (.bool b)):=by rw[h]
theorem fX {d:Option Nat}{op:Op}{ty:TypeId}{pos:String}{af:Array Edge}(h:VS N g st fun st=>dW P tb N false all (⟨d,op,ty,pos,af,none⟩::rest) K g st):dW P tb N false all (⟨d,op,ty,pos,af,none⟩::rest) K g st:=by
 refine .inr (.inr ⟨rfl,fun c a w hs=>?_⟩);obtain⟨st',h1,h2⟩:=h c a w hs;rcases h2 with h2 | ⟨_,h2⟩ | ⟨_,h2⟩
 ·exact⟨st',h1,.inl h2⟩
 ·exact⟨st',h1,.inr (.inl h2)⟩
 exact h2 c a w h1
theorem rK {d:Nat}{op:Op}{ty:TypeId}{pos:String}{af:Array Edge}(e:EV){env:Env}{F:Hp}{rs:RL}{nx:Nat}(hd:Nat.blt d N=true)
  (h: ∀(c:Ctx) (a:Act) (w:World) (o:Oper),fI c N [] st a w→o.op=op→∃v w',(execOp a.eval o).run P w= .ok (.value v) w'∧fI c N [] ⟨env,F,rs,nx⟩ a w'∧e.val rs=some v)
  (k:dW P tb N false all rest K [] ⟨(d,e)::env,F,rs,nx⟩):dW P tb N false all (⟨some d,op,ty,pos,af,none⟩::rest) K [] st:=by
 have hd':d<N:=by simpa using hd
 refine .inr (.inr ⟨rfl,VS.id (.inr (.inr ⟨Unit,fun _=>e,fun _=>⟨env,F,rs,nx⟩,fun c a w o h1 h2=>(by obtain⟨v,w',q1,q2,q3⟩:=h c a w o h1 h2;exact⟨(),v,w',.inl q1,q2,q3⟩),fun _=>?_⟩))⟩);simp only[vA,il];exact⟨hd',k⟩
theorem oe {d:Nat}{op:Op}{ty:TypeId}{pos:String}{af:Array Edge}{ι:Type}(e:ι→EV){env:ι→Env}{F:ι→Hp}{rs:ι→RL}{nx:ι→Nat}(hd:Nat.blt d N=true)
  (h: ∀(c:Ctx) (a:Act) (w:World) (o:Oper),fI c N [] st a w→o.op=op→∃i v w',(execOp a.eval o).run P w= .ok (.value v) w'∧fI c N [] ⟨env i,F i,rs i,nx i⟩ a w'∧(e i).val (rs i)=some v)
  (k: ∀i,dW P tb N false all rest K [] ⟨(d,e i)::env i,F i,rs i,nx i⟩):dW P tb N false all (⟨some d,op,ty,pos,af,none⟩::rest) K [] st:=by
 have hd':d<N:=by simpa using hd
 refine .inr (.inr ⟨rfl,VS.id (.inr (.inr ⟨ι,e,fun i=>⟨env i,F i,rs i,nx i⟩,fun c a w o h1 h2=>(by obtain⟨i,v,w',q1,q2,q3⟩:=h c a w o h1 h2;exact⟨i,v,w',.inl q1,q2,q3⟩),fun i=>?_⟩))⟩);simp only[vA,il];exact⟨hd',k i⟩
theorem uM {d j:Nat}{want:Bool}{t:TypeId}{a:Operand}{ty:TypeId}{pos:String}{af:Array Edge}{env:Env}{F:Hp}{rs:RL}{nx:Nat}{i:TI}{p:Option Addr}{c:Nat×Bool×Bool}{ch:gx}(cs:List Value)(hg:nE all g env j want=some (c::ch))(hi:tb t=some i)(ha:i.kind.agg=true)
  (hp:gO rs g env (c::ch) a=some (.v (.pointer p))) (hd:Nat.blt d N=true) (hc:(iq d g&&nA d env)=true) (hl:cs.length=i.size) (hs:gP (c::ch)→p.isSome=true∧ ∀j,j<i.size→gi F (iw p j)=cs[j]?)
  (k:dW P tb N dr all rest K ((d,c::ch,.v (.agg cs.toArray))::g) ⟨env,F,rs,nx⟩):dW P tb N dr all (⟨some d,.load t a,ty,pos,af,some (j,want)⟩::rest) K g ⟨env,F,rs,nx⟩:=by
 have hd':d<N:=by simpa using hd
 refine lg (st:=⟨env,F,rs,nx⟩) hg ?_;simp only[nK,hi,hp,nP,ha,zb,As,il];exact⟨cs,hl,hs,hd',hc,k⟩
theorem om {d:Nat}{t:TypeId}{a:Operand}{ty:TypeId}{pos:String}{af:Array Edge}{env:Env}{F:Hp}{rs:RL}{nx id off:Nat}{i:TI}{r:kg}(x:Value)(hi:tb t=some i)(ha:i.kind.agg=false)(hp:gO rs [] env [] a=some (.loc id off))(hr:fU rs id=some r)(hd:Nat.blt d N=true)(hx:r.cells[off]? =some (.v x))
  (k:dW P tb N dr all rest K [] ⟨(d,.v x)::env,F,rs,nx⟩):dW P tb N dr all (⟨some d,.load t a,ty,pos,af,none⟩::rest) K [] ⟨env,F,rs,nx⟩:=by
 have hd':d<N:=by simpa using hd
 refine .inl ?_;simp only[nK,hi,hp,nP,hr,ha,vZ,hx,oV,alive,Jp,As,il];exact⟨hd',k⟩
theorem lA {d:Nat}{t:TypeId}{a:Operand}{ty:TypeId}{pos:String}{af:Array Edge}{env:Env}{F:Hp}{rs:RL}{nx id off:Nat}{i:TI}{r:kg}(cs:List Value)(hi:tb t=some i)(ha:i.kind.agg=true)(hp:gO rs [] env [] a=some (.loc id off))(hr:fU rs id=some r)(hd:Nat.blt d N=true)(hle:off+i.size≤r.cells.length)(hx:(r.cells.take (off+i.size)).drop off=cs.map .v)
  (k:dW P tb N dr all rest K [] ⟨(d,.v (.agg cs.toArray))::env,F,rs,nx⟩):dW P tb N dr all (⟨some d,.load t a,ty,pos,af,none⟩::rest) K [] ⟨env,F,rs,nx⟩:=by
 have hd':d<N:=by simpa using hd
 refine .inl ?_;simp only[nK,hi,hp,nP,hr,ha,vZ,hx,eH,MG,As,il];exact⟨hle,hd',k⟩
theorem iS {t:TypeId}{a x:Operand}{ty:TypeId}{pos:String}{af:Array Edge}{env:Env}{F:Hp}{rs rs':RL}{nx id off:Nat}{i:TI}{r:kg}{e:EV}(cells':List EV)(hi:tb t=some i)(ha:gO rs g env [] a=some (.loc id off))(hx:gO rs g env [] x=some e)(hr:fU rs id=some r)(hl:(cellsOf e).length=i.size)(h1:(cellsOf e).all one=true)(hle:off+i.size≤r.cells.length)
  (hc:r.cells.take off++cellsOf e++r.cells.drop (off+i.size)=cells') (hrs:iv (qP rs id ⟨r.gq,cells',r.ty,r.cap⟩)=some rs')
  (k:dW P tb N false all rest K g ⟨env,F,rs',nx⟩):dW P tb N false all (⟨none,.store t a x,ty,pos,af,none⟩::rest) K g ⟨env,F,rs,nx⟩:=by
 rw[fE,aa]at hrs;subst hc hrs;refine .inl ?_;simp only[nK,hi,ha,hx,uV,hr,tI];exact⟨trivial,trivial,trivial,hl,h1,hle,k⟩
theorem zj {d:Nat}{t e:TypeId}{n:Nat}{ps:Array (Nat×Operand)}{ty:TypeId}{pos:String}{af:Array Edge}{env:Env}{F:Hp}{rs:RL}{nx:Nat}{xs:List (Nat×Value)}{cs:List Value}{cells:List EV}{ti:TI}{m:Nat}(ht:tk tb t=some (.slice e))(hi:tb e=some ti)(hp:partsOf rs (gO rs [] env []) ps.toList=some xs)(hz:Nat.ble (n * ti.size) 16777216=true)
  (hf:sO (fun i=>some (i * ti.size,ti.size)) (zm (n * ti.size) ti.zero) xs=some cs) (hc:iv (cs.map EV.v)=some cells) (hm:cells.length=m) (hd:Nat.blt d N=true)
  (k: ∀b,dW P tb N false all rest K [] ⟨(d,.row nx 0 n n)::env,F,(nx,⟨some b,cells,e,m⟩)::rs,nx+1⟩):dW P tb N false all (⟨some d,.buildSlice t n ps,ty,pos,af,none⟩::rest) K [] ⟨env,F,rs,nx⟩:=by
 have hd':d<N:=by simpa using hd
 have hz':n * ti.size≤2 ^ 24:=by simpa using hz
 rw[fE,aa]at hc;subst hc hm;refine .inl ?_;simp only[nK,ht,hp,OL,hi,B4,hf,Dh,Sd,il];exact⟨trivial,trivial,hz',fun b=>⟨hd',k b⟩⟩
def wQ (F:Hp)(rs:RL)(size:Nat)(y:Option EV)(m:Nat)(news:List EV):Prop:=∀k:Nat→List EV→Prop,k m news→Ht F rs size k y
theorem ff {F:Hp}{rs:RL}{size id m c b:Nat}{cells:List EV}{ty:TypeId}{cap:Nat}(hr:fU rs id=some ⟨some b,cells,ty,cap⟩)(hl:m * size=cells.length):wQ F rs size (some (.row id 0 m c)) m cells:=fun k hk=>by
 simp only[Ht,hr,Af];refine⟨by omega,?_⟩;rw[aP,hl,aD,cj];exact hk
theorem iX {F:Hp}{rs:RL}{size m c:Nat}{p:Option Addr}{cs:List Value}(hl:cs.length=m * size)(h:e9 F p cs):wQ F rs size (some (.v (.slice p m c))) m (cs.map .v):=fun k hk=>by
 simp only[Ht];exact⟨cs,hl,h,hk⟩
theorem Ip {F:Hp}{rs:RL}{l:List UInt8}:wQ F rs 1 (some (.v (S l))) l.length (l.map fun b=>.v (.int .u8 (b.toNat:Int))):=fun k hk=>by
 simp only[Ht];exact⟨trivial,hk⟩
theorem gC (rs:RL){l:List Value}(h: ∀x∈l,one (.v x)=true):ll rs (l.map .v):=fun e he=>by
 obtain⟨x,hx,rfl⟩:=aG.1 he;exact⟨h x hx,x,rfl⟩
theorem fy {d:Nat}{x y:Operand}{t1 t2 e:TypeId}{ty:TypeId}{pos:String}{af:Array Edge}{env:Env}{F:Hp}{rs rs':RL}{nx id n c cap:Nat}{gq:Option Nat}{cells:List EV}{ti:TI}{m:Nat}{news:List EV}(ht:tk tb t1=some (.slice e))(ht2:wI (tk tb t2)=true)(hi:tb e=some ti)(h0:(Nat.blt 0 ti.size&&Nat.blt 0 ti.bytes&&Nat.beq ti.zero.length ti.size)=true)
  (hx:gO rs [] env [] x=some (.row id 0 n c)) (hr:fU rs id=some ⟨gq,cells,e,cap⟩) (hrs:iv (uL rs id)=some rs') (hd:Nat.blt d N=true) (hsrc:wQ F rs ti.size (gO rs [] env [] y) m news) (hone:ll rs news) (hok:gq=none→n=0∧c=0) (hnc:n≤c) (hcap:cap=c * ti.size) (hcl:n * ti.size≤cells.length)
  (hby:(n+m) * ti.bytes≤140737488355328)
  (k0:m=0→dW P tb N false all rest K [] ⟨(d,.row id 0 n c)::env,F,rs,nx⟩)
  (k:0<m→∀b cap,n+m≤cap→dW P tb N false all rest K [] ⟨(d,.row nx 0 (n+m) cap)::env,F,(nx,⟨some b,cells.take (n * ti.size)++news,e,cap * ti.size⟩)::rs',nx+1⟩):
  dW P tb N false all (⟨some d,.call ⟨.builtin .append,#[x,y],#[t1,t2]⟩,ty,pos,af,none⟩::rest) K [] ⟨env,F,rs,nx⟩:=by
 have hd':d<N:=by simpa using hd
 simp only[aL,Nat.blt_eq,Nat.beq_eq]at h0;obtain⟨⟨h1,h2⟩,h3⟩:=h0;rw[fE,aa]at hrs;subst hrs;refine .inr (.inl ⟨rfl,x,y,t1,t2,rfl,rfl,?_⟩);simp only[ht,Lk,ht2,hi,MT,true_and];refine⟨h1,h2,h3,hsrc _ ⟨hone,?_⟩⟩;simp only[hx,Pw,hr];cases gq with
 | none=>
  obtain⟨rfl,rfl⟩:=hok rfl;simp only[KL,BW,il,aP];simp only[aP,dy,df,c7]at k hby;exact⟨trivial,trivial,fun hm=>⟨hd',k0 hm⟩,fun hm=>⟨fun _=>hby,fun b cap hc _=>⟨hd',k hm b cap hc⟩⟩⟩
 | some b0=>
  simp only[KL,BW,il];exact⟨trivial,hnc,hcap,hcl,fun hm=>⟨hd',k0 hm⟩,fun hm=>⟨fun _=>hby,fun b cap hc _=>⟨hd',k hm b cap hc⟩⟩⟩
theorem jA {d:Nat}{x y:Operand}{t1 t2 e:TypeId}{ty:TypeId}{pos:String}{af:Array Edge}{env:Env}{F:Hp}{rs:RL}{nx n:Nat}{p:Option Addr}{ti:TI}{m:Nat}{news:List EV}(cs:List Value)(ht:tk tb t1=some (.slice e))(ht2:wI (tk tb t2)=true)(hi:tb e=some ti)(h0:(Nat.blt 0 ti.size&&Nat.blt 0 ti.bytes&&Nat.beq ti.zero.length ti.size)=true)
  (hx:gO rs [] env [] x=some (.v (.slice p n n))) (hd:Nat.blt d N=true) (hcl:cs.length=n * ti.size) (hfr:e9 F p cs) (hsrc:wQ F rs ti.size (gO rs [] env [] y) m news) (hone:ll rs news)
  (hby:(n+m) * ti.bytes≤140737488355328)
  (k0:m=0→dW P tb N false all rest K [] ⟨(d,.v (.slice p n n))::env,F,rs,nx⟩)
  (k:0<m→∀b cap,n+m≤cap→dW P tb N false all rest K [] ⟨(d,.row nx 0 (n+m) cap)::env,F,(nx,⟨some b,cs.map .v++news,e,cap * ti.size⟩)::rs,nx+1⟩):
  dW P tb N false all (⟨some d,.call ⟨.builtin .append,#[x,y],#[t1,t2]⟩,ty,pos,af,none⟩::rest) K [] ⟨env,F,rs,nx⟩:=by
 have hd':d<N:=by simpa using hd
 simp only[aL,Nat.blt_eq,Nat.beq_eq]at h0;obtain⟨⟨h1,h2⟩,h3⟩:=h0;refine .inr (.inl ⟨rfl,x,y,t1,t2,rfl,rfl,?_⟩);simp only[ht,Lk,ht2,hi,MT,true_and];refine⟨h1,h2,h3,hsrc _ ⟨hone,?_⟩⟩;simp only[hx,Pw,RU,BW,il,true_and];exact⟨cs,hcl,hfr,fun hm=>⟨hd',k0 hm⟩,fun hm=>⟨fun _=>hby,fun b cap hc _=>⟨hd',k hm b cap hc⟩⟩⟩
theorem qx {d:Nat}{x:Operand}{s t:TypeId}{ty:TypeId}{pos:String}{af:Array Edge}{env:Env}{F:Hp}{rs:RL}{nx id m c b cap:Nat}{cells:List EV}{xG:TypeId}(bs:List UInt8)(hs:(oG tb (tk tb s)&&isStr (tk tb t))=true)(hx:gO rs [] env [] x=some (.row id 0 m c))(hr:fU rs id=some ⟨some b,cells,xG,cap⟩)(hd:Nat.blt d N=true)
  (hm:m≤cells.length) (hc:cells.take m=bs.map fun b=>.v (.int .u8 (b.toNat:Int)))
  (k:dW P tb N false all rest K [] ⟨(d,.v (S bs))::env,F,rs,nx⟩):dW P tb N false all (⟨some d,.convert s t x,ty,pos,af,none⟩::rest) K [] ⟨env,F,rs,nx⟩:=by
 have hd':d<N:=by simpa using hd
 simp only[aL]at hs;refine .inr (.inl ⟨rfl,hs.1,hs.2,?_⟩);simp only[hx,Ps,hr,Af,aA,aP,cj,il];exact⟨hm,bs,hc,hd',k⟩
theorem q7 {d:Nat}{f:Operand}{args:Array Operand}{ts:Array TypeId}{n:FuncId}{first captured:Array Value}{xs ys:List Value}{ty:TypeId}{pos:String}{af:Array Edge}{env:Env}{F:Hp}{rs:RL}{nx:Nat}{Q:Value→Hp→RL→Prop}
  (hf:gO rs [] env [] f=some (.v (.func (.func n) first captured))) (hx:sy rs (gO rs [] env []) args.toList=some xs) (hy':iv (first.toList++xs++captured.toList)=some ys) (hb:dK P n) (hd:Nat.blt d N=true) (hc:eD P F n ys Q)
  (k: ∀x F' new,F.sub F'→Q x F' new→∃(m:Nat) (e:EV),(∀id r,fU new id=some r→id<m∧ ∀e∈r.cells,e.lt m)∧e.val new=some x∧dW P tb N false all rest K [] ⟨(d,g8 nx e)::env,F',gD nx new++rs,nx+m⟩):
  dW P tb N false all (⟨some d,.call ⟨.value f,args,ts⟩,ty,pos,af,none⟩::rest) K [] ⟨env,F,rs,nx⟩:=by
 have hd':d<N:=by simpa using hd
 rw[fE,aa]at hy';subst hy';refine .inl ?_;simp only[nK,hf,hx,lZ];refine⟨hb,VS.id ⟨Q,hc,fun x F' new h1 h2=>?_⟩⟩;obtain⟨m,e,h3,h4,h5⟩:=k x F' new h1 h2;exact⟨m,e,h3,h4,by simp only[il];exact⟨hd',h5⟩⟩
abbrev iy (P:Program)(F:Hp)(f:FuncId)(args:List Value)(Q:Value→Hp→Prop):Prop:=eD P F f args fun x F' new=>new=[]∧Q x F'
theorem fm {d:Nat}{f:Operand}{args:Array Operand}{ts:Array TypeId}{n:FuncId}{first captured:Array Value}{xs ys:List Value}{ty:TypeId}{pos:String}{af:Array Edge}{env:Env}{F:Hp}{rs:RL}{nx:Nat}{Q:Value→Hp→Prop}
  (hf:gO rs [] env [] f=some (.v (.func (.func n) first captured))) (hx:sy rs (gO rs [] env []) args.toList=some xs) (hy':iv (first.toList++xs++captured.toList)=some ys) (hb:dK P n) (hd:Nat.blt d N=true) (hc:iy P F n ys Q)
  (k: ∀x F',F.sub F'→Q x F'→dW P tb N false all rest K [] ⟨(d,.v x)::env,F',rs,nx⟩):
  dW P tb N false all (⟨some d,.call ⟨.value f,args,ts⟩,ty,pos,af,none⟩::rest) K [] ⟨env,F,rs,nx⟩:=
 q7 hf hx hy' hb hd hc fun x F' new h1 h2=>by
  obtain⟨rfl,h3⟩:=h2;exact⟨0,.v x,fun id r h=>by simp[fU]at h,rfl,k x F' h1 h3⟩
def mC (e:TypeId)(size:Nat)(cs:List Value)(n:Nat)(x:Value)(new:RL):Prop:=
 (n=0∧new=[]∧ ∃p,x= .slice p 0 0)∨(0<n∧ ∃b c,n≤c∧new=[(0,⟨some b,cs.map .v,e,c * size⟩)]∧x= .slice (some ⟨b,0,none⟩) n c)
theorem nC {d:Nat}{f:Operand}{args:Array Operand}{ts:Array TypeId}{n:FuncId}{first captured:Array Value}{xs ys:List Value}{ty:TypeId}{pos:String}{af:Array Edge}{env:Env}{F:Hp}{rs:RL}{nx:Nat}{e:TypeId}{size k:Nat}{Q:Value→Hp→RL→Prop}{R:Hp→List Value→Prop}(hQ: ∀x F' new,Q x F' new→∃cs,mC e size cs k x new∧R F' cs)
  (hf:gO rs [] env [] f=some (.v (.func (.func n) first captured))) (hx:sy rs (gO rs [] env []) args.toList=some xs) (hy':iv (first.toList++xs++captured.toList)=some ys) (hb:dK P n) (hd:Nat.blt d N=true) (hc:eD P F n ys Q)
  (k0:k=0→∀F' p cs,F.sub F'→R F' cs→dW P tb N false all rest K [] ⟨(d,.v (.slice p 0 0))::env,F',rs,nx⟩)
  (k1:0<k→∀F' b c cs,F.sub F'→k≤c→R F' cs→dW P tb N false all rest K [] ⟨(d,.row nx 0 k c)::env,F',(nx,⟨some b,cs.map .v,e,c * size⟩)::rs,nx+1⟩):
  dW P tb N false all (⟨some d,.call ⟨.value f,args,ts⟩,ty,pos,af,none⟩::rest) K [] ⟨env,F,rs,nx⟩:=
 q7 hf hx hy' hb hd hc fun x F' new h1 h2=>by
  obtain⟨cs,h3,h4⟩:=hQ x F' new h2;rcases h3 with⟨h5,rfl,p,rfl⟩ | ⟨h5,b,c,h6,rfl,rfl⟩
  ·exact⟨0,.v _,fun id r h=>by simp[fU]at h,rfl,k0 h5 F' p cs h1 h4⟩
  refine⟨1,.row 0 0 k c,fun id r h=>?_,by simp only[EV.val,fb,dF];rfl,?_⟩
  ·rw[fb]at h;split at h
   ·rename_i h0;simp only[aa]at h;subst h h0;refine⟨Nat.zero_lt_one,fun e he=>?_⟩;obtain⟨u,_,rfl⟩:=aG.1 he;trivial
   simp[fU]at h
  have e1:(cs.map EV.v).map (g8 nx)=cs.map EV.v:=by rw[cO];rfl
  have:=k1 h5 F' b c cs h1 h6 h4;simp only[g8,gD,gY,a9,cP,di,e1,bZ,c7];exact this
theorem iI {d:Nat}{f:Operand}{args:Array Operand}{ts:Array TypeId}{n:FuncId}{first captured:Array Value}{es:List EV}{ty:TypeId}{pos:String}{af:Array Edge}{env env':Env}{F:Hp}{rs:RL}{nx:Nat}(htb:g9 P tb)(hm:P.follows .mixedOrders=true)
  {fn:Func} (hfn:P.funcs[n]? =some fn) {code:Code} (hbody:fn.body=some code) {N':Nat} (hn:fn.ntmps=N') {rv:List ResultVar} (hrv:fn.results.toList=rv)
  (hf:gO rs [] env [] f=some (.v (.func (.func n) first captured))) (he:Gc (gO rs [] env []) args.toList=some es) (ns:qT 0 (first.toList.map EV.v++es++captured.toList.map EV.v)=env') (hN:Nat.ble (first.toList.map EV.v++es++captured.toList.map EV.v).length N'=true) (hb:dK P n) (hd:Nat.blt d N=true)
  (k:vc P tb N' code (gB N' tb rv (fun e F' rs' nx'=>dW P tb N false all rest K [] ⟨(d,e)::env,F',rs',nx'⟩)) ⟨env',F,rs,nx⟩):
  dW P tb N false all (⟨some d,.call ⟨.value f,args,ts⟩,ty,pos,af,none⟩::rest) K [] ⟨env,F,rs,nx⟩:=by
 have hd':d<N:=by simpa using hd
 subst hn hrv ns;refine .inr (.inl ⟨rfl,?_⟩);simp only[Mc,hf,he,Nj];refine⟨hb,_,tV htb hm hfn hbody hN k,fun e F' rs' nx' _ _ h=>?_⟩;simp only[vA,il];exact⟨hd',h⟩
theorem xr {rv:List ResultVar}{Q:EV→Hp→RL→Nat→Prop}{e:EV}(h:xL tb st rv=some e)(k:Q e st.F st.rs st.nx):gB N tb rv Q .ret st:=VS.id ⟨e,h,k⟩
theorem Eu {rv:List ResultVar}{Q:EV→Hp→RL→Nat→Prop}{e:EV}(h:xL tb st rv=some e)(k:Q e st.F st.rs st.nx):gB N tb rv Q .normal st:=VS.id ⟨e,h,k⟩
theorem eU {rv:List ResultVar}{Q:Value→Hp→RL→Prop}(h:VS N [] st fun st'=>∃xs,nF tb st' rv=some xs∧Q (gH xs) st'.F st'.rs):gJ N tb rv Q .ret st:=fun c a w _ hs=>h c a w hs
theorem mH {rv:List ResultVar}{Q:Value→Hp→RL→Prop}(h:qQ 0 N [] st fun st'=>∃xs,nF tb st' rv=some xs∧Q (gH xs) st'.F st'.rs):gJ N tb rv Q .ret st:=h
theorem fq {ops:Array Oper}{kept:List Nat}{K:St→Prop}{m f:Nat}{done:Array Bool}(h:Region.ready .any ops done=[])(k:K st):fv P tb N ops kept K (m+1) f done g st:=.inl ⟨h,VS.id k⟩
theorem dU {ops:Array Oper}{kept:List Nat}{K:St→Prop}{m f':Nat}{done:Array Bool}{env:Env}{F:Hp}{rs rsm:RL}{nx:Nat}(is:List Nat){l lo:List Oper}(hB:ui .any ops done is=true)(hlo:ops.toList=lo)(hl:S1 lo is=some l)(hm:mask kept rs=rsm)(k:dW P tb N true lo l (fG rs (fv P tb N ops kept K m f' (Cw done is))) g ⟨env,F,rsm,nx⟩):
  fv P tb N ops kept K (m+1) (f'+is.length) done g ⟨env,F,rs,nx⟩:=by
 subst hm hlo;exact .inr (.inl ⟨f',is,l,rfl,hB,hl,k⟩)
theorem Gv {env:Env}{F:Hp}{rs rs':RL}{nx:Nat}(k:K g ⟨env,F,rs,nx⟩):fG rs K g ⟨env,F,rs',nx⟩:=k
theorem ee {ops:Array Oper}{kept:List Nat}{K:St→Prop}{m f':Nat}{done:Array Bool}{lo:List Oper}(i:Nat){o:Oper}(hr:Region.ready .any ops done=[i])(hlo:ops.toList=lo)(ho:lo[i]? =some o)(k:dW P tb N false lo [o] (jt kept st.F st.rs (fv P tb N ops kept K m f' (done.setIfInBounds i true))) g st):
  fv P tb N ops kept K (m+1) (f'+1) done g st:=by
 subst hlo;refine .inr (.inr ⟨f',rfl,by rw[hr];simp,fun j hj=>?_⟩);rw[hr,aB]at hj;subst hj;obtain⟨d,op,ty,pos,af,gd⟩:=o;exact⟨⟨d,op,ty,pos,af,gd⟩,by simpa using ho,k⟩
theorem jF {ops:Array Oper}{kept:List Nat}{K:St→Prop}{m f':Nat}{done:Array Bool}{lo:List Oper}(i j:Nat){o o':Oper}(hr:Region.ready .any ops done=[i,j])(hlo:ops.toList=lo)(ho:lo[i]? =some o)(ho':lo[j]? =some o')(k:dW P tb N false lo [o] (jt kept st.F st.rs (fv P tb N ops kept K m f' (done.setIfInBounds i true))) g st)
  (k':dW P tb N false lo [o'] (jt kept st.F st.rs (fv P tb N ops kept K m f' (done.setIfInBounds j true))) g st):fv P tb N ops kept K (m+1) (f'+1) done g st:=by
 subst hlo;refine .inr (.inr ⟨f',rfl,by rw[hr];simp,fun q hq=>?_⟩);rw[hr]at hq;obtain⟨d,op,ty,pos,af,gd⟩:=o;obtain⟨d',op',ty',pos',YO,YP⟩:=o';simp only[aT,da,dH]at hq;rcases hq with rfl | rfl
 ·exact⟨⟨d,op,ty,pos,af,gd⟩,by simpa using ho,k⟩
 exact⟨⟨d',op',ty',pos',YO,YP⟩,by simpa using ho',k'⟩
theorem MX {rs rs':RL}: ∀{l:List EV},l.map (EV.val rs')=l.map (EV.val rs)→ES rs rs' l
 | [],_=>trivial
 | e::t,h=>by
  simp only[a9,bW]at h;exact⟨h.1,MX h.2⟩
theorem dP {rs rs':RL}: ∀{l:List Nat},(l.map fun id=>(fU rs' id,(fU rs id).map fun r=>r.cells.map (EV.val rs')))=(l.map fun id=>(fU rs id,(fU rs id).map fun r=>r.cells.map (EV.val rs)))→vj rs rs' l
 | [],_=>trivial
 | id::t,h=>by
  simp only[a9,bW,aC]at h;refine⟨?_,dP h.2⟩;cases hr:fU rs id with
  | none=>trivial
  | some r=>
   obtain⟨⟨h1,h2⟩,_⟩:=h;rw[hr]at h1 h2;simp only[aJ,aa]at h2;exact⟨h1,MX h2⟩
theorem eG {kept:List Nat}{F:Hp}{rs:RL}(h1:F.sub st.F)(h2:vj rs st.rs kept)(k:K g st):jt kept F rs K g st:=⟨⟨h1,h2⟩,k⟩
end
end
section
section
variable {N:Nat}
def s8 (b id:Nat):EV→EV
 | .v x=>.v x
 | .loc i o=>match Nat.beq i id with
  | true=>.v (.pointer (some ⟨b,o,none⟩))
  | false=>.loc i o
 | .row i o n c=>match Nat.beq i id with
  | true=>.v (.slice (some ⟨b,o,none⟩) n c)
  | false=>.row i o n c
def mS (b id:Nat):List EV→List EV
 | []=>[]
 | e::t=>s8 b id e::mS b id t
def vM (b id:Nat):RL→RL
 | []=>[]
 | (m,⟨bb,cells,ty,cap⟩)::t=>match Nat.beq m id with
  | true=>vM b id t
  | false=>(m,⟨bb,mS b id cells,ty,cap⟩)::vM b id t
def At (b id:Nat):Env→Env
 | []=>[]
 | (n,e)::t=>(n,s8 b id e)::At b id t
theorem pI (b id:Nat): ∀l:List EV,mS b id l=l.map (s8 b id)
 | []=>rfl
 | e::t=>by simp only[mS,a9,pI b id t]
theorem fc (b id:Nat)(l:List Value):mS b id (l.map .v)=l.map .v:=by
 rw[pI,cO];rfl
theorem beq_false {m n:Nat}(h:m≠n):Nat.beq m n=false:=by cases hb:Nat.beq m n with | false=>rfl | true=>exact absurd (dj hb) h
theorem Dj {b id:Nat}{rs:RL}{k:Nat}:fU (vM b id rs) k=if k=id then none else (fU rs k).map fun r=>⟨r.gq,mS b id r.cells,r.ty,r.cap⟩:=by
 induction rs with
 | nil=>simp[vM,fU]
 | cons p rs ih=>
  obtain⟨m,⟨bb,cells,ty,cap⟩⟩:=p;simp only[vM];by_cases hm:m=id
  ·subst hm;simp only[Nat.beq_refl];rw[ih,fb];by_cases hk:k=m<;>simp[hk]
  rw[beq_false hm];simp only[];rw[fb,ih,fb];by_cases hk:k=m
  ·subst hk;simp[hm]
  simp only[aY hk]
theorem MK {b id:Nat}{env:Env}{k:Nat}:lk (At b id env) k=(lk env k).map (s8 b id):=by
 induction env with
 | nil=>rfl
 | cons p env ih=>
  obtain⟨m,e⟩:=p;simp only[At];rw[kU,ih,kU];by_cases hk:k=m<;>simp[hk]
theorem O1 {id b:Nat}{rs:RL}{r:kg}(hr:fU rs id=some r)(hb:r.gq=some b)(e:EV)(x:Value)(hx:(s8 b id e).val (vM b id rs)=some x):e.val rs=some x:=by
 cases e with
 | v y=>exact hx
 | loc i o=>
  by_cases hi:i=id
  ·subst hi;simp only[s8,Nat.beq_refl,EV.val]at hx;simp only[EV.val,hr,hb];exact hx
  simp only[s8,beq_false hi,EV.val,Dj,aY hi]at hx;simp only[EV.val];cases hk:fU rs i with
  | none=>simp[hk]at hx
  | some s=>rw[hk]at hx;exact hx
 | row i o n c=>
  by_cases hi:i=id
  ·subst hi;simp only[s8,Nat.beq_refl,EV.val]at hx;simp only[EV.val,hr,hb];exact hx
  simp only[s8,beq_false hi,EV.val,Dj,aY hi]at hx;simp only[EV.val];cases hk:fU rs i with
  | none=>simp[hk]at hx
  | some s=>rw[hk]at hx;exact hx
theorem MD {b id nx:Nat}{e:EV}(h:e.lt nx):(s8 b id e).lt nx:=by
 cases e with
 | v x=>trivial
 | loc i o=>simp only[s8];split<;>first | trivial | exact h
 | row i o n c=>simp only[s8];split<;>first | trivial | exact h
end
section
variable {N:Nat}
def Hp.plus (F:Hp)(b:Nat)(o:Obj):Hp:=fun k=>if k=b then some o else F k
theorem RE {b id:Nat}{r:kg}{b':Nat}(h:(⟨r.gq,mS b id r.cells,r.ty,r.cap⟩:kg).at b'):r.at b':=by
 rcases h with h | ⟨h1,h0,h2⟩
 ·exact .inl h
 refine .inr ⟨h1,h0,?_⟩;simp only[pI,List.map_eq_singleton_iff]at h2;obtain⟨e,he,h3⟩:=h2;rw[he];cases e with
 | v x=>exact a8 (fun e=>[e]) h3
 | loc i o=>simp only[s8]at h3;split at h3<;>cases h3
 | row i o n c=>simp only[s8]at h3;split at h3<;>cases h3
theorem xV {c:Ctx}{env:Env}{F:Hp}{rs:RL}{nx:Nat}{a:Act}{w:World}(h:fI c N [] ⟨env,F,rs,nx⟩ a w){id:Nat}{r:kg}{b:Nat}(hr:fU rs id=some r)(hb:r.gq=some b){cs:List Value}(hcs:iZ rs r.cells=some cs):
  ∃F',F.sub F'∧e9 F' (some ⟨b,0,none⟩) cs∧fI c N [] ⟨At b id env,F',vM b id rs,nx⟩ a w:=by
 have hown:=h.fR.own.own id r hr;rw[hb]at hown;obtain⟨o1,o2,cur,o3,o4,o5⟩:=hown;have o1:F b=none:=o1;have hsub:F.sub (F.plus b (.cells cur r.ty (0,0))):=fun k o e=>by
  unfold Hp.plus;rw[aY (by rintro rfl;rw[o1]at e;cases e)];exact e
 have hv: ∀e x,(s8 b id e).val (vM b id rs)=some x→e.val rs=some x:=fun e x hx=>O1 hr hb e x hx;have hlk: ∀{k s},fU (vM b id rs) k=some s→k≠id∧ ∃s0,fU rs k=some s0∧s=⟨s0.gq,mS b id s0.cells,s0.ty,s0.cap⟩:=fun {k s} hs=>by
  rw[Dj]at hs;split at hs
  ·cases hs
  rename_i hk;rw[aS]at hs;obtain⟨s0,h1,h2⟩:=hs;exact⟨hk,s0,h1,h2.symm⟩
 refine⟨F.plus b (.cells cur r.ty (0,0)),hsub,fun j u hj=>?_,?_⟩
 ·obtain⟨e,he,hx⟩:=(pz hcs).2 j u hj;have:=o5 j e u he hx;simp only[iw,aJ,gi,Option.bind_some,kM,aP,jz,Hp.plus,dF];simpa using this
 exact {
  size:=h.size
  defers:=h.defers
  fR:={
   le:=fun k o e=>by
    have e:(if k=b then some (.cells cur r.ty (0,0)) else F k)=some o:=e;by_cases hk:k=b
    ·subst hk;rw[aZ rfl]at e;rw[←e];exact o3
    rw[aY hk]at e;exact h.fR.le k o e
   own:={
    own:=fun k s hs=>by
     obtain⟨hk,s0,h1,rfl⟩:=hlk hs;have h2:=h.fR.own.own k s0 h1;cases hsb:s0.gq with
     | none=>
      rw[hsb]at h2;simp only;exact⟨h2.1.elim (fun e=>.inl (by rw[e];rfl)) (fun⟨e0,b,e⟩=>.inr ⟨e0,b,by rw[e];rfl⟩),h2.2⟩
     | some b'=>
      rw[hsb]at h2;simp only;obtain⟨g1,g2,cur',g3,g4,g5⟩:=h2;have hne:b'≠b:=by
       rintro rfl;exact hk (h.fR.own.apart k id s0 r _ h1 hr hsb hb)
      refine⟨by unfold Hp.plus;rw[aY hne];exact g1,by rw[pI,ab];exact g2,cur',g3,g4,fun j ev x hj hx=>?_⟩;rw[pI,aI,aS]at hj;obtain⟨e0,h5,rfl⟩:=hj;exact g5 j e0 x h5 (hv e0 x hx)
    apart:=fun i j s t b' hi hj hs ht=>by
     obtain⟨_,s0,h1,rfl⟩:=hlk hi;obtain⟨_,t0,h2,rfl⟩:=hlk hj;exact h.fR.own.apart i j s0 t0 b' h1 h2 hs ht }
   ir:=h.fR.ir
   new:=fun k s b' hs hsb=>by
    obtain⟨_,s0,h1,rfl⟩:=hlk hs;exact h.fR.new k s0 b' h1 (RE hsb)
   jW:=fun k hk=>by
    have hk:(if k=b then some (.cells cur r.ty (0,0)) else F k).isSome=true:=hk;by_cases he:k=b
    ·subst he;exact .inr (h.fR.new id r _ hr (.inl hb))
    rw[aY he]at hk;exact h.fR.jW k hk
   sz:=h.fR.sz
   tp:=h.fR.tp }
  gL:={
   sub:=h.gL.sub.trans hsub
   kX:=h.gL.kX
   succ:=fun k s hk hs=>by
    obtain⟨_,s0,h1,rfl⟩:=hlk hs;exact h.gL.succ k s0 hk h1 }
  gV:=fun k s hs=>by
   obtain⟨_,s0,h1,rfl⟩:=hlk hs;obtain⟨h2,h3⟩:=h.gV k s0 h1;refine⟨h2,fun e he=>?_⟩;simp only[pI,aG]at he;obtain⟨e0,h4,rfl⟩:=he;exact MD (h3 e0 h4)
  ids:=fun n e he=>by
   simp only[MK,aS]at he;obtain⟨e0,h1,rfl⟩:=he;exact MD (h.ids n e0 h1)
  env:=fun n e x _ he hx=>by
   simp only[MK,aS]at he;obtain⟨e0,h1,rfl⟩:=he;exact h.env n e0 x rfl h1 (hv e0 x hx)
  gv:=fun n ch e he=>by simp[rA]at he }
def eL (env:Env):List Nat→Option Env
 | []=>some []
 | n::t=>match Go.TR.lk env n with
  | some (.v (.slice p n' c'))=>(match eL env t with
   | some l=>some ((n,.v (.slice (p) n' c'))::l)
   | none=>none)
  | some (.v (.pointer p))=>(match eL env t with
   | some l=>some ((n,.v (.pointer (p)))::l)
   | none=>none)
  | some (.v x)=>(match eL env t with
   | some l=>some ((n,.v x)::l)
   | none=>none)
  | some (.loc i o)=>(match eL env t with
   | some l=>some ((n,.loc i o)::l)
   | none=>none)
  | some (.row i o n' c')=>(match eL env t with
   | some l=>some ((n,.row i o n' c')::l)
   | none=>none)
  | none=>none
theorem rj: ∀{slots:List Nat}{env env':Env},eL env slots=some env'→∀n e,lk env' n=some e→lk env n=some e
 | [],env,env',h,n,e,he=>by simp only[eL,aa]at h;subst h;simp[lk]at he
 | m::t,env,env',h,n,e,he=>by
  have step: ∀{x:EV} {l:Env},lk env m=some x→eL env t=some l→lk ((m,x)::l) n=some e→lk env n=some e:=fun {x l} hx hl hk=>by
   rw[kU]at hk;split at hk
   ·rename_i hn;subst hn;rw[hx];exact hk
   exact rj hl n e hk
  simp only[eL]at h;split at h<;>first | (simp at h;done) | skip
  all_goals
   rename_i hx;split at h<;>first | (simp at h;done) | skip
   rename_i l hl;simp only[aa]at h;subst h;exact step hx hl he
theorem pH {c:Ctx}{env env':Env}{F:Hp}{rs:RL}{nx:Nat}{a:Act}{w:World}{slots:List Nat}(hk:eL env slots=some env')(h:fI c N [] ⟨env,F,rs,nx⟩ a w):fI c N [] ⟨env',F,rs,nx⟩ a w where
 size:=h.size
 defers:=h.defers
 fR:=h.fR
 gL:=h.gL
 gV:=h.gV
 ids:=fun n e he=>h.ids n e (rj hk n e he)
 env:=fun n e x hg he hx=>h.env n e x hg (rj hk n e he) hx
 gv:=fun n ch e he=>by simp[rA]at he
theorem VS.eL {env env':Env}{F:Hp}{rs:RL}{nx:Nat}{G:St→Prop}(slots:List Nat)(h:eL env slots=some env')(k:G ⟨env',F,rs,nx⟩):VS N [] ⟨env,F,rs,nx⟩ G:=fun _ _ _ hs=>⟨_,pH h hs,k⟩
theorem VS.freeze {env env':Env}{F:Hp}{rs rs':RL}{nx:Nat}{G:St→Prop}(id:Nat){b:Nat}{cells:List EV}{ty:TypeId}{cap:Nat}{cs:List Value}(slots:List Nat)(hr:fU rs id=some ⟨some b,cells,ty,cap⟩)(hcs:iZ rs cells=some cs)(hrs:iv (vM b id rs)=some rs')(ns:Go.TR.eL (At b id env) slots=some env')
  (k: ∀F',F.sub F'→e9 F' (some ⟨b,0,none⟩) cs→VS N [] ⟨env',F',rs',nx⟩ G):VS N [] ⟨env,F,rs,nx⟩ G:=by
 intro c a w hs;obtain⟨F',h1,h2,h3⟩:=xV hs hr rfl hcs;rw[fE,aa]at hrs;subst hrs;exact k F' h1 h2 c a w (pH ns h3)
theorem VS.done {G:St→Prop}{st:St}(k:G st):VS N [] st G:=VS.id k
def iB (ids:List Nat):RL→RL
 | []=>[]
 | (m,r)::t=>match ids.contains m with
  | true=>iB ids t
  | false=>(m,r)::iB ids t
theorem vH {ids:List Nat}{rs:RL}{k:Nat}:fU (iB ids rs) k=if k∈ids then none else fU rs k:=by
 induction rs with
 | nil=>simp[iB,fU]
 | cons p rs ih=>
  obtain⟨m,s⟩:=p;simp only[iB];split
  ·rename_i hc;rw[ih,fb];by_cases hk:k=m
   ·subst hk;rw[aZ (by simpa using hc),aZ (by simpa using hc)]
   simp only[aY hk]
  rename_i hc;rw[fb,ih,fb];by_cases hk:k=m
  ·subst hk;rw[aZ rfl,aY (by simpa using hc),aZ rfl]
  simp only[aY hk]
theorem CU {c:Ctx}{env:Env}{F:Hp}{rs rs':RL}{nx:Nat}{a:Act}{w:World}(h:fI c N [] ⟨env,F,rs,nx⟩ a w)(hsub: ∀k r,fU rs' k=some r→fU rs k=some r):fI c N [] ⟨env,F,rs',nx⟩ a w where
 size:=h.size
 defers:=h.defers
 fR:={
  le:=h.fR.le
  own:={
   own:=fun id r hr=>by
    have h1:=h.fR.own.own id r (hsub _ _ hr);cases hb:r.gq with
    | none=>rw[hb]at h1;exact h1
    | some b=>
     rw[hb]at h1;obtain⟨g1,g2,cur,g3,g4,g5⟩:=h1;exact⟨g1,g2,cur,g3,g4,fun j ev x hj hx=>g5 j ev x hj (val_sub hsub hx)⟩
   apart:=fun i j r s b hi hj=>h.fR.own.apart i j r s b (hsub _ _ hi) (hsub _ _ hj) }
  ir:=h.fR.ir
  new:=fun id r b hr=>h.fR.new id r b (hsub _ _ hr)
  jW:=h.fR.jW
  sz:=h.fR.sz
  tp:=h.fR.tp }
 gL:=⟨h.gL.sub,h.gL.kX,fun id r hid hr=>h.gL.succ id r hid (hsub _ _ hr)⟩
 gV:=fun id r hr=>h.gV id r (hsub _ _ hr)
 ids:=h.ids
 env:=fun n e x hg he hx=>h.env n e x hg he (val_sub hsub hx)
 gv:=fun n ch e he=>by simp[rA]at he
theorem VS.iB {env:Env}{F:Hp}{rs rs':RL}{nx:Nat}{G:St→Prop}(ids:List Nat)(hrs:iv (Go.TR.iB ids rs)=some rs')(k:VS N [] ⟨env,F,rs',nx⟩ G):VS N [] ⟨env,F,rs,nx⟩ G:=by
 intro c a w hs;rw[fE,aa]at hrs;subst hrs;exact k c a w (CU hs (fun k r hk=>by
  rw[vH]at hk;split at hk
  ·cases hk
  exact hk))
theorem VS.og {env env':Env}{F:Hp}{rs:RL}{nx:Nat}{G:St→Prop}(s:Nat)(ty:TypeId)(slots:List Nat)(h:lk env s=some (.v (.slice none 0 0)))(ns:Go.TR.eL env slots=some env')(k:VS N [] ⟨(s,.row nx 0 0 0)::env',F,(nx,⟨none,[],ty,0⟩)::rs,nx+1⟩ G):VS N [] ⟨env,F,rs,nx⟩ G:=by
 intro c a w hs;have hne: ∀id r,fU rs id=some r→id≠nx:=fun id r hr=>by have:=(hs.gV id r hr).1;simp only at this;omega
 have h0:=hs.env s _ _ rfl h rfl;refine k c a w ?_;exact {
  size:=hs.size
  defers:=hs.defers
  fR:={
   le:=hs.fR.le
   own:={
    own:=fun id r hr=>by
     rw[fb]at hr;split at hr
     ·simp only[aa]at hr;subst hr;exact⟨.inl rfl,rfl⟩
     have h1:=hs.fR.own.own id r hr;cases hb:r.gq with
     | none=>rw[hb]at h1;exact h1
     | some b=>
      rw[hb]at h1;obtain⟨g1,g2,cur,g3,g4,g5⟩:=h1;refine⟨g1,g2,cur,g3,g4,fun j ev x hj hx=>?_⟩;rw[kI ((hs.gV id r hr).2 ev (cW hj))]at hx;exact g5 j ev x hj hx
    apart:=fun i j r s b hi hj hb hs'=>by
     rw[fb]at hi hj;split at hi
     ·simp only[aa]at hi;subst hi;cases hb
     split at hj
     ·simp only[aa]at hj;subst hj;cases hs'
     exact hs.fR.own.apart i j r s b hi hj hb hs' }
   ir:=hs.fR.ir
   new:=fun id r b hr hb=>by
    rw[fb]at hr;split at hr
    ·simp only[aa]at hr;subst hr;rcases hb with hb | ⟨_,_,hb⟩<;>cases hb
    exact hs.fR.new id r b hr hb
   jW:=hs.fR.jW
   sz:=hs.fR.sz
   tp:=hs.fR.tp }
  gL:=hs.gL.cons _
  gV:=fun id r hr=>by
   simp only[fb]at hr;split at hr
   ·simp only[aa]at hr;subst hr;exact⟨by simp only;omega,fun e he=>by cases he⟩
   obtain⟨h1,h2⟩:=hs.gV id r hr;exact⟨by simp only at h1 ⊢;omega,fun e he=>(h2 e he).mono (dp _)⟩
  ids:=fun n e he=>by
   simp only[kU]at he;split at he
   ·simp only[aa]at he;subst he;simp only[EV.lt];omega
   exact (hs.ids n e (rj ns n e he)).mono (dp _)
  env:=fun n e x hg he hx=>by
   simp only[kU]at he;split at he
   ·rename_i hn;subst hn;simp only[aa]at he;subst he;simp only[EV.val,fb,dF,dA,aa]at hx;rw[h0,hx]
   have hl:=rj ns n e he;rw[kI (hs.ids n e hl)]at hx;exact hs.env n e x rfl hl hx
  gv:=fun n ch e he=>by simp[rA]at he }
theorem VS.trans {G:St→Prop}{st:St}(h:VS N [] st (fun st'=>VS N [] st' G)):VS N [] st G:=fun c a w hs=>by
 obtain⟨st',h1,h2⟩:=h c a w hs;exact h2 c a w h1
end
section
variable {P:Program} {tb:Tb} {N:Nat} {KK:Exit→St→Prop} {st:St}
def fh {α:Type}(N kn:Nat)(Inv:α→Prop)(T:α→St)(μ:α→Nat)(i:α)(K:Exit→St→Prop):Exit→St→Prop
 | .normal,st=>qQ (min kn (T i).nx) N [] st fun st'=>∃j,Inv j∧st'=T j∧μ j<μ i
 | .ret,st=>VS N [] st (K .ret)
 | .exit j,st=>VS N [] st (K (.exit j))
 | .goto j,st=>K (.goto j) st
 | .panic c,st=>K (.panic c) st
 | .outgrown,st=>K .outgrown st
theorem J0 {α:Type}(kn:Nat)(Inv:α→Prop)(T:α→St)(μ:α→Nat)(i:α)(hi:Inv i)(K:Exit→St→Prop):fD N kn (fun s:{ a // Inv a }=>T s.1) (fun s=>μ s.1) ⟨i,hi⟩ K=fh N kn Inv T μ i K:=by
 funext e st;cases e<;>simp only[fD,fh]
 congr 1;funext st';exact propext ⟨fun⟨j,h1,h2⟩=>⟨j.1,j.2,h1,h2⟩,fun⟨j,h0,h1,h2⟩=>⟨⟨j,h0⟩,h1,h2⟩⟩
theorem eY {x:Code}{α:Type}(Inv:α→Prop)(T:α→St)(μ:α→Nat)(i:α)(hi:Inv i)(h0:VS N [] st fun st'=>st'=T i)(hr: ∀i,Inv i→vc P tb N x (fh N st.nx Inv T μ i KK) (T i)):vc P tb N (.loop x) KK st:=
 ⟨{ a // Inv a },fun s=>T s.1,fun s=>μ s.1,fun c a w hs=>by
  obtain⟨st',h1,h2⟩:=h0 c a w hs;exact⟨st',h1,⟨i,hi⟩,h2⟩,fun⟨i,hi⟩=>by rw[J0];exact hr i hi⟩
theorem Ic {x:Code}{α β:Type}(id:Nat)(Inv:α→Prop)(T:α→St)(μ:α→Nat)(i:α)(JP:β→Prop)(J:β→St)(hi:Inv i)(h0:VS N [] st fun st'=>st'=T i)(hJ: ∀b,JP b→KK (.exit id) (J b))
  (hr: ∀i,Inv i→∀vb:Exit→St→Prop,(∀st',(qQ (min st.nx (T i).nx) N [] st' fun st'=>∃j,Inv j∧st'=T j∧μ j<μ i)→vb .normal st')→(∀st,(VS N [] st fun st'=>∃b,JP b∧st'=J b)→vb (.exit id) st)→(∀st,KK .ret st→vb .ret st)→vc P tb N x vb (T i)):vc P tb N (.loop x) KK st:=
 eY Inv T μ i hi h0 fun i hi=>hr i hi _ (fun st h=>h) (fun st h c a w hs=>by
  obtain⟨st',h1,b,h2,rfl⟩:=h c a w hs;exact⟨_,h1,hJ b h2⟩) (fun st h=>VS.id h)
theorem fp {α:Type}{kn:Nat}{Inv:α→Prop}{T:α→St}{μ:α→Nat}{i:α}(j:α)(hj:Inv j)(hm:μ j<μ i)(h:VS N [] st fun st'=>st'=T j):fh N kn Inv T μ i KK .normal st:=fun c a w _ hs=>by
 obtain⟨st',h1,h2⟩:=h c a w hs;exact⟨st',h1,j,hj,h2,hm⟩
theorem qQ.of {k:Nat}{G:St→Prop}(h:VS N [] st G):qQ k N [] st G:=fun c a w _ hs=>h c a w hs
def WY (n:Nat):EV→Bool
 | .v _=>true
 | .loc id _=>Nat.blt id n
 | .row id _ _ _=>Nat.blt id n
def D2 (n:Nat):Env→Bool
 | []=>true
 | (_,e)::t=>WY n e&&D2 n t
def MQ (n:Nat):RL→Prop
 | []=>True
 | (id,r)::t=>(id<n∧ ∀e∈r.cells,e.lt n)∧MQ n t
theorem NS {n:Nat}{e:EV}(h:WY n e=true):e.lt n:=by
 cases e<;>simp only[WY,Nat.blt_eq]at h<;>first | trivial | exact h
theorem En {n:Nat}: ∀{env:Env},D2 n env=true→∀k e,lk env k=some e→e.lt n
 | [],_,k,e,h=>by simp[lk]at h
 | (m,x)::t,h,k,e,he=>by
  simp only[D2,aL]at h;rw[kU]at he;split at he
  ·simp only[aa]at he;subst he;exact NS h.1
  exact En h.2 k e he
theorem uj {n:Nat}: ∀{rs:RL},MQ n rs→∀id r,fU rs id=some r→id<n∧ ∀e∈r.cells,e.lt n
 | [],_,id,r,h=>by simp[fU]at h
 | (m,x)::t,h,id,r,hr=>by
  rw[fb]at hr;split at hr
  ·rename_i hid;simp only[aa]at hr;subst hid hr;exact h.1
  exact uj h.2 id r hr
theorem qQ.clean {k:Nat}{env env':Env}{F:Hp}{rs rs':RL}{nx:Nat}{G:St→Prop}(drop:List Nat)(slots:List Nat)(hrs:iv (Go.TR.iB drop rs)=some rs')(ns:Go.TR.eL env slots=some env')(h1:D2 k env'=true)(h2:MQ k rs')(kk:G ⟨env',F,rs',k⟩):qQ k N [] ⟨env,F,rs,nx⟩ G:=by
 intro c a w hk hs;rw[fE,aa]at hrs;subst hrs;have hs1:=pH ns (CU (rs':=Go.TR.iB drop rs) hs (fun k r hk=>by
  rw[vH]at hk;split at hk
  ·cases hk
  exact hk))
 exact⟨⟨env',F,Go.TR.iB drop rs,k⟩,{
  size:=hs1.size
  defers:=hs1.defers
  fR:=hs1.fR
  env:=hs1.env
  gL:=⟨hs1.gL.sub,hk,hs1.gL.succ⟩
  gV:=uj h2
  ids:=En h1
  gv:=fun n ch e he=>by simp[rA]at he },kk⟩
theorem iK {α:Type}{kn:Nat}{Inv:α→Prop}{T:α→St}{μ:α→Nat}{i:α}{env env':Env}{F:Hp}{rs rs':RL}{nx k:Nat}(j:α)(drop:List Nat)(slots:List Nat)(hj:Inv j)(hm:μ j<μ i)(hrs:iv (Go.TR.iB drop rs)=some rs')(ns:Go.TR.eL env slots=some env')(hk:(T i).nx=k)(h1:D2 k env'=true)(h2:MQ k rs')(h:(⟨env',F,rs',k⟩:St)=T j):fh N kn Inv T μ i KK .normal ⟨env,F,rs,nx⟩:=by
 subst hk;exact fun c a w hk hs=>qQ.clean drop slots hrs ns h1 h2 ⟨j,hj,h,hm⟩ c a w (dq hk (Nat.min_le_right _ _)) hs
theorem yH {α:Type}{kn:Nat}{Inv:α→Prop}{T:α→St}{μ:α→Nat}{i:α}(k:KK .ret st):fh N kn Inv T μ i KK .ret st:=VS.id k
theorem ze {α:Type}{kn:Nat}{Inv:α→Prop}{T:α→St}{μ:α→Nat}{i:α}{id:Nat}(k:KK (.exit id) st):fh N kn Inv T μ i KK (.exit id) st:=VS.id k
end
end
section
open Go
section
variable {P:Program} {tb:Tb} {N:Nat} {st:St} {KK:Exit→St→Prop}
end
end
section
open Go
section
variable {P:Program} {tb:Tb} {N:Nat} {all rest:List Oper} {K:fe→St→Prop} {st:St}
theorem fM {c:Ctx}{a:Act}{w:World}(h:fI c N [] st a w){x:Operand}{e:EV}(hx:gO st.rs [] st.env [] x=some e):e.val st.rs=some (a.eval x):=gT h (iU a) _ _ hx
def RJ (op:BinOp):Option EV→Option EV→Option Bool
 | some (.v (.pointer none)),some (.v (.pointer none))=>match op with
  | .eql=>some true
  | .neq=>some false
  | _=>none
 | some (.loc _ _),some (.v (.pointer none))=>match op with
  | .eql=>some false
  | .neq=>some true
  | _=>none
 | some (.loc i o),some (.loc j o')=>match Nat.beq i j&&Nat.beq o o' with
  | true=>(match op with
   | .eql=>some true
   | .neq=>some false
   | _=>none)
  | false=>none
 | _,_=>none
theorem OY {t e:TypeId}{j:TypeInfo}(hp:P.underlying t=some (.pointer e))(hte:P.info? e=some j)(w:World):
  (∀a:Option Addr,(binOp .eql t (.pointer a) (.pointer none)).run P w= .ok (.bool a.isNone) w)∧(∀a:Option Addr,(binOp .neq t (.pointer a) (.pointer none)).run P w= .ok (.bool (!a.isNone)) w)∧
  (∀a:Addr,(binOp .eql t (.pointer (some a)) (.pointer (some a))).run P w= .ok (.bool true) w)∧(∀a:Addr,(binOp .neq t (.pointer (some a)) (.pointer (some a))).run P w= .ok (.bool false) w):=by
 have h: ∀(d:Nat) (a:Option Addr),(Op.equalIn (d+1) t (.pointer a) (.pointer none)).run P w= .ok a.isNone w:=fun d a=>by
  cases a<;>simp[Op.equalIn,run_underlying hp]
 have h2: ∀(d:Nat) (a:Addr),(Op.equalIn (d+1) t (.pointer (some a)) (.pointer (some a))).run P w= .ok true w:=fun d a=>by
  simp[Op.equalIn,run_underlying hp,sizeOf,typeInfo,hte,run_sameAddr_same]
 refine⟨fun a=>?_,fun a=>?_,fun a=>?_,fun a=>?_⟩<;>simp only[binOp]<;>simp[Op.equal,Op.maxDepth,h 9999,h2 9999]
theorem q8 {d:Nat}{op:BinOp}{t u e:TypeId}{ti:TI}{x y:Operand}{ty:TypeId}{pos:String}{af:Array Edge}{env:Env}{F:Hp}{rs:RL}{nx:Nat}{b:Bool}(htb:g9 P tb)(ht:tk tb t=some (.pointer e))(hi:tb e=some ti)
  (h:RJ op (gO rs [] env [] x) (gO rs [] env [] y)=some b) (hd:Nat.blt d N=true)
  (k:dW P tb N false all rest K [] ⟨(d,.v (.bool b))::env,F,rs,nx⟩):dW P tb N false all (⟨some d,.binOp op t x y u,ty,pos,af,none⟩::rest) K [] ⟨env,F,rs,nx⟩:=by
 obtain⟨YQ,hu,hf⟩:=gR htb ht;simp only[TK.fits]at hf;subst hf;obtain⟨info,hinfo,_⟩:=(htb e ti hi).info;refine rK (.v (.bool b)) hd (fun c a w o hs ho=>⟨.bool b,w,?_,hs,rfl⟩) k;obtain⟨h1,h2,h3,h4⟩:=OY (P:=P) hu hinfo w;have run:(binOp op t (a.eval x) (a.eval y)).run P w= .ok (.bool b) w:=by
  unfold RJ at h;split at h
  ·rename_i hx hy;have ex:=fM hs hx;have ey:=fM hs hy;simp only[EV.val,aa]at ex ey;rw[←ex,←ey];split at h<;>simp at h<;>subst h
   ·exact h1 none
   exact h2 none
  ·rename_i i o hx hy;have ex:=fM hs hx;have ey:=fM hs hy;simp only[EV.val,aa]at ey;rw[←ey];simp only[EV.val]at ex;split at ex
   ·split at ex
    ·simp only[aa]at ex;rw[←ex];split at h<;>simp at h<;>subst h
     ·exact h1 (some _)
     exact h2 (some _)
    cases ex
   cases ex
  ·rename_i i o j o' hx hy;split at h
   ·rename_i hij;simp only[aL,Nat.beq_eq]at hij;obtain⟨rfl,rfl⟩:=hij;have ex:=fM hs hx;have ey:=fM hs hy;rw[ex]at ey;simp only[aa]at ey;rw[←ey];simp only[EV.val]at ex;split at ex
    ·split at ex
     ·simp only[aa]at ex;rw[←ex];split at h<;>simp at h<;>subst h
      ·exact h3 _
      exact h4 _
     cases ex
    cases ex
   cases h
  cases h
 have S9: ∀e:EV,(∃p,e= .v (.pointer p))∨(∃i o,e= .loc i o)→∀v,e.val rs=some v→∃p,v= .pointer p:=by
  rintro e (⟨p,rfl⟩ | ⟨i,o,rfl⟩) v hv
  ·simp only[EV.val,aa]at hv;exact⟨p,hv.symm⟩
  simp only[EV.val]at hv;split at hv
  ·split at hv
   ·simp only[aa]at hv;exact⟨_,hv.symm⟩
   cases hv
  cases hv
 have hg:(eqGuard op t x y (a.eval x) (a.eval y)).run P w= .ok () w:=by
  have:(∃p,a.eval x= .pointer p)∧ ∃q,a.eval y= .pointer q:=by
   unfold RJ at h;split at h
   ·rename_i hx hy;exact⟨S9 _ (.inl ⟨_,rfl⟩) _ (fM hs hx),S9 _ (.inl ⟨_,rfl⟩) _ (fM hs hy)⟩
   ·rename_i i o hx hy;exact⟨S9 _ (.inr ⟨_,_,rfl⟩) _ (fM hs hx),S9 _ (.inl ⟨_,rfl⟩) _ (fM hs hy)⟩
   ·rename_i i o j o' hx hy;exact⟨S9 _ (.inr ⟨_,_,rfl⟩) _ (fM hs hx),S9 _ (.inr ⟨_,_,rfl⟩) _ (fM hs hy)⟩
   cases h
  obtain⟨⟨p,e1⟩,q,e2⟩:=this;rw[e1,e2];unfold eqGuard;cases op<;>rfl
 simp only[execOp,ho,run_bind,hg,run,run_pure]
theorem Ba {c:Ctx}{a:Act}{w:World}(h:fI c N [] st a w){id o:Nat}{v:Value}(hv:(EV.loc id o).val st.rs=some v): ∃r b,fU st.rs id=some r∧r.gq=some b∧v= .pointer (some ⟨b,o,none⟩)∧ ∃cur:Array Value,w.heap[b]? =some (.cells cur r.ty (0,0))∧cur.size=r.cap:=by
 simp only[EV.val]at hv;split at hv
 ·rename_i r hr;split at hv
  ·rename_i b hb;simp only[aa]at hv;have ho:=h.fR.own.own id r hr;rw[hb]at ho;obtain⟨_,_,cur,h1,h2,_⟩:=ho;exact⟨r,b,hr,hb,hv.symm,cur,h1,h2⟩
  cases hv
 cases hv
theorem xH {w:World}{b:Nat}{cur:Array Value}{ty:TypeId}(h:w.heap[b]? =some (.cells cur ty (0,0))):w.shape? b=some (ty,cur.size):=by
 simp[World.shape?,h]
theorem Gs {d:Nat}{s t e:TypeId}{ti:TI}{x:Operand}{ty:TypeId}{pos:String}{af:Array Edge}{env:Env}{F:Hp}{rs:RL}{nx id:Nat}{r:kg}(htb:g9 P tb)(hs:tk tb s=some (.pointer e))(ht:P.underlying t=some .unsafePointer)(hi:tb e=some ti)(hz:Nat.blt 0 ti.size=true)
  (hx:gO rs [] env [] x=some (.loc id 0)) (hr:fU rs id=some r) (hc:Nat.blt 0 r.cap=true) (hd:Nat.blt d N=true)
  (k:dW P tb N false all rest K [] ⟨(d,.loc id 0)::env,F,rs,nx⟩):dW P tb N false all (⟨some d,.convert s t x,ty,pos,af,none⟩::rest) K [] ⟨env,F,rs,nx⟩:=by
 obtain⟨YQ,hu,hf⟩:=gR htb hs;simp only[TK.fits]at hf;subst hf;obtain⟨info,hinfo,hsz,_⟩:=(htb e ti hi).info;refine rK (.loc id 0) hd (fun c a w o hs ho=>?_) k;have ex:=fM hs hx;obtain⟨r',b,h1,h2,h3,cur,h4,h5⟩:=Ba hs ex;simp only at h1 ex;rw[hr,aa]at h1;subst h1;refine⟨a.eval x,w,?_,hs,ex⟩;have hz':0<ti.size:=by simpa using hz
 have hc':0<r.cap:=by simpa using hc
 have:=Lib.run_to_unsafe (P:=P) w ⟨b,0,none⟩ hu ht hinfo (by omega) (xH h4) (by simpa [h5] using hc');rw[←h3]at this;simp only[execOp,ho,run_bind,this,run_pure]
theorem Dp {d:Nat}{s t e:TypeId}{ti:TI}{x:Operand}{ty:TypeId}{pos:String}{af:Array Edge}{env:Env}{F:Hp}{rs:RL}{nx id:Nat}{r:kg}(htb:g9 P tb)(hs:P.underlying s=some .unsafePointer)(ht:tk tb t=some (.pointer e))(hi:tb e=some ti)
  (hx:gO rs [] env [] x=some (.loc id 0)) (hr:fU rs id=some r) (hl:liesAt P P.depth r.ty (r.cap / P.cellsOf r.ty) 0 e 1=true) (hd:Nat.blt d N=true)
  (k:dW P tb N false all rest K [] ⟨(d,.loc id 0)::env,F,rs,nx⟩):dW P tb N false all (⟨some d,.convert s t x,ty,pos,af,none⟩::rest) K [] ⟨env,F,rs,nx⟩:=by
 obtain⟨YQ,hu,hf⟩:=gR htb ht;simp only[TK.fits]at hf;subst hf;obtain⟨info,hinfo,_⟩:=(htb e ti hi).info;refine rK (.loc id 0) hd (fun c a w o hs' ho=>?_) k;have ex:=fM hs' hx;obtain⟨r',b,h1,h2,h3,cur,h4,h5⟩:=Ba hs' ex;simp only at h1 ex;rw[hr,aa]at h1;subst h1;refine⟨a.eval x,w,?_,hs',ex⟩;have:=Lib.run_from_unsafe (P:=P) w ⟨b,0,none⟩ hs hu hinfo (xH h4) (by rw[h5];exact hl);rw[←h3]at this;simp only[execOp,ho,run_bind,this,run_pure]
theorem Rl {d:Nat}{f:Nat}{x:Operand}{ts:Array TypeId}{fn:Func}{ty:TypeId}{pos:String}{af:Array Edge}{e:EV}{env:Env}{F:Hp}{rs:RL}{nx:Nat}(hf:P.funcs[f]? =some fn)(hname:(fn.name== "runtime.NumGoroutine")=false)
  (hb:fn.body.isNone=true) (hn:Extern.findNext fn=none) (he:Extern.find fn=some Extern.AbiNoEscape.same) (hx:gO rs [] env [] x=some e) (hd:Nat.blt d N=true)
  (k:dW P tb N false all rest K [] ⟨(d,e)::env,F,rs,nx⟩):dW P tb N false all (⟨some d,.call ⟨.value (.func f),#[x],ts⟩,ty,pos,af,none⟩::rest) K [] ⟨env,F,rs,nx⟩:=by
 refine rK e hd (fun c a w o hs ho=>⟨a.eval x,w,?_,hs,fM hs hx⟩) k;have h1:a.eval (.func f)= .func (.func f) #[] #[]:=rfl;have h2:=run_callFunc_extern hf hname hb hn he #[a.eval x] w;rw[Lib.run_noEscape]at h2;simp only[Result.andThen]at h2;simp[execOp,ho,resolve,h1,Deferred.ofValue,invoke,h2]
theorem OJ {c:Ctx}{g:fe}{a:Act}{w w':World}{b:Nat}(h:fI c N g st a w)(hp:ic [b] w w')(hF:st.F b=none)(hb:c.wE.heap.size≤b)(hrs: ∀k r,fU st.rs k=some r→r.gq≠some b):fI c N g st a w':=by
 refine { h with fR:=?_ };exact {
  le:=h.fR.le.ir hp (fun x hx=>by rw[aB]at hx;subst hx;exact hF)
  own:={
   own:=fun id r hr=>by
    have h1:=h.fR.own.own id r hr;cases hk:r.gq with
    | none=>rw[hk]at h1;exact h1
    | some b'=>
     rw[hk]at h1;obtain⟨g1,g2,cur,g3,g4⟩:=h1;have hne:b'≠b:=fun e=>hrs id r hr (by rw[hk,e]);exact⟨g1,g2,cur,(hp.block b' (gM g3) (by simpa using hne)).trans g3,g4⟩
   apart:=h.fR.own.apart }
  ir:=h.fR.ir.trans' hp (fun y hy=>by rw[aB]at hy;subst hy;exact .inr hb)
  new:=h.fR.new
  jW:=h.fR.jW
  sz:=dq h.fR.sz hp.size
  tp:=h.fR.tp }
theorem DH (w:World)(b n:Nat):ic [b] w (w.freeze ⟨b,0,none⟩ n):=by
 unfold World.freeze;split
 ·exact ic.refl _ _
 refine⟨rfl,rfl,rfl,by simp,fun k hk hx=>?_⟩;have:b≠k:=fun e=>hx (by simp[e]);simp[Array.getElem?_modify,this]
theorem Pb {d:Nat}{x y:Operand}{t1 t2:TypeId}{ty:TypeId}{pos:String}{af:Array Edge}{env:Env}{F:Hp}{rs:RL}{nx:Nat}(hx:gO rs [] env [] x=some (.v (.pointer none)))(hy:gO rs [] env [] y=some (.v (.int .i64 0)))(hd:Nat.blt d N=true)
  (k:dW P tb N false all rest K [] ⟨(d,.v (S []))::env,F,rs,nx⟩):dW P tb N false all (⟨some d,.call ⟨.builtin .unsafeString,#[x,y],#[t1,t2]⟩,ty,pos,af,none⟩::rest) K [] ⟨env,F,rs,nx⟩:=by
 refine rK (.v (S [])) hd (fun c' a w o hs ho=>?_) k;have ex:=fM hs hx;have ey:=fM hs hy;simp only[EV.val,aa]at ex ey;refine⟨S [],w,?_,hs,rfl⟩;have:=Lib.run_unsafeString_none (P:=P) w t1 t2 o.type none;rw[ex,ey]at this;simp[execOp,ho,resolve,invoke,builtin,this];rfl
theorem RF {d:Nat}{x y:Operand}{t1 t2:TypeId}{ty:TypeId}{pos:String}{af:Array Edge}{env:Env}{F:Hp}{rs rs':RL}{nx id m b cap:Nat}{cells:List EV}{xG:TypeId}(l:List UInt8)(hp:P.underlying t1=some (.pointer xG))(h1:P.cellsOf xG=1)(hx:gO rs [] env [] x=some (.loc id 0))(hr:fU rs id=some ⟨some b,cells,xG,cap⟩)(hy:gO rs [] env [] y=some (.v (.int .i64 (m:Nat))))(hm:m=l.length)(hd:Nat.blt d N=true)
  (hrs:iv (uL rs id)=some rs') (h0:l≠[]) (hl:l.length≤9223372036854775807) (hcl:l.length≤cells.length) (hc:cells.take l.length=l.map fun b=>.v (.int .u8 (b.toNat:Int)))
  (k:dW P tb N false all rest K [] ⟨(d,.v (S l))::env,F,rs',nx⟩):dW P tb N false all (⟨some d,.call ⟨.builtin .unsafeString,#[x,y],#[t1,t2]⟩,ty,pos,af,none⟩::rest) K [] ⟨env,F,rs,nx⟩:=by
 rw[fE,aa]at hrs;subst hrs hm;refine rK (.v (S l)) hd (fun c' a w o hs ho=>?_) k;have ex:=fM hs hx;have ey:=fM hs hy;simp only[EV.val,hr,aa]at ex ey;have ho':=hs.fR.own.own id _ hr;obtain⟨g1,g2,cur,g3,g4,g5⟩:=ho';simp only at g1 g2 g4 g5;refine⟨S l,w.freeze ⟨b,0,none⟩ l.length,?_,OJ (b:=b) (CU hs fun k r hk=>?_) (DH w b _) g1 (hs.fR.new id _ b hr (.inl rfl)) (fun k r hk hb=>?_),rfl⟩
 ·have:=Lib.run_unsafeString_row (P:=P) w t1 t2 o.type xG hp h1 b cur.size (xH g3) l h0 (by omega) hl (fun j u hj=>by
   have hlt:j<l.length:=(cC.1 hj).1;have e2:cells[j]? =some (.v (.int .u8 (u.toNat:Int))):=by
    have:=a8 (fun q=>q[j]?) hc;simp only[cE,hlt,dF,aI,hj,aJ]at this;exact this
   have e3:=g5 j _ _ e2 rfl;rw[mw];simp only[World.cell?,g3,aP,Option.isSome_none,bq,dE];exact e3)
  rw[ex,ey]at this;simp[execOp,ho,resolve,invoke,builtin,this];rfl
 ·rw[o9]at hk;split at hk
  ·cases hk
  exact hk
 simp only at hk;rw[o9]at hk;split at hk
 ·cases hk
 rename_i hne;exact hne (hs.fR.own.apart _ _ _ _ _ hk hr hb rfl)
end
end
section
open Go
section
variable {P:Program} {tb:Tb} {N:Nat} {KK:Exit→St→Prop} {st:St}
def J1 (ρ:List (Nat×Nat))(n:Nat):Option Nat:=
 match ρ with
 | []=>none
 | (m,k)::t=>match Nat.beq n m with
  | true=>some k
  | false=>J1 t n
def pZ (ρ:List (Nat×Nat)):EV→Option EV
 | .v x=>some (.v x)
 | .loc id o=>match J1 ρ id with
  | some k=>some (.loc k o)
  | none=>none
 | .row id o n c=>match J1 ρ id with
  | some k=>some (.row k o n c)
  | none=>none
def sD (ρ:List (Nat×Nat)):List EV→Option (List EV)
 | []=>some []
 | e::t=>match pZ ρ e,sD ρ t with
  | some e',some t'=>some (e'::t')
  | _,_=>none
def qf (ρ:List (Nat×Nat))(env:Env):List Nat→Option Env
 | []=>some []
 | n::t=>match lk env n with
  | some e=>(match pZ ρ e,qf ρ env t with
   | some e',some l=>some ((n,e')::l)
   | _,_=>none)
  | none=>none
def Sj (ρ:List (Nat×Nat))(r r':kg):Prop:=r'.gq=r.gq∧r'.ty=r.ty∧r'.cap=r.cap∧((r'.cells=r.cells∧ ∀e∈r.cells,∃x,e= .v x)∨sD ρ r.cells=some r'.cells)
def lR (ρ:List (Nat×Nat))(rs:RL):List (Nat×Nat)→RL→Prop
 | [],[]=>True
 | (i,j)::t,(j',r')::rs'=>j'=j∧(∃r,fU rs i=some r∧Sj ρ r r')∧lR ρ rs t rs'
 | _,_=>False
theorem dM {ρ:List (Nat×Nat)}{rs rs':RL}{i j:Nat}{t:List (Nat×Nat)}{r':kg}{l:List Value}(h:fU rs i=some r')(hc:r'.cells=l.map EV.v)(k:lR ρ rs t rs'):lR ρ rs ((i,j)::t) ((j,r')::rs'):=
 ⟨rfl,⟨r',h,rfl,rfl,rfl,.inl ⟨rfl,fun e he=>by
  rw[hc]at he;obtain⟨x,_,rfl⟩:=aG.1 he;exact⟨x,rfl⟩⟩⟩,k⟩
theorem dX {ρ:List (Nat×Nat)}{rs rs':RL}{i j:Nat}{t:List (Nat×Nat)}{r':kg}(h:((fU rs i).map fun r=>(r.gq,r.ty,r.cap,sD ρ r.cells))=some (r'.gq,r'.ty,r'.cap,some r'.cells))(k:lR ρ rs t rs'):lR ρ rs ((i,j)::t) ((j,r')::rs'):=by
 obtain⟨r,h1,h2⟩:=aS.1 h;simp only[aC]at h2;exact⟨rfl,⟨r,h1,h2.1.symm,h2.2.1.symm,h2.2.2.1.symm,.inr h2.2.2.2⟩,k⟩
theorem fi {ρ:List (Nat×Nat)}{rs rs':RL}{i j:Nat}{t:List (Nat×Nat)}{r':kg}(h: ∃r,fU rs i=some r∧Sj ρ r r')(k:lR ρ rs t rs'):lR ρ rs ((i,j)::t) ((j,r')::rs'):=⟨rfl,h,k⟩
theorem fz (l:List Value): ∀e∈l.map EV.v,∃x,e= .v x:=fun e he=>by
 obtain⟨x,_,rfl⟩:=aG.1 he;exact⟨x,rfl⟩
theorem lR.lk {ρ:List (Nat×Nat)}{rs:RL}: ∀{t:List (Nat×Nat)} {rs':RL},lR ρ rs t rs'→∀j r',fU rs' j=some r'→∃i r,(i,j)∈t∧fU rs i=some r∧Sj ρ r r'
 | [],[],_,j,r',h=>by simp[fU]at h
 | (i,j0)::t,(j1,r1)::rs',h,j,r',hr=>by
  obtain⟨rfl,⟨r,h1,h2⟩,h3⟩:=h;rw[fb]at hr;split at hr
  ·rename_i hj;simp only[aa]at hr;subst hj hr;exact⟨i,r,cT,h1,h2⟩
  obtain⟨i',r2,g1,g2⟩:=h3.lk j r' hr;exact⟨i',r2,cR _ g1,g2⟩
 | [],_::_,h,_,_,_=>h.elim
 | _::_,[],h,_,_,_=>h.elim
def o8:List (Nat×Nat)→List Nat→Bool
 | [],_=>true
 | (i,_)::t,seen=> !(seen.contains i)&&o8 t (i::seen)
def px:List (Nat×Nat)→List Nat→Bool
 | [],_=>true
 | (_,j)::t,seen=> !(seen.contains j)&&px t (j::seen)
theorem IV: ∀{l:List (Nat×Nat)}{seen:List Nat},o8 l seen=true→(l.map (·.1)).Nodup∧ ∀x∈l,x.1 ∉ seen
 | [],_,_=>⟨by simp,by simp⟩
 | (i,j)::t,seen,h=>by
  simp only[o8,aL,bz,List.contains_eq_mem,aU]at h;obtain⟨h1,h2⟩:=IV h.2;refine⟨?_,fun x hx=>?_⟩
  ·simp only[a9,c8];refine⟨fun hm=>?_,h1⟩;obtain⟨y,hy,e⟩:=aG.1 hm;exact h2 y hy (by rw[e];exact cT)
  rcases aT.1 hx with rfl | hx
  ·exact h.1
  exact fun hs=>h2 x hx (cR _ hs)
theorem BM: ∀{l:List (Nat×Nat)}{seen:List Nat},px l seen=true→(l.map (·.2)).Nodup∧ ∀x∈l,x.2 ∉ seen
 | [],_,_=>⟨by simp,by simp⟩
 | (i,j)::t,seen,h=>by
  simp only[px,aL,bz,List.contains_eq_mem,aU]at h;obtain⟨h1,h2⟩:=BM h.2;refine⟨?_,fun x hx=>?_⟩
  ·simp only[a9,c8];refine⟨fun hm=>?_,h1⟩;obtain⟨y,hy,e⟩:=aG.1 hm;exact h2 y hy (by rw[e];exact cT)
  rcases aT.1 hx with rfl | hx
  ·exact h.1
  exact fun hs=>h2 x hx (cR _ hs)
theorem ur {ρ:List (Nat×Nat)}{n k:Nat}(h:J1 ρ n=some k):(n,k)∈ρ:=by
 induction ρ with
 | nil=>simp[J1]at h
 | cons p t ih=>
  obtain⟨m,q⟩:=p;simp only[J1]at h;split at h
  ·rename_i hb;simp only[aa]at h;rw[dj hb,h];exact cT
  exact cR _ (ih h)
theorem KA {l:List (Nat×Nat)}(h:(l.map (·.1)).Nodup){i j j':Nat}(h1:(i,j)∈l)(h2:(i,j')∈l):j=j':=by
 induction l with
 | nil=>simp at h1
 | cons p t ih=>
  simp only[a9,c8]at h;rcases aT.1 h1 with e1 | h1<;>rcases aT.1 h2 with e2 | h2
  ·rw[←e2]at e1;cases e1;rfl
  ·exact absurd (aG.2 ⟨_,h2,by rw[←e1]⟩) h.1
  ·exact absurd (aG.2 ⟨_,h1,by rw[←e2]⟩) h.1
  exact ih h.2 h1 h2
theorem Bd {l:List (Nat×Nat)}(h:(l.map (·.2)).Nodup){i i' j:Nat}(h1:(i,j)∈l)(h2:(i',j)∈l):i=i':=by
 induction l with
 | nil=>simp at h1
 | cons p t ih=>
  simp only[a9,c8]at h;rcases aT.1 h1 with e1 | h1<;>rcases aT.1 h2 with e2 | h2
  ·rw[←e2]at e1;cases e1;rfl
  ·exact absurd (aG.2 ⟨_,h2,by rw[←e1]⟩) h.1
  ·exact absurd (aG.2 ⟨_,h1,by rw[←e2]⟩) h.1
  exact ih h.2 h1 h2
def vm (k nx:Nat):List (Nat×Nat)→Bool
 | []=>true
 | (i,j)::t=>Nat.blt j nx&&(Nat.beq i j||Nat.ble k j)&&vm k nx t
theorem FM {k nx:Nat}: ∀{l:List (Nat×Nat)},vm k nx l=true→∀i j,(i,j)∈l→j<nx∧(i=j∨k≤j)
 | [],_,i,j,h=>by simp at h
 | (a,b)::t,h,i,j,hm=>by
  simp only[vm,aL,bD,Nat.blt_eq,Nat.beq_eq,Nat.ble_eq]at h;rcases aT.1 hm with e | hm
  ·cases e;exact h.1
  exact FM h.2 i j hm
theorem Im {ρ:List (Nat×Nat)}{rs rs':RL}(hnd:(ρ.map (·.2)).Nodup)(h:lR ρ rs ρ rs'){e e':EV}(he:pZ ρ e=some e'){x:Value}(hx:e'.val rs'=some x):e.val rs=some x:=by
 cases e with
 | v y=>simp only[pZ,aa]at he;subst he;exact hx
 | loc id o=>
  simp only[pZ]at he;split at he
  ·rename_i k hk;simp only[aa]at he;subst he;simp only[EV.val]at hx ⊢;cases hr:fU rs' k with
   | none=>simp[hr]at hx
   | some r'=>
    obtain⟨i,r,h1,h2,h3,_⟩:=h.lk k r' hr;have:i=id:=Bd hnd h1 (ur hk);subst this;rw[hr]at hx;rw[h2];simp only[h3]at hx ⊢;exact hx
  cases he
 | row id o n c=>
  simp only[pZ]at he;split at he
  ·rename_i k hk;simp only[aa]at he;subst he;simp only[EV.val]at hx ⊢;cases hr:fU rs' k with
   | none=>simp[hr]at hx
   | some r'=>
    obtain⟨i,r,h1,h2,h3,_⟩:=h.lk k r' hr;have:i=id:=Bd hnd h1 (ur hk);subst this;rw[hr]at hx;rw[h2];simp only[h3]at hx ⊢;exact hx
  cases he
theorem oq {ρ:List (Nat×Nat)}: ∀{l l':List EV},sD ρ l=some l'→l'.length=l.length∧ ∀(j:Nat) (e':EV),l'[j]? =some e'→∃e,l[j]? =some e∧pZ ρ e=some e'
 | [],l',h=>by simp only[sD,aa]at h;subst h;exact⟨rfl,by simp⟩
 | e::t,l',h=>by
  simp only[sD]at h;split at h
  ·rename_i e1 t1 h1 h2;simp only[aa]at h;subst h;obtain⟨g1,g2⟩:=oq h2;refine⟨by simp[g1],fun j e' hj=>?_⟩;cases j with
   | zero=>simp at hj;subst hj;exact⟨e,rfl,h1⟩
   | succ j=>simpa using g2 j e' (by simpa using hj)
  cases h
theorem vF {ρ:List (Nat×Nat)}{env:Env}: ∀{slots:List Nat} {env':Env},qf ρ env slots=some env'→∀n e',lk env' n=some e'→∃e,lk env n=some e∧pZ ρ e=some e'
 | [],env',h,n,e',hn=>by simp only[qf,aa]at h;subst h;simp[lk]at hn
 | s::t,env',h,n,e',hn=>by
  simp only[qf]at h;split at h
  ·rename_i e he;split at h
   ·rename_i e1 l h1 h2;simp only[aa]at h;subst h;rw[kU]at hn;split at hn
    ·rename_i hns;simp only[aa]at hn;subst hns hn;exact⟨e,he,h1⟩
    exact vF h2 n e' hn
   cases h
  cases h
theorem IB {ρ:List (Nat×Nat)}{nx:Nat}(hb: ∀i j,(i,j)∈ρ→j<nx){e e':EV}(h:pZ ρ e=some e'):e'.lt nx:=by
 cases e with
 | v y=>simp only[pZ,aa]at h;subst h;trivial
 | loc id o=>
  simp only[pZ]at h;split at h
  ·rename_i k hk;simp only[aa]at h;subst h;exact hb _ _ (ur hk)
  cases h
 | row id o n c=>
  simp only[pZ]at h;split at h
  ·rename_i k hk;simp only[aa]at h;subst h;exact hb _ _ (ur hk)
  cases h
theorem Rp {ρ:List (Nat×Nat)}{r r':kg}{b:Nat}(b1:r'.gq=r.gq)(b2:r'.ty=r.ty)(b4:(r'.cells=r.cells∧ ∀e∈r.cells,∃x,e= .v x)∨sD ρ r.cells=some r'.cells)(h:r'.at b):r.at b:=by
 rcases h with h | ⟨h1,h0,h2⟩
 ·exact .inl (b1 ▸ h)
 refine .inr ⟨b1 ▸ h1,b2 ▸ h0,?_⟩;rcases b4 with⟨b4,_⟩ | b4
 ·rw[←b4];exact h2
 rw[h2]at b4;have hl:=(oq b4).1;obtain⟨e,g1,g2⟩:=(oq b4).2 0 _ rfl;cases hc:r.cells with
 | nil=>rw[hc]at hl;simp at hl
 | cons e1 t=>
  rw[hc]at hl g1;simp only[aH,cK,aP,Nat.add_eq_right]at hl;simp only[cz,aa]at g1;subst g1;have ht:t=[]:=aq (by omega);rw[ht];cases e1 with
  | v x=>simp only[pZ,aa]at g2;rw[g2]
  | loc i o=>simp only[pZ]at g2;split at g2<;>cases g2
  | row i o n c=>simp only[pZ]at g2;split at g2<;>cases g2
theorem Ci {c:Ctx}{env env':Env}{F:Hp}{rs rs':RL}{nx nx' k:Nat}{a:Act}{w:World}(ρ:List (Nat×Nat))(slots:List Nat)(hk:c.QL≤k)(hs:fI c N [] ⟨env,F,rs,nx⟩ a w)(hr:lR ρ rs ρ rs')(ns:qf ρ env slots=some env')
  (h1:o8 ρ []=true) (h2:px ρ []=true) (h3:vm k nx' ρ=true) (h4:k≤nx'):fI c N [] ⟨env',F,rs',nx'⟩ a w:=by
 have nd1:=(IV h1).1;have nd2:=(BM h2).1;have hb:=FM h3;have hval: ∀e e' x,pZ ρ e=some e'→e'.val rs'=some x→e.val rs=some x:=fun e e' x h hx=>Im nd2 hr h hx;exact {
  size:=hs.size
  defers:=hs.defers
  fR:={
   le:=hs.fR.le
   own:={
    own:=fun id r' hr'=>by
     obtain⟨i,r,g1,g2,b1,b2,b3,b4⟩:=hr.lk id r' hr';have ho:=hs.fR.own.own i r g2;rw[b1];cases hbk:r.gq with
     | none=>
      rw[hbk]at ho;refine⟨?_,by rw[b3];exact ho.2⟩;rcases b4 with⟨b4,_⟩ | b4
      ·rw[b4];exact b2.symm ▸ ho.1
      refine ho.1.elim (fun e=>.inl ?_) (fun⟨e0,b,e⟩=>.inr ⟨b2.trans e0,b,?_⟩)
      ·have:=(oq b4).1;rw[e]at this;exact aq this
      rw[e]at b4;exact (dB b4).symm
     | some b=>
      rw[hbk]at ho;obtain⟨o1,o2,cur,o3,o4,o5⟩:=ho;refine⟨o1,?_,cur,by rw[b2];exact o3,by rw[b3];exact o4,fun j ev x hj hx=>?_⟩
      ·rw[b3];rcases b4 with⟨b4,_⟩ | b4
       ·rw[b4];exact o2
       rw[(oq b4).1];exact o2
      rcases b4 with⟨b4,b5⟩ | b4
      ·rw[b4]at hj;obtain⟨y,rfl⟩:=b5 ev (cW hj);exact o5 j _ x hj hx
      obtain⟨e,q1,q2⟩:=(oq b4).2 j ev hj;exact o5 j e x q1 (hval e ev x q2 hx)
    apart:=fun i j r s b hi hj hb1 hb2=>by
     obtain⟨i',r0,g1,g2,b1,_⟩:=hr.lk i r hi;obtain⟨j',s0,g3,g4,c1,_⟩:=hr.lk j s hj;have:i'=j':=hs.fR.own.apart i' j' r0 s0 b g2 g4 (by rw[←b1];exact hb1) (by rw[←c1];exact hb2);subst this;exact KA nd1 g1 g3 }
   ir:=hs.fR.ir
   new:=fun id r' b hr' hb1=>by
    obtain⟨i,r,g1,g2,b1,b2,b3,b4⟩:=hr.lk id r' hr';exact hs.fR.new i r b g2 (Rp b1 b2 b4 hb1)
   jW:=hs.fR.jW
   sz:=hs.fR.sz
   tp:=hs.fR.tp }
  gL:={
   sub:=hs.gL.sub
   kX:=dq hk h4
   succ:=fun id r' hid hr'=>by
    obtain⟨i,r,g1,g2,b1,_⟩:=hr.lk id r' hr';rcases (hb i id g1).2 with rfl | hge
    ·obtain⟨r0,q1,q2⟩:=hs.gL.succ i r hid g2;exact⟨r0,q1,q2.trans b1.symm⟩
    omega }
  gV:=fun id r' hr'=>by
   obtain⟨i,r,g1,g2,b1,b2,b3,b4⟩:=hr.lk id r' hr';refine⟨(hb i id g1).1,fun e he=>?_⟩;rcases b4 with⟨b4,b5⟩ | b4
   ·rw[b4]at he;obtain⟨x,rfl⟩:=b5 e he;trivial
   obtain⟨j,hj⟩:=cD he;obtain⟨e0,_,q2⟩:=(oq b4).2 j e hj;exact IB (fun i j h=>(hb i j h).1) q2
  ids:=fun n e he=>by
   obtain⟨e0,_,q2⟩:=vF ns n e he;exact IB (fun i j h=>(hb i j h).1) q2
  env:=fun n e x _ he hx=>by
   obtain⟨e0,q1,q2⟩:=vF ns n e he;exact hs.env n e0 x rfl q1 (hval e0 e x q2 hx)
  gv:=fun n ch e he=>by simp[rA]at he }
theorem qQ.mP {k:Nat}{env env':Env}{F:Hp}{rs rs':RL}{nx nx':Nat}{G:St→Prop}(ρ:List (Nat×Nat))(slots:List Nat)(vD:RL)(hr:lR ρ rs ρ vD)(hrs:vD=rs')(ns:qf ρ env slots=some env')
  (h1:o8 ρ []=true) (h2:px ρ []=true) (h3:vm k nx' ρ=true) (h4:Nat.ble k nx'=true) (kk:G ⟨env',F,rs',nx'⟩):qQ k N [] ⟨env,F,rs,nx⟩ G:=fun c a w hk hs=>by
 subst hrs;exact⟨_,Ci ρ slots hk hs hr ns h1 h2 h3 (by simpa using h4),kk⟩
theorem VS.mP {env env':Env}{F:Hp}{rs rs':RL}{nx nx':Nat}{G:St→Prop}(ρ:List (Nat×Nat))(slots:List Nat)(vD:RL)(hr:lR ρ rs ρ vD)(hrs:vD=rs')(ns:qf ρ env slots=some env')
  (h1:o8 ρ []=true) (h2:px ρ []=true) (h3:vm nx nx' ρ=true) (h4:Nat.ble nx nx'=true) (kk:G ⟨env',F,rs',nx'⟩):VS N [] ⟨env,F,rs,nx⟩ G:=fun c a w hs=>by
 subst hrs;exact⟨_,Ci ρ slots hs.gL.kX hs hr ns h1 h2 h3 (by simpa using h4),kk⟩
theorem qQ.trans {k:Nat}{G:St→Prop}{st:St}(h:VS N [] st (fun st'=>qQ k N [] st' G)):qQ k N [] st G:=fun c a w hk hs=>by
 obtain⟨st',h1,h2⟩:=h c a w hs;exact h2 c a w hk h1
theorem qQ.id {k:Nat}{G:St→Prop}{st:St}(h:G st):qQ k N [] st G:=fun _ _ _ _ hs=>⟨st,hs,h⟩
theorem fH {α:Type}{kn:Nat}{Inv:α→Prop}{T:α→St}{μ:α→Nat}{i:α}{env env':Env}{F:Hp}{rs rs':RL}{nx nx':Nat}(j:α)(k:Nat)(ρ:List (Nat×Nat))(slots:List Nat)(vD:RL)(hj:Inv j)(hm:μ j<μ i)(hk:min kn (T i).nx≤k)(hr:lR ρ rs ρ vD)(hrs:vD=rs')(ns:qf ρ env slots=some env')
  (h1:o8 ρ []=true) (h2:px ρ []=true) (h3:vm k nx' ρ=true) (h4:Nat.ble k nx'=true) (h:(⟨env',F,rs',nx'⟩:St)=T j):fh N kn Inv T μ i KK .normal ⟨env,F,rs,nx⟩:=fun c a w hk' hs=>
 qQ.mP ρ slots vD hr hrs ns h1 h2 h3 h4 ⟨j,hj,h,hm⟩ c a w (dq hk' hk) hs
def KG (id:Nat):EV→EV
 | .v x=>.v x
 | .loc i o=>.loc i o
 | .row i o n c=>match Nat.beq i id with
  | true=>.v (.slice none n c)
  | false=>.row i o n c
def HF (id:Nat):Env→Env
 | []=>[]
 | (n,e)::t=>(n,KG id e)::HF id t
theorem Dm {id:Nat}: ∀{env:Env} {n:Nat} {e':EV},lk (HF id env) n=some e'→∃e,lk env n=some e∧KG id e=e'
 | [],n,e',h=>by simp[HF,lk]at h
 | (m,e)::t,n,e',h=>by
  simp only[HF]at h;rw[kU]at h ⊢;split at h
  ·rename_i hn;simp only[aa]at h;exact⟨e,by rw[aZ hn],h⟩
  rename_i hn;obtain⟨e0,h1,h2⟩:=Dm h;exact⟨e0,by rw[aY hn];exact h1,h2⟩
theorem VS.M1 {env env':Env}{F:Hp}{rs:RL}{nx:Nat}{G:St→Prop}(id:Nat){cells:List EV}{ty:TypeId}{cap:Nat}(slots:List Nat)(hr:fU rs id=some ⟨none,cells,ty,cap⟩)(ns:Go.TR.eL (HF id env) slots=some env')(k:VS N [] ⟨env',F,rs,nx⟩ G):VS N [] ⟨env,F,rs,nx⟩ G:=fun c a w hs=>by
 have hv: ∀e x,(KG id e).val rs=some x→e.val rs=some x:=fun e x hx=>by
  cases e with
  | v y=>exact hx
  | loc i o=>exact hx
  | row i o n cc=>
   simp only[KG]at hx;split at hx
   ·rename_i hb;have:=dj hb;subst this;simp only[EV.val,hr,dA];exact hx
   exact hx
 have hlt: ∀e:EV,e.lt nx→(KG id e).lt nx:=fun e he=>by
  cases e with
  | v y=>trivial
  | loc i o=>exact he
  | row i o n cc=>
   simp only[KG];split
   ·trivial
   exact he
 refine k c a w (pH ns ?_);exact {
  size:=hs.size
  defers:=hs.defers
  fR:=hs.fR
  gL:=hs.gL
  gV:=hs.gV
  ids:=fun n e he=>by
   obtain⟨e0,h1,rfl⟩:=Dm he;exact hlt e0 (hs.ids n e0 h1)
  env:=fun n e x _ he hx=>by
   obtain⟨e0,h1,rfl⟩:=Dm he;exact hs.env n e0 x rfl h1 (hv e0 x hx)
  gv:=fun n ch e he=>by simp[rA]at he }
theorem VS.Fi {env:Env}{F:Hp}{rs:RL}{nx:Nat}{G:St→Prop}{id:Nat}{cells:List EV}{ty:TypeId}{cap:Nat}(hr:fU rs id=some ⟨none,cells,ty,cap⟩)(hty:ty≠0)(k:cells=[]∧cap=0→VS N [] ⟨env,F,rs,nx⟩ G):VS N [] ⟨env,F,rs,nx⟩ G:=fun c a w hs=>by
 obtain⟨h1,h2⟩:=hs.fR.own.own id _ hr;exact k ⟨h1.elim (fun e=>e) (fun⟨e,_⟩=>absurd e hty),h2⟩ c a w hs
end
end
section
theorem iH {A B C:Prop}(f:B→C)(k:A→B):A→C:=fun a=>f (k a)
theorem B2 {A B:Nat→Prop}{C:Prop}(f:(∀b,B b)→C)(k: ∀b,A b→B b):(∀b,A b)→C:=fun a=>f fun b=>k b (a b)
theorem run {G:Prop}{H:Unit→Prop}(k:H ())(h: ∀u,H u→G:=by
 intro u
 repeat (first
  | refine iH (Go.TR.Dq rfl rfl rfl) ?_ | refine iH (Go.TR.IX rfl rfl) ?_ | refine iH (Go.TR.xy rfl rfl rfl) ?_ | refine iH (Go.TR.tf rfl rfl rfl) ?_
  | refine iH (Go.TR.rn rfl rfl rfl) ?_ | refine iH (Go.TR.rz rfl rfl rfl rfl rfl) ?_ | refine iH (Go.TR.qA rfl rfl rfl rfl rfl) ?_ | refine iH (Go.TR.Df rfl rfl rfl rfl rfl) ?_
  | refine iH (Go.TR.Hz rfl rfl rfl rfl) ?_ | refine iH (Go.TR.CF rfl) ?_ | refine iH (Go.TR.Cv rfl rfl rfl rfl) ?_ | refine iH (Go.TR.HQ rfl rfl rfl) ?_
  | refine iH (Go.TR.xB rfl rfl) ?_ | refine iH (Go.TR.B3 rfl rfl) ?_ | refine iH (Go.TR.Cd rfl rfl rfl rfl) ?_ | refine iH (Go.TR.HG rfl rfl rfl) ?_
  | refine iH Go.TR.Mp ?_ | refine iH Go.TR.Hm ?_ | refine iH Go.TR.Gv ?_ | refine iH Go.TR.HR ?_
  | refine iH Go.TR.Hd ?_ | refine iH Go.TR.HT ?_ | refine iH Go.TR.LV ?_ | refine iH Go.TR.lV ?_
  | refine iH Go.TR.Dr ?_ | refine iH Go.TR.xN ?_ | refine iH Go.TR.xZ ?_ | refine iH Go.TR.yr ?_
  | refine iH (Go.TR.yT rfl) ?_ | refine iH Go.TR.Hc ?_ | refine iH Go.TR.Lv ?_ | refine iH Go.TR.GV ?_
  | (refine' B2 (Go.TR.LW rfl rfl rfl rfl) (fun b=>?_);rotate_left) | (refine' B2 (Go.TR.uq rfl rfl rfl rfl) (fun b=>?_);rotate_left) | refine iH (Go.TR.CB rfl) ?_ | refine iH (Go.TR.CQ rfl) ?_
  | (refine' B2 (Go.TR.zj rfl rfl rfl rfl rfl rfl rfl rfl) (fun b=>?_);rotate_left) | refine iH Go.TR.C4 ?_ | refine iH Go.TR.BO ?_ | refine iH Go.TR.yH ?_
  | refine iH Go.TR.ze ?_ | refine iH (Go.TR.dL rfl rfl rfl (by decide)) ?_ | refine iH (Go.TR.iz rfl rfl rfl rfl rfl (fun _=>by decide)) ?_ | refine iH (Go.TR.H3 rfl) ?_
  | refine iH (Go.TR.M9 rfl) ?_ | refine iH (Go.TR.xr rfl) ?_ | refine iH (Go.TR.Eu rfl) ?_)
 exact fun h=>h):G:=h () k
theorem l5 {G:Prop}{H:Unit→Prop}(k:H ())(h: ∀u,H u→G:=by
 intro u
 repeat (first
  | refine iH (Go.TR.Dq rfl rfl rfl) ?_ | refine iH (Go.TR.IX rfl rfl) ?_ | refine iH (Go.TR.xy rfl rfl rfl) ?_ | refine iH (Go.TR.tf rfl rfl rfl) ?_
  | refine iH (Go.TR.rn rfl rfl rfl) ?_ | refine iH (Go.TR.rz rfl rfl rfl rfl rfl) ?_ | refine iH (Go.TR.qA rfl rfl rfl rfl rfl) ?_ | refine iH (Go.TR.Df rfl rfl rfl rfl rfl) ?_
  | refine iH (Go.TR.Hz rfl rfl rfl rfl) ?_ | refine iH (Go.TR.CF rfl) ?_ | refine iH (Go.TR.Cv rfl rfl rfl rfl) ?_ | refine iH (Go.TR.HQ rfl rfl rfl) ?_
  | refine iH (Go.TR.xB rfl rfl) ?_ | refine iH (Go.TR.B3 rfl rfl) ?_ | refine iH (Go.TR.Cd rfl rfl rfl rfl) ?_ | refine iH (Go.TR.HG rfl rfl rfl) ?_
  | refine iH Go.TR.Mp ?_ | refine iH Go.TR.Hm ?_ | refine iH Go.TR.Gv ?_ | refine iH Go.TR.HR ?_
  | refine iH Go.TR.Hd ?_ | refine iH Go.TR.HT ?_ | refine iH Go.TR.LV ?_ | refine iH Go.TR.Dr ?_
  | refine iH Go.TR.xN ?_ | refine iH Go.TR.xZ ?_ | refine iH Go.TR.yr ?_ | refine iH (Go.TR.yT rfl) ?_
  | refine iH Go.TR.Hc ?_ | refine iH Go.TR.Lv ?_ | refine iH Go.TR.GV ?_ | (refine' B2 (Go.TR.LW rfl rfl rfl rfl) (fun b=>?_);rotate_left)
  | (refine' B2 (Go.TR.uq rfl rfl rfl rfl) (fun b=>?_);rotate_left) | refine iH (Go.TR.CB rfl) ?_ | refine iH (Go.TR.CQ rfl) ?_ | (refine' B2 (Go.TR.zj rfl rfl rfl rfl rfl rfl rfl rfl) (fun b=>?_);rotate_left)
  | refine iH Go.TR.C4 ?_ | refine iH Go.TR.BO ?_ | refine iH Go.TR.yH ?_ | refine iH Go.TR.ze ?_
  | refine iH (Go.TR.dL rfl rfl rfl (by decide)) ?_ | refine iH (Go.TR.iz rfl rfl rfl rfl rfl (fun _=>by decide)) ?_ | refine iH (Go.TR.H3 rfl) ?_ | refine iH (Go.TR.M9 rfl) ?_
  | refine iH (Go.TR.xr rfl) ?_ | refine iH (Go.TR.Eu rfl) ?_)
 exact fun h=>h):G:=h () k
end
end Go.TR
