/- A part of the proof. -/
import Derived.Test.YthbnddgjkonkdaaGreatDoorSetFwL
import Derived.MapKept
import Derived.Maps.RangeRun
set_option linter.unusedVariables false
set_option linter.unusedSimpArgs false
namespace Go.TR
variable {P:Program} {tb:Tb} {N:Nat}
open Go.ChangeMaps (setBlock)
structure iF (es:Array MapEntry) (clock:Nat) (m:List UInt8→Option Value):Prop where
 st:MapKept.Stamped es clock
 key: ∀x∈es.toList,∃s,x.key=S s
 get: ∀x∈es.toList,∀s,x.key=S s→m s=some x.val
 has: ∀s v,m s=some v→∃x∈es.toList,x.key=S s∧x.val=v
def ox (m:List UInt8→Option Value)(k:List UInt8)(v:Value):List UInt8→Option Value:=fun s=>if s=k then some v else m s
theorem I1 {a b:List UInt8}(h:S a=S b):a=b:=by
 simp only[S,jB,Value.string.injEq,ByteArray.mk.injEq]at h;simpa using a8 Array.toList h
theorem iF.empty:iF #[] 0 (fun _=>none):=⟨MapKept.stamped_empty 0,by simp,by simp,by simp⟩
theorem qf (s:List UInt8):MapKept.IsKey .string (S s):=trivial
theorem iF.isKey {es:Array MapEntry}{clock:Nat}{m:List UInt8→Option Value}(h:iF es clock m): ∀x∈es.toList,MapKept.IsKey .string x.key:=fun x hx=>by
 obtain⟨s,hs⟩:=h.key x hx;rw[hs];exact qf s
theorem iF.push {es:Array MapEntry}{clock:Nat}{m:List UInt8→Option Value}(h:iF es clock m){k:List UInt8}{v:Value}(hk: ∀x∈es.toList,x.key≠S k):iF (es.push ⟨S k,v,clock⟩) (clock+1) (ox m k v):=by
 refine⟨MapKept.stamped_push h.st hk,fun x hx=>?_,fun x hx s hs=>?_,fun s u hs=>?_⟩
 ·simp only[Array.toList_push,aK,aB]at hx;rcases hx with hx | rfl
  ·exact h.key x hx
  exact⟨k,rfl⟩
 ·simp only[Array.toList_push,aK,aB]at hx;unfold ox;rcases hx with hx | rfl
  ·rw[aY (by rintro rfl;exact hk x hx hs)];exact h.get x hx s hs
  rw[aZ (I1 hs).symm]
 unfold ox at hs;by_cases hsk:s=k
 ·rw[aZ hsk]at hs;subst hsk;exact⟨⟨S s,v,clock⟩,by simp,rfl,dy hs⟩
 rw[aY hsk]at hs;obtain⟨x,hx,h1,h2⟩:=h.has s u hs;exact⟨x,by simp[Array.mem_toList_iff.1 hx],h1,h2⟩
theorem iF.modify {es:Array MapEntry}{clock:Nat}{m:List UInt8→Option Value}(h:iF es clock m){k:List UInt8}{v:Value}{j:Nat}{e:MapEntry}(hj:es[j]? =some e)(hk:e.key=S k):iF (es.modify j fun x=>{ x with key:=S k,val:=v }) clock (ox m k v):=by
 have hkey: ∀x,es[j]? =some x→({ x with key:=S k,val:=v }:MapEntry).key=x.key:=fun x hx=>by
  rw[hj]at hx;cases hx;exact hk.symm
 have hget: ∀i:Nat,(es.modify j fun x=>{ x with key:=S k,val:=v })[i]? =if j=i then (es[i]?).map (fun x=>{ x with key:=S k,val:=v }) else es[i]? :=fun i=>by
  rw[Array.getElem?_modify]
 have hnd: ∀i x,es[i]? =some x→x.key=S k→i=j:=fun i x hx hxk=>by
  have h3:=h.st.2.2;rw[List.Nodup,c7]at h3;obtain⟨hi,hxi⟩:=Array.getElem?_eq_some_iff.1 hx;obtain⟨hjl,hej⟩:=Array.getElem?_eq_some_iff.1 hj;rcases Nat.lt_trichotomy i j with hlt | heq | hgt
  ·have:=h3 i j (by simpa using hi) (by simpa using hjl) hlt;simp only[cD,Array.getElem_toList,hxi,hej,hxk,hk]at this;exact absurd rfl this
  ·exact heq
  have:=h3 j i (by simpa using hjl) (by simpa using hi) hgt;simp only[cD,Array.getElem_toList,hxi,hej,hxk,hk]at this;exact absurd rfl this
 have hmem: ∀x,x∈(es.modify j fun x=>{ x with key:=S k,val:=v }).toList→(x.key=S k∧x.val=v)∨(x∈es.toList∧x.key≠S k):=fun x hx=>by
  obtain⟨i,hi⟩:=cA hx;rw[Array.getElem?_toList,hget]at hi;by_cases hij:j=i
  ·rw[aZ hij,aS]at hi;obtain⟨y,_,rfl⟩:=hi;exact .inl ⟨rfl,rfl⟩
  rw[aY hij]at hi;exact .inr ⟨by simpa using Array.mem_of_getElem? hi,fun hxk=>hij (hnd i x hi hxk).symm⟩
 refine⟨MapKept.stamped_modify h.st _ _ (fun _ _=>rfl) (fun x _ hx=>hkey x hx),fun x hx=>?_,fun x hx s hs=>?_,fun s u hs=>?_⟩
 ·rcases hmem x hx with⟨h1,_⟩ | ⟨h1,_⟩
  ·exact⟨k,h1⟩
  exact h.key x h1
 ·unfold ox;rcases hmem x hx with⟨h1,h2⟩ | ⟨h1,h2⟩
  ·rw[aZ (I1 (hs.symm.trans h1)),h2]
  rw[aY (by rintro rfl;exact h2 hs)];exact h.get x h1 s hs
 unfold ox at hs;by_cases hsk:s=k
 ·rw[aZ hsk]at hs;subst hsk;refine⟨{ e with key:=S s,val:=v },?_,rfl,dy hs⟩;have:=hget j;rw[aZ rfl,hj]at this;exact cT (by rw[Array.getElem?_toList];exact this)
 rw[aY hsk]at hs;obtain⟨x,hx,h1,h2⟩:=h.has s u hs;obtain⟨i,hi⟩:=cA hx;rw[Array.getElem?_toList]at hi;have hij:j≠i:=by
  rintro rfl;rw[hj]at hi;cases hi;exact hsk (I1 (h1.symm.trans hk))
 have:=hget i;rw[aY hij,hi]at this;exact⟨x,cT (by rw[Array.getElem?_toList];exact this),h1,h2⟩
theorem iF.find {es:Array MapEntry}{clock:Nat}{m:List UInt8→Option Value}(h:iF es clock m)(k:List UInt8):
  (m k=none∧Instr.findNow .string (S k) es.toList 0=some none∧ ∀x∈es.toList,x.key≠S k)∨
  ∃j e,m k=some e.val∧Instr.findNow .string (S k) es.toList 0=some (some (j,e.val))∧es[j]? =some e∧e.key=S k:=by
 rcases MapKept.findNow_spec (qf k) es.toList 0 h.isKey with⟨h1,h2⟩ | ⟨j,e,h1,h2,h3⟩
 ·refine .inl ⟨?_,h1,h2⟩;cases hm:m k with
  | none=>rfl
  | some v=>
   obtain⟨x,hx,h3,_⟩:=h.has k v hm;exact absurd h3 (h2 x hx)
 exact .inr ⟨j,e,h.get e (cT h2) k h3,by simpa using h1,by simpa using h2,h3⟩
theorem yr {t kt et:TypeId}(hm:P.underlying t=some (.map kt et))(hk:P.underlying kt=some .string){w:World}{b:Nat}{es:Array MapEntry}{clock:Nat}{m:List UInt8→Option Value}(hb:w.heap[b]? =some (.map es clock))(h:iF es clock m){z:Value}(hz:(zeroValue et).run P w= .ok z w)(k:List UInt8)(ok:Bool):
  (Instr.lookup t (.map (some b)) (S k) ok).run P w= .ok (if ok then .tuple #[(m k).getD z,.bool (m k).isSome] else (m k).getD z) w:=by
 rcases h.find k with⟨h0,h1,_⟩ | ⟨j,e,h0,h1,_,_⟩
 ·cases ok<;>simp[Instr.lookup,run_underlying hm,MapKept.run_getObj_map hb,MapKept.run_checkKey hk (qf k),MapKept.run_findKey hk h1,Result.andThen,hz,h0]
 cases ok<;>simp[Instr.lookup,run_underlying hm,MapKept.run_getObj_map hb,MapKept.run_checkKey hk (qf k),MapKept.run_findKey hk h1,Result.andThen,h0]
theorem tX {t kt et:TypeId}(hm:P.underlying t=some (.map kt et))(hk:P.underlying kt=some .string){w:World}{b:Nat}{es:Array MapEntry}{clock:Nat}{m:List UInt8→Option Value}(hb:w.heap[b]? =some (.map es clock))(h:iF es clock m)(k:List UInt8)(v:Value):
  ∃es' clock',iF es' clock' (ox m k v)∧(Instr.mapUpdate t (.map (some b)) (S k) v).run P w= .ok () (setBlock w b (.map es' clock')):=by
 rcases h.find k with⟨h0,h1,h2⟩ | ⟨j,e,h0,h1,h2,h3⟩
 ·refine⟨_,_,h.push h2,?_⟩;simp[Instr.mapUpdate,run_underlying hm,MapKept.run_getObj_map hb,MapKept.run_checkKey hk (qf k),MapKept.run_findKey hk h1,MapKept.run_setObj_map _ hb,Result.andThen,setBlock]
 refine⟨_,_,h.modify h2 h3,?_⟩;simp[Instr.mapUpdate,run_underlying hm,MapKept.run_getObj_map hb,MapKept.run_checkKey hk (qf k),MapKept.run_findKey hk h1,h2,h3,MapKept.run_keyThatStays (qf k),MapKept.run_setObj_map _ hb,Result.andThen,setBlock]
theorem um {c:Ctx}{g:fa}{env:Env}{F:Hp}{rs:RL}{nx:Nat}{a:Act}{w w':World}(h:fF c N g ⟨env,F,rs,nx⟩ a w){id:Nat}{r:kj}{b0 b:Nat}(hr:fR rs id=some r)(hb0:r.at b0)(hle:b0≤b){o o':Obj}(hF:F b=some o)(hp:g9 [b] w w')(hw:w'.heap[b]? =some o'):
  fF c N g ⟨env,F.plus b o',rs,nx⟩ a w':=by
 have hy:c.wE.heap.size≤b:=dk (h.fO.new id r b0 hr hb0) hle;exact {
  size:=h.size
  defers:=h.defers
  fO:={
   le:=fun k o1 e=>by
    have e:(if k=b then some o' else F k)=some o1:=e;by_cases hk:k=b
    ·subst hk;rw[aZ rfl]at e;rw[←e];exact hw
    rw[aY hk]at e;have h1:=h.fO.le k o1 e;exact (hp.block k (gJ h1) (by simpa using hk)).trans h1
   own:={
    own:=fun k s hs=>by
     have h1:=h.fO.own.own k s hs;cases hsb:s.gl with
     | none=>rw[hsb]at h1;exact h1
     | some b'=>
      rw[hsb]at h1;obtain⟨g1,g2,cur',g3,g4,g5⟩:=h1;have hne:b'≠b:=by
       rintro rfl;have g1:F b'=none:=g1;rw[hF]at g1;cases g1
      exact⟨by show (if b'=b then some o' else F b')=none;rw[aY hne];exact g1,g2,cur',(hp.block _ (gJ g3) (by simpa using hne)).trans g3,g4,g5⟩
    apart:=h.fO.own.apart }
   il:=h.fO.il.trans' hp (fun y hy'=>.inr (by rw[aB.1 hy'];exact hy))
   new:=h.fO.new
   jT:=fun k hk=>by
    have hk:(if k=b then some o' else F k).isSome=true:=hk;by_cases he:k=b
    ·subst he;exact .inr hy
    rw[aY he]at hk;exact h.fO.jT k hk
   sz:=dk h.fO.sz hp.size
   tp:=h.fO.tp }
  gI:={
   sub:=fun k o1 e=>by
    show (if k=b then some o' else F k)=some o1;rw[aY (by rintro rfl;rw[(h.fO.tp k hy).2]at e;cases e)];exact h.gI.sub k o1 e
   kT:=h.gI.kT
   succ:=h.gI.succ }
  gS:=h.gS
  ids:=h.ids
  env:=h.env
  gv:=h.gv }
theorem px {c:Ctx}{g:fa}{env:Env}{F:Hp}{rs:RL}{nx:Nat}{a:Act}{w:World}(h:fF c N g ⟨env,F,rs,nx⟩ a w)(o:Obj):
  F w.heap.size=none∧fF c N g ⟨env,F.plus w.heap.size o,rs,nx⟩ a (w.alloc o):=by
 have hfr:F w.heap.size=none:=by
  cases hf:F w.heap.size with
  | none=>rfl
  | some o=>have:=gJ (h.fO.le _ _ hf);omega
 have hp:g9 [] w (w.alloc o):=g9.alloc [] w _;have hsub:F.sub (F.plus w.heap.size o):=fun k o1 e=>by
  show (if k=w.heap.size then some o else F k)=some o1;rw[aY (by rintro rfl;rw[hfr]at e;cases e)];exact e
 refine⟨hfr,{
  size:=h.size
  defers:=h.defers
  fO:={
   le:=fun k o1 e=>by
    have e:(if k=w.heap.size then some o else F k)=some o1:=e;by_cases hk:k=w.heap.size
    ·subst hk;rw[aZ rfl]at e;rw[←e];exact heap_alloc_new w _
    rw[aY hk]at e;exact (h.fO.le.il hp (by simp)) k o1 e
   own:={
    own:=fun k s hs=>by
     have h1:=h.fO.own.own k s hs;cases hsb:s.gl with
     | none=>rw[hsb]at h1;exact h1
     | some b'=>
      rw[hsb]at h1;obtain⟨g1,g2,cur',g3,g4,g5⟩:=h1;have hne:b'≠w.heap.size:=by have:=gJ g3;omega
      exact⟨by show (if b'=w.heap.size then some o else F b')=none;rw[aY hne];exact g1,g2,cur',(hp.block _ (gJ g3) (by simp)).trans g3,g4,g5⟩
    apart:=h.fO.own.apart }
   il:=h.fO.il.trans hp
   new:=h.fO.new
   jT:=fun k hk=>by
    have hk:(if k=w.heap.size then some o else F k).isSome=true:=hk;by_cases he:k=w.heap.size
    ·subst he;exact .inr h.fO.il.size
    rw[aY he]at hk;exact h.fO.jT k hk
   sz:=dk h.fO.sz hp.size
   tp:=h.fO.tp }
  gI:={
   sub:=h.gI.sub.trans hsub
   kT:=h.gI.kT
   succ:=h.gI.succ }
  gS:=h.gS
  ids:=h.ids
  env:=h.env
  gv:=h.gv }⟩
def mark (b:Nat):kj:=⟨none,[.v (.int .i64 (b:Int))],0,0⟩
theorem mY (b:Nat):(mark b).at b:=.inr ⟨rfl,rfl,rfl⟩
theorem DQ {c:Ctx}{g:fa}{env:Env}{F:Hp}{rs:RL}{nx:Nat}{a:Act}{w:World}(h:fF c N g ⟨env,F,rs,nx⟩ a w){b:Nat}(hb:c.wE.heap.size≤b):
  fF c N g ⟨env,F,(nx,mark b)::rs,nx+1⟩ a w:={
 size:=h.size
 defers:=h.defers
 fO:={
  le:=h.fO.le
  own:={
   own:=fun id r hr=>by
    rw[e8]at hr;split at hr
    ·simp only[aa]at hr;subst hr;exact⟨.inr ⟨rfl,b,rfl⟩,rfl⟩
    have h1:=h.fO.own.own id r hr;cases hbk:r.gl with
    | none=>rw[hbk]at h1;exact h1
    | some b'=>
     rw[hbk]at h1;obtain⟨g1,g2,cur,g3,g4,g5⟩:=h1;refine⟨g1,g2,cur,g3,g4,fun j ev x hj hx=>?_⟩;have hm:=(h.gS id r hr).2 ev (cT hj);rw[kF hm]at hx;exact g5 j ev x hj hx
   apart:=fun i j r s b' hi hj hbr hbs=>by
    rw[e8]at hi hj;split at hi
    ·simp only[aa]at hi;subst hi;cases hbr
    split at hj
    ·simp only[aa]at hj;subst hj;cases hbs
    exact h.fO.own.apart i j r s b' hi hj hbr hbs }
  il:=h.fO.il
  new:=fun id r b' hr hbr=>by
   rw[e8]at hr;split at hr
   ·simp only[aa]at hr;subst hr;rcases hbr with hbr | ⟨_,_,hbr⟩
    ·cases hbr
    simp only[mark,bU,EV.v.injEq,Value.int.injEq,true_and,and_true]at hbr;omega
   exact h.fO.new id r b' hr hbr
  jT:=h.fO.jT
  sz:=h.fO.sz
  tp:=h.fO.tp }
 gI:=h.gI.cons _
 gS:=fun id r hr=>by
  simp only[e8]at hr;split at hr
  ·simp only[aa]at hr;subst hr;exact⟨by simp only;omega,fun e he=>by simp only[mark,aB]at he;subst he;trivial⟩
  obtain⟨h1,h2⟩:=h.gS id r hr;exact⟨by simp only at h1 ⊢;omega,fun e he=>(h2 e he).mono (dj _)⟩
 ids:=fun n e he=>(h.ids n e he).mono (dj _)
 env:=fun n e x hg he hx=>by
  rw[kF (h.ids n e he)]at hx;exact h.env n e x hg he hx
 gv:=fun n ch e hg=>by
  obtain⟨h1,h2,h3,h4⟩:=h.gv n ch e hg;refine⟨fun hA=>⟨fun x hx=>(h1 hA).1 x ?_,(h1 hA).2⟩,h2,h3.mono (dj _),h4⟩;rw[kF h3]at hx;exact hx }
theorem sO (w:World)(b:Nat)(o:Obj):g9 [b] w (setBlock w b o):=⟨rfl,rfl,rfl,by simp[setBlock],fun k _ hk=>by
 have:k≠b:=by simpa using hk
 simp[setBlock,Ne.symm this]⟩
theorem wH {w:World}{b:Nat}{o:Obj}(o':Obj)(h:w.heap[b]? =some o):(setBlock w b o').heap[b]? =some o':=by
 have:=gJ h;simp[setBlock,this]
theorem fF.drewN {c:Ctx}{g:fa}{st:St}{a:Act}{w:World}(h:fF c N g st a w):fF c N g st a w.drew:=by
 have hp:g9 [] w w.drew:=g9.drewN [] w 1;exact {
  size:=h.size
  defers:=h.defers
  fO:=h.fO.zB hp
  gI:=h.gI
  gS:=h.gS
  ids:=h.ids
  env:=h.env
  gv:=h.gv }
theorem HB {l:List MapEntry}(h:(l.map (·.born)).Nodup){x y:MapEntry}(hx:x∈l)(hy:y∈l)(e:x.born=y.born):x=y:=by
 have h1:=find_born x l h hx;have h2:=find_born y l h hy;rw[e,h2]at h1;exact (dy h1).symm
theorem AV: ∀{l:List MapEntry},(l.map (·.key)).Nodup→∀{x y:MapEntry},x∈l→y∈l→x.key=y.key→x=y
 | [],_,x,y,hx,_,_=>by cases hx
 | a::l,h,x,y,hx,hy,e=>by
  rw[a9,cY]at h;rcases aT.1 hx with rfl | hx1
  ·rcases aT.1 hy with rfl | hy1
   ·rfl
   exact absurd (aG.2 ⟨y,hy1,e.symm⟩) h.1
  rcases aT.1 hy with rfl | hy1
  ·exact absurd (aG.2 ⟨x,hx1,e⟩) h.1
  exact AV h.2 hx1 hy1 e
variable {all rest:List Oper} {K:fa→St→Prop}
theorem Rl {op:Op}{ty:TypeId}{pos:String}{af:Array Edge}{ι:Type}{st:St}{env:ι→Env}{F:ι→Hp}{rs:ι→RL}{nx:ι→Nat}
  (h: ∀(c:Ctx) (a:Act) (w:World) (o:Oper),fF c N [] st a w→o.op=op→∃i w',(execOp a.eval o).run P w= .ok .skip w'∧fF c N [] ⟨env i,F i,rs i,nx i⟩ a w')
  (k: ∀i,dT P tb N false all rest K [] ⟨env i,F i,rs i,nx i⟩):dT P tb N false all (⟨none,op,ty,pos,af,none⟩::rest) K [] st:=by
 refine .inr (.inr ⟨rfl,VS.id (.inr (.inr ⟨ι,fun _=>.v undef,fun i=>⟨env i,F i,rs i,nx i⟩,fun c a w o h1 h2=>(by obtain⟨i,w',q1,q2⟩:=h c a w o h1 h2;exact⟨i,undef,w',.inr ⟨rfl,q1⟩,q2,rfl⟩),fun i=>?_⟩))⟩);exact k i
section
variable {env:Env} {F:Hp} {rs:RL} {nx:Nat} {ty:TypeId} {pos:String} {af:Array Edge}
theorem A9 {d:Nat}{t:TypeId}(hd:Nat.blt d N=true)
  (k: ∀b,F b=none→dT P tb N false all rest K [] ⟨(d,.v (.map (some b)))::env,F.plus b (.map #[] 0),(nx,mark b)::rs,nx+1⟩):
  dT P tb N false all (⟨some d,.makeMap t none,ty,pos,af,none⟩::rest) K [] ⟨env,F,rs,nx⟩:=by
 refine nY (ι:={ b:Nat // F b=none }) (fun b=>.v (.map (some b.1))) (env:=fun _=>env) (F:=fun b=>F.plus b.1 (.map #[] 0)) (rs:=fun b=>(nx,mark b.1)::rs) (nx:=fun _=>nx+1) hd (fun c a w o hs ho=>?_) (fun b=>k b.1 b.2);obtain⟨h1,h2⟩:=px hs (.map #[] 0);refine⟨⟨w.heap.size,h1⟩,.map (some w.heap.size),w.alloc (.map #[] 0),?_,DQ h2 hs.fO.il.size,rfl⟩;simp[execOp,ho,Instr.makeMap,Result.andThen]
theorem Ha {d:Nat}{t:TypeId}(b0:Nat){o0:Obj}(hd:Nat.blt d N=true)(h0:F b0=some o0)
  (k: ∀b,F b=none→b0<b→dT P tb N false all rest K [] ⟨(d,.v (.map (some b)))::env,F.plus b (.map #[] 0),rs,nx⟩):
  dT P tb N false all (⟨some d,.makeMap t none,ty,pos,af,none⟩::rest) K [] ⟨env,F,rs,nx⟩:=by
 refine nY (ι:={ b:Nat // F b=none∧b0<b }) (fun b=>.v (.map (some b.1))) (env:=fun _=>env) (F:=fun b=>F.plus b.1 (.map #[] 0)) (rs:=fun _=>rs) (nx:=fun _=>nx) hd (fun c a w o hs ho=>?_) (fun b=>k b.1 b.2.1 b.2.2);obtain⟨h1,h2⟩:=px hs (.map #[] 0);refine⟨⟨w.heap.size,h1,gJ (hs.fO.le _ _ h0)⟩,.map (some w.heap.size),w.alloc (.map #[] 0),?_,h2,rfl⟩;simp[execOp,ho,Instr.makeMap,Result.andThen]
theorem pR {d:Nat}{t kt et:TypeId}{x y:Operand}{ok:Bool}{b:Nat}{es:Array MapEntry}{clock:Nat}(m:List UInt8→Option Value)(q:List UInt8){z:Value}(hm:P.underlying t=some (.map kt et))(hk:P.underlying kt=some .string)
  (hx:gL rs [] env [] x=some (.v (.map (some b)))) (hy:gL rs [] env [] y=some (.v (S q))) (hz: ∀w,(zeroValue et).run P w= .ok z w) (hd:Nat.blt d N=true) (hF:F b=some (.map es clock)) (hM:iF es clock m)
  (k:dT P tb N false all rest K [] ⟨(d,.v (if ok then .tuple #[(m q).getD z,.bool (m q).isSome] else (m q).getD z))::env,F,rs,nx⟩):
  dT P tb N false all (⟨some d,.lookup t x y ok,ty,pos,af,none⟩::rest) K [] ⟨env,F,rs,nx⟩:=by
 refine q9 (.v (if ok then .tuple #[(m q).getD z,.bool (m q).isSome] else (m q).getD z)) hd (fun c a w o hs ho=>?_) k;have e1:(EV.v (.map (some b))).val rs=some (a.eval x):=gO hs (iR a) _ _ hx;have e2:(EV.v (S q)).val rs=some (a.eval y):=gO hs (iR a) _ _ hy;simp only[EV.val,aa]at e1 e2;refine⟨_,w,?_,hs,rfl⟩;simp only[execOp,ho,←e1,←e2];rw[run_bind,yr hm hk (hs.fO.le _ _ hF) hM (hz w) q ok];rfl
theorem mg {t kt et:TypeId}{x y u:Operand}{b b0 id:Nat}{r:kj}{es:Array MapEntry}{clock:Nat}(m:List UInt8→Option Value)(q:List UInt8){v:Value}(hm:P.underlying t=some (.map kt et))(hk:P.underlying kt=some .string)
  (hx:gL rs [] env [] x=some (.v (.map (some b)))) (hy:gL rs [] env [] y=some (.v (S q))) (hu:gL rs [] env [] u=some (.v v)) (hr:fR rs id=some r) (hb0:r.at b0) (hle:b0≤b) (hF:F b=some (.map es clock)) (hM:iF es clock m)
  (k: ∀es' clock',iF es' clock' (ox m q v)→dT P tb N false all rest K [] ⟨env,F.plus b (.map es' clock'),rs,nx⟩):
  dT P tb N false all (⟨none,.mapUpdate t x y u,ty,pos,af,none⟩::rest) K [] ⟨env,F,rs,nx⟩:=by
 refine Rl (ι:={ p:Array MapEntry×Nat // iF p.1 p.2 (ox m q v) }) (env:=fun _=>env) (F:=fun p=>F.plus b (.map p.1.1 p.1.2)) (rs:=fun _=>rs) (nx:=fun _=>nx) (fun c a w o hs ho=>?_) (fun p=>k p.1.1 p.1.2 p.2);have e1:(EV.v (.map (some b))).val rs=some (a.eval x):=gO hs (iR a) _ _ hx;have e2:(EV.v (S q)).val rs=some (a.eval y):=gO hs (iR a) _ _ hy;have e3:(EV.v v).val rs=some (a.eval u):=gO hs (iR a) _ _ hu;simp only[EV.val,aa]at e1 e2 e3;have hb:=hs.fO.le _ _ hF;obtain⟨es',clock',h1,h2⟩:=tX (P:=P) hm hk hb hM q v;refine⟨⟨(es',clock'),h1⟩,setBlock w b (.map es' clock'),?_,um hs hr hb0 hle hF (sO w b _) (wH _ hb)⟩;simp only[execOp,ho,←e1,←e2,←e3];rw[run_bind,h2];rfl
def gU (F:Hp)(e:TypeId)(size:Nat)(p:Option Addr)(n c:Nat)(cs:List Value):Prop:=
 cs.length=n * size∧n≤c∧((p=none∧n=0∧c=0)∨ ∃b cur,p=some ⟨b,0,none⟩∧F b=some (.cells cur e (0,0))∧cur.size=c * size∧cur.toList.take (n * size)=cs)
theorem gU.kq {F:Hp}{e:TypeId}{size:Nat}{p:Option Addr}{n c:Nat}{cs:List Value}(h:gU F e size p n c cs):eY F p cs:=by
 obtain⟨h1,h2,h3⟩:=h;rcases h3 with⟨_,h4,_⟩ | ⟨b,cur,rfl,h4,h5,h6⟩
 ·have:cs=[]:=aq (by rw[h1,h4,dv]);subst this;exact fun j u hj=>by simp at hj
 intro j u hj;have hj':j<n * size:=by rw[←h1];exact (cz.1 hj).1
 rw[←h6,cB,aZ hj']at hj;simp only[im,aJ,gb,Option.bind_some,kI,aP,jx,h4];simpa using hj
theorem gU.other {F:Hp}{e:TypeId}{size:Nat}{p:Option Addr}{n c:Nat}{cs:List Value}(h:gU F e size p n c cs){b:Nat}{o:Obj}(hb: ∀b',p=some ⟨b',0,none⟩→b'≠b):gU (F.plus b o) e size p n c cs:=by
 obtain⟨h1,h2,h3⟩:=h;refine⟨h1,h2,?_⟩;rcases h3 with h3 | ⟨b',cur,h4,h5,h6⟩
 ·exact .inl h3
 refine .inr ⟨b',cur,h4,?_,h6⟩;show (if b'=b then some o else F b')=_;rw[aY (hb b' h4)];exact h5
theorem RY {d:Nat}{x y:Operand}{t1 t2 e:TypeId}{p:Option Addr}{n c m b0 id:Nat}{r:kj}{o0:Obj}{cs vs:List Value}{ti:TI}(htb:gZ P tb)(ht:tk tb t1=some (.slice e))(ht2:wh (tk tb t2)=true)(hi:tb e=some ti)(h0:(Nat.blt 0 ti.size&&Nat.beq ti.zero.length ti.size&&Nat.blt 0 ti.bytes)=true)
  (hx:gL rs [] env [] x=some (.v (.slice p n c))) (hd:Nat.blt d N=true) (hsrc:vX F rs ti.size (gL rs [] env [] y) m (vs.map .v)) (hone:lj rs (vs.map .v)) (hm:0<m) (hnl:vs.length=m * ti.size) (hb:(n+m) * ti.bytes≤140737488355328)
  (hr:fR rs id=some r) (hb0:r.at b0) (YR:F b0=some o0) (hp:gU F e ti.size p n c cs) (HV: ∀b,p=some ⟨b,0,none⟩→b0≤b)
  (k: ∀b' c' o',(p=some ⟨b',0,none⟩∨F b'=none∧b0<b')→gU (F.plus b' o') e ti.size (some ⟨b',0,none⟩) (n+m) c' (cs++vs)→dT P tb N false all rest K [] ⟨(d,.v (.slice (some ⟨b',0,none⟩) (n+m) c'))::env,F.plus b' o',rs,nx⟩):
  dT P tb N false all (⟨some d,.call ⟨.builtin .append,#[x,y],#[t1,t2]⟩,ty,pos,af,none⟩::rest) K [] ⟨env,F,rs,nx⟩:=by
 simp only[aL,Nat.blt_eq,Nat.beq_eq]at h0;obtain⟨⟨hs0,hz0⟩,K0⟩:=h0;obtain⟨i,z,hinfo,hsz,hby,hz,hzs⟩:=oI htb hi;have hut:=jm htb ht;have hnm:n+m≤(n+m) * ti.bytes:=Nat.le_mul_of_pos_right _ K0;obtain⟨p1,p2,p3⟩:=hp;refine nY (ι:={ q:Nat×Nat×Obj // (p=some ⟨q.1,0,none⟩∨F q.1=none∧b0<q.1)∧gU (F.plus q.1 q.2.2) e ti.size (some ⟨q.1,0,none⟩) (n+m) q.2.1 (cs++vs) }) (fun q=>.v (.slice (some ⟨q.1.1,0,none⟩) (n+m) q.1.2.1)) (env:=fun _=>env) (F:=fun q=>F.plus q.1.1 q.1.2.2) (rs:=fun _=>rs) (nx:=fun _=>nx) hd (fun c' a w o hs ho=>?_) (fun q=>k q.1.1 q.1.2.1 q.1.2.2 q.2.1 q.2.2);have ex:=fI hs hx;simp only[EV.val,aa]at ex;obtain⟨m',news',vs',⟨rfl,rfl⟩,s1,s2,s3,s4⟩:=BW (P:=P) htb hs hs0 ht2 (K:=fun m' n'=>m'=m∧n'=vs.map .v) (hsrc _ ⟨hone,rfl,rfl⟩);have hvs:vs'=vs:=by
  apply List.ext_getElem?;intro j;rw[ab]at s2;by_cases hj:j<vs.length
  ·have:=s4 j (.v vs[j]) vs[j] (by rw[aI,ao hj];rfl) rfl;rw[this,ao hj]
  rw[cy (by omega),cy (by omega)]
 subst hvs;have FV: ∀{b' cap':Nat} {cur:Array Value},n+m'≤cap'→cur.size=cap' * ti.size→cur.toList.take ((n+m') * ti.size)=cs++vs'→gU (F.plus b' (.cells cur e (0,0))) e ti.size (some ⟨b',0,none⟩) (n+m') cap' (cs++vs'):=fun {b' cap' cur} h1 h2 h3=>by
  refine⟨by rw[ag,p1,hnl,←dc],h1,.inr ⟨b',cur,rfl,?_,h2,h3⟩⟩;show (if b'=b' then some _ else F b')=_;rw[aZ rfl]
 have hgrow:c<n+m'→(Builtin.firstCells i.size n (.slice p n c)).run P w.drew= .ok cs.toArray w.drew→∃(q:{ q:Nat×Nat×Obj // (p=some ⟨q.1,0,none⟩∨F q.1=none∧b0<q.1)∧gU (F.plus q.1 q.2.2) e ti.size (some ⟨q.1,0,none⟩) (n+m') q.2.1 (cs++vs') }) (v:Value) (w':World),(execOp a.eval o).run P w= .ok (.value v) w'∧fF c' N [] ⟨env,F.plus q.1.1 q.1.2.2,rs,nx⟩ a w'∧(EV.v (.slice (some ⟨q.1.1,0,none⟩) (n+m') q.1.2.1)).val rs=some v:=fun hg hold=>by
  have hrun:=run_append_grow_src w t1 t2 o.type e i z hut hinfo hz p n c cs hold (a.eval y) m' vs' (by rw[hsz];exact s1) hg (by omega) (growslice_fits hg (by rw[hby];exact hb));have hge:=grownCap_ge w (n+m') c e;rw[ex]at hrun;obtain⟨f1,f2⟩:=px (fF.drewN hs) (.cells ((cs++vs').toArray++Builtin.zeroCells z.cells (grownCap w (n+m') c e - (n+m'))) e);have hzl:(Builtin.zeroCells z.cells (grownCap w (n+m') c e - (n+m'))).size=(grownCap w (n+m') c e - (n+m')) * ti.size:=by rw[size_zeroCells,hzs,hz0]
  refine⟨⟨(w.heap.size,grownCap w (n+m') c e,.cells ((cs++vs').toArray++Builtin.zeroCells z.cells (grownCap w (n+m') c e - (n+m'))) e),.inr ⟨f1,gJ (hs.fO.le _ _ YR)⟩,FV hge ?_ ?_⟩,_,_,ie ho rfl rfl hrun,f2,rfl⟩
  ·rw[Array.size_append,c8,ag,p1,hnl,hzl,←dc,←dc];congr 1;dsimp only;omega
  rw[Array.toList_append,da (by simp only[ag,p1,hnl,←dc];exact ah _)];exact an (by simp only[ag,p1,hnl,←dc];exact ah _)
 rcases p3 with⟨rfl,rfl,rfl⟩ | ⟨b,cur,rfl,q1,q2,q3⟩
 ·have hcs:cs=[]:=aq (by rw[p1,dv]);subst hcs;exact hgrow (by omega) (run_firstCells_none _ _ _ _ _)
 have qB:=hs.fO.le _ _ q1;by_cases hroom:n+m'≤c
 ·have hfit:n * ti.size+vs'.length≤cur.size:=by
   rw[q2,hnl,←dc];exact dq _ hroom
  have hrun:=l8 (P:=P) w t1 t2 o.type e i hut hinfo b n c (a.eval y) m' vs' (by rw[hsz];exact s1) hroom qB (by rw[hsz];exact hfit);rw[ex,hsz]at hrun;have hp:g9 [b] w (w.setRow b (cur.toList.take (n * ti.size)++vs'++cur.toList.drop (n * ti.size+vs'.length)).toArray):=⟨rfl,rfl,rfl,by simp[World.setRow],fun k _ hk=>setRow_other w b k _ (by simpa using hk)⟩;refine⟨⟨(b,c,.cells (cur.toList.take (n * ti.size)++vs'++cur.toList.drop (n * ti.size+vs'.length)).toArray e),.inl rfl,FV hroom ?_ ?_⟩,_,_,ie ho rfl rfl hrun,um hs hr hb0 (HV b rfl) q1 hp (setRow_heap w b cur _ _ _ qB),rfl⟩
  ·simp only[c8,ag,aw,aR,bj];omega
  simp only[q3];rw[da (by rw[ag,p1,hnl,←dc];exact ah _)];exact an (by rw[ag,p1,hnl,←dc];exact ah _)
 refine hgrow (by omega) ?_;rw[hsz];refine run_firstCells_some (P:=P) w.drew ti.size n ⟨b,0,none⟩ n c cs p1 fun j u hj=>?_;have hj':j<n * ti.size:=by rw[←p1];exact (cz.1 hj).1
 rw[←q3,cB,aZ hj']at hj;rw[kI];show w.cell? _=some u;simp only[World.cell?,qB];simpa using hj
def Ac (o:Obj)(b:Nat)(es:Array MapEntry)(clock:Nat)(dn:List (List UInt8)):Prop:=
 ∃since seen c0,o= .mapIter (some b) since seen c0∧since≤c0∧since≤clock∧(∀x∈es.toList,x.born<since)∧(∀x∈es.toList,∀s,x.key=S s→(x.born∈seen ↔ s∈dn))∧
  ∀s t,dn=s::t→c0=clock∧ ∃x∈es.toList,x.key=S s∧seen.back? =some x.born
theorem LZ {b:Nat}{es:Array MapEntry}{clock:Nat}{m:List UInt8→Option Value}(h:iF es clock m):Ac (.mapIter (some b) clock #[] clock) b es clock []:=
 ⟨clock,#[],clock,rfl,ah _,ah _,h.st.1,fun x _ s _=>by simp,fun s t h=>by cases h⟩
theorem IX {d:Nat}{t kt et:TypeId}{x:Operand}{b b0:Nat}{o0:Obj}{es:Array MapEntry}{clock:Nat}{m:List UInt8→Option Value}(hm:P.underlying t=some (.map kt et))(hx:gL rs [] env [] x=some (.v (.map (some b))))(hd:Nat.blt d N=true)(hF:F b=some (.map es clock))(YR:F b0=some o0)(hM:iF es clock m)
  (k: ∀it o,F it=none→b0<it→Ac o b es clock []→dT P tb N false all rest K [] ⟨(d,.v (.pointer (some ⟨it,0,none⟩)))::env,F.plus it o,rs,nx⟩):
  dT P tb N false all (⟨some d,.range t x,ty,pos,af,none⟩::rest) K [] ⟨env,F,rs,nx⟩:=by
 refine nY (ι:={ q:Nat×Obj // F q.1=none∧b0<q.1∧Ac q.2 b es clock [] }) (fun q=>.v (.pointer (some ⟨q.1.1,0,none⟩))) (env:=fun _=>env) (F:=fun q=>F.plus q.1.1 q.1.2) (rs:=fun _=>rs) (nx:=fun _=>nx) hd (fun c a w o hs ho=>?_) (fun q=>k q.1.1 q.1.2 q.2.1 q.2.2.1 q.2.2.2);have ex:=fI hs hx;simp only[EV.val,aa]at ex;have hb:=hs.fO.le _ _ hF;obtain⟨h1,h2⟩:=px hs (.mapIter (some b) clock #[] clock);refine⟨⟨(w.heap.size,.mapIter (some b) clock #[] clock),h1,gJ (hs.fO.le _ _ YR),LZ hM⟩,.pointer (some ⟨w.heap.size,0,none⟩),w.alloc (.mapIter (some b) clock #[] clock),?_,h2,rfl⟩;simp only[execOp,ho,←ex];rw[run_bind,run_range_map w t kt et b es clock hm hb];rfl
theorem MY {d:Nat}{x:Operand}{it b b0 id:Nat}{r:kj}{oi:Obj}{es:Array MapEntry}{clock:Nat}{dn:List (List UInt8)}(m:List UInt8→Option Value)(hx:gL rs [] env [] x=some (.v (.pointer (some ⟨it,0,none⟩))))(hd:Nat.blt d N=true)(hF:F b=some (.map es clock))(W9:F it=some oi)(hI:Ac oi b es clock dn)(hM:iF es clock m)
  (hr:fR rs id=some r) (hb0:r.at b0) (hle:b0≤it)
  (k0:(∀s v,m s=some v→s∈dn)→dT P tb N false all rest K [] ⟨(d,.v (.tuple #[.bool false]))::env,F,rs,nx⟩)
  (k1: ∀s v o',m s=some v→s ∉ dn→Ac o' b es clock (s::dn)→dT P tb N false all rest K [] ⟨(d,.v (.tuple #[.bool true,S s,v]))::env,F.plus it o',rs,nx⟩):
  dT P tb N false all (⟨some d,.next x false,ty,pos,af,none⟩::rest) K [] ⟨env,F,rs,nx⟩:=by
 refine nY (ι:={ q:Option (List UInt8×Value×Obj) // match q with
   | none=>∀s v,m s=some v→s∈dn
   | some (s,v,o')=>m s=some v∧s ∉ dn∧Ac o' b es clock (s::dn) }) (fun q=>match q.1 with
   | none=>.v (.tuple #[.bool false])
   | some (s,v,_)=>.v (.tuple #[.bool true,S s,v])) (env:=fun _=>env) (F:=fun q=>match q.1 with
   | none=>F
   | some (_,_,o')=>F.plus it o') (rs:=fun _=>rs) (nx:=fun _=>nx) hd (fun c a w o hs ho=>?_) (fun q=>?_)
 ·have ex:=fI hs hx;simp only[EV.val,aa]at ex;have hb:=hs.fO.le _ _ hF;have hbi:=hs.fO.le _ _ W9;obtain⟨since,seen,c0,rfl,i1,hc0,i2,i3,i4⟩:=hI;have hrun: ∀{v:Value} {w':World},(Instr.next (.pointer (some ⟨it,0,none⟩)) false o.type).run P w= .ok v w'→(execOp a.eval o).run P w= .ok (.value v) w':=fun {v w'} h=>by
   simp only[execOp,ho,←ex];rw[run_bind,h];rfl
  rcases run_next_at (P:=P) w o.type it b since c0 seen es clock hbi hb i2 i1 with⟨n1,n2⟩ | ⟨e,n1,w1,n2,n3⟩
  ·refine⟨⟨none,fun s v hsv=>?_⟩,_,w,hrun n2,hs,rfl⟩;obtain⟨x,hx1,hx2,hx3⟩:=hM.has s v hsv;refine (i3 x hx1 s hx2).1 ?_;have:=Array.eq_empty_of_size_eq_zero n1;unfold leftOf at this;rw[Array.filter_eq_empty_iff]at this;have:=this x (by simpa using hx1);simpa using this
  have hel:e∈es.toList∧e.born ∉ seen:=by
   unfold leftOf at n1;simp only[Array.toList_filter,cQ,bz,Array.contains_eq_mem,aU]at n1;exact n1
  obtain⟨s,hsk⟩:=hM.key e hel.1;have hsd:s ∉ dn:=fun hh=>hel.2 ((i3 e hel.1 s hsk).2 hh);have hw1:fF c N [] ⟨env,F,rs,nx⟩ a w1:=by
   rcases n2 with rfl | rfl
   ·exact hs
   exact fF.drewN hs
  have YT:w1.heap[it]? =some (.mapIter (some b) since seen c0):=by rcases n2 with rfl | rfl<;>exact hbi
  refine⟨⟨some (s,e.val,.mapIter (some b) since (seen.push e.born) clock),hM.get e hel.1 s hsk,hsd,since,seen.push e.born,clock,rfl,hc0,hc0,i2,fun x hx1 s' hs'=>?_,fun s' t' h'=>?_⟩,_,_,hrun n3,um hw1 hr hb0 hle W9 (sO w1 it _) (wH _ YT),?_⟩
  ·rw[Array.mem_push,aT,i3 x hx1 s' hs'];have hinj:x.born=e.born ↔ s'=s:=by
    constructor
    ·intro hbn;have:=HB hM.st.2.1 hx1 hel.1 hbn;subst this;exact I1 (hs'.symm.trans hsk)
    rintro rfl;have:=AV hM.st.2.2 hx1 hel.1 (hs'.trans hsk.symm);rw[this]
   rw[hinj,or_comm]
  ·obtain⟨rfl,rfl⟩:=List.cons.inj h';exact⟨rfl,e,hel.1,hsk,by simp⟩
  exact a8 (fun u=>some (Value.tuple #[.bool true,u,e.val])) hsk.symm
 obtain⟨q,hq⟩:=q;cases q with
 | none=>exact k0 hq
 | some q=>
  obtain⟨s,v,o'⟩:=q;exact k1 s v o' hq.1 hq.2.1 hq.2.2
theorem H7 {d:Nat}{x:Operand}{it b:Nat}{oi:Obj}{es:Array MapEntry}{clock:Nat}{s:List UInt8}{v:Value}{dn:List (List UInt8)}(m:List UInt8→Option Value)(hx:gL rs [] env [] x=some (.v (.pointer (some ⟨it,0,none⟩))))(hd:Nat.blt d N=true)(hF:F b=some (.map es clock))(W9:F it=some oi)(hI:Ac oi b es clock (s::dn))(hM:iF es clock m)(hv:m s=some v)
  (k:dT P tb N false all rest K [] ⟨(d,.v (.tuple #[S s,v]))::env,F,rs,nx⟩):
  dT P tb N false all (⟨some d,.entry x,ty,pos,af,none⟩::rest) K [] ⟨env,F,rs,nx⟩:=by
 refine q9 (.v (.tuple #[S s,v])) hd (fun c a w o hs ho=>?_) k;have ex:=fI hs hx;simp only[EV.val,aa]at ex;have hb:=hs.fO.le _ _ hF;have hbi:=hs.fO.le _ _ W9;obtain⟨since,seen,c0,rfl,i1,hc0,i2,i3,i4⟩:=hI;obtain⟨rfl,e,he,hk,hlast⟩:=i4 s dn rfl;have hev:e.val=v:=by
  have:=hM.get e he s hk;rw[hv]at this;exact (dy this).symm
 refine⟨_,w,?_,hs,rfl⟩;simp only[execOp,ho,←ex];have hf:es.find? (·.born==e.born)=some e:=by rw[←Array.find?_toList];exact find_born e es.toList hM.st.2.1 he
 have hrun:(Instr.entry (.pointer (some ⟨it,0,none⟩))).run P w= .ok (.tuple #[e.key,e.val]) w:=by
  simp only[Instr.entry,getObj,Sem.run_bind,Sem.run,hbi,hb,Result.andThen,hlast,bne_self_eq_false,bq,dB,hf];rfl
 rw[run_bind,hrun,hk,hev];rfl
end
end Go.TR
