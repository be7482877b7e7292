/- A part of the proof. -/
import Derived.Maps.OwnSet
import Derived.Sort.KeysCollected
import Derived.StringKeys
import Derived.Shelf.SlLaysZ
import Derived.Shelf.SlIter.Collect
import Derived.Test.YthbnddgjkonkdaaGreatDoorSetClerk1
set_option linter.unusedVariables false
set_option linter.unusedSimpArgs false
namespace Go.TR
open Go
def mV (es:Array MapEntry):List (List UInt8):=es.toList.map fun x=>match x.key with
 | .string s=>s.data.toList
 | _=>[]
theorem Pp {P:Program}{H:Type}{k:TypeId}(hk:P.underlying k=some .string){w:World}{b:Nat}{es:Array MapEntry}{clock:Nat}{m:List UInt8→Option Value}(hb:w.heap[b]? =some (.map es clock))(hM:iF es clock m)(hs:es.size≤maxLen)(hl: ∀s v,m s=some v→s.length≤maxLen):
  ∃D0:DataW H,w.ownsMap P k (fun _=>some (.nil,[])) b es.size D0∧Maps.size D0=es.size∧(strKeys D0).Perm (mV es):=by
 have hrd: ∀x∈es.toList,∃s:List UInt8,x.key=S s∧WideElems.rd (H:=H) P k (fun _=>some (.nil,[])) x=some (.string s,.nil):=fun x hx=>by
  obtain⟨s,hs⟩:=hM.key x hx;refine⟨s,hs,?_⟩;have hlen:=hl s x.val (hM.get x hx s hs);have h1:keyOf P k x.key=some (.string s):=by
   rw[hs];exact WideMaps.keyOf_string_mk hk (s:=jB s) (by show (jB s).data.size≤_;simpa [jB] using hlen)
  have:=WideElems.rd_mk (R:=fun _=>some ((.nil:DataW H),[])) (val:=x.val) (born:=x.born) h1 rfl;simpa using this
 have F:WideElems.Fit (H:=H) P k (fun _=>some (.nil,[])) es clock:=⟨hs,hM.st,fun x hx=>by
  obtain⟨s,_,h⟩:=hrd x hx;exact⟨_,h⟩⟩
 have hrg: ∀x∈es.toList,∃s:List UInt8,x.key=S s∧WideElems.rg (H:=H) P k (fun _=>some (.nil,[])) x=(.string s,.nil):=fun x hx=>by
  obtain⟨s,h1,h2⟩:=hrd x hx;exact⟨s,h1,WideElems.rg_of h2⟩
 refine⟨_,World.ownsMap_of_fit hb F (fun _ _ _ h=>h),?_,?_⟩
 ·rw[Maps.size_eq,(WideShapes.sorted_perm _).length_eq,ab];simp
 show (List.map (fun p:Lit×DataW H=>strOf p.1) _).Perm _;refine ((WideShapes.sorted_perm _).map _).trans ?_;rw[cL];refine List.Perm.of_eq ?_;unfold mV;refine List.map_congr_left fun x hx=>?_;obtain⟨s,h1,h2⟩:=hrg x hx;simp only[Function.comp,h2,h1];rfl
theorem Ag {es:Array MapEntry}{clock:Nat}{m:List UInt8→Option Value}(hM:iF es clock m):(mV es).Nodup:=by
 unfold mV;have hn:=hM.st.2.2;rw[List.nodup_iff_pairwise_ne,List.pairwise_map]at *;refine hn.imp_of_mem fun {a b} ha hb h=>?_;obtain⟨s,hs⟩:=hM.key a ha;obtain⟨t,ht⟩:=hM.key b hb;rw[hs,ht]at h ⊢;exact fun e=>h (by
  simp only[S,jB]at e ⊢;rw[show s=t from by simpa using e])
theorem Eh {es:Array MapEntry}{clock:Nat}{m:List UInt8→Option Value}(hM:iF es clock m)(s:List UInt8):s∈mV es ↔ (m s).isSome=true:=by
 unfold mV;rw[aG];constructor
 ·rintro⟨x,hx,e⟩;obtain⟨t,ht⟩:=hM.key x hx;rw[ht]at e;have:t=s:=by simpa [S,jB] using e
  subst this;rw[hM.get x hx t ht];rfl
 intro h;obtain⟨v,hv⟩:=Option.isSome_iff_exists.1 h;obtain⟨x,hx,hk,_⟩:=hM.has s v hv;exact⟨x,hx,by rw[hk];simp[S,jB]⟩
end Go.TR
namespace Go.Proofs.YthbnddgjkonkdaaGreatDoor
section
open Go.Shelf Go.Proofs
def D3:Go.Shelf.Ren:=⟨fun | 7=>95 | 10=>152 | n=>n,fun | 23=>194 | 26=>9 | 3=>4 | 28=>197 | 0=>0 | 27=>196 | 33=>99 | 4=>4 | n=>n,fun | n=>n⟩
theorem It:SlLaysZ.n7 Tryz.prog D3:={
 mixed:=by kernel_rfl,
 f7:=⟨Tryz.f95.name,by kernel_rfl,Tryz.func95.trans (congrArg some (by kernel_rfl))⟩,
 f10:=⟨Tryz.f152.name,by kernel_rfl,Tryz.func152.trans (congrArg some (by kernel_rfl))⟩,
 t0:=Tryz.underlying0,
 a0:=Tryz.isAgg0,
 z0:=Tryz.sizeOf0,
 v0:=Tryz.zeroValue0,
 t4:=Tryz.underlying4,
 a4:=Tryz.isAgg4,
 z4:=Tryz.sizeOf4,
 v4:=Tryz.zeroValue4,
 t23:=Tryz.underlying194,
 a23:=Tryz.isAgg194,
 z23:=Tryz.sizeOf194,
 v23:=Tryz.zeroValue194,
 t26:=Tryz.underlying9,
 a26:=Tryz.isAgg9,
 z26:=Tryz.sizeOf9,
 v26:=Tryz.zeroValue9,
 t27:=Tryz.underlying196,
 a27:=Tryz.isAgg196,
 z27:=Tryz.sizeOf196,
 v27:=Tryz.zeroValue196,
 t28:=Tryz.underlying197,
 a28:=Tryz.isAgg197,
 z28:=Tryz.sizeOf197,
 v28:=Tryz.zeroValue197,
 t33:=Tryz.underlying99,
 a33:=Tryz.isAgg99,
 z33:=Tryz.sizeOf99,
 v33:=Tryz.zeroValue99 }
end
section
open Go.Shelf Go.Proofs
def zJ:Go.Shelf.Ren:=⟨fun | 8=>94 | 11=>151 | n=>n,fun | 26=>9 | 28=>197 | 24=>54 | 0=>0 | 33=>99 | 4=>4 | n=>n,fun | n=>n⟩
theorem GO:SlLaysZ.n8 Tryz.prog zJ:={
 mixed:=by kernel_rfl,
 f8:=⟨Tryz.f94.name,by kernel_rfl,Tryz.func94.trans (congrArg some (by kernel_rfl))⟩,
 f11:=⟨Tryz.f151.name,by kernel_rfl,Tryz.func151.trans (congrArg some (by kernel_rfl))⟩,
 t0:=Tryz.underlying0,
 a0:=Tryz.isAgg0,
 z0:=Tryz.sizeOf0,
 v0:=Tryz.zeroValue0,
 t24:=Tryz.underlying54,
 a24:=Tryz.isAgg54,
 z24:=Tryz.sizeOf54,
 v24:=Tryz.zeroValue54,
 t26:=Tryz.underlying9,
 a26:=Tryz.isAgg9,
 z26:=Tryz.sizeOf9,
 v26:=Tryz.zeroValue9,
 t28:=Tryz.underlying197,
 a28:=Tryz.isAgg197,
 z28:=Tryz.sizeOf197,
 v28:=Tryz.zeroValue197,
 i26:=by kernel_rfl }
end
section
open Go.TR Go.RowKit Go.Shelf Go.Proofs
theorem Oz (mb:Nat)(F:Hp):iu Tryz.prog F 95 [.map (some mb)] (fun x F'=>∃b,x= .func (.func 152) #[] #[.pointer (some ⟨b,0,none⟩)]∧jx F' ⟨b,0,none⟩=some (.map (some mb))):=by
 intro w hw;refine (callsIn_wide.1 (AnyZ.keys_in It Fence.wide 3 trivial rfl (some mb) w)).mono ?_;rintro e w' ⟨rfl,rfl⟩;have hb:F w.heap.size=none:=by
  cases h:F w.heap.size with
  | none=>rfl
  | some o=>have:=hw _ _ h;simp at this
 have hbl:Below w.heap.size w (w.alloc (.cells #[.map (some mb)] 194)):=(Below.refl _ w).alloc (Nat.le_refl _) _;refine⟨_,F.plus w.heap.size (.cells #[.map (some mb)] 194),[],rfl,fun k o e=>?_,fun k o e=>?_,⟨hbl.os,hbl.tape,hbl.output,hbl.size,fun k hk _=>hbl.block k hk⟩,fun k hk=>?_,⟨fun id r h=>by simp[fR]at h,fun i j r s b h=>by simp[fR]at h⟩,fun id r b h=>by simp[fR]at h,rfl,w.heap.size,rfl,?_⟩
 ·unfold Hp.plus;rw[if_neg (by rintro rfl;rw[hb]at e;cases e)];exact e
 ·unfold Hp.plus at e;split at e
  ·rename_i hk;cases e;rw[hk];exact World.alloc_heap_new w _
  have:=hw _ _ e;exact (hbl.block k (Array.getElem?_eq_some_iff.1 this).1).trans this
 ·unfold Hp.plus at hk;split at hk
  ·rename_i h;exact .inr (by omega)
  exact .inl hk
 simp[jx,Hp.plus]
theorem Gr {es:Array MapEntry}{clock mb b:Nat}{m:List UInt8→Option Value}{F:Hp}(hF:F mb=some (.map es clock))(hM:iF es clock m)(hb:jx F ⟨b,0,none⟩=some (.map (some mb)))(hs:es.size≤1000000)(hl: ∀s v,m s=some v→s.length≤4611686018427387904):
  iu Tryz.prog F 94 [.func (.func 152) #[] #[.pointer (some ⟨b,0,none⟩)]] (fun x F'=>∃p c,x= .slice p es.size c):=by
 intro w hw;obtain⟨D0,h1,h2,h3⟩:=Pp (H:=Unit) Tryz.underlying9 (hw _ _ hF) hM (by unfold maxLen;omega) (fun s v h=>by have:=hl s v h;unfold maxLen;omega);have hBm:b<w.heap.size:=by
  have:=jx.world hw hb;unfold World.cell? at this;split at this
  ·rename_i h;exact (Array.getElem?_eq_some_iff.1 h).1
  cases this
 have eg: ∀args w,(callFunc 152 args).run Tryz.prog w= .ok (.enter 152 args) w:=enters_of Tryz.func152 (by kernel_rfl) rfl;have Rc:=AnyZ.keys_gives (L:={ It with }) Fence.wide 4 trivial rfl (by decide) b mb es.size D0 w hBm (jx.world hw hb) h1;rw[h2]at Rc;have hc:=AnyZ.collect_in GO Fence.wide 6 trivial trivial rfl (by decide) 152 #[.pointer (some ⟨b,0,none⟩)] trivial eg _ es.size (by unfold maxLen;omega) (by omega) w Rc;refine (callsIn_wide.1 hc).mono ?_;rintro e w' ⟨v,ss,rfl,hp,hrow,_,hbl⟩;have hlen:ss.length=es.size:=by
  rw[hp.length_eq,h3.length_eq];unfold mV;simp
 refine⟨_,F,[],rfl,fun _ _ h=>h,fun k o e=>?_,⟨hbl.os,hbl.tape,hbl.output,hbl.size,fun k hk _=>hbl.block k hk⟩,fun k hk=>.inl hk,⟨fun id r h=>by simp[fR]at h,fun i j r s b h=>by simp[fR]at h⟩,fun id r b h=>by simp[fR]at h,rfl,?_⟩
 ·have:=hw _ _ e;exact (hbl.block k (Array.getElem?_eq_some_iff.1 this).1).trans this
 rcases hrow.2 with⟨rfl,h0⟩ | ⟨g,cap,cur,rfl,_⟩
 ·exact⟨none,0,by rw[←hlen,h0]⟩
 exact⟨_,_,by rw[hlen]⟩
theorem MI {es:Array MapEntry}{clock:Nat}{m:List UInt8→Option Value}(hM:iF es clock m){L:List (List UInt8)}(h: ∀s,(m s).isSome=true ↔ s∈L):es.size=(kU L).length:=by
 have e1:(mV es).length=es.size:=by unfold mV;simp
 rw[←e1];have hm: ∀s,s∈mV es ↔ s∈kU L:=fun s=>by rw[Eh hM,h,mD]
 exact Nat.le_antisymm (rq (Ag hM) (fun s hs=>(hm s).1 hs)) (rq (qu (pQ L)) (fun s hs=>(hm s).2 hs))
end
section
open Go.TR
def Holds (m:List UInt8→Option Value)(L:List (List UInt8)):Prop:=∀s,(m s).isSome=true ↔ s∈L
theorem Holds.nil:Holds (fun _=>none) []:=fun s=>by simp
theorem Holds.step {m:List UInt8→Option Value}{L:List (List UInt8)}(h:Holds m L)(q:List UInt8)(v:Value):Holds (ox m q v) (L++[q]):=fun s=>by
 unfold ox;by_cases hs:s=q
 ·rw[aZ hs];simp[hs]
 rw[aY hs,h s];simp[hs]
theorem zC:Tryz.prog.underlying 194=some (.map 9 4):=Tryz.underlying194
theorem ye:Tryz.prog.underlying 9=some .string:=Tryz.underlying9
attribute [local irreducible] vc dT gx fc fA gC gG gw fG Plain eu eR dH VS fq fx fD ju fe IntKind.wrap
attribute [local irreducible] dV gK gH Hp.plus ox kU
set_option maxRecDepth 100000
set_option maxHeartbeats 4000000
theorem N4 (c:eE)(a:jf)(bs:List Bk)(more:List (List UInt8))(hw:c.wf)(h0:0<c.ee.length)(hb:bs.map (·.2.1)=c.ee)(hlen:(jE c more).length≤1000000)(hm: ∀s∈more,s.length≤4611686018427387904){F:Hp}(hfw:eY F a.w (c.queue.wait.flatMap Ask.cells))(wW:eY F a.b (bs.map Bk.v))(hbs: ∀s∈bs,Bk.at F s){pm:Option Addr}{cm:Nat}(hfm:eY F pm (more.map S)):
  Plain Tryz.prog F 39 [c.v a,.slice pm more.length cm] (i64 ((jF c more:Nat):Int)):=by
 refine dN (N:=49) (rv:=[.tmp 4]) eP mixed Tryz.func39 rfl rfl rfl rfl rfl ?_;(refine run ?_;repeat intro b);refine A9 rfl (fun b0 hb0=>?_);have hs0:F.sub (F.plus b0 (.map #[] 0)):=Eg hb0;obtain⟨sl,hsl,hsl2,hlast⟩:=ID c a bs h0 hw.OG hb (dZ hs0 wW);have hrow:eY F sl.1 ((gH c).flatMap Entry.row):=by rw[←hsl2];exact (hbs sl hsl).2
 have hwl: ∀x∈gH c,x.wf:=(hw.ee _ (mO h0)).2;have hN:(gH c).length+c.queue.wait.length+more.length≤1000000:=by
  have:=hlen;unfold jE at this;simp only[ag,ab]at this;omega
 have oV:jE c more=(gH c).map Entry.name++c.queue.wait.map Ask.name++more:=rfl;have hbig: ∀s∈jE c more,s.length≤4611686018427387904:=fun s hs=>by
  rw[oV]at hs;rcases aK.1 hs with hs | hs
  ·rcases aK.1 hs with hs | hs
   ·obtain⟨x,hx,rfl⟩:=aG.1 hs;exact (hwl x hx).1
   obtain⟨x,hx,rfl⟩:=aG.1 hs;exact (hw.queue.wait x hx).name
  exact hm s hs
 obtain⟨ps,ls,cs⟩:=sl;simp only at hsl2 hrow;subst hsl2;unfold jF;rw[oV]at hbig ⊢;generalize gH c=ls at *;generalize jE c more=LL at oV hlen;(refine run ?_;repeat intro b);refine dG _ rfl rfl rfl Th rfl hlast ?_;(refine run ?_;repeat intro b);revert b;intro b2;refine eU (fun q:Nat×Array MapEntry×Nat×Hp=>q.1≤ls.length∧F.sub q.2.2.2∧q.2.2.2 b0=some (.map q.2.1 q.2.2.1)∧ ∃m,iF q.2.1 q.2.2.1 m∧Holds m (((ls.take q.1).map Entry.name)))
  (fun q=>⟨[(1,.v (.slice pm more.length cm)),(2,.loc 0 0),(5,.v (.map (some b0))),(14,.v (.slice ps ls.length cs)),(15,.v (i64 (ls.length:Nat))),(16,.v (i64 (q.1:Nat)))],q.2.2.2,[(1,Go.TR.mark b0),(0,⟨some b2,[.v (i64 c.queue.most),.v (.slice a.w c.queue.wait.length a.cw),.v (i64 c.batch),.v (i64 c.every),.v (i64 c.now),.v (.slice a.h c.dP.length a.ch),.v (.slice a.b c.ee.length a.cb)],28,7⟩)],2⟩) (fun q=>ls.length - q.1) (0,#[],0,F.plus b0 (.map #[] 0))
  ⟨az _,hs0,kJ ..,_,iF.empty,Holds.nil⟩ (VS.eH [1,2,5,14,15,16] rfl rfl) ?_
 rintro⟨k,es,clock,G⟩ ⟨hk,hs,hG,m,hM,hL⟩;dsimp only at hk hs hG hM hL ⊢;by_cases hlt:k<ls.length
 ·have htk:ls.take (k+1)=ls.take k++[ls[k]]:=al hlt;have hf0:=dZ hs hrow;obtain⟨o1,o2⟩:=eZ eI (by decide) hf0 k hlt;have hgx:(ls.take (k+1)).map Entry.name=(ls.take k).map Entry.name++[ls[k].name]:=by rw[htk,aF];rfl
  generalize ls[k]=x at o2 hgx;(refine run ?_;repeat intro b);refine gm rfl (by omega) ?_;(refine run ?_;repeat intro b);refine dI rfl rfl rfl ⟨by omega,by omega,dO hf0 (j:=k * 2) (by rw[dL eI];omega)⟩ ?_;refine fy x.row rfl rfl rfl rfl rfl (by rw[ae];exact o1) (by rw[ae];exact o2) ?_;(refine run ?_;repeat intro b);refine mg (id:=1) m x.name zC ye rfl rfl rfl rfl (mY b0) (ah _) hG hM (fun es2 clock2 hM2=>?_);(refine run ?_;repeat intro b);rw[dQ (by omega)];exact iH (k+1,es2,clock2,G.plus b0 (.map es2 clock2)) [2] [1,2,5,14,15,16] ⟨hlt,fun j o hj=>by show (G.plus b0 _) j=some o;rw[iC (by rintro rfl;rw[hb0]at hj;cases hj)];exact hs j o hj,kJ ..,_,hM2,by
   have:=hL.step x.name (.bool true);rw[hgx];exact this⟩ (by simp only;omega) rfl rfl rfl rfl ⟨⟨(show 1<2 by decide),fun e he=>lu [_] e he⟩,⟨(show 0<2 by decide),fun e he=>lu [_,_,_,_,_,_,_] e he⟩,trivial⟩ rfl
 have hge:k=ls.length:=by omega
 subst hge;rw[aD]at hL;(refine run ?_;repeat intro b);refine gu rfl (by omega) ?_;(refine run ?_;repeat intro b);refine eU (fun q:Nat×Array MapEntry×Nat×Hp=>q.1≤c.queue.wait.length∧F.sub q.2.2.2∧q.2.2.2 b0=some (.map q.2.1 q.2.2.1)∧ ∃m,iF q.2.1 q.2.2.1 m∧Holds m (ls.map Entry.name++((c.queue.wait.take q.1).map Ask.name)))
  (fun q=>⟨[(1,.v (.slice pm more.length cm)),(2,.loc 0 0),(5,.v (.map (some b0))),(26,.v (.slice a.w c.queue.wait.length a.cw)),(27,.v (i64 (c.queue.wait.length:Nat))),(28,.v (i64 (q.1:Nat)))],q.2.2.2,[(1,Go.TR.mark b0),(0,⟨some b2,[.v (i64 c.queue.most),.v (.slice a.w c.queue.wait.length a.cw),.v (i64 c.batch),.v (i64 c.every),.v (i64 c.now),.v (.slice a.h c.dP.length a.ch),.v (.slice a.b c.ee.length a.cb)],28,7⟩)],2⟩) (fun q=>c.queue.wait.length - q.1) (0,es,clock,G)
  ⟨az _,hs,hG,m,hM,by rw[db,cM,bT];exact hL⟩ (VS.eH [1,2,5,26,27,28] rfl rfl) ?_
 rintro⟨k,es,clock,G⟩ ⟨hk,hs,hG,m,hM,hL⟩;dsimp only at hk hs hG hM hL ⊢;by_cases hlt:k<c.queue.wait.length
 ·have htk:c.queue.wait.take (k+1)=c.queue.wait.take k++[c.queue.wait[k]]:=al hlt;have hf0:=dZ hs hfw;obtain⟨o1,o2⟩:=eZ gj (by decide) hf0 k hlt;have hgx:(c.queue.wait.take (k+1)).map Ask.name=(c.queue.wait.take k).map Ask.name++[c.queue.wait[k].name]:=by rw[htk,aF];rfl
  generalize c.queue.wait[k]=x at o2 hgx;(refine run ?_;repeat intro b);refine gm rfl (by omega) ?_;(refine run ?_;repeat intro b);refine dI rfl rfl rfl ⟨by omega,by omega,dO hf0 (j:=k * 4) (by rw[dL gj];omega)⟩ ?_;refine fy x.cells rfl rfl rfl rfl rfl (by rw[ae];exact o1) (by rw[ae];exact o2) ?_;(refine run ?_;repeat intro b);refine mg (id:=1) m x.name zC ye rfl rfl rfl rfl (mY b0) (ah _) hG hM (fun es2 clock2 hM2=>?_);(refine run ?_;repeat intro b);rw[dQ (by omega)];exact iH (k+1,es2,clock2,G.plus b0 (.map es2 clock2)) [2] [1,2,5,26,27,28] ⟨hlt,fun j o hj=>by show (G.plus b0 _) j=some o;rw[iC (by rintro rfl;rw[hb0]at hj;cases hj)];exact hs j o hj,kJ ..,_,hM2,by
   have:=hL.step x.name (.bool true);rw[hgx,←bM];exact this⟩ (by simp only;omega) rfl rfl rfl rfl ⟨⟨(show 1<2 by decide),fun e he=>lu [_] e he⟩,⟨(show 0<2 by decide),fun e he=>lu [_,_,_,_,_,_,_] e he⟩,trivial⟩ rfl
 have hge:k=c.queue.wait.length:=by omega
 subst hge;rw[aD]at hL;(refine run ?_;repeat intro b);refine gu rfl (by omega) ?_;(refine run ?_;repeat intro b);refine eU (fun q:Nat×Array MapEntry×Nat×Hp=>q.1≤more.length∧F.sub q.2.2.2∧q.2.2.2 b0=some (.map q.2.1 q.2.2.1)∧ ∃m,iF q.2.1 q.2.2.1 m∧Holds m (ls.map Entry.name++c.queue.wait.map Ask.name++((more.take q.1).map id)))
  (fun q=>⟨[(1,.v (.slice pm more.length cm)),(2,.loc 0 0),(5,.v (.map (some b0))),(36,.v (.slice pm more.length cm)),(37,.v (i64 (more.length:Nat))),(38,.v (i64 (q.1:Nat)))],q.2.2.2,[(1,Go.TR.mark b0),(0,⟨some b2,[.v (i64 c.queue.most),.v (.slice a.w c.queue.wait.length a.cw),.v (i64 c.batch),.v (i64 c.every),.v (i64 c.now),.v (.slice a.h c.dP.length a.ch),.v (.slice a.b c.ee.length a.cb)],28,7⟩)],2⟩) (fun q=>more.length - q.1) (0,es,clock,G)
  ⟨az _,hs,hG,m,hM,by rw[db,cM,bT];exact hL⟩ (VS.eH [1,2,5,36,37,38] rfl rfl) ?_
 rintro⟨k,es,clock,G⟩ ⟨hk,hs,hG,m,hM,hL⟩;dsimp only at hk hs hG hM hL ⊢;by_cases hlt:k<more.length
 ·have htk:more.take (k+1)=more.take k++[more[k]]:=al hlt;have hf0:=dZ hs hfm;have hgx:(more.take (k+1))=(more.take k)++[more[k]]:=htk;have hc:=gQ hf0 (j:=k) (by rw[ab];exact hlt);rw[cD]at hc;generalize more[k]=x at hc hgx;(refine run ?_;repeat intro b);refine gm rfl (by omega) ?_;(refine run ?_;repeat intro b);refine dI rfl rfl rfl ⟨by omega,by omega,dO hf0 (j:=k) (by rw[ab];omega)⟩ ?_;refine fr (S x) rfl rfl rfl rfl (by rw[ae,aA];exact hc) ?_;(refine run ?_;repeat intro b);refine mg (id:=1) m x zC ye rfl rfl rfl rfl (mY b0) (ah _) hG hM (fun es2 clock2 hM2=>?_);(refine run ?_;repeat intro b);rw[dQ (by omega)];exact iH (k+1,es2,clock2,G.plus b0 (.map es2 clock2)) [] [1,2,5,36,37,38] ⟨hlt,fun j o hj=>by show (G.plus b0 _) j=some o;rw[iC (by rintro rfl;rw[hb0]at hj;cases hj)];exact hs j o hj,kJ ..,_,hM2,by
   have:=hL.step x (.bool true);rw[hgx,List.map_id,←bM];rw[List.map_id]at this;exact this⟩ (by simp only;omega) rfl rfl rfl rfl ⟨⟨(show 1<2 by decide),fun e he=>lu [_] e he⟩,⟨(show 0<2 by decide),fun e he=>lu [_,_,_,_,_,_,_] e he⟩,trivial⟩ rfl
 have hge:k=more.length:=by omega
 subst hge;rw[aD]at hL;(refine run ?_;repeat intro b);refine gu rfl (by omega) ?_;(refine run ?_;repeat intro b);rw[List.map_id]at hL;have hL2: ∀s,(m s).isSome=true ↔ s∈LL:=fun s=>by rw[oV];exact hL s
 have hsz:es.size=(kU LL).length:=MI hM hL2;have hle:=tT LL;rw[←oV]at hbig ⊢;rw[←hsz];refine fi rfl rfl rfl XF rfl (Oz b0 G) ?_;rintro _ G1 hG1 ⟨b5,rfl,hb5⟩;(refine run ?_;repeat intro b);refine fi rfl rfl rfl Xr rfl (Gr (hG1 _ _ hG) hM hb5 (by omega) (fun s v h=>hbig s ((hL2 s).1 (by rw[h];rfl)))) ?_;rintro _ G2 hG2 ⟨p6,c6,rfl⟩;(refine run ?_;repeat intro b);rfl
end
section
open Go.TR
structure Small (c:eE):Prop where
 wait:c.queue.wait.length≤30
 dP:c.dP.length≤40
 ee:c.ee.length≤40
 each: ∀l∈c.ee,l.length≤24
theorem Good.small {c:eE}(h:Good c):Small c:=by
 obtain⟨q1,q2,q3,_⟩:=lf h.queue;obtain⟨l1,l2,l3⟩:=h.lens;exact⟨by omega,l3,by omega,fun l hl=>(fL (h.book l hl)).1⟩
attribute [local irreducible] vc dT gx fc fA gC gG gw fG Plain eu eR dH VS fq fx fD ju fe IntKind.wrap
attribute [local irreducible] dV gK ir gH fK
set_option maxRecDepth 100000
set_option maxHeartbeats 4000000
theorem yB (c:eE)(a:jf)(hw:c.wf)(hS:Small c){F:Hp}(ha:c.at F a):iu Tryz.prog F 40 [c.v a] (fun x F'=>∃a',x=c.v a'∧c.at F' a'∧a'.cb=c.ee.length):=by
 obtain⟨bs,hb,wW,hbs⟩:=ha.b;have hbl:=ln hb;have s1:=hS.wait;have s2:=hS.dP;have s3:=hS.ee;refine eu.drop (fU (N:=37) (rv:=[.cell 2 28]) eP mixed Tryz.func40 rfl rfl rfl rfl rfl ?_);(refine run ?_;repeat intro b);refine fi rfl rfl rfl Mn rfl (tu c.queue.wait c.queue.wait.length rfl ha.w (by omega)) ?_;rintro _ F1 hF1 ⟨pw,cw,rfl,hcw,hfw⟩;(refine run ?_;repeat intro b);refine fi rfl rfl rfl Ms rfl (eu.MH (fun h=>by rw[aq h];rfl) (s7 (c.dP.flatMap Head.row) c.dP.length (dL eW _) (dZ hF1 ha.h) (oY _) (by omega))) ?_;rintro _ F2 hF2 ⟨ph,ch,rfl,hch,Sy⟩;have YZ:=hF1.trans hF2;(refine run ?_;repeat intro b);refine Lf eP rfl rfl rfl rfl rfl (by show _ * 24≤_;omega) (by omega) (fun b3 vs hvs hvz=>?_);(refine run ?_;repeat intro b);rename_i b0;revert b;intro b1;have hvl:vs.length=c.ee.length:=by rw[hvs];exact aA _
 refine eU (fun q:Nat×List Bk×Hp=>q.1≤c.ee.length∧F2.sub q.2.2∧q.2.1.map (·.2.1)=c.ee.take q.1∧ ∀s∈q.2.1,Bk.at q.2.2 s)
  (fun q=>⟨[(1,.loc 0 0),(2,.loc 1 0),(3,.row 2 0 c.ee.length c.ee.length),(21,.v (.slice a.b c.ee.length a.cb)),(22,.v (i64 (c.ee.length:Nat))),(23,.v (i64 (q.1:Nat)))],q.2.2,
   [(2,⟨some b3,(q.2.1.map Bk.v).map .v++(vs.drop q.1).map .v,42,c.ee.length * 1⟩),
    (1,⟨some b1,[.v (i64 0),.v (.slice none 0 0),.v (i64 0),.v (i64 0),.v (i64 0),.v (.slice none 0 0),.v (.slice none 0 0)],28,7⟩),
    (0,⟨some b0,[.v (i64 c.queue.most),.v (.slice pw c.queue.wait.length cw),.v (i64 c.batch),.v (i64 c.every),.v (i64 c.now),.v (.slice ph c.dP.length ch),.v (.slice a.b c.ee.length a.cb)],28,7⟩)],3⟩)
  (fun q=>c.ee.length - q.1) (0,[],F2) ⟨az _,fun _ _ h=>h,rfl,fun s hs=>by cases hs⟩ (VS.eH [1,2,3,21,22,23] rfl rfl) ?_
 rintro⟨k,ds,G⟩ ⟨hk,hG,hds,K1⟩;dsimp only at hk hG hds K1 ⊢;have hdl:ds.length=k:=by
  have:=a8 List.length hds;rw[ab,aw]at this;omega
 have Om:=YZ.trans hG;by_cases hlt:k<c.ee.length
 ·obtain⟨⟨ps,ls,cs⟩,k1,k2,k3⟩:=oc hb hlt;have kc:=iS Om (mX wW k1);have hat:=Bk.eX Om (hbs _ k3);have tA:=hS.each c.ee[k] (aj hlt);have htk:c.ee.take (k+1)=c.ee.take k++[c.ee[k]]:=al hlt;simp only at k2 hat;rw[←k2]at tA htk;(refine run ?_;repeat intro b);refine gm rfl (by omega) ?_;(refine run ?_;repeat intro b);refine dI rfl rfl rfl ⟨by omega,by omega,dO (dZ Om wW) (j:=k) (by rw[ab,hbl];omega)⟩ ?_;refine fr (Bk.v (ps,ls,cs)) rfl rfl rfl rfl (by rw[ae,aA];exact kc) ?_;(refine run ?_;repeat intro b);refine fi rfl rfl rfl EF rfl (eu.MH (fun h=>by rw[aq h];rfl) (me (ls.flatMap Entry.row) ls.length (dL eI _) hat.2 (iK _) (by omega))) ?_;rintro _ G2 hG2 ⟨p2,c2,rfl,hc2,hf2⟩;(refine run ?_;repeat intro b);refine dI rfl rfl rfl ⟨by omega,by omega,_,_,rfl,rfl⟩ ?_;have hidx:(0+((k:Int).toNat) * 1)=k:=by omega
  refine iP (((ds++[(p2,ls,c2)]).map Bk.v).map EV.v++(vs.drop (k+1)).map EV.v) rfl rfl rfl rfl rfl rfl ?_ ?_ rfl ?_
  ·show 0+((k:Int).toNat) * 1+1≤((ds.map Bk.v).map EV.v++(vs.drop k).map EV.v).length;simp only[ag,ab,aR];omega
  ·show ((ds.map Bk.v).map EV.v++(vs.drop k).map EV.v).take (0+((k:Int).toNat) * 1)++[_]++((ds.map Bk.v).map EV.v++(vs.drop k).map EV.v).drop (0+((k:Int).toNat) * 1+1)=_;have hvk:(vs.drop k).map EV.v=[EV.v (vs[k]'(by omega))]++(vs.drop (k+1)).map EV.v:=by rw[aO (by omega)];rfl
   rw[hidx,hvk,Bu _ _ _ _ (n:=k) (k:=1) (by rw[ab,ab,hdl]) rfl];simp
  (refine run ?_;repeat intro b);rw[dQ (by omega)];exact fj (k+1,ds++[(p2,ls,c2)],G2) ⟨hlt,hG.trans hG2,by rw[htk,aF,hds];rfl,fun s hs=>by
   rcases aK.1 hs with hs | hs
   ·exact Bk.eX hG2 (K1 s hs)
   rw[aB.1 hs];exact⟨trivial,hf2⟩⟩ (by simp only;omega) (VS.eH [1,2,3,21,22,23] rfl rfl)
 have hge:k=c.ee.length:=by omega
 (refine run ?_;repeat intro b);refine gu rfl (by omega) ?_;have Rv:vs.drop k=[]:=bW (by omega);rw[Rv];rw[hge,aD]at hds;have hcells:(ds.map Bk.v).map EV.v++([]:List Value).map EV.v=(ds.map Bk.v).map EV.v:=bT _;(refine run ?_;repeat intro b);refine eM ?_;refine VS.freeze 2 [2] rfl (cs:=ds.map Bk.v) ((a8 (iU _) hcells).trans (eD _)) rfl rfl fun G2 hG2 hf2=>VS.id ⟨_,rfl,⟨pw,cw,ph,ch,some ⟨b3,0,none⟩,c.ee.length⟩,rfl,⟨dZ (hF2.trans (hG.trans hG2)) hfw,hcw,dZ (hG.trans hG2) Sy,hch,ah _,ds,hds,hf2,fun s hs=>Bk.eX hG2 (K1 s hs)⟩,rfl⟩
end
section
open Go.TR
theorem Jw {l:List Head}(h:(fp l).1=0):0<l.length:=(iL h).1
theorem Eo {c:eE}(h:jD c=0):ns c=false∧ir c.dP c.ee=0:=by
 unfold jD at h;cases hf:ns c with
 | true=>rw[hf]at h;cases h
 | false=>rw[hf]at h;exact⟨rfl,h⟩
theorem Di {c:eE}(h1:fg c.queue=0)(h2:sR c=false)(h3:(fp c.dP).1=0)(h4:jD c=0):ga c=if 24<jF c [] then 7 else 0:=by
 unfold ga;rw[aY (by rw[h1];decide),h2,aY (by decide),aY (by rw[h3];decide),aY (by rw[h4];decide)]
theorem Kl {c:eE}(h1:fg c.queue=0)(h3:(fp c.dP).1=0)(h4:jD c=0):Small c∧0<c.ee.length:=by
 obtain⟨f1,f2⟩:=Eo h4;obtain⟨q1,q2,q3,_⟩:=lf h1;obtain⟨c1,c2,_⟩:=iL h3;have e:c.ee.length=c.dP.length:=by
  unfold ns at f1;simp only[aQ,aU,ne_eq,bE]at f1;exact f1.1.2
 refine⟨⟨by omega,c2,by omega,fun l hl=>(fL (m9 (by omega) f2 l hl)).1⟩,by omega⟩
theorem AP {c:eE}(hS:Small c)(h0:0<c.ee.length)(more:List (List UInt8))(hm:more.length≤1):(jE c more).length≤1000000:=by
 have h1:=hS.each _ (mO h0);have h2:=hS.wait;unfold jE;simp only[ag,ab];omega
theorem Fo (c:eE)(a:jf)(more:List (List UInt8))(hw:c.wf)(hS:Small c)(h0:0<c.ee.length)(Oe:more.length≤1)(hm: ∀s∈more,s.length≤4611686018427387904){F:Hp}(ha:c.at F a){pm:Option Addr}{cm:Nat}(hfm:eY F pm (more.map S)):
  Plain Tryz.prog F 39 [c.v a,.slice pm more.length cm] (i64 ((jF c more:Nat):Int)):=by
 obtain⟨bs,h1,h2,h3⟩:=ha.b;exact N4 c a bs more hw h0 h1 (AP hS h0 more Oe) hm ha.w h2 h3 hfm
theorem LX (c:eE):((((!(decide (1≤c.batch)&&decide (c.batch≤30)))||(!(decide (1≤c.every)&&decide (c.every≤1000))))||decide (c.now<0))||decide (1000000000<c.now))=sR c:=by
 unfold sR;rw[ai];simp only[bD,bz,bn,aU,av];omega
attribute [local irreducible] vc dT gx fc fA gC gG gw fG Plain eu eR dH VS fq fx fD ju fe IntKind.wrap
attribute [local irreducible] dV gK ir gH fK ga fg fp jD jF
set_option maxRecDepth 100000
set_option maxHeartbeats 4000000
theorem mW (c:eE)(a:jf)(hw:c.wf){F:Hp}(ha:c.at F a):Plain Tryz.prog F 36 [c.v a] (i64 (ga c)):=by
 have hhl:=hw.hlen;refine dN (N:=50) (rv:=[.tmp 2]) eP mixed Tryz.func36 rfl rfl rfl rfl rfl ?_;(refine run ?_;repeat intro b);refine dG _ rfl rfl rfl R2 rfl (oM c.queue hw.queue ha.w) ?_;(refine run ?_;repeat intro b);refine ez (decide (fg c.queue≠0)) ?_ (fun h0=>?_) (fun h0=>?_)
 ·refine dS ?_;rw[ai];simp
 ·have e:ga c=fg c.queue:=by unfold ga;rw[aZ (ar h0)]
  rw[e];(refine run ?_;repeat intro b);rfl
 have h0:fg c.queue=0:=by have:=au h0;omega
 (refine run ?_;repeat intro b);refine dG _ rfl rfl rfl Md rfl (ur c.batch 30 F) ?_;(refine run ?_;repeat intro b);refine gi _ rfl rfl rfl rfl Md rfl rfl (fun _=>ur c.every 1000 F) ?_;(refine run ?_;repeat intro b);refine ez (sR c) ?_ (fun h1=>?_) (fun h1=>?_)
 ·refine dS ?_;rw[fu,fu,fu,←LX]
 ·have e:ga c=4:=by unfold ga;rw[aY (by rw[h0];decide),aZ h1]
  rw[e];(refine run ?_;repeat intro b);rfl
 (refine run ?_;repeat intro b);refine dG _ rfl rfl rfl Rq rfl (oO c.dP (by omega) hw.dP ha.h) ?_;(refine run ?_;repeat intro b);refine ez (decide ((fp c.dP).1≠0)) ?_ (fun h2=>?_) (fun h2=>?_)
 ·refine dS ?_;rw[ai];simp
 ·have e:ga c=(fp c.dP).1:=by unfold ga;rw[aY (by rw[h0];decide),h1,aY (by decide),aZ (ar h2)]
  rw[e];(refine run ?_;repeat intro b);rfl
 have h2:(fp c.dP).1=0:=by have:=au h2;omega
 (refine run ?_;repeat intro b);refine dG _ rfl rfl rfl XC rfl (Mk c a hw (Jw h2) ha) ?_;(refine run ?_;repeat intro b);refine ez (decide (jD c≠0)) ?_ (fun h3=>?_) (fun h3=>?_)
 ·refine dS ?_;rw[ai];simp
 ·have e:ga c=jD c:=by unfold ga;rw[aY (by rw[h0];decide),h1,aY (by decide),aY (by rw[h2];decide),aZ (ar h3)]
  rw[e];(refine run ?_;repeat intro b);rfl
 have h3:jD c=0:=by have:=au h3;omega
 obtain⟨hS,hb0⟩:=Kl h0 h2 h3;rw[Di h0 h1 h2 h3];(refine run ?_;repeat intro b);refine dG _ rfl rfl rfl UC rfl (Fo c a [] hw hS hb0 (by decide) (fun s hs=>by cases hs) ha (eG _ _)) ?_;(refine run ?_;repeat intro b);refine ez (decide (24<jF c [])) ?_ (fun h4=>?_) (fun h4=>?_)
 ·refine dS ?_;rw[aV];omega
 ·rw[aZ (ar h4)];(refine run ?_;repeat intro b);rfl
 rw[aY (au h4)];(refine run ?_;repeat intro b);rfl
end
end Go.Proofs.YthbnddgjkonkdaaGreatDoor
