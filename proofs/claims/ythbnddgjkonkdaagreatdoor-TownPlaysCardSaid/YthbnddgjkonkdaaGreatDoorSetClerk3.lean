/- A part of the proof. -/
import Derived.Maps.OwnSet
import Derived.Sort.KeysCollected
import Derived.StringKeys
import Derived.Shelf.SlLaysZ
import Derived.Shelf.SlIter.Collect
import Derived.Test.YthbnddgjkonkdaaGreatDoorSetClerk1
set_option linter.unusedVariables false
set_option linter.unusedSimpArgs false
namespace Go.TR
open Go
def mY (es:Array MapEntry):List (List UInt8):=es.toList.map fun x=>match x.key with
 | .string s=>s.data.toList
 | _=>[]
theorem OC {P:Program}{H:Type}{k:TypeId}(hk:P.underlying k=some .string){w:World}{b:Nat}{es:Array MapEntry}{clock:Nat}{m:List UInt8→Option Value}(hb:w.heap[b]? =some (.map es clock))(hM:iJ es clock m)(hs:es.size≤maxLen)(hl: ∀s v,m s=some v→s.length≤maxLen):
  ∃D0:DataW H,w.ownsMap P k (fun _=>some (.nil,[])) b es.size D0∧Maps.size D0=es.size∧(strKeys D0).Perm (mY es):=by
 have hrd: ∀x∈es.toList,∃s:List UInt8,x.key=S s∧WideElems.rd (H:=H) P k (fun _=>some (.nil,[])) x=some (.string s,.nil):=fun x hx=>by
  obtain⟨s,hs⟩:=hM.key x hx;refine⟨s,hs,?_⟩;have hlen:=hl s x.val (hM.get x hx s hs);have h1:keyOf P k x.key=some (.string s):=by
   rw[hs];exact WideMaps.keyOf_string_mk hk (s:=jE s) (by show (jE s).data.size≤_;simpa [jE] using hlen)
  have:=WideElems.rd_mk (R:=fun _=>some ((.nil:DataW H),[])) (val:=x.val) (born:=x.born) h1 rfl;simpa using this
 have F:WideElems.Fit (H:=H) P k (fun _=>some (.nil,[])) es clock:=⟨hs,hM.st,fun x hx=>by
  obtain⟨s,_,h⟩:=hrd x hx;exact⟨_,h⟩⟩
 have hrg: ∀x∈es.toList,∃s:List UInt8,x.key=S s∧WideElems.rg (H:=H) P k (fun _=>some (.nil,[])) x=(.string s,.nil):=fun x hx=>by
  obtain⟨s,h1,h2⟩:=hrd x hx;exact⟨s,h1,WideElems.rg_of h2⟩
 refine⟨_,World.ownsMap_of_fit hb F (fun _ _ _ h=>h),?_,?_⟩
 ·rw[Maps.size_eq,(WideShapes.sorted_perm _).length_eq,ab];simp
 show (List.map (fun p:Lit×DataW H=>strOf p.1) _).Perm _;refine ((WideShapes.sorted_perm _).map _).trans ?_;rw[cO];refine List.Perm.of_eq ?_;unfold mY;refine List.map_congr_left fun x hx=>?_;obtain⟨s,h1,h2⟩:=hrg x hx;simp only[Function.comp,h2,h1];rfl
theorem Ah {es:Array MapEntry}{clock:Nat}{m:List UInt8→Option Value}(hM:iJ es clock m):(mY es).Nodup:=by
 unfold mY;have hn:=hM.st.2.2;rw[List.nodup_iff_pairwise_ne,List.pairwise_map]at *;refine hn.imp_of_mem fun {a b} ha hb h=>?_;obtain⟨s,hs⟩:=hM.key a ha;obtain⟨t,ht⟩:=hM.key b hb;rw[hs,ht]at h ⊢;exact fun e=>h (by
  simp only[S,jE]at e ⊢;rw[show s=t from by simpa using e])
theorem FG {es:Array MapEntry}{clock:Nat}{m:List UInt8→Option Value}(hM:iJ es clock m)(s:List UInt8):s∈mY es ↔ (m s).isSome=true:=by
 unfold mY;rw[aG];constructor
 ·rintro⟨x,hx,e⟩;obtain⟨t,ht⟩:=hM.key x hx;rw[ht]at e;have:t=s:=by simpa [S,jE] using e
  subst this;rw[hM.get x hx t ht];rfl
 intro h;obtain⟨v,hv⟩:=Option.isSome_iff_exists.1 h;obtain⟨x,hx,hk,_⟩:=hM.has s v hv;exact⟨x,hx,by rw[hk];simp[S,jE]⟩
end Go.TR
namespace Go.Proofs.YthbnddgjkonkdaaGreatDoor
section
open Go.Shelf Go.Proofs
def Ef:Go.Shelf.Ren:=⟨fun | 7=>95 | 10=>152 | n=>n,fun | 23=>194 | 26=>9 | 3=>4 | 28=>197 | 0=>0 | 27=>196 | 33=>99 | 4=>4 | n=>n,fun | n=>n⟩
theorem I7:SlLaysZ.n7 Tryz.prog Ef:={
 mixed:=by kernel_rfl,
 f7:=⟨Tryz.f95.name,by kernel_rfl,Tryz.func95.trans (congrArg some (by kernel_rfl))⟩,
 f10:=⟨Tryz.f152.name,by kernel_rfl,Tryz.func152.trans (congrArg some (by kernel_rfl))⟩,
 t0:=Tryz.underlying0,
 a0:=Tryz.isAgg0,
 z0:=Tryz.sizeOf0,
 v0:=Tryz.zeroValue0,
 t4:=Tryz.underlying4,
 a4:=Tryz.isAgg4,
 z4:=Tryz.sizeOf4,
 v4:=Tryz.zeroValue4,
 t23:=Tryz.underlying194,
 a23:=Tryz.isAgg194,
 z23:=Tryz.sizeOf194,
 v23:=Tryz.zeroValue194,
 t26:=Tryz.underlying9,
 a26:=Tryz.isAgg9,
 z26:=Tryz.sizeOf9,
 v26:=Tryz.zeroValue9,
 t27:=Tryz.underlying196,
 a27:=Tryz.isAgg196,
 z27:=Tryz.sizeOf196,
 v27:=Tryz.zeroValue196,
 t28:=Tryz.underlying197,
 a28:=Tryz.isAgg197,
 z28:=Tryz.sizeOf197,
 v28:=Tryz.zeroValue197,
 t33:=Tryz.underlying99,
 a33:=Tryz.isAgg99,
 z33:=Tryz.sizeOf99,
 v33:=Tryz.zeroValue99 }
end
section
open Go.Shelf Go.Proofs
def zh:Go.Shelf.Ren:=⟨fun | 8=>94 | 11=>151 | n=>n,fun | 26=>9 | 28=>197 | 24=>54 | 0=>0 | 33=>99 | 4=>4 | n=>n,fun | n=>n⟩
theorem Hs:SlLaysZ.n8 Tryz.prog zh:={
 mixed:=by kernel_rfl,
 f8:=⟨Tryz.f94.name,by kernel_rfl,Tryz.func94.trans (congrArg some (by kernel_rfl))⟩,
 f11:=⟨Tryz.f151.name,by kernel_rfl,Tryz.func151.trans (congrArg some (by kernel_rfl))⟩,
 t0:=Tryz.underlying0,
 a0:=Tryz.isAgg0,
 z0:=Tryz.sizeOf0,
 v0:=Tryz.zeroValue0,
 t24:=Tryz.underlying54,
 a24:=Tryz.isAgg54,
 z24:=Tryz.sizeOf54,
 v24:=Tryz.zeroValue54,
 t26:=Tryz.underlying9,
 a26:=Tryz.isAgg9,
 z26:=Tryz.sizeOf9,
 v26:=Tryz.zeroValue9,
 t28:=Tryz.underlying197,
 a28:=Tryz.isAgg197,
 z28:=Tryz.sizeOf197,
 v28:=Tryz.zeroValue197,
 i26:=by kernel_rfl }
end
section
open Go.TR Go.RowKit Go.Shelf Go.Proofs
theorem O4 (mb:Nat)(F:Hp):iy Tryz.prog F 95 [.map (some mb)] (fun x F'=>∃b,x= .func (.func 152) #[] #[.pointer (some ⟨b,0,none⟩)]∧jz F' ⟨b,0,none⟩=some (.map (some mb))):=by
 intro w hw;refine (callsIn_wide.1 (AnyZ.keys_in I7 Fence.wide 3 trivial rfl (some mb) w)).mono ?_;rintro e w' ⟨rfl,rfl⟩;have hb:F w.heap.size=none:=by
  cases h:F w.heap.size with
  | none=>rfl
  | some o=>have:=hw _ _ h;simp at this
 have hbl:Below w.heap.size w (w.alloc (.cells #[.map (some mb)] 194)):=(Below.refl _ w).alloc (Nat.le_refl _) _;refine⟨_,F.plus w.heap.size (.cells #[.map (some mb)] 194),[],rfl,fun k o e=>?_,fun k o e=>?_,⟨hbl.os,hbl.tape,hbl.output,hbl.size,fun k hk _=>hbl.block k hk⟩,fun k hk=>?_,⟨fun id r h=>by simp[fU]at h,fun i j r s b h=>by simp[fU]at h⟩,fun id r b h=>by simp[fU]at h,rfl,w.heap.size,rfl,?_⟩
 ·unfold Hp.plus;rw[if_neg (by rintro rfl;rw[hb]at e;cases e)];exact e
 ·unfold Hp.plus at e;split at e
  ·rename_i hk;cases e;rw[hk];exact World.alloc_heap_new w _
  have:=hw _ _ e;exact (hbl.block k (Array.getElem?_eq_some_iff.1 this).1).trans this
 ·unfold Hp.plus at hk;split at hk
  ·rename_i h;exact .inr (by omega)
  exact .inl hk
 simp[jz,Hp.plus]
theorem HD {es:Array MapEntry}{clock mb b:Nat}{m:List UInt8→Option Value}{F:Hp}(hF:F mb=some (.map es clock))(hM:iJ es clock m)(hb:jz F ⟨b,0,none⟩=some (.map (some mb)))(hs:es.size≤1000000)(hl: ∀s v,m s=some v→s.length≤4611686018427387904):
  iy Tryz.prog F 94 [.func (.func 152) #[] #[.pointer (some ⟨b,0,none⟩)]] (fun x F'=>∃p c,x= .slice p es.size c):=by
 intro w hw;obtain⟨D0,h1,h2,h3⟩:=OC (H:=Unit) Tryz.underlying9 (hw _ _ hF) hM (by unfold maxLen;omega) (fun s v h=>by have:=hl s v h;unfold maxLen;omega);have hBm:b<w.heap.size:=by
  have:=jz.world hw hb;unfold World.cell? at this;split at this
  ·rename_i h;exact (Array.getElem?_eq_some_iff.1 h).1
  cases this
 have eg: ∀args w,(callFunc 152 args).run Tryz.prog w= .ok (.enter 152 args) w:=enters_of Tryz.func152 (by kernel_rfl) rfl;have Rg:=AnyZ.keys_gives (L:={ I7 with }) Fence.wide 4 trivial rfl (by decide) b mb es.size D0 w hBm (jz.world hw hb) h1;rw[h2]at Rg;have hc:=AnyZ.collect_in Hs Fence.wide 6 trivial trivial rfl (by decide) 152 #[.pointer (some ⟨b,0,none⟩)] trivial eg _ es.size (by unfold maxLen;omega) (by omega) w Rg;refine (callsIn_wide.1 hc).mono ?_;rintro e w' ⟨v,ss,rfl,hp,hrow,_,hbl⟩;have hlen:ss.length=es.size:=by
  rw[hp.length_eq,h3.length_eq];unfold mY;simp
 refine⟨_,F,[],rfl,fun _ _ h=>h,fun k o e=>?_,⟨hbl.os,hbl.tape,hbl.output,hbl.size,fun k hk _=>hbl.block k hk⟩,fun k hk=>.inl hk,⟨fun id r h=>by simp[fU]at h,fun i j r s b h=>by simp[fU]at h⟩,fun id r b h=>by simp[fU]at h,rfl,?_⟩
 ·have:=hw _ _ e;exact (hbl.block k (Array.getElem?_eq_some_iff.1 this).1).trans this
 rcases hrow.2 with⟨rfl,h0⟩ | ⟨g,cap,cur,rfl,_⟩
 ·exact⟨none,0,by rw[←hlen,h0]⟩
 exact⟨_,_,by rw[hlen]⟩
theorem MH {es:Array MapEntry}{clock:Nat}{m:List UInt8→Option Value}(hM:iJ es clock m){L:List (List UInt8)}(h: ∀s,(m s).isSome=true ↔ s∈L):es.size=(kW L).length:=by
 have e1:(mY es).length=es.size:=by unfold mY;simp
 rw[←e1];have hm: ∀s,s∈mY es ↔ s∈kW L:=fun s=>by rw[FG hM,h,mD]
 exact Nat.le_antisymm (qW (Ah hM) (fun s hs=>(hm s).1 hs)) (qW (pY (pC L)) (fun s hs=>(hm s).2 hs))
end
section
open Go.TR
def Holds (m:List UInt8→Option Value)(L:List (List UInt8)):Prop:=∀s,(m s).isSome=true ↔ s∈L
theorem Holds.nil:Holds (fun _=>none)[]:=fun s=>by simp
theorem Holds.step {m:List UInt8→Option Value}{L:List (List UInt8)}(h:Holds m L)(q:List UInt8)(v:Value):Holds (oz m q v) (L++[q]):=fun s=>by
 unfold oz;by_cases hs:s=q
 ·rw[aZ hs];simp[hs]
 rw[aY hs,h s];simp[hs]
theorem yl:Tryz.prog.underlying 194=some (.map 9 4):=Tryz.underlying194
theorem zI:Tryz.prog.underlying 9=some .string:=Tryz.underlying9
attribute [local irreducible] vc dW gz fg fD gF gJ gB fJ Plain eD eX dK VS fv fA fG jt fh IntKind.wrap
attribute [local irreducible] dY gN gK Hp.plus oz kW
set_option maxRecDepth 100000
set_option maxHeartbeats 4000000
theorem Lx (c:eI)(a:ji)(bs:List Bk)(more:List (List UInt8))(hw:c.wf)(h0:0<c.ez.length)(hb:bs.map (·.2.1)=c.ez)(hlen:(jK c more).length≤1000000)(hm: ∀s∈more,s.length≤4611686018427387904){F:Hp}(hfw:e9 F a.w (c.queue.wait.flatMap Ask.cells))(wZ:e9 F a.b (bs.map Bk.v))(hbs: ∀s∈bs,Bk.at F s){pm:Option Addr}{cm:Nat}(hfm:e9 F pm (more.map S)):
  Plain Tryz.prog F 39 [c.v a,.slice pm more.length cm] (i64 ((jI c more:Nat):Int)):=by
 refine dQ (N:=49) (rv:=[.tmp 4]) eW mixed Tryz.func39 rfl rfl rfl rfl rfl ?_;(refine run ?_;repeat intro b);refine A1 rfl (fun b0 hb0=>?_);have hs0:F.sub (F.plus b0 (.map #[] 0)):=EY hb0;obtain⟨sl,hsl,hsl2,hlast⟩:=Ih c a bs h0 hw.OS hb (eu hs0 wZ);have hrow:e9 F sl.1 ((gK c).flatMap Entry.row):=by rw[←hsl2];exact (hbs sl hsl).2
 have hwl: ∀x∈gK c,x.wf:=(hw.ez _ (mV h0)).2;have hN:(gK c).length+c.queue.wait.length+more.length≤1000000:=by
  have:=hlen;unfold jK at this;simp only[ag,ab]at this;omega
 have oY:jK c more=(gK c).map Entry.name++c.queue.wait.map Ask.name++more:=rfl;have hbig: ∀s∈jK c more,s.length≤4611686018427387904:=fun s hs=>by
  rw[oY]at hs;rcases aK.1 hs with hs | hs
  ·rcases aK.1 hs with hs | hs
   ·obtain⟨x,hx,rfl⟩:=aG.1 hs;exact (hwl x hx).1
   obtain⟨x,hx,rfl⟩:=aG.1 hs;exact (hw.queue.wait x hx).name
  exact hm s hs
 obtain⟨ps,ls,cs⟩:=sl;simp only at hsl2 hrow;subst hsl2;unfold jI;rw[oY]at hbig ⊢;generalize gK c=ls at *;generalize jK c more=LL at oY hlen;(refine run ?_;repeat intro b);refine dJ _ rfl rfl rfl UY rfl hlast ?_;(refine run ?_;repeat intro b);revert b;intro b2;refine eY (fun q:Nat×Array MapEntry×Nat×Hp=>q.1≤ls.length∧F.sub q.2.2.2∧q.2.2.2 b0=some (.map q.2.1 q.2.2.1)∧ ∃m,iJ q.2.1 q.2.2.1 m∧Holds m (((ls.take q.1).map Entry.name)))
  (fun q=>⟨[(1,.v (.slice pm more.length cm)),(2,.loc 0 0),(5,.v (.map (some b0))),(14,.v (.slice ps ls.length cs)),(15,.v (i64 (ls.length:Nat))),(16,.v (i64 (q.1:Nat)))],q.2.2.2,[(1,Go.TR.mark b0),(0,⟨some b2,[.v (i64 c.queue.most),.v (.slice a.w c.queue.wait.length a.cw),.v (i64 c.batch),.v (i64 c.every),.v (i64 c.now),.v (.slice a.h c.dS.length a.ch),.v (.slice a.b c.ez.length a.cb)],28,7⟩)],2⟩) (fun q=>ls.length - q.1) (0,#[],0,F.plus b0 (.map #[] 0))
  ⟨az _,hs0,kN ..,_,iJ.empty,Holds.nil⟩ (VS.eL [1,2,5,14,15,16] rfl rfl) ?_
 rintro⟨k,es,clock,G⟩ ⟨hk,hs,hG,m,hM,hL⟩;dsimp only at hk hs hG hM hL ⊢;by_cases hlt:k<ls.length
 ·have htk:ls.take (k+1)=ls.take k++[ls[k]]:=al hlt;have hf0:=eu hs hrow;obtain⟨o1,o2⟩:=fa eM (by decide) hf0 k hlt;have hgx:(ls.take (k+1)).map Entry.name=(ls.take k).map Entry.name++[ls[k].name]:=by rw[htk,aF];rfl
  generalize ls[k]=x at o2 hgx;(refine run ?_;repeat intro b);refine gw rfl (by omega) ?_;(refine run ?_;repeat intro b);refine dL rfl rfl rfl ⟨by omega,by omega,dR hf0 (j:=k * 2) (by rw[dO eM];omega)⟩ ?_;refine fB x.row rfl rfl rfl rfl rfl (by rw[ae];exact o1) (by rw[ae];exact o2) ?_;(refine run ?_;repeat intro b);refine mf (id:=1) m x.name yl zI rfl rfl rfl rfl (mZ b0) (ah _) hG hM (fun es2 clock2 hM2=>?_);(refine run ?_;repeat intro b);rw[dT (by omega)];exact iK (k+1,es2,clock2,G.plus b0 (.map es2 clock2)) [2] [1,2,5,14,15,16] ⟨hlt,fun j o hj=>by show (G.plus b0 _) j=some o;rw[iF (by rintro rfl;rw[hb0]at hj;cases hj)];exact hs j o hj,kN ..,_,hM2,by
   have:=hL.step x.name (.bool true);rw[hgx];exact this⟩ (by simp only;omega) rfl rfl rfl rfl ⟨⟨(show 1<2 by decide),fun e he=>lr [_] e he⟩,⟨(show 0<2 by decide),fun e he=>lr [_,_,_,_,_,_,_] e he⟩,trivial⟩ rfl
 have hge:k=ls.length:=by omega
 subst hge;rw[aD]at hL;(refine run ?_;repeat intro b);refine gy rfl (by omega) ?_;(refine run ?_;repeat intro b);refine eY (fun q:Nat×Array MapEntry×Nat×Hp=>q.1≤c.queue.wait.length∧F.sub q.2.2.2∧q.2.2.2 b0=some (.map q.2.1 q.2.2.1)∧ ∃m,iJ q.2.1 q.2.2.1 m∧Holds m (ls.map Entry.name++((c.queue.wait.take q.1).map Ask.name)))
  (fun q=>⟨[(1,.v (.slice pm more.length cm)),(2,.loc 0 0),(5,.v (.map (some b0))),(26,.v (.slice a.w c.queue.wait.length a.cw)),(27,.v (i64 (c.queue.wait.length:Nat))),(28,.v (i64 (q.1:Nat)))],q.2.2.2,[(1,Go.TR.mark b0),(0,⟨some b2,[.v (i64 c.queue.most),.v (.slice a.w c.queue.wait.length a.cw),.v (i64 c.batch),.v (i64 c.every),.v (i64 c.now),.v (.slice a.h c.dS.length a.ch),.v (.slice a.b c.ez.length a.cb)],28,7⟩)],2⟩) (fun q=>c.queue.wait.length - q.1) (0,es,clock,G)
  ⟨az _,hs,hG,m,hM,by rw[df,cP,bV];exact hL⟩ (VS.eL [1,2,5,26,27,28] rfl rfl) ?_
 rintro⟨k,es,clock,G⟩ ⟨hk,hs,hG,m,hM,hL⟩;dsimp only at hk hs hG hM hL ⊢;by_cases hlt:k<c.queue.wait.length
 ·have htk:c.queue.wait.take (k+1)=c.queue.wait.take k++[c.queue.wait[k]]:=al hlt;have hf0:=eu hs hfw;obtain⟨o1,o2⟩:=fa gn (by decide) hf0 k hlt;have hgx:(c.queue.wait.take (k+1)).map Ask.name=(c.queue.wait.take k).map Ask.name++[c.queue.wait[k].name]:=by rw[htk,aF];rfl
  generalize c.queue.wait[k]=x at o2 hgx;(refine run ?_;repeat intro b);refine gw rfl (by omega) ?_;(refine run ?_;repeat intro b);refine dL rfl rfl rfl ⟨by omega,by omega,dR hf0 (j:=k * 4) (by rw[dO gn];omega)⟩ ?_;refine fB x.cells rfl rfl rfl rfl rfl (by rw[ae];exact o1) (by rw[ae];exact o2) ?_;(refine run ?_;repeat intro b);refine mf (id:=1) m x.name yl zI rfl rfl rfl rfl (mZ b0) (ah _) hG hM (fun es2 clock2 hM2=>?_);(refine run ?_;repeat intro b);rw[dT (by omega)];exact iK (k+1,es2,clock2,G.plus b0 (.map es2 clock2)) [2] [1,2,5,26,27,28] ⟨hlt,fun j o hj=>by show (G.plus b0 _) j=some o;rw[iF (by rintro rfl;rw[hb0]at hj;cases hj)];exact hs j o hj,kN ..,_,hM2,by
   have:=hL.step x.name (.bool true);rw[hgx,←bU];exact this⟩ (by simp only;omega) rfl rfl rfl rfl ⟨⟨(show 1<2 by decide),fun e he=>lr [_] e he⟩,⟨(show 0<2 by decide),fun e he=>lr [_,_,_,_,_,_,_] e he⟩,trivial⟩ rfl
 have hge:k=c.queue.wait.length:=by omega
 subst hge;rw[aD]at hL;(refine run ?_;repeat intro b);refine gy rfl (by omega) ?_;(refine run ?_;repeat intro b);refine eY (fun q:Nat×Array MapEntry×Nat×Hp=>q.1≤more.length∧F.sub q.2.2.2∧q.2.2.2 b0=some (.map q.2.1 q.2.2.1)∧ ∃m,iJ q.2.1 q.2.2.1 m∧Holds m (ls.map Entry.name++c.queue.wait.map Ask.name++((more.take q.1).map id)))
  (fun q=>⟨[(1,.v (.slice pm more.length cm)),(2,.loc 0 0),(5,.v (.map (some b0))),(36,.v (.slice pm more.length cm)),(37,.v (i64 (more.length:Nat))),(38,.v (i64 (q.1:Nat)))],q.2.2.2,[(1,Go.TR.mark b0),(0,⟨some b2,[.v (i64 c.queue.most),.v (.slice a.w c.queue.wait.length a.cw),.v (i64 c.batch),.v (i64 c.every),.v (i64 c.now),.v (.slice a.h c.dS.length a.ch),.v (.slice a.b c.ez.length a.cb)],28,7⟩)],2⟩) (fun q=>more.length - q.1) (0,es,clock,G)
  ⟨az _,hs,hG,m,hM,by rw[df,cP,bV];exact hL⟩ (VS.eL [1,2,5,36,37,38] rfl rfl) ?_
 rintro⟨k,es,clock,G⟩ ⟨hk,hs,hG,m,hM,hL⟩;dsimp only at hk hs hG hM hL ⊢;by_cases hlt:k<more.length
 ·have htk:more.take (k+1)=more.take k++[more[k]]:=al hlt;have hf0:=eu hs hfm;have hgx:(more.take (k+1))=(more.take k)++[more[k]]:=htk;have hc:=gS hf0 (j:=k) (by rw[ab];exact hlt);rw[cG]at hc;generalize more[k]=x at hc hgx;(refine run ?_;repeat intro b);refine gw rfl (by omega) ?_;(refine run ?_;repeat intro b);refine dL rfl rfl rfl ⟨by omega,by omega,dR hf0 (j:=k) (by rw[ab];omega)⟩ ?_;refine fw (S x) rfl rfl rfl rfl (by rw[ae,aA];exact hc) ?_;(refine run ?_;repeat intro b);refine mf (id:=1) m x yl zI rfl rfl rfl rfl (mZ b0) (ah _) hG hM (fun es2 clock2 hM2=>?_);(refine run ?_;repeat intro b);rw[dT (by omega)];exact iK (k+1,es2,clock2,G.plus b0 (.map es2 clock2)) [] [1,2,5,36,37,38] ⟨hlt,fun j o hj=>by show (G.plus b0 _) j=some o;rw[iF (by rintro rfl;rw[hb0]at hj;cases hj)];exact hs j o hj,kN ..,_,hM2,by
   have:=hL.step x (.bool true);rw[hgx,List.map_id,←bU];rw[List.map_id]at this;exact this⟩ (by simp only;omega) rfl rfl rfl rfl ⟨⟨(show 1<2 by decide),fun e he=>lr [_] e he⟩,⟨(show 0<2 by decide),fun e he=>lr [_,_,_,_,_,_,_] e he⟩,trivial⟩ rfl
 have hge:k=more.length:=by omega
 subst hge;rw[aD]at hL;(refine run ?_;repeat intro b);refine gy rfl (by omega) ?_;(refine run ?_;repeat intro b);rw[List.map_id]at hL;have hL2: ∀s,(m s).isSome=true ↔ s∈LL:=fun s=>by rw[oY];exact hL s
 have hsz:es.size=(kW LL).length:=MH hM hL2;have hle:=u4 LL;rw[←oY]at hbig ⊢;rw[←hsz];refine fm rfl rfl rfl Xu rfl (O4 b0 G) ?_;rintro _ G1 hG1 ⟨b5,rfl,hb5⟩;(refine run ?_;repeat intro b);refine fm rfl rfl rfl Xy rfl (HD (hG1 _ _ hG) hM hb5 (by omega) (fun s v h=>hbig s ((hL2 s).1 (by rw[h];rfl)))) ?_;rintro _ G2 hG2 ⟨p6,c6,rfl⟩;(refine run ?_;repeat intro b);rfl
end
section
open Go.TR
structure Small (c:eI):Prop where
 wait:c.queue.wait.length≤30
 dS:c.dS.length≤40
 ez:c.ez.length≤40
 each: ∀l∈c.ez,l.length≤24
theorem Good.small {c:eI}(h:Good c):Small c:=by
 obtain⟨q1,q2,q3,_⟩:=lf h.queue;obtain⟨l1,l2,l3⟩:=h.lens;exact⟨by omega,l3,by omega,fun l hl=>(fP (h.book l hl)).1⟩
attribute [local irreducible] vc dW gz fg fD gF gJ gB fJ Plain eD eX dK VS fv fA fG jt fh IntKind.wrap
attribute [local irreducible] dY gN iu gK fL
set_option maxRecDepth 100000
set_option maxHeartbeats 4000000
theorem xX (c:eI)(a:ji)(hw:c.wf)(hS:Small c){F:Hp}(ha:c.at F a):iy Tryz.prog F 40 [c.v a] (fun x F'=>∃a',x=c.v a'∧c.at F' a'∧a'.cb=c.ez.length):=by
 obtain⟨bs,hb,wZ,hbs⟩:=ha.b;have hbl:=lC hb;have s1:=hS.wait;have s2:=hS.dS;have s3:=hS.ez;refine eD.drop (fW (N:=37) (rv:=[.cell 2 28]) eW mixed Tryz.func40 rfl rfl rfl rfl rfl ?_);(refine run ?_;repeat intro b);refine fm rfl rfl rfl Mv rfl (tt c.queue.wait c.queue.wait.length rfl ha.w (by omega)) ?_;rintro _ F1 hF1 ⟨pw,cw,rfl,hcw,hfw⟩;(refine run ?_;repeat intro b);refine fm rfl rfl rfl MZ rfl (eD.Mu (fun h=>by rw[aq h];rfl) (s6 (c.dS.flatMap Head.row) c.dS.length (dO eZ _) (eu hF1 ha.h) (oZ _) (by omega))) ?_;rintro _ F2 hF2 ⟨ph,ch,rfl,hch,SB⟩;have Y2:=hF1.trans hF2;(refine run ?_;repeat intro b);refine Ob eW rfl rfl rfl rfl rfl (by show _ * 24≤_;omega) (by omega) (fun b3 vs hvs hvz=>?_);(refine run ?_;repeat intro b);rename_i b0;revert b;intro b1;have hvl:vs.length=c.ez.length:=by rw[hvs];exact aA _
 refine eY (fun q:Nat×List Bk×Hp=>q.1≤c.ez.length∧F2.sub q.2.2∧q.2.1.map (·.2.1)=c.ez.take q.1∧ ∀s∈q.2.1,Bk.at q.2.2 s)
  (fun q=>⟨[(1,.loc 0 0),(2,.loc 1 0),(3,.row 2 0 c.ez.length c.ez.length),(21,.v (.slice a.b c.ez.length a.cb)),(22,.v (i64 (c.ez.length:Nat))),(23,.v (i64 (q.1:Nat)))],q.2.2,
   [(2,⟨some b3,(q.2.1.map Bk.v).map .v++(vs.drop q.1).map .v,42,c.ez.length * 1⟩),
    (1,⟨some b1,[.v (i64 0),.v (.slice none 0 0),.v (i64 0),.v (i64 0),.v (i64 0),.v (.slice none 0 0),.v (.slice none 0 0)],28,7⟩),
    (0,⟨some b0,[.v (i64 c.queue.most),.v (.slice pw c.queue.wait.length cw),.v (i64 c.batch),.v (i64 c.every),.v (i64 c.now),.v (.slice ph c.dS.length ch),.v (.slice a.b c.ez.length a.cb)],28,7⟩)],3⟩)
  (fun q=>c.ez.length - q.1) (0,[],F2) ⟨az _,fun _ _ h=>h,rfl,fun s hs=>by cases hs⟩ (VS.eL [1,2,3,21,22,23] rfl rfl) ?_
 rintro⟨k,ds,G⟩ ⟨hk,hG,hds,K4⟩;dsimp only at hk hG hds K4 ⊢;have hdl:ds.length=k:=by
  have:=a8 List.length hds;rw[ab,aw]at this;omega
 have Oq:=Y2.trans hG;by_cases hlt:k<c.ez.length
 ·obtain⟨⟨ps,ls,cs⟩,k1,k2,k3⟩:=nW hb hlt;have kc:=iV Oq (m8 wZ k1);have hat:=Bk.e8 Oq (hbs _ k3);have tD:=hS.each c.ez[k] (aj hlt);have htk:c.ez.take (k+1)=c.ez.take k++[c.ez[k]]:=al hlt;simp only at k2 hat;rw[←k2]at tD htk;(refine run ?_;repeat intro b);refine gw rfl (by omega) ?_;(refine run ?_;repeat intro b);refine dL rfl rfl rfl ⟨by omega,by omega,dR (eu Oq wZ) (j:=k) (by rw[ab,hbl];omega)⟩ ?_;refine fw (Bk.v (ps,ls,cs)) rfl rfl rfl rfl (by rw[ae,aA];exact kc) ?_;(refine run ?_;repeat intro b);refine fm rfl rfl rfl D6 rfl (eD.Mu (fun h=>by rw[aq h];rfl) (mg (ls.flatMap Entry.row) ls.length (dO eM _) hat.2 (iN _) (by omega))) ?_;rintro _ G2 hG2 ⟨p2,c2,rfl,hc2,hf2⟩;(refine run ?_;repeat intro b);refine dL rfl rfl rfl ⟨by omega,by omega,_,_,rfl,rfl⟩ ?_;have hidx:(0+((k:Int).toNat) * 1)=k:=by omega
  refine iS (((ds++[(p2,ls,c2)]).map Bk.v).map EV.v++(vs.drop (k+1)).map EV.v) rfl rfl rfl rfl rfl rfl ?_ ?_ rfl ?_
  ·show 0+((k:Int).toNat) * 1+1≤((ds.map Bk.v).map EV.v++(vs.drop k).map EV.v).length;simp only[ag,ab,aR];omega
  ·show ((ds.map Bk.v).map EV.v++(vs.drop k).map EV.v).take (0+((k:Int).toNat) * 1)++[_]++((ds.map Bk.v).map EV.v++(vs.drop k).map EV.v).drop (0+((k:Int).toNat) * 1+1)=_;have hvk:(vs.drop k).map EV.v=[EV.v (vs[k]'(by omega))]++(vs.drop (k+1)).map EV.v:=by rw[aO (by omega)];rfl
   rw[hidx,hvk,AP _ _ _ _ (n:=k) (k:=1) (by rw[ab,ab,hdl]) rfl];simp
  (refine run ?_;repeat intro b);rw[dT (by omega)];exact fp (k+1,ds++[(p2,ls,c2)],G2) ⟨hlt,hG.trans hG2,by rw[htk,aF,hds];rfl,fun s hs=>by
   rcases aK.1 hs with hs | hs
   ·exact Bk.e8 hG2 (K4 s hs)
   rw[aB.1 hs];exact⟨trivial,hf2⟩⟩ (by simp only;omega) (VS.eL [1,2,3,21,22,23] rfl rfl)
 have hge:k=c.ez.length:=by omega
 (refine run ?_;repeat intro b);refine gy rfl (by omega) ?_;have Sk:vs.drop k=[]:=cd (by omega);rw[Sk];rw[hge,aD]at hds;have hcells:(ds.map Bk.v).map EV.v++([]:List Value).map EV.v=(ds.map Bk.v).map EV.v:=bV _;(refine run ?_;repeat intro b);refine eU ?_;refine VS.freeze 2 [2] rfl (cs:=ds.map Bk.v) ((a8 (iZ _) hcells).trans (eH _)) rfl rfl fun G2 hG2 hf2=>VS.id ⟨_,rfl,⟨pw,cw,ph,ch,some ⟨b3,0,none⟩,c.ez.length⟩,rfl,⟨eu (hF2.trans (hG.trans hG2)) hfw,hcw,eu (hG.trans hG2) SB,hch,ah _,ds,hds,hf2,fun s hs=>Bk.e8 hG2 (K4 s hs)⟩,rfl⟩
end
section
open Go.TR
theorem Kh {l:List Head}(h:(fu l).1=0):0<l.length:=(iO h).1
theorem DQ {c:eI}(h:jG c=0):ny c=false∧iu c.dS c.ez=0:=by
 unfold jG at h;cases hf:ny c with
 | true=>rw[hf]at h;cases h
 | false=>rw[hf]at h;exact⟨rfl,h⟩
theorem C0 {c:eI}(h1:fj c.queue=0)(h2:sS c=false)(h3:(fu c.dS).1=0)(h4:jG c=0):gh c=if 24<jI c [] then 7 else 0:=by
 unfold gh;rw[aY (by rw[h1];decide),h2,aY (by decide),aY (by rw[h3];decide),aY (by rw[h4];decide)]
theorem Kj {c:eI}(h1:fj c.queue=0)(h3:(fu c.dS).1=0)(h4:jG c=0):Small c∧0<c.ez.length:=by
 obtain⟨f1,f2⟩:=DQ h4;obtain⟨q1,q2,q3,_⟩:=lf h1;obtain⟨c1,c2,_⟩:=iO h3;have e:c.ez.length=c.dS.length:=by
  unfold ny at f1;simp only[aQ,aU,ne_eq,bE]at f1;exact f1.1.2
 refine⟨⟨by omega,c2,by omega,fun l hl=>(fP (ni (by omega) f2 l hl)).1⟩,by omega⟩
theorem Bg {c:eI}(hS:Small c)(h0:0<c.ez.length)(more:List (List UInt8))(hm:more.length≤1):(jK c more).length≤1000000:=by
 have h1:=hS.each _ (mV h0);have h2:=hS.wait;unfold jK;simp only[ag,ab];omega
theorem ED (c:eI)(a:ji)(more:List (List UInt8))(hw:c.wf)(hS:Small c)(h0:0<c.ez.length)(Oh:more.length≤1)(hm: ∀s∈more,s.length≤4611686018427387904){F:Hp}(ha:c.at F a){pm:Option Addr}{cm:Nat}(hfm:e9 F pm (more.map S)):
  Plain Tryz.prog F 39 [c.v a,.slice pm more.length cm] (i64 ((jI c more:Nat):Int)):=by
 obtain⟨bs,h1,h2,h3⟩:=ha.b;exact Lx c a bs more hw h0 h1 (Bg hS h0 more Oh) hm ha.w h2 h3 hfm
theorem NJ (c:eI):((((!(decide (1≤c.batch)&&decide (c.batch≤30)))||(!(decide (1≤c.every)&&decide (c.every≤1000))))||decide (c.now<0))||decide (1000000000<c.now))=sS c:=by
 unfold sS;rw[ai];simp only[bD,bz,bn,aU,av];omega
attribute [local irreducible] vc dW gz fg fD gF gJ gB fJ Plain eD eX dK VS fv fA fG jt fh IntKind.wrap
attribute [local irreducible] dY gN iu gK fL gh fj fu jG jI
set_option maxRecDepth 100000
set_option maxHeartbeats 4000000
theorem m0 (c:eI)(a:ji)(hw:c.wf){F:Hp}(ha:c.at F a):Plain Tryz.prog F 36 [c.v a] (i64 (gh c)):=by
 have hhl:=hw.hlen;refine dQ (N:=50) (rv:=[.tmp 2]) eW mixed Tryz.func36 rfl rfl rfl rfl rfl ?_;(refine run ?_;repeat intro b);refine dJ _ rfl rfl rfl Rv rfl (oQ c.queue hw.queue ha.w) ?_;(refine run ?_;repeat intro b);refine eE (decide (fj c.queue≠0)) ?_ (fun h0=>?_) (fun h0=>?_)
 ·refine dV ?_;rw[ai];simp
 ·have e:gh c=fj c.queue:=by unfold gh;rw[aZ (ar h0)]
  rw[e];(refine run ?_;repeat intro b);rfl
 have h0:fj c.queue=0:=by have:=au h0;omega
 (refine run ?_;repeat intro b);refine dJ _ rfl rfl rfl MR rfl (tE c.batch 30 F) ?_;(refine run ?_;repeat intro b);refine gm _ rfl rfl rfl rfl MR rfl rfl (fun _=>tE c.every 1000 F) ?_;(refine run ?_;repeat intro b);refine eE (sS c) ?_ (fun h1=>?_) (fun h1=>?_)
 ·refine dV ?_;rw[fx,fx,fx,←NJ]
 ·have e:gh c=4:=by unfold gh;rw[aY (by rw[h0];decide),aZ h1]
  rw[e];(refine run ?_;repeat intro b);rfl
 (refine run ?_;repeat intro b);refine dJ _ rfl rfl rfl R0 rfl (oR c.dS (by omega) hw.dS ha.h) ?_;(refine run ?_;repeat intro b);refine eE (decide ((fu c.dS).1≠0)) ?_ (fun h2=>?_) (fun h2=>?_)
 ·refine dV ?_;rw[ai];simp
 ·have e:gh c=(fu c.dS).1:=by unfold gh;rw[aY (by rw[h0];decide),h1,aY (by decide),aZ (ar h2)]
  rw[e];(refine run ?_;repeat intro b);rfl
 have h2:(fu c.dS).1=0:=by have:=au h2;omega
 (refine run ?_;repeat intro b);refine dJ _ rfl rfl rfl X2 rfl (LN c a hw (Kh h2) ha) ?_;(refine run ?_;repeat intro b);refine eE (decide (jG c≠0)) ?_ (fun h3=>?_) (fun h3=>?_)
 ·refine dV ?_;rw[ai];simp
 ·have e:gh c=jG c:=by unfold gh;rw[aY (by rw[h0];decide),h1,aY (by decide),aY (by rw[h2];decide),aZ (ar h3)]
  rw[e];(refine run ?_;repeat intro b);rfl
 have h3:jG c=0:=by have:=au h3;omega
 obtain⟨hS,hb0⟩:=Kj h0 h2 h3;rw[C0 h0 h1 h2 h3];(refine run ?_;repeat intro b);refine dJ _ rfl rfl rfl UI rfl (ED c a [] hw hS hb0 (by decide) (fun s hs=>by cases hs) ha (eJ _ _)) ?_;(refine run ?_;repeat intro b);refine eE (decide (24<jI c [])) ?_ (fun h4=>?_) (fun h4=>?_)
 ·refine dV ?_;rw[aV];omega
 ·rw[aZ (ar h4)];(refine run ?_;repeat intro b);rfl
 rw[aY (au h4)];(refine run ?_;repeat intro b);rfl
end
end Go.Proofs.YthbnddgjkonkdaaGreatDoor
