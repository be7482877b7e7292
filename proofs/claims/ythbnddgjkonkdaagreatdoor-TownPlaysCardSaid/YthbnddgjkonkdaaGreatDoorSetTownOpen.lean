/- A part of the proof. -/
import Derived.ProofKit
import Derived.OpenShut
import Derived.ShutString
import Derived.ChangeOld
import Derived.SizedLaws
import Derived.Deep.Slices
import Derived.Test.YthbnddgjkonkdaaGreatDoorSetTownPlay
set_option linter.unusedVariables false
set_option linter.unusedSimpArgs false
namespace Go.Proofs.YthbnddgjkonkdaaGreatDoor
section
open Go.ChangeShapes Go.WideShapes Go.ChangeAt Go.RowKit
open Go.TR (S jB bl)
theorem rk {n:Nat}(h:n≤reachBytes):n≤4611686018427387904:=by have:=reachBytes_lt;omega
section
variable {H:Type} {enc:TypeId×Value→H} {P:Program} {W:World} {b0 base:Nat} {spare:Nat→Bool} {held:Bool} {r:Reach} {t:TypeId} {v:Value} {d:DataW H} {ps:List MemPlace}
end
end
section
open Go.ChangeShapes Go.WideShapes Go.ChangeAt Go.RowKit
open Go.TR (S jB bl Hp gb jx im eY)
abbrev vD:=Hp→List Value→Prop
def wi (P:Program)(t:TypeId)(R:vD):Prop:=∀(H:Type) (enc:TypeId×Value→H) (W:World) (base:Nat) (spare:Nat→Bool) (held:Bool) (fuel:Nat) (cs:List Value) (x:DataW H×List MemPlace),
 DataW.trod enc P W base spare held fuel t cs=some x→(∀n∈x.1.weights P t,n≤reachBytes)→R (fun k=>W.heap[k]?) cs
def qd:vD:=fun _ cs=>∃n:Int,cs=[i64 n]∧ -9223372036854775808≤n∧n≤9223372036854775807
def Gl:vD:=fun _ cs=>∃n:Nat,cs=[u64 (n:Nat)]∧n<18446744073709551616
def RU8:vD:=fun _ cs=>∃n:Nat,cs=[u8 (n:Nat)]∧n<256
def ZG:vD:=fun _ cs=>∃b:Bool,cs=[.bool b]
def Er:vD:=fun _ cs=>∃s:List UInt8,cs=[S s]∧s.length≤reachBytes
def R8:List vD→vD
 | [],_,cs=>cs=[]
 | R::Rs,F,cs=>∃a b,cs=a++b∧R F a∧R8 Rs F b
def Dt (m b:Nat)(R:vD):vD:=fun F cs=>∃(p:Option Addr) (n c:Nat) (rows:List (List Value)),cs=[.slice p n c]∧rows.length=n∧n * b≤reachBytes∧n≤c∧(∀r∈rows,r.length=m∧R F r)∧eY F p rows.flatten
section
variable {P:Program} {t:TypeId}
theorem wi.mono {R R':vD}(h:wi P t R)(k: ∀F cs,R F cs→R' F cs):wi P t R':=fun H enc W base spare held fuel cs x hx hw=>k _ _ (h H enc W base spare held fuel cs x hx hw)
theorem ka (ht:P.underlying t=some (.int .i64)):wi P t qd:=fun H enc W base spare held fuel cs x h _=>by
 obtain⟨n,rfl,_,h2⟩:=DataW.trod_int ht h;simp[Lit.wf,IntKind.min,IntKind.max,IntKind.bits,IntKind.signed]at h2;exact⟨n,rfl,by omega,by omega⟩
theorem xC (ht:P.underlying t=some (.int .u64)):wi P t Gl:=fun H enc W base spare held fuel cs x h _=>by
 obtain⟨n,rfl,_,h2⟩:=DataW.trod_int ht h;simp[Lit.wf,IntKind.min,IntKind.max,IntKind.bits,IntKind.signed]at h2;exact⟨n.toNat,by rw[Int.toNat_of_nonneg (by omega)],by omega⟩
theorem uN (ht:P.underlying t=some .string):wi P t Er:=fun H enc W base spare held fuel cs x h hw=>by
 obtain⟨s,rfl,rfl,_⟩:=DataW.trod_string ht h;refine⟨s.data.toList,rfl,hw _ (by simp[DataW.weights])⟩
def Hu (P:Program)(t:TypeId):Nat→List Field→List vD→Prop
 | o,[],[]=>P.cellsOf t=o
 | o,f::fs,R::Rs=>f.offset=o∧wi P f.type R∧Hu P t (o+P.cellsOf f.type) fs Rs
 | _,_,_=>False
theorem l7 {fs:Array Field}{Rs:List vD}(ht:P.underlying t=some (.struct fs))(hf:Hu P t 0 fs.toList Rs):wi P t (R8 Rs):=fun H enc W base spare held fuel cs x h hw=>by
 obtain⟨xs,n,rfl,rfl,hl,hn,hx⟩:=DataW.trod_struct ht h;have key: ∀(k:Nat) (l:List Field) (Rs:List vD) (o:Nat),fs.toList.drop k=l→Hu P t o l Rs→R8 Rs (fun k=>W.heap[k]?) (cs.drop o):=by
  intro k l
  induction l generalizing k with
  | nil=>
   intro Rs o _ hA;cases Rs with
   | nil=>exact List.drop_eq_nil_of_le (by rw[hl];exact Nat.le_of_eq hA)
   | cons=>exact hA.elim
  | cons f l ih=>
   intro Rs o hk hA;cases Rs with
   | nil=>exact hA.elim
   | cons R Rs=>
    obtain⟨h1,h2,h3⟩:=hA;have hget:fs.toList[k]? =some f:=by
     have:=congrArg (fun l=>l[0]?) hk;simpa using this
    have BC:fs[k]? =some f:=by simpa using hget
    have hlt:k<fs.size:=(Array.getElem?_eq_some_iff.1 BC).1;have hxk:=hx k f BC;rw[List.getElem?_eq_getElem (by omega)]at hxk;refine⟨(cs.drop o).take (P.cellsOf f.type),cs.drop (o+P.cellsOf f.type),?_,?_,ih (k+1) Rs _ ?_ h3⟩
    ·rw[←List.drop_drop,List.take_append_drop]
    ·rw[h1]at hxk;refine h2 H enc W base spare held n _ _ hxk fun m hm=>hw m ?_;simp only[DataW.weights,ht];refine DataW.weights_mem_each (j:=k) (t:=f.type) (d:=xs[k].1) (by rw[List.getElem?_map,hget];rfl) (by rw[List.getElem?_map,List.getElem?_eq_getElem (by omega)];rfl) m hm
    have:=congrArg List.tail hk;simpa [List.tail_drop] using this
 have:=key 0 fs.toList Rs 0 rfl hf;simpa using this
theorem rL {H:Type}{e:TypeId}: ∀{ds:List (DataW H)} {d:DataW H},d∈ds→∀n∈d.weights P e,n∈DataW.weightsAll P e ds
 | d0::ds,d,hd,n,hn=>by
  simp only[DataW.weightsAll,List.mem_append];rcases List.mem_cons.1 hd with rfl | hd
  ·exact .inl hn
  exact .inr (rL hd n hn)
theorem Ay {F:Hp}{p:Option Addr}{m:Nat}: ∀(rows:List (List Value)) (o:Nat),(∀r∈rows,r.length=m)→(∀i r,rows[i]? =some r→∀j u,r[j]? =some u→gb F (im p (o+i * m+j))=some u)→eY F (im p o) rows.flatten
 | [],_,_,_=>fun j u h=>by simp at h
 | r::rows,o,hl,h=>fun j u hu=>by
  have l0:=hl r List.mem_cons_self;rw[List.flatten_cons,List.getElem?_append]at hu;rw[sc];split at hu
  ·have:=h 0 r rfl j u hu;simpa using this
  have ih:=Ay rows (o+m) (fun r hr=>hl r (List.mem_cons_of_mem _ hr)) (fun i r' hr j u hu=>by
   have:=h (i+1) r' (by simpa using hr) j u hu;rw[Nat.succ_mul]at this;rw[←this];congr 2;omega)
  have:=ih (j - r.length) u hu;rw[sc]at this;rw[←this];congr 2;omega
theorem mR {e:TypeId}{m b:Nat}{R:vD}(ht:P.underlying t=some (.slice e))(hm:P.cellsOf e=m)(hb:P.bytesOf e=b)(he:wi P e R):wi P t (Dt m b R):=fun H enc W base spare held fuel cs x h hw=>by
 rcases DataW.trod_slice ht h with⟨rfl,rfl⟩ | ⟨a,len,cap,elems,rest,n,rfl,rfl,rfl,_,hlc,_,hlen,hel,_,_⟩
 ·exact⟨none,0,0,[],rfl,rfl,by omega,Nat.le_refl _,by simp,fun j u h=>by simp at h⟩
 have hi: ∀i,i<len→∃row,row.length=m∧R (fun k=>W.heap[k]?) row∧ ∀j u,row[j]? =some u→gb (fun k=>W.heap[k]?) (im (some a) (i * m+j))=some u:=fun i hi=>by
  have h1:=hel i hi;rw[List.getElem?_eq_getElem (by omega)]at h1;obtain⟨cs',h2,h3⟩:=Option.bind_eq_some_iff.1 h1;obtain⟨_,h4,h5⟩:=World.cells?_some h2;refine⟨cs',by rw[h4,hm],he H enc W base spare held n cs' _ h3 (fun q hq=>hw q ?_),fun j u hu=>?_⟩
  ·simp only[DataW.weights,ht,List.mem_cons,List.mem_append];exact .inr (.inl (rL (List.mem_map.2 ⟨_,List.getElem_mem _,rfl⟩) q hq))
  have hj:j<cs'.length:=(List.getElem?_eq_some_iff.1 hu).1;have:=h5 j (by omega);rw[hu,Go.Deep.add_add,hm]at this;exact this
 obtain⟨V,hV⟩:=Go.Deep.choose_lt (α:=List Value) hi;refine⟨some a,len,cap,(List.range len).map V,rfl,by simp,?_,hlc,fun r hr=>?_,?_⟩
 ·have:=hw ((elems.length+rest.length) * b) (by rw[←hb];simp[DataW.weights,ht]);subst hlen;refine Nat.le_trans (Nat.mul_le_mul_right _ (by simp)) this
 ·simp only[List.mem_map,List.mem_range]at hr;obtain⟨i,hi,rfl⟩:=hr;exact⟨(hV i hi).1,(hV i hi).2.1⟩
 have key:=Ay (F:=fun k=>W.heap[k]?) (p:=some a) (m:=m) ((List.range len).map V) 0 (fun r hr=>by
  simp only[List.mem_map,List.mem_range]at hr;obtain⟨i,hi,rfl⟩:=hr;exact (hV i hi).1) (fun i r hr j u hu=>by
  simp only[List.getElem?_map,Option.map_eq_some_iff]at hr;obtain⟨i',h1,rfl⟩:=hr;have hlt:i<len:=by
   have:=(List.getElem?_eq_some_iff.1 h1).1;simpa using this
  have e1:i'=i:=by
   rw[List.getElem?_eq_getElem (by simpa using hlt)]at h1;simpa using h1.symm
  subst e1;have:=(hV i' hlt).2.2 j u hu;rw[←this];congr 2;omega)
 exact key
theorem zw {α:Type}(f:α→List Value)(q:α→Prop): ∀{rows:List (List Value)},(∀r∈rows,∃a,r=f a∧q a)→∃l:List α,rows=l.map f∧ ∀a∈l,q a
 | [],_=>⟨[],rfl,by simp⟩
 | r::rows,h=>by
  obtain⟨a,rfl,ha⟩:=h r List.mem_cons_self;obtain⟨l,rfl,hl⟩:=zw f q fun r hr=>h r (List.mem_cons_of_mem _ hr);exact⟨a::l,rfl,fun b hb=>by rcases List.mem_cons.1 hb with rfl | hb;exact ha;exact hl b hb⟩
theorem Pz {α:Type}(f:α→Value)(l:List α):(l.map fun a=>[f a]).flatten=l.map f:=by
 induction l with
 | nil=>rfl
 | cons a l ih=>simp[ih]
theorem Cn {α:Type}{b:Nat}{R:vD}(f:α→Value)(q:α→Prop)(hR: ∀F r,R F r→∃a,r=[f a]∧q a){F:Hp}{cs:List Value}(h:Dt 1 b R F cs): ∃(p:Option Addr) (c:Nat) (l:List α),cs=[.slice p l.length c]∧l.length≤c∧l.length * b≤reachBytes∧(∀a∈l,q a)∧eY F p (l.map f):=by
 obtain⟨p,n,c,rows,rfl,rfl,h1,h2,h3,h4⟩:=h;obtain⟨l,rfl,hl⟩:=zw (fun a=>[f a]) q fun r hr=>hR F r (h3 r hr).2;rw[Pz]at h4;rw[List.length_map]at h1 h2;exact⟨p,c,l,by rw[List.length_map],h2,h1,hl,h4⟩
theorem PJ {b:Nat}{F:Hp}{cs:List Value}(h:Dt 1 b Er F cs): ∃(p:Option Addr) (c:Nat) (l:List (List UInt8)),cs=[.slice p l.length c]∧l.length≤c∧l.length * b≤reachBytes∧(∀s∈l,s.length≤reachBytes)∧eY F p (l.map S):=Cn S (fun s=>s.length≤reachBytes) (fun _ _ h=>h) h
theorem IE {b:Nat}{F:Hp}{cs:List Value}(h:Dt 1 b Gl F cs): ∃(p:Option Addr) (c:Nat) (l:List Nat),cs=[.slice p l.length c]∧l.length≤c∧l.length * b≤reachBytes∧(∀n∈l,n<18446744073709551616)∧eY F p (l.map fun n=>u64 (n:Nat)):=Cn (fun n:Nat=>u64 (n:Nat)) (fun n=>n<18446744073709551616) (fun _ _ h=>h) h
theorem PC {b:Nat}{F:Hp}{cs:List Value}(h:Dt 1 b qd F cs): ∃(p:Option Addr) (c:Nat) (l:List Int),cs=[.slice p l.length c]∧l.length≤c∧l.length * b≤reachBytes∧(∀n∈l, -9223372036854775808≤n∧n≤9223372036854775807)∧eY F p (l.map i64):=Cn i64 (fun n=> -9223372036854775808≤n∧n≤9223372036854775807) (fun _ _ h=>h) h
theorem xT {α:Type}{m b:Nat}{R:vD}(f:α→List Value){F:Hp}(q:α→Prop)(hR: ∀r,R F r→∃a,r=f a∧q a){cs:List Value}(h:Dt m b R F cs): ∃(p:Option Addr) (c:Nat) (l:List α),cs=[.slice p l.length c]∧l.length≤c∧l.length * b≤reachBytes∧(∀a∈l,q a)∧eY F p (l.flatMap f):=by
 obtain⟨p,n,c,rows,rfl,rfl,h1,h2,h3,h4⟩:=h;obtain⟨l,rfl,hl⟩:=zw f q fun r hr=>hR r (h3 r hr).2;rw[←List.flatMap_def]at h4;rw[List.length_map]at h1 h2;exact⟨p,c,l,by rw[List.length_map],h2,h1,hl,h4⟩
end
section
variable {H:Type} {enc:TypeId×Value→H} {P:Program} {W:World} {b0 base:Nat} {spare:Nat→Bool} {held:Bool} {r:Reach} {t:TypeId} {v:Value} {d:DataW H} {ps:List MemPlace} {ts:List TypeId} {ds:List (DataW H)} {j:Nat} {R:vD}
theorem opened (h0:wi P t R)(h:DataW.Trod enc P W base spare held t v d ps)(hsz:(DataW.weightsEach P ts ds).all (· ≤reachBytes)=true)(ht:ts[j]? =some t)(hd:ds[j]? =some d):R (fun k=>W.heap[k]?) v.cells.toList:=by
 obtain⟨fuel,h⟩:=h;exact h0 _ _ _ _ _ _ _ _ _ h fun n hn=>by
  have:=List.all_eq_true.1 hsz _ (DataW.weights_mem_each ht hd n hn);simpa using this
theorem R9 {fs:Array Field}(hu:P.underlying t=some (.struct fs))(h0:wi P t R)(hsz:(DataW.weightsEach P ts ds).all (· ≤reachBytes)=true)(ht:ts[j]? =some t)(hd:ds[j]? =some d)(hv:Value.okWide P W r b0 t v)(h:DataW.Trod enc P W base spare held t v d ps): ∃cs:List Value,v= .agg cs.toArray∧R (fun k=>W.heap[k]?) cs:=by
 obtain⟨cs,rfl,_⟩:=okWide_struct hu hv;exact⟨cs.toList,rfl,opened h0 h hsz ht hd⟩
theorem RE {e:TypeId}(hu:P.underlying t=some (.slice e))(h0:wi P t R)(hsz:(DataW.weightsEach P ts ds).all (· ≤reachBytes)=true)(ht:ts[j]? =some t)(hd:ds[j]? =some d)(hv:Value.okWide P W r b0 t v)(h:DataW.Trod enc P W base spare held t v d ps):R (fun k=>W.heap[k]?) [v]:=by
 obtain⟨a,l,c,rfl⟩:=okWide_slice hu hv;exact opened h0 h hsz ht hd
end
end
section
open Go.ChangeShapes Go.WideShapes Go.ChangeAt Go.RowKit
open Go.TR (S jB bl Hp gb jx im eY)
set_option maxRecDepth 100000
section
variable {H:Type} {enc:TypeId×Value→H} {W:World} {b0 base:Nat} {spare:Nat→Bool} {held:Bool} {r:Reach} {v:Value} {d:DataW H} {ps:List MemPlace} {ts:List TypeId} {ds:List (DataW H)} {j:Nat}
theorem LY:wi Tryz.prog 54 (Dt 1 16 Er):=mR Tryz.underlying54 (by kernel_rfl) (by kernel_rfl) (uN Tryz.underlying9)
theorem LQ:wi Tryz.prog 43 (Dt 1 8 Gl):=mR Tryz.underlying43 (by kernel_rfl) (by kernel_rfl) (xC Tryz.underlying33)
theorem Mt:wi Tryz.prog 69 (Dt 1 8 qd):=mR Tryz.underlying69 (by kernel_rfl) (by kernel_rfl) (ka Tryz.underlying3)
end
end
section
open Go.ChangeShapes Go.WideShapes Go.ChangeAt Go.RowKit
open Go.TR (S jB bl Hp gb jx im eY)
set_option maxRecDepth 100000
def GP:vD:=fun _ cs=>∃x:Entry,cs=x.row∧x.wf
theorem Jt:wi Tryz.prog 122 GP:=by
 refine (l7 (Rs:=[Er,Er]) Tryz.underlying122 ⟨rfl,uN Tryz.underlying9,rfl,uN Tryz.underlying9,(by show Tryz.prog.cellsOf 122=_;kernel_rfl)⟩).mono ?_;rintro F cs ⟨_,_,rfl,⟨a,rfl,ha⟩,_,_,rfl,⟨b,rfl,hb⟩,rfl⟩;exact⟨⟨a,b⟩,rfl,⟨rk ha,rk hb⟩⟩
theorem Mi:wi Tryz.prog 42 (Dt 2 32 GP):=mR Tryz.underlying42 (by kernel_rfl) (by kernel_rfl) Jt
def Mj:vD:=fun F cs=>∃(p:jn) (a:Lay),cs=[S p.name,.slice a.e p.fZ.length a.ce,.slice a.s p.fC.length a.cs]∧p.wf∧p.fZ.length≤a.ce∧p.fC.length≤a.cs∧p.fZ.length * 32≤140737488355328∧p.fC.length * 8≤140737488355328∧p.at F a
theorem JB:wi Tryz.prog 45 Mj:=by
 refine (l7 (Rs:=[Er,Dt 2 32 GP,Dt 1 8 Gl]) Tryz.underlying45 ⟨rfl,uN Tryz.underlying9,rfl,Mi,rfl,mR (P:=Tryz.prog) Tryz.underlying43 (by kernel_rfl) (by kernel_rfl) (xC Tryz.underlying33),(by show Tryz.prog.cellsOf 45=_;kernel_rfl)⟩).mono ?_;rintro F cs ⟨_,_,rfl,⟨n,rfl,hn⟩,_,_,rfl,hb,_,_,rfl,hc,rfl⟩;obtain⟨p1,c1,l1,rfl,h1,h2,h3,h4⟩:=xT Entry.row Entry.wf (fun r hr=>hr) hb;obtain⟨p2,c2,l2,rfl,k1,k2,k3,k4⟩:=IE hc;have:=reachBytes_lt;exact⟨⟨n,l1,l2⟩,⟨p1,c1,p2,c2⟩,rfl,⟨rk hn,by simp only;omega,h3,by simp only;omega,k3⟩,h1,k1,by simp only;omega,by simp only;omega,⟨h4,k4⟩⟩
section
variable {H:Type} {enc:TypeId×Value→H} {W:World} {b0 base:Nat} {spare:Nat→Bool} {held:Bool} {r:Reach} {v:Value} {d:DataW H} {ps:List MemPlace} {ts:List TypeId} {ds:List (DataW H)} {j:Nat}
end
end
section
open Go.ChangeShapes Go.WideShapes Go.ChangeAt Go.RowKit
open Go.TR (S jB bl Hp gb jx im eY)
@[reducible] def Head.cells (h:Head):List Value:=[i64 h.dW,u64 (h.root:Nat),u64 (h.prev:Nat),i64 h.at_]
def IB:vD:=fun _ cs=>∃h:Head,cs=h.cells∧h.wf
set_option maxRecDepth 100000
theorem E5:wi Tryz.prog 41 IB:=by
 refine (l7 (Rs:=[qd,Gl,Gl,qd]) Tryz.underlying41 ⟨rfl,ka Tryz.underlying2,rfl,xC Tryz.underlying33,rfl,xC Tryz.underlying33,rfl,ka Tryz.underlying2,(by show Tryz.prog.cellsOf 41=_;kernel_rfl)⟩).mono ?_;rintro F cs ⟨_,_,rfl,⟨a,rfl,ha⟩,_,_,rfl,⟨b,rfl,hb⟩,_,_,rfl,⟨c,rfl,hc⟩,_,_,rfl,⟨d,rfl,hd⟩,rfl⟩;exact⟨⟨a,b,c,d⟩,rfl,⟨hb,hc,ha,hd⟩⟩
section
variable {H:Type} {enc:TypeId×Value→H} {W:World} {b0 base:Nat} {spare:Nat→Bool} {held:Bool} {r:Reach} {v:Value} {d:DataW H} {ps:List MemPlace} {ts:List TypeId} {ds:List (DataW H)} {j:Nat}
end
end
section
open Go.ChangeShapes Go.WideShapes Go.ChangeAt Go.RowKit
open Go.TR (S jB bl Hp gb jx im eY)
set_option maxRecDepth 100000
theorem Kj:wi Tryz.prog 25 (Dt 4 32 IB):=mR Tryz.underlying25 (by kernel_rfl) (by kernel_rfl) E5
section
variable {H:Type} {enc:TypeId×Value→H} {W:World} {b0 base:Nat} {spare:Nat→Bool} {held:Bool} {r:Reach} {v:Value} {d:DataW H} {ps:List MemPlace} {ts:List TypeId} {ds:List (DataW H)} {j:Nat}
end
end
section
open Go.ChangeShapes Go.WideShapes Go.ChangeAt Go.RowKit
open Go.TR (S jB bl Hp gb jx im eY)
set_option maxRecDepth 100000
def NO:vD:=fun F cs=>∃(h:Head) (p:jn) (a:Lay),cs=[i64 h.dW,u64 (h.root:Nat),u64 (h.prev:Nat),i64 h.at_,S p.name,.slice a.e p.fZ.length a.ce,.slice a.s p.fC.length a.cs]∧h.wf∧p.wf∧p.fZ.length≤a.ce∧p.fC.length≤a.cs∧p.fZ.length * 32≤140737488355328∧p.fC.length * 8≤140737488355328∧p.at F a
theorem KT:wi Tryz.prog 47 NO:=by
 refine (l7 (Rs:=[IB,Mj]) Tryz.underlying47 ⟨rfl,E5,(by kernel_rfl),JB,(by show Tryz.prog.cellsOf 47=_;kernel_rfl)⟩).mono ?_;rintro F cs ⟨_,_,rfl,⟨h,rfl,hw⟩,_,_,rfl,⟨p,a,rfl,h1,h2,h3,h4,h5,h6⟩,rfl⟩;exact⟨h,p,a,rfl,hw,h1,h2,h3,h4,h5,h6⟩
def aag:vD:=fun F cs=>∃x:LP,cs=x.row∧x.l.wf∧x.at F
def aae:vD:=fun F cs=>∃n:NP,cs=[i64 n.now,.slice n.p n.gz.length n.c]∧n.gz.length * 152≤140737488355328∧n.gz.length≤n.c∧(∀x∈n.gz,x.l.wf)∧n.at F
section
variable {H:Type} {enc:TypeId×Value→H} {W:World} {b0 base:Nat} {spare:Nat→Bool} {held:Bool} {r:Reach} {v:Value} {d:DataW H} {ps:List MemPlace} {ts:List TypeId} {ds:List (DataW H)} {j:Nat}
end
end
section
open Go.ChangeShapes Go.WideShapes Go.ChangeAt Go.RowKit
open Go.TR (S jB bl Hp gb jx im eY)
set_option maxRecDepth 100000
def QX:vD:=fun F cs=>∃x:LP,cs=x.row∧x.l.wf∧x.at F∧(-9223372036854775808≤x.l.since∧x.l.since≤9223372036854775807)
theorem EY:wi Tryz.prog 71 QX:=by
 refine (l7 (Rs:=[qd,qd,qd,qd,Dt 4 32 IB,NO]) Tryz.underlying71 ⟨rfl,ka Tryz.underlying3,(by kernel_rfl),ka Tryz.underlying3,(by kernel_rfl),ka Tryz.underlying2,(by kernel_rfl),ka Tryz.underlying2,(by kernel_rfl),Kj,(by kernel_rfl),KT,(by show Tryz.prog.cellsOf 71=_;kernel_rfl)⟩).mono ?_;rintro F cs ⟨_,_,rfl,⟨a1,rfl,_,_⟩,_,_,rfl,⟨a2,rfl,_,_⟩,_,_,rfl,⟨a3,rfl,k1,k2⟩,_,_,rfl,⟨a4,rfl,_,_⟩,_,_,rfl,hh,_,_,rfl,⟨h,p,a,rfl,h1,h2,h3,h4,h5,h6,h7⟩,rfl⟩;obtain⟨p1,c1,l1,rfl,g1,g2,g3,g4⟩:=xT Head.row Head.wf (fun r hr=>hr) hh;have:=reachBytes_lt;exact⟨⟨⟨a1,a2,a3,a4,l1,h,p⟩,p1,c1,a⟩,rfl,⟨by simp only;omega,g3,h1,h2,h5,h6⟩,⟨g4,h7⟩,k1,k2⟩
def Qr:vD:=fun F cs=>∃x:qP,cs=x.row∧x.d.ok∧x.at F
theorem NR:wi Tryz.prog 73 Qr:=by
 refine (l7 (Rs:=[qd,qd,Er,Dt 1 8 qd,QX]) Tryz.underlying73 ⟨rfl,ka Tryz.underlying3,(by kernel_rfl),ka Tryz.underlying3,(by kernel_rfl),uN Tryz.underlying9,(by kernel_rfl),Mt,(by kernel_rfl),EY,(by show Tryz.prog.cellsOf 73=_;kernel_rfl)⟩).mono ?_;rintro F cs ⟨_,_,rfl,⟨k,rfl,_,_⟩,_,_,rfl,⟨w,rfl,_,_⟩,_,_,rfl,⟨v,rfl,hv⟩,_,_,rfl,hf,_,_,rfl,⟨x,rfl,h1,h2,h3⟩,rfl⟩;obtain⟨p1,c1,l1,rfl,g1,g2,g3,g4⟩:=PC hf;have:=reachBytes_lt;exact⟨⟨k,w,v,⟨l1,p1,c1⟩,x⟩,rfl,⟨rk hv,by show l1.length≤_;omega,h1,h3⟩,⟨g4,h2⟩⟩
theorem JL:wi Tryz.prog 57 (Dt 16 208 Qr):=mR Tryz.underlying57 (by kernel_rfl) (by kernel_rfl) NR
def Sc:vD:=fun F cs=>∃(s:lT) (a:Ak),cs=s.row a∧s.wf∧s.at F a
theorem KF:wi Tryz.prog 56 Sc:=by
 refine (l7 (Rs:=[Dt 1 16 Er,Dt 1 8 Gl,qd,qd,qd,qd,qd,qd,qd]) Tryz.underlying56 ⟨rfl,LY,(by kernel_rfl),LQ,(by kernel_rfl),ka Tryz.underlying3,(by kernel_rfl),ka Tryz.underlying3,(by kernel_rfl),ka Tryz.underlying3,(by kernel_rfl),ka Tryz.underlying3,(by kernel_rfl),ka Tryz.underlying3,(by kernel_rfl),ka Tryz.underlying3,(by kernel_rfl),ka Tryz.underlying3,(by show Tryz.prog.cellsOf 56=_;kernel_rfl)⟩).mono ?_;rintro F cs ⟨_,_,rfl,hn,_,_,rfl,hk,_,_,rfl,⟨n1,rfl,a1⟩,_,_,rfl,⟨n2,rfl,a2⟩,_,_,rfl,⟨n3,rfl,a3⟩,_,_,rfl,⟨n4,rfl,a4⟩,_,_,rfl,⟨n5,rfl,a5⟩,_,_,rfl,⟨n6,rfl,a6⟩,_,_,rfl,⟨n7,rfl,a7⟩,rfl⟩;obtain⟨p1,c1,l1,rfl,g1,g2,g3,g4⟩:=PJ hn;obtain⟨p2,c2,l2,rfl,k1,k2,k3,k4⟩:=IE hk;have:=reachBytes_lt;exact⟨⟨l1,l2,n1,n2,n3,n4,n5,n6,n7⟩,⟨p1,c1,p2,c2⟩,rfl,⟨by show l1.length≤_;omega,fun n hn=>rk (g3 n hn),by show l2.length≤_;omega,k3,a1,a2,a3,a4,a5,a6,a7⟩,⟨g4,g1,k4⟩⟩
section
variable {H:Type} {enc:TypeId×Value→H} {W:World} {b0 base:Nat} {spare:Nat→Bool} {held:Bool} {r:Reach} {v:Value} {d:DataW H} {ps:List MemPlace} {ts:List TypeId} {ds:List (DataW H)} {j:Nat}
theorem Ht (hsz:(DataW.weightsEach Tryz.prog ts ds).all (· ≤reachBytes)=true)(ht:ts[j]? =some 56)(hd:ds[j]? =some d)(hv:Value.okWide Tryz.prog W r b0 56 v)(h:DataW.Trod enc Tryz.prog W base spare held 56 v d ps):
  ∃(s:lT) (a:Ak),v= .agg (s.row a).toArray∧s.wf∧s.at (fun k=>W.heap[k]?) a:=by
 obtain⟨cs,rfl,s,a,rfl,h1,h2⟩:=R9 Tryz.underlying56 KF hsz ht hd hv h;exact⟨s,a,rfl,h1,h2⟩
theorem HP (hsz:(DataW.weightsEach Tryz.prog ts ds).all (· ≤reachBytes)=true)(ht:ts[j]? =some 57)(hd:ds[j]? =some d)(hv:Value.okWide Tryz.prog W r b0 57 v)(h:DataW.Trod enc Tryz.prog W base spare held 57 v d ps):
  ∃d:K6,v= .slice d.p d.l.length d.c∧d.l.length≤4611686018427387904∧d.at (fun k=>W.heap[k]?):=by
 obtain⟨p,c,l,e,h1,h2,h3,h4⟩:=xT qP.row (fun x=>x.d.ok∧x.at (fun k=>W.heap[k]?)) (fun r hr=>hr) (RE Tryz.underlying57 JL hsz ht hd hv h);have:=reachBytes_lt;exact⟨⟨l,p,c⟩,List.head_eq_of_cons_eq e,by show l.length≤_;omega,h4,fun x hx=>(h3 x hx).2,fun x hx=>(h3 x hx).1⟩
end
end
end Go.Proofs.YthbnddgjkonkdaaGreatDoor
