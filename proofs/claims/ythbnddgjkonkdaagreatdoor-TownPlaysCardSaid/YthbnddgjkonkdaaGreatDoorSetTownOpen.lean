/- A part of the proof. -/
import Derived.ProofKit
import Derived.OpenShut
import Derived.ShutString
import Derived.ChangeOld
import Derived.SizedLaws
import Derived.Deep.Slices
import Derived.Test.YthbnddgjkonkdaaGreatDoorSetTownPlay
set_option linter.unusedVariables false
set_option linter.unusedSimpArgs false
namespace Go.Proofs.YthbnddgjkonkdaaGreatDoor
section
open Go.ChangeShapes Go.WideShapes Go.ChangeAt Go.RowKit
open Go.TR (S jE bl)
theorem rI {n:Nat}(h:n≤reachBytes):n≤4611686018427387904:=by have:=reachBytes_lt;omega
section
variable {H:Type} {enc:TypeId×Value→H} {P:Program} {W:World} {b0 base:Nat} {spare:Nat→Bool} {held:Bool} {r:Reach} {t:TypeId} {v:Value} {d:DataW H} {ps:List MemPlace}
end
end
section
open Go.ChangeShapes Go.WideShapes Go.ChangeAt Go.RowKit
open Go.TR (S jE bl Hp gi jz iw e9)
abbrev vE:=Hp→List Value→Prop
def wv (P:Program)(t:TypeId)(R:vE):Prop:=∀(H:Type) (enc:TypeId×Value→H) (W:World) (base:Nat) (spare:Nat→Bool) (held:Bool) (fuel:Nat) (cs:List Value) (x:DataW H×List MemPlace),
 DataW.trod enc P W base spare held fuel t cs=some x→(∀n∈x.1.weights P t,n≤reachBytes)→R (fun k=>W.heap[k]?) cs
def qi:vE:=fun _ cs=>∃n:Int,cs=[i64 n]∧ -9223372036854775808≤n∧n≤9223372036854775807
def GR:vE:=fun _ cs=>∃n:Nat,cs=[u64 (n:Nat)]∧n<18446744073709551616
def RU8:vE:=fun _ cs=>∃n:Nat,cs=[u8 (n:Nat)]∧n<256
def ZH:vE:=fun _ cs=>∃b:Bool,cs=[.bool b]
def Fg:vE:=fun _ cs=>∃s:List UInt8,cs=[S s]∧s.length≤reachBytes
def Sb:List vE→vE
 | [],_,cs=>cs=[]
 | R::Rs,F,cs=>∃a b,cs=a++b∧R F a∧Sb Rs F b
def Dw (m b:Nat)(R:vE):vE:=fun F cs=>∃(p:Option Addr) (n c:Nat) (rows:List (List Value)),cs=[.slice p n c]∧rows.length=n∧n * b≤reachBytes∧n≤c∧(∀r∈rows,r.length=m∧R F r)∧e9 F p rows.flatten
section
variable {P:Program} {t:TypeId}
theorem wv.mono {R R':vE}(h:wv P t R)(k: ∀F cs,R F cs→R' F cs):wv P t R':=fun H enc W base spare held fuel cs x hx hw=>k _ _ (h H enc W base spare held fuel cs x hx hw)
theorem kd (ht:P.underlying t=some (.int .i64)):wv P t qi:=fun H enc W base spare held fuel cs x h _=>by
 obtain⟨n,rfl,_,h2⟩:=DataW.trod_int ht h;simp[Lit.wf,IntKind.min,IntKind.max,IntKind.bits,IntKind.signed]at h2;exact⟨n,rfl,by omega,by omega⟩
theorem xj (ht:P.underlying t=some (.int .u64)):wv P t GR:=fun H enc W base spare held fuel cs x h _=>by
 obtain⟨n,rfl,_,h2⟩:=DataW.trod_int ht h;simp[Lit.wf,IntKind.min,IntKind.max,IntKind.bits,IntKind.signed]at h2;exact⟨n.toNat,by rw[Int.toNat_of_nonneg (by omega)],by omega⟩
theorem uD (ht:P.underlying t=some .string):wv P t Fg:=fun H enc W base spare held fuel cs x h hw=>by
 obtain⟨s,rfl,rfl,_⟩:=DataW.trod_string ht h;refine⟨s.data.toList,rfl,hw _ (by simp[DataW.weights])⟩
def Ha (P:Program)(t:TypeId):Nat→List Field→List vE→Prop
 | o,[],[]=>P.cellsOf t=o
 | o,f::fs,R::Rs=>f.offset=o∧wv P f.type R∧Ha P t (o+P.cellsOf f.type) fs Rs
 | _,_,_=>False
theorem ma {fs:Array Field}{Rs:List vE}(ht:P.underlying t=some (.struct fs))(hf:Ha P t 0 fs.toList Rs):wv P t (Sb Rs):=fun H enc W base spare held fuel cs x h hw=>by
 obtain⟨xs,n,rfl,rfl,hl,hn,hx⟩:=DataW.trod_struct ht h;have key: ∀(k:Nat) (l:List Field) (Rs:List vE) (o:Nat),fs.toList.drop k=l→Ha P t o l Rs→Sb Rs (fun k=>W.heap[k]?) (cs.drop o):=by
  intro k l
  induction l generalizing k with
  | nil=>
   intro Rs o _ hA;cases Rs with
   | nil=>exact List.drop_eq_nil_of_le (by rw[hl];exact Nat.le_of_eq hA)
   | cons=>exact hA.elim
  | cons f l ih=>
   intro Rs o hk hA;cases Rs with
   | nil=>exact hA.elim
   | cons R Rs=>
    obtain⟨h1,h2,h3⟩:=hA;have hget:fs.toList[k]? =some f:=by
     have:=congrArg (fun l=>l[0]?) hk;simpa using this
    have BF:fs[k]? =some f:=by simpa using hget
    have hlt:k<fs.size:=(Array.getElem?_eq_some_iff.1 BF).1;have hxk:=hx k f BF;rw[List.getElem?_eq_getElem (by omega)]at hxk;refine⟨(cs.drop o).take (P.cellsOf f.type),cs.drop (o+P.cellsOf f.type),?_,?_,ih (k+1) Rs _ ?_ h3⟩
    ·rw[←List.drop_drop,List.take_append_drop]
    ·rw[h1]at hxk;refine h2 H enc W base spare held n _ _ hxk fun m hm=>hw m ?_;simp only[DataW.weights,ht];refine DataW.weights_mem_each (j:=k) (t:=f.type) (d:=xs[k].1) (by rw[List.getElem?_map,hget];rfl) (by rw[List.getElem?_map,List.getElem?_eq_getElem (by omega)];rfl) m hm
    have:=congrArg List.tail hk;simpa [List.tail_drop] using this
 have:=key 0 fs.toList Rs 0 rfl hf;simpa using this
theorem rC {H:Type}{e:TypeId}: ∀{ds:List (DataW H)} {d:DataW H},d∈ds→∀n∈d.weights P e,n∈DataW.weightsAll P e ds
 | d0::ds,d,hd,n,hn=>by
  simp only[DataW.weightsAll,List.mem_append];rcases List.mem_cons.1 hd with rfl | hd
  ·exact .inl hn
  exact .inr (rC hd n hn)
theorem Bl {F:Hp}{p:Option Addr}{m:Nat}: ∀(rows:List (List Value)) (o:Nat),(∀r∈rows,r.length=m)→(∀i r,rows[i]? =some r→∀j u,r[j]? =some u→gi F (iw p (o+i * m+j))=some u)→e9 F (iw p o) rows.flatten
 | [],_,_,_=>fun j u h=>by simp at h
 | r::rows,o,hl,h=>fun j u hu=>by
  have l0:=hl r List.mem_cons_self;rw[List.flatten_cons,List.getElem?_append]at hu;rw[so];split at hu
  ·have:=h 0 r rfl j u hu;simpa using this
  have ih:=Bl rows (o+m) (fun r hr=>hl r (List.mem_cons_of_mem _ hr)) (fun i r' hr j u hu=>by
   have:=h (i+1) r' (by simpa using hr) j u hu;rw[Nat.succ_mul]at this;rw[←this];congr 2;omega)
  have:=ih (j - r.length) u hu;rw[so]at this;rw[←this];congr 2;omega
theorem mT {e:TypeId}{m b:Nat}{R:vE}(ht:P.underlying t=some (.slice e))(hm:P.cellsOf e=m)(hb:P.bytesOf e=b)(he:wv P e R):wv P t (Dw m b R):=fun H enc W base spare held fuel cs x h hw=>by
 rcases DataW.trod_slice ht h with⟨rfl,rfl⟩ | ⟨a,len,cap,elems,rest,n,rfl,rfl,rfl,_,hlc,_,hlen,hel,_,_⟩
 ·exact⟨none,0,0,[],rfl,rfl,by omega,Nat.le_refl _,by simp,fun j u h=>by simp at h⟩
 have hi: ∀i,i<len→∃row,row.length=m∧R (fun k=>W.heap[k]?) row∧ ∀j u,row[j]? =some u→gi (fun k=>W.heap[k]?) (iw (some a) (i * m+j))=some u:=fun i hi=>by
  have h1:=hel i hi;rw[List.getElem?_eq_getElem (by omega)]at h1;obtain⟨cs',h2,h3⟩:=Option.bind_eq_some_iff.1 h1;obtain⟨_,h4,h5⟩:=World.cells?_some h2;refine⟨cs',by rw[h4,hm],he H enc W base spare held n cs' _ h3 (fun q hq=>hw q ?_),fun j u hu=>?_⟩
  ·simp only[DataW.weights,ht,List.mem_cons,List.mem_append];exact .inr (.inl (rC (List.mem_map.2 ⟨_,List.getElem_mem _,rfl⟩) q hq))
  have hj:j<cs'.length:=(List.getElem?_eq_some_iff.1 hu).1;have:=h5 j (by omega);rw[hu,Go.Deep.add_add,hm]at this;exact this
 obtain⟨V,hV⟩:=Go.Deep.choose_lt (α:=List Value) hi;refine⟨some a,len,cap,(List.range len).map V,rfl,by simp,?_,hlc,fun r hr=>?_,?_⟩
 ·have:=hw ((elems.length+rest.length) * b) (by rw[←hb];simp[DataW.weights,ht]);subst hlen;refine Nat.le_trans (Nat.mul_le_mul_right _ (by simp)) this
 ·simp only[List.mem_map,List.mem_range]at hr;obtain⟨i,hi,rfl⟩:=hr;exact⟨(hV i hi).1,(hV i hi).2.1⟩
 have key:=Bl (F:=fun k=>W.heap[k]?) (p:=some a) (m:=m) ((List.range len).map V) 0 (fun r hr=>by
  simp only[List.mem_map,List.mem_range]at hr;obtain⟨i,hi,rfl⟩:=hr;exact (hV i hi).1) (fun i r hr j u hu=>by
  simp only[List.getElem?_map,Option.map_eq_some_iff]at hr;obtain⟨i',h1,rfl⟩:=hr;have hlt:i<len:=by
   have:=(List.getElem?_eq_some_iff.1 h1).1;simpa using this
  have e1:i'=i:=by
   rw[List.getElem?_eq_getElem (by simpa using hlt)]at h1;simpa using h1.symm
  subst e1;have:=(hV i' hlt).2.2 j u hu;rw[←this];congr 2;omega)
 exact key
theorem yo {α:Type}(f:α→List Value)(q:α→Prop): ∀{rows:List (List Value)},(∀r∈rows,∃a,r=f a∧q a)→∃l:List α,rows=l.map f∧ ∀a∈l,q a
 | [],_=>⟨[],rfl,by simp⟩
 | r::rows,h=>by
  obtain⟨a,rfl,ha⟩:=h r List.mem_cons_self;obtain⟨l,rfl,hl⟩:=yo f q fun r hr=>h r (List.mem_cons_of_mem _ hr);exact⟨a::l,rfl,fun b hb=>by rcases List.mem_cons.1 hb with rfl | hb;exact ha;exact hl b hb⟩
theorem O7 {α:Type}(f:α→Value)(l:List α):(l.map fun a=>[f a]).flatten=l.map f:=by
 induction l with
 | nil=>rfl
 | cons a l ih=>simp[ih]
theorem Cn {α:Type}{b:Nat}{R:vE}(f:α→Value)(q:α→Prop)(hR: ∀F r,R F r→∃a,r=[f a]∧q a){F:Hp}{cs:List Value}(h:Dw 1 b R F cs): ∃(p:Option Addr) (c:Nat) (l:List α),cs=[.slice p l.length c]∧l.length≤c∧l.length * b≤reachBytes∧(∀a∈l,q a)∧e9 F p (l.map f):=by
 obtain⟨p,n,c,rows,rfl,rfl,h1,h2,h3,h4⟩:=h;obtain⟨l,rfl,hl⟩:=yo (fun a=>[f a]) q fun r hr=>hR F r (h3 r hr).2;rw[O7]at h4;rw[List.length_map]at h1 h2;exact⟨p,c,l,by rw[List.length_map],h2,h1,hl,h4⟩
theorem Ph {b:Nat}{F:Hp}{cs:List Value}(h:Dw 1 b Fg F cs): ∃(p:Option Addr) (c:Nat) (l:List (List UInt8)),cs=[.slice p l.length c]∧l.length≤c∧l.length * b≤reachBytes∧(∀s∈l,s.length≤reachBytes)∧e9 F p (l.map S):=Cn S (fun s=>s.length≤reachBytes) (fun _ _ h=>h) h
theorem Ij {b:Nat}{F:Hp}{cs:List Value}(h:Dw 1 b GR F cs): ∃(p:Option Addr) (c:Nat) (l:List Nat),cs=[.slice p l.length c]∧l.length≤c∧l.length * b≤reachBytes∧(∀n∈l,n<18446744073709551616)∧e9 F p (l.map fun n=>u64 (n:Nat)):=Cn (fun n:Nat=>u64 (n:Nat)) (fun n=>n<18446744073709551616) (fun _ _ h=>h) h
theorem OG {b:Nat}{F:Hp}{cs:List Value}(h:Dw 1 b qi F cs): ∃(p:Option Addr) (c:Nat) (l:List Int),cs=[.slice p l.length c]∧l.length≤c∧l.length * b≤reachBytes∧(∀n∈l, -9223372036854775808≤n∧n≤9223372036854775807)∧e9 F p (l.map i64):=Cn i64 (fun n=> -9223372036854775808≤n∧n≤9223372036854775807) (fun _ _ h=>h) h
theorem xT {α:Type}{m b:Nat}{R:vE}(f:α→List Value){F:Hp}(q:α→Prop)(hR: ∀r,R F r→∃a,r=f a∧q a){cs:List Value}(h:Dw m b R F cs): ∃(p:Option Addr) (c:Nat) (l:List α),cs=[.slice p l.length c]∧l.length≤c∧l.length * b≤reachBytes∧(∀a∈l,q a)∧e9 F p (l.flatMap f):=by
 obtain⟨p,n,c,rows,rfl,rfl,h1,h2,h3,h4⟩:=h;obtain⟨l,rfl,hl⟩:=yo f q fun r hr=>hR r (h3 r hr).2;rw[←List.flatMap_def]at h4;rw[List.length_map]at h1 h2;exact⟨p,c,l,by rw[List.length_map],h2,h1,hl,h4⟩
end
section
variable {H:Type} {enc:TypeId×Value→H} {P:Program} {W:World} {b0 base:Nat} {spare:Nat→Bool} {held:Bool} {r:Reach} {t:TypeId} {v:Value} {d:DataW H} {ps:List MemPlace} {ts:List TypeId} {ds:List (DataW H)} {j:Nat} {R:vE}
theorem opened (h0:wv P t R)(h:DataW.Trod enc P W base spare held t v d ps)(hsz:(DataW.weightsEach P ts ds).all (· ≤reachBytes)=true)(ht:ts[j]? =some t)(hd:ds[j]? =some d):R (fun k=>W.heap[k]?) v.cells.toList:=by
 obtain⟨fuel,h⟩:=h;exact h0 _ _ _ _ _ _ _ _ _ h fun n hn=>by
  have:=List.all_eq_true.1 hsz _ (DataW.weights_mem_each ht hd n hn);simpa using this
theorem Rz {fs:Array Field}(hu:P.underlying t=some (.struct fs))(h0:wv P t R)(hsz:(DataW.weightsEach P ts ds).all (· ≤reachBytes)=true)(ht:ts[j]? =some t)(hd:ds[j]? =some d)(hv:Value.okWide P W r b0 t v)(h:DataW.Trod enc P W base spare held t v d ps): ∃cs:List Value,v= .agg cs.toArray∧R (fun k=>W.heap[k]?) cs:=by
 obtain⟨cs,rfl,_⟩:=okWide_struct hu hv;exact⟨cs.toList,rfl,opened h0 h hsz ht hd⟩
theorem RG {e:TypeId}(hu:P.underlying t=some (.slice e))(h0:wv P t R)(hsz:(DataW.weightsEach P ts ds).all (· ≤reachBytes)=true)(ht:ts[j]? =some t)(hd:ds[j]? =some d)(hv:Value.okWide P W r b0 t v)(h:DataW.Trod enc P W base spare held t v d ps):R (fun k=>W.heap[k]?) [v]:=by
 obtain⟨a,l,c,rfl⟩:=okWide_slice hu hv;exact opened h0 h hsz ht hd
end
end
section
open Go.ChangeShapes Go.WideShapes Go.ChangeAt Go.RowKit
open Go.TR (S jE bl Hp gi jz iw e9)
set_option maxRecDepth 100000
section
variable {H:Type} {enc:TypeId×Value→H} {W:World} {b0 base:Nat} {spare:Nat→Bool} {held:Bool} {r:Reach} {v:Value} {d:DataW H} {ps:List MemPlace} {ts:List TypeId} {ds:List (DataW H)} {j:Nat}
theorem NM:wv Tryz.prog 54 (Dw 1 16 Fg):=mT Tryz.underlying54 (by kernel_rfl) (by kernel_rfl) (uD Tryz.underlying9)
theorem Oc:wv Tryz.prog 43 (Dw 1 8 GR):=mT Tryz.underlying43 (by kernel_rfl) (by kernel_rfl) (xj Tryz.underlying33)
theorem Lq:wv Tryz.prog 69 (Dw 1 8 qi):=mT Tryz.underlying69 (by kernel_rfl) (by kernel_rfl) (kd Tryz.underlying3)
end
end
section
open Go.ChangeShapes Go.WideShapes Go.ChangeAt Go.RowKit
open Go.TR (S jE bl Hp gi jz iw e9)
set_option maxRecDepth 100000
def HU:vE:=fun _ cs=>∃x:Entry,cs=x.row∧x.wf
theorem JA:wv Tryz.prog 122 HU:=by
 refine (ma (Rs:=[Fg,Fg]) Tryz.underlying122 ⟨rfl,uD Tryz.underlying9,rfl,uD Tryz.underlying9,(by show Tryz.prog.cellsOf 122=_;kernel_rfl)⟩).mono ?_;rintro F cs ⟨_,_,rfl,⟨a,rfl,ha⟩,_,_,rfl,⟨b,rfl,hb⟩,rfl⟩;exact⟨⟨a,b⟩,rfl,⟨rI ha,rI hb⟩⟩
theorem LR:wv Tryz.prog 42 (Dw 2 32 HU):=mT Tryz.underlying42 (by kernel_rfl) (by kernel_rfl) JA
def NY:vE:=fun F cs=>∃(p:jo)(a:Lay),cs=[S p.name,.slice a.e p.gg.length a.ce,.slice a.s p.fF.length a.cs]∧p.wf∧p.gg.length≤a.ce∧p.fF.length≤a.cs∧p.gg.length * 32≤140737488355328∧p.fF.length * 8≤140737488355328∧p.at F a
theorem Jx:wv Tryz.prog 45 NY:=by
 refine (ma (Rs:=[Fg,Dw 2 32 HU,Dw 1 8 GR]) Tryz.underlying45 ⟨rfl,uD Tryz.underlying9,rfl,LR,rfl,mT (P:=Tryz.prog) Tryz.underlying43 (by kernel_rfl) (by kernel_rfl) (xj Tryz.underlying33),(by show Tryz.prog.cellsOf 45=_;kernel_rfl)⟩).mono ?_;rintro F cs ⟨_,_,rfl,⟨n,rfl,hn⟩,_,_,rfl,hb,_,_,rfl,hc,rfl⟩;obtain⟨p1,c1,l1,rfl,h1,h2,h3,h4⟩:=xT Entry.row Entry.wf (fun r hr=>hr) hb;obtain⟨p2,c2,l2,rfl,k1,k2,k3,k4⟩:=Ij hc;have:=reachBytes_lt;exact⟨⟨n,l1,l2⟩,⟨p1,c1,p2,c2⟩,rfl,⟨rI hn,by simp only;omega,h3,by simp only;omega,k3⟩,h1,k1,by simp only;omega,by simp only;omega,⟨h4,k4⟩⟩
section
variable {H:Type} {enc:TypeId×Value→H} {W:World} {b0 base:Nat} {spare:Nat→Bool} {held:Bool} {r:Reach} {v:Value} {d:DataW H} {ps:List MemPlace} {ts:List TypeId} {ds:List (DataW H)} {j:Nat}
end
end
section
open Go.ChangeShapes Go.WideShapes Go.ChangeAt Go.RowKit
open Go.TR (S jE bl Hp gi jz iw e9)
@[reducible] def Head.cells (h:Head):List Value:=[i64 h.dZ,u64 (h.root:Nat),u64 (h.prev:Nat),i64 h.at_]
def I4:vE:=fun _ cs=>∃h:Head,cs=h.cells∧h.wf
set_option maxRecDepth 100000
theorem Fj:wv Tryz.prog 41 I4:=by
 refine (ma (Rs:=[qi,GR,GR,qi]) Tryz.underlying41 ⟨rfl,kd Tryz.underlying2,rfl,xj Tryz.underlying33,rfl,xj Tryz.underlying33,rfl,kd Tryz.underlying2,(by show Tryz.prog.cellsOf 41=_;kernel_rfl)⟩).mono ?_;rintro F cs ⟨_,_,rfl,⟨a,rfl,ha⟩,_,_,rfl,⟨b,rfl,hb⟩,_,_,rfl,⟨c,rfl,hc⟩,_,_,rfl,⟨d,rfl,hd⟩,rfl⟩;exact⟨⟨a,b,c,d⟩,rfl,⟨hb,hc,ha,hd⟩⟩
section
variable {H:Type} {enc:TypeId×Value→H} {W:World} {b0 base:Nat} {spare:Nat→Bool} {held:Bool} {r:Reach} {v:Value} {d:DataW H} {ps:List MemPlace} {ts:List TypeId} {ds:List (DataW H)} {j:Nat}
end
end
section
open Go.ChangeShapes Go.WideShapes Go.ChangeAt Go.RowKit
open Go.TR (S jE bl Hp gi jz iw e9)
set_option maxRecDepth 100000
theorem KD:wv Tryz.prog 25 (Dw 4 32 I4):=mT Tryz.underlying25 (by kernel_rfl) (by kernel_rfl) Fj
section
variable {H:Type} {enc:TypeId×Value→H} {W:World} {b0 base:Nat} {spare:Nat→Bool} {held:Bool} {r:Reach} {v:Value} {d:DataW H} {ps:List MemPlace} {ts:List TypeId} {ds:List (DataW H)} {j:Nat}
end
end
section
open Go.ChangeShapes Go.WideShapes Go.ChangeAt Go.RowKit
open Go.TR (S jE bl Hp gi jz iw e9)
set_option maxRecDepth 100000
def MJ:vE:=fun F cs=>∃(h:Head)(p:jo)(a:Lay),cs=[i64 h.dZ,u64 (h.root:Nat),u64 (h.prev:Nat),i64 h.at_,S p.name,.slice a.e p.gg.length a.ce,.slice a.s p.fF.length a.cs]∧h.wf∧p.wf∧p.gg.length≤a.ce∧p.fF.length≤a.cs∧p.gg.length * 32≤140737488355328∧p.fF.length * 8≤140737488355328∧p.at F a
theorem Kt:wv Tryz.prog 47 MJ:=by
 refine (ma (Rs:=[I4,NY]) Tryz.underlying47 ⟨rfl,Fj,(by kernel_rfl),Jx,(by show Tryz.prog.cellsOf 47=_;kernel_rfl)⟩).mono ?_;rintro F cs ⟨_,_,rfl,⟨h,rfl,hw⟩,_,_,rfl,⟨p,a,rfl,h1,h2,h3,h4,h5,h6⟩,rfl⟩;exact⟨h,p,a,rfl,hw,h1,h2,h3,h4,h5,h6⟩
def aag:vE:=fun F cs=>∃x:LP,cs=x.row∧x.l.wf∧x.at F
def aae:vE:=fun F cs=>∃n:NP,cs=[i64 n.now,.slice n.p n.gE.length n.c]∧n.gE.length * 152≤140737488355328∧n.gE.length≤n.c∧(∀x∈n.gE,x.l.wf)∧n.at F
section
variable {H:Type} {enc:TypeId×Value→H} {W:World} {b0 base:Nat} {spare:Nat→Bool} {held:Bool} {r:Reach} {v:Value} {d:DataW H} {ps:List MemPlace} {ts:List TypeId} {ds:List (DataW H)} {j:Nat}
end
end
section
open Go.ChangeShapes Go.WideShapes Go.ChangeAt Go.RowKit
open Go.TR (S jE bl Hp gi jz iw e9)
set_option maxRecDepth 100000
def Qy:vE:=fun F cs=>∃x:LP,cs=x.row∧x.l.wf∧x.at F∧(-9223372036854775808≤x.l.since∧x.l.since≤9223372036854775807)
theorem Fm:wv Tryz.prog 71 Qy:=by
 refine (ma (Rs:=[qi,qi,qi,qi,Dw 4 32 I4,MJ]) Tryz.underlying71 ⟨rfl,kd Tryz.underlying3,(by kernel_rfl),kd Tryz.underlying3,(by kernel_rfl),kd Tryz.underlying2,(by kernel_rfl),kd Tryz.underlying2,(by kernel_rfl),KD,(by kernel_rfl),Kt,(by show Tryz.prog.cellsOf 71=_;kernel_rfl)⟩).mono ?_;rintro F cs ⟨_,_,rfl,⟨a1,rfl,_,_⟩,_,_,rfl,⟨a2,rfl,_,_⟩,_,_,rfl,⟨a3,rfl,k1,k2⟩,_,_,rfl,⟨a4,rfl,_,_⟩,_,_,rfl,hh,_,_,rfl,⟨h,p,a,rfl,h1,h2,h3,h4,h5,h6,h7⟩,rfl⟩;obtain⟨p1,c1,l1,rfl,g1,g2,g3,g4⟩:=xT Head.row Head.wf (fun r hr=>hr) hh;have:=reachBytes_lt;exact⟨⟨⟨a1,a2,a3,a4,l1,h,p⟩,p1,c1,a⟩,rfl,⟨by simp only;omega,g3,h1,h2,h5,h6⟩,⟨g4,h7⟩,k1,k2⟩
def Q6:vE:=fun F cs=>∃x:qS,cs=x.row∧x.d.ok∧x.at F
theorem N9:wv Tryz.prog 73 Q6:=by
 refine (ma (Rs:=[qi,qi,Fg,Dw 1 8 qi,Qy]) Tryz.underlying73 ⟨rfl,kd Tryz.underlying3,(by kernel_rfl),kd Tryz.underlying3,(by kernel_rfl),uD Tryz.underlying9,(by kernel_rfl),Lq,(by kernel_rfl),Fm,(by show Tryz.prog.cellsOf 73=_;kernel_rfl)⟩).mono ?_;rintro F cs ⟨_,_,rfl,⟨k,rfl,_,_⟩,_,_,rfl,⟨w,rfl,_,_⟩,_,_,rfl,⟨v,rfl,hv⟩,_,_,rfl,hf,_,_,rfl,⟨x,rfl,h1,h2,h3⟩,rfl⟩;obtain⟨p1,c1,l1,rfl,g1,g2,g3,g4⟩:=OG hf;have:=reachBytes_lt;exact⟨⟨k,w,v,⟨l1,p1,c1⟩,x⟩,rfl,⟨rI hv,by show l1.length≤_;omega,h1,h3⟩,⟨g4,h2⟩⟩
theorem KB:wv Tryz.prog 57 (Dw 16 208 Q6):=mT Tryz.underlying57 (by kernel_rfl) (by kernel_rfl) N9
def Rn:vE:=fun F cs=>∃(s:lX)(a:Ar),cs=s.row a∧s.wf∧s.at F a
theorem Jr:wv Tryz.prog 56 Rn:=by
 refine (ma (Rs:=[Dw 1 16 Fg,Dw 1 8 GR,qi,qi,qi,qi,qi,qi,qi]) Tryz.underlying56 ⟨rfl,NM,(by kernel_rfl),Oc,(by kernel_rfl),kd Tryz.underlying3,(by kernel_rfl),kd Tryz.underlying3,(by kernel_rfl),kd Tryz.underlying3,(by kernel_rfl),kd Tryz.underlying3,(by kernel_rfl),kd Tryz.underlying3,(by kernel_rfl),kd Tryz.underlying3,(by kernel_rfl),kd Tryz.underlying3,(by show Tryz.prog.cellsOf 56=_;kernel_rfl)⟩).mono ?_;rintro F cs ⟨_,_,rfl,hn,_,_,rfl,hk,_,_,rfl,⟨n1,rfl,a1⟩,_,_,rfl,⟨n2,rfl,a2⟩,_,_,rfl,⟨n3,rfl,a3⟩,_,_,rfl,⟨n4,rfl,a4⟩,_,_,rfl,⟨n5,rfl,a5⟩,_,_,rfl,⟨n6,rfl,a6⟩,_,_,rfl,⟨n7,rfl,a7⟩,rfl⟩;obtain⟨p1,c1,l1,rfl,g1,g2,g3,g4⟩:=Ph hn;obtain⟨p2,c2,l2,rfl,k1,k2,k3,k4⟩:=Ij hk;have:=reachBytes_lt;exact⟨⟨l1,l2,n1,n2,n3,n4,n5,n6,n7⟩,⟨p1,c1,p2,c2⟩,rfl,⟨by show l1.length≤_;omega,fun n hn=>rI (g3 n hn),by show l2.length≤_;omega,k3,a1,a2,a3,a4,a5,a6,a7⟩,⟨g4,g1,k4⟩⟩
section
variable {H:Type} {enc:TypeId×Value→H} {W:World} {b0 base:Nat} {spare:Nat→Bool} {held:Bool} {r:Reach} {v:Value} {d:DataW H} {ps:List MemPlace} {ts:List TypeId} {ds:List (DataW H)} {j:Nat}
theorem GZ (hsz:(DataW.weightsEach Tryz.prog ts ds).all (· ≤reachBytes)=true)(ht:ts[j]? =some 56)(hd:ds[j]? =some d)(hv:Value.okWide Tryz.prog W r b0 56 v)(h:DataW.Trod enc Tryz.prog W base spare held 56 v d ps):
  ∃(s:lX) (a:Ar),v= .agg (s.row a).toArray∧s.wf∧s.at (fun k=>W.heap[k]?) a:=by
 obtain⟨cs,rfl,s,a,rfl,h1,h2⟩:=Rz Tryz.underlying56 Jr hsz ht hd hv h;exact⟨s,a,rfl,h1,h2⟩
theorem Hk (hsz:(DataW.weightsEach Tryz.prog ts ds).all (· ≤reachBytes)=true)(ht:ts[j]? =some 57)(hd:ds[j]? =some d)(hv:Value.okWide Tryz.prog W r b0 57 v)(h:DataW.Trod enc Tryz.prog W base spare held 57 v d ps):
  ∃d:K9,v= .slice d.p d.l.length d.c∧d.l.length≤4611686018427387904∧d.at (fun k=>W.heap[k]?):=by
 obtain⟨p,c,l,e,h1,h2,h3,h4⟩:=xT qS.row (fun x=>x.d.ok∧x.at (fun k=>W.heap[k]?)) (fun r hr=>hr) (RG Tryz.underlying57 KB hsz ht hd hv h);have:=reachBytes_lt;exact⟨⟨l,p,c⟩,List.head_eq_of_cons_eq e,by show l.length≤_;omega,h4,fun x hx=>(h3 x hx).2,fun x hx=>(h3 x hx).1⟩
end
end
end Go.Proofs.YthbnddgjkonkdaaGreatDoor
