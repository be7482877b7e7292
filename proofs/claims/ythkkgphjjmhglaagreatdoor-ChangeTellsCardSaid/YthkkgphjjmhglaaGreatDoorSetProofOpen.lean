/-
What an argument that came in looks like: strings, numbers, bools.
-/
import Derived.WalkKit
import Derived.ProofKit
import Derived.OpenShut
import Derived.ShutString
import Derived.ChangeOld
import Derived.Below
import Derived.SizedLaws
import Derived.Test.YthkkgphjjmhglaaGreatDoorBase
import Derived.Deep.Slices
import Derived.Test.YthkkgphjjmhglaaGreatDoorSetRows2
/-!
What an argument that came in looks like: strings, numbers, bools.
-/
namespace Go.Proofs.YthkkgphjjmhglaaGreatDoor
set_option linter.unusedVariables false
set_option linter.unusedSimpArgs false
open Go.ChangeShapes Go.WideShapes Go.ChangeAt Go.RowKit
open Go.TR (S mkB bl)
theorem le_reach {n : Nat} (h : n ≤ reachBytes) : n ≤ 4611686018427387904 := by have := reachBytes_lt; omega
section
variable {H : Type} {enc : TypeId × Value → H} {P : Program} {W : World} {b0 base : Nat} {spare : Nat → Bool} {held : Bool} {r : Reach} {t : TypeId} {v : Value} {d : DataW H} {ps : List MemPlace}
end
end Go.Proofs.YthkkgphjjmhglaaGreatDoor
/-!
What an argument that came in looks like, whatever its type: an opener for each kind of type, put together by the type's shape.
-/
namespace Go.Proofs.YthkkgphjjmhglaaGreatDoor
set_option linter.unusedVariables false
set_option linter.unusedSimpArgs false
open Go.ChangeShapes Go.WideShapes Go.ChangeAt Go.RowKit
open Go.TR (S mkB bl Hp Pcell Fcell padd Frow)
abbrev Rep := Hp → List Value → Prop
/-- Whatever cells of type t came in: R is true of them. -/
def Opn (P : Program) (t : TypeId) (R : Rep) : Prop := ∀ (H : Type) (enc : TypeId × Value → H) (W : World) (base : Nat) (spare : Nat → Bool) (held : Bool) (fuel : Nat) (cs : List Value) (x : DataW H × List MemPlace),
  DataW.trod enc P W base spare held fuel t cs = some x → (∀ n ∈ x.1.weights P t, n ≤ reachBytes) → R (fun k => W.heap[k]?) cs
def RI64 : Rep := fun _ cs => ∃ n : Int, cs = [i64 n] ∧ -9223372036854775808 ≤ n ∧ n ≤ 9223372036854775807
def RU64 : Rep := fun _ cs => ∃ n : Nat, cs = [u64 (n : Nat)] ∧ n < 18446744073709551616
def RU8 : Rep := fun _ cs => ∃ n : Nat, cs = [u8 (n : Nat)] ∧ n < 256
def RBool : Rep := fun _ cs => ∃ b : Bool, cs = [.bool b]
def RStr : Rep := fun _ cs => ∃ s : List UInt8, cs = [S s] ∧ s.length ≤ reachBytes
/-- Cells one behind the other. -/
def RAll : List Rep → Rep
  | [], _, cs => cs = []
  | R :: Rs, F, cs => ∃ a b, cs = a ++ b ∧ R F a ∧ RAll Rs F b
/-- A slice: of rows of m cells, b bytes each. -/
def RSl (m b : Nat) (R : Rep) : Rep := fun F cs => ∃ (p : Option Addr) (n c : Nat) (rows : List (List Value)), cs = [.slice p n c] ∧ rows.length = n ∧ n * b ≤ reachBytes ∧ n ≤ c ∧ (∀ r ∈ rows, r.length = m ∧ R F r) ∧ Frow F p rows.flatten
section
variable {P : Program} {t : TypeId}
theorem Opn.mono {R R' : Rep} (h : Opn P t R) (k : ∀ F cs, R F cs → R' F cs) : Opn P t R' := fun H enc W base spare held fuel cs x hx hw => k _ _ (h H enc W base spare held fuel cs x hx hw)
theorem opn_str (ht : P.underlying t = some .string) : Opn P t RStr := fun H enc W base spare held fuel cs x h hw => by
  obtain ⟨s, rfl, rfl, _⟩ := DataW.trod_string ht h
  refine ⟨s.data.toList, rfl, hw _ (by simp [DataW.weights])⟩
/-- The fields of a struct, one behind the other. -/
def OpnAll (P : Program) (t : TypeId) : Nat → List Field → List Rep → Prop
  | o, [], [] => P.cellsOf t = o
  | o, f :: fs, R :: Rs => f.offset = o ∧ Opn P f.type R ∧ OpnAll P t (o + P.cellsOf f.type) fs Rs
  | _, _, _ => False
theorem opn_struct {fs : Array Field} {Rs : List Rep} (ht : P.underlying t = some (.struct fs)) (hf : OpnAll P t 0 fs.toList Rs) : Opn P t (RAll Rs) := fun H enc W base spare held fuel cs x h hw => by
  obtain ⟨xs, n, rfl, rfl, hl, hn, hx⟩ := DataW.trod_struct ht h
  have key : ∀ (k : Nat) (l : List Field) (Rs : List Rep) (o : Nat), fs.toList.drop k = l → OpnAll P t o l Rs → RAll Rs (fun k => W.heap[k]?) (cs.drop o) := by
    intro k l
    induction l generalizing k with
    | nil =>
      intro Rs o _ hA
      cases Rs with
      | nil => exact List.drop_eq_nil_of_le (by rw [hl]; exact Nat.le_of_eq hA)
      | cons => exact hA.elim
    | cons f l ih =>
      intro Rs o hk hA
      cases Rs with
      | nil => exact hA.elim
      | cons R Rs =>
        obtain ⟨h1, h2, h3⟩ := hA
        have hget : fs.toList[k]? = some f := by
          have := congrArg (fun l => l[0]?) hk
          simpa using this
        have hfk : fs[k]? = some f := by simpa using hget
        have hlt : k < fs.size := (Array.getElem?_eq_some_iff.1 hfk).1
        have hxk := hx k f hfk
        rw [List.getElem?_eq_getElem (by omega)] at hxk
        refine ⟨(cs.drop o).take (P.cellsOf f.type), cs.drop (o + P.cellsOf f.type), ?_, ?_, ih (k + 1) Rs _ ?_ h3⟩
        · rw [← List.drop_drop, List.take_append_drop]
        · rw [h1] at hxk
          refine h2 H enc W base spare held n _ _ hxk fun m hm => hw m ?_
          simp only [DataW.weights, ht]
          refine DataW.weights_mem_each (j := k) (t := f.type) (d := xs[k].1) (by rw [List.getElem?_map, hget]; rfl) (by rw [List.getElem?_map, List.getElem?_eq_getElem (by omega)]; rfl) m hm
        · have := congrArg List.tail hk
          simpa [List.tail_drop] using this
  have := key 0 fs.toList Rs 0 rfl hf
  simpa using this
theorem weightsAll_mem {H : Type} {e : TypeId} : ∀ {ds : List (DataW H)} {d : DataW H}, d ∈ ds → ∀ n ∈ d.weights P e, n ∈ DataW.weightsAll P e ds
  | d0 :: ds, d, hd, n, hn => by
    simp only [DataW.weightsAll, List.mem_append]
    rcases List.mem_cons.1 hd with rfl | hd
    · exact .inl hn
    · exact .inr (weightsAll_mem hd n hn)
theorem frow_rows {F : Hp} {p : Option Addr} {m : Nat} : ∀ (rows : List (List Value)) (o : Nat), (∀ r ∈ rows, r.length = m) → (∀ i r, rows[i]? = some r → ∀ j u, r[j]? = some u → Pcell F (padd p (o + i * m + j)) = some u) → Frow F (padd p o) rows.flatten
  | [], _, _, _ => fun j u h => by simp at h
  | r :: rows, o, hl, h => fun j u hu => by
    have l0 := hl r List.mem_cons_self
    rw [List.flatten_cons, List.getElem?_append] at hu
    rw [padd_padd]
    split at hu
    · have := h 0 r rfl j u hu
      simpa using this
    · have ih := frow_rows rows (o + m) (fun r hr => hl r (List.mem_cons_of_mem _ hr)) (fun i r' hr j u hu => by
        have := h (i + 1) r' (by simpa using hr) j u hu
        rw [Nat.succ_mul] at this
        rw [← this]
        congr 2
        omega)
      have := ih (j - r.length) u hu
      rw [padd_padd] at this
      rw [← this]
      congr 2
      omega
theorem opn_slice {e : TypeId} {m b : Nat} {R : Rep} (ht : P.underlying t = some (.slice e)) (hm : P.cellsOf e = m) (hb : P.bytesOf e = b) (he : Opn P e R) : Opn P t (RSl m b R) := fun H enc W base spare held fuel cs x h hw => by
  rcases DataW.trod_slice ht h with ⟨rfl, rfl⟩ | ⟨a, len, cap, elems, rest, n, rfl, rfl, rfl, _, hlc, _, hlen, hel, _, _⟩
  · exact ⟨none, 0, 0, [], rfl, rfl, by omega, Nat.le_refl _, by simp, fun j u h => by simp at h⟩
  · have hi : ∀ i, i < len → ∃ row, row.length = m ∧ R (fun k => W.heap[k]?) row ∧ ∀ j u, row[j]? = some u → Pcell (fun k => W.heap[k]?) (padd (some a) (i * m + j)) = some u := fun i hi => by
      have h1 := hel i hi
      rw [List.getElem?_eq_getElem (by omega)] at h1
      obtain ⟨cs', h2, h3⟩ := Option.bind_eq_some_iff.1 h1
      obtain ⟨_, h4, h5⟩ := World.cells?_some h2
      refine ⟨cs', by rw [h4, hm], he H enc W base spare held n cs' _ h3 (fun q hq => hw q ?_), fun j u hu => ?_⟩
      · simp only [DataW.weights, ht, List.mem_cons, List.mem_append]
        exact .inr (.inl (weightsAll_mem (List.mem_map.2 ⟨_, List.getElem_mem _, rfl⟩) q hq))
      · have hj : j < cs'.length := (List.getElem?_eq_some_iff.1 hu).1
        have := h5 j (by omega)
        rw [hu, Go.Deep.add_add, hm] at this
        exact this
    obtain ⟨V, hV⟩ := Go.Deep.choose_lt (α := List Value) hi
    refine ⟨some a, len, cap, (List.range len).map V, rfl, by simp, ?_, hlc, fun r hr => ?_, ?_⟩
    · have := hw ((elems.length + rest.length) * b) (by rw [← hb]; simp [DataW.weights, ht])
      subst hlen
      refine Nat.le_trans (Nat.mul_le_mul_right _ (by simp)) this
    · simp only [List.mem_map, List.mem_range] at hr
      obtain ⟨i, hi, rfl⟩ := hr
      exact ⟨(hV i hi).1, (hV i hi).2.1⟩
    · have key := frow_rows (F := fun k => W.heap[k]?) (p := some a) (m := m) ((List.range len).map V) 0 (fun r hr => by
        simp only [List.mem_map, List.mem_range] at hr
        obtain ⟨i, hi, rfl⟩ := hr
        exact (hV i hi).1) (fun i r hr j u hu => by
        simp only [List.getElem?_map, Option.map_eq_some_iff] at hr
        obtain ⟨i', h1, rfl⟩ := hr
        have hlt : i < len := by
          have := (List.getElem?_eq_some_iff.1 h1).1
          simpa using this
        have e1 : i' = i := by
          rw [List.getElem?_eq_getElem (by simpa using hlt)] at h1
          simpa using h1.symm
        subst e1
        have := (hV i' hlt).2.2 j u hu
        rw [← this]
        congr 2
        omega)
      exact key
/-- Rows that are each told of by a thing: a list of things. -/
theorem rows_map {α : Type} (f : α → List Value) (q : α → Prop) : ∀ {rows : List (List Value)}, (∀ r ∈ rows, ∃ a, r = f a ∧ q a) → ∃ l : List α, rows = l.map f ∧ ∀ a ∈ l, q a
  | [], _ => ⟨[], rfl, by simp⟩
  | r :: rows, h => by
    obtain ⟨a, rfl, ha⟩ := h r List.mem_cons_self
    obtain ⟨l, rfl, hl⟩ := rows_map f q fun r hr => h r (List.mem_cons_of_mem _ hr)
    exact ⟨a :: l, rfl, fun b hb => by rcases List.mem_cons.1 hb with rfl | hb; exact ha; exact hl b hb⟩
/-- A slice of things of m cells. -/
theorem rsl_many {α : Type} {m b : Nat} {R : Rep} (f : α → List Value) {F : Hp} (q : α → Prop) (hR : ∀ r, R F r → ∃ a, r = f a ∧ q a) {cs : List Value} (h : RSl m b R F cs) : ∃ (p : Option Addr) (c : Nat) (l : List α), cs = [.slice p l.length c] ∧ l.length ≤ c ∧ l.length * b ≤ reachBytes ∧ (∀ a ∈ l, q a) ∧ Frow F p (l.flatMap f) := by
  obtain ⟨p, n, c, rows, rfl, rfl, h1, h2, h3, h4⟩ := h
  obtain ⟨l, rfl, hl⟩ := rows_map f q fun r hr => hR r (h3 r hr).2
  rw [← List.flatMap_def] at h4
  rw [List.length_map] at h1 h2
  exact ⟨p, c, l, by rw [List.length_map], h2, h1, hl, h4⟩
end
section
variable {H : Type} {enc : TypeId × Value → H} {P : Program} {W : World} {b0 base : Nat} {spare : Nat → Bool} {held : Bool} {r : Reach} {t : TypeId} {v : Value} {d : DataW H} {ps : List MemPlace} {ts : List TypeId} {ds : List (DataW H)} {j : Nat} {R : Rep}
/-- An argument, opened. -/
theorem opened (h0 : Opn P t R) (h : DataW.Trod enc P W base spare held t v d ps) (hsz : (DataW.weightsEach P ts ds).all (· ≤ reachBytes) = true) (ht : ts[j]? = some t) (hd : ds[j]? = some d) : R (fun k => W.heap[k]?) v.cells.toList := by
  obtain ⟨fuel, h⟩ := h
  exact h0 _ _ _ _ _ _ _ _ _ h fun n hn => by
    have := List.all_eq_true.1 hsz _ (DataW.weights_mem_each ht hd n hn)
    simpa using this
/-- A slice. -/
theorem arg_sl {e : TypeId} (hu : P.underlying t = some (.slice e)) (h0 : Opn P t R) (hsz : (DataW.weightsEach P ts ds).all (· ≤ reachBytes) = true) (ht : ts[j]? = some t) (hd : ds[j]? = some d) (hv : Value.okWide P W r b0 t v) (h : DataW.Trod enc P W base spare held t v d ps) : R (fun k => W.heap[k]?) [v] := by
  obtain ⟨a, l, c, rfl⟩ := okWide_slice hu hv
  exact opened h0 h hsz ht hd
end
end Go.Proofs.YthkkgphjjmhglaaGreatDoor
/-!
Slices of strings and of numbers that came in.
-/
namespace Go.Proofs.YthkkgphjjmhglaaGreatDoor
set_option linter.unusedVariables false
set_option linter.unusedSimpArgs false
open Go.ChangeShapes Go.WideShapes Go.ChangeAt Go.RowKit
open Go.TR (S mkB bl Hp Pcell Fcell padd Frow)
set_option maxRecDepth 100000
section
variable {H : Type} {enc : TypeId × Value → H} {W : World} {b0 base : Nat} {spare : Nat → Bool} {held : Bool} {r : Reach} {v : Value} {d : DataW H} {ps : List MemPlace} {ts : List TypeId} {ds : List (DataW H)} {j : Nat}
end
end Go.Proofs.YthkkgphjjmhglaaGreatDoor
/-!
Entries, books and proofs that came in.
-/
namespace Go.Proofs.YthkkgphjjmhglaaGreatDoor
set_option linter.unusedVariables false
set_option linter.unusedSimpArgs false
open Go.ChangeShapes Go.WideShapes Go.ChangeAt Go.RowKit
open Go.TR (S mkB bl Hp Pcell Fcell padd Frow)
set_option maxRecDepth 100000
def REntry : Rep := fun _ cs => ∃ x : Entry, cs = x.row ∧ x.wf
theorem opn_entry : Opn Tryz.prog 70 REntry := by
  refine (opn_struct (Rs := [RStr, RStr]) Tryz.underlying70 ⟨rfl, opn_str Tryz.underlying9, rfl, opn_str Tryz.underlying9, (by show Tryz.prog.cellsOf 70 = _; kernel_rfl)⟩).mono ?_
  rintro F cs ⟨_, _, rfl, ⟨a, rfl, ha⟩, _, _, rfl, ⟨b, rfl, hb⟩, rfl⟩
  exact ⟨⟨a, b⟩, rfl, ⟨le_reach ha, le_reach hb⟩⟩
theorem opn_ents : Opn Tryz.prog 32 (RSl 2 32 REntry) := opn_slice Tryz.underlying32 (by kernel_rfl) (by kernel_rfl) opn_entry
def RProof : Rep := fun F cs => ∃ (p : Prf) (a : Lay), cs = [S p.name, .slice a.e p.ents.length a.ce, .slice a.s p.sides.length a.cs] ∧ p.wf ∧ p.ents.length ≤ a.ce ∧ p.sides.length ≤ a.cs ∧ p.ents.length * 32 ≤ 140737488355328 ∧ p.sides.length * 8 ≤ 140737488355328 ∧ p.at F a
section
variable {H : Type} {enc : TypeId × Value → H} {W : World} {b0 base : Nat} {spare : Nat → Bool} {held : Bool} {r : Reach} {v : Value} {d : DataW H} {ps : List MemPlace} {ts : List TypeId} {ds : List (DataW H)} {j : Nat}
theorem open_book (hsz : (DataW.weightsEach Tryz.prog ts ds).all (· ≤ reachBytes) = true) (ht : ts[j]? = some 32) (hd : ds[j]? = some d) (hv : Value.okWide Tryz.prog W r b0 32 v) (h : DataW.Trod enc Tryz.prog W base spare held 32 v d ps) :
    ∃ (l : List Entry) (p : Option Addr) (c : Nat), v = .slice p l.length c ∧ l.length * 32 ≤ 140737488355328 ∧ l.length ≤ c ∧ (∀ x ∈ l, x.wf) ∧ Frow (fun k => W.heap[k]?) p (l.flatMap Entry.row) := by
  obtain ⟨p, c, l, e, h1, h2, h3, h4⟩ := rsl_many Entry.row Entry.wf (fun r hr => hr) (arg_sl Tryz.underlying32 opn_ents hsz ht hd hv h)
  have := reachBytes_lt
  exact ⟨l, p, c, List.head_eq_of_cons_eq e, by omega, h1, h3, h4⟩
end
end Go.Proofs.YthkkgphjjmhglaaGreatDoor
