/-
Rows of things of several cells.
-/
import Derived.Test.YteahoodopphacaaGreatBase
namespace Go.Proofs.YteahoodopphacaaGreat
set_option linter.unusedVariables false
set_option linter.unusedSimpArgs false
open Go.TR
theorem flat_len {α : Type} {f : α → List Value} {k : Nat} (hk : ∀ a, (f a).length = k) : ∀ (l : List α), (l.flatMap f).length = l.length * k
  | [] => by simp
  | a :: l => by rw [List.flatMap_cons, List.length_append, hk, flat_len hk l, List.length_cons, Nat.succ_mul]; omega
theorem flat_get {α : Type} {f : α → List Value} {k : Nat} (hk : ∀ a, (f a).length = k) : ∀ (l : List α) (j i : Nat) (h : j < l.length), i < k → (l.flatMap f)[j * k + i]? = (f l[j])[i]?
  | [], j, i, h, _ => by simp at h
  | a :: l, 0, i, h, hi => by
    rw [List.flatMap_cons, Nat.zero_mul, Nat.zero_add, List.getElem?_append_left (by rw [hk]; exact hi)]
    rfl
  | a :: l, j + 1, i, h, hi => by
    rw [List.flatMap_cons, List.getElem?_append_right (by rw [hk, Nat.succ_mul]; omega), hk]
    have := flat_get hk l j i (by simpa using h) hi
    rw [show (j + 1) * k + i - k = j * k + i by rw [Nat.succ_mul]; omega, this]
    rfl
theorem flat_take {α : Type} {f : α → List Value} {k : Nat} (hk : ∀ a, (f a).length = k) : ∀ (l : List α) (n : Nat), (l.take n).flatMap f = (l.flatMap f).take (n * k)
  | [], n => by simp
  | a :: l, 0 => by simp
  | a :: l, n + 1 => by
    rw [List.take_succ_cons, List.flatMap_cons, List.flatMap_cons, flat_take hk l n, List.take_append, hk, List.take_of_length_le (l := f a) (by rw [hk, Nat.succ_mul]; omega)]
    congr 2
    rw [Nat.succ_mul]; omega
theorem flat_drop {α : Type} {f : α → List Value} {k : Nat} (hk : ∀ a, (f a).length = k) : ∀ (l : List α) (n : Nat), (l.drop n).flatMap f = (l.flatMap f).drop (n * k)
  | [], n => by simp
  | a :: l, 0 => by simp
  | a :: l, n + 1 => by
    rw [List.drop_succ_cons, List.flatMap_cons, flat_drop hk l n, List.drop_append, hk, List.drop_eq_nil_of_le («as» := f a) (by rw [hk, Nat.succ_mul]; omega), List.nil_append]
    congr 1
    rw [Nat.succ_mul]; omega
/-- The cells of one thing of a row. -/
theorem frow_agg {α : Type} {f : α → List Value} {k : Nat} (hk : ∀ a, (f a).length = k) (hk0 : 0 < k) {F : Hp} {p : Option Addr} {l : List α} (h : Frow F p (l.flatMap f)) (j : Nat) (hj : j < l.length) :
    (padd p (j * k)).isSome = true ∧ ∀ i, i < k → Pcell F (padd (padd p (j * k)) i) = (f l[j])[i]? := by
  have hl := flat_len hk l
  have hm : (j + 1) * k ≤ l.length * k := Nat.mul_le_mul_right _ hj
  rw [Nat.succ_mul] at hm
  refine ⟨?_, fun i hi => ?_⟩
  · have := frow_some h (j := j * k) (by omega)
    cases p with
    | none => cases this
    | some a => rfl
  · have e := flat_get hk l j i hj hi
    have hi' : i < (f l[j]).length := by rw [hk]; exact hi
    rw [List.getElem?_eq_getElem hi'] at e ⊢
    rw [padd_padd]
    exact h _ _ e
theorem slb_zero {p : Option Addr} {c k : Nat} : slBase p 0 c k = p := by
  unfold slBase
  split
  · rfl
  · cases p with
    | none => rfl
    | some ad => simp [Addr.add]
/-- A part of a row. -/
theorem frow_flat_take {α : Type} {f : α → List Value} {k : Nat} (hk : ∀ a, (f a).length = k) {F : Hp} {p : Option Addr} {l : List α} (h : Frow F p (l.flatMap f)) (n : Nat) : Frow F p ((l.take n).flatMap f) := by
  rw [flat_take hk]; exact frow_take h _
theorem frow_flat_drop {α : Type} {f : α → List Value} {k : Nat} (hk : ∀ a, (f a).length = k) {F : Hp} {p : Option Addr} {l : List α} (h : Frow F p (l.flatMap f)) (n c : Nat) (hn : n ≤ l.length) (hc : l.length ≤ c) : Frow F (slBase p n c k) ((l.drop n).flatMap f) := by
  unfold slBase
  split
  · rename_i h1
    rw [List.drop_eq_nil_of_le (by omega)]
    exact frow_nil _ _
  · rw [flat_drop hk]
    exact frow_drop h _
end Go.Proofs.YteahoodopphacaaGreat
