/-
Small facts that all walks of this seat share.
-/
import Derived.Test.YthkkgphjjmhglaaGreatDoorTb
/-!
Small facts that all walks of this seat share.
-/
namespace Go.Proofs.YthkkgphjjmhglaaGreatDoor
set_option linter.unusedVariables false
set_option linter.unusedSimpArgs false
open Go.TR
@[reducible] def i64 (n : Int) : Value := .int .i64 n
@[reducible] def u64 (n : Int) : Value := .int .u64 n
@[reducible] def u8 (n : Int) : Value := .int .u8 n
@[reducible] def pair (a b : Value) : Value := .tuple #[a, b]
@[reducible] def triple (a b c : Value) : Value := .tuple #[a, b, c]
@[simp] theorem bl_S (l : List UInt8) : bl (mkB l) = l := rfl
theorem bpick_or (b x : Bool) : bpick b true x = (b || x) := by cases b <;> rfl
theorem bpick_and (b x : Bool) : bpick b x false = (b && x) := by cases b <;> rfl
theorem wrap_i64 {n : Int} (h1 : -9223372036854775808 ≤ n) (h2 : n ≤ 9223372036854775807) : IntKind.i64.wrap n = n := IntWalk.i64_in n ⟨h1, h2⟩
theorem wrap_succ {k : Nat} (h : k < 9223372036854775807) : IntKind.i64.wrap ((k : Int) + 1) = ((k + 1 : Nat) : Int) := by
  rw [wrap_i64 (by omega) (by omega)]; omega
/-- A slice that is not nil where it has elements. -/
theorem frow_some {F : Hp} {p : Option Addr} {cs : List Value} (h : Frow F p cs) {j : Nat} (hj : j < cs.length) : p.isSome = true := by
  have := h j _ (List.getElem?_eq_getElem hj)
  cases p with
  | none => simp [padd, Pcell] at this
  | some a => rfl
theorem frow_get {F : Hp} {p : Option Addr} {cs : List Value} (h : Frow F p cs) {j : Nat} (hj : j < cs.length) : Pcell F (padd p j) = some cs[j] := h j _ (List.getElem?_eq_getElem hj)
theorem pcell_sub {F F' : Hp} (h : F.sub F') {p : Option Addr} {v : Value} (e : Pcell F p = some v) : Pcell F' p = some v := by
  cases p with
  | none => simp [Pcell] at e
  | some a => exact Fcell.sub h e
theorem frow_sub {F F' : Hp} (h : F.sub F') {p : Option Addr} {cs : List Value} (e : Frow F p cs) : Frow F' p cs := fun j u hj => pcell_sub h (e j u hj)
theorem frow_nil (F : Hp) (p : Option Addr) : Frow F p [] := fun j u hj => by simp at hj
theorem padd_padd (p : Option Addr) (m n : Nat) : padd (padd p m) n = padd p (m + n) := by
  cases p with
  | none => rfl
  | some a => obtain ⟨b, o, s⟩ := a; cases s <;> (simp only [padd, Option.map_some, Addr.add]; by_cases h1 : m = 0 <;> by_cases h2 : n = 0 <;> simp [h1, h2, Nat.add_assoc])
/-- A slice of a slice. -/
theorem frow_drop {F : Hp} {p : Option Addr} {cs : List Value} (h : Frow F p cs) (k : Nat) : Frow F (padd p k) (cs.drop k) := fun j u hj => by
  rw [padd_padd]
  rw [List.getElem?_drop] at hj
  exact h _ _ hj
theorem frow_take {F : Hp} {p : Option Addr} {cs : List Value} (h : Frow F p cs) (k : Nat) : Frow F p (cs.take k) := fun j u hj => by
  rw [List.getElem?_take] at hj
  split at hj
  · exact h _ _ hj
  · simp at hj
theorem take_succ_eq {α : Type} {l1 l2 : List α} {k : Nat} (h : l1.take k = l2.take k) (h1 : k < l1.length) (h2 : k < l2.length) (e : l1[k] = l2[k]) : l1.take (k + 1) = l2.take (k + 1) := by
  rw [List.take_succ_eq_append_getElem h1, List.take_succ_eq_append_getElem h2, h, e]
theorem ne_of_get {α : Type} {l1 l2 : List α} {k : Nat} (h1 : k < l1.length) (h2 : k < l2.length) (e : l1[k] ≠ l2[k]) : l1 ≠ l2 := by
  rintro rfl
  exact e rfl
end Go.Proofs.YthkkgphjjmhglaaGreatDoor
/-!
Rows of things of several cells.
-/
namespace Go.Proofs.YthkkgphjjmhglaaGreatDoor
set_option linter.unusedVariables false
set_option linter.unusedSimpArgs false
open Go.TR
theorem flat_len {α : Type} {f : α → List Value} {k : Nat} (hk : ∀ a, (f a).length = k) : ∀ (l : List α), (l.flatMap f).length = l.length * k
  | [] => by simp
  | a :: l => by rw [List.flatMap_cons, List.length_append, hk, flat_len hk l, List.length_cons, Nat.succ_mul]; omega
theorem flat_get {α : Type} {f : α → List Value} {k : Nat} (hk : ∀ a, (f a).length = k) : ∀ (l : List α) (j i : Nat) (h : j < l.length), i < k → (l.flatMap f)[j * k + i]? = (f l[j])[i]?
  | [], j, i, h, _ => by simp at h
  | a :: l, 0, i, h, hi => by
    rw [List.flatMap_cons, Nat.zero_mul, Nat.zero_add, List.getElem?_append_left (by rw [hk]; exact hi)]
    rfl
  | a :: l, j + 1, i, h, hi => by
    rw [List.flatMap_cons, List.getElem?_append_right (by rw [hk, Nat.succ_mul]; omega), hk]
    have := flat_get hk l j i (by simpa using h) hi
    rw [show (j + 1) * k + i - k = j * k + i by rw [Nat.succ_mul]; omega, this]
    rfl
theorem flat_take {α : Type} {f : α → List Value} {k : Nat} (hk : ∀ a, (f a).length = k) : ∀ (l : List α) (n : Nat), (l.take n).flatMap f = (l.flatMap f).take (n * k)
  | [], n => by simp
  | a :: l, 0 => by simp
  | a :: l, n + 1 => by
    rw [List.take_succ_cons, List.flatMap_cons, List.flatMap_cons, flat_take hk l n, List.take_append, hk, List.take_of_length_le (l := f a) (by rw [hk, Nat.succ_mul]; omega)]
    congr 2
    rw [Nat.succ_mul]; omega
theorem flat_drop {α : Type} {f : α → List Value} {k : Nat} (hk : ∀ a, (f a).length = k) : ∀ (l : List α) (n : Nat), (l.drop n).flatMap f = (l.flatMap f).drop (n * k)
  | [], n => by simp
  | a :: l, 0 => by simp
  | a :: l, n + 1 => by
    rw [List.drop_succ_cons, List.flatMap_cons, flat_drop hk l n, List.drop_append, hk, List.drop_eq_nil_of_le («as» := f a) (by rw [hk, Nat.succ_mul]; omega), List.nil_append]
    congr 1
    rw [Nat.succ_mul]; omega
/-- The cells of one thing of a row. -/
theorem frow_agg {α : Type} {f : α → List Value} {k : Nat} (hk : ∀ a, (f a).length = k) (hk0 : 0 < k) {F : Hp} {p : Option Addr} {l : List α} (h : Frow F p (l.flatMap f)) (j : Nat) (hj : j < l.length) :
    (padd p (j * k)).isSome = true ∧ ∀ i, i < k → Pcell F (padd (padd p (j * k)) i) = (f l[j])[i]? := by
  have hl := flat_len hk l
  have hm : (j + 1) * k ≤ l.length * k := Nat.mul_le_mul_right _ hj
  rw [Nat.succ_mul] at hm
  refine ⟨?_, fun i hi => ?_⟩
  · have := frow_some h (j := j * k) (by omega)
    cases p with
    | none => cases this
    | some a => rfl
  · have e := flat_get hk l j i hj hi
    have hi' : i < (f l[j]).length := by rw [hk]; exact hi
    rw [List.getElem?_eq_getElem hi'] at e ⊢
    rw [padd_padd]
    exact h _ _ e
/-- A part of a row. -/
theorem frow_flat_take {α : Type} {f : α → List Value} {k : Nat} (hk : ∀ a, (f a).length = k) {F : Hp} {p : Option Addr} {l : List α} (h : Frow F p (l.flatMap f)) (n : Nat) : Frow F p ((l.take n).flatMap f) := by
  rw [flat_take hk]; exact frow_take h _
theorem frow_flat_drop {α : Type} {f : α → List Value} {k : Nat} (hk : ∀ a, (f a).length = k) {F : Hp} {p : Option Addr} {l : List α} (h : Frow F p (l.flatMap f)) (n c : Nat) (hn : n ≤ l.length) (hc : l.length ≤ c) : Frow F (slBase p n c k) ((l.drop n).flatMap f) := by
  unfold slBase
  split
  · rename_i h1
    rw [List.drop_eq_nil_of_le (by omega)]
    exact frow_nil _ _
  · rw [flat_drop hk]
    exact frow_drop h _
end Go.Proofs.YthkkgphjjmhglaaGreatDoor
