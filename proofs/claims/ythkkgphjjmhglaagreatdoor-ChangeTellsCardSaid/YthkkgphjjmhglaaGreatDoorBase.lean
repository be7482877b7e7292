/-
Small facts that all walks of this seat share.
-/
import Derived.Test.YthkkgphjjmhglaaGreatDoorTb
namespace Go.Proofs.YthkkgphjjmhglaaGreatDoor
set_option linter.unusedVariables false
set_option linter.unusedSimpArgs false
open Go.TR
@[reducible] def i64 (n : Int) : Value := .int .i64 n
@[reducible] def u64 (n : Int) : Value := .int .u64 n
@[reducible] def u8 (n : Int) : Value := .int .u8 n
@[reducible] def pair (a b : Value) : Value := .tuple #[a, b]
@[reducible] def triple (a b c : Value) : Value := .tuple #[a, b, c]
@[simp] theorem bl_S (l : List UInt8) : bl (mkB l) = l := rfl
theorem bpick_or (b x : Bool) : bpick b true x = (b || x) := by cases b <;> rfl
theorem bpick_and (b x : Bool) : bpick b x false = (b && x) := by cases b <;> rfl
theorem wrap_i64 {n : Int} (h1 : -9223372036854775808 ≤ n) (h2 : n ≤ 9223372036854775807) : IntKind.i64.wrap n = n := IntWalk.i64_in n ⟨h1, h2⟩
theorem wrap_succ {k : Nat} (h : k < 9223372036854775807) : IntKind.i64.wrap ((k : Int) + 1) = ((k + 1 : Nat) : Int) := by
  rw [wrap_i64 (by omega) (by omega)]; omega
/-- A slice that is not nil where it has elements. -/
theorem frow_some {F : Hp} {p : Option Addr} {cs : List Value} (h : Frow F p cs) {j : Nat} (hj : j < cs.length) : p.isSome = true := by
  have := h j _ (List.getElem?_eq_getElem hj)
  cases p with
  | none => simp [padd, Pcell] at this
  | some a => rfl
theorem frow_get {F : Hp} {p : Option Addr} {cs : List Value} (h : Frow F p cs) {j : Nat} (hj : j < cs.length) : Pcell F (padd p j) = some cs[j] := h j _ (List.getElem?_eq_getElem hj)
theorem pcell_sub {F F' : Hp} (h : F.sub F') {p : Option Addr} {v : Value} (e : Pcell F p = some v) : Pcell F' p = some v := by
  cases p with
  | none => simp [Pcell] at e
  | some a => exact Fcell.sub h e
theorem frow_sub {F F' : Hp} (h : F.sub F') {p : Option Addr} {cs : List Value} (e : Frow F p cs) : Frow F' p cs := fun j u hj => pcell_sub h (e j u hj)
theorem frow_nil (F : Hp) (p : Option Addr) : Frow F p [] := fun j u hj => by simp at hj
theorem padd_padd (p : Option Addr) (m n : Nat) : padd (padd p m) n = padd p (m + n) := by
  cases p with
  | none => rfl
  | some a => obtain ⟨b, o, s⟩ := a; cases s <;> (simp only [padd, Option.map_some, Addr.add]; by_cases h1 : m = 0 <;> by_cases h2 : n = 0 <;> simp [h1, h2, Nat.add_assoc])
theorem frow_take {F : Hp} {p : Option Addr} {cs : List Value} (h : Frow F p cs) (k : Nat) : Frow F p (cs.take k) := fun j u hj => by
  rw [List.getElem?_take] at hj
  split at hj
  · exact h _ _ hj
  · simp at hj
theorem take_succ_eq {α : Type} {l1 l2 : List α} {k : Nat} (h : l1.take k = l2.take k) (h1 : k < l1.length) (h2 : k < l2.length) (e : l1[k] = l2[k]) : l1.take (k + 1) = l2.take (k + 1) := by
  rw [List.take_succ_eq_append_getElem h1, List.take_succ_eq_append_getElem h2, h, e]
theorem ne_of_get {α : Type} {l1 l2 : List α} {k : Nat} (h1 : k < l1.length) (h2 : k < l2.length) (e : l1[k] ≠ l2[k]) : l1 ≠ l2 := by
  rintro rfl
  exact e rfl
end Go.Proofs.YthkkgphjjmhglaaGreatDoor
