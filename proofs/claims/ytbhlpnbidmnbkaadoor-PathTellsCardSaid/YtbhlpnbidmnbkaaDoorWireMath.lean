/-
Parts of a text, plainly: what is put down, what is read.
-/
import Derived.Test.YtbhlpnbidmnbkaaDoorSetHeadMath
import Derived.Test.YtbhlpnbidmnbkaaDoorFwB
namespace Go.Proofs.YtbhlpnbidmnbkaaDoor
set_option linter.unusedVariables false
set_option linter.unusedSimpArgs false
open Go.TR
/-- A part: its length in two bytes, and itself. -/
def part (p : List UInt8) : List UInt8 := UInt8.ofNat (p.length / 256) :: UInt8.ofNat (p.length % 256) :: p
theorem part_length (p : List UInt8) : (part p).length = p.length + 2 := rfl
/-- Parts behind what is there; none, if it is too long. -/
def partsF : List (List UInt8) → List UInt8 → Option (List UInt8)
  | [], o => some o
  | p :: l, o => if 600 < o.length + 2 + p.length then none else partsF l (o ++ part p)
theorem partsF_le : ∀ (l : List (List UInt8)) (o r : List UInt8), o.length ≤ 600 → partsF l o = some r → r.length ≤ 600
  | [], o, r, h, e => by simp only [partsF, Option.some.injEq] at e; subst e; exact h
  | p :: l, o, r, h, e => by
    simp only [partsF] at e
    split at e
    · cases e
    · exact partsF_le l _ r (by rw [List.length_append, part_length]; omega) e
def putE (l : List (List UInt8)) : Int := if 60 < l.length then 2 else match partsF l [] with
  | some _ => 0
  | none => 2
def putO (l : List (List UInt8)) : List UInt8 := if 60 < l.length then [] else match partsF l [] with
  | some o => o
  | none => []
/-- The first part, and what is behind it. -/
def firstO : List UInt8 → Option (List UInt8 × List UInt8)
  | a :: b :: t => if t.length < 256 * a.toNat + b.toNat then none else some (t.take (256 * a.toNat + b.toNat), t.drop (256 * a.toNat + b.toNat))
  | _ => none
theorem firstO_lt {s p r : List UInt8} (h : firstO s = some (p, r)) : r.length + 2 ≤ s.length ∧ p.length + 2 + r.length = s.length := by
  match s, h with
  | a :: b :: t, h =>
    simp only [firstO] at h
    split at h
    · cases h
    · simp only [Option.some.injEq, Prod.mk.injEq] at h
      obtain ⟨rfl, rfl⟩ := h
      simp only [List.length_cons, List.length_drop, List.length_take]
      omega
/-- All parts. -/
def partsN : Nat → List UInt8 → Option (List (List UInt8))
  | 0, s => match s with
    | [] => some []
    | _ :: _ => none
  | n + 1, s => match s with
    | [] => some []
    | c :: t => match firstO (c :: t) with
      | some (p, r) => (partsN n r).map (p :: ·)
      | none => none
theorem partsN_nil (n : Nat) : partsN n [] = some [] := by cases n <;> rfl
theorem partsN_fuel : ∀ (n m : Nat) (s : List UInt8), s.length ≤ n → s.length ≤ m → partsN n s = partsN m s
  | n, m, [], _, _ => by rw [partsN_nil, partsN_nil]
  | 0, m, c :: t, h, _ => by simp at h
  | n + 1, 0, c :: t, _, h => by simp at h
  | n + 1, m + 1, c :: t, h1, h2 => by
    simp only [partsN]
    cases hf : firstO (c :: t) with
    | none => rfl
    | some x =>
      obtain ⟨p, r⟩ := x
      have := (firstO_lt hf).1
      simp only
      rw [partsN_fuel n m r (by omega) (by omega)]
def partsR (s : List UInt8) : Option (List (List UInt8)) := partsN s.length s
theorem partsR_nil : partsR [] = some [] := rfl
theorem partsR_none {s : List UInt8} (h : s ≠ []) (hf : firstO s = none) : partsR s = none := by
  cases s with
  | nil => exact absurd rfl h
  | cons c t => unfold partsR; simp only [List.length_cons, partsN, hf]
theorem partsR_some {s p r : List UInt8} (hf : firstO s = some (p, r)) : partsR s = (partsR r).map (p :: ·) := by
  cases s with
  | nil => cases hf
  | cons c t =>
    have := (firstO_lt hf).1
    unfold partsR
    simp only [List.length_cons, partsN, hf]
    rw [partsN_fuel t.length r.length r (by simp only [List.length_cons] at this; omega) (Nat.le_refl _)]
def getE (s : List UInt8) : Int := if 600 < s.length then 2 else match partsR s with
  | some l => if l.length ≤ 60 then 0 else 3
  | none => 3
def getL (s : List UInt8) : List (List UInt8) := if 600 < s.length then [] else match partsR s with
  | some l => if l.length ≤ 60 then l else []
  | none => []
def readOk (s : List UInt8) : Bool := match partsR s with
  | some l => decide (l.length ≤ 60)
  | none => false
def readL (s : List UInt8) : List (List UInt8) := match partsR s with
  | some l => l
  | none => []
def firstV (s : List UInt8) : Value := match firstO s with
  | some (p, r) => .tuple #[S p, S r, .bool true]
  | none => .tuple #[S [], S [], .bool false]
def firstE (s : List UInt8) : Int := if 600 < s.length then 2 else match firstO s with
  | some _ => 0
  | none => 3
def firstP (s : List UInt8) : List UInt8 := if 600 < s.length then [] else match firstO s with
  | some (p, _) => p
  | none => []
def firstR (s : List UInt8) : List UInt8 := if 600 < s.length then [] else match firstO s with
  | some (_, r) => r
  | none => []
end Go.Proofs.YtbhlpnbidmnbkaaDoor
