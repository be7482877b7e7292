/-
The number of a text, plainly: from its front on (the program's way), and from its end on with powers (the reference's way).
-/
import Derived.Test.YtbhlpnbidmnbkaaDoorDiv
namespace Go.Proofs.YtbhlpnbidmnbkaaDoor
set_option linter.unusedVariables false
set_option linter.unusedSimpArgs false
open Go.TR
def MM : Nat := 2305843009213693951
def bas : Nat := 1099511628211
def mk1 (m : Nat) (c : UInt8) : Nat := (m * bas % MM + c.toNat + 1) % MM
/-- The number of a text. -/
def markN (l : List UInt8) : Nat := l.foldl mk1 1
theorem mk1_lt (m : Nat) (c : UInt8) : mk1 m c < MM := Nat.mod_lt _ (by decide)
theorem fold_lt : ∀ (l : List UInt8) (m : Nat), m < MM → l.foldl mk1 m < MM
  | [], m, h => h
  | c :: l, m, _ => fold_lt l _ (mk1_lt m c)
theorem markN_lt (l : List UInt8) : markN l < MM := fold_lt l 1 (by decide)
theorem cadd {a a' b b' : Nat} (h : a % MM = a' % MM) (k : b % MM = b' % MM) : (a + b) % MM = (a' + b') % MM := by rw [Nat.add_mod, h, k, ← Nat.add_mod]
theorem cmul {a a' b b' : Nat} (h : a % MM = a' % MM) (k : b % MM = b' % MM) : (a * b) % MM = (a' * b') % MM := by rw [Nat.mul_mod, h, k, ← Nat.mul_mod]
/-- Sum and power, from the end on. -/
def sp : List UInt8 → Nat × Nat
  | [] => (0, 1)
  | c :: l => (((sp l).1 + (sp l).2 * (c.toNat + 1) % MM) % MM, (sp l).2 * bas % MM)
theorem sp_lt : ∀ l, (sp l).1 < MM ∧ (sp l).2 < MM
  | [] => ⟨by decide, by decide⟩
  | c :: l => ⟨Nat.mod_lt _ (by decide), Nat.mod_lt _ (by decide)⟩
theorem fold_sp : ∀ (l : List UInt8) (m : Nat), l.foldl mk1 m % MM = (m * (sp l).2 + (sp l).1) % MM
  | [], m => by simp [sp]
  | c :: l, m => by
    rw [List.foldl_cons, fold_sp l (mk1 m c)]
    simp only [sp]
    have h1 : mk1 m c % MM = (m * bas + (c.toNat + 1)) % MM := by
      unfold mk1
      rw [Nat.mod_mod, Nat.add_assoc, Nat.mod_add_mod]
    have e1 : (mk1 m c * (sp l).2 + (sp l).1) % MM = ((m * bas + (c.toNat + 1)) * (sp l).2 + (sp l).1) % MM := cadd (cmul h1 rfl) rfl
    have e2 : (m * ((sp l).2 * bas % MM) + ((sp l).1 + (sp l).2 * (c.toNat + 1) % MM) % MM) % MM = (m * ((sp l).2 * bas) + ((sp l).1 + (sp l).2 * (c.toNat + 1))) % MM :=
      cadd (cmul rfl (Nat.mod_mod _ _)) (by rw [Nat.mod_mod]; exact cadd rfl (Nat.mod_mod _ _))
    rw [e1, e2]
    congr 1
    generalize (sp l).2 = p
    generalize (sp l).1 = s
    generalize c.toNat + 1 = d
    generalize bas = b
    grind
theorem markN_sp (l : List UInt8) : ((sp l).1 + (sp l).2) % MM = markN l := by
  have h := fold_sp l 1
  rw [Nat.mod_eq_of_lt (fold_lt l 1 (by decide)), Nat.one_mul, Nat.add_comm] at h
  exact h.symm
/-- A power of the base. -/
def powN : Nat → Nat
  | 0 => 1
  | n + 1 => powN n * bas % MM
theorem powN_lt : ∀ n, powN n < MM
  | 0 => by decide
  | n + 1 => Nat.mod_lt _ (by decide)
/-- The low bytes of a number, the greatest first. -/
def lowB : Nat → Nat → List UInt8
  | 0, _ => []
  | k + 1, n => UInt8.ofNat (n / 256 ^ k % 256) :: lowB k n
theorem lowB_length : ∀ k n, (lowB k n).length = k
  | 0, _ => rfl
  | k + 1, n => by simp only [lowB, List.length_cons, lowB_length k n]
def num (n : Nat) : List UInt8 := lowB 8 n
theorem num_length (n : Nat) : (num n).length = 8 := lowB_length 8 n
/-- What is said of two numbers. -/
def two (kind a b : Nat) : List UInt8 := UInt8.ofNat kind :: (num a ++ num b)
theorem fill_step {α : Type} (L Z : List α) (h : L.length = Z.length) (k : Nat) (hk : k < L.length) : (L.take k ++ Z.drop k).take k ++ [L[k]] ++ (L.take k ++ Z.drop k).drop (k + 1) = L.take (k + 1) ++ Z.drop (k + 1) := by
  have e1 : (L.take k).length = k := by simp; omega
  have e2 : (L.take k ++ Z.drop k).take k = L.take k := by
    have := List.take_left (l₁ := L.take k) (l₂ := Z.drop k)
    rwa [e1] at this
  have e3 : (L.take k ++ Z.drop k).drop (k + 1) = Z.drop (k + 1) := by
    rw [List.drop_append, e1]
    rw [List.drop_of_length_le (by omega), List.nil_append, List.drop_drop]
    congr 1
    omega
  rw [e2, e3, List.take_succ_eq_append_getElem hk]
end Go.Proofs.YtbhlpnbidmnbkaaDoor
