/-
Rolls, plainly: halves, the mark of a roll, the marks beside the way to a text, what they make.
-/
import Derived.Test.YthkmfihbpbehfaaSaid
import Derived.Test.YthkmfihbpbehfaaFwB
namespace Go.Proofs.Ythkmfihbpbehfaa
set_option linter.unusedVariables false
set_option linter.unusedSimpArgs false
open Go.TR
/-- The greatest power of two below n, from k on. -/
def halfGo : Nat → Nat → Nat → Nat
  | 0, k, _ => k
  | f + 1, k, n => if 2 * k < n then halfGo f (2 * k) n else k
def half (n : Nat) : Nat := halfGo n 1 n
theorem halfGo_step (f k n : Nat) (h : 2 * k < n) : halfGo (f + 1) k n = halfGo f (2 * k) n := by simp only [halfGo, if_pos h]
theorem halfGo_stop (f k n : Nat) (h : ¬ 2 * k < n) : halfGo f k n = k := by
  cases f with
  | zero => rfl
  | succ f => simp only [halfGo, if_neg h]
theorem halfGo_range : ∀ (f k n : Nat), 1 ≤ k → k < n → 1 ≤ halfGo f k n ∧ halfGo f k n < n
  | 0, k, n, h1, h2 => ⟨h1, h2⟩
  | f + 1, k, n, h1, h2 => by
    simp only [halfGo]
    split
    · rename_i h
      exact halfGo_range f (2 * k) n (by omega) h
    · exact ⟨h1, h2⟩
theorem half_range {n : Nat} (h : 2 ≤ n) : 1 ≤ half n ∧ half n < n := halfGo_range n 1 n (Nat.le_refl _) (by omega)
/-- The mark of a text in a roll. -/
def oneN (s : List UInt8) : Nat := markN (4 :: s)
def twoN (a b : Nat) : Nat := markN (two 5 a b)
theorem oneN_lt (s : List UInt8) : oneN s < MM := markN_lt _
theorem twoN_lt (a b : Nat) : twoN a b < MM := markN_lt _
def rootF : Nat → List (List UInt8) → Nat
  | 0, _ => 0
  | f + 1, l => match l with
    | [] => 0
    | [s] => oneN s
    | _ :: _ :: _ => twoN (rootF f (l.take (half l.length))) (rootF f (l.drop (half l.length)))
def rootN (l : List (List UInt8)) : Nat := rootF l.length l
theorem rootF_fuel : ∀ (f g : Nat) (l : List (List UInt8)), l.length ≤ f → l.length ≤ g → rootF f l = rootF g l
  | 0, 0, _, _, _ => rfl
  | 0, g + 1, l, h, _ => by
    have : l = [] := List.eq_nil_of_length_eq_zero (by omega)
    subst this; rfl
  | f + 1, 0, l, _, h => by
    have : l = [] := List.eq_nil_of_length_eq_zero (by omega)
    subst this; rfl
  | f + 1, g + 1, l, h1, h2 => by
    match l, h1, h2 with
    | [], _, _ => rfl
    | [s], _, _ => rfl
    | a :: b :: t, h1, h2 =>
      have hr := half_range (n := (a :: b :: t).length) (by simp)
      simp only [rootF]
      rw [rootF_fuel f g _ (by rw [List.length_take]; omega) (by rw [List.length_take]; omega), rootF_fuel f g _ (by rw [List.length_drop]; omega) (by rw [List.length_drop]; omega)]
theorem rootN_one (s : List UInt8) : rootN [s] = oneN s := rfl
theorem rootN_two {l : List (List UInt8)} (h : 2 ≤ l.length) : rootN l = twoN (rootN (l.take (half l.length))) (rootN (l.drop (half l.length))) := by
  have hr := half_range h
  unfold rootN
  match l, h with
  | a :: b :: t, _ =>
    show twoN (rootF (t.length + 1) _) (rootF (t.length + 1) _) = _
    simp only [List.length_cons] at hr ⊢
    rw [rootF_fuel (t.length + 1) _ _ (by rw [List.length_take]; simp only [List.length_cons]; omega) (Nat.le_refl _), rootF_fuel (t.length + 1) _ _ (by rw [List.length_drop]; simp only [List.length_cons]; omega) (Nat.le_refl _)]
theorem rootN_lt {l : List (List UInt8)} (h : 1 ≤ l.length) : rootN l < MM := by
  by_cases h1 : 2 ≤ l.length
  · rw [rootN_two h1]; exact twoN_lt _ _
  · match l, h, h1 with
    | [s], _, _ => exact oneN_lt s
    | a :: b :: t, _, h1 => simp at h1
theorem MM_u64 {n : Nat} (h : n < MM) : n < 18446744073709551616 := Nat.lt_trans h (by decide)
/-- The marks beside the way to the text at i, from the deepest one up. -/
def inF : Nat → List (List UInt8) → Nat → List Nat
  | 0, _, _ => []
  | f + 1, l, i => if l.length ≤ 1 then [] else if i < half l.length then inF f (l.take (half l.length)) i ++ [rootN (l.drop (half l.length))] else inF f (l.drop (half l.length)) (i - half l.length) ++ [rootN (l.take (half l.length))]
theorem inF_fuel : ∀ (f g : Nat) (l : List (List UInt8)) (i : Nat), l.length ≤ f → l.length ≤ g → inF f l i = inF g l i
  | 0, 0, _, _, _, _ => rfl
  | 0, g + 1, l, i, h, _ => by simp only [inF]; rw [if_pos (by omega)]
  | f + 1, 0, l, i, _, h => by simp only [inF]; rw [if_pos (by omega)]
  | f + 1, g + 1, l, i, h1, h2 => by
    simp only [inF]
    by_cases h : l.length ≤ 1
    · rw [if_pos h, if_pos h]
    · have hr := half_range (n := l.length) (by omega)
      rw [if_neg h, if_neg h, inF_fuel f g _ _ (by rw [List.length_take]; omega) (by rw [List.length_take]; omega), inF_fuel f g _ _ (by rw [List.length_drop]; omega) (by rw [List.length_drop]; omega)]
def inN (l : List (List UInt8)) (i : Nat) : List Nat := inF l.length l i
theorem inN_one {l : List (List UInt8)} (h : l.length ≤ 1) (i : Nat) : inN l i = [] := by
  unfold inN
  cases hl : l.length with
  | zero => rfl
  | succ n => simp only [inF]; rw [if_pos h]
theorem inN_left {l : List (List UInt8)} (h : 2 ≤ l.length) {i : Nat} (hi : i < half l.length) : inN l i = inN (l.take (half l.length)) i ++ [rootN (l.drop (half l.length))] := by
  have hr := half_range h
  obtain ⟨n, hn⟩ : ∃ n, l.length = n + 1 := ⟨l.length - 1, by omega⟩
  have e : inN l i = inF (n + 1) l i := by unfold inN; rw [hn]
  rw [e]
  simp only [inF]
  rw [if_neg (by omega), if_pos hi]
  unfold inN
  rw [inF_fuel n _ _ _ (by rw [List.length_take]; omega) (Nat.le_refl _)]
theorem inN_right {l : List (List UInt8)} (h : 2 ≤ l.length) {i : Nat} (hi : ¬ i < half l.length) : inN l i = inN (l.drop (half l.length)) (i - half l.length) ++ [rootN (l.take (half l.length))] := by
  have hr := half_range h
  obtain ⟨n, hn⟩ : ∃ n, l.length = n + 1 := ⟨l.length - 1, by omega⟩
  have e : inN l i = inF (n + 1) l i := by unfold inN; rw [hn]
  rw [e]
  simp only [inF]
  rw [if_neg (by omega), if_neg hi]
  unfold inN
  rw [inF_fuel n _ _ _ (by rw [List.length_drop]; omega) (Nat.le_refl _)]
theorem inF_len : ∀ (f : Nat) (l : List (List UInt8)) (i : Nat), (inF f l i).length ≤ f
  | 0, _, _ => Nat.le_refl _
  | f + 1, l, i => by
    simp only [inF]
    split
    · simp
    · split
      · have := inF_len f (l.take (half l.length)) i
        simp only [List.length_append, List.length_cons, List.length_nil]; omega
      · have := inF_len f (l.drop (half l.length)) (i - half l.length)
        simp only [List.length_append, List.length_cons, List.length_nil]; omega
theorem inF_lt : ∀ (f : Nat) (l : List (List UInt8)) (i : Nat), ∀ n ∈ inF f l i, n < MM
  | 0, _, _ => by simp [inF]
  | f + 1, l, i => by
    intro n hn
    simp only [inF] at hn
    split at hn
    · simp at hn
    · rename_i h
      have hr := half_range (n := l.length) (by omega)
      split at hn
      · rcases List.mem_append.1 hn with hn | hn
        · exact inF_lt f _ _ n hn
        · rw [List.mem_singleton] at hn
          subst hn
          exact rootN_lt (by rw [List.length_drop]; omega)
      · rcases List.mem_append.1 hn with hn | hn
        · exact inF_lt f _ _ n hn
        · rw [List.mem_singleton] at hn
          subst hn
          exact rootN_lt (by rw [List.length_take]; omega)
/-- What is wrong with a roll. -/
def rollFault (l : List (List UInt8)) : Int := if l.length = 0 then 5 else if 40 < l.length then 2 else if l.any (fun s => decide (40 < s.length)) = true then 2 else 0
theorem rollFault_zero {l : List (List UInt8)} (h : rollFault l = 0) : 1 ≤ l.length ∧ l.length ≤ 40 ∧ ∀ s ∈ l, s.length ≤ 40 := by
  unfold rollFault at h
  split at h
  · cases h
  · split at h
    · cases h
    · split at h
      · cases h
      · rename_i h1 h2 h3
        refine ⟨by omega, by omega, fun s hs => ?_⟩
        simp only [List.any_eq_true, decide_eq_true_eq, not_exists, not_and] at h3
        have := h3 s hs
        omega
theorem rollFault_cases (l : List (List UInt8)) : rollFault l = 0 ∨ rollFault l = 2 ∨ rollFault l = 5 := by
  unfold rollFault
  split
  · exact .inr (.inr rfl)
  · split
    · exact .inr (.inl rfl)
    · split
      · exact .inr (.inl rfl)
      · exact .inl rfl
end Go.Proofs.Ythkmfihbpbehfaa
