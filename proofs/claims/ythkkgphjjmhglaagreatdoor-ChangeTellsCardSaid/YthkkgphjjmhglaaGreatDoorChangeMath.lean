/-
What package change computes, plainly; and what the reference computes, level by level, is the same.
-/
import Derived.Test.YthkkgphjjmhglaaGreatDoorOrdMath
import Derived.Test.YthkkgphjjmhglaaGreatDoorTreeMath
import Derived.Test.YthkkgphjjmhglaaGreatDoorLevMath
import Derived.Test.YthkkgphjjmhglaaGreatDoorTrim
namespace Go.Proofs.YthkkgphjjmhglaaGreatDoor
set_option linter.unusedVariables false
set_option linter.unusedSimpArgs false
open Go.TR
open Go.Op (bytesLess)
/-- The names of both books, in order. -/
def bothN (a b : List Entry) : List (List UInt8) := ordN (a.map Entry.name ++ b.map Entry.name)
def unlikeN (a b : List Entry) (n : List UInt8) : Bool := decide (standsO a n ≠ standsO b n)
/-- Names under a prefix in which two books differ. -/
def differP (a b : List Entry) (p : List UInt8) : List (List UInt8) := (bothN a b).filter fun n => p.isPrefixOf (pathN n) && unlikeN a b n
def differN (a b : List Entry) : List (List UInt8) := (bothN a b).filter (unlikeN a b)
theorem differP_nil (a b : List Entry) : differP a b [] = differN a b := rfl
/-- The names that are found below a prefix, some steps above the leaves; how many prefixes are looked at. -/
def seenN (a b : List Entry) : Nat → List UInt8 → List (List UInt8)
  | 0, p => if lvlN a p = lvlN b p then [] else differP a b p
  | k + 1, p => if lvlN a p = lvlN b p then [] else seenN a b k (p ++ [48]) ++ seenN a b k (p ++ [49])
def cntN (a b : List Entry) : Nat → List UInt8 → Nat
  | 0, _ => 1
  | k + 1, p => if lvlN a p = lvlN b p then 1 else 1 + (cntN a b k (p ++ [48]) + cntN a b k (p ++ [49]))
theorem cntN_le (a b : List Entry) : ∀ k p, cntN a b k p + 1 ≤ 2 ^ (k + 1)
  | 0, p => Nat.le_refl 2
  | k + 1, p => by
    have h1 := cntN_le a b k (p ++ [48])
    have h2 := cntN_le a b k (p ++ [49])
    unfold cntN
    rw [Nat.pow_succ]
    split
    · have : 2 ≤ 2 ^ (k + 1) := by rw [Nat.pow_succ]; have := Nat.pos_of_ne_zero (show 2 ^ k ≠ 0 by simp); omega
      omega
    · omega
theorem cntN_pos (a b : List Entry) (k : Nat) (p : List UInt8) : 1 ≤ cntN a b k p := by
  cases k with
  | zero => exact Nat.le_refl _
  | succ k => unfold cntN; split <;> omega
theorem seen_pre (a b : List Entry) : ∀ k p, ∀ n ∈ seenN a b k p, p <+: pathN n ∧ n ∈ differN a b
  | 0, p, n, hn => by
    unfold seenN at hn
    split at hn
    · cases hn
    · unfold differP at hn
      obtain ⟨h1, h2⟩ := List.mem_filter.1 hn
      rw [Bool.and_eq_true] at h2
      exact ⟨List.isPrefixOf_iff_prefix.1 h2.1, List.mem_filter.2 ⟨h1, h2.2⟩⟩
  | k + 1, p, n, hn => by
    unfold seenN at hn
    split at hn
    · cases hn
    · rcases List.mem_append.1 hn with h | h
      · obtain ⟨h1, h2⟩ := seen_pre a b k _ n h
        exact ⟨(List.prefix_append _ _).trans h1, h2⟩
      · obtain ⟨h1, h2⟩ := seen_pre a b k _ n h
        exact ⟨(List.prefix_append _ _).trans h1, h2⟩
theorem bl_split : ∀ (p x y : List UInt8), bytesLess (p ++ 48 :: x) (p ++ 49 :: y) = true
  | [], x, y => by simp [bytesLess]
  | c :: p, x, y => by
    have := bl_split p x y
    simp only [List.cons_append, bytesLess]
    simp [this]
theorem ahead_split {p a b : List UInt8} (h1 : p ++ [48] <+: pathN a) (h2 : p ++ [49] <+: pathN b) : ahead a b = true := by
  obtain ⟨x, hx⟩ := h1
  obtain ⟨y, hy⟩ := h2
  unfold ahead
  rw [← hx, ← hy, List.append_assoc, List.append_assoc]
  have := bl_split p x y
  simp only [List.singleton_append]
  rw [this]
  rfl
theorem seen_rise (a b : List Entry) : ∀ k p, Rise (seenN a b k p)
  | 0, p => by
    unfold seenN
    split
    · exact List.Pairwise.nil
    · exact List.Pairwise.filter _ (ordN_rise _)
  | k + 1, p => by
    unfold seenN
    split
    · exact List.Pairwise.nil
    · refine List.pairwise_append.2 ⟨seen_rise a b k _, seen_rise a b k _, fun x hx y hy => ?_⟩
      exact ahead_split (seen_pre a b k _ x hx).1 (seen_pre a b k _ y hy).1
theorem rise_self {l : List (List UInt8)} (h : Rise l) : ordN l = l := rise_eq (ordN_rise l) h fun s => ordN_mem l s
theorem seen_ord (a b : List Entry) (k : Nat) (p : List UInt8) : ordN (seenN a b k p) = seenN a b k p := rise_self (seen_rise a b k p)
/-! Level by level. -/
def sumN (a b : List Entry) (k : Nat) (l : List (List UInt8)) : Nat := (l.map (cntN a b k)).sum
def allN (a b : List Entry) (k : Nat) (l : List (List UInt8)) : List (List UInt8) := l.flatMap (seenN a b k)
/-- What is left to be looked at, how many have been looked at, and what was found. -/
structure Wide (a b : List Entry) (todo : List (List UInt8)) (many : Nat) (out : List (List UInt8)) : Prop where
  is : ∃ (d : Nat) (A B : List (List UInt8)), todo = A ++ B ∧ d ≤ 16 ∧ (∀ p ∈ A, p.length = d ∧ p.all (inS [48, 49]) = true) ∧ (∀ p ∈ B, p.length = d + 1 ∧ p.all (inS [48, 49]) = true) ∧ (d = 16 → B = []) ∧ (d ≠ 16 → out = []) ∧
    many + sumN a b (16 - d) A + sumN a b (16 - (d + 1)) B = cntN a b 16 [] ∧ out ++ (allN a b (16 - (d + 1)) B ++ allN a b (16 - d) A) = seenN a b 16 []
theorem wide_start (a b : List Entry) : Wide a b [[]] 0 [] := ⟨⟨0, [[]], [], rfl, by decide, fun p hp => by rw [List.mem_singleton.1 hp]; exact ⟨rfl, rfl⟩, (fun p hp => by cases hp), (fun h => by cases h), (fun _ => rfl), by simp [sumN], by simp [allN]⟩⟩
theorem wide_end {a b : List Entry} {many : Nat} {out : List (List UInt8)} (h : Wide a b [] many out) : many = cntN a b 16 [] ∧ out = seenN a b 16 [] := by
  obtain ⟨d, A, B, h1, _, _, _, _, _, h2, h3⟩ := h.is
  obtain ⟨rfl, rfl⟩ := List.append_eq_nil_iff.1 h1.symm
  exact ⟨by simpa [sumN] using h2, by simpa [allN] using h3⟩
/-- A level that has been looked at whole: the next one. -/
theorem wide_turn {a b : List Entry} {todo : List (List UInt8)} {many : Nat} {out : List (List UInt8)} (h : Wide a b todo many out) (hne : todo ≠ []) :
    ∃ (d : Nat) (p : List UInt8) (A B : List (List UInt8)), todo = p :: (A ++ B) ∧ d ≤ 16 ∧ (∀ p' ∈ p :: A, p'.length = d ∧ p'.all (inS [48, 49]) = true) ∧ (∀ p ∈ B, p.length = d + 1 ∧ p.all (inS [48, 49]) = true) ∧ (d = 16 → B = []) ∧ (d ≠ 16 → out = []) ∧
    many + sumN a b (16 - d) (p :: A) + sumN a b (16 - (d + 1)) B = cntN a b 16 [] ∧ out ++ (allN a b (16 - (d + 1)) B ++ allN a b (16 - d) (p :: A)) = seenN a b 16 [] := by
  obtain ⟨d, A, B, h1, h2, h3, h4, h5, h6, h7, h8⟩ := h.is
  cases A with
  | cons p A => exact ⟨d, p, A, B, h1, h2, h3, h4, h5, h6, h7, h8⟩
  | nil =>
    cases B with
    | nil => exact absurd h1 hne
    | cons p B =>
      have hd : d ≠ 16 := fun h => by have := h5 h; cases this
      refine ⟨d + 1, p, B, [], by rw [h1]; simp, by omega, h4, (fun p hp => by cases hp), (fun _ => rfl), fun _ => h6 hd, ?_, ?_⟩
      · simpa [sumN] using h7
      · simpa [allN] using h8
theorem wide_step {a b : List Entry} {p : List UInt8} {rest : List (List UInt8)} {many : Nat} {out : List (List UInt8)} (h : Wide a b (p :: rest) many out) :
    p.length ≤ 16 ∧ p.all (inS [48, 49]) = true ∧ many + 1 ≤ cntN a b 16 [] ∧
    (lvlN a p = lvlN b p → Wide a b rest (many + 1) out) ∧
    (lvlN a p ≠ lvlN b p → p.length < 16 → Wide a b (rest ++ [p ++ [48], p ++ [49]]) (many + 1) out) ∧
    (lvlN a p ≠ lvlN b p → p.length = 16 → Wide a b rest (many + 1) (out ++ differP a b p)) := by
  obtain ⟨d, q, A, B, h1, h2, h3, h4, h5, h6, h7, h8⟩ := wide_turn h (by simp)
  obtain ⟨rfl, rfl⟩ := List.cons.inj h1
  obtain ⟨hpl, hpa⟩ := h3 p (List.mem_cons_self ..)
  have h3' : ∀ p' ∈ A, p'.length = d ∧ p'.all (inS [48, 49]) = true := fun p' hp => h3 p' (List.mem_cons_of_mem _ hp)
  have hc := cntN_pos a b (16 - d) p
  have e7 : many + (cntN a b (16 - d) p + sumN a b (16 - d) A) + sumN a b (16 - (d + 1)) B = cntN a b 16 [] := by rw [← h7]; simp [sumN]
  have e8 : out ++ (allN a b (16 - (d + 1)) B ++ (seenN a b (16 - d) p ++ allN a b (16 - d) A)) = seenN a b 16 [] := by rw [← h8]; simp [allN]
  refine ⟨by omega, hpa, by omega, fun he => ?_, fun he hlt => ?_, fun he hlt => ?_⟩
  · have c1 : cntN a b (16 - d) p = 1 := by
      cases hk : 16 - d with
      | zero => rfl
      | succ k => unfold cntN; rw [if_pos he]
    have s1 : seenN a b (16 - d) p = [] := by
      cases hk : 16 - d with
      | zero => unfold seenN; rw [if_pos he]
      | succ k => unfold seenN; rw [if_pos he]
    rw [c1] at e7
    rw [s1, List.nil_append] at e8
    exact ⟨⟨d, A, B, rfl, h2, h3', h4, h5, h6, by omega, e8⟩⟩
  · have hd : d ≠ 16 := by omega
    have ek : 16 - d = (16 - (d + 1)) + 1 := by omega
    have c1 : cntN a b (16 - d) p = 1 + (cntN a b (16 - (d + 1)) (p ++ [48]) + cntN a b (16 - (d + 1)) (p ++ [49])) := by
      rw [ek]
      conv => lhs; unfold cntN
      rw [if_neg he]
    have s1 : seenN a b (16 - d) p = seenN a b (16 - (d + 1)) (p ++ [48]) ++ seenN a b (16 - (d + 1)) (p ++ [49]) := by
      rw [ek]
      conv => lhs; unfold seenN
      rw [if_neg he]
    rw [c1] at e7
    rw [s1] at e8
    refine ⟨⟨d, A, B ++ [p ++ [48], p ++ [49]], by simp only [List.append_assoc], h2, h3', fun p' hp' => ?_, fun h => absurd h hd, h6, ?_, ?_⟩⟩
    · rcases List.mem_append.1 hp' with h | h
      · exact h4 p' h
      · simp only [List.mem_cons, List.not_mem_nil, or_false] at h
        rcases h with rfl | rfl
        · exact ⟨by simp [hpl], by rw [List.all_append, hpa]; rfl⟩
        · exact ⟨by simp [hpl], by rw [List.all_append, hpa]; rfl⟩
    · rw [← e7]
      simp only [sumN, List.map_append, List.sum_append, List.map_cons, List.map_nil, List.sum_cons, List.sum_nil]
      omega
    · rw [← e8]
      simp [allN]
  · have hd : d = 16 := by omega
    subst hd
    have hB := h5 rfl
    subst hB
    rw [Nat.sub_self] at e7 e8
    have c1 : cntN a b 0 p = 1 := rfl
    have s1 : seenN a b 0 p = differP a b p := by
      unfold seenN
      rw [if_neg he]
    rw [c1] at e7
    rw [s1] at e8
    refine ⟨⟨16, A, [], by simp, h2, h3', h4, h5, (fun h => absurd rfl h), ?_, ?_⟩⟩
    · rw [Nat.sub_self, ← e7]; omega
    · rw [Nat.sub_self, ← e8]
      simp [allN]
/-- Where the prefix is whole, it is the path. -/
theorem differP_path {a b : List Entry} {p : List UInt8} (h : p.length = 16) : differP a b p = (differN a b).filter fun n => decide (pathN n = p) := by
  unfold differP differN
  rw [List.filter_filter]
  refine List.filter_congr fun n _ => ?_
  refine congrArg (fun x => x && unlikeN a b n) ?_
  rw [Bool.eq_iff_iff, decide_eq_true_eq, List.isPrefixOf_iff_prefix]
  constructor
  · intro hp
    exact (hp.eq_of_length (by rw [pathN_len, h])).symm
  · rintro rfl
    exact List.prefix_refl _
theorem both_len (a b : List Entry) : (bothN a b).length ≤ a.length + b.length := by
  unfold bothN
  have := ordN_len (a.map Entry.name ++ b.map Entry.name)
  simpa using this
theorem differN_len (a b : List Entry) : (differN a b).length ≤ a.length + b.length := Nat.le_trans (List.length_filter_le _ _) (both_len a b)
/-- What rises and lies within is no longer. -/
theorem rise_len {l m : List (List UInt8)} (h : Rise l) (hm : ∀ s ∈ l, s ∈ m) : l.length ≤ m.length := by
  have hn : l.Nodup := by
    unfold List.Nodup
    refine List.Pairwise.imp (fun {x y} hxy => ?_) h
    rintro rfl
    rw [ahead_irr] at hxy
    cases hxy
  exact nodup_le hn hm
theorem seenN_len (a b : List Entry) (k : Nat) (p : List UInt8) : (seenN a b k p).length ≤ a.length + b.length :=
  Nat.le_trans (rise_len (seen_rise a b k p) fun s hs => (seen_pre a b k p s hs).2) (differN_len a b)
end Go.Proofs.YthkkgphjjmhglaaGreatDoor
