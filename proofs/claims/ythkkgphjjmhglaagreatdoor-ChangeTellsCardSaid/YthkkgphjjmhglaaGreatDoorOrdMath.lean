/-
Names in order, each once, plainly.
-/
import Derived.Test.YthkkgphjjmhglaaGreatDoorPathMath
namespace Go.Proofs.YthkkgphjjmhglaaGreatDoor
set_option linter.unusedVariables false
set_option linter.unusedSimpArgs false
open Go.TR
/-- Names that rise. -/
def Rise (l : List (List UInt8)) : Prop := List.Pairwise (fun a b => ahead a b = true) l
def insN (x : List UInt8) : List (List UInt8) → List (List UInt8)
  | [] => [x]
  | y :: t => if ahead x y = true then x :: y :: t else if x = y then y :: t else y :: insN x t
/-- Names in order, each once. -/
def ordN : List (List UInt8) → List (List UInt8)
  | [] => []
  | x :: t => insN x (ordN t)
theorem insN_mem (x : List UInt8) : ∀ (l : List (List UInt8)) (s : List UInt8), s ∈ insN x l ↔ s = x ∨ s ∈ l
  | [], s => by simp [insN]
  | y :: t, s => by
    unfold insN
    split
    · simp
    · split
      · rename_i h
        subst h
        simp
      · rw [List.mem_cons, insN_mem x t, List.mem_cons]
        constructor
        · rintro (h | h | h)
          · exact .inr (.inl h)
          · exact .inl h
          · exact .inr (.inr h)
        · rintro (h | h | h)
          · exact .inr (.inl h)
          · exact .inl h
          · exact .inr (.inr h)
theorem insN_rise (x : List UInt8) : ∀ (l : List (List UInt8)), Rise l → Rise (insN x l)
  | [], _ => List.pairwise_singleton _ _
  | y :: t, h => by
    obtain ⟨h1, h2⟩ := List.pairwise_cons.1 h
    unfold insN
    split
    · rename_i h3
      exact List.Pairwise.cons (fun s hs => by
        rcases List.mem_cons.1 hs with rfl | hs
        · exact h3
        · exact ahead_trans h3 (h1 s hs)) h
    · split
      · exact h
      · rename_i h3 h4
        refine List.Pairwise.cons (fun s hs => ?_) (insN_rise x t h2)
        rcases (insN_mem x t s).1 hs with rfl | hs
        · exact ahead_tri (by simpa using h3) h4
        · exact h1 s hs
theorem ordN_mem : ∀ (l : List (List UInt8)) (s : List UInt8), s ∈ ordN l ↔ s ∈ l
  | [], s => by simp [ordN]
  | x :: t, s => by
    unfold ordN
    rw [insN_mem, ordN_mem t, List.mem_cons]
theorem ordN_rise : ∀ l : List (List UInt8), Rise (ordN l)
  | [] => List.Pairwise.nil
  | x :: t => insN_rise x _ (ordN_rise t)
/-- Rows of names that rise and hold the same names are the same. -/
theorem rise_eq : ∀ {a b : List (List UInt8)}, Rise a → Rise b → (∀ s, s ∈ a ↔ s ∈ b) → a = b
  | [], [], _, _, _ => rfl
  | [], y :: t, _, _, h => by simpa using h y
  | x :: t, [], _, _, h => by simpa using h x
  | x :: t, y :: u, ha, hb, h => by
    obtain ⟨a1, a2⟩ := List.pairwise_cons.1 ha
    obtain ⟨b1, b2⟩ := List.pairwise_cons.1 hb
    have hxy : x = y := by
      rcases List.mem_cons.1 ((h x).1 (by simp)) with e | e
      · exact e
      · rcases List.mem_cons.1 ((h y).2 (by simp)) with e' | e'
        · exact e'.symm
        · have := ahead_asym (a1 y e')
          rw [b1 x e] at this
          cases this
    subst hxy
    refine congrArg (x :: ·) (rise_eq a2 b2 fun s => ?_)
    constructor
    · intro hs
      rcases List.mem_cons.1 ((h s).1 (List.mem_cons_of_mem _ hs)) with e | e
      · subst e
        have := a1 s hs
        rw [ahead_irr] at this
        cases this
      · exact e
    · intro hs
      rcases List.mem_cons.1 ((h s).2 (List.mem_cons_of_mem _ hs)) with e | e
      · subst e
        have := b1 s hs
        rw [ahead_irr] at this
        cases this
      · exact e
theorem insN_len (x : List UInt8) : ∀ l : List (List UInt8), (insN x l).length ≤ l.length + 1
  | [] => by simp [insN]
  | y :: t => by
    have := insN_len x t
    unfold insN
    split
    · simp
    · split <;> simp only [List.length_cons] <;> omega
theorem ordN_len : ∀ l : List (List UInt8), (ordN l).length ≤ l.length
  | [] => Nat.le_refl _
  | x :: t => by
    have h1 := insN_len x (ordN t)
    have h2 := ordN_len t
    unfold ordN
    rw [List.length_cons]
    omega
/-- Is it behind what there is? -/
def behind (p : Option (List UInt8)) (s : List UInt8) : Bool := p.all fun q => ahead q s
/-- The first one of those behind, so far. -/
def bestS (p : Option (List UInt8)) (b : Option (List UInt8)) (s : List UInt8) : Option (List UInt8) := if behind p s = true ∧ (b.all fun q => ahead s q) = true then some s else b
def bestF (p : Option (List UInt8)) (l : List (List UInt8)) : Option (List UInt8) := l.foldl (bestS p) none
theorem bestF_snoc (p : Option (List UInt8)) {l : List (List UInt8)} {k : Nat} (h : k < l.length) : bestF p (l.take (k + 1)) = bestS p (bestF p (l.take k)) l[k] := by
  unfold bestF
  rw [List.take_succ_eq_append_getElem h, List.foldl_append]
  rfl
theorem foldl_best (p : Option (List UInt8)) : ∀ (l : List (List UInt8)) (b : Option (List UInt8)),
    (∀ q, b = some q → behind p q = true) → (match l.foldl (bestS p) b with
      | none => b = none ∧ ∀ s ∈ l, behind p s = false
      | some q => (b = some q ∨ q ∈ l) ∧ behind p q = true ∧ (∀ r, b = some r → ahead r q = false) ∧ ∀ s ∈ l, behind p s = true → ahead s q = false)
  | [], b, hb => by
    cases b with
    | none => exact ⟨rfl, fun s hs => by cases hs⟩
    | some q => exact ⟨.inl rfl, hb q rfl, fun r e => by cases e; exact ahead_irr _, fun s hs => by cases hs⟩
  | s :: t, b, hb => by
    rw [List.foldl_cons]
    by_cases h : behind p s = true ∧ (b.all fun q => ahead s q) = true
    · have e : bestS p b s = some s := by unfold bestS; rw [if_pos h]
      have ih := foldl_best p t (some s) (fun q e => by cases e; exact h.1)
      rw [e]
      cases hr : t.foldl (bestS p) (some s) with
      | none => rw [hr] at ih; exact absurd ih.1 (by simp)
      | some q =>
        rw [hr] at ih
        obtain ⟨i1, i2, i3, i4⟩ := ih
        have hsq := i3 s rfl
        refine ⟨?_, i2, fun r er => ?_, fun u hu hbu => ?_⟩
        · rcases i1 with i1 | i1
          · cases i1; exact .inr (by simp)
          · exact .inr (List.mem_cons_of_mem _ i1)
        · subst er
          have h2 : ahead s r = true := by simpa using h.2
          by_cases h3 : ahead r q = true
          · rw [ahead_trans h2 h3] at hsq
            cases hsq
          · simpa using h3
        · rcases List.mem_cons.1 hu with rfl | hu
          · exact hsq
          · exact i4 u hu hbu
    · have e : bestS p b s = b := by unfold bestS; rw [if_neg h]
      have ih := foldl_best p t b hb
      rw [e]
      cases hr : t.foldl (bestS p) b with
      | none =>
        rw [hr] at ih
        obtain ⟨rfl, i2⟩ := ih
        refine ⟨rfl, fun u hu => ?_⟩
        rcases List.mem_cons.1 hu with rfl | hu
        · simpa using h
        · exact i2 u hu
      | some q =>
        rw [hr] at ih
        obtain ⟨i1, i2, i3, i4⟩ := ih
        refine ⟨?_, i2, i3, fun u hu hbu => ?_⟩
        · rcases i1 with i1 | i1
          · exact .inl i1
          · exact .inr (List.mem_cons_of_mem _ i1)
        · rcases List.mem_cons.1 hu with rfl | hu
          · cases b with
            | none => exact absurd ⟨hbu, rfl⟩ h
            | some r =>
              have h2 : ahead u r = false := by
                by_cases h3 : ahead u r = true
                · exact absurd ⟨hbu, by simpa using h3⟩ h
                · simpa using h3
              have h4 := i3 r rfl
              by_cases h5 : ahead u q = true
              · by_cases h6 : u = r
                · subst h6
                  rw [h5] at h4
                  cases h4
                · have := ahead_trans (ahead_tri h2 h6) h5
                  rw [this] at h4
                  cases h4
              · simpa using h5
          · exact i4 u hu hbu
/-- The next one. -/
theorem bestF_next (l : List (List UInt8)) (k : Nat) : bestF (if k = 0 then none else (ordN l)[k - 1]?) l = (ordN l)[k]? ∨ (ordN l).length < k := by
  by_cases hk : (ordN l).length < k
  · exact .inr hk
  left
  have hr := ordN_rise l
  have hm := ordN_mem l
  generalize ordN l = L at *
  -- what is behind
  have hbeh : ∀ (i : Nat) (h : i < L.length), behind (if k = 0 then none else L[k - 1]?) L[i] = decide (k ≤ i) := fun i h => by
    by_cases h0 : k = 0
    · rw [if_pos h0, h0]; simp [behind]
    · rw [if_neg h0, List.getElem?_eq_getElem (by omega)]
      simp only [behind, Option.all_some]
      by_cases hi : k ≤ i
      · rw [decide_eq_true hi]
        exact List.pairwise_iff_getElem.1 hr (k - 1) i (by omega) h (by omega)
      · rw [decide_eq_false hi]
        by_cases he : i = k - 1
        · subst he; exact ahead_irr _
        · exact ahead_asym (List.pairwise_iff_getElem.1 hr i (k - 1) h (by omega) (by omega))
  have key := foldl_best (if k = 0 then none else L[k - 1]?) l none (fun q h => by cases h)
  unfold bestF
  cases hb : l.foldl (bestS (if k = 0 then none else L[k - 1]?)) none with
  | none =>
    rw [hb] at key
    by_cases hlt : k < L.length
    · have h1 := key.2 L[k] ((hm _).1 (List.getElem_mem hlt))
      rw [hbeh k hlt] at h1
      simp at h1
    · rw [List.getElem?_eq_none (by omega)]
  | some q =>
    rw [hb] at key
    obtain ⟨k1, k2, _, k4⟩ := key
    have hq : q ∈ L := by
      rcases k1 with k1 | k1
      · cases k1
      · exact (hm _).2 k1
    obtain ⟨i, hi, rfl⟩ := List.getElem_of_mem hq
    rw [hbeh i hi] at k2
    have hki : k ≤ i := of_decide_eq_true k2
    have h3 := k4 L[k] ((hm _).1 (List.getElem_mem (by omega))) (by rw [hbeh k (by omega)]; exact decide_eq_true (Nat.le_refl _))
    have : i = k := by
      by_cases he : i = k
      · exact he
      · have := List.pairwise_iff_getElem.1 hr k i (by omega) hi (by omega)
        rw [this] at h3
        cases h3
    subst this
    rw [List.getElem?_eq_getElem hi]
end Go.Proofs.YthkkgphjjmhglaaGreatDoor
