/-
Names in order, each once, plainly.
-/
import Derived.Test.YthkmfihbpbehfaaSetNum
/-!
Names in order, each once, plainly.
-/
namespace Go.Proofs.Ythkmfihbpbehfaa
set_option linter.unusedVariables false
set_option linter.unusedSimpArgs false
open Go.TR
/-- Names that rise. -/
def Rise (l : List (List UInt8)) : Prop := List.Pairwise (fun a b => ahead a b = true) l
def insN (x : List UInt8) : List (List UInt8) → List (List UInt8)
  | [] => [x]
  | y :: t => if ahead x y = true then x :: y :: t else if x = y then y :: t else y :: insN x t
/-- Names in order, each once. -/
def ordN : List (List UInt8) → List (List UInt8)
  | [] => []
  | x :: t => insN x (ordN t)
theorem insN_mem (x : List UInt8) : ∀ (l : List (List UInt8)) (s : List UInt8), s ∈ insN x l ↔ s = x ∨ s ∈ l
  | [], s => by simp [insN]
  | y :: t, s => by
    unfold insN
    split
    · simp
    · split
      · rename_i h
        subst h
        simp
      · rw [List.mem_cons, insN_mem x t, List.mem_cons]
        constructor
        · rintro (h | h | h)
          · exact .inr (.inl h)
          · exact .inl h
          · exact .inr (.inr h)
        · rintro (h | h | h)
          · exact .inr (.inl h)
          · exact .inl h
          · exact .inr (.inr h)
theorem insN_rise (x : List UInt8) : ∀ (l : List (List UInt8)), Rise l → Rise (insN x l)
  | [], _ => List.pairwise_singleton _ _
  | y :: t, h => by
    obtain ⟨h1, h2⟩ := List.pairwise_cons.1 h
    unfold insN
    split
    · rename_i h3
      exact List.Pairwise.cons (fun s hs => by
        rcases List.mem_cons.1 hs with rfl | hs
        · exact h3
        · exact ahead_trans h3 (h1 s hs)) h
    · split
      · exact h
      · rename_i h3 h4
        refine List.Pairwise.cons (fun s hs => ?_) (insN_rise x t h2)
        rcases (insN_mem x t s).1 hs with rfl | hs
        · exact ahead_tri (by simpa using h3) h4
        · exact h1 s hs
theorem ordN_mem : ∀ (l : List (List UInt8)) (s : List UInt8), s ∈ ordN l ↔ s ∈ l
  | [], s => by simp [ordN]
  | x :: t, s => by
    unfold ordN
    rw [insN_mem, ordN_mem t, List.mem_cons]
theorem ordN_rise : ∀ l : List (List UInt8), Rise (ordN l)
  | [] => List.Pairwise.nil
  | x :: t => insN_rise x _ (ordN_rise t)
/-- Rows of names that rise and hold the same names are the same. -/
theorem rise_eq : ∀ {a b : List (List UInt8)}, Rise a → Rise b → (∀ s, s ∈ a ↔ s ∈ b) → a = b
  | [], [], _, _, _ => rfl
  | [], y :: t, _, _, h => by simpa using h y
  | x :: t, [], _, _, h => by simpa using h x
  | x :: t, y :: u, ha, hb, h => by
    obtain ⟨a1, a2⟩ := List.pairwise_cons.1 ha
    obtain ⟨b1, b2⟩ := List.pairwise_cons.1 hb
    have hxy : x = y := by
      rcases List.mem_cons.1 ((h x).1 (by simp)) with e | e
      · exact e
      · rcases List.mem_cons.1 ((h y).2 (by simp)) with e' | e'
        · exact e'.symm
        · have := ahead_asym (a1 y e')
          rw [b1 x e] at this
          cases this
    subst hxy
    refine congrArg (x :: ·) (rise_eq a2 b2 fun s => ?_)
    constructor
    · intro hs
      rcases List.mem_cons.1 ((h s).1 (List.mem_cons_of_mem _ hs)) with e | e
      · subst e
        have := a1 s hs
        rw [ahead_irr] at this
        cases this
      · exact e
    · intro hs
      rcases List.mem_cons.1 ((h s).2 (List.mem_cons_of_mem _ hs)) with e | e
      · subst e
        have := b1 s hs
        rw [ahead_irr] at this
        cases this
      · exact e
theorem insN_len (x : List UInt8) : ∀ l : List (List UInt8), (insN x l).length ≤ l.length + 1
  | [] => by simp [insN]
  | y :: t => by
    have := insN_len x t
    unfold insN
    split
    · simp
    · split <;> simp only [List.length_cons] <;> omega
theorem ordN_len : ∀ l : List (List UInt8), (ordN l).length ≤ l.length
  | [] => Nat.le_refl _
  | x :: t => by
    have h1 := insN_len x (ordN t)
    have h2 := ordN_len t
    unfold ordN
    rw [List.length_cons]
    omega
/-- Is it behind what there is? -/
def behind (p : Option (List UInt8)) (s : List UInt8) : Bool := p.all fun q => ahead q s
/-- The first one of those behind, so far. -/
def bestS (p : Option (List UInt8)) (b : Option (List UInt8)) (s : List UInt8) : Option (List UInt8) := if behind p s = true ∧ (b.all fun q => ahead s q) = true then some s else b
def bestF (p : Option (List UInt8)) (l : List (List UInt8)) : Option (List UInt8) := l.foldl (bestS p) none
theorem bestF_snoc (p : Option (List UInt8)) {l : List (List UInt8)} {k : Nat} (h : k < l.length) : bestF p (l.take (k + 1)) = bestS p (bestF p (l.take k)) l[k] := by
  unfold bestF
  rw [List.take_succ_eq_append_getElem h, List.foldl_append]
  rfl
theorem foldl_best (p : Option (List UInt8)) : ∀ (l : List (List UInt8)) (b : Option (List UInt8)),
    (∀ q, b = some q → behind p q = true) → (match l.foldl (bestS p) b with
      | none => b = none ∧ ∀ s ∈ l, behind p s = false
      | some q => (b = some q ∨ q ∈ l) ∧ behind p q = true ∧ (∀ r, b = some r → ahead r q = false) ∧ ∀ s ∈ l, behind p s = true → ahead s q = false)
  | [], b, hb => by
    cases b with
    | none => exact ⟨rfl, fun s hs => by cases hs⟩
    | some q => exact ⟨.inl rfl, hb q rfl, fun r e => by cases e; exact ahead_irr _, fun s hs => by cases hs⟩
  | s :: t, b, hb => by
    rw [List.foldl_cons]
    by_cases h : behind p s = true ∧ (b.all fun q => ahead s q) = true
    · have e : bestS p b s = some s := by unfold bestS; rw [if_pos h]
      have ih := foldl_best p t (some s) (fun q e => by cases e; exact h.1)
      rw [e]
      cases hr : t.foldl (bestS p) (some s) with
      | none => rw [hr] at ih; exact absurd ih.1 (by simp)
      | some q =>
        rw [hr] at ih
        obtain ⟨i1, i2, i3, i4⟩ := ih
        have hsq := i3 s rfl
        refine ⟨?_, i2, fun r er => ?_, fun u hu hbu => ?_⟩
        · rcases i1 with i1 | i1
          · cases i1; exact .inr (by simp)
          · exact .inr (List.mem_cons_of_mem _ i1)
        · subst er
          have h2 : ahead s r = true := by simpa using h.2
          by_cases h3 : ahead r q = true
          · rw [ahead_trans h2 h3] at hsq
            cases hsq
          · simpa using h3
        · rcases List.mem_cons.1 hu with rfl | hu
          · exact hsq
          · exact i4 u hu hbu
    · have e : bestS p b s = b := by unfold bestS; rw [if_neg h]
      have ih := foldl_best p t b hb
      rw [e]
      cases hr : t.foldl (bestS p) b with
      | none =>
        rw [hr] at ih
        obtain ⟨rfl, i2⟩ := ih
        refine ⟨rfl, fun u hu => ?_⟩
        rcases List.mem_cons.1 hu with rfl | hu
        · simpa using h
        · exact i2 u hu
      | some q =>
        rw [hr] at ih
        obtain ⟨i1, i2, i3, i4⟩ := ih
        refine ⟨?_, i2, i3, fun u hu hbu => ?_⟩
        · rcases i1 with i1 | i1
          · exact .inl i1
          · exact .inr (List.mem_cons_of_mem _ i1)
        · rcases List.mem_cons.1 hu with rfl | hu
          · cases b with
            | none => exact absurd ⟨hbu, rfl⟩ h
            | some r =>
              have h2 : ahead u r = false := by
                by_cases h3 : ahead u r = true
                · exact absurd ⟨hbu, by simpa using h3⟩ h
                · simpa using h3
              have h4 := i3 r rfl
              by_cases h5 : ahead u q = true
              · by_cases h6 : u = r
                · subst h6
                  rw [h5] at h4
                  cases h4
                · have := ahead_trans (ahead_tri h2 h6) h5
                  rw [this] at h4
                  cases h4
              · simpa using h5
          · exact i4 u hu hbu
/-- The next one. -/
theorem bestF_next (l : List (List UInt8)) (k : Nat) : bestF (if k = 0 then none else (ordN l)[k - 1]?) l = (ordN l)[k]? ∨ (ordN l).length < k := by
  by_cases hk : (ordN l).length < k
  · exact .inr hk
  left
  have hr := ordN_rise l
  have hm := ordN_mem l
  generalize ordN l = L at *
  -- what is behind
  have hbeh : ∀ (i : Nat) (h : i < L.length), behind (if k = 0 then none else L[k - 1]?) L[i] = decide (k ≤ i) := fun i h => by
    by_cases h0 : k = 0
    · rw [if_pos h0, h0]; simp [behind]
    · rw [if_neg h0, List.getElem?_eq_getElem (by omega)]
      simp only [behind, Option.all_some]
      by_cases hi : k ≤ i
      · rw [decide_eq_true hi]
        exact List.pairwise_iff_getElem.1 hr (k - 1) i (by omega) h (by omega)
      · rw [decide_eq_false hi]
        by_cases he : i = k - 1
        · subst he; exact ahead_irr _
        · exact ahead_asym (List.pairwise_iff_getElem.1 hr i (k - 1) h (by omega) (by omega))
  have key := foldl_best (if k = 0 then none else L[k - 1]?) l none (fun q h => by cases h)
  unfold bestF
  cases hb : l.foldl (bestS (if k = 0 then none else L[k - 1]?)) none with
  | none =>
    rw [hb] at key
    by_cases hlt : k < L.length
    · have h1 := key.2 L[k] ((hm _).1 (List.getElem_mem hlt))
      rw [hbeh k hlt] at h1
      simp at h1
    · rw [List.getElem?_eq_none (by omega)]
  | some q =>
    rw [hb] at key
    obtain ⟨k1, k2, _, k4⟩ := key
    have hq : q ∈ L := by
      rcases k1 with k1 | k1
      · cases k1
      · exact (hm _).2 k1
    obtain ⟨i, hi, rfl⟩ := List.getElem_of_mem hq
    rw [hbeh i hi] at k2
    have hki : k ≤ i := of_decide_eq_true k2
    have h3 := k4 L[k] ((hm _).1 (List.getElem_mem (by omega))) (by rw [hbeh k (by omega)]; exact decide_eq_true (Nat.le_refl _))
    have : i = k := by
      by_cases he : i = k
      · exact he
      · have := List.pairwise_iff_getElem.1 hr k i (by omega) hi (by omega)
        rw [this] at h3
        cases h3
    subst this
    rw [List.getElem?_eq_getElem hi]
end Go.Proofs.Ythkmfihbpbehfaa
/-!
Books: what a name stands for, set, dropped, plainly.
-/
namespace Go.Proofs.Ythkmfihbpbehfaa
set_option linter.unusedVariables false
set_option linter.unusedSimpArgs false
open Go.TR
/-- The place of a name: the first entry that is not ahead of it. -/
def lbN (l : List Entry) (n : List UInt8) : Nat := l.findIdx fun x => !ahead x.name n
def hasN (l : List Entry) (n : List UInt8) : Bool := l.any fun x => decide (x.name = n)
def standsO (l : List Entry) (n : List UInt8) : Option (List UInt8) := (l.find? fun x => decide (x.name = n)).map Entry.value
def nextI (l : List Entry) (n : List UInt8) : Nat := if hasN l n = true then lbN l n + 1 else lbN l n
def setL (l : List Entry) (n v : List UInt8) : List Entry := l.take (lbN l n) ++ ⟨n, v⟩ :: l.drop (nextI l n)
def dropL (l : List Entry) (n : List UInt8) : List Entry := l.filter fun x => !decide (x.name = n)
/-- The names of a book rise. -/
def Book (l : List Entry) : Prop := List.Pairwise (fun a b => ahead a.name b.name = true) l
theorem book_of {l : List Entry} (h : bookFault l = 0) : Book l := (bookG_rise (bookFault_zero h).2.2).2
theorem lb_le (l : List Entry) (n : List UInt8) : lbN l n ≤ l.length := List.findIdx_le_length
theorem lb_lt {l : List Entry} {n : List UInt8} {k : Nat} (h : k < lbN l n) : ahead (l[k]'(Nat.lt_of_lt_of_le h (lb_le l n))).name n = true := by
  have := List.not_of_lt_findIdx h
  simpa using this
theorem lb_ge {l : List Entry} (hb : Book l) {n : List UInt8} {k : Nat} (h : lbN l n ≤ k) (hk : k < l.length) : ahead l[k].name n = false := by
  have h0 : lbN l n < l.length := by omega
  have h1 : ahead l[lbN l n].name n = false := by
    have := List.findIdx_getElem (p := fun x : Entry => !ahead x.name n) (xs := l) (w := h0)
    simp only [Bool.not_eq_true'] at this
    exact this
  by_cases he : lbN l n = k
  · subst he; exact h1
  · have h2 := List.pairwise_iff_getElem.1 hb (lbN l n) k h0 hk (by omega)
    by_cases h3 : ahead l[k].name n = true
    · rw [ahead_trans h2 h3] at h1; cases h1
    · simpa using h3
/-- Where the name is, it is there. -/
theorem has_iff {l : List Entry} (hb : Book l) (n : List UInt8) : hasN l n = true ↔ ∃ h : lbN l n < l.length, l[lbN l n].name = n := by
  unfold hasN
  rw [List.any_eq_true]
  constructor
  · rintro ⟨x, hx, hn⟩
    have hn := of_decide_eq_true hn
    obtain ⟨k, hk, rfl⟩ := List.getElem_of_mem hx
    have h1 : ¬ k < lbN l n := fun h => by
      have := lb_lt h
      rw [hn, ahead_irr] at this
      cases this
    have h0 : lbN l n < l.length := by omega
    refine ⟨h0, ?_⟩
    by_cases he : lbN l n = k
    · subst he; exact hn
    · have h2 := List.pairwise_iff_getElem.1 hb (lbN l n) k h0 hk (by omega)
      rw [hn, lb_ge hb (Nat.le_refl _) h0] at h2
      cases h2
  · rintro ⟨h, hn⟩
    exact ⟨_, List.getElem_mem h, decide_eq_true hn⟩
theorem stands_lb {l : List Entry} (hb : Book l) (n : List UInt8) : standsO l n = if hasN l n = true then some (l.getD (lbN l n) ⟨[], []⟩).value else none := by
  unfold standsO
  by_cases h : hasN l n = true
  · rw [if_pos h]
    obtain ⟨h0, hn⟩ := (has_iff hb n).1 h
    have e : (l.find? fun x => decide (x.name = n)) = some l[lbN l n] := by
      rw [List.find?_eq_some_iff_getElem]
      refine ⟨by simpa using hn, lbN l n, h0, rfl, fun j hj => ?_⟩
      have := lb_lt hj
      have hne : l[j].name ≠ n := fun e => by rw [e, ahead_irr] at this; cases this
      simp [hne]
    rw [e, List.getD_eq_getElem?_getD, List.getElem?_eq_getElem h0]
    rfl
  · rw [if_neg h]
    have e : (l.find? fun x => decide (x.name = n)) = none := by
      rw [List.find?_eq_none]
      intro x hx hn
      exact h (List.any_eq_true.2 ⟨x, hx, hn⟩)
    rw [e]
    rfl
theorem stands_has (l : List Entry) (n : List UInt8) : (standsO l n).isSome = hasN l n := by
  unfold standsO hasN
  rw [Option.isSome_map, Bool.eq_iff_iff, List.find?_isSome, List.any_eq_true]
/-- Without a name. -/
theorem drop_lb {l : List Entry} (hb : Book l) {n : List UInt8} (h : hasN l n = true) : dropL l n = l.take (lbN l n) ++ l.drop (lbN l n + 1) := by
  obtain ⟨h0, hn⟩ := (has_iff hb n).1 h
  unfold dropL
  conv => lhs; rw [← List.take_append_drop (lbN l n) l, List.drop_eq_getElem_cons h0]
  rw [List.filter_append, List.filter_cons]
  have e1 : (l.take (lbN l n)).filter (fun x => !decide (x.name = n)) = l.take (lbN l n) := by
    rw [List.filter_eq_self]
    intro x hx
    obtain ⟨k, hk, rfl⟩ := List.getElem_of_mem hx
    rw [List.length_take] at hk
    rw [List.getElem_take]
    have := lb_lt (l := l) (n := n) (k := k) (by omega)
    have hne : l[k].name ≠ n := fun e => by rw [e, ahead_irr] at this; cases this
    simp [hne]
  have e2 : (l.drop (lbN l n + 1)).filter (fun x => !decide (x.name = n)) = l.drop (lbN l n + 1) := by
    rw [List.filter_eq_self]
    intro x hx
    obtain ⟨k, hk, rfl⟩ := List.getElem_of_mem hx
    rw [List.length_drop] at hk
    rw [List.getElem_drop]
    have h2 := List.pairwise_iff_getElem.1 hb (lbN l n) (lbN l n + 1 + k) h0 (by omega) (by omega)
    have hne : l[lbN l n + 1 + k].name ≠ n := fun e => by rw [e, hn, ahead_irr] at h2; cases h2
    simp [hne]
  rw [e1, e2, if_neg (by simp [hn])]
theorem book_uniq {l : List Entry} (hb : Book l) {i j : Nat} (hi : i < l.length) (hj : j < l.length) (h : l[i].name = l[j].name) : i = j := by
  rcases Nat.lt_trichotomy i j with h1 | h1 | h1
  · have := List.pairwise_iff_getElem.1 hb i j hi hj h1
    rw [h, ahead_irr] at this
    cases this
  · exact h1
  · have := List.pairwise_iff_getElem.1 hb j i hj hi h1
    rw [h, ahead_irr] at this
    cases this
theorem stands_mem {l : List Entry} (hb : Book l) {x : Entry} (hx : x ∈ l) : standsO l x.name = some x.value := by
  obtain ⟨i, hi, rfl⟩ := List.getElem_of_mem hx
  unfold standsO
  have e : (l.find? fun y => decide (y.name = l[i].name)) = some l[i] := by
    rw [List.find?_eq_some_iff_getElem]
    refine ⟨by simp, i, hi, rfl, fun j hj => ?_⟩
    have : l[j].name ≠ l[i].name := fun e => by
      have := book_uniq hb (by omega) hi e
      omega
    simp [this]
  rw [e]
  rfl
theorem next_ahead {l : List Entry} (hb : Book l) {n : List UInt8} {k : Nat} (h : nextI l n ≤ k) (hk : k < l.length) : ahead n l[k].name = true := by
  unfold nextI at h
  by_cases hh : hasN l n = true
  · rw [if_pos hh] at h
    obtain ⟨h0, hn⟩ := (has_iff hb n).1 hh
    have := List.pairwise_iff_getElem.1 hb (lbN l n) k h0 hk (by omega)
    rw [hn] at this
    exact this
  · rw [if_neg hh] at h
    refine ahead_tri (lb_ge hb h hk) fun e => hh ?_
    exact List.any_eq_true.2 ⟨_, List.getElem_mem hk, decide_eq_true e⟩
theorem set_book {l : List Entry} (hb : Book l) (n v : List UInt8) : Book (setL l n v) := by
  unfold setL Book
  rw [List.pairwise_append]
  refine ⟨hb.sublist (List.take_sublist _ _), ?_, ?_⟩
  · refine List.Pairwise.cons (fun x hx => ?_) (hb.sublist (List.drop_sublist _ _))
    obtain ⟨k, hk, rfl⟩ := List.getElem_of_mem hx
    rw [List.length_drop] at hk
    rw [List.getElem_drop]
    exact next_ahead (n := n) hb (k := nextI l n + k) (by omega) (by omega)
  · intro x hx y hy
    obtain ⟨i, hi, rfl⟩ := List.getElem_of_mem hx
    rw [List.length_take] at hi
    rw [List.getElem_take]
    have h1 := lb_lt (l := l) (n := n) (k := i) (by omega)
    rcases List.mem_cons.1 hy with rfl | hy
    · exact h1
    · obtain ⟨k, hk, rfl⟩ := List.getElem_of_mem hy
      rw [List.length_drop] at hk
      rw [List.getElem_drop]
      exact ahead_trans h1 (next_ahead hb (k := nextI l n + k) (by omega) (by omega))
theorem set_mem {l : List Entry} (hb : Book l) {n v : List UInt8} {x : Entry} (hx : x ∈ setL l n v) : x = ⟨n, v⟩ ∨ (x ∈ l ∧ x.name ≠ n) := by
  unfold setL at hx
  rcases List.mem_append.1 hx with hx | hx
  · right
    obtain ⟨i, hi, rfl⟩ := List.getElem_of_mem hx
    rw [List.length_take] at hi
    rw [List.getElem_take]
    have h1 := lb_lt (l := l) (n := n) (k := i) (by omega)
    exact ⟨List.getElem_mem _, fun e => by rw [e, ahead_irr] at h1; cases h1⟩
  · rcases List.mem_cons.1 hx with rfl | hx
    · exact .inl rfl
    · right
      obtain ⟨k, hk, rfl⟩ := List.getElem_of_mem hx
      rw [List.length_drop] at hk
      rw [List.getElem_drop]
      have h1 := next_ahead hb (n := n) (k := nextI l n + k) (by omega) (by omega)
      exact ⟨List.getElem_mem _, fun e => by
        have e2 : l[nextI l n + k].name = n := e
        rw [e2, ahead_irr] at h1; cases h1⟩
theorem set_names {l : List Entry} (hb : Book l) (n v s : List UInt8) : s ∈ (setL l n v).map Entry.name ↔ s ∈ l.map Entry.name ++ [n] := by
  rw [List.mem_map, List.mem_append, List.mem_map, List.mem_singleton]
  constructor
  · rintro ⟨x, hx, rfl⟩
    rcases set_mem hb hx with rfl | ⟨hx, _⟩
    · exact .inr rfl
    · exact .inl ⟨x, hx, rfl⟩
  · rintro (⟨x, hx, rfl⟩ | rfl)
    · by_cases he : x.name = n
      · exact ⟨⟨n, v⟩, by unfold setL; simp, he.symm⟩
      · refine ⟨x, ?_, rfl⟩
        obtain ⟨i, hi, rfl⟩ := List.getElem_of_mem hx
        unfold setL
        rw [List.mem_append]
        by_cases h1 : i < lbN l n
        · exact .inl (by
            have : (l.take (lbN l n))[i]'(by rw [List.length_take]; omega) = l[i] := List.getElem_take
            rw [← this]; exact List.getElem_mem _)
        · right
          refine List.mem_cons_of_mem _ ?_
          have hi2 : nextI l n ≤ i := by
            unfold nextI
            by_cases hh : hasN l n = true
            · rw [if_pos hh]
              obtain ⟨h0, hn⟩ := (has_iff hb n).1 hh
              have : i ≠ lbN l n := fun e => he (by subst e; exact hn)
              omega
            · rw [if_neg hh]; omega
          have : (l.drop (nextI l n))[i - nextI l n]'(by rw [List.length_drop]; omega) = l[i] := by
            rw [List.getElem_drop]
            congr 1
            omega
          rw [← this]
          exact List.getElem_mem _
    · exact ⟨⟨s, v⟩, by unfold setL; simp, rfl⟩
/-- What the reference sets. -/
def refSet (l : List Entry) (n v : List UInt8) : List Entry := (ordN (l.map Entry.name ++ [n])).map fun m => ⟨m, if m = n then v else (standsO l m).getD []⟩
theorem ref_set {l : List Entry} (hb : Book l) (n v : List UInt8) : refSet l n v = setL l n v := by
  have h1 : ordN (l.map Entry.name ++ [n]) = (setL l n v).map Entry.name := by
    refine rise_eq (ordN_rise _) ?_ fun s => by rw [ordN_mem, set_names hb]
    unfold Rise
    rw [List.pairwise_map]
    exact set_book hb n v
  unfold refSet
  rw [h1, List.map_map]
  have : ∀ x ∈ setL l n v, ((fun m => (⟨m, if m = n then v else (standsO l m).getD []⟩ : Entry)) ∘ Entry.name) x = x := fun x hx => by
    rcases set_mem hb hx with rfl | ⟨hx, hne⟩
    · simp
    · simp only [Function.comp_apply]
      rw [if_neg hne, stands_mem hb hx]
      rfl
  rw [List.map_congr_left this, List.map_id']
theorem set_len {l : List Entry} (hb : Book l) (n v : List UInt8) : (setL l n v).length = if hasN l n = true then l.length else l.length + 1 := by
  have := lb_le l n
  unfold setL
  rw [List.length_append, List.length_cons, List.length_take, List.length_drop]
  by_cases hh : hasN l n = true
  · obtain ⟨h0, _⟩ := (has_iff hb n).1 hh
    unfold nextI
    rw [if_pos hh, if_pos hh]
    omega
  · unfold nextI
    rw [if_neg hh, if_neg hh]
    omega
end Go.Proofs.Ythkmfihbpbehfaa
