/-
Books: what a name stands for, set, dropped, plainly.
-/
import Derived.Test.YthkkgphjjmhglaaGreatDoorOrdMath
namespace Go.Proofs.YthkkgphjjmhglaaGreatDoor
set_option linter.unusedVariables false
set_option linter.unusedSimpArgs false
open Go.TR
/-- The place of a name: the first entry that is not ahead of it. -/
def lbN (l : List Entry) (n : List UInt8) : Nat := l.findIdx fun x => !ahead x.name n
def hasN (l : List Entry) (n : List UInt8) : Bool := l.any fun x => decide (x.name = n)
def standsO (l : List Entry) (n : List UInt8) : Option (List UInt8) := (l.find? fun x => decide (x.name = n)).map Entry.value
def nextI (l : List Entry) (n : List UInt8) : Nat := if hasN l n = true then lbN l n + 1 else lbN l n
def setL (l : List Entry) (n v : List UInt8) : List Entry := l.take (lbN l n) ++ ⟨n, v⟩ :: l.drop (nextI l n)
def dropL (l : List Entry) (n : List UInt8) : List Entry := l.filter fun x => !decide (x.name = n)
/-- The names of a book rise. -/
def Book (l : List Entry) : Prop := List.Pairwise (fun a b => ahead a.name b.name = true) l
theorem book_of {l : List Entry} (h : bookFault l = 0) : Book l := (bookG_rise (bookFault_zero h).2.2).2
theorem lb_le (l : List Entry) (n : List UInt8) : lbN l n ≤ l.length := List.findIdx_le_length
theorem lb_lt {l : List Entry} {n : List UInt8} {k : Nat} (h : k < lbN l n) : ahead (l[k]'(Nat.lt_of_lt_of_le h (lb_le l n))).name n = true := by
  have := List.not_of_lt_findIdx h
  simpa using this
theorem lb_ge {l : List Entry} (hb : Book l) {n : List UInt8} {k : Nat} (h : lbN l n ≤ k) (hk : k < l.length) : ahead l[k].name n = false := by
  have h0 : lbN l n < l.length := by omega
  have h1 : ahead l[lbN l n].name n = false := by
    have := List.findIdx_getElem (p := fun x : Entry => !ahead x.name n) (xs := l) (w := h0)
    simp only [Bool.not_eq_true'] at this
    exact this
  by_cases he : lbN l n = k
  · subst he; exact h1
  · have h2 := List.pairwise_iff_getElem.1 hb (lbN l n) k h0 hk (by omega)
    by_cases h3 : ahead l[k].name n = true
    · rw [ahead_trans h2 h3] at h1; cases h1
    · simpa using h3
/-- Where the name is, it is there. -/
theorem has_iff {l : List Entry} (hb : Book l) (n : List UInt8) : hasN l n = true ↔ ∃ h : lbN l n < l.length, l[lbN l n].name = n := by
  unfold hasN
  rw [List.any_eq_true]
  constructor
  · rintro ⟨x, hx, hn⟩
    have hn := of_decide_eq_true hn
    obtain ⟨k, hk, rfl⟩ := List.getElem_of_mem hx
    have h1 : ¬ k < lbN l n := fun h => by
      have := lb_lt h
      rw [hn, ahead_irr] at this
      cases this
    have h0 : lbN l n < l.length := by omega
    refine ⟨h0, ?_⟩
    by_cases he : lbN l n = k
    · subst he; exact hn
    · have h2 := List.pairwise_iff_getElem.1 hb (lbN l n) k h0 hk (by omega)
      rw [hn, lb_ge hb (Nat.le_refl _) h0] at h2
      cases h2
  · rintro ⟨h, hn⟩
    exact ⟨_, List.getElem_mem h, decide_eq_true hn⟩
theorem stands_lb {l : List Entry} (hb : Book l) (n : List UInt8) : standsO l n = if hasN l n = true then some (l.getD (lbN l n) ⟨[], []⟩).value else none := by
  unfold standsO
  by_cases h : hasN l n = true
  · rw [if_pos h]
    obtain ⟨h0, hn⟩ := (has_iff hb n).1 h
    have e : (l.find? fun x => decide (x.name = n)) = some l[lbN l n] := by
      rw [List.find?_eq_some_iff_getElem]
      refine ⟨by simpa using hn, lbN l n, h0, rfl, fun j hj => ?_⟩
      have := lb_lt hj
      have hne : l[j].name ≠ n := fun e => by rw [e, ahead_irr] at this; cases this
      simp [hne]
    rw [e, List.getD_eq_getElem?_getD, List.getElem?_eq_getElem h0]
    rfl
  · rw [if_neg h]
    have e : (l.find? fun x => decide (x.name = n)) = none := by
      rw [List.find?_eq_none]
      intro x hx hn
      exact h (List.any_eq_true.2 ⟨x, hx, hn⟩)
    rw [e]
    rfl
theorem stands_has (l : List Entry) (n : List UInt8) : (standsO l n).isSome = hasN l n := by
  unfold standsO hasN
  rw [Option.isSome_map, Bool.eq_iff_iff, List.find?_isSome, List.any_eq_true]
theorem book_uniq {l : List Entry} (hb : Book l) {i j : Nat} (hi : i < l.length) (hj : j < l.length) (h : l[i].name = l[j].name) : i = j := by
  rcases Nat.lt_trichotomy i j with h1 | h1 | h1
  · have := List.pairwise_iff_getElem.1 hb i j hi hj h1
    rw [h, ahead_irr] at this
    cases this
  · exact h1
  · have := List.pairwise_iff_getElem.1 hb j i hj hi h1
    rw [h, ahead_irr] at this
    cases this
theorem stands_mem {l : List Entry} (hb : Book l) {x : Entry} (hx : x ∈ l) : standsO l x.name = some x.value := by
  obtain ⟨i, hi, rfl⟩ := List.getElem_of_mem hx
  unfold standsO
  have e : (l.find? fun y => decide (y.name = l[i].name)) = some l[i] := by
    rw [List.find?_eq_some_iff_getElem]
    refine ⟨by simp, i, hi, rfl, fun j hj => ?_⟩
    have : l[j].name ≠ l[i].name := fun e => by
      have := book_uniq hb (by omega) hi e
      omega
    simp [this]
  rw [e]
  rfl
theorem next_ahead {l : List Entry} (hb : Book l) {n : List UInt8} {k : Nat} (h : nextI l n ≤ k) (hk : k < l.length) : ahead n l[k].name = true := by
  unfold nextI at h
  by_cases hh : hasN l n = true
  · rw [if_pos hh] at h
    obtain ⟨h0, hn⟩ := (has_iff hb n).1 hh
    have := List.pairwise_iff_getElem.1 hb (lbN l n) k h0 hk (by omega)
    rw [hn] at this
    exact this
  · rw [if_neg hh] at h
    refine ahead_tri (lb_ge hb h hk) fun e => hh ?_
    exact List.any_eq_true.2 ⟨_, List.getElem_mem hk, decide_eq_true e⟩
theorem set_book {l : List Entry} (hb : Book l) (n v : List UInt8) : Book (setL l n v) := by
  unfold setL Book
  rw [List.pairwise_append]
  refine ⟨hb.sublist (List.take_sublist _ _), ?_, ?_⟩
  · refine List.Pairwise.cons (fun x hx => ?_) (hb.sublist (List.drop_sublist _ _))
    obtain ⟨k, hk, rfl⟩ := List.getElem_of_mem hx
    rw [List.length_drop] at hk
    rw [List.getElem_drop]
    exact next_ahead (n := n) hb (k := nextI l n + k) (by omega) (by omega)
  · intro x hx y hy
    obtain ⟨i, hi, rfl⟩ := List.getElem_of_mem hx
    rw [List.length_take] at hi
    rw [List.getElem_take]
    have h1 := lb_lt (l := l) (n := n) (k := i) (by omega)
    rcases List.mem_cons.1 hy with rfl | hy
    · exact h1
    · obtain ⟨k, hk, rfl⟩ := List.getElem_of_mem hy
      rw [List.length_drop] at hk
      rw [List.getElem_drop]
      exact ahead_trans h1 (next_ahead hb (k := nextI l n + k) (by omega) (by omega))
theorem set_mem {l : List Entry} (hb : Book l) {n v : List UInt8} {x : Entry} (hx : x ∈ setL l n v) : x = ⟨n, v⟩ ∨ (x ∈ l ∧ x.name ≠ n) := by
  unfold setL at hx
  rcases List.mem_append.1 hx with hx | hx
  · right
    obtain ⟨i, hi, rfl⟩ := List.getElem_of_mem hx
    rw [List.length_take] at hi
    rw [List.getElem_take]
    have h1 := lb_lt (l := l) (n := n) (k := i) (by omega)
    exact ⟨List.getElem_mem _, fun e => by rw [e, ahead_irr] at h1; cases h1⟩
  · rcases List.mem_cons.1 hx with rfl | hx
    · exact .inl rfl
    · right
      obtain ⟨k, hk, rfl⟩ := List.getElem_of_mem hx
      rw [List.length_drop] at hk
      rw [List.getElem_drop]
      have h1 := next_ahead hb (n := n) (k := nextI l n + k) (by omega) (by omega)
      exact ⟨List.getElem_mem _, fun e => by
        have e2 : l[nextI l n + k].name = n := e
        rw [e2, ahead_irr] at h1; cases h1⟩
theorem set_names {l : List Entry} (hb : Book l) (n v s : List UInt8) : s ∈ (setL l n v).map Entry.name ↔ s ∈ l.map Entry.name ++ [n] := by
  rw [List.mem_map, List.mem_append, List.mem_map, List.mem_singleton]
  constructor
  · rintro ⟨x, hx, rfl⟩
    rcases set_mem hb hx with rfl | ⟨hx, _⟩
    · exact .inr rfl
    · exact .inl ⟨x, hx, rfl⟩
  · rintro (⟨x, hx, rfl⟩ | rfl)
    · by_cases he : x.name = n
      · exact ⟨⟨n, v⟩, by unfold setL; simp, he.symm⟩
      · refine ⟨x, ?_, rfl⟩
        obtain ⟨i, hi, rfl⟩ := List.getElem_of_mem hx
        unfold setL
        rw [List.mem_append]
        by_cases h1 : i < lbN l n
        · exact .inl (by
            have : (l.take (lbN l n))[i]'(by rw [List.length_take]; omega) = l[i] := List.getElem_take
            rw [← this]; exact List.getElem_mem _)
        · right
          refine List.mem_cons_of_mem _ ?_
          have hi2 : nextI l n ≤ i := by
            unfold nextI
            by_cases hh : hasN l n = true
            · rw [if_pos hh]
              obtain ⟨h0, hn⟩ := (has_iff hb n).1 hh
              have : i ≠ lbN l n := fun e => he (by subst e; exact hn)
              omega
            · rw [if_neg hh]; omega
          have : (l.drop (nextI l n))[i - nextI l n]'(by rw [List.length_drop]; omega) = l[i] := by
            rw [List.getElem_drop]
            congr 1
            omega
          rw [← this]
          exact List.getElem_mem _
    · exact ⟨⟨s, v⟩, by unfold setL; simp, rfl⟩
/-- What the reference sets. -/
def refSet (l : List Entry) (n v : List UInt8) : List Entry := (ordN (l.map Entry.name ++ [n])).map fun m => ⟨m, if m = n then v else (standsO l m).getD []⟩
theorem ref_set {l : List Entry} (hb : Book l) (n v : List UInt8) : refSet l n v = setL l n v := by
  have h1 : ordN (l.map Entry.name ++ [n]) = (setL l n v).map Entry.name := by
    refine rise_eq (ordN_rise _) ?_ fun s => by rw [ordN_mem, set_names hb]
    unfold Rise
    rw [List.pairwise_map]
    exact set_book hb n v
  unfold refSet
  rw [h1, List.map_map]
  have : ∀ x ∈ setL l n v, ((fun m => (⟨m, if m = n then v else (standsO l m).getD []⟩ : Entry)) ∘ Entry.name) x = x := fun x hx => by
    rcases set_mem hb hx with rfl | ⟨hx, hne⟩
    · simp
    · simp only [Function.comp_apply]
      rw [if_neg hne, stands_mem hb hx]
      rfl
  rw [List.map_congr_left this, List.map_id']
theorem set_len {l : List Entry} (hb : Book l) (n v : List UInt8) : (setL l n v).length = if hasN l n = true then l.length else l.length + 1 := by
  have := lb_le l n
  unfold setL
  rw [List.length_append, List.length_cons, List.length_take, List.length_drop]
  by_cases hh : hasN l n = true
  · obtain ⟨h0, _⟩ := (has_iff hb n).1 hh
    unfold nextI
    rw [if_pos hh, if_pos hh]
    omega
  · unfold nextI
    rw [if_neg hh, if_neg hh]
    omega
end Go.Proofs.YthkkgphjjmhglaaGreatDoor
