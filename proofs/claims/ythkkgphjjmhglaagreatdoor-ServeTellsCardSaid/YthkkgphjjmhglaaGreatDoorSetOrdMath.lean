/-
The way to a name, and the order of names, plainly.
-/
import Derived.Test.YthkkgphjjmhglaaGreatDoorSetQueue
import Derived.Test.YthkkgphjjmhglaaGreatDoorSetReadNum
/-!
The way to a name, and the order of names, plainly.
-/
namespace Go.Proofs.YthkkgphjjmhglaaGreatDoor
set_option linter.unusedVariables false
set_option linter.unusedSimpArgs false
open Go.TR
open Go.Op (bytesLess)
theorem bl_irr : ∀ a : List UInt8, bytesLess a a = false
  | [] => rfl
  | a :: x => by
    unfold bytesLess
    rw [bl_irr x]
    simp
theorem bl_tri : ∀ a b : List UInt8, bytesLess a b = false → a ≠ b → bytesLess b a = true
  | [], [], _, h => absurd rfl h
  | [], _ :: _, h, _ => by cases h
  | _ :: _, [], _, _ => rfl
  | a :: x, b :: y, h, hn => by
    unfold bytesLess at h ⊢
    simp only [Bool.or_eq_false_iff, decide_eq_false_iff_not, Bool.and_eq_false_iff, beq_eq_false_iff_ne] at h
    obtain ⟨h1, h2⟩ := h
    by_cases hab : a = b
    · subst hab
      have h3 : bytesLess x y = false := by
        rcases h2 with h2 | h2
        · exact absurd rfl h2
        · exact h2
      have : x ≠ y := fun e => hn (by rw [e])
      simp [bl_tri x y h3 this]
    · have : b < a := by
        rcases UInt8.lt_or_lt_of_ne hab with h | h
        · exact absurd h h1
        · exact h
      simp [this]
theorem bl_trans : ∀ a b c : List UInt8, bytesLess a b = true → bytesLess b c = true → bytesLess a c = true
  | [], [], _, h, _ => by cases h
  | _ :: _, [], _, h, _ => by cases h
  | _, _ :: _, [], _, h => by cases h
  | [], _ :: _, _ :: _, _, _ => rfl
  | a :: x, b :: y, c :: z, h, k => by
    unfold bytesLess at h k ⊢
    simp only [Bool.or_eq_true, decide_eq_true_eq, Bool.and_eq_true, beq_iff_eq] at h k ⊢
    rcases h with h | ⟨rfl, h⟩
    · rcases k with k | ⟨rfl, k⟩
      · exact .inl (UInt8.lt_trans h k)
      · exact .inl h
    · rcases k with k | ⟨rfl, k⟩
      · exact .inl k
      · exact .inr ⟨rfl, bl_trans x y z h k⟩
def bitB (n : Nat) : UInt8 := UInt8.ofNat (48 + n % 2)
/-- The last k bits of a number, the first one the greatest. -/
def bitsN : Nat → Nat → List UInt8
  | 0, _ => []
  | k + 1, n => bitsN k (n / 2) ++ [bitB n]
theorem bitsN_len : ∀ k n, (bitsN k n).length = k
  | 0, _ => rfl
  | k + 1, n => by unfold bitsN; rw [List.length_append, bitsN_len k]; rfl
theorem bitsN_get : ∀ (k n i : Nat) (h : i < k), (bitsN k n)[i]'(by rw [bitsN_len]; exact h) = bitB (n / 2 ^ (k - 1 - i))
  | 0, _, _, h => by omega
  | k + 1, n, i, h => by
    have hl := bitsN_len k (n / 2)
    simp only [bitsN]
    by_cases hi : i < k
    · rw [List.getElem_append_left (by rw [hl]; exact hi), bitsN_get k (n / 2) i hi, Nat.div_div_eq_div_mul]
      congr 2
      rw [← Nat.pow_succ']
      congr 1
      omega
    · have : i = k := by omega
      subst this
      rw [List.getElem_append_right (by rw [hl]; exact Nat.le_refl _)]
      have h0 : i + 1 - 1 - i = 0 := by omega
      simp [hl, h0]
/-- The way to a name. -/
def pathN (s : List UInt8) : List UInt8 := bitsN 16 (markN s)
theorem pathN_len (s : List UInt8) : (pathN s).length = 16 := bitsN_len _ _
def wayN (s : List UInt8) : List UInt8 := if goodName s = true then pathN s else []
/-- Does a name stand ahead of another one? -/
def ahead (a b : List UInt8) : Bool := bytesLess (pathN a) (pathN b) || (decide (pathN a = pathN b) && bytesLess a b)
theorem ahead_irr (a : List UInt8) : ahead a a = false := by unfold ahead; rw [bl_irr, bl_irr]; simp
theorem ahead_trans {a b c : List UInt8} (h : ahead a b = true) (k : ahead b c = true) : ahead a c = true := by
  unfold ahead at *
  simp only [Bool.or_eq_true, Bool.and_eq_true, decide_eq_true_eq] at *
  rcases h with h | ⟨e, h⟩
  · rcases k with k | ⟨e', k⟩
    · exact .inl (bl_trans _ _ _ h k)
    · exact .inl (by rw [← e']; exact h)
  · rcases k with k | ⟨e', k⟩
    · exact .inl (by rw [e]; exact k)
    · exact .inr ⟨e.trans e', bl_trans _ _ _ h k⟩
theorem ahead_asym {a b : List UInt8} (h : ahead a b = true) : ahead b a = false := by
  by_cases k : ahead b a = true
  · have := ahead_trans h k
    rw [ahead_irr] at this
    cases this
  · simpa using k
theorem ahead_tri {a b : List UInt8} (h : ahead a b = false) (hn : a ≠ b) : ahead b a = true := by
  unfold ahead at *
  simp only [Bool.or_eq_false_iff, Bool.and_eq_false_iff, decide_eq_false_iff_not, Bool.or_eq_true, Bool.and_eq_true, decide_eq_true_eq] at *
  obtain ⟨h1, h2⟩ := h
  by_cases e : pathN a = pathN b
  · refine .inr ⟨e.symm, ?_⟩
    rcases h2 with h2 | h2
    · exact absurd e h2
    · exact bl_tri _ _ h2 hn
  · exact .inl (bl_tri _ _ h1 e)
def cmpL (a b : List UInt8) : Int := if bytesLess a b = true then -1 else if a = b then 0 else 1
/-- Which of two names stands ahead: below nought, nought, above. -/
def orderN (a b : List UInt8) : Int := if cmpL (wayN a) (wayN b) ≠ 0 then cmpL (wayN a) (wayN b) else cmpL a b
theorem orderN_good {a b : List UInt8} (ha : goodName a = true) (hb : goodName b = true) : orderN a b = if ahead a b = true then -1 else if a = b then 0 else 1 := by
  unfold orderN wayN ahead cmpL
  rw [if_pos ha, if_pos hb]
  by_cases h1 : bytesLess (pathN a) (pathN b) = true
  · simp [h1]
  · by_cases h2 : pathN a = pathN b
    · simp [h2, bl_irr]
    · have : a ≠ b := fun e => h2 (by rw [e])
      simp [h1, h2, this]
/-- An entry of a book. -/
structure Entry where
  name : List UInt8
  value : List UInt8
deriving DecidableEq
@[reducible] def Entry.row (x : Entry) : List Value := [S x.name, S x.value]
@[reducible] def Entry.v (x : Entry) : Value := .agg #[S x.name, S x.value]
theorem entry_row (x : Entry) : x.row.length = 2 := rfl
structure Entry.wf (x : Entry) : Prop where
  name : x.name.length ≤ 4611686018427387904
  value : x.value.length ≤ 4611686018427387904
theorem entry_one (l : List Entry) : ∀ x ∈ l.flatMap Entry.row, one (.v x) = true := fun x hx => by
  obtain ⟨a, _, ha⟩ := List.mem_flatMap.1 hx
  simp only [Entry.row, List.mem_cons, List.not_mem_nil, or_false] at ha
  rcases ha with rfl | rfl <;> rfl
/-- What is wrong with a book, behind a name. -/
def bookG : Option (List UInt8) → List Entry → Int
  | _, [] => 0
  | p, x :: t => if askFault x.name x.value ≠ 0 then askFault x.name x.value else if p.any (fun p => !ahead p x.name) = true then 3 else bookG (some x.name) t
def bookFault (l : List Entry) : Int := if 24 < l.length then 2 else bookG none l
/-- The name ahead of a place. -/
def prevN (l : List Entry) : Nat → Option (List UInt8)
  | 0 => none
  | k + 1 => l[k]?.map Entry.name
theorem bookG_drop {l : List Entry} {k : Nat} (h : k < l.length) : bookG (prevN l k) (l.drop k) = if askFault l[k].name l[k].value ≠ 0 then askFault l[k].name l[k].value else if (prevN l k).any (fun p => !ahead p l[k].name) = true then 3 else bookG (prevN l (k + 1)) (l.drop (k + 1)) := by
  have e : prevN l (k + 1) = some l[k].name := by
    show l[k]?.map Entry.name = _
    rw [List.getElem?_eq_getElem h]
    rfl
  rw [List.drop_eq_getElem_cons h, e]
  rfl
theorem bookG_good : ∀ {l : List Entry} {p : Option (List UInt8)}, bookG p l = 0 → ∀ x ∈ l, goodName x.name = true ∧ x.value.length ≤ 20
  | [], _, _ => by simp
  | a :: l, p, h => fun x hx => by
    unfold bookG at h
    split at h
    · rename_i h1; exact absurd h h1
    · rename_i h1
      split at h
      · cases h
      · rcases List.mem_cons.1 hx with rfl | hx
        · exact askFault_zero (by simpa using h1)
        · exact bookG_good h x hx
theorem bookFault_zero {l : List Entry} (h : bookFault l = 0) : l.length ≤ 24 ∧ (∀ x ∈ l, goodName x.name = true ∧ x.value.length ≤ 20) ∧ bookG none l = 0 := by
  unfold bookFault at h
  split at h
  · cases h
  · exact ⟨by omega, bookG_good h, h⟩
/-- The names of a book rise. -/
theorem bookG_rise : ∀ {l : List Entry} {p : Option (List UInt8)}, bookG p l = 0 → (∀ q, p = some q → ∀ x ∈ l, ahead q x.name = true) ∧ List.Pairwise (fun a b => ahead a.name b.name = true) l
  | [], _, _ => ⟨fun _ _ x hx => (by cases hx), List.Pairwise.nil⟩
  | a :: l, p, h => by
    unfold bookG at h
    split at h
    · rename_i h1; exact absurd h h1
    · split at h
      · cases h
      · rename_i _ h2
        obtain ⟨i1, i2⟩ := bookG_rise h
        have ha : ∀ q, p = some q → ahead q a.name = true := fun q e => by subst e; simpa using h2
        refine ⟨fun q e x hx => ?_, List.Pairwise.cons (fun x hx => i1 _ rfl x hx) i2⟩
        rcases List.mem_cons.1 hx with rfl | hx
        · exact ha q e
        · exact ahead_trans (ha q e) (i1 _ rfl x hx)
end Go.Proofs.YthkkgphjjmhglaaGreatDoor
/-!
Names in order, each once, plainly.
-/
namespace Go.Proofs.YthkkgphjjmhglaaGreatDoor
set_option linter.unusedVariables false
set_option linter.unusedSimpArgs false
open Go.TR
/-- Names that rise. -/
def Rise (l : List (List UInt8)) : Prop := List.Pairwise (fun a b => ahead a b = true) l
def insN (x : List UInt8) : List (List UInt8) → List (List UInt8)
  | [] => [x]
  | y :: t => if ahead x y = true then x :: y :: t else if x = y then y :: t else y :: insN x t
/-- Names in order, each once. -/
def ordN : List (List UInt8) → List (List UInt8)
  | [] => []
  | x :: t => insN x (ordN t)
theorem insN_mem (x : List UInt8) : ∀ (l : List (List UInt8)) (s : List UInt8), s ∈ insN x l ↔ s = x ∨ s ∈ l
  | [], s => by simp [insN]
  | y :: t, s => by
    unfold insN
    split
    · simp
    · split
      · rename_i h
        subst h
        simp
      · rw [List.mem_cons, insN_mem x t, List.mem_cons]
        constructor
        · rintro (h | h | h)
          · exact .inr (.inl h)
          · exact .inl h
          · exact .inr (.inr h)
        · rintro (h | h | h)
          · exact .inr (.inl h)
          · exact .inl h
          · exact .inr (.inr h)
theorem insN_rise (x : List UInt8) : ∀ (l : List (List UInt8)), Rise l → Rise (insN x l)
  | [], _ => List.pairwise_singleton _ _
  | y :: t, h => by
    obtain ⟨h1, h2⟩ := List.pairwise_cons.1 h
    unfold insN
    split
    · rename_i h3
      exact List.Pairwise.cons (fun s hs => by
        rcases List.mem_cons.1 hs with rfl | hs
        · exact h3
        · exact ahead_trans h3 (h1 s hs)) h
    · split
      · exact h
      · rename_i h3 h4
        refine List.Pairwise.cons (fun s hs => ?_) (insN_rise x t h2)
        rcases (insN_mem x t s).1 hs with rfl | hs
        · exact ahead_tri (by simpa using h3) h4
        · exact h1 s hs
theorem ordN_mem : ∀ (l : List (List UInt8)) (s : List UInt8), s ∈ ordN l ↔ s ∈ l
  | [], s => by simp [ordN]
  | x :: t, s => by
    unfold ordN
    rw [insN_mem, ordN_mem t, List.mem_cons]
theorem ordN_rise : ∀ l : List (List UInt8), Rise (ordN l)
  | [] => List.Pairwise.nil
  | x :: t => insN_rise x _ (ordN_rise t)
theorem insN_len (x : List UInt8) : ∀ l : List (List UInt8), (insN x l).length ≤ l.length + 1
  | [] => by simp [insN]
  | y :: t => by
    have := insN_len x t
    unfold insN
    split
    · simp
    · split <;> simp only [List.length_cons] <;> omega
theorem ordN_len : ∀ l : List (List UInt8), (ordN l).length ≤ l.length
  | [] => Nat.le_refl _
  | x :: t => by
    have h1 := insN_len x (ordN t)
    have h2 := ordN_len t
    unfold ordN
    rw [List.length_cons]
    omega
/-- Is it behind what there is? -/
def behind (p : Option (List UInt8)) (s : List UInt8) : Bool := p.all fun q => ahead q s
/-- The first one of those behind, so far. -/
def bestS (p : Option (List UInt8)) (b : Option (List UInt8)) (s : List UInt8) : Option (List UInt8) := if behind p s = true ∧ (b.all fun q => ahead s q) = true then some s else b
def bestF (p : Option (List UInt8)) (l : List (List UInt8)) : Option (List UInt8) := l.foldl (bestS p) none
theorem bestF_snoc (p : Option (List UInt8)) {l : List (List UInt8)} {k : Nat} (h : k < l.length) : bestF p (l.take (k + 1)) = bestS p (bestF p (l.take k)) l[k] := by
  unfold bestF
  rw [List.take_succ_eq_append_getElem h, List.foldl_append]
  rfl
theorem foldl_best (p : Option (List UInt8)) : ∀ (l : List (List UInt8)) (b : Option (List UInt8)),
    (∀ q, b = some q → behind p q = true) → (match l.foldl (bestS p) b with
      | none => b = none ∧ ∀ s ∈ l, behind p s = false
      | some q => (b = some q ∨ q ∈ l) ∧ behind p q = true ∧ (∀ r, b = some r → ahead r q = false) ∧ ∀ s ∈ l, behind p s = true → ahead s q = false)
  | [], b, hb => by
    cases b with
    | none => exact ⟨rfl, fun s hs => by cases hs⟩
    | some q => exact ⟨.inl rfl, hb q rfl, fun r e => by cases e; exact ahead_irr _, fun s hs => by cases hs⟩
  | s :: t, b, hb => by
    rw [List.foldl_cons]
    by_cases h : behind p s = true ∧ (b.all fun q => ahead s q) = true
    · have e : bestS p b s = some s := by unfold bestS; rw [if_pos h]
      have ih := foldl_best p t (some s) (fun q e => by cases e; exact h.1)
      rw [e]
      cases hr : t.foldl (bestS p) (some s) with
      | none => rw [hr] at ih; exact absurd ih.1 (by simp)
      | some q =>
        rw [hr] at ih
        obtain ⟨i1, i2, i3, i4⟩ := ih
        have hsq := i3 s rfl
        refine ⟨?_, i2, fun r er => ?_, fun u hu hbu => ?_⟩
        · rcases i1 with i1 | i1
          · cases i1; exact .inr (by simp)
          · exact .inr (List.mem_cons_of_mem _ i1)
        · subst er
          have h2 : ahead s r = true := by simpa using h.2
          by_cases h3 : ahead r q = true
          · rw [ahead_trans h2 h3] at hsq
            cases hsq
          · simpa using h3
        · rcases List.mem_cons.1 hu with rfl | hu
          · exact hsq
          · exact i4 u hu hbu
    · have e : bestS p b s = b := by unfold bestS; rw [if_neg h]
      have ih := foldl_best p t b hb
      rw [e]
      cases hr : t.foldl (bestS p) b with
      | none =>
        rw [hr] at ih
        obtain ⟨rfl, i2⟩ := ih
        refine ⟨rfl, fun u hu => ?_⟩
        rcases List.mem_cons.1 hu with rfl | hu
        · simpa using h
        · exact i2 u hu
      | some q =>
        rw [hr] at ih
        obtain ⟨i1, i2, i3, i4⟩ := ih
        refine ⟨?_, i2, i3, fun u hu hbu => ?_⟩
        · rcases i1 with i1 | i1
          · exact .inl i1
          · exact .inr (List.mem_cons_of_mem _ i1)
        · rcases List.mem_cons.1 hu with rfl | hu
          · cases b with
            | none => exact absurd ⟨hbu, rfl⟩ h
            | some r =>
              have h2 : ahead u r = false := by
                by_cases h3 : ahead u r = true
                · exact absurd ⟨hbu, by simpa using h3⟩ h
                · simpa using h3
              have h4 := i3 r rfl
              by_cases h5 : ahead u q = true
              · by_cases h6 : u = r
                · subst h6
                  rw [h5] at h4
                  cases h4
                · have := ahead_trans (ahead_tri h2 h6) h5
                  rw [this] at h4
                  cases h4
              · simpa using h5
          · exact i4 u hu hbu
/-- The next one. -/
theorem bestF_next (l : List (List UInt8)) (k : Nat) : bestF (if k = 0 then none else (ordN l)[k - 1]?) l = (ordN l)[k]? ∨ (ordN l).length < k := by
  by_cases hk : (ordN l).length < k
  · exact .inr hk
  left
  have hr := ordN_rise l
  have hm := ordN_mem l
  generalize ordN l = L at *
  -- what is behind
  have hbeh : ∀ (i : Nat) (h : i < L.length), behind (if k = 0 then none else L[k - 1]?) L[i] = decide (k ≤ i) := fun i h => by
    by_cases h0 : k = 0
    · rw [if_pos h0, h0]; simp [behind]
    · rw [if_neg h0, List.getElem?_eq_getElem (by omega)]
      simp only [behind, Option.all_some]
      by_cases hi : k ≤ i
      · rw [decide_eq_true hi]
        exact List.pairwise_iff_getElem.1 hr (k - 1) i (by omega) h (by omega)
      · rw [decide_eq_false hi]
        by_cases he : i = k - 1
        · subst he; exact ahead_irr _
        · exact ahead_asym (List.pairwise_iff_getElem.1 hr i (k - 1) h (by omega) (by omega))
  have key := foldl_best (if k = 0 then none else L[k - 1]?) l none (fun q h => by cases h)
  unfold bestF
  cases hb : l.foldl (bestS (if k = 0 then none else L[k - 1]?)) none with
  | none =>
    rw [hb] at key
    by_cases hlt : k < L.length
    · have h1 := key.2 L[k] ((hm _).1 (List.getElem_mem hlt))
      rw [hbeh k hlt] at h1
      simp at h1
    · rw [List.getElem?_eq_none (by omega)]
  | some q =>
    rw [hb] at key
    obtain ⟨k1, k2, _, k4⟩ := key
    have hq : q ∈ L := by
      rcases k1 with k1 | k1
      · cases k1
      · exact (hm _).2 k1
    obtain ⟨i, hi, rfl⟩ := List.getElem_of_mem hq
    rw [hbeh i hi] at k2
    have hki : k ≤ i := of_decide_eq_true k2
    have h3 := k4 L[k] ((hm _).1 (List.getElem_mem (by omega))) (by rw [hbeh k (by omega)]; exact decide_eq_true (Nat.le_refl _))
    have : i = k := by
      by_cases he : i = k
      · exact he
      · have := List.pairwise_iff_getElem.1 hr k i (by omega) hi (by omega)
        rw [this] at h3
        cases h3
    subst this
    rw [List.getElem?_eq_getElem hi]
end Go.Proofs.YthkkgphjjmhglaaGreatDoor
