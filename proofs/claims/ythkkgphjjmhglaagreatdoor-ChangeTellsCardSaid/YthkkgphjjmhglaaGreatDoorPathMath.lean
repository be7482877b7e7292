/-
The way to a name, and the order of names, plainly.
-/
import Derived.Test.YthkkgphjjmhglaaGreatDoorSetBits
import Derived.Test.YthkkgphjjmhglaaGreatDoorSetMark2
namespace Go.Proofs.YthkkgphjjmhglaaGreatDoor
set_option linter.unusedVariables false
set_option linter.unusedSimpArgs false
open Go.TR
open Go.Op (bytesLess)
theorem bl_irr : ∀ a : List UInt8, bytesLess a a = false
  | [] => rfl
  | a :: x => by
    unfold bytesLess
    rw [bl_irr x]
    simp
theorem bl_tri : ∀ a b : List UInt8, bytesLess a b = false → a ≠ b → bytesLess b a = true
  | [], [], _, h => absurd rfl h
  | [], _ :: _, h, _ => by cases h
  | _ :: _, [], _, _ => rfl
  | a :: x, b :: y, h, hn => by
    unfold bytesLess at h ⊢
    simp only [Bool.or_eq_false_iff, decide_eq_false_iff_not, Bool.and_eq_false_iff, beq_eq_false_iff_ne] at h
    obtain ⟨h1, h2⟩ := h
    by_cases hab : a = b
    · subst hab
      have h3 : bytesLess x y = false := by
        rcases h2 with h2 | h2
        · exact absurd rfl h2
        · exact h2
      have : x ≠ y := fun e => hn (by rw [e])
      simp [bl_tri x y h3 this]
    · have : b < a := by
        rcases UInt8.lt_or_lt_of_ne hab with h | h
        · exact absurd h h1
        · exact h
      simp [this]
theorem bl_trans : ∀ a b c : List UInt8, bytesLess a b = true → bytesLess b c = true → bytesLess a c = true
  | [], [], _, h, _ => by cases h
  | _ :: _, [], _, h, _ => by cases h
  | _, _ :: _, [], _, h => by cases h
  | [], _ :: _, _ :: _, _, _ => rfl
  | a :: x, b :: y, c :: z, h, k => by
    unfold bytesLess at h k ⊢
    simp only [Bool.or_eq_true, decide_eq_true_eq, Bool.and_eq_true, beq_iff_eq] at h k ⊢
    rcases h with h | ⟨rfl, h⟩
    · rcases k with k | ⟨rfl, k⟩
      · exact .inl (UInt8.lt_trans h k)
      · exact .inl h
    · rcases k with k | ⟨rfl, k⟩
      · exact .inl k
      · exact .inr ⟨rfl, bl_trans x y z h k⟩
def bitB (n : Nat) : UInt8 := UInt8.ofNat (48 + n % 2)
/-- The last k bits of a number, the first one the greatest. -/
def bitsN : Nat → Nat → List UInt8
  | 0, _ => []
  | k + 1, n => bitsN k (n / 2) ++ [bitB n]
theorem bitsN_len : ∀ k n, (bitsN k n).length = k
  | 0, _ => rfl
  | k + 1, n => by unfold bitsN; rw [List.length_append, bitsN_len k]; rfl
theorem bitsN_get : ∀ (k n i : Nat) (h : i < k), (bitsN k n)[i]'(by rw [bitsN_len]; exact h) = bitB (n / 2 ^ (k - 1 - i))
  | 0, _, _, h => by omega
  | k + 1, n, i, h => by
    have hl := bitsN_len k (n / 2)
    simp only [bitsN]
    by_cases hi : i < k
    · rw [List.getElem_append_left (by rw [hl]; exact hi), bitsN_get k (n / 2) i hi, Nat.div_div_eq_div_mul]
      congr 2
      rw [← Nat.pow_succ']
      congr 1
      omega
    · have : i = k := by omega
      subst this
      rw [List.getElem_append_right (by rw [hl]; exact Nat.le_refl _)]
      have h0 : i + 1 - 1 - i = 0 := by omega
      simp [hl, h0]
/-- The way to a name. -/
def pathN (s : List UInt8) : List UInt8 := bitsN 16 (markN s)
theorem pathN_len (s : List UInt8) : (pathN s).length = 16 := bitsN_len _ _
def wayN (s : List UInt8) : List UInt8 := if goodName s = true then pathN s else []
/-- Does a name stand ahead of another one? -/
def ahead (a b : List UInt8) : Bool := bytesLess (pathN a) (pathN b) || (decide (pathN a = pathN b) && bytesLess a b)
theorem ahead_irr (a : List UInt8) : ahead a a = false := by unfold ahead; rw [bl_irr, bl_irr]; simp
theorem ahead_trans {a b c : List UInt8} (h : ahead a b = true) (k : ahead b c = true) : ahead a c = true := by
  unfold ahead at *
  simp only [Bool.or_eq_true, Bool.and_eq_true, decide_eq_true_eq] at *
  rcases h with h | ⟨e, h⟩
  · rcases k with k | ⟨e', k⟩
    · exact .inl (bl_trans _ _ _ h k)
    · exact .inl (by rw [← e']; exact h)
  · rcases k with k | ⟨e', k⟩
    · exact .inl (by rw [e]; exact k)
    · exact .inr ⟨e.trans e', bl_trans _ _ _ h k⟩
theorem ahead_asym {a b : List UInt8} (h : ahead a b = true) : ahead b a = false := by
  by_cases k : ahead b a = true
  · have := ahead_trans h k
    rw [ahead_irr] at this
    cases this
  · simpa using k
theorem ahead_tri {a b : List UInt8} (h : ahead a b = false) (hn : a ≠ b) : ahead b a = true := by
  unfold ahead at *
  simp only [Bool.or_eq_false_iff, Bool.and_eq_false_iff, decide_eq_false_iff_not, Bool.or_eq_true, Bool.and_eq_true, decide_eq_true_eq] at *
  obtain ⟨h1, h2⟩ := h
  by_cases e : pathN a = pathN b
  · refine .inr ⟨e.symm, ?_⟩
    rcases h2 with h2 | h2
    · exact absurd e h2
    · exact bl_tri _ _ h2 hn
  · exact .inl (bl_tri _ _ h1 e)
def cmpL (a b : List UInt8) : Int := if bytesLess a b = true then -1 else if a = b then 0 else 1
/-- Which of two names stands ahead: below nought, nought, above. -/
def orderN (a b : List UInt8) : Int := if cmpL (wayN a) (wayN b) ≠ 0 then cmpL (wayN a) (wayN b) else cmpL a b
theorem orderN_good {a b : List UInt8} (ha : goodName a = true) (hb : goodName b = true) : orderN a b = if ahead a b = true then -1 else if a = b then 0 else 1 := by
  unfold orderN wayN ahead cmpL
  rw [if_pos ha, if_pos hb]
  by_cases h1 : bytesLess (pathN a) (pathN b) = true
  · simp [h1]
  · by_cases h2 : pathN a = pathN b
    · simp [h2, bl_irr]
    · have : a ≠ b := fun e => h2 (by rw [e])
      simp [h1, h2, this]
/-- An entry of a book. -/
structure Entry where
  name : List UInt8
  value : List UInt8
deriving DecidableEq
@[reducible] def Entry.row (x : Entry) : List Value := [S x.name, S x.value]
@[reducible] def Entry.v (x : Entry) : Value := .agg #[S x.name, S x.value]
theorem entry_row (x : Entry) : x.row.length = 2 := rfl
structure Entry.wf (x : Entry) : Prop where
  name : x.name.length ≤ 4611686018427387904
  value : x.value.length ≤ 4611686018427387904
theorem entry_one (l : List Entry) : ∀ x ∈ l.flatMap Entry.row, one (.v x) = true := fun x hx => by
  obtain ⟨a, _, ha⟩ := List.mem_flatMap.1 hx
  simp only [Entry.row, List.mem_cons, List.not_mem_nil, or_false] at ha
  rcases ha with rfl | rfl <;> rfl
/-- What is wrong with a book, behind a name. -/
def bookG : Option (List UInt8) → List Entry → Int
  | _, [] => 0
  | p, x :: t => if askFault x.name x.value ≠ 0 then askFault x.name x.value else if p.any (fun p => !ahead p x.name) = true then 3 else bookG (some x.name) t
def bookFault (l : List Entry) : Int := if 24 < l.length then 2 else bookG none l
/-- The name ahead of a place. -/
def prevN (l : List Entry) : Nat → Option (List UInt8)
  | 0 => none
  | k + 1 => l[k]?.map Entry.name
theorem bookG_drop {l : List Entry} {k : Nat} (h : k < l.length) : bookG (prevN l k) (l.drop k) = if askFault l[k].name l[k].value ≠ 0 then askFault l[k].name l[k].value else if (prevN l k).any (fun p => !ahead p l[k].name) = true then 3 else bookG (prevN l (k + 1)) (l.drop (k + 1)) := by
  have e : prevN l (k + 1) = some l[k].name := by
    show l[k]?.map Entry.name = _
    rw [List.getElem?_eq_getElem h]
    rfl
  rw [List.drop_eq_getElem_cons h, e]
  rfl
theorem bookG_good : ∀ {l : List Entry} {p : Option (List UInt8)}, bookG p l = 0 → ∀ x ∈ l, goodName x.name = true ∧ x.value.length ≤ 20
  | [], _, _ => by simp
  | a :: l, p, h => fun x hx => by
    unfold bookG at h
    split at h
    · rename_i h1; exact absurd h h1
    · rename_i h1
      split at h
      · cases h
      · rcases List.mem_cons.1 hx with rfl | hx
        · exact askFault_zero (by simpa using h1)
        · exact bookG_good h x hx
theorem bookFault_zero {l : List Entry} (h : bookFault l = 0) : l.length ≤ 24 ∧ (∀ x ∈ l, goodName x.name = true ∧ x.value.length ≤ 20) ∧ bookG none l = 0 := by
  unfold bookFault at h
  split at h
  · cases h
  · exact ⟨by omega, bookG_good h, h⟩
/-- The names of a book rise. -/
theorem bookG_rise : ∀ {l : List Entry} {p : Option (List UInt8)}, bookG p l = 0 → (∀ q, p = some q → ∀ x ∈ l, ahead q x.name = true) ∧ List.Pairwise (fun a b => ahead a.name b.name = true) l
  | [], _, _ => ⟨fun _ _ x hx => (by cases hx), List.Pairwise.nil⟩
  | a :: l, p, h => by
    unfold bookG at h
    split at h
    · rename_i h1; exact absurd h h1
    · split at h
      · cases h
      · rename_i _ h2
        obtain ⟨i1, i2⟩ := bookG_rise h
        have ha : ∀ q, p = some q → ahead q a.name = true := fun q e => by subst e; simpa using h2
        refine ⟨fun q e x hx => ?_, List.Pairwise.cons (fun x hx => i1 _ rfl x hx) i2⟩
        rcases List.mem_cons.1 hx with rfl | hx
        · exact ha q e
        · exact ahead_trans (ha q e) (i1 _ rfl x hx)
end Go.Proofs.YthkkgphjjmhglaaGreatDoor
