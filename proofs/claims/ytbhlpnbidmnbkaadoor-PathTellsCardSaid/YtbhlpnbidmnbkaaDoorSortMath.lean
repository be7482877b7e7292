/-
Names sorted, and equal neighbours dropped: names in order, each once. Plainly.
-/
import Derived.Lib.SlicesCompact
import Derived.Test.YtbhlpnbidmnbkaaDoorOrdMath
namespace Go.Proofs.YtbhlpnbidmnbkaaDoor
set_option linter.unusedVariables false
set_option linter.unusedSimpArgs false
open Go.TR
/-- A name that memory can hold. -/
abbrev Nm62 := { s : List UInt8 // s.length ≤ 4611686018427387904 }
instance : Inhabited Nm62 := ⟨⟨[], Nat.zero_le _⟩⟩
/-- Which of two names stands ahead, whatever they are: below nought, nought, above. -/
def cmpA (a b : List UInt8) : Int := if cmpL (pathN a) (pathN b) ≠ 0 then cmpL (pathN a) (pathN b) else cmpL a b
theorem cmpA_eq (a b : List UInt8) : cmpA a b = if ahead a b = true then -1 else if a = b then 0 else 1 := by
  unfold cmpA ahead cmpL
  by_cases h1 : Op.bytesLess (pathN a) (pathN b) = true
  · simp [h1]
  · by_cases h2 : pathN a = pathN b
    · simp [h2, bl_irr]
    · have : a ≠ b := fun e => h2 (by rw [e])
      simp [h1, h2, this]
theorem cmpA_lt (a b : List UInt8) : decide (cmpA a b < 0) = ahead a b := by
  rw [cmpA_eq]
  by_cases h : ahead a b = true
  · rw [if_pos h, h]; rfl
  · rw [if_neg h]
    have h' : ahead a b = false := by simpa using h
    rw [h']
    split <;> rfl
/-- Equal neighbours dropped. -/
theorem compact_rise {d : Array (List UInt8)} (hs : ∀ j, j + 1 < d.size → d[j]! = d[j + 1]! ∨ ahead d[j]! d[j + 1]! = true) : ∀ m, m ≤ d.size → Rise (Lib.compactUpTo d m) ∧ (∀ x ∈ Lib.compactUpTo d m, x = d[m - 1]! ∨ ahead x d[m - 1]! = true) ∧ ∀ x, x ∈ Lib.compactUpTo d m ↔ ∃ j, j < m ∧ d[j]! = x
  | 0, _ => by
    refine ⟨List.Pairwise.nil, fun x hx => (by cases hx), fun x => ⟨fun hx => (by cases hx), ?_⟩⟩
    rintro ⟨j, h, _⟩
    omega
  | m + 1, hm => by
    obtain ⟨h1, h2, h3⟩ := compact_rise hs m (by omega)
    rw [Lib.compactUpTo_succ]
    have hsub : m + 1 - 1 = m := rfl
    rw [hsub]
    by_cases h0 : m = 0
    · subst h0
      have e0 : Lib.compactUpTo d 0 = [] := rfl
      have k0 : Lib.keeps d 0 = true := Lib.keeps_lt_one d 0 (by omega)
      rw [e0, if_pos k0]
      refine ⟨List.pairwise_singleton _ _, fun x hx => .inl (by simpa using hx), fun x => ?_⟩
      constructor
      · intro hx; exact ⟨0, by omega, (by simpa using hx : x = d[0]!).symm⟩
      · rintro ⟨j, hj, rfl⟩
        have : j = 0 := by omega
        subst this
        simp
    · by_cases he : d[m]! = d[m - 1]!
      · rw [if_neg (by rw [Lib.keeps_neg (by omega) he]; decide), List.append_nil]
        refine ⟨h1, fun x hx => by rw [he]; exact h2 x hx, fun x => ?_⟩
        rw [h3]
        constructor
        · rintro ⟨j, hj, e⟩; exact ⟨j, by omega, e⟩
        · rintro ⟨j, hj, e⟩
          by_cases hjm : j = m
          · subst hjm; exact ⟨j - 1, by omega, by rw [← he]; exact e⟩
          · exact ⟨j, by omega, e⟩
      · rw [if_pos (Lib.keeps_pos he)]
        have ha : ahead d[m - 1]! d[m]! = true := by
          have := hs (m - 1) (by omega)
          rw [Nat.sub_add_cancel (by omega)] at this
          rcases this with e | e
          · exact absurd e.symm he
          · exact e
        have hall : ∀ x ∈ Lib.compactUpTo d m, ahead x d[m]! = true := fun x hx => by
          rcases h2 x hx with e | e
          · rw [e]; exact ha
          · exact ahead_trans e ha
        refine ⟨List.pairwise_append.2 ⟨h1, List.pairwise_singleton _ _, fun x hx y hy => ?_⟩, fun x hx => ?_, fun x => ?_⟩
        · rw [List.mem_singleton.1 hy]; exact hall x hx
        · rcases List.mem_append.1 hx with h | h
          · exact .inr (hall x h)
          · exact .inl (by simpa using h)
        · rw [List.mem_append, h3, List.mem_singleton]
          constructor
          · rintro (⟨j, hj, e⟩ | e)
            · exact ⟨j, by omega, e⟩
            · exact ⟨m, by omega, e.symm⟩
          · rintro ⟨j, hj, e⟩
            by_cases hjm : j = m
            · subst hjm; exact .inr e.symm
            · exact .inl ⟨j, by omega, e⟩
/-- Names sorted. -/
def sortN (l : List (List UInt8)) : List (List UInt8) := l.mergeSort fun x y => !ahead y x
theorem sortN_perm (l : List (List UInt8)) : (sortN l).Perm l := List.mergeSort_perm l _
theorem sortN_len (l : List (List UInt8)) : (sortN l).length = l.length := (sortN_perm l).length_eq
theorem sortN_map (l : List Nm62) : (l.mergeSort fun x y => !ahead y.1 x.1).map (·.1) = sortN (l.map (·.1)) := List.map_mergeSort fun _ _ _ _ => rfl
/-- Names sorted by ahead, and equal neighbours dropped. -/
theorem sort_compact (l : List (List UInt8)) : Lib.compact (sortN l) = ordN l := by
  have hp := sortN_perm l
  have hsrt : List.Pairwise (fun x y : List UInt8 => (!ahead y x) = true) (sortN l) := by
    refine List.pairwise_mergeSort (fun a b c h1 h2 => ?_) (fun a b => ?_) l
    · simp only [Bool.not_eq_true'] at h1 h2 ⊢
      by_cases h : ahead c a = true
      · by_cases e : c = b
        · rw [e, h1] at h; cases h
        · have := ahead_tri h2 e
          rw [ahead_trans this h] at h1; cases h1
      · simpa using h
    · simp only [Bool.or_eq_true, Bool.not_eq_true']
      by_cases h : ahead b a = true
      · exact .inr (ahead_asym h)
      · exact .inl (by simpa using h)
  generalize sortN l = m at hp hsrt
  have hs : ∀ j, j + 1 < m.toArray.size → m.toArray[j]! = m.toArray[j + 1]! ∨ ahead m.toArray[j]! m.toArray[j + 1]! = true := fun j hj => by
    have hl : j + 1 < m.length := by simpa using hj
    have h1 := List.pairwise_iff_getElem.1 hsrt j (j + 1) (by omega) hl (by omega)
    rw [getElem!_pos _ j (by simp; omega), getElem!_pos _ (j + 1) (by simpa using hl)]
    simp only [List.getElem_toArray, Bool.not_eq_true'] at h1 ⊢
    by_cases e : m[j] = m[j + 1]
    · exact .inl e
    · exact .inr (ahead_tri h1 (fun e' => e e'.symm))
  obtain ⟨h1, _, h3⟩ := compact_rise hs m.toArray.size (Nat.le_refl _)
  have hc : Lib.compact m = Lib.compactUpTo m.toArray m.toArray.size := by unfold Lib.compact; simp
  rw [hc]
  refine rise_eq h1 (ordN_rise _) fun s => ?_
  rw [h3, ordN_mem]
  constructor
  · rintro ⟨j, hj, e⟩
    rw [getElem!_pos _ j hj] at e
    rw [← e]
    have hl : j < m.length := by simpa using hj
    simp only [List.getElem_toArray]
    exact hp.mem_iff.1 (List.getElem_mem hl)
  · intro hs
    obtain ⟨j, hj, e2⟩ := List.getElem_of_mem (hp.mem_iff.2 hs)
    refine ⟨j, by simpa using hj, ?_⟩
    rw [getElem!_pos _ j (by simpa using hj)]
    simp only [List.getElem_toArray]
    exact e2
end Go.Proofs.YtbhlpnbidmnbkaaDoor
