/-
What package audit computes, plainly.
-/
import Derived.Test.YthkmfihbpbehfaaForkMath
import Derived.Test.YthkmfihbpbehfaaGrow
namespace Go.Proofs.Ythkmfihbpbehfaa
set_option linter.unusedVariables false
set_option linter.unusedSimpArgs false
open Go.TR
theorem hit_of {a b : List Head} (ha : (chainF a).1 = 0) (hb : (chainF b).1 = 0) : hitY b a = (forkP a b).map fun q => q.1.epoch := by
  obtain ⟨_, _, _, z4, _⟩ := chainF_zero hb
  exact hitY_fork z4 a
theorem hit_fork {a b : List Head} (ha : (chainF a).1 = 0) (hb : (chainF b).1 = 0) : hitY b a = if forkE a b = 0 ∧ 0 ≤ forkN a b then some (forkN a b) else none := by
  rw [hit_of ha hb]
  have h0 : forkE a b = if (bothP a b).length = 0 then 5 else 0 := by unfold forkE; rw [if_neg (by simpa using ha), if_neg (by simpa using hb)]
  unfold forkN
  by_cases h : (bothP a b).length = 0
  · rw [if_pos h] at h0
    have hn : bothP a b = [] := List.eq_nil_of_length_eq_zero h
    rw [h0, if_neg (by rintro ⟨h, _⟩; cases h)]
    unfold forkP
    rw [hn]
    rfl
  · rw [if_neg h] at h0
    rw [h0]
    simp only [ne_eq, not_true_eq_false, if_false, true_and]
    cases hp : forkP a b with
    | none => rfl
    | some q =>
      obtain ⟨_, _, z3, _, _⟩ := chainF_zero ha
      have hq : q ∈ bothP a b := List.mem_of_find?_eq_some hp
      unfold bothP bothX at hq
      obtain ⟨x, hx, hq⟩ := List.mem_flatMap.1 hq
      obtain ⟨y, hy, rfl⟩ := List.mem_map.1 hq
      have := Head.ok_of (z3 x hx)
      simp only [Option.map_some]
      rw [if_pos (by omega)]
def auditE (l : List Lie) : Int := if 8 < l.length then 2 else checkF l
theorem checkF_zero : ∀ {l : List Lie}, checkF l = 0 → ∀ s ∈ l, (chainF s.2.1).1 = 0
  | [], _ => by simp
  | s :: t, h => fun x hx => by
    unfold checkF at h
    split at h
    · rename_i h0
      rcases List.mem_cons.1 hx with rfl | hx
      · exact h0
      · exact checkF_zero h x hx
    · rename_i h0
      exact absurd h h0
theorem auditE_zero {l : List Lie} (h : auditE l = 0) : l.length ≤ 8 ∧ ∀ s ∈ l, (chainF s.2.1).1 = 0 := by
  unfold auditE at h
  split at h
  · cases h
  · exact ⟨by omega, checkF_zero h⟩
def lies (l : List Lie) : List (List Head) := l.map fun s => s.2.1
def fA : Option (Nat × Nat × Int) → Int
  | some (i, _, _) => (i : Nat)
  | none => 0
def fB : Option (Nat × Nat × Int) → Int
  | some (_, k, _) => (k : Nat)
  | none => 0
def fN : Option (Nat × Nat × Int) → Int
  | some (_, _, n) => n
  | none => 0
@[reducible] def foundV (o : Option (Nat × Nat × Int)) : Value := .agg #[i64 (fA o), i64 (fB o), i64 (fN o)]
def findO (l : List Lie) : Option (Nat × Nat × Int) := if auditE l = 0 then findI (lies l) 0 else none
/-- The last epoch of the chain at a place. -/
def lastE (l : List Lie) (i : Nat) : Int := (lastH ((lies l).getD i [])).epoch
def bestK (l : List Lie) : Nat → Nat
  | 0 => 0
  | k + 1 => if lastE l k > lastE l (bestK l k) then k else bestK l k
theorem bestK_lt {l : List Lie} (h : 0 < l.length) : ∀ k, k ≤ l.length → bestK l k < l.length
  | 0, _ => h
  | k + 1, hk => by
    unfold bestK
    split
    · omega
    · exact bestK_lt h k (by omega)
def longE (l : List Lie) : Int := if l.length = 0 then 5 else auditE l
def longN (l : List Lie) : Nat := if longE l = 0 then bestK l l.length else 0
/-- A chain that lies in memory. -/
def Lie.at (F : Hp) (s : Lie) : Prop := s.2.1.length ≤ 4611686018427387904 ∧ s.2.1.length ≤ s.2.2 ∧ (∀ x ∈ s.2.1, x.wf) ∧ Frow F s.1 (s.2.1.flatMap Head.row)
theorem Lie.at_sub {F F' : Hp} (h : F.sub F') {s : Lie} (k : Lie.at F s) : Lie.at F' s := ⟨k.1, k.2.1, k.2.2.1, frow_sub h k.2.2.2⟩
/-- The words of a chain. -/
def saids (l : List Head) : List (List UInt8) := l.map Head.said
theorem saids_len (l : List Head) : (saids l).length = l.length := List.length_map ..
theorem saids_short (l : List Head) : ∀ s ∈ saids l, s.length ≤ 40 := fun s hs => by
  obtain ⟨h, _, rfl⟩ := List.mem_map.1 hs
  rw [said_length]
  decide
theorem saids_take {l : List Head} {k : Nat} (hk : k < l.length) : saids (l.take (k + 1)) = saids (l.take k) ++ [l[k].said] := by
  unfold saids
  rw [List.take_succ_eq_append_getElem hk, List.map_append]
  rfl
def rolledE (l : List Head) : Int := (chainF l).1
def saidL (l : List Head) : List (List UInt8) := if (chainF l).1 = 0 then saids l else []
def auGrewE (l : List Head) (m : Int) : Int := if (chainF l).1 = 0 then grewE (saids l) m else (chainF l).1
def auGrewL (l : List Head) (m : Int) : List Nat := if (chainF l).1 = 0 then grewL (saids l) m else []
theorem saids_fault {l : List Head} (h : (chainF l).1 = 0) : rollFault (saids l) = 0 := by
  obtain ⟨z1, z2, _, _, _⟩ := chainF_zero h
  unfold rollFault
  rw [saids_len, if_neg (by omega), if_neg (by omega), if_neg]
  rw [List.any_eq_true]
  rintro ⟨s, hs, h2⟩
  have := saids_short l s hs
  simp only [decide_eq_true_eq] at h2
  omega
def rolledN (l : List Head) : Nat := if (chainF l).1 = 0 then rootN (saids l) else 0
theorem chainF_cases (l : List Head) : (chainF l).1 = 0 ∨ (chainF l).1 = 2 ∨ (chainF l).1 = 3 ∨ (chainF l).1 = 4 ∨ (chainF l).1 = 5 ∨ (chainF l).1 = 8 := by
  unfold chainF
  split
  · simp
  · split
    · simp
    · cases hb : badAt l 0 with
      | some x =>
        rw [chainT_bad hb]
        have h2 : ∀ {l : List Head} {i : Nat} {x : Int × Nat}, badAt l i = some x → ∃ h : Head, x.1 = h.fault := by
          intro l
          induction l with
          | nil => intro i x h; cases h
          | cons a l ih =>
            intro i x h
            unfold badAt at h
            split at h
            · exact ih h
            · cases h
              exact ⟨a, rfl⟩
        obtain ⟨h, e⟩ := h2 hb
        rw [e]
        unfold Head.fault
        split
        · simp
        · split <;> simp
      | none =>
        cases hu : unl l 1 with
        | some i => rw [chainT_unl hb hu]; simp
        | none => rw [chainT_ok hb hu]; simp
theorem checkF_cases : ∀ l : List Lie, checkF l = 0 ∨ checkF l = 2 ∨ checkF l = 3 ∨ checkF l = 4 ∨ checkF l = 5 ∨ checkF l = 8
  | [] => .inl rfl
  | s :: t => by
    unfold checkF
    split
    · exact checkF_cases t
    · exact chainF_cases s.2.1
theorem auditE_cases (l : List Lie) : auditE l = 0 ∨ auditE l = 2 ∨ auditE l = 3 ∨ auditE l = 4 ∨ auditE l = 5 ∨ auditE l = 8 := by
  unfold auditE
  split
  · simp
  · exact checkF_cases l
def bst (l : List Lie) (k : Nat) : Nat := if longE l = 0 then bestK l k else 0
theorem auGrewE_cases (l : List Head) (m : Int) : auGrewE l m = 0 ∨ auGrewE l m = 2 ∨ auGrewE l m = 3 ∨ auGrewE l m = 4 ∨ auGrewE l m = 5 ∨ auGrewE l m = 8 := by
  unfold auGrewE
  by_cases h : (chainF l).1 = 0
  · rw [if_pos h]
    unfold grewE
    rw [if_pos (saids_fault h)]
    split <;> simp
  · rw [if_neg h]
    exact chainF_cases l
theorem auGrewE_zero {l : List Head} {m : Int} (h : auGrewE l m = 0) : (chainF l).1 = 0 ∧ 1 ≤ m ∧ m ≤ l.length ∧ auGrewL l m = grewN (saids l) m.toNat true := by
  unfold auGrewE at h
  by_cases h0 : (chainF l).1 = 0
  · rw [if_pos h0] at h
    obtain ⟨_, h2, h3⟩ := grewE_zero h
    rw [saids_len] at h3
    refine ⟨h0, h2, h3, ?_⟩
    unfold auGrewL grewL
    rw [if_pos h0, if_pos h]
  · rw [if_neg h0] at h
    exact absurd h h0
theorem auGrewL_nil {l : List Head} {m : Int} (h : auGrewE l m ≠ 0) : auGrewL l m = [] := by
  unfold auGrewE at h
  unfold auGrewL
  by_cases h0 : (chainF l).1 = 0
  · rw [if_pos h0] at h ⊢
    unfold grewL
    rw [if_neg h]
  · rw [if_neg h0]
theorem auGrewE_bad {l : List Head} {m : Int} (h0 : (chainF l).1 = 0) : auGrewE l m = if m < 1 ∨ m > (l.length : Nat) then 4 else 0 := by
  unfold auGrewE grewE
  rw [if_pos h0, if_pos (saids_fault h0)]
  unfold grewBad
  rw [saids_len]
  simp
end Go.Proofs.Ythkmfihbpbehfaa
