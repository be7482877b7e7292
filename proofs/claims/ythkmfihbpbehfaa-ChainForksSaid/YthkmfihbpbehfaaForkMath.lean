/-
Two chains that fork, plainly.
-/
import Derived.Test.YthkmfihbpbehfaaChain3
namespace Go.Proofs.Ythkmfihbpbehfaa
set_option linter.unusedVariables false
set_option linter.unusedSimpArgs false
open Go.TR
/-- The heads of one epoch of two chains. -/
def bothX (x : Head) (b : List Head) : List (Head × Head) := (b.filter fun y => decide (x.epoch = y.epoch)).map fun y => (x, y)
def bothP (a b : List Head) : List (Head × Head) := a.flatMap fun x => bothX x b
@[reducible] def row2 (q : Head × Head) : List Value := q.1.row ++ q.2.row
theorem row2_len (q : Head × Head) : (row2 q).length = 8 := rfl
theorem row2_one (l : List (Head × Head)) : ∀ x ∈ l.flatMap row2, one (.v x) = true := fun x hx => by
  obtain ⟨a, _, ha⟩ := List.mem_flatMap.1 hx
  rcases List.mem_append.1 ha with ha | ha
  · exact head_one [a.1] x (by simpa using ha)
  · exact head_one [a.2] x (by simpa using ha)
theorem bothP_take {a b : List Head} {i : Nat} (hi : i < a.length) : bothP (a.take (i + 1)) b = bothP (a.take i) b ++ bothX a[i] b := by
  unfold bothP
  rw [List.take_succ_eq_append_getElem hi, List.flatMap_append]
  simp
theorem bothX_take {x : Head} {b : List Head} {j : Nat} (hj : j < b.length) : bothX x (b.take (j + 1)) = bothX x (b.take j) ++ if x.epoch = b[j].epoch then [(x, b[j])] else [] := by
  unfold bothX
  rw [List.take_succ_eq_append_getElem hj, List.filter_append, List.map_append]
  congr 1
  by_cases h : x.epoch = b[j].epoch <;> simp [h]
theorem bothX_len (x : Head) (b : List Head) : (bothX x b).length ≤ b.length := by
  unfold bothX
  rw [List.length_map]
  exact List.length_filter_le _ _
theorem bothP_len (a b : List Head) : (bothP a b).length ≤ a.length * b.length := by
  induction a with
  | nil => simp [bothP]
  | cons x a ih =>
    unfold bothP at ih ⊢
    rw [List.flatMap_cons, List.length_append, List.length_cons, Nat.add_mul, Nat.one_mul]
    have := bothX_len x b
    omega
theorem unl_tail {a : Head} {t : List Head} {i : Nat} (h : unl (a :: t) i = none) : ∃ j, unl t j = none := by
  match t with
  | [] => exact ⟨0, rfl⟩
  | b :: t =>
    unfold unl at h
    split at h
    · exact ⟨_, h⟩
    · cases h
theorem unl_rise {a : Head} {t : List Head} {i : Nat} (h : unl (a :: t) i = none) : ∀ y ∈ t, a.epoch < y.epoch := fun y hy => by
  obtain ⟨k, hk, rfl⟩ := List.mem_iff_getElem.1 hy
  have := unl_epoch h (k + 1) (by simpa using hk)
  simp only [List.getElem_cons_succ, List.getElem_cons_zero] at this
  omega
/-- In a chain there is one head of an epoch, at most. -/
theorem filter_epoch : ∀ {l : List Head} {i : Nat} (n : Int), unl l i = none → (l.filter fun y => decide (n = y.epoch)) = (headOfE l n).toList
  | [], _, _, _ => rfl
  | a :: t, i, n, h => by
    obtain ⟨j, hj⟩ := unl_tail h
    have hr := unl_rise h
    have ih := filter_epoch n hj
    unfold headOfE at ih ⊢
    by_cases hn : a.epoch = n
    · have : (t.filter fun y => decide (n = y.epoch)) = [] := by
        rw [List.filter_eq_nil_iff]
        intro y hy
        have := hr y hy
        simp only [decide_eq_true_eq]
        omega
      rw [List.filter_cons_of_pos (by simp [hn]), List.find?_cons_of_pos (by simp [hn]), this]
      rfl
    · rw [List.filter_cons_of_neg (by simp; omega), List.find?_cons_of_neg (by simp [hn]), ih]
theorem bothX_chain {x : Head} {b : List Head} {i : Nat} (h : unl b i = none) : bothX x b = (headOfE b x.epoch).toList.map fun y => (x, y) := by
  unfold bothX
  rw [filter_epoch _ h]
def forkP (a b : List Head) : Option (Head × Head) := (bothP a b).find? fun q => decide (q.1 ≠ q.2)
def forkE (a b : List Head) : Int := if (chainF a).1 ≠ 0 then (chainF a).1 else if (chainF b).1 ≠ 0 then (chainF b).1 else if (bothP a b).length = 0 then 5 else 0
def forkN (a b : List Head) : Int := if forkE a b ≠ 0 then 0 else match forkP a b with
  | some q => q.1.epoch
  | none => -1
/-- The first head of the one that is unlike the other's of its epoch. -/
def hitY (b : List Head) : List Head → Option Int
  | [] => none
  | y :: t => match headOfE b y.epoch with
    | some z => if y ≠ z then some y.epoch else hitY b t
    | none => hitY b t
theorem hitY_fork {b : List Head} {i : Nat} (hb : unl b i = none) : ∀ a : List Head, hitY b a = (forkP a b).map fun q => q.1.epoch
  | [] => rfl
  | y :: t => by
    have ih := hitY_fork hb t
    unfold forkP bothP at ih ⊢
    rw [List.flatMap_cons, List.find?_append, bothX_chain hb]
    unfold hitY
    cases h : headOfE b y.epoch with
    | none => simpa using ih
    | some z =>
      simp only [Option.toList_some, List.map_cons, List.map_nil]
      by_cases hz : y = z
      · subst hz
        simp [ih]
      · simp [hz]
/-- The first two chains that fork. -/
def findK (a : List Head) : List (List Head) → Nat → Option (Nat × Int)
  | [], _ => none
  | b :: t, k => match hitY b a with
    | some n => some (k, n)
    | none => findK a t (k + 1)
def findI : List (List Head) → Nat → Option (Nat × Nat × Int)
  | [], _ => none
  | a :: t, i => match findK a t (i + 1) with
    | some (k, n) => some (i, k, n)
    | none => findI t (i + 1)
theorem findK_drop {a : List Head} {l : List (List Head)} {k : Nat} (hk : k < l.length) : findK a (l.drop k) k = match hitY l[k] a with
    | some n => some (k, n)
    | none => findK a (l.drop (k + 1)) (k + 1) := by
  rw [List.drop_eq_getElem_cons hk]
  rfl
theorem findI_drop {l : List (List Head)} {i : Nat} (hi : i < l.length) : findI (l.drop i) i = match findK l[i] (l.drop (i + 1)) (i + 1) with
    | some (k, n) => some (i, k, n)
    | none => findI (l.drop (i + 1)) (i + 1) := by
  rw [List.drop_eq_getElem_cons hi]
  rfl
end Go.Proofs.Ythkmfihbpbehfaa
