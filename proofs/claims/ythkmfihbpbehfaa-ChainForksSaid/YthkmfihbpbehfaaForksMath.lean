/-
What the law of Fork and Clash tells in its loop, plainly.
-/
import Derived.Test.YthkmfihbpbehfaaChainClash
namespace Go.Proofs.Ythkmfihbpbehfaa
set_option linter.unusedVariables false
set_option linter.unusedSimpArgs false
open Go.TR
theorem bothP_some {a b : List Head} {i k : Nat} {y : Head} (hb : unl b i = none) (hk : k < a.length) (h : headOfE b a[k].epoch = some y) : bothP (a.take (k + 1)) b = bothP (a.take k) b ++ [(a[k], y)] := by
  rw [bothP_take hk, bothX_chain hb, h]
  rfl
theorem bothP_none {a b : List Head} {i k : Nat} (hb : unl b i = none) (hk : k < a.length) (h : headOfE b a[k].epoch = none) : bothP (a.take (k + 1)) b = bothP (a.take k) b := by
  rw [bothP_take hk, bothX_chain hb, h]
  simp
theorem mem_bothP {a b : List Head} {q : HP} (h : q ∈ bothP a b) : q.1 ∈ a ∧ q.2 ∈ b ∧ q.1.epoch = q.2.epoch := by
  unfold bothP bothX at h
  obtain ⟨x, hx, h⟩ := List.mem_flatMap.1 h
  obtain ⟨y, hy, rfl⟩ := List.mem_map.1 h
  obtain ⟨h1, h2⟩ := List.mem_filter.1 hy
  exact ⟨hx, h1, by simpa using h2⟩
theorem headOf_self {l : List Head} {i : Nat} (h : unl l i = none) {x : Head} (hx : x ∈ l) : headOfE l x.epoch = some x := by
  have h1 : x ∈ l.filter fun y => decide (x.epoch = y.epoch) := List.mem_filter.2 ⟨hx, by simp⟩
  rw [filter_epoch _ h] at h1
  simpa using h1
def lastN (L : List HP) : Int := match clashX L with
  | some q => q.1.epoch
  | none => -1
theorem lastN_eq (L : List HP) : lastN L = match clashX L with
  | some q => q.1.epoch
  | none => -1 := rfl
def leastN (L : List HP) : Int := match L.find? (fun q => decide (q.1 ≠ q.2)) with
  | some q => q.1.epoch
  | none => -1
def topQ (L : List HP) : HP := match L.getLast? with
  | some q => q
  | none => (Head.none, Head.none)
theorem top_start (a b : List Head) : topQ (bothP (a.take 0) b) = (Head.none, Head.none) := rfl
theorem last_start (a b : List Head) : lastN (bothP (a.take 0) b) = -1 := rfl
theorem least_start (a b : List Head) : leastN (bothP (a.take 0) b) = -1 := rfl
theorem any_start (a b : List Head) : decide (bothP (a.take 0) b ≠ []) = false := rfl
theorem topQ_snoc (L : List HP) (q : HP) : topQ (L ++ [q]) = q := by unfold topQ; simp
theorem lastN_snoc (L : List HP) (q : HP) : lastN (L ++ [q]) = if q.1 ≠ q.2 then q.1.epoch else lastN L := by
  unfold lastN clashX
  rw [List.reverse_append]
  by_cases h : q.1 = q.2 <;> simp [h]
theorem leastN_snoc (L : List HP) (q : HP) (hL : ∀ p ∈ L, 0 ≤ p.1.epoch) : leastN (L ++ [q]) = if q.1 ≠ q.2 ∧ leastN L < 0 then q.1.epoch else leastN L := by
  unfold leastN
  rw [List.find?_append]
  cases hf : L.find? (fun q => decide (q.1 ≠ q.2)) with
  | some p =>
    have := hL p (List.mem_of_find?_eq_some hf)
    simp only [Option.some_or]
    rw [if_neg (by omega)]
  | none => by_cases h : q.1 = q.2 <;> simp [h]
theorem forkN_least {a b : List Head} (h : forkE a b = 0) : forkN a b = leastN (bothP a b) := by
  unfold forkN leastN forkP
  rw [if_neg (by simpa using h)]
  cases (bothP a b).find? (fun q => decide (q.1 ≠ q.2)) <;> rfl
theorem clashL_top {L : List HP} (h : L ≠ []) : clashL L = if (topQ L).1.markO ≠ (topQ L).2.markO then ([], [], 8) else clashO L := by
  unfold clashL topQ
  cases hl : L.getLast? with
  | none => exact absurd (List.getLast?_eq_none_iff.1 hl) h
  | some q => rfl
theorem topQ_mem {L : List HP} (h : L ≠ []) : topQ L ∈ L := by
  unfold topQ
  cases hl : L.getLast? with
  | none => exact absurd (List.getLast?_eq_none_iff.1 hl) h
  | some q => exact List.mem_of_getLast? hl
theorem clashX_mem {L : List HP} {q : HP} (h : clashX L = some q) : q ∈ L := by
  unfold clashX at h
  simpa using List.mem_of_find?_eq_some h
end Go.Proofs.Ythkmfihbpbehfaa
