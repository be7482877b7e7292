/-
Package roll: what a text and marks make; IsIn; the reference's RollMade.
-/
import Derived.Test.YthkmfihbpbehfaaRollIn2
namespace Go.Proofs.Ythkmfihbpbehfaa
set_option linter.unusedVariables false
set_option linter.unusedSimpArgs false
open Go.TR
/-- What is made of a mark and marks, the last one being that of the top. -/
def madeF : Nat → Nat → Nat → Nat → List Nat → Nat × Bool
  | 0, _, _, m, _ => (m, false)
  | f + 1, n, i, m, p => if n = 1 then (m, decide (p.length = 0)) else match p.getLast? with
    | none => (0, false)
    | some x => if i < half n then (twoN (madeF f (half n) i m p.dropLast).1 x, (madeF f (half n) i m p.dropLast).2) else (twoN x (madeF f (n - half n) (i - half n) m p.dropLast).1, (madeF f (n - half n) (i - half n) m p.dropLast).2)
/-- The sides of the way, from the top down. -/
def rights : Nat → Nat → Nat → List Bool
  | 0, _, _ => []
  | f + 1, n, i => if n ≤ 1 then [] else if i < half n then true :: rights f (half n) i else false :: rights f (n - half n) (i - half n)
def foldM (m : Nat) (l : List (Nat × Bool)) : Nat := l.foldl (fun m x => if x.2 = true then twoN m x.1 else twoN x.1 m) m
theorem foldM_snoc (m : Nat) (l : List (Nat × Bool)) (x : Nat × Bool) : foldM m (l ++ [x]) = if x.2 = true then twoN (foldM m l) x.1 else twoN x.1 (foldM m l) := by
  unfold foldM
  rw [List.foldl_append, List.foldl_cons, List.foldl_nil]
theorem rights_fuel : ∀ (f g n i : Nat), n ≤ f → n ≤ g → rights f n i = rights g n i
  | 0, 0, _, _, _, _ => rfl
  | 0, g + 1, n, i, h, _ => by simp only [rights]; rw [if_pos (by omega)]
  | f + 1, 0, n, i, _, h => by simp only [rights]; rw [if_pos (by omega)]
  | f + 1, g + 1, n, i, h1, h2 => by
    simp only [rights]
    by_cases h : n ≤ 1
    · rw [if_pos h, if_pos h]
    · have hr := half_range (n := n) (by omega)
      rw [if_neg h, if_neg h, rights_fuel f g _ _ (by omega) (by omega), rights_fuel f g (n - half n) _ (by omega) (by omega)]
theorem rights_len : ∀ (f n i : Nat), (rights f n i).length ≤ f
  | 0, _, _ => Nat.le_refl _
  | f + 1, n, i => by
    simp only [rights]
    split
    · simp
    · split
      · have := rights_len f (half n) i; simp only [List.length_cons]; omega
      · have := rights_len f (n - half n) (i - half n); simp only [List.length_cons]; omega
theorem madeF_rights : ∀ (f n i m : Nat) (p : List Nat), 1 ≤ n → n ≤ f → ((madeF f n i m p).2 = true ↔ p.length = (rights f n i).length) ∧ (p.length = (rights f n i).length → (madeF f n i m p).1 = foldM m (p.zip (rights f n i).reverse))
  | 0, n, i, m, p, h1, h2 => by omega
  | f + 1, n, i, m, p, h1, h2 => by
    simp only [madeF, rights]
    by_cases hn : n = 1
    · rw [if_pos hn, if_pos (by omega)]
      refine ⟨by simp, fun h => ?_⟩
      have : p = [] := List.eq_nil_of_length_eq_zero h
      subst this
      rfl
    · have hr := half_range (n := n) (by omega)
      rw [if_neg hn, if_neg (by omega)]
      rcases List.eq_nil_or_concat p with rfl | ⟨q, x, rfl⟩
      · simp only [List.getLast?_nil]
        refine ⟨?_, fun h => ?_⟩
        · split <;> simp
        · exfalso
          revert h
          split <;> simp
      · rw [List.concat_eq_append, List.getLast?_append]
        simp only [List.getLast?_singleton, Option.some_or, List.dropLast_concat]
        by_cases hi : i < half n
        · obtain ⟨g1, g2⟩ := madeF_rights f (half n) i m q (by omega) (by omega)
          simp only [if_pos hi]
          rw [g1]
          refine ⟨by simp only [List.length_append, List.length_cons, List.length_nil, Nat.add_right_cancel_iff, Nat.zero_add], fun h => ?_⟩
          have h' : q.length = (rights f (half n) i).length := by simpa using h
          rw [g2 h', List.reverse_cons, List.zip_append (by simpa using h')]
          simp only [List.zip_cons_cons, List.zip_nil_left]
          rw [foldM_snoc]
          simp
        · obtain ⟨g1, g2⟩ := madeF_rights f (n - half n) (i - half n) m q (by omega) (by omega)
          simp only [if_neg hi]
          rw [g1]
          refine ⟨by simp only [List.length_append, List.length_cons, List.length_nil, Nat.add_right_cancel_iff, Nat.zero_add], fun h => ?_⟩
          have h' : q.length = (rights f (n - half n) (i - half n)).length := by simpa using h
          rw [g2 h', List.reverse_cons, List.zip_append (by simpa using h')]
          simp only [List.zip_cons_cons, List.zip_nil_left]
          rw [foldM_snoc]
          simp
theorem frow_nus_dropLast {F : Hp} {p : Option Addr} {l : List Nat} (h : Frow F p (l.map nu)) : Frow F p (l.dropLast.map nu) := by
  rw [List.map_dropLast, List.dropLast_eq_take]; exact frow_take h _
theorem madeF_lt : ∀ (f n i m : Nat) (p : List Nat), m < MM → (madeF f n i m p).1 < MM
  | 0, n, i, m, p, hm => hm
  | f + 1, n, i, m, p, hm => by
    simp only [madeF]
    split
    · exact hm
    · split
      · exact (by decide : (0 : Nat) < MM)
      · split
        · exact twoN_lt _ _
        · exact twoN_lt _ _
attribute [local irreducible] vc vcOps seqK blockK loopK retK retG retI loopV Plain CallOK CallIn bodied VS vcAny dropG backK brK loopPK IntKind.wrap
set_option maxRecDepth 100000
/-- What is wrong with a question, and its answer. -/
def isInBad (n i : Int) : Bool := decide (n < 1) || decide (40 < n) || decide (i < 0) || decide (n ≤ i)
def isInE (n i : Int) (text : List UInt8) : Int := if isInBad n i = true then 4 else if 40 < text.length then 2 else 0
def isInB (r : Nat) (n i : Int) (text : List UInt8) (l : List Nat) : Bool := if isInE n i text = 0 then (madeF n.toNat n.toNat i.toNat (oneN text) l).2 && (((madeF n.toNat n.toNat i.toNat (oneN text) l).1 : Nat) : Int) == (r : Nat) else false
theorem bools_cells (l : List Bool) (x : Bool) (n : Nat) (h : n = l.length) : ((l ++ [x]).map Value.bool).map EV.v = ((l.map Value.bool).map EV.v).take (n * 1) ++ [.v (.bool x)] := by
  subst h
  rw [List.take_of_length_le (by simp)]
  simp
theorem rights_go {f n i : Nat} (h1 : 1 < n) (hf : n ≤ f) : rights f n i = if i < half n then true :: rights f (half n) i else false :: rights f (n - half n) (i - half n) := by
  have hr := half_range (n := n) (by omega)
  obtain ⟨g, rfl⟩ : ∃ g, f = g + 1 := ⟨f - 1, by omega⟩
  simp only [rights]
  rw [if_neg (by omega)]
  split
  · rw [rights_fuel g (g + 1) _ _ (by omega) (by omega)]; simp only [rights]
  · rw [rights_fuel g (g + 1) (n - half n) _ (by omega) (by omega)]; simp only [rights]
theorem rights_stop {f n i : Nat} (h1 : ¬ 1 < n) : rights f n i = [] := by
  cases f with
  | zero => rfl
  | succ f => simp only [rights]; rw [if_pos (by omega)]
def rmOk (n i : Nat) (l : List Nat) : Bool := decide (l.length = (rights n n i).length)
def rmN (n i : Nat) (text : List UInt8) (l : List Nat) : Nat := if rmOk n i l = true then foldM (oneN text) (l.zip (rights n n i).reverse) else 0
theorem foldM_lt (m : Nat) (l : List (Nat × Bool)) (hm : m < MM) : foldM m l < MM := by
  rcases List.eq_nil_or_concat l with rfl | ⟨q, x, rfl⟩
  · exact hm
  · rw [List.concat_eq_append, foldM_snoc]
    split
    · exact twoN_lt _ _
    · exact twoN_lt _ _
end Go.Proofs.Ythkmfihbpbehfaa
