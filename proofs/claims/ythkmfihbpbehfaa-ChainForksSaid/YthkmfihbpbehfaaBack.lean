/-
slices.Backward over a slice of pairs of heads: the iterator's contract.
-/
import Derived.RangeFuncNested
import Derived.RangeFuncBound
import Derived.RangeFuncCalls
import Derived.RangeFuncLeaves
import Derived.Shelf.Abstract
import Derived.Shelf.RegionOpen
import Derived.WalkKit
import Derived.OwnWalkIn
import Derived.TacticsInMore
import Derived.LoopNIn
import Derived.LoopIn
import Derived.Test.YthkmfihbpbehfaaForkMath
namespace Go.Proofs.Ythkmfihbpbehfaa
set_option linter.unusedVariables false
set_option linter.unusedSimpArgs false
open Go.TR Go.RowKit Go.Shelf
attribute [local go_sem] Oper.semAt_some
abbrev HP : Type := Head × Head
/-- What has come from the back, k elements being left. -/
def come (n k : Nat) : List (Fin n) := ((List.finRange n).drop k).reverse
theorem come_len (n k : Nat) : (come n k).length = n - k := by simp [come]
theorem come_start (n : Nat) : come n n = [] := by rw [come, List.drop_eq_nil_of_le (by simp)]; rfl
theorem come_succ {n k : Nat} (hk : k < n) : come n k = come n (k + 1) ++ [⟨k, hk⟩] := by
  rw [come, List.drop_eq_getElem_cons (by simpa using hk), List.reverse_cons]
  simp [come]
theorem pair_cell {L : List HP} {k : Nat} (hk : k < L.length) {j : Nat} {v : Value} (hj : (row2 L[k])[j]? = some v) : (L.flatMap row2)[k * 8 + j]? = some v := by
  have hjl : j < 8 := (List.getElem?_eq_some_iff.1 hj).1
  rw [← hj]
  exact flat_get row2_len L k j hk hjl
def yencs (L : List HP) (x : Fin L.length) : Array Value := #[.int .i64 (x.val : Int), .agg (row2 L[x.val]).toArray]
set_option maxRecDepth 100000 in
set_option maxHeartbeats 2000000 in
theorem back1_in (F : Fence) (n : Nat) (hf : F.fn 134) (hro : F.round = none) (hn : 1 ≤ n) (l Bs n₀ b off cap : Nat) (L : List HP) (hreach : L.length ≤ 4611686018427387904) (hb : b < n₀) (J Jx : List (Fin L.length) → World → Prop)
    (hY : ∀ pre x W, J pre W → pre.length < L.length → YieldAt F (n - 1) Try.prog l (yencs L x) W fun e W' =>
      (e = .returned (.bool true) ∧ J (pre ++ [x]) W' ∧ Below n₀ W W') ∨ (e = .returned (.bool false) ∧ Jx (pre ++ [x]) W'))
    (W : World) (hBs : W.cell? ⟨Bs, 0, none⟩ = some (.slice (some ⟨b, off, none⟩) L.length cap)) (hBn : Bs < n₀) (hc : ∀ j v, (L.flatMap row2)[j]? = some v → W.cell? ⟨b, off + j, none⟩ = some v) (h0 : J [] W) :
    CallsIn F n Try.prog 134 #[.func (.yield l) #[] #[], .pointer (some ⟨Bs, 0, none⟩)] W fun e W' => (∃ v, e = .returned v) ∧
      ((∃ ys, ys = come L.length 0 ∧ J ys W') ∨ (∃ pre, (∃ k, k ≤ L.length ∧ pre = come L.length k) ∧ Jx pre W')) := by
  refine callsIn_of_wp Try.func134 rfl hf ?_ hro
  simp only [Try.ntmps134, List.size_toArray, List.length_cons, List.length_nil, Nat.reduceAdd, Nat.reduceSub, Array.replicate_succ, Array.replicate_zero, List.push_toArray, List.append_toArray, List.nil_append, List.cons_append]
  gi_wp2
  gi_loopw [3] (fun i wr => ∃ k : Nat, k ≤ L.length ∧ i = .int .i64 ((k : Int) - 1) ∧ J (come L.length k) wr ∧ Below n₀ W wr)
    (fun i _ => (intOf i + 1).toNat)
  case atStart =>
    refine ⟨L.length, Nat.le_refl _, ?_, by rw [come_start]; exact h0, Below.refl _ _⟩
    rfl
  case round =>
    obtain ⟨k, hk, hp, hJs, hnx⟩ := hrel
    cases k with
    | succ k =>
      replace hp := hp.trans (show Value.int .i64 (((k + 1 : Nat) : Int) - 1) = .int .i64 (k : Int) by congr 1; omega)
      subst hp
      obtain ⟨fn, tmps, assign, body, hy, hR⟩ := hY _ ⟨k, hk⟩ wr hJs (by rw [come_len]; omega)
      have hBs' := (hnx.cell (p := ⟨Bs, 0, none⟩) hBn).trans hBs
      have hcs : ∀ j v, (row2 L[k])[j]? = some v → wr.cell? ⟨b, off + k * 8 + j, none⟩ = some v := fun j v hj => (hnx.cell (p := ⟨b, off + k * 8 + j, none⟩) hb).trans (by
        rw [Nat.add_assoc]
        exact hc _ v (pair_cell hk hj))
      have hcm := come_succ (n := L.length) hk
      have c0 := hcs 0 _ rfl
      have c1 := hcs 1 _ rfl
      have c2 := hcs 2 _ rfl
      have c3 := hcs 3 _ rfl
      have c4 := hcs 4 _ rfl
      have c5 := hcs 5 _ rfl
      have c6 := hcs 6 _ rfl
      have c7 := hcs 7 _ rfl
      simp only [Nat.add_zero] at c0
      simp only [yencs, row2, Head.row, List.cons_append, List.nil_append] at hy
      generalize L[k] = q at hy c0 c1 c2 c3 c4 c5 c6 c7
      clear hcs
      gi_wp2
      refine hR.mono ?_
      rintro e W3 (⟨rfl, hJ3, hk3⟩ | ⟨rfl, hJx3⟩)
      · gi_wp2
        go_roundw
        case rel => exact ⟨k, by omega, rfl, by rw [hcm]; exact hJ3, hnx.trans hk3⟩
        case measure => simp [intOf]
      · gi_wp2
        refine bodyPost_ret (results_none rfl _ _ _) rfl ?_
        exact ⟨⟨_, rfl⟩, .inr ⟨_, ⟨k, by omega, hcm.symm⟩, hJx3⟩⟩
    | zero =>
      subst hp
      gi_wp2
      go_end0
      exact ⟨⟨_, rfl⟩, .inl ⟨_, rfl, hJs⟩⟩
theorem back_stops (F : Fence) (n : Nat) (hf : F.fn 134) (hro : F.round = none) (hn : 1 ≤ n) (Bs n₀ b off cap : Nat) (L : List HP) (hreach : L.length ≤ 4611686018427387904) (hb : b < n₀) (hBn : Bs < n₀) (w : World) (hn₀ : n₀ ≤ w.heap.size)
    (hBs : w.cell? ⟨Bs, 0, none⟩ = some (.slice (some ⟨b, off, none⟩) L.length cap)) (hc : ∀ j v, (L.flatMap row2)[j]? = some v → w.cell? ⟨b, off + j, none⟩ = some v) :
    SeqStopsK F n Try.prog 134 #[.pointer (some ⟨Bs, 0, none⟩)] (yencs L) (Below n₀) (fun ys => ys = come L.length 0) (fun pre => ∃ k, k ≤ L.length ∧ pre = come L.length k) L.length w := fun l J Jx W hW _ _ hY h0 =>
  back1_in F n hf hro hn l Bs n₀ b off cap L hreach hb J Jx hY W ((hW.cell (p := ⟨Bs, 0, none⟩) (Nat.lt_of_lt_of_le hBn hn₀)).trans hBs) hBn (fun j v hj => (hW.cell (p := ⟨b, off + j, none⟩) (Nat.lt_of_lt_of_le hb hn₀)).trans (hc j v hj)) h0
set_option maxHeartbeats 1000000 in
theorem back_alloc (p : Option Addr) (len cap : Nat) (w : World) : CallsIn Fence.wide 3 Try.prog 87 #[.slice p len cap] w fun e w' => e = .returned (.func (.func 134) #[] #[.pointer (some ⟨w.heap.size, 0, none⟩)]) ∧ w' = w.alloc (.cells #[.slice p len cap] 137) := by
  refine callsIn_of_wp Try.func87 rfl trivial ?_ rfl
  simp only [Try.ntmps87, List.size_toArray, List.length_cons, List.length_nil, Nat.reduceAdd, Nat.reduceSub, Array.replicate_succ, Array.replicate_zero, List.push_toArray, List.append_toArray, List.nil_append, List.cons_append]
  gi_wp2
  go_ret
  exact ⟨rfl, rfl⟩
theorem back_in (p : Option Addr) (len cap : Nat) (F : Hp) : CallF Try.prog F 87 [.slice p len cap] (fun x F' => ∃ b, x = .func (.func 134) #[] #[.pointer (some ⟨b, 0, none⟩)] ∧ Fcell F' ⟨b, 0, none⟩ = some (.slice p len cap)) := by
  intro w hw
  refine (callsIn_wide.1 (back_alloc p len cap w)).mono ?_
  rintro e w' ⟨rfl, rfl⟩
  have hb : F w.heap.size = none := by
    cases h : F w.heap.size with
    | none => rfl
    | some o => have := hw _ _ h; simp at this
  have hbl : Below w.heap.size w (w.alloc (.cells #[.slice p len cap] 137)) := (Below.refl _ w).alloc (Nat.le_refl _) _
  have hnew := World.alloc_heap_new w (.cells #[.slice p len cap] 137)
  refine ⟨_, F.plus w.heap.size (.cells #[.slice p len cap] 137), [], rfl, ?_, ?_, ⟨hbl.os, hbl.tape, hbl.output, hbl.size, fun k hk _ => hbl.block k hk⟩, ?_, ⟨fun id r h => by simp [lkR] at h, fun i j r s b h => by simp [lkR] at h⟩, fun id r b h => by simp [lkR] at h, rfl, _, rfl, ?_⟩
  · intro k o e
    unfold Hp.plus
    rw [if_neg (by rintro rfl; rw [hb] at e; cases e)]
    exact e
  · intro k o e
    unfold Hp.plus at e
    split at e
    · rename_i hk
      cases e
      rw [hk]; exact hnew
    · have := hw _ _ e
      rw [hbl.block k (Array.getElem?_eq_some_iff.1 this).1]; exact this
  · intro k hk
    unfold Hp.plus at hk
    split at hk
    · rename_i h; exact .inr (by omega)
    · exact .inl hk
  · simp [Fcell, Hp.plus]
end Go.Proofs.Ythkmfihbpbehfaa
