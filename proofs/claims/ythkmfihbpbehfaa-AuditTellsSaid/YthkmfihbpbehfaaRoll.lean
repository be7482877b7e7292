/-
Package roll and its reference: what is wrong with a roll, halves, the mark of a roll: the walks.
-/
import Derived.Test.YthkmfihbpbehfaaRollMath
import Derived.Test.YthkmfihbpbehfaaWirePut
import Derived.Test.YthkmfihbpbehfaaIdx
namespace Go.Proofs.Ythkmfihbpbehfaa
set_option linter.unusedVariables false
set_option linter.unusedSimpArgs false
open Go.TR
theorem mul2_wrap {k : Nat} (h : k ≤ 2305843009213693951) : IntKind.i64.wrap (2 * (k : Int)) = ((2 * k : Nat) : Int) := by rw [wrap_i64 (by omega) (by omega)]; omega
theorem mul2_wrap' {k : Nat} (h : k ≤ 2305843009213693951) : IntKind.i64.wrap ((k : Int) * 2) = ((2 * k : Nat) : Int) := by rw [wrap_i64 (by omega) (by omega)]; omega
theorem add2_wrap {k : Nat} (h : k ≤ 2305843009213693951) : IntKind.i64.wrap ((k : Int) + (k : Int)) = ((2 * k : Nat) : Int) := by rw [wrap_i64 (by omega) (by omega)]; omega
attribute [local irreducible] vc vcOps seqK blockK loopK retK retG retI loopV Plain CallOK CallIn bodied VS vcAny dropG backK brK loopPK IntKind.wrap
set_option maxRecDepth 100000
theorem rollhalf_ok (n : Nat) (hn : n ≤ 2305843009213693951) (F : Hp) : Plain Try.prog F 166 [i64 n] (i64 (half n : Nat)) := by
  refine plain_vc (N := 11) (rv := [.tmp 2]) tbok mixed Try.func166 rfl rfl rfl rfl rfl ?_
  (refine run ?_; repeat intro b)
  refine s_loopP (fun q : Nat × Nat => halfGo q.1 q.2 n = half n ∧ 1 ≤ q.2 ∧ (q.2 < n ∨ q.2 = 1) ∧ n ≤ q.2 + q.1) (fun q => ⟨[(0, .v (i64 (n : Nat))), (3, .v (i64 (q.2 : Nat)))], F, [], 0⟩) (fun q => q.1) (n, 1) ⟨rfl, Nat.le_refl _, .inr rfl, by simp⟩ (VS.keepN [0, 3] rfl rfl) ?_
  rintro ⟨f, k⟩ ⟨h1, h2, h3, h4⟩
  dsimp only at h1 h2 h3 h4 ⊢
  have hk : k ≤ 2305843009213693951 := by omega
  (refine run ?_; repeat intro b)
  rw [mul2_wrap hk]
  refine s_if (decide (2 * k < n)) ?_ (fun h => ?_) (fun h => ?_)
  · refine congrArg (fun b => some (EV.v (.bool b))) ?_
    rw [decide_eq_decide]; omega
  · have h5 : 2 * k < n := by simpa using h
    obtain ⟨f', rfl⟩ : ∃ f', f = f' + 1 := ⟨f - 1, by omega⟩
    (refine run ?_; repeat intro b)
    rw [mul2_wrap' hk]
    refine s_loopPn (f', 2 * k) ⟨?_, by simp only; omega, .inl h5, by simp only; omega⟩ (by simp only; omega) (VS.keepN [0, 3] rfl rfl)
    rw [← h1, halfGo_step f' k n h5]
  · have h5 : ¬ 2 * k < n := by simpa using h
    (refine run ?_; repeat intro b)
    rw [← h1, halfGo_stop f k n h5]
    rfl
theorem refhalf_ok (n : Nat) (hn : n ≤ 2305843009213693951) (F : Hp) : Plain Try.prog F 100 [i64 n] (i64 (half n : Nat)) := by
  refine plain_vc (N := 13) (rv := [.tmp 2]) tbok mixed Try.func100 rfl rfl rfl rfl rfl ?_
  (refine run ?_; repeat intro b)
  refine s_loopP (fun q : Nat × Nat => halfGo q.1 q.2 n = half n ∧ 1 ≤ q.2 ∧ (q.2 < n ∨ q.2 = 1) ∧ n ≤ q.2 + q.1) (fun q => ⟨[(0, .v (i64 (n : Nat))), (3, .v (i64 (q.2 : Nat)))], F, [], 0⟩) (fun q => q.1) (n, 1) ⟨rfl, Nat.le_refl _, .inr rfl, by simp⟩ (VS.keepN [0, 3] rfl rfl) ?_
  rintro ⟨f, k⟩ ⟨h1, h2, h3, h4⟩
  dsimp only at h1 h2 h3 h4 ⊢
  have hk : k ≤ 2305843009213693951 := by omega
  (refine run ?_; repeat intro b)
  rw [add2_wrap hk]
  refine s_if (decide (2 * k < n)) ?_ (fun h => ?_) (fun h => ?_)
  · refine congrArg (fun b => some (EV.v (.bool b))) ?_
    rw [decide_eq_decide]; omega
  · have h5 : 2 * k < n := by simpa using h
    obtain ⟨f', rfl⟩ : ∃ f', f = f' + 1 := ⟨f - 1, by omega⟩
    (refine run ?_; repeat intro b)
    rw [add2_wrap hk]
    refine s_loopPn (f', 2 * k) ⟨?_, by simp only; omega, .inl h5, by simp only; omega⟩ (by simp only; omega) (VS.keepN [0, 3] rfl rfl)
    rw [← h1, halfGo_step f' k n h5]
  · have h5 : ¬ 2 * k < n := by simpa using h
    (refine run ?_; repeat intro b)
    rw [← h1, halfGo_stop f k n h5]
    rfl
theorem rollone_ok (s : List UInt8) (hs : s.length ≤ 4611686018427387903) (F : Hp) : Plain Try.prog F 165 [S s] (u64 (oneN s : Nat)) := by
  refine plain_vc (N := 8) (rv := [.tmp 2]) tbok mixed Try.func165 rfl rfl rfl rfl rfl ?_
  (refine run ?_; repeat intro b)
  refine s_strR [4] rfl rfl rfl rfl (Nat.le_refl 1) rfl ?_
  (refine run ?_; repeat intro b)
  refine s_pureO rfl rfl rfl (by simp only [bl_S, List.length_cons, List.length_nil]; unfold maxInt; omega) ?_
  refine s_plain _ rfl rfl rfl bd103 rfl (markof_ok (4 :: s) (by simp only [List.length_cons]; omega) F) ?_
  (refine run ?_; repeat intro b)
  rfl
/-- What is left of a slice of strings. -/
theorem frow_strs_take {F : Hp} {p : Option Addr} {l : List (List UInt8)} (h : Frow F p (l.map S)) (k : Nat) : Frow F p ((l.take k).map S) := by
  rw [List.map_take]; exact frow_take h k
theorem frow_strs_drop {F : Hp} {p : Option Addr} {l : List (List UInt8)} (h : Frow F p (l.map S)) {k c : Nat} (hk : k < c) : Frow F (slBase p k c 1) ((l.drop k).map S) := by
  rw [slBase_padd p k c 1 hk, List.map_drop, Nat.mul_one]; exact frow_drop h k
theorem root_ok (F : Hp) : ∀ (f : Nat) (l : List (List UInt8)) (p : Option Addr) (c : Nat), l.length ≤ f → 1 ≤ l.length → l.length ≤ 40 → l.length ≤ c → (∀ s ∈ l, s.length ≤ 40) → Frow F p (l.map S) → Plain Try.prog F 138 [.slice p l.length c] (u64 (rootN l : Nat))
  | 0, l, p, c, h0, h1, _, _, _, _ => by omega
  | f + 1, l, p, c, h0, h1, h40, hc, hs, hf => by
    refine plain_vc (N := 23) (rv := [.tmp 2]) tbok mixed Try.func138 rfl rfl rfl rfl rfl ?_
    (refine run ?_; repeat intro b)
    refine s_if (decide (l.length = 1)) ?_ (fun h => ?_) (fun h => ?_)
    · refine congrArg (fun b => some (EV.v (.bool b))) ?_
      rw [Bool.eq_iff_iff]
      simp only [beq_iff_eq, decide_eq_true_eq]
      omega
    · have h2 : l.length = 1 := by simpa using h
      obtain ⟨s, rfl⟩ : ∃ s, l = [s] := by
        match l, h2 with
        | [s], _ => exact ⟨s, rfl⟩
      have := hs s (by simp)
      (refine run ?_; repeat intro b)
      refine s_pureO rfl rfl rfl ⟨by omega, by simp, frow_some hf (j := 0) (by simp)⟩ ?_
      refine s_load (S s) rfl rfl rfl rfl (frow_get hf (j := 0) (by simp)) ?_
      (refine run ?_; repeat intro b)
      refine s_plain _ rfl rfl rfl bd165 rfl (rollone_ok s (by omega) F) ?_
      (refine run ?_; repeat intro b)
      rfl
    · have h2 : l.length ≠ 1 := by simpa using h
      have hr := half_range (n := l.length) (by omega)
      (refine run ?_; repeat intro b)
      refine s_plain _ rfl rfl rfl bd166 rfl (rollhalf_ok l.length (by omega) F) ?_
      (refine run ?_; repeat intro b)
      refine s_regiond (by kernel_rfl) ?_
      (refine run ?_; repeat intro b)
      refine s_pureO rfl rfl rfl ⟨by omega, by omega⟩ ?_
      have i1 := root_ok F f (l.take (half l.length)) (slBase p 0 c 1) c (by rw [List.length_take]; omega) (by rw [List.length_take]; omega) (by rw [List.length_take]; omega) (by rw [List.length_take]; omega) (fun s h => hs s (List.mem_of_mem_take h)) (by
        have : slBase p 0 c 1 = p := by unfold slBase; cases p <;> simp [Addr.add]
        rw [this]; exact frow_strs_take hf _)
      have e1 : (l.take (half l.length)).length = half l.length := by rw [List.length_take]; omega
      rw [e1] at i1
      rw [Int.toNat_natCast]
      refine s_plain _ rfl rfl rfl bd138 rfl i1 ?_
      (refine run ?_; repeat intro b)
      refine s_pureO rfl rfl rfl ⟨by omega, by omega, by omega⟩ ?_
      have i2 := root_ok F f (l.drop (half l.length)) (slBase p (half l.length) c 1) (c - half l.length) (by rw [List.length_drop]; omega) (by rw [List.length_drop]; omega) (by rw [List.length_drop]; omega) (by rw [List.length_drop]; omega) (fun s h => hs s (List.mem_of_mem_drop h)) (frow_strs_drop hf (by omega))
      have e2 : (l.drop (half l.length)).length = l.length - half l.length := by rw [List.length_drop]
      rw [e2] at i2
      rw [Int.toNat_natCast]
      refine s_plain _ rfl rfl rfl bd138 rfl i2 ?_
      refine s_plain _ rfl rfl rfl bd167 rfl (marktwo_ok 5 _ _ (by decide) (MM_u64 (rootN_lt (by rw [e1]; omega))) (MM_u64 (rootN_lt (l := l.drop (half l.length)) (by rw [e2]; omega))) F) ?_
      (refine run ?_; repeat intro b)
      rw [rootN_two (l := l) (by omega)]
      rfl
theorem long_ok (s : List UInt8) (F : Hp) : Plain Try.prog F 164 [S s] (.bool (decide (40 < s.length))) := by
  refine plain_vc (N := 6) (rv := [.tmp 2]) tbok mixed Try.func164 rfl rfl rfl rfl rfl ?_
  (refine run ?_; repeat intro b)
  have e : decide ((40 : Int) < ((bl (mkB s)).length : Nat)) = decide (40 < s.length) := by rw [decide_eq_decide, bl_S]; omega
  simp only [tupV, e]
theorem rollcheck_ok (l : List (List UInt8)) {p : Option Addr} {c : Nat} {F : Hp} (hf : Frow F p (l.map S)) (hl : l.length ≤ 4611686018427387904) : Plain Try.prog F 137 [.slice p l.length c] (i64 (rollFault l)) := by
  refine plain_vc (N := 15) (rv := [.tmp 2]) tbok mixed Try.func137 rfl rfl rfl rfl rfl ?_
  (refine run ?_; repeat intro b)
  refine s_if (decide (l.length = 0)) ?_ (fun h => ?_) (fun h => ?_)
  · refine congrArg (fun b => some (EV.v (.bool b))) ?_
    rw [Bool.eq_iff_iff]
    simp only [beq_iff_eq, decide_eq_true_eq]
    omega
  · have h2 : l.length = 0 := of_decide_eq_true h
    (refine run ?_; repeat intro b)
    simp only [tupV, rollFault, if_pos h2]
  · have h2 : ¬ l.length = 0 := of_decide_eq_false h
    (refine run ?_; repeat intro b)
    refine s_gplain (.bool (l.any fun s => decide (40 < s.length))) rfl rfl rfl rfl bd47 rfl rfl (fun _ => strs_has _ 164 #[] bd164 l hf hl (fun s _ => long_ok s F)) ?_
    (refine run ?_; repeat intro b)
    have e : decide ((40 : Int) < ((l.length : Nat) : Int)) = decide (40 < l.length) := by rw [decide_eq_decide]; omega
    refine s_if (decide (40 < l.length) || l.any fun s => decide (40 < s.length)) ?_ (fun h => ?_) (fun h => ?_)
    · refine congrArg (fun b => some (EV.v (.bool b))) ?_
      rw [bpick_or, e]
    · (refine run ?_; repeat intro b)
      simp only [Bool.or_eq_true, decide_eq_true_eq] at h
      unfold rollFault
      rw [if_neg h2]
      by_cases h4 : 40 < l.length
      · rw [if_pos h4]; rfl
      · rw [if_neg h4, if_pos (h.resolve_left h4)]; rfl
    · (refine run ?_; repeat intro b)
      simp only [Bool.or_eq_false_iff, decide_eq_false_iff_not] at h
      unfold rollFault
      rw [if_neg h2, if_neg h.1, if_neg (by rw [h.2]; decide)]
      rfl
theorem slBase_zero (p : Option Addr) (c size : Nat) : slBase p 0 c size = p := by unfold slBase; cases p <;> simp [Addr.add]
/-- The stretch of a roll. -/
def cut (l : List (List UInt8)) (i j : Nat) : List (List UInt8) := (l.take j).drop i
theorem cut_len {l : List (List UInt8)} {i j : Nat} (hj : j ≤ l.length) : (cut l i j).length = j - i := by unfold cut; rw [List.length_drop, List.length_take]; omega
theorem cut_take {l : List (List UInt8)} {i j k : Nat} (hj : i + k ≤ j) : (cut l i j).take k = cut l i (i + k) := by
  unfold cut
  rw [List.take_drop, List.take_take, Nat.min_eq_left (by omega)]
theorem cut_drop {l : List (List UInt8)} {i j k : Nat} : (cut l i j).drop k = cut l (i + k) j := by
  unfold cut
  rw [List.drop_drop]
theorem cut_all (l : List (List UInt8)) : cut l 0 l.length = l := by unfold cut; rw [List.take_length, List.drop_zero]
theorem refrollmark_ok (l : List (List UInt8)) {p : Option Addr} {c : Nat} {F : Hp} (hf : Frow F p (l.map S)) (hl : l.length ≤ 40) (hs : ∀ s ∈ l, s.length ≤ 40) : ∀ (f i j : Nat), j - i ≤ f → i < j → j ≤ l.length → Plain Try.prog F 42 [.slice p l.length c, i64 (i : Nat), i64 (j : Nat)] (u64 (rootN (cut l i j) : Nat))
  | 0, i, j, h0, h1, h2 => by omega
  | f + 1, i, j, h0, h1, h2 => by
    refine plain_vc (N := 34) (rv := [.tmp 6]) tbok mixed Try.func42 rfl rfl rfl rfl rfl ?_
    have ew : IntKind.i64.wrap ((j : Int) - (i : Int)) = ((j - i : Nat) : Int) := by rw [wrap_i64 (by omega) (by omega)]; omega
    (refine run ?_; repeat intro b)
    rw [ew]
    refine s_if (decide (j - i = 1)) ?_ (fun h => ?_) (fun h => ?_)
    · refine congrArg (fun b => some (EV.v (.bool b))) ?_
      rw [Bool.eq_iff_iff]
      simp only [beq_iff_eq, decide_eq_true_eq]
      omega
    · have h3 : j - i = 1 := of_decide_eq_true h
      have hlt : i < l.length := by omega
      have hc : cut l i j = [l[i]] := by
        have : j = i + 1 := by omega
        subst this
        unfold cut
        rw [List.take_succ_eq_append_getElem hlt, List.drop_append, List.drop_eq_nil_of_le (by rw [List.length_take]; omega), List.nil_append, List.length_take, Nat.min_eq_left (by omega), Nat.sub_self, List.drop_zero]
      have hsi := hs l[i] (List.getElem_mem hlt)
      (refine run ?_; repeat intro b)
      refine s_pureO rfl rfl rfl ⟨by omega, by omega, frow_some hf (j := i) (by simpa using hlt)⟩ ?_
      refine s_load (S l[i]) rfl rfl rfl rfl (by have := frow_get hf (j := i) (by simpa using hlt); simpa using this) ?_
      (refine run ?_; repeat intro b)
      refine s_pureO rfl rfl rfl (by show ([4] : List UInt8).length + _ ≤ _; simp only [bl_S, List.length_cons, List.length_nil]; unfold maxInt; omega) ?_
      refine s_plain _ rfl rfl rfl bd89 rfl (refmark_ok (4 :: l[i]) (by simp only [List.length_cons]; omega) F) ?_
      (refine run ?_; repeat intro b)
      rw [hc]
      rfl
    · have h3 : ¬ j - i = 1 := of_decide_eq_false h
      have hr := half_range (n := j - i) (by omega)
      have hlen := cut_len (l := l) (i := i) h2
      (refine run ?_; repeat intro b)
      rw [ew]
      refine s_plain _ rfl rfl rfl bd100 rfl (refhalf_ok (j - i) (by omega) F) ?_
      (refine run ?_; repeat intro b)
      have ew2 : IntKind.i64.wrap ((i : Int) + ((half (j - i) : Nat) : Int)) = ((i + half (j - i) : Nat) : Int) := by rw [wrap_i64 (by omega) (by omega)]; omega
      rw [ew2]
      (refine run ?_; repeat intro b)
      refine s_plain _ rfl rfl rfl bd42 rfl (refrollmark_ok l hf hl hs f i (i + half (j - i)) (by omega) (by omega) (by omega)) ?_
      (refine run ?_; repeat intro b)
      refine s_plain _ rfl rfl rfl bd42 rfl (refrollmark_ok l hf hl hs f (i + half (j - i)) j (by omega) (by omega) (by omega)) ?_
      refine s_plain _ rfl rfl rfl bd101 rfl (reftwo_ok 5 _ _ (by decide) (MM_u64 (rootN_lt (by rw [cut_len (by omega)]; omega))) (MM_u64 (rootN_lt (by rw [cut_len (by omega)]; omega))) F) ?_
      refine s_plain _ rfl rfl rfl bd89 rfl (refmark_ok (two 5 _ _) (by rw [two_length]; decide) F) ?_
      (refine run ?_; repeat intro b)
      rw [rootN_two (l := cut l i j) (by omega), hlen, cut_take (by omega), cut_drop]
      rfl
theorem Root_ok (l : List (List UInt8)) {p : Option Addr} {c : Nat} {F : Hp} (hf : Frow F p (l.map S)) (hl : l.length ≤ 4611686018427387904) (hc : l.length ≤ c) : Plain Try.prog F 98 [.slice p l.length c] (pair (u64 ((if rollFault l = 0 then rootN l else 0 : Nat) : Nat)) (i64 (rollFault l))) := by
  refine plain_vc (N := 12) (rv := [.tmp 2, .tmp 3]) tbok mixed Try.func98 rfl rfl rfl rfl rfl ?_
  (refine run ?_; repeat intro b)
  refine s_plain _ rfl rfl rfl bd137 rfl (rollcheck_ok l hf hl) ?_
  (refine run ?_; repeat intro b)
  refine s_if _ rfl (fun h => ?_) (fun h => ?_)
  · have h2 : ¬ rollFault l = 0 := by simpa using h
    (refine run ?_; repeat intro b)
    simp only [tupV, if_neg h2]
    rfl
  · have h2 : rollFault l = 0 := by simpa using h
    obtain ⟨h3, h4, h5⟩ := rollFault_zero h2
    (refine run ?_; repeat intro b)
    refine s_plain _ rfl rfl rfl bd138 rfl (root_ok F l.length l p c (Nat.le_refl _) h3 h4 hc h5 hf) ?_
    (refine run ?_; repeat intro b)
    rw [if_pos h2, h2]
    rfl
end Go.Proofs.Ythkmfihbpbehfaa
