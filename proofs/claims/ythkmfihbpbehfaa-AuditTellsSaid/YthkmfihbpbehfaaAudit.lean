/-
Package audit: check, Find, Longest: the walks.
-/
import Derived.Test.YthkmfihbpbehfaaAuditMath
import Derived.Test.YthkmfihbpbehfaaFork
namespace Go.Proofs.Ythkmfihbpbehfaa
set_option linter.unusedVariables false
set_option linter.unusedSimpArgs false
open Go.TR
attribute [local irreducible] vc vcOps seqK blockK loopK retK retG retI loopV Plain CallOK CallIn bodied VS vcAny dropG backK brK loopPK IntKind.wrap
set_option maxRecDepth 100000
set_option maxHeartbeats 4000000 in
theorem auditcheck_ok (ss : List Lie) (hn : ss.length ≤ 4611686018427387904) {pp : Option Addr} {cc : Nat} {F : Hp} (hf : Frow F pp (ss.map Lie.v)) (hs : ∀ s ∈ ss, Lie.at F s) : Plain Try.prog F 95 [.slice pp ss.length cc] (i64 (auditE ss)) := by
  refine plain_vc (N := 25) (rv := [.tmp 2]) tbok mixed Try.func95 rfl rfl rfl rfl rfl ?_
  (refine run ?_; repeat intro b)
  refine s_if (decide (8 < ss.length)) ?_ (fun h => ?_) (fun h => ?_)
  · refine congrArg (fun b => some (EV.v (.bool b))) ?_
    rw [Bool.eq_iff_iff, decide_eq_true_eq, decide_eq_true_eq]; omega
  · have e : auditE ss = 2 := by unfold auditE; rw [if_pos (of_decide_eq_true h)]
    (refine run ?_; repeat intro b)
    rw [e]
    rfl
  · have e : auditE ss = checkF ss := by unfold auditE; rw [if_neg (of_decide_eq_false h)]
    rw [e]
    (refine run ?_; repeat intro b)
    refine s_loopP (fun k : Nat => k ≤ ss.length ∧ checkF ss = checkF (ss.drop k)) (fun k => ⟨[(10, .v (.slice pp ss.length cc)), (11, .v (i64 (ss.length : Nat))), (12, .v (i64 (k : Nat)))], F, [], 0⟩) (fun k => ss.length - k) 0 ⟨Nat.zero_le _, rfl⟩ (VS.keepN [10, 11, 12] rfl rfl) ?_
    rintro k ⟨hk, hu⟩
    by_cases hlt : k < ss.length
    · have g := frow_get hf (j := k) (by rw [List.length_map]; exact hlt)
      rw [List.getElem_map] at g
      obtain ⟨g1, _, g2, g3⟩ := hs ss[k] (List.getElem_mem hlt)
      rw [checkF_drop hlt] at hu
      generalize ss[k] = s at hu g g1 g2 g3
      obtain ⟨ps, ls, cs⟩ := s
      simp only at hu g g1 g2 g3
      (refine run ?_; repeat intro b)
      refine s_if true (by rw [← decide_eq_true (p := ((k : Nat) : Int) < ((ss.length : Nat) : Int)) (by omega)]; rfl) (fun _ => ?_) (fun h => by cases h)
      (refine run ?_; repeat intro b)
      refine s_pureO rfl rfl rfl ⟨by omega, by omega, frow_some hf (j := k) (by rw [List.length_map]; exact hlt)⟩ ?_
      refine s_load (.slice ps ls.length cs) rfl rfl rfl rfl (by rw [Int.toNat_natCast, Nat.mul_one]; exact g) ?_
      (refine run ?_; repeat intro b)
      refine s_plain _ rfl rfl rfl bd28 rfl (chaincheck_ok ls g1 g2 g3) ?_
      (refine run ?_; repeat intro b)
      refine s_if (decide ((chainF ls).1 ≠ 0)) ?_ (fun h => ?_) (fun h => ?_)
      · refine congrArg (fun b => some (EV.v (.bool b))) ?_
        rw [Bool.eq_iff_iff]; simp
      · rw [if_neg (of_decide_eq_true h)] at hu
        (refine run ?_; repeat intro b)
        rw [hu]
        rfl
      · rw [if_pos (by simpa using h)] at hu
        (refine run ?_; repeat intro b)
        rw [wrap_succ (by omega)]
        exact s_loopPn (k + 1) ⟨hlt, hu⟩ (by omega) (VS.keepN [10, 11, 12] rfl rfl)
    · have hge : k = ss.length := by omega
      subst hge
      rw [List.drop_length] at hu
      (refine run ?_; repeat intro b)
      refine s_if false (by rw [← decide_eq_false (p := ((ss.length : Nat) : Int) < ((ss.length : Nat) : Int)) (by omega)]; rfl) (fun h => by cases h) (fun _ => ?_)
      (refine run ?_; repeat intro b)
      rw [hu]
      rfl
theorem lies_len (l : List Lie) : (lies l).length = l.length := List.length_map ..
theorem lie_get {l : List Lie} {k : Nat} (h : k < l.length) : (lies l)[k]'(by rw [lies_len]; exact h) = l[k].2.1 := List.getElem_map ..
set_option maxHeartbeats 4000000 in
theorem find_ok (l : List Lie) (hn : l.length ≤ 4611686018427387904) {p : Option Addr} {c : Nat} {F : Hp} (hf : Frow F p (l.map Lie.v)) (hs : ∀ s ∈ l, Lie.at F s) : Plain Try.prog F 38 [.slice p l.length c] (triple (foundV (findO l)) (.bool (findO l).isSome) (i64 (auditE l))) := by
  refine plain_vc (N := 53) (rv := [.cell 2 75, .tmp 3, .tmp 4]) tbok mixed Try.func38 rfl rfl rfl rfl rfl ?_
  (refine run ?_; repeat intro b)
  generalize b = bb
  refine s_plain _ rfl rfl rfl bd95 rfl (auditcheck_ok l hn hf hs) ?_
  (refine run ?_; repeat intro b)
  refine s_if (decide (auditE l ≠ 0)) ?_ (fun h => ?_) (fun h => ?_)
  · refine congrArg (fun b => some (EV.v (.bool b))) ?_
    rw [Bool.eq_iff_iff]; simp
  · have e : findO l = none := by unfold findO; rw [if_neg (of_decide_eq_true h)]
    rw [e]
    (refine run ?_; repeat intro b)
    rfl
  · have h0 : auditE l = 0 := by simpa using h
    obtain ⟨h8, hz⟩ := auditE_zero h0
    have e : findO l = findI (lies l) 0 := by unfold findO; rw [if_pos h0]
    rw [e, h0]
    (refine run ?_; repeat intro b)
    refine s_loopP (fun i : Nat => i ≤ l.length ∧ findI (lies l) 0 = findI ((lies l).drop i) i) (fun i => ⟨[(0, .v (.slice p l.length c)), (2, .loc 0 0), (17, .v (.slice p l.length c)), (18, .v (i64 (l.length : Nat))), (19, .v (i64 (i : Nat)))], F, [(0, ⟨some bb, [.v (i64 0), .v (i64 0), .v (i64 0)], 75, 3⟩)], 1⟩) (fun i => l.length - i) 0 ⟨Nat.zero_le _, rfl⟩ (VS.keepN [0, 2, 17, 18, 19] rfl rfl) ?_
    rintro i ⟨hi, hu⟩
    by_cases hlt : i < l.length
    · have g := frow_get hf (j := i) (by rw [List.length_map]; exact hlt)
      rw [List.getElem_map] at g
      obtain ⟨g1, _, g2, g3⟩ := hs l[i] (List.getElem_mem hlt)
      have ga := hz l[i] (List.getElem_mem hlt)
      rw [findI_drop (by rw [lies_len]; exact hlt), lie_get hlt] at hu
      generalize l[i] = s at hu g g1 g2 g3 ga
      obtain ⟨ps, a, cs⟩ := s
      simp only at hu g g1 g2 g3 ga
      (refine run ?_; repeat intro b)
      refine s_if true (by rw [← decide_eq_true (p := ((i : Nat) : Int) < ((l.length : Nat) : Int)) (by omega)]; rfl) (fun _ => ?_) (fun h => by cases h)
      (refine run ?_; repeat intro b)
      refine s_pureO rfl rfl rfl ⟨by omega, by omega, frow_some hf (j := i) (by rw [List.length_map]; exact hlt)⟩ ?_
      refine s_load (.slice ps a.length cs) rfl rfl rfl rfl (by rw [Int.toNat_natCast, Nat.mul_one]; exact g) ?_
      (refine run ?_; repeat intro b)
      rw [wrap_succ (by omega)]
      refine s_loopP (fun k : Nat => i + 1 ≤ k ∧ k ≤ l.length ∧ findK a ((lies l).drop (i + 1)) (i + 1) = findK a ((lies l).drop k) k) (fun k => ⟨[(0, .v (.slice p l.length c)), (2, .loc 0 0), (6, .v (i64 (i : Nat))), (7, .v (.slice ps a.length cs)), (8, .v (i64 (k : Nat))), (17, .v (.slice p l.length c)), (18, .v (i64 (l.length : Nat))), (19, .v (i64 (i : Nat)))], F, [(0, ⟨some bb, [.v (i64 0), .v (i64 0), .v (i64 0)], 75, 3⟩)], 1⟩) (fun k => l.length - k) (i + 1) ⟨Nat.le_refl _, hlt, rfl⟩ (VS.keepN [0, 2, 6, 7, 8, 17, 18, 19] rfl rfl) ?_
      rintro k ⟨hk0, hk, hu2⟩
      by_cases hlk : k < l.length
      · have q := frow_get hf (j := k) (by rw [List.length_map]; exact hlk)
        rw [List.getElem_map] at q
        obtain ⟨q1, _, q2, q3⟩ := hs l[k] (List.getElem_mem hlk)
        have gb := hz l[k] (List.getElem_mem hlk)
        rw [findK_drop (k := k) (by rw [lies_len]; exact hlk), lie_get hlk] at hu2
        generalize l[k] = s2 at hu2 q q1 q2 q3 gb
        obtain ⟨ps2, b2, cs2⟩ := s2
        simp only at hu2 q q1 q2 q3 gb
        have hfk := hit_fork ga gb
        (refine run ?_; repeat intro b)
        refine s_if true (by rw [← decide_eq_true (p := ((k : Nat) : Int) < ((l.length : Nat) : Int)) (by omega)]; rfl) (fun _ => ?_) (fun h => by cases h)
        (refine run ?_; repeat intro b)
        refine s_pureO rfl rfl rfl ⟨by omega, by omega, frow_some hf (j := k) (by rw [List.length_map]; exact hlk)⟩ ?_
        refine s_load (.slice ps2 b2.length cs2) rfl rfl rfl rfl (by rw [Int.toNat_natCast, Nat.mul_one]; exact q) ?_
        (refine run ?_; repeat intro b)
        refine s_plain _ rfl rfl rfl bd22 rfl (chainfork_ok a b2 g1 q1 g2 q2 g3 q3) ?_
        (refine run ?_; repeat intro b)
        refine s_if (decide (forkE a b2 = 0 ∧ 0 ≤ forkN a b2)) ?_ (fun h => ?_) (fun h => ?_)
        · refine congrArg (fun b => some (EV.v (.bool b))) ?_
          rw [bpick_and, Bool.eq_iff_iff]
          simp
        · rw [if_pos (of_decide_eq_true h)] at hfk
          rw [hfk] at hu2
          dsimp only at hu2
          rw [hu2] at hu
          dsimp only at hu
          rw [hu]
          (refine run ?_; repeat intro b)
          rfl
        · rw [if_neg (of_decide_eq_false h)] at hfk
          rw [hfk] at hu2
          dsimp only at hu2
          (refine run ?_; repeat intro b)
          rw [wrap_succ (by omega)]
          exact s_loopPn (k + 1) ⟨by omega, hlk, hu2⟩ (by omega) (VS.keepN [0, 2, 6, 7, 8, 17, 18, 19] rfl rfl)
      · have hge : k = l.length := by omega
        subst hge
        rw [List.drop_of_length_le (i := l.length) (by rw [lies_len]; exact Nat.le_refl _)] at hu2
        rw [hu2] at hu
        dsimp only [findK] at hu
        (refine run ?_; repeat intro b)
        refine s_if false (by rw [← decide_eq_false (p := ((l.length : Nat) : Int) < ((l.length : Nat) : Int)) (by omega)]; rfl) (fun h => by cases h) (fun _ => ?_)
        (refine run ?_; repeat intro b)
        rw [wrap_succ (by omega)]
        exact s_loopPn (i + 1) ⟨hlt, hu⟩ (by omega) (VS.keepN [0, 2, 17, 18, 19] rfl rfl)
    · have hge : i = l.length := by omega
      subst hge
      rw [List.drop_of_length_le (i := l.length) (by rw [lies_len]; exact Nat.le_refl _)] at hu
      rw [hu]
      (refine run ?_; repeat intro b)
      refine s_if false (by rw [← decide_eq_false (p := ((l.length : Nat) : Int) < ((l.length : Nat) : Int)) (by omega)]; rfl) (fun h => by cases h) (fun _ => ?_)
      (refine run ?_; repeat intro b)
      rfl
end Go.Proofs.Ythkmfihbpbehfaa
