/-
Package chain: Check; the reference's Links, ChainFault, HeadOf: the walks.
-/
import Derived.Test.YthkkgphjjmhglaaGreatDoorSetChain
namespace Go.Proofs.YthkkgphjjmhglaaGreatDoor
set_option linter.unusedVariables false
set_option linter.unusedSimpArgs false
open Go.TR
attribute [local irreducible] vc vcOps seqK blockK loopK retK retG retI loopV Plain CallOK CallIn bodied VS vcAny dropG backK brK loopPK IntKind.wrap
set_option maxRecDepth 100000
set_option maxHeartbeats 4000000 in
theorem links_ok (x y : Head) (ha : x.wf) (hb : y.wf) (F : Hp) : Plain Tryz.prog F 105 [x.v, y.v] (.bool (links x y)) := by
  refine plain_vc (N := 35) (rv := [.tmp 4]) tbok mixed Tryz.func105 rfl rfl rfl rfl rfl ?_
  (refine run ?_; repeat intro b)
  refine s_regiond (by kernel_rfl) ?_
  (refine run ?_; repeat intro b)
  refine s_plain _ rfl rfl rfl bd46 rfl (reffault_ok x F) ?_
  (refine run ?_; repeat intro b)
  refine s_gplain _ rfl rfl rfl rfl bd46 rfl rfl (fun _ => reffault_ok y F) ?_
  (refine run ?_; repeat intro b)
  refine s_gplain _ rfl rfl rfl rfl bd77 rfl rfl (fun _ => refheadmark_ok x ha F) ?_
  (refine run ?_; repeat intro b)
  simp only [tupV]
  congr 1
  unfold links
  simp only [bpick_and]
  by_cases h1 : x.fault = 0
  · have hr := Head.ok_of h1
    have hw : IntKind.i64.wrap (x.epoch + 1) = x.epoch + 1 := wrap_i64 (by omega) (by omega)
    rw [hw, Bool.eq_iff_iff]
    simp [h1]
    omega
  · simp [h1]
set_option maxHeartbeats 4000000 in
theorem chaincheck_ok (l : List Head) (hl : l.length ≤ 4611686018427387904) (hw : ∀ x ∈ l, x.wf) {p : Option Addr} {c : Nat} {F : Hp} (hf : Frow F p (l.flatMap Head.row)) : Plain Tryz.prog F 73 [.slice p l.length c] (pair (i64 (chainF l).1) (i64 ((chainF l).2 : Nat))) := by
  refine plain_vc (N := 35) (rv := [.tmp 2, .tmp 3]) tbok mixed Tryz.func73 rfl rfl rfl rfl rfl ?_
  (refine run ?_; repeat intro b)
  refine s_if (decide (l.length = 0)) ?_ (fun h => ?_) (fun h => ?_)
  · refine congrArg (fun b => some (EV.v (.bool b))) ?_
    rw [Bool.eq_iff_iff]; simp
  · have e : chainF l = (5, 0) := by unfold chainF; rw [if_pos (of_decide_eq_true h)]
    (refine run ?_; repeat intro b)
    rw [e]
    rfl
  · have h0 : ¬ l.length = 0 := of_decide_eq_false h
    (refine run ?_; repeat intro b)
    refine s_if (decide (40 < l.length)) ?_ (fun h => ?_) (fun h => ?_)
    · refine congrArg (fun b => some (EV.v (.bool b))) ?_
      rw [Bool.eq_iff_iff, decide_eq_true_eq, decide_eq_true_eq]; omega
    · have e : chainF l = (2, 0) := by unfold chainF; rw [if_neg h0, if_pos (of_decide_eq_true h)]
      (refine run ?_; repeat intro b)
      rw [e]
      rfl
    · have h1 : ¬ 40 < l.length := of_decide_eq_false h
      have e : chainF l = chainT l := by unfold chainF; rw [if_neg h0, if_neg h1]
      (refine run ?_; repeat intro b)
      refine s_loopP (fun k : Nat => k ≤ l.length ∧ badAt l 0 = badAt (l.drop k) k) (fun k => ⟨[(0, .v (.slice p l.length c)), (16, .v (.slice p l.length c)), (17, .v (i64 (l.length : Nat))), (18, .v (i64 (k : Nat)))], F, [], 0⟩) (fun k => l.length - k) 0 ⟨Nat.zero_le _, rfl⟩ (VS.keepN [0, 16, 17, 18] rfl rfl) ?_
      rintro k ⟨hk, hu⟩
      by_cases hlt : k < l.length
      · obtain ⟨o1, o2⟩ := frow_agg head_row (by decide) hf k hlt
        rw [badAt_drop hlt] at hu
        generalize l[k] = x at hu o2
        (refine run ?_; repeat intro b)
        refine s_if true (by rw [← decide_eq_true (p := ((k : Nat) : Int) < ((l.length : Nat) : Int)) (by omega)]; rfl) (fun _ => ?_) (fun h => by cases h)
        (refine run ?_; repeat intro b)
        refine s_pureO rfl rfl rfl ⟨by omega, by omega, frow_some hf (j := k * 4) (by rw [flat_len head_row]; omega)⟩ ?_
        refine s_loadA x.row rfl rfl rfl rfl rfl (by rw [Int.toNat_natCast]; exact o1) (by rw [Int.toNat_natCast]; exact o2) ?_
        (refine run ?_; repeat intro b)
        refine s_plain _ rfl rfl rfl bd44 rfl (headcheck_ok x F) ?_
        (refine run ?_; repeat intro b)
        refine s_if (decide (x.fault ≠ 0)) ?_ (fun h => ?_) (fun h => ?_)
        · refine congrArg (fun b => some (EV.v (.bool b))) ?_
          rw [Bool.eq_iff_iff]; simp
        · rw [if_neg (of_decide_eq_true h)] at hu
          (refine run ?_; repeat intro b)
          rw [e, chainT_bad hu]
          rfl
        · rw [if_pos (by simpa using h)] at hu
          (refine run ?_; repeat intro b)
          rw [wrap_succ (by omega)]
          exact s_loopPc (k + 1) [0] [0, 16, 17, 18] ⟨hlt, hu⟩ (by omega) rfl rfl rfl rfl trivial rfl
      · have hge : k = l.length := by omega
        subst hge
        rw [List.drop_length] at hu
        have hv := badAt_none hu
        (refine run ?_; repeat intro b)
        refine s_if false (by rw [← decide_eq_false (p := ((l.length : Nat) : Int) < ((l.length : Nat) : Int)) (by omega)]; rfl) (fun h => by cases h) (fun _ => ?_)
        (refine run ?_; repeat intro b)
        refine s_plain _ rfl rfl rfl bd120 rfl (linked_ok l hl hw hv hf) ?_
        (refine run ?_; repeat intro b)
        cases hun : unl l 1 with
        | none =>
          have e1 : unlI l = -1 := by unfold unlI; rw [hun]
          rw [e1]
          (refine run ?_; repeat intro b)
          rw [e, chainT_ok hu hun]
          rfl
        | some i =>
          have e1 : unlI l = (i : Int) := by unfold unlI; rw [hun]
          rw [e1]
          refine s_if true ?_ (fun _ => ?_) (fun h => by cases h)
          · exact congrArg (fun b => some (EV.v (.bool b))) (decide_eq_true (by omega))
          (refine run ?_; repeat intro b)
          rw [e, chainT_unl hu hun]
          rfl
set_option maxHeartbeats 4000000 in
theorem refchain_ok (l : List Head) (hl : l.length ≤ 4611686018427387904) (hw : ∀ x ∈ l, x.wf) {p : Option Addr} {c : Nat} {F : Hp} (hf : Frow F p (l.flatMap Head.row)) : Plain Tryz.prog F 50 [.slice p l.length c] (pair (i64 (chainF l).1) (i64 ((chainF l).2 : Nat))) := by
  refine plain_vc (N := 46) (rv := [.tmp 2, .tmp 3]) tbok mixed Tryz.func50 rfl rfl rfl rfl rfl ?_
  (refine run ?_; repeat intro b)
  refine s_if (decide (l.length = 0)) ?_ (fun h => ?_) (fun h => ?_)
  · refine congrArg (fun b => some (EV.v (.bool b))) ?_
    rw [Bool.eq_iff_iff]; simp
  · have e : chainF l = (5, 0) := by unfold chainF; rw [if_pos (of_decide_eq_true h)]
    (refine run ?_; repeat intro b)
    rw [e]
    rfl
  · have h0 : ¬ l.length = 0 := of_decide_eq_false h
    (refine run ?_; repeat intro b)
    refine s_if (decide (40 < l.length)) ?_ (fun h => ?_) (fun h => ?_)
    · refine congrArg (fun b => some (EV.v (.bool b))) ?_
      rw [Bool.eq_iff_iff, decide_eq_true_eq, decide_eq_true_eq]; omega
    · have e : chainF l = (2, 0) := by unfold chainF; rw [if_neg h0, if_pos (of_decide_eq_true h)]
      (refine run ?_; repeat intro b)
      rw [e]
      rfl
    · have h1 : ¬ 40 < l.length := of_decide_eq_false h
      have e : chainF l = chainT l := by unfold chainF; rw [if_neg h0, if_neg h1]
      (refine run ?_; repeat intro b)
      refine s_loopP (fun k : Nat => k ≤ l.length ∧ badAt l 0 = badAt (l.drop k) k) (fun k => ⟨[(0, .v (.slice p l.length c)), (14, .v (.slice p l.length c)), (15, .v (i64 (l.length : Nat))), (16, .v (i64 (k : Nat)))], F, [], 0⟩) (fun k => l.length - k) 0 ⟨Nat.zero_le _, rfl⟩ (VS.keepN [0, 14, 15, 16] rfl rfl) ?_
      rintro k ⟨hk, hu⟩
      by_cases hlt : k < l.length
      · obtain ⟨o1, o2⟩ := frow_agg head_row (by decide) hf k hlt
        rw [badAt_drop hlt] at hu
        generalize l[k] = x at hu o2
        (refine run ?_; repeat intro b)
        refine s_if true (by rw [← decide_eq_true (p := ((k : Nat) : Int) < ((l.length : Nat) : Int)) (by omega)]; rfl) (fun _ => ?_) (fun h => by cases h)
        (refine run ?_; repeat intro b)
        refine s_pureO rfl rfl rfl ⟨by omega, by omega, frow_some hf (j := k * 4) (by rw [flat_len head_row]; omega)⟩ ?_
        refine s_loadA x.row rfl rfl rfl rfl rfl (by rw [Int.toNat_natCast]; exact o1) (by rw [Int.toNat_natCast]; exact o2) ?_
        (refine run ?_; repeat intro b)
        refine s_plain _ rfl rfl rfl bd46 rfl (reffault_ok x F) ?_
        (refine run ?_; repeat intro b)
        refine s_if (decide (x.fault ≠ 0)) ?_ (fun h => ?_) (fun h => ?_)
        · refine congrArg (fun b => some (EV.v (.bool b))) ?_
          rw [Bool.eq_iff_iff]; simp
        · rw [if_neg (of_decide_eq_true h)] at hu
          (refine run ?_; repeat intro b)
          rw [e, chainT_bad hu]
          rfl
        · rw [if_pos (by simpa using h)] at hu
          (refine run ?_; repeat intro b)
          rw [wrap_succ (by omega)]
          exact s_loopPc (k + 1) [0] [0, 14, 15, 16] ⟨hlt, hu⟩ (by omega) rfl rfl rfl rfl trivial rfl
      · have hge : k = l.length := by omega
        subst hge
        rw [List.drop_length] at hu
        have hv := badAt_none hu
        (refine run ?_; repeat intro b)
        refine s_if false (by rw [← decide_eq_false (p := ((l.length : Nat) : Int) < ((l.length : Nat) : Int)) (by omega)]; rfl) (fun h => by cases h) (fun _ => ?_)
        (refine run ?_; repeat intro b)
        refine s_loopP (fun k : Nat => (k = 0 ∨ k + 1 ≤ l.length) ∧ unl l 1 = unl (l.drop k) (k + 1)) (fun k => ⟨[(0, .v (.slice p l.length c)), (7, .v (i64 ((k + 1 : Nat) : Nat)))], F, [], 0⟩) (fun k => l.length - k) 0 ⟨.inl rfl, rfl⟩ (VS.keepN [0, 7] rfl rfl) ?_
        rintro k ⟨hk, hu2⟩
        by_cases hlt : k + 1 < l.length
        · have hlt0 : k < l.length := by omega
          obtain ⟨o1, o2⟩ := frow_agg head_row (by decide) hf k hlt0
          obtain ⟨o3, o4⟩ := frow_agg head_row (by decide) hf (k + 1) hlt
          rw [unl_drop hlt] at hu2
          have w1 := hw l[k] (List.getElem_mem hlt0)
          have w2 := hw l[k + 1] (List.getElem_mem hlt)
          generalize l[k] = a at hu2 o2 w1
          generalize l[k + 1] = y at hu2 o4 w2
          clear hw hv
          have e1 : IntKind.i64.wrap (((k + 1 : Nat) : Int) - 1) = ((k : Nat) : Int) := by rw [wrap_i64 (by omega) (by omega)]; omega
          (refine run ?_; repeat intro b)
          refine s_if true (by rw [← decide_eq_true (p := ((k + 1 : Nat) : Int) < ((l.length : Nat) : Int)) (by omega)]; rfl) (fun _ => ?_) (fun h => by cases h)
          (refine run ?_; repeat intro b)
          refine s_regiond (by kernel_rfl) ?_
          (refine run ?_; repeat intro b)
          rw [e1]
          refine s_pureO rfl rfl rfl ⟨by omega, by omega, frow_some hf (j := k * 4) (by rw [flat_len head_row]; omega)⟩ ?_
          refine s_loadA a.row rfl rfl rfl rfl rfl (by rw [Int.toNat_natCast]; exact o1) (by rw [Int.toNat_natCast]; exact o2) ?_
          (refine run ?_; repeat intro b)
          refine s_pureO rfl rfl rfl ⟨by omega, by omega, frow_some hf (j := (k + 1) * 4) (by rw [flat_len head_row]; omega)⟩ ?_
          refine s_loadA y.row rfl rfl rfl rfl rfl (by rw [Int.toNat_natCast]; exact o3) (by rw [Int.toNat_natCast]; exact o4) ?_
          (refine run ?_; repeat intro b)
          refine s_plain _ rfl rfl rfl bd105 rfl (links_ok a y w1 w2 F) ?_
          (refine run ?_; repeat intro b)
          refine s_if (!links a y) rfl (fun h => ?_) (fun h => ?_)
          · have h1 : ¬ links a y = true := by simpa using h
            rw [if_neg h1] at hu2
            (refine run ?_; repeat intro b)
            rw [e, chainT_unl hu hu2]
            rfl
          · have h1 : links a y = true := by simpa using h
            rw [if_pos h1] at hu2
            (refine run ?_; repeat intro b)
            rw [wrap_succ (by omega)]
            exact s_loopPn (k + 1) ⟨.inr (by omega), hu2⟩ (by omega) (VS.keepN [0, 7] rfl rfl)
        · have hge : l.length ≤ k + 1 := by omega
          rw [unl_end hge] at hu2
          (refine run ?_; repeat intro b)
          refine s_if false (by rw [← decide_eq_false (p := ((k + 1 : Nat) : Int) < ((l.length : Nat) : Int)) (by omega)]; rfl) (fun h => by cases h) (fun _ => ?_)
          (refine run ?_; repeat intro b)
          rw [e, chainT_ok hu hu2]
          rfl
end Go.Proofs.YthkkgphjjmhglaaGreatDoor
