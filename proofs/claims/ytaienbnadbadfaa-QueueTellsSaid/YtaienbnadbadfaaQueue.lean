/-
Package queue: right, Check, Wait; the reference's QueueFault, SameAsks, SameQueue: the walks.
-/
import Derived.Test.YtaienbnadbadfaaQueueMath
namespace Go.Proofs.Ytaienbnadbadfaa
set_option linter.unusedVariables false
set_option linter.unusedSimpArgs false
open Go.TR
attribute [local irreducible] vc vcOps seqK blockK loopK retK retG retI loopV Plain CallOK CallIn bodied VS vcAny dropG backK brK loopPK IntKind.wrap
set_option maxRecDepth 100000
theorem queueright_ok (a : Ask) (hw : a.wf) (F : Hp) : Plain Try.prog F 120 [a.v] (i64 (askFault a.name a.value)) := by
  have hn := hw.name
  refine plain_vc (N := 13) (rv := [.tmp 2]) tbok mixed Try.func120 rfl rfl rfl rfl rfl ?_
  (refine run ?_; repeat intro b)
  refine s_plain _ rfl rfl rfl bd148 rfl (name_ok a.name hn F) ?_
  (refine run ?_; repeat intro b)
  refine s_if (!goodName a.name) rfl (fun h => ?_) (fun h => ?_)
  · have h2 : ¬ goodName a.name = true := by simpa using h
    (refine run ?_; repeat intro b)
    simp only [tupV, askFault, if_neg h2]
  · have h2 : goodName a.name = true := by simpa using h
    (refine run ?_; repeat intro b)
    refine s_if (decide (20 < a.value.length)) ?_ (fun h3 => ?_) (fun h3 => ?_)
    · refine congrArg (fun b => some (EV.v (.bool b))) ?_
      rw [decide_eq_decide, bl_S]; omega
    · have h4 : 20 < a.value.length := by simpa using h3
      (refine run ?_; repeat intro b)
      simp only [tupV, askFault, if_pos h2, if_pos h4]
    · have h4 : ¬ 20 < a.value.length := by simpa using h3
      (refine run ?_; repeat intro b)
      simp only [tupV, askFault, if_pos h2, if_neg h4]
set_option maxHeartbeats 1000000 in
theorem queuecheck_ok (q : Queue) (hw : q.wf) {p : Option Addr} {c : Nat} {F : Hp} (hf : Frow F p (q.wait.flatMap Ask.cells)) : Plain Try.prog F 51 [qv q.most p q.wait.length c] (i64 (queueFault q)) := by
  obtain ⟨most, l⟩ := q
  have hl := hw.len
  simp only at hf hl ⊢
  refine plain_vc (N := 35) (rv := [.tmp 2]) tbok mixed Try.func51 rfl rfl rfl rfl rfl ?_
  (refine run ?_; repeat intro b)
  refine s_if (decide (most < 1 ∨ 30 < most)) ?_ (fun h => ?_) (fun h => ?_)
  · refine congrArg (fun b => some (EV.v (.bool b))) ?_
    rw [bpick_or, Bool.decide_or]
  · have h1 : queueFault ⟨most, l⟩ = 4 := by unfold queueFault; rw [if_pos (of_decide_eq_true h)]
    (refine run ?_; repeat intro b)
    rw [h1]
    rfl
  · (refine run ?_; repeat intro b)
    refine s_if (decide (most < (l.length : Int))) rfl (fun h2 => ?_) (fun h2 => ?_)
    · have h1 : queueFault ⟨most, l⟩ = 7 := by unfold queueFault; rw [if_neg (of_decide_eq_false h), if_pos (of_decide_eq_true h2)]
      (refine run ?_; repeat intro b)
      rw [h1]
      rfl
    · have h1 : queueFault ⟨most, l⟩ = asksFault l := by unfold queueFault; rw [if_neg (of_decide_eq_false h), if_neg (of_decide_eq_false h2)]
      rw [h1]
      (refine run ?_; repeat intro b)
      refine s_loopP (fun j : Nat => j ≤ l.length ∧ asksFault l = asksFault (l.drop j)) (fun j => ⟨[(23, .v (.slice p l.length c)), (24, .v (i64 (l.length : Nat))), (25, .v (i64 (j : Nat)))], F, [], 1⟩) (fun j => l.length - j) 0 ⟨Nat.zero_le _, rfl⟩ (VS.dropR [0] rfl (VS.keepN [23, 24, 25] rfl rfl)) ?_
      rintro j ⟨hj, hg⟩
      by_cases hlt : j < l.length
      · obtain ⟨ho1, ho2⟩ := frow_agg ask_cells (by decide) hf j hlt
        have hwa := hw.wait l[j] (List.getElem_mem hlt)
        rw [asksFault_drop hlt] at hg
        have hstep : l.drop j = l[j] :: l.drop (j + 1) := List.drop_eq_getElem_cons hlt
        generalize l[j] = a at hg ho2 hwa
        (refine run ?_; repeat intro b)
        refine s_if true (by rw [← decide_eq_true (p := ((j : Nat) : Int) < ((l.length : Nat) : Int)) (by omega)]; rfl) (fun _ => ?_) (fun h => by cases h)
        (refine run ?_; repeat intro b)
        refine s_pureO rfl rfl rfl ⟨by omega, by omega, frow_some hf (j := j * 4) (by rw [flat_len ask_cells]; omega)⟩ ?_
        refine s_loadA a.cells rfl rfl rfl rfl rfl (by rw [Int.toNat_natCast]; exact ho1) (by rw [Int.toNat_natCast]; exact ho2) ?_
        (refine run ?_; repeat intro b)
        refine s_plain _ rfl rfl rfl bd120 rfl (queueright_ok a hwa F) ?_
        (refine run ?_; repeat intro b)
        refine s_if (decide (askFault a.name a.value ≠ 0)) ?_ (fun h3 => ?_) (fun h3 => ?_)
        · refine congrArg (fun b => some (EV.v (.bool b))) ?_
          rw [Bool.eq_iff_iff]
          simp
        · rw [if_neg (of_decide_eq_true h3)] at hg
          (refine run ?_; repeat intro b)
          rw [hg]
          rfl
        · rw [if_pos (by simpa using h3)] at hg
          (refine run ?_; repeat intro b)
          rw [wrap_succ (by omega)]
          exact s_loopPc (j + 1) [1] [23, 24, 25] ⟨hlt, hg⟩ (by omega) rfl rfl rfl rfl trivial rfl
      · have hge : j = l.length := by omega
        subst hge
        rw [List.drop_length] at hg
        (refine run ?_; repeat intro b)
        refine s_if false (by rw [← decide_eq_false (p := ((l.length : Nat) : Int) < ((l.length : Nat) : Int)) (by omega)]; rfl) (fun h => by cases h) (fun _ => ?_)
        (refine run ?_; repeat intro b)
        rw [hg]
        rfl
set_option maxHeartbeats 1000000 in
theorem refqueue_ok (q : Queue) (hw : q.wf) {p : Option Addr} {c : Nat} {F : Hp} (hf : Frow F p (q.wait.flatMap Ask.cells)) : Plain Try.prog F 50 [qv q.most p q.wait.length c] (i64 (queueFault q)) := by
  obtain ⟨most, l⟩ := q
  have hl := hw.len
  simp only at hf hl ⊢
  refine plain_vc (N := 36) (rv := [.tmp 2]) tbok mixed Try.func50 rfl rfl rfl rfl rfl ?_
  (refine run ?_; repeat intro b)
  refine s_if (decide (most < 1 ∨ 30 < most)) ?_ (fun h => ?_) (fun h => ?_)
  · refine congrArg (fun b => some (EV.v (.bool b))) ?_
    rw [bpick_or, Bool.decide_or]
  · have h1 : queueFault ⟨most, l⟩ = 4 := by unfold queueFault; rw [if_pos (of_decide_eq_true h)]
    (refine run ?_; repeat intro b)
    rw [h1]
    rfl
  · (refine run ?_; repeat intro b)
    refine s_if (decide (most < (l.length : Int))) rfl (fun h2 => ?_) (fun h2 => ?_)
    · have h1 : queueFault ⟨most, l⟩ = 7 := by unfold queueFault; rw [if_neg (of_decide_eq_false h), if_pos (of_decide_eq_true h2)]
      (refine run ?_; repeat intro b)
      rw [h1]
      rfl
    · have h1 : queueFault ⟨most, l⟩ = asksFault l := by unfold queueFault; rw [if_neg (of_decide_eq_false h), if_neg (of_decide_eq_false h2)]
      rw [h1]
      (refine run ?_; repeat intro b)
      refine s_loopP (fun j : Nat => j ≤ l.length ∧ asksFault l = asksFault (l.drop j)) (fun j => ⟨[(21, .v (.slice p l.length c)), (22, .v (i64 (l.length : Nat))), (23, .v (i64 (j : Nat)))], F, [], 1⟩) (fun j => l.length - j) 0 ⟨Nat.zero_le _, rfl⟩ (VS.dropR [0] rfl (VS.keepN [21, 22, 23] rfl rfl)) ?_
      rintro j ⟨hj, hg⟩
      by_cases hlt : j < l.length
      · obtain ⟨ho1, ho2⟩ := frow_agg ask_cells (by decide) hf j hlt
        have hwa := hw.wait l[j] (List.getElem_mem hlt)
        rw [asksFault_drop hlt] at hg
        generalize l[j] = a at hg ho2 hwa
        (refine run ?_; repeat intro b)
        refine s_if true (by rw [← decide_eq_true (p := ((j : Nat) : Int) < ((l.length : Nat) : Int)) (by omega)]; rfl) (fun _ => ?_) (fun h => by cases h)
        (refine run ?_; repeat intro b)
        refine s_pureO rfl rfl rfl ⟨by omega, by omega, frow_some hf (j := j * 4) (by rw [flat_len ask_cells]; omega)⟩ ?_
        refine s_loadA a.cells rfl rfl rfl rfl rfl (by rw [Int.toNat_natCast]; exact ho1) (by rw [Int.toNat_natCast]; exact ho2) ?_
        (refine run ?_; repeat intro b)
        refine s_plain _ rfl rfl rfl bd53 rfl (askfault_ok a.name a.value hwa.name F) ?_
        (refine run ?_; repeat intro b)
        refine s_if (decide (askFault a.name a.value ≠ 0)) ?_ (fun h3 => ?_) (fun h3 => ?_)
        · refine congrArg (fun b => some (EV.v (.bool b))) ?_
          rw [Bool.eq_iff_iff]
          simp
        · rw [if_neg (of_decide_eq_true h3)] at hg
          (refine run ?_; repeat intro b)
          rw [hg]
          rfl
        · rw [if_pos (by simpa using h3)] at hg
          (refine run ?_; repeat intro b)
          rw [wrap_succ (by omega)]
          exact s_loopPc (j + 1) [1] [21, 22, 23] ⟨hlt, hg⟩ (by omega) rfl rfl rfl rfl trivial rfl
      · have hge : j = l.length := by omega
        subst hge
        rw [List.drop_length] at hg
        (refine run ?_; repeat intro b)
        refine s_if false (by rw [← decide_eq_false (p := ((l.length : Nat) : Int) < ((l.length : Nat) : Int)) (by omega)]; rfl) (fun h => by cases h) (fun _ => ?_)
        (refine run ?_; repeat intro b)
        rw [hg]
        rfl
def waitBad (ahead batch every : Int) : Bool := decide (ahead < 0) || decide (30 < ahead) || decide (batch < 1) || decide (30 < batch) || decide (every < 1) || decide (1000 < every)
def waitE (ahead batch every : Int) : Int := if waitBad ahead batch every = true then 4 else 0
def waitN (ahead batch every : Int) : Int := if waitBad ahead batch every = true then 0 else (ahead / batch + 1) * every
theorem waitBad_false {ahead batch every : Int} (h : waitBad ahead batch every = false) : 0 ≤ ahead ∧ ahead ≤ 30 ∧ 1 ≤ batch ∧ batch ≤ 30 ∧ 1 ≤ every ∧ every ≤ 1000 := by
  unfold waitBad at h
  simp only [Bool.or_eq_false_iff, decide_eq_false_iff_not] at h
  omega
theorem queuewait_ok (ahead batch every : Int) (F : Hp) : Plain Try.prog F 49 [i64 ahead, i64 batch, i64 every] (pair (i64 (waitN ahead batch every)) (i64 (waitE ahead batch every))) := by
  refine plain_vc (N := 36) (rv := [.tmp 6, .tmp 7]) tbok mixed Try.func49 rfl rfl rfl rfl rfl ?_
  (refine run ?_; repeat intro b)
  refine s_if (waitBad ahead batch every) ?_ (fun h => ?_) (fun h => ?_)
  · refine congrArg (fun b => some (EV.v (.bool b))) ?_
    rw [bpick_or, bpick_or, bpick_or, bpick_or, bpick_or]
    rfl
  · have h1 : waitE ahead batch every = 4 := by unfold waitE; rw [if_pos h]
    have h2 : waitN ahead batch every = 0 := by unfold waitN; rw [if_pos h]
    (refine run ?_; repeat intro b)
    rw [h1, h2]
    rfl
  · obtain ⟨g1, g2, g3, g4, g5, g6⟩ := waitBad_false h
    have h1 : waitE ahead batch every = 0 := by unfold waitE; rw [h]; rfl
    have h2 : waitN ahead batch every = (ahead / batch + 1) * every := by unfold waitN; rw [h]; rfl
    have hd : ahead.tdiv batch = ahead / batch := Int.tdiv_eq_ediv_of_nonneg g1
    have hq1 : 0 ≤ ahead / batch := Int.ediv_nonneg g1 (by omega)
    have hq2 : ahead / batch ≤ 30 := Int.le_trans (Int.ediv_le_self _ g1) g2
    have hm1 : 0 ≤ (ahead / batch + 1) * every := Int.mul_nonneg (by omega) (by omega)
    have hm2 : (ahead / batch + 1) * every ≤ 31 * 1000 := Int.mul_le_mul (by omega) g6 (by omega) (by omega)
    (refine run ?_; repeat intro b)
    refine s_pureO rfl rfl rfl (by omega) ?_
    (refine run ?_; repeat intro b)
    rw [hd, wrap_i64 (n := ahead / batch) (by omega) (by omega), wrap_i64 (n := ahead / batch + 1) (by omega) (by omega), wrap_i64 (by omega) (by omega), h1, h2]
    rfl
end Go.Proofs.Ytaienbnadbadfaa
