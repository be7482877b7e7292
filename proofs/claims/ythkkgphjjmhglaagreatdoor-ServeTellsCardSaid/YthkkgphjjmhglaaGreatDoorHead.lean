/-
Package head and its reference: what each function computes.
-/
import Derived.Test.YthkkgphjjmhglaaGreatDoorSetReadNum
namespace Go.Proofs.YthkkgphjjmhglaaGreatDoor
set_option linter.unusedVariables false
set_option linter.unusedSimpArgs false
open Go.TR
attribute [local irreducible] vc vcOps seqK blockK loopK retK retG retI loopV Plain CallOK CallIn bodied VS vcAny dropG backK brK loopPK IntKind.wrap
set_option maxRecDepth 100000
theorem bad1_val (h : Head) : (decide (h.epoch < 0) || decide (1000000 < h.epoch) || decide ((2305843009213693951 : Int) ≤ (h.root : Int)) || decide ((2305843009213693951 : Int) ≤ (h.prev : Int)) || decide (h.at_ < 0) || decide (1000000000 < h.at_)) = h.bad1 := by
  unfold Head.bad1
  rw [geq_MM, geq_MM]
theorem reffault_ok (h : Head) (F : Hp) : Plain Tryz.prog F 46 [h.v] (i64 h.fault) := by
  refine plain_vc (N := 39) (rv := [.tmp 2]) tbok mixed Tryz.func46 rfl rfl rfl rfl rfl ?_
  (refine run ?_; repeat intro b)
  refine s_if h.bad1 ?_ (fun h1 => ?_) (fun h1 => ?_)
  · simp only [← bad1_val, ← bpick_or]
    rfl
  · (refine run ?_; repeat intro b)
    simp only [tupV, Head.fault, h1, if_true]
  · (refine run ?_; repeat intro b)
    refine s_if h.bad2 ?_ (fun h2 => ?_) (fun h2 => ?_)
    · unfold Head.bad2
      rw [← bpick_and]
      rfl
    · (refine run ?_; repeat intro b)
      simp only [tupV, Head.fault, h1, h2, if_true]
      rfl
    · (refine run ?_; repeat intro b)
      simp only [tupV, Head.fault, h1, h2]
      rfl
theorem headcheck_ok (h : Head) (F : Hp) : Plain Tryz.prog F 44 [h.v] (i64 h.fault) := by
  refine plain_vc (N := 41) (rv := [.tmp 2]) tbok mixed Tryz.func44 rfl rfl rfl rfl rfl ?_
  (refine run ?_; repeat intro b)
  refine s_if h.bad1 ?_ (fun h1 => ?_) (fun h1 => ?_)
  · simp only [← bad1_val, ← bpick_or]
    rfl
  · (refine run ?_; repeat intro b)
    simp only [tupV, Head.fault, h1, if_true]
  · (refine run ?_; repeat intro b)
    refine s_if h.bad2 ?_ (fun h2 => ?_) (fun h2 => ?_)
    · unfold Head.bad2
      rw [← bpick_and]
      rfl
    · (refine run ?_; repeat intro b)
      simp only [tupV, Head.fault, h1, h2, if_true]
      rfl
    · (refine run ?_; repeat intro b)
      simp only [tupV, Head.fault, h1, h2]
      rfl
theorem refheadsaid_ok (h : Head) (hw : h.wf) (F : Hp) : Plain Tryz.prog F 121 [h.v] (S h.said) := by
  refine plain_vc (N := 21) (rv := [.tmp 2]) tbok mixed Tryz.func121 rfl rfl rfl rfl rfl ?_
  (refine run ?_; repeat intro b)
  refine s_regiond (by kernel_rfl) ?_
  (refine run ?_; repeat intro b)
  rw [toU_val]
  refine s_plain _ rfl rfl rfl bd143 rfl (refnum_ok _ (toU_lt _) F) ?_
  (refine run ?_; repeat intro b)
  refine s_pureO rfl rfl rfl (by simp only [bl_S, num_length, List.length_cons, List.length_nil]; unfold maxInt; decide) ?_
  (refine run ?_; repeat intro b)
  refine s_plain _ rfl rfl rfl bd143 rfl (refnum_ok _ hw.root F) ?_
  (refine run ?_; repeat intro b)
  refine s_pureO rfl rfl rfl (by simp only [bl_S, num_length, List.length_cons, List.length_nil, List.length_append]; unfold maxInt; decide) ?_
  (refine run ?_; repeat intro b)
  refine s_plain _ rfl rfl rfl bd143 rfl (refnum_ok _ hw.prev F) ?_
  (refine run ?_; repeat intro b)
  refine s_pureO rfl rfl rfl (by simp only [bl_S, num_length, List.length_cons, List.length_nil, List.length_append]; unfold maxInt; decide) ?_
  (refine run ?_; repeat intro b)
  rw [toU_val h.at_]
  refine s_plain _ rfl rfl rfl bd143 rfl (refnum_ok _ (toU_lt _) F) ?_
  (refine run ?_; repeat intro b)
  refine s_pureO rfl rfl rfl (by simp only [bl_S, num_length, List.length_cons, List.length_nil, List.length_append]; unfold maxInt; decide) ?_
  (refine run ?_; repeat intro b)
  simp only [tupV, bl_S, Head.said, List.cons_append, List.nil_append, List.append_assoc]
  rfl
theorem refheadmark_ok (h : Head) (hw : h.wf) (F : Hp) : Plain Tryz.prog F 77 [h.v] (u64 (h.mark : Nat)) := by
  refine plain_vc (N := 6) (rv := [.tmp 2]) tbok mixed Tryz.func77 rfl rfl rfl rfl rfl ?_
  (refine run ?_; repeat intro b)
  refine s_plain (S h.said) rfl rfl rfl bd121 rfl (refheadsaid_ok h hw F) ?_
  (refine run ?_; repeat intro b)
  refine s_plain _ rfl rfl rfl bd22 rfl (refmark_ok h.said (by rw [said_length]; decide) F) ?_
  (refine run ?_; repeat intro b)
  rfl
/-- What is said of a head that is right; else nothing. -/
def Head.saidO (h : Head) : List UInt8 := if h.fault = 0 then h.said else []
def Head.markO (h : Head) : Nat := if h.fault = 0 then h.mark else 0
theorem headsaid_ok (h : Head) (hw : h.wf) (F : Hp) : Plain Tryz.prog F 199 [h.v] (pair (S h.saidO) (i64 h.fault)) := by
  refine plain_vc (N := 30) (rv := [.tmp 2, .tmp 3]) tbok mixed Tryz.func199 rfl rfl rfl rfl rfl ?_
  (refine run ?_; repeat intro b)
  refine s_plain (i64 h.fault) rfl rfl rfl bd44 rfl (headcheck_ok h F) ?_
  (refine run ?_; repeat intro b)
  refine s_if _ rfl (fun h1 => ?_) (fun h1 => ?_)
  · have h2 : ¬ h.fault = 0 := by simpa using h1
    (refine run ?_; repeat intro b)
    simp only [tupV, Head.saidO, if_neg h2]
    rfl
  · have h2 : h.fault = 0 := by simpa using h1
    (refine run ?_; repeat intro b)
    refine s_regiona [0] (by kernel_rfl) ?_
    refine s_firsts [2, 3, 4, 5, 7, 8, 9, 11, 12, 13, 15, 16, 17, 18] (f' := 8) (by kernel_rfl) rfl rfl rfl ?_
    (refine run ?_; repeat intro b)
    rw [toU_val]
    refine s_plain _ rfl rfl rfl bd232 rfl (wirenum_ok _ F) ?_
    (refine run ?_; repeat intro b)
    refine s_plain _ rfl rfl rfl bd232 rfl (wirenum_ok _ F) ?_
    (refine run ?_; repeat intro b)
    refine s_plain _ rfl rfl rfl bd232 rfl (wirenum_ok _ F) ?_
    (refine run ?_; repeat intro b)
    rw [toU_val h.at_]
    refine s_plain _ rfl rfl rfl bd232 rfl (wirenum_ok _ F) ?_
    (refine run ?_; repeat intro b)
    refine s_one 0 (by kernel_rfl) rfl rfl ?_
    (refine run ?_; repeat intro b)
    refine s_br (Hp.sub.refl _) ⟨⟨rfl, ⟨rfl, rfl, rfl, rfl, trivial⟩⟩, trivial⟩ ?_
    refine s_one 1 (by kernel_rfl) rfl rfl ?_
    refine s_strR [3] rfl rfl rfl rfl (Nat.le_refl 1) rfl ?_
    (refine run ?_; repeat intro b)
    refine s_br (Hp.sub.refl _) ⟨⟨rfl, ⟨rfl, rfl, rfl, rfl, trivial⟩⟩, trivial⟩ ?_
    refine s_firsts [6, 10, 14, 19, 20, 21] (f' := 0) (by kernel_rfl) rfl rfl rfl ?_
    refine s_pureO rfl rfl rfl (by simp only [bl_S, num_length, List.length_cons, List.length_nil]; unfold maxInt; decide) ?_
    (refine run ?_; repeat intro b)
    refine s_pureO rfl rfl rfl (by simp only [bl_S, num_length, List.length_cons, List.length_nil, List.length_append]; unfold maxInt; decide) ?_
    (refine run ?_; repeat intro b)
    refine s_pureO rfl rfl rfl (by simp only [bl_S, num_length, List.length_cons, List.length_nil, List.length_append]; unfold maxInt; decide) ?_
    (refine run ?_; repeat intro b)
    refine s_pureO rfl rfl rfl (by simp only [bl_S, num_length, List.length_cons, List.length_nil, List.length_append]; unfold maxInt; decide) ?_
    (refine run ?_; repeat intro b)
    refine s_stop (by kernel_rfl) ?_
    (refine run ?_; repeat intro b)
    simp only [tupV, Head.saidO, h2, if_true, bl_S, Head.said, List.cons_append, List.nil_append, List.append_assoc]
theorem headmark_ok (h : Head) (hw : h.wf) (F : Hp) : Plain Tryz.prog F 154 [h.v] (pair (u64 (h.markO : Nat)) (i64 h.fault)) := by
  refine plain_vc (N := 16) (rv := [.tmp 2, .tmp 3]) tbok mixed Tryz.func154 rfl rfl rfl rfl rfl ?_
  (refine run ?_; repeat intro b)
  refine s_plain (pair (S h.saidO) (i64 h.fault)) rfl rfl rfl bd199 rfl (headsaid_ok h hw F) ?_
  (refine run ?_; repeat intro b)
  refine s_if _ rfl (fun h1 => ?_) (fun h1 => ?_)
  · have h2 : ¬ h.fault = 0 := by simpa using h1
    (refine run ?_; repeat intro b)
    simp only [tupV, Head.markO, if_neg h2]
    rfl
  · have h2 : h.fault = 0 := by simpa using h1
    have h3 : h.saidO = h.said := by unfold Head.saidO; rw [if_pos h2]
    (refine run ?_; repeat intro b)
    rw [h3]
    refine s_plain _ rfl rfl rfl bd171 rfl (markof_ok h.said (by rw [said_length]; decide) F) ?_
    (refine run ?_; repeat intro b)
    simp only [tupV, Head.markO, if_pos h2, h2]
    rfl
/-- The head, or none with an error. -/
def Head.orNone (h : Head) (e : Int) : Head := if e = 0 then h else Head.none
def Head.nextH (h : Head) (root : Nat) (at_ : Int) : Head := ⟨IntKind.i64.wrap (h.epoch + 1), root, h.markO, at_⟩
def Head.nextE (h : Head) (root : Nat) (at_ : Int) : Int := if h.fault ≠ 0 then h.fault else if h.epoch = 1000000 then 7 else if at_ < h.at_ then 4 else (h.nextH root at_).fault
set_option maxHeartbeats 2000000 in
theorem headnext_ok (h : Head) (hw : h.wf) (root : Nat) (at_ : Int) (F : Hp) : Plain Tryz.prog F 117 [h.v, u64 root, i64 at_] (pair ((h.nextH root at_).orNone (h.nextE root at_)).v (i64 (h.nextE root at_))) := by
  refine plain_vc (N := 46) (rv := [.cell 6 31, .tmp 7]) tbok mixed Tryz.func117 rfl rfl rfl rfl rfl ?_
  (refine run ?_; repeat intro b)
  refine s_plain (pair (u64 (h.markO : Nat)) (i64 h.fault)) rfl rfl rfl bd154 rfl (headmark_ok h hw F) ?_
  (refine run ?_; repeat intro b)
  refine s_if _ rfl (fun h1 => ?_) (fun h1 => ?_)
  · have h2 : h.fault ≠ 0 := by simpa using h1
    (refine run ?_; repeat intro b)
    simp only [tupV, Head.nextE, if_pos h2, Head.orNone, if_neg h2]
    rfl
  · have h2 : ¬ h.fault ≠ 0 := by simpa using h1
    (refine run ?_; repeat intro b)
    refine s_if _ rfl (fun h3 => ?_) (fun h3 => ?_)
    · have h4 : h.epoch = 1000000 := by simpa using h3
      (refine run ?_; repeat intro b)
      simp only [tupV, Head.nextE, if_neg h2, if_pos h4, Head.orNone]
      rfl
    · have h4 : ¬ h.epoch = 1000000 := by simpa using h3
      (refine run ?_; repeat intro b)
      refine s_if _ rfl (fun h5 => ?_) (fun h5 => ?_)
      · have h6 : at_ < h.at_ := by simpa using h5
        (refine run ?_; repeat intro b)
        simp only [tupV, Head.nextE, if_neg h2, if_neg h4, if_pos h6, Head.orNone]
        rfl
      · have h6 : ¬ at_ < h.at_ := by simpa using h5
        (refine run ?_; repeat intro b)
        refine s_plain (i64 (h.nextH root at_).fault) rfl rfl rfl bd44 rfl (headcheck_ok (h.nextH root at_) F) ?_
        (refine run ?_; repeat intro b)
        refine s_if _ rfl (fun h7 => ?_) (fun h7 => ?_)
        · have h8 : ¬ (h.nextH root at_).fault = 0 := by simpa using h7
          (refine run ?_; repeat intro b)
          simp only [tupV, Head.nextE, if_neg h2, if_neg h4, if_neg h6, Head.orNone, if_neg h8]
          rfl
        · have h8 : (h.nextH root at_).fault = 0 := by simpa using h7
          (refine run ?_; repeat intro b)
          simp only [tupV, Head.nextE, if_neg h2, if_neg h4, if_neg h6, Head.orNone, if_pos h8, h8]
          rfl
end Go.Proofs.YthkkgphjjmhglaaGreatDoor
