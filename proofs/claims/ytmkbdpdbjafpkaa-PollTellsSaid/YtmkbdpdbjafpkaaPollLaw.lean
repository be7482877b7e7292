/-
The law of package poll: whatever is handed in, each function of package poll answers what the reference answers.
-/
import Derived.Test.YtmkbdpdbjafpkaaPoll
namespace Go.Proofs.Ytmkbdpdbjafpkaa
open Go.TR
attribute [local irreducible] vc vcOps seqK blockK loopK retK retG loopV Plain CallOK bodied VS
set_option maxHeartbeats 1000000 in
set_option maxRecDepth 100000 in
theorem poll_tells (least most lost now : Int) (p : Poll) (F : Hp) : Plain Try.prog F 4 [i64 least, i64 most, i64 lost, p.v, i64 now] (.bool true) := by
  refine plain_vc (N := 198) (rv := [.tmp 10]) tbok mixed Try.func4 rfl rfl rfl rfl rfl ?_
  repeat (first
    | refine s_pure rfl rfl rfl ?_ | refine s_loc rfl rfl ?_ | refine s_gpure rfl rfl rfl rfl rfl ?_ | refine s_gloc rfl rfl rfl rfl ?_ | refine s_store rfl ?_ | refine s_pureG rfl rfl rfl rfl ?_
    | refine s_pick rfl rfl rfl ?_ | refine s_gpick rfl rfl rfl rfl ?_ | refine s_locG rfl rfl rfl ?_ | refine s_nil ?_ | refine s_seqn ?_ | refine s_seqr ?_ | refine s_seqe ?_ | refine s_seq ?_
    | refine s_region ?_ | refine s_block ?_ | refine s_blockn ?_ | refine s_blockr ?_ | refine s_blocke ?_ | refine s_blocko rfl ?_ | refine s_skip ?_ | refine s_ret ?_ | refine s_exit ?_
    | (refine s_box rfl rfl rfl rfl (fun b => ?_)) | (refine s_alloc rfl rfl rfl rfl (fun b => ?_)) | refine s_condt rfl ?_ | refine s_condf rfl ?_ | refine s_loopr ?_ | refine s_loope ?_
    | refine s_end rfl ?_ | refine s_endn rfl ?_)
  refine s_plain _ rfl rfl rfl bd21 rfl (poll_new least most lost F) ?_
  repeat (first
    | refine s_pure rfl rfl rfl ?_ | refine s_loc rfl rfl ?_ | refine s_gpure rfl rfl rfl rfl rfl ?_ | refine s_gloc rfl rfl rfl rfl ?_ | refine s_store rfl ?_ | refine s_pureG rfl rfl rfl rfl ?_
    | refine s_pick rfl rfl rfl ?_ | refine s_gpick rfl rfl rfl rfl ?_ | refine s_locG rfl rfl rfl ?_ | refine s_nil ?_ | refine s_seqn ?_ | refine s_seqr ?_ | refine s_seqe ?_ | refine s_seq ?_
    | refine s_region ?_ | refine s_block ?_ | refine s_blockn ?_ | refine s_blockr ?_ | refine s_blocke ?_ | refine s_blocko rfl ?_ | refine s_skip ?_ | refine s_ret ?_ | refine s_exit ?_
    | (refine s_box rfl rfl rfl rfl (fun b => ?_)) | (refine s_alloc rfl rfl rfl rfl (fun b => ?_)) | refine s_condt rfl ?_ | refine s_condf rfl ?_ | refine s_loopr ?_ | refine s_loope ?_
    | refine s_end rfl ?_ | refine s_endn rfl ?_)
  refine s_plain _ rfl rfl rfl bd22 rfl (poll_due p now F) ?_
  repeat (first
    | refine s_pure rfl rfl rfl ?_ | refine s_loc rfl rfl ?_ | refine s_gpure rfl rfl rfl rfl rfl ?_ | refine s_gloc rfl rfl rfl rfl ?_ | refine s_store rfl ?_ | refine s_pureG rfl rfl rfl rfl ?_
    | refine s_pick rfl rfl rfl ?_ | refine s_gpick rfl rfl rfl rfl ?_ | refine s_locG rfl rfl rfl ?_ | refine s_nil ?_ | refine s_seqn ?_ | refine s_seqr ?_ | refine s_seqe ?_ | refine s_seq ?_
    | refine s_region ?_ | refine s_block ?_ | refine s_blockn ?_ | refine s_blockr ?_ | refine s_blocke ?_ | refine s_blocko rfl ?_ | refine s_skip ?_ | refine s_ret ?_ | refine s_exit ?_
    | (refine s_box rfl rfl rfl rfl (fun b => ?_)) | (refine s_alloc rfl rfl rfl rfl (fun b => ?_)) | refine s_condt rfl ?_ | refine s_condf rfl ?_ | refine s_loopr ?_ | refine s_loope ?_
    | refine s_end rfl ?_ | refine s_endn rfl ?_)
  refine s_plain _ rfl rfl rfl bd23 rfl (poll_sent p now F) ?_
  repeat (first
    | refine s_pure rfl rfl rfl ?_ | refine s_loc rfl rfl ?_ | refine s_gpure rfl rfl rfl rfl rfl ?_ | refine s_gloc rfl rfl rfl rfl ?_ | refine s_store rfl ?_ | refine s_pureG rfl rfl rfl rfl ?_
    | refine s_pick rfl rfl rfl ?_ | refine s_gpick rfl rfl rfl rfl ?_ | refine s_locG rfl rfl rfl ?_ | refine s_nil ?_ | refine s_seqn ?_ | refine s_seqr ?_ | refine s_seqe ?_ | refine s_seq ?_
    | refine s_region ?_ | refine s_block ?_ | refine s_blockn ?_ | refine s_blockr ?_ | refine s_blocke ?_ | refine s_blocko rfl ?_ | refine s_skip ?_ | refine s_ret ?_ | refine s_exit ?_
    | (refine s_box rfl rfl rfl rfl (fun b => ?_)) | (refine s_alloc rfl rfl rfl rfl (fun b => ?_)) | refine s_condt rfl ?_ | refine s_condf rfl ?_ | refine s_loopr ?_ | refine s_loope ?_
    | refine s_end rfl ?_ | refine s_endn rfl ?_)
  refine s_plain _ rfl rfl rfl bd24 rfl (poll_heard p now F) ?_
  repeat (first
    | refine s_pure rfl rfl rfl ?_ | refine s_loc rfl rfl ?_ | refine s_gpure rfl rfl rfl rfl rfl ?_ | refine s_gloc rfl rfl rfl rfl ?_ | refine s_store rfl ?_ | refine s_pureG rfl rfl rfl rfl ?_
    | refine s_pick rfl rfl rfl ?_ | refine s_gpick rfl rfl rfl rfl ?_ | refine s_locG rfl rfl rfl ?_ | refine s_nil ?_ | refine s_seqn ?_ | refine s_seqr ?_ | refine s_seqe ?_ | refine s_seq ?_
    | refine s_region ?_ | refine s_block ?_ | refine s_blockn ?_ | refine s_blockr ?_ | refine s_blocke ?_ | refine s_blocko rfl ?_ | refine s_skip ?_ | refine s_ret ?_ | refine s_exit ?_
    | (refine s_box rfl rfl rfl rfl (fun b => ?_)) | (refine s_alloc rfl rfl rfl rfl (fun b => ?_)) | refine s_condt rfl ?_ | refine s_condf rfl ?_ | refine s_loopr ?_ | refine s_loope ?_
    | refine s_end rfl ?_ | refine s_endn rfl ?_)
  refine s_plain _ rfl rfl rfl bd25 rfl (poll_gone p F) ?_
  repeat (first
    | refine s_pure rfl rfl rfl ?_ | refine s_loc rfl rfl ?_ | refine s_gpure rfl rfl rfl rfl rfl ?_ | refine s_gloc rfl rfl rfl rfl ?_ | refine s_store rfl ?_ | refine s_pureG rfl rfl rfl rfl ?_
    | refine s_pick rfl rfl rfl ?_ | refine s_gpick rfl rfl rfl rfl ?_ | refine s_locG rfl rfl rfl ?_ | refine s_nil ?_ | refine s_seqn ?_ | refine s_seqr ?_ | refine s_seqe ?_ | refine s_seq ?_
    | refine s_region ?_ | refine s_block ?_ | refine s_blockn ?_ | refine s_blockr ?_ | refine s_blocke ?_ | refine s_blocko rfl ?_ | refine s_skip ?_ | refine s_ret ?_ | refine s_exit ?_
    | (refine s_box rfl rfl rfl rfl (fun b => ?_)) | (refine s_alloc rfl rfl rfl rfl (fun b => ?_)) | refine s_condt rfl ?_ | refine s_condf rfl ?_ | refine s_loopr ?_ | refine s_loope ?_
    | refine s_end rfl ?_ | refine s_endn rfl ?_)
  refine s_plain _ rfl rfl rfl bd26 rfl (ref_fault (Poll.fresh least most lost) F) ?_
  repeat (first
    | refine s_pure rfl rfl rfl ?_ | refine s_loc rfl rfl ?_ | refine s_gpure rfl rfl rfl rfl rfl ?_ | refine s_gloc rfl rfl rfl rfl ?_ | refine s_store rfl ?_ | refine s_pureG rfl rfl rfl rfl ?_
    | refine s_pick rfl rfl rfl ?_ | refine s_gpick rfl rfl rfl rfl ?_ | refine s_locG rfl rfl rfl ?_ | refine s_nil ?_ | refine s_seqn ?_ | refine s_seqr ?_ | refine s_seqe ?_ | refine s_seq ?_
    | refine s_region ?_ | refine s_block ?_ | refine s_blockn ?_ | refine s_blockr ?_ | refine s_blocke ?_ | refine s_blocko rfl ?_ | refine s_skip ?_ | refine s_ret ?_ | refine s_exit ?_
    | (refine s_box rfl rfl rfl rfl (fun b => ?_)) | (refine s_alloc rfl rfl rfl rfl (fun b => ?_)) | refine s_condt rfl ?_ | refine s_condf rfl ?_ | refine s_loopr ?_ | refine s_loope ?_
    | refine s_end rfl ?_ | refine s_endn rfl ?_)
  refine s_if _ rfl (fun h => ?_) (fun _ => ?_)
  · exfalso
    simp only [bpick_or, bpick_and] at h
    by_cases he : (Poll.fresh least most lost).fault = 0
    · simp only [Poll.orNone, he, ne_eq, not_true_eq_false, if_false] at h
      simp [Poll.fresh] at h
    · simp [he, Poll.orNone, Poll.none] at h
  repeat (first
    | refine s_pure rfl rfl rfl ?_ | refine s_loc rfl rfl ?_ | refine s_gpure rfl rfl rfl rfl rfl ?_ | refine s_gloc rfl rfl rfl rfl ?_ | refine s_store rfl ?_ | refine s_pureG rfl rfl rfl rfl ?_
    | refine s_pick rfl rfl rfl ?_ | refine s_gpick rfl rfl rfl rfl ?_ | refine s_locG rfl rfl rfl ?_ | refine s_nil ?_ | refine s_seqn ?_ | refine s_seqr ?_ | refine s_seqe ?_ | refine s_seq ?_
    | refine s_region ?_ | refine s_block ?_ | refine s_blockn ?_ | refine s_blockr ?_ | refine s_blocke ?_ | refine s_blocko rfl ?_ | refine s_skip ?_ | refine s_ret ?_ | refine s_exit ?_
    | (refine s_box rfl rfl rfl rfl (fun b => ?_)) | (refine s_alloc rfl rfl rfl rfl (fun b => ?_)) | refine s_condt rfl ?_ | refine s_condf rfl ?_ | refine s_loopr ?_ | refine s_loope ?_
    | refine s_end rfl ?_ | refine s_endn rfl ?_)
  refine s_plain _ rfl rfl rfl bd26 rfl (ref_fault p F) ?_
  repeat (first
    | refine s_pure rfl rfl rfl ?_ | refine s_loc rfl rfl ?_ | refine s_gpure rfl rfl rfl rfl rfl ?_ | refine s_gloc rfl rfl rfl rfl ?_ | refine s_store rfl ?_ | refine s_pureG rfl rfl rfl rfl ?_
    | refine s_pick rfl rfl rfl ?_ | refine s_gpick rfl rfl rfl rfl ?_ | refine s_locG rfl rfl rfl ?_ | refine s_nil ?_ | refine s_seqn ?_ | refine s_seqr ?_ | refine s_seqe ?_ | refine s_seq ?_
    | refine s_region ?_ | refine s_block ?_ | refine s_blockn ?_ | refine s_blockr ?_ | refine s_blocke ?_ | refine s_blocko rfl ?_ | refine s_skip ?_ | refine s_ret ?_ | refine s_exit ?_
    | (refine s_box rfl rfl rfl rfl (fun b => ?_)) | (refine s_alloc rfl rfl rfl rfl (fun b => ?_)) | refine s_condt rfl ?_ | refine s_condf rfl ?_ | refine s_loopr ?_ | refine s_loope ?_
    | refine s_end rfl ?_ | refine s_endn rfl ?_)
  refine s_plain _ rfl rfl rfl bd27 rfl (poll_check p F) ?_
  repeat (first
    | refine s_pure rfl rfl rfl ?_ | refine s_loc rfl rfl ?_ | refine s_gpure rfl rfl rfl rfl rfl ?_ | refine s_gloc rfl rfl rfl rfl ?_ | refine s_store rfl ?_ | refine s_pureG rfl rfl rfl rfl ?_
    | refine s_pick rfl rfl rfl ?_ | refine s_gpick rfl rfl rfl rfl ?_ | refine s_locG rfl rfl rfl ?_ | refine s_nil ?_ | refine s_seqn ?_ | refine s_seqr ?_ | refine s_seqe ?_ | refine s_seq ?_
    | refine s_region ?_ | refine s_block ?_ | refine s_blockn ?_ | refine s_blockr ?_ | refine s_blocke ?_ | refine s_blocko rfl ?_ | refine s_skip ?_ | refine s_ret ?_ | refine s_exit ?_
    | (refine s_box rfl rfl rfl rfl (fun b => ?_)) | (refine s_alloc rfl rfl rfl rfl (fun b => ?_)) | refine s_condt rfl ?_ | refine s_condf rfl ?_ | refine s_loopr ?_ | refine s_loope ?_
    | refine s_end rfl ?_ | refine s_endn rfl ?_)
  refine s_if _ rfl (fun h => ?_) (fun _ => ?_)
  · exfalso
    simp [bpick_and, Poll.fault_zero] at h
  repeat (first
    | refine s_pure rfl rfl rfl ?_ | refine s_loc rfl rfl ?_ | refine s_gpure rfl rfl rfl rfl rfl ?_ | refine s_gloc rfl rfl rfl rfl ?_ | refine s_store rfl ?_ | refine s_pureG rfl rfl rfl rfl ?_
    | refine s_pick rfl rfl rfl ?_ | refine s_gpick rfl rfl rfl rfl ?_ | refine s_locG rfl rfl rfl ?_ | refine s_nil ?_ | refine s_seqn ?_ | refine s_seqr ?_ | refine s_seqe ?_ | refine s_seq ?_
    | refine s_region ?_ | refine s_block ?_ | refine s_blockn ?_ | refine s_blockr ?_ | refine s_blocke ?_ | refine s_blocko rfl ?_ | refine s_skip ?_ | refine s_ret ?_ | refine s_exit ?_
    | (refine s_box rfl rfl rfl rfl (fun b => ?_)) | (refine s_alloc rfl rfl rfl rfl (fun b => ?_)) | refine s_condt rfl ?_ | refine s_condf rfl ?_ | refine s_loopr ?_ | refine s_loope ?_
    | refine s_end rfl ?_ | refine s_endn rfl ?_)
  refine s_if _ rfl (fun h => ?_) (fun h => ?_)
  · -- the poll is right, the moment is none
    simp only [bpick_or, bpick_and, Poll.fault_zero] at h
    have hb : p.bad = false := by cases hb : p.bad <;> simp_all
    have hn : now < 0 ∨ 1000000000 < now := by simpa [hb] using h
    have h2 : p.fault2 now = 4 := by simp [Poll.fault2, hb, hn]
    repeat (first
    | refine s_pure rfl rfl rfl ?_ | refine s_loc rfl rfl ?_ | refine s_gpure rfl rfl rfl rfl rfl ?_ | refine s_gloc rfl rfl rfl rfl ?_ | refine s_store rfl ?_ | refine s_pureG rfl rfl rfl rfl ?_
    | refine s_pick rfl rfl rfl ?_ | refine s_gpick rfl rfl rfl rfl ?_ | refine s_locG rfl rfl rfl ?_ | refine s_nil ?_ | refine s_seqn ?_ | refine s_seqr ?_ | refine s_seqe ?_ | refine s_seq ?_
    | refine s_region ?_ | refine s_block ?_ | refine s_blockn ?_ | refine s_blockr ?_ | refine s_blocke ?_ | refine s_blocko rfl ?_ | refine s_skip ?_ | refine s_ret ?_ | refine s_exit ?_
    | (refine s_box rfl rfl rfl rfl (fun b => ?_)) | (refine s_alloc rfl rfl rfl rfl (fun b => ?_)) | refine s_condt rfl ?_ | refine s_condf rfl ?_ | refine s_loopr ?_ | refine s_loope ?_
    | refine s_end rfl ?_ | refine s_endn rfl ?_)
    simp [tupV, bpick_and, Poll.sentE, Poll.isDue, h2, Poll.orNone, Poll.none]
  · simp only [bpick_or, bpick_and, Poll.fault_zero] at h
    repeat (first
    | refine s_pure rfl rfl rfl ?_ | refine s_loc rfl rfl ?_ | refine s_gpure rfl rfl rfl rfl rfl ?_ | refine s_gloc rfl rfl rfl rfl ?_ | refine s_store rfl ?_ | refine s_pureG rfl rfl rfl rfl ?_
    | refine s_pick rfl rfl rfl ?_ | refine s_gpick rfl rfl rfl rfl ?_ | refine s_locG rfl rfl rfl ?_ | refine s_nil ?_ | refine s_seqn ?_ | refine s_seqr ?_ | refine s_seqe ?_ | refine s_seq ?_
    | refine s_region ?_ | refine s_block ?_ | refine s_blockn ?_ | refine s_blockr ?_ | refine s_blocke ?_ | refine s_blocko rfl ?_ | refine s_skip ?_ | refine s_ret ?_ | refine s_exit ?_
    | (refine s_box rfl rfl rfl rfl (fun b => ?_)) | (refine s_alloc rfl rfl rfl rfl (fun b => ?_)) | refine s_condt rfl ?_ | refine s_condf rfl ?_ | refine s_loopr ?_ | refine s_loope ?_
    | refine s_end rfl ?_ | refine s_endn rfl ?_)
    refine s_if _ rfl (fun h3 => ?_) (fun h3 => ?_)
    · have hb : p.bad = true := by rw [fault_ne] at h3; exact h3
      have h1 : p.fault = 4 := by simp [Poll.fault, hb]
      have h2 : p.fault2 now = 4 := by simp [Poll.fault2, hb]
      repeat (first
    | refine s_pure rfl rfl rfl ?_ | refine s_loc rfl rfl ?_ | refine s_gpure rfl rfl rfl rfl rfl ?_ | refine s_gloc rfl rfl rfl rfl ?_ | refine s_store rfl ?_ | refine s_pureG rfl rfl rfl rfl ?_
    | refine s_pick rfl rfl rfl ?_ | refine s_gpick rfl rfl rfl rfl ?_ | refine s_locG rfl rfl rfl ?_ | refine s_nil ?_ | refine s_seqn ?_ | refine s_seqr ?_ | refine s_seqe ?_ | refine s_seq ?_
    | refine s_region ?_ | refine s_block ?_ | refine s_blockn ?_ | refine s_blockr ?_ | refine s_blocke ?_ | refine s_blocko rfl ?_ | refine s_skip ?_ | refine s_ret ?_ | refine s_exit ?_
    | (refine s_box rfl rfl rfl rfl (fun b => ?_)) | (refine s_alloc rfl rfl rfl rfl (fun b => ?_)) | refine s_condt rfl ?_ | refine s_condf rfl ?_ | refine s_loopr ?_ | refine s_loope ?_
    | refine s_end rfl ?_ | refine s_endn rfl ?_)
      simp [tupV, bpick_and, Poll.sentE, Poll.isDue, h1, h2, Poll.orNone, Poll.none]
    · have hb : p.bad = false := by rw [fault_ne] at h3; exact h3
      have hn : 0 ≤ now ∧ now ≤ 1000000000 := by simpa [hb] using h
      have h2 : p.fault2 now = 0 := by simp [Poll.fault2, hb]; omega
      have hd : p.isDue now = decide (p.next ≤ now) := by simp [Poll.isDue, h2]
      have hg : p.gap ≤ 1000000 := by simp [Poll.bad] at hb; omega
      have hh : (p.heard now).orNone (p.fault2 now) = p.heard now := by simp only [Poll.orNone, h2, ne_eq, not_true_eq_false, if_false]
      repeat (first
    | refine s_pure rfl rfl rfl ?_ | refine s_loc rfl rfl ?_ | refine s_gpure rfl rfl rfl rfl rfl ?_ | refine s_gloc rfl rfl rfl rfl ?_ | refine s_store rfl ?_ | refine s_pureG rfl rfl rfl rfl ?_
    | refine s_pick rfl rfl rfl ?_ | refine s_gpick rfl rfl rfl rfl ?_ | refine s_locG rfl rfl rfl ?_ | refine s_nil ?_ | refine s_seqn ?_ | refine s_seqr ?_ | refine s_seqe ?_ | refine s_seq ?_
    | refine s_region ?_ | refine s_block ?_ | refine s_blockn ?_ | refine s_blockr ?_ | refine s_blocke ?_ | refine s_blocko rfl ?_ | refine s_skip ?_ | refine s_ret ?_ | refine s_exit ?_
    | (refine s_box rfl rfl rfl rfl (fun b => ?_)) | (refine s_alloc rfl rfl rfl rfl (fun b => ?_)) | refine s_condt rfl ?_ | refine s_condf rfl ?_ | refine s_loopr ?_ | refine s_loope ?_
    | refine s_end rfl ?_ | refine s_endn rfl ?_)
      refine s_regiond (by kernel_rfl) ?_
      repeat (first
    | refine s_pure rfl rfl rfl ?_ | refine s_loc rfl rfl ?_ | refine s_gpure rfl rfl rfl rfl rfl ?_ | refine s_gloc rfl rfl rfl rfl ?_ | refine s_store rfl ?_ | refine s_pureG rfl rfl rfl rfl ?_
    | refine s_pick rfl rfl rfl ?_ | refine s_gpick rfl rfl rfl rfl ?_ | refine s_locG rfl rfl rfl ?_ | refine s_nil ?_ | refine s_seqn ?_ | refine s_seqr ?_ | refine s_seqe ?_ | refine s_seq ?_
    | refine s_region ?_ | refine s_block ?_ | refine s_blockn ?_ | refine s_blockr ?_ | refine s_blocke ?_ | refine s_blocko rfl ?_ | refine s_skip ?_ | refine s_ret ?_ | refine s_exit ?_
    | (refine s_box rfl rfl rfl rfl (fun b => ?_)) | (refine s_alloc rfl rfl rfl rfl (fun b => ?_)) | refine s_condt rfl ?_ | refine s_condf rfl ?_ | refine s_loopr ?_ | refine s_loope ?_
    | refine s_end rfl ?_ | refine s_endn rfl ?_)
      refine s_gplain _ rfl rfl rfl rfl bd28 rfl rfl (fun _ => ref_heard p now F) ?_
      repeat (first
    | refine s_pure rfl rfl rfl ?_ | refine s_loc rfl rfl ?_ | refine s_gpure rfl rfl rfl rfl rfl ?_ | refine s_gloc rfl rfl rfl rfl ?_ | refine s_store rfl ?_ | refine s_pureG rfl rfl rfl rfl ?_
    | refine s_pick rfl rfl rfl ?_ | refine s_gpick rfl rfl rfl rfl ?_ | refine s_locG rfl rfl rfl ?_ | refine s_nil ?_ | refine s_seqn ?_ | refine s_seqr ?_ | refine s_seqe ?_ | refine s_seq ?_
    | refine s_region ?_ | refine s_block ?_ | refine s_blockn ?_ | refine s_blockr ?_ | refine s_blocke ?_ | refine s_blocko rfl ?_ | refine s_skip ?_ | refine s_ret ?_ | refine s_exit ?_
    | (refine s_box rfl rfl rfl rfl (fun b => ?_)) | (refine s_alloc rfl rfl rfl rfl (fun b => ?_)) | refine s_condt rfl ?_ | refine s_condf rfl ?_ | refine s_loopr ?_ | refine s_loope ?_
    | refine s_end rfl ?_ | refine s_endn rfl ?_)
      refine s_if _ rfl (fun h4 => ?_) (fun _ => ?_)
      · exfalso
        simp only [hh] at h4
        simp [bpick_and, h2, hd] at h4
      repeat (first
    | refine s_pure rfl rfl rfl ?_ | refine s_loc rfl rfl ?_ | refine s_gpure rfl rfl rfl rfl rfl ?_ | refine s_gloc rfl rfl rfl rfl ?_ | refine s_store rfl ?_ | refine s_pureG rfl rfl rfl rfl ?_
    | refine s_pick rfl rfl rfl ?_ | refine s_gpick rfl rfl rfl rfl ?_ | refine s_locG rfl rfl rfl ?_ | refine s_nil ?_ | refine s_seqn ?_ | refine s_seqr ?_ | refine s_seqe ?_ | refine s_seq ?_
    | refine s_region ?_ | refine s_block ?_ | refine s_blockn ?_ | refine s_blockr ?_ | refine s_blocke ?_ | refine s_blocko rfl ?_ | refine s_skip ?_ | refine s_ret ?_ | refine s_exit ?_
    | (refine s_box rfl rfl rfl rfl (fun b => ?_)) | (refine s_alloc rfl rfl rfl rfl (fun b => ?_)) | refine s_condt rfl ?_ | refine s_condf rfl ?_ | refine s_loopr ?_ | refine s_loope ?_
    | refine s_end rfl ?_ | refine s_endn rfl ?_)
      refine s_if _ rfl (fun h5 => ?_) (fun h5 => ?_)
      · have h6 : p.isDue now = false := by simpa using h5
        repeat (first
    | refine s_pure rfl rfl rfl ?_ | refine s_loc rfl rfl ?_ | refine s_gpure rfl rfl rfl rfl rfl ?_ | refine s_gloc rfl rfl rfl rfl ?_ | refine s_store rfl ?_ | refine s_pureG rfl rfl rfl rfl ?_
    | refine s_pick rfl rfl rfl ?_ | refine s_gpick rfl rfl rfl rfl ?_ | refine s_locG rfl rfl rfl ?_ | refine s_nil ?_ | refine s_seqn ?_ | refine s_seqr ?_ | refine s_seqe ?_ | refine s_seq ?_
    | refine s_region ?_ | refine s_block ?_ | refine s_blockn ?_ | refine s_blockr ?_ | refine s_blocke ?_ | refine s_blocko rfl ?_ | refine s_skip ?_ | refine s_ret ?_ | refine s_exit ?_
    | (refine s_box rfl rfl rfl rfl (fun b => ?_)) | (refine s_alloc rfl rfl rfl rfl (fun b => ?_)) | refine s_condt rfl ?_ | refine s_condf rfl ?_ | refine s_loopr ?_ | refine s_loope ?_
    | refine s_end rfl ?_ | refine s_endn rfl ?_)
        simp [tupV, bpick_and, Poll.sentE, h2, h6, Poll.orNone, Poll.none]
      · have h6 : p.isDue now = true := by simpa using h5
        repeat (first
    | refine s_pure rfl rfl rfl ?_ | refine s_loc rfl rfl ?_ | refine s_gpure rfl rfl rfl rfl rfl ?_ | refine s_gloc rfl rfl rfl rfl ?_ | refine s_store rfl ?_ | refine s_pureG rfl rfl rfl rfl ?_
    | refine s_pick rfl rfl rfl ?_ | refine s_gpick rfl rfl rfl rfl ?_ | refine s_locG rfl rfl rfl ?_ | refine s_nil ?_ | refine s_seqn ?_ | refine s_seqr ?_ | refine s_seqe ?_ | refine s_seq ?_
    | refine s_region ?_ | refine s_block ?_ | refine s_blockn ?_ | refine s_blockr ?_ | refine s_blocke ?_ | refine s_blocko rfl ?_ | refine s_skip ?_ | refine s_ret ?_ | refine s_exit ?_
    | (refine s_box rfl rfl rfl rfl (fun b => ?_)) | (refine s_alloc rfl rfl rfl rfl (fun b => ?_)) | refine s_condt rfl ?_ | refine s_condf rfl ?_ | refine s_loopr ?_ | refine s_loope ?_
    | refine s_end rfl ?_ | refine s_endn rfl ?_)
        refine s_if _ rfl (fun h7 => ?_) (fun h7 => ?_)
        · have h8 : p.asked = 1000000 := by simpa using h7
          repeat (first
    | refine s_pure rfl rfl rfl ?_ | refine s_loc rfl rfl ?_ | refine s_gpure rfl rfl rfl rfl rfl ?_ | refine s_gloc rfl rfl rfl rfl ?_ | refine s_store rfl ?_ | refine s_pureG rfl rfl rfl rfl ?_
    | refine s_pick rfl rfl rfl ?_ | refine s_gpick rfl rfl rfl rfl ?_ | refine s_locG rfl rfl rfl ?_ | refine s_nil ?_ | refine s_seqn ?_ | refine s_seqr ?_ | refine s_seqe ?_ | refine s_seq ?_
    | refine s_region ?_ | refine s_block ?_ | refine s_blockn ?_ | refine s_blockr ?_ | refine s_blocke ?_ | refine s_blocko rfl ?_ | refine s_skip ?_ | refine s_ret ?_ | refine s_exit ?_
    | (refine s_box rfl rfl rfl rfl (fun b => ?_)) | (refine s_alloc rfl rfl rfl rfl (fun b => ?_)) | refine s_condt rfl ?_ | refine s_condf rfl ?_ | refine s_loopr ?_ | refine s_loope ?_
    | refine s_end rfl ?_ | refine s_endn rfl ?_)
          simp [tupV, bpick_and, Poll.sentE, h2, h6, h8, Poll.orNone, Poll.none]
        · have h8 : ¬ p.asked = 1000000 := by simpa using h7
          have hs : p.sentE now = 0 := by simp [Poll.sentE, h2, h6, h8]
          have hr : p.refSent now = p.sent now := by
            simp only [Poll.bad, Bool.or_eq_false_iff, decide_eq_false_iff_not] at hb
            unfold Poll.refSent Poll.sent
            have e1 : steps now p.gap.toNat = later now p.gap := by
              unfold steps later
              rw [wrap_i64 (by omega) (by omega)]
              have : (p.gap.toNat : Int) = p.gap := by omega
              rw [this]
              repeat' split
              all_goals omega
            have e2 : IntKind.i64.wrap (p.gap + p.gap) = IntKind.i64.wrap (2 * p.gap) := by congr 1; omega
            rw [e1, e2]
            rfl
          repeat (first
    | refine s_pure rfl rfl rfl ?_ | refine s_loc rfl rfl ?_ | refine s_gpure rfl rfl rfl rfl rfl ?_ | refine s_gloc rfl rfl rfl rfl ?_ | refine s_store rfl ?_ | refine s_pureG rfl rfl rfl rfl ?_
    | refine s_pick rfl rfl rfl ?_ | refine s_gpick rfl rfl rfl rfl ?_ | refine s_locG rfl rfl rfl ?_ | refine s_nil ?_ | refine s_seqn ?_ | refine s_seqr ?_ | refine s_seqe ?_ | refine s_seq ?_
    | refine s_region ?_ | refine s_block ?_ | refine s_blockn ?_ | refine s_blockr ?_ | refine s_blocke ?_ | refine s_blocko rfl ?_ | refine s_skip ?_ | refine s_ret ?_ | refine s_exit ?_
    | (refine s_box rfl rfl rfl rfl (fun b => ?_)) | (refine s_alloc rfl rfl rfl rfl (fun b => ?_)) | refine s_condt rfl ?_ | refine s_condf rfl ?_ | refine s_loopr ?_ | refine s_loope ?_
    | refine s_end rfl ?_ | refine s_endn rfl ?_)
          refine s_regiond (by kernel_rfl) ?_
          repeat (first
    | refine s_pure rfl rfl rfl ?_ | refine s_loc rfl rfl ?_ | refine s_gpure rfl rfl rfl rfl rfl ?_ | refine s_gloc rfl rfl rfl rfl ?_ | refine s_store rfl ?_ | refine s_pureG rfl rfl rfl rfl ?_
    | refine s_pick rfl rfl rfl ?_ | refine s_gpick rfl rfl rfl rfl ?_ | refine s_locG rfl rfl rfl ?_ | refine s_nil ?_ | refine s_seqn ?_ | refine s_seqr ?_ | refine s_seqe ?_ | refine s_seq ?_
    | refine s_region ?_ | refine s_block ?_ | refine s_blockn ?_ | refine s_blockr ?_ | refine s_blocke ?_ | refine s_blocko rfl ?_ | refine s_skip ?_ | refine s_ret ?_ | refine s_exit ?_
    | (refine s_box rfl rfl rfl rfl (fun b => ?_)) | (refine s_alloc rfl rfl rfl rfl (fun b => ?_)) | refine s_condt rfl ?_ | refine s_condf rfl ?_ | refine s_loopr ?_ | refine s_loope ?_
    | refine s_end rfl ?_ | refine s_endn rfl ?_)
          refine s_plain _ rfl rfl rfl bd29 rfl (ref_sent p now F hg hn) ?_
          repeat (first
    | refine s_pure rfl rfl rfl ?_ | refine s_loc rfl rfl ?_ | refine s_gpure rfl rfl rfl rfl rfl ?_ | refine s_gloc rfl rfl rfl rfl ?_ | refine s_store rfl ?_ | refine s_pureG rfl rfl rfl rfl ?_
    | refine s_pick rfl rfl rfl ?_ | refine s_gpick rfl rfl rfl rfl ?_ | refine s_locG rfl rfl rfl ?_ | refine s_nil ?_ | refine s_seqn ?_ | refine s_seqr ?_ | refine s_seqe ?_ | refine s_seq ?_
    | refine s_region ?_ | refine s_block ?_ | refine s_blockn ?_ | refine s_blockr ?_ | refine s_blocke ?_ | refine s_blocko rfl ?_ | refine s_skip ?_ | refine s_ret ?_ | refine s_exit ?_
    | (refine s_box rfl rfl rfl rfl (fun b => ?_)) | (refine s_alloc rfl rfl rfl rfl (fun b => ?_)) | refine s_condt rfl ?_ | refine s_condf rfl ?_ | refine s_loopr ?_ | refine s_loope ?_
    | refine s_end rfl ?_ | refine s_endn rfl ?_)
          simp only [tupV, hr, hs, bpick_and, Poll.orNone, ne_eq, not_true_eq_false, if_false]
          simp
end Go.Proofs.Ytmkbdpdbjafpkaa
