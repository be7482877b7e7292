/-
The law of package head: whatever is handed in, each function answers what the reference answers.
-/
import Derived.Test.YtaienbnadbadfaaHeadRead
import Derived.Test.YtaienbnadbadfaaFwo
namespace Go.Proofs.Ytaienbnadbadfaa
open Go.TR
theorem nextE_alt {h : Head} (hw : h.wf) {root : Nat} {at_ : Int} (h0 : h.fault = 0) (h1 : ¬ h.epoch = 1000000) : h.nextE root at_ = if MM ≤ root ∨ at_ < h.at_ ∨ 1000000000 < at_ then 4 else 0 := by
  obtain ⟨g1, g2, g3, g4, g5, g6, g7⟩ := Head.ok_of h0
  unfold Head.nextE
  rw [if_neg (by simpa using h0), if_neg h1]
  have hm : h.markO < MM := by unfold Head.markO; rw [if_pos h0]; exact markN_lt _
  have hwr : IntKind.i64.wrap (h.epoch + 1) = h.epoch + 1 := wrap_i64 (by omega) (by omega)
  by_cases h2 : at_ < h.at_
  · rw [if_pos h2, if_pos (.inr (.inl h2))]
  · rw [if_neg h2]
    unfold Head.fault Head.bad1 Head.bad2 Head.nextH
    simp only [hwr]
    by_cases h3 : MM ≤ root
    · rw [if_pos (by simp [h3]), if_pos (.inl h3)]
    · by_cases h4 : 1000000000 < at_
      · rw [if_pos (by simp [h4]), if_pos (.inr (.inr h4))]
      · rw [if_neg (by simp; omega), if_neg (by simp; omega), if_neg (by omega)]
theorem toI_range (n : Nat) : -9223372036854775808 ≤ toI n ∧ toI n ≤ 9223372036854775807 := by
  unfold toI IntKind.wrap
  simp only [IntKind.bits, IntKind.signed]
  have h := BitVec.toInt_lt (x := BitVec.ofInt 64 (n : Int))
  have h2 := BitVec.le_toInt (x := BitVec.ofInt 64 (n : Int))
  constructor <;> (simp at h h2 ⊢; omega)
theorem headOf_wf (s : List UInt8) (hl : s.length = 33) : (headOf s).wf := ⟨be_lt8 _ (piece_length s 1 hl (by decide)), be_lt8 _ (piece_length s 2 hl (by decide)), toI_range _, toI_range _⟩
attribute [local irreducible] vc vcOps seqK blockK loopK retK retG retI loopV Plain CallOK CallIn bodied VS vcAny dropG backK brK loopPK IntKind.wrap
set_option maxRecDepth 100000
set_option maxHeartbeats 4000000 in
theorem head_tells (h : Head) (root : Nat) (at_ : Int) (s : List UInt8) (hw : h.wf) (hroot : root < 18446744073709551616) (hs : s.length ≤ 4611686018427387904) (F : Hp) :
    Plain Try.prog F 9 [h.v, u64 root, i64 at_, S s] (.bool true) := by
  refine plain_vc (N := 227) (rv := [.tmp 8]) tbok mixed Try.func9 rfl rfl rfl rfl rfl ?_
  repeat (first
    | refine s_pure rfl rfl rfl ?_ | refine s_loc rfl rfl ?_ | refine s_known rfl rfl rfl ?_ | refine s_unwanted rfl rfl rfl rfl rfl ?_ | refine s_gpure rfl rfl rfl rfl rfl ?_ | refine s_gloc rfl rfl rfl rfl ?_ | refine s_store rfl ?_ | refine s_pureG rfl rfl rfl rfl ?_
    | refine s_pick rfl rfl rfl ?_ | refine s_pickK rfl rfl ?_ | refine s_pick0 rfl rfl ?_ | refine s_gpick rfl rfl rfl rfl ?_ | refine s_locG rfl rfl rfl ?_ | refine s_nil ?_ | refine s_drop ?_ | refine s_back ?_ | refine s_seqn ?_ | refine s_seqr ?_ | refine s_seqe ?_ | refine s_seq ?_
    | refine s_region ?_ | refine s_block ?_ | refine s_blockn ?_ | refine s_blockr ?_ | refine s_blocke ?_ | refine s_blocko rfl ?_ | refine s_skip ?_ | refine s_ret ?_ | refine s_exit ?_
    | (refine s_box rfl rfl rfl rfl (fun b => ?_)) | (refine s_alloc rfl rfl rfl rfl (fun b => ?_)) | refine s_condt rfl ?_ | refine s_condf rfl ?_ | (refine s_bslice rfl rfl rfl rfl rfl rfl rfl rfl (fun b => ?_)) | refine s_loopr ?_ | refine s_loope ?_ | refine s_loopPr ?_ | refine s_loopPe ?_
    | refine s_pureO rfl rfl rfl (by decide) ?_ | refine s_gpureO rfl rfl rfl rfl rfl (fun _ => by decide) ?_
    | refine s_end rfl ?_ | refine s_endn rfl ?_ | refine s_inend rfl ?_ | refine s_inendn rfl ?_)
  refine s_plain (pair (S h.saidO) (i64 h.fault)) rfl rfl rfl bd65 rfl (headsaid_ok h hw F) ?_
  repeat (first
    | refine s_pure rfl rfl rfl ?_ | refine s_loc rfl rfl ?_ | refine s_known rfl rfl rfl ?_ | refine s_unwanted rfl rfl rfl rfl rfl ?_ | refine s_gpure rfl rfl rfl rfl rfl ?_ | refine s_gloc rfl rfl rfl rfl ?_ | refine s_store rfl ?_ | refine s_pureG rfl rfl rfl rfl ?_
    | refine s_pick rfl rfl rfl ?_ | refine s_pickK rfl rfl ?_ | refine s_pick0 rfl rfl ?_ | refine s_gpick rfl rfl rfl rfl ?_ | refine s_locG rfl rfl rfl ?_ | refine s_nil ?_ | refine s_drop ?_ | refine s_back ?_ | refine s_seqn ?_ | refine s_seqr ?_ | refine s_seqe ?_ | refine s_seq ?_
    | refine s_region ?_ | refine s_block ?_ | refine s_blockn ?_ | refine s_blockr ?_ | refine s_blocke ?_ | refine s_blocko rfl ?_ | refine s_skip ?_ | refine s_ret ?_ | refine s_exit ?_
    | (refine s_box rfl rfl rfl rfl (fun b => ?_)) | (refine s_alloc rfl rfl rfl rfl (fun b => ?_)) | refine s_condt rfl ?_ | refine s_condf rfl ?_ | (refine s_bslice rfl rfl rfl rfl rfl rfl rfl rfl (fun b => ?_)) | refine s_loopr ?_ | refine s_loope ?_ | refine s_loopPr ?_ | refine s_loopPe ?_
    | refine s_pureO rfl rfl rfl (by decide) ?_ | refine s_gpureO rfl rfl rfl rfl rfl (fun _ => by decide) ?_
    | refine s_end rfl ?_ | refine s_endn rfl ?_ | refine s_inend rfl ?_ | refine s_inendn rfl ?_)
  refine s_plain (pair (u64 (h.markO : Nat)) (i64 h.fault)) rfl rfl rfl bd66 rfl (headmark_ok h hw F) ?_
  repeat (first
    | refine s_pure rfl rfl rfl ?_ | refine s_loc rfl rfl ?_ | refine s_known rfl rfl rfl ?_ | refine s_unwanted rfl rfl rfl rfl rfl ?_ | refine s_gpure rfl rfl rfl rfl rfl ?_ | refine s_gloc rfl rfl rfl rfl ?_ | refine s_store rfl ?_ | refine s_pureG rfl rfl rfl rfl ?_
    | refine s_pick rfl rfl rfl ?_ | refine s_pickK rfl rfl ?_ | refine s_pick0 rfl rfl ?_ | refine s_gpick rfl rfl rfl rfl ?_ | refine s_locG rfl rfl rfl ?_ | refine s_nil ?_ | refine s_drop ?_ | refine s_back ?_ | refine s_seqn ?_ | refine s_seqr ?_ | refine s_seqe ?_ | refine s_seq ?_
    | refine s_region ?_ | refine s_block ?_ | refine s_blockn ?_ | refine s_blockr ?_ | refine s_blocke ?_ | refine s_blocko rfl ?_ | refine s_skip ?_ | refine s_ret ?_ | refine s_exit ?_
    | (refine s_box rfl rfl rfl rfl (fun b => ?_)) | (refine s_alloc rfl rfl rfl rfl (fun b => ?_)) | refine s_condt rfl ?_ | refine s_condf rfl ?_ | (refine s_bslice rfl rfl rfl rfl rfl rfl rfl rfl (fun b => ?_)) | refine s_loopr ?_ | refine s_loope ?_ | refine s_loopPr ?_ | refine s_loopPe ?_
    | refine s_pureO rfl rfl rfl (by decide) ?_ | refine s_gpureO rfl rfl rfl rfl rfl (fun _ => by decide) ?_
    | refine s_end rfl ?_ | refine s_endn rfl ?_ | refine s_inend rfl ?_ | refine s_inendn rfl ?_)
  obtain ⟨fst, hfst⟩ : ∃ x : Head, x = (⟨0, root, 0, at_⟩ : Head).orNone (⟨0, root, 0, at_⟩ : Head).fault := ⟨_, rfl⟩
  refine s_plain (pair fst.v (i64 (⟨0, root, 0, at_⟩ : Head).fault)) rfl rfl rfl bd67 rfl (by rw [hfst]; exact headfirst_ok root at_ F) ?_
  repeat (first
    | refine s_pure rfl rfl rfl ?_ | refine s_loc rfl rfl ?_ | refine s_known rfl rfl rfl ?_ | refine s_unwanted rfl rfl rfl rfl rfl ?_ | refine s_gpure rfl rfl rfl rfl rfl ?_ | refine s_gloc rfl rfl rfl rfl ?_ | refine s_store rfl ?_ | refine s_pureG rfl rfl rfl rfl ?_
    | refine s_pick rfl rfl rfl ?_ | refine s_pickK rfl rfl ?_ | refine s_pick0 rfl rfl ?_ | refine s_gpick rfl rfl rfl rfl ?_ | refine s_locG rfl rfl rfl ?_ | refine s_nil ?_ | refine s_drop ?_ | refine s_back ?_ | refine s_seqn ?_ | refine s_seqr ?_ | refine s_seqe ?_ | refine s_seq ?_
    | refine s_region ?_ | refine s_block ?_ | refine s_blockn ?_ | refine s_blockr ?_ | refine s_blocke ?_ | refine s_blocko rfl ?_ | refine s_skip ?_ | refine s_ret ?_ | refine s_exit ?_
    | (refine s_box rfl rfl rfl rfl (fun b => ?_)) | (refine s_alloc rfl rfl rfl rfl (fun b => ?_)) | refine s_condt rfl ?_ | refine s_condf rfl ?_ | (refine s_bslice rfl rfl rfl rfl rfl rfl rfl rfl (fun b => ?_)) | refine s_loopr ?_ | refine s_loope ?_ | refine s_loopPr ?_ | refine s_loopPe ?_
    | refine s_pureO rfl rfl rfl (by decide) ?_ | refine s_gpureO rfl rfl rfl rfl rfl (fun _ => by decide) ?_
    | refine s_end rfl ?_ | refine s_endn rfl ?_ | refine s_inend rfl ?_ | refine s_inendn rfl ?_)
  obtain ⟨nxt, hnxt⟩ : ∃ x : Head, x = (h.nextH root at_).orNone (h.nextE root at_) := ⟨_, rfl⟩
  refine s_plain (pair nxt.v (i64 (h.nextE root at_))) rfl rfl rfl bd68 rfl (by rw [hnxt]; exact headnext_ok h hw root at_ F) ?_
  repeat (first
    | refine s_pure rfl rfl rfl ?_ | refine s_loc rfl rfl ?_ | refine s_known rfl rfl rfl ?_ | refine s_unwanted rfl rfl rfl rfl rfl ?_ | refine s_gpure rfl rfl rfl rfl rfl ?_ | refine s_gloc rfl rfl rfl rfl ?_ | refine s_store rfl ?_ | refine s_pureG rfl rfl rfl rfl ?_
    | refine s_pick rfl rfl rfl ?_ | refine s_pickK rfl rfl ?_ | refine s_pick0 rfl rfl ?_ | refine s_gpick rfl rfl rfl rfl ?_ | refine s_locG rfl rfl rfl ?_ | refine s_nil ?_ | refine s_drop ?_ | refine s_back ?_ | refine s_seqn ?_ | refine s_seqr ?_ | refine s_seqe ?_ | refine s_seq ?_
    | refine s_region ?_ | refine s_block ?_ | refine s_blockn ?_ | refine s_blockr ?_ | refine s_blocke ?_ | refine s_blocko rfl ?_ | refine s_skip ?_ | refine s_ret ?_ | refine s_exit ?_
    | (refine s_box rfl rfl rfl rfl (fun b => ?_)) | (refine s_alloc rfl rfl rfl rfl (fun b => ?_)) | refine s_condt rfl ?_ | refine s_condf rfl ?_ | (refine s_bslice rfl rfl rfl rfl rfl rfl rfl rfl (fun b => ?_)) | refine s_loopr ?_ | refine s_loope ?_ | refine s_loopPr ?_ | refine s_loopPe ?_
    | refine s_pureO rfl rfl rfl (by decide) ?_ | refine s_gpureO rfl rfl rfl rfl rfl (fun _ => by decide) ?_
    | refine s_end rfl ?_ | refine s_endn rfl ?_ | refine s_inend rfl ?_ | refine s_inendn rfl ?_)
  refine s_plain (pair (readH s).v (i64 (readE s))) rfl rfl rfl bd69 rfl (headread_ok s F) ?_
  repeat (first
    | refine s_pure rfl rfl rfl ?_ | refine s_loc rfl rfl ?_ | refine s_known rfl rfl rfl ?_ | refine s_unwanted rfl rfl rfl rfl rfl ?_ | refine s_gpure rfl rfl rfl rfl rfl ?_ | refine s_gloc rfl rfl rfl rfl ?_ | refine s_store rfl ?_ | refine s_pureG rfl rfl rfl rfl ?_
    | refine s_pick rfl rfl rfl ?_ | refine s_pickK rfl rfl ?_ | refine s_pick0 rfl rfl ?_ | refine s_gpick rfl rfl rfl rfl ?_ | refine s_locG rfl rfl rfl ?_ | refine s_nil ?_ | refine s_drop ?_ | refine s_back ?_ | refine s_seqn ?_ | refine s_seqr ?_ | refine s_seqe ?_ | refine s_seq ?_
    | refine s_region ?_ | refine s_block ?_ | refine s_blockn ?_ | refine s_blockr ?_ | refine s_blocke ?_ | refine s_blocko rfl ?_ | refine s_skip ?_ | refine s_ret ?_ | refine s_exit ?_
    | (refine s_box rfl rfl rfl rfl (fun b => ?_)) | (refine s_alloc rfl rfl rfl rfl (fun b => ?_)) | refine s_condt rfl ?_ | refine s_condf rfl ?_ | (refine s_bslice rfl rfl rfl rfl rfl rfl rfl rfl (fun b => ?_)) | refine s_loopr ?_ | refine s_loope ?_ | refine s_loopPr ?_ | refine s_loopPe ?_
    | refine s_pureO rfl rfl rfl (by decide) ?_ | refine s_gpureO rfl rfl rfl rfl rfl (fun _ => by decide) ?_
    | refine s_end rfl ?_ | refine s_endn rfl ?_ | refine s_inend rfl ?_ | refine s_inendn rfl ?_)
  refine s_plain (i64 h.fault) rfl rfl rfl bd70 rfl (reffault_ok h F) ?_
  repeat (first
    | refine s_pure rfl rfl rfl ?_ | refine s_loc rfl rfl ?_ | refine s_known rfl rfl rfl ?_ | refine s_unwanted rfl rfl rfl rfl rfl ?_ | refine s_gpure rfl rfl rfl rfl rfl ?_ | refine s_gloc rfl rfl rfl rfl ?_ | refine s_store rfl ?_ | refine s_pureG rfl rfl rfl rfl ?_
    | refine s_pick rfl rfl rfl ?_ | refine s_pickK rfl rfl ?_ | refine s_pick0 rfl rfl ?_ | refine s_gpick rfl rfl rfl rfl ?_ | refine s_locG rfl rfl rfl ?_ | refine s_nil ?_ | refine s_drop ?_ | refine s_back ?_ | refine s_seqn ?_ | refine s_seqr ?_ | refine s_seqe ?_ | refine s_seq ?_
    | refine s_region ?_ | refine s_block ?_ | refine s_blockn ?_ | refine s_blockr ?_ | refine s_blocke ?_ | refine s_blocko rfl ?_ | refine s_skip ?_ | refine s_ret ?_ | refine s_exit ?_
    | (refine s_box rfl rfl rfl rfl (fun b => ?_)) | (refine s_alloc rfl rfl rfl rfl (fun b => ?_)) | refine s_condt rfl ?_ | refine s_condf rfl ?_ | (refine s_bslice rfl rfl rfl rfl rfl rfl rfl rfl (fun b => ?_)) | refine s_loopr ?_ | refine s_loope ?_ | refine s_loopPr ?_ | refine s_loopPe ?_
    | refine s_pureO rfl rfl rfl (by decide) ?_ | refine s_gpureO rfl rfl rfl rfl rfl (fun _ => by decide) ?_
    | refine s_end rfl ?_ | refine s_endn rfl ?_ | refine s_inend rfl ?_ | refine s_inendn rfl ?_)
  refine s_plain (i64 h.fault) rfl rfl rfl bd71 rfl (headcheck_ok h F) ?_
  repeat (first
    | refine s_pure rfl rfl rfl ?_ | refine s_loc rfl rfl ?_ | refine s_known rfl rfl rfl ?_ | refine s_unwanted rfl rfl rfl rfl rfl ?_ | refine s_gpure rfl rfl rfl rfl rfl ?_ | refine s_gloc rfl rfl rfl rfl ?_ | refine s_store rfl ?_ | refine s_pureG rfl rfl rfl rfl ?_
    | refine s_pick rfl rfl rfl ?_ | refine s_pickK rfl rfl ?_ | refine s_pick0 rfl rfl ?_ | refine s_gpick rfl rfl rfl rfl ?_ | refine s_locG rfl rfl rfl ?_ | refine s_nil ?_ | refine s_drop ?_ | refine s_back ?_ | refine s_seqn ?_ | refine s_seqr ?_ | refine s_seqe ?_ | refine s_seq ?_
    | refine s_region ?_ | refine s_block ?_ | refine s_blockn ?_ | refine s_blockr ?_ | refine s_blocke ?_ | refine s_blocko rfl ?_ | refine s_skip ?_ | refine s_ret ?_ | refine s_exit ?_
    | (refine s_box rfl rfl rfl rfl (fun b => ?_)) | (refine s_alloc rfl rfl rfl rfl (fun b => ?_)) | refine s_condt rfl ?_ | refine s_condf rfl ?_ | (refine s_bslice rfl rfl rfl rfl rfl rfl rfl rfl (fun b => ?_)) | refine s_loopr ?_ | refine s_loope ?_ | refine s_loopPr ?_ | refine s_loopPe ?_
    | refine s_pureO rfl rfl rfl (by decide) ?_ | refine s_gpureO rfl rfl rfl rfl rfl (fun _ => by decide) ?_
    | refine s_end rfl ?_ | refine s_endn rfl ?_ | refine s_inend rfl ?_ | refine s_inendn rfl ?_)
  refine s_gplain (S h.said) rfl rfl rfl rfl bd72 rfl rfl (fun _ => refheadsaid_ok h hw F) ?_
  repeat (first
    | refine s_pure rfl rfl rfl ?_ | refine s_loc rfl rfl ?_ | refine s_known rfl rfl rfl ?_ | refine s_unwanted rfl rfl rfl rfl rfl ?_ | refine s_gpure rfl rfl rfl rfl rfl ?_ | refine s_gloc rfl rfl rfl rfl ?_ | refine s_store rfl ?_ | refine s_pureG rfl rfl rfl rfl ?_
    | refine s_pick rfl rfl rfl ?_ | refine s_pickK rfl rfl ?_ | refine s_pick0 rfl rfl ?_ | refine s_gpick rfl rfl rfl rfl ?_ | refine s_locG rfl rfl rfl ?_ | refine s_nil ?_ | refine s_drop ?_ | refine s_back ?_ | refine s_seqn ?_ | refine s_seqr ?_ | refine s_seqe ?_ | refine s_seq ?_
    | refine s_region ?_ | refine s_block ?_ | refine s_blockn ?_ | refine s_blockr ?_ | refine s_blocke ?_ | refine s_blocko rfl ?_ | refine s_skip ?_ | refine s_ret ?_ | refine s_exit ?_
    | (refine s_box rfl rfl rfl rfl (fun b => ?_)) | (refine s_alloc rfl rfl rfl rfl (fun b => ?_)) | refine s_condt rfl ?_ | refine s_condf rfl ?_ | (refine s_bslice rfl rfl rfl rfl rfl rfl rfl rfl (fun b => ?_)) | refine s_loopr ?_ | refine s_loope ?_ | refine s_loopPr ?_ | refine s_loopPe ?_
    | refine s_pureO rfl rfl rfl (by decide) ?_ | refine s_gpureO rfl rfl rfl rfl rfl (fun _ => by decide) ?_
    | refine s_end rfl ?_ | refine s_endn rfl ?_ | refine s_inend rfl ?_ | refine s_inendn rfl ?_)
  refine s_gplain (u64 (h.mark : Nat)) rfl rfl rfl rfl bd73 rfl rfl (fun _ => refheadmark_ok h hw F) ?_
  repeat (first
    | refine s_pure rfl rfl rfl ?_ | refine s_loc rfl rfl ?_ | refine s_known rfl rfl rfl ?_ | refine s_unwanted rfl rfl rfl rfl rfl ?_ | refine s_gpure rfl rfl rfl rfl rfl ?_ | refine s_gloc rfl rfl rfl rfl ?_ | refine s_store rfl ?_ | refine s_pureG rfl rfl rfl rfl ?_
    | refine s_pick rfl rfl rfl ?_ | refine s_pickK rfl rfl ?_ | refine s_pick0 rfl rfl ?_ | refine s_gpick rfl rfl rfl rfl ?_ | refine s_locG rfl rfl rfl ?_ | refine s_nil ?_ | refine s_drop ?_ | refine s_back ?_ | refine s_seqn ?_ | refine s_seqr ?_ | refine s_seqe ?_ | refine s_seq ?_
    | refine s_region ?_ | refine s_block ?_ | refine s_blockn ?_ | refine s_blockr ?_ | refine s_blocke ?_ | refine s_blocko rfl ?_ | refine s_skip ?_ | refine s_ret ?_ | refine s_exit ?_
    | (refine s_box rfl rfl rfl rfl (fun b => ?_)) | (refine s_alloc rfl rfl rfl rfl (fun b => ?_)) | refine s_condt rfl ?_ | refine s_condf rfl ?_ | (refine s_bslice rfl rfl rfl rfl rfl rfl rfl rfl (fun b => ?_)) | refine s_loopr ?_ | refine s_loope ?_ | refine s_loopPr ?_ | refine s_loopPe ?_
    | refine s_pureO rfl rfl rfl (by decide) ?_ | refine s_gpureO rfl rfl rfl rfl rfl (fun _ => by decide) ?_
    | refine s_end rfl ?_ | refine s_endn rfl ?_ | refine s_inend rfl ?_ | refine s_inendn rfl ?_)
  refine s_if false ?_ (fun h1 => ?_) (fun _ => ?_)
  · refine congrArg (fun b => some (EV.v (.bool b))) ?_
    simp only [bpick_or, bpick_and, bl_S]
    by_cases hf : h.fault = 0
    · simp [Head.saidO, Head.markO, hf, bl]
    · simp [Head.saidO, Head.markO, hf, bl]
  · cases h1
  repeat (first
    | refine s_pure rfl rfl rfl ?_ | refine s_loc rfl rfl ?_ | refine s_known rfl rfl rfl ?_ | refine s_unwanted rfl rfl rfl rfl rfl ?_ | refine s_gpure rfl rfl rfl rfl rfl ?_ | refine s_gloc rfl rfl rfl rfl ?_ | refine s_store rfl ?_ | refine s_pureG rfl rfl rfl rfl ?_
    | refine s_pick rfl rfl rfl ?_ | refine s_pickK rfl rfl ?_ | refine s_pick0 rfl rfl ?_ | refine s_gpick rfl rfl rfl rfl ?_ | refine s_locG rfl rfl rfl ?_ | refine s_nil ?_ | refine s_drop ?_ | refine s_back ?_ | refine s_seqn ?_ | refine s_seqr ?_ | refine s_seqe ?_ | refine s_seq ?_
    | refine s_region ?_ | refine s_block ?_ | refine s_blockn ?_ | refine s_blockr ?_ | refine s_blocke ?_ | refine s_blocko rfl ?_ | refine s_skip ?_ | refine s_ret ?_ | refine s_exit ?_
    | (refine s_box rfl rfl rfl rfl (fun b => ?_)) | (refine s_alloc rfl rfl rfl rfl (fun b => ?_)) | refine s_condt rfl ?_ | refine s_condf rfl ?_ | (refine s_bslice rfl rfl rfl rfl rfl rfl rfl rfl (fun b => ?_)) | refine s_loopr ?_ | refine s_loope ?_ | refine s_loopPr ?_ | refine s_loopPe ?_
    | refine s_pureO rfl rfl rfl (by decide) ?_ | refine s_gpureO rfl rfl rfl rfl rfl (fun _ => by decide) ?_
    | refine s_end rfl ?_ | refine s_endn rfl ?_ | refine s_inend rfl ?_ | refine s_inendn rfl ?_)
  refine s_plain (i64 (⟨0, root, 0, at_⟩ : Head).fault) rfl rfl rfl bd70 rfl (reffault_ok ⟨0, root, 0, at_⟩ F) ?_
  repeat (first
    | refine s_pure rfl rfl rfl ?_ | refine s_loc rfl rfl ?_ | refine s_known rfl rfl rfl ?_ | refine s_unwanted rfl rfl rfl rfl rfl ?_ | refine s_gpure rfl rfl rfl rfl rfl ?_ | refine s_gloc rfl rfl rfl rfl ?_ | refine s_store rfl ?_ | refine s_pureG rfl rfl rfl rfl ?_
    | refine s_pick rfl rfl rfl ?_ | refine s_pickK rfl rfl ?_ | refine s_pick0 rfl rfl ?_ | refine s_gpick rfl rfl rfl rfl ?_ | refine s_locG rfl rfl rfl ?_ | refine s_nil ?_ | refine s_drop ?_ | refine s_back ?_ | refine s_seqn ?_ | refine s_seqr ?_ | refine s_seqe ?_ | refine s_seq ?_
    | refine s_region ?_ | refine s_block ?_ | refine s_blockn ?_ | refine s_blockr ?_ | refine s_blocke ?_ | refine s_blocko rfl ?_ | refine s_skip ?_ | refine s_ret ?_ | refine s_exit ?_
    | (refine s_box rfl rfl rfl rfl (fun b => ?_)) | (refine s_alloc rfl rfl rfl rfl (fun b => ?_)) | refine s_condt rfl ?_ | refine s_condf rfl ?_ | (refine s_bslice rfl rfl rfl rfl rfl rfl rfl rfl (fun b => ?_)) | refine s_loopr ?_ | refine s_loope ?_ | refine s_loopPr ?_ | refine s_loopPe ?_
    | refine s_pureO rfl rfl rfl (by decide) ?_ | refine s_gpureO rfl rfl rfl rfl rfl (fun _ => by decide) ?_
    | refine s_end rfl ?_ | refine s_endn rfl ?_ | refine s_inend rfl ?_ | refine s_inendn rfl ?_)
  refine s_if false ?_ (fun h1 => ?_) (fun _ => ?_)
  · refine congrArg (fun b => some (EV.v (.bool b))) ?_
    rw [hfst]
    by_cases hf : (⟨0, root, 0, at_⟩ : Head).fault = 0
    · simp [bpick, Head.orNone, hf]
    · have e1 : ((⟨0, root, 0, at_⟩ : Head).fault == 0) = false := by simpa using hf
      have e2 : ((⟨0, root, 0, at_⟩ : Head).fault != 0) = true := by simp [bne, e1]
      simp [bpick, Head.orNone, hf, Head.none, e1, e2]
  · cases h1
  repeat (first
    | refine s_pure rfl rfl rfl ?_ | refine s_loc rfl rfl ?_ | refine s_known rfl rfl rfl ?_ | refine s_unwanted rfl rfl rfl rfl rfl ?_ | refine s_gpure rfl rfl rfl rfl rfl ?_ | refine s_gloc rfl rfl rfl rfl ?_ | refine s_store rfl ?_ | refine s_pureG rfl rfl rfl rfl ?_
    | refine s_pick rfl rfl rfl ?_ | refine s_pickK rfl rfl ?_ | refine s_pick0 rfl rfl ?_ | refine s_gpick rfl rfl rfl rfl ?_ | refine s_locG rfl rfl rfl ?_ | refine s_nil ?_ | refine s_drop ?_ | refine s_back ?_ | refine s_seqn ?_ | refine s_seqr ?_ | refine s_seqe ?_ | refine s_seq ?_
    | refine s_region ?_ | refine s_blockn ?_ | refine s_blockr ?_ | refine s_blocke ?_ | refine s_blocko rfl ?_ | refine s_skip ?_ | refine s_ret ?_ | refine s_exit ?_
    | (refine s_box rfl rfl rfl rfl (fun b => ?_)) | (refine s_alloc rfl rfl rfl rfl (fun b => ?_)) | refine s_condt rfl ?_ | refine s_condf rfl ?_ | (refine s_bslice rfl rfl rfl rfl rfl rfl rfl rfl (fun b => ?_)) | refine s_loopr ?_ | refine s_loope ?_ | refine s_loopPr ?_ | refine s_loopPe ?_
    | refine s_pureO rfl rfl rfl (by decide) ?_ | refine s_gpureO rfl rfl rfl rfl rfl (fun _ => by decide) ?_
    | refine s_end rfl ?_ | refine s_endn rfl ?_ | refine s_inend rfl ?_ | refine s_inendn rfl ?_)
  rename_i b0 b1 b2 b3 x1 b4 x2
  refine s_joinI (fun p : Int × Head => p.1 = h.nextE root at_ ∧ p.2 = nxt) (fun p => ⟨[(1, .v (u64 root)), (2, .v (i64 at_)), (3, .v (S s)), (4, .loc 0 0), (8, .v (.bool false)), (15, .loc 2 0), (16, .v (i64 (h.nextE root at_))), (17, .loc 3 0), (18, .v (i64 (readE s))), (19, .v (i64 p.1)), (22, .loc 5 0)], F, [(5, ⟨some b, [.v (i64 p.2.epoch), .v (u64 (p.2.root : Nat)), .v (u64 (p.2.prev : Nat)), .v (i64 p.2.at_)], 44, 4⟩), (4, ⟨some b4, [.v (i64 0), .v (u64 root), .v (u64 0), .v (i64 at_)], 44, 4⟩), (3, ⟨some b3, [.v (i64 (readH s).epoch), .v (u64 ((readH s).root : Nat)), .v (u64 ((readH s).prev : Nat)), .v (i64 (readH s).at_)], 44, 4⟩), (2, ⟨some b2, [.v (i64 nxt.epoch), .v (u64 (nxt.root : Nat)), .v (u64 (nxt.prev : Nat)), .v (i64 nxt.at_)], 44, 4⟩), (1, ⟨some b1, [.v (i64 fst.epoch), .v (u64 (fst.root : Nat)), .v (u64 (fst.prev : Nat)), .v (i64 fst.at_)], 44, 4⟩), (0, ⟨some b0, [.v (i64 h.epoch), .v (u64 (h.root : Nat)), .v (u64 (h.prev : Nat)), .v (i64 h.at_)], 44, 4⟩)], 6⟩) ?_ ?_
  · rintro ⟨bad, nh⟩ ⟨e1, e2⟩
    dsimp only at e1 e2
    subst e1 e2
    repeat (first
    | refine s_pure rfl rfl rfl ?_ | refine s_loc rfl rfl ?_ | refine s_known rfl rfl rfl ?_ | refine s_unwanted rfl rfl rfl rfl rfl ?_ | refine s_gpure rfl rfl rfl rfl rfl ?_ | refine s_gloc rfl rfl rfl rfl ?_ | refine s_store rfl ?_ | refine s_pureG rfl rfl rfl rfl ?_
    | refine s_pick rfl rfl rfl ?_ | refine s_pickK rfl rfl ?_ | refine s_pick0 rfl rfl ?_ | refine s_gpick rfl rfl rfl rfl ?_ | refine s_locG rfl rfl rfl ?_ | refine s_nil ?_ | refine s_drop ?_ | refine s_back ?_ | refine s_seqn ?_ | refine s_seqr ?_ | refine s_seqe ?_ | refine s_seq ?_
    | refine s_region ?_ | refine s_block ?_ | refine s_blockn ?_ | refine s_blockr ?_ | refine s_blocke ?_ | refine s_blocko rfl ?_ | refine s_skip ?_ | refine s_ret ?_ | refine s_exit ?_
    | (refine s_box rfl rfl rfl rfl (fun b => ?_)) | (refine s_alloc rfl rfl rfl rfl (fun b => ?_)) | refine s_condt rfl ?_ | refine s_condf rfl ?_ | (refine s_bslice rfl rfl rfl rfl rfl rfl rfl rfl (fun b => ?_)) | refine s_loopr ?_ | refine s_loope ?_ | refine s_loopPr ?_ | refine s_loopPe ?_
    | refine s_pureO rfl rfl rfl (by decide) ?_ | refine s_gpureO rfl rfl rfl rfl rfl (fun _ => by decide) ?_
    | refine s_end rfl ?_ | refine s_endn rfl ?_ | refine s_inend rfl ?_ | refine s_inendn rfl ?_)
    refine s_if false ?_ (fun h1 => ?_) (fun _ => ?_)
    · refine congrArg (fun b => some (EV.v (.bool b))) ?_
      simp [bpick]
    · cases h1
    repeat (first
    | refine s_pure rfl rfl rfl ?_ | refine s_loc rfl rfl ?_ | refine s_known rfl rfl rfl ?_ | refine s_unwanted rfl rfl rfl rfl rfl ?_ | refine s_gpure rfl rfl rfl rfl rfl ?_ | refine s_gloc rfl rfl rfl rfl ?_ | refine s_store rfl ?_ | refine s_pureG rfl rfl rfl rfl ?_
    | refine s_pick rfl rfl rfl ?_ | refine s_pickK rfl rfl ?_ | refine s_pick0 rfl rfl ?_ | refine s_gpick rfl rfl rfl rfl ?_ | refine s_locG rfl rfl rfl ?_ | refine s_nil ?_ | refine s_drop ?_ | refine s_back ?_ | refine s_seqn ?_ | refine s_seqr ?_ | refine s_seqe ?_ | refine s_seq ?_
    | refine s_region ?_ | refine s_block ?_ | refine s_blockn ?_ | refine s_blockr ?_ | refine s_blocke ?_ | refine s_blocko rfl ?_ | refine s_skip ?_ | refine s_ret ?_ | refine s_exit ?_
    | (refine s_box rfl rfl rfl rfl (fun b => ?_)) | (refine s_alloc rfl rfl rfl rfl (fun b => ?_)) | refine s_condt rfl ?_ | refine s_condf rfl ?_ | (refine s_bslice rfl rfl rfl rfl rfl rfl rfl rfl (fun b => ?_)) | refine s_loopr ?_ | refine s_loope ?_ | refine s_loopPr ?_ | refine s_loopPe ?_
    | refine s_pureO rfl rfl rfl (by decide) ?_ | refine s_gpureO rfl rfl rfl rfl rfl (fun _ => by decide) ?_
    | refine s_end rfl ?_ | refine s_endn rfl ?_ | refine s_inend rfl ?_ | refine s_inendn rfl ?_)
    refine s_if (readE s == 0) rfl (fun h1 => ?_) (fun h1 => ?_)
    · have h2 : readE s = 0 := by simpa using h1
      have h3 : readH s = headOf s := by unfold readH; rw [if_pos h2]
      have h4 : hdr s = true := by
        unfold readE at h2
        split at h2
        · assumption
        · cases h2
      have h5 : (headOf s).fault = 0 := by
        unfold readE at h2
        rw [if_pos h4] at h2
        split at h2
        · assumption
        · cases h2
      obtain ⟨hl, h0⟩ := hdr_true h4
      rw [h3]
      repeat (first
    | refine s_pure rfl rfl rfl ?_ | refine s_loc rfl rfl ?_ | refine s_known rfl rfl rfl ?_ | refine s_unwanted rfl rfl rfl rfl rfl ?_ | refine s_gpure rfl rfl rfl rfl rfl ?_ | refine s_gloc rfl rfl rfl rfl ?_ | refine s_store rfl ?_ | refine s_pureG rfl rfl rfl rfl ?_
    | refine s_pick rfl rfl rfl ?_ | refine s_pickK rfl rfl ?_ | refine s_pick0 rfl rfl ?_ | refine s_gpick rfl rfl rfl rfl ?_ | refine s_locG rfl rfl rfl ?_ | refine s_nil ?_ | refine s_drop ?_ | refine s_back ?_ | refine s_seqn ?_ | refine s_seqr ?_ | refine s_seqe ?_ | refine s_seq ?_
    | refine s_region ?_ | refine s_block ?_ | refine s_blockn ?_ | refine s_blockr ?_ | refine s_blocke ?_ | refine s_blocko rfl ?_ | refine s_skip ?_ | refine s_ret ?_ | refine s_exit ?_
    | (refine s_box rfl rfl rfl rfl (fun b => ?_)) | (refine s_alloc rfl rfl rfl rfl (fun b => ?_)) | refine s_condt rfl ?_ | refine s_condf rfl ?_ | (refine s_bslice rfl rfl rfl rfl rfl rfl rfl rfl (fun b => ?_)) | refine s_loopr ?_ | refine s_loope ?_ | refine s_loopPr ?_ | refine s_loopPe ?_
    | refine s_pureO rfl rfl rfl (by decide) ?_ | refine s_gpureO rfl rfl rfl rfl rfl (fun _ => by decide) ?_
    | refine s_end rfl ?_ | refine s_endn rfl ?_ | refine s_inend rfl ?_ | refine s_inendn rfl ?_)
      have hp := reffault_ok (headOf s) F
      rw [h5] at hp
      refine s_plain (i64 0) rfl rfl rfl bd70 rfl hp ?_
      repeat (first
    | refine s_pure rfl rfl rfl ?_ | refine s_loc rfl rfl ?_ | refine s_known rfl rfl rfl ?_ | refine s_unwanted rfl rfl rfl rfl rfl ?_ | refine s_gpure rfl rfl rfl rfl rfl ?_ | refine s_gloc rfl rfl rfl rfl ?_ | refine s_store rfl ?_ | refine s_pureG rfl rfl rfl rfl ?_
    | refine s_pick rfl rfl rfl ?_ | refine s_pickK rfl rfl ?_ | refine s_pick0 rfl rfl ?_ | refine s_gpick rfl rfl rfl rfl ?_ | refine s_locG rfl rfl rfl ?_ | refine s_nil ?_ | refine s_drop ?_ | refine s_back ?_ | refine s_seqn ?_ | refine s_seqr ?_ | refine s_seqe ?_ | refine s_seq ?_
    | refine s_region ?_ | refine s_block ?_ | refine s_blockn ?_ | refine s_blockr ?_ | refine s_blocke ?_ | refine s_blocko rfl ?_ | refine s_skip ?_ | refine s_ret ?_ | refine s_exit ?_
    | (refine s_box rfl rfl rfl rfl (fun b => ?_)) | (refine s_alloc rfl rfl rfl rfl (fun b => ?_)) | refine s_condt rfl ?_ | refine s_condf rfl ?_ | (refine s_bslice rfl rfl rfl rfl rfl rfl rfl rfl (fun b => ?_)) | refine s_loopr ?_ | refine s_loope ?_ | refine s_loopPr ?_ | refine s_loopPe ?_
    | refine s_pureO rfl rfl rfl (by decide) ?_ | refine s_gpureO rfl rfl rfl rfl rfl (fun _ => by decide) ?_
    | refine s_end rfl ?_ | refine s_endn rfl ?_ | refine s_inend rfl ?_ | refine s_inendn rfl ?_)
      have hq := refheadsaid_ok (headOf s) (headOf_wf s hl) F
      rw [said_headOf s hl h0] at hq
      refine s_plain (S s) rfl rfl rfl bd72 rfl hq ?_
      repeat (first
    | refine s_pure rfl rfl rfl ?_ | refine s_loc rfl rfl ?_ | refine s_known rfl rfl rfl ?_ | refine s_unwanted rfl rfl rfl rfl rfl ?_ | refine s_gpure rfl rfl rfl rfl rfl ?_ | refine s_gloc rfl rfl rfl rfl ?_ | refine s_store rfl ?_ | refine s_pureG rfl rfl rfl rfl ?_
    | refine s_pick rfl rfl rfl ?_ | refine s_pickK rfl rfl ?_ | refine s_pick0 rfl rfl ?_ | refine s_gpick rfl rfl rfl rfl ?_ | refine s_locG rfl rfl rfl ?_ | refine s_nil ?_ | refine s_drop ?_ | refine s_back ?_ | refine s_seqn ?_ | refine s_seqr ?_ | refine s_seqe ?_ | refine s_seq ?_
    | refine s_region ?_ | refine s_block ?_ | refine s_blockn ?_ | refine s_blockr ?_ | refine s_blocke ?_ | refine s_blocko rfl ?_ | refine s_skip ?_ | refine s_ret ?_ | refine s_exit ?_
    | (refine s_box rfl rfl rfl rfl (fun b => ?_)) | (refine s_alloc rfl rfl rfl rfl (fun b => ?_)) | refine s_condt rfl ?_ | refine s_condf rfl ?_ | (refine s_bslice rfl rfl rfl rfl rfl rfl rfl rfl (fun b => ?_)) | refine s_loopr ?_ | refine s_loope ?_ | refine s_loopPr ?_ | refine s_loopPe ?_
    | refine s_pureO rfl rfl rfl (by decide) ?_ | refine s_gpureO rfl rfl rfl rfl rfl (fun _ => by decide) ?_
    | refine s_end rfl ?_ | refine s_endn rfl ?_ | refine s_inend rfl ?_ | refine s_inendn rfl ?_)
      simp [bpick, tupV]
    · have h2 : ¬ readE s = 0 := by simpa using h1
      have h3 : readH s = Head.none := by unfold readH; rw [if_neg h2]
      have h4 : readE s = 3 := by
        unfold readE at h2 ⊢
        split
        · split
          · rename_i a b
            rw [if_pos a, if_pos b] at h2
            exact absurd rfl h2
          · rfl
        · rfl
      rw [h3, h4]
      repeat (first
    | refine s_pure rfl rfl rfl ?_ | refine s_loc rfl rfl ?_ | refine s_known rfl rfl rfl ?_ | refine s_unwanted rfl rfl rfl rfl rfl ?_ | refine s_gpure rfl rfl rfl rfl rfl ?_ | refine s_gloc rfl rfl rfl rfl ?_ | refine s_store rfl ?_ | refine s_pureG rfl rfl rfl rfl ?_
    | refine s_pick rfl rfl rfl ?_ | refine s_pickK rfl rfl ?_ | refine s_pick0 rfl rfl ?_ | refine s_gpick rfl rfl rfl rfl ?_ | refine s_locG rfl rfl rfl ?_ | refine s_nil ?_ | refine s_drop ?_ | refine s_back ?_ | refine s_seqn ?_ | refine s_seqr ?_ | refine s_seqe ?_ | refine s_seq ?_
    | refine s_region ?_ | refine s_block ?_ | refine s_blockn ?_ | refine s_blockr ?_ | refine s_blocke ?_ | refine s_blocko rfl ?_ | refine s_skip ?_ | refine s_ret ?_ | refine s_exit ?_
    | (refine s_box rfl rfl rfl rfl (fun b => ?_)) | (refine s_alloc rfl rfl rfl rfl (fun b => ?_)) | refine s_condt rfl ?_ | refine s_condf rfl ?_ | (refine s_bslice rfl rfl rfl rfl rfl rfl rfl rfl (fun b => ?_)) | refine s_loopr ?_ | refine s_loope ?_ | refine s_loopPr ?_ | refine s_loopPe ?_
    | refine s_pureO rfl rfl rfl (by decide) ?_ | refine s_gpureO rfl rfl rfl rfl rfl (fun _ => by decide) ?_
    | refine s_end rfl ?_ | refine s_endn rfl ?_ | refine s_inend rfl ?_ | refine s_inendn rfl ?_)
      refine s_gpureO rfl rfl rfl rfl rfl (fun hg => ⟨by decide, by have := hg.1; rw [bl_S] at this ⊢; simp at this; omega⟩) ?_
      repeat (first
    | refine s_pure rfl rfl rfl ?_ | refine s_loc rfl rfl ?_ | refine s_known rfl rfl rfl ?_ | refine s_unwanted rfl rfl rfl rfl rfl ?_ | refine s_gpure rfl rfl rfl rfl rfl ?_ | refine s_gloc rfl rfl rfl rfl ?_ | refine s_store rfl ?_ | refine s_pureG rfl rfl rfl rfl ?_
    | refine s_pick rfl rfl rfl ?_ | refine s_pickK rfl rfl ?_ | refine s_pick0 rfl rfl ?_ | refine s_gpick rfl rfl rfl rfl ?_ | refine s_locG rfl rfl rfl ?_ | refine s_nil ?_ | refine s_drop ?_ | refine s_back ?_ | refine s_seqn ?_ | refine s_seqr ?_ | refine s_seqe ?_ | refine s_seq ?_
    | refine s_region ?_ | refine s_block ?_ | refine s_blockn ?_ | refine s_blockr ?_ | refine s_blocke ?_ | refine s_blocko rfl ?_ | refine s_skip ?_ | refine s_ret ?_ | refine s_exit ?_
    | (refine s_box rfl rfl rfl rfl (fun b => ?_)) | (refine s_alloc rfl rfl rfl rfl (fun b => ?_)) | refine s_condt rfl ?_ | refine s_condf rfl ?_ | (refine s_bslice rfl rfl rfl rfl rfl rfl rfl rfl (fun b => ?_)) | refine s_loopr ?_ | refine s_loope ?_ | refine s_loopPr ?_ | refine s_loopPe ?_
    | refine s_pureO rfl rfl rfl (by decide) ?_ | refine s_gpureO rfl rfl rfl rfl rfl (fun _ => by decide) ?_
    | refine s_end rfl ?_ | refine s_endn rfl ?_ | refine s_inend rfl ?_ | refine s_inendn rfl ?_)
      refine s_if (!hdr s) ?_ (fun h => ?_) (fun h => ?_)
      · rw [← cond_hdr]
        rfl
      · repeat (first
    | refine s_pure rfl rfl rfl ?_ | refine s_loc rfl rfl ?_ | refine s_known rfl rfl rfl ?_ | refine s_unwanted rfl rfl rfl rfl rfl ?_ | refine s_gpure rfl rfl rfl rfl rfl ?_ | refine s_gloc rfl rfl rfl rfl ?_ | refine s_store rfl ?_ | refine s_pureG rfl rfl rfl rfl ?_
    | refine s_pick rfl rfl rfl ?_ | refine s_pickK rfl rfl ?_ | refine s_pick0 rfl rfl ?_ | refine s_gpick rfl rfl rfl rfl ?_ | refine s_locG rfl rfl rfl ?_ | refine s_nil ?_ | refine s_drop ?_ | refine s_back ?_ | refine s_seqn ?_ | refine s_seqr ?_ | refine s_seqe ?_ | refine s_seq ?_
    | refine s_region ?_ | refine s_block ?_ | refine s_blockn ?_ | refine s_blockr ?_ | refine s_blocke ?_ | refine s_blocko rfl ?_ | refine s_skip ?_ | refine s_ret ?_ | refine s_exit ?_
    | (refine s_box rfl rfl rfl rfl (fun b => ?_)) | (refine s_alloc rfl rfl rfl rfl (fun b => ?_)) | refine s_condt rfl ?_ | refine s_condf rfl ?_ | (refine s_bslice rfl rfl rfl rfl rfl rfl rfl rfl (fun b => ?_)) | refine s_loopr ?_ | refine s_loope ?_ | refine s_loopPr ?_ | refine s_loopPe ?_
    | refine s_pureO rfl rfl rfl (by decide) ?_ | refine s_gpureO rfl rfl rfl rfl rfl (fun _ => by decide) ?_
    | refine s_end rfl ?_ | refine s_endn rfl ?_ | refine s_inend rfl ?_ | refine s_inendn rfl ?_)
        rfl
      · have h5 : hdr s = true := by simpa using h
        obtain ⟨hl, h0⟩ := hdr_true h5
        have h6 : ¬ (headOf s).fault = 0 := fun hf => h2 (by unfold readE; rw [if_pos h5, if_pos hf])
        clear h
        repeat (first
    | refine s_pure rfl rfl rfl ?_ | refine s_loc rfl rfl ?_ | refine s_known rfl rfl rfl ?_ | refine s_unwanted rfl rfl rfl rfl rfl ?_ | refine s_gpure rfl rfl rfl rfl rfl ?_ | refine s_gloc rfl rfl rfl rfl ?_ | refine s_store rfl ?_ | refine s_pureG rfl rfl rfl rfl ?_
    | refine s_pick rfl rfl rfl ?_ | refine s_pickK rfl rfl ?_ | refine s_pick0 rfl rfl ?_ | refine s_gpick rfl rfl rfl rfl ?_ | refine s_locG rfl rfl rfl ?_ | refine s_nil ?_ | refine s_drop ?_ | refine s_back ?_ | refine s_seqn ?_ | refine s_seqr ?_ | refine s_seqe ?_ | refine s_seq ?_
    | refine s_region ?_ | refine s_block ?_ | refine s_blockn ?_ | refine s_blockr ?_ | refine s_blocke ?_ | refine s_blocko rfl ?_ | refine s_skip ?_ | refine s_ret ?_ | refine s_exit ?_
    | (refine s_box rfl rfl rfl rfl (fun b => ?_)) | (refine s_alloc rfl rfl rfl rfl (fun b => ?_)) | refine s_condt rfl ?_ | refine s_condf rfl ?_ | (refine s_bslice rfl rfl rfl rfl rfl rfl rfl rfl (fun b => ?_)) | refine s_loopr ?_ | refine s_loope ?_ | refine s_loopPr ?_ | refine s_loopPe ?_
    | refine s_pureO rfl rfl rfl (by decide) ?_ | refine s_gpureO rfl rfl rfl rfl rfl (fun _ => by decide) ?_
    | refine s_end rfl ?_ | refine s_endn rfl ?_ | refine s_inend rfl ?_ | refine s_inendn rfl ?_)
        refine s_loopP (fun k : Nat => k ≤ 4) (fun k => ⟨[(3, .v (S s)), (8, .v (.bool false)), (23, .loc 6 0), (186, .v (i64 (k : Nat)))], F, [(6, ⟨some b, (numsE s).take k ++ zer4.drop k, 118, 4⟩)], 7⟩) (fun k => 4 - k) 0 (Nat.zero_le _) (VS.dropR [0, 1, 2, 3, 4, 5] rfl (VS.keepN [3, 8, 23, 186] rfl rfl)) ?_
        intro k hk
        repeat (first
    | refine s_pure rfl rfl rfl ?_ | refine s_loc rfl rfl ?_ | refine s_known rfl rfl rfl ?_ | refine s_unwanted rfl rfl rfl rfl rfl ?_ | refine s_gpure rfl rfl rfl rfl rfl ?_ | refine s_gloc rfl rfl rfl rfl ?_ | refine s_store rfl ?_ | refine s_pureG rfl rfl rfl rfl ?_
    | refine s_pick rfl rfl rfl ?_ | refine s_pickK rfl rfl ?_ | refine s_pick0 rfl rfl ?_ | refine s_gpick rfl rfl rfl rfl ?_ | refine s_locG rfl rfl rfl ?_ | refine s_nil ?_ | refine s_drop ?_ | refine s_back ?_ | refine s_seqn ?_ | refine s_seqr ?_ | refine s_seqe ?_ | refine s_seq ?_
    | refine s_region ?_ | refine s_block ?_ | refine s_blockn ?_ | refine s_blockr ?_ | refine s_blocke ?_ | refine s_blocko rfl ?_ | refine s_skip ?_ | refine s_ret ?_ | refine s_exit ?_
    | (refine s_box rfl rfl rfl rfl (fun b => ?_)) | (refine s_alloc rfl rfl rfl rfl (fun b => ?_)) | refine s_condt rfl ?_ | refine s_condf rfl ?_ | (refine s_bslice rfl rfl rfl rfl rfl rfl rfl rfl (fun b => ?_)) | refine s_loopr ?_ | refine s_loope ?_ | refine s_loopPr ?_ | refine s_loopPe ?_
    | refine s_pureO rfl rfl rfl (by decide) ?_ | refine s_gpureO rfl rfl rfl rfl rfl (fun _ => by decide) ?_
    | refine s_end rfl ?_ | refine s_endn rfl ?_ | refine s_inend rfl ?_ | refine s_inendn rfl ?_)
        refine s_if _ rfl (fun h5 => ?_) (fun h5 => ?_)
        · have hlt : k < 4 := by simp at h5; omega
          repeat (first
    | refine s_pure rfl rfl rfl ?_ | refine s_loc rfl rfl ?_ | refine s_known rfl rfl rfl ?_ | refine s_unwanted rfl rfl rfl rfl rfl ?_ | refine s_gpure rfl rfl rfl rfl rfl ?_ | refine s_gloc rfl rfl rfl rfl ?_ | refine s_store rfl ?_ | refine s_pureG rfl rfl rfl rfl ?_
    | refine s_pick rfl rfl rfl ?_ | refine s_pickK rfl rfl ?_ | refine s_pick0 rfl rfl ?_ | refine s_gpick rfl rfl rfl rfl ?_ | refine s_locG rfl rfl rfl ?_ | refine s_nil ?_ | refine s_drop ?_ | refine s_back ?_ | refine s_seqn ?_ | refine s_seqr ?_ | refine s_seqe ?_ | refine s_seq ?_
    | refine s_region ?_ | refine s_block ?_ | refine s_blockn ?_ | refine s_blockr ?_ | refine s_blocke ?_ | refine s_blocko rfl ?_ | refine s_skip ?_ | refine s_ret ?_ | refine s_exit ?_
    | (refine s_box rfl rfl rfl rfl (fun b => ?_)) | (refine s_alloc rfl rfl rfl rfl (fun b => ?_)) | refine s_condt rfl ?_ | refine s_condf rfl ?_ | (refine s_bslice rfl rfl rfl rfl rfl rfl rfl rfl (fun b => ?_)) | refine s_loopr ?_ | refine s_loope ?_ | refine s_loopPr ?_ | refine s_loopPe ?_
    | refine s_pureO rfl rfl rfl (by decide) ?_ | refine s_gpureO rfl rfl rfl rfl rfl (fun _ => by decide) ?_
    | refine s_end rfl ?_ | refine s_endn rfl ?_ | refine s_inend rfl ?_ | refine s_inendn rfl ?_)
          have e1 : IntKind.i64.wrap (1 + IntKind.i64.wrap (8 * (k : Int))) = ((1 + 8 * k : Nat) : Int) := by
            rw [wrap_i64 (n := 8 * (k : Int)) (by omega) (by omega), wrap_i64 (by omega) (by omega)]; omega
          have e2 : IntKind.i64.wrap (9 + IntKind.i64.wrap (8 * (k : Int))) = ((9 + 8 * k : Nat) : Int) := by
            rw [wrap_i64 (n := 8 * (k : Int)) (by omega) (by omega), wrap_i64 (by omega) (by omega)]; omega
          rw [e1, e2]
          refine s_pureO rfl rfl rfl ⟨by omega, by omega, by rw [bl_S, hl]; omega⟩ ?_
          rw [bl_S, Int.toNat_natCast, Int.toNat_natCast]
          have lp := piece_length s k hl hlt
          have hr : readN ((s.take (9 + 8 * k)).drop (1 + 8 * k)) = numAt s k := by unfold readN; rw [if_pos lp]; rfl
          have hp := numread_ok ((s.take (9 + 8 * k)).drop (1 + 8 * k)) F
          rw [hr] at hp
          refine s_plain _ rfl rfl rfl bd41 rfl hp ?_
          repeat (first
    | refine s_pure rfl rfl rfl ?_ | refine s_loc rfl rfl ?_ | refine s_known rfl rfl rfl ?_ | refine s_unwanted rfl rfl rfl rfl rfl ?_ | refine s_gpure rfl rfl rfl rfl rfl ?_ | refine s_gloc rfl rfl rfl rfl ?_ | refine s_store rfl ?_ | refine s_pureG rfl rfl rfl rfl ?_
    | refine s_pick rfl rfl rfl ?_ | refine s_pickK rfl rfl ?_ | refine s_pick0 rfl rfl ?_ | refine s_gpick rfl rfl rfl rfl ?_ | refine s_locG rfl rfl rfl ?_ | refine s_nil ?_ | refine s_drop ?_ | refine s_back ?_ | refine s_seqn ?_ | refine s_seqr ?_ | refine s_seqe ?_ | refine s_seq ?_
    | refine s_region ?_ | refine s_block ?_ | refine s_blockn ?_ | refine s_blockr ?_ | refine s_blocke ?_ | refine s_blocko rfl ?_ | refine s_skip ?_ | refine s_ret ?_ | refine s_exit ?_
    | (refine s_box rfl rfl rfl rfl (fun b => ?_)) | (refine s_alloc rfl rfl rfl rfl (fun b => ?_)) | refine s_condt rfl ?_ | refine s_condf rfl ?_ | (refine s_bslice rfl rfl rfl rfl rfl rfl rfl rfl (fun b => ?_)) | refine s_loopr ?_ | refine s_loope ?_ | refine s_loopPr ?_ | refine s_loopPe ?_
    | refine s_pureO rfl rfl rfl (by decide) ?_ | refine s_gpureO rfl rfl rfl rfl rfl (fun _ => by decide) ?_
    | refine s_end rfl ?_ | refine s_endn rfl ?_ | refine s_inend rfl ?_ | refine s_inendn rfl ?_)
          refine s_pureO rfl rfl rfl ⟨by omega, by omega⟩ ?_
          have hl1 : (numsE s).length = zer4.length := rfl
          have hk1 : k < (numsE s).length := hlt
          have hidx : (0 + ((k : Int).toNat) * 1) = k := by omega
          have hlen : ((numsE s).take k ++ zer4.drop k).length = 4 := by
            rw [List.length_append, List.length_take, List.length_drop]
            have e3 : (numsE s).length = 4 := rfl
            have e4 : zer4.length = 4 := rfl
            omega
          refine s_storeX ((numsE s).take (k + 1) ++ zer4.drop (k + 1)) rfl rfl rfl rfl rfl rfl ?_ ?_ rfl ?_
          · show 0 + ((k : Int).toNat) * 1 + 1 ≤ ((numsE s).take k ++ zer4.drop k).length
            rw [hlen]; omega
          · show ((numsE s).take k ++ zer4.drop k).take (0 + ((k : Int).toNat) * 1) ++ [_] ++ ((numsE s).take k ++ zer4.drop k).drop (0 + ((k : Int).toNat) * 1 + 1) = _
            rw [hidx, ← fill_step (numsE s) zer4 hl1 k hk1, numsE_get s k hk1]
          repeat (first
    | refine s_pure rfl rfl rfl ?_ | refine s_loc rfl rfl ?_ | refine s_known rfl rfl rfl ?_ | refine s_unwanted rfl rfl rfl rfl rfl ?_ | refine s_gpure rfl rfl rfl rfl rfl ?_ | refine s_gloc rfl rfl rfl rfl ?_ | refine s_store rfl ?_ | refine s_pureG rfl rfl rfl rfl ?_
    | refine s_pick rfl rfl rfl ?_ | refine s_pickK rfl rfl ?_ | refine s_pick0 rfl rfl ?_ | refine s_gpick rfl rfl rfl rfl ?_ | refine s_locG rfl rfl rfl ?_ | refine s_nil ?_ | refine s_drop ?_ | refine s_back ?_ | refine s_seqn ?_ | refine s_seqr ?_ | refine s_seqe ?_ | refine s_seq ?_
    | refine s_region ?_ | refine s_block ?_ | refine s_blockn ?_ | refine s_blockr ?_ | refine s_blocke ?_ | refine s_blocko rfl ?_ | refine s_skip ?_ | refine s_ret ?_ | refine s_exit ?_
    | (refine s_box rfl rfl rfl rfl (fun b => ?_)) | (refine s_alloc rfl rfl rfl rfl (fun b => ?_)) | refine s_condt rfl ?_ | refine s_condf rfl ?_ | (refine s_bslice rfl rfl rfl rfl rfl rfl rfl rfl (fun b => ?_)) | refine s_loopr ?_ | refine s_loope ?_ | refine s_loopPr ?_ | refine s_loopPe ?_
    | refine s_pureO rfl rfl rfl (by decide) ?_ | refine s_gpureO rfl rfl rfl rfl rfl (fun _ => by decide) ?_
    | refine s_end rfl ?_ | refine s_endn rfl ?_ | refine s_inend rfl ?_ | refine s_inendn rfl ?_)
          rw [wrap_succ (by omega)]
          exact s_loopPn (k + 1) hlt (by omega) (VS.keepN [3, 8, 23, 186] rfl rfl)
        · have hge : k = 4 := by simp at h5; omega
          subst hge
          have hc : (numsE s).take 4 ++ zer4.drop 4 = [.v (u64 (numAt s 0 : Nat)), .v (u64 (numAt s 1 : Nat)), .v (u64 (numAt s 2 : Nat)), .v (u64 (numAt s 3 : Nat))] := rfl
          rw [hc]
          repeat (first
    | refine s_pure rfl rfl rfl ?_ | refine s_loc rfl rfl ?_ | refine s_known rfl rfl rfl ?_ | refine s_unwanted rfl rfl rfl rfl rfl ?_ | refine s_gpure rfl rfl rfl rfl rfl ?_ | refine s_gloc rfl rfl rfl rfl ?_ | refine s_store rfl ?_ | refine s_pureG rfl rfl rfl rfl ?_
    | refine s_pick rfl rfl rfl ?_ | refine s_pickK rfl rfl ?_ | refine s_pick0 rfl rfl ?_ | refine s_gpick rfl rfl rfl rfl ?_ | refine s_locG rfl rfl rfl ?_ | refine s_nil ?_ | refine s_drop ?_ | refine s_back ?_ | refine s_seqn ?_ | refine s_seqr ?_ | refine s_seqe ?_ | refine s_seq ?_
    | refine s_region ?_ | refine s_block ?_ | refine s_blockn ?_ | refine s_blockr ?_ | refine s_blocke ?_ | refine s_blocko rfl ?_ | refine s_skip ?_ | refine s_ret ?_ | refine s_exit ?_
    | (refine s_box rfl rfl rfl rfl (fun b => ?_)) | (refine s_alloc rfl rfl rfl rfl (fun b => ?_)) | refine s_condt rfl ?_ | refine s_condf rfl ?_ | (refine s_bslice rfl rfl rfl rfl rfl rfl rfl rfl (fun b => ?_)) | refine s_loopr ?_ | refine s_loope ?_ | refine s_loopPr ?_ | refine s_loopPe ?_
    | refine s_pureO rfl rfl rfl (by decide) ?_ | refine s_gpureO rfl rfl rfl rfl rfl (fun _ => by decide) ?_
    | refine s_end rfl ?_ | refine s_endn rfl ?_ | refine s_inend rfl ?_ | refine s_inendn rfl ?_)
          refine s_gplain (i64 (headOf s).fault) rfl rfl rfl rfl bd70 rfl rfl (fun _ => reffault_ok (headOf s) F) ?_
          repeat (first
    | refine s_pure rfl rfl rfl ?_ | refine s_loc rfl rfl ?_ | refine s_known rfl rfl rfl ?_ | refine s_unwanted rfl rfl rfl rfl rfl ?_ | refine s_gpure rfl rfl rfl rfl rfl ?_ | refine s_gloc rfl rfl rfl rfl ?_ | refine s_store rfl ?_ | refine s_pureG rfl rfl rfl rfl ?_
    | refine s_pick rfl rfl rfl ?_ | refine s_pickK rfl rfl ?_ | refine s_pick0 rfl rfl ?_ | refine s_gpick rfl rfl rfl rfl ?_ | refine s_locG rfl rfl rfl ?_ | refine s_nil ?_ | refine s_drop ?_ | refine s_back ?_ | refine s_seqn ?_ | refine s_seqr ?_ | refine s_seqe ?_ | refine s_seq ?_
    | refine s_region ?_ | refine s_block ?_ | refine s_blockn ?_ | refine s_blockr ?_ | refine s_blocke ?_ | refine s_blocko rfl ?_ | refine s_skip ?_ | refine s_ret ?_ | refine s_exit ?_
    | (refine s_box rfl rfl rfl rfl (fun b => ?_)) | (refine s_alloc rfl rfl rfl rfl (fun b => ?_)) | refine s_condt rfl ?_ | refine s_condf rfl ?_ | (refine s_bslice rfl rfl rfl rfl rfl rfl rfl rfl (fun b => ?_)) | refine s_loopr ?_ | refine s_loope ?_ | refine s_loopPr ?_ | refine s_loopPe ?_
    | refine s_pureO rfl rfl rfl (by decide) ?_ | refine s_gpureO rfl rfl rfl rfl rfl (fun _ => by decide) ?_
    | refine s_end rfl ?_ | refine s_endn rfl ?_ | refine s_inend rfl ?_ | refine s_inendn rfl ?_)
          simp [bpick_or, tupV, h6]
  · intro KK2 K1 K2 K3
    repeat (first
    | refine s_pure rfl rfl rfl ?_ | refine s_loc rfl rfl ?_ | refine s_known rfl rfl rfl ?_ | refine s_unwanted rfl rfl rfl rfl rfl ?_ | refine s_gpure rfl rfl rfl rfl rfl ?_ | refine s_gloc rfl rfl rfl rfl ?_ | refine s_store rfl ?_ | refine s_pureG rfl rfl rfl rfl ?_
    | refine s_pick rfl rfl rfl ?_ | refine s_pickK rfl rfl ?_ | refine s_pick0 rfl rfl ?_ | refine s_gpick rfl rfl rfl rfl ?_ | refine s_locG rfl rfl rfl ?_ | refine s_nil ?_ | refine s_drop ?_ | refine s_back ?_ | refine s_seqn ?_ | refine s_seqr ?_ | refine s_seqe ?_ | refine s_seq ?_
    | refine s_region ?_ | refine s_block ?_ | refine s_blockn ?_ | refine s_blockr ?_ | refine s_blocke ?_ | refine s_blocko rfl ?_ | refine s_skip ?_ | refine s_ret ?_ | refine s_exit ?_
    | (refine s_box rfl rfl rfl rfl (fun b => ?_)) | (refine s_alloc rfl rfl rfl rfl (fun b => ?_)) | refine s_condt rfl ?_ | refine s_condf rfl ?_ | (refine s_bslice rfl rfl rfl rfl rfl rfl rfl rfl (fun b => ?_)) | refine s_loopr ?_ | refine s_loope ?_ | refine s_loopPr ?_ | refine s_loopPe ?_
    | refine s_pureO rfl rfl rfl (by decide) ?_ | refine s_gpureO rfl rfl rfl rfl rfl (fun _ => by decide) ?_
    | refine s_end rfl ?_ | refine s_endn rfl ?_ | refine s_inend rfl ?_ | refine s_inendn rfl ?_)
    refine s_if _ rfl (fun h1 => ?_) (fun h1 => ?_)
    · have h2 : h.fault ≠ 0 := by simpa using h1
      have h3 : h.nextE root at_ = h.fault := by unfold Head.nextE; rw [if_pos h2]
      repeat (first
    | refine s_pure rfl rfl rfl ?_ | refine s_loc rfl rfl ?_ | refine s_known rfl rfl rfl ?_ | refine s_unwanted rfl rfl rfl rfl rfl ?_ | refine s_gpure rfl rfl rfl rfl rfl ?_ | refine s_gloc rfl rfl rfl rfl ?_ | refine s_store rfl ?_ | refine s_pureG rfl rfl rfl rfl ?_
    | refine s_pick rfl rfl rfl ?_ | refine s_pickK rfl rfl ?_ | refine s_pick0 rfl rfl ?_ | refine s_gpick rfl rfl rfl rfl ?_ | refine s_locG rfl rfl rfl ?_ | refine s_nil ?_ | refine s_drop ?_ | refine s_back ?_ | refine s_seqn ?_ | refine s_seqr ?_ | refine s_seqe ?_ | refine s_seq ?_
    | refine s_region ?_ | refine s_block ?_ | refine s_blockn ?_ | refine s_blockr ?_ | refine s_blocke ?_ | refine s_blocko rfl ?_ | refine s_skip ?_ | refine s_ret ?_ | refine s_exit ?_
    | (refine s_box rfl rfl rfl rfl (fun b => ?_)) | (refine s_alloc rfl rfl rfl rfl (fun b => ?_)) | refine s_condt rfl ?_ | refine s_condf rfl ?_ | (refine s_bslice rfl rfl rfl rfl rfl rfl rfl rfl (fun b => ?_)) | refine s_loopr ?_ | refine s_loope ?_ | refine s_loopPr ?_ | refine s_loopPe ?_
    | refine s_pureO rfl rfl rfl (by decide) ?_ | refine s_gpureO rfl rfl rfl rfl rfl (fun _ => by decide) ?_
    | refine s_end rfl ?_ | refine s_endn rfl ?_ | refine s_inend rfl ?_ | refine s_inendn rfl ?_)
      refine K1 _ (VS.keepN [1, 2, 3, 4, 8, 15, 16, 17, 18, 19, 22] rfl ⟨(h.fault, Head.none), ⟨h3.symm, ?_⟩, rfl⟩)
      rw [hnxt, h3, Head.orNone, if_neg h2]
    · have h2 : h.fault = 0 := by simpa using h1
      repeat (first
    | refine s_pure rfl rfl rfl ?_ | refine s_loc rfl rfl ?_ | refine s_known rfl rfl rfl ?_ | refine s_unwanted rfl rfl rfl rfl rfl ?_ | refine s_gpure rfl rfl rfl rfl rfl ?_ | refine s_gloc rfl rfl rfl rfl ?_ | refine s_store rfl ?_ | refine s_pureG rfl rfl rfl rfl ?_
    | refine s_pick rfl rfl rfl ?_ | refine s_pickK rfl rfl ?_ | refine s_pick0 rfl rfl ?_ | refine s_gpick rfl rfl rfl rfl ?_ | refine s_locG rfl rfl rfl ?_ | refine s_nil ?_ | refine s_drop ?_ | refine s_back ?_ | refine s_seqn ?_ | refine s_seqr ?_ | refine s_seqe ?_ | refine s_seq ?_
    | refine s_region ?_ | refine s_block ?_ | refine s_blockn ?_ | refine s_blockr ?_ | refine s_blocke ?_ | refine s_blocko rfl ?_ | refine s_skip ?_ | refine s_ret ?_ | refine s_exit ?_
    | (refine s_box rfl rfl rfl rfl (fun b => ?_)) | (refine s_alloc rfl rfl rfl rfl (fun b => ?_)) | refine s_condt rfl ?_ | refine s_condf rfl ?_ | (refine s_bslice rfl rfl rfl rfl rfl rfl rfl rfl (fun b => ?_)) | refine s_loopr ?_ | refine s_loope ?_ | refine s_loopPr ?_ | refine s_loopPe ?_
    | refine s_pureO rfl rfl rfl (by decide) ?_ | refine s_gpureO rfl rfl rfl rfl rfl (fun _ => by decide) ?_
    | refine s_end rfl ?_ | refine s_endn rfl ?_ | refine s_inend rfl ?_ | refine s_inendn rfl ?_)
      refine s_if _ rfl (fun h3 => ?_) (fun h3 => ?_)
      · have h4 : h.epoch = 1000000 := by simpa using h3
        have h5 : h.nextE root at_ = 7 := by unfold Head.nextE; rw [if_neg (by simpa using h2), if_pos h4]
        repeat (first
    | refine s_pure rfl rfl rfl ?_ | refine s_loc rfl rfl ?_ | refine s_known rfl rfl rfl ?_ | refine s_unwanted rfl rfl rfl rfl rfl ?_ | refine s_gpure rfl rfl rfl rfl rfl ?_ | refine s_gloc rfl rfl rfl rfl ?_ | refine s_store rfl ?_ | refine s_pureG rfl rfl rfl rfl ?_
    | refine s_pick rfl rfl rfl ?_ | refine s_pickK rfl rfl ?_ | refine s_pick0 rfl rfl ?_ | refine s_gpick rfl rfl rfl rfl ?_ | refine s_locG rfl rfl rfl ?_ | refine s_nil ?_ | refine s_drop ?_ | refine s_back ?_ | refine s_seqn ?_ | refine s_seqr ?_ | refine s_seqe ?_ | refine s_seq ?_
    | refine s_region ?_ | refine s_block ?_ | refine s_blockn ?_ | refine s_blockr ?_ | refine s_blocke ?_ | refine s_blocko rfl ?_ | refine s_skip ?_ | refine s_ret ?_ | refine s_exit ?_
    | (refine s_box rfl rfl rfl rfl (fun b => ?_)) | (refine s_alloc rfl rfl rfl rfl (fun b => ?_)) | refine s_condt rfl ?_ | refine s_condf rfl ?_ | (refine s_bslice rfl rfl rfl rfl rfl rfl rfl rfl (fun b => ?_)) | refine s_loopr ?_ | refine s_loope ?_ | refine s_loopPr ?_ | refine s_loopPe ?_
    | refine s_pureO rfl rfl rfl (by decide) ?_ | refine s_gpureO rfl rfl rfl rfl rfl (fun _ => by decide) ?_
    | refine s_end rfl ?_ | refine s_endn rfl ?_ | refine s_inend rfl ?_ | refine s_inendn rfl ?_)
        refine K1 _ (VS.keepN [1, 2, 3, 4, 8, 15, 16, 17, 18, 19, 22] rfl ⟨(7, Head.none), ⟨h5.symm, ?_⟩, rfl⟩)
        rw [hnxt, h5]
        rfl
      · have h4 : ¬ h.epoch = 1000000 := by simpa using h3
        have ha := nextE_alt hw (root := root) (at_ := at_) h2 h4
        repeat (first
    | refine s_pure rfl rfl rfl ?_ | refine s_loc rfl rfl ?_ | refine s_known rfl rfl rfl ?_ | refine s_unwanted rfl rfl rfl rfl rfl ?_ | refine s_gpure rfl rfl rfl rfl rfl ?_ | refine s_gloc rfl rfl rfl rfl ?_ | refine s_store rfl ?_ | refine s_pureG rfl rfl rfl rfl ?_
    | refine s_pick rfl rfl rfl ?_ | refine s_pickK rfl rfl ?_ | refine s_pick0 rfl rfl ?_ | refine s_gpick rfl rfl rfl rfl ?_ | refine s_locG rfl rfl rfl ?_ | refine s_nil ?_ | refine s_drop ?_ | refine s_back ?_ | refine s_seqn ?_ | refine s_seqr ?_ | refine s_seqe ?_ | refine s_seq ?_
    | refine s_region ?_ | refine s_block ?_ | refine s_blockn ?_ | refine s_blockr ?_ | refine s_blocke ?_ | refine s_blocko rfl ?_ | refine s_skip ?_ | refine s_ret ?_ | refine s_exit ?_
    | (refine s_box rfl rfl rfl rfl (fun b => ?_)) | (refine s_alloc rfl rfl rfl rfl (fun b => ?_)) | refine s_condt rfl ?_ | refine s_condf rfl ?_ | (refine s_bslice rfl rfl rfl rfl rfl rfl rfl rfl (fun b => ?_)) | refine s_loopr ?_ | refine s_loope ?_ | refine s_loopPr ?_ | refine s_loopPe ?_
    | refine s_pureO rfl rfl rfl (by decide) ?_ | refine s_gpureO rfl rfl rfl rfl rfl (fun _ => by decide) ?_
    | refine s_end rfl ?_ | refine s_endn rfl ?_ | refine s_inend rfl ?_ | refine s_inendn rfl ?_)
        refine s_if (decide (MM ≤ root ∨ at_ < h.at_ ∨ 1000000000 < at_)) ?_ (fun h6 => ?_) (fun h6 => ?_)
        · refine congrArg (fun b => some (EV.v (.bool b))) ?_
          rw [bpick_or, bpick_or]
          have e1 : decide ((2305843009213693951 : Int) ≤ (root : Int)) = decide (MM ≤ root) := by
            rw [Bool.eq_iff_iff, decide_eq_true_eq, decide_eq_true_eq]
            show (2305843009213693951 : Int) ≤ (root : Int) ↔ 2305843009213693951 ≤ root
            omega
          rw [e1]
          simp only [Bool.decide_or, Bool.or_assoc]
        · rw [if_pos (by simpa using h6)] at ha
          repeat (first
    | refine s_pure rfl rfl rfl ?_ | refine s_loc rfl rfl ?_ | refine s_known rfl rfl rfl ?_ | refine s_unwanted rfl rfl rfl rfl rfl ?_ | refine s_gpure rfl rfl rfl rfl rfl ?_ | refine s_gloc rfl rfl rfl rfl ?_ | refine s_store rfl ?_ | refine s_pureG rfl rfl rfl rfl ?_
    | refine s_pick rfl rfl rfl ?_ | refine s_pickK rfl rfl ?_ | refine s_pick0 rfl rfl ?_ | refine s_gpick rfl rfl rfl rfl ?_ | refine s_locG rfl rfl rfl ?_ | refine s_nil ?_ | refine s_drop ?_ | refine s_back ?_ | refine s_seqn ?_ | refine s_seqr ?_ | refine s_seqe ?_ | refine s_seq ?_
    | refine s_region ?_ | refine s_block ?_ | refine s_blockn ?_ | refine s_blockr ?_ | refine s_blocke ?_ | refine s_blocko rfl ?_ | refine s_skip ?_ | refine s_ret ?_ | refine s_exit ?_
    | (refine s_box rfl rfl rfl rfl (fun b => ?_)) | (refine s_alloc rfl rfl rfl rfl (fun b => ?_)) | refine s_condt rfl ?_ | refine s_condf rfl ?_ | (refine s_bslice rfl rfl rfl rfl rfl rfl rfl rfl (fun b => ?_)) | refine s_loopr ?_ | refine s_loope ?_ | refine s_loopPr ?_ | refine s_loopPe ?_
    | refine s_pureO rfl rfl rfl (by decide) ?_ | refine s_gpureO rfl rfl rfl rfl rfl (fun _ => by decide) ?_
    | refine s_end rfl ?_ | refine s_endn rfl ?_ | refine s_inend rfl ?_ | refine s_inendn rfl ?_)
          refine K1 _ (VS.keepN [1, 2, 3, 4, 8, 15, 16, 17, 18, 19, 22] rfl ⟨(4, Head.none), ⟨ha.symm, ?_⟩, rfl⟩)
          rw [hnxt, ha]
          rfl
        · rw [if_neg (by simpa using h6)] at ha
          refine s_regiont 8 (by kernel_rfl) rfl rfl ?_
          repeat (first
    | refine s_pure rfl rfl rfl ?_ | refine s_loc rfl rfl ?_ | refine s_known rfl rfl rfl ?_ | refine s_unwanted rfl rfl rfl rfl rfl ?_ | refine s_gpure rfl rfl rfl rfl rfl ?_ | refine s_gloc rfl rfl rfl rfl ?_ | refine s_store rfl ?_ | refine s_pureG rfl rfl rfl rfl ?_
    | refine s_pick rfl rfl rfl ?_ | refine s_pickK rfl rfl ?_ | refine s_pick0 rfl rfl ?_ | refine s_gpick rfl rfl rfl rfl ?_ | refine s_locG rfl rfl rfl ?_ | refine s_nil ?_ | refine s_drop ?_ | refine s_back ?_ | refine s_seqn ?_ | refine s_seqr ?_ | refine s_seqe ?_ | refine s_seq ?_
    | refine s_region ?_ | refine s_block ?_ | refine s_blockn ?_ | refine s_blockr ?_ | refine s_blocke ?_ | refine s_blocko rfl ?_ | refine s_skip ?_ | refine s_ret ?_ | refine s_exit ?_
    | (refine s_box rfl rfl rfl rfl (fun b => ?_)) | (refine s_alloc rfl rfl rfl rfl (fun b => ?_)) | refine s_condt rfl ?_ | refine s_condf rfl ?_ | (refine s_bslice rfl rfl rfl rfl rfl rfl rfl rfl (fun b => ?_)) | refine s_loopr ?_ | refine s_loope ?_ | refine s_loopPr ?_ | refine s_loopPe ?_
    | refine s_pureO rfl rfl rfl (by decide) ?_ | refine s_gpureO rfl rfl rfl rfl rfl (fun _ => by decide) ?_
    | refine s_end rfl ?_ | refine s_endn rfl ?_ | refine s_inend rfl ?_ | refine s_inendn rfl ?_)
          refine s_plain (u64 (h.mark : Nat)) rfl rfl rfl bd73 rfl (refheadmark_ok h hw F) ?_
          repeat (first
    | refine s_pure rfl rfl rfl ?_ | refine s_loc rfl rfl ?_ | refine s_known rfl rfl rfl ?_ | refine s_unwanted rfl rfl rfl rfl rfl ?_ | refine s_gpure rfl rfl rfl rfl rfl ?_ | refine s_gloc rfl rfl rfl rfl ?_ | refine s_store rfl ?_ | refine s_pureG rfl rfl rfl rfl ?_
    | refine s_pick rfl rfl rfl ?_ | refine s_pickK rfl rfl ?_ | refine s_pick0 rfl rfl ?_ | refine s_gpick rfl rfl rfl rfl ?_ | refine s_locG rfl rfl rfl ?_ | refine s_nil ?_ | refine s_drop ?_ | refine s_back ?_ | refine s_seqn ?_ | refine s_seqr ?_ | refine s_seqe ?_ | refine s_seq ?_
    | refine s_region ?_ | refine s_block ?_ | refine s_blockn ?_ | refine s_blockr ?_ | refine s_blocke ?_ | refine s_blocko rfl ?_ | refine s_skip ?_ | refine s_ret ?_ | refine s_exit ?_
    | (refine s_box rfl rfl rfl rfl (fun b => ?_)) | (refine s_alloc rfl rfl rfl rfl (fun b => ?_)) | refine s_condt rfl ?_ | refine s_condf rfl ?_ | (refine s_bslice rfl rfl rfl rfl rfl rfl rfl rfl (fun b => ?_)) | refine s_loopr ?_ | refine s_loope ?_ | refine s_loopPr ?_ | refine s_loopPe ?_
    | refine s_pureO rfl rfl rfl (by decide) ?_ | refine s_gpureO rfl rfl rfl rfl rfl (fun _ => by decide) ?_
    | refine s_end rfl ?_ | refine s_endn rfl ?_ | refine s_inend rfl ?_ | refine s_inendn rfl ?_)
          have h7 : nxt = ⟨IntKind.i64.wrap (h.epoch + 1), root, h.mark, at_⟩ := by
            rw [hnxt, ha]
            show (⟨_, _, h.markO, _⟩ : Head) = _
            unfold Head.markO
            rw [if_pos h2]
          refine K1 _ (VS.keepN [1, 2, 3, 4, 8, 15, 16, 17, 18, 19, 22] rfl ⟨(0, ⟨IntKind.i64.wrap (h.epoch + 1), root, h.mark, at_⟩), ⟨ha.symm, h7.symm⟩, ?_⟩)
          show (⟨_, _, _, _⟩ : St) = ⟨_, _, _, _⟩
          rw [h2]
          rfl
end Go.Proofs.Ytaienbnadbadfaa
