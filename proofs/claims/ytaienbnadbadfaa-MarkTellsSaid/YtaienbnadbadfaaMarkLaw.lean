/-
The law of package mark: for texts of at most 2000 bytes each function answers what the reference answers.
-/
import Derived.Test.YtaienbnadbadfaaSaid
namespace Go.Proofs.Ytaienbnadbadfaa
open Go.TR
attribute [local irreducible] vc vcOps seqK blockK loopK retK retG retI loopV Plain CallOK CallIn bodied VS vcAny dropG backK brK loopPK IntKind.wrap
set_option maxRecDepth 100000
set_option maxHeartbeats 1000000 in
theorem mark_tells (s t : List UInt8) (kind a b : Nat) (n : Int) (hs : s.length ≤ 4611686018427387904) (ht : t.length ≤ 4611686018427387904) (hk : kind < 256) (ha : a < 18446744073709551616) (hb : b < 18446744073709551616) (F : Hp) :
    Plain Try.prog F 8 [S s, S t, u8 kind, u64 a, u64 b, i64 n] (.bool true) := by
  refine plain_vc (N := 116) (rv := [.tmp 12]) tbok mixed Try.func8 rfl rfl rfl rfl rfl ?_
  repeat (first
    | refine s_pure rfl rfl rfl ?_ | refine s_loc rfl rfl ?_ | refine s_known rfl rfl rfl ?_ | refine s_unwanted rfl rfl rfl rfl rfl ?_ | refine s_gpure rfl rfl rfl rfl rfl ?_ | refine s_gloc rfl rfl rfl rfl ?_ | refine s_store rfl ?_ | refine s_pureG rfl rfl rfl rfl ?_
    | refine s_pick rfl rfl rfl ?_ | refine s_pickK rfl rfl ?_ | refine s_pick0 rfl rfl ?_ | refine s_gpick rfl rfl rfl rfl ?_ | refine s_locG rfl rfl rfl ?_ | refine s_nil ?_ | refine s_drop ?_ | refine s_back ?_ | refine s_seqn ?_ | refine s_seqr ?_ | refine s_seqe ?_ | refine s_seq ?_
    | refine s_region ?_ | refine s_block ?_ | refine s_blockn ?_ | refine s_blockr ?_ | refine s_blocke ?_ | refine s_blocko rfl ?_ | refine s_skip ?_ | refine s_ret ?_ | refine s_exit ?_
    | (refine s_box rfl rfl rfl rfl (fun b => ?_)) | (refine s_alloc rfl rfl rfl rfl (fun b => ?_)) | refine s_condt rfl ?_ | refine s_condf rfl ?_ | (refine s_bslice rfl rfl rfl rfl rfl rfl rfl rfl (fun b => ?_)) | refine s_loopr ?_ | refine s_loope ?_ | refine s_loopPr ?_ | refine s_loopPe ?_
    | refine s_pureO rfl rfl rfl (by decide) ?_ | refine s_gpureO rfl rfl rfl rfl rfl (fun _ => by decide) ?_
    | refine s_end rfl ?_ | refine s_endn rfl ?_ | refine s_inend rfl ?_ | refine s_inendn rfl ?_)
  refine s_plain _ rfl rfl rfl bd56 rfl (join_ok a b n ha hb F) ?_
  repeat (first
    | refine s_pure rfl rfl rfl ?_ | refine s_loc rfl rfl ?_ | refine s_known rfl rfl rfl ?_ | refine s_unwanted rfl rfl rfl rfl rfl ?_ | refine s_gpure rfl rfl rfl rfl rfl ?_ | refine s_gloc rfl rfl rfl rfl ?_ | refine s_store rfl ?_ | refine s_pureG rfl rfl rfl rfl ?_
    | refine s_pick rfl rfl rfl ?_ | refine s_pickK rfl rfl ?_ | refine s_pick0 rfl rfl ?_ | refine s_gpick rfl rfl rfl rfl ?_ | refine s_locG rfl rfl rfl ?_ | refine s_nil ?_ | refine s_drop ?_ | refine s_back ?_ | refine s_seqn ?_ | refine s_seqr ?_ | refine s_seqe ?_ | refine s_seq ?_
    | refine s_region ?_ | refine s_block ?_ | refine s_blockn ?_ | refine s_blockr ?_ | refine s_blocke ?_ | refine s_blocko rfl ?_ | refine s_skip ?_ | refine s_ret ?_ | refine s_exit ?_
    | (refine s_box rfl rfl rfl rfl (fun b => ?_)) | (refine s_alloc rfl rfl rfl rfl (fun b => ?_)) | refine s_condt rfl ?_ | refine s_condf rfl ?_ | (refine s_bslice rfl rfl rfl rfl rfl rfl rfl rfl (fun b => ?_)) | refine s_loopr ?_ | refine s_loope ?_ | refine s_loopPr ?_ | refine s_loopPe ?_
    | refine s_pureO rfl rfl rfl (by decide) ?_ | refine s_gpureO rfl rfl rfl rfl rfl (fun _ => by decide) ?_
    | refine s_end rfl ?_ | refine s_endn rfl ?_ | refine s_inend rfl ?_ | refine s_inendn rfl ?_)
  refine s_if _ rfl (fun _ => ?_) (fun _ => ?_)
  · repeat (first
    | refine s_pure rfl rfl rfl ?_ | refine s_loc rfl rfl ?_ | refine s_known rfl rfl rfl ?_ | refine s_unwanted rfl rfl rfl rfl rfl ?_ | refine s_gpure rfl rfl rfl rfl rfl ?_ | refine s_gloc rfl rfl rfl rfl ?_ | refine s_store rfl ?_ | refine s_pureG rfl rfl rfl rfl ?_
    | refine s_pick rfl rfl rfl ?_ | refine s_pickK rfl rfl ?_ | refine s_pick0 rfl rfl ?_ | refine s_gpick rfl rfl rfl rfl ?_ | refine s_locG rfl rfl rfl ?_ | refine s_nil ?_ | refine s_drop ?_ | refine s_back ?_ | refine s_seqn ?_ | refine s_seqr ?_ | refine s_seqe ?_ | refine s_seq ?_
    | refine s_region ?_ | refine s_block ?_ | refine s_blockn ?_ | refine s_blockr ?_ | refine s_blocke ?_ | refine s_blocko rfl ?_ | refine s_skip ?_ | refine s_ret ?_ | refine s_exit ?_
    | (refine s_box rfl rfl rfl rfl (fun b => ?_)) | (refine s_alloc rfl rfl rfl rfl (fun b => ?_)) | refine s_condt rfl ?_ | refine s_condf rfl ?_ | (refine s_bslice rfl rfl rfl rfl rfl rfl rfl rfl (fun b => ?_)) | refine s_loopr ?_ | refine s_loope ?_ | refine s_loopPr ?_ | refine s_loopPe ?_
    | refine s_pureO rfl rfl rfl (by decide) ?_ | refine s_gpureO rfl rfl rfl rfl rfl (fun _ => by decide) ?_
    | refine s_end rfl ?_ | refine s_endn rfl ?_ | refine s_inend rfl ?_ | refine s_inendn rfl ?_)
    rfl
  repeat (first
    | refine s_pure rfl rfl rfl ?_ | refine s_loc rfl rfl ?_ | refine s_known rfl rfl rfl ?_ | refine s_unwanted rfl rfl rfl rfl rfl ?_ | refine s_gpure rfl rfl rfl rfl rfl ?_ | refine s_gloc rfl rfl rfl rfl ?_ | refine s_store rfl ?_ | refine s_pureG rfl rfl rfl rfl ?_
    | refine s_pick rfl rfl rfl ?_ | refine s_pickK rfl rfl ?_ | refine s_pick0 rfl rfl ?_ | refine s_gpick rfl rfl rfl rfl ?_ | refine s_locG rfl rfl rfl ?_ | refine s_nil ?_ | refine s_drop ?_ | refine s_back ?_ | refine s_seqn ?_ | refine s_seqr ?_ | refine s_seqe ?_ | refine s_seq ?_
    | refine s_region ?_ | refine s_block ?_ | refine s_blockn ?_ | refine s_blockr ?_ | refine s_blocke ?_ | refine s_blocko rfl ?_ | refine s_skip ?_ | refine s_ret ?_ | refine s_exit ?_
    | (refine s_box rfl rfl rfl rfl (fun b => ?_)) | (refine s_alloc rfl rfl rfl rfl (fun b => ?_)) | refine s_condt rfl ?_ | refine s_condf rfl ?_ | (refine s_bslice rfl rfl rfl rfl rfl rfl rfl rfl (fun b => ?_)) | refine s_loopr ?_ | refine s_loope ?_ | refine s_loopPr ?_ | refine s_loopPe ?_
    | refine s_pureO rfl rfl rfl (by decide) ?_ | refine s_gpureO rfl rfl rfl rfl rfl (fun _ => by decide) ?_
    | refine s_end rfl ?_ | refine s_endn rfl ?_ | refine s_inend rfl ?_ | refine s_inendn rfl ?_)
  refine s_plain _ rfl rfl rfl bd57 rfl (markof_ok s hs F) ?_
  repeat (first
    | refine s_pure rfl rfl rfl ?_ | refine s_loc rfl rfl ?_ | refine s_known rfl rfl rfl ?_ | refine s_unwanted rfl rfl rfl rfl rfl ?_ | refine s_gpure rfl rfl rfl rfl rfl ?_ | refine s_gloc rfl rfl rfl rfl ?_ | refine s_store rfl ?_ | refine s_pureG rfl rfl rfl rfl ?_
    | refine s_pick rfl rfl rfl ?_ | refine s_pickK rfl rfl ?_ | refine s_pick0 rfl rfl ?_ | refine s_gpick rfl rfl rfl rfl ?_ | refine s_locG rfl rfl rfl ?_ | refine s_nil ?_ | refine s_drop ?_ | refine s_back ?_ | refine s_seqn ?_ | refine s_seqr ?_ | refine s_seqe ?_ | refine s_seq ?_
    | refine s_region ?_ | refine s_block ?_ | refine s_blockn ?_ | refine s_blockr ?_ | refine s_blocke ?_ | refine s_blocko rfl ?_ | refine s_skip ?_ | refine s_ret ?_ | refine s_exit ?_
    | (refine s_box rfl rfl rfl rfl (fun b => ?_)) | (refine s_alloc rfl rfl rfl rfl (fun b => ?_)) | refine s_condt rfl ?_ | refine s_condf rfl ?_ | (refine s_bslice rfl rfl rfl rfl rfl rfl rfl rfl (fun b => ?_)) | refine s_loopr ?_ | refine s_loope ?_ | refine s_loopPr ?_ | refine s_loopPe ?_
    | refine s_pureO rfl rfl rfl (by decide) ?_ | refine s_gpureO rfl rfl rfl rfl rfl (fun _ => by decide) ?_
    | refine s_end rfl ?_ | refine s_endn rfl ?_ | refine s_inend rfl ?_ | refine s_inendn rfl ?_)
  refine s_plain _ rfl rfl rfl bd58 rfl (refmark_ok s hs F) ?_
  repeat (first
    | refine s_pure rfl rfl rfl ?_ | refine s_loc rfl rfl ?_ | refine s_known rfl rfl rfl ?_ | refine s_unwanted rfl rfl rfl rfl rfl ?_ | refine s_gpure rfl rfl rfl rfl rfl ?_ | refine s_gloc rfl rfl rfl rfl ?_ | refine s_store rfl ?_ | refine s_pureG rfl rfl rfl rfl ?_
    | refine s_pick rfl rfl rfl ?_ | refine s_pickK rfl rfl ?_ | refine s_pick0 rfl rfl ?_ | refine s_gpick rfl rfl rfl rfl ?_ | refine s_locG rfl rfl rfl ?_ | refine s_nil ?_ | refine s_drop ?_ | refine s_back ?_ | refine s_seqn ?_ | refine s_seqr ?_ | refine s_seqe ?_ | refine s_seq ?_
    | refine s_region ?_ | refine s_block ?_ | refine s_blockn ?_ | refine s_blockr ?_ | refine s_blocke ?_ | refine s_blocko rfl ?_ | refine s_skip ?_ | refine s_ret ?_ | refine s_exit ?_
    | (refine s_box rfl rfl rfl rfl (fun b => ?_)) | (refine s_alloc rfl rfl rfl rfl (fun b => ?_)) | refine s_condt rfl ?_ | refine s_condf rfl ?_ | (refine s_bslice rfl rfl rfl rfl rfl rfl rfl rfl (fun b => ?_)) | refine s_loopr ?_ | refine s_loope ?_ | refine s_loopPr ?_ | refine s_loopPe ?_
    | refine s_pureO rfl rfl rfl (by decide) ?_ | refine s_gpureO rfl rfl rfl rfl rfl (fun _ => by decide) ?_
    | refine s_end rfl ?_ | refine s_endn rfl ?_ | refine s_inend rfl ?_ | refine s_inendn rfl ?_)
  refine s_gplain _ rfl rfl rfl rfl bd59 rfl rfl (fun _ => alike_ok s t hs ht F) ?_
  repeat (first
    | refine s_pure rfl rfl rfl ?_ | refine s_loc rfl rfl ?_ | refine s_known rfl rfl rfl ?_ | refine s_unwanted rfl rfl rfl rfl rfl ?_ | refine s_gpure rfl rfl rfl rfl rfl ?_ | refine s_gloc rfl rfl rfl rfl ?_ | refine s_store rfl ?_ | refine s_pureG rfl rfl rfl rfl ?_
    | refine s_pick rfl rfl rfl ?_ | refine s_pickK rfl rfl ?_ | refine s_pick0 rfl rfl ?_ | refine s_gpick rfl rfl rfl rfl ?_ | refine s_locG rfl rfl rfl ?_ | refine s_nil ?_ | refine s_drop ?_ | refine s_back ?_ | refine s_seqn ?_ | refine s_seqr ?_ | refine s_seqe ?_ | refine s_seq ?_
    | refine s_region ?_ | refine s_block ?_ | refine s_blockn ?_ | refine s_blockr ?_ | refine s_blocke ?_ | refine s_blocko rfl ?_ | refine s_skip ?_ | refine s_ret ?_ | refine s_exit ?_
    | (refine s_box rfl rfl rfl rfl (fun b => ?_)) | (refine s_alloc rfl rfl rfl rfl (fun b => ?_)) | refine s_condt rfl ?_ | refine s_condf rfl ?_ | (refine s_bslice rfl rfl rfl rfl rfl rfl rfl rfl (fun b => ?_)) | refine s_loopr ?_ | refine s_loope ?_ | refine s_loopPr ?_ | refine s_loopPe ?_
    | refine s_pureO rfl rfl rfl (by decide) ?_ | refine s_gpureO rfl rfl rfl rfl rfl (fun _ => by decide) ?_
    | refine s_end rfl ?_ | refine s_endn rfl ?_ | refine s_inend rfl ?_ | refine s_inendn rfl ?_)
  refine s_gplain _ rfl rfl rfl rfl bd58 rfl rfl (fun _ => refmark_ok s hs F) ?_
  repeat (first
    | refine s_pure rfl rfl rfl ?_ | refine s_loc rfl rfl ?_ | refine s_known rfl rfl rfl ?_ | refine s_unwanted rfl rfl rfl rfl rfl ?_ | refine s_gpure rfl rfl rfl rfl rfl ?_ | refine s_gloc rfl rfl rfl rfl ?_ | refine s_store rfl ?_ | refine s_pureG rfl rfl rfl rfl ?_
    | refine s_pick rfl rfl rfl ?_ | refine s_pickK rfl rfl ?_ | refine s_pick0 rfl rfl ?_ | refine s_gpick rfl rfl rfl rfl ?_ | refine s_locG rfl rfl rfl ?_ | refine s_nil ?_ | refine s_drop ?_ | refine s_back ?_ | refine s_seqn ?_ | refine s_seqr ?_ | refine s_seqe ?_ | refine s_seq ?_
    | refine s_region ?_ | refine s_block ?_ | refine s_blockn ?_ | refine s_blockr ?_ | refine s_blocke ?_ | refine s_blocko rfl ?_ | refine s_skip ?_ | refine s_ret ?_ | refine s_exit ?_
    | (refine s_box rfl rfl rfl rfl (fun b => ?_)) | (refine s_alloc rfl rfl rfl rfl (fun b => ?_)) | refine s_condt rfl ?_ | refine s_condf rfl ?_ | (refine s_bslice rfl rfl rfl rfl rfl rfl rfl rfl (fun b => ?_)) | refine s_loopr ?_ | refine s_loope ?_ | refine s_loopPr ?_ | refine s_loopPe ?_
    | refine s_pureO rfl rfl rfl (by decide) ?_ | refine s_gpureO rfl rfl rfl rfl rfl (fun _ => by decide) ?_
    | refine s_end rfl ?_ | refine s_endn rfl ?_ | refine s_inend rfl ?_ | refine s_inendn rfl ?_)
  refine s_gplain _ rfl rfl rfl rfl bd58 rfl rfl (fun _ => refmark_ok t ht F) ?_
  repeat (first
    | refine s_pure rfl rfl rfl ?_ | refine s_loc rfl rfl ?_ | refine s_known rfl rfl rfl ?_ | refine s_unwanted rfl rfl rfl rfl rfl ?_ | refine s_gpure rfl rfl rfl rfl rfl ?_ | refine s_gloc rfl rfl rfl rfl ?_ | refine s_store rfl ?_ | refine s_pureG rfl rfl rfl rfl ?_
    | refine s_pick rfl rfl rfl ?_ | refine s_pickK rfl rfl ?_ | refine s_pick0 rfl rfl ?_ | refine s_gpick rfl rfl rfl rfl ?_ | refine s_locG rfl rfl rfl ?_ | refine s_nil ?_ | refine s_drop ?_ | refine s_back ?_ | refine s_seqn ?_ | refine s_seqr ?_ | refine s_seqe ?_ | refine s_seq ?_
    | refine s_region ?_ | refine s_block ?_ | refine s_blockn ?_ | refine s_blockr ?_ | refine s_blocke ?_ | refine s_blocko rfl ?_ | refine s_skip ?_ | refine s_ret ?_ | refine s_exit ?_
    | (refine s_box rfl rfl rfl rfl (fun b => ?_)) | (refine s_alloc rfl rfl rfl rfl (fun b => ?_)) | refine s_condt rfl ?_ | refine s_condf rfl ?_ | (refine s_bslice rfl rfl rfl rfl rfl rfl rfl rfl (fun b => ?_)) | refine s_loopr ?_ | refine s_loope ?_ | refine s_loopPr ?_ | refine s_loopPe ?_
    | refine s_pureO rfl rfl rfl (by decide) ?_ | refine s_gpureO rfl rfl rfl rfl rfl (fun _ => by decide) ?_
    | refine s_end rfl ?_ | refine s_endn rfl ?_ | refine s_inend rfl ?_ | refine s_inendn rfl ?_)
  refine s_gplain _ rfl rfl rfl rfl bd60 rfl rfl (fun _ => said_ok kind a b hk ha hb F) ?_
  repeat (first
    | refine s_pure rfl rfl rfl ?_ | refine s_loc rfl rfl ?_ | refine s_known rfl rfl rfl ?_ | refine s_unwanted rfl rfl rfl rfl rfl ?_ | refine s_gpure rfl rfl rfl rfl rfl ?_ | refine s_gloc rfl rfl rfl rfl ?_ | refine s_store rfl ?_ | refine s_pureG rfl rfl rfl rfl ?_
    | refine s_pick rfl rfl rfl ?_ | refine s_pickK rfl rfl ?_ | refine s_pick0 rfl rfl ?_ | refine s_gpick rfl rfl rfl rfl ?_ | refine s_locG rfl rfl rfl ?_ | refine s_nil ?_ | refine s_drop ?_ | refine s_back ?_ | refine s_seqn ?_ | refine s_seqr ?_ | refine s_seqe ?_ | refine s_seq ?_
    | refine s_region ?_ | refine s_block ?_ | refine s_blockn ?_ | refine s_blockr ?_ | refine s_blocke ?_ | refine s_blocko rfl ?_ | refine s_skip ?_ | refine s_ret ?_ | refine s_exit ?_
    | (refine s_box rfl rfl rfl rfl (fun b => ?_)) | (refine s_alloc rfl rfl rfl rfl (fun b => ?_)) | refine s_condt rfl ?_ | refine s_condf rfl ?_ | (refine s_bslice rfl rfl rfl rfl rfl rfl rfl rfl (fun b => ?_)) | refine s_loopr ?_ | refine s_loope ?_ | refine s_loopPr ?_ | refine s_loopPe ?_
    | refine s_pureO rfl rfl rfl (by decide) ?_ | refine s_gpureO rfl rfl rfl rfl rfl (fun _ => by decide) ?_
    | refine s_end rfl ?_ | refine s_endn rfl ?_ | refine s_inend rfl ?_ | refine s_inendn rfl ?_)
  refine s_gplain _ rfl rfl rfl rfl bd61 rfl rfl (fun _ => reftwo_ok kind a b hk ha hb F) ?_
  repeat (first
    | refine s_pure rfl rfl rfl ?_ | refine s_loc rfl rfl ?_ | refine s_known rfl rfl rfl ?_ | refine s_unwanted rfl rfl rfl rfl rfl ?_ | refine s_gpure rfl rfl rfl rfl rfl ?_ | refine s_gloc rfl rfl rfl rfl ?_ | refine s_store rfl ?_ | refine s_pureG rfl rfl rfl rfl ?_
    | refine s_pick rfl rfl rfl ?_ | refine s_pickK rfl rfl ?_ | refine s_pick0 rfl rfl ?_ | refine s_gpick rfl rfl rfl rfl ?_ | refine s_locG rfl rfl rfl ?_ | refine s_nil ?_ | refine s_drop ?_ | refine s_back ?_ | refine s_seqn ?_ | refine s_seqr ?_ | refine s_seqe ?_ | refine s_seq ?_
    | refine s_region ?_ | refine s_block ?_ | refine s_blockn ?_ | refine s_blockr ?_ | refine s_blocke ?_ | refine s_blocko rfl ?_ | refine s_skip ?_ | refine s_ret ?_ | refine s_exit ?_
    | (refine s_box rfl rfl rfl rfl (fun b => ?_)) | (refine s_alloc rfl rfl rfl rfl (fun b => ?_)) | refine s_condt rfl ?_ | refine s_condf rfl ?_ | (refine s_bslice rfl rfl rfl rfl rfl rfl rfl rfl (fun b => ?_)) | refine s_loopr ?_ | refine s_loope ?_ | refine s_loopPr ?_ | refine s_loopPe ?_
    | refine s_pureO rfl rfl rfl (by decide) ?_ | refine s_gpureO rfl rfl rfl rfl rfl (fun _ => by decide) ?_
    | refine s_end rfl ?_ | refine s_endn rfl ?_ | refine s_inend rfl ?_ | refine s_inendn rfl ?_)
  refine s_gplain _ rfl rfl rfl rfl bd62 rfl rfl (fun _ => marktwo_ok kind a b hk ha hb F) ?_
  repeat (first
    | refine s_pure rfl rfl rfl ?_ | refine s_loc rfl rfl ?_ | refine s_known rfl rfl rfl ?_ | refine s_unwanted rfl rfl rfl rfl rfl ?_ | refine s_gpure rfl rfl rfl rfl rfl ?_ | refine s_gloc rfl rfl rfl rfl ?_ | refine s_store rfl ?_ | refine s_pureG rfl rfl rfl rfl ?_
    | refine s_pick rfl rfl rfl ?_ | refine s_pickK rfl rfl ?_ | refine s_pick0 rfl rfl ?_ | refine s_gpick rfl rfl rfl rfl ?_ | refine s_locG rfl rfl rfl ?_ | refine s_nil ?_ | refine s_drop ?_ | refine s_back ?_ | refine s_seqn ?_ | refine s_seqr ?_ | refine s_seqe ?_ | refine s_seq ?_
    | refine s_region ?_ | refine s_block ?_ | refine s_blockn ?_ | refine s_blockr ?_ | refine s_blocke ?_ | refine s_blocko rfl ?_ | refine s_skip ?_ | refine s_ret ?_ | refine s_exit ?_
    | (refine s_box rfl rfl rfl rfl (fun b => ?_)) | (refine s_alloc rfl rfl rfl rfl (fun b => ?_)) | refine s_condt rfl ?_ | refine s_condf rfl ?_ | (refine s_bslice rfl rfl rfl rfl rfl rfl rfl rfl (fun b => ?_)) | refine s_loopr ?_ | refine s_loope ?_ | refine s_loopPr ?_ | refine s_loopPe ?_
    | refine s_pureO rfl rfl rfl (by decide) ?_ | refine s_gpureO rfl rfl rfl rfl rfl (fun _ => by decide) ?_
    | refine s_end rfl ?_ | refine s_endn rfl ?_ | refine s_inend rfl ?_ | refine s_inendn rfl ?_)
  refine s_gplain _ rfl rfl rfl rfl bd61 rfl rfl (fun _ => reftwo_ok kind a b hk ha hb F) ?_
  repeat (first
    | refine s_pure rfl rfl rfl ?_ | refine s_loc rfl rfl ?_ | refine s_known rfl rfl rfl ?_ | refine s_unwanted rfl rfl rfl rfl rfl ?_ | refine s_gpure rfl rfl rfl rfl rfl ?_ | refine s_gloc rfl rfl rfl rfl ?_ | refine s_store rfl ?_ | refine s_pureG rfl rfl rfl rfl ?_
    | refine s_pick rfl rfl rfl ?_ | refine s_pickK rfl rfl ?_ | refine s_pick0 rfl rfl ?_ | refine s_gpick rfl rfl rfl rfl ?_ | refine s_locG rfl rfl rfl ?_ | refine s_nil ?_ | refine s_drop ?_ | refine s_back ?_ | refine s_seqn ?_ | refine s_seqr ?_ | refine s_seqe ?_ | refine s_seq ?_
    | refine s_region ?_ | refine s_block ?_ | refine s_blockn ?_ | refine s_blockr ?_ | refine s_blocke ?_ | refine s_blocko rfl ?_ | refine s_skip ?_ | refine s_ret ?_ | refine s_exit ?_
    | (refine s_box rfl rfl rfl rfl (fun b => ?_)) | (refine s_alloc rfl rfl rfl rfl (fun b => ?_)) | refine s_condt rfl ?_ | refine s_condf rfl ?_ | (refine s_bslice rfl rfl rfl rfl rfl rfl rfl rfl (fun b => ?_)) | refine s_loopr ?_ | refine s_loope ?_ | refine s_loopPr ?_ | refine s_loopPe ?_
    | refine s_pureO rfl rfl rfl (by decide) ?_ | refine s_gpureO rfl rfl rfl rfl rfl (fun _ => by decide) ?_
    | refine s_end rfl ?_ | refine s_endn rfl ?_ | refine s_inend rfl ?_ | refine s_inendn rfl ?_)
  refine s_gplain _ rfl rfl rfl rfl bd58 rfl rfl (fun _ => refmark_ok (two kind a b) (by rw [two_length]; decide) F) ?_
  repeat (first
    | refine s_pure rfl rfl rfl ?_ | refine s_loc rfl rfl ?_ | refine s_known rfl rfl rfl ?_ | refine s_unwanted rfl rfl rfl rfl rfl ?_ | refine s_gpure rfl rfl rfl rfl rfl ?_ | refine s_gloc rfl rfl rfl rfl ?_ | refine s_store rfl ?_ | refine s_pureG rfl rfl rfl rfl ?_
    | refine s_pick rfl rfl rfl ?_ | refine s_pickK rfl rfl ?_ | refine s_pick0 rfl rfl ?_ | refine s_gpick rfl rfl rfl rfl ?_ | refine s_locG rfl rfl rfl ?_ | refine s_nil ?_ | refine s_drop ?_ | refine s_back ?_ | refine s_seqn ?_ | refine s_seqr ?_ | refine s_seqe ?_ | refine s_seq ?_
    | refine s_region ?_ | refine s_block ?_ | refine s_blockn ?_ | refine s_blockr ?_ | refine s_blocke ?_ | refine s_blocko rfl ?_ | refine s_skip ?_ | refine s_ret ?_ | refine s_exit ?_
    | (refine s_box rfl rfl rfl rfl (fun b => ?_)) | (refine s_alloc rfl rfl rfl rfl (fun b => ?_)) | refine s_condt rfl ?_ | refine s_condf rfl ?_ | (refine s_bslice rfl rfl rfl rfl rfl rfl rfl rfl (fun b => ?_)) | refine s_loopr ?_ | refine s_loope ?_ | refine s_loopPr ?_ | refine s_loopPe ?_
    | refine s_pureO rfl rfl rfl (by decide) ?_ | refine s_gpureO rfl rfl rfl rfl rfl (fun _ => by decide) ?_
    | refine s_end rfl ?_ | refine s_endn rfl ?_ | refine s_inend rfl ?_ | refine s_inendn rfl ?_)
  refine s_if false ?_ (fun h => ?_) (fun _ => ?_)
  · simp [bpick_or, bpick_and, opd, pick1, lkG, lk, alive]
    congr
  · cases h
  repeat (first
    | refine s_pure rfl rfl rfl ?_ | refine s_loc rfl rfl ?_ | refine s_known rfl rfl rfl ?_ | refine s_unwanted rfl rfl rfl rfl rfl ?_ | refine s_gpure rfl rfl rfl rfl rfl ?_ | refine s_gloc rfl rfl rfl rfl ?_ | refine s_store rfl ?_ | refine s_pureG rfl rfl rfl rfl ?_
    | refine s_pick rfl rfl rfl ?_ | refine s_pickK rfl rfl ?_ | refine s_pick0 rfl rfl ?_ | refine s_gpick rfl rfl rfl rfl ?_ | refine s_locG rfl rfl rfl ?_ | refine s_nil ?_ | refine s_drop ?_ | refine s_back ?_ | refine s_seqn ?_ | refine s_seqr ?_ | refine s_seqe ?_ | refine s_seq ?_
    | refine s_region ?_ | refine s_block ?_ | refine s_blockn ?_ | refine s_blockr ?_ | refine s_blocke ?_ | refine s_blocko rfl ?_ | refine s_skip ?_ | refine s_ret ?_ | refine s_exit ?_
    | (refine s_box rfl rfl rfl rfl (fun b => ?_)) | (refine s_alloc rfl rfl rfl rfl (fun b => ?_)) | refine s_condt rfl ?_ | refine s_condf rfl ?_ | (refine s_bslice rfl rfl rfl rfl rfl rfl rfl rfl (fun b => ?_)) | refine s_loopr ?_ | refine s_loope ?_ | refine s_loopPr ?_ | refine s_loopPe ?_
    | refine s_pureO rfl rfl rfl (by decide) ?_ | refine s_gpureO rfl rfl rfl rfl rfl (fun _ => by decide) ?_
    | refine s_end rfl ?_ | refine s_endn rfl ?_ | refine s_inend rfl ?_ | refine s_inendn rfl ?_)
  refine s_if (joinBad a b n) ?_ (fun h => ?_) (fun h => ?_)
  · simp only [bpick_or, geq_MM]
    rfl
  · repeat (first
    | refine s_pure rfl rfl rfl ?_ | refine s_loc rfl rfl ?_ | refine s_known rfl rfl rfl ?_ | refine s_unwanted rfl rfl rfl rfl rfl ?_ | refine s_gpure rfl rfl rfl rfl rfl ?_ | refine s_gloc rfl rfl rfl rfl ?_ | refine s_store rfl ?_ | refine s_pureG rfl rfl rfl rfl ?_
    | refine s_pick rfl rfl rfl ?_ | refine s_pickK rfl rfl ?_ | refine s_pick0 rfl rfl ?_ | refine s_gpick rfl rfl rfl rfl ?_ | refine s_locG rfl rfl rfl ?_ | refine s_nil ?_ | refine s_drop ?_ | refine s_back ?_ | refine s_seqn ?_ | refine s_seqr ?_ | refine s_seqe ?_ | refine s_seq ?_
    | refine s_region ?_ | refine s_block ?_ | refine s_blockn ?_ | refine s_blockr ?_ | refine s_blocke ?_ | refine s_blocko rfl ?_ | refine s_skip ?_ | refine s_ret ?_ | refine s_exit ?_
    | (refine s_box rfl rfl rfl rfl (fun b => ?_)) | (refine s_alloc rfl rfl rfl rfl (fun b => ?_)) | refine s_condt rfl ?_ | refine s_condf rfl ?_ | (refine s_bslice rfl rfl rfl rfl rfl rfl rfl rfl (fun b => ?_)) | refine s_loopr ?_ | refine s_loope ?_ | refine s_loopPr ?_ | refine s_loopPe ?_
    | refine s_pureO rfl rfl rfl (by decide) ?_ | refine s_gpureO rfl rfl rfl rfl rfl (fun _ => by decide) ?_
    | refine s_end rfl ?_ | refine s_endn rfl ?_ | refine s_inend rfl ?_ | refine s_inendn rfl ?_)
    simp only [tupV, joinN, joinE, h, if_true]
    rfl
  · have hg : a < MM ∧ b < MM ∧ 0 ≤ n ∧ n ≤ 600 := by
      unfold joinBad at h
      simp only [Bool.or_eq_false_iff, decide_eq_false_iff_not] at h
      omega
    repeat (first
    | refine s_pure rfl rfl rfl ?_ | refine s_loc rfl rfl ?_ | refine s_known rfl rfl rfl ?_ | refine s_unwanted rfl rfl rfl rfl rfl ?_ | refine s_gpure rfl rfl rfl rfl rfl ?_ | refine s_gloc rfl rfl rfl rfl ?_ | refine s_store rfl ?_ | refine s_pureG rfl rfl rfl rfl ?_
    | refine s_pick rfl rfl rfl ?_ | refine s_pickK rfl rfl ?_ | refine s_pick0 rfl rfl ?_ | refine s_gpick rfl rfl rfl rfl ?_ | refine s_locG rfl rfl rfl ?_ | refine s_nil ?_ | refine s_drop ?_ | refine s_back ?_ | refine s_seqn ?_ | refine s_seqr ?_ | refine s_seqe ?_ | refine s_seq ?_
    | refine s_region ?_ | refine s_block ?_ | refine s_blockn ?_ | refine s_blockr ?_ | refine s_blocke ?_ | refine s_blocko rfl ?_ | refine s_skip ?_ | refine s_ret ?_ | refine s_exit ?_
    | (refine s_box rfl rfl rfl rfl (fun b => ?_)) | (refine s_alloc rfl rfl rfl rfl (fun b => ?_)) | refine s_condt rfl ?_ | refine s_condf rfl ?_ | (refine s_bslice rfl rfl rfl rfl rfl rfl rfl rfl (fun b => ?_)) | refine s_loopr ?_ | refine s_loope ?_ | refine s_loopPr ?_ | refine s_loopPe ?_
    | refine s_pureO rfl rfl rfl (by decide) ?_ | refine s_gpureO rfl rfl rfl rfl rfl (fun _ => by decide) ?_
    | refine s_end rfl ?_ | refine s_endn rfl ?_ | refine s_inend rfl ?_ | refine s_inendn rfl ?_)
    refine s_plain _ rfl rfl rfl bd63 rfl (power_ok n (by omega) F) ?_
    repeat (first
    | refine s_pure rfl rfl rfl ?_ | refine s_loc rfl rfl ?_ | refine s_known rfl rfl rfl ?_ | refine s_unwanted rfl rfl rfl rfl rfl ?_ | refine s_gpure rfl rfl rfl rfl rfl ?_ | refine s_gloc rfl rfl rfl rfl ?_ | refine s_store rfl ?_ | refine s_pureG rfl rfl rfl rfl ?_
    | refine s_pick rfl rfl rfl ?_ | refine s_pickK rfl rfl ?_ | refine s_pick0 rfl rfl ?_ | refine s_gpick rfl rfl rfl rfl ?_ | refine s_locG rfl rfl rfl ?_ | refine s_nil ?_ | refine s_drop ?_ | refine s_back ?_ | refine s_seqn ?_ | refine s_seqr ?_ | refine s_seqe ?_ | refine s_seq ?_
    | refine s_region ?_ | refine s_block ?_ | refine s_blockn ?_ | refine s_blockr ?_ | refine s_blocke ?_ | refine s_blocko rfl ?_ | refine s_skip ?_ | refine s_ret ?_ | refine s_exit ?_
    | (refine s_box rfl rfl rfl rfl (fun b => ?_)) | (refine s_alloc rfl rfl rfl rfl (fun b => ?_)) | refine s_condt rfl ?_ | refine s_condf rfl ?_ | (refine s_bslice rfl rfl rfl rfl rfl rfl rfl rfl (fun b => ?_)) | refine s_loopr ?_ | refine s_loope ?_ | refine s_loopPr ?_ | refine s_loopPe ?_
    | refine s_pureO rfl rfl rfl (by decide) ?_ | refine s_gpureO rfl rfl rfl rfl rfl (fun _ => by decide) ?_
    | refine s_end rfl ?_ | refine s_endn rfl ?_ | refine s_inend rfl ?_ | refine s_inendn rfl ?_)
    refine s_gplain _ rfl rfl rfl rfl bd64 rfl rfl (fun _ => mul_ok a _ ha (Nat.lt_trans (powN_lt _) (by decide)) F) ?_
    repeat (first
    | refine s_pure rfl rfl rfl ?_ | refine s_loc rfl rfl ?_ | refine s_known rfl rfl rfl ?_ | refine s_unwanted rfl rfl rfl rfl rfl ?_ | refine s_gpure rfl rfl rfl rfl rfl ?_ | refine s_gloc rfl rfl rfl rfl ?_ | refine s_store rfl ?_ | refine s_pureG rfl rfl rfl rfl ?_
    | refine s_pick rfl rfl rfl ?_ | refine s_pickK rfl rfl ?_ | refine s_pick0 rfl rfl ?_ | refine s_gpick rfl rfl rfl rfl ?_ | refine s_locG rfl rfl rfl ?_ | refine s_nil ?_ | refine s_drop ?_ | refine s_back ?_ | refine s_seqn ?_ | refine s_seqr ?_ | refine s_seqe ?_ | refine s_seq ?_
    | refine s_region ?_ | refine s_block ?_ | refine s_blockn ?_ | refine s_blockr ?_ | refine s_blocke ?_ | refine s_blocko rfl ?_ | refine s_skip ?_ | refine s_ret ?_ | refine s_exit ?_
    | (refine s_box rfl rfl rfl rfl (fun b => ?_)) | (refine s_alloc rfl rfl rfl rfl (fun b => ?_)) | refine s_condt rfl ?_ | refine s_condf rfl ?_ | (refine s_bslice rfl rfl rfl rfl rfl rfl rfl rfl (fun b => ?_)) | refine s_loopr ?_ | refine s_loope ?_ | refine s_loopPr ?_ | refine s_loopPe ?_
    | refine s_pureO rfl rfl rfl (by decide) ?_ | refine s_gpureO rfl rfl rfl rfl rfl (fun _ => by decide) ?_
    | refine s_end rfl ?_ | refine s_endn rfl ?_ | refine s_inend rfl ?_ | refine s_inendn rfl ?_)
    have h1 : a * powN n.toNat % MM < MM := Nat.mod_lt _ (by decide)
    have h3 := powN_lt n.toNat
    have hj : joinN a b n = (a * powN n.toNat % MM + b + MM - powN n.toNat) % MM := by
      unfold joinN
      rw [if_neg (by rw [h]; decide)]
    have he : joinE a b n = 0 := by
      unfold joinE
      rw [if_neg (by rw [h]; decide)]
    have hjl : joinN a b n < MM := by rw [hj]; exact Nat.mod_lt _ (by decide)
    rw [sum_val _ _ hjl h3, sum_val _ _ h1 hg.2.1, he, hj]
    generalize a * powN n.toNat % MM = x at *
    generalize powN n.toNat = p at *
    have e1 : ((x + b + MM - p) % MM + p) % MM = (x + b) % MM := by unfold MM at *; omega
    have e2 : ((x + b + MM - p) % MM : Nat) < MM := Nat.mod_lt _ (by decide)
    have e3 : ((((x + b + MM - p) % MM : Nat) : Int) < 2305843009213693951) := by unfold MM at *; omega
    rw [e1]
    simp only [tupV, bpick_and, decide_eq_true e3]
    simp
end Go.Proofs.Ytaienbnadbadfaa
