/-
Package tag and its reference: the walks.
-/
import Derived.Test.YtaienbnadbadfaaAsk
import Derived.Test.YtaienbnadbadfaaWireGet
import Derived.Test.YtaienbnadbadfaaSaid
namespace Go.Proofs.Ytaienbnadbadfaa
set_option linter.unusedVariables false
set_option linter.unusedSimpArgs false
open Go.TR
def tagN (key : Nat) (s : List UInt8) : Nat := markN (num key ++ s ++ num key)
def askSaid (name value : List UInt8) (n : Nat) : List UInt8 := num n ++ partsOut [name, value]
theorem put_two (a b : List UInt8) : putO [a, b] = partsOut [a, b] := by
  unfold putO partsOut
  rw [if_neg (by simp)]
  cases partsF [a, b] [] <;> rfl
theorem partsOut_len (l : List (List UInt8)) : (partsOut l).length ≤ 600 := by
  unfold partsOut
  cases h : partsF l [] with
  | none => simp
  | some o => exact partsF_le l [] o (by simp) h
theorem askSaid_len (name value : List UInt8) (n : Nat) : (askSaid name value n).length ≤ 608 := by
  unfold askSaid
  have := partsOut_len [name, value]
  simp only [List.length_append, num_length]
  omega
attribute [local irreducible] vc vcOps seqK blockK loopK retK retG retI loopV Plain CallOK CallIn bodied VS vcAny dropG backK brK loopPK IntKind.wrap
set_option maxRecDepth 100000
theorem tagof_ok (key : Nat) (s : List UInt8) (hk : key < 18446744073709551616) (hs : s.length ≤ 4611686018427387888) (F : Hp) : Plain Try.prog F 75 [u64 key, S s] (u64 (tagN key s : Nat)) := by
  refine plain_vc (N := 13) (rv := [.tmp 4]) tbok mixed Try.func75 rfl rfl rfl rfl rfl ?_
  repeat (first
    | refine s_pure rfl rfl rfl ?_ | refine s_loc rfl rfl ?_ | refine s_known rfl rfl rfl ?_ | refine s_unwanted rfl rfl rfl rfl rfl ?_ | refine s_gpure rfl rfl rfl rfl rfl ?_ | refine s_gloc rfl rfl rfl rfl ?_ | refine s_store rfl ?_ | refine s_pureG rfl rfl rfl rfl ?_
    | refine s_pick rfl rfl rfl ?_ | refine s_pickK rfl rfl ?_ | refine s_pick0 rfl rfl ?_ | refine s_gpick rfl rfl rfl rfl ?_ | refine s_locG rfl rfl rfl ?_ | refine s_nil ?_ | refine s_drop ?_ | refine s_back ?_ | refine s_seqn ?_ | refine s_seqr ?_ | refine s_seqe ?_ | refine s_seq ?_
    | refine s_region ?_ | refine s_block ?_ | refine s_blockn ?_ | refine s_blockr ?_ | refine s_blocke ?_ | refine s_blocko rfl ?_ | refine s_skip ?_ | refine s_ret ?_ | refine s_exit ?_
    | (refine s_box rfl rfl rfl rfl (fun b => ?_)) | (refine s_alloc rfl rfl rfl rfl (fun b => ?_)) | refine s_condt rfl ?_ | refine s_condf rfl ?_ | (refine s_bslice rfl rfl rfl rfl rfl rfl rfl rfl (fun b => ?_)) | refine s_loopr ?_ | refine s_loope ?_ | refine s_loopPr ?_ | refine s_loopPe ?_
    | refine s_pureO rfl rfl rfl (by decide) ?_ | refine s_gpureO rfl rfl rfl rfl rfl (fun _ => by decide) ?_
    | refine s_end rfl ?_ | refine s_endn rfl ?_ | refine s_inend rfl ?_ | refine s_inendn rfl ?_)
  refine s_plain _ rfl rfl rfl bd42 rfl (wirenum_ok key F) ?_
  repeat (first
    | refine s_pure rfl rfl rfl ?_ | refine s_loc rfl rfl ?_ | refine s_known rfl rfl rfl ?_ | refine s_unwanted rfl rfl rfl rfl rfl ?_ | refine s_gpure rfl rfl rfl rfl rfl ?_ | refine s_gloc rfl rfl rfl rfl ?_ | refine s_store rfl ?_ | refine s_pureG rfl rfl rfl rfl ?_
    | refine s_pick rfl rfl rfl ?_ | refine s_pickK rfl rfl ?_ | refine s_pick0 rfl rfl ?_ | refine s_gpick rfl rfl rfl rfl ?_ | refine s_locG rfl rfl rfl ?_ | refine s_nil ?_ | refine s_drop ?_ | refine s_back ?_ | refine s_seqn ?_ | refine s_seqr ?_ | refine s_seqe ?_ | refine s_seq ?_
    | refine s_region ?_ | refine s_block ?_ | refine s_blockn ?_ | refine s_blockr ?_ | refine s_blocke ?_ | refine s_blocko rfl ?_ | refine s_skip ?_ | refine s_ret ?_ | refine s_exit ?_
    | (refine s_box rfl rfl rfl rfl (fun b => ?_)) | (refine s_alloc rfl rfl rfl rfl (fun b => ?_)) | refine s_condt rfl ?_ | refine s_condf rfl ?_ | (refine s_bslice rfl rfl rfl rfl rfl rfl rfl rfl (fun b => ?_)) | refine s_loopr ?_ | refine s_loope ?_ | refine s_loopPr ?_ | refine s_loopPe ?_
    | refine s_pureO rfl rfl rfl (by decide) ?_ | refine s_gpureO rfl rfl rfl rfl rfl (fun _ => by decide) ?_
    | refine s_end rfl ?_ | refine s_endn rfl ?_ | refine s_inend rfl ?_ | refine s_inendn rfl ?_)
  refine s_pureO rfl rfl rfl (by simp only [bl_S, num_length]; unfold maxInt; omega) ?_
  repeat (first
    | refine s_pure rfl rfl rfl ?_ | refine s_loc rfl rfl ?_ | refine s_known rfl rfl rfl ?_ | refine s_unwanted rfl rfl rfl rfl rfl ?_ | refine s_gpure rfl rfl rfl rfl rfl ?_ | refine s_gloc rfl rfl rfl rfl ?_ | refine s_store rfl ?_ | refine s_pureG rfl rfl rfl rfl ?_
    | refine s_pick rfl rfl rfl ?_ | refine s_pickK rfl rfl ?_ | refine s_pick0 rfl rfl ?_ | refine s_gpick rfl rfl rfl rfl ?_ | refine s_locG rfl rfl rfl ?_ | refine s_nil ?_ | refine s_drop ?_ | refine s_back ?_ | refine s_seqn ?_ | refine s_seqr ?_ | refine s_seqe ?_ | refine s_seq ?_
    | refine s_region ?_ | refine s_block ?_ | refine s_blockn ?_ | refine s_blockr ?_ | refine s_blocke ?_ | refine s_blocko rfl ?_ | refine s_skip ?_ | refine s_ret ?_ | refine s_exit ?_
    | (refine s_box rfl rfl rfl rfl (fun b => ?_)) | (refine s_alloc rfl rfl rfl rfl (fun b => ?_)) | refine s_condt rfl ?_ | refine s_condf rfl ?_ | (refine s_bslice rfl rfl rfl rfl rfl rfl rfl rfl (fun b => ?_)) | refine s_loopr ?_ | refine s_loope ?_ | refine s_loopPr ?_ | refine s_loopPe ?_
    | refine s_pureO rfl rfl rfl (by decide) ?_ | refine s_gpureO rfl rfl rfl rfl rfl (fun _ => by decide) ?_
    | refine s_end rfl ?_ | refine s_endn rfl ?_ | refine s_inend rfl ?_ | refine s_inendn rfl ?_)
  refine s_plain _ rfl rfl rfl bd42 rfl (wirenum_ok key F) ?_
  repeat (first
    | refine s_pure rfl rfl rfl ?_ | refine s_loc rfl rfl ?_ | refine s_known rfl rfl rfl ?_ | refine s_unwanted rfl rfl rfl rfl rfl ?_ | refine s_gpure rfl rfl rfl rfl rfl ?_ | refine s_gloc rfl rfl rfl rfl ?_ | refine s_store rfl ?_ | refine s_pureG rfl rfl rfl rfl ?_
    | refine s_pick rfl rfl rfl ?_ | refine s_pickK rfl rfl ?_ | refine s_pick0 rfl rfl ?_ | refine s_gpick rfl rfl rfl rfl ?_ | refine s_locG rfl rfl rfl ?_ | refine s_nil ?_ | refine s_drop ?_ | refine s_back ?_ | refine s_seqn ?_ | refine s_seqr ?_ | refine s_seqe ?_ | refine s_seq ?_
    | refine s_region ?_ | refine s_block ?_ | refine s_blockn ?_ | refine s_blockr ?_ | refine s_blocke ?_ | refine s_blocko rfl ?_ | refine s_skip ?_ | refine s_ret ?_ | refine s_exit ?_
    | (refine s_box rfl rfl rfl rfl (fun b => ?_)) | (refine s_alloc rfl rfl rfl rfl (fun b => ?_)) | refine s_condt rfl ?_ | refine s_condf rfl ?_ | (refine s_bslice rfl rfl rfl rfl rfl rfl rfl rfl (fun b => ?_)) | refine s_loopr ?_ | refine s_loope ?_ | refine s_loopPr ?_ | refine s_loopPe ?_
    | refine s_pureO rfl rfl rfl (by decide) ?_ | refine s_gpureO rfl rfl rfl rfl rfl (fun _ => by decide) ?_
    | refine s_end rfl ?_ | refine s_endn rfl ?_ | refine s_inend rfl ?_ | refine s_inendn rfl ?_)
  refine s_pureO rfl rfl rfl (by simp only [bl_S, num_length, List.length_append]; unfold maxInt; omega) ?_
  repeat (first
    | refine s_pure rfl rfl rfl ?_ | refine s_loc rfl rfl ?_ | refine s_known rfl rfl rfl ?_ | refine s_unwanted rfl rfl rfl rfl rfl ?_ | refine s_gpure rfl rfl rfl rfl rfl ?_ | refine s_gloc rfl rfl rfl rfl ?_ | refine s_store rfl ?_ | refine s_pureG rfl rfl rfl rfl ?_
    | refine s_pick rfl rfl rfl ?_ | refine s_pickK rfl rfl ?_ | refine s_pick0 rfl rfl ?_ | refine s_gpick rfl rfl rfl rfl ?_ | refine s_locG rfl rfl rfl ?_ | refine s_nil ?_ | refine s_drop ?_ | refine s_back ?_ | refine s_seqn ?_ | refine s_seqr ?_ | refine s_seqe ?_ | refine s_seq ?_
    | refine s_region ?_ | refine s_block ?_ | refine s_blockn ?_ | refine s_blockr ?_ | refine s_blocke ?_ | refine s_blocko rfl ?_ | refine s_skip ?_ | refine s_ret ?_ | refine s_exit ?_
    | (refine s_box rfl rfl rfl rfl (fun b => ?_)) | (refine s_alloc rfl rfl rfl rfl (fun b => ?_)) | refine s_condt rfl ?_ | refine s_condf rfl ?_ | (refine s_bslice rfl rfl rfl rfl rfl rfl rfl rfl (fun b => ?_)) | refine s_loopr ?_ | refine s_loope ?_ | refine s_loopPr ?_ | refine s_loopPe ?_
    | refine s_pureO rfl rfl rfl (by decide) ?_ | refine s_gpureO rfl rfl rfl rfl rfl (fun _ => by decide) ?_
    | refine s_end rfl ?_ | refine s_endn rfl ?_ | refine s_inend rfl ?_ | refine s_inendn rfl ?_)
  refine s_plain _ rfl rfl rfl bd57 rfl (markof_ok (num key ++ s ++ num key) (by simp only [num_length, List.length_append]; omega) F) ?_
  repeat (first
    | refine s_pure rfl rfl rfl ?_ | refine s_loc rfl rfl ?_ | refine s_known rfl rfl rfl ?_ | refine s_unwanted rfl rfl rfl rfl rfl ?_ | refine s_gpure rfl rfl rfl rfl rfl ?_ | refine s_gloc rfl rfl rfl rfl ?_ | refine s_store rfl ?_ | refine s_pureG rfl rfl rfl rfl ?_
    | refine s_pick rfl rfl rfl ?_ | refine s_pickK rfl rfl ?_ | refine s_pick0 rfl rfl ?_ | refine s_gpick rfl rfl rfl rfl ?_ | refine s_locG rfl rfl rfl ?_ | refine s_nil ?_ | refine s_drop ?_ | refine s_back ?_ | refine s_seqn ?_ | refine s_seqr ?_ | refine s_seqe ?_ | refine s_seq ?_
    | refine s_region ?_ | refine s_block ?_ | refine s_blockn ?_ | refine s_blockr ?_ | refine s_blocke ?_ | refine s_blocko rfl ?_ | refine s_skip ?_ | refine s_ret ?_ | refine s_exit ?_
    | (refine s_box rfl rfl rfl rfl (fun b => ?_)) | (refine s_alloc rfl rfl rfl rfl (fun b => ?_)) | refine s_condt rfl ?_ | refine s_condf rfl ?_ | (refine s_bslice rfl rfl rfl rfl rfl rfl rfl rfl (fun b => ?_)) | refine s_loopr ?_ | refine s_loope ?_ | refine s_loopPr ?_ | refine s_loopPe ?_
    | refine s_pureO rfl rfl rfl (by decide) ?_ | refine s_gpureO rfl rfl rfl rfl rfl (fun _ => by decide) ?_
    | refine s_end rfl ?_ | refine s_endn rfl ?_ | refine s_inend rfl ?_ | refine s_inendn rfl ?_)
  rfl
theorem reftag_ok (key : Nat) (s : List UInt8) (hk : key < 18446744073709551616) (hs : s.length ≤ 4611686018427387888) (F : Hp) : Plain Try.prog F 76 [u64 key, S s] (u64 (tagN key s : Nat)) := by
  refine plain_vc (N := 13) (rv := [.tmp 4]) tbok mixed Try.func76 rfl rfl rfl rfl rfl ?_
  repeat (first
    | refine s_pure rfl rfl rfl ?_ | refine s_loc rfl rfl ?_ | refine s_known rfl rfl rfl ?_ | refine s_unwanted rfl rfl rfl rfl rfl ?_ | refine s_gpure rfl rfl rfl rfl rfl ?_ | refine s_gloc rfl rfl rfl rfl ?_ | refine s_store rfl ?_ | refine s_pureG rfl rfl rfl rfl ?_
    | refine s_pick rfl rfl rfl ?_ | refine s_pickK rfl rfl ?_ | refine s_pick0 rfl rfl ?_ | refine s_gpick rfl rfl rfl rfl ?_ | refine s_locG rfl rfl rfl ?_ | refine s_nil ?_ | refine s_drop ?_ | refine s_back ?_ | refine s_seqn ?_ | refine s_seqr ?_ | refine s_seqe ?_ | refine s_seq ?_
    | refine s_region ?_ | refine s_block ?_ | refine s_blockn ?_ | refine s_blockr ?_ | refine s_blocke ?_ | refine s_blocko rfl ?_ | refine s_skip ?_ | refine s_ret ?_ | refine s_exit ?_
    | (refine s_box rfl rfl rfl rfl (fun b => ?_)) | (refine s_alloc rfl rfl rfl rfl (fun b => ?_)) | refine s_condt rfl ?_ | refine s_condf rfl ?_ | (refine s_bslice rfl rfl rfl rfl rfl rfl rfl rfl (fun b => ?_)) | refine s_loopr ?_ | refine s_loope ?_ | refine s_loopPr ?_ | refine s_loopPe ?_
    | refine s_pureO rfl rfl rfl (by decide) ?_ | refine s_gpureO rfl rfl rfl rfl rfl (fun _ => by decide) ?_
    | refine s_end rfl ?_ | refine s_endn rfl ?_ | refine s_inend rfl ?_ | refine s_inendn rfl ?_)
  refine s_plain _ rfl rfl rfl bd43 rfl (refnum_ok key hk F) ?_
  repeat (first
    | refine s_pure rfl rfl rfl ?_ | refine s_loc rfl rfl ?_ | refine s_known rfl rfl rfl ?_ | refine s_unwanted rfl rfl rfl rfl rfl ?_ | refine s_gpure rfl rfl rfl rfl rfl ?_ | refine s_gloc rfl rfl rfl rfl ?_ | refine s_store rfl ?_ | refine s_pureG rfl rfl rfl rfl ?_
    | refine s_pick rfl rfl rfl ?_ | refine s_pickK rfl rfl ?_ | refine s_pick0 rfl rfl ?_ | refine s_gpick rfl rfl rfl rfl ?_ | refine s_locG rfl rfl rfl ?_ | refine s_nil ?_ | refine s_drop ?_ | refine s_back ?_ | refine s_seqn ?_ | refine s_seqr ?_ | refine s_seqe ?_ | refine s_seq ?_
    | refine s_region ?_ | refine s_block ?_ | refine s_blockn ?_ | refine s_blockr ?_ | refine s_blocke ?_ | refine s_blocko rfl ?_ | refine s_skip ?_ | refine s_ret ?_ | refine s_exit ?_
    | (refine s_box rfl rfl rfl rfl (fun b => ?_)) | (refine s_alloc rfl rfl rfl rfl (fun b => ?_)) | refine s_condt rfl ?_ | refine s_condf rfl ?_ | (refine s_bslice rfl rfl rfl rfl rfl rfl rfl rfl (fun b => ?_)) | refine s_loopr ?_ | refine s_loope ?_ | refine s_loopPr ?_ | refine s_loopPe ?_
    | refine s_pureO rfl rfl rfl (by decide) ?_ | refine s_gpureO rfl rfl rfl rfl rfl (fun _ => by decide) ?_
    | refine s_end rfl ?_ | refine s_endn rfl ?_ | refine s_inend rfl ?_ | refine s_inendn rfl ?_)
  refine s_pureO rfl rfl rfl (by simp only [bl_S, num_length]; unfold maxInt; omega) ?_
  repeat (first
    | refine s_pure rfl rfl rfl ?_ | refine s_loc rfl rfl ?_ | refine s_known rfl rfl rfl ?_ | refine s_unwanted rfl rfl rfl rfl rfl ?_ | refine s_gpure rfl rfl rfl rfl rfl ?_ | refine s_gloc rfl rfl rfl rfl ?_ | refine s_store rfl ?_ | refine s_pureG rfl rfl rfl rfl ?_
    | refine s_pick rfl rfl rfl ?_ | refine s_pickK rfl rfl ?_ | refine s_pick0 rfl rfl ?_ | refine s_gpick rfl rfl rfl rfl ?_ | refine s_locG rfl rfl rfl ?_ | refine s_nil ?_ | refine s_drop ?_ | refine s_back ?_ | refine s_seqn ?_ | refine s_seqr ?_ | refine s_seqe ?_ | refine s_seq ?_
    | refine s_region ?_ | refine s_block ?_ | refine s_blockn ?_ | refine s_blockr ?_ | refine s_blocke ?_ | refine s_blocko rfl ?_ | refine s_skip ?_ | refine s_ret ?_ | refine s_exit ?_
    | (refine s_box rfl rfl rfl rfl (fun b => ?_)) | (refine s_alloc rfl rfl rfl rfl (fun b => ?_)) | refine s_condt rfl ?_ | refine s_condf rfl ?_ | (refine s_bslice rfl rfl rfl rfl rfl rfl rfl rfl (fun b => ?_)) | refine s_loopr ?_ | refine s_loope ?_ | refine s_loopPr ?_ | refine s_loopPe ?_
    | refine s_pureO rfl rfl rfl (by decide) ?_ | refine s_gpureO rfl rfl rfl rfl rfl (fun _ => by decide) ?_
    | refine s_end rfl ?_ | refine s_endn rfl ?_ | refine s_inend rfl ?_ | refine s_inendn rfl ?_)
  refine s_plain _ rfl rfl rfl bd43 rfl (refnum_ok key hk F) ?_
  repeat (first
    | refine s_pure rfl rfl rfl ?_ | refine s_loc rfl rfl ?_ | refine s_known rfl rfl rfl ?_ | refine s_unwanted rfl rfl rfl rfl rfl ?_ | refine s_gpure rfl rfl rfl rfl rfl ?_ | refine s_gloc rfl rfl rfl rfl ?_ | refine s_store rfl ?_ | refine s_pureG rfl rfl rfl rfl ?_
    | refine s_pick rfl rfl rfl ?_ | refine s_pickK rfl rfl ?_ | refine s_pick0 rfl rfl ?_ | refine s_gpick rfl rfl rfl rfl ?_ | refine s_locG rfl rfl rfl ?_ | refine s_nil ?_ | refine s_drop ?_ | refine s_back ?_ | refine s_seqn ?_ | refine s_seqr ?_ | refine s_seqe ?_ | refine s_seq ?_
    | refine s_region ?_ | refine s_block ?_ | refine s_blockn ?_ | refine s_blockr ?_ | refine s_blocke ?_ | refine s_blocko rfl ?_ | refine s_skip ?_ | refine s_ret ?_ | refine s_exit ?_
    | (refine s_box rfl rfl rfl rfl (fun b => ?_)) | (refine s_alloc rfl rfl rfl rfl (fun b => ?_)) | refine s_condt rfl ?_ | refine s_condf rfl ?_ | (refine s_bslice rfl rfl rfl rfl rfl rfl rfl rfl (fun b => ?_)) | refine s_loopr ?_ | refine s_loope ?_ | refine s_loopPr ?_ | refine s_loopPe ?_
    | refine s_pureO rfl rfl rfl (by decide) ?_ | refine s_gpureO rfl rfl rfl rfl rfl (fun _ => by decide) ?_
    | refine s_end rfl ?_ | refine s_endn rfl ?_ | refine s_inend rfl ?_ | refine s_inendn rfl ?_)
  refine s_pureO rfl rfl rfl (by simp only [bl_S, num_length, List.length_append]; unfold maxInt; omega) ?_
  repeat (first
    | refine s_pure rfl rfl rfl ?_ | refine s_loc rfl rfl ?_ | refine s_known rfl rfl rfl ?_ | refine s_unwanted rfl rfl rfl rfl rfl ?_ | refine s_gpure rfl rfl rfl rfl rfl ?_ | refine s_gloc rfl rfl rfl rfl ?_ | refine s_store rfl ?_ | refine s_pureG rfl rfl rfl rfl ?_
    | refine s_pick rfl rfl rfl ?_ | refine s_pickK rfl rfl ?_ | refine s_pick0 rfl rfl ?_ | refine s_gpick rfl rfl rfl rfl ?_ | refine s_locG rfl rfl rfl ?_ | refine s_nil ?_ | refine s_drop ?_ | refine s_back ?_ | refine s_seqn ?_ | refine s_seqr ?_ | refine s_seqe ?_ | refine s_seq ?_
    | refine s_region ?_ | refine s_block ?_ | refine s_blockn ?_ | refine s_blockr ?_ | refine s_blocke ?_ | refine s_blocko rfl ?_ | refine s_skip ?_ | refine s_ret ?_ | refine s_exit ?_
    | (refine s_box rfl rfl rfl rfl (fun b => ?_)) | (refine s_alloc rfl rfl rfl rfl (fun b => ?_)) | refine s_condt rfl ?_ | refine s_condf rfl ?_ | (refine s_bslice rfl rfl rfl rfl rfl rfl rfl rfl (fun b => ?_)) | refine s_loopr ?_ | refine s_loope ?_ | refine s_loopPr ?_ | refine s_loopPe ?_
    | refine s_pureO rfl rfl rfl (by decide) ?_ | refine s_gpureO rfl rfl rfl rfl rfl (fun _ => by decide) ?_
    | refine s_end rfl ?_ | refine s_endn rfl ?_ | refine s_inend rfl ?_ | refine s_inendn rfl ?_)
  refine s_plain _ rfl rfl rfl bd58 rfl (refmark_ok (num key ++ s ++ num key) (by simp only [num_length, List.length_append]; omega) F) ?_
  repeat (first
    | refine s_pure rfl rfl rfl ?_ | refine s_loc rfl rfl ?_ | refine s_known rfl rfl rfl ?_ | refine s_unwanted rfl rfl rfl rfl rfl ?_ | refine s_gpure rfl rfl rfl rfl rfl ?_ | refine s_gloc rfl rfl rfl rfl ?_ | refine s_store rfl ?_ | refine s_pureG rfl rfl rfl rfl ?_
    | refine s_pick rfl rfl rfl ?_ | refine s_pickK rfl rfl ?_ | refine s_pick0 rfl rfl ?_ | refine s_gpick rfl rfl rfl rfl ?_ | refine s_locG rfl rfl rfl ?_ | refine s_nil ?_ | refine s_drop ?_ | refine s_back ?_ | refine s_seqn ?_ | refine s_seqr ?_ | refine s_seqe ?_ | refine s_seq ?_
    | refine s_region ?_ | refine s_block ?_ | refine s_blockn ?_ | refine s_blockr ?_ | refine s_blocke ?_ | refine s_blocko rfl ?_ | refine s_skip ?_ | refine s_ret ?_ | refine s_exit ?_
    | (refine s_box rfl rfl rfl rfl (fun b => ?_)) | (refine s_alloc rfl rfl rfl rfl (fun b => ?_)) | refine s_condt rfl ?_ | refine s_condf rfl ?_ | (refine s_bslice rfl rfl rfl rfl rfl rfl rfl rfl (fun b => ?_)) | refine s_loopr ?_ | refine s_loope ?_ | refine s_loopPr ?_ | refine s_loopPe ?_
    | refine s_pureO rfl rfl rfl (by decide) ?_ | refine s_gpureO rfl rfl rfl rfl rfl (fun _ => by decide) ?_
    | refine s_end rfl ?_ | refine s_endn rfl ?_ | refine s_inend rfl ?_ | refine s_inendn rfl ?_)
  rfl
theorem tagRight_ok (key : Nat) (s : List UInt8) (t : Nat) (hk : key < 18446744073709551616) (hs : s.length ≤ 4611686018427387888) (F : Hp) : Plain Try.prog F 77 [u64 key, S s, u64 t] (.bool (((tagN key s : Nat) : Int) == (t : Nat))) := by
  refine plain_vc (N := 12) (rv := [.tmp 6]) tbok mixed Try.func77 rfl rfl rfl rfl rfl ?_
  repeat (first
    | refine s_pure rfl rfl rfl ?_ | refine s_loc rfl rfl ?_ | refine s_known rfl rfl rfl ?_ | refine s_unwanted rfl rfl rfl rfl rfl ?_ | refine s_gpure rfl rfl rfl rfl rfl ?_ | refine s_gloc rfl rfl rfl rfl ?_ | refine s_store rfl ?_ | refine s_pureG rfl rfl rfl rfl ?_
    | refine s_pick rfl rfl rfl ?_ | refine s_pickK rfl rfl ?_ | refine s_pick0 rfl rfl ?_ | refine s_gpick rfl rfl rfl rfl ?_ | refine s_locG rfl rfl rfl ?_ | refine s_nil ?_ | refine s_drop ?_ | refine s_back ?_ | refine s_seqn ?_ | refine s_seqr ?_ | refine s_seqe ?_ | refine s_seq ?_
    | refine s_region ?_ | refine s_block ?_ | refine s_blockn ?_ | refine s_blockr ?_ | refine s_blocke ?_ | refine s_blocko rfl ?_ | refine s_skip ?_ | refine s_ret ?_ | refine s_exit ?_
    | (refine s_box rfl rfl rfl rfl (fun b => ?_)) | (refine s_alloc rfl rfl rfl rfl (fun b => ?_)) | refine s_condt rfl ?_ | refine s_condf rfl ?_ | (refine s_bslice rfl rfl rfl rfl rfl rfl rfl rfl (fun b => ?_)) | refine s_loopr ?_ | refine s_loope ?_ | refine s_loopPr ?_ | refine s_loopPe ?_
    | refine s_pureO rfl rfl rfl (by decide) ?_ | refine s_gpureO rfl rfl rfl rfl rfl (fun _ => by decide) ?_
    | refine s_end rfl ?_ | refine s_endn rfl ?_ | refine s_inend rfl ?_ | refine s_inendn rfl ?_)
  refine s_plain _ rfl rfl rfl bd75 rfl (tagof_ok key s hk hs F) ?_
  repeat (first
    | refine s_pure rfl rfl rfl ?_ | refine s_loc rfl rfl ?_ | refine s_known rfl rfl rfl ?_ | refine s_unwanted rfl rfl rfl rfl rfl ?_ | refine s_gpure rfl rfl rfl rfl rfl ?_ | refine s_gloc rfl rfl rfl rfl ?_ | refine s_store rfl ?_ | refine s_pureG rfl rfl rfl rfl ?_
    | refine s_pick rfl rfl rfl ?_ | refine s_pickK rfl rfl ?_ | refine s_pick0 rfl rfl ?_ | refine s_gpick rfl rfl rfl rfl ?_ | refine s_locG rfl rfl rfl ?_ | refine s_nil ?_ | refine s_drop ?_ | refine s_back ?_ | refine s_seqn ?_ | refine s_seqr ?_ | refine s_seqe ?_ | refine s_seq ?_
    | refine s_region ?_ | refine s_block ?_ | refine s_blockn ?_ | refine s_blockr ?_ | refine s_blocke ?_ | refine s_blocko rfl ?_ | refine s_skip ?_ | refine s_ret ?_ | refine s_exit ?_
    | (refine s_box rfl rfl rfl rfl (fun b => ?_)) | (refine s_alloc rfl rfl rfl rfl (fun b => ?_)) | refine s_condt rfl ?_ | refine s_condf rfl ?_ | (refine s_bslice rfl rfl rfl rfl rfl rfl rfl rfl (fun b => ?_)) | refine s_loopr ?_ | refine s_loope ?_ | refine s_loopPr ?_ | refine s_loopPe ?_
    | refine s_pureO rfl rfl rfl (by decide) ?_ | refine s_gpureO rfl rfl rfl rfl rfl (fun _ => by decide) ?_
    | refine s_end rfl ?_ | refine s_endn rfl ?_ | refine s_inend rfl ?_ | refine s_inendn rfl ?_)
  rfl
theorem tagsaid_ok (name value : List UInt8) (n : Nat) (F : Hp) : Plain Try.prog F 127 [S name, S value, u64 n] (S (askSaid name value n)) := by
  refine plain_vc (N := 20) (rv := [.tmp 6]) tbok mixed Try.func127 rfl rfl rfl rfl rfl ?_
  repeat (first
    | refine s_pure rfl rfl rfl ?_ | refine s_loc rfl rfl ?_ | refine s_known rfl rfl rfl ?_ | refine s_unwanted rfl rfl rfl rfl rfl ?_ | refine s_gpure rfl rfl rfl rfl rfl ?_ | refine s_gloc rfl rfl rfl rfl ?_ | refine s_store rfl ?_ | refine s_pureG rfl rfl rfl rfl ?_
    | refine s_pick rfl rfl rfl ?_ | refine s_pickK rfl rfl ?_ | refine s_pick0 rfl rfl ?_ | refine s_gpick rfl rfl rfl rfl ?_ | refine s_locG rfl rfl rfl ?_ | refine s_nil ?_ | refine s_drop ?_ | refine s_back ?_ | refine s_seqn ?_ | refine s_seqr ?_ | refine s_seqe ?_ | refine s_seq ?_
    | refine s_region ?_ | refine s_block ?_ | refine s_blockn ?_ | refine s_blockr ?_ | refine s_blocke ?_ | refine s_blocko rfl ?_ | refine s_skip ?_ | refine s_ret ?_ | refine s_exit ?_
    | (refine s_box rfl rfl rfl rfl (fun b => ?_)) | (refine s_alloc rfl rfl rfl rfl (fun b => ?_)) | refine s_condt rfl ?_ | refine s_condf rfl ?_ | (refine s_bslice rfl rfl rfl rfl rfl rfl rfl rfl (fun b => ?_)) | refine s_loopr ?_ | refine s_loope ?_ | refine s_loopPr ?_ | refine s_loopPe ?_
    | refine s_pureO rfl rfl rfl (by decide) ?_ | refine s_gpureO rfl rfl rfl rfl rfl (fun _ => by decide) ?_
    | refine s_end rfl ?_ | refine s_endn rfl ?_ | refine s_inend rfl ?_ | refine s_inendn rfl ?_)
  refine s_shift (VS.freeze 0 [0, 1, 2, 12] rfl rfl rfl rfl fun F1 hs1 hf1 => VS.id ?_)
  refine s_plain _ rfl rfl rfl bd36 rfl (put_ok [name, value] hf1) ?_
  repeat (first
    | refine s_pure rfl rfl rfl ?_ | refine s_loc rfl rfl ?_ | refine s_known rfl rfl rfl ?_ | refine s_unwanted rfl rfl rfl rfl rfl ?_ | refine s_gpure rfl rfl rfl rfl rfl ?_ | refine s_gloc rfl rfl rfl rfl ?_ | refine s_store rfl ?_ | refine s_pureG rfl rfl rfl rfl ?_
    | refine s_pick rfl rfl rfl ?_ | refine s_pickK rfl rfl ?_ | refine s_pick0 rfl rfl ?_ | refine s_gpick rfl rfl rfl rfl ?_ | refine s_locG rfl rfl rfl ?_ | refine s_nil ?_ | refine s_drop ?_ | refine s_back ?_ | refine s_seqn ?_ | refine s_seqr ?_ | refine s_seqe ?_ | refine s_seq ?_
    | refine s_region ?_ | refine s_block ?_ | refine s_blockn ?_ | refine s_blockr ?_ | refine s_blocke ?_ | refine s_blocko rfl ?_ | refine s_skip ?_ | refine s_ret ?_ | refine s_exit ?_
    | (refine s_box rfl rfl rfl rfl (fun b => ?_)) | (refine s_alloc rfl rfl rfl rfl (fun b => ?_)) | refine s_condt rfl ?_ | refine s_condf rfl ?_ | (refine s_bslice rfl rfl rfl rfl rfl rfl rfl rfl (fun b => ?_)) | refine s_loopr ?_ | refine s_loope ?_ | refine s_loopPr ?_ | refine s_loopPe ?_
    | refine s_pureO rfl rfl rfl (by decide) ?_ | refine s_gpureO rfl rfl rfl rfl rfl (fun _ => by decide) ?_
    | refine s_end rfl ?_ | refine s_endn rfl ?_ | refine s_inend rfl ?_ | refine s_inendn rfl ?_)
  refine s_plain _ rfl rfl rfl bd42 rfl (wirenum_ok n F1) ?_
  repeat (first
    | refine s_pure rfl rfl rfl ?_ | refine s_loc rfl rfl ?_ | refine s_known rfl rfl rfl ?_ | refine s_unwanted rfl rfl rfl rfl rfl ?_ | refine s_gpure rfl rfl rfl rfl rfl ?_ | refine s_gloc rfl rfl rfl rfl ?_ | refine s_store rfl ?_ | refine s_pureG rfl rfl rfl rfl ?_
    | refine s_pick rfl rfl rfl ?_ | refine s_pickK rfl rfl ?_ | refine s_pick0 rfl rfl ?_ | refine s_gpick rfl rfl rfl rfl ?_ | refine s_locG rfl rfl rfl ?_ | refine s_nil ?_ | refine s_drop ?_ | refine s_back ?_ | refine s_seqn ?_ | refine s_seqr ?_ | refine s_seqe ?_ | refine s_seq ?_
    | refine s_region ?_ | refine s_block ?_ | refine s_blockn ?_ | refine s_blockr ?_ | refine s_blocke ?_ | refine s_blocko rfl ?_ | refine s_skip ?_ | refine s_ret ?_ | refine s_exit ?_
    | (refine s_box rfl rfl rfl rfl (fun b => ?_)) | (refine s_alloc rfl rfl rfl rfl (fun b => ?_)) | refine s_condt rfl ?_ | refine s_condf rfl ?_ | (refine s_bslice rfl rfl rfl rfl rfl rfl rfl rfl (fun b => ?_)) | refine s_loopr ?_ | refine s_loope ?_ | refine s_loopPr ?_ | refine s_loopPe ?_
    | refine s_pureO rfl rfl rfl (by decide) ?_ | refine s_gpureO rfl rfl rfl rfl rfl (fun _ => by decide) ?_
    | refine s_end rfl ?_ | refine s_endn rfl ?_ | refine s_inend rfl ?_ | refine s_inendn rfl ?_)
  have := partsOut_len [name, value]
  refine s_pureO rfl rfl rfl (by rw [put_two]; simp only [bl_S, num_length]; unfold maxInt; omega) ?_
  repeat (first
    | refine s_pure rfl rfl rfl ?_ | refine s_loc rfl rfl ?_ | refine s_known rfl rfl rfl ?_ | refine s_unwanted rfl rfl rfl rfl rfl ?_ | refine s_gpure rfl rfl rfl rfl rfl ?_ | refine s_gloc rfl rfl rfl rfl ?_ | refine s_store rfl ?_ | refine s_pureG rfl rfl rfl rfl ?_
    | refine s_pick rfl rfl rfl ?_ | refine s_pickK rfl rfl ?_ | refine s_pick0 rfl rfl ?_ | refine s_gpick rfl rfl rfl rfl ?_ | refine s_locG rfl rfl rfl ?_ | refine s_nil ?_ | refine s_drop ?_ | refine s_back ?_ | refine s_seqn ?_ | refine s_seqr ?_ | refine s_seqe ?_ | refine s_seq ?_
    | refine s_region ?_ | refine s_block ?_ | refine s_blockn ?_ | refine s_blockr ?_ | refine s_blocke ?_ | refine s_blocko rfl ?_ | refine s_skip ?_ | refine s_ret ?_ | refine s_exit ?_
    | (refine s_box rfl rfl rfl rfl (fun b => ?_)) | (refine s_alloc rfl rfl rfl rfl (fun b => ?_)) | refine s_condt rfl ?_ | refine s_condf rfl ?_ | (refine s_bslice rfl rfl rfl rfl rfl rfl rfl rfl (fun b => ?_)) | refine s_loopr ?_ | refine s_loope ?_ | refine s_loopPr ?_ | refine s_loopPe ?_
    | refine s_pureO rfl rfl rfl (by decide) ?_ | refine s_gpureO rfl rfl rfl rfl rfl (fun _ => by decide) ?_
    | refine s_end rfl ?_ | refine s_endn rfl ?_ | refine s_inend rfl ?_ | refine s_inendn rfl ?_)
  rw [put_two]
  rfl
theorem asktag_ok (key : Nat) (name value : List UInt8) (n : Nat) (hk : key < 18446744073709551616) (hn : n < 18446744073709551616) (F : Hp) : Plain Try.prog F 79 [u64 key, S name, S value, u64 n] (u64 (tagN key (askSaid name value n) : Nat)) := by
  refine plain_vc (N := 24) (rv := [.tmp 8]) tbok mixed Try.func79 rfl rfl rfl rfl rfl ?_
  repeat (first
    | refine s_pure rfl rfl rfl ?_ | refine s_loc rfl rfl ?_ | refine s_known rfl rfl rfl ?_ | refine s_unwanted rfl rfl rfl rfl rfl ?_ | refine s_gpure rfl rfl rfl rfl rfl ?_ | refine s_gloc rfl rfl rfl rfl ?_ | refine s_store rfl ?_ | refine s_pureG rfl rfl rfl rfl ?_
    | refine s_pick rfl rfl rfl ?_ | refine s_pickK rfl rfl ?_ | refine s_pick0 rfl rfl ?_ | refine s_gpick rfl rfl rfl rfl ?_ | refine s_locG rfl rfl rfl ?_ | refine s_nil ?_ | refine s_drop ?_ | refine s_back ?_ | refine s_seqn ?_ | refine s_seqr ?_ | refine s_seqe ?_ | refine s_seq ?_
    | refine s_region ?_ | refine s_block ?_ | refine s_blockn ?_ | refine s_blockr ?_ | refine s_blocke ?_ | refine s_blocko rfl ?_ | refine s_skip ?_ | refine s_ret ?_ | refine s_exit ?_
    | (refine s_box rfl rfl rfl rfl (fun b => ?_)) | (refine s_alloc rfl rfl rfl rfl (fun b => ?_)) | refine s_condt rfl ?_ | refine s_condf rfl ?_ | (refine s_bslice rfl rfl rfl rfl rfl rfl rfl rfl (fun b => ?_)) | refine s_loopr ?_ | refine s_loope ?_ | refine s_loopPr ?_ | refine s_loopPe ?_
    | refine s_pureO rfl rfl rfl (by decide) ?_ | refine s_gpureO rfl rfl rfl rfl rfl (fun _ => by decide) ?_
    | refine s_end rfl ?_ | refine s_endn rfl ?_ | refine s_inend rfl ?_ | refine s_inendn rfl ?_)
  refine s_shift (VS.freeze 0 [0, 3, 14] rfl rfl rfl rfl fun F1 hs1 hf1 => VS.id ?_)
  refine s_plain _ rfl rfl rfl bd40 rfl (parts_ok [name, value] (by simp) hf1) ?_
  repeat (first
    | refine s_pure rfl rfl rfl ?_ | refine s_loc rfl rfl ?_ | refine s_known rfl rfl rfl ?_ | refine s_unwanted rfl rfl rfl rfl rfl ?_ | refine s_gpure rfl rfl rfl rfl rfl ?_ | refine s_gloc rfl rfl rfl rfl ?_ | refine s_store rfl ?_ | refine s_pureG rfl rfl rfl rfl ?_
    | refine s_pick rfl rfl rfl ?_ | refine s_pickK rfl rfl ?_ | refine s_pick0 rfl rfl ?_ | refine s_gpick rfl rfl rfl rfl ?_ | refine s_locG rfl rfl rfl ?_ | refine s_nil ?_ | refine s_drop ?_ | refine s_back ?_ | refine s_seqn ?_ | refine s_seqr ?_ | refine s_seqe ?_ | refine s_seq ?_
    | refine s_region ?_ | refine s_block ?_ | refine s_blockn ?_ | refine s_blockr ?_ | refine s_blocke ?_ | refine s_blocko rfl ?_ | refine s_skip ?_ | refine s_ret ?_ | refine s_exit ?_
    | (refine s_box rfl rfl rfl rfl (fun b => ?_)) | (refine s_alloc rfl rfl rfl rfl (fun b => ?_)) | refine s_condt rfl ?_ | refine s_condf rfl ?_ | (refine s_bslice rfl rfl rfl rfl rfl rfl rfl rfl (fun b => ?_)) | refine s_loopr ?_ | refine s_loope ?_ | refine s_loopPr ?_ | refine s_loopPe ?_
    | refine s_pureO rfl rfl rfl (by decide) ?_ | refine s_gpureO rfl rfl rfl rfl rfl (fun _ => by decide) ?_
    | refine s_end rfl ?_ | refine s_endn rfl ?_ | refine s_inend rfl ?_ | refine s_inendn rfl ?_)
  refine s_plain _ rfl rfl rfl bd43 rfl (refnum_ok n hn F1) ?_
  repeat (first
    | refine s_pure rfl rfl rfl ?_ | refine s_loc rfl rfl ?_ | refine s_known rfl rfl rfl ?_ | refine s_unwanted rfl rfl rfl rfl rfl ?_ | refine s_gpure rfl rfl rfl rfl rfl ?_ | refine s_gloc rfl rfl rfl rfl ?_ | refine s_store rfl ?_ | refine s_pureG rfl rfl rfl rfl ?_
    | refine s_pick rfl rfl rfl ?_ | refine s_pickK rfl rfl ?_ | refine s_pick0 rfl rfl ?_ | refine s_gpick rfl rfl rfl rfl ?_ | refine s_locG rfl rfl rfl ?_ | refine s_nil ?_ | refine s_drop ?_ | refine s_back ?_ | refine s_seqn ?_ | refine s_seqr ?_ | refine s_seqe ?_ | refine s_seq ?_
    | refine s_region ?_ | refine s_block ?_ | refine s_blockn ?_ | refine s_blockr ?_ | refine s_blocke ?_ | refine s_blocko rfl ?_ | refine s_skip ?_ | refine s_ret ?_ | refine s_exit ?_
    | (refine s_box rfl rfl rfl rfl (fun b => ?_)) | (refine s_alloc rfl rfl rfl rfl (fun b => ?_)) | refine s_condt rfl ?_ | refine s_condf rfl ?_ | (refine s_bslice rfl rfl rfl rfl rfl rfl rfl rfl (fun b => ?_)) | refine s_loopr ?_ | refine s_loope ?_ | refine s_loopPr ?_ | refine s_loopPe ?_
    | refine s_pureO rfl rfl rfl (by decide) ?_ | refine s_gpureO rfl rfl rfl rfl rfl (fun _ => by decide) ?_
    | refine s_end rfl ?_ | refine s_endn rfl ?_ | refine s_inend rfl ?_ | refine s_inendn rfl ?_)
  have := partsOut_len [name, value]
  refine s_pureO rfl rfl rfl (by simp only [bl_S, num_length]; unfold maxInt; omega) ?_
  have h2 := askSaid_len name value n
  refine s_plain _ rfl rfl rfl bd76 rfl (reftag_ok key (askSaid name value n) hk (by omega) F1) ?_
  repeat (first
    | refine s_pure rfl rfl rfl ?_ | refine s_loc rfl rfl ?_ | refine s_known rfl rfl rfl ?_ | refine s_unwanted rfl rfl rfl rfl rfl ?_ | refine s_gpure rfl rfl rfl rfl rfl ?_ | refine s_gloc rfl rfl rfl rfl ?_ | refine s_store rfl ?_ | refine s_pureG rfl rfl rfl rfl ?_
    | refine s_pick rfl rfl rfl ?_ | refine s_pickK rfl rfl ?_ | refine s_pick0 rfl rfl ?_ | refine s_gpick rfl rfl rfl rfl ?_ | refine s_locG rfl rfl rfl ?_ | refine s_nil ?_ | refine s_drop ?_ | refine s_back ?_ | refine s_seqn ?_ | refine s_seqr ?_ | refine s_seqe ?_ | refine s_seq ?_
    | refine s_region ?_ | refine s_block ?_ | refine s_blockn ?_ | refine s_blockr ?_ | refine s_blocke ?_ | refine s_blocko rfl ?_ | refine s_skip ?_ | refine s_ret ?_ | refine s_exit ?_
    | (refine s_box rfl rfl rfl rfl (fun b => ?_)) | (refine s_alloc rfl rfl rfl rfl (fun b => ?_)) | refine s_condt rfl ?_ | refine s_condf rfl ?_ | (refine s_bslice rfl rfl rfl rfl rfl rfl rfl rfl (fun b => ?_)) | refine s_loopr ?_ | refine s_loope ?_ | refine s_loopPr ?_ | refine s_loopPe ?_
    | refine s_pureO rfl rfl rfl (by decide) ?_ | refine s_gpureO rfl rfl rfl rfl rfl (fun _ => by decide) ?_
    | refine s_end rfl ?_ | refine s_endn rfl ?_ | refine s_inend rfl ?_ | refine s_inendn rfl ?_)
  rfl
/-- What Ask answers. -/
def askOf (key : Nat) (name value : List UInt8) (n : Nat) : Ask := if askFault name value = 0 then ⟨name, value, n, tagN key (askSaid name value n)⟩ else Ask.none
theorem tagask_ok (key : Nat) (name value : List UInt8) (n : Nat) (hk : key < 18446744073709551616) (hl : name.length ≤ 4611686018427387904) (hn : n < 18446744073709551616) (F : Hp) : Plain Try.prog F 74 [u64 key, S name, S value, u64 n] (pair (askOf key name value n).v (i64 (askFault name value))) := by
  refine plain_vc (N := 28) (rv := [.cell 8 88, .tmp 9]) tbok mixed Try.func74 rfl rfl rfl rfl rfl ?_
  repeat (first
    | refine s_pure rfl rfl rfl ?_ | refine s_loc rfl rfl ?_ | refine s_known rfl rfl rfl ?_ | refine s_unwanted rfl rfl rfl rfl rfl ?_ | refine s_gpure rfl rfl rfl rfl rfl ?_ | refine s_gloc rfl rfl rfl rfl ?_ | refine s_store rfl ?_ | refine s_pureG rfl rfl rfl rfl ?_
    | refine s_pick rfl rfl rfl ?_ | refine s_pickK rfl rfl ?_ | refine s_pick0 rfl rfl ?_ | refine s_gpick rfl rfl rfl rfl ?_ | refine s_locG rfl rfl rfl ?_ | refine s_nil ?_ | refine s_drop ?_ | refine s_back ?_ | refine s_seqn ?_ | refine s_seqr ?_ | refine s_seqe ?_ | refine s_seq ?_
    | refine s_region ?_ | refine s_block ?_ | refine s_blockn ?_ | refine s_blockr ?_ | refine s_blocke ?_ | refine s_blocko rfl ?_ | refine s_skip ?_ | refine s_ret ?_ | refine s_exit ?_
    | (refine s_box rfl rfl rfl rfl (fun b => ?_)) | (refine s_alloc rfl rfl rfl rfl (fun b => ?_)) | refine s_condt rfl ?_ | refine s_condf rfl ?_ | (refine s_bslice rfl rfl rfl rfl rfl rfl rfl rfl (fun b => ?_)) | refine s_loopr ?_ | refine s_loope ?_ | refine s_loopPr ?_ | refine s_loopPe ?_
    | refine s_pureO rfl rfl rfl (by decide) ?_ | refine s_gpureO rfl rfl rfl rfl rfl (fun _ => by decide) ?_
    | refine s_end rfl ?_ | refine s_endn rfl ?_ | refine s_inend rfl ?_ | refine s_inendn rfl ?_)
  refine s_plain _ rfl rfl rfl bd126 rfl (tagright_ok name value hl F) ?_
  repeat (first
    | refine s_pure rfl rfl rfl ?_ | refine s_loc rfl rfl ?_ | refine s_known rfl rfl rfl ?_ | refine s_unwanted rfl rfl rfl rfl rfl ?_ | refine s_gpure rfl rfl rfl rfl rfl ?_ | refine s_gloc rfl rfl rfl rfl ?_ | refine s_store rfl ?_ | refine s_pureG rfl rfl rfl rfl ?_
    | refine s_pick rfl rfl rfl ?_ | refine s_pickK rfl rfl ?_ | refine s_pick0 rfl rfl ?_ | refine s_gpick rfl rfl rfl rfl ?_ | refine s_locG rfl rfl rfl ?_ | refine s_nil ?_ | refine s_drop ?_ | refine s_back ?_ | refine s_seqn ?_ | refine s_seqr ?_ | refine s_seqe ?_ | refine s_seq ?_
    | refine s_region ?_ | refine s_block ?_ | refine s_blockn ?_ | refine s_blockr ?_ | refine s_blocke ?_ | refine s_blocko rfl ?_ | refine s_skip ?_ | refine s_ret ?_ | refine s_exit ?_
    | (refine s_box rfl rfl rfl rfl (fun b => ?_)) | (refine s_alloc rfl rfl rfl rfl (fun b => ?_)) | refine s_condt rfl ?_ | refine s_condf rfl ?_ | (refine s_bslice rfl rfl rfl rfl rfl rfl rfl rfl (fun b => ?_)) | refine s_loopr ?_ | refine s_loope ?_ | refine s_loopPr ?_ | refine s_loopPe ?_
    | refine s_pureO rfl rfl rfl (by decide) ?_ | refine s_gpureO rfl rfl rfl rfl rfl (fun _ => by decide) ?_
    | refine s_end rfl ?_ | refine s_endn rfl ?_ | refine s_inend rfl ?_ | refine s_inendn rfl ?_)
  refine s_if _ rfl (fun h => ?_) (fun h => ?_)
  · have h2 : ¬ askFault name value = 0 := by simpa using h
    repeat (first
    | refine s_pure rfl rfl rfl ?_ | refine s_loc rfl rfl ?_ | refine s_known rfl rfl rfl ?_ | refine s_unwanted rfl rfl rfl rfl rfl ?_ | refine s_gpure rfl rfl rfl rfl rfl ?_ | refine s_gloc rfl rfl rfl rfl ?_ | refine s_store rfl ?_ | refine s_pureG rfl rfl rfl rfl ?_
    | refine s_pick rfl rfl rfl ?_ | refine s_pickK rfl rfl ?_ | refine s_pick0 rfl rfl ?_ | refine s_gpick rfl rfl rfl rfl ?_ | refine s_locG rfl rfl rfl ?_ | refine s_nil ?_ | refine s_drop ?_ | refine s_back ?_ | refine s_seqn ?_ | refine s_seqr ?_ | refine s_seqe ?_ | refine s_seq ?_
    | refine s_region ?_ | refine s_block ?_ | refine s_blockn ?_ | refine s_blockr ?_ | refine s_blocke ?_ | refine s_blocko rfl ?_ | refine s_skip ?_ | refine s_ret ?_ | refine s_exit ?_
    | (refine s_box rfl rfl rfl rfl (fun b => ?_)) | (refine s_alloc rfl rfl rfl rfl (fun b => ?_)) | refine s_condt rfl ?_ | refine s_condf rfl ?_ | (refine s_bslice rfl rfl rfl rfl rfl rfl rfl rfl (fun b => ?_)) | refine s_loopr ?_ | refine s_loope ?_ | refine s_loopPr ?_ | refine s_loopPe ?_
    | refine s_pureO rfl rfl rfl (by decide) ?_ | refine s_gpureO rfl rfl rfl rfl rfl (fun _ => by decide) ?_
    | refine s_end rfl ?_ | refine s_endn rfl ?_ | refine s_inend rfl ?_ | refine s_inendn rfl ?_)
    simp only [tupV, askOf, if_neg h2]
    rfl
  · have h2 : askFault name value = 0 := by simpa using h
    repeat (first
    | refine s_pure rfl rfl rfl ?_ | refine s_loc rfl rfl ?_ | refine s_known rfl rfl rfl ?_ | refine s_unwanted rfl rfl rfl rfl rfl ?_ | refine s_gpure rfl rfl rfl rfl rfl ?_ | refine s_gloc rfl rfl rfl rfl ?_ | refine s_store rfl ?_ | refine s_pureG rfl rfl rfl rfl ?_
    | refine s_pick rfl rfl rfl ?_ | refine s_pickK rfl rfl ?_ | refine s_pick0 rfl rfl ?_ | refine s_gpick rfl rfl rfl rfl ?_ | refine s_locG rfl rfl rfl ?_ | refine s_nil ?_ | refine s_drop ?_ | refine s_back ?_ | refine s_seqn ?_ | refine s_seqr ?_ | refine s_seqe ?_ | refine s_seq ?_
    | refine s_region ?_ | refine s_block ?_ | refine s_blockn ?_ | refine s_blockr ?_ | refine s_blocke ?_ | refine s_blocko rfl ?_ | refine s_skip ?_ | refine s_ret ?_ | refine s_exit ?_
    | (refine s_box rfl rfl rfl rfl (fun b => ?_)) | (refine s_alloc rfl rfl rfl rfl (fun b => ?_)) | refine s_condt rfl ?_ | refine s_condf rfl ?_ | (refine s_bslice rfl rfl rfl rfl rfl rfl rfl rfl (fun b => ?_)) | refine s_loopr ?_ | refine s_loope ?_ | refine s_loopPr ?_ | refine s_loopPe ?_
    | refine s_pureO rfl rfl rfl (by decide) ?_ | refine s_gpureO rfl rfl rfl rfl rfl (fun _ => by decide) ?_
    | refine s_end rfl ?_ | refine s_endn rfl ?_ | refine s_inend rfl ?_ | refine s_inendn rfl ?_)
    refine s_plain _ rfl rfl rfl bd127 rfl (tagsaid_ok name value n F) ?_
    have h3 := askSaid_len name value n
    refine s_plain _ rfl rfl rfl bd75 rfl (tagof_ok key (askSaid name value n) hk (by omega) F) ?_
    repeat (first
    | refine s_pure rfl rfl rfl ?_ | refine s_loc rfl rfl ?_ | refine s_known rfl rfl rfl ?_ | refine s_unwanted rfl rfl rfl rfl rfl ?_ | refine s_gpure rfl rfl rfl rfl rfl ?_ | refine s_gloc rfl rfl rfl rfl ?_ | refine s_store rfl ?_ | refine s_pureG rfl rfl rfl rfl ?_
    | refine s_pick rfl rfl rfl ?_ | refine s_pickK rfl rfl ?_ | refine s_pick0 rfl rfl ?_ | refine s_gpick rfl rfl rfl rfl ?_ | refine s_locG rfl rfl rfl ?_ | refine s_nil ?_ | refine s_drop ?_ | refine s_back ?_ | refine s_seqn ?_ | refine s_seqr ?_ | refine s_seqe ?_ | refine s_seq ?_
    | refine s_region ?_ | refine s_block ?_ | refine s_blockn ?_ | refine s_blockr ?_ | refine s_blocke ?_ | refine s_blocko rfl ?_ | refine s_skip ?_ | refine s_ret ?_ | refine s_exit ?_
    | (refine s_box rfl rfl rfl rfl (fun b => ?_)) | (refine s_alloc rfl rfl rfl rfl (fun b => ?_)) | refine s_condt rfl ?_ | refine s_condf rfl ?_ | (refine s_bslice rfl rfl rfl rfl rfl rfl rfl rfl (fun b => ?_)) | refine s_loopr ?_ | refine s_loope ?_ | refine s_loopPr ?_ | refine s_loopPe ?_
    | refine s_pureO rfl rfl rfl (by decide) ?_ | refine s_gpureO rfl rfl rfl rfl rfl (fun _ => by decide) ?_
    | refine s_end rfl ?_ | refine s_endn rfl ?_ | refine s_inend rfl ?_ | refine s_inendn rfl ?_)
    have e : askOf key name value n = ⟨name, value, n, tagN key (askSaid name value n)⟩ := by unfold askOf; rw [if_pos h2]
    rw [e, h2]
    simp only [tupV]
def tagHolds (key : Nat) (a : Ask) : Bool := (askFault a.name a.value == 0) && (((tagN key (askSaid a.name a.value a.n) : Nat) : Int) == (a.tag : Nat))
theorem tagholds_ok (key : Nat) (a : Ask) (hk : key < 18446744073709551616) (hw : a.wf) (F : Hp) : Plain Try.prog F 78 [u64 key, a.v] (.bool (tagHolds key a)) := by
  refine plain_vc (N := 24) (rv := [.tmp 4]) tbok mixed Try.func78 rfl rfl rfl rfl rfl ?_
  repeat (first
    | refine s_pure rfl rfl rfl ?_ | refine s_loc rfl rfl ?_ | refine s_known rfl rfl rfl ?_ | refine s_unwanted rfl rfl rfl rfl rfl ?_ | refine s_gpure rfl rfl rfl rfl rfl ?_ | refine s_gloc rfl rfl rfl rfl ?_ | refine s_store rfl ?_ | refine s_pureG rfl rfl rfl rfl ?_
    | refine s_pick rfl rfl rfl ?_ | refine s_pickK rfl rfl ?_ | refine s_pick0 rfl rfl ?_ | refine s_gpick rfl rfl rfl rfl ?_ | refine s_locG rfl rfl rfl ?_ | refine s_nil ?_ | refine s_drop ?_ | refine s_back ?_ | refine s_seqn ?_ | refine s_seqr ?_ | refine s_seqe ?_ | refine s_seq ?_
    | refine s_region ?_ | refine s_block ?_ | refine s_blockn ?_ | refine s_blockr ?_ | refine s_blocke ?_ | refine s_blocko rfl ?_ | refine s_skip ?_ | refine s_ret ?_ | refine s_exit ?_
    | (refine s_box rfl rfl rfl rfl (fun b => ?_)) | (refine s_alloc rfl rfl rfl rfl (fun b => ?_)) | refine s_condt rfl ?_ | refine s_condf rfl ?_ | (refine s_bslice rfl rfl rfl rfl rfl rfl rfl rfl (fun b => ?_)) | refine s_loopr ?_ | refine s_loope ?_ | refine s_loopPr ?_ | refine s_loopPe ?_
    | refine s_pureO rfl rfl rfl (by decide) ?_ | refine s_gpureO rfl rfl rfl rfl rfl (fun _ => by decide) ?_
    | refine s_end rfl ?_ | refine s_endn rfl ?_ | refine s_inend rfl ?_ | refine s_inendn rfl ?_)
  refine s_regiond (by kernel_rfl) ?_
  repeat (first
    | refine s_pure rfl rfl rfl ?_ | refine s_loc rfl rfl ?_ | refine s_known rfl rfl rfl ?_ | refine s_unwanted rfl rfl rfl rfl rfl ?_ | refine s_gpure rfl rfl rfl rfl rfl ?_ | refine s_gloc rfl rfl rfl rfl ?_ | refine s_store rfl ?_ | refine s_pureG rfl rfl rfl rfl ?_
    | refine s_pick rfl rfl rfl ?_ | refine s_pickK rfl rfl ?_ | refine s_pick0 rfl rfl ?_ | refine s_gpick rfl rfl rfl rfl ?_ | refine s_locG rfl rfl rfl ?_ | refine s_nil ?_ | refine s_drop ?_ | refine s_back ?_ | refine s_seqn ?_ | refine s_seqr ?_ | refine s_seqe ?_ | refine s_seq ?_
    | refine s_region ?_ | refine s_block ?_ | refine s_blockn ?_ | refine s_blockr ?_ | refine s_blocke ?_ | refine s_blocko rfl ?_ | refine s_skip ?_ | refine s_ret ?_ | refine s_exit ?_
    | (refine s_box rfl rfl rfl rfl (fun b => ?_)) | (refine s_alloc rfl rfl rfl rfl (fun b => ?_)) | refine s_condt rfl ?_ | refine s_condf rfl ?_ | (refine s_bslice rfl rfl rfl rfl rfl rfl rfl rfl (fun b => ?_)) | refine s_loopr ?_ | refine s_loope ?_ | refine s_loopPr ?_ | refine s_loopPe ?_
    | refine s_pureO rfl rfl rfl (by decide) ?_ | refine s_gpureO rfl rfl rfl rfl rfl (fun _ => by decide) ?_
    | refine s_end rfl ?_ | refine s_endn rfl ?_ | refine s_inend rfl ?_ | refine s_inendn rfl ?_)
  refine s_plain _ rfl rfl rfl bd126 rfl (tagright_ok a.name a.value hw.name F) ?_
  repeat (first
    | refine s_pure rfl rfl rfl ?_ | refine s_loc rfl rfl ?_ | refine s_known rfl rfl rfl ?_ | refine s_unwanted rfl rfl rfl rfl rfl ?_ | refine s_gpure rfl rfl rfl rfl rfl ?_ | refine s_gloc rfl rfl rfl rfl ?_ | refine s_store rfl ?_ | refine s_pureG rfl rfl rfl rfl ?_
    | refine s_pick rfl rfl rfl ?_ | refine s_pickK rfl rfl ?_ | refine s_pick0 rfl rfl ?_ | refine s_gpick rfl rfl rfl rfl ?_ | refine s_locG rfl rfl rfl ?_ | refine s_nil ?_ | refine s_drop ?_ | refine s_back ?_ | refine s_seqn ?_ | refine s_seqr ?_ | refine s_seqe ?_ | refine s_seq ?_
    | refine s_region ?_ | refine s_block ?_ | refine s_blockn ?_ | refine s_blockr ?_ | refine s_blocke ?_ | refine s_blocko rfl ?_ | refine s_skip ?_ | refine s_ret ?_ | refine s_exit ?_
    | (refine s_box rfl rfl rfl rfl (fun b => ?_)) | (refine s_alloc rfl rfl rfl rfl (fun b => ?_)) | refine s_condt rfl ?_ | refine s_condf rfl ?_ | (refine s_bslice rfl rfl rfl rfl rfl rfl rfl rfl (fun b => ?_)) | refine s_loopr ?_ | refine s_loope ?_ | refine s_loopPr ?_ | refine s_loopPe ?_
    | refine s_pureO rfl rfl rfl (by decide) ?_ | refine s_gpureO rfl rfl rfl rfl rfl (fun _ => by decide) ?_
    | refine s_end rfl ?_ | refine s_endn rfl ?_ | refine s_inend rfl ?_ | refine s_inendn rfl ?_)
  refine s_gplain (S (askSaid a.name a.value a.n)) rfl rfl rfl rfl bd127 rfl rfl (fun _ => tagsaid_ok a.name a.value a.n F) ?_
  repeat (first
    | refine s_pure rfl rfl rfl ?_ | refine s_loc rfl rfl ?_ | refine s_known rfl rfl rfl ?_ | refine s_unwanted rfl rfl rfl rfl rfl ?_ | refine s_gpure rfl rfl rfl rfl rfl ?_ | refine s_gloc rfl rfl rfl rfl ?_ | refine s_store rfl ?_ | refine s_pureG rfl rfl rfl rfl ?_
    | refine s_pick rfl rfl rfl ?_ | refine s_pickK rfl rfl ?_ | refine s_pick0 rfl rfl ?_ | refine s_gpick rfl rfl rfl rfl ?_ | refine s_locG rfl rfl rfl ?_ | refine s_nil ?_ | refine s_drop ?_ | refine s_back ?_ | refine s_seqn ?_ | refine s_seqr ?_ | refine s_seqe ?_ | refine s_seq ?_
    | refine s_region ?_ | refine s_block ?_ | refine s_blockn ?_ | refine s_blockr ?_ | refine s_blocke ?_ | refine s_blocko rfl ?_ | refine s_skip ?_ | refine s_ret ?_ | refine s_exit ?_
    | (refine s_box rfl rfl rfl rfl (fun b => ?_)) | (refine s_alloc rfl rfl rfl rfl (fun b => ?_)) | refine s_condt rfl ?_ | refine s_condf rfl ?_ | (refine s_bslice rfl rfl rfl rfl rfl rfl rfl rfl (fun b => ?_)) | refine s_loopr ?_ | refine s_loope ?_ | refine s_loopPr ?_ | refine s_loopPe ?_
    | refine s_pureO rfl rfl rfl (by decide) ?_ | refine s_gpureO rfl rfl rfl rfl rfl (fun _ => by decide) ?_
    | refine s_end rfl ?_ | refine s_endn rfl ?_ | refine s_inend rfl ?_ | refine s_inendn rfl ?_)
  have h3 := askSaid_len a.name a.value a.n
  refine s_gplain _ rfl rfl rfl rfl bd77 rfl rfl (fun _ => tagRight_ok key (askSaid a.name a.value a.n) a.tag hk (by omega) F) ?_
  repeat (first
    | refine s_pure rfl rfl rfl ?_ | refine s_loc rfl rfl ?_ | refine s_known rfl rfl rfl ?_ | refine s_unwanted rfl rfl rfl rfl rfl ?_ | refine s_gpure rfl rfl rfl rfl rfl ?_ | refine s_gloc rfl rfl rfl rfl ?_ | refine s_store rfl ?_ | refine s_pureG rfl rfl rfl rfl ?_
    | refine s_pick rfl rfl rfl ?_ | refine s_pickK rfl rfl ?_ | refine s_pick0 rfl rfl ?_ | refine s_gpick rfl rfl rfl rfl ?_ | refine s_locG rfl rfl rfl ?_ | refine s_nil ?_ | refine s_drop ?_ | refine s_back ?_ | refine s_seqn ?_ | refine s_seqr ?_ | refine s_seqe ?_ | refine s_seq ?_
    | refine s_region ?_ | refine s_block ?_ | refine s_blockn ?_ | refine s_blockr ?_ | refine s_blocke ?_ | refine s_blocko rfl ?_ | refine s_skip ?_ | refine s_ret ?_ | refine s_exit ?_
    | (refine s_box rfl rfl rfl rfl (fun b => ?_)) | (refine s_alloc rfl rfl rfl rfl (fun b => ?_)) | refine s_condt rfl ?_ | refine s_condf rfl ?_ | (refine s_bslice rfl rfl rfl rfl rfl rfl rfl rfl (fun b => ?_)) | refine s_loopr ?_ | refine s_loope ?_ | refine s_loopPr ?_ | refine s_loopPe ?_
    | refine s_pureO rfl rfl rfl (by decide) ?_ | refine s_gpureO rfl rfl rfl rfl rfl (fun _ => by decide) ?_
    | refine s_end rfl ?_ | refine s_endn rfl ?_ | refine s_inend rfl ?_ | refine s_inendn rfl ?_)
  simp only [tupV, bpick_and, tagHolds]
end Go.Proofs.Ytaienbnadbadfaa
