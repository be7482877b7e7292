/-
The law Names: the constants of package api have the values of the document.
-/
import Derived.Test.YtaienbnadbadfaaEqs
namespace Go.Proofs.Ytaienbnadbadfaa
open Go.TR
attribute [local irreducible] vc vcOps seqK blockK loopK retK retG retI loopV Plain CallOK CallIn bodied VS vcAny dropG backK brK loopPK
set_option maxRecDepth 100000
theorem ten_get (k : Nat) (h : k < 10) : ([.v (i64 0), .v (i64 1), .v (i64 2), .v (i64 3), .v (i64 4), .v (i64 5), .v (i64 6), .v (i64 7), .v (i64 8), .v (i64 9)] : List EV)[0 + (k : Int).toNat * 1]? = some (.v (i64 (k : Nat))) := by
  match k, h with
  | 0, _ | 1, _ | 2, _ | 3, _ | 4, _ | 5, _ | 6, _ | 7, _ | 8, _ | 9, _ => rfl
  | n + 10, h => omega
theorem eq_int_self (l : List Int) {p1 p2 : Option Addr} {c1 c2 n : Nat} {F : Hp} (h : n = l.length) (h1 : Frow F p1 (l.map i64)) (h2 : Frow F p2 (l.map i64)) (hn : l.length ≤ 9223372036854775806) : Plain Try.prog F 15 [.slice p1 n c1, .slice p2 n c2] (.bool true) := by
  have := eq_int l l h1 h2 hn (c1 := c1) (c2 := c2)
  rw [← h] at this
  simpa using this
theorem names_ok (F : Hp) : Plain Try.prog F 3 [] (.bool true) := by
  refine plain_vc (N := 28) (rv := [.tmp 0]) tbok mixed Try.func3 rfl rfl rfl rfl rfl ?_
  repeat (first
    | refine s_pure rfl rfl rfl ?_ | refine s_loc rfl rfl ?_ | refine s_known rfl rfl rfl ?_ | refine s_unwanted rfl rfl rfl rfl rfl ?_ | refine s_gpure rfl rfl rfl rfl rfl ?_ | refine s_gloc rfl rfl rfl rfl ?_ | refine s_store rfl ?_ | refine s_pureG rfl rfl rfl rfl ?_
    | refine s_pick rfl rfl rfl ?_ | refine s_pickK rfl rfl ?_ | refine s_pick0 rfl rfl ?_ | refine s_gpick rfl rfl rfl rfl ?_ | refine s_locG rfl rfl rfl ?_ | refine s_nil ?_ | refine s_drop ?_ | refine s_back ?_ | refine s_seqn ?_ | refine s_seqr ?_ | refine s_seqe ?_ | refine s_seq ?_
    | refine s_region ?_ | refine s_block ?_ | refine s_blockn ?_ | refine s_blockr ?_ | refine s_blocke ?_ | refine s_blocko rfl ?_ | refine s_skip ?_ | refine s_ret ?_ | refine s_exit ?_
    | (refine s_box rfl rfl rfl rfl (fun b => ?_)) | (refine s_alloc rfl rfl rfl rfl (fun b => ?_)) | refine s_condt rfl ?_ | refine s_condf rfl ?_ | (refine s_bslice rfl rfl rfl rfl rfl rfl rfl rfl (fun b => ?_)) | refine s_loopr ?_ | refine s_loope ?_ | refine s_loopPr ?_ | refine s_loopPe ?_
    | refine s_end rfl ?_ | refine s_endn rfl ?_ | refine s_inend rfl ?_ | refine s_inendn rfl ?_)
  refine s_loopP (fun k : Nat => k ≤ 10) (fun k => ⟨[(1, .row 0 0 10 10), (7, .v (i64 10)), (8, .v (i64 (k : Nat)))], F, [(0, ⟨some b, [.v (i64 0), .v (i64 1), .v (i64 2), .v (i64 3), .v (i64 4), .v (i64 5), .v (i64 6), .v (i64 7), .v (i64 8), .v (i64 9)], 22, 10⟩)], 1⟩) (fun k => 10 - k) 0 (by decide) (VS.keepN [1, 7, 8] rfl rfl) ?_
  intro k hk
  repeat (first
    | refine s_pure rfl rfl rfl ?_ | refine s_loc rfl rfl ?_ | refine s_known rfl rfl rfl ?_ | refine s_unwanted rfl rfl rfl rfl rfl ?_ | refine s_gpure rfl rfl rfl rfl rfl ?_ | refine s_gloc rfl rfl rfl rfl ?_ | refine s_store rfl ?_ | refine s_pureG rfl rfl rfl rfl ?_
    | refine s_pick rfl rfl rfl ?_ | refine s_pickK rfl rfl ?_ | refine s_pick0 rfl rfl ?_ | refine s_gpick rfl rfl rfl rfl ?_ | refine s_locG rfl rfl rfl ?_ | refine s_nil ?_ | refine s_drop ?_ | refine s_back ?_ | refine s_seqn ?_ | refine s_seqr ?_ | refine s_seqe ?_ | refine s_seq ?_
    | refine s_region ?_ | refine s_block ?_ | refine s_blockn ?_ | refine s_blockr ?_ | refine s_blocke ?_ | refine s_blocko rfl ?_ | refine s_skip ?_ | refine s_ret ?_ | refine s_exit ?_
    | (refine s_box rfl rfl rfl rfl (fun b => ?_)) | (refine s_alloc rfl rfl rfl rfl (fun b => ?_)) | refine s_condt rfl ?_ | refine s_condf rfl ?_ | (refine s_bslice rfl rfl rfl rfl rfl rfl rfl rfl (fun b => ?_)) | refine s_loopr ?_ | refine s_loope ?_ | refine s_loopPr ?_ | refine s_loopPe ?_
    | refine s_end rfl ?_ | refine s_endn rfl ?_ | refine s_inend rfl ?_ | refine s_inendn rfl ?_)
  refine s_if _ rfl (fun h => ?_) (fun h => ?_)
  · have hlt : k < 10 := by simp at h; omega
    repeat (first
    | refine s_pure rfl rfl rfl ?_ | refine s_loc rfl rfl ?_ | refine s_known rfl rfl rfl ?_ | refine s_unwanted rfl rfl rfl rfl rfl ?_ | refine s_gpure rfl rfl rfl rfl rfl ?_ | refine s_gloc rfl rfl rfl rfl ?_ | refine s_store rfl ?_ | refine s_pureG rfl rfl rfl rfl ?_
    | refine s_pick rfl rfl rfl ?_ | refine s_pickK rfl rfl ?_ | refine s_pick0 rfl rfl ?_ | refine s_gpick rfl rfl rfl rfl ?_ | refine s_locG rfl rfl rfl ?_ | refine s_nil ?_ | refine s_drop ?_ | refine s_back ?_ | refine s_seqn ?_ | refine s_seqr ?_ | refine s_seqe ?_ | refine s_seq ?_
    | refine s_region ?_ | refine s_block ?_ | refine s_blockn ?_ | refine s_blockr ?_ | refine s_blocke ?_ | refine s_blocko rfl ?_ | refine s_skip ?_ | refine s_ret ?_ | refine s_exit ?_
    | (refine s_box rfl rfl rfl rfl (fun b => ?_)) | (refine s_alloc rfl rfl rfl rfl (fun b => ?_)) | refine s_condt rfl ?_ | refine s_condf rfl ?_ | (refine s_bslice rfl rfl rfl rfl rfl rfl rfl rfl (fun b => ?_)) | refine s_loopr ?_ | refine s_loope ?_ | refine s_loopPr ?_ | refine s_loopPe ?_
    | refine s_end rfl ?_ | refine s_endn rfl ?_ | refine s_inend rfl ?_ | refine s_inendn rfl ?_)
    refine s_pureO rfl rfl rfl ⟨by omega, by omega, _, _, rfl, rfl⟩ ?_
    refine s_locX (i64 (k : Nat)) rfl rfl rfl rfl rfl (ten_get k hlt) ?_
    repeat (first
    | refine s_pure rfl rfl rfl ?_ | refine s_loc rfl rfl ?_ | refine s_known rfl rfl rfl ?_ | refine s_unwanted rfl rfl rfl rfl rfl ?_ | refine s_gpure rfl rfl rfl rfl rfl ?_ | refine s_gloc rfl rfl rfl rfl ?_ | refine s_store rfl ?_ | refine s_pureG rfl rfl rfl rfl ?_
    | refine s_pick rfl rfl rfl ?_ | refine s_pickK rfl rfl ?_ | refine s_pick0 rfl rfl ?_ | refine s_gpick rfl rfl rfl rfl ?_ | refine s_locG rfl rfl rfl ?_ | refine s_nil ?_ | refine s_drop ?_ | refine s_back ?_ | refine s_seqn ?_ | refine s_seqr ?_ | refine s_seqe ?_ | refine s_seq ?_
    | refine s_region ?_ | refine s_block ?_ | refine s_blockn ?_ | refine s_blockr ?_ | refine s_blocke ?_ | refine s_blocko rfl ?_ | refine s_skip ?_ | refine s_ret ?_ | refine s_exit ?_
    | (refine s_box rfl rfl rfl rfl (fun b => ?_)) | (refine s_alloc rfl rfl rfl rfl (fun b => ?_)) | refine s_condt rfl ?_ | refine s_condf rfl ?_ | (refine s_bslice rfl rfl rfl rfl rfl rfl rfl rfl (fun b => ?_)) | refine s_loopr ?_ | refine s_loope ?_ | refine s_loopPr ?_ | refine s_loopPe ?_
    | refine s_end rfl ?_ | refine s_endn rfl ?_ | refine s_inend rfl ?_ | refine s_inendn rfl ?_)
    refine s_if _ rfl (fun h2 => ?_) (fun h2 => ?_)
    · simp at h2
    · repeat (first
    | refine s_pure rfl rfl rfl ?_ | refine s_loc rfl rfl ?_ | refine s_known rfl rfl rfl ?_ | refine s_unwanted rfl rfl rfl rfl rfl ?_ | refine s_gpure rfl rfl rfl rfl rfl ?_ | refine s_gloc rfl rfl rfl rfl ?_ | refine s_store rfl ?_ | refine s_pureG rfl rfl rfl rfl ?_
    | refine s_pick rfl rfl rfl ?_ | refine s_pickK rfl rfl ?_ | refine s_pick0 rfl rfl ?_ | refine s_gpick rfl rfl rfl rfl ?_ | refine s_locG rfl rfl rfl ?_ | refine s_nil ?_ | refine s_drop ?_ | refine s_back ?_ | refine s_seqn ?_ | refine s_seqr ?_ | refine s_seqe ?_ | refine s_seq ?_
    | refine s_region ?_ | refine s_block ?_ | refine s_blockn ?_ | refine s_blockr ?_ | refine s_blocke ?_ | refine s_blocko rfl ?_ | refine s_skip ?_ | refine s_ret ?_ | refine s_exit ?_
    | (refine s_box rfl rfl rfl rfl (fun b => ?_)) | (refine s_alloc rfl rfl rfl rfl (fun b => ?_)) | refine s_condt rfl ?_ | refine s_condf rfl ?_ | (refine s_bslice rfl rfl rfl rfl rfl rfl rfl rfl (fun b => ?_)) | refine s_loopr ?_ | refine s_loope ?_ | refine s_loopPr ?_ | refine s_loopPe ?_
    | refine s_end rfl ?_ | refine s_endn rfl ?_ | refine s_inend rfl ?_ | refine s_inendn rfl ?_)
      rw [wrap_succ (by omega)]
      exact s_loopPn (k + 1) hlt (by omega) (VS.keepN [1, 7, 8] rfl rfl)
  · have hge : k = 10 := by simp at h; omega
    repeat (first
    | refine s_pure rfl rfl rfl ?_ | refine s_loc rfl rfl ?_ | refine s_known rfl rfl rfl ?_ | refine s_unwanted rfl rfl rfl rfl rfl ?_ | refine s_gpure rfl rfl rfl rfl rfl ?_ | refine s_gloc rfl rfl rfl rfl ?_ | refine s_store rfl ?_ | refine s_pureG rfl rfl rfl rfl ?_
    | refine s_pick rfl rfl rfl ?_ | refine s_pickK rfl rfl ?_ | refine s_pick0 rfl rfl ?_ | refine s_gpick rfl rfl rfl rfl ?_ | refine s_locG rfl rfl rfl ?_ | refine s_nil ?_ | refine s_drop ?_ | refine s_back ?_ | refine s_seqn ?_ | refine s_seqr ?_ | refine s_seqe ?_ | refine s_seq ?_
    | refine s_region ?_ | refine s_block ?_ | refine s_blockn ?_ | refine s_blockr ?_ | refine s_blocke ?_ | refine s_blocko rfl ?_ | refine s_skip ?_ | refine s_ret ?_ | refine s_exit ?_
    | (refine s_box rfl rfl rfl rfl (fun b => ?_)) | (refine s_alloc rfl rfl rfl rfl (fun b => ?_)) | refine s_condt rfl ?_ | refine s_condf rfl ?_ | (refine s_bslice rfl rfl rfl rfl rfl rfl rfl rfl (fun b => ?_)) | refine s_loopr ?_ | refine s_loope ?_ | refine s_loopPr ?_ | refine s_loopPe ?_
    | refine s_end rfl ?_ | refine s_endn rfl ?_ | refine s_inend rfl ?_ | refine s_inendn rfl ?_)
    refine s_shift (VS.freeze 1 [4, 20, 21] rfl rfl rfl rfl fun F1 hs1 hf1 => VS.freeze 3 [4, 20, 21] rfl rfl rfl rfl fun F2 hs2 hf2 => VS.id ?_)
    refine s_plain (.bool true) rfl rfl rfl bd15 rfl (eq_int_self [0, 1, 2, 3, 4, 5, 6, 1, 2, 3, 4, 1, 2, 3] rfl (frow_sub hs2 hf1) hf2 (by decide)) ?_
    repeat (first
    | refine s_pure rfl rfl rfl ?_ | refine s_loc rfl rfl ?_ | refine s_known rfl rfl rfl ?_ | refine s_unwanted rfl rfl rfl rfl rfl ?_ | refine s_gpure rfl rfl rfl rfl rfl ?_ | refine s_gloc rfl rfl rfl rfl ?_ | refine s_store rfl ?_ | refine s_pureG rfl rfl rfl rfl ?_
    | refine s_pick rfl rfl rfl ?_ | refine s_pickK rfl rfl ?_ | refine s_pick0 rfl rfl ?_ | refine s_gpick rfl rfl rfl rfl ?_ | refine s_locG rfl rfl rfl ?_ | refine s_nil ?_ | refine s_drop ?_ | refine s_back ?_ | refine s_seqn ?_ | refine s_seqr ?_ | refine s_seqe ?_ | refine s_seq ?_
    | refine s_region ?_ | refine s_block ?_ | refine s_blockn ?_ | refine s_blockr ?_ | refine s_blocke ?_ | refine s_blocko rfl ?_ | refine s_skip ?_ | refine s_ret ?_ | refine s_exit ?_
    | (refine s_box rfl rfl rfl rfl (fun b => ?_)) | (refine s_alloc rfl rfl rfl rfl (fun b => ?_)) | refine s_condt rfl ?_ | refine s_condf rfl ?_ | (refine s_bslice rfl rfl rfl rfl rfl rfl rfl rfl (fun b => ?_)) | refine s_loopr ?_ | refine s_loope ?_ | refine s_loopPr ?_ | refine s_loopPe ?_
    | refine s_end rfl ?_ | refine s_endn rfl ?_ | refine s_inend rfl ?_ | refine s_inendn rfl ?_)
    refine s_shift (VS.freeze 2 [23, 24, 25] rfl rfl rfl rfl fun F3 hs3 hf3 => VS.freeze 4 [23, 24, 25] rfl rfl rfl rfl fun F4 hs4 hf4 => VS.id ?_)
    refine s_plain (.bool true) rfl rfl rfl bd15 rfl (eq_int_self [600, 60, 24, 12, 20, 16, 40, 1000000, 1000000000, 30, 30, 8, 60, 4, 200, 100, 16, 60] rfl (frow_sub hs4 hf3) hf4 (by decide)) ?_
    repeat (first
    | refine s_pure rfl rfl rfl ?_ | refine s_loc rfl rfl ?_ | refine s_known rfl rfl rfl ?_ | refine s_unwanted rfl rfl rfl rfl rfl ?_ | refine s_gpure rfl rfl rfl rfl rfl ?_ | refine s_gloc rfl rfl rfl rfl ?_ | refine s_store rfl ?_ | refine s_pureG rfl rfl rfl rfl ?_
    | refine s_pick rfl rfl rfl ?_ | refine s_pickK rfl rfl ?_ | refine s_pick0 rfl rfl ?_ | refine s_gpick rfl rfl rfl rfl ?_ | refine s_locG rfl rfl rfl ?_ | refine s_nil ?_ | refine s_drop ?_ | refine s_back ?_ | refine s_seqn ?_ | refine s_seqr ?_ | refine s_seqe ?_ | refine s_seq ?_
    | refine s_region ?_ | refine s_block ?_ | refine s_blockn ?_ | refine s_blockr ?_ | refine s_blocke ?_ | refine s_blocko rfl ?_ | refine s_skip ?_ | refine s_ret ?_ | refine s_exit ?_
    | (refine s_box rfl rfl rfl rfl (fun b => ?_)) | (refine s_alloc rfl rfl rfl rfl (fun b => ?_)) | refine s_condt rfl ?_ | refine s_condf rfl ?_ | (refine s_bslice rfl rfl rfl rfl rfl rfl rfl rfl (fun b => ?_)) | refine s_loopr ?_ | refine s_loope ?_ | refine s_loopPr ?_ | refine s_loopPe ?_
    | refine s_end rfl ?_ | refine s_endn rfl ?_ | refine s_inend rfl ?_ | refine s_inendn rfl ?_)
    rfl
end Go.Proofs.Ytaienbnadbadfaa
