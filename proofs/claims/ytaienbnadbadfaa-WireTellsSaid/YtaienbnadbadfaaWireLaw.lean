/-
The law of package wire: whatever is handed in, each function answers what the reference answers.
-/
import Derived.Test.YtaienbnadbadfaaWireGet
import Derived.Test.YtaienbnadbadfaaReadNum
import Derived.Test.YtaienbnadbadfaaEqs
namespace Go.Proofs.Ytaienbnadbadfaa
set_option linter.unusedVariables false
set_option linter.unusedSimpArgs false
open Go.TR
theorem bl_nil : bl ⟨#[]⟩ = [] := rfl
theorem put_good {l : List (List UInt8)} (h : partsOk l = true) : putO l = partsOut l ∧ putE l = 0 := by
  unfold partsOk at h
  unfold putO putE partsOut
  cases hp : partsF l [] with
  | none => rw [hp] at h; cases h
  | some o =>
    rw [hp] at h
    have : ¬ 60 < l.length := by simpa using h
    rw [if_neg this, if_neg this]
    exact ⟨rfl, rfl⟩
theorem put_bad {l : List (List UInt8)} (h : partsOk l = false) : putO l = [] ∧ putE l = 2 := by
  unfold partsOk at h
  unfold putO putE
  by_cases h6 : 60 < l.length
  · rw [if_pos h6, if_pos h6]; exact ⟨rfl, rfl⟩
  · rw [if_neg h6, if_neg h6]
    cases hp : partsF l [] with
    | none => exact ⟨rfl, rfl⟩
    | some o => rw [hp] at h; simp at h; omega
theorem get_good {s : List UInt8} (h0 : ¬ 600 < s.length) (h : readOk s = true) : getL s = readL s ∧ getE s = 0 := by
  unfold readOk at h
  unfold getL getE readL
  rw [if_neg h0, if_neg h0]
  cases hp : partsR s with
  | none => rw [hp] at h; cases h
  | some o =>
    rw [hp] at h
    have : o.length ≤ 60 := by simpa using h
    simp [this]
theorem get_bad {s : List UInt8} (h0 : ¬ 600 < s.length) (h : readOk s = false) : getL s = [] ∧ getE s = 3 := by
  unfold readOk at h
  unfold getL getE
  rw [if_neg h0, if_neg h0]
  cases hp : partsR s with
  | none => exact ⟨rfl, rfl⟩
  | some o =>
    rw [hp] at h
    have : ¬ o.length ≤ 60 := by simpa using h
    simp [this]
theorem readL_len {s : List UInt8} (h0 : ¬ 600 < s.length) : (readL s).length ≤ 600 := by
  have key : ∀ (n : Nat) (s : List UInt8) (l : List (List UInt8)), partsN n s = some l → l.length ≤ s.length := by
    intro n
    induction n with
    | zero =>
      intro s l h
      cases s with
      | nil => simp only [partsN, Option.some.injEq] at h; subst h; exact Nat.le_refl _
      | cons c t => cases h
    | succ n ih =>
      intro s l h
      cases s with
      | nil => simp only [partsN, Option.some.injEq] at h; subst h; exact Nat.le_refl _
      | cons c t =>
        simp only [partsN] at h
        cases hf : firstO (c :: t) with
        | none => rw [hf] at h; cases h
        | some x =>
          obtain ⟨p, r⟩ := x
          rw [hf] at h
          simp only [Option.map_eq_some_iff] at h
          obtain ⟨l', h1, rfl⟩ := h
          have h2 := ih r l' h1
          have h3 := (firstO_lt hf).1
          simp only [List.length_cons] at *
          omega
  unfold readL
  cases hp : partsR s with
  | none => simp
  | some o =>
    have := key _ _ _ hp
    simp only
    omega
attribute [local irreducible] vc vcOps seqK blockK loopK retK retG retI loopV Plain CallOK CallIn bodied VS vcAny dropG backK brK loopPK IntKind.wrap
set_option maxRecDepth 100000
set_option maxHeartbeats 2000000 in
theorem wire_tells (l : List (List UInt8)) (p : Option Addr) (c : Nat) (s : List UInt8) (n : Nat) {F : Hp} (hl : l.length ≤ 4611686018427387904) (hf : Frow F p (l.map S)) (hs : s.length ≤ 4611686018427387904) (hn : n < 18446744073709551616) :
    Plain Try.prog F 6 [.slice p l.length c, S s, u64 n] (.bool true) := by
  refine plain_vc (N := 187) (rv := [.tmp 6]) tbok mixed Try.func6 rfl rfl rfl rfl rfl ?_
  repeat (first
    | refine s_pure rfl rfl rfl ?_ | refine s_loc rfl rfl ?_ | refine s_known rfl rfl rfl ?_ | refine s_unwanted rfl rfl rfl rfl rfl ?_ | refine s_gpure rfl rfl rfl rfl rfl ?_ | refine s_gloc rfl rfl rfl rfl ?_ | refine s_store rfl ?_ | refine s_pureG rfl rfl rfl rfl ?_
    | refine s_pick rfl rfl rfl ?_ | refine s_pickK rfl rfl ?_ | refine s_pick0 rfl rfl ?_ | refine s_gpick rfl rfl rfl rfl ?_ | refine s_locG rfl rfl rfl ?_ | refine s_nil ?_ | refine s_drop ?_ | refine s_back ?_ | refine s_seqn ?_ | refine s_seqr ?_ | refine s_seqe ?_ | refine s_seq ?_
    | refine s_region ?_ | refine s_block ?_ | refine s_blockn ?_ | refine s_blockr ?_ | refine s_blocke ?_ | refine s_blocko rfl ?_ | refine s_skip ?_ | refine s_ret ?_ | refine s_exit ?_
    | (refine s_box rfl rfl rfl rfl (fun b => ?_)) | (refine s_alloc rfl rfl rfl rfl (fun b => ?_)) | refine s_condt rfl ?_ | refine s_condf rfl ?_ | (refine s_bslice rfl rfl rfl rfl rfl rfl rfl rfl (fun b => ?_)) | refine s_loopr ?_ | refine s_loope ?_ | refine s_loopPr ?_ | refine s_loopPe ?_
    | refine s_pureO rfl rfl rfl (by decide) ?_ | refine s_gpureO rfl rfl rfl rfl rfl (fun _ => by decide) ?_
    | refine s_end rfl ?_ | refine s_endn rfl ?_ | refine s_inend rfl ?_ | refine s_inendn rfl ?_)
  refine s_plain _ rfl rfl rfl bd36 rfl (put_ok l hf) ?_
  repeat (first
    | refine s_pure rfl rfl rfl ?_ | refine s_loc rfl rfl ?_ | refine s_known rfl rfl rfl ?_ | refine s_unwanted rfl rfl rfl rfl rfl ?_ | refine s_gpure rfl rfl rfl rfl rfl ?_ | refine s_gloc rfl rfl rfl rfl ?_ | refine s_store rfl ?_ | refine s_pureG rfl rfl rfl rfl ?_
    | refine s_pick rfl rfl rfl ?_ | refine s_pickK rfl rfl ?_ | refine s_pick0 rfl rfl ?_ | refine s_gpick rfl rfl rfl rfl ?_ | refine s_locG rfl rfl rfl ?_ | refine s_nil ?_ | refine s_drop ?_ | refine s_back ?_ | refine s_seqn ?_ | refine s_seqr ?_ | refine s_seqe ?_ | refine s_seq ?_
    | refine s_region ?_ | refine s_block ?_ | refine s_blockn ?_ | refine s_blockr ?_ | refine s_blocke ?_ | refine s_blocko rfl ?_ | refine s_skip ?_ | refine s_ret ?_ | refine s_exit ?_
    | (refine s_box rfl rfl rfl rfl (fun b => ?_)) | (refine s_alloc rfl rfl rfl rfl (fun b => ?_)) | refine s_condt rfl ?_ | refine s_condf rfl ?_ | (refine s_bslice rfl rfl rfl rfl rfl rfl rfl rfl (fun b => ?_)) | refine s_loopr ?_ | refine s_loope ?_ | refine s_loopPr ?_ | refine s_loopPe ?_
    | refine s_pureO rfl rfl rfl (by decide) ?_ | refine s_gpureO rfl rfl rfl rfl rfl (fun _ => by decide) ?_
    | refine s_end rfl ?_ | refine s_endn rfl ?_ | refine s_inend rfl ?_ | refine s_inendn rfl ?_)
  refine s_callF rfl rfl rfl bd37 rfl (get_ok s hs F) ?_
  rintro _ F1 hF1 ⟨pa, ca, rfl, hga⟩
  repeat (first
    | refine s_pure rfl rfl rfl ?_ | refine s_loc rfl rfl ?_ | refine s_known rfl rfl rfl ?_ | refine s_unwanted rfl rfl rfl rfl rfl ?_ | refine s_gpure rfl rfl rfl rfl rfl ?_ | refine s_gloc rfl rfl rfl rfl ?_ | refine s_store rfl ?_ | refine s_pureG rfl rfl rfl rfl ?_
    | refine s_pick rfl rfl rfl ?_ | refine s_pickK rfl rfl ?_ | refine s_pick0 rfl rfl ?_ | refine s_gpick rfl rfl rfl rfl ?_ | refine s_locG rfl rfl rfl ?_ | refine s_nil ?_ | refine s_drop ?_ | refine s_back ?_ | refine s_seqn ?_ | refine s_seqr ?_ | refine s_seqe ?_ | refine s_seq ?_
    | refine s_region ?_ | refine s_block ?_ | refine s_blockn ?_ | refine s_blockr ?_ | refine s_blocke ?_ | refine s_blocko rfl ?_ | refine s_skip ?_ | refine s_ret ?_ | refine s_exit ?_
    | (refine s_box rfl rfl rfl rfl (fun b => ?_)) | (refine s_alloc rfl rfl rfl rfl (fun b => ?_)) | refine s_condt rfl ?_ | refine s_condf rfl ?_ | (refine s_bslice rfl rfl rfl rfl rfl rfl rfl rfl (fun b => ?_)) | refine s_loopr ?_ | refine s_loope ?_ | refine s_loopPr ?_ | refine s_loopPe ?_
    | refine s_pureO rfl rfl rfl (by decide) ?_ | refine s_gpureO rfl rfl rfl rfl rfl (fun _ => by decide) ?_
    | refine s_end rfl ?_ | refine s_endn rfl ?_ | refine s_inend rfl ?_ | refine s_inendn rfl ?_)
  refine s_plain _ rfl rfl rfl bd38 rfl (wireFirst_ok s hs F1) ?_
  repeat (first
    | refine s_pure rfl rfl rfl ?_ | refine s_loc rfl rfl ?_ | refine s_known rfl rfl rfl ?_ | refine s_unwanted rfl rfl rfl rfl rfl ?_ | refine s_gpure rfl rfl rfl rfl rfl ?_ | refine s_gloc rfl rfl rfl rfl ?_ | refine s_store rfl ?_ | refine s_pureG rfl rfl rfl rfl ?_
    | refine s_pick rfl rfl rfl ?_ | refine s_pickK rfl rfl ?_ | refine s_pick0 rfl rfl ?_ | refine s_gpick rfl rfl rfl rfl ?_ | refine s_locG rfl rfl rfl ?_ | refine s_nil ?_ | refine s_drop ?_ | refine s_back ?_ | refine s_seqn ?_ | refine s_seqr ?_ | refine s_seqe ?_ | refine s_seq ?_
    | refine s_region ?_ | refine s_block ?_ | refine s_blockn ?_ | refine s_blockr ?_ | refine s_blocke ?_ | refine s_blocko rfl ?_ | refine s_skip ?_ | refine s_ret ?_ | refine s_exit ?_
    | (refine s_box rfl rfl rfl rfl (fun b => ?_)) | (refine s_alloc rfl rfl rfl rfl (fun b => ?_)) | refine s_condt rfl ?_ | refine s_condf rfl ?_ | (refine s_bslice rfl rfl rfl rfl rfl rfl rfl rfl (fun b => ?_)) | refine s_loopr ?_ | refine s_loope ?_ | refine s_loopPr ?_ | refine s_loopPe ?_
    | refine s_pureO rfl rfl rfl (by decide) ?_ | refine s_gpureO rfl rfl rfl rfl rfl (fun _ => by decide) ?_
    | refine s_end rfl ?_ | refine s_endn rfl ?_ | refine s_inend rfl ?_ | refine s_inendn rfl ?_)
  refine s_plain _ rfl rfl rfl bd39 rfl (readnum_ok s F1) ?_
  repeat (first
    | refine s_pure rfl rfl rfl ?_ | refine s_loc rfl rfl ?_ | refine s_known rfl rfl rfl ?_ | refine s_unwanted rfl rfl rfl rfl rfl ?_ | refine s_gpure rfl rfl rfl rfl rfl ?_ | refine s_gloc rfl rfl rfl rfl ?_ | refine s_store rfl ?_ | refine s_pureG rfl rfl rfl rfl ?_
    | refine s_pick rfl rfl rfl ?_ | refine s_pickK rfl rfl ?_ | refine s_pick0 rfl rfl ?_ | refine s_gpick rfl rfl rfl rfl ?_ | refine s_locG rfl rfl rfl ?_ | refine s_nil ?_ | refine s_drop ?_ | refine s_back ?_ | refine s_seqn ?_ | refine s_seqr ?_ | refine s_seqe ?_ | refine s_seq ?_
    | refine s_region ?_ | refine s_block ?_ | refine s_blockn ?_ | refine s_blockr ?_ | refine s_blocke ?_ | refine s_blocko rfl ?_ | refine s_skip ?_ | refine s_ret ?_ | refine s_exit ?_
    | (refine s_box rfl rfl rfl rfl (fun b => ?_)) | (refine s_alloc rfl rfl rfl rfl (fun b => ?_)) | refine s_condt rfl ?_ | refine s_condf rfl ?_ | (refine s_bslice rfl rfl rfl rfl rfl rfl rfl rfl (fun b => ?_)) | refine s_loopr ?_ | refine s_loope ?_ | refine s_loopPr ?_ | refine s_loopPe ?_
    | refine s_pureO rfl rfl rfl (by decide) ?_ | refine s_gpureO rfl rfl rfl rfl rfl (fun _ => by decide) ?_
    | refine s_end rfl ?_ | refine s_endn rfl ?_ | refine s_inend rfl ?_ | refine s_inendn rfl ?_)
  refine s_plain _ rfl rfl rfl bd40 rfl (parts_ok l hl (frow_sub hF1 hf)) ?_
  repeat (first
    | refine s_pure rfl rfl rfl ?_ | refine s_loc rfl rfl ?_ | refine s_known rfl rfl rfl ?_ | refine s_unwanted rfl rfl rfl rfl rfl ?_ | refine s_gpure rfl rfl rfl rfl rfl ?_ | refine s_gloc rfl rfl rfl rfl ?_ | refine s_store rfl ?_ | refine s_pureG rfl rfl rfl rfl ?_
    | refine s_pick rfl rfl rfl ?_ | refine s_pickK rfl rfl ?_ | refine s_pick0 rfl rfl ?_ | refine s_gpick rfl rfl rfl rfl ?_ | refine s_locG rfl rfl rfl ?_ | refine s_nil ?_ | refine s_drop ?_ | refine s_back ?_ | refine s_seqn ?_ | refine s_seqr ?_ | refine s_seqe ?_ | refine s_seq ?_
    | refine s_region ?_ | refine s_block ?_ | refine s_blockn ?_ | refine s_blockr ?_ | refine s_blocke ?_ | refine s_blocko rfl ?_ | refine s_skip ?_ | refine s_ret ?_ | refine s_exit ?_
    | (refine s_box rfl rfl rfl rfl (fun b => ?_)) | (refine s_alloc rfl rfl rfl rfl (fun b => ?_)) | refine s_condt rfl ?_ | refine s_condf rfl ?_ | (refine s_bslice rfl rfl rfl rfl rfl rfl rfl rfl (fun b => ?_)) | refine s_loopr ?_ | refine s_loope ?_ | refine s_loopPr ?_ | refine s_loopPe ?_
    | refine s_pureO rfl rfl rfl (by decide) ?_ | refine s_gpureO rfl rfl rfl rfl rfl (fun _ => by decide) ?_
    | refine s_end rfl ?_ | refine s_endn rfl ?_ | refine s_inend rfl ?_ | refine s_inendn rfl ?_)
  refine s_if false ?_ (fun h => by cases h) (fun _ => ?_)
  · refine congrArg (fun b => some (EV.v (.bool b))) ?_
    cases hok : partsOk l with
    | true =>
      obtain ⟨e1, e2⟩ := put_good hok
      simp [bpick, e1, e2]
    | false =>
      obtain ⟨e1, e2⟩ := put_bad hok
      simp [bpick, e1, e2, bl_nil]
  repeat (first
    | refine s_pure rfl rfl rfl ?_ | refine s_loc rfl rfl ?_ | refine s_known rfl rfl rfl ?_ | refine s_unwanted rfl rfl rfl rfl rfl ?_ | refine s_gpure rfl rfl rfl rfl rfl ?_ | refine s_gloc rfl rfl rfl rfl ?_ | refine s_store rfl ?_ | refine s_pureG rfl rfl rfl rfl ?_
    | refine s_pick rfl rfl rfl ?_ | refine s_pickK rfl rfl ?_ | refine s_pick0 rfl rfl ?_ | refine s_gpick rfl rfl rfl rfl ?_ | refine s_locG rfl rfl rfl ?_ | refine s_nil ?_ | refine s_drop ?_ | refine s_back ?_ | refine s_seqn ?_ | refine s_seqr ?_ | refine s_seqe ?_ | refine s_seq ?_
    | refine s_region ?_ | refine s_block ?_ | refine s_blockn ?_ | refine s_blockr ?_ | refine s_blocke ?_ | refine s_blocko rfl ?_ | refine s_skip ?_ | refine s_ret ?_ | refine s_exit ?_
    | (refine s_box rfl rfl rfl rfl (fun b => ?_)) | (refine s_alloc rfl rfl rfl rfl (fun b => ?_)) | refine s_condt rfl ?_ | refine s_condf rfl ?_ | (refine s_bslice rfl rfl rfl rfl rfl rfl rfl rfl (fun b => ?_)) | refine s_loopr ?_ | refine s_loope ?_ | refine s_loopPr ?_ | refine s_loopPe ?_
    | refine s_pureO rfl rfl rfl (by decide) ?_ | refine s_gpureO rfl rfl rfl rfl rfl (fun _ => by decide) ?_
    | refine s_end rfl ?_ | refine s_endn rfl ?_ | refine s_inend rfl ?_ | refine s_inendn rfl ?_)
  refine s_plain _ rfl rfl rfl bd41 rfl (numread_ok s F1) ?_
  repeat (first
    | refine s_pure rfl rfl rfl ?_ | refine s_loc rfl rfl ?_ | refine s_known rfl rfl rfl ?_ | refine s_unwanted rfl rfl rfl rfl rfl ?_ | refine s_gpure rfl rfl rfl rfl rfl ?_ | refine s_gloc rfl rfl rfl rfl ?_ | refine s_store rfl ?_ | refine s_pureG rfl rfl rfl rfl ?_
    | refine s_pick rfl rfl rfl ?_ | refine s_pickK rfl rfl ?_ | refine s_pick0 rfl rfl ?_ | refine s_gpick rfl rfl rfl rfl ?_ | refine s_locG rfl rfl rfl ?_ | refine s_nil ?_ | refine s_drop ?_ | refine s_back ?_ | refine s_seqn ?_ | refine s_seqr ?_ | refine s_seqe ?_ | refine s_seq ?_
    | refine s_region ?_ | refine s_block ?_ | refine s_blockn ?_ | refine s_blockr ?_ | refine s_blocke ?_ | refine s_blocko rfl ?_ | refine s_skip ?_ | refine s_ret ?_ | refine s_exit ?_
    | (refine s_box rfl rfl rfl rfl (fun b => ?_)) | (refine s_alloc rfl rfl rfl rfl (fun b => ?_)) | refine s_condt rfl ?_ | refine s_condf rfl ?_ | (refine s_bslice rfl rfl rfl rfl rfl rfl rfl rfl (fun b => ?_)) | refine s_loopr ?_ | refine s_loope ?_ | refine s_loopPr ?_ | refine s_loopPe ?_
    | refine s_pureO rfl rfl rfl (by decide) ?_ | refine s_gpureO rfl rfl rfl rfl rfl (fun _ => by decide) ?_
    | refine s_end rfl ?_ | refine s_endn rfl ?_ | refine s_inend rfl ?_ | refine s_inendn rfl ?_)
  refine s_gplain (S (num n)) rfl rfl rfl rfl bd42 rfl rfl (fun _ => wirenum_ok n F1) ?_
  repeat (first
    | refine s_pure rfl rfl rfl ?_ | refine s_loc rfl rfl ?_ | refine s_known rfl rfl rfl ?_ | refine s_unwanted rfl rfl rfl rfl rfl ?_ | refine s_gpure rfl rfl rfl rfl rfl ?_ | refine s_gloc rfl rfl rfl rfl ?_ | refine s_store rfl ?_ | refine s_pureG rfl rfl rfl rfl ?_
    | refine s_pick rfl rfl rfl ?_ | refine s_pickK rfl rfl ?_ | refine s_pick0 rfl rfl ?_ | refine s_gpick rfl rfl rfl rfl ?_ | refine s_locG rfl rfl rfl ?_ | refine s_nil ?_ | refine s_drop ?_ | refine s_back ?_ | refine s_seqn ?_ | refine s_seqr ?_ | refine s_seqe ?_ | refine s_seq ?_
    | refine s_region ?_ | refine s_block ?_ | refine s_blockn ?_ | refine s_blockr ?_ | refine s_blocke ?_ | refine s_blocko rfl ?_ | refine s_skip ?_ | refine s_ret ?_ | refine s_exit ?_
    | (refine s_box rfl rfl rfl rfl (fun b => ?_)) | (refine s_alloc rfl rfl rfl rfl (fun b => ?_)) | refine s_condt rfl ?_ | refine s_condf rfl ?_ | (refine s_bslice rfl rfl rfl rfl rfl rfl rfl rfl (fun b => ?_)) | refine s_loopr ?_ | refine s_loope ?_ | refine s_loopPr ?_ | refine s_loopPe ?_
    | refine s_pureO rfl rfl rfl (by decide) ?_ | refine s_gpureO rfl rfl rfl rfl rfl (fun _ => by decide) ?_
    | refine s_end rfl ?_ | refine s_endn rfl ?_ | refine s_inend rfl ?_ | refine s_inendn rfl ?_)
  refine s_gplain (S (num n)) rfl rfl rfl rfl bd43 rfl rfl (fun _ => refnum_ok n hn F1) ?_
  repeat (first
    | refine s_pure rfl rfl rfl ?_ | refine s_loc rfl rfl ?_ | refine s_known rfl rfl rfl ?_ | refine s_unwanted rfl rfl rfl rfl rfl ?_ | refine s_gpure rfl rfl rfl rfl rfl ?_ | refine s_gloc rfl rfl rfl rfl ?_ | refine s_store rfl ?_ | refine s_pureG rfl rfl rfl rfl ?_
    | refine s_pick rfl rfl rfl ?_ | refine s_pickK rfl rfl ?_ | refine s_pick0 rfl rfl ?_ | refine s_gpick rfl rfl rfl rfl ?_ | refine s_locG rfl rfl rfl ?_ | refine s_nil ?_ | refine s_drop ?_ | refine s_back ?_ | refine s_seqn ?_ | refine s_seqr ?_ | refine s_seqe ?_ | refine s_seq ?_
    | refine s_region ?_ | refine s_block ?_ | refine s_blockn ?_ | refine s_blockr ?_ | refine s_blocke ?_ | refine s_blocko rfl ?_ | refine s_skip ?_ | refine s_ret ?_ | refine s_exit ?_
    | (refine s_box rfl rfl rfl rfl (fun b => ?_)) | (refine s_alloc rfl rfl rfl rfl (fun b => ?_)) | refine s_condt rfl ?_ | refine s_condf rfl ?_ | (refine s_bslice rfl rfl rfl rfl rfl rfl rfl rfl (fun b => ?_)) | refine s_loopr ?_ | refine s_loope ?_ | refine s_loopPr ?_ | refine s_loopPe ?_
    | refine s_pureO rfl rfl rfl (by decide) ?_ | refine s_gpureO rfl rfl rfl rfl rfl (fun _ => by decide) ?_
    | refine s_end rfl ?_ | refine s_endn rfl ?_ | refine s_inend rfl ?_ | refine s_inendn rfl ?_)
  refine s_if false ?_ (fun h => by cases h) (fun _ => ?_)
  · refine congrArg (fun b => some (EV.v (.bool b))) ?_
    by_cases h8 : s.length = 8
    · simp [bpick, h8]
    · simp [bpick, h8, readN]
  repeat (first
    | refine s_pure rfl rfl rfl ?_ | refine s_loc rfl rfl ?_ | refine s_known rfl rfl rfl ?_ | refine s_unwanted rfl rfl rfl rfl rfl ?_ | refine s_gpure rfl rfl rfl rfl rfl ?_ | refine s_gloc rfl rfl rfl rfl ?_ | refine s_store rfl ?_ | refine s_pureG rfl rfl rfl rfl ?_
    | refine s_pick rfl rfl rfl ?_ | refine s_pickK rfl rfl ?_ | refine s_pick0 rfl rfl ?_ | refine s_gpick rfl rfl rfl rfl ?_ | refine s_locG rfl rfl rfl ?_ | refine s_nil ?_ | refine s_drop ?_ | refine s_back ?_ | refine s_seqn ?_ | refine s_seqr ?_ | refine s_seqe ?_ | refine s_seq ?_
    | refine s_region ?_ | refine s_block ?_ | refine s_blockn ?_ | refine s_blockr ?_ | refine s_blocke ?_ | refine s_blocko rfl ?_ | refine s_skip ?_ | refine s_ret ?_ | refine s_exit ?_
    | (refine s_box rfl rfl rfl rfl (fun b => ?_)) | (refine s_alloc rfl rfl rfl rfl (fun b => ?_)) | refine s_condt rfl ?_ | refine s_condf rfl ?_ | (refine s_bslice rfl rfl rfl rfl rfl rfl rfl rfl (fun b => ?_)) | refine s_loopr ?_ | refine s_loope ?_ | refine s_loopPr ?_ | refine s_loopPe ?_
    | refine s_pureO rfl rfl rfl (by decide) ?_ | refine s_gpureO rfl rfl rfl rfl rfl (fun _ => by decide) ?_
    | refine s_end rfl ?_ | refine s_endn rfl ?_ | refine s_inend rfl ?_ | refine s_inendn rfl ?_)
  refine s_if (decide (600 < s.length)) ?_ (fun h => ?_) (fun h => ?_)
  · refine congrArg (fun b => some (EV.v (.bool b))) ?_
    rw [decide_eq_decide, bl_S]; omega
  · have h2 : 600 < s.length := by simpa using h
    repeat (first
    | refine s_pure rfl rfl rfl ?_ | refine s_loc rfl rfl ?_ | refine s_known rfl rfl rfl ?_ | refine s_unwanted rfl rfl rfl rfl rfl ?_ | refine s_gpure rfl rfl rfl rfl rfl ?_ | refine s_gloc rfl rfl rfl rfl ?_ | refine s_store rfl ?_ | refine s_pureG rfl rfl rfl rfl ?_
    | refine s_pick rfl rfl rfl ?_ | refine s_pickK rfl rfl ?_ | refine s_pick0 rfl rfl ?_ | refine s_gpick rfl rfl rfl rfl ?_ | refine s_locG rfl rfl rfl ?_ | refine s_nil ?_ | refine s_drop ?_ | refine s_back ?_ | refine s_seqn ?_ | refine s_seqr ?_ | refine s_seqe ?_ | refine s_seq ?_
    | refine s_region ?_ | refine s_block ?_ | refine s_blockn ?_ | refine s_blockr ?_ | refine s_blocke ?_ | refine s_blocko rfl ?_ | refine s_skip ?_ | refine s_ret ?_ | refine s_exit ?_
    | (refine s_box rfl rfl rfl rfl (fun b => ?_)) | (refine s_alloc rfl rfl rfl rfl (fun b => ?_)) | refine s_condt rfl ?_ | refine s_condf rfl ?_ | (refine s_bslice rfl rfl rfl rfl rfl rfl rfl rfl (fun b => ?_)) | refine s_loopr ?_ | refine s_loope ?_ | refine s_loopPr ?_ | refine s_loopPe ?_
    | refine s_pureO rfl rfl rfl (by decide) ?_ | refine s_gpureO rfl rfl rfl rfl rfl (fun _ => by decide) ?_
    | refine s_end rfl ?_ | refine s_endn rfl ?_ | refine s_inend rfl ?_ | refine s_inendn rfl ?_)
    simp [tupV, bpick, getL, getE, firstP, firstR, firstE, h2, bl_nil]
  · have h2 : ¬ 600 < s.length := by simpa using h
    repeat (first
    | refine s_pure rfl rfl rfl ?_ | refine s_loc rfl rfl ?_ | refine s_known rfl rfl rfl ?_ | refine s_unwanted rfl rfl rfl rfl rfl ?_ | refine s_gpure rfl rfl rfl rfl rfl ?_ | refine s_gloc rfl rfl rfl rfl ?_ | refine s_store rfl ?_ | refine s_pureG rfl rfl rfl rfl ?_
    | refine s_pick rfl rfl rfl ?_ | refine s_pickK rfl rfl ?_ | refine s_pick0 rfl rfl ?_ | refine s_gpick rfl rfl rfl rfl ?_ | refine s_locG rfl rfl rfl ?_ | refine s_nil ?_ | refine s_drop ?_ | refine s_back ?_ | refine s_seqn ?_ | refine s_seqr ?_ | refine s_seqe ?_ | refine s_seq ?_
    | refine s_region ?_ | refine s_block ?_ | refine s_blockn ?_ | refine s_blockr ?_ | refine s_blocke ?_ | refine s_blocko rfl ?_ | refine s_skip ?_ | refine s_ret ?_ | refine s_exit ?_
    | (refine s_box rfl rfl rfl rfl (fun b => ?_)) | (refine s_alloc rfl rfl rfl rfl (fun b => ?_)) | refine s_condt rfl ?_ | refine s_condf rfl ?_ | (refine s_bslice rfl rfl rfl rfl rfl rfl rfl rfl (fun b => ?_)) | refine s_loopr ?_ | refine s_loope ?_ | refine s_loopPr ?_ | refine s_loopPe ?_
    | refine s_pureO rfl rfl rfl (by decide) ?_ | refine s_gpureO rfl rfl rfl rfl rfl (fun _ => by decide) ?_
    | refine s_end rfl ?_ | refine s_endn rfl ?_ | refine s_inend rfl ?_ | refine s_inendn rfl ?_)
    refine s_callF rfl rfl rfl bd44 rfl (partsread_ok s (by omega) F1) ?_
    rintro _ F2 hF2 ⟨pb, cb, rfl, hgb⟩
    repeat (first
    | refine s_pure rfl rfl rfl ?_ | refine s_loc rfl rfl ?_ | refine s_known rfl rfl rfl ?_ | refine s_unwanted rfl rfl rfl rfl rfl ?_ | refine s_gpure rfl rfl rfl rfl rfl ?_ | refine s_gloc rfl rfl rfl rfl ?_ | refine s_store rfl ?_ | refine s_pureG rfl rfl rfl rfl ?_
    | refine s_pick rfl rfl rfl ?_ | refine s_pickK rfl rfl ?_ | refine s_pick0 rfl rfl ?_ | refine s_gpick rfl rfl rfl rfl ?_ | refine s_locG rfl rfl rfl ?_ | refine s_nil ?_ | refine s_drop ?_ | refine s_back ?_ | refine s_seqn ?_ | refine s_seqr ?_ | refine s_seqe ?_ | refine s_seq ?_
    | refine s_region ?_ | refine s_block ?_ | refine s_blockn ?_ | refine s_blockr ?_ | refine s_blocke ?_ | refine s_blocko rfl ?_ | refine s_skip ?_ | refine s_ret ?_ | refine s_exit ?_
    | (refine s_box rfl rfl rfl rfl (fun b => ?_)) | (refine s_alloc rfl rfl rfl rfl (fun b => ?_)) | refine s_condt rfl ?_ | refine s_condf rfl ?_ | (refine s_bslice rfl rfl rfl rfl rfl rfl rfl rfl (fun b => ?_)) | refine s_loopr ?_ | refine s_loope ?_ | refine s_loopPr ?_ | refine s_loopPe ?_
    | refine s_pureO rfl rfl rfl (by decide) ?_ | refine s_gpureO rfl rfl rfl rfl rfl (fun _ => by decide) ?_
    | refine s_end rfl ?_ | refine s_endn rfl ?_ | refine s_inend rfl ?_ | refine s_inendn rfl ?_)
    refine s_gplain (.bool (decide (getL s = readL s))) rfl rfl rfl rfl bd45 rfl rfl (fun _ => eq_str _ _ (frow_sub hF2 hga) hgb ?_) ?_
    · have := readL_len h2
      cases hok : readOk s with
      | true => rw [(get_good h2 hok).1]; omega
      | false => rw [(get_bad h2 hok).1]; simp
    repeat (first
    | refine s_pure rfl rfl rfl ?_ | refine s_loc rfl rfl ?_ | refine s_known rfl rfl rfl ?_ | refine s_unwanted rfl rfl rfl rfl rfl ?_ | refine s_gpure rfl rfl rfl rfl rfl ?_ | refine s_gloc rfl rfl rfl rfl ?_ | refine s_store rfl ?_ | refine s_pureG rfl rfl rfl rfl ?_
    | refine s_pick rfl rfl rfl ?_ | refine s_pickK rfl rfl ?_ | refine s_pick0 rfl rfl ?_ | refine s_gpick rfl rfl rfl rfl ?_ | refine s_locG rfl rfl rfl ?_ | refine s_nil ?_ | refine s_drop ?_ | refine s_back ?_ | refine s_seqn ?_ | refine s_seqr ?_ | refine s_seqe ?_ | refine s_seq ?_
    | refine s_region ?_ | refine s_block ?_ | refine s_blockn ?_ | refine s_blockr ?_ | refine s_blocke ?_ | refine s_blocko rfl ?_ | refine s_skip ?_ | refine s_ret ?_ | refine s_exit ?_
    | (refine s_box rfl rfl rfl rfl (fun b => ?_)) | (refine s_alloc rfl rfl rfl rfl (fun b => ?_)) | refine s_condt rfl ?_ | refine s_condf rfl ?_ | (refine s_bslice rfl rfl rfl rfl rfl rfl rfl rfl (fun b => ?_)) | refine s_loopr ?_ | refine s_loope ?_ | refine s_loopPr ?_ | refine s_loopPe ?_
    | refine s_pureO rfl rfl rfl (by decide) ?_ | refine s_gpureO rfl rfl rfl rfl rfl (fun _ => by decide) ?_
    | refine s_end rfl ?_ | refine s_endn rfl ?_ | refine s_inend rfl ?_ | refine s_inendn rfl ?_)
    refine s_if false ?_ (fun h => by cases h) (fun _ => ?_)
    · refine congrArg (fun b => some (EV.v (.bool b))) ?_
      cases hok : readOk s with
      | true =>
        obtain ⟨e1, e2⟩ := get_good h2 hok
        simp [bpick, e1, e2]
      | false =>
        obtain ⟨e1, e2⟩ := get_bad h2 hok
        simp [bpick, e1, e2]
    repeat (first
    | refine s_pure rfl rfl rfl ?_ | refine s_loc rfl rfl ?_ | refine s_known rfl rfl rfl ?_ | refine s_unwanted rfl rfl rfl rfl rfl ?_ | refine s_gpure rfl rfl rfl rfl rfl ?_ | refine s_gloc rfl rfl rfl rfl ?_ | refine s_store rfl ?_ | refine s_pureG rfl rfl rfl rfl ?_
    | refine s_pick rfl rfl rfl ?_ | refine s_pickK rfl rfl ?_ | refine s_pick0 rfl rfl ?_ | refine s_gpick rfl rfl rfl rfl ?_ | refine s_locG rfl rfl rfl ?_ | refine s_nil ?_ | refine s_drop ?_ | refine s_back ?_ | refine s_seqn ?_ | refine s_seqr ?_ | refine s_seqe ?_ | refine s_seq ?_
    | refine s_region ?_ | refine s_block ?_ | refine s_blockn ?_ | refine s_blockr ?_ | refine s_blocke ?_ | refine s_blocko rfl ?_ | refine s_skip ?_ | refine s_ret ?_ | refine s_exit ?_
    | (refine s_box rfl rfl rfl rfl (fun b => ?_)) | (refine s_alloc rfl rfl rfl rfl (fun b => ?_)) | refine s_condt rfl ?_ | refine s_condf rfl ?_ | (refine s_bslice rfl rfl rfl rfl rfl rfl rfl rfl (fun b => ?_)) | refine s_loopr ?_ | refine s_loope ?_ | refine s_loopPr ?_ | refine s_loopPe ?_
    | refine s_pureO rfl rfl rfl (by decide) ?_ | refine s_gpureO rfl rfl rfl rfl rfl (fun _ => by decide) ?_
    | refine s_end rfl ?_ | refine s_endn rfl ?_ | refine s_inend rfl ?_ | refine s_inendn rfl ?_)
    have hp := partfirst_ok s hs F2
    cases hfo : firstO s with
    | none =>
      have e0 : firstV s = .tuple #[S [], S [], .bool false] := by unfold firstV; rw [hfo]
      have e1 : firstP s = [] := by unfold firstP; rw [if_neg h2, hfo]
      have e2 : firstR s = [] := by unfold firstR; rw [if_neg h2, hfo]
      have e3 : firstE s = 3 := by unfold firstE; rw [if_neg h2, hfo]
      rw [e0] at hp
      refine s_plain _ rfl rfl rfl bd46 rfl hp ?_
      repeat (first
    | refine s_pure rfl rfl rfl ?_ | refine s_loc rfl rfl ?_ | refine s_known rfl rfl rfl ?_ | refine s_unwanted rfl rfl rfl rfl rfl ?_ | refine s_gpure rfl rfl rfl rfl rfl ?_ | refine s_gloc rfl rfl rfl rfl ?_ | refine s_store rfl ?_ | refine s_pureG rfl rfl rfl rfl ?_
    | refine s_pick rfl rfl rfl ?_ | refine s_pickK rfl rfl ?_ | refine s_pick0 rfl rfl ?_ | refine s_gpick rfl rfl rfl rfl ?_ | refine s_locG rfl rfl rfl ?_ | refine s_nil ?_ | refine s_drop ?_ | refine s_back ?_ | refine s_seqn ?_ | refine s_seqr ?_ | refine s_seqe ?_ | refine s_seq ?_
    | refine s_region ?_ | refine s_block ?_ | refine s_blockn ?_ | refine s_blockr ?_ | refine s_blocke ?_ | refine s_blocko rfl ?_ | refine s_skip ?_ | refine s_ret ?_ | refine s_exit ?_
    | (refine s_box rfl rfl rfl rfl (fun b => ?_)) | (refine s_alloc rfl rfl rfl rfl (fun b => ?_)) | refine s_condt rfl ?_ | refine s_condf rfl ?_ | (refine s_bslice rfl rfl rfl rfl rfl rfl rfl rfl (fun b => ?_)) | refine s_loopr ?_ | refine s_loope ?_ | refine s_loopPr ?_ | refine s_loopPe ?_
    | refine s_pureO rfl rfl rfl (by decide) ?_ | refine s_gpureO rfl rfl rfl rfl rfl (fun _ => by decide) ?_
    | refine s_end rfl ?_ | refine s_endn rfl ?_ | refine s_inend rfl ?_ | refine s_inendn rfl ?_)
      simp [tupV, bpick, e1, e2, e3]
    | some x =>
      obtain ⟨x, y⟩ := x
      have e0 : firstV s = .tuple #[S x, S y, .bool true] := by unfold firstV; rw [hfo]
      have e1 : firstP s = x := by unfold firstP; rw [if_neg h2, hfo]
      have e2 : firstR s = y := by unfold firstR; rw [if_neg h2, hfo]
      have e3 : firstE s = 0 := by unfold firstE; rw [if_neg h2, hfo]
      rw [e0] at hp
      refine s_plain _ rfl rfl rfl bd46 rfl hp ?_
      repeat (first
    | refine s_pure rfl rfl rfl ?_ | refine s_loc rfl rfl ?_ | refine s_known rfl rfl rfl ?_ | refine s_unwanted rfl rfl rfl rfl rfl ?_ | refine s_gpure rfl rfl rfl rfl rfl ?_ | refine s_gloc rfl rfl rfl rfl ?_ | refine s_store rfl ?_ | refine s_pureG rfl rfl rfl rfl ?_
    | refine s_pick rfl rfl rfl ?_ | refine s_pickK rfl rfl ?_ | refine s_pick0 rfl rfl ?_ | refine s_gpick rfl rfl rfl rfl ?_ | refine s_locG rfl rfl rfl ?_ | refine s_nil ?_ | refine s_drop ?_ | refine s_back ?_ | refine s_seqn ?_ | refine s_seqr ?_ | refine s_seqe ?_ | refine s_seq ?_
    | refine s_region ?_ | refine s_block ?_ | refine s_blockn ?_ | refine s_blockr ?_ | refine s_blocke ?_ | refine s_blocko rfl ?_ | refine s_skip ?_ | refine s_ret ?_ | refine s_exit ?_
    | (refine s_box rfl rfl rfl rfl (fun b => ?_)) | (refine s_alloc rfl rfl rfl rfl (fun b => ?_)) | refine s_condt rfl ?_ | refine s_condf rfl ?_ | (refine s_bslice rfl rfl rfl rfl rfl rfl rfl rfl (fun b => ?_)) | refine s_loopr ?_ | refine s_loope ?_ | refine s_loopPr ?_ | refine s_loopPe ?_
    | refine s_pureO rfl rfl rfl (by decide) ?_ | refine s_gpureO rfl rfl rfl rfl rfl (fun _ => by decide) ?_
    | refine s_end rfl ?_ | refine s_endn rfl ?_ | refine s_inend rfl ?_ | refine s_inendn rfl ?_)
      simp [tupV, bpick, e1, e2, e3]
end Go.Proofs.Ytaienbnadbadfaa
