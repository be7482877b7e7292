/-
The law of package roll's Grew and IsGrown: whatever is handed in, each answers what the reference answers.
-/
import Derived.Test.YtaienbnadbadfaaGrown
import Derived.Test.YtaienbnadbadfaaRollLaw
namespace Go.Proofs.Ytaienbnadbadfaa
set_option linter.unusedVariables false
set_option linter.unusedSimpArgs false
open Go.TR
attribute [local irreducible] vc vcOps seqK blockK loopK retK retG retI loopV Plain CallOK CallIn bodied VS vcAny dropG backK brK loopPK IntKind.wrap
set_option maxRecDepth 100000
set_option maxHeartbeats 4000000 in
theorem roll_grows (l : List (List UInt8)) (p : Option Addr) (c : Nat) (m : Int) (a b : Nat) (k n : Int) (pl : List Nat) (pp : Option Addr) (pc : Nat) {F : Hp} (hl : l.length ≤ 4611686018427387904) (hc : l.length ≤ c) (hf : Frow F p (l.map S)) (ha : a < 18446744073709551616) (hb : b < 18446744073709551616)
    (hpl : pl.length ≤ 4611686018427387904) (hpc : pl.length ≤ pc) (hx : ∀ x ∈ pl, x < 18446744073709551616) (hpf : Frow F pp (pl.map nu)) :
    Plain Try.prog F 12 [.slice p l.length c, i64 m, u64 a, u64 b, i64 k, i64 n, .slice pp pl.length pc] (.bool true) := by
  refine plain_vc (N := 110) (rv := [.tmp 14]) tbok mixed Try.func12 rfl rfl rfl rfl rfl ?_
  have hGrew := Grew_ok l m hf hl hc
  have hRef : ∀ F', F.sub F' → Plain Try.prog F' 83 [.slice p l.length c] (i64 (rollFault l)) := fun F' h => reffault_roll_ok l (frow_sub h hf) hl
  obtain ⟨E, hE⟩ : ∃ E, E = grewE l m := ⟨_, rfl⟩
  obtain ⟨L, hL⟩ : ∃ L, L = grewL l m := ⟨_, rfl⟩
  obtain ⟨B, hB⟩ : ∃ B, B = rollFault l := ⟨_, rfl⟩
  have hcase : (B = 0 ∧ E = 0) ∨ (B = 0 ∧ E = 4) ∨ (B = 2 ∧ E = 2) ∨ (B = 5 ∧ E = 5) := by
    rw [hB, hE]
    unfold grewE
    rcases rollFault_cases l with h | h | h
    · rw [h]
      by_cases h2 : grewBad l m = true
      · exact .inr (.inl ⟨rfl, by rw [if_pos rfl, if_pos h2]⟩)
      · exact .inl ⟨rfl, by rw [if_pos rfl, if_neg h2]⟩
    · rw [h]; exact .inr (.inr (.inl ⟨rfl, rfl⟩))
    · rw [h]; exact .inr (.inr (.inr ⟨rfl, rfl⟩))
  rw [← hB] at hRef
  rw [← hL, ← hE] at hGrew
  (refine run ?_; repeat intro b)
  refine s_callF rfl rfl rfl bd88 rfl hGrew ?_
  rintro _ F1 hF1 ⟨pa, ca, rfl, hga⟩
  (refine run ?_; repeat intro b)
  refine s_plain _ rfl rfl rfl bd89 rfl (isGrown_ok a k b n pl ha hx hpl hpc (frow_sub hF1 hpf)) ?_
  (refine run ?_; repeat intro b)
  refine s_plain _ rfl rfl rfl bd83 rfl (hRef F1 hF1) ?_
  rcases hcase with ⟨rfl, rfl⟩ | ⟨rfl, rfl⟩ | ⟨rfl, rfl⟩ | ⟨rfl, rfl⟩
  · obtain ⟨h1, h2, h3⟩ := grewE_zero hE.symm
    obtain ⟨h4, h5, h6⟩ := rollFault_zero h1
    have hL2 : L = grewN l m.toNat true := by rw [hL]; unfold grewL; rw [if_pos hE.symm]
    have hbad : grewBad l m = false := by unfold grewBad; simp; omega
    subst hL2
    (refine run ?_; repeat intro b)
    refine s_if false ?_ (fun h => by cases h) (fun _ => ?_)
    · refine congrArg (fun b => some (EV.v (.bool b))) ?_
      rw [← hbad, bpick_or]
      rfl
    have hri := refrollgrew_ok l m.toNat (frow_sub hF1 hf) h5 h6 (by omega) (by omega) (c := c)
    rw [Int.toNat_of_nonneg (by omega : 0 ≤ m)] at hri
    (refine run ?_; repeat intro b)
    refine s_callF rfl rfl rfl bd90 rfl hri ?_
    rintro _ F2 hF2 ⟨pb, cb, rfl, hgb⟩
    (refine run ?_; repeat intro b)
    refine s_plain _ rfl rfl rfl bd85 rfl (eq_nus _ rfl (frow_sub hF2 hga) hgb (by have := grewN_len (l := l) m.toNat true; omega)) ?_
    (refine run ?_; repeat intro b)
    refine s_if (isGBad k n) ?_ (fun h => ?_) (fun h => ?_)
    · refine congrArg (fun b => some (EV.v (.bool b))) ?_
      rw [bpick_or, bpick_or, bpick_or]
      rfl
    · have e1 : isGE k n = 4 := by unfold isGE; rw [if_pos h]
      have e2 : isGB a k b n pl = false := by unfold isGB; rw [if_pos h]
      (refine run ?_; repeat intro b)
      rw [e1, e2]
      rfl
    · have hb : 1 ≤ n ∧ n ≤ 40 ∧ 1 ≤ k ∧ k ≤ n := by
        have h' := h
        unfold isGBad at h'
        simp only [Bool.or_eq_false_iff, decide_eq_false_iff_not] at h'
        omega
      have e1 : isGE k n = 0 := by unfold isGE; rw [h]; rfl
      have e2 := isGB_eq (a := a) (b := b) (l := pl) h
      have hr := refgrown_ok a k.toNat b n.toNat pl (by omega) (by omega) (by omega) ha hx hpl hpc (frow_sub (hF1.trans hF2) hpf)
      rw [Int.toNat_of_nonneg (by omega : 0 ≤ n), Int.toNat_of_nonneg (by omega : 0 ≤ k)] at hr
      rw [e1, e2]
      (refine run ?_; repeat intro b)
      refine s_plain _ rfl rfl rfl bd91 rfl hr ?_
      (refine run ?_; repeat intro b)
      simp only [tupV, bpick_and]
      simp
  · have h1 : rollFault l = 0 := hB.symm
    have hL2 : L = [] := by rw [hL]; unfold grewL; rw [← hE]; rfl
    have hbad : grewBad l m = true := by
      unfold grewE at hE
      rw [if_pos h1] at hE
      by_cases h : grewBad l m = true
      · exact h
      · rw [if_neg h] at hE; cases hE
    subst hL2
    (refine run ?_; repeat intro b)
    refine s_if true ?_ (fun _ => ?_) (fun h => by cases h)
    · refine congrArg (fun b => some (EV.v (.bool b))) ?_
      rw [bpick_or]
      exact hbad
    (refine run ?_; repeat intro b)
    refine s_if (isGBad k n) ?_ (fun h => ?_) (fun h => ?_)
    · refine congrArg (fun b => some (EV.v (.bool b))) ?_
      rw [bpick_or, bpick_or, bpick_or]
      rfl
    · have e1 : isGE k n = 4 := by unfold isGE; rw [if_pos h]
      have e2 : isGB a k b n pl = false := by unfold isGB; rw [if_pos h]
      (refine run ?_; repeat intro b)
      rw [e1, e2]
      rfl
    · have hb : 1 ≤ n ∧ n ≤ 40 ∧ 1 ≤ k ∧ k ≤ n := by
        have h' := h
        unfold isGBad at h'
        simp only [Bool.or_eq_false_iff, decide_eq_false_iff_not] at h'
        omega
      have e1 : isGE k n = 0 := by unfold isGE; rw [h]; rfl
      have e2 := isGB_eq (a := a) (b := b) (l := pl) h
      have hr := refgrown_ok a k.toNat b n.toNat pl (by omega) (by omega) (by omega) ha hx hpl hpc (frow_sub hF1 hpf)
      rw [Int.toNat_of_nonneg (by omega : 0 ≤ n), Int.toNat_of_nonneg (by omega : 0 ≤ k)] at hr
      rw [e1, e2]
      (refine run ?_; repeat intro b)
      refine s_plain _ rfl rfl rfl bd91 rfl hr ?_
      (refine run ?_; repeat intro b)
      simp only [tupV, bpick_and]
      simp
  · have h1 : rollFault l = 2 := hB.symm
    have hL2 : L = [] := by rw [hL]; unfold grewL; rw [← hE]; rfl
    subst hL2
    (refine run ?_; repeat intro b)
    refine s_if (isGBad k n) ?_ (fun h => ?_) (fun h => ?_)
    · refine congrArg (fun b => some (EV.v (.bool b))) ?_
      rw [bpick_or, bpick_or, bpick_or]
      rfl
    · have e1 : isGE k n = 4 := by unfold isGE; rw [if_pos h]
      have e2 : isGB a k b n pl = false := by unfold isGB; rw [if_pos h]
      (refine run ?_; repeat intro b)
      rw [e1, e2]
      rfl
    · have hb : 1 ≤ n ∧ n ≤ 40 ∧ 1 ≤ k ∧ k ≤ n := by
        have h' := h
        unfold isGBad at h'
        simp only [Bool.or_eq_false_iff, decide_eq_false_iff_not] at h'
        omega
      have e1 : isGE k n = 0 := by unfold isGE; rw [h]; rfl
      have e2 := isGB_eq (a := a) (b := b) (l := pl) h
      have hr := refgrown_ok a k.toNat b n.toNat pl (by omega) (by omega) (by omega) ha hx hpl hpc (frow_sub hF1 hpf)
      rw [Int.toNat_of_nonneg (by omega : 0 ≤ n), Int.toNat_of_nonneg (by omega : 0 ≤ k)] at hr
      rw [e1, e2]
      (refine run ?_; repeat intro b)
      refine s_plain _ rfl rfl rfl bd91 rfl hr ?_
      (refine run ?_; repeat intro b)
      simp only [tupV, bpick_and]
      simp
  · have h1 : rollFault l = 5 := hB.symm
    have hL2 : L = [] := by rw [hL]; unfold grewL; rw [← hE]; rfl
    subst hL2
    (refine run ?_; repeat intro b)
    refine s_if (isGBad k n) ?_ (fun h => ?_) (fun h => ?_)
    · refine congrArg (fun b => some (EV.v (.bool b))) ?_
      rw [bpick_or, bpick_or, bpick_or]
      rfl
    · have e1 : isGE k n = 4 := by unfold isGE; rw [if_pos h]
      have e2 : isGB a k b n pl = false := by unfold isGB; rw [if_pos h]
      (refine run ?_; repeat intro b)
      rw [e1, e2]
      rfl
    · have hb : 1 ≤ n ∧ n ≤ 40 ∧ 1 ≤ k ∧ k ≤ n := by
        have h' := h
        unfold isGBad at h'
        simp only [Bool.or_eq_false_iff, decide_eq_false_iff_not] at h'
        omega
      have e1 : isGE k n = 0 := by unfold isGE; rw [h]; rfl
      have e2 := isGB_eq (a := a) (b := b) (l := pl) h
      have hr := refgrown_ok a k.toNat b n.toNat pl (by omega) (by omega) (by omega) ha hx hpl hpc (frow_sub hF1 hpf)
      rw [Int.toNat_of_nonneg (by omega : 0 ≤ n), Int.toNat_of_nonneg (by omega : 0 ≤ k)] at hr
      rw [e1, e2]
      (refine run ?_; repeat intro b)
      refine s_plain _ rfl rfl rfl bd91 rfl hr ?_
      (refine run ?_; repeat intro b)
      simp only [tupV, bpick_and]
      simp
end Go.Proofs.Ytaienbnadbadfaa
