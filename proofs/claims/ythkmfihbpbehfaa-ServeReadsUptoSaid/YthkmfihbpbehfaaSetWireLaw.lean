/-
Package serve: Tell; tallyrollref.ReplyFault.
-/
import Derived.Test.YthkmfihbpbehfaaSetReadNum
import Derived.Test.YthkmfihbpbehfaaTreeLaw
import Derived.Test.YthkmfihbpbehfaaHead
import Derived.Test.YthkmfihbpbehfaaSetIdxFunc
import Derived.Test.YthkmfihbpbehfaaWireGet
/-!
Package serve: Tell; tallyrollref.ReplyFault.
-/
namespace Go.Proofs.Ythkmfihbpbehfaa
set_option linter.unusedVariables false
set_option linter.unusedSimpArgs false
open Go.TR
@[reducible] def repV (h : Head) (p : Prf) (a : Lay) : Value := .agg #[i64 h.epoch, u64 (h.root : Nat), u64 (h.prev : Nat), i64 h.at_, S p.name, .slice a.e p.ents.length a.ce, .slice a.s p.sides.length a.cs]
/-- What is wrong with a reply; what it says. -/
def replyF (h : Head) (p : Prf) : Int := if h.fault ≠ 0 then h.fault else heldE h.root p
def replyT (h : Head) (p : Prf) : List UInt8 := if replyF h p = 0 then (standsO p.ents p.name).getD [] else []
def replyB (h : Head) (p : Prf) : Bool := decide (replyF h p = 0) && (standsO p.ents p.name).isSome
theorem replyF_zero {h : Head} {p : Prf} (e : replyF h p = 0) : h.fault = 0 ∧ heldE h.root p = 0 := by
  unfold replyF at e
  by_cases h0 : h.fault = 0
  · rw [if_neg (by simpa using h0)] at e; exact ⟨h0, e⟩
  · rw [if_pos h0] at e; exact absurd e h0
theorem heldE_cases (r : Nat) (p : Prf) : heldE r p = 0 ∨ heldE r p = 2 ∨ heldE r p = 3 ∨ heldE r p = 8 := by
  unfold heldE
  split
  · rcases prfFault_cases p with h | h | h <;> simp [h]
  · split <;> simp
theorem tellV_stands {r : Nat} {p : Prf} (h : heldE r p = 0) : tellV r p = (standsO p.ents p.name).getD [] ∧ tellB r p = (standsO p.ents p.name).isSome := by
  obtain ⟨g1, g2⟩ := held_zero h
  obtain ⟨e1, e2⟩ := get_stands (prf_find g1)
  unfold tellV tellB
  rw [if_pos h, decide_eq_true h, e1, e2]
  exact ⟨rfl, rfl⟩
theorem tellV_bad {r : Nat} {p : Prf} (h : heldE r p ≠ 0) : tellV r p = [] ∧ tellB r p = false := by
  unfold tellV tellB
  rw [if_neg h, decide_eq_false h]
  exact ⟨rfl, rfl⟩
theorem reply_tell {h : Head} {p : Prf} (h0 : h.fault = 0) : replyT h p = tellV h.root p ∧ replyB h p = tellB h.root p ∧ replyF h p = heldE h.root p := by
  have e : replyF h p = heldE h.root p := by unfold replyF; rw [if_neg (by simpa using h0)]
  unfold replyT replyB
  rw [e]
  by_cases h1 : heldE h.root p = 0
  · obtain ⟨g1, g2⟩ := tellV_stands h1
    rw [if_pos h1, decide_eq_true h1, g1, g2]
    exact ⟨rfl, rfl, rfl⟩
  · obtain ⟨g1, g2⟩ := tellV_bad h1
    rw [if_neg h1, decide_eq_false h1, g1, g2]
    exact ⟨rfl, rfl, rfl⟩
attribute [local irreducible] vc vcOps seqK blockK loopK retK retG retI loopV Plain CallOK CallIn bodied VS vcAny dropG backK brK loopPK IntKind.wrap
attribute [local irreducible] replyF replyT replyB heldE tellV tellB prfFault prfRoot
set_option maxRecDepth 100000
set_option maxHeartbeats 1000000
theorem servetell_ok (h : Head) (p : Prf) (a : Lay) (hw : p.wf) {F : Hp} (hf : p.at F a) : Plain Try.prog F 123 [repV h p a] (triple (S (replyT h p)) (.bool (replyB h p)) (i64 (replyF h p))) := by
  refine plain_vc (N := 21) (rv := [.tmp 2, .tmp 3, .tmp 4]) tbok mixed Try.func123 rfl rfl rfl rfl rfl ?_
  (refine run ?_; repeat intro b)
  refine s_plain _ rfl rfl rfl bd91 rfl (headcheck_ok h F) ?_
  (refine run ?_; repeat intro b)
  refine s_if (decide (h.fault ≠ 0)) ?_ (fun h0 => ?_) (fun h0 => ?_)
  · refine congrArg (fun b => some (EV.v (.bool b))) ?_
    rw [Bool.eq_iff_iff]; simp
  · have h0 := of_decide_eq_true h0
    have e1 : replyF h p = h.fault := by unfold replyF; rw [if_pos h0]
    have e2 : replyT h p = [] := by unfold replyT; rw [if_neg (by rw [e1]; exact h0)]
    have e3 : replyB h p = false := by unfold replyB; rw [decide_eq_false (by rw [e1]; exact h0)]; rfl
    rw [e1, e2, e3]
    (refine run ?_; repeat intro b)
    rfl
  · have h0 : h.fault = 0 := by have := of_decide_eq_false h0; omega
    obtain ⟨e1, e2, e3⟩ := reply_tell (p := p) h0
    rw [e1, e2, e3]
    (refine run ?_; repeat intro b)
    refine s_plain _ rfl rfl rfl bd65 rfl (tell_ok h.root p a hw hf) ?_
    (refine run ?_; repeat intro b)
    rfl
theorem refreplyfault_ok (h : Head) (p : Prf) (a : Lay) (hw : p.wf) {F : Hp} (hf : p.at F a) : Plain Try.prog F 72 [repV h p a] (i64 (replyF h p)) := by
  refine plain_vc (N := 24) (rv := [.tmp 2]) tbok mixed Try.func72 rfl rfl rfl rfl rfl ?_
  (refine run ?_; repeat intro b)
  refine s_plain _ rfl rfl rfl bd32 rfl (reffault_ok h F) ?_
  (refine run ?_; repeat intro b)
  refine s_if (decide (h.fault ≠ 0)) ?_ (fun h0 => ?_) (fun h0 => ?_)
  · refine congrArg (fun b => some (EV.v (.bool b))) ?_
    rw [Bool.eq_iff_iff]; simp
  · have h0 := of_decide_eq_true h0
    have e1 : replyF h p = h.fault := by unfold replyF; rw [if_pos h0]
    rw [e1]
    (refine run ?_; repeat intro b)
    rfl
  · have h0 : h.fault = 0 := by have := of_decide_eq_false h0; omega
    obtain ⟨_, _, e3⟩ := reply_tell (p := p) h0
    rw [e3]
    (refine run ?_; repeat intro b)
    refine s_plain _ rfl rfl rfl bd51 rfl (prooffault_ok p a hw hf) ?_
    (refine run ?_; repeat intro b)
    refine s_if (decide (prfFault p ≠ 0)) ?_ (fun h1 => ?_) (fun h1 => ?_)
    · refine congrArg (fun b => some (EV.v (.bool b))) ?_
      rw [Bool.eq_iff_iff]; simp
    · have h1 := of_decide_eq_true h1
      have e1 : heldE h.root p = prfFault p := by unfold heldE; rw [if_pos h1]
      rw [e1]
      (refine run ?_; repeat intro b)
      rfl
    · have h1 : prfFault p = 0 := by have := of_decide_eq_false h1; omega
      have e1 : heldE h.root p = if prfRoot p ≠ h.root then 8 else 0 := by unfold heldE; rw [if_neg (by simpa using h1)]
      rw [e1]
      (refine run ?_; repeat intro b)
      refine s_regiond (by kernel_rfl) ?_
      (refine run ?_; repeat intro b)
      refine s_plain _ rfl rfl rfl bd68 rfl (refproofroot_ok p a hw h1 hf) ?_
      (refine run ?_; repeat intro b)
      refine s_if (decide (prfRoot p ≠ h.root)) ?_ (fun h2 => ?_) (fun h2 => ?_)
      · refine congrArg (fun b => some (EV.v (.bool b))) ?_
        rw [Bool.eq_iff_iff]; simp; omega
      · rw [if_pos (of_decide_eq_true h2)]
        (refine run ?_; repeat intro b)
        rfl
      · rw [if_neg (of_decide_eq_false h2)]
        (refine run ?_; repeat intro b)
        rfl
end Go.Proofs.Ythkmfihbpbehfaa
/-!
slices.Equal at the element types that have one cell.
-/
namespace Go.Proofs.Ythkmfihbpbehfaa
set_option linter.unusedVariables false
set_option linter.unusedSimpArgs false
open Go.TR
attribute [local irreducible] vc vcOps seqK blockK loopK retK retG retI loopV Plain CallOK CallIn bodied VS vcAny dropG backK brK loopPK IntKind.wrap
set_option maxRecDepth 100000
/-- slices.Equal: two slices of one-cell elements. -/
theorem eq_u64 (l1 l2 : List Int) {p1 p2 : Option Addr} {c1 c2 : Nat} {F : Hp} (h1 : Frow F p1 (l1.map u64)) (h2 : Frow F p2 (l2.map u64)) (hn : l1.length ≤ 9223372036854775806) : Plain Try.prog F 43 [.slice p1 l1.length c1, .slice p2 l2.length c2] (.bool (decide (l1 = l2))) := by
  refine plain_vc (N := 26) (rv := [.tmp 4]) tbok mixed Try.func43 rfl rfl rfl rfl rfl ?_
  (refine run ?_; repeat intro b)
  refine s_if _ rfl (fun h => ?_) (fun h => ?_)
  · (refine run ?_; repeat intro b)
    have hne : l1 ≠ l2 := by rintro rfl; simp at h
    simp [tupV, hne]
  · have hl : l1.length = l2.length := by simp at h; omega
    (refine run ?_; repeat intro b)
    refine s_loopP (fun k : Nat => k ≤ l1.length ∧ l1.take k = l2.take k) (fun k => ⟨[(0, .v (.slice p1 l1.length c1)), (1, .v (.slice p2 l2.length c2)), (12, .v (i64 l1.length)), (13, .v (i64 (k : Nat)))], F, [], 0⟩) (fun k => l1.length - k) 0 ⟨Nat.zero_le _, rfl⟩ (VS.keepN [0, 1, 12, 13] rfl rfl) ?_
    rintro k ⟨hk, ht⟩
    (refine run ?_; repeat intro b)
    refine s_if _ rfl (fun h3 => ?_) (fun h3 => ?_)
    · have hlt : k < l1.length := by simpa using h3
      have g1 : k < (l1.map u64).length := by simpa using hlt
      have g2 : k < (l2.map u64).length := by simpa using (hl ▸ hlt)
      (refine run ?_; repeat intro b)
      refine s_regiond (by kernel_rfl) ?_
      (refine run ?_; repeat intro b)
      refine s_pureO rfl rfl rfl ⟨by omega, by omega, frow_some h1 g1⟩ ?_
      refine s_load (u64 l1[k]) rfl rfl rfl rfl (by have := frow_get h1 g1; simpa using this) ?_
      (refine run ?_; repeat intro b)
      refine s_pureO rfl rfl rfl ⟨by omega, by omega, frow_some h2 g2⟩ ?_
      refine s_load (u64 l2[k]) rfl rfl rfl rfl (by have := frow_get h2 g2; simpa using this) ?_
      (refine run ?_; repeat intro b)
      refine s_if _ rfl (fun h4 => ?_) (fun h4 => ?_)
      · (refine run ?_; repeat intro b)
        have hne : l1 ≠ l2 := ne_of_get hlt (hl ▸ hlt) (fun e => by simp [e] at h4)
        simp [tupV, hne]
      · (refine run ?_; repeat intro b)
        rw [wrap_succ (by omega)]
        exact s_loopPn (k + 1) ⟨hlt, take_succ_eq ht hlt (hl ▸ hlt) (by first | simpa using h4 | (simp at h4; exact of_decide_eq_true h4) | (simp at h4; omega))⟩ (by omega) (VS.keepN [0, 1, 12, 13] rfl rfl)
    · have hge : k = l1.length := by simp at h3; omega
      (refine run ?_; repeat intro b)
      subst hge
      have he : l1 = l2 := by rw [List.take_length] at ht; rw [ht, hl, List.take_length]
      simp [tupV, he]
/-- slices.Equal: two slices of one-cell elements. -/
theorem eq_str (l1 l2 : List (List UInt8)) {p1 p2 : Option Addr} {c1 c2 : Nat} {F : Hp} (h1 : Frow F p1 (l1.map S)) (h2 : Frow F p2 (l2.map S)) (hn : l1.length ≤ 9223372036854775806) : Plain Try.prog F 67 [.slice p1 l1.length c1, .slice p2 l2.length c2] (.bool (decide (l1 = l2))) := by
  refine plain_vc (N := 26) (rv := [.tmp 4]) tbok mixed Try.func67 rfl rfl rfl rfl rfl ?_
  (refine run ?_; repeat intro b)
  refine s_if _ rfl (fun h => ?_) (fun h => ?_)
  · (refine run ?_; repeat intro b)
    have hne : l1 ≠ l2 := by rintro rfl; simp at h
    simp [tupV, hne]
  · have hl : l1.length = l2.length := by simp at h; omega
    (refine run ?_; repeat intro b)
    refine s_loopP (fun k : Nat => k ≤ l1.length ∧ l1.take k = l2.take k) (fun k => ⟨[(0, .v (.slice p1 l1.length c1)), (1, .v (.slice p2 l2.length c2)), (12, .v (i64 l1.length)), (13, .v (i64 (k : Nat)))], F, [], 0⟩) (fun k => l1.length - k) 0 ⟨Nat.zero_le _, rfl⟩ (VS.keepN [0, 1, 12, 13] rfl rfl) ?_
    rintro k ⟨hk, ht⟩
    (refine run ?_; repeat intro b)
    refine s_if _ rfl (fun h3 => ?_) (fun h3 => ?_)
    · have hlt : k < l1.length := by simpa using h3
      have g1 : k < (l1.map S).length := by simpa using hlt
      have g2 : k < (l2.map S).length := by simpa using (hl ▸ hlt)
      (refine run ?_; repeat intro b)
      refine s_regiond (by kernel_rfl) ?_
      (refine run ?_; repeat intro b)
      refine s_pureO rfl rfl rfl ⟨by omega, by omega, frow_some h1 g1⟩ ?_
      refine s_load (S l1[k]) rfl rfl rfl rfl (by have := frow_get h1 g1; simpa using this) ?_
      (refine run ?_; repeat intro b)
      refine s_pureO rfl rfl rfl ⟨by omega, by omega, frow_some h2 g2⟩ ?_
      refine s_load (S l2[k]) rfl rfl rfl rfl (by have := frow_get h2 g2; simpa using this) ?_
      (refine run ?_; repeat intro b)
      refine s_if _ rfl (fun h4 => ?_) (fun h4 => ?_)
      · (refine run ?_; repeat intro b)
        have hne : l1 ≠ l2 := ne_of_get hlt (hl ▸ hlt) (fun e => by simp [e] at h4)
        simp [tupV, hne]
      · (refine run ?_; repeat intro b)
        rw [wrap_succ (by omega)]
        exact s_loopPn (k + 1) ⟨hlt, take_succ_eq ht hlt (hl ▸ hlt) (by first | simpa using h4 | (simp at h4; exact of_decide_eq_true h4) | (simp at h4; omega))⟩ (by omega) (VS.keepN [0, 1, 12, 13] rfl rfl)
    · have hge : k = l1.length := by simp at h3; omega
      (refine run ?_; repeat intro b)
      subst hge
      have he : l1 = l2 := by rw [List.take_length] at ht; rw [ht, hl, List.take_length]
      simp [tupV, he]
end Go.Proofs.Ythkmfihbpbehfaa
/-!
The law of package wire: whatever is handed in, each function answers what the reference answers.
-/
namespace Go.Proofs.Ythkmfihbpbehfaa
set_option linter.unusedVariables false
set_option linter.unusedSimpArgs false
open Go.TR
theorem bl_nil : bl ⟨#[]⟩ = [] := rfl
theorem put_good {l : List (List UInt8)} (h : partsOk l = true) : putO l = partsOut l ∧ putE l = 0 := by
  unfold partsOk at h
  unfold putO putE partsOut
  cases hp : partsF l [] with
  | none => rw [hp] at h; cases h
  | some o =>
    rw [hp] at h
    have : ¬ 60 < l.length := by simpa using h
    rw [if_neg this, if_neg this]
    exact ⟨rfl, rfl⟩
theorem put_bad {l : List (List UInt8)} (h : partsOk l = false) : putO l = [] ∧ putE l = 2 := by
  unfold partsOk at h
  unfold putO putE
  by_cases h6 : 60 < l.length
  · rw [if_pos h6, if_pos h6]; exact ⟨rfl, rfl⟩
  · rw [if_neg h6, if_neg h6]
    cases hp : partsF l [] with
    | none => exact ⟨rfl, rfl⟩
    | some o => rw [hp] at h; simp at h; omega
theorem get_good {s : List UInt8} (h0 : ¬ 600 < s.length) (h : readOk s = true) : getL s = readL s ∧ getE s = 0 := by
  unfold readOk at h
  unfold getL getE readL
  rw [if_neg h0, if_neg h0]
  cases hp : partsR s with
  | none => rw [hp] at h; cases h
  | some o =>
    rw [hp] at h
    have : o.length ≤ 60 := by simpa using h
    simp [this]
theorem get_bad {s : List UInt8} (h0 : ¬ 600 < s.length) (h : readOk s = false) : getL s = [] ∧ getE s = 3 := by
  unfold readOk at h
  unfold getL getE
  rw [if_neg h0, if_neg h0]
  cases hp : partsR s with
  | none => exact ⟨rfl, rfl⟩
  | some o =>
    rw [hp] at h
    have : ¬ o.length ≤ 60 := by simpa using h
    simp [this]
theorem readL_len {s : List UInt8} (h0 : ¬ 600 < s.length) : (readL s).length ≤ 600 := by
  have key : ∀ (n : Nat) (s : List UInt8) (l : List (List UInt8)), partsN n s = some l → l.length ≤ s.length := by
    intro n
    induction n with
    | zero =>
      intro s l h
      cases s with
      | nil => simp only [partsN, Option.some.injEq] at h; subst h; exact Nat.le_refl _
      | cons c t => cases h
    | succ n ih =>
      intro s l h
      cases s with
      | nil => simp only [partsN, Option.some.injEq] at h; subst h; exact Nat.le_refl _
      | cons c t =>
        simp only [partsN] at h
        cases hf : firstO (c :: t) with
        | none => rw [hf] at h; cases h
        | some x =>
          obtain ⟨p, r⟩ := x
          rw [hf] at h
          simp only [Option.map_eq_some_iff] at h
          obtain ⟨l', h1, rfl⟩ := h
          have h2 := ih r l' h1
          have h3 := (firstO_lt hf).1
          simp only [List.length_cons] at *
          omega
  unfold readL
  cases hp : partsR s with
  | none => simp
  | some o =>
    have := key _ _ _ hp
    simp only
    omega
attribute [local irreducible] vc vcOps seqK blockK loopK retK retG retI loopV Plain CallOK CallIn bodied VS vcAny dropG backK brK loopPK IntKind.wrap
set_option maxRecDepth 100000
end Go.Proofs.Ythkmfihbpbehfaa
