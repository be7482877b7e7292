/-
Package serve: Tell; tallyrollref.ReplyFault.
-/
import Derived.Test.YteahoodopphacaaGreatSetReadNum
import Derived.Test.YteahoodopphacaaGreatSetTreeLaw
import Derived.Test.YteahoodopphacaaGreatHead
import Derived.Test.YteahoodopphacaaGreatFwB
/-!
Package serve: Tell; tallyrollref.ReplyFault.
-/
namespace Go.Proofs.YteahoodopphacaaGreat
set_option linter.unusedVariables false
set_option linter.unusedSimpArgs false
open Go.TR
@[reducible] def repV (h : Head) (p : Prf) (a : Lay) : Value := .agg #[i64 h.epoch, u64 (h.root : Nat), u64 (h.prev : Nat), i64 h.at_, S p.name, .slice a.e p.ents.length a.ce, .slice a.s p.sides.length a.cs]
/-- What is wrong with a reply; what it says. -/
def replyF (h : Head) (p : Prf) : Int := if h.fault ≠ 0 then h.fault else heldE h.root p
def replyT (h : Head) (p : Prf) : List UInt8 := if replyF h p = 0 then (standsO p.ents p.name).getD [] else []
def replyB (h : Head) (p : Prf) : Bool := decide (replyF h p = 0) && (standsO p.ents p.name).isSome
theorem replyF_zero {h : Head} {p : Prf} (e : replyF h p = 0) : h.fault = 0 ∧ heldE h.root p = 0 := by
  unfold replyF at e
  by_cases h0 : h.fault = 0
  · rw [if_neg (by simpa using h0)] at e; exact ⟨h0, e⟩
  · rw [if_pos h0] at e; exact absurd e h0
theorem heldE_cases (r : Nat) (p : Prf) : heldE r p = 0 ∨ heldE r p = 2 ∨ heldE r p = 3 ∨ heldE r p = 8 := by
  unfold heldE
  split
  · rcases prfFault_cases p with h | h | h <;> simp [h]
  · split <;> simp
theorem tellV_stands {r : Nat} {p : Prf} (h : heldE r p = 0) : tellV r p = (standsO p.ents p.name).getD [] ∧ tellB r p = (standsO p.ents p.name).isSome := by
  obtain ⟨g1, g2⟩ := held_zero h
  obtain ⟨e1, e2⟩ := get_stands (prf_find g1)
  unfold tellV tellB
  rw [if_pos h, decide_eq_true h, e1, e2]
  exact ⟨rfl, rfl⟩
theorem tellV_bad {r : Nat} {p : Prf} (h : heldE r p ≠ 0) : tellV r p = [] ∧ tellB r p = false := by
  unfold tellV tellB
  rw [if_neg h, decide_eq_false h]
  exact ⟨rfl, rfl⟩
theorem reply_tell {h : Head} {p : Prf} (h0 : h.fault = 0) : replyT h p = tellV h.root p ∧ replyB h p = tellB h.root p ∧ replyF h p = heldE h.root p := by
  have e : replyF h p = heldE h.root p := by unfold replyF; rw [if_neg (by simpa using h0)]
  unfold replyT replyB
  rw [e]
  by_cases h1 : heldE h.root p = 0
  · obtain ⟨g1, g2⟩ := tellV_stands h1
    rw [if_pos h1, decide_eq_true h1, g1, g2]
    exact ⟨rfl, rfl, rfl⟩
  · obtain ⟨g1, g2⟩ := tellV_bad h1
    rw [if_neg h1, decide_eq_false h1, g1, g2]
    exact ⟨rfl, rfl, rfl⟩
attribute [local irreducible] vc vcOps seqK blockK loopK retK retG retI loopV Plain CallOK CallIn bodied VS vcAny dropG backK brK loopPK IntKind.wrap
attribute [local irreducible] replyF replyT replyB heldE tellV tellB prfFault prfRoot
set_option maxRecDepth 100000
set_option maxHeartbeats 1000000
theorem servetell_ok (h : Head) (p : Prf) (a : Lay) (hw : p.wf) {F : Hp} (hf : p.at F a) : Plain Tryz.prog F 35 [repV h p a] (triple (S (replyT h p)) (.bool (replyB h p)) (i64 (replyF h p))) := by
  refine plain_vc (N := 21) (rv := [.tmp 2, .tmp 3, .tmp 4]) tbok mixed Tryz.func35 rfl rfl rfl rfl rfl ?_
  (refine run ?_; repeat intro b)
  refine s_plain _ rfl rfl rfl bd21 rfl (headcheck_ok h F) ?_
  (refine run ?_; repeat intro b)
  refine s_if (decide (h.fault ≠ 0)) ?_ (fun h0 => ?_) (fun h0 => ?_)
  · refine congrArg (fun b => some (EV.v (.bool b))) ?_
    rw [Bool.eq_iff_iff]; simp
  · have h0 := of_decide_eq_true h0
    have e1 : replyF h p = h.fault := by unfold replyF; rw [if_pos h0]
    have e2 : replyT h p = [] := by unfold replyT; rw [if_neg (by rw [e1]; exact h0)]
    have e3 : replyB h p = false := by unfold replyB; rw [decide_eq_false (by rw [e1]; exact h0)]; rfl
    rw [e1, e2, e3]
    (refine run ?_; repeat intro b)
    rfl
  · have h0 : h.fault = 0 := by have := of_decide_eq_false h0; omega
    obtain ⟨e1, e2, e3⟩ := reply_tell (p := p) h0
    rw [e1, e2, e3]
    (refine run ?_; repeat intro b)
    refine s_plain _ rfl rfl rfl bd52 rfl (tell_ok h.root p a hw hf) ?_
    (refine run ?_; repeat intro b)
    rfl
theorem refreplyfault_ok (h : Head) (p : Prf) (a : Lay) (hw : p.wf) {F : Hp} (hf : p.at F a) : Plain Tryz.prog F 26 [repV h p a] (i64 (replyF h p)) := by
  refine plain_vc (N := 24) (rv := [.tmp 2]) tbok mixed Tryz.func26 rfl rfl rfl rfl rfl ?_
  (refine run ?_; repeat intro b)
  refine s_plain _ rfl rfl rfl bd18 rfl (reffault_ok h F) ?_
  (refine run ?_; repeat intro b)
  refine s_if (decide (h.fault ≠ 0)) ?_ (fun h0 => ?_) (fun h0 => ?_)
  · refine congrArg (fun b => some (EV.v (.bool b))) ?_
    rw [Bool.eq_iff_iff]; simp
  · have h0 := of_decide_eq_true h0
    have e1 : replyF h p = h.fault := by unfold replyF; rw [if_pos h0]
    rw [e1]
    (refine run ?_; repeat intro b)
    rfl
  · have h0 : h.fault = 0 := by have := of_decide_eq_false h0; omega
    obtain ⟨_, _, e3⟩ := reply_tell (p := p) h0
    rw [e3]
    (refine run ?_; repeat intro b)
    refine s_plain _ rfl rfl rfl bd42 rfl (prooffault_ok p a hw hf) ?_
    (refine run ?_; repeat intro b)
    refine s_if (decide (prfFault p ≠ 0)) ?_ (fun h1 => ?_) (fun h1 => ?_)
    · refine congrArg (fun b => some (EV.v (.bool b))) ?_
      rw [Bool.eq_iff_iff]; simp
    · have h1 := of_decide_eq_true h1
      have e1 : heldE h.root p = prfFault p := by unfold heldE; rw [if_pos h1]
      rw [e1]
      (refine run ?_; repeat intro b)
      rfl
    · have h1 : prfFault p = 0 := by have := of_decide_eq_false h1; omega
      have e1 : heldE h.root p = if prfRoot p ≠ h.root then 8 else 0 := by unfold heldE; rw [if_neg (by simpa using h1)]
      rw [e1]
      (refine run ?_; repeat intro b)
      refine s_regiond (by kernel_rfl) ?_
      (refine run ?_; repeat intro b)
      refine s_plain _ rfl rfl rfl bd43 rfl (refproofroot_ok p a hw h1 hf) ?_
      (refine run ?_; repeat intro b)
      refine s_if (decide (prfRoot p ≠ h.root)) ?_ (fun h2 => ?_) (fun h2 => ?_)
      · refine congrArg (fun b => some (EV.v (.bool b))) ?_
        rw [Bool.eq_iff_iff]; simp; omega
      · rw [if_pos (of_decide_eq_true h2)]
        (refine run ?_; repeat intro b)
        rfl
      · rw [if_neg (of_decide_eq_false h2)]
        (refine run ?_; repeat intro b)
        rfl
end Go.Proofs.YteahoodopphacaaGreat
/-!
A head read out of bytes.
-/
namespace Go.Proofs.YteahoodopphacaaGreat
set_option linter.unusedVariables false
set_option linter.unusedSimpArgs false
open Go.TR
def numsE (s : List UInt8) : List EV := [.v (u64 (numAt s 0 : Nat)), .v (u64 (numAt s 1 : Nat)), .v (u64 (numAt s 2 : Nat)), .v (u64 (numAt s 3 : Nat))]
def zer4 : List EV := [.v (u64 0), .v (u64 0), .v (u64 0), .v (u64 0)]
theorem numsE_get (s : List UInt8) (k : Nat) (h : k < (numsE s).length) : (numsE s)[k] = .v (u64 (numAt s k : Nat)) := by
  have h4 : k < 4 := h
  match k, h4 with
  | 0, _ | 1, _ | 2, _ | 3, _ => rfl
def hdr (s : List UInt8) : Bool := decide (s.length = 33) && (s.head? == some 3)
theorem hdr_true {s : List UInt8} (h : hdr s = true) : s.length = 33 ∧ s.head? = some 3 := by
  unfold hdr at h
  simpa using h
theorem cond_hdr (s : List UInt8) : bpick (!(((bl (mkB s)).length : Nat) : Int) == 33) true (!((((bl (mkB s)).getD (0 : Int).toNat 0).toNat : Nat) : Int) == 3) = !hdr s := by
  rw [bl_S]
  unfold hdr
  cases s with
  | nil => rfl
  | cons c t =>
    rw [bpick_or]
    have e : ((((c :: t).getD (0 : Int).toNat 0).toNat : Nat) : Int) = ((c.toNat : Nat) : Int) := rfl
    rw [e]
    have e2 : (((c.toNat : Nat) : Int) == 3) = (c == 3) := by
      rw [Bool.eq_iff_iff]
      simp only [beq_iff_eq]
      constructor
      · intro h
        apply UInt8.toNat_inj.1
        show c.toNat = 3
        omega
      · rintro rfl
        rfl
    have e3 : ((((c :: t).length : Nat) : Int) == 33) = decide ((c :: t).length = 33) := by
      rw [Bool.eq_iff_iff]
      simp only [beq_iff_eq, decide_eq_true_eq]
      omega
    rw [e2, e3]
    simp only [List.head?_cons]
    have e4 : ((some c : Option UInt8) == some 3) = (c == 3) := rfl
    rw [e4]
    cases decide ((c :: t).length = 33) <;> cases (c == 3) <;> rfl
/-- What is read: a head, or none with an error. -/
def readE (s : List UInt8) : Int := if hdr s = true then (if (headOf s).fault = 0 then 0 else 3) else 3
def readH (s : List UInt8) : Head := if readE s = 0 then headOf s else Head.none
attribute [local irreducible] vc vcOps seqK blockK loopK retK retG retI loopV Plain CallOK CallIn bodied VS vcAny dropG backK brK loopPK IntKind.wrap
set_option maxRecDepth 100000
end Go.Proofs.YteahoodopphacaaGreat
/-!
The law of package head: whatever is handed in, each function answers what the reference answers.
-/
namespace Go.Proofs.YteahoodopphacaaGreat
set_option linter.unusedVariables false
set_option linter.unusedSimpArgs false
open Go.TR
theorem nextE_alt {h : Head} (hw : h.wf) {root : Nat} {at_ : Int} (h0 : h.fault = 0) (h1 : ¬ h.epoch = 1000000) : h.nextE root at_ = if MM ≤ root ∨ at_ < h.at_ ∨ 1000000000 < at_ then 4 else 0 := by
  obtain ⟨g1, g2, g3, g4, g5, g6, g7⟩ := Head.ok_of h0
  unfold Head.nextE
  rw [if_neg (by simpa using h0), if_neg h1]
  have hm : h.markO < MM := by unfold Head.markO; rw [if_pos h0]; exact markN_lt _
  have hwr : IntKind.i64.wrap (h.epoch + 1) = h.epoch + 1 := wrap_i64 (by omega) (by omega)
  by_cases h2 : at_ < h.at_
  · rw [if_pos h2, if_pos (.inr (.inl h2))]
  · rw [if_neg h2]
    unfold Head.fault Head.bad1 Head.bad2 Head.nextH
    simp only [hwr]
    by_cases h3 : MM ≤ root
    · rw [if_pos (by simp [h3]), if_pos (.inl h3)]
    · by_cases h4 : 1000000000 < at_
      · rw [if_pos (by simp [h4]), if_pos (.inr (.inr h4))]
      · rw [if_neg (by simp; omega), if_neg (by simp; omega), if_neg (by omega)]
theorem toI_range (n : Nat) : -9223372036854775808 ≤ toI n ∧ toI n ≤ 9223372036854775807 := by
  unfold toI IntKind.wrap
  simp only [IntKind.bits, IntKind.signed]
  have h := BitVec.toInt_lt (x := BitVec.ofInt 64 (n : Int))
  have h2 := BitVec.le_toInt (x := BitVec.ofInt 64 (n : Int))
  constructor <;> (simp at h h2 ⊢; omega)
theorem headOf_wf (s : List UInt8) (hl : s.length = 33) : (headOf s).wf := ⟨be_lt8 _ (piece_length s 1 hl (by decide)), be_lt8 _ (piece_length s 2 hl (by decide)), toI_range _, toI_range _⟩
attribute [local irreducible] vc vcOps seqK blockK loopK retK retG retI loopV Plain CallOK CallIn bodied VS vcAny dropG backK brK loopPK IntKind.wrap
set_option maxRecDepth 100000
end Go.Proofs.YteahoodopphacaaGreat
