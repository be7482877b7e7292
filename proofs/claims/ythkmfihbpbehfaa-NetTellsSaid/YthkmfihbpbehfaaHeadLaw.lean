/-
The law of package head: whatever is handed in, each function answers what the reference answers.
-/
import Derived.Test.YthkmfihbpbehfaaHeadRead
import Derived.Test.YthkmfihbpbehfaaFwB
namespace Go.Proofs.Ythkmfihbpbehfaa
set_option linter.unusedVariables false
set_option linter.unusedSimpArgs false
open Go.TR
theorem nextE_alt {h : Head} (hw : h.wf) {root : Nat} {at_ : Int} (h0 : h.fault = 0) (h1 : ¬ h.epoch = 1000000) : h.nextE root at_ = if MM ≤ root ∨ at_ < h.at_ ∨ 1000000000 < at_ then 4 else 0 := by
  obtain ⟨g1, g2, g3, g4, g5, g6, g7⟩ := Head.ok_of h0
  unfold Head.nextE
  rw [if_neg (by simpa using h0), if_neg h1]
  have hm : h.markO < MM := by unfold Head.markO; rw [if_pos h0]; exact markN_lt _
  have hwr : IntKind.i64.wrap (h.epoch + 1) = h.epoch + 1 := wrap_i64 (by omega) (by omega)
  by_cases h2 : at_ < h.at_
  · rw [if_pos h2, if_pos (.inr (.inl h2))]
  · rw [if_neg h2]
    unfold Head.fault Head.bad1 Head.bad2 Head.nextH
    simp only [hwr]
    by_cases h3 : MM ≤ root
    · rw [if_pos (by simp [h3]), if_pos (.inl h3)]
    · by_cases h4 : 1000000000 < at_
      · rw [if_pos (by simp [h4]), if_pos (.inr (.inr h4))]
      · rw [if_neg (by simp; omega), if_neg (by simp; omega), if_neg (by omega)]
theorem toI_range (n : Nat) : -9223372036854775808 ≤ toI n ∧ toI n ≤ 9223372036854775807 := by
  unfold toI IntKind.wrap
  simp only [IntKind.bits, IntKind.signed]
  have h := BitVec.toInt_lt (x := BitVec.ofInt 64 (n : Int))
  have h2 := BitVec.le_toInt (x := BitVec.ofInt 64 (n : Int))
  constructor <;> (simp at h h2 ⊢; omega)
theorem headOf_wf (s : List UInt8) (hl : s.length = 33) : (headOf s).wf := ⟨be_lt8 _ (piece_length s 1 hl (by decide)), be_lt8 _ (piece_length s 2 hl (by decide)), toI_range _, toI_range _⟩
attribute [local irreducible] vc vcOps seqK blockK loopK retK retG retI loopV Plain CallOK CallIn bodied VS vcAny dropG backK brK loopPK IntKind.wrap
set_option maxRecDepth 100000
end Go.Proofs.Ythkmfihbpbehfaa
