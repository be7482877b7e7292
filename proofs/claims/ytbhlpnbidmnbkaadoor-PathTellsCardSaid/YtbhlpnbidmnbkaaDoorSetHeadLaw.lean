/-
Eight bytes read as a number: package wire, and the reference.
-/
import Derived.Test.YtbhlpnbidmnbkaaDoorSetHeadMath
import Derived.Test.YtbhlpnbidmnbkaaDoorFwB
/-!
Eight bytes read as a number: package wire, and the reference.
-/
namespace Go.Proofs.YtbhlpnbidmnbkaaDoor
set_option linter.unusedVariables false
set_option linter.unusedSimpArgs false
open Go.TR
theorem or_val (n c : Nat) (hn : n < 72057594037927936) (hc : c < 256) : IntKind.u64.wrap (((BitVec.ofInt IntKind.u64.bits (IntKind.u64.wrap ((n : Int) * 2 ^ min (Int.toNat 8) IntKind.u64.bits)) ||| BitVec.ofInt IntKind.u64.bits (IntKind.u64.wrap (c : Int))).toNat : Nat) : Int) = ((256 * n + c : Nat) : Int) := by
  have h0 : (2 ^ min (Int.toNat 8) IntKind.u64.bits : Int) = 256 := by decide
  have h1 : IntKind.u64.wrap ((n : Int) * 256) = ((n * 256 : Nat) : Int) := by rw [u64w]; omega
  have h2 : IntKind.u64.wrap (c : Int) = (c : Int) := by rw [u64w]; omega
  rw [h0, h1, h2]
  have h3 : (BitVec.ofInt IntKind.u64.bits ((n * 256 : Nat) : Int) ||| BitVec.ofInt IntKind.u64.bits (c : Int)).toNat = 256 * n + c := by
    rw [BitVec.toNat_or]
    have e1 : (BitVec.ofInt IntKind.u64.bits ((n * 256 : Nat) : Int)).toNat = n <<< 8 := by
      rw [Nat.shiftLeft_eq]; simp [IntKind.bits]; omega
    have e2 : (BitVec.ofInt IntKind.u64.bits (c : Int)).toNat = c := by simp [IntKind.bits]; omega
    rw [e1, e2, ← Nat.shiftLeft_add_eq_or_of_lt (show c < 2 ^ 8 by omega), Nat.shiftLeft_eq]
    omega
  rw [h3, u64w]
  omega
theorem take_be_lt (l : List UInt8) (k : Nat) (hl : l.length = 8) (hk : k < 8) : be (l.take k) < 72057594037927936 := by
  have h1 := be_lt (l.take k)
  have h2 : (l.take k).length = k := by rw [List.length_take]; omega
  rw [h2] at h1
  have h3 : 256 ^ k ≤ 256 ^ 7 := Nat.pow_le_pow_right (by decide) (by omega)
  exact Nat.lt_of_lt_of_le h1 h3
def readN (l : List UInt8) : Nat := if l.length = 8 then be l else 0
attribute [local irreducible] vc vcOps seqK blockK loopK retK retG retI loopV Plain CallOK CallIn bodied VS vcAny dropG backK brK loopPK IntKind.wrap
set_option maxRecDepth 100000
end Go.Proofs.YtbhlpnbidmnbkaaDoor
/-!
Package head and its reference: what each function computes.
-/
namespace Go.Proofs.YtbhlpnbidmnbkaaDoor
set_option linter.unusedVariables false
set_option linter.unusedSimpArgs false
open Go.TR
attribute [local irreducible] vc vcOps seqK blockK loopK retK retG retI loopV Plain CallOK CallIn bodied VS vcAny dropG backK brK loopPK IntKind.wrap
set_option maxRecDepth 100000
theorem bad1_val (h : Head) : (decide (h.epoch < 0) || decide (1000000 < h.epoch) || decide ((2305843009213693951 : Int) ≤ (h.root : Int)) || decide ((2305843009213693951 : Int) ≤ (h.prev : Int)) || decide (h.at_ < 0) || decide (1000000000 < h.at_)) = h.bad1 := by
  unfold Head.bad1
  rw [geq_MM, geq_MM]
/-- What is said of a head that is right; else nothing. -/
def Head.saidO (h : Head) : List UInt8 := if h.fault = 0 then h.said else []
def Head.markO (h : Head) : Nat := if h.fault = 0 then h.mark else 0
/-- The head, or none with an error. -/
def Head.orNone (h : Head) (e : Int) : Head := if e = 0 then h else Head.none
def Head.nextH (h : Head) (root : Nat) (at_ : Int) : Head := ⟨IntKind.i64.wrap (h.epoch + 1), root, h.markO, at_⟩
def Head.nextE (h : Head) (root : Nat) (at_ : Int) : Int := if h.fault ≠ 0 then h.fault else if h.epoch = 1000000 then 7 else if at_ < h.at_ then 4 else (h.nextH root at_).fault
end Go.Proofs.YtbhlpnbidmnbkaaDoor
/-!
A head read out of bytes.
-/
namespace Go.Proofs.YtbhlpnbidmnbkaaDoor
set_option linter.unusedVariables false
set_option linter.unusedSimpArgs false
open Go.TR
def numsE (s : List UInt8) : List EV := [.v (u64 (numAt s 0 : Nat)), .v (u64 (numAt s 1 : Nat)), .v (u64 (numAt s 2 : Nat)), .v (u64 (numAt s 3 : Nat))]
def zer4 : List EV := [.v (u64 0), .v (u64 0), .v (u64 0), .v (u64 0)]
theorem numsE_get (s : List UInt8) (k : Nat) (h : k < (numsE s).length) : (numsE s)[k] = .v (u64 (numAt s k : Nat)) := by
  have h4 : k < 4 := h
  match k, h4 with
  | 0, _ | 1, _ | 2, _ | 3, _ => rfl
def hdr (s : List UInt8) : Bool := decide (s.length = 33) && (s.head? == some 3)
theorem hdr_true {s : List UInt8} (h : hdr s = true) : s.length = 33 ∧ s.head? = some 3 := by
  unfold hdr at h
  simpa using h
theorem cond_hdr (s : List UInt8) : bpick (!(((bl (mkB s)).length : Nat) : Int) == 33) true (!((((bl (mkB s)).getD (0 : Int).toNat 0).toNat : Nat) : Int) == 3) = !hdr s := by
  rw [bl_S]
  unfold hdr
  cases s with
  | nil => rfl
  | cons c t =>
    rw [bpick_or]
    have e : ((((c :: t).getD (0 : Int).toNat 0).toNat : Nat) : Int) = ((c.toNat : Nat) : Int) := rfl
    rw [e]
    have e2 : (((c.toNat : Nat) : Int) == 3) = (c == 3) := by
      rw [Bool.eq_iff_iff]
      simp only [beq_iff_eq]
      constructor
      · intro h
        apply UInt8.toNat_inj.1
        show c.toNat = 3
        omega
      · rintro rfl
        rfl
    have e3 : ((((c :: t).length : Nat) : Int) == 33) = decide ((c :: t).length = 33) := by
      rw [Bool.eq_iff_iff]
      simp only [beq_iff_eq, decide_eq_true_eq]
      omega
    rw [e2, e3]
    simp only [List.head?_cons]
    have e4 : ((some c : Option UInt8) == some 3) = (c == 3) := rfl
    rw [e4]
    cases decide ((c :: t).length = 33) <;> cases (c == 3) <;> rfl
/-- What is read: a head, or none with an error. -/
def readE (s : List UInt8) : Int := if hdr s = true then (if (headOf s).fault = 0 then 0 else 3) else 3
def readH (s : List UInt8) : Head := if readE s = 0 then headOf s else Head.none
attribute [local irreducible] vc vcOps seqK blockK loopK retK retG retI loopV Plain CallOK CallIn bodied VS vcAny dropG backK brK loopPK IntKind.wrap
set_option maxRecDepth 100000
end Go.Proofs.YtbhlpnbidmnbkaaDoor
/-!
The law of package head: whatever is handed in, each function answers what the reference answers.
-/
namespace Go.Proofs.YtbhlpnbidmnbkaaDoor
set_option linter.unusedVariables false
set_option linter.unusedSimpArgs false
open Go.TR
theorem nextE_alt {h : Head} (hw : h.wf) {root : Nat} {at_ : Int} (h0 : h.fault = 0) (h1 : ¬ h.epoch = 1000000) : h.nextE root at_ = if MM ≤ root ∨ at_ < h.at_ ∨ 1000000000 < at_ then 4 else 0 := by
  obtain ⟨g1, g2, g3, g4, g5, g6, g7⟩ := Head.ok_of h0
  unfold Head.nextE
  rw [if_neg (by simpa using h0), if_neg h1]
  have hm : h.markO < MM := by unfold Head.markO; rw [if_pos h0]; exact markN_lt _
  have hwr : IntKind.i64.wrap (h.epoch + 1) = h.epoch + 1 := wrap_i64 (by omega) (by omega)
  by_cases h2 : at_ < h.at_
  · rw [if_pos h2, if_pos (.inr (.inl h2))]
  · rw [if_neg h2]
    unfold Head.fault Head.bad1 Head.bad2 Head.nextH
    simp only [hwr]
    by_cases h3 : MM ≤ root
    · rw [if_pos (by simp [h3]), if_pos (.inl h3)]
    · by_cases h4 : 1000000000 < at_
      · rw [if_pos (by simp [h4]), if_pos (.inr (.inr h4))]
      · rw [if_neg (by simp; omega), if_neg (by simp; omega), if_neg (by omega)]
theorem toI_range (n : Nat) : -9223372036854775808 ≤ toI n ∧ toI n ≤ 9223372036854775807 := by
  unfold toI IntKind.wrap
  simp only [IntKind.bits, IntKind.signed]
  have h := BitVec.toInt_lt (x := BitVec.ofInt 64 (n : Int))
  have h2 := BitVec.le_toInt (x := BitVec.ofInt 64 (n : Int))
  constructor <;> (simp at h h2 ⊢; omega)
theorem headOf_wf (s : List UInt8) (hl : s.length = 33) : (headOf s).wf := ⟨be_lt8 _ (piece_length s 1 hl (by decide)), be_lt8 _ (piece_length s 2 hl (by decide)), toI_range _, toI_range _⟩
attribute [local irreducible] vc vcOps seqK blockK loopK retK retG retI loopV Plain CallOK CallIn bodied VS vcAny dropG backK brK loopPK IntKind.wrap
set_option maxRecDepth 100000
end Go.Proofs.YtbhlpnbidmnbkaaDoor
