/-
Eight bytes read as a number: package wire, and the reference.
-/
import Derived.Test.YthkmfihbpbehfaaHeadMath
namespace Go.Proofs.Ythkmfihbpbehfaa
set_option linter.unusedVariables false
set_option linter.unusedSimpArgs false
open Go.TR
theorem or_val (n c : Nat) (hn : n < 72057594037927936) (hc : c < 256) : IntKind.u64.wrap (((BitVec.ofInt IntKind.u64.bits (IntKind.u64.wrap ((n : Int) * 2 ^ min (Int.toNat 8) IntKind.u64.bits)) ||| BitVec.ofInt IntKind.u64.bits (IntKind.u64.wrap (c : Int))).toNat : Nat) : Int) = ((256 * n + c : Nat) : Int) := by
  have h0 : (2 ^ min (Int.toNat 8) IntKind.u64.bits : Int) = 256 := by decide
  have h1 : IntKind.u64.wrap ((n : Int) * 256) = ((n * 256 : Nat) : Int) := by rw [u64w]; omega
  have h2 : IntKind.u64.wrap (c : Int) = (c : Int) := by rw [u64w]; omega
  rw [h0, h1, h2]
  have h3 : (BitVec.ofInt IntKind.u64.bits ((n * 256 : Nat) : Int) ||| BitVec.ofInt IntKind.u64.bits (c : Int)).toNat = 256 * n + c := by
    rw [BitVec.toNat_or]
    have e1 : (BitVec.ofInt IntKind.u64.bits ((n * 256 : Nat) : Int)).toNat = n <<< 8 := by
      rw [Nat.shiftLeft_eq]; simp [IntKind.bits]; omega
    have e2 : (BitVec.ofInt IntKind.u64.bits (c : Int)).toNat = c := by simp [IntKind.bits]; omega
    rw [e1, e2, ← Nat.shiftLeft_add_eq_or_of_lt (show c < 2 ^ 8 by omega), Nat.shiftLeft_eq]
    omega
  rw [h3, u64w]
  omega
theorem take_be_lt (l : List UInt8) (k : Nat) (hl : l.length = 8) (hk : k < 8) : be (l.take k) < 72057594037927936 := by
  have h1 := be_lt (l.take k)
  have h2 : (l.take k).length = k := by rw [List.length_take]; omega
  rw [h2] at h1
  have h3 : 256 ^ k ≤ 256 ^ 7 := Nat.pow_le_pow_right (by decide) (by omega)
  exact Nat.lt_of_lt_of_le h1 h3
def readN (l : List UInt8) : Nat := if l.length = 8 then be l else 0
attribute [local irreducible] vc vcOps seqK blockK loopK retK retG retI loopV Plain CallOK CallIn bodied VS vcAny dropG backK brK loopPK IntKind.wrap
set_option maxRecDepth 100000
theorem readnum_ok (l : List UInt8) (F : Hp) : Plain Try.prog F 158 [S l] (pair (u64 (readN l : Nat)) (i64 (if l.length = 8 then 0 else 3))) := by
  refine plain_vc (N := 23) (rv := [.tmp 2, .tmp 3]) tbok mixed Try.func158 rfl rfl rfl rfl rfl ?_
  (refine run ?_; repeat intro b)
  refine s_if _ rfl (fun h => ?_) (fun h => ?_)
  · have hne : ¬ l.length = 8 := by simp at h; omega
    (refine run ?_; repeat intro b)
    simp only [tupV, readN, if_neg hne]
    rfl
  · have hl : l.length = 8 := by simp at h; omega
    (refine run ?_; repeat intro b)
    rw [bl_S]
    refine s_loopP (fun k : Nat => k ≤ 8) (fun k => ⟨[(0, .v (S l)), (4, .v (u64 (be (l.take k) : Nat))), (10, .v (i64 (l.length : Nat))), (11, .v (i64 (k : Nat)))], F, [], 0⟩) (fun k => 8 - k) 0 (Nat.zero_le _) (VS.keepN [0, 4, 10, 11] rfl rfl) ?_
    intro k hk
    (refine run ?_; repeat intro b)
    refine s_if _ rfl (fun h2 => ?_) (fun h2 => ?_)
    · have hlt : k < 8 := by simp at h2; omega
      (refine run ?_; repeat intro b)
      refine s_pureO rfl rfl rfl ⟨by omega, by rw [bl_S]; omega⟩ ?_
      rw [byte_get l k (by omega)]
      (refine run ?_; repeat intro b)
      rw [wrap_succ (by omega), or_val _ _ (take_be_lt l k hl hlt) (l[k].toNat_lt)]
      refine s_loopPn (k + 1) hlt (by omega) (VS.keepN [0, 4, 10, 11] rfl ?_)
      rw [List.take_succ_eq_append_getElem (by omega), be_snoc]
    · have hge : k = 8 := by simp at h2; omega
      subst hge
      (refine run ?_; repeat intro b)
      rw [List.take_of_length_le (by omega)]
      simp only [tupV, readN, if_pos hl]
theorem numread_ok (l : List UInt8) (F : Hp) : Plain Try.prog F 129 [S l] (pair (u64 (readN l : Nat)) (.bool (decide (l.length = 8)))) := by
  refine plain_vc (N := 21) (rv := [.tmp 2, .tmp 3]) tbok mixed Try.func129 rfl rfl rfl rfl rfl ?_
  (refine run ?_; repeat intro b)
  refine s_if _ rfl (fun h => ?_) (fun h => ?_)
  · have hne : ¬ l.length = 8 := by simp at h; omega
    (refine run ?_; repeat intro b)
    simp only [tupV, readN, if_neg hne, decide_eq_false hne]
    rfl
  · have hl : l.length = 8 := by simp at h; omega
    (refine run ?_; repeat intro b)
    refine s_loopP (fun k : Nat => k ≤ 8) (fun k => ⟨[(0, .v (S l)), (4, .v (u64 (be (l.take k) : Nat))), (9, .v (i64 (k : Nat)))], F, [], 0⟩) (fun k => 8 - k) 0 (Nat.zero_le _) (VS.keepN [0, 4, 9] rfl rfl) ?_
    intro k hk
    (refine run ?_; repeat intro b)
    refine s_if _ rfl (fun h2 => ?_) (fun h2 => ?_)
    · have hlt : k < 8 := by simp at h2; omega
      (refine run ?_; repeat intro b)
      refine s_pureO rfl rfl rfl ⟨by omega, by rw [bl_S]; omega⟩ ?_
      rw [byte_get l k (by omega)]
      (refine run ?_; repeat intro b)
      have e : IntKind.u64.wrap (IntKind.u64.wrap (256 * ((be (l.take k) : Nat) : Int)) + IntKind.u64.wrap ((l[k].toNat : Nat) : Int)) = ((256 * be (l.take k) + l[k].toNat : Nat) : Int) := by
        have h3 := take_be_lt l k hl hlt
        have h4 : l[k].toNat < 256 := l[k].toNat_lt
        simp only [u64w]
        omega
      rw [wrap_succ (by omega), e]
      refine s_loopPn (k + 1) hlt (by omega) (VS.keepN [0, 4, 9] rfl ?_)
      rw [List.take_succ_eq_append_getElem (by omega), be_snoc]
    · have hge : k = 8 := by simp at h2; omega
      subst hge
      (refine run ?_; repeat intro b)
      rw [List.take_of_length_le (by omega)]
      simp only [tupV, readN, if_pos hl, decide_eq_true hl]
end Go.Proofs.Ythkmfihbpbehfaa
