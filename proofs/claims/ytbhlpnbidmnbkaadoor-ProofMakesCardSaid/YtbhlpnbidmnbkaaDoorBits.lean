/-
Package math/bits: the product in two words; how many bits a number has.
-/
import Derived.Test.YtbhlpnbidmnbkaaDoorSetArith
namespace Go.Proofs.YtbhlpnbidmnbkaaDoor
set_option linter.unusedVariables false
set_option linter.unusedSimpArgs false
open Go.TR
attribute [local irreducible] vc vcOps seqK blockK loopK retK retG retI loopV Plain CallOK CallIn bodied VS vcAny dropG backK brK loopPK
set_option maxRecDepth 100000
theorem mul64_ok (x y : Nat) (hx : x < 18446744073709551616) (hy : y < 18446744073709551616) (F : Hp) : Plain Tryd.prog F 110 [u64 x, u64 y] (pair (u64 (x * y / 18446744073709551616 : Nat)) (u64 (x * y % 18446744073709551616 : Nat))) := by
  refine plain_vc (N := 51) (rv := [.tmp 4, .tmp 5]) tbok mixed Tryd.func110 rfl rfl rfl rfl rfl ?_
  (refine run ?_; repeat intro b)
  simp only [tupV, r_and32, r_shr32, r_mul, r_add, mul_hi x y hx hy]
/-- The table of bytes' lengths. -/
def lenTab : List UInt8 := [0, 1, 2, 2, 3, 3, 3, 3, 4, 4, 4, 4, 4, 4, 4, 4, 5, 5, 5, 5, 5, 5, 5, 5, 5, 5, 5, 5, 5, 5, 5, 5, 6, 6, 6, 6, 6, 6, 6, 6, 6, 6, 6, 6, 6, 6, 6, 6, 6, 6, 6, 6, 6, 6, 6, 6, 6, 6, 6, 6, 6, 6, 6, 6, 7, 7, 7, 7, 7, 7, 7, 7, 7, 7, 7, 7, 7, 7, 7, 7, 7, 7, 7, 7, 7, 7, 7, 7, 7, 7, 7, 7, 7, 7, 7, 7, 7, 7, 7, 7, 7, 7, 7, 7, 7, 7, 7, 7, 7, 7, 7, 7, 7, 7, 7, 7, 7, 7, 7, 7, 7, 7, 7, 7, 7, 7, 7, 7, 8, 8, 8, 8, 8, 8, 8, 8, 8, 8, 8, 8, 8, 8, 8, 8, 8, 8, 8, 8, 8, 8, 8, 8, 8, 8, 8, 8, 8, 8, 8, 8, 8, 8, 8, 8, 8, 8, 8, 8, 8, 8, 8, 8, 8, 8, 8, 8, 8, 8, 8, 8, 8, 8, 8, 8, 8, 8, 8, 8, 8, 8, 8, 8, 8, 8, 8, 8, 8, 8, 8, 8, 8, 8, 8, 8, 8, 8, 8, 8, 8, 8, 8, 8, 8, 8, 8, 8, 8, 8, 8, 8, 8, 8, 8, 8, 8, 8, 8, 8, 8, 8, 8, 8, 8, 8, 8, 8, 8, 8, 8, 8, 8, 8, 8, 8, 8, 8, 8, 8, 8, 8, 8, 8, 8, 8, 8, 8]
theorem len_tab : ∀ i : Fin 256, i.val < 2 ^ (lenTab.getD i.val 0).toNat ∧ (lenTab.getD i.val 0).toNat ≤ 8 := by decide
def lenD (x n : Nat) : Nat := n + (lenTab.getD x 0).toNat
def lenC (x n : Nat) : Nat := if 256 ≤ x then lenD (x / 256) (n + 8) else lenD x n
def lenB (x n : Nat) : Nat := if 65536 ≤ x then lenC (x / 65536) (n + 16) else lenC x n
def len64 (x : Nat) : Nat := if 4294967296 ≤ x then lenB (x / 4294967296) 32 else lenB x 0
theorem u8_in (e : Int) : 0 ≤ IntKind.u8.wrap e ∧ IntKind.u8.wrap e < ((bl (mkB lenTab)).length : Nat) := by
  have : ((bl (mkB lenTab)).length : Nat) = 256 := by decide
  rw [this, u8w]
  omega
theorem len_fin (n y m : Nat) (hy : y < 256) (h : IntKind.u8.wrap (y : Int) = (y : Int) → (bl (mkB lenTab)).getD (y : Int).toNat 0 = lenTab.getD y 0 → n + (lenTab.getD y 0).toNat = m) (hn : n ≤ 64) : IntKind.i64.wrap ((n : Int) + IntKind.i64.wrap ((((bl (mkB lenTab)).getD (IntKind.u8.wrap (y : Int)).toNat 0).toNat : Nat) : Int)) = ((m : Nat) : Int) := by
  have e1 : IntKind.u8.wrap (y : Int) = (y : Int) := by rw [u8w]; omega
  have e2 : (bl (mkB lenTab)).getD (y : Int).toNat 0 = lenTab.getD y 0 := rfl
  have e3 := (len_tab ⟨y, hy⟩).2
  have e4 := h e1 e2
  simp only at e3
  rw [e1, e2, wrap_i64 (n := ((lenTab.getD y 0).toNat : Int)) (by omega) (by omega), wrap_i64 (by omega) (by omega), ← e4]
  omega
set_option maxHeartbeats 1000000 in
theorem len64_ok (x : Nat) (hx : x < 18446744073709551616) (F : Hp) : Plain Tryd.prog F 94 [u64 x] (i64 (len64 x : Nat)) := by
  refine plain_vc (N := 25) (rv := [.tmp 2]) tbok mixed Tryd.func94 rfl rfl rfl rfl rfl ?_
  (refine run ?_; repeat intro b)
  refine s_if _ rfl (fun h => ?_) (fun h => ?_)
  all_goals
    (refine run ?_; repeat intro b)
    try rw [r_shr32]
    refine s_if _ rfl (fun h2 => ?_) (fun h2 => ?_)
    all_goals
      (refine run ?_; repeat intro b)
      try rw [r_shr16]
      refine s_if _ rfl (fun h3 => ?_) (fun h3 => ?_)
      all_goals
        (refine run ?_; repeat intro b)
        try rw [r_shr8]
        refine s_pureO rfl rfl rfl (u8_in _) ?_
        (refine run ?_; repeat intro b)
        simp only [decide_eq_true_eq, decide_eq_false_iff_not] at h h2 h3
        refine congrArg (Value.int .i64) (len_fin _ _ _ (by omega) (fun _ _ => ?_) (by decide))
        unfold len64
        (first | rw [if_pos (show 4294967296 ≤ x by omega)] | rw [if_neg (show ¬ 4294967296 ≤ x by omega)])
        unfold lenB
        (first | rw [if_pos (by omega)] | rw [if_neg (by omega)])
        unfold lenC
        (first | rw [if_pos (by omega)] | rw [if_neg (by omega)])
        rfl
theorem len64_lt (x : Nat) (hx : x < 18446744073709551616) : x < 2 ^ len64 x ∧ len64 x ≤ 64 := by
  have key : ∀ y n : Nat, y < 256 → n ≤ 56 → ∀ z, z < 2 ^ n * (y + 1) → z < 2 ^ (n + (lenTab.getD y 0).toNat) ∧ n + (lenTab.getD y 0).toNat ≤ 64 := fun y n hy hn z hz => by
    obtain ⟨h1, h2⟩ := len_tab ⟨y, hy⟩
    simp only at h1 h2
    refine ⟨?_, by omega⟩
    rw [Nat.pow_add]
    exact Nat.lt_of_lt_of_le hz (Nat.mul_le_mul_left _ h1)
  unfold len64 lenB lenC lenD
  repeat' split
  all_goals (refine key _ _ (by omega) (by decide) x ?_; omega)
end Go.Proofs.YtbhlpnbidmnbkaaDoor
