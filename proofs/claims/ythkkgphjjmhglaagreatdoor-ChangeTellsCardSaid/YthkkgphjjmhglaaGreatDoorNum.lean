/-
Numbers as bytes: package wire's Num, and the reference's.
-/
import Derived.Test.YthkkgphjjmhglaaGreatDoorSetMark2
namespace Go.Proofs.YthkkgphjjmhglaaGreatDoor
set_option linter.unusedVariables false
set_option linter.unusedSimpArgs false
open Go.TR
/-- A byte of a number, shifted down. -/
theorem byte_val (n : Nat) (j s : Nat) (hs : s = 8 * j) (hj : j ≤ 7) : IntKind.u8.wrap (Int.fdiv (n : Int) (2 ^ min (Int.toNat (s : Int)) IntKind.u64.bits)) = (((UInt8.ofNat (n / 256 ^ j % 256)).toNat : Nat) : Int) := by
  subst hs
  have e1 : min (Int.toNat ((8 * j : Nat) : Int)) IntKind.u64.bits = 8 * j := by simp [IntKind.bits]; omega
  have e2 : (2 ^ (8 * j) : Int) = ((256 ^ j : Nat) : Int) := by
    rw [Int.pow_mul, show (2 ^ 8 : Int) = 256 from by decide]; exact (Int.natCast_pow 256 j).symm
  rw [e1, e2, u8w, ← Int.ofNat_fdiv]
  have e3 : (UInt8.ofNat (n / 256 ^ j % 256)).toNat = n / 256 ^ j % 256 := by
    rw [UInt8.toNat_ofNat']
    omega
  rw [e3]
  generalize n / 256 ^ j = x
  omega
theorem lowB_get : ∀ (k n i : Nat) (h : i < k), (lowB k n)[i]'(by rw [lowB_length]; exact h) = UInt8.ofNat (n / 256 ^ (k - 1 - i) % 256)
  | k + 1, n, 0, _ => by simp [lowB]
  | k + 1, n, i + 1, h => by
    simp only [lowB, List.getElem_cons_succ]
    rw [lowB_get k n i (by omega)]
    congr 4
    omega
def numE (n : Nat) : List EV := (num n).map fun b => .v (u8 (b.toNat : Nat))
def zer8 : List EV := [.v (u8 0), .v (u8 0), .v (u8 0), .v (u8 0), .v (u8 0), .v (u8 0), .v (u8 0), .v (u8 0)]
theorem numE_length (n : Nat) : (numE n).length = 8 := by unfold numE; rw [List.length_map, num_length]
theorem numE_get (n k : Nat) (h : k < 8) : (numE n)[k]'(by rw [numE_length]; exact h) = .v (u8 ((UInt8.ofNat (n / 256 ^ (7 - k) % 256)).toNat : Nat)) := by
  unfold numE num
  rw [List.getElem_map, lowB_get 8 n k h]
attribute [local irreducible] vc vcOps seqK blockK loopK retK retG retI loopV Plain CallOK CallIn bodied VS vcAny dropG backK brK loopPK IntKind.wrap
set_option maxRecDepth 100000
theorem wirenum_ok (n : Nat) (F : Hp) : Plain Tryz.prog F 232 [u64 n] (S (num n)) := by
  refine plain_vc (N := 19) (rv := [.tmp 2]) tbok mixed Tryz.func232 rfl rfl rfl rfl rfl ?_
  (refine run ?_; repeat intro b)
  refine s_loopP (fun k : Nat => k ≤ 8) (fun k => ⟨[(0, .v (u64 (n : Nat))), (3, .loc 0 0), (5, .v (i64 (k : Nat)))], F, [(0, ⟨some b, (numE n).take k ++ zer8.drop k, 329, 8⟩)], 1⟩) (fun k => 8 - k) 0 (by decide) (VS.keepN [0, 3, 5] rfl rfl) ?_
  intro k hk
  (refine run ?_; repeat intro b)
  refine s_if _ rfl (fun h => ?_) (fun h => ?_)
  · have hlt : k < 8 := by simp at h; omega
    (refine run ?_; repeat intro b)
    have e1 : IntKind.i64.wrap (56 - IntKind.i64.wrap (8 * (k : Int))) = ((8 * (7 - k) : Nat) : Int) := by
      rw [wrap_i64 (n := 8 * (k : Int)) (by omega) (by omega), wrap_i64 (by omega) (by omega)]
      omega
    rw [e1]
    refine s_pureO rfl rfl rfl (by omega) ?_
    (refine run ?_; repeat intro b)
    rw [byte_val n (7 - k) _ rfl (by omega)]
    refine s_pureO rfl rfl rfl ⟨by omega, by omega⟩ ?_
    have hl1 : (numE n).length = zer8.length := numE_length n
    have hk1 : k < (numE n).length := by rw [numE_length]; exact hlt
    have hidx : (0 + ((k : Int).toNat) * 1) = k := by omega
    have hlen : ((numE n).take k ++ zer8.drop k).length = 8 := by
      rw [List.length_append, List.length_take, List.length_drop, numE_length]
      have : zer8.length = 8 := rfl
      omega
    refine s_storeX ((numE n).take (k + 1) ++ zer8.drop (k + 1)) rfl rfl rfl rfl rfl rfl ?_ ?_ rfl ?_
    · show 0 + ((k : Int).toNat) * 1 + 1 ≤ ((numE n).take k ++ zer8.drop k).length
      rw [hlen]; omega
    · show ((numE n).take k ++ zer8.drop k).take (0 + ((k : Int).toNat) * 1) ++ [_] ++ ((numE n).take k ++ zer8.drop k).drop (0 + ((k : Int).toNat) * 1 + 1) = _
      rw [hidx, ← fill_step (numE n) zer8 hl1 k hk1, numE_get n k hlt]
    (refine run ?_; repeat intro b)
    rw [wrap_succ (by omega)]
    exact s_loopPn (k + 1) hlt (by omega) (VS.keepN [0, 3, 5] rfl rfl)
  · have hge : k = 8 := by simp at h; omega
    subst hge
    (refine run ?_; repeat intro b)
    have hc : (numE n).take 8 ++ zer8.drop 8 = numE n := by
      have : (numE n).length = 8 := numE_length n
      rw [List.take_of_length_le (by omega)]
      show numE n ++ [] = _
      rw [List.append_nil]
    rw [hc]
    refine s_strR (num n) rfl rfl rfl rfl ?_ ?_ ?_
    · rw [numE_length]; exact Nat.le_refl 8
    · rw [List.take_of_length_le (by rw [numE_length]; exact Nat.le_refl 8)]; rfl
    (refine run ?_; repeat intro b)
    rfl
theorem refnum_ok (n : Nat) (hn : n < 18446744073709551616) (F : Hp) : Plain Tryz.prog F 143 [u64 n] (S (num n)) := by
  refine plain_vc (N := 17) (rv := [.tmp 2]) tbok mixed Tryz.func143 rfl rfl rfl rfl rfl ?_
  (refine run ?_; repeat intro b)
  refine s_loopP (fun k : Nat => k ≤ 8) (fun k => ⟨[(0, .v (u64 (n / 256 ^ k : Nat))), (3, .v (S (lowB k n))), (4, .v (i64 (k : Nat)))], F, [], 0⟩) (fun k => 8 - k) 0 (by decide) (VS.keepN [0, 3, 4] rfl ?_) ?_
  · rw [Nat.pow_zero, Nat.div_one]; rfl
  intro k hk
  (refine run ?_; repeat intro b)
  refine s_if _ rfl (fun h => ?_) (fun h => ?_)
  · have hlt : k < 8 := by simp at h; omega
    (refine run ?_; repeat intro b)
    have e1 : IntKind.u8.wrap (((n / 256 ^ k : Nat) : Int).tmod 256) = (((UInt8.ofNat (n / 256 ^ k % 256)).toNat : Nat) : Int) := by
      have e : ((n / 256 ^ k : Nat) : Int).tmod 256 = ((n / 256 ^ k % 256 : Nat) : Int) := r_rem (n / 256 ^ k) 256
      rw [e, u8w, UInt8.toNat_ofNat']
      omega
    rw [e1]
    refine s_strR [UInt8.ofNat (n / 256 ^ k % 256)] rfl rfl rfl rfl (Nat.le_refl 1) rfl ?_
    (refine run ?_; repeat intro b)
    refine s_pureO rfl rfl rfl (by simp only [bl_S, lowB_length, List.length_cons, List.length_nil]; unfold maxInt; omega) ?_
    (refine run ?_; repeat intro b)
    have hlt2 : n / 256 ^ k < 18446744073709551616 := Nat.lt_of_le_of_lt (Nat.div_le_self _ _) hn
    have e2 : IntKind.u64.wrap (((n / 256 ^ k : Nat) : Int).tdiv 256) = ((n / 256 ^ (k + 1) : Nat) : Int) := by
      have e : IntKind.u64.wrap (((n / 256 ^ k : Nat) : Int).tdiv 256) = ((n / 256 ^ k / 256 : Nat) : Int) := r_quo (n / 256 ^ k) 256 hlt2
      rw [e, Nat.div_div_eq_div_mul, Nat.pow_succ]
    rw [wrap_succ (by omega), e2]
    exact s_loopPc (k + 1) [0] [0, 3, 4] hlt (by omega) rfl rfl rfl rfl trivial rfl
  · have hge : k = 8 := by simp at h; omega
    subst hge
    (refine run ?_; repeat intro b)
    rfl
end Go.Proofs.YthkkgphjjmhglaaGreatDoor
