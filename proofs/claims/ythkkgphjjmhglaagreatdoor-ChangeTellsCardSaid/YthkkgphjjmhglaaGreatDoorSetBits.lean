/-
Asks, plainly; what is wrong with a name and a value: the walks.
-/
import Derived.Test.YthkkgphjjmhglaaGreatDoorIdxFunc
import Derived.Test.YthkkgphjjmhglaaGreatDoorBase
/-!
Asks, plainly; what is wrong with a name and a value: the walks.
-/
namespace Go.Proofs.YthkkgphjjmhglaaGreatDoor
set_option linter.unusedVariables false
set_option linter.unusedSimpArgs false
open Go.TR
/-- An ask. -/
structure Ask where
  name : List UInt8
  value : List UInt8
  n : Nat
  tag : Nat
deriving DecidableEq
@[reducible] def Ask.cells (a : Ask) : List Value := [S a.name, S a.value, u64 (a.n : Nat), u64 (a.tag : Nat)]
@[reducible] def Ask.v (a : Ask) : Value := .agg #[S a.name, S a.value, u64 (a.n : Nat), u64 (a.tag : Nat)]
def Ask.none : Ask := ⟨[], [], 0, 0⟩
structure Ask.wf (a : Ask) : Prop where
  name : a.name.length ≤ 4611686018427387904
  value : a.value.length ≤ 4611686018427387904
  n : a.n < 18446744073709551616
  tag : a.tag < 18446744073709551616
def askFault (name value : List UInt8) : Int := if goodName name = true then (if 20 < value.length then 2 else 0) else 3
theorem askFault_zero {name value : List UInt8} (h : askFault name value = 0) : goodName name = true ∧ value.length ≤ 20 := by
  unfold askFault at h
  split at h
  · rename_i h1
    split at h
    · cases h
    · exact ⟨h1, by omega⟩
  · cases h
theorem goodName_len {s : List UInt8} (h : goodName s = true) : s.length ≤ 12 := by
  unfold goodName at h
  simp at h
  exact h.1.2
attribute [local irreducible] vc vcOps seqK blockK loopK retK retG retI loopV Plain CallOK CallIn bodied VS vcAny dropG backK brK loopPK IntKind.wrap
set_option maxRecDepth 100000
theorem askfault_ok (name value : List UInt8) (hn : name.length ≤ 4611686018427387904) (F : Hp) : Plain Tryz.prog F 32 [S name, S value] (i64 (askFault name value)) := by
  refine plain_vc (N := 11) (rv := [.tmp 4]) tbok mixed Tryz.func32 rfl rfl rfl rfl rfl ?_
  (refine run ?_; repeat intro b)
  refine s_plain _ rfl rfl rfl bd15 rfl (goodname_ok name hn F) ?_
  (refine run ?_; repeat intro b)
  refine s_if (!goodName name) rfl (fun h => ?_) (fun h => ?_)
  · have h2 : ¬ goodName name = true := by simpa using h
    (refine run ?_; repeat intro b)
    simp only [tupV, askFault, if_neg h2]
  · have h2 : goodName name = true := by simpa using h
    (refine run ?_; repeat intro b)
    refine s_if (decide (20 < value.length)) ?_ (fun h3 => ?_) (fun h3 => ?_)
    · refine congrArg (fun b => some (EV.v (.bool b))) ?_
      rw [decide_eq_decide, bl_S]; omega
    · have h4 : 20 < value.length := by simpa using h3
      (refine run ?_; repeat intro b)
      simp only [tupV, askFault, if_pos h2, if_pos h4]
    · have h4 : ¬ 20 < value.length := by simpa using h3
      (refine run ?_; repeat intro b)
      simp only [tupV, askFault, if_pos h2, if_neg h4]
end Go.Proofs.YthkkgphjjmhglaaGreatDoor
/-!
Plain arithmetic of the machine's integers: sums, products, shifts and masks of unsigned numbers of 64 bits, told in natural numbers; the product in two words; the division of two words by one.
-/
namespace Go.Proofs.YthkkgphjjmhglaaGreatDoor
set_option linter.unusedVariables false
set_option linter.unusedSimpArgs false
open Go.TR
theorem u64w (n : Int) : IntKind.u64.wrap n = n % 18446744073709551616 := by
  simp [IntKind.wrap, IntKind.bits, IntKind.signed]
theorem u8w (n : Int) : IntKind.u8.wrap n = n % 256 := by
  simp [IntKind.wrap, IntKind.bits, IntKind.signed]
theorem r_add (a b : Nat) : IntKind.u64.wrap ((a : Int) + (b : Int)) = (((a + b) % 18446744073709551616 : Nat) : Int) := by rw [u64w]; omega
theorem r_mul (a b : Nat) : IntKind.u64.wrap ((a : Int) * (b : Int)) = (((a * b) % 18446744073709551616 : Nat) : Int) := by rw [u64w, ← Int.natCast_mul]; omega
theorem r_mul2 (a : Nat) : IntKind.u64.wrap (2 * (a : Int)) = (((2 * a) % 18446744073709551616 : Nat) : Int) := by rw [u64w]; omega
theorem r_mul32' (a : Nat) : IntKind.u64.wrap (4294967296 * (a : Int)) = (((a * 4294967296) % 18446744073709551616 : Nat) : Int) := by rw [u64w]; omega
theorem r_sub1 (a : Nat) (h : 1 ≤ a) (h2 : a < 18446744073709551616) : IntKind.u64.wrap ((a : Int) - 1) = ((a - 1 : Nat) : Int) := by rw [u64w]; omega
theorem r_quo (a b : Nat) (h : a < 18446744073709551616) : IntKind.u64.wrap ((a : Int).tdiv (b : Int)) = ((a / b : Nat) : Int) := by
  have e : (a : Int).tdiv (b : Int) = ((a / b : Nat) : Int) := (Int.ofNat_tdiv a b).symm
  rw [e, u64w]
  have : a / b ≤ a := Nat.div_le_self _ _
  generalize a / b = q at *
  omega
theorem r_rem (a b : Nat) : (a : Int).tmod (b : Int) = ((a % b : Nat) : Int) := Int.ofNat_tmod a b ▸ rfl
theorem r_shr32 (a : Nat) : Int.fdiv (a : Int) (2 ^ min (Int.toNat 32) IntKind.u64.bits) = ((a / 4294967296 : Nat) : Int) := by
  have : (2 ^ min (Int.toNat 32) IntKind.u64.bits : Int) = ((4294967296 : Nat) : Int) := by decide
  rw [this, ← Int.ofNat_fdiv]
theorem r_shr16 (a : Nat) : Int.fdiv (a : Int) (2 ^ min (Int.toNat 16) IntKind.u64.bits) = ((a / 65536 : Nat) : Int) := by
  have : (2 ^ min (Int.toNat 16) IntKind.u64.bits : Int) = ((65536 : Nat) : Int) := by decide
  rw [this, ← Int.ofNat_fdiv]
theorem r_shr8 (a : Nat) : Int.fdiv (a : Int) (2 ^ min (Int.toNat 8) IntKind.u64.bits) = ((a / 256 : Nat) : Int) := by
  have : (2 ^ min (Int.toNat 8) IntKind.u64.bits : Int) = ((256 : Nat) : Int) := by decide
  rw [this, ← Int.ofNat_fdiv]
theorem r_and32 (a : Nat) : IntKind.u64.wrap (((BitVec.ofInt IntKind.u64.bits (a : Int) &&& BitVec.ofInt IntKind.u64.bits 4294967295).toNat : Nat) : Int) = ((a % 4294967296 : Nat) : Int) := by
  have h1 : (BitVec.ofInt IntKind.u64.bits (a : Int) &&& BitVec.ofInt IntKind.u64.bits 4294967295).toNat = a % 4294967296 := by
    rw [BitVec.toNat_and]
    have e1 : (BitVec.ofInt IntKind.u64.bits (a : Int)).toNat = a % 18446744073709551616 := by simp [IntKind.bits]
    have e2 : (BitVec.ofInt IntKind.u64.bits 4294967295).toNat = 2 ^ 32 - 1 := by decide
    rw [e1, e2, Nat.and_two_pow_sub_one_eq_mod]
    omega
  rw [h1, u64w]
  omega
theorem mul_split (x y : Nat) : x * y = (x / 4294967296) * (y / 4294967296) * 18446744073709551616 + ((x / 4294967296) * (y % 4294967296) + (x % 4294967296) * (y / 4294967296)) * 4294967296 + (x % 4294967296) * (y % 4294967296) := by
  have hx : x = (x / 4294967296) * 4294967296 + x % 4294967296 := by omega
  have hy : y = (y / 4294967296) * 4294967296 + y % 4294967296 := by omega
  generalize x / 4294967296 = x1 at *
  generalize x % 4294967296 = x0 at *
  generalize y / 4294967296 = y1 at *
  generalize y % 4294967296 = y0 at *
  subst hx hy
  grind
theorem mul_lt32 {a b : Nat} (ha : a < 4294967296) (hb : b < 4294967296) : a * b ≤ 18446744065119617025 := by
  have := Nat.mul_le_mul (show a ≤ 4294967295 by omega) (show b ≤ 4294967295 by omega)
  omega
theorem mul_hi (x y : Nat) (hx : x < 18446744073709551616) (hy : y < 18446744073709551616) :
    (((x / 4294967296 * (y / 4294967296)) % 18446744073709551616 + ((x / 4294967296 * (y % 4294967296) % 18446744073709551616 + x % 4294967296 * (y % 4294967296) % 18446744073709551616 / 4294967296) % 18446744073709551616) / 4294967296) % 18446744073709551616 +
      ((((x / 4294967296 * (y % 4294967296) % 18446744073709551616 + x % 4294967296 * (y % 4294967296) % 18446744073709551616 / 4294967296) % 18446744073709551616) % 4294967296 + (x % 4294967296 * (y / 4294967296)) % 18446744073709551616) % 18446744073709551616) / 4294967296) % 18446744073709551616 = x * y / 18446744073709551616 := by
  rw [mul_split x y]
  have h1 := mul_lt32 (a := x / 4294967296) (b := y / 4294967296) (by omega) (by omega)
  have h2 := mul_lt32 (a := x / 4294967296) (b := y % 4294967296) (by omega) (by omega)
  have h3 := mul_lt32 (a := x % 4294967296) (b := y / 4294967296) (by omega) (by omega)
  have h4 := mul_lt32 (a := x % 4294967296) (b := y % 4294967296) (by omega) (by omega)
  generalize x / 4294967296 * (y / 4294967296) = A at *
  generalize x / 4294967296 * (y % 4294967296) = B at *
  generalize x % 4294967296 * (y / 4294967296) = C at *
  generalize x % 4294967296 * (y % 4294967296) = D at *
  omega
end Go.Proofs.YthkkgphjjmhglaaGreatDoor
/-!
Package math/bits: the product in two words; how many bits a number has.
-/
namespace Go.Proofs.YthkkgphjjmhglaaGreatDoor
set_option linter.unusedVariables false
set_option linter.unusedSimpArgs false
open Go.TR
attribute [local irreducible] vc vcOps seqK blockK loopK retK retG retI loopV Plain CallOK CallIn bodied VS vcAny dropG backK brK loopPK
set_option maxRecDepth 100000
theorem mul64_ok (x y : Nat) (hx : x < 18446744073709551616) (hy : y < 18446744073709551616) (F : Hp) : Plain Tryz.prog F 215 [u64 x, u64 y] (pair (u64 (x * y / 18446744073709551616 : Nat)) (u64 (x * y % 18446744073709551616 : Nat))) := by
  refine plain_vc (N := 51) (rv := [.tmp 4, .tmp 5]) tbok mixed Tryz.func215 rfl rfl rfl rfl rfl ?_
  (refine run ?_; repeat intro b)
  simp only [tupV, r_and32, r_shr32, r_mul, r_add, mul_hi x y hx hy]
/-- The table of bytes' lengths. -/
def lenTab : List UInt8 := [0, 1, 2, 2, 3, 3, 3, 3, 4, 4, 4, 4, 4, 4, 4, 4, 5, 5, 5, 5, 5, 5, 5, 5, 5, 5, 5, 5, 5, 5, 5, 5, 6, 6, 6, 6, 6, 6, 6, 6, 6, 6, 6, 6, 6, 6, 6, 6, 6, 6, 6, 6, 6, 6, 6, 6, 6, 6, 6, 6, 6, 6, 6, 6, 7, 7, 7, 7, 7, 7, 7, 7, 7, 7, 7, 7, 7, 7, 7, 7, 7, 7, 7, 7, 7, 7, 7, 7, 7, 7, 7, 7, 7, 7, 7, 7, 7, 7, 7, 7, 7, 7, 7, 7, 7, 7, 7, 7, 7, 7, 7, 7, 7, 7, 7, 7, 7, 7, 7, 7, 7, 7, 7, 7, 7, 7, 7, 7, 8, 8, 8, 8, 8, 8, 8, 8, 8, 8, 8, 8, 8, 8, 8, 8, 8, 8, 8, 8, 8, 8, 8, 8, 8, 8, 8, 8, 8, 8, 8, 8, 8, 8, 8, 8, 8, 8, 8, 8, 8, 8, 8, 8, 8, 8, 8, 8, 8, 8, 8, 8, 8, 8, 8, 8, 8, 8, 8, 8, 8, 8, 8, 8, 8, 8, 8, 8, 8, 8, 8, 8, 8, 8, 8, 8, 8, 8, 8, 8, 8, 8, 8, 8, 8, 8, 8, 8, 8, 8, 8, 8, 8, 8, 8, 8, 8, 8, 8, 8, 8, 8, 8, 8, 8, 8, 8, 8, 8, 8, 8, 8, 8, 8, 8, 8, 8, 8, 8, 8, 8, 8, 8, 8, 8, 8, 8, 8]
theorem len_tab : ∀ i : Fin 256, i.val < 2 ^ (lenTab.getD i.val 0).toNat ∧ (lenTab.getD i.val 0).toNat ≤ 8 := by decide
def lenD (x n : Nat) : Nat := n + (lenTab.getD x 0).toNat
def lenC (x n : Nat) : Nat := if 256 ≤ x then lenD (x / 256) (n + 8) else lenD x n
def lenB (x n : Nat) : Nat := if 65536 ≤ x then lenC (x / 65536) (n + 16) else lenC x n
def len64 (x : Nat) : Nat := if 4294967296 ≤ x then lenB (x / 4294967296) 32 else lenB x 0
theorem u8_in (e : Int) : 0 ≤ IntKind.u8.wrap e ∧ IntKind.u8.wrap e < ((bl (mkB lenTab)).length : Nat) := by
  have : ((bl (mkB lenTab)).length : Nat) = 256 := by decide
  rw [this, u8w]
  omega
theorem len_fin (n y m : Nat) (hy : y < 256) (h : IntKind.u8.wrap (y : Int) = (y : Int) → (bl (mkB lenTab)).getD (y : Int).toNat 0 = lenTab.getD y 0 → n + (lenTab.getD y 0).toNat = m) (hn : n ≤ 64) : IntKind.i64.wrap ((n : Int) + IntKind.i64.wrap ((((bl (mkB lenTab)).getD (IntKind.u8.wrap (y : Int)).toNat 0).toNat : Nat) : Int)) = ((m : Nat) : Int) := by
  have e1 : IntKind.u8.wrap (y : Int) = (y : Int) := by rw [u8w]; omega
  have e2 : (bl (mkB lenTab)).getD (y : Int).toNat 0 = lenTab.getD y 0 := rfl
  have e3 := (len_tab ⟨y, hy⟩).2
  have e4 := h e1 e2
  simp only at e3
  rw [e1, e2, wrap_i64 (n := ((lenTab.getD y 0).toNat : Int)) (by omega) (by omega), wrap_i64 (by omega) (by omega), ← e4]
  omega
set_option maxHeartbeats 1000000 in
theorem len64_ok (x : Nat) (hx : x < 18446744073709551616) (F : Hp) : Plain Tryz.prog F 119 [u64 x] (i64 (len64 x : Nat)) := by
  refine plain_vc (N := 25) (rv := [.tmp 2]) tbok mixed Tryz.func119 rfl rfl rfl rfl rfl ?_
  (refine run ?_; repeat intro b)
  refine s_if _ rfl (fun h => ?_) (fun h => ?_)
  all_goals
    (refine run ?_; repeat intro b)
    try rw [r_shr32]
    refine s_if _ rfl (fun h2 => ?_) (fun h2 => ?_)
    all_goals
      (refine run ?_; repeat intro b)
      try rw [r_shr16]
      refine s_if _ rfl (fun h3 => ?_) (fun h3 => ?_)
      all_goals
        (refine run ?_; repeat intro b)
        try rw [r_shr8]
        refine s_pureO rfl rfl rfl (u8_in _) ?_
        (refine run ?_; repeat intro b)
        simp only [decide_eq_true_eq, decide_eq_false_iff_not] at h h2 h3
        refine congrArg (Value.int .i64) (len_fin _ _ _ (by omega) (fun _ _ => ?_) (by decide))
        unfold len64
        (first | rw [if_pos (show 4294967296 ≤ x by omega)] | rw [if_neg (show ¬ 4294967296 ≤ x by omega)])
        unfold lenB
        (first | rw [if_pos (by omega)] | rw [if_neg (by omega)])
        unfold lenC
        (first | rw [if_pos (by omega)] | rw [if_neg (by omega)])
        rfl
theorem len64_lt (x : Nat) (hx : x < 18446744073709551616) : x < 2 ^ len64 x ∧ len64 x ≤ 64 := by
  have key : ∀ y n : Nat, y < 256 → n ≤ 56 → ∀ z, z < 2 ^ n * (y + 1) → z < 2 ^ (n + (lenTab.getD y 0).toNat) ∧ n + (lenTab.getD y 0).toNat ≤ 64 := fun y n hy hn z hz => by
    obtain ⟨h1, h2⟩ := len_tab ⟨y, hy⟩
    simp only at h1 h2
    refine ⟨?_, by omega⟩
    rw [Nat.pow_add]
    exact Nat.lt_of_lt_of_le hz (Nat.mul_le_mul_left _ h1)
  unfold len64 lenB lenC lenD
  repeat' split
  all_goals (refine key _ _ (by omega) (by decide) x ?_; omega)
end Go.Proofs.YthkkgphjjmhglaaGreatDoor
