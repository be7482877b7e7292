/-
Plain arithmetic of the machine's integers: sums, products, shifts and masks of unsigned numbers of 64 bits, told in natural numbers; the product in two words; the division of two words by one.
-/
import Derived.Test.YthkmfihbpbehfaaBase
namespace Go.Proofs.Ythkmfihbpbehfaa
set_option linter.unusedVariables false
set_option linter.unusedSimpArgs false
open Go.TR
theorem u64w (n : Int) : IntKind.u64.wrap n = n % 18446744073709551616 := by
  simp [IntKind.wrap, IntKind.bits, IntKind.signed]
theorem u8w (n : Int) : IntKind.u8.wrap n = n % 256 := by
  simp [IntKind.wrap, IntKind.bits, IntKind.signed]
theorem r_nat (a : Nat) : IntKind.u64.wrap (a : Int) = ((a % 18446744073709551616 : Nat) : Int) := by rw [u64w]; omega
theorem r_add (a b : Nat) : IntKind.u64.wrap ((a : Int) + (b : Int)) = (((a + b) % 18446744073709551616 : Nat) : Int) := by rw [u64w]; omega
theorem r_add1 (a : Nat) : IntKind.u64.wrap ((a : Int) + 1) = (((a + 1) % 18446744073709551616 : Nat) : Int) := by rw [u64w]; omega
theorem r_mul (a b : Nat) : IntKind.u64.wrap ((a : Int) * (b : Int)) = (((a * b) % 18446744073709551616 : Nat) : Int) := by rw [u64w, ← Int.natCast_mul]; omega
theorem r_mul2 (a : Nat) : IntKind.u64.wrap (2 * (a : Int)) = (((2 * a) % 18446744073709551616 : Nat) : Int) := by rw [u64w]; omega
theorem r_mul32 (a : Nat) : IntKind.u64.wrap ((a : Int) * 4294967296) = (((a * 4294967296) % 18446744073709551616 : Nat) : Int) := by rw [u64w]; omega
theorem r_mul32' (a : Nat) : IntKind.u64.wrap (4294967296 * (a : Int)) = (((a * 4294967296) % 18446744073709551616 : Nat) : Int) := by rw [u64w]; omega
theorem r_sub (a b : Nat) : IntKind.u64.wrap ((a : Int) - (b : Int)) = (((a + (18446744073709551616 - b % 18446744073709551616)) % 18446744073709551616 : Nat) : Int) := by rw [u64w]; omega
theorem r_sub1 (a : Nat) (h : 1 ≤ a) (h2 : a < 18446744073709551616) : IntKind.u64.wrap ((a : Int) - 1) = ((a - 1 : Nat) : Int) := by rw [u64w]; omega
theorem r_quo (a b : Nat) (h : a < 18446744073709551616) : IntKind.u64.wrap ((a : Int).tdiv (b : Int)) = ((a / b : Nat) : Int) := by
  have e : (a : Int).tdiv (b : Int) = ((a / b : Nat) : Int) := (Int.ofNat_tdiv a b).symm
  rw [e, u64w]
  have : a / b ≤ a := Nat.div_le_self _ _
  generalize a / b = q at *
  omega
theorem r_rem (a b : Nat) : (a : Int).tmod (b : Int) = ((a % b : Nat) : Int) := Int.ofNat_tmod a b ▸ rfl
theorem r_shr32 (a : Nat) : Int.fdiv (a : Int) (2 ^ min (Int.toNat 32) IntKind.u64.bits) = ((a / 4294967296 : Nat) : Int) := by
  have : (2 ^ min (Int.toNat 32) IntKind.u64.bits : Int) = ((4294967296 : Nat) : Int) := by decide
  rw [this, ← Int.ofNat_fdiv]
theorem r_shr16 (a : Nat) : Int.fdiv (a : Int) (2 ^ min (Int.toNat 16) IntKind.u64.bits) = ((a / 65536 : Nat) : Int) := by
  have : (2 ^ min (Int.toNat 16) IntKind.u64.bits : Int) = ((65536 : Nat) : Int) := by decide
  rw [this, ← Int.ofNat_fdiv]
theorem r_shr8 (a : Nat) : Int.fdiv (a : Int) (2 ^ min (Int.toNat 8) IntKind.u64.bits) = ((a / 256 : Nat) : Int) := by
  have : (2 ^ min (Int.toNat 8) IntKind.u64.bits : Int) = ((256 : Nat) : Int) := by decide
  rw [this, ← Int.ofNat_fdiv]
theorem r_and32 (a : Nat) : IntKind.u64.wrap (((BitVec.ofInt IntKind.u64.bits (a : Int) &&& BitVec.ofInt IntKind.u64.bits 4294967295).toNat : Nat) : Int) = ((a % 4294967296 : Nat) : Int) := by
  have h1 : (BitVec.ofInt IntKind.u64.bits (a : Int) &&& BitVec.ofInt IntKind.u64.bits 4294967295).toNat = a % 4294967296 := by
    rw [BitVec.toNat_and]
    have e1 : (BitVec.ofInt IntKind.u64.bits (a : Int)).toNat = a % 18446744073709551616 := by simp [IntKind.bits]
    have e2 : (BitVec.ofInt IntKind.u64.bits 4294967295).toNat = 2 ^ 32 - 1 := by decide
    rw [e1, e2, Nat.and_two_pow_sub_one_eq_mod]
    omega
  rw [h1, u64w]
  omega
theorem mul_split (x y : Nat) : x * y = (x / 4294967296) * (y / 4294967296) * 18446744073709551616 + ((x / 4294967296) * (y % 4294967296) + (x % 4294967296) * (y / 4294967296)) * 4294967296 + (x % 4294967296) * (y % 4294967296) := by
  have hx : x = (x / 4294967296) * 4294967296 + x % 4294967296 := by omega
  have hy : y = (y / 4294967296) * 4294967296 + y % 4294967296 := by omega
  generalize x / 4294967296 = x1 at *
  generalize x % 4294967296 = x0 at *
  generalize y / 4294967296 = y1 at *
  generalize y % 4294967296 = y0 at *
  subst hx hy
  grind
theorem mul_lt32 {a b : Nat} (ha : a < 4294967296) (hb : b < 4294967296) : a * b ≤ 18446744065119617025 := by
  have := Nat.mul_le_mul (show a ≤ 4294967295 by omega) (show b ≤ 4294967295 by omega)
  omega
theorem mul_hi (x y : Nat) (hx : x < 18446744073709551616) (hy : y < 18446744073709551616) :
    (((x / 4294967296 * (y / 4294967296)) % 18446744073709551616 + ((x / 4294967296 * (y % 4294967296) % 18446744073709551616 + x % 4294967296 * (y % 4294967296) % 18446744073709551616 / 4294967296) % 18446744073709551616) / 4294967296) % 18446744073709551616 +
      ((((x / 4294967296 * (y % 4294967296) % 18446744073709551616 + x % 4294967296 * (y % 4294967296) % 18446744073709551616 / 4294967296) % 18446744073709551616) % 4294967296 + (x % 4294967296 * (y / 4294967296)) % 18446744073709551616) % 18446744073709551616) / 4294967296) % 18446744073709551616 = x * y / 18446744073709551616 := by
  rw [mul_split x y]
  have h1 := mul_lt32 (a := x / 4294967296) (b := y / 4294967296) (by omega) (by omega)
  have h2 := mul_lt32 (a := x / 4294967296) (b := y % 4294967296) (by omega) (by omega)
  have h3 := mul_lt32 (a := x % 4294967296) (b := y / 4294967296) (by omega) (by omega)
  have h4 := mul_lt32 (a := x % 4294967296) (b := y % 4294967296) (by omega) (by omega)
  generalize x / 4294967296 * (y / 4294967296) = A at *
  generalize x / 4294967296 * (y % 4294967296) = B at *
  generalize x % 4294967296 * (y / 4294967296) = C at *
  generalize x % 4294967296 * (y % 4294967296) = D at *
  omega
end Go.Proofs.Ythkmfihbpbehfaa
