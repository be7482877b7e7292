/-
Package math/bits: two words divided by 2 to the 61 less 1: Div64 and Rem64 at that divisor, by the steps of Knuth's algorithm D.
-/
import Derived.Test.YthkkgphjjmhglaaGreatDoorSetBits
namespace Go.Proofs.YthkkgphjjmhglaaGreatDoor
set_option linter.unusedVariables false
set_option linter.unusedSimpArgs false
open Go.TR
theorem lz61 : IntKind.i64.wrap (64 - 61) = 3 := by decide
theorem es : IntKind.u64.wrap 3 = 3 := by decide
theorem e61 : IntKind.u64.wrap (64 - 3) = 61 := by decide
theorem eV : IntKind.u64.wrap (2305843009213693951 * 2 ^ min (Int.toNat 3) IntKind.u64.bits) = 18446744073709551608 := by decide
theorem ey1 : Int.fdiv 18446744073709551608 (2 ^ min (Int.toNat 32) IntKind.u64.bits) = 4294967295 := by decide
theorem ey0 : IntKind.u64.wrap (((BitVec.ofInt IntKind.u64.bits 18446744073709551608 &&& BitVec.ofInt IntKind.u64.bits 4294967295).toNat : Nat) : Int) = 4294967288 := by decide
attribute [local irreducible] vc vcOps seqK blockK loopK retK retG retI loopV Plain CallOK CallIn bodied VS vcAny dropG backK brK loopPK IntKind.wrap
set_option maxRecDepth 100000
/-- A first guess of a digit, and what it leaves. -/
def Guess (A b : Nat) (p : Nat × Nat) : Prop := p.1 * 4294967295 + p.2 = A ∧ (A * 4294967296 + b) / 18446744073709551608 ≤ p.1 ∧ p.1 ≤ 4294967297 ∧ p.2 < 4294967296 ∧ A < 18446744073709551608 ∧ b < 4294967296
theorem guess_first (A b : Nat) (hA : A < 18446744073709551608) (hb : b < 4294967296) : Guess A b (A / 4294967295, A % 4294967295) := by
  unfold Guess
  simp only
  refine ⟨by omega, by omega, by omega, by omega, hA, hb⟩
theorem guess_false {A b q r : Nat} (h : Guess A b (q, r)) (h2 : q * 4294967288 ≤ r * 4294967296 + b) : q = (A * 4294967296 + b) / 18446744073709551608 := by
  unfold Guess at h
  simp only at h
  omega
theorem guess_next {A b q r : Nat} (h : Guess A b (q, r)) (h1 : 4294967296 ≤ q ∨ r * 4294967296 + b < q * 4294967288) (h2 : r + 4294967295 < 4294967296) : Guess A b (q - 1, r + 4294967295) ∧ 1 ≤ q := by
  unfold Guess at h ⊢
  simp only at h ⊢
  omega
theorem guess_last {A b q r : Nat} (h : Guess A b (q, r)) (h1 : 4294967296 ≤ q ∨ r * 4294967296 + b < q * 4294967288) (h2 : 4294967296 ≤ r + 4294967295) : q - 1 = (A * 4294967296 + b) / 18446744073709551608 ∧ 1 ≤ q := by
  unfold Guess at h
  simp only at h
  omega
theorem guess_mul {A b q r : Nat} (h : Guess A b (q, r)) : q * 4294967288 % 18446744073709551616 = q * 4294967288 ∧ r * 4294967296 % 18446744073709551616 = r * 4294967296 ∧ (r * 4294967296 + b) % 18446744073709551616 = r * 4294967296 + b ∧ (r + 4294967295) % 18446744073709551616 = r + 4294967295 ∧ q < 18446744073709551616 ∧ r < 4294967296 ∧ b < 4294967296 := by
  unfold Guess at h
  simp only at h
  omega
theorem r_shl3 (a : Nat) : IntKind.u64.wrap ((a : Int) * 2 ^ min (Int.toNat 3) IntKind.u64.bits) = ((a * 8 % 18446744073709551616 : Nat) : Int) := by
  have : (2 ^ min (Int.toNat 3) IntKind.u64.bits : Int) = 8 := by decide
  rw [this, u64w]
  omega
theorem r_shr61 (a : Nat) : Int.fdiv (a : Int) (2 ^ min (Int.toNat 61) IntKind.u64.bits) = ((a / 2305843009213693952 : Nat) : Int) := by
  have : (2 ^ min (Int.toNat 61) IntKind.u64.bits : Int) = ((2305843009213693952 : Nat) : Int) := by decide
  rw [this, ← Int.ofNat_fdiv]
theorem r_shr3 (a : Nat) : Int.fdiv (a : Int) (2 ^ min (Int.toNat 3) IntKind.u64.bits) = ((a / 8 : Nat) : Int) := by
  have : (2 ^ min (Int.toNat 3) IntKind.u64.bits : Int) = ((8 : Nat) : Int) := by decide
  rw [this, ← Int.ofNat_fdiv]
theorem r_or (a c : Nat) (ha : a < 2305843009213693952) (hc : c < 8) : IntKind.u64.wrap (((BitVec.ofInt IntKind.u64.bits ((a * 8 % 18446744073709551616 : Nat) : Int) ||| BitVec.ofInt IntKind.u64.bits (c : Int)).toNat : Nat) : Int) = ((a * 8 + c : Nat) : Int) := by
  have h1 : (BitVec.ofInt IntKind.u64.bits ((a * 8 % 18446744073709551616 : Nat) : Int) ||| BitVec.ofInt IntKind.u64.bits (c : Int)).toNat = a * 8 + c := by
    rw [BitVec.toNat_or]
    have e1 : (BitVec.ofInt IntKind.u64.bits ((a * 8 % 18446744073709551616 : Nat) : Int)).toNat = a <<< 3 := by
      rw [Nat.shiftLeft_eq]; simp [IntKind.bits]; omega
    have e2 : (BitVec.ofInt IntKind.u64.bits (c : Int)).toNat = c := by simp [IntKind.bits]; omega
    rw [e1, e2, ← Nat.shiftLeft_add_eq_or_of_lt (show c < 2 ^ 3 by omega), Nat.shiftLeft_eq]
  rw [h1, u64w]
  omega
theorem r_q (a : Nat) (h : a < 18446744073709551616) : IntKind.u64.wrap ((a : Int).tdiv 4294967295) = ((a / 4294967295 : Nat) : Int) := r_quo a 4294967295 h
theorem r_rh (a : Nat) : IntKind.u64.wrap ((a : Int) - IntKind.u64.wrap (((a / 4294967295 : Nat) : Int) * 4294967295)) = ((a % 4294967295 : Nat) : Int) := by rw [u64w, u64w]; omega
theorem r_m0 (a : Nat) : IntKind.u64.wrap ((a : Int) * 4294967288) = ((a * 4294967288 % 18446744073709551616 : Nat) : Int) := by rw [u64w]; omega
theorem r_a1 (a : Nat) : IntKind.u64.wrap ((a : Int) + 4294967295) = (((a + 4294967295) % 18446744073709551616 : Nat) : Int) := by rw [u64w]; omega
theorem r_left (A b q : Nat) (h : q = (A * 4294967296 + b) / 18446744073709551608) : IntKind.u64.wrap (IntKind.u64.wrap (IntKind.u64.wrap ((A : Int) * 4294967296) + (b : Int)) - IntKind.u64.wrap ((q : Int) * 18446744073709551608)) = (((A * 4294967296 + b) % 18446744073709551608 : Nat) : Int) := by
  subst h
  simp only [u64w]
  omega
theorem cond_iff {A b q r : Nat} (h : Guess A b (q, r)) : bpick (decide ((4294967296 : Int) ≤ (q : Int))) true (decide (IntKind.u64.wrap (IntKind.u64.wrap (4294967296 * (r : Int)) + (b : Int)) < IntKind.u64.wrap ((q : Int) * 4294967288))) = true ↔ 4294967296 ≤ q ∨ r * 4294967296 + b < q * 4294967288 := by
  have g := guess_mul h
  rw [bpick_or, r_m0, r_mul32', r_add, g.1, g.2.1, g.2.2.1]
  simp only [Bool.or_eq_true, decide_eq_true_eq]
  omega
theorem rhat_iff {A b q r : Nat} (h : Guess A b (q, r)) : decide ((4294967296 : Int) ≤ IntKind.u64.wrap ((r : Int) + 4294967295)) = true ↔ 4294967296 ≤ r + 4294967295 := by
  have g := guess_mul h
  rw [r_a1, g.2.2.2.1]
  simp only [decide_eq_true_eq]
  omega
theorem lz_ok (F : Hp) : Plain Tryz.prog F 277 [u64 2305843009213693951] (i64 3) := by
  refine plain_vc (N := 6) (rv := [.tmp 2]) tbok mixed Tryz.func277 rfl rfl rfl rfl rfl ?_
  (refine run ?_; repeat intro b)
  refine s_plain (i64 61) rfl rfl rfl bd119 rfl (len64_ok 2305843009213693951 (by decide) F) ?_
  (refine run ?_; repeat intro b)
  exact congrArg (Value.int .i64) lz61
def remM (hi lo : Nat) : Nat := (hi * 18446744073709551616 + lo) % 2305843009213693951
/-- The quotient, as it is reckoned. -/
def divQ (hi lo : Nat) : Int := IntKind.u64.wrap (IntKind.u64.wrap ((((hi * 8 + lo / 2305843009213693952) * 4294967296 + lo * 8 % 18446744073709551616 / 4294967296) / 18446744073709551608 : Nat) * 4294967296) + ((((((hi * 8 + lo / 2305843009213693952) * 4294967296 + lo * 8 % 18446744073709551616 / 4294967296) % 18446744073709551608) * 4294967296 + lo * 8 % 18446744073709551616 % 4294967296) / 18446744073709551608 : Nat) : Int))
set_option maxHeartbeats 1000000 in
theorem div64_ok (hi lo : Nat) (hhi : hi < 2305843009213693951) (hlo : lo < 18446744073709551616) (F : Hp) : ∃ q : Int, Plain Tryz.prog F 271 [u64 hi, u64 lo, u64 2305843009213693951] (pair (u64 q) (u64 (remM hi lo : Nat))) := by
  by_cases h0 : hi = 0
  · subst h0
    refine ⟨((lo / 2305843009213693951 : Nat) : Int), plain_vc (N := 135) (rv := [.tmp 6, .tmp 7]) tbok mixed Tryz.func271 rfl rfl rfl rfl rfl ?_⟩
    (refine run ?_; repeat intro b)
    refine s_regiond (by kernel_rfl) ?_
    (refine run ?_; repeat intro b)
    simp only [tupV]
    have e1 := r_quo lo 2305843009213693951 hlo
    have e2 := r_rem lo 2305843009213693951
    have e3 : remM 0 lo = lo % 2305843009213693951 := by unfold remM; omega
    rw [e3, ← e1, ← e2]
    rfl
  refine ⟨divQ hi lo, plain_vc (N := 135) (rv := [.tmp 6, .tmp 7]) tbok mixed Tryz.func271 rfl rfl rfl rfl rfl ?_⟩
  (refine run ?_; repeat intro b)
  refine s_if _ rfl (fun h => ?_) (fun _ => ?_)
  · simp at h; omega
  (refine run ?_; repeat intro b)
  refine s_if _ rfl (fun h => ?_) (fun _ => ?_)
  · simp at h; omega
  (refine run ?_; repeat intro b)
  refine s_plain (i64 3) rfl rfl rfl bd277 rfl (lz_ok F) ?_
  (refine run ?_; repeat intro b)
  rw [es]
  (refine run ?_; repeat intro b)
  rw [e61]
  (refine run ?_; repeat intro b)
  rw [eV, ey1]
  (refine run ?_; repeat intro b)
  obtain ⟨A, hA⟩ : ∃ A : Nat, A = hi * 8 + lo / 2305843009213693952 := ⟨_, rfl⟩
  obtain ⟨b1, hb1⟩ : ∃ b : Nat, b = lo * 8 % 18446744073709551616 / 4294967296 := ⟨_, rfl⟩
  obtain ⟨b0, hb0⟩ : ∃ b : Nat, b = lo * 8 % 18446744073709551616 % 4294967296 := ⟨_, rfl⟩
  have hA1 : A < 18446744073709551608 := by omega
  have hor := r_or hi (lo / 2305843009213693952) (by omega) (by omega)
  refine s_loopJ 0 (fun p : Nat × Nat => Guess A b1 p) (fun p => ⟨[(2, .v (u64 18446744073709551608)), (8, .v (u64 3)), (9, .v (u64 4294967295)), (10, .v (u64 4294967288)), (11, .v (u64 (A : Nat))), (13, .v (u64 (b1 : Nat))), (14, .v (u64 (b0 : Nat))), (15, .v (u64 (p.1 : Nat))), (16, .v (u64 (p.2 : Nat)))], F, [], 0⟩) (fun p => p.1) (A / 4294967295, A % 4294967295)
    (fun q : Nat => q = (A * 4294967296 + b1) / 18446744073709551608) (fun q => ⟨[(2, .v (u64 18446744073709551608)), (8, .v (u64 3)), (9, .v (u64 4294967295)), (10, .v (u64 4294967288)), (11, .v (u64 (A : Nat))), (13, .v (u64 (b1 : Nat))), (14, .v (u64 (b0 : Nat))), (15, .v (u64 (q : Nat)))], F, [], 0⟩)
    (guess_first A b1 hA1 (by omega)) (VS.keepN [2, 8, 9, 10, 11, 13, 14, 15, 16] rfl ?_) ?_ ?_
  · simp only [ey0, r_shl3, r_shr61, hor, r_shr32, r_and32, ← hA, ← hb1, ← hb0, r_q A (by omega), r_rh A]
  · intro q1 hq1
    (refine run ?_; repeat intro b)
    rw [r_left A b1 q1 hq1]
    obtain ⟨R, hR⟩ : ∃ R : Nat, R = (A * 4294967296 + b1) % 18446744073709551608 := ⟨_, rfl⟩
    rw [← hR]
    have hR1 : R < 18446744073709551608 := by omega
    refine s_loopJ 2 (fun p : Nat × Nat => Guess R b0 p) (fun p => ⟨[(2, .v (u64 18446744073709551608)), (8, .v (u64 3)), (9, .v (u64 4294967295)), (10, .v (u64 4294967288)), (14, .v (u64 (b0 : Nat))), (15, .v (u64 (q1 : Nat))), (17, .v (u64 (R : Nat))), (18, .v (u64 (p.1 : Nat))), (16, .v (u64 (p.2 : Nat)))], F, [], 0⟩) (fun p => p.1) (R / 4294967295, R % 4294967295)
      (fun q : Nat => q = (R * 4294967296 + b0) / 18446744073709551608) (fun q => ⟨[(2, .v (u64 18446744073709551608)), (8, .v (u64 3)), (14, .v (u64 (b0 : Nat))), (15, .v (u64 (q1 : Nat))), (17, .v (u64 (R : Nat))), (18, .v (u64 (q : Nat)))], F, [], 0⟩)
      (guess_first R b0 hR1 (by omega)) (VS.keepN [2, 8, 9, 10, 14, 15, 17, 18, 16] rfl ?_) ?_ ?_
    · simp only [r_q R (by omega), r_rh R]
    · intro q0 hq0
      (refine run ?_; repeat intro b)
      rw [r_left R b0 q0 hq0, r_shr3]
      have hr : (R * 4294967296 + b0) % 18446744073709551608 / 8 = remM hi lo := by unfold remM; omega
      rw [hr]
      simp only [tupV, divQ, ← hA, ← hb1, ← hb0, ← hR, ← hq0, ← hq1]
    · intro ⟨q, r⟩ hg KK2 hn hx hret
      (refine run ?_; repeat intro b)
      refine s_if _ rfl (fun h => ?_) (fun h => ?_)
      · have h1 := (cond_iff hg).1 h
        (refine run ?_; repeat intro b)
        have g3 := guess_mul hg
        refine s_if _ rfl (fun h2 => ?_) (fun h2 => ?_)
        · have h3 := (rhat_iff hg).1 h2
          obtain ⟨g1, g2⟩ := guess_last hg h1 h3
          (refine run ?_; repeat intro b)
          exact hx _ (VS.keepN [2, 8, 14, 15, 17, 18] rfl ⟨q - 1, g1, by rw [r_sub1 q g2 (by omega)]⟩)
        · have h3 : ¬ 4294967296 ≤ r + 4294967295 := fun e => by rw [(rhat_iff hg).2 e] at h2; cases h2
          obtain ⟨g1, g2⟩ := guess_next hg h1 (by omega)
          (refine run ?_; repeat intro b)
          exact hn _ (VSf.of (VS.keepN [2, 8, 9, 10, 14, 15, 17, 18, 16] rfl ⟨(q - 1, r + 4294967295), g1, by rw [r_sub1 q g2 (by omega), r_a1 r, g3.2.2.2.1], Nat.sub_lt g2 Nat.one_pos⟩))
      · have h1 : ¬ (4294967296 ≤ q ∨ r * 4294967296 + b0 < q * 4294967288) := fun e => by rw [(cond_iff hg).2 e] at h; cases h
        (refine run ?_; repeat intro b)
        exact hx _ (VS.keepN [2, 8, 14, 15, 17, 18] rfl ⟨q, guess_false hg (by omega), rfl⟩)
  · intro ⟨q, r⟩ hg KK2 hn hx hret
    (refine run ?_; repeat intro b)
    refine s_if _ rfl (fun h => ?_) (fun h => ?_)
    · have h1 := (cond_iff hg).1 h
      (refine run ?_; repeat intro b)
      have g3 := guess_mul hg
      refine s_if _ rfl (fun h2 => ?_) (fun h2 => ?_)
      · have h3 := (rhat_iff hg).1 h2
        obtain ⟨g1, g2⟩ := guess_last hg h1 h3
        (refine run ?_; repeat intro b)
        exact hx _ (VS.keepN [2, 8, 9, 10, 11, 13, 14, 15] rfl ⟨q - 1, g1, by rw [r_sub1 q g2 (by omega)]⟩)
      · have h3 : ¬ 4294967296 ≤ r + 4294967295 := fun e => by rw [(rhat_iff hg).2 e] at h2; cases h2
        obtain ⟨g1, g2⟩ := guess_next hg h1 (by omega)
        (refine run ?_; repeat intro b)
        exact hn _ (VSf.of (VS.keepN [2, 8, 9, 10, 11, 13, 14, 15, 16] rfl ⟨(q - 1, r + 4294967295), g1, by rw [r_sub1 q g2 (by omega), r_a1 r, g3.2.2.2.1], Nat.sub_lt g2 Nat.one_pos⟩))
    · have h1 : ¬ (4294967296 ≤ q ∨ r * 4294967296 + b1 < q * 4294967288) := fun e => by rw [(cond_iff hg).2 e] at h; cases h
      (refine run ?_; repeat intro b)
      exact hx _ (VS.keepN [2, 8, 9, 10, 11, 13, 14, 15] rfl ⟨q, guess_false hg (by omega), rfl⟩)
theorem rem64_ok (hi lo : Nat) (hlo : lo < 18446744073709551616) (F : Hp) : Plain Tryz.prog F 245 [u64 hi, u64 lo, u64 2305843009213693951] (u64 (remM hi lo : Nat)) := by
  refine plain_vc (N := 19) (rv := [.tmp 6]) tbok mixed Tryz.func245 rfl rfl rfl rfl rfl ?_
  (refine run ?_; repeat intro b)
  obtain ⟨q, hq⟩ := div64_ok (hi % 2305843009213693951) lo (Nat.mod_lt _ (by decide)) hlo F
  have e : ((hi : Int).tmod 2305843009213693951) = ((hi % 2305843009213693951 : Nat) : Int) := r_rem hi 2305843009213693951
  rw [e]
  refine s_plain _ rfl rfl rfl bd271 rfl hq ?_
  (refine run ?_; repeat intro b)
  have e2 : remM (hi % 2305843009213693951) lo = remM hi lo := by unfold remM; omega
  rw [e2]
  rfl
end Go.Proofs.YthkkgphjjmhglaaGreatDoor
