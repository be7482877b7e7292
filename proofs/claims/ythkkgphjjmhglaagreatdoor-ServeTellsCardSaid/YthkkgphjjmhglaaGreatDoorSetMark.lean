/-
The number of a text, plainly: from its front on (the program's way), and from its end on with powers (the reference's way).
-/
import Derived.Test.YthkkgphjjmhglaaGreatDoorDiv
/-!
The number of a text, plainly: from its front on (the program's way), and from its end on with powers (the reference's way).
-/
namespace Go.Proofs.YthkkgphjjmhglaaGreatDoor
set_option linter.unusedVariables false
set_option linter.unusedSimpArgs false
open Go.TR
def MM : Nat := 2305843009213693951
def bas : Nat := 1099511628211
def mk1 (m : Nat) (c : UInt8) : Nat := (m * bas % MM + c.toNat + 1) % MM
/-- The number of a text. -/
def markN (l : List UInt8) : Nat := l.foldl mk1 1
theorem mk1_lt (m : Nat) (c : UInt8) : mk1 m c < MM := Nat.mod_lt _ (by decide)
theorem fold_lt : ∀ (l : List UInt8) (m : Nat), m < MM → l.foldl mk1 m < MM
  | [], m, h => h
  | c :: l, m, _ => fold_lt l _ (mk1_lt m c)
theorem markN_lt (l : List UInt8) : markN l < MM := fold_lt l 1 (by decide)
theorem cadd {a a' b b' : Nat} (h : a % MM = a' % MM) (k : b % MM = b' % MM) : (a + b) % MM = (a' + b') % MM := by rw [Nat.add_mod, h, k, ← Nat.add_mod]
theorem cmul {a a' b b' : Nat} (h : a % MM = a' % MM) (k : b % MM = b' % MM) : (a * b) % MM = (a' * b') % MM := by rw [Nat.mul_mod, h, k, ← Nat.mul_mod]
/-- Sum and power, from the end on. -/
def sp : List UInt8 → Nat × Nat
  | [] => (0, 1)
  | c :: l => (((sp l).1 + (sp l).2 * (c.toNat + 1) % MM) % MM, (sp l).2 * bas % MM)
theorem sp_lt : ∀ l, (sp l).1 < MM ∧ (sp l).2 < MM
  | [] => ⟨by decide, by decide⟩
  | c :: l => ⟨Nat.mod_lt _ (by decide), Nat.mod_lt _ (by decide)⟩
theorem fold_sp : ∀ (l : List UInt8) (m : Nat), l.foldl mk1 m % MM = (m * (sp l).2 + (sp l).1) % MM
  | [], m => by simp [sp]
  | c :: l, m => by
    rw [List.foldl_cons, fold_sp l (mk1 m c)]
    simp only [sp]
    have h1 : mk1 m c % MM = (m * bas + (c.toNat + 1)) % MM := by
      unfold mk1
      rw [Nat.mod_mod, Nat.add_assoc, Nat.mod_add_mod]
    have e1 : (mk1 m c * (sp l).2 + (sp l).1) % MM = ((m * bas + (c.toNat + 1)) * (sp l).2 + (sp l).1) % MM := cadd (cmul h1 rfl) rfl
    have e2 : (m * ((sp l).2 * bas % MM) + ((sp l).1 + (sp l).2 * (c.toNat + 1) % MM) % MM) % MM = (m * ((sp l).2 * bas) + ((sp l).1 + (sp l).2 * (c.toNat + 1))) % MM :=
      cadd (cmul rfl (Nat.mod_mod _ _)) (by rw [Nat.mod_mod]; exact cadd rfl (Nat.mod_mod _ _))
    rw [e1, e2]
    congr 1
    generalize (sp l).2 = p
    generalize (sp l).1 = s
    generalize c.toNat + 1 = d
    generalize bas = b
    grind
theorem markN_sp (l : List UInt8) : ((sp l).1 + (sp l).2) % MM = markN l := by
  have h := fold_sp l 1
  rw [Nat.mod_eq_of_lt (fold_lt l 1 (by decide)), Nat.one_mul, Nat.add_comm] at h
  exact h.symm
/-- A power of the base. -/
def powN : Nat → Nat
  | 0 => 1
  | n + 1 => powN n * bas % MM
/-- The low bytes of a number, the greatest first. -/
def lowB : Nat → Nat → List UInt8
  | 0, _ => []
  | k + 1, n => UInt8.ofNat (n / 256 ^ k % 256) :: lowB k n
theorem lowB_length : ∀ k n, (lowB k n).length = k
  | 0, _ => rfl
  | k + 1, n => by simp only [lowB, List.length_cons, lowB_length k n]
def num (n : Nat) : List UInt8 := lowB 8 n
theorem num_length (n : Nat) : (num n).length = 8 := lowB_length 8 n
/-- What is said of two numbers. -/
def two (kind a b : Nat) : List UInt8 := UInt8.ofNat kind :: (num a ++ num b)
theorem fill_step {α : Type} (L Z : List α) (h : L.length = Z.length) (k : Nat) (hk : k < L.length) : (L.take k ++ Z.drop k).take k ++ [L[k]] ++ (L.take k ++ Z.drop k).drop (k + 1) = L.take (k + 1) ++ Z.drop (k + 1) := by
  have e1 : (L.take k).length = k := by simp; omega
  have e2 : (L.take k ++ Z.drop k).take k = L.take k := by
    have := List.take_left (l₁ := L.take k) (l₂ := Z.drop k)
    rwa [e1] at this
  have e3 : (L.take k ++ Z.drop k).drop (k + 1) = Z.drop (k + 1) := by
    rw [List.drop_append, e1]
    rw [List.drop_of_length_le (by omega), List.nil_append, List.drop_drop]
    congr 1
    omega
  rw [e2, e3, List.take_succ_eq_append_getElem hk]
end Go.Proofs.YthkkgphjjmhglaaGreatDoor
/-!
Numbers as bytes: package wire's Num, and the reference's.
-/
namespace Go.Proofs.YthkkgphjjmhglaaGreatDoor
set_option linter.unusedVariables false
set_option linter.unusedSimpArgs false
open Go.TR
/-- A byte of a number, shifted down. -/
theorem byte_val (n : Nat) (j s : Nat) (hs : s = 8 * j) (hj : j ≤ 7) : IntKind.u8.wrap (Int.fdiv (n : Int) (2 ^ min (Int.toNat (s : Int)) IntKind.u64.bits)) = (((UInt8.ofNat (n / 256 ^ j % 256)).toNat : Nat) : Int) := by
  subst hs
  have e1 : min (Int.toNat ((8 * j : Nat) : Int)) IntKind.u64.bits = 8 * j := by simp [IntKind.bits]; omega
  have e2 : (2 ^ (8 * j) : Int) = ((256 ^ j : Nat) : Int) := by
    rw [Int.pow_mul, show (2 ^ 8 : Int) = 256 from by decide]; exact (Int.natCast_pow 256 j).symm
  rw [e1, e2, u8w, ← Int.ofNat_fdiv]
  have e3 : (UInt8.ofNat (n / 256 ^ j % 256)).toNat = n / 256 ^ j % 256 := by
    rw [UInt8.toNat_ofNat']
    omega
  rw [e3]
  generalize n / 256 ^ j = x
  omega
theorem lowB_get : ∀ (k n i : Nat) (h : i < k), (lowB k n)[i]'(by rw [lowB_length]; exact h) = UInt8.ofNat (n / 256 ^ (k - 1 - i) % 256)
  | k + 1, n, 0, _ => by simp [lowB]
  | k + 1, n, i + 1, h => by
    simp only [lowB, List.getElem_cons_succ]
    rw [lowB_get k n i (by omega)]
    congr 4
    omega
def numE (n : Nat) : List EV := (num n).map fun b => .v (u8 (b.toNat : Nat))
def zer8 : List EV := [.v (u8 0), .v (u8 0), .v (u8 0), .v (u8 0), .v (u8 0), .v (u8 0), .v (u8 0), .v (u8 0)]
theorem numE_length (n : Nat) : (numE n).length = 8 := by unfold numE; rw [List.length_map, num_length]
theorem numE_get (n k : Nat) (h : k < 8) : (numE n)[k]'(by rw [numE_length]; exact h) = .v (u8 ((UInt8.ofNat (n / 256 ^ (7 - k) % 256)).toNat : Nat)) := by
  unfold numE num
  rw [List.getElem_map, lowB_get 8 n k h]
attribute [local irreducible] vc vcOps seqK blockK loopK retK retG retI loopV Plain CallOK CallIn bodied VS vcAny dropG backK brK loopPK IntKind.wrap
set_option maxRecDepth 100000
theorem wirenum_ok (n : Nat) (F : Hp) : Plain Tryz.prog F 232 [u64 n] (S (num n)) := by
  refine plain_vc (N := 19) (rv := [.tmp 2]) tbok mixed Tryz.func232 rfl rfl rfl rfl rfl ?_
  (refine run ?_; repeat intro b)
  refine s_loopP (fun k : Nat => k ≤ 8) (fun k => ⟨[(0, .v (u64 (n : Nat))), (3, .loc 0 0), (5, .v (i64 (k : Nat)))], F, [(0, ⟨some b, (numE n).take k ++ zer8.drop k, 329, 8⟩)], 1⟩) (fun k => 8 - k) 0 (by decide) (VS.keepN [0, 3, 5] rfl rfl) ?_
  intro k hk
  (refine run ?_; repeat intro b)
  refine s_if _ rfl (fun h => ?_) (fun h => ?_)
  · have hlt : k < 8 := by simp at h; omega
    (refine run ?_; repeat intro b)
    have e1 : IntKind.i64.wrap (56 - IntKind.i64.wrap (8 * (k : Int))) = ((8 * (7 - k) : Nat) : Int) := by
      rw [wrap_i64 (n := 8 * (k : Int)) (by omega) (by omega), wrap_i64 (by omega) (by omega)]
      omega
    rw [e1]
    refine s_pureO rfl rfl rfl (by omega) ?_
    (refine run ?_; repeat intro b)
    rw [byte_val n (7 - k) _ rfl (by omega)]
    refine s_pureO rfl rfl rfl ⟨by omega, by omega⟩ ?_
    have hl1 : (numE n).length = zer8.length := numE_length n
    have hk1 : k < (numE n).length := by rw [numE_length]; exact hlt
    have hidx : (0 + ((k : Int).toNat) * 1) = k := by omega
    have hlen : ((numE n).take k ++ zer8.drop k).length = 8 := by
      rw [List.length_append, List.length_take, List.length_drop, numE_length]
      have : zer8.length = 8 := rfl
      omega
    refine s_storeX ((numE n).take (k + 1) ++ zer8.drop (k + 1)) rfl rfl rfl rfl rfl rfl ?_ ?_ rfl ?_
    · show 0 + ((k : Int).toNat) * 1 + 1 ≤ ((numE n).take k ++ zer8.drop k).length
      rw [hlen]; omega
    · show ((numE n).take k ++ zer8.drop k).take (0 + ((k : Int).toNat) * 1) ++ [_] ++ ((numE n).take k ++ zer8.drop k).drop (0 + ((k : Int).toNat) * 1 + 1) = _
      rw [hidx, ← fill_step (numE n) zer8 hl1 k hk1, numE_get n k hlt]
    (refine run ?_; repeat intro b)
    rw [wrap_succ (by omega)]
    exact s_loopPn (k + 1) hlt (by omega) (VS.keepN [0, 3, 5] rfl rfl)
  · have hge : k = 8 := by simp at h; omega
    subst hge
    (refine run ?_; repeat intro b)
    have hc : (numE n).take 8 ++ zer8.drop 8 = numE n := by
      have : (numE n).length = 8 := numE_length n
      rw [List.take_of_length_le (by omega)]
      show numE n ++ [] = _
      rw [List.append_nil]
    rw [hc]
    refine s_strR (num n) rfl rfl rfl rfl ?_ ?_ ?_
    · rw [numE_length]; exact Nat.le_refl 8
    · rw [List.take_of_length_le (by rw [numE_length]; exact Nat.le_refl 8)]; rfl
    (refine run ?_; repeat intro b)
    rfl
theorem refnum_ok (n : Nat) (hn : n < 18446744073709551616) (F : Hp) : Plain Tryz.prog F 143 [u64 n] (S (num n)) := by
  refine plain_vc (N := 17) (rv := [.tmp 2]) tbok mixed Tryz.func143 rfl rfl rfl rfl rfl ?_
  (refine run ?_; repeat intro b)
  refine s_loopP (fun k : Nat => k ≤ 8) (fun k => ⟨[(0, .v (u64 (n / 256 ^ k : Nat))), (3, .v (S (lowB k n))), (4, .v (i64 (k : Nat)))], F, [], 0⟩) (fun k => 8 - k) 0 (by decide) (VS.keepN [0, 3, 4] rfl ?_) ?_
  · rw [Nat.pow_zero, Nat.div_one]; rfl
  intro k hk
  (refine run ?_; repeat intro b)
  refine s_if _ rfl (fun h => ?_) (fun h => ?_)
  · have hlt : k < 8 := by simp at h; omega
    (refine run ?_; repeat intro b)
    have e1 : IntKind.u8.wrap (((n / 256 ^ k : Nat) : Int).tmod 256) = (((UInt8.ofNat (n / 256 ^ k % 256)).toNat : Nat) : Int) := by
      have e : ((n / 256 ^ k : Nat) : Int).tmod 256 = ((n / 256 ^ k % 256 : Nat) : Int) := r_rem (n / 256 ^ k) 256
      rw [e, u8w, UInt8.toNat_ofNat']
      omega
    rw [e1]
    refine s_strR [UInt8.ofNat (n / 256 ^ k % 256)] rfl rfl rfl rfl (Nat.le_refl 1) rfl ?_
    (refine run ?_; repeat intro b)
    refine s_pureO rfl rfl rfl (by simp only [bl_S, lowB_length, List.length_cons, List.length_nil]; unfold maxInt; omega) ?_
    (refine run ?_; repeat intro b)
    have hlt2 : n / 256 ^ k < 18446744073709551616 := Nat.lt_of_le_of_lt (Nat.div_le_self _ _) hn
    have e2 : IntKind.u64.wrap (((n / 256 ^ k : Nat) : Int).tdiv 256) = ((n / 256 ^ (k + 1) : Nat) : Int) := by
      have e : IntKind.u64.wrap (((n / 256 ^ k : Nat) : Int).tdiv 256) = ((n / 256 ^ k / 256 : Nat) : Int) := r_quo (n / 256 ^ k) 256 hlt2
      rw [e, Nat.div_div_eq_div_mul, Nat.pow_succ]
    rw [wrap_succ (by omega), e2]
    exact s_loopPc (k + 1) [0] [0, 3, 4] hlt (by omega) rfl rfl rfl rfl trivial rfl
  · have hge : k = 8 := by simp at h; omega
    subst hge
    (refine run ?_; repeat intro b)
    rfl
end Go.Proofs.YthkkgphjjmhglaaGreatDoor
/-!
Package mark and its reference: the walks: products, numbers of texts, powers.
-/
namespace Go.Proofs.YthkkgphjjmhglaaGreatDoor
set_option linter.unusedVariables false
set_option linter.unusedSimpArgs false
open Go.TR
attribute [local irreducible] vc vcOps seqK blockK loopK retK retG retI loopV Plain CallOK CallIn bodied VS vcAny dropG backK brK loopPK IntKind.wrap
set_option maxRecDepth 100000
theorem times_ok (a b : Nat) (ha : a < 18446744073709551616) (hb : b < 18446744073709551616) (F : Hp) : Plain Tryz.prog F 208 [u64 a, u64 b] (u64 (a * b % MM : Nat)) := by
  refine plain_vc (N := 16) (rv := [.tmp 4]) tbok mixed Tryz.func208 rfl rfl rfl rfl rfl ?_
  (refine run ?_; repeat intro b)
  refine s_plain _ rfl rfl rfl bd215 rfl (mul64_ok a b ha hb F) ?_
  (refine run ?_; repeat intro b)
  refine s_plain _ rfl rfl rfl bd245 rfl (rem64_ok (a * b / 18446744073709551616) (a * b % 18446744073709551616) (Nat.mod_lt _ (by decide)) F) ?_
  (refine run ?_; repeat intro b)
  have e : remM (a * b / 18446744073709551616) (a * b % 18446744073709551616) = a * b % MM := by
    unfold remM MM
    rw [Nat.div_add_mod']
  rw [e]
  rfl
/-- A byte of a string. -/
theorem byte_get (l : List UInt8) (k : Nat) (h : k < l.length) : (bl (mkB l)).getD ((k : Nat) : Int).toNat 0 = l[k] := by
  rw [bl_S, Int.toNat_natCast, List.getD_eq_getElem?_getD, List.getElem?_eq_getElem h]; rfl
theorem mk1_val (m : Nat) (c : UInt8) (hm : m < MM) : (IntKind.u64.wrap (IntKind.u64.wrap (((m * bas % MM : Nat) : Int) + IntKind.u64.wrap ((c.toNat : Nat) : Int)) + 1)).tmod 2305843009213693951 = ((mk1 m c : Nat) : Int) := by
  have h1 : m * bas % MM < MM := Nat.mod_lt _ (by decide)
  have h2 : c.toNat < 256 := c.toNat_lt
  unfold mk1
  generalize m * bas % MM = x at *
  simp only [u64w]
  unfold MM at *
  have e : (((x : Int) + ((c.toNat : Nat) : Int) % 18446744073709551616) % 18446744073709551616 + 1) % 18446744073709551616 = ((x + c.toNat + 1 : Nat) : Int) := by omega
  rw [e]
  exact r_rem _ 2305843009213693951
theorem markof_ok (l : List UInt8) (hl : l.length ≤ 4611686018427387904) (F : Hp) : Plain Tryz.prog F 171 [S l] (u64 (markN l : Nat)) := by
  refine plain_vc (N := 21) (rv := [.tmp 2]) tbok mixed Tryz.func171 rfl rfl rfl rfl rfl ?_
  (refine run ?_; repeat intro b)
  refine s_loopP (fun k : Nat => k ≤ l.length) (fun k => ⟨[(0, .v (S l)), (3, .v (u64 ((l.take k).foldl mk1 1 : Nat))), (6, .v (i64 (l.length : Nat))), (7, .v (i64 (k : Nat)))], F, [], 0⟩) (fun k => l.length - k) 0 (Nat.zero_le _) (VS.keepN [0, 3, 6, 7] rfl rfl) ?_
  intro k hk
  (refine run ?_; repeat intro b)
  refine s_if _ rfl (fun h => ?_) (fun h => ?_)
  · have hlt : k < l.length := by simp at h; omega
    (refine run ?_; repeat intro b)
    refine s_regiond (by kernel_rfl) ?_
    (refine run ?_; repeat intro b)
    refine s_plain (u64 ((l.take k).foldl mk1 1 * bas % MM : Nat)) rfl rfl rfl bd208 rfl (times_ok _ bas (Nat.lt_trans (fold_lt (l.take k) 1 (by decide)) (by decide)) (by decide) F) ?_
    (refine run ?_; repeat intro b)
    refine s_pureO rfl rfl rfl ⟨by omega, by rw [bl_S]; omega⟩ ?_
    rw [byte_get l k hlt]
    (refine run ?_; repeat intro b)
    rw [wrap_succ (by omega), mk1_val _ _ (fold_lt (l.take k) 1 (by decide))]
    refine s_loopPn (k + 1) hlt (by omega) (VS.keepN [0, 3, 6, 7] rfl ?_)
    rw [List.take_succ_eq_append_getElem hlt, List.foldl_append, List.foldl_cons, List.foldl_nil]
  · have hge : k = l.length := by simp at h; omega
    (refine run ?_; repeat intro b)
    subst hge
    rw [List.take_length]
    rfl
theorem mul_ok (a b : Nat) (ha : a < 18446744073709551616) (hb : b < 18446744073709551616) (F : Hp) : Plain Tryz.prog F 71 [u64 a, u64 b] (u64 (a * b % MM : Nat)) := by
  refine plain_vc (N := 26) (rv := [.tmp 4]) tbok mixed Tryz.func71 rfl rfl rfl rfl rfl ?_
  (refine run ?_; repeat intro b)
  have e0 : (a : Int).tmod 2305843009213693951 = ((a % MM : Nat) : Int) := r_rem a 2305843009213693951
  rw [e0]
  (refine run ?_; repeat intro b)
  refine s_plain _ rfl rfl rfl bd119 rfl (len64_ok b hb F) ?_
  (refine run ?_; repeat intro b)
  obtain ⟨hlt, hle⟩ := len64_lt b hb
  generalize len64 b = n at *
  refine s_loopP (fun q : Nat × Nat × Nat × Nat => q.1 ≤ n ∧ q.2.1 < MM ∧ q.2.2.1 < 2 ^ (n - q.1) ∧ q.2.2.2 < MM ∧ (q.2.2.2 + q.2.1 * q.2.2.1) % MM = a * b % MM ∧ q.2.2.1 < 18446744073709551616)
    (fun q => ⟨[(0, .v (u64 (q.2.1 : Nat))), (1, .v (u64 (q.2.2.1 : Nat))), (5, .v (u64 (q.2.2.2 : Nat))), (9, .v (i64 (n : Nat))), (10, .v (i64 (q.1 : Nat)))], F, [], 0⟩) (fun q => n - q.1) (0, a % MM, b, 0)
    ⟨Nat.zero_le _, Nat.mod_lt _ (by decide), hlt, show (0 : Nat) < MM from by decide, by simp only; rw [Nat.zero_add, Nat.mod_mul_mod], hb⟩ (VS.keepN [0, 1, 5, 9, 10] rfl rfl) ?_
  rintro ⟨k, x, y, o⟩ ⟨hk, hx, hy, ho, hm, hyw⟩
  simp only at hk hx hy ho hm hyw
  (refine run ?_; repeat intro b)
  refine s_if _ rfl (fun h => ?_) (fun h => ?_)
  · have hkn : k < n := by simp at h; omega
    (refine run ?_; repeat intro b)
    have e1 : (y : Int).tmod 2 = ((y % 2 : Nat) : Int) := r_rem y 2
    have e2 : IntKind.u64.wrap ((y : Int).tdiv 2) = ((y / 2 : Nat) : Int) := r_quo y 2 hyw
    have e3 : (IntKind.u64.wrap (2 * (x : Int))).tmod 2305843009213693951 = ((2 * x % MM : Nat) : Int) := by
      rw [r_mul2, Nat.mod_eq_of_lt (by unfold MM at hx; omega)]
      exact r_rem _ 2305843009213693951
    have e4 : (IntKind.u64.wrap ((o : Int) + (x : Int))).tmod 2305843009213693951 = (((o + x) % MM : Nat) : Int) := by
      rw [r_add, Nat.mod_eq_of_lt (by unfold MM at hx ho; omega)]
      exact r_rem _ 2305843009213693951
    have hy2 : y / 2 < 2 ^ (n - (k + 1)) := by
      have : 2 ^ (n - k) = 2 * 2 ^ (n - (k + 1)) := by rw [show n - k = (n - (k + 1)) + 1 by omega, Nat.pow_succ, Nat.mul_comm]
      omega
    refine s_if _ rfl (fun h2 => ?_) (fun h2 => ?_)
    · rw [e1] at h2
      have hodd : y % 2 = 1 := by simp at h2; omega
      (refine run ?_; repeat intro b)
      rw [wrap_succ (by omega), e2, e3, e4]
      refine s_loopPn (k + 1, 2 * x % MM, y / 2, (o + x) % MM) ⟨hkn, Nat.mod_lt _ (by decide), hy2, Nat.mod_lt _ (by decide), ?_, by simp only; omega⟩ (by simp only; omega) (VS.keepN [0, 1, 5, 9, 10] rfl rfl)
      simp only
      rw [← hm]
      have g1 : ((o + x) % MM + 2 * x % MM * (y / 2)) % MM = ((o + x) + 2 * x * (y / 2)) % MM := cadd (Nat.mod_mod _ _) (cmul (Nat.mod_mod _ _) rfl)
      rw [g1]
      congr 1
      have : y = 2 * (y / 2) + 1 := by omega
      generalize y / 2 = z at *
      subst this
      grind
    · rw [e1] at h2
      have heven : y % 2 = 0 := by simp at h2; omega
      (refine run ?_; repeat intro b)
      rw [wrap_succ (by omega), e2, e3]
      refine s_loopPn (k + 1, 2 * x % MM, y / 2, o) ⟨hkn, Nat.mod_lt _ (by decide), hy2, ho, ?_, by simp only; omega⟩ (by simp only; omega) (VS.keepN [0, 1, 5, 9, 10] rfl rfl)
      simp only
      rw [← hm]
      have g1 : (o + 2 * x % MM * (y / 2)) % MM = (o + 2 * x * (y / 2)) % MM := cadd rfl (cmul (Nat.mod_mod _ _) rfl)
      rw [g1]
      congr 1
      have : y = 2 * (y / 2) := by omega
      generalize y / 2 = z at *
      subst this
      grind
  · have hge : k = n := by simp at h; omega
    subst hge
    rw [Nat.sub_self] at hy
    have hy0 : y = 0 := by omega
    subst hy0
    (refine run ?_; repeat intro b)
    rw [Nat.mul_zero, Nat.add_zero, Nat.mod_eq_of_lt ho] at hm
    rw [hm]
    rfl
end Go.Proofs.YthkkgphjjmhglaaGreatDoor
