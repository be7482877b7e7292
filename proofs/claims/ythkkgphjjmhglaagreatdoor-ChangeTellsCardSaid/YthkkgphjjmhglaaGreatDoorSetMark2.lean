/-
The number of a text, plainly: from its front on (the program's way), and from its end on with powers (the reference's way).
-/
import Derived.Test.YthkkgphjjmhglaaGreatDoorDiv
/-!
The number of a text, plainly: from its front on (the program's way), and from its end on with powers (the reference's way).
-/
namespace Go.Proofs.YthkkgphjjmhglaaGreatDoor
set_option linter.unusedVariables false
set_option linter.unusedSimpArgs false
open Go.TR
def MM : Nat := 2305843009213693951
def bas : Nat := 1099511628211
def mk1 (m : Nat) (c : UInt8) : Nat := (m * bas % MM + c.toNat + 1) % MM
/-- The number of a text. -/
def markN (l : List UInt8) : Nat := l.foldl mk1 1
theorem mk1_lt (m : Nat) (c : UInt8) : mk1 m c < MM := Nat.mod_lt _ (by decide)
theorem fold_lt : ∀ (l : List UInt8) (m : Nat), m < MM → l.foldl mk1 m < MM
  | [], m, h => h
  | c :: l, m, _ => fold_lt l _ (mk1_lt m c)
theorem markN_lt (l : List UInt8) : markN l < MM := fold_lt l 1 (by decide)
theorem cadd {a a' b b' : Nat} (h : a % MM = a' % MM) (k : b % MM = b' % MM) : (a + b) % MM = (a' + b') % MM := by rw [Nat.add_mod, h, k, ← Nat.add_mod]
theorem cmul {a a' b b' : Nat} (h : a % MM = a' % MM) (k : b % MM = b' % MM) : (a * b) % MM = (a' * b') % MM := by rw [Nat.mul_mod, h, k, ← Nat.mul_mod]
/-- Sum and power, from the end on. -/
def sp : List UInt8 → Nat × Nat
  | [] => (0, 1)
  | c :: l => (((sp l).1 + (sp l).2 * (c.toNat + 1) % MM) % MM, (sp l).2 * bas % MM)
theorem sp_lt : ∀ l, (sp l).1 < MM ∧ (sp l).2 < MM
  | [] => ⟨by decide, by decide⟩
  | c :: l => ⟨Nat.mod_lt _ (by decide), Nat.mod_lt _ (by decide)⟩
theorem fold_sp : ∀ (l : List UInt8) (m : Nat), l.foldl mk1 m % MM = (m * (sp l).2 + (sp l).1) % MM
  | [], m => by simp [sp]
  | c :: l, m => by
    rw [List.foldl_cons, fold_sp l (mk1 m c)]
    simp only [sp]
    have h1 : mk1 m c % MM = (m * bas + (c.toNat + 1)) % MM := by
      unfold mk1
      rw [Nat.mod_mod, Nat.add_assoc, Nat.mod_add_mod]
    have e1 : (mk1 m c * (sp l).2 + (sp l).1) % MM = ((m * bas + (c.toNat + 1)) * (sp l).2 + (sp l).1) % MM := cadd (cmul h1 rfl) rfl
    have e2 : (m * ((sp l).2 * bas % MM) + ((sp l).1 + (sp l).2 * (c.toNat + 1) % MM) % MM) % MM = (m * ((sp l).2 * bas) + ((sp l).1 + (sp l).2 * (c.toNat + 1))) % MM :=
      cadd (cmul rfl (Nat.mod_mod _ _)) (by rw [Nat.mod_mod]; exact cadd rfl (Nat.mod_mod _ _))
    rw [e1, e2]
    congr 1
    generalize (sp l).2 = p
    generalize (sp l).1 = s
    generalize c.toNat + 1 = d
    generalize bas = b
    grind
theorem markN_sp (l : List UInt8) : ((sp l).1 + (sp l).2) % MM = markN l := by
  have h := fold_sp l 1
  rw [Nat.mod_eq_of_lt (fold_lt l 1 (by decide)), Nat.one_mul, Nat.add_comm] at h
  exact h.symm
/-- A power of the base. -/
def powN : Nat → Nat
  | 0 => 1
  | n + 1 => powN n * bas % MM
/-- The low bytes of a number, the greatest first. -/
def lowB : Nat → Nat → List UInt8
  | 0, _ => []
  | k + 1, n => UInt8.ofNat (n / 256 ^ k % 256) :: lowB k n
theorem lowB_length : ∀ k n, (lowB k n).length = k
  | 0, _ => rfl
  | k + 1, n => by simp only [lowB, List.length_cons, lowB_length k n]
def num (n : Nat) : List UInt8 := lowB 8 n
theorem num_length (n : Nat) : (num n).length = 8 := lowB_length 8 n
/-- What is said of two numbers. -/
def two (kind a b : Nat) : List UInt8 := UInt8.ofNat kind :: (num a ++ num b)
theorem fill_step {α : Type} (L Z : List α) (h : L.length = Z.length) (k : Nat) (hk : k < L.length) : (L.take k ++ Z.drop k).take k ++ [L[k]] ++ (L.take k ++ Z.drop k).drop (k + 1) = L.take (k + 1) ++ Z.drop (k + 1) := by
  have e1 : (L.take k).length = k := by simp; omega
  have e2 : (L.take k ++ Z.drop k).take k = L.take k := by
    have := List.take_left (l₁ := L.take k) (l₂ := Z.drop k)
    rwa [e1] at this
  have e3 : (L.take k ++ Z.drop k).drop (k + 1) = Z.drop (k + 1) := by
    rw [List.drop_append, e1]
    rw [List.drop_of_length_le (by omega), List.nil_append, List.drop_drop]
    congr 1
    omega
  rw [e2, e3, List.take_succ_eq_append_getElem hk]
end Go.Proofs.YthkkgphjjmhglaaGreatDoor
/-!
Package mark and its reference: the walks: products, numbers of texts, powers.
-/
namespace Go.Proofs.YthkkgphjjmhglaaGreatDoor
set_option linter.unusedVariables false
set_option linter.unusedSimpArgs false
open Go.TR
attribute [local irreducible] vc vcOps seqK blockK loopK retK retG retI loopV Plain CallOK CallIn bodied VS vcAny dropG backK brK loopPK IntKind.wrap
set_option maxRecDepth 100000
theorem times_ok (a b : Nat) (ha : a < 18446744073709551616) (hb : b < 18446744073709551616) (F : Hp) : Plain Tryz.prog F 208 [u64 a, u64 b] (u64 (a * b % MM : Nat)) := by
  refine plain_vc (N := 16) (rv := [.tmp 4]) tbok mixed Tryz.func208 rfl rfl rfl rfl rfl ?_
  (refine run ?_; repeat intro b)
  refine s_plain _ rfl rfl rfl bd215 rfl (mul64_ok a b ha hb F) ?_
  (refine run ?_; repeat intro b)
  refine s_plain _ rfl rfl rfl bd245 rfl (rem64_ok (a * b / 18446744073709551616) (a * b % 18446744073709551616) (Nat.mod_lt _ (by decide)) F) ?_
  (refine run ?_; repeat intro b)
  have e : remM (a * b / 18446744073709551616) (a * b % 18446744073709551616) = a * b % MM := by
    unfold remM MM
    rw [Nat.div_add_mod']
  rw [e]
  rfl
/-- A byte of a string. -/
theorem byte_get (l : List UInt8) (k : Nat) (h : k < l.length) : (bl (mkB l)).getD ((k : Nat) : Int).toNat 0 = l[k] := by
  rw [bl_S, Int.toNat_natCast, List.getD_eq_getElem?_getD, List.getElem?_eq_getElem h]; rfl
theorem mk1_val (m : Nat) (c : UInt8) (hm : m < MM) : (IntKind.u64.wrap (IntKind.u64.wrap (((m * bas % MM : Nat) : Int) + IntKind.u64.wrap ((c.toNat : Nat) : Int)) + 1)).tmod 2305843009213693951 = ((mk1 m c : Nat) : Int) := by
  have h1 : m * bas % MM < MM := Nat.mod_lt _ (by decide)
  have h2 : c.toNat < 256 := c.toNat_lt
  unfold mk1
  generalize m * bas % MM = x at *
  simp only [u64w]
  unfold MM at *
  have e : (((x : Int) + ((c.toNat : Nat) : Int) % 18446744073709551616) % 18446744073709551616 + 1) % 18446744073709551616 = ((x + c.toNat + 1 : Nat) : Int) := by omega
  rw [e]
  exact r_rem _ 2305843009213693951
theorem markof_ok (l : List UInt8) (hl : l.length ≤ 4611686018427387904) (F : Hp) : Plain Tryz.prog F 171 [S l] (u64 (markN l : Nat)) := by
  refine plain_vc (N := 21) (rv := [.tmp 2]) tbok mixed Tryz.func171 rfl rfl rfl rfl rfl ?_
  (refine run ?_; repeat intro b)
  refine s_loopP (fun k : Nat => k ≤ l.length) (fun k => ⟨[(0, .v (S l)), (3, .v (u64 ((l.take k).foldl mk1 1 : Nat))), (6, .v (i64 (l.length : Nat))), (7, .v (i64 (k : Nat)))], F, [], 0⟩) (fun k => l.length - k) 0 (Nat.zero_le _) (VS.keepN [0, 3, 6, 7] rfl rfl) ?_
  intro k hk
  (refine run ?_; repeat intro b)
  refine s_if _ rfl (fun h => ?_) (fun h => ?_)
  · have hlt : k < l.length := by simp at h; omega
    (refine run ?_; repeat intro b)
    refine s_regiond (by kernel_rfl) ?_
    (refine run ?_; repeat intro b)
    refine s_plain (u64 ((l.take k).foldl mk1 1 * bas % MM : Nat)) rfl rfl rfl bd208 rfl (times_ok _ bas (Nat.lt_trans (fold_lt (l.take k) 1 (by decide)) (by decide)) (by decide) F) ?_
    (refine run ?_; repeat intro b)
    refine s_pureO rfl rfl rfl ⟨by omega, by rw [bl_S]; omega⟩ ?_
    rw [byte_get l k hlt]
    (refine run ?_; repeat intro b)
    rw [wrap_succ (by omega), mk1_val _ _ (fold_lt (l.take k) 1 (by decide))]
    refine s_loopPn (k + 1) hlt (by omega) (VS.keepN [0, 3, 6, 7] rfl ?_)
    rw [List.take_succ_eq_append_getElem hlt, List.foldl_append, List.foldl_cons, List.foldl_nil]
  · have hge : k = l.length := by simp at h; omega
    (refine run ?_; repeat intro b)
    subst hge
    rw [List.take_length]
    rfl
theorem mul_ok (a b : Nat) (ha : a < 18446744073709551616) (hb : b < 18446744073709551616) (F : Hp) : Plain Tryz.prog F 71 [u64 a, u64 b] (u64 (a * b % MM : Nat)) := by
  refine plain_vc (N := 26) (rv := [.tmp 4]) tbok mixed Tryz.func71 rfl rfl rfl rfl rfl ?_
  (refine run ?_; repeat intro b)
  have e0 : (a : Int).tmod 2305843009213693951 = ((a % MM : Nat) : Int) := r_rem a 2305843009213693951
  rw [e0]
  (refine run ?_; repeat intro b)
  refine s_plain _ rfl rfl rfl bd119 rfl (len64_ok b hb F) ?_
  (refine run ?_; repeat intro b)
  obtain ⟨hlt, hle⟩ := len64_lt b hb
  generalize len64 b = n at *
  refine s_loopP (fun q : Nat × Nat × Nat × Nat => q.1 ≤ n ∧ q.2.1 < MM ∧ q.2.2.1 < 2 ^ (n - q.1) ∧ q.2.2.2 < MM ∧ (q.2.2.2 + q.2.1 * q.2.2.1) % MM = a * b % MM ∧ q.2.2.1 < 18446744073709551616)
    (fun q => ⟨[(0, .v (u64 (q.2.1 : Nat))), (1, .v (u64 (q.2.2.1 : Nat))), (5, .v (u64 (q.2.2.2 : Nat))), (9, .v (i64 (n : Nat))), (10, .v (i64 (q.1 : Nat)))], F, [], 0⟩) (fun q => n - q.1) (0, a % MM, b, 0)
    ⟨Nat.zero_le _, Nat.mod_lt _ (by decide), hlt, show (0 : Nat) < MM from by decide, by simp only; rw [Nat.zero_add, Nat.mod_mul_mod], hb⟩ (VS.keepN [0, 1, 5, 9, 10] rfl rfl) ?_
  rintro ⟨k, x, y, o⟩ ⟨hk, hx, hy, ho, hm, hyw⟩
  simp only at hk hx hy ho hm hyw
  (refine run ?_; repeat intro b)
  refine s_if _ rfl (fun h => ?_) (fun h => ?_)
  · have hkn : k < n := by simp at h; omega
    (refine run ?_; repeat intro b)
    have e1 : (y : Int).tmod 2 = ((y % 2 : Nat) : Int) := r_rem y 2
    have e2 : IntKind.u64.wrap ((y : Int).tdiv 2) = ((y / 2 : Nat) : Int) := r_quo y 2 hyw
    have e3 : (IntKind.u64.wrap (2 * (x : Int))).tmod 2305843009213693951 = ((2 * x % MM : Nat) : Int) := by
      rw [r_mul2, Nat.mod_eq_of_lt (by unfold MM at hx; omega)]
      exact r_rem _ 2305843009213693951
    have e4 : (IntKind.u64.wrap ((o : Int) + (x : Int))).tmod 2305843009213693951 = (((o + x) % MM : Nat) : Int) := by
      rw [r_add, Nat.mod_eq_of_lt (by unfold MM at hx ho; omega)]
      exact r_rem _ 2305843009213693951
    have hy2 : y / 2 < 2 ^ (n - (k + 1)) := by
      have : 2 ^ (n - k) = 2 * 2 ^ (n - (k + 1)) := by rw [show n - k = (n - (k + 1)) + 1 by omega, Nat.pow_succ, Nat.mul_comm]
      omega
    refine s_if _ rfl (fun h2 => ?_) (fun h2 => ?_)
    · rw [e1] at h2
      have hodd : y % 2 = 1 := by simp at h2; omega
      (refine run ?_; repeat intro b)
      rw [wrap_succ (by omega), e2, e3, e4]
      refine s_loopPn (k + 1, 2 * x % MM, y / 2, (o + x) % MM) ⟨hkn, Nat.mod_lt _ (by decide), hy2, Nat.mod_lt _ (by decide), ?_, by simp only; omega⟩ (by simp only; omega) (VS.keepN [0, 1, 5, 9, 10] rfl rfl)
      simp only
      rw [← hm]
      have g1 : ((o + x) % MM + 2 * x % MM * (y / 2)) % MM = ((o + x) + 2 * x * (y / 2)) % MM := cadd (Nat.mod_mod _ _) (cmul (Nat.mod_mod _ _) rfl)
      rw [g1]
      congr 1
      have : y = 2 * (y / 2) + 1 := by omega
      generalize y / 2 = z at *
      subst this
      grind
    · rw [e1] at h2
      have heven : y % 2 = 0 := by simp at h2; omega
      (refine run ?_; repeat intro b)
      rw [wrap_succ (by omega), e2, e3]
      refine s_loopPn (k + 1, 2 * x % MM, y / 2, o) ⟨hkn, Nat.mod_lt _ (by decide), hy2, ho, ?_, by simp only; omega⟩ (by simp only; omega) (VS.keepN [0, 1, 5, 9, 10] rfl rfl)
      simp only
      rw [← hm]
      have g1 : (o + 2 * x % MM * (y / 2)) % MM = (o + 2 * x * (y / 2)) % MM := cadd rfl (cmul (Nat.mod_mod _ _) rfl)
      rw [g1]
      congr 1
      have : y = 2 * (y / 2) := by omega
      generalize y / 2 = z at *
      subst this
      grind
  · have hge : k = n := by simp at h; omega
    subst hge
    rw [Nat.sub_self] at hy
    have hy0 : y = 0 := by omega
    subst hy0
    (refine run ?_; repeat intro b)
    rw [Nat.mul_zero, Nat.add_zero, Nat.mod_eq_of_lt ho] at hm
    rw [hm]
    rfl
end Go.Proofs.YthkkgphjjmhglaaGreatDoor
/-!
Package mark and its reference: the reference's number of a text, powers, joining.
-/
namespace Go.Proofs.YthkkgphjjmhglaaGreatDoor
set_option linter.unusedVariables false
set_option linter.unusedSimpArgs false
open Go.TR
attribute [local irreducible] vc vcOps seqK blockK loopK retK retG retI loopV Plain CallOK CallIn bodied VS vcAny dropG backK brK loopPK IntKind.wrap
set_option maxRecDepth 100000
theorem c1_val (c : UInt8) : IntKind.u64.wrap (IntKind.u64.wrap ((c.toNat : Nat) : Int) + 1) = ((c.toNat + 1 : Nat) : Int) := by
  have h2 : c.toNat < 256 := c.toNat_lt
  simp only [u64w]
  omega
theorem sum_val (x y : Nat) (hx : x < MM) (hy : y < MM) : (IntKind.u64.wrap ((x : Int) + (y : Int))).tmod 2305843009213693951 = (((x + y) % MM : Nat) : Int) := by
  rw [r_add, Nat.mod_eq_of_lt (by unfold MM at hx hy; omega)]
  exact r_rem _ 2305843009213693951
theorem refmark_ok (l : List UInt8) (hl : l.length ≤ 4611686018427387904) (F : Hp) : Plain Tryz.prog F 22 [S l] (u64 (markN l : Nat)) := by
  refine plain_vc (N := 29) (rv := [.tmp 2]) tbok mixed Tryz.func22 rfl rfl rfl rfl rfl ?_
  (refine run ?_; repeat intro b)
  refine s_loopP (fun k : Nat => k ≤ l.length) (fun k => ⟨[(0, .v (S l)), (3, .v (u64 ((sp (l.drop k)).1 : Nat))), (4, .v (u64 ((sp (l.drop k)).2 : Nat))), (5, .v (i64 ((k : Int) - 1)))], F, [], 0⟩) (fun k => k) l.length (Nat.le_refl _) (VS.keepN [0, 3, 4, 5] rfl ?_) ?_
  · rw [List.drop_length, bl_S, wrap_i64 (by omega) (by omega)]
    rfl
  intro k hk
  (refine run ?_; repeat intro b)
  refine s_if _ rfl (fun h => ?_) (fun h => ?_)
  · have hpos : 1 ≤ k := by simp at h; omega
    obtain ⟨j, rfl⟩ : ∃ j, k = j + 1 := ⟨k - 1, by omega⟩
    have hlt : j < l.length := by omega
    have hidx : (((j + 1 : Nat) : Int) - 1) = (j : Int) := by omega
    obtain ⟨h1, h2⟩ := sp_lt (l.drop (j + 1))
    have hd : l.drop j = l[j] :: l.drop (j + 1) := List.drop_eq_getElem_cons hlt
    (refine run ?_; repeat intro b)
    rw [hidx]
    refine s_pureO rfl rfl rfl ⟨by omega, by rw [bl_S]; omega⟩ ?_
    rw [byte_get l j hlt]
    (refine run ?_; repeat intro b)
    rw [c1_val]
    have hc : l[j].toNat < 256 := l[j].toNat_lt
    refine s_plain _ rfl rfl rfl bd71 rfl (mul_ok _ _ (Nat.lt_trans h2 (by decide)) (by omega) F) ?_
    (refine run ?_; repeat intro b)
    refine s_plain (u64 ((sp (l.drop (j + 1))).2 * bas % MM : Nat)) rfl rfl rfl bd71 rfl (mul_ok _ bas (Nat.lt_trans h2 (by decide)) (by decide) F) ?_
    (refine run ?_; repeat intro b)
    rw [wrap_i64 (n := (j : Int) - 1) (by omega) (by omega), sum_val _ _ h1 (Nat.mod_lt _ (by decide))]
    refine s_loopPn j (by omega) (by omega) (VS.keepN [0, 3, 4, 5] rfl ?_)
    rw [hd]
    simp only [sp]
  · have hz : k = 0 := by simp at h; omega
    subst hz
    (refine run ?_; repeat intro b)
    obtain ⟨h1, h2⟩ := sp_lt l
    rw [List.drop_zero, sum_val _ _ h1 h2, markN_sp]
    rfl
/-- What may be joined. -/
def joinBad (a b : Nat) (n : Int) : Bool := decide (MM ≤ a) || decide (MM ≤ b) || decide (n < 0) || decide (600 < n)
def joinN (a b : Nat) (n : Int) : Nat := if joinBad a b n = true then 0 else (a * powN n.toNat % MM + b + MM - powN n.toNat) % MM
def joinE (a b : Nat) (n : Int) : Int := if joinBad a b n = true then 4 else 0
end Go.Proofs.YthkkgphjjmhglaaGreatDoor
