/-
What is said of two numbers: package mark, and its reference.
-/
import Derived.Test.YtbhlpnbidmnbkaaDoorNum
import Derived.Test.YtbhlpnbidmnbkaaDoorSetMark2
/-!
What is said of two numbers: package mark, and its reference.
-/
namespace Go.Proofs.YtbhlpnbidmnbkaaDoor
set_option linter.unusedVariables false
set_option linter.unusedSimpArgs false
open Go.TR
attribute [local irreducible] vc vcOps seqK blockK loopK retK retG retI loopV Plain CallOK CallIn bodied VS vcAny dropG backK brK loopPK IntKind.wrap
set_option maxRecDepth 100000
theorem said_ok (kind a b : Nat) (hk : kind < 256) (ha : a < 18446744073709551616) (hb : b < 18446744073709551616) (F : Hp) : Plain Tryd.prog F 92 [u8 kind, u64 a, u64 b] (S (two kind a b)) := by
  have hkind : ((kind : Nat) : Int) = (((UInt8.ofNat kind).toNat : Nat) : Int) := by rw [UInt8.toNat_ofNat']; omega
  rw [hkind]
  refine plain_vc (N := 16) (rv := [.tmp 6]) tbok mixed Tryd.func92 rfl rfl rfl rfl rfl ?_
  (refine run ?_; repeat intro b)
  refine s_regiona [] (by kernel_rfl) ?_
  refine s_firsts [0, 3, 6, 4, 7] (f' := 5) (by kernel_rfl) rfl rfl rfl ?_
  (refine run ?_; repeat intro b)
  refine s_plain _ rfl rfl rfl bd112 rfl (wirenum_ok a  F) ?_
  (refine run ?_; repeat intro b)
  refine s_plain _ rfl rfl rfl bd112 rfl (wirenum_ok b  F) ?_
  (refine run ?_; repeat intro b)
  refine s_one 1 (by kernel_rfl) rfl rfl ?_
  (refine run ?_; repeat intro b)
  refine s_br (Hp.sub.refl _) trivial ?_
  refine s_one 2 (by kernel_rfl) rfl rfl ?_
  refine s_strR [UInt8.ofNat kind] rfl rfl rfl rfl (Nat.le_refl 1) rfl ?_
  (refine run ?_; repeat intro b)
  refine s_br (Hp.sub.refl _) trivial ?_
  refine s_firsts [5, 8, 9] (f' := 0) (by kernel_rfl) rfl rfl rfl ?_
  refine s_pureO rfl rfl rfl (by simp only [bl_S, num_length, List.length_cons, List.length_nil]; unfold maxInt; omega) ?_
  (refine run ?_; repeat intro b)
  refine s_pureO rfl rfl rfl (by simp only [bl_S, num_length, List.length_cons, List.length_nil, List.length_append]; unfold maxInt; omega) ?_
  (refine run ?_; repeat intro b)
  refine s_stop (by kernel_rfl) ?_
  (refine run ?_; repeat intro b)
  simp only [tupV, bl_S, two, List.cons_append, List.nil_append, List.append_assoc]
theorem reftwo_ok (kind a b : Nat) (hk : kind < 256) (ha : a < 18446744073709551616) (hb : b < 18446744073709551616) (F : Hp) : Plain Tryd.prog F 95 [u8 kind, u64 a, u64 b] (S (two kind a b)) := by
  have hkind : ((kind : Nat) : Int) = (((UInt8.ofNat kind).toNat : Nat) : Int) := by rw [UInt8.toNat_ofNat']; omega
  rw [hkind]
  refine plain_vc (N := 16) (rv := [.tmp 6]) tbok mixed Tryd.func95 rfl rfl rfl rfl rfl ?_
  (refine run ?_; repeat intro b)
  refine s_regiona [] (by kernel_rfl) ?_
  refine s_firsts [0, 3, 6, 4, 7] (f' := 5) (by kernel_rfl) rfl rfl rfl ?_
  (refine run ?_; repeat intro b)
  refine s_plain _ rfl rfl rfl bd113 rfl (refnum_ok a ha F) ?_
  (refine run ?_; repeat intro b)
  refine s_plain _ rfl rfl rfl bd113 rfl (refnum_ok b hb F) ?_
  (refine run ?_; repeat intro b)
  refine s_one 1 (by kernel_rfl) rfl rfl ?_
  (refine run ?_; repeat intro b)
  refine s_br (Hp.sub.refl _) trivial ?_
  refine s_one 2 (by kernel_rfl) rfl rfl ?_
  refine s_strR [UInt8.ofNat kind] rfl rfl rfl rfl (Nat.le_refl 1) rfl ?_
  (refine run ?_; repeat intro b)
  refine s_br (Hp.sub.refl _) trivial ?_
  refine s_firsts [5, 8, 9] (f' := 0) (by kernel_rfl) rfl rfl rfl ?_
  refine s_pureO rfl rfl rfl (by simp only [bl_S, num_length, List.length_cons, List.length_nil]; unfold maxInt; omega) ?_
  (refine run ?_; repeat intro b)
  refine s_pureO rfl rfl rfl (by simp only [bl_S, num_length, List.length_cons, List.length_nil, List.length_append]; unfold maxInt; omega) ?_
  (refine run ?_; repeat intro b)
  refine s_stop (by kernel_rfl) ?_
  (refine run ?_; repeat intro b)
  simp only [tupV, bl_S, two, List.cons_append, List.nil_append, List.append_assoc]
theorem two_length (kind a b : Nat) : (two kind a b).length = 17 := by
  unfold two
  simp only [List.length_cons, List.length_append, num_length]
theorem marktwo_ok (kind a b : Nat) (hk : kind < 256) (ha : a < 18446744073709551616) (hb : b < 18446744073709551616) (F : Hp) : Plain Tryd.prog F 69 [u8 kind, u64 a, u64 b] (u64 (markN (two kind a b) : Nat)) := by
  refine plain_vc (N := 12) (rv := [.tmp 6]) tbok mixed Tryd.func69 rfl rfl rfl rfl rfl ?_
  (refine run ?_; repeat intro b)
  refine s_plain _ rfl rfl rfl bd92 rfl (said_ok kind a b hk ha hb F) ?_
  (refine run ?_; repeat intro b)
  refine s_plain _ rfl rfl rfl bd68 rfl (markof_ok (two kind a b) (by rw [two_length]; decide) F) ?_
  (refine run ?_; repeat intro b)
  rfl
end Go.Proofs.YtbhlpnbidmnbkaaDoor
/-!
Heads, plainly: what is wrong with one, what is said of one; a number read out of eight bytes.
-/
namespace Go.Proofs.YtbhlpnbidmnbkaaDoor
set_option linter.unusedVariables false
set_option linter.unusedSimpArgs false
open Go.TR
/-- A head. -/
structure Head where
  epoch : Int
  root : Nat
  prev : Nat
  at_ : Int
deriving DecidableEq
@[reducible] def Head.v (h : Head) : Value := .agg #[i64 h.epoch, u64 (h.root : Nat), u64 (h.prev : Nat), i64 h.at_]
def Head.none : Head := ⟨0, 0, 0, 0⟩
/-- Its numbers fit the machine's kinds. -/
structure Head.wf (h : Head) : Prop where
  root : h.root < 18446744073709551616
  prev : h.prev < 18446744073709551616
  epoch : -9223372036854775808 ≤ h.epoch ∧ h.epoch ≤ 9223372036854775807
  at_ : -9223372036854775808 ≤ h.at_ ∧ h.at_ ≤ 9223372036854775807
def Head.bad1 (h : Head) : Bool := decide (h.epoch < 0) || decide (1000000 < h.epoch) || decide (MM ≤ h.root) || decide (MM ≤ h.prev) || decide (h.at_ < 0) || decide (1000000000 < h.at_)
def Head.bad2 (h : Head) : Bool := (h.epoch == 0) && !((h.prev : Int) == 0)
/-- What is wrong with a head: an error's number. -/
def Head.fault (h : Head) : Int := if h.bad1 = true then 4 else if h.bad2 = true then 3 else 0
/-- A number of 64 bits with a sign as one without. -/
def toU (n : Int) : Nat := (n % 18446744073709551616).toNat
theorem toU_val (n : Int) : IntKind.u64.wrap n = ((toU n : Nat) : Int) := by unfold toU; rw [u64w]; omega
theorem toU_lt (n : Int) : toU n < 18446744073709551616 := by unfold toU; omega
def Head.said (h : Head) : List UInt8 := 3 :: (num (toU h.epoch) ++ num h.root ++ num h.prev ++ num (toU h.at_))
theorem said_length (h : Head) : h.said.length = 33 := by
  unfold Head.said
  simp only [List.length_cons, List.length_append, num_length]
def Head.mark (h : Head) : Nat := markN h.said
theorem Head.ok_of {h : Head} (e : h.fault = 0) : 0 ≤ h.epoch ∧ h.epoch ≤ 1000000 ∧ h.root < MM ∧ h.prev < MM ∧ 0 ≤ h.at_ ∧ h.at_ ≤ 1000000000 ∧ (h.epoch = 0 → h.prev = 0) := by
  unfold Head.fault at e
  by_cases h1 : h.bad1 = true
  · rw [if_pos h1] at e; cases e
  · rw [if_neg h1] at e
    by_cases h2 : h.bad2 = true
    · rw [if_pos h2] at e; cases e
    · unfold Head.bad1 at h1
      unfold Head.bad2 at h2
      simp at h1 h2
      refine ⟨by omega, by omega, by omega, by omega, by omega, by omega, fun h0 => ?_⟩
      have := h2 h0
      omega
/-- A number out of bytes, the greatest first. -/
def be (l : List UInt8) : Nat := l.foldl (fun n c => 256 * n + c.toNat) 0
theorem be_fold : ∀ (l : List UInt8) (a : Nat), l.foldl (fun n c => 256 * n + c.toNat) a = a * 256 ^ l.length + be l
  | [], a => by simp [be]
  | c :: l, a => by
    unfold be
    rw [List.foldl_cons, List.foldl_cons, be_fold l (256 * a + c.toNat), be_fold l (256 * 0 + c.toNat), List.length_cons, Nat.pow_succ]
    generalize be l = x
    generalize 256 ^ l.length = y
    generalize c.toNat = z
    grind
theorem be_cons (c : UInt8) (l : List UInt8) : be (c :: l) = c.toNat * 256 ^ l.length + be l := by
  have := be_fold l (256 * 0 + c.toNat)
  unfold be at *
  rw [List.foldl_cons, this]
  simp
theorem be_lt : ∀ l : List UInt8, be l < 256 ^ l.length
  | [] => by simp [be]
  | c :: l => by
    have h1 := be_lt l
    have h2 : c.toNat < 256 := c.toNat_lt
    rw [be_cons, List.length_cons, Nat.pow_succ]
    have : c.toNat * 256 ^ l.length ≤ 255 * 256 ^ l.length := Nat.mul_le_mul_right _ (by omega)
    omega
theorem lowB_add : ∀ (k m n : Nat), lowB k (m * 256 ^ k + n) = lowB k n
  | 0, _, _ => rfl
  | k + 1, m, n => by
    simp only [lowB]
    have e1 : (m * 256 ^ (k + 1) + n) / 256 ^ k % 256 = n / 256 ^ k % 256 := by
      have : m * 256 ^ (k + 1) + n = n + (m * 256) * 256 ^ k := by rw [Nat.pow_succ]; generalize 256 ^ k = y; grind
      rw [this, Nat.add_mul_div_right _ _ (Nat.pow_pos (by decide))]
      omega
    have e2 : lowB k (m * 256 ^ (k + 1) + n) = lowB k n := by
      have : m * 256 ^ (k + 1) + n = (m * 256) * 256 ^ k + n := by rw [Nat.pow_succ]; generalize 256 ^ k = y; grind
      rw [this, lowB_add k]
    rw [e1, e2]
theorem lowB_be : ∀ l : List UInt8, lowB l.length (be l) = l
  | [] => rfl
  | c :: l => by
    rw [List.length_cons, be_cons]
    simp only [lowB]
    have h1 := be_lt l
    have h2 : c.toNat < 256 := c.toNat_lt
    have e1 : (c.toNat * 256 ^ l.length + be l) / 256 ^ l.length = c.toNat := by
      rw [Nat.add_comm, Nat.add_mul_div_right _ _ (Nat.pow_pos (by decide)), Nat.div_eq_of_lt h1, Nat.zero_add]
    rw [e1, lowB_add, lowB_be l, Nat.mod_eq_of_lt h2, UInt8.ofNat_toNat]
theorem num_be (l : List UInt8) (h : l.length = 8) : num (be l) = l := by
  unfold num
  have := lowB_be l
  rwa [h] at this
theorem be_lt8 (l : List UInt8) (h : l.length = 8) : be l < 18446744073709551616 := by
  have := be_lt l
  rw [h] at this
  exact this
theorem be_snoc (l : List UInt8) (c : UInt8) : be (l ++ [c]) = 256 * be l + c.toNat := by
  unfold be
  rw [List.foldl_append, List.foldl_cons, List.foldl_nil]
/-- What eight bytes from place 1 + 8 i on say. -/
def numAt (s : List UInt8) (i : Nat) : Nat := be ((s.take (9 + 8 * i)).drop (1 + 8 * i))
theorem piece_length (s : List UInt8) (i : Nat) (h : s.length = 33) (hi : i < 4) : ((s.take (9 + 8 * i)).drop (1 + 8 * i)).length = 8 := by
  rw [List.length_drop, List.length_take]; omega
/-- A number of 64 bits without a sign as one with. -/
def toI (n : Nat) : Int := IntKind.i64.wrap (n : Int)
theorem toU_toI (n : Nat) (h : n < 18446744073709551616) : toU (toI n) = n := by
  unfold toU toI
  rw [IntKind.wrap_i64]
  omega
/-- The head that 33 bytes tell of. -/
def headOf (s : List UInt8) : Head := ⟨toI (numAt s 0), numAt s 1, numAt s 2, toI (numAt s 3)⟩
theorem said_headOf (s : List UInt8) (h : s.length = 33) (h0 : s.head? = some 3) : (headOf s).said = s := by
  obtain ⟨c, t, rfl⟩ : ∃ c t, s = c :: t := by cases s with | nil => cases h0 | cons c t => exact ⟨c, t, rfl⟩
  simp only [List.head?_cons, Option.some.injEq] at h0
  subst h0
  unfold Head.said headOf
  have l0 := piece_length (3 :: t) 0 h (by decide)
  have l1 := piece_length (3 :: t) 1 h (by decide)
  have l2 := piece_length (3 :: t) 2 h (by decide)
  have l3 := piece_length (3 :: t) 3 h (by decide)
  simp only
  unfold numAt
  rw [toU_toI _ (be_lt8 _ l0), toU_toI _ (be_lt8 _ l3), num_be _ l0, num_be _ l1, num_be _ l2, num_be _ l3]
  simp only [List.length_cons] at h
  have ht : t.length = 32 := by omega
  congr 1
  have key : ∀ a b : Nat, a ≤ b → b ≤ 32 → ((3 :: t).take (b + 1)).drop (a + 1) = (t.take b).drop a := fun a b _ _ => by
    rw [List.take_succ_cons, List.drop_succ_cons]
  have e0 := key 0 8 (by decide) (by decide)
  have e1 := key 8 16 (by decide) (by decide)
  have e2 := key 16 24 (by decide) (by decide)
  have e3 := key 24 32 (by decide) (by decide)
  show ((3 :: t).take (8 + 1)).drop (0 + 1) ++ ((3 :: t).take (16 + 1)).drop (8 + 1) ++ ((3 :: t).take (24 + 1)).drop (16 + 1) ++ ((3 :: t).take (32 + 1)).drop (24 + 1) = t
  rw [e0, e1, e2, e3, List.drop_zero]
  have j : ∀ a b : Nat, a ≤ b → t.take a ++ (t.take b).drop a = t.take b := fun a b hab => by
    have := List.take_append_drop a (t.take b)
    rwa [List.take_take, Nat.min_eq_left hab] at this
  rw [j 8 16 (by decide), j 16 24 (by decide), j 24 32 (by decide), List.take_of_length_le (by omega)]
end Go.Proofs.YtbhlpnbidmnbkaaDoor
