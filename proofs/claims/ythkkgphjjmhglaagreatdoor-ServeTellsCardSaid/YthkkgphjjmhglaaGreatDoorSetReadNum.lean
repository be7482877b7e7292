/-
Package mark and its reference: the reference's number of a text, powers, joining.
-/
import Derived.Test.YthkkgphjjmhglaaGreatDoorSetMark
/-!
Package mark and its reference: the reference's number of a text, powers, joining.
-/
namespace Go.Proofs.YthkkgphjjmhglaaGreatDoor
set_option linter.unusedVariables false
set_option linter.unusedSimpArgs false
open Go.TR
attribute [local irreducible] vc vcOps seqK blockK loopK retK retG retI loopV Plain CallOK CallIn bodied VS vcAny dropG backK brK loopPK IntKind.wrap
set_option maxRecDepth 100000
theorem c1_val (c : UInt8) : IntKind.u64.wrap (IntKind.u64.wrap ((c.toNat : Nat) : Int) + 1) = ((c.toNat + 1 : Nat) : Int) := by
  have h2 : c.toNat < 256 := c.toNat_lt
  simp only [u64w]
  omega
theorem sum_val (x y : Nat) (hx : x < MM) (hy : y < MM) : (IntKind.u64.wrap ((x : Int) + (y : Int))).tmod 2305843009213693951 = (((x + y) % MM : Nat) : Int) := by
  rw [r_add, Nat.mod_eq_of_lt (by unfold MM at hx hy; omega)]
  exact r_rem _ 2305843009213693951
theorem refmark_ok (l : List UInt8) (hl : l.length ≤ 4611686018427387904) (F : Hp) : Plain Tryz.prog F 22 [S l] (u64 (markN l : Nat)) := by
  refine plain_vc (N := 29) (rv := [.tmp 2]) tbok mixed Tryz.func22 rfl rfl rfl rfl rfl ?_
  (refine run ?_; repeat intro b)
  refine s_loopP (fun k : Nat => k ≤ l.length) (fun k => ⟨[(0, .v (S l)), (3, .v (u64 ((sp (l.drop k)).1 : Nat))), (4, .v (u64 ((sp (l.drop k)).2 : Nat))), (5, .v (i64 ((k : Int) - 1)))], F, [], 0⟩) (fun k => k) l.length (Nat.le_refl _) (VS.keepN [0, 3, 4, 5] rfl ?_) ?_
  · rw [List.drop_length, bl_S, wrap_i64 (by omega) (by omega)]
    rfl
  intro k hk
  (refine run ?_; repeat intro b)
  refine s_if _ rfl (fun h => ?_) (fun h => ?_)
  · have hpos : 1 ≤ k := by simp at h; omega
    obtain ⟨j, rfl⟩ : ∃ j, k = j + 1 := ⟨k - 1, by omega⟩
    have hlt : j < l.length := by omega
    have hidx : (((j + 1 : Nat) : Int) - 1) = (j : Int) := by omega
    obtain ⟨h1, h2⟩ := sp_lt (l.drop (j + 1))
    have hd : l.drop j = l[j] :: l.drop (j + 1) := List.drop_eq_getElem_cons hlt
    (refine run ?_; repeat intro b)
    rw [hidx]
    refine s_pureO rfl rfl rfl ⟨by omega, by rw [bl_S]; omega⟩ ?_
    rw [byte_get l j hlt]
    (refine run ?_; repeat intro b)
    rw [c1_val]
    have hc : l[j].toNat < 256 := l[j].toNat_lt
    refine s_plain _ rfl rfl rfl bd71 rfl (mul_ok _ _ (Nat.lt_trans h2 (by decide)) (by omega) F) ?_
    (refine run ?_; repeat intro b)
    refine s_plain (u64 ((sp (l.drop (j + 1))).2 * bas % MM : Nat)) rfl rfl rfl bd71 rfl (mul_ok _ bas (Nat.lt_trans h2 (by decide)) (by decide) F) ?_
    (refine run ?_; repeat intro b)
    rw [wrap_i64 (n := (j : Int) - 1) (by omega) (by omega), sum_val _ _ h1 (Nat.mod_lt _ (by decide))]
    refine s_loopPn j (by omega) (by omega) (VS.keepN [0, 3, 4, 5] rfl ?_)
    rw [hd]
    simp only [sp]
  · have hz : k = 0 := by simp at h; omega
    subst hz
    (refine run ?_; repeat intro b)
    obtain ⟨h1, h2⟩ := sp_lt l
    rw [List.drop_zero, sum_val _ _ h1 h2, markN_sp]
    rfl
/-- What may be joined. -/
def joinBad (a b : Nat) (n : Int) : Bool := decide (MM ≤ a) || decide (MM ≤ b) || decide (n < 0) || decide (600 < n)
def joinN (a b : Nat) (n : Int) : Nat := if joinBad a b n = true then 0 else (a * powN n.toNat % MM + b + MM - powN n.toNat) % MM
def joinE (a b : Nat) (n : Int) : Int := if joinBad a b n = true then 4 else 0
theorem geq_MM (a : Nat) : decide ((2305843009213693951 : Int) ≤ (a : Int)) = decide (MM ≤ a) := by
  unfold MM
  congr 1
  exact propext ⟨fun h => by omega, fun h => by omega⟩
end Go.Proofs.YthkkgphjjmhglaaGreatDoor
/-!
What is said of two numbers: package mark, and its reference.
-/
namespace Go.Proofs.YthkkgphjjmhglaaGreatDoor
set_option linter.unusedVariables false
set_option linter.unusedSimpArgs false
open Go.TR
attribute [local irreducible] vc vcOps seqK blockK loopK retK retG retI loopV Plain CallOK CallIn bodied VS vcAny dropG backK brK loopPK IntKind.wrap
set_option maxRecDepth 100000
theorem said_ok (kind a b : Nat) (hk : kind < 256) (ha : a < 18446744073709551616) (hb : b < 18446744073709551616) (F : Hp) : Plain Tryz.prog F 210 [u8 kind, u64 a, u64 b] (S (two kind a b)) := by
  have hkind : ((kind : Nat) : Int) = (((UInt8.ofNat kind).toNat : Nat) : Int) := by rw [UInt8.toNat_ofNat']; omega
  rw [hkind]
  refine plain_vc (N := 16) (rv := [.tmp 6]) tbok mixed Tryz.func210 rfl rfl rfl rfl rfl ?_
  (refine run ?_; repeat intro b)
  refine s_regiona [] (by kernel_rfl) ?_
  refine s_firsts [0, 3, 6, 4, 7] (f' := 5) (by kernel_rfl) rfl rfl rfl ?_
  (refine run ?_; repeat intro b)
  refine s_plain _ rfl rfl rfl bd232 rfl (wirenum_ok a  F) ?_
  (refine run ?_; repeat intro b)
  refine s_plain _ rfl rfl rfl bd232 rfl (wirenum_ok b  F) ?_
  (refine run ?_; repeat intro b)
  refine s_one 1 (by kernel_rfl) rfl rfl ?_
  (refine run ?_; repeat intro b)
  refine s_br (Hp.sub.refl _) trivial ?_
  refine s_one 2 (by kernel_rfl) rfl rfl ?_
  refine s_strR [UInt8.ofNat kind] rfl rfl rfl rfl (Nat.le_refl 1) rfl ?_
  (refine run ?_; repeat intro b)
  refine s_br (Hp.sub.refl _) trivial ?_
  refine s_firsts [5, 8, 9] (f' := 0) (by kernel_rfl) rfl rfl rfl ?_
  refine s_pureO rfl rfl rfl (by simp only [bl_S, num_length, List.length_cons, List.length_nil]; unfold maxInt; omega) ?_
  (refine run ?_; repeat intro b)
  refine s_pureO rfl rfl rfl (by simp only [bl_S, num_length, List.length_cons, List.length_nil, List.length_append]; unfold maxInt; omega) ?_
  (refine run ?_; repeat intro b)
  refine s_stop (by kernel_rfl) ?_
  (refine run ?_; repeat intro b)
  simp only [tupV, bl_S, two, List.cons_append, List.nil_append, List.append_assoc]
theorem reftwo_ok (kind a b : Nat) (hk : kind < 256) (ha : a < 18446744073709551616) (hb : b < 18446744073709551616) (F : Hp) : Plain Tryz.prog F 147 [u8 kind, u64 a, u64 b] (S (two kind a b)) := by
  have hkind : ((kind : Nat) : Int) = (((UInt8.ofNat kind).toNat : Nat) : Int) := by rw [UInt8.toNat_ofNat']; omega
  rw [hkind]
  refine plain_vc (N := 16) (rv := [.tmp 6]) tbok mixed Tryz.func147 rfl rfl rfl rfl rfl ?_
  (refine run ?_; repeat intro b)
  refine s_regiona [] (by kernel_rfl) ?_
  refine s_firsts [0, 3, 6, 4, 7] (f' := 5) (by kernel_rfl) rfl rfl rfl ?_
  (refine run ?_; repeat intro b)
  refine s_plain _ rfl rfl rfl bd143 rfl (refnum_ok a ha F) ?_
  (refine run ?_; repeat intro b)
  refine s_plain _ rfl rfl rfl bd143 rfl (refnum_ok b hb F) ?_
  (refine run ?_; repeat intro b)
  refine s_one 1 (by kernel_rfl) rfl rfl ?_
  (refine run ?_; repeat intro b)
  refine s_br (Hp.sub.refl _) trivial ?_
  refine s_one 2 (by kernel_rfl) rfl rfl ?_
  refine s_strR [UInt8.ofNat kind] rfl rfl rfl rfl (Nat.le_refl 1) rfl ?_
  (refine run ?_; repeat intro b)
  refine s_br (Hp.sub.refl _) trivial ?_
  refine s_firsts [5, 8, 9] (f' := 0) (by kernel_rfl) rfl rfl rfl ?_
  refine s_pureO rfl rfl rfl (by simp only [bl_S, num_length, List.length_cons, List.length_nil]; unfold maxInt; omega) ?_
  (refine run ?_; repeat intro b)
  refine s_pureO rfl rfl rfl (by simp only [bl_S, num_length, List.length_cons, List.length_nil, List.length_append]; unfold maxInt; omega) ?_
  (refine run ?_; repeat intro b)
  refine s_stop (by kernel_rfl) ?_
  (refine run ?_; repeat intro b)
  simp only [tupV, bl_S, two, List.cons_append, List.nil_append, List.append_assoc]
theorem two_length (kind a b : Nat) : (two kind a b).length = 17 := by
  unfold two
  simp only [List.length_cons, List.length_append, num_length]
theorem marktwo_ok (kind a b : Nat) (hk : kind < 256) (ha : a < 18446744073709551616) (hb : b < 18446744073709551616) (F : Hp) : Plain Tryz.prog F 173 [u8 kind, u64 a, u64 b] (u64 (markN (two kind a b) : Nat)) := by
  refine plain_vc (N := 12) (rv := [.tmp 6]) tbok mixed Tryz.func173 rfl rfl rfl rfl rfl ?_
  (refine run ?_; repeat intro b)
  refine s_plain _ rfl rfl rfl bd210 rfl (said_ok kind a b hk ha hb F) ?_
  (refine run ?_; repeat intro b)
  refine s_plain _ rfl rfl rfl bd171 rfl (markof_ok (two kind a b) (by rw [two_length]; decide) F) ?_
  (refine run ?_; repeat intro b)
  rfl
end Go.Proofs.YthkkgphjjmhglaaGreatDoor
/-!
Heads, plainly: what is wrong with one, what is said of one; a number read out of eight bytes.
-/
namespace Go.Proofs.YthkkgphjjmhglaaGreatDoor
set_option linter.unusedVariables false
set_option linter.unusedSimpArgs false
open Go.TR
/-- A head. -/
structure Head where
  epoch : Int
  root : Nat
  prev : Nat
  at_ : Int
deriving DecidableEq
@[reducible] def Head.v (h : Head) : Value := .agg #[i64 h.epoch, u64 (h.root : Nat), u64 (h.prev : Nat), i64 h.at_]
def Head.none : Head := ⟨0, 0, 0, 0⟩
/-- Its numbers fit the machine's kinds. -/
structure Head.wf (h : Head) : Prop where
  root : h.root < 18446744073709551616
  prev : h.prev < 18446744073709551616
  epoch : -9223372036854775808 ≤ h.epoch ∧ h.epoch ≤ 9223372036854775807
  at_ : -9223372036854775808 ≤ h.at_ ∧ h.at_ ≤ 9223372036854775807
def Head.bad1 (h : Head) : Bool := decide (h.epoch < 0) || decide (1000000 < h.epoch) || decide (MM ≤ h.root) || decide (MM ≤ h.prev) || decide (h.at_ < 0) || decide (1000000000 < h.at_)
def Head.bad2 (h : Head) : Bool := (h.epoch == 0) && !((h.prev : Int) == 0)
/-- What is wrong with a head: an error's number. -/
def Head.fault (h : Head) : Int := if h.bad1 = true then 4 else if h.bad2 = true then 3 else 0
/-- A number of 64 bits with a sign as one without. -/
def toU (n : Int) : Nat := (n % 18446744073709551616).toNat
theorem toU_val (n : Int) : IntKind.u64.wrap n = ((toU n : Nat) : Int) := by unfold toU; rw [u64w]; omega
theorem toU_lt (n : Int) : toU n < 18446744073709551616 := by unfold toU; omega
def Head.said (h : Head) : List UInt8 := 3 :: (num (toU h.epoch) ++ num h.root ++ num h.prev ++ num (toU h.at_))
theorem said_length (h : Head) : h.said.length = 33 := by
  unfold Head.said
  simp only [List.length_cons, List.length_append, num_length]
def Head.mark (h : Head) : Nat := markN h.said
theorem Head.ok_of {h : Head} (e : h.fault = 0) : 0 ≤ h.epoch ∧ h.epoch ≤ 1000000 ∧ h.root < MM ∧ h.prev < MM ∧ 0 ≤ h.at_ ∧ h.at_ ≤ 1000000000 ∧ (h.epoch = 0 → h.prev = 0) := by
  unfold Head.fault at e
  by_cases h1 : h.bad1 = true
  · rw [if_pos h1] at e; cases e
  · rw [if_neg h1] at e
    by_cases h2 : h.bad2 = true
    · rw [if_pos h2] at e; cases e
    · unfold Head.bad1 at h1
      unfold Head.bad2 at h2
      simp at h1 h2
      refine ⟨by omega, by omega, by omega, by omega, by omega, by omega, fun h0 => ?_⟩
      have := h2 h0
      omega
/-- A number out of bytes, the greatest first. -/
def be (l : List UInt8) : Nat := l.foldl (fun n c => 256 * n + c.toNat) 0
/-- What eight bytes from place 1 + 8 i on say. -/
def numAt (s : List UInt8) (i : Nat) : Nat := be ((s.take (9 + 8 * i)).drop (1 + 8 * i))
/-- A number of 64 bits without a sign as one with. -/
def toI (n : Nat) : Int := IntKind.i64.wrap (n : Int)
/-- The head that 33 bytes tell of. -/
def headOf (s : List UInt8) : Head := ⟨toI (numAt s 0), numAt s 1, numAt s 2, toI (numAt s 3)⟩
end Go.Proofs.YthkkgphjjmhglaaGreatDoor
/-!
Eight bytes read as a number: package wire, and the reference.
-/
namespace Go.Proofs.YthkkgphjjmhglaaGreatDoor
set_option linter.unusedVariables false
set_option linter.unusedSimpArgs false
open Go.TR
def readN (l : List UInt8) : Nat := if l.length = 8 then be l else 0
attribute [local irreducible] vc vcOps seqK blockK loopK retK retG retI loopV Plain CallOK CallIn bodied VS vcAny dropG backK brK loopPK IntKind.wrap
set_option maxRecDepth 100000
end Go.Proofs.YthkkgphjjmhglaaGreatDoor
