/-
Package mark and its reference: the reference's number of a text, powers, joining.
-/
import Derived.Test.YthkmfihbpbehfaaMark
namespace Go.Proofs.Ythkmfihbpbehfaa
set_option linter.unusedVariables false
set_option linter.unusedSimpArgs false
open Go.TR
attribute [local irreducible] vc vcOps seqK blockK loopK retK retG retI loopV Plain CallOK CallIn bodied VS vcAny dropG backK brK loopPK IntKind.wrap
set_option maxRecDepth 100000
theorem c1_val (c : UInt8) : IntKind.u64.wrap (IntKind.u64.wrap ((c.toNat : Nat) : Int) + 1) = ((c.toNat + 1 : Nat) : Int) := by
  have h2 : c.toNat < 256 := c.toNat_lt
  simp only [u64w]
  omega
theorem sum_val (x y : Nat) (hx : x < MM) (hy : y < MM) : (IntKind.u64.wrap ((x : Int) + (y : Int))).tmod 2305843009213693951 = (((x + y) % MM : Nat) : Int) := by
  rw [r_add, Nat.mod_eq_of_lt (by unfold MM at hx hy; omega)]
  exact r_rem _ 2305843009213693951
theorem refmark_ok (l : List UInt8) (hl : l.length ≤ 4611686018427387904) (F : Hp) : Plain Try.prog F 89 [S l] (u64 (markN l : Nat)) := by
  refine plain_vc (N := 29) (rv := [.tmp 2]) tbok mixed Try.func89 rfl rfl rfl rfl rfl ?_
  (refine run ?_; repeat intro b)
  refine s_loopP (fun k : Nat => k ≤ l.length) (fun k => ⟨[(0, .v (S l)), (3, .v (u64 ((sp (l.drop k)).1 : Nat))), (4, .v (u64 ((sp (l.drop k)).2 : Nat))), (5, .v (i64 ((k : Int) - 1)))], F, [], 0⟩) (fun k => k) l.length (Nat.le_refl _) (VS.keepN [0, 3, 4, 5] rfl ?_) ?_
  · rw [List.drop_length, bl_S, wrap_i64 (by omega) (by omega)]
    rfl
  intro k hk
  (refine run ?_; repeat intro b)
  refine s_if _ rfl (fun h => ?_) (fun h => ?_)
  · have hpos : 1 ≤ k := by simp at h; omega
    obtain ⟨j, rfl⟩ : ∃ j, k = j + 1 := ⟨k - 1, by omega⟩
    have hlt : j < l.length := by omega
    have hidx : (((j + 1 : Nat) : Int) - 1) = (j : Int) := by omega
    obtain ⟨h1, h2⟩ := sp_lt (l.drop (j + 1))
    have hd : l.drop j = l[j] :: l.drop (j + 1) := List.drop_eq_getElem_cons hlt
    (refine run ?_; repeat intro b)
    rw [hidx]
    refine s_pureO rfl rfl rfl ⟨by omega, by rw [bl_S]; omega⟩ ?_
    rw [byte_get l j hlt]
    (refine run ?_; repeat intro b)
    rw [c1_val]
    have hc : l[j].toNat < 256 := l[j].toNat_lt
    refine s_plain _ rfl rfl rfl bd136 rfl (mul_ok _ _ (Nat.lt_trans h2 (by decide)) (by omega) F) ?_
    (refine run ?_; repeat intro b)
    refine s_plain (u64 ((sp (l.drop (j + 1))).2 * bas % MM : Nat)) rfl rfl rfl bd136 rfl (mul_ok _ bas (Nat.lt_trans h2 (by decide)) (by decide) F) ?_
    (refine run ?_; repeat intro b)
    rw [wrap_i64 (n := (j : Int) - 1) (by omega) (by omega), sum_val _ _ h1 (Nat.mod_lt _ (by decide))]
    refine s_loopPn j (by omega) (by omega) (VS.keepN [0, 3, 4, 5] rfl ?_)
    rw [hd]
    simp only [sp]
  · have hz : k = 0 := by simp at h; omega
    subst hz
    (refine run ?_; repeat intro b)
    obtain ⟨h1, h2⟩ := sp_lt l
    rw [List.drop_zero, sum_val _ _ h1 h2, markN_sp]
    rfl
/-- What may be joined. -/
def joinBad (a b : Nat) (n : Int) : Bool := decide (MM ≤ a) || decide (MM ≤ b) || decide (n < 0) || decide (600 < n)
def joinN (a b : Nat) (n : Int) : Nat := if joinBad a b n = true then 0 else (a * powN n.toNat % MM + b + MM - powN n.toNat) % MM
def joinE (a b : Nat) (n : Int) : Int := if joinBad a b n = true then 4 else 0
theorem geq_MM (a : Nat) : decide ((2305843009213693951 : Int) ≤ (a : Int)) = decide (MM ≤ a) := by
  unfold MM
  congr 1
  exact propext ⟨fun h => by omega, fun h => by omega⟩
end Go.Proofs.Ythkmfihbpbehfaa
