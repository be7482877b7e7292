/-
What is said of two numbers: package mark, and its reference.
-/
import Derived.Test.YthkmfihbpbehfaaNum
import Derived.Test.YthkmfihbpbehfaaMark2
namespace Go.Proofs.Ythkmfihbpbehfaa
set_option linter.unusedVariables false
set_option linter.unusedSimpArgs false
open Go.TR
attribute [local irreducible] vc vcOps seqK blockK loopK retK retG retI loopV Plain CallOK CallIn bodied VS vcAny dropG backK brK loopPK IntKind.wrap
set_option maxRecDepth 100000
theorem said_ok (kind a b : Nat) (hk : kind < 256) (ha : a < 18446744073709551616) (hb : b < 18446744073709551616) (F : Hp) : Plain Try.prog F 121 [u8 kind, u64 a, u64 b] (S (two kind a b)) := by
  have hkind : ((kind : Nat) : Int) = (((UInt8.ofNat kind).toNat : Nat) : Int) := by rw [UInt8.toNat_ofNat']; omega
  rw [hkind]
  refine plain_vc (N := 16) (rv := [.tmp 6]) tbok mixed Try.func121 rfl rfl rfl rfl rfl ?_
  (refine run ?_; repeat intro b)
  refine s_regiona [] (by kernel_rfl) ?_
  refine s_firsts [0, 3, 6, 4, 7] (f' := 5) (by kernel_rfl) rfl rfl rfl ?_
  (refine run ?_; repeat intro b)
  refine s_plain _ rfl rfl rfl bd135 rfl (wirenum_ok a  F) ?_
  (refine run ?_; repeat intro b)
  refine s_plain _ rfl rfl rfl bd135 rfl (wirenum_ok b  F) ?_
  (refine run ?_; repeat intro b)
  refine s_one 1 (by kernel_rfl) rfl rfl ?_
  (refine run ?_; repeat intro b)
  refine s_br (Hp.sub.refl _) trivial ?_
  refine s_one 2 (by kernel_rfl) rfl rfl ?_
  refine s_strR [UInt8.ofNat kind] rfl rfl rfl rfl (Nat.le_refl 1) rfl ?_
  (refine run ?_; repeat intro b)
  refine s_br (Hp.sub.refl _) trivial ?_
  refine s_firsts [5, 8, 9] (f' := 0) (by kernel_rfl) rfl rfl rfl ?_
  refine s_pureO rfl rfl rfl (by simp only [bl_S, num_length, List.length_cons, List.length_nil]; unfold maxInt; omega) ?_
  (refine run ?_; repeat intro b)
  refine s_pureO rfl rfl rfl (by simp only [bl_S, num_length, List.length_cons, List.length_nil, List.length_append]; unfold maxInt; omega) ?_
  (refine run ?_; repeat intro b)
  refine s_stop (by kernel_rfl) ?_
  (refine run ?_; repeat intro b)
  simp only [tupV, bl_S, two, List.cons_append, List.nil_append, List.append_assoc]
theorem reftwo_ok (kind a b : Nat) (hk : kind < 256) (ha : a < 18446744073709551616) (hb : b < 18446744073709551616) (F : Hp) : Plain Try.prog F 101 [u8 kind, u64 a, u64 b] (S (two kind a b)) := by
  have hkind : ((kind : Nat) : Int) = (((UInt8.ofNat kind).toNat : Nat) : Int) := by rw [UInt8.toNat_ofNat']; omega
  rw [hkind]
  refine plain_vc (N := 16) (rv := [.tmp 6]) tbok mixed Try.func101 rfl rfl rfl rfl rfl ?_
  (refine run ?_; repeat intro b)
  refine s_regiona [] (by kernel_rfl) ?_
  refine s_firsts [0, 3, 6, 4, 7] (f' := 5) (by kernel_rfl) rfl rfl rfl ?_
  (refine run ?_; repeat intro b)
  refine s_plain _ rfl rfl rfl bd90 rfl (refnum_ok a ha F) ?_
  (refine run ?_; repeat intro b)
  refine s_plain _ rfl rfl rfl bd90 rfl (refnum_ok b hb F) ?_
  (refine run ?_; repeat intro b)
  refine s_one 1 (by kernel_rfl) rfl rfl ?_
  (refine run ?_; repeat intro b)
  refine s_br (Hp.sub.refl _) trivial ?_
  refine s_one 2 (by kernel_rfl) rfl rfl ?_
  refine s_strR [UInt8.ofNat kind] rfl rfl rfl rfl (Nat.le_refl 1) rfl ?_
  (refine run ?_; repeat intro b)
  refine s_br (Hp.sub.refl _) trivial ?_
  refine s_firsts [5, 8, 9] (f' := 0) (by kernel_rfl) rfl rfl rfl ?_
  refine s_pureO rfl rfl rfl (by simp only [bl_S, num_length, List.length_cons, List.length_nil]; unfold maxInt; omega) ?_
  (refine run ?_; repeat intro b)
  refine s_pureO rfl rfl rfl (by simp only [bl_S, num_length, List.length_cons, List.length_nil, List.length_append]; unfold maxInt; omega) ?_
  (refine run ?_; repeat intro b)
  refine s_stop (by kernel_rfl) ?_
  (refine run ?_; repeat intro b)
  simp only [tupV, bl_S, two, List.cons_append, List.nil_append, List.append_assoc]
theorem two_length (kind a b : Nat) : (two kind a b).length = 17 := by
  unfold two
  simp only [List.length_cons, List.length_append, num_length]
theorem marktwo_ok (kind a b : Nat) (hk : kind < 256) (ha : a < 18446744073709551616) (hb : b < 18446744073709551616) (F : Hp) : Plain Try.prog F 167 [u8 kind, u64 a, u64 b] (u64 (markN (two kind a b) : Nat)) := by
  refine plain_vc (N := 12) (rv := [.tmp 6]) tbok mixed Try.func167 rfl rfl rfl rfl rfl ?_
  (refine run ?_; repeat intro b)
  refine s_plain _ rfl rfl rfl bd121 rfl (said_ok kind a b hk ha hb F) ?_
  (refine run ?_; repeat intro b)
  refine s_plain _ rfl rfl rfl bd103 rfl (markof_ok (two kind a b) (by rw [two_length]; decide) F) ?_
  (refine run ?_; repeat intro b)
  rfl
theorem alike_ok (s t : List UInt8) (hs : s.length ≤ 4611686018427387904) (ht : t.length ≤ 4611686018427387904) (F : Hp) : Plain Try.prog F 104 [S s, S t] (.bool (!decide (s = t) && (((markN s : Nat) : Int) == ((markN t : Nat) : Int)))) := by
  refine plain_vc (N := 15) (rv := [.tmp 4]) tbok mixed Try.func104 rfl rfl rfl rfl rfl ?_
  (refine run ?_; repeat intro b)
  refine s_gplain _ rfl rfl rfl rfl bd103 rfl rfl (fun _ => markof_ok s hs F) ?_
  (refine run ?_; repeat intro b)
  refine s_gplain _ rfl rfl rfl rfl bd103 rfl rfl (fun _ => markof_ok t ht F) ?_
  (refine run ?_; repeat intro b)
  simp only [tupV, bpick_and, bl_S]
  congr
end Go.Proofs.Ythkmfihbpbehfaa
