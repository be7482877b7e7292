/-
Package tag and its reference: the walks.
-/
import Derived.Test.YteahoodopphacaaGreatSetBits
import Derived.Test.YteahoodopphacaaGreatWireGet
import Derived.Test.YteahoodopphacaaGreatSetHeadMath
namespace Go.Proofs.YteahoodopphacaaGreat
set_option linter.unusedVariables false
set_option linter.unusedSimpArgs false
open Go.TR
def tagN (key : Nat) (s : List UInt8) : Nat := markN (num key ++ s ++ num key)
def askSaid (name value : List UInt8) (n : Nat) : List UInt8 := num n ++ partsOut [name, value]
theorem put_two (a b : List UInt8) : putO [a, b] = partsOut [a, b] := by
  unfold putO partsOut
  rw [if_neg (by simp)]
  cases partsF [a, b] [] <;> rfl
theorem partsOut_len (l : List (List UInt8)) : (partsOut l).length ≤ 600 := by
  unfold partsOut
  cases h : partsF l [] with
  | none => simp
  | some o => exact partsF_le l [] o (by simp) h
theorem askSaid_len (name value : List UInt8) (n : Nat) : (askSaid name value n).length ≤ 608 := by
  unfold askSaid
  have := partsOut_len [name, value]
  simp only [List.length_append, num_length]
  omega
attribute [local irreducible] vc vcOps seqK blockK loopK retK retG retI loopV Plain CallOK CallIn bodied VS vcAny dropG backK brK loopPK IntKind.wrap
set_option maxRecDepth 100000
theorem tagof_ok (key : Nat) (s : List UInt8) (hk : key < 18446744073709551616) (hs : s.length ≤ 4611686018427387888) (F : Hp) : Plain Tryz.prog F 32 [u64 key, S s] (u64 (tagN key s : Nat)) := by
  refine plain_vc (N := 13) (rv := [.tmp 4]) tbok mixed Tryz.func32 rfl rfl rfl rfl rfl ?_
  (refine run ?_; repeat intro b)
  refine s_plain _ rfl rfl rfl bd46 rfl (wirenum_ok key F) ?_
  (refine run ?_; repeat intro b)
  refine s_pureO rfl rfl rfl (by simp only [bl_S, num_length]; unfold maxInt; omega) ?_
  (refine run ?_; repeat intro b)
  refine s_plain _ rfl rfl rfl bd46 rfl (wirenum_ok key F) ?_
  (refine run ?_; repeat intro b)
  refine s_pureO rfl rfl rfl (by simp only [bl_S, num_length, List.length_append]; unfold maxInt; omega) ?_
  (refine run ?_; repeat intro b)
  refine s_plain _ rfl rfl rfl bd45 rfl (markof_ok (num key ++ s ++ num key) (by simp only [num_length, List.length_append]; omega) F) ?_
  (refine run ?_; repeat intro b)
  rfl
theorem reftag_ok (key : Nat) (s : List UInt8) (hk : key < 18446744073709551616) (hs : s.length ≤ 4611686018427387888) (F : Hp) : Plain Tryz.prog F 29 [u64 key, S s] (u64 (tagN key s : Nat)) := by
  refine plain_vc (N := 13) (rv := [.tmp 4]) tbok mixed Tryz.func29 rfl rfl rfl rfl rfl ?_
  (refine run ?_; repeat intro b)
  refine s_plain _ rfl rfl rfl bd30 rfl (refnum_ok key hk F) ?_
  (refine run ?_; repeat intro b)
  refine s_pureO rfl rfl rfl (by simp only [bl_S, num_length]; unfold maxInt; omega) ?_
  (refine run ?_; repeat intro b)
  refine s_plain _ rfl rfl rfl bd30 rfl (refnum_ok key hk F) ?_
  (refine run ?_; repeat intro b)
  refine s_pureO rfl rfl rfl (by simp only [bl_S, num_length, List.length_append]; unfold maxInt; omega) ?_
  (refine run ?_; repeat intro b)
  refine s_plain _ rfl rfl rfl bd44 rfl (refmark_ok (num key ++ s ++ num key) (by simp only [num_length, List.length_append]; omega) F) ?_
  (refine run ?_; repeat intro b)
  rfl
theorem tagsaid_ok (name value : List UInt8) (n : Nat) (F : Hp) : Plain Tryz.prog F 33 [S name, S value, u64 n] (S (askSaid name value n)) := by
  refine plain_vc (N := 20) (rv := [.tmp 6]) tbok mixed Tryz.func33 rfl rfl rfl rfl rfl ?_
  (refine run ?_; repeat intro b)
  refine s_shift (VS.freeze 0 [0, 1, 2, 12] rfl rfl rfl rfl fun F1 hs1 hf1 => VS.id ?_)
  refine s_plain _ rfl rfl rfl bd47 rfl (put_ok [name, value] hf1) ?_
  (refine run ?_; repeat intro b)
  refine s_plain _ rfl rfl rfl bd46 rfl (wirenum_ok n F1) ?_
  (refine run ?_; repeat intro b)
  have := partsOut_len [name, value]
  refine s_pureO rfl rfl rfl (by rw [put_two]; simp only [bl_S, num_length]; unfold maxInt; omega) ?_
  (refine run ?_; repeat intro b)
  rw [put_two]
  rfl
theorem asktag_ok (key : Nat) (name value : List UInt8) (n : Nat) (hk : key < 18446744073709551616) (hn : n < 18446744073709551616) (F : Hp) : Plain Tryz.prog F 12 [u64 key, S name, S value, u64 n] (u64 (tagN key (askSaid name value n) : Nat)) := by
  refine plain_vc (N := 24) (rv := [.tmp 8]) tbok mixed Tryz.func12 rfl rfl rfl rfl rfl ?_
  (refine run ?_; repeat intro b)
  refine s_shift (VS.freeze 0 [0, 3, 14] rfl rfl rfl rfl fun F1 hs1 hf1 => VS.id ?_)
  refine s_plain _ rfl rfl rfl bd28 rfl (parts_ok [name, value] (by simp) hf1) ?_
  (refine run ?_; repeat intro b)
  refine s_plain _ rfl rfl rfl bd30 rfl (refnum_ok n hn F1) ?_
  (refine run ?_; repeat intro b)
  have := partsOut_len [name, value]
  refine s_pureO rfl rfl rfl (by simp only [bl_S, num_length]; unfold maxInt; omega) ?_
  have h2 := askSaid_len name value n
  refine s_plain _ rfl rfl rfl bd29 rfl (reftag_ok key (askSaid name value n) hk (by omega) F1) ?_
  (refine run ?_; repeat intro b)
  rfl
/-- What Ask answers. -/
def askOf (key : Nat) (name value : List UInt8) (n : Nat) : Ask := if askFault name value = 0 then ⟨name, value, n, tagN key (askSaid name value n)⟩ else Ask.none
theorem tagask_ok (key : Nat) (name value : List UInt8) (n : Nat) (hk : key < 18446744073709551616) (hl : name.length ≤ 4611686018427387904) (hn : n < 18446744073709551616) (F : Hp) : Plain Tryz.prog F 14 [u64 key, S name, S value, u64 n] (pair (askOf key name value n).v (i64 (askFault name value))) := by
  refine plain_vc (N := 28) (rv := [.cell 8 39, .tmp 9]) tbok mixed Tryz.func14 rfl rfl rfl rfl rfl ?_
  (refine run ?_; repeat intro b)
  refine s_plain _ rfl rfl rfl bd31 rfl (tagright_ok name value hl F) ?_
  (refine run ?_; repeat intro b)
  refine s_if _ rfl (fun h => ?_) (fun h => ?_)
  · have h2 : ¬ askFault name value = 0 := by simpa using h
    (refine run ?_; repeat intro b)
    simp only [tupV, askOf, if_neg h2]
    rfl
  · have h2 : askFault name value = 0 := by simpa using h
    (refine run ?_; repeat intro b)
    refine s_plain _ rfl rfl rfl bd33 rfl (tagsaid_ok name value n F) ?_
    have h3 := askSaid_len name value n
    refine s_plain _ rfl rfl rfl bd32 rfl (tagof_ok key (askSaid name value n) hk (by omega) F) ?_
    (refine run ?_; repeat intro b)
    have e : askOf key name value n = ⟨name, value, n, tagN key (askSaid name value n)⟩ := by unfold askOf; rw [if_pos h2]
    rw [e, h2]
    simp only [tupV]
def tagHolds (key : Nat) (a : Ask) : Bool := (askFault a.name a.value == 0) && (((tagN key (askSaid a.name a.value a.n) : Nat) : Int) == (a.tag : Nat))
end Go.Proofs.YteahoodopphacaaGreat
