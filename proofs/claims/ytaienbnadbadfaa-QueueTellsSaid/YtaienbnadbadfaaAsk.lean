/-
Asks, plainly; what is wrong with a name and a value: the walks.
-/
import Derived.Test.YtaienbnadbadfaaIdxFunc
namespace Go.Proofs.Ytaienbnadbadfaa
set_option linter.unusedVariables false
set_option linter.unusedSimpArgs false
open Go.TR
/-- An ask. -/
structure Ask where
  name : List UInt8
  value : List UInt8
  n : Nat
  tag : Nat
deriving DecidableEq
@[reducible] def Ask.cells (a : Ask) : List Value := [S a.name, S a.value, u64 (a.n : Nat), u64 (a.tag : Nat)]
@[reducible] def Ask.v (a : Ask) : Value := .agg #[S a.name, S a.value, u64 (a.n : Nat), u64 (a.tag : Nat)]
def Ask.none : Ask := ⟨[], [], 0, 0⟩
structure Ask.wf (a : Ask) : Prop where
  name : a.name.length ≤ 4611686018427387904
  value : a.value.length ≤ 4611686018427387904
  n : a.n < 18446744073709551616
  tag : a.tag < 18446744073709551616
def askFault (name value : List UInt8) : Int := if goodName name = true then (if 20 < value.length then 2 else 0) else 3
theorem askFault_zero {name value : List UInt8} (h : askFault name value = 0) : goodName name = true ∧ value.length ≤ 20 := by
  unfold askFault at h
  split at h
  · rename_i h1
    split at h
    · cases h
    · exact ⟨h1, by omega⟩
  · cases h
theorem goodName_len {s : List UInt8} (h : goodName s = true) : s.length ≤ 12 := by
  unfold goodName at h
  simp at h
  exact h.1.2
attribute [local irreducible] vc vcOps seqK blockK loopK retK retG retI loopV Plain CallOK CallIn bodied VS vcAny dropG backK brK loopPK IntKind.wrap
set_option maxRecDepth 100000
theorem askfault_ok (name value : List UInt8) (hn : name.length ≤ 4611686018427387904) (F : Hp) : Plain Try.prog F 53 [S name, S value] (i64 (askFault name value)) := by
  refine plain_vc (N := 11) (rv := [.tmp 4]) tbok mixed Try.func53 rfl rfl rfl rfl rfl ?_
  (refine run ?_; repeat intro b)
  refine s_plain _ rfl rfl rfl bd122 rfl (goodname_ok name hn F) ?_
  (refine run ?_; repeat intro b)
  refine s_if (!goodName name) rfl (fun h => ?_) (fun h => ?_)
  · have h2 : ¬ goodName name = true := by simpa using h
    (refine run ?_; repeat intro b)
    simp only [tupV, askFault, if_neg h2]
  · have h2 : goodName name = true := by simpa using h
    (refine run ?_; repeat intro b)
    refine s_if (decide (20 < value.length)) ?_ (fun h3 => ?_) (fun h3 => ?_)
    · refine congrArg (fun b => some (EV.v (.bool b))) ?_
      rw [decide_eq_decide, bl_S]; omega
    · have h4 : 20 < value.length := by simpa using h3
      (refine run ?_; repeat intro b)
      simp only [tupV, askFault, if_pos h2, if_pos h4]
    · have h4 : ¬ 20 < value.length := by simpa using h3
      (refine run ?_; repeat intro b)
      simp only [tupV, askFault, if_pos h2, if_neg h4]
theorem tagright_ok (name value : List UInt8) (hn : name.length ≤ 4611686018427387904) (F : Hp) : Plain Try.prog F 126 [S name, S value] (i64 (askFault name value)) := by
  refine plain_vc (N := 13) (rv := [.tmp 4]) tbok mixed Try.func126 rfl rfl rfl rfl rfl ?_
  (refine run ?_; repeat intro b)
  refine s_plain _ rfl rfl rfl bd148 rfl (name_ok name hn F) ?_
  (refine run ?_; repeat intro b)
  refine s_if (!goodName name) rfl (fun h => ?_) (fun h => ?_)
  · have h2 : ¬ goodName name = true := by simpa using h
    (refine run ?_; repeat intro b)
    simp only [tupV, askFault, if_neg h2]
  · have h2 : goodName name = true := by simpa using h
    (refine run ?_; repeat intro b)
    refine s_if (decide (20 < value.length)) ?_ (fun h3 => ?_) (fun h3 => ?_)
    · refine congrArg (fun b => some (EV.v (.bool b))) ?_
      rw [decide_eq_decide, bl_S]; omega
    · have h4 : 20 < value.length := by simpa using h3
      (refine run ?_; repeat intro b)
      simp only [tupV, askFault, if_pos h2, if_pos h4]
    · have h4 : ¬ 20 < value.length := by simpa using h3
      (refine run ?_; repeat intro b)
      simp only [tupV, askFault, if_pos h2, if_neg h4]
end Go.Proofs.Ytaienbnadbadfaa
