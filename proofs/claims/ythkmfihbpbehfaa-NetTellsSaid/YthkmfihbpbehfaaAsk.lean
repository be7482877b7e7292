/-
Asks, plainly; what is wrong with a name and a value: the walks.
-/
import Derived.Test.YthkmfihbpbehfaaIdxFunc
namespace Go.Proofs.Ythkmfihbpbehfaa
set_option linter.unusedVariables false
set_option linter.unusedSimpArgs false
open Go.TR
/-- An ask. -/
structure Ask where
  name : List UInt8
  value : List UInt8
  n : Nat
  tag : Nat
deriving DecidableEq
@[reducible] def Ask.cells (a : Ask) : List Value := [S a.name, S a.value, u64 (a.n : Nat), u64 (a.tag : Nat)]
@[reducible] def Ask.v (a : Ask) : Value := .agg #[S a.name, S a.value, u64 (a.n : Nat), u64 (a.tag : Nat)]
def Ask.none : Ask := ⟨[], [], 0, 0⟩
structure Ask.wf (a : Ask) : Prop where
  name : a.name.length ≤ 4611686018427387904
  value : a.value.length ≤ 4611686018427387904
  n : a.n < 18446744073709551616
  tag : a.tag < 18446744073709551616
def askFault (name value : List UInt8) : Int := if goodName name = true then (if 20 < value.length then 2 else 0) else 3
theorem askFault_zero {name value : List UInt8} (h : askFault name value = 0) : goodName name = true ∧ value.length ≤ 20 := by
  unfold askFault at h
  split at h
  · rename_i h1
    split at h
    · cases h
    · exact ⟨h1, by omega⟩
  · cases h
theorem goodName_len {s : List UInt8} (h : goodName s = true) : s.length ≤ 12 := by
  unfold goodName at h
  simp at h
  exact h.1.2
attribute [local irreducible] vc vcOps seqK blockK loopK retK retG retI loopV Plain CallOK CallIn bodied VS vcAny dropG backK brK loopPK IntKind.wrap
set_option maxRecDepth 100000
end Go.Proofs.Ythkmfihbpbehfaa
