/-
Package roll: In; the reference's RollIn.
-/
import Derived.Test.YthkmfihbpbehfaaRollIn
namespace Go.Proofs.Ythkmfihbpbehfaa
set_option linter.unusedVariables false
set_option linter.unusedSimpArgs false
open Go.TR
def inBad (l : List (List UInt8)) (i : Int) : Bool := decide (i < 0) || decide ((l.length : Int) ≤ i)
def inE (l : List (List UInt8)) (i : Int) : Int := if rollFault l = 0 then (if inBad l i = true then 4 else 0) else rollFault l
def inL (l : List (List UInt8)) (i : Int) : List Nat := if inE l i = 0 then inN l i.toNat else []
theorem inE_zero {l : List (List UInt8)} {i : Int} (h : inE l i = 0) : rollFault l = 0 ∧ 0 ≤ i ∧ i < l.length := by
  unfold inE at h
  split at h
  · rename_i h1
    split at h
    · cases h
    · rename_i h2
      unfold inBad at h2
      simp at h2
      exact ⟨h1, h2.1, h2.2⟩
  · rename_i h1
    exact absurd h h1
theorem inN_len {l : List (List UInt8)} (i : Nat) : (inN l i).length ≤ l.length := inF_len _ _ _
attribute [local irreducible] vc vcOps seqK blockK loopK retK retG retI loopV Plain CallOK CallIn bodied VS vcAny dropG backK brK loopPK IntKind.wrap
set_option maxRecDepth 100000
theorem one_nus {rs : RL} (l : List Nat) : oneAll rs ((l.map nu).map .v) := one_v rs fun x hx => by
  obtain ⟨n, _, rfl⟩ := List.mem_map.1 hx
  rfl
/-- The states of RollIn's loop. -/
def rinRs (out : List Nat) : Option (Nat × Nat) → RL
  | none => []
  | some (b, cap) => [(0, ⟨some b, (out.map nu).map EV.v, 26, cap * 1⟩)]
def rinE (n : Nat) : Option (Nat × Nat) → EV
  | none => .v (.slice none 0 0)
  | some (_, cap) => .row 0 0 n cap
def rinNx : Option (Nat × Nat) → Nat
  | none => 0
  | some _ => 1
end Go.Proofs.Ythkmfihbpbehfaa
