/-
Package roll and its reference: the marks beside the way to a text.
-/
import Derived.Test.YthkmfihbpbehfaaRoll
namespace Go.Proofs.Ythkmfihbpbehfaa
set_option linter.unusedVariables false
set_option linter.unusedSimpArgs false
open Go.TR
@[reducible] def nu (n : Nat) : Value := u64 (n : Nat)
theorem nus_cells (l : List Nat) (x n : Nat) (h : n = l.length) : ((l ++ [x]).map nu).map EV.v = ((l.map nu).map EV.v).take (n * 1) ++ [.v (u64 (x : Nat))] := by
  subst h
  rw [List.take_of_length_le (by simp)]
  simp
attribute [local irreducible] vc vcOps seqK blockK loopK retK retG retI loopV Plain CallOK CallIn bodied VS vcAny dropG backK brK loopPK IntKind.wrap
set_option maxRecDepth 100000
end Go.Proofs.Ythkmfihbpbehfaa
