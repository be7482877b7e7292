/-
Package tag and its reference: the walks.
-/
import Derived.Test.YthkmfihbpbehfaaAsk
import Derived.Test.YthkmfihbpbehfaaWireGet
import Derived.Test.YthkmfihbpbehfaaSaid
namespace Go.Proofs.Ythkmfihbpbehfaa
set_option linter.unusedVariables false
set_option linter.unusedSimpArgs false
open Go.TR
def tagN (key : Nat) (s : List UInt8) : Nat := markN (num key ++ s ++ num key)
def askSaid (name value : List UInt8) (n : Nat) : List UInt8 := num n ++ partsOut [name, value]
theorem put_two (a b : List UInt8) : putO [a, b] = partsOut [a, b] := by
  unfold putO partsOut
  rw [if_neg (by simp)]
  cases partsF [a, b] [] <;> rfl
theorem partsOut_len (l : List (List UInt8)) : (partsOut l).length ≤ 600 := by
  unfold partsOut
  cases h : partsF l [] with
  | none => simp
  | some o => exact partsF_le l [] o (by simp) h
theorem askSaid_len (name value : List UInt8) (n : Nat) : (askSaid name value n).length ≤ 608 := by
  unfold askSaid
  have := partsOut_len [name, value]
  simp only [List.length_append, num_length]
  omega
attribute [local irreducible] vc vcOps seqK blockK loopK retK retG retI loopV Plain CallOK CallIn bodied VS vcAny dropG backK brK loopPK IntKind.wrap
set_option maxRecDepth 100000
/-- What Ask answers. -/
def askOf (key : Nat) (name value : List UInt8) (n : Nat) : Ask := if askFault name value = 0 then ⟨name, value, n, tagN key (askSaid name value n)⟩ else Ask.none
def tagHolds (key : Nat) (a : Ask) : Bool := (askFault a.name a.value == 0) && (((tagN key (askSaid a.name a.value a.n) : Nat) : Int) == (a.tag : Nat))
end Go.Proofs.Ythkmfihbpbehfaa
