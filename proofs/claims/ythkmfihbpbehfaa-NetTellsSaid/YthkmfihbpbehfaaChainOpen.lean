/-
A chain that came in.
-/
import Derived.Test.YthkmfihbpbehfaaHeadOpen
import Derived.Test.YthkmfihbpbehfaaChainMath
namespace Go.Proofs.Ythkmfihbpbehfaa
set_option linter.unusedVariables false
set_option linter.unusedSimpArgs false
open Go.ChangeShapes Go.WideShapes Go.ChangeAt Go.RowKit
open Go.TR (S mkB bl Hp Pcell Fcell padd Frow)
set_option maxRecDepth 100000
theorem opn_heads : Opn Try.prog 25 (RSl 4 32 RHead) := opn_slice Try.underlying25 (by kernel_rfl) (by kernel_rfl) opn_head
section
variable {H : Type} {enc : TypeId × Value → H} {W : World} {b0 base : Nat} {spare : Nat → Bool} {held : Bool} {r : Reach} {v : Value} {d : DataW H} {ps : List MemPlace} {ts : List TypeId} {ds : List (DataW H)} {j : Nat}
theorem open_heads (hsz : (DataW.weightsEach Try.prog ts ds).all (· ≤ reachBytes) = true) (ht : ts[j]? = some 25) (hd : ds[j]? = some d) (hv : Value.okWide Try.prog W r b0 25 v) (h : DataW.Trod enc Try.prog W base spare held 25 v d ps) : ∃ (l : List Head) (p : Option Addr) (c : Nat), v = .slice p l.length c ∧ l.length ≤ 4611686018427387904 ∧ l.length ≤ c ∧ (∀ x ∈ l, x.wf) ∧ Frow (fun k => W.heap[k]?) p (l.flatMap Head.row) := by
  obtain ⟨p, c, l, e, h1, h2, h3, h4⟩ := rsl_many Head.row Head.wf (fun r hr => hr) (arg_sl Try.underlying25 opn_heads hsz ht hd hv h)
  have := le_reach h2
  exact ⟨l, p, c, List.head_eq_of_cons_eq e, by omega, h1, h3, h4⟩
end
end Go.Proofs.Ythkmfihbpbehfaa
