/-
Some chains that came in.
-/
import Derived.Test.YthkmfihbpbehfaaChainOpen
import Derived.Test.YthkmfihbpbehfaaAuditMath
namespace Go.Proofs.Ythkmfihbpbehfaa
set_option linter.unusedVariables false
set_option linter.unusedSimpArgs false
open Go.ChangeShapes Go.WideShapes Go.ChangeAt Go.RowKit
open Go.TR (S mkB bl Hp Pcell Fcell padd Frow)
set_option maxRecDepth 100000
theorem opn_chains : Opn Try.prog 73 (RSl 1 24 (RSl 4 32 RHead)) := opn_slice Try.underlying73 (by kernel_rfl) (by kernel_rfl) opn_heads
section
variable {H : Type} {enc : TypeId × Value → H} {W : World} {b0 base : Nat} {spare : Nat → Bool} {held : Bool} {r : Reach} {v : Value} {d : DataW H} {ps : List MemPlace} {ts : List TypeId} {ds : List (DataW H)} {j : Nat}
theorem open_chains (hsz : (DataW.weightsEach Try.prog ts ds).all (· ≤ reachBytes) = true) (ht : ts[j]? = some 73) (hd : ds[j]? = some d) (hv : Value.okWide Try.prog W r b0 73 v) (h : DataW.Trod enc Try.prog W base spare held 73 v d ps) : ∃ (l : List Lie) (p : Option Addr) (c : Nat), v = .slice p l.length c ∧ l.length ≤ 4611686018427387904 ∧ l.length ≤ c ∧ (∀ s ∈ l, Lie.at (fun k => W.heap[k]?) s) ∧ Frow (fun k => W.heap[k]?) p (l.map Lie.v) := by
  obtain ⟨p, c, l, e, h1, h2, h3, h4⟩ := rsl_many (fun s : Lie => [s.v]) (Lie.at (fun k => W.heap[k]?)) (fun r hr => by
    obtain ⟨p, c, l, e, h1, h2, h3, h4⟩ := rsl_many Head.row Head.wf (fun r hr => hr) hr
    have := le_reach h2
    exact ⟨(p, l, c), e, by simp only; omega, h1, h3, h4⟩) (arg_sl Try.underlying73 opn_chains hsz ht hd hv h)
  have := le_reach h2
  exact ⟨l, p, c, List.head_eq_of_cons_eq e, by omega, h1, h3, by rw [List.map_eq_flatMap]; exact h4⟩
theorem open_heads2 (hsz : (DataW.weightsEach Try.prog ts ds).all (· ≤ reachBytes) = true) (ht : ts[j]? = some 25) (hd : ds[j]? = some d) (hv : Value.okWide Try.prog W r b0 25 v) (h : DataW.Trod enc Try.prog W base spare held 25 v d ps) : ∃ (l : List Head) (p : Option Addr) (c : Nat), v = .slice p l.length c ∧ l.length ≤ 4398046511104 ∧ l.length ≤ c ∧ (∀ x ∈ l, x.wf) ∧ Frow (fun k => W.heap[k]?) p (l.flatMap Head.row) := by
  obtain ⟨p, c, l, e, h1, h2, h3, h4⟩ := rsl_many Head.row Head.wf (fun r hr => hr) (arg_sl Try.underlying25 opn_heads hsz ht hd hv h)
  have := reachBytes_lt
  exact ⟨l, p, c, List.head_eq_of_cons_eq e, by omega, h1, h3, h4⟩
end
end Go.Proofs.Ythkmfihbpbehfaa
