/-
A queue that came in.
-/
import Derived.Test.YtaienbnadbadfaaAskOpen
import Derived.Test.YtaienbnadbadfaaQueueMath
namespace Go.Proofs.Ytaienbnadbadfaa
set_option linter.unusedVariables false
set_option linter.unusedSimpArgs false
open Go.ChangeShapes Go.WideShapes Go.ChangeAt Go.RowKit
open Go.TR (S mkB bl Hp Pcell Fcell padd Frow)
set_option maxRecDepth 100000
def RQueue : Rep := fun F cs => ∃ (q : Queue) (p : Option Addr) (c : Nat), cs = [i64 q.most, .slice p q.wait.length c] ∧ q.wf ∧ q.wait.length ≤ c ∧ Frow F p (q.wait.flatMap Ask.cells)
theorem opn_asks : Opn Try.prog 84 (RSl 4 48 RAsk) := opn_slice Try.underlying84 (by kernel_rfl) (by kernel_rfl) opn_ask
theorem opn_queue : Opn Try.prog 86 RQueue := by
  refine (opn_struct (Rs := [RI64, RSl 4 48 RAsk]) Try.underlying86 ⟨rfl, opn_i64 Try.underlying3, rfl, opn_asks, (by show Try.prog.cellsOf 86 = _; kernel_rfl)⟩).mono ?_
  rintro F cs ⟨_, _, rfl, ⟨a, rfl, ha⟩, _, _, rfl, hb, rfl⟩
  obtain ⟨p, c, l, rfl, h1, h2, h3, h4⟩ := rsl_many Ask.cells Ask.wf (fun r hr => hr) hb
  have := le_reach h2
  exact ⟨⟨a, l⟩, p, c, rfl, ⟨h3, by simp only; omega⟩, h1, h4⟩
section
variable {H : Type} {enc : TypeId × Value → H} {W : World} {b0 base : Nat} {spare : Nat → Bool} {held : Bool} {r : Reach} {v : Value} {d : DataW H} {ps : List MemPlace} {ts : List TypeId} {ds : List (DataW H)} {j : Nat}
theorem open_queue (hsz : (DataW.weightsEach Try.prog ts ds).all (· ≤ reachBytes) = true) (ht : ts[j]? = some 86) (hd : ds[j]? = some d) (hv : Value.okWide Try.prog W r b0 86 v) (h : DataW.Trod enc Try.prog W base spare held 86 v d ps) : ∃ (q : Queue) (p : Option Addr) (c : Nat), v = qv q.most p q.wait.length c ∧ q.wf ∧ q.wait.length ≤ c ∧ Frow (fun k => W.heap[k]?) p (q.wait.flatMap Ask.cells) := by
  obtain ⟨cs, rfl, q, p, c, rfl, hw⟩ := arg_st Try.underlying86 opn_queue hsz ht hd hv h
  exact ⟨q, p, c, rfl, hw⟩
end
end Go.Proofs.Ytaienbnadbadfaa
