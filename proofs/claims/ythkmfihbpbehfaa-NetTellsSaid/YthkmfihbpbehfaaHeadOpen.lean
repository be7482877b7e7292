/-
A head that came in.
-/
import Derived.Test.YthkmfihbpbehfaaOpenG
import Derived.Test.YthkmfihbpbehfaaHeadMath
namespace Go.Proofs.Ythkmfihbpbehfaa
set_option linter.unusedVariables false
set_option linter.unusedSimpArgs false
open Go.ChangeShapes Go.WideShapes Go.ChangeAt Go.RowKit
open Go.TR (S mkB bl Hp Pcell Fcell padd Frow)
@[reducible] def Head.cells (h : Head) : List Value := [i64 h.epoch, u64 (h.root : Nat), u64 (h.prev : Nat), i64 h.at_]
def RHead : Rep := fun _ cs => ∃ h : Head, cs = h.cells ∧ h.wf
set_option maxRecDepth 100000
theorem opn_head : Opn Try.prog 28 RHead := by
  refine (opn_struct (Rs := [RI64, RU64, RU64, RI64]) Try.underlying28 ⟨rfl, opn_i64 Try.underlying2, rfl, opn_u64 Try.underlying26, rfl, opn_u64 Try.underlying26, rfl, opn_i64 Try.underlying2, (by show Try.prog.cellsOf 28 = _; kernel_rfl)⟩).mono ?_
  rintro F cs ⟨_, _, rfl, ⟨a, rfl, ha⟩, _, _, rfl, ⟨b, rfl, hb⟩, _, _, rfl, ⟨c, rfl, hc⟩, _, _, rfl, ⟨d, rfl, hd⟩, rfl⟩
  exact ⟨⟨a, b, c, d⟩, rfl, ⟨hb, hc, ha, hd⟩⟩
section
variable {H : Type} {enc : TypeId × Value → H} {W : World} {b0 base : Nat} {spare : Nat → Bool} {held : Bool} {r : Reach} {v : Value} {d : DataW H} {ps : List MemPlace} {ts : List TypeId} {ds : List (DataW H)} {j : Nat}
theorem open_head (hsz : (DataW.weightsEach Try.prog ts ds).all (· ≤ reachBytes) = true) (ht : ts[j]? = some 28) (hd : ds[j]? = some d) (hv : Value.okWide Try.prog W r b0 28 v) (h : DataW.Trod enc Try.prog W base spare held 28 v d ps) : ∃ h : Head, v = h.v ∧ h.wf := by
  obtain ⟨cs, rfl, x, rfl, hw⟩ := arg_st Try.underlying28 opn_head hsz ht hd hv h
  exact ⟨x, rfl, hw⟩
end
end Go.Proofs.Ythkmfihbpbehfaa
