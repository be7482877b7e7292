/-
An ask that came in.
-/
import Derived.Test.YtaienbnadbadfaaOpenG
import Derived.Test.YtaienbnadbadfaaAsk
namespace Go.Proofs.Ytaienbnadbadfaa
set_option linter.unusedVariables false
set_option linter.unusedSimpArgs false
open Go.ChangeShapes Go.WideShapes Go.ChangeAt Go.RowKit
open Go.TR (S mkB bl Hp Pcell Fcell padd Frow)
set_option maxRecDepth 100000
def RAsk : Rep := fun _ cs => ∃ a : Ask, cs = a.cells ∧ a.wf
theorem opn_ask : Opn Try.prog 88 RAsk := by
  refine (opn_struct (Rs := [RStr, RStr, RU64, RU64]) Try.underlying88 ⟨rfl, opn_str Try.underlying9, rfl, opn_str Try.underlying9, rfl, opn_u64 Try.underlying42, rfl, opn_u64 Try.underlying42, (by show Try.prog.cellsOf 88 = _; kernel_rfl)⟩).mono ?_
  rintro F cs ⟨_, _, rfl, ⟨a, rfl, ha⟩, _, _, rfl, ⟨b, rfl, hb⟩, _, _, rfl, ⟨c, rfl, hc⟩, _, _, rfl, ⟨d, rfl, hd⟩, rfl⟩
  exact ⟨⟨a, b, c, d⟩, rfl, ⟨le_reach ha, le_reach hb, hc, hd⟩⟩
section
variable {H : Type} {enc : TypeId × Value → H} {W : World} {b0 base : Nat} {spare : Nat → Bool} {held : Bool} {r : Reach} {v : Value} {d : DataW H} {ps : List MemPlace} {ts : List TypeId} {ds : List (DataW H)} {j : Nat}
theorem open_ask (hsz : (DataW.weightsEach Try.prog ts ds).all (· ≤ reachBytes) = true) (ht : ts[j]? = some 88) (hd : ds[j]? = some d) (hv : Value.okWide Try.prog W r b0 88 v) (h : DataW.Trod enc Try.prog W base spare held 88 v d ps) : ∃ a : Ask, v = a.v ∧ a.wf := by
  obtain ⟨cs, rfl, x, rfl, hw⟩ := arg_st Try.underlying88 opn_ask hsz ht hd hv h
  exact ⟨x, rfl, hw⟩
end
end Go.Proofs.Ytaienbnadbadfaa
