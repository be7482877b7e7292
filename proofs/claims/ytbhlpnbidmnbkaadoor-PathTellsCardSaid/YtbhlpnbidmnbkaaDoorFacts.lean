/-
The closed facts of the program that every row asks, each by the kernel.
-/
import Derived.Test.YtbhlpnbidmnbkaaDoorRows
import Derived.WalkKit
import Derived.ProofKit
namespace Go.Proofs.YtbhlpnbidmnbkaaDoor
set_option linter.unusedVariables false
set_option linter.unusedSimpArgs false
open Go
theorem pf_own : ownKnob Tryd.prog.godebug = none := by kernel_rfl
theorem pf_laidOut : laidOutB Tryd.prog = true := by kernel_rfl
theorem pf_mapsRowed : mapsRowed Tryd.prog = true := by kernel_rfl
theorem pf_stops : (Tryd.prog.stops == []) = true := by kernel_rfl
theorem pf_stopKnobs : (Tryd.prog.stopKnobs == []) = true := by kernel_rfl
theorem pf_plainKeys : (true == Tryd.prog.plainKeys) = true := by kernel_rfl
theorem pf_stopsHeard : Tryd.prog.stopsHeard = true := by kernel_rfl
theorem pf_mayEnter : Tryd.prog.mayEnter = true := by kernel_rfl
theorem pf_lifted : (false == Tryd.prog.liftsFinal) = true := by kernel_rfl

end Go.Proofs.YtbhlpnbidmnbkaaDoor
