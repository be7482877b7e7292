/-
The closed facts of the program that every row asks, each by the kernel.
-/
import Derived.Test.YthkmfihbpbehfaaRows
import Derived.WalkKit
import Derived.ProofKit
namespace Go.Proofs.Ythkmfihbpbehfaa
set_option linter.unusedVariables false
set_option linter.unusedSimpArgs false
open Go
theorem pf_own : ownKnob Try.prog.godebug = none := by kernel_rfl
theorem pf_laidOut : laidOutB Try.prog = true := by kernel_rfl
theorem pf_mapsRowed : mapsRowed Try.prog = true := by kernel_rfl
theorem pf_stops : (Try.prog.stops == []) = true := by kernel_rfl
theorem pf_stopKnobs : (Try.prog.stopKnobs == []) = true := by kernel_rfl
theorem pf_plainKeys : (true == Try.prog.plainKeys) = true := by kernel_rfl
theorem pf_stopsHeard : Try.prog.stopsHeard = true := by kernel_rfl
theorem pf_mayEnter : Try.prog.mayEnter = true := by kernel_rfl
theorem pf_lifted : (false == Try.prog.liftsFinal) = true := by kernel_rfl

end Go.Proofs.Ythkmfihbpbehfaa
