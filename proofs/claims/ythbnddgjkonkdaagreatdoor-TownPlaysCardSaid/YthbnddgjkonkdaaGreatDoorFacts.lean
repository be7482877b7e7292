/- A part of the proof. -/
import Derived.Test.YthbnddgjkonkdaaGreatDoorRows
import Derived.WalkKit
import Derived.ProofKit
set_option linter.unusedVariables false
set_option linter.unusedSimpArgs false
namespace Go.Proofs.YthbnddgjkonkdaaGreatDoor
open Go
theorem R3:ownKnob Tryz.prog.godebug=none:=by kernel_rfl
theorem yZ:laidOutB Tryz.prog=true:=by kernel_rfl
theorem Cs:mapsRowed Tryz.prog=true:=by kernel_rfl
theorem LK:(Tryz.prog.stops==[])=true:=by kernel_rfl
theorem BO:(Tryz.prog.stopKnobs==[])=true:=by kernel_rfl
theorem Ci:(true==Tryz.prog.plainKeys)=true:=by kernel_rfl
theorem Ai:Tryz.prog.stopsHeard=true:=by kernel_rfl
theorem FE:Tryz.prog.mayEnter=true:=by kernel_rfl
theorem J6:(false==Tryz.prog.liftsFinal)=true:=by kernel_rfl
end Go.Proofs.YthbnddgjkonkdaaGreatDoor
