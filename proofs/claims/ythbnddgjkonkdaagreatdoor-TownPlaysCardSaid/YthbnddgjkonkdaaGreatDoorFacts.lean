/- A part of the proof. -/
import Derived.Test.YthbnddgjkonkdaaGreatDoorRows
import Derived.WalkKit
import Derived.ProofKit
set_option linter.unusedVariables false
set_option linter.unusedSimpArgs false
namespace Go.Proofs.YthbnddgjkonkdaaGreatDoor
open Go
theorem RH:ownKnob Tryz.prog.godebug=none:=by kernel_rfl
theorem yy:laidOutB Tryz.prog=true:=by kernel_rfl
theorem CX:mapsRowed Tryz.prog=true:=by kernel_rfl
theorem Nw:(Tryz.prog.stops==[])=true:=by kernel_rfl
theorem Cc:(Tryz.prog.stopKnobs==[])=true:=by kernel_rfl
theorem C2:(true==Tryz.prog.plainKeys)=true:=by kernel_rfl
theorem Aa:Tryz.prog.stopsHeard=true:=by kernel_rfl
theorem Dy:Tryz.prog.mayEnter=true:=by kernel_rfl
theorem KH:(false==Tryz.prog.liftsFinal)=true:=by kernel_rfl
end Go.Proofs.YthbnddgjkonkdaaGreatDoor
