/- A part of the proof. -/
import Derived.Test.YthbnddgjkonkdaaGreatDoorFacts
import Derived.Test.YthbnddgjkonkdaaGreatDoorJoined
set_option linter.unusedVariables false
set_option linter.unusedSimpArgs false
namespace Go.Proofs.YthbnddgjkonkdaaGreatDoor.qD
open Go
theorem Gu:(Rows.townPlaysRow.inPlace==Tryz.prog.inPlace 6)=true:=by kernel_rfl
theorem Aj:(Rows.townPlaysRow.unfollowed==Tryz.prog.unfollowed 6)=true:=by kernel_rfl
theorem Fl:(Rows.townPlaysRow.recurses==Tryz.prog.recurses 6)=true:=by kernel_rfl
theorem MI:(Rows.townPlaysRow.named==Tryz.prog.varsNamed 6)=true:=by kernel_rfl
theorem RT:namedTie Tryz.prog Rows.townPlaysRow.named Rows.townPlaysSpec.vars=true:=by kernel_rfl
theorem RK:joinedFacts Tryz.prog 6 Tryz.f6 Rows.townPlaysSpec Rows.townPlaysRow=true:=
 KV (by kernel_rfl) yy CX (by kernel_rfl) RT (by kernel_rfl) Nw (by kernel_rfl) Cc Gu Aj Fl MI
  (by kernel_rfl) (by kernel_rfl) (by kernel_rfl) (by kernel_rfl) (by kernel_rfl) (by kernel_rfl) (by kernel_rfl) (by kernel_rfl) (by kernel_rfl) C2 (by kernel_rfl) Aa Dy KH (by kernel_rfl) (by kernel_rfl) (by kernel_rfl) (by kernel_rfl) (by kernel_rfl)
end Go.Proofs.YthbnddgjkonkdaaGreatDoor.qD
