/- A part of the proof. -/
import Derived.Test.YthbnddgjkonkdaaGreatDoorFacts
import Derived.Test.YthbnddgjkonkdaaGreatDoorJoined
set_option linter.unusedVariables false
set_option linter.unusedSimpArgs false
namespace Go.Proofs.YthbnddgjkonkdaaGreatDoor.qA
open Go
theorem Gw:(Rows.townPlaysRow.inPlace==Tryz.prog.inPlace 6)=true:=by kernel_rfl
theorem Ab:(Rows.townPlaysRow.unfollowed==Tryz.prog.unfollowed 6)=true:=by kernel_rfl
theorem EK:(Rows.townPlaysRow.recurses==Tryz.prog.recurses 6)=true:=by kernel_rfl
theorem NF:(Rows.townPlaysRow.named==Tryz.prog.varsNamed 6)=true:=by kernel_rfl
theorem RM:namedTie Tryz.prog Rows.townPlaysRow.named Rows.townPlaysSpec.vars=true:=by kernel_rfl
theorem RC:joinedFacts Tryz.prog 6 Tryz.f6 Rows.townPlaysSpec Rows.townPlaysRow=true:=
 Jy (by kernel_rfl) yZ Cs (by kernel_rfl) RM (by kernel_rfl) LK (by kernel_rfl) BO Gw Ab EK NF
  (by kernel_rfl) (by kernel_rfl) (by kernel_rfl) (by kernel_rfl) (by kernel_rfl) (by kernel_rfl) (by kernel_rfl) (by kernel_rfl) (by kernel_rfl) Ci (by kernel_rfl) Ai FE J6 (by kernel_rfl) (by kernel_rfl) (by kernel_rfl) (by kernel_rfl) (by kernel_rfl)
end Go.Proofs.YthbnddgjkonkdaaGreatDoor.qA
