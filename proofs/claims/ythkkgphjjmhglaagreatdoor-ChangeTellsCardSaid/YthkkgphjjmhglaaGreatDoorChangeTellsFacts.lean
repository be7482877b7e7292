/-
The closed facts of the row of ChangeTells, each by the kernel.
-/
import Derived.Test.YthkkgphjjmhglaaGreatDoorFacts
import Derived.Test.YthkkgphjjmhglaaGreatDoorJoined
namespace Go.Proofs.YthkkgphjjmhglaaGreatDoor.lawChangeTells
set_option linter.unusedVariables false
set_option linter.unusedSimpArgs false
open Go
theorem rf_inPlace : (Rows.changeTellsRow.inPlace == Tryz.prog.inPlace 5) = true := by kernel_rfl
theorem rf_unfollowed : (Rows.changeTellsRow.unfollowed == Tryz.prog.unfollowed 5) = true := by kernel_rfl
theorem rf_recurses : (Rows.changeTellsRow.recurses == Tryz.prog.recurses 5) = true := by kernel_rfl
theorem rf_named : (Rows.changeTellsRow.named == Tryz.prog.varsNamed 5) = true := by kernel_rfl
theorem rf_tie : namedTie Tryz.prog Rows.changeTellsRow.named Rows.changeTellsSpec.vars = true := by kernel_rfl
theorem joined : joinedFacts Tryz.prog 5 Tryz.f5 Rows.changeTellsSpec Rows.changeTellsRow = true :=
  joined_of (by kernel_rfl) pf_laidOut pf_mapsRowed (by kernel_rfl) rf_tie (by kernel_rfl) pf_stops (by kernel_rfl) pf_stopKnobs rf_inPlace rf_unfollowed rf_recurses rf_named
    (by kernel_rfl) (by kernel_rfl) (by kernel_rfl) (by kernel_rfl) (by kernel_rfl) (by kernel_rfl) (by kernel_rfl) (by kernel_rfl) (by kernel_rfl) pf_plainKeys (by kernel_rfl) pf_stopsHeard pf_mayEnter pf_lifted (by kernel_rfl) (by kernel_rfl) (by kernel_rfl) (by kernel_rfl) (by kernel_rfl)
end Go.Proofs.YthkkgphjjmhglaaGreatDoor.lawChangeTells
