/-
The closed facts of the row of ServeTells, each by the kernel.
-/
import Derived.Test.YthkkgphjjmhglaaGreatDoorFacts
import Derived.Test.YthkkgphjjmhglaaGreatDoorJoined
namespace Go.Proofs.YthkkgphjjmhglaaGreatDoor.lawServeTells
set_option linter.unusedVariables false
set_option linter.unusedSimpArgs false
open Go
theorem rf_inPlace : (Rows.serveTellsRow.inPlace == Tryz.prog.inPlace 3) = true := by kernel_rfl
theorem rf_unfollowed : (Rows.serveTellsRow.unfollowed == Tryz.prog.unfollowed 3) = true := by kernel_rfl
theorem rf_recurses : (Rows.serveTellsRow.recurses == Tryz.prog.recurses 3) = true := by kernel_rfl
theorem rf_named : (Rows.serveTellsRow.named == Tryz.prog.varsNamed 3) = true := by kernel_rfl
theorem rf_tie : namedTie Tryz.prog Rows.serveTellsRow.named Rows.serveTellsSpec.vars = true := by kernel_rfl
theorem joined : joinedFacts Tryz.prog 3 Tryz.f3 Rows.serveTellsSpec Rows.serveTellsRow = true :=
  joined_of (by kernel_rfl) pf_laidOut pf_mapsRowed (by kernel_rfl) rf_tie (by kernel_rfl) pf_stops (by kernel_rfl) pf_stopKnobs rf_inPlace rf_unfollowed rf_recurses rf_named
    (by kernel_rfl) (by kernel_rfl) (by kernel_rfl) (by kernel_rfl) (by kernel_rfl) (by kernel_rfl) (by kernel_rfl) (by kernel_rfl) (by kernel_rfl) pf_plainKeys (by kernel_rfl) pf_stopsHeard pf_mayEnter pf_lifted (by kernel_rfl) (by kernel_rfl) (by kernel_rfl) (by kernel_rfl) (by kernel_rfl)
end Go.Proofs.YthkkgphjjmhglaaGreatDoor.lawServeTells
