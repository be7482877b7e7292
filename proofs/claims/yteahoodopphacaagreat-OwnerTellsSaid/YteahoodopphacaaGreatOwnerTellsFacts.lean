/-
The closed facts of the row of OwnerTells, each by the kernel.
-/
import Derived.Test.YteahoodopphacaaGreatFacts
import Derived.Test.YteahoodopphacaaGreatJoined
namespace Go.Proofs.YteahoodopphacaaGreat.lawOwnerTells
set_option linter.unusedVariables false
set_option linter.unusedSimpArgs false
open Go
theorem rf_inPlace : (Rows.ownerTellsRow.inPlace == Tryz.prog.inPlace 3) = true := by kernel_rfl
theorem rf_unfollowed : (Rows.ownerTellsRow.unfollowed == Tryz.prog.unfollowed 3) = true := by kernel_rfl
theorem rf_recurses : (Rows.ownerTellsRow.recurses == Tryz.prog.recurses 3) = true := by kernel_rfl
theorem rf_named : (Rows.ownerTellsRow.named == Tryz.prog.varsNamed 3) = true := by kernel_rfl
theorem rf_tie : namedTie Tryz.prog Rows.ownerTellsRow.named Rows.ownerTellsSpec.vars = true := by kernel_rfl
theorem joined : joinedFacts Tryz.prog 3 Tryz.f3 Rows.ownerTellsSpec Rows.ownerTellsRow = true :=
  joined_of (by kernel_rfl) pf_laidOut pf_mapsRowed (by kernel_rfl) rf_tie (by kernel_rfl) pf_stops (by kernel_rfl) pf_stopKnobs rf_inPlace rf_unfollowed rf_recurses rf_named
    (by kernel_rfl) (by kernel_rfl) (by kernel_rfl) (by kernel_rfl) (by kernel_rfl) (by kernel_rfl) (by kernel_rfl) (by kernel_rfl) (by kernel_rfl) pf_plainKeys (by kernel_rfl) pf_stopsHeard pf_mayEnter pf_lifted (by kernel_rfl) (by kernel_rfl) (by kernel_rfl) (by kernel_rfl) (by kernel_rfl)
end Go.Proofs.YteahoodopphacaaGreat.lawOwnerTells
