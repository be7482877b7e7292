/-
The closed facts of the row of RollGrows, each by the kernel.
-/
import Derived.Test.YtaienbnadbadfaaFacts
import Derived.Test.YtaienbnadbadfaaJoined
namespace Go.Proofs.Ytaienbnadbadfaa.lawRollGrows
set_option linter.unusedVariables false
set_option linter.unusedSimpArgs false
open Go
theorem rf_inPlace : (Rows.rollGrowsRow.inPlace == Try.prog.inPlace 12) = true := by kernel_rfl
theorem rf_unfollowed : (Rows.rollGrowsRow.unfollowed == Try.prog.unfollowed 12) = true := by kernel_rfl
theorem rf_recurses : (Rows.rollGrowsRow.recurses == Try.prog.recurses 12) = true := by kernel_rfl
theorem rf_named : (Rows.rollGrowsRow.named == Try.prog.varsNamed 12) = true := by kernel_rfl
theorem rf_tie : namedTie Try.prog Rows.rollGrowsRow.named Rows.rollGrowsSpec.vars = true := by kernel_rfl
theorem joined : joinedFacts Try.prog 12 Try.f12 Rows.rollGrowsSpec Rows.rollGrowsRow = true :=
  joined_of (by kernel_rfl) pf_laidOut pf_mapsRowed (by kernel_rfl) rf_tie (by kernel_rfl) pf_stops (by kernel_rfl) pf_stopKnobs rf_inPlace rf_unfollowed rf_recurses rf_named
    (by kernel_rfl) (by kernel_rfl) (by kernel_rfl) (by kernel_rfl) (by kernel_rfl) (by kernel_rfl) (by kernel_rfl) (by kernel_rfl) (by kernel_rfl) pf_plainKeys (by kernel_rfl) pf_stopsHeard pf_mayEnter pf_lifted (by kernel_rfl) (by kernel_rfl) (by kernel_rfl) (by kernel_rfl) (by kernel_rfl)
end Go.Proofs.Ytaienbnadbadfaa.lawRollGrows

