/-
The closed facts of the row of RollTells, each by the kernel.
-/
import Derived.Test.YtaienbnadbadfaaFacts
import Derived.Test.YtaienbnadbadfaaJoined
namespace Go.Proofs.Ytaienbnadbadfaa.lawRollTells
set_option linter.unusedVariables false
set_option linter.unusedSimpArgs false
open Go
theorem rf_inPlace : (Rows.rollTellsRow.inPlace == Try.prog.inPlace 11) = true := by kernel_rfl
theorem rf_unfollowed : (Rows.rollTellsRow.unfollowed == Try.prog.unfollowed 11) = true := by kernel_rfl
theorem rf_recurses : (Rows.rollTellsRow.recurses == Try.prog.recurses 11) = true := by kernel_rfl
theorem rf_named : (Rows.rollTellsRow.named == Try.prog.varsNamed 11) = true := by kernel_rfl
theorem rf_tie : namedTie Try.prog Rows.rollTellsRow.named Rows.rollTellsSpec.vars = true := by kernel_rfl
theorem joined : joinedFacts Try.prog 11 Try.f11 Rows.rollTellsSpec Rows.rollTellsRow = true :=
  joined_of (by kernel_rfl) pf_laidOut pf_mapsRowed (by kernel_rfl) rf_tie (by kernel_rfl) pf_stops (by kernel_rfl) pf_stopKnobs rf_inPlace rf_unfollowed rf_recurses rf_named
    (by kernel_rfl) (by kernel_rfl) (by kernel_rfl) (by kernel_rfl) (by kernel_rfl) (by kernel_rfl) (by kernel_rfl) (by kernel_rfl) (by kernel_rfl) pf_plainKeys (by kernel_rfl) pf_stopsHeard pf_mayEnter pf_lifted (by kernel_rfl) (by kernel_rfl) (by kernel_rfl) (by kernel_rfl) (by kernel_rfl)
end Go.Proofs.Ytaienbnadbadfaa.lawRollTells

