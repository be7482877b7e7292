/-
The closed facts of the row of TagTells, each by the kernel.
-/
import Derived.Test.YtaienbnadbadfaaFacts
import Derived.Test.YtaienbnadbadfaaJoined
namespace Go.Proofs.Ytaienbnadbadfaa.lawTagTells
set_option linter.unusedVariables false
set_option linter.unusedSimpArgs false
open Go
theorem rf_inPlace : (Rows.tagTellsRow.inPlace == Try.prog.inPlace 10) = true := by kernel_rfl
theorem rf_unfollowed : (Rows.tagTellsRow.unfollowed == Try.prog.unfollowed 10) = true := by kernel_rfl
theorem rf_recurses : (Rows.tagTellsRow.recurses == Try.prog.recurses 10) = true := by kernel_rfl
theorem rf_named : (Rows.tagTellsRow.named == Try.prog.varsNamed 10) = true := by kernel_rfl
theorem rf_tie : namedTie Try.prog Rows.tagTellsRow.named Rows.tagTellsSpec.vars = true := by kernel_rfl
theorem joined : joinedFacts Try.prog 10 Try.f10 Rows.tagTellsSpec Rows.tagTellsRow = true :=
  joined_of (by kernel_rfl) pf_laidOut pf_mapsRowed (by kernel_rfl) rf_tie (by kernel_rfl) pf_stops (by kernel_rfl) pf_stopKnobs rf_inPlace rf_unfollowed rf_recurses rf_named
    (by kernel_rfl) (by kernel_rfl) (by kernel_rfl) (by kernel_rfl) (by kernel_rfl) (by kernel_rfl) (by kernel_rfl) (by kernel_rfl) (by kernel_rfl) pf_plainKeys (by kernel_rfl) pf_stopsHeard pf_mayEnter pf_lifted (by kernel_rfl) (by kernel_rfl) (by kernel_rfl) (by kernel_rfl) (by kernel_rfl)
end Go.Proofs.Ytaienbnadbadfaa.lawTagTells

