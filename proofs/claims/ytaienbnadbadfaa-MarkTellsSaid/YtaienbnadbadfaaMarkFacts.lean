/-
The closed facts of the row of MarkTells, each by the kernel.
-/
import Derived.Test.YtaienbnadbadfaaFacts
import Derived.Test.YtaienbnadbadfaaJoined
namespace Go.Proofs.Ytaienbnadbadfaa.lawMarkTells
open Go
theorem rf_inPlace : (Rows.markTellsRow.inPlace == Try.prog.inPlace 8) = true := by kernel_rfl
theorem rf_unfollowed : (Rows.markTellsRow.unfollowed == Try.prog.unfollowed 8) = true := by kernel_rfl
theorem rf_recurses : (Rows.markTellsRow.recurses == Try.prog.recurses 8) = true := by kernel_rfl
theorem rf_named : (Rows.markTellsRow.named == Try.prog.varsNamed 8) = true := by kernel_rfl
theorem rf_tie : namedTie Try.prog Rows.markTellsRow.named Rows.markTellsSpec.vars = true := by kernel_rfl
theorem joined : joinedFacts Try.prog 8 Try.f8 Rows.markTellsSpec Rows.markTellsRow = true :=
  joined_of (by kernel_rfl) pf_laidOut pf_mapsRowed (by kernel_rfl) rf_tie (by kernel_rfl) pf_stops (by kernel_rfl) pf_stopKnobs rf_inPlace rf_unfollowed rf_recurses rf_named
    (by kernel_rfl) (by kernel_rfl) (by kernel_rfl) (by kernel_rfl) (by kernel_rfl) (by kernel_rfl) (by kernel_rfl) (by kernel_rfl) (by kernel_rfl) pf_plainKeys (by kernel_rfl) pf_stopsHeard pf_mayEnter pf_lifted (by kernel_rfl) (by kernel_rfl) (by kernel_rfl) (by kernel_rfl) (by kernel_rfl)
end Go.Proofs.Ytaienbnadbadfaa.lawMarkTells

