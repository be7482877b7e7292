/-
The closed facts of the row of HeadTells, each by the kernel.
-/
import Derived.Test.YtaienbnadbadfaaFacts
import Derived.Test.YtaienbnadbadfaaJoined
namespace Go.Proofs.Ytaienbnadbadfaa.lawHeadTells
open Go
theorem rf_inPlace : (Rows.headTellsRow.inPlace == Try.prog.inPlace 9) = true := by kernel_rfl
theorem rf_unfollowed : (Rows.headTellsRow.unfollowed == Try.prog.unfollowed 9) = true := by kernel_rfl
theorem rf_recurses : (Rows.headTellsRow.recurses == Try.prog.recurses 9) = true := by kernel_rfl
theorem rf_named : (Rows.headTellsRow.named == Try.prog.varsNamed 9) = true := by kernel_rfl
theorem rf_tie : namedTie Try.prog Rows.headTellsRow.named Rows.headTellsSpec.vars = true := by kernel_rfl
theorem joined : joinedFacts Try.prog 9 Try.f9 Rows.headTellsSpec Rows.headTellsRow = true :=
  joined_of (by kernel_rfl) pf_laidOut pf_mapsRowed (by kernel_rfl) rf_tie (by kernel_rfl) pf_stops (by kernel_rfl) pf_stopKnobs rf_inPlace rf_unfollowed rf_recurses rf_named
    (by kernel_rfl) (by kernel_rfl) (by kernel_rfl) (by kernel_rfl) (by kernel_rfl) (by kernel_rfl) (by kernel_rfl) (by kernel_rfl) (by kernel_rfl) pf_plainKeys (by kernel_rfl) pf_stopsHeard pf_mayEnter pf_lifted (by kernel_rfl) (by kernel_rfl) (by kernel_rfl) (by kernel_rfl) (by kernel_rfl)
end Go.Proofs.Ytaienbnadbadfaa.lawHeadTells

