/-
The closed facts of the row of Names, each by the kernel.
-/
import Derived.Test.YtaienbnadbadfaaFacts
import Derived.Test.YtaienbnadbadfaaJoined
namespace Go.Proofs.Ytaienbnadbadfaa.lawNames
open Go
theorem rf_inPlace : (Rows.namesRow.inPlace == Try.prog.inPlace 3) = true := by kernel_rfl
theorem rf_unfollowed : (Rows.namesRow.unfollowed == Try.prog.unfollowed 3) = true := by kernel_rfl
theorem rf_recurses : (Rows.namesRow.recurses == Try.prog.recurses 3) = true := by kernel_rfl
theorem rf_named : (Rows.namesRow.named == Try.prog.varsNamed 3) = true := by kernel_rfl
theorem rf_tie : namedTie Try.prog Rows.namesRow.named Rows.namesSpec.vars = true := by kernel_rfl
theorem joined : joinedFacts Try.prog 3 Try.f3 Rows.namesSpec Rows.namesRow = true :=
  joined_of (by kernel_rfl) pf_laidOut pf_mapsRowed (by kernel_rfl) rf_tie (by kernel_rfl) pf_stops (by kernel_rfl) pf_stopKnobs rf_inPlace rf_unfollowed rf_recurses rf_named
    (by kernel_rfl) (by kernel_rfl) (by kernel_rfl) (by kernel_rfl) (by kernel_rfl) (by kernel_rfl) (by kernel_rfl) (by kernel_rfl) (by kernel_rfl) pf_plainKeys (by kernel_rfl) pf_stopsHeard pf_mayEnter pf_lifted (by kernel_rfl) (by kernel_rfl) (by kernel_rfl) (by kernel_rfl) (by kernel_rfl)
end Go.Proofs.Ytaienbnadbadfaa.lawNames

