/-
The closed facts of the row of TreeRoots, each by the kernel.
-/
import Derived.Test.YtbhlpnbidmnbkaaDoorFacts
import Derived.Test.YtbhlpnbidmnbkaaDoorJoined
namespace Go.Proofs.YtbhlpnbidmnbkaaDoor.lawTreeRoots
set_option linter.unusedVariables false
set_option linter.unusedSimpArgs false
open Go
theorem rf_inPlace : (Rows.treeRootsRow.inPlace == Tryd.prog.inPlace 3) = true := by kernel_rfl
theorem rf_unfollowed : (Rows.treeRootsRow.unfollowed == Tryd.prog.unfollowed 3) = true := by kernel_rfl
theorem rf_recurses : (Rows.treeRootsRow.recurses == Tryd.prog.recurses 3) = true := by kernel_rfl
theorem rf_named : (Rows.treeRootsRow.named == Tryd.prog.varsNamed 3) = true := by kernel_rfl
theorem rf_tie : namedTie Tryd.prog Rows.treeRootsRow.named Rows.treeRootsSpec.vars = true := by kernel_rfl
theorem joined : joinedFacts Tryd.prog 3 Tryd.f3 Rows.treeRootsSpec Rows.treeRootsRow = true :=
  joined_of (by kernel_rfl) pf_laidOut pf_mapsRowed (by kernel_rfl) rf_tie (by kernel_rfl) pf_stops (by kernel_rfl) pf_stopKnobs rf_inPlace rf_unfollowed rf_recurses rf_named
    (by kernel_rfl) (by kernel_rfl) (by kernel_rfl) (by kernel_rfl) (by kernel_rfl) (by kernel_rfl) (by kernel_rfl) (by kernel_rfl) (by kernel_rfl) pf_plainKeys (by kernel_rfl) pf_stopsHeard pf_mayEnter pf_lifted (by kernel_rfl) (by kernel_rfl) (by kernel_rfl) (by kernel_rfl) (by kernel_rfl)
end Go.Proofs.YtbhlpnbidmnbkaaDoor.lawTreeRoots
