/-
The closed facts of the row of PathTells, each by the kernel.
-/
import Derived.Test.YtbhlpnbidmnbkaaDoorFacts
import Derived.Test.YtbhlpnbidmnbkaaDoorJoined
namespace Go.Proofs.YtbhlpnbidmnbkaaDoor.lawPathTells
set_option linter.unusedVariables false
set_option linter.unusedSimpArgs false
open Go
theorem rf_inPlace : (Rows.pathTellsRow.inPlace == Tryd.prog.inPlace 5) = true := by kernel_rfl
theorem rf_unfollowed : (Rows.pathTellsRow.unfollowed == Tryd.prog.unfollowed 5) = true := by kernel_rfl
theorem rf_recurses : (Rows.pathTellsRow.recurses == Tryd.prog.recurses 5) = true := by kernel_rfl
theorem rf_named : (Rows.pathTellsRow.named == Tryd.prog.varsNamed 5) = true := by kernel_rfl
theorem rf_tie : namedTie Tryd.prog Rows.pathTellsRow.named Rows.pathTellsSpec.vars = true := by kernel_rfl
theorem joined : joinedFacts Tryd.prog 5 Tryd.f5 Rows.pathTellsSpec Rows.pathTellsRow = true :=
  joined_of (by kernel_rfl) pf_laidOut pf_mapsRowed (by kernel_rfl) rf_tie (by kernel_rfl) pf_stops (by kernel_rfl) pf_stopKnobs rf_inPlace rf_unfollowed rf_recurses rf_named
    (by kernel_rfl) (by kernel_rfl) (by kernel_rfl) (by kernel_rfl) (by kernel_rfl) (by kernel_rfl) (by kernel_rfl) (by kernel_rfl) (by kernel_rfl) pf_plainKeys (by kernel_rfl) pf_stopsHeard pf_mayEnter pf_lifted (by kernel_rfl) (by kernel_rfl) (by kernel_rfl) (by kernel_rfl) (by kernel_rfl)
end Go.Proofs.YtbhlpnbidmnbkaaDoor.lawPathTells
