/-
The closed facts of the row of ProofMakes, each by the kernel.
-/
import Derived.Test.YtbhlpnbidmnbkaaDoorFacts
import Derived.Test.YtbhlpnbidmnbkaaDoorJoined
namespace Go.Proofs.YtbhlpnbidmnbkaaDoor.lawProofMakes
set_option linter.unusedVariables false
set_option linter.unusedSimpArgs false
open Go
theorem rf_inPlace : (Rows.proofMakesRow.inPlace == Tryd.prog.inPlace 4) = true := by kernel_rfl
theorem rf_unfollowed : (Rows.proofMakesRow.unfollowed == Tryd.prog.unfollowed 4) = true := by kernel_rfl
theorem rf_recurses : (Rows.proofMakesRow.recurses == Tryd.prog.recurses 4) = true := by kernel_rfl
theorem rf_named : (Rows.proofMakesRow.named == Tryd.prog.varsNamed 4) = true := by kernel_rfl
theorem rf_tie : namedTie Tryd.prog Rows.proofMakesRow.named Rows.proofMakesSpec.vars = true := by kernel_rfl
theorem joined : joinedFacts Tryd.prog 4 Tryd.f4 Rows.proofMakesSpec Rows.proofMakesRow = true :=
  joined_of (by kernel_rfl) pf_laidOut pf_mapsRowed (by kernel_rfl) rf_tie (by kernel_rfl) pf_stops (by kernel_rfl) pf_stopKnobs rf_inPlace rf_unfollowed rf_recurses rf_named
    (by kernel_rfl) (by kernel_rfl) (by kernel_rfl) (by kernel_rfl) (by kernel_rfl) (by kernel_rfl) (by kernel_rfl) (by kernel_rfl) (by kernel_rfl) pf_plainKeys (by kernel_rfl) pf_stopsHeard pf_mayEnter pf_lifted (by kernel_rfl) (by kernel_rfl) (by kernel_rfl) (by kernel_rfl) (by kernel_rfl)
end Go.Proofs.YtbhlpnbidmnbkaaDoor.lawProofMakes
