/-
The closed facts of the row of ProofTells, each by the kernel.
-/
import Derived.Test.YthkmfihbpbehfaaFacts
import Derived.Test.YthkmfihbpbehfaaJoined
namespace Go.Proofs.Ythkmfihbpbehfaa.lawProofTells
set_option linter.unusedVariables false
set_option linter.unusedSimpArgs false
open Go
theorem rf_inPlace : (Rows.proofTellsRow.inPlace == Try.prog.inPlace 9) = true := by kernel_rfl
theorem rf_unfollowed : (Rows.proofTellsRow.unfollowed == Try.prog.unfollowed 9) = true := by kernel_rfl
theorem rf_recurses : (Rows.proofTellsRow.recurses == Try.prog.recurses 9) = true := by kernel_rfl
theorem rf_named : (Rows.proofTellsRow.named == Try.prog.varsNamed 9) = true := by kernel_rfl
theorem rf_tie : namedTie Try.prog Rows.proofTellsRow.named Rows.proofTellsSpec.vars = true := by kernel_rfl
theorem joined : joinedFacts Try.prog 9 Try.f9 Rows.proofTellsSpec Rows.proofTellsRow = true :=
  joined_of (by kernel_rfl) pf_laidOut pf_mapsRowed (by kernel_rfl) rf_tie (by kernel_rfl) pf_stops (by kernel_rfl) pf_stopKnobs rf_inPlace rf_unfollowed rf_recurses rf_named
    (by kernel_rfl) (by kernel_rfl) (by kernel_rfl) (by kernel_rfl) (by kernel_rfl) (by kernel_rfl) (by kernel_rfl) (by kernel_rfl) (by kernel_rfl) pf_plainKeys (by kernel_rfl) pf_stopsHeard pf_mayEnter pf_lifted (by kernel_rfl) (by kernel_rfl) (by kernel_rfl) (by kernel_rfl) (by kernel_rfl)
end Go.Proofs.Ythkmfihbpbehfaa.lawProofTells
