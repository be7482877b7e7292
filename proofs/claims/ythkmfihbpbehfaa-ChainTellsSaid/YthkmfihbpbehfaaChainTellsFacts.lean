/-
The closed facts of the row of ChainTells, each by the kernel.
-/
import Derived.Test.YthkmfihbpbehfaaFacts
import Derived.Test.YthkmfihbpbehfaaJoined
namespace Go.Proofs.Ythkmfihbpbehfaa.lawChainTells
set_option linter.unusedVariables false
set_option linter.unusedSimpArgs false
open Go
theorem rf_inPlace : (Rows.chainTellsRow.inPlace == Try.prog.inPlace 5) = true := by kernel_rfl
theorem rf_unfollowed : (Rows.chainTellsRow.unfollowed == Try.prog.unfollowed 5) = true := by kernel_rfl
theorem rf_recurses : (Rows.chainTellsRow.recurses == Try.prog.recurses 5) = true := by kernel_rfl
theorem rf_named : (Rows.chainTellsRow.named == Try.prog.varsNamed 5) = true := by kernel_rfl
theorem rf_tie : namedTie Try.prog Rows.chainTellsRow.named Rows.chainTellsSpec.vars = true := by kernel_rfl
theorem joined : joinedFacts Try.prog 5 Try.f5 Rows.chainTellsSpec Rows.chainTellsRow = true :=
  joined_of (by kernel_rfl) pf_laidOut pf_mapsRowed (by kernel_rfl) rf_tie (by kernel_rfl) pf_stops (by kernel_rfl) pf_stopKnobs rf_inPlace rf_unfollowed rf_recurses rf_named
    (by kernel_rfl) (by kernel_rfl) (by kernel_rfl) (by kernel_rfl) (by kernel_rfl) (by kernel_rfl) (by kernel_rfl) (by kernel_rfl) (by kernel_rfl) pf_plainKeys (by kernel_rfl) pf_stopsHeard pf_mayEnter pf_lifted (by kernel_rfl) (by kernel_rfl) (by kernel_rfl) (by kernel_rfl) (by kernel_rfl)
end Go.Proofs.Ythkmfihbpbehfaa.lawChainTells
