/-
The closed facts of the row of TreeTells, each by the kernel.
-/
import Derived.Test.YthkmfihbpbehfaaFacts
import Derived.Test.YthkmfihbpbehfaaJoined
namespace Go.Proofs.Ythkmfihbpbehfaa.lawTreeTells
set_option linter.unusedVariables false
set_option linter.unusedSimpArgs false
open Go
theorem rf_inPlace : (Rows.treeTellsRow.inPlace == Try.prog.inPlace 8) = true := by kernel_rfl
theorem rf_unfollowed : (Rows.treeTellsRow.unfollowed == Try.prog.unfollowed 8) = true := by kernel_rfl
theorem rf_recurses : (Rows.treeTellsRow.recurses == Try.prog.recurses 8) = true := by kernel_rfl
theorem rf_named : (Rows.treeTellsRow.named == Try.prog.varsNamed 8) = true := by kernel_rfl
theorem rf_tie : namedTie Try.prog Rows.treeTellsRow.named Rows.treeTellsSpec.vars = true := by kernel_rfl
theorem joined : joinedFacts Try.prog 8 Try.f8 Rows.treeTellsSpec Rows.treeTellsRow = true :=
  joined_of (by kernel_rfl) pf_laidOut pf_mapsRowed (by kernel_rfl) rf_tie (by kernel_rfl) pf_stops (by kernel_rfl) pf_stopKnobs rf_inPlace rf_unfollowed rf_recurses rf_named
    (by kernel_rfl) (by kernel_rfl) (by kernel_rfl) (by kernel_rfl) (by kernel_rfl) (by kernel_rfl) (by kernel_rfl) (by kernel_rfl) (by kernel_rfl) pf_plainKeys (by kernel_rfl) pf_stopsHeard pf_mayEnter pf_lifted (by kernel_rfl) (by kernel_rfl) (by kernel_rfl) (by kernel_rfl) (by kernel_rfl)
end Go.Proofs.Ythkmfihbpbehfaa.lawTreeTells
