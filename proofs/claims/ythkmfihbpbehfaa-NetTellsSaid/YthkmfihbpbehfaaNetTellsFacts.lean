/-
The closed facts of the row of NetTells, each by the kernel.
-/
import Derived.Test.YthkmfihbpbehfaaFacts
import Derived.Test.YthkmfihbpbehfaaJoined
namespace Go.Proofs.Ythkmfihbpbehfaa.lawNetTells
set_option linter.unusedVariables false
set_option linter.unusedSimpArgs false
open Go
theorem rf_inPlace : (Rows.netTellsRow.inPlace == Try.prog.inPlace 3) = true := by kernel_rfl
theorem rf_unfollowed : (Rows.netTellsRow.unfollowed == Try.prog.unfollowed 3) = true := by kernel_rfl
theorem rf_recurses : (Rows.netTellsRow.recurses == Try.prog.recurses 3) = true := by kernel_rfl
theorem rf_named : (Rows.netTellsRow.named == Try.prog.varsNamed 3) = true := by kernel_rfl
theorem rf_tie : namedTie Try.prog Rows.netTellsRow.named Rows.netTellsSpec.vars = true := by kernel_rfl
theorem joined : joinedFacts Try.prog 3 Try.f3 Rows.netTellsSpec Rows.netTellsRow = true :=
  joined_of (by kernel_rfl) pf_laidOut pf_mapsRowed (by kernel_rfl) rf_tie (by kernel_rfl) pf_stops (by kernel_rfl) pf_stopKnobs rf_inPlace rf_unfollowed rf_recurses rf_named
    (by kernel_rfl) (by kernel_rfl) (by kernel_rfl) (by kernel_rfl) (by kernel_rfl) (by kernel_rfl) (by kernel_rfl) (by kernel_rfl) (by kernel_rfl) pf_plainKeys (by kernel_rfl) pf_stopsHeard pf_mayEnter pf_lifted (by kernel_rfl) (by kernel_rfl) (by kernel_rfl) (by kernel_rfl) (by kernel_rfl)
end Go.Proofs.Ythkmfihbpbehfaa.lawNetTells
