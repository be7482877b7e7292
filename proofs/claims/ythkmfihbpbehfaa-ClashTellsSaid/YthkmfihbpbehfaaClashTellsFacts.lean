/-
The closed facts of the row of ClashTells, each by the kernel.
-/
import Derived.Test.YthkmfihbpbehfaaFacts
import Derived.Test.YthkmfihbpbehfaaJoined
namespace Go.Proofs.Ythkmfihbpbehfaa.lawClashTells
set_option linter.unusedVariables false
set_option linter.unusedSimpArgs false
open Go
theorem rf_inPlace : (Rows.clashTellsRow.inPlace == Try.prog.inPlace 7) = true := by kernel_rfl
theorem rf_unfollowed : (Rows.clashTellsRow.unfollowed == Try.prog.unfollowed 7) = true := by kernel_rfl
theorem rf_recurses : (Rows.clashTellsRow.recurses == Try.prog.recurses 7) = true := by kernel_rfl
theorem rf_named : (Rows.clashTellsRow.named == Try.prog.varsNamed 7) = true := by kernel_rfl
theorem rf_tie : namedTie Try.prog Rows.clashTellsRow.named Rows.clashTellsSpec.vars = true := by kernel_rfl
theorem joined : joinedFacts Try.prog 7 Try.f7 Rows.clashTellsSpec Rows.clashTellsRow = true :=
  joined_of (by kernel_rfl) pf_laidOut pf_mapsRowed (by kernel_rfl) rf_tie (by kernel_rfl) pf_stops (by kernel_rfl) pf_stopKnobs rf_inPlace rf_unfollowed rf_recurses rf_named
    (by kernel_rfl) (by kernel_rfl) (by kernel_rfl) (by kernel_rfl) (by kernel_rfl) (by kernel_rfl) (by kernel_rfl) (by kernel_rfl) (by kernel_rfl) pf_plainKeys (by kernel_rfl) pf_stopsHeard pf_mayEnter pf_lifted (by kernel_rfl) (by kernel_rfl) (by kernel_rfl) (by kernel_rfl) (by kernel_rfl)
end Go.Proofs.Ythkmfihbpbehfaa.lawClashTells
