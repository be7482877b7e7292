/-
The closed facts of the row of ChainForks, each by the kernel.
-/
import Derived.Test.YthkmfihbpbehfaaFacts
import Derived.Test.YthkmfihbpbehfaaJoined
namespace Go.Proofs.Ythkmfihbpbehfaa.lawChainForks
set_option linter.unusedVariables false
set_option linter.unusedSimpArgs false
open Go
theorem rf_inPlace : (Rows.chainForksRow.inPlace == Try.prog.inPlace 4) = true := by kernel_rfl
theorem rf_unfollowed : (Rows.chainForksRow.unfollowed == Try.prog.unfollowed 4) = true := by kernel_rfl
theorem rf_recurses : (Rows.chainForksRow.recurses == Try.prog.recurses 4) = true := by kernel_rfl
theorem rf_named : (Rows.chainForksRow.named == Try.prog.varsNamed 4) = true := by kernel_rfl
theorem rf_tie : namedTie Try.prog Rows.chainForksRow.named Rows.chainForksSpec.vars = true := by kernel_rfl
theorem joined : joinedFacts Try.prog 4 Try.f4 Rows.chainForksSpec Rows.chainForksRow = true :=
  joined_of (by kernel_rfl) pf_laidOut pf_mapsRowed (by kernel_rfl) rf_tie (by kernel_rfl) pf_stops (by kernel_rfl) pf_stopKnobs rf_inPlace rf_unfollowed rf_recurses rf_named
    (by kernel_rfl) (by kernel_rfl) (by kernel_rfl) (by kernel_rfl) (by kernel_rfl) (by kernel_rfl) (by kernel_rfl) (by kernel_rfl) (by kernel_rfl) pf_plainKeys (by kernel_rfl) pf_stopsHeard pf_mayEnter pf_lifted (by kernel_rfl) (by kernel_rfl) (by kernel_rfl) (by kernel_rfl) (by kernel_rfl)
end Go.Proofs.Ythkmfihbpbehfaa.lawChainForks
