/-
The closed facts of the row of AuditTells, each by the kernel.
-/
import Derived.Test.YthkmfihbpbehfaaFacts
import Derived.Test.YthkmfihbpbehfaaJoined
namespace Go.Proofs.Ythkmfihbpbehfaa.lawAuditTells
set_option linter.unusedVariables false
set_option linter.unusedSimpArgs false
open Go
theorem rf_inPlace : (Rows.auditTellsRow.inPlace == Try.prog.inPlace 6) = true := by kernel_rfl
theorem rf_unfollowed : (Rows.auditTellsRow.unfollowed == Try.prog.unfollowed 6) = true := by kernel_rfl
theorem rf_recurses : (Rows.auditTellsRow.recurses == Try.prog.recurses 6) = true := by kernel_rfl
theorem rf_named : (Rows.auditTellsRow.named == Try.prog.varsNamed 6) = true := by kernel_rfl
theorem rf_tie : namedTie Try.prog Rows.auditTellsRow.named Rows.auditTellsSpec.vars = true := by kernel_rfl
theorem joined : joinedFacts Try.prog 6 Try.f6 Rows.auditTellsSpec Rows.auditTellsRow = true :=
  joined_of (by kernel_rfl) pf_laidOut pf_mapsRowed (by kernel_rfl) rf_tie (by kernel_rfl) pf_stops (by kernel_rfl) pf_stopKnobs rf_inPlace rf_unfollowed rf_recurses rf_named
    (by kernel_rfl) (by kernel_rfl) (by kernel_rfl) (by kernel_rfl) (by kernel_rfl) (by kernel_rfl) (by kernel_rfl) (by kernel_rfl) (by kernel_rfl) pf_plainKeys (by kernel_rfl) pf_stopsHeard pf_mayEnter pf_lifted (by kernel_rfl) (by kernel_rfl) (by kernel_rfl) (by kernel_rfl) (by kernel_rfl)
end Go.Proofs.Ythkmfihbpbehfaa.lawAuditTells
