/-
The closed facts of the Upto row of ServeReads, each by the kernel.
-/
import Derived.Test.YthkmfihbpbehfaaFacts
import Derived.Test.YthkmfihbpbehfaaJoined
namespace Go.Proofs.Ythkmfihbpbehfaa.lawServeReads
set_option linter.unusedVariables false
set_option linter.unusedSimpArgs false
open Go
theorem rf_inPlace : (Rows.serveReadsUptoRow.inPlace == Try.prog.inPlace 10) = true := by kernel_rfl
theorem rf_unfollowed : (Rows.serveReadsUptoRow.unfollowed == Try.prog.unfollowed 10) = true := by kernel_rfl
theorem rf_recurses : (Rows.serveReadsUptoRow.recurses == Try.prog.recurses 10) = true := by kernel_rfl
theorem rf_named : (Rows.serveReadsUptoRow.named == Try.prog.varsNamed 10) = true := by kernel_rfl
theorem rf_tie : namedTie Try.prog Rows.serveReadsUptoRow.named Rows.serveReadsSpec.vars = true := by kernel_rfl
theorem joined : joinedFacts Try.prog 10 Try.f10 Rows.serveReadsSpec Rows.serveReadsUptoRow = true :=
  joined_of (by kernel_rfl) pf_laidOut pf_mapsRowed (by kernel_rfl) rf_tie (by kernel_rfl) pf_stops (by kernel_rfl) pf_stopKnobs rf_inPlace rf_unfollowed rf_recurses rf_named
    (by kernel_rfl) (by kernel_rfl) (by kernel_rfl) (by kernel_rfl) (by kernel_rfl) (by kernel_rfl) (by kernel_rfl) (by kernel_rfl) (by kernel_rfl) pf_plainKeys (by kernel_rfl) pf_stopsHeard pf_mayEnter pf_lifted (by kernel_rfl) (by kernel_rfl) (by kernel_rfl) (by kernel_rfl) (by kernel_rfl)
end Go.Proofs.Ythkmfihbpbehfaa.lawServeReads
