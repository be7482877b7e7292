/-
The closed facts of the row of PollTells, each by the kernel.
-/
import Derived.Test.YtmkbdpdbjafpkaaFacts
import Derived.Test.YtmkbdpdbjafpkaaJoined
namespace Go.Proofs.Ytmkbdpdbjafpkaa.lawPollTells
open Go
theorem rf_inPlace : (Rows.pollTellsRow.inPlace == Try.prog.inPlace 4) = true := by kernel_rfl
theorem rf_unfollowed : (Rows.pollTellsRow.unfollowed == Try.prog.unfollowed 4) = true := by kernel_rfl
theorem rf_recurses : (Rows.pollTellsRow.recurses == Try.prog.recurses 4) = true := by kernel_rfl
theorem rf_named : (Rows.pollTellsRow.named == Try.prog.varsNamed 4) = true := by kernel_rfl
theorem rf_tie : namedTie Try.prog Rows.pollTellsRow.named Rows.pollTellsSpec.vars = true := by kernel_rfl
theorem joined : joinedFacts Try.prog 4 Try.f4 Rows.pollTellsSpec Rows.pollTellsRow = true :=
  joined_of (by kernel_rfl) pf_laidOut pf_mapsRowed (by kernel_rfl) rf_tie (by kernel_rfl) pf_stops (by kernel_rfl) pf_stopKnobs rf_inPlace rf_unfollowed rf_recurses rf_named
    (by kernel_rfl) (by kernel_rfl) (by kernel_rfl) (by kernel_rfl) (by kernel_rfl) (by kernel_rfl) (by kernel_rfl) (by kernel_rfl) (by kernel_rfl) pf_plainKeys (by kernel_rfl) pf_stopsHeard pf_mayEnter pf_lifted (by kernel_rfl) (by kernel_rfl) (by kernel_rfl) (by kernel_rfl) (by kernel_rfl)
end Go.Proofs.Ytmkbdpdbjafpkaa.lawPollTells
