/-
The closed facts of the row of ClerkTells, each by the kernel.
-/
import Derived.Test.YthkkgphjjmhglaaGreatDoorFacts
import Derived.Test.YthkkgphjjmhglaaGreatDoorJoined
namespace Go.Proofs.YthkkgphjjmhglaaGreatDoor.lawClerkTells
set_option linter.unusedVariables false
set_option linter.unusedSimpArgs false
open Go
theorem rf_inPlace : (Rows.clerkTellsRow.inPlace == Tryz.prog.inPlace 4) = true := by kernel_rfl
theorem rf_unfollowed : (Rows.clerkTellsRow.unfollowed == Tryz.prog.unfollowed 4) = true := by kernel_rfl
theorem rf_recurses : (Rows.clerkTellsRow.recurses == Tryz.prog.recurses 4) = true := by kernel_rfl
theorem rf_named : (Rows.clerkTellsRow.named == Tryz.prog.varsNamed 4) = true := by kernel_rfl
theorem rf_tie : namedTie Tryz.prog Rows.clerkTellsRow.named Rows.clerkTellsSpec.vars = true := by kernel_rfl
theorem joined : joinedFacts Tryz.prog 4 Tryz.f4 Rows.clerkTellsSpec Rows.clerkTellsRow = true :=
  joined_of (by kernel_rfl) pf_laidOut pf_mapsRowed (by kernel_rfl) rf_tie (by kernel_rfl) pf_stops (by kernel_rfl) pf_stopKnobs rf_inPlace rf_unfollowed rf_recurses rf_named
    (by kernel_rfl) (by kernel_rfl) (by kernel_rfl) (by kernel_rfl) (by kernel_rfl) (by kernel_rfl) (by kernel_rfl) (by kernel_rfl) (by kernel_rfl) pf_plainKeys (by kernel_rfl) pf_stopsHeard pf_mayEnter pf_lifted (by kernel_rfl) (by kernel_rfl) (by kernel_rfl) (by kernel_rfl) (by kernel_rfl)
end Go.Proofs.YthkkgphjjmhglaaGreatDoor.lawClerkTells
