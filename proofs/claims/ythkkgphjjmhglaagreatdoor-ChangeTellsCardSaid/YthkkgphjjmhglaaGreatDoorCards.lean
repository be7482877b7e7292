/-
  DERIVED. GIVEN WITH THE SEED: THE CARDS: each row of YthkkgphjjmhglaaGreatDoorRows.lean that lists a variable, with what it lists TIED to the program's text (the seventh form; the later family's looks); each row that meets fmt, with fmt's text TOLD by the authors' own Lean function (tested against real Go, not proved from fmt's source: count such statements apart). THE CARD IS WHAT COUNTS. Prove the row's statement (the work); the ties are given (YthkkgphjjmhglaaGreatDoorTie.lean); close each card by the builder's one call (the guide's Derived/Test/ToyasCard.lean, 'card_holds'). Laid BY PROGRAM, IN A SANDBOX (cutbox-door.mjs). By AI agents, Wed Nov 11 2026. No macro, syntax, notation, axiom, sorry.
-/
import Derived.Test.YthkkgphjjmhglaaGreatDoorRows
import GoSem.ClaimSeven
namespace Go.Proofs.YthkkgphjjmhglaaGreatDoor
namespace Rows

/-- THE TIED CARD OF 'tallyrolllaw.ServeTells'. -/
def serveTellsCard : Claim7 := { stood := { row := serveTellsRow, standIns := [], harness := (true, "66a92ee720eaaf636cedf37c15169b76d04552f7d2de03ba40fd36c0eac45da6"), looks := false }, kinds := [], alts := [], laidByText := true, laidKinds := [.data, .pinned], laidTests := true, laidLooks := .later }
def ServeTellsCardSaid : Prop := Claim7.holds Tryz.pinned (.plain (OpenSpec.ofChange serveTellsSpec)) serveTellsCard

/-- THE TIED CARD OF 'tallyrolllaw.ClerkTells'. -/
def clerkTellsCard : Claim7 := { stood := { row := clerkTellsRow, standIns := [], harness := (true, "66a92ee720eaaf636cedf37c15169b76d04552f7d2de03ba40fd36c0eac45da6"), looks := false }, kinds := [], alts := [], laidByText := true, laidKinds := [.data, .pinned], laidTests := true, laidLooks := .later }
def ClerkTellsCardSaid : Prop := Claim7.holds Tryz.pinned (.plain (OpenSpec.ofChange clerkTellsSpec)) clerkTellsCard

/-- THE TIED CARD OF 'tallyrolllaw.ChangeTells'. -/
def changeTellsCard : Claim7 := { stood := { row := changeTellsRow, standIns := [], harness := (true, "66a92ee720eaaf636cedf37c15169b76d04552f7d2de03ba40fd36c0eac45da6"), looks := false }, kinds := [], alts := [], laidByText := true, laidKinds := [.data, .pinned], laidTests := true, laidLooks := .later }
def ChangeTellsCardSaid : Prop := Claim7.holds Tryz.pinned (.plain (OpenSpec.ofChange changeTellsSpec)) changeTellsCard

/-- THE TIED CARD OF 'tallyrolllaw.TownPlays'. -/
def townPlaysCard : Claim7 := { stood := { row := townPlaysRow, standIns := [], harness := (true, "66a92ee720eaaf636cedf37c15169b76d04552f7d2de03ba40fd36c0eac45da6"), looks := false }, kinds := [], alts := [], laidByText := true, laidKinds := [.data, .pinned], laidTests := true, laidLooks := .later }
def TownPlaysCardSaid : Prop := Claim7.holds Tryz.pinned (.plain (OpenSpec.ofChange townPlaysSpec)) townPlaysCard

/-- THE SECOND FORM's CARD OF 'tallyrolllaw.ServeTells'. -/
def serveTellsUptoCard : Claim7 := { stood := { row := serveTellsUptoRow, standIns := [], harness := (true, "66a92ee720eaaf636cedf37c15169b76d04552f7d2de03ba40fd36c0eac45da6"), looks := false }, kinds := [], alts := [], laidByText := true, laidKinds := [.data, .pinned], laidTests := true, laidLooks := .later }
def ServeTellsUptoCardSaid : Prop := Claim7.holds Tryz.pinned (.plain (OpenSpec.upto serveTellsSpec)) serveTellsUptoCard

/-- THE SECOND FORM's CARD OF 'tallyrolllaw.ClerkTells'. -/
def clerkTellsUptoCard : Claim7 := { stood := { row := clerkTellsUptoRow, standIns := [], harness := (true, "66a92ee720eaaf636cedf37c15169b76d04552f7d2de03ba40fd36c0eac45da6"), looks := false }, kinds := [], alts := [], laidByText := true, laidKinds := [.data, .pinned], laidTests := true, laidLooks := .later }
def ClerkTellsUptoCardSaid : Prop := Claim7.holds Tryz.pinned (.plain (OpenSpec.upto clerkTellsSpec)) clerkTellsUptoCard

/-- THE SECOND FORM's CARD OF 'tallyrolllaw.ChangeTells'. -/
def changeTellsUptoCard : Claim7 := { stood := { row := changeTellsUptoRow, standIns := [], harness := (true, "66a92ee720eaaf636cedf37c15169b76d04552f7d2de03ba40fd36c0eac45da6"), looks := false }, kinds := [], alts := [], laidByText := true, laidKinds := [.data, .pinned], laidTests := true, laidLooks := .later }
def ChangeTellsUptoCardSaid : Prop := Claim7.holds Tryz.pinned (.plain (OpenSpec.upto changeTellsSpec)) changeTellsUptoCard

/-- THE SECOND FORM's CARD OF 'tallyrolllaw.TownPlays'. -/
def townPlaysUptoCard : Claim7 := { stood := { row := townPlaysUptoRow, standIns := [], harness := (true, "66a92ee720eaaf636cedf37c15169b76d04552f7d2de03ba40fd36c0eac45da6"), looks := false }, kinds := [], alts := [], laidByText := true, laidKinds := [.data, .pinned], laidTests := true, laidLooks := .later }
def TownPlaysUptoCardSaid : Prop := Claim7.holds Tryz.pinned (.plain (OpenSpec.upto townPlaysSpec)) townPlaysUptoCard
end Rows
end Go.Proofs.YthkkgphjjmhglaaGreatDoor
