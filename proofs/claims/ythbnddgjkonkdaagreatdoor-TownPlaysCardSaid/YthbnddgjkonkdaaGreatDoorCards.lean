/-
  DERIVED. GIVEN WITH THE SEED: THE CARDS: each row of YthbnddgjkonkdaaGreatDoorRows.lean that lists a variable, with what it lists TIED to the program's text (the seventh form; the later family's looks); each row that meets fmt, with fmt's text TOLD by the authors' own Lean function (tested against real Go, not proved from fmt's source: count such statements apart). THE CARD IS WHAT COUNTS. Prove the row's statement (the work); the ties are given (YthbnddgjkonkdaaGreatDoorTie.lean); close each card by the builder's one call (the guide's Derived/Test/ToyasCard.lean, 'card_holds'). Laid BY PROGRAM, IN A SANDBOX (cutbox-door.mjs). By AI agents, Wed Nov 11 2026. No macro, syntax, notation, axiom, sorry.
-/
import Derived.Test.YthbnddgjkonkdaaGreatDoorRows
import GoSem.ClaimSeven
namespace Go.Proofs.YthbnddgjkonkdaaGreatDoor
namespace Rows

/-- THE TIED CARD OF 'tallyrolltop.TopTrue'. -/
def topTrueCard : Claim7 := { stood := { row := topTrueRow, standIns := [], harness := (true, "8a8dd0d3e1eeec026e315f224fcf3beaa3170dfad897085e963211900b707d51"), looks := true }, kinds := [], alts := [], laidByText := true, laidKinds := [.data, .data, .data, .data, .sentinel, .sentinel, .pinned], laidTests := true, laidLooks := .later }
def TopTrueCardSaid : Prop := Claim7.holds Tryz.pinned (.plain (OpenSpec.ofChange topTrueSpec)) topTrueCard

/-- THE TIED CARD OF 'tallyrolltop.TopSees'. -/
def topSeesCard : Claim7 := { stood := { row := topSeesRow, standIns := [], harness := (true, "8a8dd0d3e1eeec026e315f224fcf3beaa3170dfad897085e963211900b707d51"), looks := true }, kinds := [], alts := [], laidByText := true, laidKinds := [.data, .data, .data, .data, .sentinel, .sentinel, .pinned], laidTests := true, laidLooks := .later }
def TopSeesCardSaid : Prop := Claim7.holds Tryz.pinned (.plain (OpenSpec.ofChange topSeesSpec)) topSeesCard

/-- THE TIED CARD OF 'tallyrolltop.TopForks'. -/
def topForksCard : Claim7 := { stood := { row := topForksRow, standIns := [], harness := (true, "8a8dd0d3e1eeec026e315f224fcf3beaa3170dfad897085e963211900b707d51"), looks := true }, kinds := [], alts := [], laidByText := true, laidKinds := [.data, .data, .data, .data, .sentinel, .sentinel, .pinned], laidTests := true, laidLooks := .later }
def TopForksCardSaid : Prop := Claim7.holds Tryz.pinned (.plain (OpenSpec.ofChange topForksSpec)) topForksCard

/-- THE TIED CARD OF 'tallyrolllaw.TownPlays'. -/
def townPlaysCard : Claim7 := { stood := { row := townPlaysRow, standIns := [], harness := (true, "8a8dd0d3e1eeec026e315f224fcf3beaa3170dfad897085e963211900b707d51"), looks := true }, kinds := [], alts := [], laidByText := true, laidKinds := [.data, .pinned], laidTests := true, laidLooks := .later }
def TownPlaysCardSaid : Prop := Claim7.holds Tryz.pinned (.plain (OpenSpec.ofChange townPlaysSpec)) townPlaysCard

/-- THE TIED CARD OF 'tallyrolllaw.DeskTells'. -/
def deskTellsCard : Claim7 := { stood := { row := deskTellsRow, standIns := [], harness := (true, "8a8dd0d3e1eeec026e315f224fcf3beaa3170dfad897085e963211900b707d51"), looks := true }, kinds := [], alts := [], laidByText := true, laidKinds := [.data, .data, .data, .data, .sentinel, .sentinel, .pinned], laidTests := true, laidLooks := .later }
def DeskTellsCardSaid : Prop := Claim7.holds Tryz.pinned (.plain (OpenSpec.ofChange deskTellsSpec)) deskTellsCard

/-- THE SECOND FORM's CARD OF 'tallyrolltop.TopTrue'. -/
def topTrueUptoCard : Claim7 := { stood := { row := topTrueUptoRow, standIns := [], harness := (true, "8a8dd0d3e1eeec026e315f224fcf3beaa3170dfad897085e963211900b707d51"), looks := true }, kinds := [], alts := [], laidByText := true, laidKinds := [.data, .data, .data, .data, .sentinel, .sentinel, .pinned], laidTests := true, laidLooks := .later }
def TopTrueUptoCardSaid : Prop := Claim7.holds Tryz.pinned (.plain (OpenSpec.upto topTrueSpec)) topTrueUptoCard

/-- THE SECOND FORM's CARD OF 'tallyrolltop.TopSees'. -/
def topSeesUptoCard : Claim7 := { stood := { row := topSeesUptoRow, standIns := [], harness := (true, "8a8dd0d3e1eeec026e315f224fcf3beaa3170dfad897085e963211900b707d51"), looks := true }, kinds := [], alts := [], laidByText := true, laidKinds := [.data, .data, .data, .data, .sentinel, .sentinel, .pinned], laidTests := true, laidLooks := .later }
def TopSeesUptoCardSaid : Prop := Claim7.holds Tryz.pinned (.plain (OpenSpec.upto topSeesSpec)) topSeesUptoCard

/-- THE SECOND FORM's CARD OF 'tallyrolltop.TopForks'. -/
def topForksUptoCard : Claim7 := { stood := { row := topForksUptoRow, standIns := [], harness := (true, "8a8dd0d3e1eeec026e315f224fcf3beaa3170dfad897085e963211900b707d51"), looks := true }, kinds := [], alts := [], laidByText := true, laidKinds := [.data, .data, .data, .data, .sentinel, .sentinel, .pinned], laidTests := true, laidLooks := .later }
def TopForksUptoCardSaid : Prop := Claim7.holds Tryz.pinned (.plain (OpenSpec.upto topForksSpec)) topForksUptoCard

/-- THE SECOND FORM's CARD OF 'tallyrolllaw.TownPlays'. -/
def townPlaysUptoCard : Claim7 := { stood := { row := townPlaysUptoRow, standIns := [], harness := (true, "8a8dd0d3e1eeec026e315f224fcf3beaa3170dfad897085e963211900b707d51"), looks := true }, kinds := [], alts := [], laidByText := true, laidKinds := [.data, .pinned], laidTests := true, laidLooks := .later }
def TownPlaysUptoCardSaid : Prop := Claim7.holds Tryz.pinned (.plain (OpenSpec.upto townPlaysSpec)) townPlaysUptoCard

/-- THE SECOND FORM's CARD OF 'tallyrolllaw.DeskTells'. -/
def deskTellsUptoCard : Claim7 := { stood := { row := deskTellsUptoRow, standIns := [], harness := (true, "8a8dd0d3e1eeec026e315f224fcf3beaa3170dfad897085e963211900b707d51"), looks := true }, kinds := [], alts := [], laidByText := true, laidKinds := [.data, .data, .data, .data, .sentinel, .sentinel, .pinned], laidTests := true, laidLooks := .later }
def DeskTellsUptoCardSaid : Prop := Claim7.holds Tryz.pinned (.plain (OpenSpec.upto deskTellsSpec)) deskTellsUptoCard
end Rows
end Go.Proofs.YthbnddgjkonkdaaGreatDoor
