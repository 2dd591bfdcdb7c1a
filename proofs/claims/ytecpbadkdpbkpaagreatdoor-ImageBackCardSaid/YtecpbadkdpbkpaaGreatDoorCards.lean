/-
  DERIVED. GIVEN WITH THE SEED: THE CARDS: each row of YtecpbadkdpbkpaaGreatDoorRows.lean that lists a variable, with what it lists TIED to the program's text (the seventh form; the later family's looks); each row that meets fmt, with fmt's text TOLD by the authors' own Lean function (tested against real Go, not proved from fmt's source: count such statements apart). THE CARD IS WHAT COUNTS. Prove the row's statement (the work); the ties are given (YtecpbadkdpbkpaaGreatDoorTie.lean); close each card by the builder's one call (the guide's Derived/Test/ToyasCard.lean, 'card_holds'). Laid BY PROGRAM, IN A SANDBOX (cutbox-door.mjs). By AI agents, Wed Nov 11 2026. No macro, syntax, notation, axiom, sorry.
-/
import Derived.Test.YtecpbadkdpbkpaaGreatDoorRows
import GoSem.ClaimSeven
namespace Go.Proofs.YtecpbadkdpbkpaaGreatDoor
namespace Rows

/-- THE TIED CARD OF 'taplinelaw09.ImageMembers'. -/
def imageMembersCard : Claim7 := { stood := { row := imageMembersRow, standIns := [], harness := (true, "63bc1758159722bc154c9a70d18d7c2a59bfe824641d5584b01dcb5980bfecc2"), looks := false }, kinds := [], alts := [], laidByText := true, laidKinds := [.data, .data, .data], laidTests := true, laidLooks := .later }
def ImageMembersCardSaid : Prop := Claim7.holds Tryz.pinned (.plain (OpenSpec.ofChange imageMembersSpec)) imageMembersCard

/-- THE TIED CARD OF 'taplinelaw09.ImageLays'. -/
def imageLaysCard : Claim7 := { stood := { row := imageLaysRow, standIns := [], harness := (true, "63bc1758159722bc154c9a70d18d7c2a59bfe824641d5584b01dcb5980bfecc2"), looks := false }, kinds := [], alts := [], laidByText := true, laidKinds := [.data, .data, .data], laidTests := true, laidLooks := .later }
def ImageLaysCardSaid : Prop := Claim7.holds Tryz.pinned (.plain (OpenSpec.ofChange imageLaysSpec)) imageLaysCard

/-- THE TIED CARD OF 'taplinelaw09.ImageNames'. -/
def imageNamesCard : Claim7 := { stood := { row := imageNamesRow, standIns := [], harness := (true, "63bc1758159722bc154c9a70d18d7c2a59bfe824641d5584b01dcb5980bfecc2"), looks := false }, kinds := [], alts := [], laidByText := true, laidKinds := [.data, .data, .data], laidTests := true, laidLooks := .later }
def ImageNamesCardSaid : Prop := Claim7.holds Tryz.pinned (.plain (OpenSpec.ofChange imageNamesSpec)) imageNamesCard

/-- THE TIED CARD OF 'taplinelaw09.ImageBack'. -/
def imageBackCard : Claim7 := { stood := { row := imageBackRow, standIns := [], harness := (true, "63bc1758159722bc154c9a70d18d7c2a59bfe824641d5584b01dcb5980bfecc2"), looks := false }, kinds := [], alts := [], laidByText := true, laidKinds := [.data, .data, .data], laidTests := true, laidLooks := .later }
def ImageBackCardSaid : Prop := Claim7.holds Tryz.pinned (.plain (OpenSpec.ofChange imageBackSpec)) imageBackCard

/-- THE TIED CARD OF 'taplinelaw09.ImageSymbols'. -/
def imageSymbolsCard : Claim7 := { stood := { row := imageSymbolsRow, standIns := [], harness := (true, "63bc1758159722bc154c9a70d18d7c2a59bfe824641d5584b01dcb5980bfecc2"), looks := false }, kinds := [], alts := [], laidByText := true, laidKinds := [.data, .data, .data], laidTests := true, laidLooks := .later }
def ImageSymbolsCardSaid : Prop := Claim7.holds Tryz.pinned (.plain (OpenSpec.ofChange imageSymbolsSpec)) imageSymbolsCard

/-- THE TIED CARD OF 'taplinelaw09.ImageParts'. -/
def imagePartsCard : Claim7 := { stood := { row := imagePartsRow, standIns := [], harness := (true, "63bc1758159722bc154c9a70d18d7c2a59bfe824641d5584b01dcb5980bfecc2"), looks := false }, kinds := [], alts := [], laidByText := true, laidKinds := [.data, .data, .data], laidTests := true, laidLooks := .later }
def ImagePartsCardSaid : Prop := Claim7.holds Tryz.pinned (.plain (OpenSpec.ofChange imagePartsSpec)) imagePartsCard

/-- THE TIED CARD OF 'taplinelaw09.ImageLoads'. -/
def imageLoadsCard : Claim7 := { stood := { row := imageLoadsRow, standIns := [], harness := (true, "63bc1758159722bc154c9a70d18d7c2a59bfe824641d5584b01dcb5980bfecc2"), looks := false }, kinds := [], alts := [], laidByText := true, laidKinds := [.data, .data, .data], laidTests := true, laidLooks := .later }
def ImageLoadsCardSaid : Prop := Claim7.holds Tryz.pinned (.plain (OpenSpec.ofChange imageLoadsSpec)) imageLoadsCard

/-- THE SECOND FORM's CARD OF 'taplinelaw09.ImageMembers'. -/
def imageMembersUptoCard : Claim7 := { stood := { row := imageMembersUptoRow, standIns := [], harness := (true, "63bc1758159722bc154c9a70d18d7c2a59bfe824641d5584b01dcb5980bfecc2"), looks := false }, kinds := [], alts := [], laidByText := true, laidKinds := [.data, .data, .data], laidTests := true, laidLooks := .later }
def ImageMembersUptoCardSaid : Prop := Claim7.holds Tryz.pinned (.plain (OpenSpec.upto imageMembersSpec)) imageMembersUptoCard

/-- THE SECOND FORM's CARD OF 'taplinelaw09.ImageLays'. -/
def imageLaysUptoCard : Claim7 := { stood := { row := imageLaysUptoRow, standIns := [], harness := (true, "63bc1758159722bc154c9a70d18d7c2a59bfe824641d5584b01dcb5980bfecc2"), looks := false }, kinds := [], alts := [], laidByText := true, laidKinds := [.data, .data, .data], laidTests := true, laidLooks := .later }
def ImageLaysUptoCardSaid : Prop := Claim7.holds Tryz.pinned (.plain (OpenSpec.upto imageLaysSpec)) imageLaysUptoCard

/-- THE SECOND FORM's CARD OF 'taplinelaw09.ImageNames'. -/
def imageNamesUptoCard : Claim7 := { stood := { row := imageNamesUptoRow, standIns := [], harness := (true, "63bc1758159722bc154c9a70d18d7c2a59bfe824641d5584b01dcb5980bfecc2"), looks := false }, kinds := [], alts := [], laidByText := true, laidKinds := [.data, .data, .data], laidTests := true, laidLooks := .later }
def ImageNamesUptoCardSaid : Prop := Claim7.holds Tryz.pinned (.plain (OpenSpec.upto imageNamesSpec)) imageNamesUptoCard

/-- THE SECOND FORM's CARD OF 'taplinelaw09.ImageBack'. -/
def imageBackUptoCard : Claim7 := { stood := { row := imageBackUptoRow, standIns := [], harness := (true, "63bc1758159722bc154c9a70d18d7c2a59bfe824641d5584b01dcb5980bfecc2"), looks := false }, kinds := [], alts := [], laidByText := true, laidKinds := [.data, .data, .data], laidTests := true, laidLooks := .later }
def ImageBackUptoCardSaid : Prop := Claim7.holds Tryz.pinned (.plain (OpenSpec.upto imageBackSpec)) imageBackUptoCard

/-- THE SECOND FORM's CARD OF 'taplinelaw09.ImageSymbols'. -/
def imageSymbolsUptoCard : Claim7 := { stood := { row := imageSymbolsUptoRow, standIns := [], harness := (true, "63bc1758159722bc154c9a70d18d7c2a59bfe824641d5584b01dcb5980bfecc2"), looks := false }, kinds := [], alts := [], laidByText := true, laidKinds := [.data, .data, .data], laidTests := true, laidLooks := .later }
def ImageSymbolsUptoCardSaid : Prop := Claim7.holds Tryz.pinned (.plain (OpenSpec.upto imageSymbolsSpec)) imageSymbolsUptoCard

/-- THE SECOND FORM's CARD OF 'taplinelaw09.ImageParts'. -/
def imagePartsUptoCard : Claim7 := { stood := { row := imagePartsUptoRow, standIns := [], harness := (true, "63bc1758159722bc154c9a70d18d7c2a59bfe824641d5584b01dcb5980bfecc2"), looks := false }, kinds := [], alts := [], laidByText := true, laidKinds := [.data, .data, .data], laidTests := true, laidLooks := .later }
def ImagePartsUptoCardSaid : Prop := Claim7.holds Tryz.pinned (.plain (OpenSpec.upto imagePartsSpec)) imagePartsUptoCard

/-- THE SECOND FORM's CARD OF 'taplinelaw09.ImageLoads'. -/
def imageLoadsUptoCard : Claim7 := { stood := { row := imageLoadsUptoRow, standIns := [], harness := (true, "63bc1758159722bc154c9a70d18d7c2a59bfe824641d5584b01dcb5980bfecc2"), looks := false }, kinds := [], alts := [], laidByText := true, laidKinds := [.data, .data, .data], laidTests := true, laidLooks := .later }
def ImageLoadsUptoCardSaid : Prop := Claim7.holds Tryz.pinned (.plain (OpenSpec.upto imageLoadsSpec)) imageLoadsUptoCard
end Rows
end Go.Proofs.YtecpbadkdpbkpaaGreatDoor
