/-
  DERIVED. GIVEN WITH THE SEED: THE CARDS: each row of YtlmfgibfknjjpaaGreatDoorRows.lean that lists a variable, with what it lists TIED to the program's text (the seventh form; the later family's looks); each row that meets fmt, with fmt's text TOLD by the authors' own Lean function (tested against real Go, not proved from fmt's source: count such statements apart). THE CARD IS WHAT COUNTS. Prove the row's statement (the work); the ties are given (YtlmfgibfknjjpaaGreatDoorTie.lean); close each card by the builder's one call (the guide's Derived/Test/ToyasCard.lean, 'card_holds'). Laid BY PROGRAM, IN A SANDBOX (cutbox-door.mjs). By AI agents, Wed Nov 11 2026. No macro, syntax, notation, axiom, sorry.
-/
import Derived.Test.YtlmfgibfknjjpaaGreatDoorRows
import GoSem.ClaimSeven
namespace Go.Proofs.YtlmfgibfknjjpaaGreatDoor
namespace Rows

/-- THE TIED CARD OF 'taplinelaw18.VerifyValues'. -/
def verifyValuesCard : Claim7 := { stood := { row := verifyValuesRow, standIns := [], harness := (true, "cb6c5a61df4f5e144eaed51fd5cdce4c5529ee47602a0bfa921f206359743651"), looks := true }, kinds := [], alts := [], laidByText := true, laidKinds := [.data, .data, .data, .sentinel, .sentinel, .widerDeep, .widerDeep, .data, .data], laidTests := true, laidLooks := .later }
def VerifyValuesCardSaid : Prop := Claim7.holds Tryz.pinned (.plain (OpenSpec.ofChange verifyValuesSpec)) verifyValuesCard

/-- THE TIED CARD OF 'taplinelaw18.VerifyOrder'. -/
def verifyOrderCard : Claim7 := { stood := { row := verifyOrderRow, standIns := [], harness := (true, "cb6c5a61df4f5e144eaed51fd5cdce4c5529ee47602a0bfa921f206359743651"), looks := true }, kinds := [], alts := [], laidByText := true, laidKinds := [.data, .data, .data, .sentinel, .sentinel, .widerDeep, .widerDeep, .data, .data], laidTests := true, laidLooks := .later }
def VerifyOrderCardSaid : Prop := Claim7.holds Tryz.pinned (.plain (OpenSpec.ofChange verifyOrderSpec)) verifyOrderCard

/-- THE SECOND FORM's CARD OF 'taplinelaw18.VerifyValues'. -/
def verifyValuesUptoCard : Claim7 := { stood := { row := verifyValuesUptoRow, standIns := [], harness := (true, "cb6c5a61df4f5e144eaed51fd5cdce4c5529ee47602a0bfa921f206359743651"), looks := true }, kinds := [], alts := [], laidByText := true, laidKinds := [.data, .data, .data, .sentinel, .sentinel, .widerDeep, .widerDeep, .data, .data], laidTests := true, laidLooks := .later }
def VerifyValuesUptoCardSaid : Prop := Claim7.holds Tryz.pinned (.plain (OpenSpec.upto verifyValuesSpec)) verifyValuesUptoCard

/-- THE SECOND FORM's CARD OF 'taplinelaw18.VerifyOrder'. -/
def verifyOrderUptoCard : Claim7 := { stood := { row := verifyOrderUptoRow, standIns := [], harness := (true, "cb6c5a61df4f5e144eaed51fd5cdce4c5529ee47602a0bfa921f206359743651"), looks := true }, kinds := [], alts := [], laidByText := true, laidKinds := [.data, .data, .data, .sentinel, .sentinel, .widerDeep, .widerDeep, .data, .data], laidTests := true, laidLooks := .later }
def VerifyOrderUptoCardSaid : Prop := Claim7.holds Tryz.pinned (.plain (OpenSpec.upto verifyOrderSpec)) verifyOrderUptoCard
end Rows
end Go.Proofs.YtlmfgibfknjjpaaGreatDoor
