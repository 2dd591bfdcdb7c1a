/-
  DERIVED. GIVEN WITH THE SEED: THE CARDS: each row of YtfjppgobidjndaaGreatDoorRows.lean that lists a variable, with what it lists TIED to the program's text (the seventh form; the later family's looks); each row that meets fmt, with fmt's text TOLD by the authors' own Lean function (tested against real Go, not proved from fmt's source: count such statements apart). THE CARD IS WHAT COUNTS. Prove the row's statement (the work); the ties are given (YtfjppgobidjndaaGreatDoorTie.lean); close each card by the builder's one call (the guide's Derived/Test/ToyasCard.lean, 'card_holds'). Laid BY PROGRAM, IN A SANDBOX (cutbox-door.mjs). By AI agents, Wed Nov 11 2026. No macro, syntax, notation, axiom, sorry.
-/
import Derived.Test.YtfjppgobidjndaaGreatDoorRows
import GoSem.ClaimSeven
namespace Go.Proofs.YtfjppgobidjndaaGreatDoor
namespace Rows

/-- THE TIED CARD OF 'taplinelaw08.CtfMerges'. -/
def ctfMergesCard : Claim7 := { stood := { row := ctfMergesRow, standIns := [], harness := (true, "9a151f66a5c667cc62240013cf2f977a5e61275b413471502e421d5d60431883"), looks := false }, kinds := [], alts := [], laidByText := true, laidKinds := [.data, .data, .data], laidTests := true, laidLooks := .later }
def CtfMergesCardSaid : Prop := Claim7.holds Tryz.pinned (.plain (OpenSpec.ofChange ctfMergesSpec)) ctfMergesCard

/-- THE SECOND FORM's CARD OF 'taplinelaw08.CtfMerges'. -/
def ctfMergesUptoCard : Claim7 := { stood := { row := ctfMergesUptoRow, standIns := [], harness := (true, "9a151f66a5c667cc62240013cf2f977a5e61275b413471502e421d5d60431883"), looks := false }, kinds := [], alts := [], laidByText := true, laidKinds := [.data, .data, .data], laidTests := true, laidLooks := .later }
def CtfMergesUptoCardSaid : Prop := Claim7.holds Tryz.pinned (.plain (OpenSpec.upto ctfMergesSpec)) ctfMergesUptoCard
end Rows
end Go.Proofs.YtfjppgobidjndaaGreatDoor
