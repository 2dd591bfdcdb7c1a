/-
  DERIVED. GIVEN WITH THE SEED: THE CARDS: each row of YtfjppgobidjndaaDoorRows.lean that lists a variable, with what it lists TIED to the program's text (the seventh form; the later family's looks); each row that meets fmt, with fmt's text TOLD by the authors' own Lean function (tested against real Go, not proved from fmt's source: count such statements apart). THE CARD IS WHAT COUNTS. Prove the row's statement (the work); the ties are given (YtfjppgobidjndaaDoorTie.lean); close each card by the builder's one call (the guide's Derived/Test/ToyasCard.lean, 'card_holds'). Laid BY PROGRAM, IN A SANDBOX (cutbox-door.mjs). By AI agents, Wed Nov 11 2026. No macro, syntax, notation, axiom, sorry.
-/
import Derived.Test.YtfjppgobidjndaaDoorRows
import GoSem.ClaimSeven
namespace Go.Proofs.YtfjppgobidjndaaDoor
namespace Rows

/-- THE TIED CARD OF 'taplinelaw08.CtfMembers'. -/
def ctfMembersCard : Claim7 := { stood := { row := ctfMembersRow, standIns := [], harness := (true, "dee0a8d1350d68f8e2267cdf1cf98d95389ef24ebc7e451008f72eab51dbb24b"), looks := true }, kinds := [], alts := [], laidByText := true, laidKinds := [.data, .data, .data], laidTests := true, laidLooks := .later }
def CtfMembersCardSaid : Prop := Claim7.holds Tryd.pinned (.plain (OpenSpec.ofChange ctfMembersSpec)) ctfMembersCard

/-- THE TIED CARD OF 'taplinelaw08.CtfLooks'. -/
def ctfLooksCard : Claim7 := { stood := { row := ctfLooksRow, standIns := [], harness := (true, "dee0a8d1350d68f8e2267cdf1cf98d95389ef24ebc7e451008f72eab51dbb24b"), looks := true }, kinds := [], alts := [], laidByText := true, laidKinds := [.data, .data, .data], laidTests := true, laidLooks := .later }
def CtfLooksCardSaid : Prop := Claim7.holds Tryd.pinned (.plain (OpenSpec.ofChange ctfLooksSpec)) ctfLooksCard

/-- THE TIED CARD OF 'taplinelaw08.CtfUnique'. -/
def ctfUniqueCard : Claim7 := { stood := { row := ctfUniqueRow, standIns := [], harness := (true, "dee0a8d1350d68f8e2267cdf1cf98d95389ef24ebc7e451008f72eab51dbb24b"), looks := true }, kinds := [], alts := [], laidByText := true, laidKinds := [.data, .data, .data], laidTests := true, laidLooks := .later }
def CtfUniqueCardSaid : Prop := Claim7.holds Tryd.pinned (.plain (OpenSpec.ofChange ctfUniqueSpec)) ctfUniqueCard

/-- THE TIED CARD OF 'taplinelaw08.CtfEquals'. -/
def ctfEqualsCard : Claim7 := { stood := { row := ctfEqualsRow, standIns := [], harness := (true, "dee0a8d1350d68f8e2267cdf1cf98d95389ef24ebc7e451008f72eab51dbb24b"), looks := true }, kinds := [], alts := [], laidByText := true, laidKinds := [.data, .data, .data], laidTests := true, laidLooks := .later }
def CtfEqualsCardSaid : Prop := Claim7.holds Tryd.pinned (.plain (OpenSpec.ofChange ctfEqualsSpec)) ctfEqualsCard

/-- THE TIED CARD OF 'taplinelaw08.CtfCompares'. -/
def ctfComparesCard : Claim7 := { stood := { row := ctfComparesRow, standIns := [], harness := (true, "dee0a8d1350d68f8e2267cdf1cf98d95389ef24ebc7e451008f72eab51dbb24b"), looks := true }, kinds := [], alts := [], laidByText := true, laidKinds := [.data, .data, .data], laidTests := true, laidLooks := .later }
def CtfComparesCardSaid : Prop := Claim7.holds Tryd.pinned (.plain (OpenSpec.ofChange ctfComparesSpec)) ctfComparesCard

/-- THE TIED CARD OF 'taplinelaw08.CtfMerged'. -/
def ctfMergedCard : Claim7 := { stood := { row := ctfMergedRow, standIns := [], harness := (true, "dee0a8d1350d68f8e2267cdf1cf98d95389ef24ebc7e451008f72eab51dbb24b"), looks := true }, kinds := [], alts := [], laidByText := true, laidKinds := [.data, .data, .data], laidTests := true, laidLooks := .later }
def CtfMergedCardSaid : Prop := Claim7.holds Tryd.pinned (.plain (OpenSpec.ofChange ctfMergedSpec)) ctfMergedCard

/-- THE TIED CARD OF 'taplinelaw08.CtfOrder'. -/
def ctfOrderCard : Claim7 := { stood := { row := ctfOrderRow, standIns := [], harness := (true, "dee0a8d1350d68f8e2267cdf1cf98d95389ef24ebc7e451008f72eab51dbb24b"), looks := true }, kinds := [], alts := [], laidByText := true, laidKinds := [.data, .data, .data], laidTests := true, laidLooks := .later }
def CtfOrderCardSaid : Prop := Claim7.holds Tryd.pinned (.plain (OpenSpec.ofChange ctfOrderSpec)) ctfOrderCard

/-- THE TIED CARD OF 'taplinelaw08.CtfBytes'. -/
def ctfBytesCard : Claim7 := { stood := { row := ctfBytesRow, standIns := [], harness := (true, "dee0a8d1350d68f8e2267cdf1cf98d95389ef24ebc7e451008f72eab51dbb24b"), looks := true }, kinds := [], alts := [], laidByText := true, laidKinds := [.data, .data, .data], laidTests := true, laidLooks := .later }
def CtfBytesCardSaid : Prop := Claim7.holds Tryd.pinned (.plain (OpenSpec.ofChange ctfBytesSpec)) ctfBytesCard

/-- THE TIED CARD OF 'taplinelaw08.CtfBack'. -/
def ctfBackCard : Claim7 := { stood := { row := ctfBackRow, standIns := [], harness := (true, "dee0a8d1350d68f8e2267cdf1cf98d95389ef24ebc7e451008f72eab51dbb24b"), looks := true }, kinds := [], alts := [], laidByText := true, laidKinds := [.data, .data, .data], laidTests := true, laidLooks := .later }
def CtfBackCardSaid : Prop := Claim7.holds Tryd.pinned (.plain (OpenSpec.ofChange ctfBackSpec)) ctfBackCard

/-- THE TIED CARD OF 'taplinelaw08.CtfTrims'. -/
def ctfTrimsCard : Claim7 := { stood := { row := ctfTrimsRow, standIns := [], harness := (true, "dee0a8d1350d68f8e2267cdf1cf98d95389ef24ebc7e451008f72eab51dbb24b"), looks := true }, kinds := [], alts := [], laidByText := true, laidKinds := [.data, .data, .data], laidTests := true, laidLooks := .later }
def CtfTrimsCardSaid : Prop := Claim7.holds Tryd.pinned (.plain (OpenSpec.ofChange ctfTrimsSpec)) ctfTrimsCard

/-- THE SECOND FORM's CARD OF 'taplinelaw08.CtfMembers'. -/
def ctfMembersUptoCard : Claim7 := { stood := { row := ctfMembersUptoRow, standIns := [], harness := (true, "dee0a8d1350d68f8e2267cdf1cf98d95389ef24ebc7e451008f72eab51dbb24b"), looks := true }, kinds := [], alts := [], laidByText := true, laidKinds := [.data, .data, .data], laidTests := true, laidLooks := .later }
def CtfMembersUptoCardSaid : Prop := Claim7.holds Tryd.pinned (.plain (OpenSpec.upto ctfMembersSpec)) ctfMembersUptoCard

/-- THE SECOND FORM's CARD OF 'taplinelaw08.CtfLooks'. -/
def ctfLooksUptoCard : Claim7 := { stood := { row := ctfLooksUptoRow, standIns := [], harness := (true, "dee0a8d1350d68f8e2267cdf1cf98d95389ef24ebc7e451008f72eab51dbb24b"), looks := true }, kinds := [], alts := [], laidByText := true, laidKinds := [.data, .data, .data], laidTests := true, laidLooks := .later }
def CtfLooksUptoCardSaid : Prop := Claim7.holds Tryd.pinned (.plain (OpenSpec.upto ctfLooksSpec)) ctfLooksUptoCard

/-- THE SECOND FORM's CARD OF 'taplinelaw08.CtfUnique'. -/
def ctfUniqueUptoCard : Claim7 := { stood := { row := ctfUniqueUptoRow, standIns := [], harness := (true, "dee0a8d1350d68f8e2267cdf1cf98d95389ef24ebc7e451008f72eab51dbb24b"), looks := true }, kinds := [], alts := [], laidByText := true, laidKinds := [.data, .data, .data], laidTests := true, laidLooks := .later }
def CtfUniqueUptoCardSaid : Prop := Claim7.holds Tryd.pinned (.plain (OpenSpec.upto ctfUniqueSpec)) ctfUniqueUptoCard

/-- THE SECOND FORM's CARD OF 'taplinelaw08.CtfEquals'. -/
def ctfEqualsUptoCard : Claim7 := { stood := { row := ctfEqualsUptoRow, standIns := [], harness := (true, "dee0a8d1350d68f8e2267cdf1cf98d95389ef24ebc7e451008f72eab51dbb24b"), looks := true }, kinds := [], alts := [], laidByText := true, laidKinds := [.data, .data, .data], laidTests := true, laidLooks := .later }
def CtfEqualsUptoCardSaid : Prop := Claim7.holds Tryd.pinned (.plain (OpenSpec.upto ctfEqualsSpec)) ctfEqualsUptoCard

/-- THE SECOND FORM's CARD OF 'taplinelaw08.CtfCompares'. -/
def ctfComparesUptoCard : Claim7 := { stood := { row := ctfComparesUptoRow, standIns := [], harness := (true, "dee0a8d1350d68f8e2267cdf1cf98d95389ef24ebc7e451008f72eab51dbb24b"), looks := true }, kinds := [], alts := [], laidByText := true, laidKinds := [.data, .data, .data], laidTests := true, laidLooks := .later }
def CtfComparesUptoCardSaid : Prop := Claim7.holds Tryd.pinned (.plain (OpenSpec.upto ctfComparesSpec)) ctfComparesUptoCard

/-- THE SECOND FORM's CARD OF 'taplinelaw08.CtfMerged'. -/
def ctfMergedUptoCard : Claim7 := { stood := { row := ctfMergedUptoRow, standIns := [], harness := (true, "dee0a8d1350d68f8e2267cdf1cf98d95389ef24ebc7e451008f72eab51dbb24b"), looks := true }, kinds := [], alts := [], laidByText := true, laidKinds := [.data, .data, .data], laidTests := true, laidLooks := .later }
def CtfMergedUptoCardSaid : Prop := Claim7.holds Tryd.pinned (.plain (OpenSpec.upto ctfMergedSpec)) ctfMergedUptoCard

/-- THE SECOND FORM's CARD OF 'taplinelaw08.CtfOrder'. -/
def ctfOrderUptoCard : Claim7 := { stood := { row := ctfOrderUptoRow, standIns := [], harness := (true, "dee0a8d1350d68f8e2267cdf1cf98d95389ef24ebc7e451008f72eab51dbb24b"), looks := true }, kinds := [], alts := [], laidByText := true, laidKinds := [.data, .data, .data], laidTests := true, laidLooks := .later }
def CtfOrderUptoCardSaid : Prop := Claim7.holds Tryd.pinned (.plain (OpenSpec.upto ctfOrderSpec)) ctfOrderUptoCard

/-- THE SECOND FORM's CARD OF 'taplinelaw08.CtfBytes'. -/
def ctfBytesUptoCard : Claim7 := { stood := { row := ctfBytesUptoRow, standIns := [], harness := (true, "dee0a8d1350d68f8e2267cdf1cf98d95389ef24ebc7e451008f72eab51dbb24b"), looks := true }, kinds := [], alts := [], laidByText := true, laidKinds := [.data, .data, .data], laidTests := true, laidLooks := .later }
def CtfBytesUptoCardSaid : Prop := Claim7.holds Tryd.pinned (.plain (OpenSpec.upto ctfBytesSpec)) ctfBytesUptoCard

/-- THE SECOND FORM's CARD OF 'taplinelaw08.CtfBack'. -/
def ctfBackUptoCard : Claim7 := { stood := { row := ctfBackUptoRow, standIns := [], harness := (true, "dee0a8d1350d68f8e2267cdf1cf98d95389ef24ebc7e451008f72eab51dbb24b"), looks := true }, kinds := [], alts := [], laidByText := true, laidKinds := [.data, .data, .data], laidTests := true, laidLooks := .later }
def CtfBackUptoCardSaid : Prop := Claim7.holds Tryd.pinned (.plain (OpenSpec.upto ctfBackSpec)) ctfBackUptoCard

/-- THE SECOND FORM's CARD OF 'taplinelaw08.CtfTrims'. -/
def ctfTrimsUptoCard : Claim7 := { stood := { row := ctfTrimsUptoRow, standIns := [], harness := (true, "dee0a8d1350d68f8e2267cdf1cf98d95389ef24ebc7e451008f72eab51dbb24b"), looks := true }, kinds := [], alts := [], laidByText := true, laidKinds := [.data, .data, .data], laidTests := true, laidLooks := .later }
def CtfTrimsUptoCardSaid : Prop := Claim7.holds Tryd.pinned (.plain (OpenSpec.upto ctfTrimsSpec)) ctfTrimsUptoCard
end Rows
end Go.Proofs.YtfjppgobidjndaaDoor
