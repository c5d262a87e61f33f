/-
  DERIVED. GIVEN WITH THE SEED: THE CARDS: each row of YtnokhmkkpcfilaaGreatDoorRows.lean that lists a variable, with what it lists TIED to the program's text (the seventh form; the later family's looks); each row that meets fmt, with fmt's text TOLD by the authors' own Lean function (tested against real Go, not proved from fmt's source: count such statements apart). THE CARD IS WHAT COUNTS. Prove the row's statement (the work); the ties are given (YtnokhmkkpcfilaaGreatDoorTie.lean); close each card by the builder's one call (the guide's Derived/Test/ToyasCard.lean, 'card_holds'). Laid BY PROGRAM, IN A SANDBOX (cutbox-door.mjs). By AI agents, Wed Nov 11 2026. No macro, syntax, notation, axiom, sorry.
-/
import Derived.Test.YtnokhmkkpcfilaaGreatDoorRows
import GoSem.ClaimSeven
namespace Go.Proofs.YtnokhmkkpcfilaaGreatDoor
namespace Rows

/-- THE TIED CARD OF 'rentierlaw13.FlowSum'. -/
def flowSumCard : Claim7 := { stood := { row := flowSumRow, standIns := [], harness := (true, "67bb9292fb71a8f45838d037b249b2056968497e6fe10d1201e42ba4010efb5e"), looks := true }, kinds := [], alts := [], laidByText := true, laidKinds := [.data, .data, .data, .data, .handle, .sentinel, .sentinel, .pinned], laidTests := true, laidLooks := .later }
def FlowSumCardSaid : Prop := Claim7.holds Tryz.pinned (.plain (OpenSpec.ofChange flowSumSpec)) flowSumCard

/-- THE TIED CARD OF 'rentierlaw13.FlowParts'. -/
def flowPartsCard : Claim7 := { stood := { row := flowPartsRow, standIns := [], harness := (true, "67bb9292fb71a8f45838d037b249b2056968497e6fe10d1201e42ba4010efb5e"), looks := true }, kinds := [], alts := [], laidByText := true, laidKinds := [.data, .data, .data, .data, .handle, .sentinel, .sentinel, .pinned], laidTests := true, laidLooks := .later }
def FlowPartsCardSaid : Prop := Claim7.holds Tryz.pinned (.plain (OpenSpec.ofChange flowPartsSpec)) flowPartsCard

/-- THE TIED CARD OF 'rentierlaw13.FlowEx'. -/
def flowExCard : Claim7 := { stood := { row := flowExRow, standIns := [], harness := (true, "67bb9292fb71a8f45838d037b249b2056968497e6fe10d1201e42ba4010efb5e"), looks := true }, kinds := [], alts := [], laidByText := true, laidKinds := [.data, .data, .data, .data, .handle, .sentinel, .sentinel, .pinned], laidTests := true, laidLooks := .later }
def FlowExCardSaid : Prop := Claim7.holds Tryz.pinned (.plain (OpenSpec.ofChange flowExSpec)) flowExCard

/-- THE TIED CARD OF 'rentierlaw13.AccrWhole'. -/
def accrWholeCard : Claim7 := { stood := { row := accrWholeRow, standIns := [], harness := (true, "67bb9292fb71a8f45838d037b249b2056968497e6fe10d1201e42ba4010efb5e"), looks := true }, kinds := [], alts := [], laidByText := true, laidKinds := [.data, .data, .data, .data, .handle, .sentinel, .sentinel, .pinned], laidTests := true, laidLooks := .later }
def AccrWholeCardSaid : Prop := Claim7.holds Tryz.pinned (.plain (OpenSpec.ofChange accrWholeSpec)) accrWholeCard

/-- THE TIED CARD OF 'rentierlaw13.PriceZero'. -/
def priceZeroCard : Claim7 := { stood := { row := priceZeroRow, standIns := [], harness := (true, "67bb9292fb71a8f45838d037b249b2056968497e6fe10d1201e42ba4010efb5e"), looks := true }, kinds := [], alts := [], laidByText := true, laidKinds := [.data, .data, .data, .data, .handle, .sentinel, .sentinel, .pinned], laidTests := true, laidLooks := .later }
def PriceZeroCardSaid : Prop := Claim7.holds Tryz.pinned (.plain (OpenSpec.ofChange priceZeroSpec)) priceZeroCard

/-- THE SECOND FORM's CARD OF 'rentierlaw13.FlowSum'. -/
def flowSumUptoCard : Claim7 := { stood := { row := flowSumUptoRow, standIns := [], harness := (true, "67bb9292fb71a8f45838d037b249b2056968497e6fe10d1201e42ba4010efb5e"), looks := true }, kinds := [], alts := [], laidByText := true, laidKinds := [.data, .data, .data, .data, .handle, .sentinel, .sentinel, .pinned], laidTests := true, laidLooks := .later }
def FlowSumUptoCardSaid : Prop := Claim7.holds Tryz.pinned (.plain (OpenSpec.upto flowSumSpec)) flowSumUptoCard

/-- THE SECOND FORM's CARD OF 'rentierlaw13.FlowParts'. -/
def flowPartsUptoCard : Claim7 := { stood := { row := flowPartsUptoRow, standIns := [], harness := (true, "67bb9292fb71a8f45838d037b249b2056968497e6fe10d1201e42ba4010efb5e"), looks := true }, kinds := [], alts := [], laidByText := true, laidKinds := [.data, .data, .data, .data, .handle, .sentinel, .sentinel, .pinned], laidTests := true, laidLooks := .later }
def FlowPartsUptoCardSaid : Prop := Claim7.holds Tryz.pinned (.plain (OpenSpec.upto flowPartsSpec)) flowPartsUptoCard

/-- THE SECOND FORM's CARD OF 'rentierlaw13.FlowEx'. -/
def flowExUptoCard : Claim7 := { stood := { row := flowExUptoRow, standIns := [], harness := (true, "67bb9292fb71a8f45838d037b249b2056968497e6fe10d1201e42ba4010efb5e"), looks := true }, kinds := [], alts := [], laidByText := true, laidKinds := [.data, .data, .data, .data, .handle, .sentinel, .sentinel, .pinned], laidTests := true, laidLooks := .later }
def FlowExUptoCardSaid : Prop := Claim7.holds Tryz.pinned (.plain (OpenSpec.upto flowExSpec)) flowExUptoCard

/-- THE SECOND FORM's CARD OF 'rentierlaw13.AccrWhole'. -/
def accrWholeUptoCard : Claim7 := { stood := { row := accrWholeUptoRow, standIns := [], harness := (true, "67bb9292fb71a8f45838d037b249b2056968497e6fe10d1201e42ba4010efb5e"), looks := true }, kinds := [], alts := [], laidByText := true, laidKinds := [.data, .data, .data, .data, .handle, .sentinel, .sentinel, .pinned], laidTests := true, laidLooks := .later }
def AccrWholeUptoCardSaid : Prop := Claim7.holds Tryz.pinned (.plain (OpenSpec.upto accrWholeSpec)) accrWholeUptoCard

/-- THE SECOND FORM's CARD OF 'rentierlaw13.PriceZero'. -/
def priceZeroUptoCard : Claim7 := { stood := { row := priceZeroUptoRow, standIns := [], harness := (true, "67bb9292fb71a8f45838d037b249b2056968497e6fe10d1201e42ba4010efb5e"), looks := true }, kinds := [], alts := [], laidByText := true, laidKinds := [.data, .data, .data, .data, .handle, .sentinel, .sentinel, .pinned], laidTests := true, laidLooks := .later }
def PriceZeroUptoCardSaid : Prop := Claim7.holds Tryz.pinned (.plain (OpenSpec.upto priceZeroSpec)) priceZeroUptoCard
end Rows
end Go.Proofs.YtnokhmkkpcfilaaGreatDoor
