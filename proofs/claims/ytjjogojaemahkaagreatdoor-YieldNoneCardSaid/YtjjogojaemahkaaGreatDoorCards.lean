/-
  DERIVED. GIVEN WITH THE SEED: THE CARDS: each row of YtjjogojaemahkaaGreatDoorRows.lean that lists a variable, with what it lists TIED to the program's text (the seventh form; the later family's looks); each row that meets fmt, with fmt's text TOLD by the authors' own Lean function (tested against real Go, not proved from fmt's source: count such statements apart). THE CARD IS WHAT COUNTS. Prove the row's statement (the work); the ties are given (YtjjogojaemahkaaGreatDoorTie.lean); close each card by the builder's one call (the guide's Derived/Test/ToyasCard.lean, 'card_holds'). Laid BY PROGRAM, IN A SANDBOX (cutbox-door.mjs). By AI agents, Wed Nov 11 2026. No macro, syntax, notation, axiom, sorry.
-/
import Derived.Test.YtjjogojaemahkaaGreatDoorRows
import GoSem.ClaimSeven
namespace Go.Proofs.YtjjogojaemahkaaGreatDoor
namespace Rows

/-- THE TIED CARD OF 'rentierlaw13.YieldNone'. -/
def yieldNoneCard : Claim7 := { stood := { row := yieldNoneRow, standIns := [], harness := (true, "a65f9ddacb6fc6b06c2ab56724fe91fd4f0eacf2a16ba7f7d58c36f7cb3d5643"), looks := true }, kinds := [], alts := [], laidByText := true, laidKinds := [.data, .data, .data, .data, .handle, .sentinel, .sentinel, .pinned], laidTests := true, laidLooks := .later }
def YieldNoneCardSaid : Prop := Claim7.holds Tryz.pinned (.plain (OpenSpec.ofChange yieldNoneSpec)) yieldNoneCard

/-- THE TIED CARD OF 'rentierlaw13.FlowSum'. -/
def flowSumCard : Claim7 := { stood := { row := flowSumRow, standIns := [], harness := (true, "a65f9ddacb6fc6b06c2ab56724fe91fd4f0eacf2a16ba7f7d58c36f7cb3d5643"), looks := true }, kinds := [], alts := [], laidByText := true, laidKinds := [.data, .data, .data, .data, .handle, .sentinel, .sentinel, .pinned], laidTests := true, laidLooks := .later }
def FlowSumCardSaid : Prop := Claim7.holds Tryz.pinned (.plain (OpenSpec.ofChange flowSumSpec)) flowSumCard

/-- THE TIED CARD OF 'rentierlaw13.BondLong'. -/
def bondLongCard : Claim7 := { stood := { row := bondLongRow, standIns := [], harness := (true, "a65f9ddacb6fc6b06c2ab56724fe91fd4f0eacf2a16ba7f7d58c36f7cb3d5643"), looks := true }, kinds := [], alts := [], laidByText := true, laidKinds := [.data, .data, .data, .data, .handle, .sentinel, .sentinel, .pinned], laidTests := true, laidLooks := .later }
def BondLongCardSaid : Prop := Claim7.holds Tryz.pinned (.plain (OpenSpec.ofChange bondLongSpec)) bondLongCard

/-- THE TIED CARD OF 'rentierlaw13.PlanEnd'. -/
def planEndCard : Claim7 := { stood := { row := planEndRow, standIns := [], harness := (true, "a65f9ddacb6fc6b06c2ab56724fe91fd4f0eacf2a16ba7f7d58c36f7cb3d5643"), looks := true }, kinds := [], alts := [], laidByText := true, laidKinds := [.data, .data, .data, .data, .handle, .sentinel, .sentinel, .pinned], laidTests := true, laidLooks := .later }
def PlanEndCardSaid : Prop := Claim7.holds Tryz.pinned (.plain (OpenSpec.ofChange planEndSpec)) planEndCard

/-- THE TIED CARD OF 'rentierlaw13.PlanStub'. -/
def planStubCard : Claim7 := { stood := { row := planStubRow, standIns := [], harness := (true, "a65f9ddacb6fc6b06c2ab56724fe91fd4f0eacf2a16ba7f7d58c36f7cb3d5643"), looks := true }, kinds := [], alts := [], laidByText := true, laidKinds := [.data, .data, .data, .data, .handle, .sentinel, .sentinel, .pinned], laidTests := true, laidLooks := .later }
def PlanStubCardSaid : Prop := Claim7.holds Tryz.pinned (.plain (OpenSpec.ofChange planStubSpec)) planStubCard

/-- THE TIED CARD OF 'rentierlaw13.PlanLone'. -/
def planLoneCard : Claim7 := { stood := { row := planLoneRow, standIns := [], harness := (true, "a65f9ddacb6fc6b06c2ab56724fe91fd4f0eacf2a16ba7f7d58c36f7cb3d5643"), looks := true }, kinds := [], alts := [], laidByText := true, laidKinds := [.data, .data, .data, .data, .handle, .sentinel, .sentinel, .pinned], laidTests := true, laidLooks := .later }
def PlanLoneCardSaid : Prop := Claim7.holds Tryz.pinned (.plain (OpenSpec.ofChange planLoneSpec)) planLoneCard

/-- THE TIED CARD OF 'rentierlaw13.FlowParts'. -/
def flowPartsCard : Claim7 := { stood := { row := flowPartsRow, standIns := [], harness := (true, "a65f9ddacb6fc6b06c2ab56724fe91fd4f0eacf2a16ba7f7d58c36f7cb3d5643"), looks := true }, kinds := [], alts := [], laidByText := true, laidKinds := [.data, .data, .data, .data, .handle, .sentinel, .sentinel, .pinned], laidTests := true, laidLooks := .later }
def FlowPartsCardSaid : Prop := Claim7.holds Tryz.pinned (.plain (OpenSpec.ofChange flowPartsSpec)) flowPartsCard

/-- THE TIED CARD OF 'rentierlaw13.AccrWhole'. -/
def accrWholeCard : Claim7 := { stood := { row := accrWholeRow, standIns := [], harness := (true, "a65f9ddacb6fc6b06c2ab56724fe91fd4f0eacf2a16ba7f7d58c36f7cb3d5643"), looks := true }, kinds := [], alts := [], laidByText := true, laidKinds := [.data, .data, .data, .data, .handle, .sentinel, .sentinel, .pinned], laidTests := true, laidLooks := .later }
def AccrWholeCardSaid : Prop := Claim7.holds Tryz.pinned (.plain (OpenSpec.ofChange accrWholeSpec)) accrWholeCard

/-- THE TIED CARD OF 'rentierlaw13.FlowEx'. -/
def flowExCard : Claim7 := { stood := { row := flowExRow, standIns := [], harness := (true, "a65f9ddacb6fc6b06c2ab56724fe91fd4f0eacf2a16ba7f7d58c36f7cb3d5643"), looks := true }, kinds := [], alts := [], laidByText := true, laidKinds := [.data, .data, .data, .data, .handle, .sentinel, .sentinel, .pinned], laidTests := true, laidLooks := .later }
def FlowExCardSaid : Prop := Claim7.holds Tryz.pinned (.plain (OpenSpec.ofChange flowExSpec)) flowExCard

/-- THE TIED CARD OF 'rentierlaw13.FlowAll'. -/
def flowAllCard : Claim7 := { stood := { row := flowAllRow, standIns := [], harness := (true, "a65f9ddacb6fc6b06c2ab56724fe91fd4f0eacf2a16ba7f7d58c36f7cb3d5643"), looks := true }, kinds := [], alts := [], laidByText := true, laidKinds := [.data, .data, .data, .data, .handle, .sentinel, .sentinel, .pinned], laidTests := true, laidLooks := .later }
def FlowAllCardSaid : Prop := Claim7.holds Tryz.pinned (.plain (OpenSpec.ofChange flowAllSpec)) flowAllCard

/-- THE TIED CARD OF 'rentierlaw13.AccrDay'. -/
def accrDayCard : Claim7 := { stood := { row := accrDayRow, standIns := [], harness := (true, "a65f9ddacb6fc6b06c2ab56724fe91fd4f0eacf2a16ba7f7d58c36f7cb3d5643"), looks := true }, kinds := [], alts := [], laidByText := true, laidKinds := [.data, .data, .data, .data, .handle, .sentinel, .sentinel, .pinned], laidTests := true, laidLooks := .later }
def AccrDayCardSaid : Prop := Claim7.holds Tryz.pinned (.plain (OpenSpec.ofChange accrDaySpec)) accrDayCard

/-- THE TIED CARD OF 'rentierlaw13.PriceZero'. -/
def priceZeroCard : Claim7 := { stood := { row := priceZeroRow, standIns := [], harness := (true, "a65f9ddacb6fc6b06c2ab56724fe91fd4f0eacf2a16ba7f7d58c36f7cb3d5643"), looks := true }, kinds := [], alts := [], laidByText := true, laidKinds := [.data, .data, .data, .data, .handle, .sentinel, .sentinel, .pinned], laidTests := true, laidLooks := .later }
def PriceZeroCardSaid : Prop := Claim7.holds Tryz.pinned (.plain (OpenSpec.ofChange priceZeroSpec)) priceZeroCard

/-- THE SECOND FORM's CARD OF 'rentierlaw13.YieldNone'. -/
def yieldNoneUptoCard : Claim7 := { stood := { row := yieldNoneUptoRow, standIns := [], harness := (true, "a65f9ddacb6fc6b06c2ab56724fe91fd4f0eacf2a16ba7f7d58c36f7cb3d5643"), looks := true }, kinds := [], alts := [], laidByText := true, laidKinds := [.data, .data, .data, .data, .handle, .sentinel, .sentinel, .pinned], laidTests := true, laidLooks := .later }
def YieldNoneUptoCardSaid : Prop := Claim7.holds Tryz.pinned (.plain (OpenSpec.upto yieldNoneSpec)) yieldNoneUptoCard

/-- THE SECOND FORM's CARD OF 'rentierlaw13.FlowSum'. -/
def flowSumUptoCard : Claim7 := { stood := { row := flowSumUptoRow, standIns := [], harness := (true, "a65f9ddacb6fc6b06c2ab56724fe91fd4f0eacf2a16ba7f7d58c36f7cb3d5643"), looks := true }, kinds := [], alts := [], laidByText := true, laidKinds := [.data, .data, .data, .data, .handle, .sentinel, .sentinel, .pinned], laidTests := true, laidLooks := .later }
def FlowSumUptoCardSaid : Prop := Claim7.holds Tryz.pinned (.plain (OpenSpec.upto flowSumSpec)) flowSumUptoCard

/-- THE SECOND FORM's CARD OF 'rentierlaw13.BondLong'. -/
def bondLongUptoCard : Claim7 := { stood := { row := bondLongUptoRow, standIns := [], harness := (true, "a65f9ddacb6fc6b06c2ab56724fe91fd4f0eacf2a16ba7f7d58c36f7cb3d5643"), looks := true }, kinds := [], alts := [], laidByText := true, laidKinds := [.data, .data, .data, .data, .handle, .sentinel, .sentinel, .pinned], laidTests := true, laidLooks := .later }
def BondLongUptoCardSaid : Prop := Claim7.holds Tryz.pinned (.plain (OpenSpec.upto bondLongSpec)) bondLongUptoCard

/-- THE SECOND FORM's CARD OF 'rentierlaw13.PlanEnd'. -/
def planEndUptoCard : Claim7 := { stood := { row := planEndUptoRow, standIns := [], harness := (true, "a65f9ddacb6fc6b06c2ab56724fe91fd4f0eacf2a16ba7f7d58c36f7cb3d5643"), looks := true }, kinds := [], alts := [], laidByText := true, laidKinds := [.data, .data, .data, .data, .handle, .sentinel, .sentinel, .pinned], laidTests := true, laidLooks := .later }
def PlanEndUptoCardSaid : Prop := Claim7.holds Tryz.pinned (.plain (OpenSpec.upto planEndSpec)) planEndUptoCard

/-- THE SECOND FORM's CARD OF 'rentierlaw13.PlanStub'. -/
def planStubUptoCard : Claim7 := { stood := { row := planStubUptoRow, standIns := [], harness := (true, "a65f9ddacb6fc6b06c2ab56724fe91fd4f0eacf2a16ba7f7d58c36f7cb3d5643"), looks := true }, kinds := [], alts := [], laidByText := true, laidKinds := [.data, .data, .data, .data, .handle, .sentinel, .sentinel, .pinned], laidTests := true, laidLooks := .later }
def PlanStubUptoCardSaid : Prop := Claim7.holds Tryz.pinned (.plain (OpenSpec.upto planStubSpec)) planStubUptoCard

/-- THE SECOND FORM's CARD OF 'rentierlaw13.PlanLone'. -/
def planLoneUptoCard : Claim7 := { stood := { row := planLoneUptoRow, standIns := [], harness := (true, "a65f9ddacb6fc6b06c2ab56724fe91fd4f0eacf2a16ba7f7d58c36f7cb3d5643"), looks := true }, kinds := [], alts := [], laidByText := true, laidKinds := [.data, .data, .data, .data, .handle, .sentinel, .sentinel, .pinned], laidTests := true, laidLooks := .later }
def PlanLoneUptoCardSaid : Prop := Claim7.holds Tryz.pinned (.plain (OpenSpec.upto planLoneSpec)) planLoneUptoCard

/-- THE SECOND FORM's CARD OF 'rentierlaw13.FlowParts'. -/
def flowPartsUptoCard : Claim7 := { stood := { row := flowPartsUptoRow, standIns := [], harness := (true, "a65f9ddacb6fc6b06c2ab56724fe91fd4f0eacf2a16ba7f7d58c36f7cb3d5643"), looks := true }, kinds := [], alts := [], laidByText := true, laidKinds := [.data, .data, .data, .data, .handle, .sentinel, .sentinel, .pinned], laidTests := true, laidLooks := .later }
def FlowPartsUptoCardSaid : Prop := Claim7.holds Tryz.pinned (.plain (OpenSpec.upto flowPartsSpec)) flowPartsUptoCard

/-- THE SECOND FORM's CARD OF 'rentierlaw13.AccrWhole'. -/
def accrWholeUptoCard : Claim7 := { stood := { row := accrWholeUptoRow, standIns := [], harness := (true, "a65f9ddacb6fc6b06c2ab56724fe91fd4f0eacf2a16ba7f7d58c36f7cb3d5643"), looks := true }, kinds := [], alts := [], laidByText := true, laidKinds := [.data, .data, .data, .data, .handle, .sentinel, .sentinel, .pinned], laidTests := true, laidLooks := .later }
def AccrWholeUptoCardSaid : Prop := Claim7.holds Tryz.pinned (.plain (OpenSpec.upto accrWholeSpec)) accrWholeUptoCard

/-- THE SECOND FORM's CARD OF 'rentierlaw13.FlowEx'. -/
def flowExUptoCard : Claim7 := { stood := { row := flowExUptoRow, standIns := [], harness := (true, "a65f9ddacb6fc6b06c2ab56724fe91fd4f0eacf2a16ba7f7d58c36f7cb3d5643"), looks := true }, kinds := [], alts := [], laidByText := true, laidKinds := [.data, .data, .data, .data, .handle, .sentinel, .sentinel, .pinned], laidTests := true, laidLooks := .later }
def FlowExUptoCardSaid : Prop := Claim7.holds Tryz.pinned (.plain (OpenSpec.upto flowExSpec)) flowExUptoCard

/-- THE SECOND FORM's CARD OF 'rentierlaw13.FlowAll'. -/
def flowAllUptoCard : Claim7 := { stood := { row := flowAllUptoRow, standIns := [], harness := (true, "a65f9ddacb6fc6b06c2ab56724fe91fd4f0eacf2a16ba7f7d58c36f7cb3d5643"), looks := true }, kinds := [], alts := [], laidByText := true, laidKinds := [.data, .data, .data, .data, .handle, .sentinel, .sentinel, .pinned], laidTests := true, laidLooks := .later }
def FlowAllUptoCardSaid : Prop := Claim7.holds Tryz.pinned (.plain (OpenSpec.upto flowAllSpec)) flowAllUptoCard

/-- THE SECOND FORM's CARD OF 'rentierlaw13.AccrDay'. -/
def accrDayUptoCard : Claim7 := { stood := { row := accrDayUptoRow, standIns := [], harness := (true, "a65f9ddacb6fc6b06c2ab56724fe91fd4f0eacf2a16ba7f7d58c36f7cb3d5643"), looks := true }, kinds := [], alts := [], laidByText := true, laidKinds := [.data, .data, .data, .data, .handle, .sentinel, .sentinel, .pinned], laidTests := true, laidLooks := .later }
def AccrDayUptoCardSaid : Prop := Claim7.holds Tryz.pinned (.plain (OpenSpec.upto accrDaySpec)) accrDayUptoCard

/-- THE SECOND FORM's CARD OF 'rentierlaw13.PriceZero'. -/
def priceZeroUptoCard : Claim7 := { stood := { row := priceZeroUptoRow, standIns := [], harness := (true, "a65f9ddacb6fc6b06c2ab56724fe91fd4f0eacf2a16ba7f7d58c36f7cb3d5643"), looks := true }, kinds := [], alts := [], laidByText := true, laidKinds := [.data, .data, .data, .data, .handle, .sentinel, .sentinel, .pinned], laidTests := true, laidLooks := .later }
def PriceZeroUptoCardSaid : Prop := Claim7.holds Tryz.pinned (.plain (OpenSpec.upto priceZeroSpec)) priceZeroUptoCard
end Rows
end Go.Proofs.YtjjogojaemahkaaGreatDoor
