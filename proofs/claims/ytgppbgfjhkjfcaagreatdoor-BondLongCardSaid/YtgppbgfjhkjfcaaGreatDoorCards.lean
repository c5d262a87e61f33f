/-
  DERIVED. GIVEN WITH THE SEED: THE CARDS: each row of YtgppbgfjhkjfcaaGreatDoorRows.lean that lists a variable, with what it lists TIED to the program's text (the seventh form; the later family's looks); each row that meets fmt, with fmt's text TOLD by the authors' own Lean function (tested against real Go, not proved from fmt's source: count such statements apart). THE CARD IS WHAT COUNTS. Prove the row's statement (the work); the ties are given (YtgppbgfjhkjfcaaGreatDoorTie.lean); close each card by the builder's one call (the guide's Derived/Test/ToyasCard.lean, 'card_holds'). Laid BY PROGRAM, IN A SANDBOX (cutbox-door.mjs). By AI agents, Wed Nov 11 2026. No macro, syntax, notation, axiom, sorry.
-/
import Derived.Test.YtgppbgfjhkjfcaaGreatDoorRows
import GoSem.ClaimSeven
namespace Go.Proofs.YtgppbgfjhkjfcaaGreatDoor
namespace Rows

/-- THE TIED CARD OF 'rentierlaw13.PlanStub'. -/
def planStubCard : Claim7 := { stood := { row := planStubRow, standIns := [], harness := (true, "49807ade49cae347ad1d41ed5e375a94319032e46dfbfde7206e38657e6c5e62"), looks := true }, kinds := [], alts := [], laidByText := true, laidKinds := [.data, .data, .data, .data, .handle, .sentinel, .sentinel, .pinned], laidTests := true, laidLooks := .later }
def PlanStubCardSaid : Prop := Claim7.holds Tryz.pinned (.plain (OpenSpec.ofChange planStubSpec)) planStubCard

/-- THE TIED CARD OF 'rentierlaw13.PlanEnd'. -/
def planEndCard : Claim7 := { stood := { row := planEndRow, standIns := [], harness := (true, "49807ade49cae347ad1d41ed5e375a94319032e46dfbfde7206e38657e6c5e62"), looks := true }, kinds := [], alts := [], laidByText := true, laidKinds := [.data, .data, .data, .data, .handle, .sentinel, .sentinel, .pinned], laidTests := true, laidLooks := .later }
def PlanEndCardSaid : Prop := Claim7.holds Tryz.pinned (.plain (OpenSpec.ofChange planEndSpec)) planEndCard

/-- THE TIED CARD OF 'rentierlaw13.PlanLone'. -/
def planLoneCard : Claim7 := { stood := { row := planLoneRow, standIns := [], harness := (true, "49807ade49cae347ad1d41ed5e375a94319032e46dfbfde7206e38657e6c5e62"), looks := true }, kinds := [], alts := [], laidByText := true, laidKinds := [.data, .data, .data, .data, .handle, .sentinel, .sentinel, .pinned], laidTests := true, laidLooks := .later }
def PlanLoneCardSaid : Prop := Claim7.holds Tryz.pinned (.plain (OpenSpec.ofChange planLoneSpec)) planLoneCard

/-- THE TIED CARD OF 'rentierlaw13.BondLong'. -/
def bondLongCard : Claim7 := { stood := { row := bondLongRow, standIns := [], harness := (true, "49807ade49cae347ad1d41ed5e375a94319032e46dfbfde7206e38657e6c5e62"), looks := true }, kinds := [], alts := [], laidByText := true, laidKinds := [.data, .data, .data, .data, .handle, .sentinel, .sentinel, .pinned], laidTests := true, laidLooks := .later }
def BondLongCardSaid : Prop := Claim7.holds Tryz.pinned (.plain (OpenSpec.ofChange bondLongSpec)) bondLongCard

/-- THE SECOND FORM's CARD OF 'rentierlaw13.PlanStub'. -/
def planStubUptoCard : Claim7 := { stood := { row := planStubUptoRow, standIns := [], harness := (true, "49807ade49cae347ad1d41ed5e375a94319032e46dfbfde7206e38657e6c5e62"), looks := true }, kinds := [], alts := [], laidByText := true, laidKinds := [.data, .data, .data, .data, .handle, .sentinel, .sentinel, .pinned], laidTests := true, laidLooks := .later }
def PlanStubUptoCardSaid : Prop := Claim7.holds Tryz.pinned (.plain (OpenSpec.upto planStubSpec)) planStubUptoCard

/-- THE SECOND FORM's CARD OF 'rentierlaw13.PlanEnd'. -/
def planEndUptoCard : Claim7 := { stood := { row := planEndUptoRow, standIns := [], harness := (true, "49807ade49cae347ad1d41ed5e375a94319032e46dfbfde7206e38657e6c5e62"), looks := true }, kinds := [], alts := [], laidByText := true, laidKinds := [.data, .data, .data, .data, .handle, .sentinel, .sentinel, .pinned], laidTests := true, laidLooks := .later }
def PlanEndUptoCardSaid : Prop := Claim7.holds Tryz.pinned (.plain (OpenSpec.upto planEndSpec)) planEndUptoCard

/-- THE SECOND FORM's CARD OF 'rentierlaw13.PlanLone'. -/
def planLoneUptoCard : Claim7 := { stood := { row := planLoneUptoRow, standIns := [], harness := (true, "49807ade49cae347ad1d41ed5e375a94319032e46dfbfde7206e38657e6c5e62"), looks := true }, kinds := [], alts := [], laidByText := true, laidKinds := [.data, .data, .data, .data, .handle, .sentinel, .sentinel, .pinned], laidTests := true, laidLooks := .later }
def PlanLoneUptoCardSaid : Prop := Claim7.holds Tryz.pinned (.plain (OpenSpec.upto planLoneSpec)) planLoneUptoCard

/-- THE SECOND FORM's CARD OF 'rentierlaw13.BondLong'. -/
def bondLongUptoCard : Claim7 := { stood := { row := bondLongUptoRow, standIns := [], harness := (true, "49807ade49cae347ad1d41ed5e375a94319032e46dfbfde7206e38657e6c5e62"), looks := true }, kinds := [], alts := [], laidByText := true, laidKinds := [.data, .data, .data, .data, .handle, .sentinel, .sentinel, .pinned], laidTests := true, laidLooks := .later }
def BondLongUptoCardSaid : Prop := Claim7.holds Tryz.pinned (.plain (OpenSpec.upto bondLongSpec)) bondLongUptoCard
end Rows
end Go.Proofs.YtgppbgfjhkjfcaaGreatDoor
