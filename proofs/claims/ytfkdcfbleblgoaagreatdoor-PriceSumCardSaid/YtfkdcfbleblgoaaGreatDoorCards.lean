/-
  DERIVED. GIVEN WITH THE SEED: THE CARDS: each row of YtfkdcfbleblgoaaGreatDoorRows.lean that lists a variable, with what it lists TIED to the program's text (the seventh form; the later family's looks); each row that meets fmt, with fmt's text TOLD by the authors' own Lean function (tested against real Go, not proved from fmt's source: count such statements apart). THE CARD IS WHAT COUNTS. Prove the row's statement (the work); the ties are given (YtfkdcfbleblgoaaGreatDoorTie.lean); close each card by the builder's one call (the guide's Derived/Test/ToyasCard.lean, 'card_holds'). Laid BY PROGRAM, IN A SANDBOX (cutbox-door.mjs). By AI agents, Wed Nov 11 2026. No macro, syntax, notation, axiom, sorry.
-/
import Derived.Test.YtfkdcfbleblgoaaGreatDoorRows
import GoSem.ClaimSeven
namespace Go.Proofs.YtfkdcfbleblgoaaGreatDoor
namespace Rows

/-- THE TIED CARD OF 'rentierlaw13.FlowAll'. -/
def flowAllCard : Claim7 := { stood := { row := flowAllRow, standIns := [], harness := (true, "a8866ff8c51985be897c43f0f967c7b8e3bd657df3e247b01b147b5088690fab"), looks := true }, kinds := [], alts := [], laidByText := true, laidKinds := [.data, .data, .data, .data, .handle, .sentinel, .sentinel, .pinned], laidTests := true, laidLooks := .later }
def FlowAllCardSaid : Prop := Claim7.holds Tryz.pinned (.plain (OpenSpec.ofChange flowAllSpec)) flowAllCard

/-- THE TIED CARD OF 'rentierlaw13.YieldAll'. -/
def yieldAllCard : Claim7 := { stood := { row := yieldAllRow, standIns := [], harness := (true, "a8866ff8c51985be897c43f0f967c7b8e3bd657df3e247b01b147b5088690fab"), looks := true }, kinds := [], alts := [], laidByText := true, laidKinds := [.data, .data, .data, .data, .handle, .sentinel, .sentinel, .pinned], laidTests := true, laidLooks := .later }
def YieldAllCardSaid : Prop := Claim7.holds Tryz.pinned (.plain (OpenSpec.ofChange yieldAllSpec)) yieldAllCard

/-- THE TIED CARD OF 'rentierlaw13.PriceSum'. -/
def priceSumCard : Claim7 := { stood := { row := priceSumRow, standIns := [], harness := (true, "a8866ff8c51985be897c43f0f967c7b8e3bd657df3e247b01b147b5088690fab"), looks := true }, kinds := [], alts := [], laidByText := true, laidKinds := [.data, .data, .data, .data, .handle, .sentinel, .sentinel, .pinned], laidTests := true, laidLooks := .later }
def PriceSumCardSaid : Prop := Claim7.holds Tryz.pinned (.plain (OpenSpec.ofChange priceSumSpec)) priceSumCard

/-- THE TIED CARD OF 'rentierlaw13.AccrAll'. -/
def accrAllCard : Claim7 := { stood := { row := accrAllRow, standIns := [], harness := (true, "a8866ff8c51985be897c43f0f967c7b8e3bd657df3e247b01b147b5088690fab"), looks := true }, kinds := [], alts := [], laidByText := true, laidKinds := [.data, .data, .data, .data, .handle, .sentinel, .sentinel, .pinned], laidTests := true, laidLooks := .later }
def AccrAllCardSaid : Prop := Claim7.holds Tryz.pinned (.plain (OpenSpec.ofChange accrAllSpec)) accrAllCard

/-- THE TIED CARD OF 'rentierlaw13.PriceAll'. -/
def priceAllCard : Claim7 := { stood := { row := priceAllRow, standIns := [], harness := (true, "a8866ff8c51985be897c43f0f967c7b8e3bd657df3e247b01b147b5088690fab"), looks := true }, kinds := [], alts := [], laidByText := true, laidKinds := [.data, .data, .data, .data, .handle, .sentinel, .sentinel, .pinned], laidTests := true, laidLooks := .later }
def PriceAllCardSaid : Prop := Claim7.holds Tryz.pinned (.plain (OpenSpec.ofChange priceAllSpec)) priceAllCard

/-- THE SECOND FORM's CARD OF 'rentierlaw13.FlowAll'. -/
def flowAllUptoCard : Claim7 := { stood := { row := flowAllUptoRow, standIns := [], harness := (true, "a8866ff8c51985be897c43f0f967c7b8e3bd657df3e247b01b147b5088690fab"), looks := true }, kinds := [], alts := [], laidByText := true, laidKinds := [.data, .data, .data, .data, .handle, .sentinel, .sentinel, .pinned], laidTests := true, laidLooks := .later }
def FlowAllUptoCardSaid : Prop := Claim7.holds Tryz.pinned (.plain (OpenSpec.upto flowAllSpec)) flowAllUptoCard

/-- THE SECOND FORM's CARD OF 'rentierlaw13.YieldAll'. -/
def yieldAllUptoCard : Claim7 := { stood := { row := yieldAllUptoRow, standIns := [], harness := (true, "a8866ff8c51985be897c43f0f967c7b8e3bd657df3e247b01b147b5088690fab"), looks := true }, kinds := [], alts := [], laidByText := true, laidKinds := [.data, .data, .data, .data, .handle, .sentinel, .sentinel, .pinned], laidTests := true, laidLooks := .later }
def YieldAllUptoCardSaid : Prop := Claim7.holds Tryz.pinned (.plain (OpenSpec.upto yieldAllSpec)) yieldAllUptoCard

/-- THE SECOND FORM's CARD OF 'rentierlaw13.PriceSum'. -/
def priceSumUptoCard : Claim7 := { stood := { row := priceSumUptoRow, standIns := [], harness := (true, "a8866ff8c51985be897c43f0f967c7b8e3bd657df3e247b01b147b5088690fab"), looks := true }, kinds := [], alts := [], laidByText := true, laidKinds := [.data, .data, .data, .data, .handle, .sentinel, .sentinel, .pinned], laidTests := true, laidLooks := .later }
def PriceSumUptoCardSaid : Prop := Claim7.holds Tryz.pinned (.plain (OpenSpec.upto priceSumSpec)) priceSumUptoCard

/-- THE SECOND FORM's CARD OF 'rentierlaw13.AccrAll'. -/
def accrAllUptoCard : Claim7 := { stood := { row := accrAllUptoRow, standIns := [], harness := (true, "a8866ff8c51985be897c43f0f967c7b8e3bd657df3e247b01b147b5088690fab"), looks := true }, kinds := [], alts := [], laidByText := true, laidKinds := [.data, .data, .data, .data, .handle, .sentinel, .sentinel, .pinned], laidTests := true, laidLooks := .later }
def AccrAllUptoCardSaid : Prop := Claim7.holds Tryz.pinned (.plain (OpenSpec.upto accrAllSpec)) accrAllUptoCard

/-- THE SECOND FORM's CARD OF 'rentierlaw13.PriceAll'. -/
def priceAllUptoCard : Claim7 := { stood := { row := priceAllUptoRow, standIns := [], harness := (true, "a8866ff8c51985be897c43f0f967c7b8e3bd657df3e247b01b147b5088690fab"), looks := true }, kinds := [], alts := [], laidByText := true, laidKinds := [.data, .data, .data, .data, .handle, .sentinel, .sentinel, .pinned], laidTests := true, laidLooks := .later }
def PriceAllUptoCardSaid : Prop := Claim7.holds Tryz.pinned (.plain (OpenSpec.upto priceAllSpec)) priceAllUptoCard
end Rows
end Go.Proofs.YtfkdcfbleblgoaaGreatDoor
