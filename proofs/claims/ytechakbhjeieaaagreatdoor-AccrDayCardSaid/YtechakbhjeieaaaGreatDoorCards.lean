/-
  DERIVED. GIVEN WITH THE SEED: THE CARDS: each row of YtechakbhjeieaaaGreatDoorRows.lean that lists a variable, with what it lists TIED to the program's text (the seventh form; the later family's looks); each row that meets fmt, with fmt's text TOLD by the authors' own Lean function (tested against real Go, not proved from fmt's source: count such statements apart). THE CARD IS WHAT COUNTS. Prove the row's statement (the work); the ties are given (YtechakbhjeieaaaGreatDoorTie.lean); close each card by the builder's one call (the guide's Derived/Test/ToyasCard.lean, 'card_holds'). Laid BY PROGRAM, IN A SANDBOX (cutbox-door.mjs). By AI agents, Wed Nov 11 2026. No macro, syntax, notation, axiom, sorry.
-/
import Derived.Test.YtechakbhjeieaaaGreatDoorRows
import GoSem.ClaimSeven
namespace Go.Proofs.YtechakbhjeieaaaGreatDoor
namespace Rows

/-- THE TIED CARD OF 'rentierlaw13.AccrDay'. -/
def accrDayCard : Claim7 := { stood := { row := accrDayRow, standIns := [], harness := (true, "dd2a817d090f1163bcdceb65f885d023e05ffca849dd1344f842187b31b48bbd"), looks := true }, kinds := [], alts := [], laidByText := true, laidKinds := [.data, .data, .data, .data, .handle, .sentinel, .sentinel, .pinned], laidTests := true, laidLooks := .later }
def AccrDayCardSaid : Prop := Claim7.holds Tryz.pinned (.plain (OpenSpec.ofChange accrDaySpec)) accrDayCard

/-- THE TIED CARD OF 'rentierlaw13.PriceWait'. -/
def priceWaitCard : Claim7 := { stood := { row := priceWaitRow, standIns := [], harness := (true, "dd2a817d090f1163bcdceb65f885d023e05ffca849dd1344f842187b31b48bbd"), looks := true }, kinds := [], alts := [], laidByText := true, laidKinds := [.data, .data, .data, .data, .handle, .sentinel, .sentinel, .pinned], laidTests := true, laidLooks := .later }
def PriceWaitCardSaid : Prop := Claim7.holds Tryz.pinned (.plain (OpenSpec.ofChange priceWaitSpec)) priceWaitCard

/-- THE SECOND FORM's CARD OF 'rentierlaw13.AccrDay'. -/
def accrDayUptoCard : Claim7 := { stood := { row := accrDayUptoRow, standIns := [], harness := (true, "dd2a817d090f1163bcdceb65f885d023e05ffca849dd1344f842187b31b48bbd"), looks := true }, kinds := [], alts := [], laidByText := true, laidKinds := [.data, .data, .data, .data, .handle, .sentinel, .sentinel, .pinned], laidTests := true, laidLooks := .later }
def AccrDayUptoCardSaid : Prop := Claim7.holds Tryz.pinned (.plain (OpenSpec.upto accrDaySpec)) accrDayUptoCard

/-- THE SECOND FORM's CARD OF 'rentierlaw13.PriceWait'. -/
def priceWaitUptoCard : Claim7 := { stood := { row := priceWaitUptoRow, standIns := [], harness := (true, "dd2a817d090f1163bcdceb65f885d023e05ffca849dd1344f842187b31b48bbd"), looks := true }, kinds := [], alts := [], laidByText := true, laidKinds := [.data, .data, .data, .data, .handle, .sentinel, .sentinel, .pinned], laidTests := true, laidLooks := .later }
def PriceWaitUptoCardSaid : Prop := Claim7.holds Tryz.pinned (.plain (OpenSpec.upto priceWaitSpec)) priceWaitUptoCard
end Rows
end Go.Proofs.YtechakbhjeieaaaGreatDoor
