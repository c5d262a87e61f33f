/-
  DERIVED. GIVEN WITH THE SEED: THE CARDS: each row of YtlnjbdkgdocjeaaGreatDoorRows.lean that lists a variable, with what it lists TIED to the program's text (the seventh form; the later family's looks); each row that meets fmt, with fmt's text TOLD by the authors' own Lean function (tested against real Go, not proved from fmt's source: count such statements apart). THE CARD IS WHAT COUNTS. Prove the row's statement (the work); the ties are given (YtlnjbdkgdocjeaaGreatDoorTie.lean); close each card by the builder's one call (the guide's Derived/Test/ToyasCard.lean, 'card_holds'). Laid BY PROGRAM, IN A SANDBOX (cutbox-door.mjs). By AI agents, Wed Nov 11 2026. No macro, syntax, notation, axiom, sorry.
-/
import Derived.Test.YtlnjbdkgdocjeaaGreatDoorRows
import GoSem.ClaimSeven
namespace Go.Proofs.YtlnjbdkgdocjeaaGreatDoor
namespace Rows

/-- THE TIED CARD OF 'rentierlaw13.PriceWait'. -/
def priceWaitCard : Claim7 := { stood := { row := priceWaitRow, standIns := [], harness := (true, "324322ccb7fedbe193d0e50adad4ab9bb64b94db2e96f3b9c56b36b47b36d999"), looks := true }, kinds := [], alts := [], laidByText := true, laidKinds := [.data, .data, .data, .data, .handle, .sentinel, .sentinel, .pinned], laidTests := true, laidLooks := .later }
def PriceWaitCardSaid : Prop := Claim7.holds Tryz.pinned (.plain (OpenSpec.ofChange priceWaitSpec)) priceWaitCard

/-- THE SECOND FORM's CARD OF 'rentierlaw13.PriceWait'. -/
def priceWaitUptoCard : Claim7 := { stood := { row := priceWaitUptoRow, standIns := [], harness := (true, "324322ccb7fedbe193d0e50adad4ab9bb64b94db2e96f3b9c56b36b47b36d999"), looks := true }, kinds := [], alts := [], laidByText := true, laidKinds := [.data, .data, .data, .data, .handle, .sentinel, .sentinel, .pinned], laidTests := true, laidLooks := .later }
def PriceWaitUptoCardSaid : Prop := Claim7.holds Tryz.pinned (.plain (OpenSpec.upto priceWaitSpec)) priceWaitUptoCard
end Rows
end Go.Proofs.YtlnjbdkgdocjeaaGreatDoor
