/-
  DERIVED. GIVEN WITH THE SEED: THE CARDS: each row of YtheeamloonpolaaGreatDoorRows.lean that lists a variable, with what it lists TIED to the program's text (the seventh form; the later family's looks); each row that meets fmt, with fmt's text TOLD by the authors' own Lean function (tested against real Go, not proved from fmt's source: count such statements apart). THE CARD IS WHAT COUNTS. Prove the row's statement (the work); the ties are given (YtheeamloonpolaaGreatDoorTie.lean); close each card by the builder's one call (the guide's Derived/Test/ToyasCard.lean, 'card_holds'). Laid BY PROGRAM, IN A SANDBOX (cutbox-door.mjs). By AI agents, Wed Nov 11 2026. No macro, syntax, notation, axiom, sorry.
-/
import Derived.Test.YtheeamloonpolaaGreatDoorRows
import GoSem.ClaimSeven
namespace Go.Proofs.YtheeamloonpolaaGreatDoor
namespace Rows

/-- THE TIED CARD OF 'rentierlaw13.PriceSum'. -/
def priceSumCard : Claim7 := { stood := { row := priceSumRow, standIns := [], harness := (true, "2f6a0c2a5a5cf323a326f872d4cf2f454791b3bbaafb8a4485bf9b7bd031df04"), looks := true }, kinds := [], alts := [], laidByText := true, laidKinds := [.data, .data, .data, .data, .handle, .sentinel, .sentinel, .pinned], laidTests := true, laidLooks := .later }
def PriceSumCardSaid : Prop := Claim7.holds Tryz.pinned (.plain (OpenSpec.ofChange priceSumSpec)) priceSumCard

/-- THE TIED CARD OF 'rentierlaw13.RiskZero'. -/
def riskZeroCard : Claim7 := { stood := { row := riskZeroRow, standIns := [], harness := (true, "2f6a0c2a5a5cf323a326f872d4cf2f454791b3bbaafb8a4485bf9b7bd031df04"), looks := true }, kinds := [], alts := [], laidByText := true, laidKinds := [.data, .data, .data, .data, .handle, .sentinel, .sentinel, .pinned], laidTests := true, laidLooks := .later }
def RiskZeroCardSaid : Prop := Claim7.holds Tryz.pinned (.plain (OpenSpec.ofChange riskZeroSpec)) riskZeroCard

/-- THE TIED CARD OF 'rentierlaw13.PricePar'. -/
def priceParCard : Claim7 := { stood := { row := priceParRow, standIns := [], harness := (true, "2f6a0c2a5a5cf323a326f872d4cf2f454791b3bbaafb8a4485bf9b7bd031df04"), looks := true }, kinds := [], alts := [], laidByText := true, laidKinds := [.data, .data, .data, .data, .handle, .sentinel, .sentinel, .pinned], laidTests := true, laidLooks := .later }
def PriceParCardSaid : Prop := Claim7.holds Tryz.pinned (.plain (OpenSpec.ofChange priceParSpec)) priceParCard

/-- THE TIED CARD OF 'rentierlaw13.YieldPar'. -/
def yieldParCard : Claim7 := { stood := { row := yieldParRow, standIns := [], harness := (true, "2f6a0c2a5a5cf323a326f872d4cf2f454791b3bbaafb8a4485bf9b7bd031df04"), looks := true }, kinds := [], alts := [], laidByText := true, laidKinds := [.data, .data, .data, .data, .handle, .sentinel, .sentinel, .pinned], laidTests := true, laidLooks := .later }
def YieldParCardSaid : Prop := Claim7.holds Tryz.pinned (.plain (OpenSpec.ofChange yieldParSpec)) yieldParCard

/-- THE SECOND FORM's CARD OF 'rentierlaw13.PriceSum'. -/
def priceSumUptoCard : Claim7 := { stood := { row := priceSumUptoRow, standIns := [], harness := (true, "2f6a0c2a5a5cf323a326f872d4cf2f454791b3bbaafb8a4485bf9b7bd031df04"), looks := true }, kinds := [], alts := [], laidByText := true, laidKinds := [.data, .data, .data, .data, .handle, .sentinel, .sentinel, .pinned], laidTests := true, laidLooks := .later }
def PriceSumUptoCardSaid : Prop := Claim7.holds Tryz.pinned (.plain (OpenSpec.upto priceSumSpec)) priceSumUptoCard

/-- THE SECOND FORM's CARD OF 'rentierlaw13.RiskZero'. -/
def riskZeroUptoCard : Claim7 := { stood := { row := riskZeroUptoRow, standIns := [], harness := (true, "2f6a0c2a5a5cf323a326f872d4cf2f454791b3bbaafb8a4485bf9b7bd031df04"), looks := true }, kinds := [], alts := [], laidByText := true, laidKinds := [.data, .data, .data, .data, .handle, .sentinel, .sentinel, .pinned], laidTests := true, laidLooks := .later }
def RiskZeroUptoCardSaid : Prop := Claim7.holds Tryz.pinned (.plain (OpenSpec.upto riskZeroSpec)) riskZeroUptoCard

/-- THE SECOND FORM's CARD OF 'rentierlaw13.PricePar'. -/
def priceParUptoCard : Claim7 := { stood := { row := priceParUptoRow, standIns := [], harness := (true, "2f6a0c2a5a5cf323a326f872d4cf2f454791b3bbaafb8a4485bf9b7bd031df04"), looks := true }, kinds := [], alts := [], laidByText := true, laidKinds := [.data, .data, .data, .data, .handle, .sentinel, .sentinel, .pinned], laidTests := true, laidLooks := .later }
def PriceParUptoCardSaid : Prop := Claim7.holds Tryz.pinned (.plain (OpenSpec.upto priceParSpec)) priceParUptoCard

/-- THE SECOND FORM's CARD OF 'rentierlaw13.YieldPar'. -/
def yieldParUptoCard : Claim7 := { stood := { row := yieldParUptoRow, standIns := [], harness := (true, "2f6a0c2a5a5cf323a326f872d4cf2f454791b3bbaafb8a4485bf9b7bd031df04"), looks := true }, kinds := [], alts := [], laidByText := true, laidKinds := [.data, .data, .data, .data, .handle, .sentinel, .sentinel, .pinned], laidTests := true, laidLooks := .later }
def YieldParUptoCardSaid : Prop := Claim7.holds Tryz.pinned (.plain (OpenSpec.upto yieldParSpec)) yieldParUptoCard
end Rows
end Go.Proofs.YtheeamloonpolaaGreatDoor
