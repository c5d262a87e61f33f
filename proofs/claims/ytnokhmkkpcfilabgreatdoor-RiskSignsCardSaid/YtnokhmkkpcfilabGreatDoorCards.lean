/-
  DERIVED. GIVEN WITH THE SEED: THE CARDS: each row of YtnokhmkkpcfilabGreatDoorRows.lean that lists a variable, with what it lists TIED to the program's text (the seventh form; the later family's looks); each row that meets fmt, with fmt's text TOLD by the authors' own Lean function (tested against real Go, not proved from fmt's source: count such statements apart). THE CARD IS WHAT COUNTS. Prove the row's statement (the work); the ties are given (YtnokhmkkpcfilabGreatDoorTie.lean); close each card by the builder's one call (the guide's Derived/Test/ToyasCard.lean, 'card_holds'). Laid BY PROGRAM, IN A SANDBOX (cutbox-door.mjs). By AI agents, Wed Nov 11 2026. No macro, syntax, notation, axiom, sorry.
-/
import Derived.Test.YtnokhmkkpcfilabGreatDoorRows
import GoSem.ClaimSeven
namespace Go.Proofs.YtnokhmkkpcfilabGreatDoor
namespace Rows

/-- THE TIED CARD OF 'rentierlaw13.PriceFalls'. -/
def priceFallsCard : Claim7 := { stood := { row := priceFallsRow, standIns := [], harness := (true, "c130ef1584b634520a49e06b44d2f2f5333cc9903229412f517887d313da5492"), looks := true }, kinds := [], alts := [], laidByText := true, laidKinds := [.data, .data, .data, .data, .handle, .sentinel, .sentinel, .pinned], laidTests := true, laidLooks := .later }
def PriceFallsCardSaid : Prop := Claim7.holds Tryz.pinned (.plain (OpenSpec.ofChange priceFallsSpec)) priceFallsCard

/-- THE TIED CARD OF 'rentierlaw13.RiskSigns'. -/
def riskSignsCard : Claim7 := { stood := { row := riskSignsRow, standIns := [], harness := (true, "c130ef1584b634520a49e06b44d2f2f5333cc9903229412f517887d313da5492"), looks := true }, kinds := [], alts := [], laidByText := true, laidKinds := [.data, .data, .data, .data, .handle, .sentinel, .sentinel, .pinned], laidTests := true, laidLooks := .later }
def RiskSignsCardSaid : Prop := Claim7.holds Tryz.pinned (.plain (OpenSpec.ofChange riskSignsSpec)) riskSignsCard

/-- THE TIED CARD OF 'rentierlaw13.YieldBack'. -/
def yieldBackCard : Claim7 := { stood := { row := yieldBackRow, standIns := [], harness := (true, "c130ef1584b634520a49e06b44d2f2f5333cc9903229412f517887d313da5492"), looks := true }, kinds := [], alts := [], laidByText := true, laidKinds := [.data, .data, .data, .data, .handle, .sentinel, .sentinel, .pinned], laidTests := true, laidLooks := .later }
def YieldBackCardSaid : Prop := Claim7.holds Tryz.pinned (.plain (OpenSpec.ofChange yieldBackSpec)) yieldBackCard

/-- THE TIED CARD OF 'rentierlaw13.YieldEdge'. -/
def yieldEdgeCard : Claim7 := { stood := { row := yieldEdgeRow, standIns := [], harness := (true, "c130ef1584b634520a49e06b44d2f2f5333cc9903229412f517887d313da5492"), looks := true }, kinds := [], alts := [], laidByText := true, laidKinds := [.data, .data, .data, .data, .handle, .sentinel, .sentinel, .pinned], laidTests := true, laidLooks := .later }
def YieldEdgeCardSaid : Prop := Claim7.holds Tryz.pinned (.plain (OpenSpec.ofChange yieldEdgeSpec)) yieldEdgeCard

/-- THE TIED CARD OF 'rentierlaw13.YieldFalls'. -/
def yieldFallsCard : Claim7 := { stood := { row := yieldFallsRow, standIns := [], harness := (true, "c130ef1584b634520a49e06b44d2f2f5333cc9903229412f517887d313da5492"), looks := true }, kinds := [], alts := [], laidByText := true, laidKinds := [.data, .data, .data, .data, .handle, .sentinel, .sentinel, .pinned], laidTests := true, laidLooks := .later }
def YieldFallsCardSaid : Prop := Claim7.holds Tryz.pinned (.plain (OpenSpec.ofChange yieldFallsSpec)) yieldFallsCard

/-- THE SECOND FORM's CARD OF 'rentierlaw13.PriceFalls'. -/
def priceFallsUptoCard : Claim7 := { stood := { row := priceFallsUptoRow, standIns := [], harness := (true, "c130ef1584b634520a49e06b44d2f2f5333cc9903229412f517887d313da5492"), looks := true }, kinds := [], alts := [], laidByText := true, laidKinds := [.data, .data, .data, .data, .handle, .sentinel, .sentinel, .pinned], laidTests := true, laidLooks := .later }
def PriceFallsUptoCardSaid : Prop := Claim7.holds Tryz.pinned (.plain (OpenSpec.upto priceFallsSpec)) priceFallsUptoCard

/-- THE SECOND FORM's CARD OF 'rentierlaw13.RiskSigns'. -/
def riskSignsUptoCard : Claim7 := { stood := { row := riskSignsUptoRow, standIns := [], harness := (true, "c130ef1584b634520a49e06b44d2f2f5333cc9903229412f517887d313da5492"), looks := true }, kinds := [], alts := [], laidByText := true, laidKinds := [.data, .data, .data, .data, .handle, .sentinel, .sentinel, .pinned], laidTests := true, laidLooks := .later }
def RiskSignsUptoCardSaid : Prop := Claim7.holds Tryz.pinned (.plain (OpenSpec.upto riskSignsSpec)) riskSignsUptoCard

/-- THE SECOND FORM's CARD OF 'rentierlaw13.YieldBack'. -/
def yieldBackUptoCard : Claim7 := { stood := { row := yieldBackUptoRow, standIns := [], harness := (true, "c130ef1584b634520a49e06b44d2f2f5333cc9903229412f517887d313da5492"), looks := true }, kinds := [], alts := [], laidByText := true, laidKinds := [.data, .data, .data, .data, .handle, .sentinel, .sentinel, .pinned], laidTests := true, laidLooks := .later }
def YieldBackUptoCardSaid : Prop := Claim7.holds Tryz.pinned (.plain (OpenSpec.upto yieldBackSpec)) yieldBackUptoCard

/-- THE SECOND FORM's CARD OF 'rentierlaw13.YieldEdge'. -/
def yieldEdgeUptoCard : Claim7 := { stood := { row := yieldEdgeUptoRow, standIns := [], harness := (true, "c130ef1584b634520a49e06b44d2f2f5333cc9903229412f517887d313da5492"), looks := true }, kinds := [], alts := [], laidByText := true, laidKinds := [.data, .data, .data, .data, .handle, .sentinel, .sentinel, .pinned], laidTests := true, laidLooks := .later }
def YieldEdgeUptoCardSaid : Prop := Claim7.holds Tryz.pinned (.plain (OpenSpec.upto yieldEdgeSpec)) yieldEdgeUptoCard

/-- THE SECOND FORM's CARD OF 'rentierlaw13.YieldFalls'. -/
def yieldFallsUptoCard : Claim7 := { stood := { row := yieldFallsUptoRow, standIns := [], harness := (true, "c130ef1584b634520a49e06b44d2f2f5333cc9903229412f517887d313da5492"), looks := true }, kinds := [], alts := [], laidByText := true, laidKinds := [.data, .data, .data, .data, .handle, .sentinel, .sentinel, .pinned], laidTests := true, laidLooks := .later }
def YieldFallsUptoCardSaid : Prop := Claim7.holds Tryz.pinned (.plain (OpenSpec.upto yieldFallsSpec)) yieldFallsUptoCard
end Rows
end Go.Proofs.YtnokhmkkpcfilabGreatDoor
