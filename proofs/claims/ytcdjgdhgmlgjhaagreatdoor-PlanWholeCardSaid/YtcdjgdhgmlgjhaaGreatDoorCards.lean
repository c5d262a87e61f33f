/-
  DERIVED. GIVEN WITH THE SEED: THE CARDS: each row of YtcdjgdhgmlgjhaaGreatDoorRows.lean that lists a variable, with what it lists TIED to the program's text (the seventh form; the later family's looks); each row that meets fmt, with fmt's text TOLD by the authors' own Lean function (tested against real Go, not proved from fmt's source: count such statements apart). THE CARD IS WHAT COUNTS. Prove the row's statement (the work); the ties are given (YtcdjgdhgmlgjhaaGreatDoorTie.lean); close each card by the builder's one call (the guide's Derived/Test/ToyasCard.lean, 'card_holds'). Laid BY PROGRAM, IN A SANDBOX (cutbox-door.mjs). By AI agents, Wed Nov 11 2026. No macro, syntax, notation, axiom, sorry.
-/
import Derived.Test.YtcdjgdhgmlgjhaaGreatDoorRows
import GoSem.ClaimSeven
namespace Go.Proofs.YtcdjgdhgmlgjhaaGreatDoor
namespace Rows

/-- THE TIED CARD OF 'rentierlaw13.PlanWhole'. -/
def planWholeCard : Claim7 := { stood := { row := planWholeRow, standIns := [], harness := (true, "6d5c52fc84632e1ca8730efcc63c2c94657530f58fa8351453efa417b700ecd3"), looks := true }, kinds := [], alts := [], laidByText := true, laidKinds := [.data, .data, .data, .data, .handle, .sentinel, .sentinel, .pinned], laidTests := true, laidLooks := .later }
def PlanWholeCardSaid : Prop := Claim7.holds Tryz.pinned (.plain (OpenSpec.ofChange planWholeSpec)) planWholeCard

/-- THE SECOND FORM's CARD OF 'rentierlaw13.PlanWhole'. -/
def planWholeUptoCard : Claim7 := { stood := { row := planWholeUptoRow, standIns := [], harness := (true, "6d5c52fc84632e1ca8730efcc63c2c94657530f58fa8351453efa417b700ecd3"), looks := true }, kinds := [], alts := [], laidByText := true, laidKinds := [.data, .data, .data, .data, .handle, .sentinel, .sentinel, .pinned], laidTests := true, laidLooks := .later }
def PlanWholeUptoCardSaid : Prop := Claim7.holds Tryz.pinned (.plain (OpenSpec.upto planWholeSpec)) planWholeUptoCard
end Rows
end Go.Proofs.YtcdjgdhgmlgjhaaGreatDoor
