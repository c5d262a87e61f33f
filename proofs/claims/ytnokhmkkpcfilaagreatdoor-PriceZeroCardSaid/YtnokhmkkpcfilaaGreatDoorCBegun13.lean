/- A part of the proof of flowSum_card, flowParts_card, flowEx_card, accrWhole_card, priceZero_card. -/
import Derived.KernelRfl
import Derived.Test.YtnokhmkkpcfilaaGreatDoorCSpD4
namespace Go.Ev.Code
open Go Go.Ev
theorem aif : ((xX 10000).call dF []) = some (.bool true) := by kernel_rfl
theorem Sz : L.call dF [] = some (.bool true) := anm 10000 aif
end Go.Ev.Code
