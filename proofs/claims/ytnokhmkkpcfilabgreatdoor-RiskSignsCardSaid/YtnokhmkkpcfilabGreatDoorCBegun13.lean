/- A part of the proof of priceFalls_card, riskSigns_card, yieldBack_card, yieldEdge_card, yieldFalls_card. -/
import Derived.KernelRfl
import Derived.Test.YtnokhmkkpcfilabGreatDoorCSpD5
namespace Go.Ev.Code
open Go Go.Ev
theorem ajo : ((yX 10000).call dO []) = some (.bool true) := by kernel_rfl
theorem UF : L.call dO [] = some (.bool true) := aor 10000 ajo
end Go.Ev.Code
