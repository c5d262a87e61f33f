/- A part of the proof of planStub_card, planEnd_card, planLone_card, bondLong_card. -/
import Derived.KernelRfl
import Derived.Test.YtgppbgfjhkjfcaaGreatDoorBSpD3
namespace Go.Ev.Code
open Go Go.Ev
theorem aeW : ((pR 10000).call dQ []) = some (.bool true) := by kernel_rfl
theorem Ul : L.call dQ [] = some (.bool true) := VJ 10000 aeW
end Go.Ev.Code
