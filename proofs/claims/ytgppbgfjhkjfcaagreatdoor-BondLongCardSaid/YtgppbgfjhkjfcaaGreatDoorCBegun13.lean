/- A part of the proof of planLone_card, bondLong_card. -/
import Derived.KernelRfl
import Derived.Test.YtgppbgfjhkjfcaaGreatDoorCSpD4
namespace Go.Ev.Code
open Go Go.Ev
theorem aeO : ((qQ 10000).call dO []) = some (.bool true) := by kernel_rfl
theorem afK : L.call dO [] = some (.bool true) := Vj 10000 aeO
end Go.Ev.Code
