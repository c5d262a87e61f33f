/- A part of the proof of the theorem yieldNone_card. -/
import Derived.KernelRfl
import Derived.Test.YtjjogojaemahkaaGreatDoorAccTab
namespace Go.Ev.Code
open Go Go.Ev
theorem yieldNone_acc : ((accOrc btA 10000).call rentierlaw13_YieldNone []) = some (.bool true) := by kernel_rfl
theorem yieldNone_ok : L.call rentierlaw13_YieldNone [] = some (.bool true) := acc_call btA_ok 10000 yieldNone_acc
end Go.Ev.Code
