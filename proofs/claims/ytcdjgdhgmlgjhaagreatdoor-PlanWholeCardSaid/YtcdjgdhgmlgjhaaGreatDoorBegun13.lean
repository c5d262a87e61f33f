/- A part of the proof of the theorem planWhole_card. -/
import Derived.KernelRfl
import Derived.Test.YtcdjgdhgmlgjhaaGreatDoorAccTab
namespace Go.Ev.Code
open Go Go.Ev
theorem begun13_acc : ((accOrc btA 10000).call rentierlaw13_begun []) = some (.bool true) := by kernel_rfl
theorem begun13 : L.call rentierlaw13_begun [] = some (.bool true) := acc_call btA_ok 10000 begun13_acc
end Go.Ev.Code
