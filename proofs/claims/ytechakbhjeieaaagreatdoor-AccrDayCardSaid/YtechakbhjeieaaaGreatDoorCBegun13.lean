/- Part of accrDay_card. -/
import Derived.Test.YtechakbhjeieaaaGreatDoorCSpD8
namespace Go.Ev.Code
open Go Go.Ev
theorem ak5:((Bq 10000).call kD [])=some (.bool true):=by kernel_rfl
theorem as8:L.call kD []=some (.bool true):=aqw 10000 ak5
end Go.Ev.Code
