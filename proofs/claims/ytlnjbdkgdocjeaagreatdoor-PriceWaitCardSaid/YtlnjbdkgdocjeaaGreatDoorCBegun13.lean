/- A part of the proof of priceWait_card. -/
import Derived.Test.YtlnjbdkgdocjeaaGreatDoorCSpD8
namespace Go.Ev.Code
open Go Go.Ev
theorem akq:((wK 10000).call kQ [])=some (.bool true):=by kernel_rfl
theorem ar4:L.call kQ []=some (.bool true):=apv 10000 akq
end Go.Ev.Code
