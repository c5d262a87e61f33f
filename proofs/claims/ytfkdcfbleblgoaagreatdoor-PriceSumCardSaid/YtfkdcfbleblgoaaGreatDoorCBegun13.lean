/- A part of the proof of priceAll_card, yieldAll_card, priceSum_card, flowAll_card, accrAll_card. -/
import Derived.Test.YtfkdcfbleblgoaaGreatDoorCSpD10
namespace Go.Ev.Code
open Go Go.Ev
theorem att:((Dl 10000).call iq [])=some (.bool true):=by kernel_rfl
theorem ac1:L.call iq []=some (.bool true):=ay1 10000 att
end Go.Ev.Code
