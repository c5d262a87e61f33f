/- A part of the proof of planLone_card, bondLong_card. -/
import Derived.KernelRfl
import Derived.Test.YtgppbgfjhkjfcaaGreatDoorCSpD4
namespace Go.Ev.Code
open Go Go.Ev
theorem afF : ((qQ 10000).call dJ [.str [53], .int .i64 0, .int .i64 30, .bool true]) = some (.aS [.agg [.bool false, .sl 1 [.int .u64 5], .sl 1 [.int .u64 1]], .int .i64 0]) := by kernel_rfl
theorem amP : L.call dJ [.str [53], .int .i64 0, .int .i64 30, .bool true] = some (.aS [.agg [.bool false, .sl 1 [.int .u64 5], .sl 1 [.int .u64 1]], .int .i64 0]) := Vj 10000 afF
theorem abU : ((qQ 10000).call dJ [.str [49, 48, 48], .int .i64 0, .int .i64 200, .bool false]) = some (.aS [.agg [.bool false, .sl 1 [.int .u64 100], .sl 1 [.int .u64 1]], .int .i64 0]) := by kernel_rfl
theorem ajq : L.call dJ [.str [49, 48, 48], .int .i64 0, .int .i64 200, .bool false] = some (.aS [.agg [.bool false, .sl 1 [.int .u64 100], .sl 1 [.int .u64 1]], .int .i64 0]) := Vj 10000 abU
end Go.Ev.Code
