/- A part of the proof of priceSum_card, yieldAll_card. -/
import Derived.Test.YtfkdcfbleblgoaaGreatDoorCXZ80
set_option linter.unusedVariables false
set_option linter.unusedSimpArgs false
section
namespace Go.Ev.Code
open Go Go.Ev
theorem QY {q:Rat}:0≤q.num↔0≤q:=Rat.num_nonneg
end Go.Ev.Code
end
section
namespace Go.Ev.Code
open Go Go.Ev
theorem auK (q:Rat):zo q q=0:=by unfold zo; rw [if_neg (by exact Rat.lt_irrefl),if_pos rfl]
end Go.Ev.Code
end
