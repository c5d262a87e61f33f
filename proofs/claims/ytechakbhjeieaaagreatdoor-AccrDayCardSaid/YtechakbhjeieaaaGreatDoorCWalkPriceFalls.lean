/- Part of accrDay_card. -/
import Derived.Test.YtechakbhjeieaaaGreatDoorCSpD6
set_option linter.unusedVariables false
set_option linter.unusedSimpArgs false
namespace Go.Ev.Code
open Go Go.Ev
end Go.Ev.Code
