/- A part of the proof of riskZero_card, yieldPar_card, pricePar_card. -/
import Derived.KernelRfl
import Derived.Test.YtheeamloonpolaaGreatDoorCSpD6
namespace Go.Ev.Code
open Go Go.Ev
theorem akN:((zQ 10000).call d_ [])=some (.bool true):=by kernel_rfl
theorem aad:L.call d_ []=some (.bool true):=ap_ 10000 akN
end Go.Ev.Code
