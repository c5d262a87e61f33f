/- A part of the proof of riskZero_card, yieldPar_card, pricePar_card. -/
import Derived.Test.YtheeamloonpolaaGreatDoorCSpD4
import Derived.Test.YtheeamloonpolaaGreatDoorCSpD5
set_option linter.unusedVariables false
set_option linter.unusedSimpArgs false
namespace Go.Ev.Code
open Go Go.Ev
theorem XQ (y:Int):L.call kV [.int .i64 y]=some (.int .i64 (y % 102000001-2000000)):=by
 have h1:=Int.emod_nonneg y (show (102000001:Int)≠0 by omega)
 have h2:=Int.emod_lt_of_pos y (show (0:Int)<102000001 by omega)
 have h3:Int.tmod y 102000001=y % 102000001∨Int.tmod y 102000001=y % 102000001-102000001:=by
  rw [Int.tmod_eq_emod]
  split
  ·left; omega
  ·right; simp
 have e1:IntKind.i64.wrap (Int.tmod y 102000001+102000001)=Int.tmod y 102000001+102000001:=wrap64 _ (by omega)
 have e2:Int.tmod (Int.tmod y 102000001+102000001) 102000001=y % 102000001:=by
  rw [Int.tmod_eq_emod_of_nonneg (by omega)]
  rcases h3 with h | h <;> rw [h] <;> omega
 have e3:IntKind.i64.wrap (-2000000+y % 102000001)=y % 102000001-2000000:=by rw [wrap64 _ (by omega)]; omega
 generalize y % 102000001=z at *
 refine aN Yl rfl (Yi ..) ?_
 simp [KI,e1,e2,e3]
def WW (y:Int):Int:=y % 102000001-2000000
theorem ai9 (y:Int) : -2000000≤WW y∧WW y≤100000000:=by unfold WW; omega
theorem alO {q r:Rat} (h:r≤q):0≤xU q r:=by
 unfold xU
 rw [if_neg (by rw [Rat.not_lt]; exact h)]
 split <;> decide
end Go.Ev.Code
