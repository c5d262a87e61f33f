/- A part of the proof of accrAll_card, priceAll_card, priceSum_card. -/
import Derived.Test.YtfkdcfbleblgoaaGreatDoorCXZ00
import Derived.Test.YtfkdcfbleblgoaaGreatDoorCXZ20
set_option linter.unusedVariables false
set_option linter.unusedSimpArgs false
namespace Go.Ev.Code
open Go Go.Ev
theorem JY {n k:Int} (hk:0<k) (hk2:k≤1000000):Int.tmod (IntKind.i64.wrap (Int.tmod n k+k)) k=n % k:=by
 have h1:Int.tmod n k=n % k∨Int.tmod n k=n % k-k:=by
  rw [Int.tmod_eq_emod]
  split
  ·left; omega
  ·right
   have : (k.natAbs:Int)=k:=by omega
   omega
 have h2:=Int.emod_nonneg n (show k≠0 by omega)
 have h3:=Int.emod_lt_of_pos n hk
 generalize n % k=r at *
 rw [wrap64 _ (by omega),Int.tmod_eq_emod_of_nonneg (by omega)]
 rcases h1 with h1 | h1
 ·rw [h1,Int.add_emod_right,Int.emod_eq_of_lt h2 h3]
 ·rw [h1,show r-k+k=r by omega,Int.emod_eq_of_lt h2 h3]
end Go.Ev.Code
