/- A part of the proof of priceWait_card. -/
import Derived.Test.YtlnjbdkgdocjeaaGreatDoorCWalkPriceFalls
import Derived.Test.YtlnjbdkgdocjeaaGreatDoorCSpD7
set_option linter.unusedVariables false
set_option linter.unusedSimpArgs false
namespace Go.Ev.Code
open Go Go.Ev
theorem aot {b:ay} {s:Int} {e:Int×Option (List UInt8)} (h:(leftB b s).1=some e):e.1≠0:=by
 unfold leftB at h
 split at h
 ·rename_i e' h'
  simp at h
  subst h
  unfold dG at h'
  split at h'
  ·rename_i e2 h2
   obtain ⟨c,t⟩:=e2
   simp [amq] at h'
   rw [← h']
   simp only
   cases hchk:chk b with
   | some ct =>
     obtain ⟨c2,t2⟩:=ct
     have := ah' hchk
     unfold aF at h2
     rw [hchk] at h2
     simp at h2
     rw [← h2.1]; exact this
   | none =>
     have := aga hchk h2
     simp only at this
     omega
  ·split at h'
   ·simp at h'
   ·split at h'
    ·rename_i c hc
     simp at h'
     rw [← h']
     simp only
     unfold oz at hc
     split at hc
     ·simp at hc
     ·split at hc
      ·simp at hc
      ·rename_i c2 hc2
       simp at hc
       subst hc
       unfold jy at hc2
       split at hc2
       ·split at hc2
        ·simp at hc2; omega
        ·split at hc2
         ·simp at hc2; omega
         ·simp at hc2
       ·split at hc2
        ·simp at hc2; omega
        ·simp at hc2
    ·simp at h'
 ·split at h
  ·simp at h
   rw [← h]
   simp
  ·simp at h
end Go.Ev.Code
