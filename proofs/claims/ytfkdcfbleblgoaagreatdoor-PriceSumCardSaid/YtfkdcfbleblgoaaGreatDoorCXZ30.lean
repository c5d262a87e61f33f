/- A part of the proof of flowAll_card, priceAll_card, priceSum_card, yieldAll_card. -/
import Derived.Test.YtfkdcfbleblgoaaGreatDoorCSpD8
set_option linter.unusedVariables false
set_option linter.unusedSimpArgs false
section
namespace Go.Ev.Code
open Go Go.Ev
theorem an5 {b:aA} {e:Int×Option (List UInt8)} (h:(aW b).1=some e):(aW b).2=[]:=by
 unfold aW at *
 split
 ·rfl
 ·rename_i h0
  rw [h0] at h
  simp only at h
  split
  ·rfl
  ·rename_i p r hps
   rw [hps] at h
   simp only at h
   split at h
   ·rfl
   ·simp at h
theorem alf {b:aA} (hc:b.aY.length≤1000000) (hr:b.bJ.length≤1000000):L.call TN [aC b]=some (EU (aW b)):=by
 have h:=ai3 (b:=b) (pre:=[]) (k:=0) (.inl ⟨rfl,rfl⟩) hc hr
 have he:=fun {e} => @an5 b e
 unfold EU NC
 cases hr:aW b with
 | mk e fs =>
   rw [hr] at h he
   have hfz:∀ m,jd (fz 10) (dA fs) m=some (dA fs,m):=fun m=>aib fs 9 m
   have hlen:=Ku fs
   have htk:(dA fs).take (fs.length*2)=dA fs:=List.take_of_length_le (by omega)
   cases e with
   | some e =>
     have := he rfl
     simp only at this
     subst this
     refine zW h ?_
     rcases e with ⟨c,_ | s⟩ <;> simp [fD,eY,dA]
   | none =>
     refine zW h ?_
     generalize dA fs=fc at *
     simp [fD,hfz,hlen,htk]
end Go.Ev.Code
end
section
namespace Go.Ev.Code
open Go Go.Ev
theorem akr {b:aA} (h:(aW b).1=none) {p:Int×Int} (hp:p∈(aF b).2) {x y:Int} (h1:p.1≤x) (h2:x≤y) (h3:y≤p.2):RB 200 (kF b p x y):=by
 have h0:=(gY h).1
 have hchk:=dK h0
 obtain ⟨d1,d2,d3⟩:=gU h0 hp
 exact (Zq hchk d1 d2 (vV h hp h1 h2 h3) (n:=2) (fun l hl=>OO h0 hp hl)).mono (by omega)
end Go.Ev.Code
end
section
namespace Go.Ev.Code
open Go Go.Ev
theorem O8 {b:aA} (h:(aW b).1=none):(aW b).2.length=(aF b).2.length:=by
 obtain ⟨h0,p,r,q,hps,hq,hfl⟩:=gY h
 rw [hfl,hps,Vk]
end Go.Ev.Code
end
