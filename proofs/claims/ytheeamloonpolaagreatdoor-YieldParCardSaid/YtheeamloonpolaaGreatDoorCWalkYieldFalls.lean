/- A part of the proof of riskZero_card, yieldPar_card, pricePar_card. -/
import Derived.Test.YtheeamloonpolaaGreatDoorCSpD7
import Derived.Test.YtheeamloonpolaaGreatDoorCWalkYieldBack
set_option linter.unusedVariables false
set_option linter.unusedSimpArgs false
namespace Go.Ev.Code
open Go Go.Ev
theorem apN (n:Nat):(46:UInt8) ∉ txt n:=by
 intro h
 have := List.all_eq_true.1 (ae5 n) _ h
 exact absurd this (by decide)
theorem acX {x:Nat} (h:x<1000000000):qB (fV x)=some (Rat.divInt (x:Int) 100,2):=by
 have hl:=yC 9 (n:=x / 100) (by omega) (by omega)
 have hlen:(fV x).length≤60:=by unfold fV; rw [List.length_append,List.length_cons,LW]; omega
 have hnb:NB 13000 (x / 100):=NB.mono (j:=64) (by show x / 100<2^64; omega) (Nat.le_of_ble_eq_true rfl)
 have hnum:=ZX hnb
 have hne:[45].isPrefixOf (fV x)=false:=by
  have h1:=abo (x / 100)
  have h2:=CB (x / 100)
  unfold fV
  cases ht:txt (x / 100) with
  | nil=>rw [ht] at h2; simp at h2
  | cons a r =>
    rw [ht] at h1
    simpa [List.isPrefixOf] using h1
 have hs:sF (fV x)=(false,fV x):=by unfold sF; rw [hne]; rfl
 have hcut:mW 46 (fV x)=(txt (x / 100),mX 2 (x % 100),true):=by
  unfold mW fV
  rw [Y1 _ _ _ (apN _)]
  rfl
 have hpd:mX 2 (x % 100)=[dg (x % 100 / 10 % 10),dg (x % 100 % 10)]:=rfl
 have d1:=VG (d:=x % 100 / 10 % 10) (by omega)
 have d2:=VG (d:=x % 100 % 10) (by omega)
 have hall:(mX 2 (x % 100)).all tJ=true:=by rw [hpd]; simp only [List.all_cons,List.all_nil,d1.2,d2.2,Bool.and_true]
 have hv:jG 0 (txt (x / 100)++mX 2 (x % 100))=x:=by
  rw [ab4,acp,hpd,vY,vY,Bh,d1.1,d2.1]
  omega
 unfold qB
 rw [if_pos hlen,hs]
 simp only
 rw [hcut]
 simp only
 unfold DK
 rw [if_pos ⟨hnum,fun _=>⟨by rw [hpd]; simp,by rw [LW]; omega,hall⟩,by simp⟩,hv,LW]
 rfl
theorem alH {b:aH} {s:Int} {t:List UInt8} (ht:t.length≤1000000) {q:Rat} {n:Nat} (hd:qB t=some (q,n)) {r:Except Er Int} (hne:∀ e,r = .error e→e≠none) (hN:L.call vI [aT b,.int .i64 s,cO q]=some (Nz r)) :
  L.call BK [aT b,.int .i64 s,.str t]=some (Nz r):=by
 have hg:=WR ht
 rw [hd] at hg
 simp only [FU] at hg
 obtain ⟨i,mt,fq,c,rd',n',st,en,ex⟩:=b
 unfold aT aQ at *
 simp only at *
 cases r with
 | ok y =>
   simp only [Nz] at *
   refine aN WE rfl (Wx ..) ?_
   simp [PO,hg,hN]
 | error e =>
   have := hne e rfl
   simp only [Nz] at *
   rcases e with _ | ⟨c,_ | t⟩
   ·exact absurd rfl this
   ·simp only [jf] at *
    refine aN WE rfl (Wx ..) ?_
    simp [PO,hg,hN]
   ·simp only [jf,gu] at *
    refine aN WE rfl (Wx ..) ?_
    simp [PO,hg,hN]
end Go.Ev.Code
