/- A part of the proof of priceFalls_card, riskSigns_card, yieldBack_card, yieldEdge_card, yieldFalls_card. -/
import Derived.Test.YtnokhmkkpcfilabGreatDoorCSpD4
set_option linter.unusedVariables false
set_option linter.unusedSimpArgs false
namespace Go.Ev.Code
open Go Go.Ev
theorem He (y : Int) : L.call iQ [.int .i64 y] = some (.int .i64 (y % 102000001 - 2000000)) := by
 have h1 := Int.emod_nonneg y (show (102000001 : Int) ≠ 0 by omega)
 have h2 := Int.emod_lt_of_pos y (show (0 : Int) < 102000001 by omega)
 have h3 : Int.tmod y 102000001 = y % 102000001 ∨ Int.tmod y 102000001 = y % 102000001 - 102000001 := by
  rw [Int.tmod_eq_emod]
  split
  ·left; omega
  ·right; simp
 have e1 : IntKind.i64.wrap (Int.tmod y 102000001 + 102000001) = Int.tmod y 102000001 + 102000001 := wrap64 _ (by omega)
 have e2 : Int.tmod (Int.tmod y 102000001 + 102000001) 102000001 = y % 102000001 := by
  rw [Int.tmod_eq_emod_of_nonneg (by omega)]
  rcases h3 with h | h <;> rw [h] <;> omega
 have e3 : IntKind.i64.wrap (-2000000 + y % 102000001) = y % 102000001 - 2000000 := by rw [wrap64 _ (by omega)]; omega
 generalize y % 102000001 = z at *
 refine aJ Xi rfl (Xg ..) ?_
 simp [Kq, e1, e2, e3]
def D7 (y : Int) : Int := y % 102000001 - 2000000
theorem VF (y : Int) : -2000000 ≤ D7 y ∧ D7 y ≤ 100000000 := by unfold D7; omega
theorem Ls (b : aO) (s : Int) : (∃ e, e ≠ none ∧ ∀ y, -2000000 ≤ y → y ≤ 100000000 → FN b s y = .error e) ∨
  ((∀ y, -2000000 ≤ y → y ≤ 100000000 → FN b s y = .ok (bn b s y - pO b s)) ∧ ∀ y z, -2000000 ≤ y → y ≤ z → z ≤ 100000000 → bn b s z - pO b s ≤ bn b s y - pO b s) := by
 cases he : (leftB b s).1 with
 | some e =>
   left
   refine ⟨some e, by simp, fun y h1 h2 => ?_⟩
   unfold FN kV
   rw [he]
 | none =>
   by_cases h0 : fQ b s = 0
   ·left
    refine ⟨some (3, none), by simp, fun y h1 h2 => ?_⟩
    unfold FN kV
    rw [he]
    simp only
    rw [if_neg (by omega), if_pos (.inl h0)]
   ·right
    refine ⟨fun y h1 h2 => ?_, fun y z h1 h2 h3 => ?_⟩
    ·have ha := aej he h0 h1 h2
     unfold FN kV
     rw [he]
     simp only
     rw [if_neg (by omega), if_neg (by intro h; rcases h with h | h; exact h0 h; exact ha h)]
    ·have := alk he h0 h1 h2 h3
     generalize pO b s = a at *
     generalize bn b s z = p at *
     generalize bn b s y = q at *
     grind
theorem Y0 {q r : Rat} (h : r ≤ q) : 0 ≤ tX q r := by
 unfold tX
 rw [if_neg (by rw [Rat.not_lt]; exact h)]
 split <;> decide
theorem agt (hbeg : L.call dO [] = some (.bool true)) (b0 : aO) (s y z : Int) : L.call iU [aS b0, .int .i64 s, .int .i64 y, .int .i64 z] = some (.bool true) := by
 have hcut := CV b0
 obtain ⟨hc, hr⟩ := UG b0
 generalize AY b0 = b at *
 have g1 := He y
 have g2 := He z
 have y1 := VF y
 have z1 := VF z
 have ey : y % 102000001 - 2000000 = D7 y := rfl
 have ez : z % 102000001 - 2000000 = D7 z := rfl
 rw [ey] at g1
 rw [ez] at g2
 obtain ⟨c1, c1B⟩ := qB hc hr s (y := D7 y) (by omega)
 obtain ⟨c2, c2B⟩ := qB hc hr s (y := D7 z) (by omega)
 generalize D7 y = Y at *
 generalize D7 z = Z at *
 rcases Ls b s with ⟨e, hne, hE⟩ | ⟨hE, hM⟩
 ·rw [hE Y y1.1 y1.2] at c1
  rw [hE Z z1.1 z1.2] at c2
  have hcode := vJ e
  have hcl := fun n => UK e n
  simp only [lY] at c1 c2
  obtain ⟨i, mt, fq, c, rd', n, st, en, ex⟩ := b
  obtain ⟨i', mt', fq', c', rd'', n', st', en', ex'⟩ := b0
  unfold aS aN at *
  simp only at *
  refine aJ tN rfl (tK ..) ?_
  generalize Ob e = ce at *
  rcases e with _ | ⟨c, _ | t⟩
  ·exact absurd rfl hne
  ·simp only [dS] at *
   by_cases h : Z < Y <;> simp [kQ, hbeg, hcut, g1, g2, h, c1, c2, hcode]
  ·simp only [dS, eH] at *
   by_cases h : Z < Y <;> simp [kQ, hbeg, hcut, g1, g2, h, c1, c2, hcode]
 ·have b1 := c1B _ (hE Y y1.1 y1.2)
  have b2 := c2B _ (hE Z z1.1 z1.2)
  rw [hE Y y1.1 y1.2] at c1
  rw [hE Z z1.1 z1.2] at c2
  simp only [lY] at c1 c2
  have m1 := uq b1 b2 (by omega)
  have m2 := uq b2 b1 (by omega)
  by_cases h : Z < Y
  ·have hge := Y0 (hM Z Y z1.1 (by omega) y1.2)
   generalize tX (bn b s Z - pO b s) (bn b s Y - pO b s) = cm at *
   generalize bn b s Z - pO b s = vz at *
   generalize bn b s Y - pO b s = vy at *
   obtain ⟨i, mt, fq, c, rd', n, st, en, ex⟩ := b
   obtain ⟨i', mt', fq', c', rd'', n', st', en', ex'⟩ := b0
   unfold aS aN at *
   simp only at *
   refine aJ tN rfl (tK ..) ?_
   simp [kQ, hbeg, hcut, g1, g2, h, c1, c2, m2, hge]
  ·have hge := Y0 (hM Y Z y1.1 (by omega) z1.2)
   generalize tX (bn b s Y - pO b s) (bn b s Z - pO b s) = cm at *
   generalize bn b s Z - pO b s = vz at *
   generalize bn b s Y - pO b s = vy at *
   obtain ⟨i, mt, fq, c, rd', n, st, en, ex⟩ := b
   obtain ⟨i', mt', fq', c', rd'', n', st', en', ex'⟩ := b0
   unfold aS aN at *
   simp only at *
   refine aJ tN rfl (tK ..) ?_
   simp [kQ, hbeg, hcut, g1, g2, h, c1, c2, m1, hge]
end Go.Ev.Code
