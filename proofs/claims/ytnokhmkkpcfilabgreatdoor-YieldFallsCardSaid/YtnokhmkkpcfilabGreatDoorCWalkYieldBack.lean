/- A part of the proof of priceFalls_card, riskSigns_card, yieldBack_card, yieldEdge_card, yieldFalls_card. -/
import Derived.Test.YtnokhmkkpcfilabGreatDoorCSpD7
set_option linter.unusedVariables false
set_option linter.unusedSimpArgs false
namespace Go.Ev.Code
open Go Go.Ev
theorem XP {b : aO} {s : Int} (hc : b.dX.length ≤ 1000000) (hr : b.dY.length ≤ 1000000) (hE : ∀ y, -2000000 ≤ y → y ≤ 100000000 → FN b s y = .ok (bn b s y - pO b s)) :
  ∀ y, -2000000 ≤ y → y ≤ 100000000 → L.call fV [aS b, .int .i64 s, .int .i64 y] = some (.aZ [bF (bn b s y - pO b s), .aF]) ∧ RB 17000 (bn b s y - pO b s) := by
 intro y h1 h2
 obtain ⟨c1, cB⟩ := qB hc hr s (y := y) (by omega)
 have h3 := hE y h1 h2
 rw [h3] at c1
 exact ⟨c1, cB _ h3⟩
theorem aiR (hbeg : L.call dO [] = some (.bool true)) (b0 : aO) (s y : Int) : L.call jv [aS b0, .int .i64 s, .int .i64 y] = some (.bool true) := by
 have hcut := CV b0
 obtain ⟨hc, hr⟩ := UG b0
 generalize AY b0 = b at *
 have g1 := He y
 have y1 := VF y
 have ey : y % 102000001 - 2000000 = D7 y := rfl
 rw [ey] at g1
 generalize D7 y = Y at *
 rcases Ls b s with ⟨e, hne, hE⟩ | ⟨hE, hM⟩
 ·obtain ⟨c1, _⟩ := qB hc hr s (y := Y) (by omega)
  rw [hE Y y1.1 y1.2] at c1
  have hn := Ll hc hr hne (hE (-2000000) (by omega) (by omega)) (x := .aK) (.inl rfl)
  simp only [lY, jT] at c1 hn
  have hcl := fun n => UK e n
  obtain ⟨i, mt, fq, c, rd', n, st, en, ex⟩ := b
  obtain ⟨i', mt', fq', c', rd'', n', st', en', ex'⟩ := b0
  unfold aS aN at *
  simp only at *
  refine aJ Ce rfl (Cb ..) ?_
  rcases e with _ | ⟨c, _ | t⟩
  ·exact absurd rfl hne
  ·simp only [dS] at *
   simp [oM, hbeg, hcut, g1, c1, hn]
  ·simp only [dS, eH] at *
   simp [oM, hbeg, hcut, g1, c1, hn]
 ·have hf := XP hc hr hE
  obtain ⟨c1, b1⟩ := hf Y y1.1 y1.2
  rcases pK b1 (by omega) hf hM with ⟨z, z1, z2, z3, z4, _, z5⟩ | ⟨h, _⟩
  ·have hzY : Y ≤ z := by
    rcases (by omega : z < Y ∨ Y ≤ z) with h | h
    ·exact absurd (z4 Y h y1.2) Rat.lt_irrefl
    ·exact h
   have heq : bn b s z - pO b s = bn b s Y - pO b s := Rat.le_antisymm (hM Y z y1.1 hzY z2) z3
   obtain ⟨c2, b2⟩ := hf z z1 z2
   rw [heq] at c2
   have hcmp := uq b1 b1 (by omega)
   rw [akh] at hcmp
   simp only [jT] at z5
   clear z3 z4 hf hM hE
   generalize bn b s Y - pO b s = v at *
   obtain ⟨i, mt, fq, c, rd', n, st, en, ex⟩ := b
   obtain ⟨i', mt', fq', c', rd'', n', st', en', ex'⟩ := b0
   unfold aS aN at *
   simp only at *
   refine aJ Ce rfl (Cb ..) ?_
   simp [oM, hbeg, hcut, g1, c1, z5, c2, hzY, hcmp]
  ·exfalso
   rcases h with h | h
   ·exact Rat.not_lt.2 (hM (-2000000) Y (by omega) y1.1 y1.2) h
   ·exact Rat.not_lt.2 (hM Y 100000000 y1.1 y1.2 (by omega)) h
set_option maxHeartbeats 1000000 in
theorem aiS (hbeg : L.call dO [] = some (.bool true)) (b0 : aO) (s : Int) : L.call jw [aS b0, .int .i64 s] = some (.bool true) := by
 have hcut := CV b0
 obtain ⟨hc, hr⟩ := UG b0
 generalize AY b0 = b at *
 rcases Ls b s with ⟨e, hne, hE⟩ | ⟨hE, hM⟩
 ·obtain ⟨c1, _⟩ := qB hc hr s (y := -2000000) (by omega)
  obtain ⟨c2, _⟩ := qB hc hr s (y := 100000000) (by omega)
  rw [hE _ (by omega) (by omega)] at c1 c2
  simp only [lY] at c1 c2
  have hcode := vJ e
  generalize Ob e = ce at *
  obtain ⟨i, mt, fq, c, rd', n, st, en, ex⟩ := b
  obtain ⟨i', mt', fq', c', rd'', n', st', en', ex'⟩ := b0
  unfold aS aN at *
  simp only at *
  refine aJ Ci rfl (Cc ..) ?_
  rcases e with _ | ⟨c, _ | t⟩
  ·exact absurd rfl hne
  ·simp only [dS] at *
   simp [oN, hbeg, hcut, c1, c2, hcode]
  ·simp only [dS, eH] at *
   simp [oN, hbeg, hcut, c1, c2, hcode]
 ·have hf := XP hc hr hE
  have hM' := hM
  generalize hfg : (fun y => bn b s y - pO b s) = f
  have hf2 : ∀ y, -2000000 ≤ y → y ≤ 100000000 → L.call fV [aS b, .int .i64 s, .int .i64 y] = some (.aZ [bF (f y), .aF]) ∧ RB 17000 (f y) := by rw [← hfg]; exact hf
  have hM2 : ∀ y z, -2000000 ≤ y → y ≤ z → z ≤ 100000000 → f z ≤ f y := by rw [← hfg]; exact hM
  clear hf hM hM' hE hfg
  obtain ⟨c1, b1⟩ := hf2 (-2000000) (by omega) (by omega)
  obtain ⟨c2, b2⟩ := hf2 100000000 (by omega) (by omega)
  have hmm := hM2 (-2000000) 100000000 (by omega) (by omega) (by omega)
  have ht : L.call jQ [.int .i64 1, .int .i64 1000000007] = some (.aZ [bF (Rat.divInt 1 1000000007), .aF]) := ru (by omega) (by omega) (by omega)
  have htB : RB 64 (Rat.divInt 1 1000000007) := iH (eF (by omega)) (eF (by omega)) (by omega)
  have htp : 0 < Rat.divInt 1 1000000007 := by decide +kernel
  have hadd := xW b1 htB (by omega)
  have hsub := uy b2 htB (by omega)
  have hsame := Qc (some (7, none)) 7
  simp only [dS, Ob] at hsame
  have n1 := pK b1 (by omega) hf2 hM2
  have n2 := pK b2 (by omega) hf2 hM2
  have n3 := pK (b1.add htB) (by omega) hf2 hM2
  have n4 := pK (b2.sub htB) (by omega) hf2 hM2
  generalize Rat.divInt 1 1000000007 = tiny at *
  obtain ⟨y1, y1a, y1b⟩ : ∃ y, -2000000 ≤ y ∧ L.call gZ [aS b, .int .i64 s, bF (f (-2000000))] = some (jT (.ok y)) := by
   rcases n1 with ⟨y, h1, _, _, _, _, h5⟩ | ⟨h, _⟩
   ·exact ⟨y, h1, h5⟩
   ·rcases h with h | h
    ·exact absurd h Rat.lt_irrefl
    ·exact absurd h (Rat.not_lt.2 hmm)
  have y2 : L.call gZ [aS b, .int .i64 s, bF (f 100000000)] = some (jT (.ok 100000000)) := by
   rcases n2 with ⟨y, h1, h2, h3, h4, _, h5⟩ | ⟨h, _⟩
   ·rcases (by omega : y < 100000000 ∨ 100000000 ≤ y) with h | h
    ·exact absurd (h4 100000000 h (by omega)) Rat.lt_irrefl
    ·obtain rfl : y = 100000000 := by omega
     exact h5
   ·rcases h with h | h
    ·exact absurd h (Rat.not_lt.2 hmm)
    ·exact absurd h Rat.lt_irrefl
  have y3 : L.call gZ [aS b, .int .i64 s, bF (f (-2000000) + tiny)] = some (jT (.error (some (7, none)))) := by
   rcases n3 with ⟨y, h1, h2, h3, h4, _, h5⟩ | ⟨_, h⟩
   ·exfalso
    have := hM2 (-2000000) y (by omega) h1 h2
    generalize f (-2000000) = u at *
    generalize f y = v at *
    grind
   ·exact h
  have y4 : L.call gZ [aS b, .int .i64 s, bF (f 100000000 - tiny)] = some (jT (.error (some (7, none)))) := by
   rcases n4 with ⟨y, h1, h2, h3, h4, h6, h5⟩ | ⟨_, h⟩
   ·exfalso
    generalize f 100000000 = u at *
    grind
   ·exact h
  clear n1 n2 n3 n4 hf2 hM2 hmm
  simp only [jT, dS] at y1b y2 y3 y4
  generalize f (-2000000) + tiny = w1 at *
  generalize f 100000000 - tiny = w2 at *
  generalize f (-2000000) = v1 at *
  generalize f 100000000 = v2 at *
  obtain ⟨i, mt, fq, c, rd', n, st, en, ex⟩ := b
  obtain ⟨i', mt', fq', c', rd'', n', st', en', ex'⟩ := b0
  unfold aS aN at *
  simp only at *
  refine aJ Ci rfl (Cc ..) ?_
  simp [oN, hbeg, hcut, c1, c2, ht, y1b, y2, hadd, y3, hsub, y4, y1a, hsame]
end Go.Ev.Code
