/- A part of the proof of flowSum_card, flowParts_card, flowEx_card, accrWhole_card, priceZero_card. -/
import Derived.Test.YtnokhmkkpcfilaaGreatDoorCSpD6
import Derived.Test.YtnokhmkkpcfilaaGreatDoorCSpD2
set_option linter.unusedVariables false
set_option linter.unusedSimpArgs false
namespace Go.Ev.Code
open Go Go.Ev
theorem ac4 (q : Rat) : Ak q q = 0 := by
 unfold Ak
 rw [if_neg (by exact Rat.lt_irrefl), if_pos rfl]
theorem YB {b : aN} {s : Int} (h : (leftB b s).1 = none) (hc : b.d_.length ≤ 1000000) (hr : b.eH.length ≤ 1000000) : L.call oG [bf b, .int .i64 s] = some (.aZ [.sl (leftB b s).2.length (dw (leftB b s).2), .aF]) := by
 have := Ia hc hr s
 unfold xQ AV at this
 rw [h] at this
 exact this
set_option maxHeartbeats 2000000 in
theorem al9 (hbeg : L.call dF [] = some (.bool true)) (n days ex : Int) : L.call jZ [.int .i64 n, .int .i64 days, .int .i64 ex] = some (.bool true) := by
 have hday := OG n
 have hfive := LM [54] 4
 have hD1 := Int.emod_nonneg n (show (109573 : Int) ≠ 0 by omega)
 have hD2 := Int.emod_lt_of_pos n (show (0 : Int) < 109573 by omega)
 have q1 := JR (n := ex) (k := 30) (by omega) (by omega)
 have q2 := JR (n := days) (k := 1000) (by omega) (by omega)
 obtain ⟨dd, hDe⟩ : ∃ dd, dd = n % 109573 := ⟨_, rfl⟩
 rw [← hDe] at hday hD1 hD2
 obtain ⟨I, hI⟩ : ∃ I, I = 3000 + dd % 90000 := ⟨_, rfl⟩
 have e1 : Int.tmod dd 90000 = dd % 90000 := Int.tmod_eq_emod_of_nonneg hD1
 have e2 : IntKind.i64.wrap (3000 + dd % 90000) = I := by rw [wrap64 _ (by omega)]; omega
 have hId : bQ I := ⟨by omega, by omega⟩
 have hmi : mi I ≤ 25900 := by
  have h1 := NC hId (b := 92999) (by decide) (by omega)
  have := Uj
  omega
 have hmb := QJ hId
 obtain ⟨A, hA⟩ := Qh (day := I) (n := 36) false hId (by omega) (by omega)
 have hAm := Nw hA
 have hAd := TP hA
 have ham := Ef I 36 false
 rw [hA] at ham
 simp [okD] at ham
 obtain ⟨X, hX⟩ : ∃ X, X = 1 + ex % 30 := ⟨_, rfl⟩
 have e3 : IntKind.i64.wrap (1 + ex % 30) = X := by rw [wrap64 _ (by omega)]; omega
 obtain ⟨s, hs⟩ : ∃ s, s = I + days % 1000 := ⟨_, rfl⟩
 have e4 : IntKind.i64.wrap (I + days % 1000) = s := by rw [wrap64 _ (by omega)]; omega
 have hgap : I + 1000 ≤ A := by
  have h1 := ao3 hId hAd (k := 3) (by omega)
  omega
 obtain ⟨b, hb⟩ : ∃ b : aN, b = ⟨I, A, 2, [54], [49, 48, 48], 4, 1, false, X⟩ := ⟨_, rfl⟩
 have hmade : ∀ x : Int, 0 ≤ x → x ≤ 30 → Made (jP b x) 36 := by
  intro x x1 x2
  rw [hb]
  exact ⟨by show 3000 ≤ I; omega, by show I ≤ 92999; omega, ⟨A, hA, rfl⟩, by omega, by omega, .inr (.inl rfl), by (unfold I5; simp only; decide +kernel), ⟨by show (1 : Int) ≤ 4; omega, by show (4 : Int) ≤ 4; omega⟩, ⟨by show (1 : Int) ≤ 1; omega, by show (1 : Int) ≤ 2; omega⟩, ⟨x1, x2⟩⟩
 have hm1 : Made b 36 := by
  have := hmade X (by omega) (by omega)
  rw [hb] at this ⊢
  exact this
 have hm0 := hmade 0 (by omega) (by omega)
 have hc : b.d_.length ≤ 1000000 := by rw [hb]; simp
 have hr : b.eH.length ≤ 1000000 := by rw [hb]; simp
 have hf := hm1.flow
 have h0 := hm1.plan
 have hl : (leftB b s).1 = none := MX hf (by rw [hb]; show I ≤ s; omega) (by rw [hb]; show s < (A : Int); omega)
 have hexp : 0 < b.ex := by rw [hb]; show 0 < X; omega
 obtain ⟨hl0, x1, x2, x3⟩ := aru hexp hm1.LJ hm0.LJ hl
 obtain ⟨k, k1, k2, kl, k4, k5, a, ka⟩ := WE hl
 have hplen := (eG h0).2.len
 have hat := Uw (ps := (aK b).2) (by omega) s
 rw [k1] at hat
 obtain ⟨d1, d2, d3, d4, d5, d6⟩ := BK hl
 have hpl := qw hc hr
 unfold qp at hpl
 rw [h0] at hpl
 simp only [dK] at hpl
 have hxx := TN hc hr s
 unfold exD at hxx
 rw [hl] at hxx
 simp only at hxx
 have hL1 := YB hl hc hr
 have hL0 := YB hl0 (b := jP b 0) hc hr
 have hA1 := Wh hl hc hr
 have hA0 := Wh hl0 (b := jP b 0) hc hr
 have hP := Ud hf hc hr d6
 have hB1 := abR hl
 have hB0 := abR hl0
 have hBP := Jw hf d6
 obtain ⟨j1, hj1⟩ : ∃ j : Nat, j = 1400 := ⟨_, rfl⟩
 obtain ⟨j2, hj2⟩ : ∃ j : Nat, j = 600 := ⟨_, rfl⟩
 rw [← hj1] at hB1 hB0
 rw [← hj2] at hBP
 have hcmp := wV hB1 hB0 (by omega)
 have hsub := DV hB0 hB1 (by omega)
 have hcmp2 := wV (hB0.sub hB1) hBP (by omega)
 have hg := pJ k2
 have hbX : b.ex = X := by rw [hb]
 have hbd : bf b = .agg [.int .i64 I, .int .i64 A, .int .i64 2, .str [54], .str [49, 48, 48], .int .i64 4, .int .i64 1, .bool false, .int .i64 X] := by rw [hb]; rfl
 have hbd0 : bf (jP b 0) = .agg [.int .i64 I, .int .i64 A, .int .i64 2, .str [54], .str [49, 48, 48], .int .i64 4, .int .i64 1, .bool false, .int .i64 0] := by rw [hb]; rfl
 rw [hbd] at hpl hxx hL1 hA1 hP
 rw [hbd0] at hL0 hA0
 rw [hbX] at x1
 have e5 : IntKind.i64.wrap ((eF b s).2 - X) = (eF b s).2 - X := wrap64 _ (by omega)
 have e6 : IntKind.i64.wrap (((leftB (jP b 0) s).2.length : Int) - 1) = ((leftB (jP b 0) s).2.length : Int) - 1 := wrap64 _ (by
  have : (leftB (jP b 0) s).2.length ≤ 1000 := by
   have h1 : (bn (jP b 0)).2.length ≤ 200 := by rw [OA hm1.LJ hm0.LJ, k5]; exact hplen
   unfold leftB
   rw [OA hm1.LJ hm0.LJ, hf]
   simp only
   split
   ·simp
   ·unfold QH
    rw [if_neg (show ¬ (0 : Int) < 0 by decide), k4, List.length_drop]
    rw [OA hm1.LJ hm0.LJ] at h1
    omega
  omega)
 have hfc1 := vM (leftB b s).2 0 10
 have hfc0 := vM (leftB (jP b 0) s).2 0 10
 clear hbd hbd0 hmade hm1 hm0 hl hl0 k4 ka hb hf h0 hB1 hB0 hBP
 generalize dw (leftB b s).2 = c1 at *
 generalize dw (leftB (jP b 0) s).2 = c0 at *
 generalize (leftB b s).2.length = N1 at *
 generalize (leftB (jP b 0) s).2.length = N0 at *
 generalize vF b s = a1 at *
 generalize vF (jP b 0) s = a0 at *
 unfold pD at *
 generalize eF b s = p at *
 generalize xE b p = pv at *
 generalize Oz b s = xb at *
 unfold fZ at *
 generalize (aK b).2.length = M at *
 generalize bT (aK b).2 = pc at *
 obtain ⟨p1, p2⟩ := p
 simp only at *
 obtain ⟨g1, g2, g3, g4⟩ := hg
 unfold five bf aS at hfive
 simp only at *
 have hkM : (k : Int) < M := by omega
 have hk0 : ¬ (k : Int) < 0 := by omega
 refine aO Si rfl (R_ ..) ?_
 cases xb with
 | false =>
   have hn : ¬ p2 - X ≤ s := by simpa using x1.symm
   obtain ⟨y1, y2⟩ := x2 rfl
   subst y1
   subst y2
   rw [ac4] at hcmp
   simp [ng, hbeg, hfive, hday, e1, e2, ham, q1, e3, q2, e4, hpl, hat, hk0, hxx, hL1, hL0, hA1, hA0, kl, hkM, g1, g2, g3, g4, hP, e5, hn, hcmp]
 | true =>
   have hn : p2 - X ≤ s := by simpa using x1.symm
   obtain ⟨y1, y2⟩ := x3 rfl
   rw [y2, ac4] at hcmp2
   rw [y2] at hsub
   by_cases h1 : N0 = 1
   ·subst h1
    by_cases hN : N1 = 0
    ·subst hN
     simp [ng, hbeg, hfive, hday, e1, e2, ham, q1, e3, q2, e4, hpl, hat, hk0, hxx, hL1, hL0, hA1, hA0, kl, hkM, g1, g2, g3, g4, hP, e5, hn, hsub, hcmp2, wrap64]
    ·simp [ng, hbeg, hfive, hday, e1, e2, ham, q1, e3, q2, e4, hpl, hat, hk0, hxx, hL1, hL0, hA1, hA0, kl, hkM, g1, g2, g3, g4, hP, e5, hn, hsub, hcmp2, hN, wrap64]
   ·have h2 : (N1 : Int) = (N0 : Int) - 1 := by omega
    simp [ng, hbeg, hfive, hday, e1, e2, ham, q1, e3, q2, e4, hpl, hat, hk0, hxx, hL1, hL0, hA1, hA0, kl, hkM, g1, g2, g3, g4, hP, e5, hn, e6, h2, hsub, hcmp2]
end Go.Ev.Code
