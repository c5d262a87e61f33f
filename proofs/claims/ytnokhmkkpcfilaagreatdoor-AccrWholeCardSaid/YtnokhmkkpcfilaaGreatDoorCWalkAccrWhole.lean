/- A part of the proof of flowSum_card, flowParts_card, flowEx_card, accrWhole_card, priceZero_card. -/
import Derived.Test.YtnokhmkkpcfilaaGreatDoorCSpD6
import Derived.Test.YtnokhmkkpcfilaaGreatDoorCSpD2
set_option linter.unusedVariables false
set_option linter.unusedSimpArgs false
namespace Go.Ev.Code
open Go Go.Ev
set_option maxHeartbeats 1000000 in
theorem afT (hbeg : L.call dF [] = some (.bool true)) (n k : Int) (hk : -9223372036854775808 ≤ k ∧ k ≤ 9223372036854775807) : L.call iL [.int .i64 n, .int .i64 k] = some (.bool true) := by
 have hday := OG n
 have hfive := LM [55, 46, 50, 53] 4
 have hD1 := Int.emod_nonneg n (show (109573 : Int) ≠ 0 by omega)
 have hD2 := Int.emod_lt_of_pos n (show (0 : Int) < 109573 by omega)
 obtain ⟨dd, hDe⟩ : ∃ dd, dd = n % 109573 := ⟨_, rfl⟩
 rw [← hDe] at hday hD1 hD2
 obtain ⟨I, hI⟩ : ∃ I, I = 3000 + dd % 90000 := ⟨_, rfl⟩
 have e1 : Int.tmod dd 90000 = dd % 90000 := Int.tmod_eq_emod_of_nonneg hD1
 have e2 : IntKind.i64.wrap (3000 + dd % 90000) = I := by rw [wrap64 _ (by omega)]; omega
 have hId : bQ I := ⟨by omega, by omega⟩
 have hmi : mi I ≤ 25900 := by
  have h1 := NC hId (b := 92999) (by decide) (by omega)
  have := Uj
  omega
 have hmb := QJ hId
 obtain ⟨A, hA⟩ := Qh (day := I) (n := 60) false hId (by omega) (by omega)
 have ham := Ef I 60 false
 rw [hA] at ham
 simp [okD] at ham
 obtain ⟨b, hb⟩ : ∃ b : aN, b = ⟨I, A, 2, [55, 46, 50, 53], [49, 48, 48], 4, 1, false, 0⟩ := ⟨_, rfl⟩
 have hmade : Made b 60 := by
  rw [hb]
  exact ⟨by show 3000 ≤ I; omega, by show I ≤ 92999; omega, ⟨A, hA, rfl⟩, by omega, by omega, .inr (.inl rfl), by (unfold I5; simp only; decide +kernel), ⟨by show (1 : Int) ≤ 4; omega, by show (4 : Int) ≤ 4; omega⟩, ⟨by show (1 : Int) ≤ 1; omega, by show (1 : Int) ≤ 2; omega⟩, ⟨by show (0 : Int) ≤ 0; omega, by show (0 : Int) ≤ 30; omega⟩⟩
 have hc : b.d_.length ≤ 1000000 := by rw [hb]; simp
 have hr : b.eH.length ≤ 1000000 := by rw [hb]; simp
 have hf := hmade.flow
 have h0 := hmade.plan
 have hw := (eG h0).2
 have hpl := qw hc hr
 unfold qp at hpl
 rw [h0] at hpl
 simp only [dK] at hpl
 have hpos : 0 < (aK b).2.length := List.length_pos_iff.2 hw.ne
 have hplen := hw.len
 obtain ⟨z, hz⟩ : ∃ z : Nat, (z : Int) = k % (aK b).2.length := ⟨(k % (aK b).2.length).toNat, by have := Int.emod_nonneg k (show ((aK b).2.length : Int) ≠ 0 by omega); omega⟩
 have hzlt : z < (aK b).2.length := by have := Int.emod_lt_of_pos k (show (0 : Int) < (aK b).2.length by omega); omega
 have q1 := JR (n := k) (k := ((aK b).2.length : Int)) (by omega) (by omega)
 rw [← hz] at q1
 obtain ⟨p, hp⟩ : ∃ p, (aK b).2[z]? = some p := ⟨_, List.getElem?_eq_getElem hzlt⟩
 have hmem := List.mem_of_getElem? hp
 obtain ⟨d1, d2, d3⟩ := lJ h0 hmem
 have hg := pJ hp
 have hl : (leftB b (p.2 - 1)).1 = none := by
  obtain ⟨_, g1, g2⟩ := acu h0 hmem (s := p.2 - 1) (by omega) (by omega)
  exact MX hf g1 g2
 have hacc := Wh hl hc hr
 have haccB := abR hl
 have hav := apt h0 hmem (s := p.2 - 1) (by omega) (by omega) (by rw [hb])
 have hpay := Ud hf hc hr hmem
 have hpayB := Jw hf hmem
 have hreg := qP hc hr p
 have hof : L.call h_ [.int .i64 (p.2 - 1 - p.1), .int .i64 (p.2 - p.1)] = some (.aZ [bZ (Rat.divInt (p.2 - 1 - p.1) (p.2 - p.1)), .aF]) := oL (by omega) (by omega) (by omega)
 have hofB : RB 64 (Rat.divInt (p.2 - 1 - p.1) (p.2 - p.1)) := lG (jd (by omega)) (jd (by omega)) (by omega)
 obtain ⟨j1, hj1⟩ : ∃ j : Nat, j = 1400 := ⟨_, rfl⟩
 obtain ⟨j2, hj2⟩ : ∃ j : Nat, j = 600 := ⟨_, rfl⟩
 rw [← hj1] at haccB
 rw [← hj2] at hpayB
 have hmul := wW hpayB hofB (by omega)
 have hcmp := wV haccB (hpayB.mul hofB) (by omega)
 have e3 : IntKind.i64.wrap (p.2 - 1) = p.2 - 1 := wrap64 _ (by omega)
 have e4 : IntKind.i64.wrap (p.2 - 1 - p.1) = p.2 - 1 - p.1 := wrap64 _ (by omega)
 have e5 : IntKind.i64.wrap (p.2 - p.1) = p.2 - p.1 := wrap64 _ (by omega)
 have hLn : ¬ ((aK b).2.length : Int) = 0 := by omega
 have hLn' : ¬ (aK b).2.length = 0 := by omega
 have hreq : regular b p = true → vF b (p.2 - 1) = xE b p * Rat.divInt (p.2 - 1 - p.1) (p.2 - p.1) := by
  intro h
  rw [hav]
  unfold y9
  rw [if_pos ⟨by rw [hb], h⟩]
 have hcm0 : regular b p = true → Ak (vF b (p.2 - 1)) (xE b p * Rat.divInt (p.2 - 1 - p.1) (p.2 - p.1)) = 0 := by
  intro h
  rw [hreq h]
  unfold Ak
  rw [if_neg (by exact Rat.lt_irrefl), if_pos rfl]
 generalize Ak (vF b (p.2 - 1)) (xE b p * Rat.divInt (p.2 - 1 - p.1) (p.2 - p.1)) = cm at *
 clear hreq hav haccB hpayB hofB
 generalize vF b (p.2 - 1) = av at *
 generalize xE b p * Rat.divInt (p.2 - 1 - p.1) (p.2 - p.1) = pm at *
 generalize xE b p = pv at *
 generalize Rat.divInt (p.2 - 1 - p.1) (p.2 - p.1) = dv at *
 generalize regular b p = rg at *
 obtain ⟨p1, p2⟩ := p
 simp only at *
 obtain ⟨g1, g2, g3, g4⟩ := hg
 have hbd : bf b = .agg [.int .i64 I, .int .i64 A, .int .i64 2, .str [55, 46, 50, 53], .str [49, 48, 48], .int .i64 4, .int .i64 1, .bool false, .int .i64 0] := by rw [hb]; rfl
 rw [hbd] at hpl hacc hpay hreg
 clear hbd hmade hf h0 hw hl hp hmem
 unfold pD at *
 unfold fZ at hpl
 generalize (aK b).2.length = M at *
 generalize bT (aK b).2 = pc at *
 unfold five bf aS at hfive
 simp only at *
 have hMI : (0 : Int) < M := by omega
 have hzI : (z : Int) < M := by omega
 obtain ⟨w1, hw1⟩ : ∃ w1, w1 = Int.tmod k M := ⟨_, rfl⟩
 rw [← hw1] at q1
 refine aO Ob rfl (N8 ..) ?_
 cases rg with
 | true =>
   have := hcm0 rfl
   subst this
   simp [uV, hbeg, hfive, hday, e1, e2, ham, hpl, hLn, hLn', ← hw1, q1, hzlt, hzI, g1, g2, g3, g4, e3, e4, e5, hacc, hpay, hof, hreg, hmul, hcmp]
 | false => simp [uV, hbeg, hfive, hday, e1, e2, ham, hpl, hLn, hLn', ← hw1, q1, hzlt, hzI, g1, g2, g3, g4, e3, e4, e5, hacc, hpay, hof, hreg]
end Go.Ev.Code
