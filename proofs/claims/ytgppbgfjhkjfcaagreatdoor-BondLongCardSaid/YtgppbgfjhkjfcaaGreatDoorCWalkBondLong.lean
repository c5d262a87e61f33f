/- A part of the proof of planLone_card, bondLong_card. -/
import Derived.Test.YtgppbgfjhkjfcaaGreatDoorCSpD5
import Derived.Test.YtgppbgfjhkjfcaaGreatDoorCEvalW
set_option linter.unusedVariables false
set_option linter.unusedSimpArgs false
namespace Go.Ev.Code
open Go Go.Ev
theorem aj_ (e : Err) : L.call fD [dh e, .int .i64 (OU e)] = some (.bool true) := by
 rw [abJ]; simp
set_option maxHeartbeats 1000000 in
theorem aeP (hbeg : L.call dO [] = some (.bool true)) (n dW more : Int) : L.call gX [.int .i64 n, .int .i64 dW, .int .i64 more] = some (.bool true) := by
 have hday := RQ n
 have hfive := P9 [53] 4
 have hD1 := Int.emod_nonneg n (show (109573 : Int) ≠ 0 by omega)
 have hD2 := Int.emod_lt_of_pos n (show (0 : Int) < 109573 by omega)
 have q1 := WE (n := dW) (k := 4) (by omega) (by omega)
 have t1 : IntKind.i64.wrap (Int.tmod dW 4) = Int.tmod dW 4 := by
  have h1 : Int.tmod dW 4 = dW % 4 ∨ Int.tmod dW 4 = dW % 4 - 4 := by
   rw [Int.tmod_eq_emod]; split
   ·left; omega
   ·right; simp
  exact wrap64 _ (by omega)
 obtain ⟨dd, hDe⟩ : ∃ dd, dd = n % 109573 := ⟨_, rfl⟩
 rw [← hDe] at hday hD1 hD2
 obtain ⟨I, hI⟩ : ∃ I, I = min dd 97572 := ⟨_, rfl⟩
 have hId : bF I := ⟨by omega, by omega⟩
 have hmi : mi I ≤ 26010 := by
  have h1 := Ua hId (b := 97572) (by decide) (by omega)
  have := adB
  omega
 have hmb := XB hId
 obtain ⟨A, hA⟩ := ah5 (day := I) (n := 360) false hId (by omega) (by omega)
 have hAd := Ji hA
 have ham := Hq I 360 false
 rw [hA] at ham
 simp [okD] at ham
 obtain ⟨k, hk⟩ : ∃ k, k = Int.tmod more 3 := ⟨_, rfl⟩
 have hk1 : -2 ≤ k ∧ k ≤ 2 := by
  have h1 := Int.tmod_lt_of_pos more (show (0 : Int) < 3 by decide)
  have h2 := Int.lt_tmod_of_pos more (show (0 : Int) < 3 by decide)
  rw [← hk] at h1 h2
  omega
 have t2 : IntKind.i64.wrap (Int.tmod more 3) = k := by rw [← hk]; exact wrap64 _ (by omega)
 have e1 : IntKind.i64.wrap ((A : Int) + k) = (A : Int) + k := wrap64 _ (by omega)
 obtain ⟨F, hF, hFq⟩ : ∃ F : Int, IV F ∧ ([.int .i64 1, .int .i64 2, .int .i64 4, .int .i64 12] : List D)[(dW % 4).toNat]? = some (.int .i64 F) := by
  have h4 : dW % 4 = 0 ∨ dW % 4 = 1 ∨ dW % 4 = 2 ∨ dW % 4 = 3 := by omega
  rcases h4 with h | h | h | h <;> rw [h]
  ·exact ⟨1, .inl rfl, rfl⟩
  ·exact ⟨2, .inr (.inl rfl), rfl⟩
  ·exact ⟨4, .inr (.inr (.inl rfl)), rfl⟩
  ·exact ⟨12, .inr (.inr (.inr rfl)), rfl⟩
 have hkr : Int.tmod more 3 = k := hk.symm
 have hFe := (List.getElem?_eq_some_iff.1 hFq).2
 have hi1 : 0 ≤ dW % 4 ∧ dW % 4 < 4 := by omega
 have hl : Long ⟨I, A + k, F, [53], [49, 48, 48], 4, 1, false, 0⟩ A k :=
  ⟨by show 0 ≤ I; omega, by show I ≤ 97572; omega, hF, rfl, rfl, rfl, rfl, rfl, hA, hk1.1, hk1.2, rfl⟩
 have c1 := sN (b := ⟨I, A + k, F, [53], [49, 48, 48], 4, 1, false, 0⟩) (by simp) (by simp)
 have c2 := Wq (b := ⟨I, A + k, F, [53], [49, 48, 48], 4, 1, false, 0⟩) hl.sums amP ajq
 have hs := aj_ (chk ⟨I, A + k, F, [53], [49, 48, 48], 4, 1, false, 0⟩)
 have hw := hl.within
 have ho := hl.over
 simp only at hw ho
 generalize chk ⟨I, A + k, F, [53], [49, 48, 48], 4, 1, false, 0⟩ = ce at *
 unfold five bQ aW at hfive
 unfold bQ aW at c1 c2
 simp only at hfive c1 c2
 have hz : zeros 4 [.int .i64 0] = [.int .i64 0, .int .i64 0, .int .i64 0, .int .i64 0] := rfl
 have hmn : min dd 97572 = I := hI.symm
 refine aO Kq rfl (J9 ..) ?_
 by_cases hkp : 0 < k
 ·have := ho hkp
  subst this
  have hgt : (A : Int) < A + k := by omega
  simp [mg, oP] at c2
  simp [dh, fP, oP, OU] at c1 hs
  simp [mV, hbeg, hfive, hday, hmn, hz, q1, t1, hi1, hFq, hFe, ham, hkr, e1, c1, c2, hkp, hgt, hs]
 ·have := hw (by omega)
  have hgt : ¬ (A : Int) < A + k := by omega
  by_cases hf : F = 12
  ·rw [if_pos hf] at this
   subst this
   subst hf
   simp [mg, GH] at c2
   simp [dh, fP, GH, OU] at c1 hs
   simp [mV, hbeg, hfive, hday, hmn, hz, q1, t1, hi1, hFq, hFe, ham, hkr, e1, c1, c2, hkp, hgt, hs]
  ·rw [if_neg hf] at this
   subst this
   simp [mg] at c2
   simp [dh, OU] at c1 hs
   simp [mV, hbeg, hfive, hday, hmn, hz, q1, t1, hi1, hFq, hFe, ham, hkr, e1, c1, c2, hkp, hgt, hs, hf]
end Go.Ev.Code
