/- A part of the proof of planStub_card, planEnd_card, planLone_card, bondLong_card. -/
import Derived.Test.YtgppbgfjhkjfcaaGreatDoorBSpD2
set_option linter.unusedVariables false
set_option linter.unusedSimpArgs false
namespace Go.Ev.Code
open Go Go.Ev
set_option maxHeartbeats 1000000 in
theorem afB (hbeg : L.call dQ [] = some (.bool true)) (n k late : Int) : L.call nR [.int .i64 n, .int .i64 k, .int .i64 late] = some (.bool true) := by
 have hday := Jb n
 have hfive := zl [53] 4
 have hD1 := Int.emod_nonneg n (show (109573 : Int) ≠ 0 by omega)
 have hD2 := Int.emod_lt_of_pos n (show (0 : Int) < 109573 by omega)
 have q1 := Eh (n := k) (k := 8) (by omega) (by omega)
 have q2 := Eh (n := late) (k := 27) (by omega) (by omega)
 have t1 : IntKind.i64.wrap (Int.tmod k 8) = Int.tmod k 8 := by
  have h1 : Int.tmod k 8 = k % 8 ∨ Int.tmod k 8 = k % 8 - 8 := by
   rw [Int.tmod_eq_emod]; split
   ·left; omega
   ·right; simp
  exact wrap64 _ (by omega)
 have t2 : IntKind.i64.wrap (Int.tmod late 27) = Int.tmod late 27 := by
  have h1 : Int.tmod late 27 = late % 27 ∨ Int.tmod late 27 = late % 27 - 27 := by
   rw [Int.tmod_eq_emod]; split
   ·left; omega
   ·right; simp
  exact wrap64 _ (by omega)
 obtain ⟨D, hDe⟩ : ∃ D, D = n % 109573 := ⟨_, rfl⟩
 rw [← hDe] at hday hD1 hD2
 obtain ⟨M, hM⟩ : ∃ M, M = 20000 + D % 80000 := ⟨_, rfl⟩
 have e1 : Int.tmod D 80000 = D % 80000 := Int.tmod_eq_emod_of_nonneg hD1
 have e2 : IntKind.i64.wrap (D % 80000) = D % 80000 := wrap64 _ (by omega)
 have e3 : IntKind.i64.wrap (20000 + D % 80000) = M := by rw [wrap64 _ (by omega)]; omega
 obtain ⟨K, hK⟩ : ∃ K : Nat, (K : Int) = 2 + k % 8 := ⟨(2 + k % 8).toNat, by omega⟩
 obtain ⟨l, hl⟩ : ∃ l : Nat, (l : Int) = 1 + late % 27 := ⟨(1 + late % 27).toNat, by omega⟩
 have e4 : IntKind.i64.wrap (k % 8) = k % 8 := wrap64 _ (by omega)
 have e5 : IntKind.i64.wrap (2 + k % 8) = K := by rw [wrap64 _ (by omega)]; omega
 have e6 : IntKind.i64.wrap (late % 27) = late % 27 := wrap64 _ (by omega)
 have e7 : IntKind.i64.wrap (1 + late % 27) = l := by rw [wrap64 _ (by omega)]; omega
 have hMd : bW M := ⟨by omega, by omega⟩
 have hmi : 23458 ≤ mi M := by rw [← adI]; exact Ai (by decide) hMd (by omega)
 have hmb := LC hMd
 obtain ⟨A, hA⟩ := Ey (day := M) (n := -6 * (K : Int)) false hMd (by omega) (by omega)
 have hAd := nZ hA
 have hst : ∀ s : Int, 0 ≤ s → s ≤ 2 → Stub ⟨(A : Int) + l, M, 2, [53], [49, 48, 48], 4, s, false, 0⟩ K l A := fun s h1 h2 =>
  ⟨by show 20000 ≤ M; omega, by show M ≤ 99999; omega, rfl, rfl, by omega, by omega, by omega, by omega, hA, rfl, rfl, rfl, rfl, h1, h2, rfl⟩
 have s0 := hst 0 (by omega) (by omega)
 have s1 := hst 1 (by omega) (by omega)
 have s2 := hst 2 (by omega) (by omega)
 have p0 := oQ (b := ⟨(A : Int) + l, M, 2, [53], [49, 48, 48], 4, 0, false, 0⟩) (by simp) (by simp)
 have p1 := oQ (b := ⟨(A : Int) + l, M, 2, [53], [49, 48, 48], 4, 1, false, 0⟩) (by simp) (by simp)
 have p2 := oQ (b := ⟨(A : Int) + l, M, 2, [53], [49, 48, 48], 4, 2, false, 0⟩) (by simp) (by simp)
 obtain ⟨f1, x1, r1, a1, b1, c1, d1⟩ := s1.raw
 obtain ⟨f, x, r, fa, xa, raw, hlen⟩ := s2.raw
 have hf : f1 = f := by
  rw [s1.Xo] at a1; rw [s2.Xo] at fa
  exact Option.some.inj (a1.symm.trans fa)
 subst hf
 rw [s0.aoq rfl] at p0
 rw [s1.short rfl, c1] at p1
 rw [s2.long rfl raw] at p2
 have g1 := s2.irr (j := K - 1) (by omega) fa
 have g2 := s2.irr (j := K - 2) (by omega) xa
 have r1' := wJ (b := ⟨(A : Int) + l, M, 2, [53], [49, 48, 48], 4, 2, false, 0⟩) (by simp) (by simp) ((A : Int) + l, (f1 : Int))
 have r2' := wJ (b := ⟨(A : Int) + l, M, 2, [53], [49, 48, 48], 4, 2, false, 0⟩) (by simp) (by simp) ((A : Int) + l, (x : Int))
 simp only at g1 g2
 rw [g1] at r1'
 rw [g2] at r2'
 rw [s2.Xo] at fa xa
 simp only at fa xa
 have m0 := lM M (-6 * (K : Int)) false
 have m1 := lM M (-6 * ((K - 1 : Nat) : Int)) false
 have m2 := lM M (-6 * ((K - 2 : Nat) : Int)) false
 rw [hA] at m0
 rw [fa] at m1
 rw [xa] at m2
 have hsame := P_ (some (5, sH)) 5
 obtain ⟨z0, hz0⟩ : ∃ z, z = -6 * (K : Int) := ⟨_, rfl⟩
 obtain ⟨z1, hz1⟩ : ∃ z, z = -6 * ((K - 1 : Nat) : Int) := ⟨_, rfl⟩
 obtain ⟨z2, hz2⟩ : ∃ z, z = -6 * ((K - 2 : Nat) : Int) := ⟨_, rfl⟩
 rw [← hz0] at m0
 rw [← hz1] at m1
 rw [← hz2] at m2
 have u0 : IntKind.i64.wrap (-6 * (K : Int)) = z0 := by rw [wrap64 _ (by omega)]; omega
 have v1 : IntKind.i64.wrap ((K : Int) - 1) = ((K - 1 : Nat) : Int) := by rw [wrap64 _ (by omega)]; omega
 have v2 : IntKind.i64.wrap ((K : Int) - 2) = ((K - 2 : Nat) : Int) := by rw [wrap64 _ (by omega)]; omega
 have u1 : IntKind.i64.wrap (-6 * ((K - 1 : Nat) : Int)) = z1 := by rw [wrap64 _ (by omega)]; omega
 have u2 : IntKind.i64.wrap (-6 * ((K - 2 : Nat) : Int)) = z2 := by rw [wrap64 _ (by omega)]; omega
 have w1 : IntKind.i64.wrap ((A : Int) + l) = (A : Int) + l := wrap64 _ (by have := hAd.2; omega)
 have L1 : ((r1.length + 1 + 1 : Nat) : Int) = K := by omega
 have L2 : ((r.length + 1 : Nat) : Int) = ((K - 1 : Nat) : Int) := by omega
 have q0 : 0 < r.length + 1 := by omega
 have q0' : 0 < r1.length + 1 + 1 := by omega
 have kp : 0 < K := by omega
 have kp1 : 0 < K - 1 := by omega
 have q0I : (0 : Int) < ((r.length + 1 : Nat) : Int) := by omega
 have q0I' : (0 : Int) < ((r1.length + 1 + 1 : Nat) : Int) := by omega
 simp [Ld, dU] at hsame
 have hcl : Ev.D.clo 0 12 (gu 5 sH) = true := by rfl
 unfold rE jU dB bC at p0 p1 p2
 unfold dB bC pD at r1' r2'
 unfold five dB bC at hfive
 simp [dG, dU] at p0 p1 p2 r1' r2' hfive
 simp only [okD] at m0 m1 m2
 clear hz0 hz1 hz2 hA s0 s1 s2 hst g1 g2 fa xa raw c1 a1 b1
 generalize hI : (A : Int) + l = I at *
 generalize dG r = cr at *
 generalize dG r1 = cr1 at *
 generalize r1.length + 1 + 1 = n1 at *
 generalize r.length + 1 = n2 at *
 generalize K - 1 = K1 at *
 generalize K - 2 = K2 at *
 refine aX J_ rfl (J6 ..) ?_
 simp [yt, hbeg, hfive, hday, e1, e2, e3, t1, q1, e4, e5, t2, q2, e6, e7, m0, m1, m2, u0, u1, u2, v1, v2, w1, hI, p0, p1, p2, hsame, L1, L2, q0, q0', q0I, q0I', kp, kp1, r1', r2', dU, hcl]
end Go.Ev.Code
