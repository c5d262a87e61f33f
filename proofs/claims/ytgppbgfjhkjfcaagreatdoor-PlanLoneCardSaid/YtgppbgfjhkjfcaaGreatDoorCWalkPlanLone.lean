/- A part of the proof of planLone_card, bondLong_card. -/
import Derived.Test.YtgppbgfjhkjfcaaGreatDoorCSpD3
set_option linter.unusedVariables false
set_option linter.unusedSimpArgs false
namespace Go.Ev.Code
open Go Go.Ev
set_option maxHeartbeats 1000000 in
theorem afs (hbeg : L.call dO [] = some (.bool true)) (n days : Int) (stub : Bool) : L.call gY [.int .i64 n, .int .i64 days, .bool stub] = some (.bool true) := by
 have hday := RQ n
 have hfive := P9 [53] 1
 have hD1 := Int.emod_nonneg n (show (109573 : Int) ≠ 0 by omega)
 have hD2 := Int.emod_lt_of_pos n (show (0 : Int) < 109573 by omega)
 have q1 := WE (n := days) (k := 150) (by omega) (by omega)
 have t1 : IntKind.i64.wrap (Int.tmod days 150) = Int.tmod days 150 := by
  have h1 : Int.tmod days 150 = days % 150 ∨ Int.tmod days 150 = days % 150 - 150 := by
   rw [Int.tmod_eq_emod]; split
   ·left; omega
   ·right; simp
  exact wrap64 _ (by omega)
 obtain ⟨D, hDe⟩ : ∃ D, D = n % 109573 := ⟨_, rfl⟩
 rw [← hDe] at hday hD1 hD2
 obtain ⟨M, hM⟩ : ∃ M, M = 20000 + D % 80000 := ⟨_, rfl⟩
 have e1 : Int.tmod D 80000 = D % 80000 := Int.tmod_eq_emod_of_nonneg hD1
 have e2 : IntKind.i64.wrap (D % 80000) = D % 80000 := wrap64 _ (by omega)
 have e3 : IntKind.i64.wrap (20000 + D % 80000) = M := by rw [wrap64 _ (by omega)]; omega
 obtain ⟨I, hI⟩ : ∃ I, I = M - 1 - days % 150 := ⟨_, rfl⟩
 have e4 : IntKind.i64.wrap (days % 150) = days % 150 := wrap64 _ (by omega)
 have e5 : IntKind.i64.wrap (M - 1) = M - 1 := wrap64 _ (by omega)
 have e6 : IntKind.i64.wrap (M - 1 - days % 150) = I := by rw [wrap64 _ (by omega)]; omega
 have hl : ∀ s : Int, 1 ≤ s → s ≤ 2 → Lone ⟨I, M, 2, [53], [49, 48, 48], 1, s, false, 0⟩ := fun s h1 h2 =>
  ⟨by show 20000 ≤ M; omega, by show M ≤ 99999; omega, by show I < M; omega, by show M ≤ I + 150; omega, rfl, rfl, rfl, rfl, h1, h2, rfl⟩
 have main : ∀ s : Int, 1 ≤ s → s ≤ 2 → ∃ a, L.call iU [bQ ⟨I, M, 2, [53], [49, 48, 48], 1, s, false, 0⟩] = some (.aS [.sl 1 [.int .i64 I, .int .i64 M], .aB]) ∧
   L.call qN [bQ ⟨I, M, 2, [53], [49, 48, 48], 1, s, false, 0⟩] = some (.aS [.sl 1 [.int .i64 M, .str a], .aB]) := by
  intro s h1 h2
  have h := hl s h1 h2
  have p := DI (b := ⟨I, M, 2, [53], [49, 48, 48], 1, s, false, 0⟩) (by simp) (by simp)
  have f := agY (b := ⟨I, M, 2, [53], [49, 48, 48], 1, s, false, 0⟩) (by simp) (by simp)
  obtain ⟨a, ha⟩ := h.flow
  rw [h.plan] at p
  rw [ha] at f
  exact ⟨PS a, p, f⟩
 obtain ⟨a1, p1, f1⟩ := main 1 (by omega) (by omega)
 obtain ⟨a2, p2, f2⟩ := main 2 (by omega) (by omega)
 unfold five bQ aW at hfive
 unfold bQ aW at p1 f1 p2 f2
 simp only at hfive p1 f1 p2 f2
 refine aO Kr rfl (J_ ..) ?_
 cases stub with
 | true => simp [sJ, hbeg, hfive, hday, e1, e2, e3, t1, q1, e4, e5, e6, p2, f2]
 | false => simp [sJ, hbeg, hfive, hday, e1, e2, e3, t1, q1, e4, e5, e6, p1, f1]
end Go.Ev.Code
