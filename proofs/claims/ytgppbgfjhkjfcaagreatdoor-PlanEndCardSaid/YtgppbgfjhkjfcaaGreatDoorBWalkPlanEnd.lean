/- A part of the proof of planStub_card, planEnd_card, planLone_card, bondLong_card. -/
import Derived.Test.YtgppbgfjhkjfcaaGreatDoorBSpD4
set_option linter.unusedVariables false
set_option linter.unusedSimpArgs false
namespace Go.Ev.Code
open Go Go.Ev
theorem aku {b : aW} {K mo A : Nat} (h : Even b K mo A) {e : Bool} (he : b.ends = e) (hla : isLast b.dw.toNat = true) {fr : Int} (hq : ∀ m : Mem, ak .quo [.int .i64 12, .int .i64 fr] m = some (.int .i64 mo, m)) {cells : List D} (hcells : cells.all (D.clo 1 12) = true) : ∀ (j i : Nat), i + j = K →
  L.loop [2, 3, 13, 71, 72] [8] jH 1 [.int .i64 fr, .bool e, .sl K (dG (eu b)), .int .i64 K, .int .i64 i] [.live cells] =
    some (.exit 0, [.undef], [.live cells]) := by
 have hpc := ku (eu b) 1 11
 have hlen := h.len
 have hK2 := h.K2
 intro j
 induction j with
 | zero =>
   intro i hi
   have : i = K := by omega
   subst this
   generalize dG (eu b) = cs at *
   refine aU (wG ..) ?_
   simp [kN, hpc, hcells]
 | succ j ih =>
   intro i hi
   have hn := ih (i + 1) (by omega)
   have hlt : i < K := by omega
   obtain ⟨a, c, jj, p1, p2, p3, p4, p5⟩ := h.per hlt
   obtain ⟨g1, g2, g3, g4⟩ := DT p1
   have hb := A8 p2 p3
   rw [NQ, p4] at hb
   have e1 : IntKind.i64.wrap ((i : Int) + 1) = ((i + 1 : Nat) : Int) := by rw [wrap64 _ (by omega)]; omega
   have hL := adM p3
   generalize dG (eu b) = cs at *
   generalize i + 1 = i1 at *
   simp only at g1 g2
   refine aU (wG ..) ?_
   cases e with
   | false => simp [kN, hpc, hcells, hlt, g1, g2, hb, hq, e1, hn]
   | true =>
     rw [he] at p5
     rw [aij p5 hla] at hL
     simp [kN, hpc, hcells, hlt, g1, g2, hb, hL, hq, e1, hn]
set_option maxHeartbeats 1000000 in
theorem ahq (hbeg : L.call dQ [] = some (.bool true)) (y m dV : Int) (e : Bool) : L.call lG [.int .i64 y, .int .i64 m, .int .i64 dV, .bool e] = some (.bool true) := by
 have hfive := zl [52] 1
 have tm : ∀ (n k : Int), 0 < k → k ≤ 1000000 → IntKind.i64.wrap (Int.tmod n k) = Int.tmod n k ∧ IntKind.i64.wrap (n % k) = n % k ∧ Int.tmod (IntKind.i64.wrap (Int.tmod n k + k)) k = n % k := fun n k h1 h2 => by
  have q := Eh (n := n) h1 h2
  have h3 := Int.emod_nonneg n (show k ≠ 0 by omega)
  have h4 := Int.emod_lt_of_pos n h1
  have h5 : Int.tmod n k = n % k ∨ Int.tmod n k = n % k - k := by
   rw [Int.tmod_eq_emod]; split
   ·left; omega
   ·right
    have : (k.natAbs : Int) = k := by omega
    omega
  exact ⟨wrap64 _ (by omega), wrap64 _ (by omega), q⟩
 obtain ⟨y1, y2, y3⟩ := tm y 150 (by omega) (by omega)
 obtain ⟨m1, m2, m3⟩ := tm m 12 (by omega) (by omega)
 obtain ⟨f1, f2, f3⟩ := tm dV 3 (by omega) (by omega)
 obtain ⟨Y, hY⟩ : ∃ Y : Nat, (Y : Int) = 1960 + y % 150 := ⟨(1960 + y % 150).toNat, by omega⟩
 obtain ⟨M, hM⟩ : ∃ M : Nat, (M : Int) = 1 + m % 12 := ⟨(1 + m % 12).toNat, by omega⟩
 have e1 : IntKind.i64.wrap (1960 + y % 150) = Y := by rw [wrap64 _ (by omega)]; omega
 have e2 : IntKind.i64.wrap (1 + m % 12) = M := by rw [wrap64 _ (by omega)]; omega
 have hend := SV (y := Y) (m := M) (by omega) (by omega) (by omega)
 have hp := rP (y := Y) (m := M) (by omega) (by omega)
 have hc : qX Y M (bP Y M) := ⟨by omega, by omega, by omega, by omega, by omega, Nat.le_refl _⟩
 have hmk : lV Y M (bP Y M) = some (dayOf Y M (bP Y M)) := by unfold lV; rw [if_pos (by omega)]
 rw [hmk] at hend
 have hle := hc.le
 have hmi : mi (dayOf Y M (bP Y M) : Nat) = Y * 12 + M := yO hc
 have hla : isLast (((dayOf Y M (bP Y M) : Nat) : Int).toNat) = true := by
  rw [Int.toNat_natCast]; unfold isLast; rw [IG hc]; simp
 generalize dayOf Y M (bP Y M) = la at *
 have hlad : bW (la : Int) := ⟨by omega, by omega⟩
 obtain ⟨A, hA⟩ := Ey (day := (la : Int)) (n := -60) e hlad (by omega) (by omega)
 have ham := lM (la : Int) (-60) e
 rw [hA] at ham
 simp only [okD] at ham
 have key : ∀ (fr : Int) (K mo : Nat), months ⟨(A : Int), (la : Int), fr, [52], [49, 48, 48], 1, 0, e, 0⟩ = mo → 1 ≤ mo → mo ≤ 12 → K * mo = 60 → Even ⟨(A : Int), (la : Int), fr, [52], [49, 48, 48], 1, 0, e, 0⟩ K mo A := fun fr K mo h1 h2 h3 h4 =>
  ⟨hlad, by show 23458 ≤ mi (la : Int); omega, h1, h2, h3, h4, hA, rfl, by unfold sG; simp only; decide +kernel, by simp, by simp, rfl, rfl⟩
 have run : ∀ (fr : Int) (K mo : Nat), 1 ≤ fr → fr ≤ 4 → (K : Int) = 5 * fr → (dV % 3 = 0 ∧ fr = 1 ∨ dV % 3 = 1 ∧ fr = 2 ∨ dV % 3 = 2 ∧ fr = 4) → (∀ mm : Mem, ak .quo [.int .i64 12, .int .i64 fr] mm = some (.int .i64 mo, mm)) →
   Even ⟨(A : Int), (la : Int), fr, [52], [49, 48, 48], 1, 0, e, 0⟩ K mo A → L.call lG [.int .i64 y, .int .i64 m, .int .i64 dV, .bool e] = some (.bool true) := by
  intro fr K mo hf1 hf2 hK hcase hq hev
  have hpl := oQ (b := ⟨(A : Int), (la : Int), fr, [52], [49, 48, 48], 1, 0, e, 0⟩) (by simp) (by simp)
  rw [hev.plan] at hpl
  have hlen := hev.len
  have hlp := aku hev rfl hla hq (cells := [.int .i64 A, .int .i64 la, .int .i64 fr, .str [52], .str [49, 48, 48], .int .i64 1, .int .i64 0, .bool e, .int .i64 0]) (by simp) K 0 (by omega)
  unfold rE jU dB bC at hpl
  simp [dU] at hpl
  rw [hlen] at hpl
  unfold five dB bC at hfive
  simp at hfive hlp
  have hw5 : IntKind.i64.wrap (5 * fr) = K := by rw [wrap64 _ (by omega)]; omega
  generalize dG (eu ⟨(A : Int), (la : Int), fr, [52], [49, 48, 48], 1, 0, e, 0⟩) = cs at *
  simp [jl] at hend
  clear key hev hlen hq
  have hz : zeros 3 [D.int .i64 0] = [.int .i64 0, .int .i64 0, .int .i64 0] := by rfl
  have hr1 : (dV % 3).toNat < 3 := by omega
  have hr2 : 0 ≤ dV % 3 := by omega
  have hr3 : dV % 3 < 3 := by omega
  refine aX L_ rfl (L8 ..) ?_
  rcases hcase with ⟨h1, h2⟩ | ⟨h1, h2⟩ | ⟨h1, h2⟩
  all_goals
   subst h2
   have hw6 := hw5
   simp at hw6
   simp [hz, hw5, hw6, yZ, hbeg, hfive, y1, y2, y3, m1, m2, m3, f1, f2, f3, e1, e2, hend, ham, hpl, hw5, hlp, h1]
  trace_state
 have hr : dV % 3 = 0 ∨ dV % 3 = 1 ∨ dV % 3 = 2 := by omega
 rcases hr with h | h | h
 ·exact run 1 5 12 (by omega) (by omega) (by omega) (by omega) (fun mm => by rfl) (key 1 5 12 rfl (by omega) (by omega) (by omega))
 ·exact run 2 10 6 (by omega) (by omega) (by omega) (by omega) (fun mm => by rfl) (key 2 10 6 rfl (by omega) (by omega) (by omega))
 ·exact run 4 20 3 (by omega) (by omega) (by omega) (by omega) (fun mm => by rfl) (key 4 20 3 rfl (by omega) (by omega) (by omega))
end Go.Ev.Code
