/- A part of the proof of priceFalls_card, riskSigns_card, yieldBack_card, yieldEdge_card, yieldFalls_card. -/
import Derived.Test.YtnokhmkkpcfilabGreatDoorCWalkPriceFalls
set_option linter.unusedVariables false
set_option linter.unusedSimpArgs false
namespace Go.Ev.Code
open Go Go.Ev
theorem ado {q r : Rat} (h : q < r) : tX q r = -1 := by unfold tX; rw [if_pos h]
theorem akh (q : Rat) : tX q q = 0 := by unfold tX; rw [if_neg (by exact Rat.lt_irrefl), if_pos rfl]
theorem aqX {q r : Rat} (h : r < q) : tX q r = 1 := by
 unfold tX
 rw [if_neg (by rw [Rat.not_lt]; exact Rat.le_of_lt h), if_neg (by intro h2; rw [h2] at h; exact Rat.lt_irrefl h)]
theorem MR {b : aO} {s : Int} {f : Int → Rat} {q : Rat} {k : Nat} (hq : RB k q) (hk : k ≤ 800000)
  (hf : ∀ y, -2000000 ≤ y → y ≤ 100000000 → L.call fV [aS b, .int .i64 s, .int .i64 y] = some (.aZ [bF (f y), .aF]) ∧ RB 17000 (f y)) :
  ∀ (n : Nat) (low high : Int), (high - low).toNat ≤ n → low < high → -2000000 ≤ low → high ≤ 100000000 → q ≤ f low → f high < q →
  ∃ y, low ≤ y ∧ y < high ∧ q ≤ f y ∧ f (y + 1) < q ∧ L.loop [1, 2, 3, 8, 9] [6, 7, 8] sH 1 [.int .i64 s, bF q, .loc 0 0, .int .i64 low, .int .i64 high] [.live (aN b)] = some (.exit 1, [.undef, .undef, .int .i64 y], [.live (aN b)]) := by
 have hbc := g_ b 1
 have hbl := l7 b
 have hbd := lZ b 0 10
 intro n
 induction n with
 | zero => intro low high h1 h2; omega
 | succ n ih =>
   intro low high h1 h2 h3 h4 h5 h6
   have e1 : IntKind.i64.wrap (low + 1) = low + 1 := wrap64 _ (by omega)
   by_cases hd : low + 1 < high
   ·obtain ⟨at', hat⟩ : ∃ a, a = low + (high - low) / 2 := ⟨_, rfl⟩
    have hb1 : low < at' ∧ at' < high := by omega
    have e2 : IntKind.i64.wrap (high - low) = high - low := wrap64 _ (by omega)
    have e3 : Int.tdiv (high - low) 2 = (high - low) / 2 := Int.tdiv_eq_ediv_of_nonneg (by omega)
    have e4 : IntKind.i64.wrap ((high - low) / 2) = (high - low) / 2 := wrap64 _ (by omega)
    have e5 : IntKind.i64.wrap (low + (high - low) / 2) = at' := by rw [wrap64 _ (by omega)]; omega
    have e6 : IntKind.i64.wrap (low + IntKind.i64.wrap (Int.tdiv (IntKind.i64.wrap (high - low)) 2)) = at' := by rw [e2, e3, e4, e5]
    obtain ⟨hcall, hB⟩ := hf at' (by omega) (by omega)
    have hcmp := uq hB hq (by omega)
    rcases Classical.em (q ≤ f at') with hle | hle
    ·obtain ⟨y, y1, y2, y3, y4, y5⟩ := ih at' high (by omega) hb1.2 (by omega) h4 hle h6
     refine ⟨y, by omega, y2, y3, y4, ?_⟩
     have hge := Y0 hle
     generalize tX (f at') q = cm at *
     generalize f at' = v at *
     unfold aS at hcall
     generalize aN b = B at *
     have htk : B.take 9 = B := List.take_of_length_le (by omega)
     refine aQ (I7 ..) ?_
     simp [BU, e1, hd, e6, hbc, hbl, hbd, htk, hcall, hcmp, hge, y5]
    ·have hlt : f at' < q := Rat.not_le.1 hle
     obtain ⟨y, y1, y2, y3, y4, y5⟩ := ih low at' (by omega) hb1.1 h3 (by omega) h5 hlt
     refine ⟨y, y1, by omega, y3, y4, ?_⟩
     rw [ado hlt] at hcmp
     generalize f at' = v at *
     unfold aS at hcall
     generalize aN b = B at *
     have htk : B.take 9 = B := List.take_of_length_le (by omega)
     refine aQ (I7 ..) ?_
     simp [BU, e1, hd, e6, hbc, hbl, hbd, htk, hcall, hcmp, y5]
   ·obtain rfl : high = low + 1 := by omega
    refine ⟨low, by omega, by omega, h5, h6, ?_⟩
    generalize aN b = B at *
    refine aQ (I7 ..) ?_
    simp [BU, e1, hbc]
def jT : Except Er Int → D
 | .ok y => .aZ [.int .i64 y, .aF]
 | .error e => .aZ [.int .i64 0, dS e]
theorem Ll {b : aO} (hc : b.dX.length ≤ 1000000) (hr : b.dY.length ≤ 1000000) {s : Int} {e : Er} (hne : e ≠ none) (hE : FN b s (-2000000) = .error e) {x : D} (hx : x = .aK ∨ ∃ q, x = bF q) : L.call gZ [aS b, .int .i64 s, x] = some (jT (.error e)) := by
 obtain ⟨c1, _⟩ := qB hc hr s (y := -2000000) (by omega)
 rw [hE] at c1
 simp only [lY, jT] at c1 ⊢
 obtain ⟨i, mt, fq, c, rd', n, st, en, ex⟩ := b
 unfold aS aN at *
 simp only at *
 rcases hx with rfl | ⟨q, rfl⟩
 ·refine aJ yV rfl (yU ..) ?_
  rcases e with _ | ⟨c, _ | t⟩
  ·exact absurd rfl hne
  ·simp only [dS] at *
   simp [oO, c1]
  ·simp only [dS, eH] at *
   simp [oO, c1]
 ·refine aJ yV rfl (yU ..) ?_
  rcases e with _ | ⟨c, _ | t⟩
  ·exact absurd rfl hne
  ·simp only [dS] at *
   simp [oO, c1]
  ·simp only [dS, eH] at *
   simp [oO, c1]
theorem pK {b : aO} {s : Int} {f : Int → Rat} {q : Rat} {k : Nat} (hq : RB k q) (hk : k ≤ 800000)
  (hf : ∀ y, -2000000 ≤ y → y ≤ 100000000 → L.call fV [aS b, .int .i64 s, .int .i64 y] = some (.aZ [bF (f y), .aF]) ∧ RB 17000 (f y))
  (hM : ∀ y z, -2000000 ≤ y → y ≤ z → z ≤ 100000000 → f z ≤ f y) :
  (∃ y, -2000000 ≤ y ∧ y ≤ 100000000 ∧ q ≤ f y ∧ (∀ z, y < z → z ≤ 100000000 → f z < q) ∧ f 100000000 ≤ q ∧ L.call gZ [aS b, .int .i64 s, bF q] = some (jT (.ok y))) ∨
  ((f (-2000000) < q ∨ q < f 100000000) ∧ L.call gZ [aS b, .int .i64 s, bF q] = some (jT (.error (some (7, none))))) := by
 obtain ⟨c1, b1⟩ := hf (-2000000) (by omega) (by omega)
 obtain ⟨c2, b2⟩ := hf 100000000 (by omega) (by omega)
 have m1 := uq b1 hq (by omega)
 have m2 := uq b2 hq (by omega)
 by_cases h1 : f (-2000000) < q
 ·right
  refine ⟨.inl h1, ?_⟩
  rw [ado h1] at m1
  generalize tX (f 100000000) q = cm at *
  generalize f 100000000 = v2 at *
  generalize f (-2000000) = v1 at *
  simp only [jT, dS]
  obtain ⟨i, mt, fq, c, rd', n, st, en, ex⟩ := b
  unfold aS aN at *
  simp only at *
  refine aJ yV rfl (yU ..) ?_
  simp [oO, c1, c2, m1, m2, bT]
 have h1' : q ≤ f (-2000000) := Rat.not_lt.1 h1
 have hge := Y0 h1'
 by_cases h2 : q < f 100000000
 ·right
  refine ⟨.inr h2, ?_⟩
  rw [aqX h2] at m2
  generalize tX (f (-2000000)) q = cm at *
  generalize f 100000000 = v2 at *
  generalize f (-2000000) = v1 at *
  have hn : ¬ cm < 0 := by omega
  simp only [jT, dS]
  obtain ⟨i, mt, fq, c, rd', n, st, en, ex⟩ := b
  unfold aS aN at *
  simp only at *
  refine aJ yV rfl (yU ..) ?_
  simp [oO, c1, c2, m1, m2, hn, bT]
 left
 have h2' : f 100000000 ≤ q := Rat.not_lt.1 h2
 by_cases h3 : f 100000000 = q
 ·refine ⟨100000000, by omega, by omega, by rw [h3]; exact Rat.le_refl, fun z hz1 hz2 => by omega, h2', ?_⟩
  rw [h3, akh] at m2
  rw [h3] at c2
  generalize tX (f (-2000000)) q = cm at *
  generalize f (-2000000) = v1 at *
  have hn : ¬ cm < 0 := by omega
  simp only [jT]
  obtain ⟨i, mt, fq, c, rd', n, st, en, ex⟩ := b
  unfold aS aN at *
  simp only at *
  refine aJ yV rfl (yU ..) ?_
  simp [oO, c1, c2, m1, m2, hn]
 ·have h4 : f 100000000 < q := Rat.lt_of_le_of_ne h2' h3
  obtain ⟨y, y1, y2, y3, y4, y5⟩ := MR hq hk hf 102000000 (-2000000) 100000000 (by omega) (by omega) (by omega) (by omega) h1' h4
  refine ⟨y, y1, by omega, y3, fun z hz1 hz2 => ?_, h2', ?_⟩
  ·have := hM (y + 1) z (by omega) (by omega) hz2
   generalize f (y + 1) = u at *
   generalize f z = v at *
   grind
  ·rw [ado h4] at m2
   generalize tX (f (-2000000)) q = cm at *
   generalize f 100000000 = v2 at *
   generalize f (-2000000) = v1 at *
   have hn : ¬ cm < 0 := by omega
   simp only [jT]
   obtain ⟨i, mt, fq, c, rd', n, st, en, ex⟩ := b
   unfold aS aN at *
   simp only at *
   refine aJ yV rfl (yU ..) ?_
   simp [oO, c1, c2, m1, m2, hn, y5]
end Go.Ev.Code
