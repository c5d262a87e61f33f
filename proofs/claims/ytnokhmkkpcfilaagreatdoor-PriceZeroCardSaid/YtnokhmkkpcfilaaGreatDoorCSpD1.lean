/- A part of the proof of flowSum_card, flowParts_card, flowEx_card, accrWhole_card, priceZero_card. -/
import Derived.Test.YtnokhmkkpcfilaaGreatDoorCSpC
set_option linter.unusedVariables false
set_option linter.unusedSimpArgs false
section
namespace Go.Ev.Code
open Go Go.Ev
def leap (y : Nat) : Bool := decide (y % 4 = 0 ∧ (y % 100 ≠ 0 ∨ y % 400 = 0))
def bU (y m : Nat) : Nat := match m with
 | 2 => if leap y then 29 else 28
 | 4 | 6 | 9 | 11 => 30
 | 1 | 3 | 5 | 7 | 8 | 10 | 12 => 31
 | _ => 0
def dO (y : Nat) : Nat := 365 * (y - 1900) + ((y - 1) / 4 - (y - 1) / 100 + (y - 1) / 400) - 460
theorem Pn (a b : Nat) : Int.tdiv (a : Int) (b : Int) = ((a / b : Nat) : Int) := rfl
theorem Gw (a b : Nat) : Int.tmod (a : Int) (b : Int) = ((a % b : Nat) : Int) := rfl
theorem Ce {y : Nat} (h1 : 1900 ≤ y) (h2 : y ≤ 1000000) : L.call pY [.int .i64 y] = some (.int .i64 (dO y)) := by
 have e1 : IntKind.i64.wrap ((y : Int) - 1) = ((y - 1 : Nat) : Int) := by rw [wrap64 _ (by omega)]; omega
 have e2 : IntKind.i64.wrap ((y : Int) - 1900) = ((y - 1900 : Nat) : Int) := by rw [wrap64 _ (by omega)]; omega
 have q1 := Pn (y - 1) 4
 have q2 := Pn (y - 1) 100
 have q3 := Pn (y - 1) 400
 simp at q1 q2 q3
 have hb : dO y = 365 * (y - 1900) + ((y - 1) / 4 - (y - 1) / 100 + (y - 1) / 400) - 460 := rfl
 refine aO aeE rfl (aea ..) ?_
 simp (disch := omega) [U9, e1, e2, q1, q2, q3, wrap64]
 omega
theorem agh {y : Nat} (h : y ≤ 1000000) : L.call Bj [.int .i64 y] = some (.bool (leap y)) := by
 have q1 := Gw y 4
 have q2 := Gw y 100
 have q3 := Gw y 400
 simp at q1 q2 q3
 refine aO ah3 rfl (ahS ..) ?_
 unfold leap
 by_cases h4 : y % 4 = 0
 ·by_cases h100 : y % 100 = 0
  ·by_cases h400 : y % 400 = 0
   ·simp (disch := omega) [Ez, q1, q2, q3, h4, h100, h400]
    have : (y : Int) % 4 = 0 := by omega
    have : (y : Int) % 100 = 0 := by omega
    have : (y : Int) % 400 = 0 := by omega
    simp [*]
   ·have : (y : Int) % 4 = 0 := by omega
    have : (y : Int) % 100 = 0 := by omega
    have : ¬ (y : Int) % 400 = 0 := by omega
    simp (disch := omega) [Ez, q1, q2, q3, *]
  ·have : (y : Int) % 4 = 0 := by omega
   have : ¬ (y : Int) % 100 = 0 := by omega
   simp (disch := omega) [Ez, q1, q2, q3, *]
 ·have : ¬ (y : Int) % 4 = 0 := by omega
  simp (disch := omega) [Ez, q1, q2, q3, *]
end Go.Ev.Code
end
section
namespace Go.Ev.Code
open Go Go.Ev
theorem o8 {y m : Nat} (h : y ≤ 1000000) (h1 : 1 ≤ m) (h2 : m ≤ 12) : L.call iH [.int .i64 y, .int .i64 m] = some (.int .i64 (bU y m)) := by
 have hl := agh h
 refine aO aeD rfl (ad_ ..) ?_
 have : m = 1 ∨ m = 2 ∨ m = 3 ∨ m = 4 ∨ m = 5 ∨ m = 6 ∨ m = 7 ∨ m = 8 ∨ m = 9 ∨ m = 10 ∨ m = 11 ∨ m = 12 := by omega
 rcases this with rfl | rfl | rfl | rfl | rfl | rfl | rfl | rfl | rfl | rfl | rfl | rfl
 case inr.inl =>
  cases hy : leap y <;> rw [hy] at hl <;> simp [LU, bU, hl, hy]
 all_goals simp [LU, bU]
theorem TV (n : Int) : L.call GK [.int .i64 n] = some (.bool (decide (0 ≤ n ∧ n ≤ 109572))) := by
 refine aO alp rfl (alg ..) ?_
 by_cases h : 0 ≤ n
 ·by_cases h' : n ≤ 109572 <;> simp [Xw, h, h']
 ·simp [Xw, h]
def XH (n : Int) : Int := if 0 ≤ n ∧ n ≤ 109572 then (n + 1) % 7 else -1
theorem AO (n : Int) : L.call eu [.int .i64 n] = some (.int .i64 (XH n)) := by
 have h := TV n
 refine aO abE rfl (abq ..) ?_
 unfold XH
 by_cases hn : 0 ≤ n ∧ n ≤ 109572
 ·rw [decide_eq_true hn] at h
  have e : Int.tmod (n + 1) 7 = (n + 1) % 7 := Int.tmod_eq_emod_of_nonneg (by omega)
  simp (disch := omega) [JE, h, wrap64, hn, e]
 ·rw [decide_eq_false hn] at h
  simp [JE, h, hn]
def dD (y : Nat) : Nat → Nat
 | 0 => 0
 | k + 1 => dD y k + bU y (k + 1)
theorem yD (y m : Nat) : bU y m ≤ 31 := by unfold bU; split <;> (try split) <;> omega
theorem Ws (y k : Nat) : dD y k ≤ 31 * k := by
 induction k with
 | zero => simp [dD]
 | succ k ih => have := yD y (k + 1); simp only [dD]; omega
theorem Oq {y : Nat} (h : y ≤ 2200) : dO y ≤ 109573 := by unfold dO; omega
def mF (y m d : Nat) : D := .agg [.int .i64 y, .int .i64 m, .int .i64 d]
theorem aqg {y m d A : Nat} (hy : y ≤ 2200) (hm : m ≤ 12) (hA : A ≤ 1000000) : ∀ (j k : Nat), k + j = m → 1 ≤ k →
  L.loop [1, 4, 5] [4] yX 1 [.loc 0 0, .int .i64 ((A + dD y (k - 1) : Nat) : Int), .int .i64 k] [.live [.int .i64 y, .int .i64 m, .int .i64 d]] =
    some (.exit 0, [.int .i64 ((A + dD y (m - 1) : Nat) : Int)], [.live [.int .i64 y, .int .i64 m, .int .i64 d]]) := by
 intro j
 induction j with
 | zero =>
   intro k hk h1
   have : k = m := by omega
   subst this
   generalize A + dD y (k - 1) = B
   refine aQ (VL ..) ?_
   simp [O_]
 | succ j ih =>
   intro k hk h1
   have hl := o8 (y := y) (m := k) (by omega) h1 (by omega)
   have hn := ih (k + 1) (by omega) (by omega)
   have hc : A + dD y (k + 1 - 1) = A + dD y (k - 1) + bU y k := by
    rw [Nat.add_sub_cancel]
    obtain ⟨q, rfl⟩ : ∃ q, k = q + 1 := ⟨k - 1, by omega⟩
    simp only [dD, Nat.add_sub_cancel]; omega
   rw [hc] at hn
   have hb := Ws y (k - 1)
   have hb2 := yD y k
   have hlt : k < m := by omega
   have hBl : A + dD y (k - 1) ≤ 1000372 := by omega
   generalize A + dD y (k - 1) = B at *
   generalize A + dD y (m - 1) = C at *
   generalize bU y k = l at *
   have e1 : IntKind.i64.wrap ((B : Int) + l) = ((B + l : Nat) : Int) := by rw [wrap64 _ (by omega)]; omega
   have e2 : IntKind.i64.wrap ((k : Int) + 1) = ((k + 1 : Nat) : Int) := by rw [wrap64 _ (by omega)]; omega
   generalize B + l = B2 at *
   generalize k + 1 = k2 at *
   refine aQ (VL ..) ?_
   simp (disch := omega) [O_, hl, hlt, e1, e2, hn]
def dayOf (y m d : Nat) : Nat := dO y + dD y (m - 1) + d - 1
theorem aak {y m d : Nat} (h1 : 1900 ≤ y) (h2 : y ≤ 2199) (hm : 1 ≤ m) (hm2 : m ≤ 12) (hd : 1 ≤ d) (hd2 : d ≤ bU y m) :
  L.call ug [mF y m d] = some (.aZ [.int .i64 (dayOf y m d), .aF]) := by
 have hl := o8 (y := y) (m := m) (by omega) hm hm2
 have hb := Ce h1 (by omega)
 have hlp := aqg (y := y) (m := m) (d := d) (A := dO y + d - 1) (by omega) hm2 (by have := Oq (y := y) (by omega); have := yD y m; omega) (m - 1) 1 (by omega) (by omega)
 simp only [Nat.sub_self, dD, Nat.add_zero] at hlp
 have hbb := Oq (y := y) (by omega)
 have hml := yD y m
 have hC : dO y + d - 1 + dD y (m - 1) = dayOf y m d := by unfold dayOf; omega
 rw [hC, show ((1 : Nat) : Int) = 1 from rfl] at hlp
 have g1 : ¬ (y : Int) < 1900 := by omega
 have g2 : ¬ (2199 : Int) < y := by omega
 have g3 : ¬ (d : Int) < 1 := by omega
 generalize bU y m = l at *
 have g4 : ¬ (l : Int) < d := by omega
 have g5 : ¬ l < d := by omega
 have g6 : ¬ 2199 < y := by omega
 generalize dayOf y m d = r at *
 generalize dO y = b at *
 have e1 : IntKind.i64.wrap ((b : Int) + d) = ((b + d : Nat) : Int) := by rw [wrap64 _ (by omega)]; omega
 have e2 : IntKind.i64.wrap (((b + d : Nat) : Int) - 1) = ((b + d - 1 : Nat) : Int) := by rw [wrap64 _ (by omega)]; omega
 generalize b + d - 1 = b1 at *
 generalize b + d = b2 at *
 refine aO acQ rfl (acJ ..) ?_
 unfold mF
 simp (disch := omega) [QY, hl, hb, g1, g2, g3, g4, g5, g6, e1, e2, hlp]
end Go.Ev.Code
end
section
namespace Go.Ev.Code
open Go Go.Ev
theorem aod (y : Nat) : leap y = true ↔ (y % 4 = 0 ∧ (y % 100 ≠ 0 ∨ y % 400 = 0)) := by unfold leap; simp
theorem afl (y : Nat) : dD y 12 = if leap y then 366 else 365 := by
 cases h : leap y <;> simp [dD, bU, h]
theorem ahn {z k : Nat} (hk : 0 < k) : (z + 1) / k = z / k + (if (z + 1) % k = 0 then 1 else 0) := by
 rw [Nat.succ_div]
 by_cases h : (z + 1) % k = 0
 ·rw [if_pos h, if_pos (Nat.dvd_of_mod_eq_zero h)]
 ·rw [if_neg h, if_neg (fun hd => h (Nat.mod_eq_zero_of_dvd hd))]
theorem F7 {y : Nat} (h : 1900 ≤ y) : dO (y + 1) = dO y + dD y 12 := by
 rw [afl]
 have hl := aod y
 obtain ⟨z, rfl⟩ : ∃ z, y = z + 1 := ⟨y - 1, by omega⟩
 by_cases hz : z = 1899
 ·subst hz; decide
 have hz2 : 1900 ≤ z := by omega
 unfold dO
 have h4 := ahn (z := z) (k := 4) (by decide)
 have h100 := ahn (z := z) (k := 100) (by decide)
 have h400 := ahn (z := z) (k := 400) (by decide)
 have b1 : z / 100 ≤ z / 4 := Nat.div_le_div_left (by decide) (by decide)
 have b2 : 474 ≤ z / 4 := by omega
 have b3 : (z + 1) / 100 ≤ (z + 1) / 4 := Nat.div_le_div_left (by decide) (by decide)
 have b4 : 455 ≤ z / 4 - z / 100 := by omega
 have i1 : (z + 1) % 400 = 0 → (z + 1) % 100 = 0 := fun h => by omega
 have i2 : (z + 1) % 100 = 0 → (z + 1) % 4 = 0 := fun h => by omega
 rw [Nat.add_sub_cancel, Nat.add_sub_cancel]
 generalize (z + 1) % 4 = r4 at *
 generalize (z + 1) % 100 = r100 at *
 generalize (z + 1) % 400 = r400 at *
 generalize (z + 1) / 4 = p4 at *
 generalize (z + 1) / 100 = p100 at *
 generalize (z + 1) / 400 = p400 at *
 generalize z / 4 = s4 at *
 generalize z / 100 = s100 at *
 generalize z / 400 = s400 at *
 by_cases c4 : r4 = 0
 ·rw [if_pos c4] at h4
  by_cases c100 : r100 = 0
  ·rw [if_pos c100] at h100
   by_cases c400 : r400 = 0
   ·rw [if_pos c400] at h400
    rw [if_pos (hl.2 ⟨c4, .inr c400⟩)]; omega
   ·rw [if_neg c400] at h400
    rw [if_neg (fun h => by rcases (hl.1 h).2 with h | h <;> contradiction)]; omega
  ·rw [if_neg c100] at h100
   have c400 : ¬ r400 = 0 := fun h => c100 (i1 h)
   rw [if_neg c400] at h400
   rw [if_pos (hl.2 ⟨c4, .inl c100⟩)]; omega
 ·have c100 : ¬ r100 = 0 := fun h => c4 (i2 h)
  have c400 : ¬ r400 = 0 := fun h => c100 (i1 h)
  rw [if_neg c4] at h4
  rw [if_neg c100] at h100
  rw [if_neg c400] at h400
  rw [if_neg (fun h => c4 (hl.1 h).1)]; omega
theorem Ox (y : Nat) {j k : Nat} (h : j ≤ k) : dD y j ≤ dD y k := by
 induction k with
 | zero => have : j = 0 := by omega
           rw [this]; exact Nat.le_refl _
 | succ k ih =>
   rcases Nat.lt_or_ge k j with h1 | h1
   ·have : j = k + 1 := by omega
    rw [this]; exact Nat.le_refl _
   ·have := ih h1; simp only [dD]; omega
theorem Ji {x y : Nat} (h : 1900 ≤ x) (hxy : x ≤ y) : dO x ≤ dO y := by
 induction y with
 | zero => omega
 | succ y ih =>
   rcases Nat.lt_or_ge y x with h1 | h1
   ·have : x = y + 1 := by omega
    rw [this]; exact Nat.le_refl _
   ·have := ih h1; rw [F7 (by omega)]; omega
structure Au (y m d : Nat) : Prop where
 y1 : 1900 ≤ y
 y2 : y ≤ 2199
 m1 : 1 ≤ m
 m2 : m ≤ 12
 d1 : 1 ≤ d
 d2 : d ≤ bU y m
theorem Au.lo {y m d : Nat} (h : Au y m d) : dO y ≤ dayOf y m d := by have := h.d1; unfold dayOf; omega
theorem Au.hi {y m d : Nat} (h : Au y m d) : dayOf y m d < dO (y + 1) := by
 have h1 := h.d1
 have h2 := h.d2
 have h3 := h.m1
 have h5 := h.m2
 rw [F7 h.y1]
 have h4 := Ox y h5
 have h6 : dD y m = dD y (m - 1) + bU y m := by
  obtain ⟨q, rfl⟩ : ∃ q, m = q + 1 := ⟨m - 1, by omega⟩
  simp only [dD, Nat.add_sub_cancel]
 unfold dayOf; omega
theorem Au.le {y m d : Nat} (h : Au y m d) : dayOf y m d ≤ 109572 := by
 have h1 := h.hi
 have h2 := h.y1
 have h3 := h.y2
 have := Ji (x := y + 1) (y := 2200) (by omega) (by omega)
 have h4 : dO 2200 = 109573 := by decide
 omega
theorem ai' {y : Nat} (h : 1900 ≤ y) : dO y ≤ 366 * (y - 1900) := by
 unfold dO; omega
theorem alS {day y : Nat} (hd : day ≤ 109572) (hy1 : dO y ≤ day) (hy2 : day < dO (y + 1)) (hy3 : y ≤ 2199) : ∀ (j x : Nat), x + j = y → 1900 ≤ x →
  L.loop [0, 2, 4] [0, 2, 4] qX 2 [.int .i64 day, .loc 0 0, .loc 1 0] [.live [.int .i64 0, .int .i64 0, .int .i64 0], .live [.int .i64 x, .int .i64 1, .int .i64 0]] =
    some (.exit 0, [.int .i64 day, .loc 0 0, .loc 1 0], [.live [.int .i64 0, .int .i64 0, .int .i64 0], .live [.int .i64 y, .int .i64 1, .int .i64 0]]) := by
 intro j
 induction j with
 | zero =>
   intro x hx h1
   have : x = y := by omega
   subst this
   have hb := Ce (y := x + 1) (by omega) (by omega)
   have e1 : IntKind.i64.wrap ((x : Int) + 1) = ((x + 1 : Nat) : Int) := by rw [wrap64 _ (by omega)]; omega
   generalize dO (x + 1) = b at *
   generalize x + 1 = x2 at *
   have g : ¬ b ≤ day := by omega
   have g' : ¬ (b : Int) ≤ day := by omega
   refine aQ (Pz ..) ?_
   simp (disch := omega) [IU, e1, hb, g, g']
 | succ j ih =>
   intro x hx h1
   have hb := Ce (y := x + 1) (by omega) (by omega)
   have hn := ih (x + 1) (by omega) (by omega)
   have hmo := Ji (x := x + 1) (y := y) (by omega) (by omega)
   have e1 : IntKind.i64.wrap ((x : Int) + 1) = ((x + 1 : Nat) : Int) := by rw [wrap64 _ (by omega)]; omega
   generalize dO (x + 1) = b at *
   generalize x + 1 = x2 at *
   have g : b ≤ day := by omega
   have g' : (b : Int) ≤ day := by omega
   refine aQ (Pz ..) ?_
   simp (disch := omega) [IU, e1, hb, g, g', hn]
theorem alT {y m d : Nat} (h : Au y m d) : ∀ (j k : Nat), k + j = m → 1 ≤ k →
  L.loop [2, 4, 5] [2, 4, 5] qY 2 [.loc 0 0, .loc 1 0, .int .i64 ((dD y (m - 1) + (d - 1) - dD y (k - 1) : Nat) : Int)] [.live [.int .i64 0, .int .i64 0, .int .i64 0], .live [.int .i64 y, .int .i64 k, .int .i64 0]] =
    some (.exit 2, [.loc 0 0, .loc 1 0, .int .i64 ((d - 1 : Nat) : Int)], [.live [.int .i64 0, .int .i64 0, .int .i64 0], .live [.int .i64 y, .int .i64 m, .int .i64 0]]) := by
 have h1 := h.d1
 have h2 := h.d2
 have h3 := h.m2
 have h4 := h.y2
 have h5 := yD y m
 intro j
 induction j with
 | zero =>
   intro k hk hk1
   have : k = m := by omega
   subst this
   have hl := o8 (y := y) (m := k) (by omega) hk1 h3
   rw [show dD y (k - 1) + (d - 1) - dD y (k - 1) = d - 1 by omega]
   generalize bU y k = l at *
   have g : ¬ (l : Int) ≤ ((d - 1 : Nat) : Int) := by omega
   have g' : ¬ l ≤ d - 1 := by omega
   generalize d - 1 = d1 at *
   refine aQ (PD ..) ?_
   simp (disch := omega) [IV, hl, g, g']
 | succ j ih =>
   intro k hk hk1
   have hl := o8 (y := y) (m := k) (by omega) hk1 (by omega)
   have hn := ih (k + 1) (by omega) (by omega)
   have hc : dD y (k + 1 - 1) = dD y (k - 1) + bU y k := by
    rw [Nat.add_sub_cancel]
    obtain ⟨q, rfl⟩ : ∃ q, k = q + 1 := ⟨k - 1, by omega⟩
    simp only [dD, Nat.add_sub_cancel]
   have hmo := Ox y (j := k) (k := m - 1) (by omega)
   rw [Nat.add_sub_cancel] at hc hn
   rw [hc] at hmo hn
   have hub := Ws y (m - 1)
   have hub2 : dD y (m - 1) + (d - 1) ≤ 1000 := by omega
   have hmo2 : dD y (k - 1) + bU y k ≤ dD y (m - 1) + (d - 1) := by omega
   generalize dD y (m - 1) + (d - 1) = T at *
   generalize bU y k = l at *
   generalize dD y (k - 1) = c at *
   have g : l ≤ T - c := by omega
   have g' : (l : Int) ≤ ((T - c : Nat) : Int) := by omega
   have e1 : IntKind.i64.wrap (((T - c : Nat) : Int) - l) = ((T - (c + l) : Nat) : Int) := by rw [wrap64 _ (by omega)]; omega
   have e2 : IntKind.i64.wrap ((k : Int) + 1) = ((k + 1 : Nat) : Int) := by rw [wrap64 _ (by omega)]; omega
   generalize T - (c + l) = r2 at *
   generalize T - c = r1 at *
   generalize k + 1 = k2 at *
   refine aQ (PD ..) ?_
   simp (disch := omega) [IV, hl, g, g', e1, e2, hn]
theorem qZ {y m d : Nat} (h : Au y m d) : L.call fM [.int .i64 (dayOf y m d)] = some (.aZ [mF y m d, .aF]) := by
 have hle := h.le
 have hlo := h.lo
 have hhi := h.hi
 have hd1 := h.d1
 have hd2 := h.d2
 have hml := yD y m
 have hy := h.y2
 have hm2 := h.m2
 have hb := Ce h.y1 (by omega)
 have h366 := ai' (y := y + 1) (by have := h.y1; omega)
 have l1 := alS hle hlo hhi h.y2 (y - (1900 + dayOf y m d / 366)) (1900 + dayOf y m d / 366) (by omega) (by omega)
 have l2 := alT h (m - 1) 1 (by have := h.m1; omega) (by omega)
 have his := TV (dayOf y m d)
 rw [decide_eq_true (by omega)] at his
 have hT : dayOf y m d - dO y = dD y (m - 1) + (d - 1) := by unfold dayOf; omega
 simp only [Nat.sub_self, dD, Nat.sub_zero] at l2
 rw [← hT, show ((1 : Nat) : Int) = 1 from rfl] at l2
 have hbb := Oq (y := y) (by omega)
 have q1 := Pn (dayOf y m d) 366
 simp at q1
 generalize dayOf y m d = day at *
 have e1 : IntKind.i64.wrap ((day : Int) / 366) = ((day / 366 : Nat) : Int) := by rw [wrap64 _ (by omega)]; omega
 have e2 : IntKind.i64.wrap (1900 + ((day / 366 : Nat) : Int)) = ((1900 + day / 366 : Nat) : Int) := by rw [wrap64 _ (by omega)]; omega
 have e2' : IntKind.i64.wrap (1900 + (day : Int) / 366) = ((1900 + day / 366 : Nat) : Int) := by rw [wrap64 _ (by omega)]; omega
 generalize 1900 + day / 366 = x at *
 generalize dO y = b at *
 have e3 : IntKind.i64.wrap ((day : Int) - b) = ((day - b : Nat) : Int) := by rw [wrap64 _ (by omega)]; omega
 generalize day - b = r at *
 have e4 : IntKind.i64.wrap (((d - 1 : Nat) : Int) + 1) = (d : Int) := by rw [wrap64 _ (by omega)]; omega
 generalize d - 1 = dd at *
 refine aO VZ rfl (VK ..) ?_
 unfold mF
 simp (disch := omega) [O9, his, q1, e1, e2, e2', l1, hb, e3, l2, e4]
theorem SA {n : Int} (h : ¬ (0 ≤ n ∧ n ≤ 109572)) : L.call fM [.int .i64 n] = some (.aZ [mF 0 0 0, yj 4]) := by
 have his := TV n
 rw [decide_eq_false h] at his
 refine aO VZ rfl (VK ..) ?_
 unfold mF
 simp (disch := omega) [O9, his, bP]
theorem aro {day : Nat} (h : day ≤ 109572) : ∃ y m d, Au y m d ∧ dayOf y m d = day := by
 have hy : ∃ y, 1900 ≤ y ∧ dO y ≤ day ∧ day < dO (y + 1) := by
  have : ∀ k, day < dO (1900 + k) → ∃ y, 1900 ≤ y ∧ dO y ≤ day ∧ day < dO (y + 1) := by
   intro k
   induction k with
   | zero => intro h1; have : dO 1900 = 0 := by decide
             rw [Nat.add_zero, this] at h1; omega
   | succ k ih =>
     intro h1
     rcases Nat.lt_or_ge day (dO (1900 + k)) with h2 | h2
     ·exact ih h2
     ·exact ⟨1900 + k, by omega, h2, h1⟩
  exact this 300 (by have : dO (1900 + 300) = 109573 := by decide
                     omega)
 obtain ⟨y, h1, h2, h3⟩ := hy
 have hm : ∃ m, 1 ≤ m ∧ m ≤ 12 ∧ dD y (m - 1) ≤ day - dO y ∧ day - dO y < dD y m := by
  have : ∀ k, k ≤ 12 → day - dO y < dD y k → ∃ m, 1 ≤ m ∧ m ≤ 12 ∧ dD y (m - 1) ≤ day - dO y ∧ day - dO y < dD y m := by
   intro k
   induction k with
   | zero => intro _ h1; simp [dD] at h1
   | succ k ih =>
     intro hk h1
     rcases Nat.lt_or_ge (day - dO y) (dD y k) with h2 | h2
     ·exact ih (by omega) h2
     ·exact ⟨k + 1, by omega, hk, by rw [Nat.add_sub_cancel]; exact h2, h1⟩
  rw [F7 h1] at h3
  exact this 12 (by omega) (by omega)
 obtain ⟨m, m1, m2, m3, m4⟩ := hm
 have h6 : dD y m = dD y (m - 1) + bU y m := by
  obtain ⟨q, rfl⟩ : ∃ q, m = q + 1 := ⟨m - 1, by omega⟩
  simp only [dD, Nat.add_sub_cancel]
 have hy2 : y ≤ 2199 := by
  rcases Nat.lt_or_ge 2199 y with hh | hh
  ·have := Ji (x := 2200) (y := y) (by omega) hh
   have h4 : dO 2200 = 109573 := by decide
   omega
  ·exact hh
 refine ⟨y, m, day - dO y - dD y (m - 1) + 1, ⟨h1, hy2, m1, m2, by omega, by omega⟩, ?_⟩
 unfold dayOf; omega
end Go.Ev.Code
end
section
namespace Go.Ev.Code
open Go Go.Ev
theorem ain {y m d : Nat} (h : ¬ (1900 ≤ y ∧ y ≤ 2199)) (hy : y ≤ 1000000) (h1 : 1 ≤ m) (h2 : m ≤ 12) (hd : 1 ≤ d) : L.call ug [mF y m d] = some (.aZ [.int .i64 0, yj 4]) := by
 refine aO acQ rfl (acJ ..) ?_
 unfold mF
 by_cases g1 : y < 1900
 ·have g1' : (y : Int) < 1900 := by omega
  simp (disch := omega) [QY, g1, g1', bP]
 ·have g1' : ¬ (y : Int) < 1900 := by omega
  have g2 : 2199 < y := by omega
  have g2' : (2199 : Int) < y := by omega
  simp (disch := omega) [QY, g1, g1', g2, g2', bP]
theorem OO {y m : Nat} (h1 : 1 ≤ m) (h2 : m ≤ 12) : 28 ≤ bU y m := by
 have : m = 1 ∨ m = 2 ∨ m = 3 ∨ m = 4 ∨ m = 5 ∨ m = 6 ∨ m = 7 ∨ m = 8 ∨ m = 9 ∨ m = 10 ∨ m = 11 ∨ m = 12 := by omega
 rcases this with rfl | rfl | rfl | rfl | rfl | rfl | rfl | rfl | rfl | rfl | rfl | rfl <;> simp only [bU] <;> (try split) <;> omega
def kF : Option Nat → D
 | some n => .aZ [.int .i64 n, .aF]
 | none => .aZ [.int .i64 0, yj 4]
def qO (y m d : Nat) : Option Nat := if 1900 ≤ y ∧ y ≤ 2199 then some (dayOf y m d) else none
theorem aal {y m d : Nat} (hy : y ≤ 1000000) (h1 : 1 ≤ m) (h2 : m ≤ 12) (hd : 1 ≤ d) (hd2 : d ≤ bU y m) : L.call ug [mF y m d] = some (kF (qO y m d)) := by
 unfold qO
 split
 ·rename_i h; exact aak h.1 h.2 h1 h2 hd hd2
 ·rename_i h; exact ain h hy h1 h2 hd
theorem agT {y m : Nat} (hy : y ≤ 1000000) (h1 : 1 ≤ m) (h2 : m ≤ 12) : L.call yO [.int .i64 y, .int .i64 m] = some (kF (qO y m (bU y m))) := by
 have hl := o8 hy h1 h2
 have hp := OO (y := y) h1 h2
 have h := aal hy h1 h2 (d := bU y m) (by omega) (Nat.le_refl _)
 unfold mF at h
 generalize hr : qO y m (bU y m) = r at *
 generalize bU y m = l at *
 refine aO ah5 rfl (ahU ..) ?_
 cases r <;> simp [RD, hl, h, kF] at h ⊢ <;> simp [RD, hl, h, kF]
theorem afa {y m d : Nat} (h : Au y m d) : L.call sQ [.int .i64 (dayOf y m d)] = some (.bool (decide (d = bU y m))) := by
 have hc := qZ h
 have hl := o8 (y := y) (m := m) (by have := h.y2; omega) h.m1 h.m2
 unfold mF at hc
 generalize dayOf y m d = day at *
 generalize bU y m = l at *
 refine aO afQ rfl (afI ..) ?_
 have : ((d : Int) = l) ↔ d = l := by omega
 by_cases hdl : d = l <;> simp [Xx, hc, hl, hdl, this]
def Jg (y m d : Nat) (n : Int) (e : Bool) : Option Nat :=
 if -3600 ≤ n ∧ n ≤ 3600 then
  (let a := ((y * 12 + m - 1 : Nat) : Int) + n
   let y' := (a / 12).toNat
   let m' := (a % 12).toNat + 1
   qO y' m' (if e = true ∧ d = bU y m then bU y' m' else min d (bU y' m')))
 else none
set_option maxHeartbeats 1000000 in
theorem agS {y m d : Nat} (h : Au y m d) (n : Int) (e : Bool) : L.call mW [.int .i64 (dayOf y m d), .int .i64 n, .bool e] = some (kF (Jg y m d n e)) := by
 have hc := qZ h
 have hla := afa h
 unfold mF at hc
 have h1 := h.y1
 have h2 := h.y2
 have h3 := h.m1
 have h4 := h.m2
 have h5 := h.d1
 have h6 := h.d2
 by_cases hn : -3600 ≤ n ∧ n ≤ 3600
 ·obtain ⟨a, ha⟩ : ∃ a : Nat, ((y * 12 + m - 1 : Nat) : Int) + n = a := ⟨(((y * 12 + m - 1 : Nat) : Int) + n).toNat, by omega⟩
  have ha2 : a ≤ 1000000 := by omega
  have e1 : IntKind.i64.wrap ((y : Int) * 12) = ((y * 12 : Nat) : Int) := by rw [wrap64 _ (by omega)]; omega
  have e2 : IntKind.i64.wrap (((y * 12 : Nat) : Int) + m) = ((y * 12 + m : Nat) : Int) := by rw [wrap64 _ (by omega)]; omega
  have e3 : IntKind.i64.wrap (((y * 12 + m : Nat) : Int) - 1) = ((y * 12 + m - 1 : Nat) : Int) := by rw [wrap64 _ (by omega)]; omega
  have e4 : IntKind.i64.wrap (((y * 12 + m - 1 : Nat) : Int) + n) = (a : Int) := by rw [ha, wrap64 _ (by omega)]
  have q1 := Pn a 12
  have q2 := Gw a 12
  simp at q1 q2
  have e5 : IntKind.i64.wrap ((a : Int) / 12) = ((a / 12 : Nat) : Int) := by rw [wrap64 _ (by omega)]; omega
  have e6 : IntKind.i64.wrap ((a : Int) % 12 + 1) = ((a % 12 + 1 : Nat) : Int) := by rw [wrap64 _ (by omega)]; omega
  have hA : Jg y m d n e = qO (a / 12) (a % 12 + 1) (if e = true ∧ d = bU y m then bU (a / 12) (a % 12 + 1) else min d (bU (a / 12) (a % 12 + 1))) := by
   unfold Jg
   rw [if_pos hn]
   simp only [ha]
   have : ((a : Int) / 12).toNat = a / 12 := by omega
   have : ((a : Int) % 12).toNat = a % 12 := by omega
   simp only [*]
  rw [hA]
  have hy' : a / 12 ≤ 1000000 := by omega
  have hm' : 1 ≤ a % 12 + 1 ∧ a % 12 + 1 ≤ 12 := by omega
  have hEnd := agT hy' hm'.1 hm'.2
  have hLen := o8 hy' hm'.1 hm'.2
  have hp := OO (y := a / 12) hm'.1 hm'.2
  have hmk := aal hy' hm'.1 hm'.2 (d := min d (bU (a / 12) (a % 12 + 1))) (by omega) (by omega)
  unfold mF at hmk
  have hmin : min (d : Int) (bU (a / 12) (a % 12 + 1)) = ((min d (bU (a / 12) (a % 12 + 1)) : Nat) : Int) := by omega
  have hg1 : ¬ n < -3600 := by omega
  have hg2 : ¬ 3600 < n := by omega
  generalize y * 12 + m - 1 = b1 at *
  generalize y * 12 + m = b2 at *
  generalize y * 12 = b3 at *
  generalize a % 12 + 1 = m' at *
  generalize a / 12 = y' at *
  generalize dayOf y m d = day at *
  generalize bU y m = lm at *
  generalize hl' : bU y' m' = l' at *
  by_cases hE : e = true ∧ d = lm
  ·obtain ⟨rfl, hdl⟩ := hE
   rw [if_pos ⟨rfl, hdl⟩]
   rw [decide_eq_true hdl] at hla
   generalize qO y' m' l' = r at *
   cases r with
   | none =>
     simp [kF] at hEnd
     refine aO z_ rfl (zZ ..) ?_
     simp (config := {maxSteps := 1000000}) [nP, hc, hg1, hg2, e1, e2, e3, e4, q1, q2, e5, e6, hla, hEnd, kF]
   | some r =>
     simp [kF] at hEnd
     refine aO z_ rfl (zZ ..) ?_
     simp (config := {maxSteps := 1000000}) [nP, hc, hg1, hg2, e1, e2, e3, e4, q1, q2, e5, e6, hla, hEnd, kF]
  ·rw [if_neg hE]
   generalize min d l' = dm at *
   have hla' : e = true → L.call sQ [.int .i64 day] = some (.bool false) := fun he => by
    rw [hla, decide_eq_false (fun h => hE ⟨he, h⟩)]
   generalize qO y' m' dm = r at *
   cases r with
   | none =>
     simp [kF] at hmk
     refine aO z_ rfl (zZ ..) ?_
     cases e with
     | false => simp (config := {maxSteps := 1000000}) [nP, hc, hg1, hg2, e1, e2, e3, e4, q1, q2, e5, e6, hLen, hmin, hmk, kF]
     | true => simp (config := {maxSteps := 1000000}) [nP, hc, hg1, hg2, e1, e2, e3, e4, q1, q2, e5, e6, hla' rfl, hLen, hmin, hmk, kF]
   | some r =>
     simp [kF] at hmk
     refine aO z_ rfl (zZ ..) ?_
     cases e with
     | false => simp (config := {maxSteps := 1000000}) [nP, hc, hg1, hg2, e1, e2, e3, e4, q1, q2, e5, e6, hLen, hmin, hmk, kF]
     | true => simp (config := {maxSteps := 1000000}) [nP, hc, hg1, hg2, e1, e2, e3, e4, q1, q2, e5, e6, hla' rfl, hLen, hmin, hmk, kF]
 ·have hA : Jg y m d n e = none := by unfold Jg; rw [if_neg hn]
  rw [hA]
  generalize dayOf y m d = day at *
  refine aO z_ rfl (zZ ..) ?_
  by_cases hg1 : n < -3600
  ·simp (config := {maxSteps := 1000000}) [nP, hc, hg1, bP, kF]
  ·have hg2 : 3600 < n := by omega
   simp (config := {maxSteps := 1000000}) [nP, hc, hg1, hg2, bP, kF]
theorem ae' {day : Int} (h : ¬ (0 ≤ day ∧ day ≤ 109572)) (n : Int) (e : Bool) : L.call mW [.int .i64 day, .int .i64 n, .bool e] = some (.aZ [.int .i64 0, yj 4]) := by
 have hc := SA h
 unfold mF at hc
 refine aO z_ rfl (zZ ..) ?_
 simp at hc
 simp (config := {maxSteps := 1000000}) [nP, hc]
theorem Zv {y m d y' m' d' : Nat} (h : Au y m d) (h' : Au y' m' d') : L.call jK [.int .i64 (dayOf y m d), .int .i64 (dayOf y' m' d')] = some (.int .i64 (((y' * 12 + m' : Nat) : Int) - ((y * 12 + m : Nat) : Int))) := by
 have hc := qZ h
 have hc' := qZ h'
 unfold mF at hc hc'
 have h1 := h.y1
 have h2 := h.y2
 have h3 := h.m2
 have h1' := h'.y1
 have h2' := h'.y2
 have h3' := h'.m2
 generalize dayOf y m d = day at *
 generalize dayOf y' m' d' = day' at *
 have hr : ((y' * 12 + m' : Nat) : Int) - ((y * 12 + m : Nat) : Int) = ((y' : Int) - y) * 12 + m' - m := by omega
 rw [hr]
 have e1 : IntKind.i64.wrap ((y' : Int) - y) = (y' : Int) - y := wrap64 _ (by omega)
 have e2 : IntKind.i64.wrap (((y' : Int) - y) * 12) = ((y' : Int) - y) * 12 := wrap64 _ (by omega)
 have e3 : IntKind.i64.wrap (((y' : Int) - y) * 12 + m') = ((y' : Int) - y) * 12 + m' := wrap64 _ (by omega)
 have e4 : IntKind.i64.wrap (((y' : Int) - y) * 12 + m' - m) = ((y' : Int) - y) * 12 + m' - m := wrap64 _ (by omega)
 generalize hk4 : ((y' : Int) - y) * 12 + m' - m = k4 at *
 rw [← hk4]
 refine aO ZW rfl (ZR ..) ?_
 simp [QZ, hc, hc', e1, e2, e3]
 rw [hk4]; exact e4
end Go.Ev.Code
end
section
namespace Go.Ev.Code
open Go Go.Ev
def af' : Nat → Nat → Nat → Nat
 | 0, y, _ => y
 | f + 1, y, day => if dO (y + 1) ≤ day then af' f (y + 1) day else y
def af8 : Nat → Nat → Nat → Nat → Nat × Nat
 | 0, _, m, r => (m, r)
 | f + 1, y, m, r => if bU y m ≤ r then af8 f y (m + 1) (r - bU y m) else (m, r)
def kU (day : Nat) : Nat × Nat × Nat :=
 let y := af' 300 (1900 + day / 366) day
 let r := af8 12 y 1 (day - dO y)
 (y, r.1, r.2 + 1)
theorem apT {day y : Nat} (h1 : dO y ≤ day) (h2 : day < dO (y + 1)) : ∀ (f x : Nat), x ≤ y → y < x + f → 1900 ≤ x → af' f x day = y := by
 intro f
 induction f with
 | zero => intro x hx hf; omega
 | succ f ih =>
   intro x hx hf h19
   simp only [af']
   rcases Nat.lt_or_ge x y with h | h
   ·have := Ji (x := x + 1) (y := y) (by omega) h
    rw [if_pos (by omega)]
    exact ih (x + 1) h (by omega) (by omega)
   ·have : x = y := by omega
    subst this
    rw [if_neg (by omega)]
theorem apS {y m d : Nat} (hd : d < bU y m) : ∀ (f k : Nat), 1 ≤ k → k ≤ m → m < k + f → af8 f y k (dD y (m - 1) + d - dD y (k - 1)) = (m, d) := by
 intro f
 induction f with
 | zero => intro k h1 h2 h3; omega
 | succ f ih =>
   intro k h1 h2 h3
   simp only [af8]
   rcases Nat.lt_or_ge k m with h | h
   ·have hc : dD y (k - 1) + bU y k = dD y k := by
     obtain ⟨q, rfl⟩ : ∃ q, k = q + 1 := ⟨k - 1, by omega⟩
     simp only [dD, Nat.add_sub_cancel]
    have hm := Ox y (j := k) (k := m - 1) (by omega)
    have := ih (k + 1) (by omega) (by omega) (by omega)
    rw [Nat.add_sub_cancel, ← hc, ← Nat.sub_sub] at this
    rw [if_pos (by omega)]
    exact this
   ·have : k = m := by omega
    subst this
    rw [show dD y (k - 1) + d - dD y (k - 1) = d by omega, if_neg (by omega)]
theorem af_ {y m d : Nat} (h : Au y m d) : kU (dayOf y m d) = (y, m, d) := by
 have h1 := h.y1
 have h2 := h.y2
 have hd1 := h.d1
 have hd2 := h.d2
 have hm1 := h.m1
 have hm2 := h.m2
 have h366 := ai' (y := y + 1) (by omega)
 have hhi := h.hi
 unfold kU
 have hy : af' 300 (1900 + dayOf y m d / 366) (dayOf y m d) = y := apT h.lo h.hi 300 _ (by omega) (by omega) (by omega)
 rw [hy]
 have hr : dayOf y m d - dO y = dD y (m - 1) + (d - 1) := by unfold dayOf; omega
 have hm : af8 12 y 1 (dayOf y m d - dO y) = (m, d - 1) := by
  rw [hr]
  have := apS (y := y) (m := m) (d := d - 1) (by omega) 12 1 (by omega) hm1 (by omega)
  simpa [dD] using this
 simp only [hm]
 rw [show d - 1 + 1 = d by omega]
abbrev bQ (n : Int) : Prop := 0 ≤ n ∧ n ≤ 109572
theorem gV {n : Int} (h : bQ n) : ∃ y m d, Au y m d ∧ n = (dayOf y m d : Nat) ∧ kU n.toNat = (y, m, d) := by
 obtain ⟨y, m, d, hc, hd⟩ := aro (day := n.toNat) (by omega)
 refine ⟨y, m, d, hc, by omega, ?_⟩
 rw [← hd, af_ hc]
def xk (day n : Int) (e : Bool) : Option Nat := if bQ day then Jg (kU day.toNat).1 (kU day.toNat).2.1 (kU day.toNat).2.2 n e else none
theorem Rj (day n : Int) (e : Bool) : L.call mW [.int .i64 day, .int .i64 n, .bool e] = some (kF (xk day n e)) := by
 unfold xk
 by_cases h : bQ day
 ·obtain ⟨y, m, d, hc, hd, ho⟩ := gV h
  rw [if_pos h, ho]
  rw [hd]
  exact agS hc n e
 ·rw [if_neg h]
  exact ae' h n e
def Aj (a b : Int) : Int := (((kU b.toNat).1 * 12 + (kU b.toNat).2.1 : Nat) : Int) - (((kU a.toNat).1 * 12 + (kU a.toNat).2.1 : Nat) : Int)
theorem QK {a b : Int} (ha : bQ a) (hb : bQ b) : L.call jK [.int .i64 a, .int .i64 b] = some (.int .i64 (Aj a b)) := by
 obtain ⟨y, m, d, hc, hd, ho⟩ := gV ha
 obtain ⟨y', m', d', hc', hd', ho'⟩ := gV hb
 unfold Aj
 rw [ho, ho', hd, hd']
 exact Zv hc hc'
theorem agR {y m d n : Nat} (h1 : 1 ≤ m) (h2 : m ≤ 12) (hd : 1 ≤ d) (hd2 : d ≤ bU y m) (h : qO y m d = some n) : Au y m d ∧ n = dayOf y m d := by
 unfold qO at h
 split at h <;> simp at h
 rename_i hy
 exact ⟨⟨hy.1, hy.2, h1, h2, hd, hd2⟩, h.symm⟩
theorem TP {day n : Int} {e : Bool} {r : Nat} (h : xk day n e = some r) : bQ r := by
 unfold xk at h
 split at h <;> try (simp at h; done)
 rename_i hd
 obtain ⟨y, m, d, hc, hd, ho⟩ := gV hd
 rw [ho] at h
 unfold Jg at h
 split at h <;> try (simp at h; done)
 simp only at h
 have hm := h
 have h12 : 1 ≤ ((((y * 12 + m - 1 : Nat) : Int) + n) % 12).toNat + 1 ∧ ((((y * 12 + m - 1 : Nat) : Int) + n) % 12).toNat + 1 ≤ 12 := by omega
 generalize ((((y * 12 + m - 1 : Nat) : Int) + n) % 12).toNat + 1 = m' at *
 generalize ((((y * 12 + m - 1 : Nat) : Int) + n) / 12).toNat = y' at *
 have hp := OO (y := y') h12.1 h12.2
 have hd1 := hc.d1
 obtain ⟨q1, q2⟩ := agR h12.1 h12.2 (by split <;> omega) (by split <;> omega) hm
 have := q1.le
 rw [← q2] at this
 constructor <;> omega
end Go.Ev.Code
end
section
namespace Go.Ev.Code
open Go Go.Ev
def fQ (c : Int) (s : List UInt8) : D := .iface jl (.ref [.int .i64 c, .str s, .aF] 0)
theorem yu {c : Int} (h : c ≠ 0) (s : List UInt8) : L.call fU [.int .i64 c, .str s] = some (fQ c s) := by
 refine aO ah4 rfl (ahT ..) ?_
 unfold fQ
 simp [YK, h]
def amV : List UInt8 := [105, 115, 115, 117, 101]
def NJ : List UInt8 := [109, 97, 116, 117, 114, 101]
def NI : List UInt8 := [99, 111, 117, 112, 111, 110]
def NK : List UInt8 := [114, 101, 100, 101, 101, 109]
def apd : List UInt8 := [102, 114, 101, 113]
def amT : List UInt8 := [99, 111, 117, 110, 116]
def Q8 : List UInt8 := [115, 116, 117, 98]
def tEx : List UInt8 := [101, 120]
def amU : List UInt8 := [102, 108, 111, 119, 115]
structure aN where
 issue : Int
 fO : Int
 dQ : Int
 d_ : List UInt8
 eH : List UInt8
 count : Int
 stub : Int
 ends : Bool
 ex : Int
def aS (b : aN) : List D := [.int .i64 b.issue, .int .i64 b.fO, .int .i64 b.dQ, .str b.d_, .str b.eH, .int .i64 b.count, .int .i64 b.stub, .bool b.ends, .int .i64 b.ex]
abbrev bf (b : aN) : D := .agg (aS b)
def months (b : aN) : Int := if b.dQ = 1 then 12 else if b.dQ = 2 then 6 else if b.dQ = 4 then 3 else if b.dQ = 12 then 1 else 0
theorem Jk (b : aN) : L.call kN [bf b] = some (.int .i64 (months b)) := by
 obtain ⟨i, m, f, c, r, n, s, e, x⟩ := b
 unfold months bf aS
 refine aO aeB rfl (ad8 ..) ?_
 simp only
 by_cases h1 : f = 1
 ·subst h1; simp [vU, wrap64]
 by_cases h2 : f = 2
 ·subst h2; simp [vU, wrap64]
 by_cases h4 : f = 4
 ·subst h4; simp [vU, wrap64]
 by_cases h12 : f = 12
 ·subst h12; simp [vU, wrap64]
 ·simp [vU, h1, h2, h4, h12]
abbrev Err := Option (Int × List UInt8)
def dK : Err → D
 | none => .aF
 | some (c, s) => fQ c s
def MI (b : aN) : Err :=
 if ¬ bQ b.issue then some (4, amV) else if ¬ bQ b.fO then some (4, NJ) else if b.fO ≤ b.issue then some (5, NJ) else
  match xk b.issue 360 false with
  | some e => if (e : Int) < b.fO then some (5, NJ) else none
  | none => none
theorem ZM {n : Int} : XH n < 0 ↔ ¬ bQ n := by
 unfold XH
 split
 ·rename_i h; constructor
  ·intro h1; omega
  ·intro h1; exact absurd h h1
 ·rename_i h; simp [h]
theorem af2 (b : aN) : L.call Bg [bf b] = some (dK (MI b)) := by
 obtain ⟨i, m, f, c, r, n, s, e, x⟩ := b
 have w1 := AO i
 have w2 := AO m
 have n1 := @ZM i
 have n2 := @ZM m
 have ha := Rj i 360 false
 have f1 := fun s => yu (c := 4) (by decide) s
 have f2 := fun s => yu (c := 5) (by decide) s
 unfold MI bf aS
 simp only
 generalize XH i = wi at *
 generalize XH m = wm at *
 refine aO ah0 rfl (ahP ..) ?_
 by_cases h1 : bQ i
 ·have g1 : ¬ wi < 0 := fun h => (n1.1 h) h1
  by_cases h2 : bQ m
  ·have g2 : ¬ wm < 0 := fun h => (n2.1 h) h2
   by_cases h3 : m ≤ i
   ·rw [if_neg (fun h => h h1), if_neg (fun h => h h2), if_pos h3]
    simp [xI, w1, w2, g1, g2, h3, f2, dK, NJ, fQ]
   ·rw [if_neg (fun h => h h1), if_neg (fun h => h h2), if_neg h3]
    generalize xk i 360 false = r at *
    cases r with
    | none => simp [kF] at ha; simp [xI, w1, w2, g1, g2, h3, ha, dK]
    | some e =>
      simp [kF] at ha
      by_cases h4 : (e : Int) < m
      ·simp [xI, w1, w2, g1, g2, h3, ha, h4, f2, dK, NJ, fQ]
      ·simp [xI, w1, w2, g1, g2, h3, ha, h4, dK]
  ·have g2 : wm < 0 := n2.2 h2
   rw [if_neg (fun h => h h1), if_pos h2]
   simp [xI, w1, w2, g1, g2, f1, dK, NJ, fQ]
 ·have g1 : wi < 0 := n1.2 h1
  rw [if_pos h1]
  simp [xI, w1, g1, f1, dK, amV, fQ]
end Go.Ev.Code
end
section
namespace Go.Ev.Code
open Go Go.Ev
theorem MC {n : Int} (h : -9223372036854775808 ≤ n ∧ n ≤ 9223372036854775807) : L.call qL [.int .i64 n] = some (bZ (Rat.divInt n 1)) := by
 have := oL h (d := 1) (by omega) (by omega)
 refine aO aln rfl (ale ..) ?_
 simp [adI, this]
def UO : Option (Rat × Nat) → D
 | some (q, n) => .aZ [bZ q, .bool (decide (n ≤ 6)), .aF]
 | none => .aZ [.aV, .bool true, yj 1]
theorem EJ {s : List UInt8} (h : s.length ≤ 1000000) : L.call pX [.str s] = some (UO (yY s)) := by
 have hg := aan h
 generalize yY s = r at *
 refine aO afN rfl (afE ..) ?_
 cases r with
 | none => simp [Gf] at hg; simp [O4, hg, UO]
 | some qn =>
   obtain ⟨q, n⟩ := qn
   simp [Gf] at hg
   have : ((n : Int) ≤ 6) ↔ n ≤ 6 := by omega
   simp [O4, hg, UO, this]
theorem TW {s : List UInt8} {q : Rat} {n : Nat} (h : yY s = some (q, n)) : RB 400 q ∧ n ≤ 20 := by
 unfold yY at h
 split at h <;> try (simp at h; done)
 rename_i hs
 unfold Gg at h
 split at h <;> try (simp at h; done)
 rename_i hc
 simp at h
 obtain ⟨rfl, rfl⟩ := h
 obtain ⟨h1, h2, h3⟩ := hc
 have hl := adP s
 have hb := agd 46 (sW s).2
 have hf := @MH 46 (sW s).2
 generalize (mG 46 (sW s).2).1 = w at *
 generalize (mG 46 (sW s).2).2.1 = r at *
 generalize (mG 46 (sW s).2).2.2 = p at *
 have hr : r.length ≤ 20 ∧ r.all rM = true := by
  cases p with
  | true => exact (h2 rfl).2
  | false => rw [(hf rfl).2]; simp
 have had : (w ++ r).all rM = true := by rw [List.all_append, h1.2.2.2, hr.2]; rfl
 have hv : NB 400 (jr 0 (w ++ r)) := ajs had (by simp; omega)
 refine ⟨lG ?_ ((amW r.length).mono (by omega)) (ajH _), hr.1⟩
 split
 ·exact (IB.ofNat hv).neg
 ·exact IB.ofNat hv
theorem aga {a b : Rat} : 0 < Ak a b ↔ b < a := by
 unfold Ak
 split
 ·rename_i h
  constructor
  ·intro h1; omega
  ·intro h1; exact absurd h1 (Rat.not_lt.2 (Rat.le_of_lt h))
 ·split
  ·rename_i h1 h2
   subst h2
   constructor
   ·intro h; omega
   ·intro h; exact absurd h h1
  ·rename_i h1 h2
   refine ⟨fun _ => ?_, fun _ => by omega⟩
   exact Rat.lt_of_le_of_ne (Rat.not_lt.1 h1) (Ne.symm h2)
def q30 : Rat := Rat.divInt 30 1
def Zz : Rat := Rat.divInt 200 1
theorem ald {n : Int} {k : Nat} (h : IB k n) (hk : 1 ≤ k) : RB k (Rat.divInt n 1) := lG h ((show IB 1 1 by unfold IB NB; decide).mono hk) (by decide)
def I5 (b : aN) : Err := match yY b.d_ with
 | none => some (1, NI)
 | some (q, n) => if ¬ n ≤ 6 ∨ q.num < 0 ∨ q30 < q then some (5, NI) else match yY b.eH with
   | none => some (1, NK)
   | some (r, k) => if ¬ k ≤ 6 ∨ r.num ≤ 0 ∨ Zz < r then some (5, NK) else none
theorem aqp {z : Int} : z.sign ≤ 0 ↔ z ≤ 0 := by
 rcases Int.lt_trichotomy z 0 with h | h | h
 ·rw [Int.sign_eq_neg_one_of_neg h]; omega
 ·subst h; simp
 ·rw [Int.sign_eq_one_of_pos h]; omega
theorem af4 {b : aN} (hc : b.d_.length ≤ 1000000) (hr : b.eH.length ≤ 1000000) : L.call Bh [bf b] = some (dK (I5 b)) := by
 obtain ⟨i, m, f, c, r, n, s, e, x⟩ := b
 simp only at hc hr
 have v1 := EJ hc
 have v2 := EJ hr
 have f1 := fun s => yu (c := 1) (by decide) s
 have f2 := fun s => yu (c := 5) (by decide) s
 have o1 := MC (n := 30) (by omega)
 have o2 := MC (n := 200) (by omega)
 have b1 : RB 400 q30 := (ald (k := 10) (by unfold IB NB; decide) (by decide)).mono (by decide)
 have b2 : RB 400 Zz := (ald (k := 10) (by unfold IB NB; decide) (by decide)).mono (by decide)
 change L.call qL [.int .i64 30] = some (bZ q30) at o1
 change L.call qL [.int .i64 200] = some (bZ Zz) at o2
 have d1 := @TW c
 have d2 := @TW r
 unfold I5 bf aS
 simp only
 generalize yY c = dc at *
 generalize yY r = dr at *
 refine aO ah1 rfl (ahQ ..) ?_
 cases dc with
 | none => simp [UO] at v1; simp [nN, v1, f1, dK, fQ, NI]
 | some qn =>
   obtain ⟨q, k⟩ := qn
   simp [UO] at v1
   have cq := wV (d1 rfl).1 b1 (by omega)
   have sq := Et q
   have pq := @aga q q30
   have nq := @sign_neg q.num
   simp only
   generalize Ak q q30 = cm at *
   generalize q.num.sign = sg at *
   by_cases h1 : k ≤ 6
   ·by_cases h2 : q.num < 0
    ·rw [if_pos (.inr (.inl h2))]
     have g2 := nq.2 h2
     simp [nN, v1, f2, h1, sq, g2, dK, fQ, NI]
    ·have g2 : ¬ sg < 0 := fun h => h2 (nq.1 h)
     by_cases h3 : q30 < q
     ·rw [if_pos (.inr (.inr h3))]
      have g3 := pq.2 h3
      simp [nN, v1, f2, h1, sq, g2, o1, cq, g3, dK, fQ, NI]
     ·have g3 : ¬ 0 < cm := fun h => h3 (pq.1 h)
      rw [if_neg (fun h => by rcases h with h | h | h <;> contradiction)]
      cases dr with
      | none =>
        simp [UO] at v2
        simp [nN, v1, v2, f1, h1, sq, g2, o1, cq, g3, dK, fQ, NK]
      | some rn =>
        obtain ⟨r', k'⟩ := rn
        simp [UO] at v2
        have cr := wV (d2 rfl).1 b2 (by omega)
        have sr := Et r'
        have pr := @aga r' Zz
        have nr := @aqp r'.num
        simp only
        generalize Ak r' Zz = cm' at *
        generalize r'.num.sign = sg' at *
        by_cases h4 : k' ≤ 6
        ·by_cases h5 : r'.num ≤ 0
         ·rw [if_pos (.inr (.inl h5))]
          have g5 := nr.2 h5
          simp [nN, v1, v2, f2, h1, sq, g2, o1, cq, g3, h4, sr, g5, dK, fQ, NK]
         ·have g5 : ¬ sg' ≤ 0 := fun h => h5 (nr.1 h)
          by_cases h6 : Zz < r'
          ·rw [if_pos (.inr (.inr h6))]
           have g6 := pr.2 h6
           simp [nN, v1, v2, f2, h1, sq, g2, o1, cq, g3, h4, sr, g5, o2, cr, g6, dK, fQ, NK]
          ·have g6 : ¬ 0 < cm' := fun h => h6 (pr.1 h)
           rw [if_neg (fun h => by rcases h with h | h | h <;> contradiction)]
           simp [nN, v1, v2, f2, h1, sq, g2, o1, cq, g3, h4, sr, g5, o2, cr, g6, dK]
        ·rw [if_pos (.inl h4)]
         simp [nN, v1, v2, f2, h1, sq, g2, o1, cq, g3, h4, dK, fQ, NK]
   ·rw [if_pos (.inl h1)]
    simp [nN, v1, f2, h1, dK, fQ, NI]
end Go.Ev.Code
end
section
namespace Go.Ev.Code
open Go Go.Ev
theorem Ov (n : Int) : L.call vZ [.int .i64 n] = some (.bool (decide (1 ≤ n ∧ n ≤ 4))) := by
 refine aO ah2 rfl (ahR ..) ?_
 by_cases h : 1 ≤ n
 ·by_cases h' : n ≤ 4 <;> simp [Rz, h, h']
 ·simp [Rz, h]
def acs (b : aN) : Int := (Aj b.issue b.fO).tdiv (months b) + 2
def chk (b : aN) : Err := match MI b with
 | some e => some e
 | none => if months b = 0 then some (5, apd) else match I5 b with
   | some e => some e
   | none => if ¬ (1 ≤ b.count ∧ b.count ≤ 4) then some (5, amT) else if b.stub < 0 ∨ 2 < b.stub then some (5, Q8) else if b.ex < 0 ∨ 30 < b.ex then some (5, tEx)
     else if 200 < acs b then some (5, amU) else none
theorem He {b : aN} (h : MI b = none) : bQ b.issue ∧ bQ b.fO ∧ b.issue < b.fO := by
 unfold MI at h
 split at h <;> try (simp at h; done)
 split at h <;> try (simp at h; done)
 split at h <;> try (simp at h; done)
 exact ⟨by rename_i a _ _; exact Classical.not_not.1 a, by rename_i _ a _; exact Classical.not_not.1 a, by omega⟩
theorem af9 {n : Int} (h : bQ n) : 1900 ≤ (kU n.toNat).1 ∧ (kU n.toNat).1 ≤ 2199 ∧ 1 ≤ (kU n.toNat).2.1 ∧ (kU n.toNat).2.1 ≤ 12 := by
 obtain ⟨y, m, d, hc, hd, ho⟩ := gV h
 rw [ho]
 exact ⟨hc.y1, hc.y2, hc.m1, hc.m2⟩
theorem apw {a b : Int} (ha : bQ a) (hb : bQ b) : -4000 ≤ Aj a b ∧ Aj a b ≤ 4000 := by
 have h1 := af9 ha
 have h2 := af9 hb
 unfold Aj
 omega
theorem uF (b : aN) : months b = 0 ∨ months b = 1 ∨ months b = 3 ∨ months b = 6 ∨ months b = 12 := by
 unfold months
 split
 ·omega
 ·split
  ·omega
  ·split
   ·omega
   ·split <;> omega
theorem aqN {a m : Int} (ha : -4000 ≤ a ∧ a ≤ 4000) (hm : m = 1 ∨ m = 3 ∨ m = 6 ∨ m = 12) : -4000 ≤ a.tdiv m ∧ a.tdiv m ≤ 4000 := by
 rcases Int.le_total 0 a with h | h
 ·rw [Int.tdiv_eq_ediv_of_nonneg h]
  rcases hm with rfl | rfl | rfl | rfl <;> omega
 ·obtain ⟨k, rfl⟩ : ∃ k : Int, a = -k := ⟨-a, by omega⟩
  rw [Int.neg_tdiv, Int.tdiv_eq_ediv_of_nonneg (by omega)]
  rcases hm with rfl | rfl | rfl | rfl <;> omega
theorem zQ {b : aN} (hc : b.d_.length ≤ 1000000) (hr : b.eH.length ≤ 1000000) : L.call kT [bf b] = some (dK (chk b)) := by
 have c1 := af2 b
 have c2 := Jk b
 have c3 := af4 hc hr
 have c4 := Ov b.count
 have c5 : bQ b.issue → bQ b.fO → L.call jK [.int .i64 b.issue, .int .i64 b.fO] = some (.int .i64 (Aj b.issue b.fO)) := QK
 have n1 := @He b
 have f2 := fun s => yu (c := 5) (by decide) s
 have hmc := uF b
 have hbb := @apw b.issue b.fO
 unfold chk acs
 generalize MI b = de at *
 generalize I5 b = se at *
 generalize months b = mo at *
 obtain ⟨i, m, f, c, r, n, s, e, x⟩ := b
 unfold bf aS at *
 simp only at *
 refine aO afM rfl (afD ..) ?_
 cases de with
 | some er => obtain ⟨ec, es⟩ := er; simp [dK, fQ] at c1; simp [kL, c1, dK, fQ]
 | none =>
   obtain ⟨d1, d2, d3⟩ := n1 rfl
   have c5 := c5 d1 d2
   have hbb := hbb d1 d2
   simp [dK] at c1
   by_cases h0 : mo = 0
   ·simp [kL, c1, c2, h0, f2, dK, fQ, apd]
   ·have hq := aqN hbb (show mo = 1 ∨ mo = 3 ∨ mo = 6 ∨ mo = 12 by omega)
    simp only [if_neg h0]
    cases se with
    | some er => obtain ⟨ec, es⟩ := er; simp [dK, fQ] at c3; simp [kL, c1, c2, h0, c3, dK, fQ]
    | none =>
      simp [dK] at c3
      simp only
      by_cases h1 : 1 ≤ n ∧ n ≤ 4
      ·rw [if_neg (fun h => h h1)]
       rw [decide_eq_true h1] at c4
       by_cases h2 : s < 0
       ·rw [if_pos (.inl h2)]
        simp [kL, c1, c2, h0, c3, c4, h2, f2, dK, fQ, Q8]
       by_cases h2' : 2 < s
       ·rw [if_pos (.inr h2')]
        simp [kL, c1, c2, h0, c3, c4, h2, h2', f2, dK, fQ, Q8]
       rw [if_neg (fun h => by rcases h with h | h <;> contradiction)]
       by_cases h3 : x < 0
       ·rw [if_pos (.inl h3)]
        simp [kL, c1, c2, h0, c3, c4, h2, h2', h3, f2, dK, fQ, tEx]
       by_cases h3' : 30 < x
       ·rw [if_pos (.inr h3')]
        simp [kL, c1, c2, h0, c3, c4, h2, h2', h3, h3', f2, dK, fQ, tEx]
       rw [if_neg (fun h => by rcases h with h | h <;> contradiction)]
       have e1 : IntKind.i64.wrap ((Aj i m).tdiv mo) = (Aj i m).tdiv mo := wrap64 _ (by omega)
       have e2 : IntKind.i64.wrap ((Aj i m).tdiv mo + 2) = (Aj i m).tdiv mo + 2 := wrap64 _ (by omega)
       obtain ⟨t, ht⟩ : ∃ t, (Aj i m).tdiv mo = t := ⟨_, rfl⟩
       rw [ht] at e1 e2 hq ⊢
       obtain ⟨pp, hpp⟩ : ∃ pp, t + 2 = pp := ⟨_, rfl⟩
       have e2 : IntKind.i64.wrap (t + 2) = pp := by rw [e2, hpp]
       rw [hpp]
       by_cases h4 : 200 < pp
       ·simp [kL, c1, c2, h0, c3, c4, h2, h2', h3, h3', c5, ht, e1, e2, h4, f2, dK, fQ, amU]
       ·simp [kL, c1, c2, h0, c3, c4, h2, h2', h3, h3', c5, ht, e1, e2, h4, dK]
      ·rw [if_pos h1]
       rw [decide_eq_false h1] at c4
       simp [kL, c1, c2, h0, c3, c4, f2, dK, fQ, amT]
def q0 : Rat := Rat.divInt 0 1
def En (b : aN) : Rat := match chk b with
 | some _ => q0
 | none => match yY b.d_ with | some (q, _) => q | none => q0
def iU (b : aN) : Rat := match chk b with
 | some _ => q0
 | none => match yY b.eH with | some (q, _) => q | none => q0
theorem dM {b : aN} (h : chk b = none) : MI b = none ∧ months b ≠ 0 ∧ I5 b = none := by
 unfold chk at h
 split at h <;> try (simp at h; done)
 rename_i hd
 split at h <;> try (simp at h; done)
 rename_i hm
 split at h <;> try (simp at h; done)
 rename_i hs
 exact ⟨hd, hm, hs⟩
theorem Nv {b : aN} (h : I5 b = none) : ∃ q n r k, yY b.d_ = some (q, n) ∧ yY b.eH = some (r, k) ∧ n ≤ 6 ∧ 0 ≤ q.num ∧ ¬ q30 < q ∧ k ≤ 6 ∧ 0 < r.num ∧ ¬ Zz < r := by
 unfold I5 at h
 split at h <;> try (simp at h; done)
 rename_i q n hq
 split at h <;> try (simp at h; done)
 rename_i h1
 split at h <;> try (simp at h; done)
 rename_i r k hr
 split at h <;> try (simp at h; done)
 rename_i h2
 refine ⟨q, n, r, k, hq, hr, ?_, ?_, ?_, ?_, ?_, ?_⟩
 ·exact Classical.not_not.1 fun h => h1 (.inl h)
 ·exact Int.not_lt.1 fun h => h1 (.inr (.inl h))
 ·exact fun h => h1 (.inr (.inr h))
 ·exact Classical.not_not.1 fun h => h2 (.inl h)
 ·exact Int.not_le.1 fun h => h2 (.inr (.inl h))
 ·exact fun h => h2 (.inr (.inr h))
theorem x9 {b : aN} (hc : b.d_.length ≤ 1000000) (hr : b.eH.length ≤ 1000000) : L.call jR [bf b] = some (bZ (En b)) := by
 have c1 := zQ hc hr
 have v1 := EJ hc
 have o1 := MC (n := 0) (by omega)
 change L.call qL [.int .i64 0] = some (bZ q0) at o1
 have hs := @dM b
 have hss := @Nv b
 unfold En
 generalize chk b = ck at *
 obtain ⟨i, m, f, c, r, n, s, e, x⟩ := b
 unfold bf aS at *
 simp only at *
 refine aO aeA rfl (ad7 ..) ?_
 cases ck with
 | some er => obtain ⟨ec, es⟩ := er; simp [dK, fQ] at c1; simp [LP, c1, o1]
 | none =>
   obtain ⟨q, n, r, k, h1, _⟩ := hss (hs rfl).2.2
   rw [h1] at v1
   simp [UO] at v1
   simp [dK] at c1
   rw [h1]
   simp [LP, c1, v1]
theorem yc {b : aN} (hc : b.d_.length ≤ 1000000) (hr : b.eH.length ≤ 1000000) : L.call lT [bf b] = some (bZ (iU b)) := by
 have c1 := zQ hc hr
 have v1 := EJ hr
 have o1 := MC (n := 0) (by omega)
 change L.call qL [.int .i64 0] = some (bZ q0) at o1
 have hs := @dM b
 have hss := @Nv b
 unfold iU
 generalize chk b = ck at *
 obtain ⟨i, m, f, c, r, n, s, e, x⟩ := b
 unfold bf aS at *
 simp only at *
 refine aO aeC rfl (ad9 ..) ?_
 cases ck with
 | some er => obtain ⟨ec, es⟩ := er; simp [dK, fQ] at c1; simp [LQ, c1, o1]
 | none =>
   obtain ⟨q, n, r, k, _, h1, _⟩ := hss (hs rfl).2.2
   rw [h1] at v1
   simp [UO] at v1
   simp [dK] at c1
   rw [h1]
   simp [LQ, c1, v1]
end Go.Ev.Code
end
section
namespace Go.Ev.Code
open Go Go.Ev
def anch (b : aN) (k : Nat) : Option Nat := xk b.fO (-(k : Int) * months b) b.ends
def xZ : Option Nat → D
 | some d => .int .i64 d
 | none => .int .i64 0
theorem yG (b : aN) {k : Nat} (hk : k ≤ 100000) : L.call qA [bf b, .int .i64 k] = some (.aZ [xZ (anch b k), .bool (anch b k).isSome]) := by
 have hm := Jk b
 have ha := Rj b.fO (-(k : Int) * months b) b.ends
 have hmc := uF b
 have e1 : IntKind.i64.wrap (0 - (k : Int)) = -(k : Int) := by rw [wrap64 _ (by omega)]; omega
 have e2 : IntKind.i64.wrap (-(k : Int) * months b) = -(k : Int) * months b := by
  refine wrap64 _ ?_
  rcases hmc with h | h | h | h | h <;> rw [h] <;> omega
 unfold anch
 generalize hx : -(k : Int) * months b = x at *
 generalize hr : xk b.fO x b.ends = r at *
 generalize months b = mo at *
 obtain ⟨i, m, f, c, rd, n, s, e, ex⟩ := b
 unfold bf aS at *
 simp only at *
 refine aO aeV rfl (aes ..) ?_
 have e1' : IntKind.i64.wrap (-(k : Int)) = -(k : Int) := by rw [wrap64 _ (by omega)]
 have e2' : IntKind.i64.wrap (-((k : Int) * mo)) = x := by rw [← e2, ← hx, Int.neg_mul]
 have hx' : -((k : Int) * mo) = x := by rw [← hx, Int.neg_mul]
 cases r with
 | none => simp [kF] at ha; simp [L9, hm, e1, e1', e2, e2', hx, hx', ha, xZ]
 | some d => simp [kF] at ha; simp [L9, hm, e1, e1', e2, e2', hx, hx', ha, xZ]
def ints (l : List Nat) : List D := l.map fun (n : Nat) => D.int .i64 n
theorem Gj (l : List Nat) : (ints l).length = l.length := by simp [ints]
theorem an' (l : List Nat) (d : Nat) : ints (l ++ [d]) = ints l ++ [.int .i64 d] := by simp [ints]
theorem OD (l : List Nat) (b n : Nat) : (ints l).all (D.clo b (n + 1)) = true := by
 rw [List.all_eq_true]
 intro d hd
 simp only [ints, List.mem_map] at hd
 obtain ⟨x, _, rfl⟩ := hd
 rfl
def kS (b : aN) (k : Nat) : List Nat := (List.range k).map fun i => (anch b i).getD 0
theorem Jh (b : aN) (k : Nat) : (kS b k).length = k := by simp [kS]
theorem alE (b : aN) (k : Nat) : kS b (k + 1) = kS b k ++ [(anch b k).getD 0] := by simp [kS, List.range_succ]
def Goes (b : aN) (k : Nat) : Prop := ∃ d, anch b k = some d ∧ b.issue < (d : Int)
theorem afZ {b : aN} {K : Nat} (hK : K ≤ 90000) (hgo : ∀ i, i < K → Goes b i) (hst : ¬ Goes b K) : ∀ (j k : Nat), k + j = K → 1 ≤ k →
  L.loop [1, 5, 6] [2, 3, 4] lI 2 [.loc 1 0, .bg 2 0 k 1, .int .i64 k] [.live (aS b), .live (aS b), .live (ints (kS b k))] =
    some (.ret, [.bg 2 0 K 1, xZ (anch b K), .bool (anch b K).isSome], [.live (aS b), .live (aS b), .live (ints (kS b K))]) := by
 intro j
 induction j with
 | zero =>
   intro k hk h1
   have hkK : k = K := by omega
   subst hkK
   have ha := yG b (k := k) (by omega)
   have hcl := OD (kS b k) 2 11
   have hl : (ints (kS b k)).length = k := by rw [Gj, Jh]
   unfold Goes at hst
   generalize ints (kS b k) = l at *
   generalize hr : anch b k = r at *
   obtain ⟨i, m, f, c, rd, n, s, e, ex⟩ := b
   unfold bf aS at *
   simp only at *
   refine aQ (D_ ..) ?_
   cases r with
   | none => simp [xZ] at ha; simp [rZ, ha, xZ, hcl]
   | some d =>
     have g : (d : Int) ≤ i := by
      by_cases h : i < (d : Int)
      ·exact absurd ⟨d, rfl, h⟩ hst
      ·omega
     simp [xZ] at ha; simp [rZ, ha, xZ, g, hcl]
 | succ j ih =>
   intro k hk h1
   have hn := ih (k + 1) (by omega) (by omega)
   have ha := yG b (k := k) (by omega)
   obtain ⟨d, hd, hdi⟩ := hgo k (by omega)
   rw [alE, hd, Option.getD_some, an'] at hn
   rw [hd] at ha
   have hcl := OD (kS b k) 2 11
   have hl : (ints (kS b k)).length = k := by rw [Gj, Jh]
   generalize ints (kS b k) = l at *
   generalize (anch b K).isSome = zb at *
   generalize xZ (anch b K) = zd at *
   generalize ints (kS b K) = lK at *
   have htk : l.take k = l := List.take_of_length_le (by omega)
   have hlen : k + 1 ≤ 4294967296 := by omega
   have e1 : IntKind.i64.wrap ((k : Int) + 1) = ((k + 1 : Nat) : Int) := by rw [wrap64 _ (by omega)]; omega
   obtain ⟨i, m, f, c, rd, n, s, e, ex⟩ := b
   unfold bf aS at *
   simp only at *
   simp [xZ] at ha hn
   have g : ¬ (d : Int) ≤ i := by omega
   refine aQ (D_ ..) ?_
   simp [rZ, ha, g, hcl, htk, hl, hlen, e1, r_, hn]
theorem aj_ {b : aN} {K : Nat} (hK : K ≤ 90000) (h1 : 1 ≤ K) (hgo : ∀ i, i < K → Goes b i) (hst : ¬ Goes b K) :
  L.bF uM [bf b] [.live (aS b)] = some (.aZ [.bg 1 0 K 1, xZ (anch b K), .bool (anch b K).isSome], [.live (aS b), .live (ints (kS b K))]) := by
 have hl : L.loop [1, 5, 6] [2, 3, 4] lI 2 [.loc 1 0, .dA, .int .i64 0] [.live (aS b), .live (aS b)] =
   some (.ret, [.bg 2 0 K 1, xZ (anch b K), .bool (anch b K).isSome], [.live (aS b), .live (aS b), .live (ints (kS b K))]) := by
  have hn := afZ hK hgo hst (K - 1) 1 (by omega) (by omega)
  have ha := yG b (k := 0) (by omega)
  obtain ⟨d, hd, hdi⟩ := hgo 0 (by omega)
  rw [show kS b 1 = [(anch b 0).getD 0] by simp [kS], hd, Option.getD_some, show ((1 : Nat) : Int) = 1 from rfl] at hn
  rw [hd] at ha
  generalize (anch b K).isSome = zb at *
  generalize xZ (anch b K) = zd at *
  generalize ints (kS b K) = lK at *
  obtain ⟨i, m, f, c, rd, n, s, e, ex⟩ := b
  unfold bf aS at *
  simp only at *
  simp [xZ, ints] at ha hn
  have g : ¬ (d : Int) ≤ i := by omega
  refine aQ (D_ ..) ?_
  simp [rZ, ha, g, r_, wrap64, hn]
 have hcl := OD (kS b K) 1 11
 have hz : xZ (anch b K) = .int .i64 ((anch b K).getD 0 : Nat) := by cases anch b K <;> rfl
 rw [hz] at hl ⊢
 generalize (anch b K).isSome = zb at *
 generalize (anch b K).getD 0 = zd at *
 have hlen : (ints (kS b K)).length = K := by rw [Gj, Jh]
 generalize ints (kS b K) = lK at *
 obtain ⟨i, m, f, c, rd, n, s, e, ex⟩ := b
 unfold bf aS at *
 simp only at *
 refine mV abM rfl (aby ..) ?_
 simp [Tq, hl, hcl]
end Go.Ev.Code
end
section
namespace Go.Ev.Code
open Go Go.Ev
def aay (b : aN) (k : Nat) : Bool := match anch b k with
 | some d => decide (b.issue < (d : Int))
 | none => false
theorem adi (b : aN) (k : Nat) : aay b k = true ↔ Goes b k := by
 unfold aay Goes
 cases anch b k with
 | none => simp
 | some d => simp
def MW (b : aN) : Nat → Nat → Nat
 | 0, k => k
 | f + 1, k => if aay b k = true then MW b f (k + 1) else k
def cO (b : aN) : Nat := MW b 3601 0
theorem agy (b : aN) : ∀ (f k : Nat), (∀ i, i < k → Goes b i) → ¬ Goes b (k + f) → (∀ i, i < MW b f k → Goes b i) ∧ ¬ Goes b (MW b f k) ∧ MW b f k ≤ k + f
 | 0, k, h1, h2 => ⟨h1, h2, Nat.le_refl _⟩
 | f + 1, k, h1, h2 => by
   simp only [MW]
   split
   ·rename_i hg
    have hg := (adi b k).1 hg
    have := agy b f (k + 1) (fun i hi => by
     rcases Nat.lt_or_ge i k with h | h
     ·exact h1 i h
     ·have : i = k := by omega
      rw [this]; exact hg) (by rw [show k + 1 + f = k + (f + 1) by omega]; exact h2)
    exact ⟨this.1, this.2.1, by omega⟩
   ·rename_i hg
    exact ⟨h1, fun h => hg ((adi b k).2 h), by omega⟩
theorem afV {y m d : Nat} {n : Int} {e : Bool} (h : ¬ (-3600 ≤ n ∧ n ≤ 3600)) : Jg y m d n e = none := by unfold Jg; rw [if_neg h]
theorem ant (b : aN) (hm : months b ≠ 0) : ¬ Goes b 3601 := by
 rintro ⟨d, hd, _⟩
 have hc := uF b
 unfold anch xk at hd
 split at hd
 ·rw [afV (by rcases hc with h | h | h | h | h <;> rw [h] <;> omega)] at hd
  simp at hd
 ·simp at hd
theorem OE {b : aN} (hm : months b ≠ 0) : (∀ i, i < cO b → Goes b i) ∧ ¬ Goes b (cO b) ∧ cO b ≤ 3601 := by
 have := agy b 3601 0 (fun i hi => absurd hi (by omega)) (by rw [Nat.zero_add]; exact ant b hm)
 exact ⟨this.1, this.2.1, Nat.le_trans this.2.2 (by decide)⟩
theorem alB {day : Int} (h : bQ day) (e : Bool) : xk day 0 e = some day.toNat := by
 obtain ⟨y, m, d, hc, hd, ho⟩ := gV h
 unfold xk
 rw [if_pos h, ho]
 have h1 := hc.y1
 have h2 := hc.y2
 have h3 := hc.m1
 have h4 := hc.m2
 have h5 := hc.d2
 unfold Jg
 rw [if_pos (by omega)]
 have e1 : ((((y * 12 + m - 1 : Nat) : Int) + 0) / 12).toNat = y := by omega
 have e2 : ((((y * 12 + m - 1 : Nat) : Int) + 0) % 12).toNat + 1 = m := by omega
 simp only [e1, e2]
 unfold qO
 rw [if_pos ⟨h1, h2⟩]
 congr 1
 have : (if e = true ∧ d = bU y m then bU y m else min d (bU y m)) = d := by split <;> omega
 rw [this, hd]; omega
theorem ac1 {b : aN} (h : bQ b.fO) : anch b 0 = some b.fO.toNat := by
 unfold anch
 rw [show (-((0 : Nat) : Int) * months b) = 0 by simp]
 exact alB h _
theorem Js {b : aN} (h : chk b = none) : 1 ≤ cO b := by
 obtain ⟨h1, h2, h3⟩ := dM h
 obtain ⟨d1, d2, d3⟩ := He h1
 obtain ⟨k1, k2, k3⟩ := OE h2
 rcases Nat.eq_zero_or_pos (cO b) with h0 | h0
 ·rw [h0] at k2
  exact absurd ⟨_, ac1 d2, by omega⟩ k2
 ·exact h0
def oW : Int → List Nat → List (Int × Int)
 | _, [] => []
 | f, d :: ds => (f, (d : Int)) :: oW d ds
def bT : List (Int × Int) → List D
 | [] => []
 | (a, b) :: ps => .int .i64 a :: .int .i64 b :: bT ps
theorem ahb (l r : List (Int × Int)) : bT (l ++ r) = bT l ++ bT r := by
 induction l with
 | nil => rfl
 | cons x xs ih => obtain ⟨a, b⟩ := x; simp [bT, ih]
theorem OW (l : List (Int × Int)) : (bT l).length = l.length * 2 := by
 induction l with
 | nil => rfl
 | cons x xs ih => obtain ⟨a, b⟩ := x; simp [bT, ih]; omega
theorem jC (l : List (Int × Int)) (b n : Nat) : (bT l).all (D.clo b (n + 1)) = true := by
 induction l with
 | nil => rfl
 | cons x xs ih => obtain ⟨p, q⟩ := x; simp [bT]; simpa using ih
theorem akG (f : Int) (l : List Nat) : (oW f l).length = l.length := by
 induction l generalizing f with
 | nil => rfl
 | cons x xs ih => simp [oW, ih]
theorem vV (a b : D) : zeros 1 [a, b] = [a, b] := by rfl
theorem ag3 {b : aN} {days : List Nat} {nx : Int} {is : Bool} (hd : days.length ≤ 90000) : ∀ (rest pre : List Nat) (acc : List (Int × Int)) (fr : Int), days = pre ++ rest → acc ≠ [] → acc.length = pre.length →
  L.loop [1, 6, 7, 8, 9, 27, 28, 29] [1, 6, 7, 8] wR 2 [.loc 0 0, .int .i64 nx, .bool is, .bg 2 0 acc.length 2, .int .i64 fr, .bg 1 0 days.length 1, .int .i64 days.length, .int .i64 pre.length]
    [.live (aS b), .live (ints days), .live (bT acc)] =
    some (.exit 0, [.loc 0 0, .int .i64 nx, .bool is, .bg 2 0 days.length 2], [.live (aS b), .live (ints days), .live (bT (acc ++ oW fr rest))]) := by
 have hcl := OD days 2 11
 have hbc : (aS b).all (D.clo 2 12) = true := by obtain ⟨i, m, f, c, rd, n, s, e, ex⟩ := b; simp [aS]
 intro rest
 induction rest with
 | nil =>
   intro pre acc fr hdd hne hal
   have hpl : pre.length = days.length := by rw [hdd]; simp
   rw [hal, hpl]
   have hpc := jC acc 2 11
   simp only [oW, List.append_nil]
   generalize aS b = B at *
   generalize bT acc = pc at *
   generalize hid : ints days = id at *
   generalize days.length = K at *
   refine aQ (NY ..) ?_
   simp [IY, hcl, hbc, hpc]
 | cons d rest ih =>
   intro pre acc fr hdd hne hal
   have hn := ih (pre ++ [d]) (acc ++ [(fr, (d : Int))]) d (by rw [hdd]; simp) (by simp) (by simp [hal])
   have hmk : acc ++ oW fr (d :: rest) = acc ++ [(fr, (d : Int))] ++ oW d rest := by simp [oW]
   rw [← hmk] at hn
   have hlt : pre.length < days.length := by rw [hdd]; simp
   have hget : (ints days)[pre.length]? = some (.int .i64 d) := by
    rw [hdd]; simp [ints]
   have hpc := jC acc 2 11
   rw [ahb] at hn
   have hpl := OW acc
   rw [show bT [(fr, (d : Int))] = [.int .i64 fr, .int .i64 d] from rfl] at hn
   have htk : (bT acc).take (acc.length * 2) = bT acc := List.take_of_length_le (by omega)
   have hil : (ints days).length = days.length := Gj days
   have e1 : IntKind.i64.wrap ((pre.length : Int) + 1) = ((pre.length + 1 : Nat) : Int) := by rw [wrap64 _ (by omega)]; omega
   have hlen : acc.length + 1 ≤ 4294967296 := by omega
   rw [List.length_append, List.length_append] at hn
   simp only [List.length_singleton] at hn
   generalize bT (acc ++ oW fr (d :: rest)) = pz at *
   generalize aS b = B at *
   generalize bT acc = pc at *
   generalize ints days = id at *
   generalize days.length = K at *
   generalize hA : acc.length = A at *
   generalize pre.length = P at *
   have hltI : (P : Int) < K := by omega
   simp at hn
   refine aQ (NY ..) ?_
   simp [IY, hcl, hbc, hpc, hlt, hltI, hget, vV, htk, e1, hlen, hpl, hn]
end Go.Ev.Code
end
section
namespace Go.Ev.Code
open Go Go.Ev
def iq (b : aN) : List (Int × Int) := oW b.issue (kS b (cO b)).reverse
def Uf (b : aN) : Bool := match anch b (cO b) with
 | some d => decide ((d : Int) = b.issue)
 | none => false
def aK (b : aN) : Err × List (Int × Int) := match chk b with
 | some e => (some e, [])
 | none => if Uf b = true then (none, iq b) else if b.stub = 0 then (some (5, Q8), []) else if b.stub = 2 then
   (match iq b with
    | _ :: q :: r => (none, (b.issue, q.2) :: r)
    | ps => (none, ps))
   else (none, iq b)
def fZ (ps : List (Int × Int)) : D := .sl ps.length (bT ps)
def qp (r : Err × List (Int × Int)) : D := .aZ [fZ r.2, dK r.1]
theorem xH (b : aN) : (iq b).length = cO b := by unfold iq; rw [akG, List.length_reverse, Jh]
theorem Ue (l : List (Int × Int)) (n : Nat) (m : Mem) : jV (fz (n + 1)) (bT l) m = some (bT l, m) := by
 induction l with
 | nil => rfl
 | cons x xs ih => obtain ⟨a, b⟩ := x; simp [bT, ih]
theorem akP {b : aN} {days : List Nat} {nx : Int} {is : Bool} (hd : days.length ≤ 90000) (hne : days ≠ []) :
  L.loop [1, 6, 7, 8, 9, 27, 28, 29] [1, 6, 7, 8] wR 2 [.loc 0 0, .int .i64 nx, .bool is, .dA, .int .i64 b.issue, .bg 1 0 days.length 1, .int .i64 days.length, .int .i64 0]
    [.live (aS b), .live (ints days)] =
    some (.exit 0, [.loc 0 0, .int .i64 nx, .bool is, .bg 2 0 days.length 2], [.live (aS b), .live (ints days), .live (bT (oW b.issue days))]) := by
 obtain ⟨d, rest, rfl⟩ : ∃ d rest, days = d :: rest := List.exists_cons_of_ne_nil hne
 have hn := ag3 (b := b) (nx := nx) (is := is) hd rest [d] [(b.issue, (d : Int))] d rfl (by simp) rfl
 have hcl := OD (d :: rest) 2 11
 have hbc : (aS b).all (D.clo 2 12) = true := by obtain ⟨i, m, f, c, rd, n, s, e, ex⟩ := b; simp [aS]
 rw [show [(b.issue, (d : Int))] ++ oW d rest = oW b.issue (d :: rest) from rfl, show bT [(b.issue, (d : Int))] = [.int .i64 b.issue, .int .i64 d] from rfl] at hn
 have hget : (ints (d :: rest))[0]? = some (.int .i64 d) := by simp [ints]
 have hil := Gj (d :: rest)
 have hlt : 0 < (d :: rest).length := by simp
 generalize bT (oW b.issue (d :: rest)) = pz at *
 generalize aS b = B at *
 generalize ints (d :: rest) = id at *
 generalize (d :: rest).length = K at *
 simp at hn
 have hltI : (0 : Int) < K := by omega
 refine aQ (NY ..) ?_
 simp [IY, hcl, hbc, hlt, hltI, hget, vV, wrap64, hn]
theorem qw {b : aN} (hc : b.d_.length ≤ 1000000) (hr : b.eH.length ≤ 1000000) : L.call kW [bf b] = some (qp (aK b)) := by
 have hck := zQ hc hr
 by_cases hchk : chk b = none
 ·obtain ⟨k1, k2, k3⟩ := OE (dM hchk).2.1
  have kp := Js hchk
  have han := aj_ (by omega) kp k1 k2
  have hlen := Jh b (cO b)
  have hrev := aot (pre := [.live (aS b)]) (l := ints (kS b (cO b))) (by obtain ⟨i, m, f, c, rd, n, s, e, ex⟩ := b; simp [aS]) (by rw [Gj, hlen]; omega)
   (fun d hd => by
    simp only [ints, List.mem_map] at hd
    obtain ⟨x, _, rfl⟩ := hd
    exact ⟨rfl, rfl⟩)
  rw [Gj, hlen, show (ints (kS b (cO b))).reverse = ints (kS b (cO b)).reverse by simp [ints]] at hrev
  have hz : xZ (anch b (cO b)) = .int .i64 ((anch b (cO b)).getD 0 : Nat) := by cases anch b (cO b) <;> rfl
  rw [hz] at han
  have hlp := akP (b := b) (days := (kS b (cO b)).reverse) (nx := ((anch b (cO b)).getD 0 : Nat)) (is := (anch b (cO b)).isSome) (by rw [List.length_reverse, hlen]; omega) (by
   intro h
   have := congrArg List.length h
   rw [List.length_reverse, hlen] at this
   simp at this; omega)
  rw [List.length_reverse, hlen] at hlp
  have hpl := OW (iq b)
  have hrl := xH b
  rw [hrl] at hpl
  have hit : Uf b = ((anch b (cO b)).isSome && decide ((((anch b (cO b)).getD 0 : Nat) : Int) = b.issue)) := by
   unfold Uf
   cases anch b (cO b) <;> simp
  have htk : (bT (iq b)).take (cO b * 2) = bT (iq b) := List.take_of_length_le (by omega)
  have hfz : ∀ m, jV (fz 10) (bT (iq b)) m = some (bT (iq b), m) := fun m => Ue (iq b) 9 m
  have hpc := jC (iq b) 0 11
  unfold aK
  rw [hchk]
  simp only
  rw [hit]
  unfold iq at *
  generalize (anch b (cO b)).isSome = is at *
  generalize (anch b (cO b)).getD 0 = nx at *
  generalize ints (kS b (cO b)).reverse = rv at *
  generalize ints (kS b (cO b)) = iv at *
  have f2 : L.call fU [.int .i64 5, .str [115, 116, 117, 98]] = some (fQ 5 Q8) := yu (c := 5) (by decide) Q8
  rw [hchk] at hck
  simp [dK] at hck
  generalize hps : oW b.issue (kS b (cO b)).reverse = ps at *
  generalize hk : cO b = K at *
  obtain ⟨i, m, f, c, rd, n, s, e, ex⟩ := b
  unfold bf aS at *
  simp only at *
  simp at hrev
  refine aO acU rfl (acN ..) ?_
  by_cases hh : (is && decide ((nx : Int) = i)) = true
  ·rw [if_pos hh]
   simp only [Bool.and_eq_true, decide_eq_true_eq] at hh
   obtain ⟨rfl, hh⟩ := hh
   rw [hh] at han hlp
   simp [qJ, hck, han, hrev, hlp, hpc, hfz, hpl, htk, qp, fZ, hrl, dK]
  ·rw [if_neg hh]
   by_cases hs0 : s = 0
   ·subst hs0
    rw [if_pos rfl]
    cases is with
    | false => simp [qJ, hck, han, hrev, hlp, f2, qp, fZ, dK, fQ, Q8, bT]
    | true =>
      have hh : ¬ (nx : Int) = i := by simpa using hh
      simp [qJ, hck, han, hrev, hlp, hh, f2, qp, fZ, dK, fQ, Q8, bT]
   ·rw [if_neg hs0]
    have hh2 : is = false ∨ (is = true ∧ ¬ (nx : Int) = i) := by
     cases is with
     | false => exact .inl rfl
     | true => exact .inr ⟨rfl, by simpa using hh⟩
    by_cases hs2 : s = 2
    ·subst hs2
     rw [if_pos rfl]
     by_cases hK1 : 1 < K
     ·obtain ⟨p, q, r, rfl⟩ : ∃ p q r, ps = p :: q :: r := by
       cases ps with
       | nil => simp at hrl; omega
       | cons p t => cases t with
         | nil => simp at hrl; omega
         | cons q r => exact ⟨p, q, r, rfl⟩
      obtain ⟨p1, p2⟩ := p
      obtain ⟨q1, q2⟩ := q
      have hK1' : (1 : Int) < K := by omega
      have hrK : r.length + 1 + 1 = K := by simpa using hrl
      have hKr : K - 1 = r.length + 1 := by omega
      have hrl2 := OW r
      have hfz2 : ∀ m, jV (fz 10) (bT r) m = some (bT r, m) := fun m => Ue r 9 m
      have hbn : nH true false K [.int .i64 1] = some (1, K) := by
       have h1K : (1 : Int) ≤ K := by omega
       have h1K' : 1 ≤ K := by omega
       simp [nH, bnd, h1K, h1K']
      have hpc2 := jC r 0 11
      have htk2 : (bT r).take (r.length * 2) = bT r := List.take_of_length_le (by omega)
      have hb1 : 2 + (r.length + 1) * 2 ≤ (bT r).length + 1 + 1 + 1 + 1 := by omega
      have hb2 : (r.length + 1) * 2 = r.length * 2 + 1 + 1 := by omega
      have hb3 : 2 + (r.length * 2 + 1 + 1) ≤ r.length * 2 + 1 + 1 + 1 + 1 := by omega
      simp only [bT] at hlp
      rcases hh2 with rfl | ⟨rfl, hh2⟩
      ·simp [qJ, hck, han, hrev, hlp, hK1, hK1', hbn, hKr, hrl2, hfz2, hpc2, htk2, hb1, hb2, hb3, qp, fZ, bT, dK]
      ·simp [qJ, hck, han, hrev, hlp, hh2, hK1, hK1', hbn, hKr, hrl2, hfz2, hpc2, htk2, hb1, hb2, hb3, qp, fZ, bT, dK]
     ·have hK1' : ¬ (1 : Int) < K := by omega
      have hcase : (match ps with | _ :: q :: r => ((none : Err), (i, q.2) :: r) | ps => (none, ps)) = (none, ps) := by
       match ps, hrl with
       | [], _ => rfl
       | [_], _ => rfl
       | _ :: _ :: _, hrl => simp at hrl; omega
      rw [hcase]
      rcases hh2 with rfl | ⟨rfl, hh2⟩
      ·simp [qJ, hck, han, hrev, hlp, hK1, hK1', hpc, hfz, hpl, htk, qp, fZ, hrl, dK]
      ·simp [qJ, hck, han, hrev, hlp, hh2, hK1, hK1', hpc, hfz, hpl, htk, qp, fZ, hrl, dK]
    ·rw [if_neg hs2]
     rcases hh2 with rfl | ⟨rfl, hh2⟩
     ·simp [qJ, hck, han, hrev, hlp, hs0, hs2, hpc, hfz, hpl, htk, qp, fZ, hrl, dK]
     ·simp [qJ, hck, han, hrev, hlp, hh2, hs0, hs2, hpc, hfz, hpl, htk, qp, fZ, hrl, dK]
 ·cases hce : chk b with
  | none => exact absurd hce hchk
  | some er =>
    unfold aK
    rw [hce] at hck ⊢
    obtain ⟨ec, es⟩ := er
    simp only [qp, fZ, bT, List.length_nil]
    obtain ⟨i, m, f, c, rd, n, s, e, ex⟩ := b
    unfold bf aS at *
    simp only at *
    simp [dK, fQ] at hck
    refine aO acU rfl (acN ..) ?_
    simp [qJ, hck, dK, fQ]
end Go.Ev.Code
end
section
namespace Go.Ev.Code
open Go Go.Ev
def wP (b : aN) (day : Int) : Nat → Nat → Option Nat
 | 0, _ => none
 | f + 1, k => match anch b k with
   | some a => if (a : Int) < day then none else if (a : Int) = day then some k else wP b day f (k + 1)
   | none => none
def Iy (b : aN) (day : Int) : Option Nat := wP b day 3602 0
def Ed : Option Nat → List D
 | some k => [.int .i64 k, .bool true]
 | none => [.int .i64 0, .bool false]
theorem alD (b : aN) (hm : months b ≠ 0) : anch b 3601 = none := by
 have hc := uF b
 unfold anch xk
 split
 ·rw [afV (by rcases hc with h | h | h | h | h <;> rw [h] <;> omega)]
 ·rfl
theorem akM {b : aN} (hm : months b ≠ 0) {day : Int} : ∀ (f k : Nat), k + f = 3602 →
  L.loop [1, 2, 6] [4, 5] oK 1 [.int .i64 day, .loc 0 0, .int .i64 k] [.live (aS b)] = some (.ret, Ed (wP b day f k), [.live (aS b)]) ∨ f = 0 := by
 intro f
 induction f with
 | zero => intro k hk; exact .inr rfl
 | succ f ih =>
   intro k hk
   left
   have ha := yG b (k := k) (by omega)
   have hn := ih (k + 1) (by omega)
   have hlast : f = 0 → anch b k = none := fun h => by
    have : k = 3601 := by omega
    rw [this]; exact alD b hm
   simp only [wP]
   have e1 : IntKind.i64.wrap ((k : Int) + 1) = ((k + 1 : Nat) : Int) := by rw [wrap64 _ (by omega)]; omega
   generalize anch b k = r at *
   generalize wP b day f (k + 1) = r2 at *
   obtain ⟨i, m, fq, c, rd, n, s, e, ex⟩ := b
   unfold bf aS at *
   simp only at *
   refine aQ (ZV ..) ?_
   cases r with
   | none => simp [xZ] at ha; simp [qV, ha, Ed]
   | some a =>
     simp [xZ] at ha
     simp only
     by_cases h1 : (a : Int) < day
     ·simp [qV, ha, h1, Ed]
     ·by_cases h2 : (a : Int) = day
      ·subst h2
       simp [qV, ha, Ed]
      ·rcases hn with hn | hn
       ·cases r2 with
        | none => simp [Ed] at hn; simp [qV, ha, h1, h2, e1, hn, Ed]
        | some k2 => simp [Ed] at hn; simp [qV, ha, h1, h2, e1, hn, Ed]
       ·have := hlast hn; simp at this
theorem afc {b : aN} (hm : months b ≠ 0) (day : Int) : L.call zC [bf b, .int .i64 day] = some (.aZ (Ed (Iy b day))) := by
 have hl := (akM hm (day := day) 3602 0 rfl).resolve_right (by decide)
 change L.loop [1, 2, 6] [4, 5] oK 1 [.int .i64 day, .loc 0 0, .int .i64 0] [.live (aS b)] = some (.ret, Ed (Iy b day), [.live (aS b)]) at hl
 generalize Iy b day = r at *
 obtain ⟨i, m, fq, c, rd, n, s, e, ex⟩ := b
 unfold bf aS at *
 simp only at *
 refine aO afS rfl (afK ..) ?_
 cases r with
 | none => simp [Ed] at hl; simp [Pg, hl, Ed]
 | some k => simp [Ed] at hl; simp [Pg, hl, Ed]
theorem Rt {b : aN} {day : Int} : ∀ {f k j : Nat}, wP b day f k = some j → j < k + f ∧ anch b j = some day.toNat ∧ 0 ≤ day
 | 0, k, j, h => by simp [wP] at h
 | f + 1, k, j, h => by
   simp only [wP] at h
   split at h <;> try (simp at h; done)
   rename_i a ha
   split at h <;> try (simp at h; done)
   split at h
   ·rename_i h2
    simp at h
    subst h
    refine ⟨by omega, ?_, by omega⟩
    rw [ha]; congr 1; omega
   ·have := Rt h
    exact ⟨by omega, this.2⟩
def quasi (b : aN) (day : Int) : Option Nat := match Iy b day with
 | some k => if day ≤ b.issue then none else anch b (k + 1)
 | none => none
def ZA (b : aN) (day : Int) : D := match chk b with
 | some e => .aZ [.int .i64 0, dK (some e)]
 | none => kF (quasi b day)
theorem FU {b : aN} (hc : b.d_.length ≤ 1000000) (hr : b.eH.length ≤ 1000000) (day : Int) : L.call nZ [bf b, .int .i64 day] = some (ZA b day) := by
 have hck := zQ hc hr
 by_cases hchk : chk b = none
 ·have hm := (dM hchk).2.1
  have hp := afc hm day
  have hps := fun {j} => @Rt b day 3602 0 j
  have han := fun k (hk : k ≤ 100000) => yG b (k := k) hk
  unfold ZA quasi
  rw [hchk] at hck ⊢
  simp only
  unfold Iy at *
  generalize wP b day 3602 0 = r at *
  simp [dK] at hck
  cases r with
  | none =>
    obtain ⟨i, m, fq, c, rd, n, s, e, ex⟩ := b
    unfold bf aS at *
    simp only at *
    simp [Ed] at hp
    refine aO N_ rfl (NZ ..) ?_
    simp [yI, hck, hp, bP, kF]
  | some k =>
    have hk := (hps rfl).1
    have ha := han (k + 1) (by omega)
    have e1 : IntKind.i64.wrap ((k : Int) + 1) = ((k + 1 : Nat) : Int) := by rw [wrap64 _ (by omega)]; omega
    show L.call nZ [bf b, .int .i64 day] = some (kF (if day ≤ b.issue then none else anch b (k + 1)))
    generalize anch b (k + 1) = r2 at *
    obtain ⟨i, m, fq, c, rd, n, s, e, ex⟩ := b
    unfold bf aS at *
    simp only at *
    simp [Ed] at hp
    refine aO N_ rfl (NZ ..) ?_
    by_cases hd : day ≤ i
    ·simp [yI, hck, hp, hd, bP, kF]
    ·cases r2 with
     | none => simp [xZ] at ha; simp [yI, hck, hp, hd, e1, ha, bP, kF]
     | some a => simp [xZ] at ha; simp [yI, hck, hp, hd, e1, ha, kF]
 ·cases hce : chk b with
  | none => exact absurd hce hchk
  | some er =>
    obtain ⟨ec, es⟩ := er
    unfold ZA
    rw [hce] at hck ⊢
    obtain ⟨i, m, fq, c, rd, n, s, e, ex⟩ := b
    unfold bf aS at *
    simp only at *
    simp [dK, fQ] at hck
    refine aO N_ rfl (NZ ..) ?_
    simp [yI, hck, dK, fQ]
def pD (p : Int × Int) : D := .agg [.int .i64 p.1, .int .i64 p.2]
def regular (b : aN) (p : Int × Int) : Bool := match chk b with
 | some _ => false
 | none => match quasi b p.2 with
   | some a => decide ((a : Int) = p.1)
   | none => false
theorem qP {b : aN} (hc : b.d_.length ≤ 1000000) (hr : b.eH.length ≤ 1000000) (p : Int × Int) : L.call jh [bf b, pD p] = some (.bool (regular b p)) := by
 have hq := FU hc hr p.2
 obtain ⟨p1, p2⟩ := p
 unfold regular pD
 unfold ZA at hq
 simp only at hq ⊢
 generalize chk b = ck at *
 generalize quasi b p2 = q at *
 obtain ⟨i, m, fq, c, rd, n, s, e, ex⟩ := b
 unfold bf aS at *
 refine aO abL rfl (abx ..) ?_
 cases ck with
 | some er => obtain ⟨ec, es⟩ := er; simp [dK, fQ] at hq; simp [DZ, hq]
 | none =>
   cases q with
   | none => simp [kF] at hq; simp [DZ, hq]
   | some a => simp [kF] at hq; simp [DZ, hq]
end Go.Ev.Code
end
section
namespace Go.Ev.Code
open Go Go.Ev
theorem TU {y m d y' m' d' : Nat} (h : Au y m d) (h' : Au y' m' d') (hlt : y * 12 + m < y' * 12 + m') : dayOf y m d < dayOf y' m' d' := by
 have a1 := h.m1
 have a2 := h.m2
 have a3 := h'.m1
 have a4 := h'.m2
 have a5 := h.d1
 have a6 := h.d2
 have a7 := h'.d1
 have a8 := h.y1
 rcases Nat.lt_or_ge y y' with hy | hy
 ·have h1 := h.hi
  have h2 := h'.lo
  have h3 := Ji (x := y + 1) (y := y') (by omega) hy
  omega
 ·have hyy : y = y' := by omega
  subst hyy
  have hm : m < m' := by omega
  have h4 : dD y m = dD y (m - 1) + bU y m := by
   obtain ⟨q, rfl⟩ : ∃ q, m = q + 1 := ⟨m - 1, by omega⟩
   simp only [dD, Nat.add_sub_cancel]
  have h5 := Ox y (j := m) (k := m' - 1) (by omega)
  unfold dayOf
  omega
theorem TQ {day n : Int} {e : Bool} {r : Nat} (h : xk day n e = some r) : ∃ y m d, Au y m d ∧ r = dayOf y m d ∧
  ((y * 12 + m : Nat) : Int) = (((kU day.toNat).1 * 12 + (kU day.toNat).2.1 : Nat) : Int) + n := by
 unfold xk at h
 split at h <;> try (simp at h; done)
 rename_i hd
 obtain ⟨y, m, d, hc, hd, ho⟩ := gV hd
 rw [ho] at h ⊢
 unfold Jg at h
 split at h <;> try (simp at h; done)
 simp only at h ⊢
 have h1 := hc.y1
 have h3 := hc.m1
 have h12 : 1 ≤ ((((y * 12 + m - 1 : Nat) : Int) + n) % 12).toNat + 1 ∧ ((((y * 12 + m - 1 : Nat) : Int) + n) % 12).toNat + 1 ≤ 12 := by omega
 have hsum : (((((((y * 12 + m - 1 : Nat) : Int) + n) / 12).toNat * 12 + (((((y * 12 + m - 1 : Nat) : Int) + n) % 12).toNat + 1) : Nat)) : Int) = ((y * 12 + m : Nat) : Int) + n := by omega
 generalize ((((y * 12 + m - 1 : Nat) : Int) + n) % 12).toNat + 1 = m' at *
 generalize ((((y * 12 + m - 1 : Nat) : Int) + n) / 12).toNat = y' at *
 have hp := OO (y := y') h12.1 h12.2
 have hd1 := hc.d1
 obtain ⟨q1, q2⟩ := agR h12.1 h12.2 (by split <;> omega) (by split <;> omega) h
 exact ⟨_, _, _, q1, q2, hsum⟩
theorem abV {b : aN} (hm : months b ≠ 0) {j k a c : Nat} (hjk : j < k) (hj : anch b j = some a) (hk : anch b k = some c) : c < a := by
 obtain ⟨y, m, d, h1, h2, h3⟩ := TQ hj
 obtain ⟨y', m', d', h1', h2', h3'⟩ := TQ hk
 rw [h2, h2']
 refine TU h1' h1 ?_
 have hc := uF b
 rcases hc with h | h | h | h | h
 ·exact absurd h hm
 all_goals (rw [h] at h3 h3'; omega)
theorem TR {b : aN} {k a : Nat} (h : anch b k = some a) : bQ a := TP h
theorem aaR {b : aN} (hm : months b ≠ 0) {k a : Nat} (hk : anch b k = some a) (hall : ∀ i, i < k → (anch b i).isSome = true) (hk2 : k < 3602) : Iy b a = some k := by
 unfold Iy
 have : ∀ f i, i ≤ k → k < i + f → wP b a f i = some k := by
  intro f
  induction f with
  | zero => intro i h1 h2; omega
  | succ f ih =>
    intro i h1 h2
    simp only [wP]
    rcases Nat.lt_or_ge i k with h | h
    ·obtain ⟨c, hc⟩ := Option.isSome_iff_exists.1 (hall i h)
     have := abV hm h hc hk
     rw [hc]
     simp only
     rw [if_neg (by omega), if_neg (by omega)]
     exact ih (i + 1) h (by omega)
    ·have : i = k := by omega
     subst this
     rw [hk]
     simp
 exact this 3602 0 (by omega) (by omega)
theorem Xt {b : aN} (hchk : chk b = none) {k a : Nat} (hk : k < cO b) (h1 : anch b k = some a) {p : Int} (h2 : ∃ c, anch b (k + 1) = some c ∧ (c : Int) = p) : regular b (p, (a : Int)) = true := by
 have hm := (dM hchk).2.1
 obtain ⟨g1, g2, g3⟩ := OE hm
 obtain ⟨c, hc, hcp⟩ := h2
 have hpl := aaR hm h1 (fun i hi => by
  obtain ⟨d, hd, _⟩ := g1 i (by omega)
  rw [hd]; rfl) (by omega)
 obtain ⟨d, hd, hdi⟩ := g1 k hk
 rw [h1] at hd
 simp at hd
 subst hd
 unfold regular quasi
 rw [hchk]
 simp only [hpl]
 rw [if_neg (by omega), hc]
 simp [hcp]
theorem arz {b : aN} (hchk : chk b = none) : cO b ≤ 199 := by
 obtain ⟨q1, hm, _⟩ := dM hchk
 obtain ⟨d1, d2, d3⟩ := He q1
 obtain ⟨g1, g2, g3⟩ := OE hm
 have kp := Js hchk
 have hper : acs b ≤ 200 := by
  have h := hchk
  unfold chk at h
  split at h <;> try (simp at h; done)
  split at h <;> try (simp at h; done)
  split at h <;> try (simp at h; done)
  split at h <;> try (simp at h; done)
  split at h <;> try (simp at h; done)
  split at h <;> try (simp at h; done)
  split at h <;> try (simp at h; done)
  omega
 obtain ⟨d, hd, hdi⟩ := g1 (cO b - 1) (by omega)
 obtain ⟨y, m, dd, h1, h2, h3⟩ := TQ hd
 obtain ⟨yi, mi, di, hci, hdi2, hoi⟩ := gV d1
 have hge : yi * 12 + mi ≤ y * 12 + m := by
  rcases Nat.lt_or_ge (y * 12 + m) (yi * 12 + mi) with h | h
  ·have := TU h1 hci h
   omega
  ·exact h
 have hb : Aj b.issue b.fO = ((cO b - 1 : Nat) : Int) * months b + (((y * 12 + m : Nat) : Int) - ((yi * 12 + mi : Nat) : Int)) := by
  unfold Aj
  rw [hoi]
  simp only
  rw [Int.neg_mul] at h3
  omega
 have hnn : ((cO b - 1 : Nat) : Int) * months b ≤ Aj b.issue b.fO := by omega
 unfold acs at hper
 generalize Aj b.issue b.fO = bw at *
 have hc := uF b
 rcases hc with h | h | h | h | h
 ·exact absurd h hm
 all_goals
  rw [h] at hper hnn
  rw [Int.tdiv_eq_ediv_of_nonneg (by omega)] at hper
  omega
end Go.Ev.Code
end
