/- A part of the proof of priceFalls_card, riskSigns_card, yieldBack_card, yieldEdge_card, yieldFalls_card. -/
import Derived.Test.YtnokhmkkpcfilabGreatDoorCSpC
set_option linter.unusedVariables false
set_option linter.unusedSimpArgs false
section
namespace Go.Ev.Code
open Go Go.Ev
def leap (y : Nat) : Bool := decide (y % 4 = 0 ∧ (y % 100 ≠ 0 ∨ y % 400 = 0))
def f_ (y m : Nat) : Nat := match m with
 | 2 => if leap y then 29 else 28
 | 4 | 6 | 9 | 11 => 30
 | 1 | 3 | 5 | 7 | 8 | 10 | 12 => 31
 | _ => 0
def fO (y : Nat) : Nat := 365 * (y - 1900) + ((y - 1) / 4 - (y - 1) / 100 + (y - 1) / 400) - 460
theorem Lj (a b : Nat) : Int.tdiv (a : Int) (b : Int) = ((a / b : Nat) : Int) := rfl
theorem QK (a b : Nat) : Int.tmod (a : Int) (b : Int) = ((a % b : Nat) : Int) := rfl
theorem DI {y : Nat} (h1 : 1900 ≤ y) (h2 : y ≤ 1000000) : L.call qJ [.int .i64 y] = some (.int .i64 (fO y)) := by
 have e1 : IntKind.i64.wrap ((y : Int) - 1) = ((y - 1 : Nat) : Int) := by rw [wrap64 _ (by omega)]; omega
 have e2 : IntKind.i64.wrap ((y : Int) - 1900) = ((y - 1900 : Nat) : Int) := by rw [wrap64 _ (by omega)]; omega
 have q1 := Lj (y - 1) 4
 have q2 := Lj (y - 1) 100
 have q3 := Lj (y - 1) 400
 simp at q1 q2 q3
 have hb : fO y = 365 * (y - 1900) + ((y - 1) / 4 - (y - 1) / 100 + (y - 1) / 400) - 460 := rfl
 refine aJ afQ rfl (afn ..) ?_
 simp (disch := omega) [WR, e1, e2, q1, q2, q3, wrap64]
 omega
theorem ahp {y : Nat} (h : y ≤ 1000000) : L.call CJ [.int .i64 y] = some (.bool (leap y)) := by
 have q1 := QK y 4
 have q2 := QK y 100
 have q3 := QK y 400
 simp at q1 q2 q3
 refine aJ ajb rfl (ai2 ..) ?_
 unfold leap
 by_cases h4 : y % 4 = 0
 ·by_cases h100 : y % 100 = 0
  ·by_cases h400 : y % 400 = 0
   ·simp (disch := omega) [FV, q1, q2, q3, h4, h100, h400]
    have : (y : Int) % 4 = 0 := by omega
    have : (y : Int) % 100 = 0 := by omega
    have : (y : Int) % 400 = 0 := by omega
    simp [*]
   ·have : (y : Int) % 4 = 0 := by omega
    have : (y : Int) % 100 = 0 := by omega
    have : ¬ (y : Int) % 400 = 0 := by omega
    simp (disch := omega) [FV, q1, q2, q3, *]
  ·have : (y : Int) % 4 = 0 := by omega
   have : ¬ (y : Int) % 100 = 0 := by omega
   simp (disch := omega) [FV, q1, q2, q3, *]
 ·have : ¬ (y : Int) % 4 = 0 := by omega
  simp (disch := omega) [FV, q1, q2, q3, *]
end Go.Ev.Code
end
section
namespace Go.Ev.Code
open Go Go.Ev
theorem qj {y m : Nat} (h : y ≤ 1000000) (h1 : 1 ≤ m) (h2 : m ≤ 12) : L.call jh [.int .i64 y, .int .i64 m] = some (.int .i64 (f_ y m)) := by
 have hl := ahp h
 refine aJ afP rfl (afm ..) ?_
 have : m = 1 ∨ m = 2 ∨ m = 3 ∨ m = 4 ∨ m = 5 ∨ m = 6 ∨ m = 7 ∨ m = 8 ∨ m = 9 ∨ m = 10 ∨ m = 11 ∨ m = 12 := by omega
 rcases this with rfl | rfl | rfl | rfl | rfl | rfl | rfl | rfl | rfl | rfl | rfl | rfl
 case inr.inl =>
  cases hy : leap y <;> rw [hy] at hl <;> simp [NI, f_, hl, hy]
 all_goals simp [NI, f_]
theorem Vw (n : Int) : L.call Iz [.int .i64 n] = some (.bool (decide (0 ≤ n ∧ n ≤ 109572))) := by
 refine aJ amr rfl (amh ..) ?_
 by_cases h : 0 ≤ n
 ·by_cases h' : n ≤ 109572 <;> simp [YG, h, h']
 ·simp [YG, h]
def YS (n : Int) : Int := if 0 ≤ n ∧ n ≤ 109572 then (n + 1) % 7 else -1
theorem BK (n : Int) : L.call fC [.int .i64 n] = some (.int .i64 (YS n)) := by
 have h := Vw n
 refine aJ ac5 rfl (acS ..) ?_
 unfold YS
 by_cases hn : 0 ≤ n ∧ n ≤ 109572
 ·rw [decide_eq_true hn] at h
  have e : Int.tmod (n + 1) 7 = (n + 1) % 7 := Int.tmod_eq_emod_of_nonneg (by omega)
  simp (disch := omega) [KU, h, wrap64, hn, e]
 ·rw [decide_eq_false hn] at h
  simp [KU, h, hn]
def fJ (y : Nat) : Nat → Nat
 | 0 => 0
 | k + 1 => fJ y k + f_ y (k + 1)
theorem KG (y m : Nat) : f_ y m ≤ 31 := by unfold f_; split <;> (try split) <;> omega
theorem am0 (y k : Nat) : fJ y k ≤ 31 * k := by
 induction k with
 | zero => simp [fJ]
 | succ k ih => have := KG y (k + 1); simp only [fJ]; omega
theorem abu {y : Nat} (h : y ≤ 2200) : fO y ≤ 109573 := by unfold fO; omega
def zI (y m d : Nat) : D := .agg [.int .i64 y, .int .i64 m, .int .i64 d]
theorem arp {y m d A : Nat} (hy : y ≤ 2200) (hm : m ≤ 12) (hA : A ≤ 1000000) : ∀ (j k : Nat), k + j = m → 1 ≤ k →
  L.loop [1, 4, 5] [4] zK 1 [.loc 0 0, .int .i64 ((A + fJ y (k - 1) : Nat) : Int), .int .i64 k] [.live [.int .i64 y, .int .i64 m, .int .i64 d]] =
    some (.exit 0, [.int .i64 ((A + fJ y (m - 1) : Nat) : Int)], [.live [.int .i64 y, .int .i64 m, .int .i64 d]]) := by
 intro j
 induction j with
 | zero =>
   intro k hk h1
   have : k = m := by omega
   subst this
   generalize A + fJ y (k - 1) = B
   refine aQ (Xz ..) ?_
   simp [QE]
 | succ j ih =>
   intro k hk h1
   have hl := qj (y := y) (m := k) (by omega) h1 (by omega)
   have hn := ih (k + 1) (by omega) (by omega)
   have hc : A + fJ y (k + 1 - 1) = A + fJ y (k - 1) + f_ y k := by
    rw [Nat.add_sub_cancel]
    obtain ⟨q, rfl⟩ : ∃ q, k = q + 1 := ⟨k - 1, by omega⟩
    simp only [fJ, Nat.add_sub_cancel]; omega
   rw [hc] at hn
   have hb := am0 y (k - 1)
   have hb2 := KG y k
   have hlt : k < m := by omega
   have hBl : A + fJ y (k - 1) ≤ 1000372 := by omega
   generalize A + fJ y (k - 1) = B at *
   generalize A + fJ y (m - 1) = C at *
   generalize f_ y k = l at *
   have e1 : IntKind.i64.wrap ((B : Int) + l) = ((B + l : Nat) : Int) := by rw [wrap64 _ (by omega)]; omega
   have e2 : IntKind.i64.wrap ((k : Int) + 1) = ((k + 1 : Nat) : Int) := by rw [wrap64 _ (by omega)]; omega
   generalize B + l = B2 at *
   generalize k + 1 = k2 at *
   refine aQ (Xz ..) ?_
   simp (disch := omega) [QE, hl, hlt, e1, e2, hn]
def dayOf (y m d : Nat) : Nat := fO y + fJ y (m - 1) + d - 1
theorem abE {y m d : Nat} (h1 : 1900 ≤ y) (h2 : y ≤ 2199) (hm : 1 ≤ m) (hm2 : m ≤ 12) (hd : 1 ≤ d) (hd2 : d ≤ f_ y m) :
  L.call uV [zI y m d] = some (.aZ [.int .i64 (dayOf y m d), .aF]) := by
 have hl := qj (y := y) (m := m) (by omega) hm hm2
 have hb := DI h1 (by omega)
 have hlp := arp (y := y) (m := m) (d := d) (A := fO y + d - 1) (by omega) hm2 (by have := abu (y := y) (by omega); have := KG y m; omega) (m - 1) 1 (by omega) (by omega)
 simp only [Nat.sub_self, fJ, Nat.add_zero] at hlp
 have hbb := abu (y := y) (by omega)
 have hml := KG y m
 have hC : fO y + d - 1 + fJ y (m - 1) = dayOf y m d := by unfold dayOf; omega
 rw [hC, show ((1 : Nat) : Int) = 1 from rfl] at hlp
 have g1 : ¬ (y : Int) < 1900 := by omega
 have g2 : ¬ (2199 : Int) < y := by omega
 have g3 : ¬ (d : Int) < 1 := by omega
 generalize f_ y m = l at *
 have g4 : ¬ (l : Int) < d := by omega
 have g5 : ¬ l < d := by omega
 have g6 : ¬ 2199 < y := by omega
 generalize dayOf y m d = r at *
 generalize fO y = b at *
 have e1 : IntKind.i64.wrap ((b : Int) + d) = ((b + d : Nat) : Int) := by rw [wrap64 _ (by omega)]; omega
 have e2 : IntKind.i64.wrap (((b + d : Nat) : Int) - 1) = ((b + d - 1 : Nat) : Int) := by rw [wrap64 _ (by omega)]; omega
 generalize b + d - 1 = b1 at *
 generalize b + d = b2 at *
 refine aJ aeb rfl (ad5 ..) ?_
 unfold zI
 simp (disch := omega) [Tt, hl, hb, g1, g2, g3, g4, g5, g6, e1, e2, hlp]
end Go.Ev.Code
end
section
namespace Go.Ev.Code
open Go Go.Ev
theorem apg (y : Nat) : leap y = true ↔ (y % 4 = 0 ∧ (y % 100 ≠ 0 ∨ y % 400 = 0)) := by unfold leap; simp
theorem alg (y : Nat) : fJ y 12 = if leap y then 366 else 365 := by
 cases h : leap y <;> simp [fJ, f_, h]
theorem aiv {z k : Nat} (hk : 0 < k) : (z + 1) / k = z / k + (if (z + 1) % k = 0 then 1 else 0) := by
 rw [Nat.succ_div]
 by_cases h : (z + 1) % k = 0
 ·rw [if_pos h, if_pos (Nat.dvd_of_mod_eq_zero h)]
 ·rw [if_neg h, if_neg (fun hd => h (Nat.mod_eq_zero_of_dvd hd))]
theorem PS {y : Nat} (h : 1900 ≤ y) : fO (y + 1) = fO y + fJ y 12 := by
 rw [alg]
 have hl := apg y
 obtain ⟨z, rfl⟩ : ∃ z, y = z + 1 := ⟨y - 1, by omega⟩
 by_cases hz : z = 1899
 ·subst hz; decide
 have hz2 : 1900 ≤ z := by omega
 unfold fO
 have h4 := aiv (z := z) (k := 4) (by decide)
 have h100 := aiv (z := z) (k := 100) (by decide)
 have h400 := aiv (z := z) (k := 400) (by decide)
 have b1 : z / 100 ≤ z / 4 := Nat.div_le_div_left (by decide) (by decide)
 have b2 : 474 ≤ z / 4 := by omega
 have b3 : (z + 1) / 100 ≤ (z + 1) / 4 := Nat.div_le_div_left (by decide) (by decide)
 have b4 : 455 ≤ z / 4 - z / 100 := by omega
 have i1 : (z + 1) % 400 = 0 → (z + 1) % 100 = 0 := fun h => by omega
 have i2 : (z + 1) % 100 = 0 → (z + 1) % 4 = 0 := fun h => by omega
 rw [Nat.add_sub_cancel, Nat.add_sub_cancel]
 generalize (z + 1) % 4 = r4 at *
 generalize (z + 1) % 100 = r100 at *
 generalize (z + 1) % 400 = r400 at *
 generalize (z + 1) / 4 = p4 at *
 generalize (z + 1) / 100 = p100 at *
 generalize (z + 1) / 400 = p400 at *
 generalize z / 4 = s4 at *
 generalize z / 100 = s100 at *
 generalize z / 400 = s400 at *
 by_cases c4 : r4 = 0
 ·rw [if_pos c4] at h4
  by_cases c100 : r100 = 0
  ·rw [if_pos c100] at h100
   by_cases c400 : r400 = 0
   ·rw [if_pos c400] at h400
    rw [if_pos (hl.2 ⟨c4, .inr c400⟩)]; omega
   ·rw [if_neg c400] at h400
    rw [if_neg (fun h => by rcases (hl.1 h).2 with h | h <;> contradiction)]; omega
  ·rw [if_neg c100] at h100
   have c400 : ¬ r400 = 0 := fun h => c100 (i1 h)
   rw [if_neg c400] at h400
   rw [if_pos (hl.2 ⟨c4, .inl c100⟩)]; omega
 ·have c100 : ¬ r100 = 0 := fun h => c4 (i2 h)
  have c400 : ¬ r400 = 0 := fun h => c100 (i1 h)
  rw [if_neg c4] at h4
  rw [if_neg c100] at h100
  rw [if_neg c400] at h400
  rw [if_neg (fun h => c4 (hl.1 h).1)]; omega
theorem Vu (y : Nat) {j k : Nat} (h : j ≤ k) : fJ y j ≤ fJ y k := by
 induction k with
 | zero => have : j = 0 := by omega
           rw [this]; exact Nat.le_refl _
 | succ k ih =>
   rcases Nat.lt_or_ge k j with h1 | h1
   ·have : j = k + 1 := by omega
    rw [this]; exact Nat.le_refl _
   ·have := ih h1; simp only [fJ]; omega
theorem PO {x y : Nat} (h : 1900 ≤ x) (hxy : x ≤ y) : fO x ≤ fO y := by
 induction y with
 | zero => omega
 | succ y ih =>
   rcases Nat.lt_or_ge y x with h1 | h1
   ·have : x = y + 1 := by omega
    rw [this]; exact Nat.le_refl _
   ·have := ih h1; rw [PS (by omega)]; omega
structure Io (y m d : Nat) : Prop where
 y1 : 1900 ≤ y
 y2 : y ≤ 2199
 m1 : 1 ≤ m
 m2 : m ≤ 12
 d1 : 1 ≤ d
 d2 : d ≤ f_ y m
theorem Io.lo {y m d : Nat} (h : Io y m d) : fO y ≤ dayOf y m d := by have := h.d1; unfold dayOf; omega
theorem Io.hi {y m d : Nat} (h : Io y m d) : dayOf y m d < fO (y + 1) := by
 have h1 := h.d1
 have h2 := h.d2
 have h3 := h.m1
 have h5 := h.m2
 rw [PS h.y1]
 have h4 := Vu y h5
 have h6 : fJ y m = fJ y (m - 1) + f_ y m := by
  obtain ⟨q, rfl⟩ : ∃ q, m = q + 1 := ⟨m - 1, by omega⟩
  simp only [fJ, Nat.add_sub_cancel]
 unfold dayOf; omega
theorem Io.le {y m d : Nat} (h : Io y m d) : dayOf y m d ≤ 109572 := by
 have h1 := h.hi
 have h2 := h.y1
 have h3 := h.y2
 have := PO (x := y + 1) (y := 2200) (by omega) (by omega)
 have h4 : fO 2200 = 109573 := by decide
 omega
theorem ake {y : Nat} (h : 1900 ≤ y) : fO y ≤ 366 * (y - 1900) := by
 unfold fO; omega
theorem amV {day y : Nat} (hd : day ≤ 109572) (hy1 : fO y ≤ day) (hy2 : day < fO (y + 1)) (hy3 : y ≤ 2199) : ∀ (j x : Nat), x + j = y → 1900 ≤ x →
  L.loop [0, 2, 4] [0, 2, 4] rQ 2 [.int .i64 day, .loc 0 0, .loc 1 0] [.live [.int .i64 0, .int .i64 0, .int .i64 0], .live [.int .i64 x, .int .i64 1, .int .i64 0]] =
    some (.exit 0, [.int .i64 day, .loc 0 0, .loc 1 0], [.live [.int .i64 0, .int .i64 0, .int .i64 0], .live [.int .i64 y, .int .i64 1, .int .i64 0]]) := by
 intro j
 induction j with
 | zero =>
   intro x hx h1
   have : x = y := by omega
   subst this
   have hb := DI (y := x + 1) (by omega) (by omega)
   have e1 : IntKind.i64.wrap ((x : Int) + 1) = ((x + 1 : Nat) : Int) := by rw [wrap64 _ (by omega)]; omega
   generalize fO (x + 1) = b at *
   generalize x + 1 = x2 at *
   have g : ¬ b ≤ day := by omega
   have g' : ¬ (b : Int) ≤ day := by omega
   refine aQ (QU ..) ?_
   simp (disch := omega) [JY, e1, hb, g, g']
 | succ j ih =>
   intro x hx h1
   have hb := DI (y := x + 1) (by omega) (by omega)
   have hn := ih (x + 1) (by omega) (by omega)
   have hmo := PO (x := x + 1) (y := y) (by omega) (by omega)
   have e1 : IntKind.i64.wrap ((x : Int) + 1) = ((x + 1 : Nat) : Int) := by rw [wrap64 _ (by omega)]; omega
   generalize fO (x + 1) = b at *
   generalize x + 1 = x2 at *
   have g : b ≤ day := by omega
   have g' : (b : Int) ≤ day := by omega
   refine aQ (QU ..) ?_
   simp (disch := omega) [JY, e1, hb, g, g', hn]
theorem amW {y m d : Nat} (h : Io y m d) : ∀ (j k : Nat), k + j = m → 1 ≤ k →
  L.loop [2, 4, 5] [2, 4, 5] rU 2 [.loc 0 0, .loc 1 0, .int .i64 ((fJ y (m - 1) + (d - 1) - fJ y (k - 1) : Nat) : Int)] [.live [.int .i64 0, .int .i64 0, .int .i64 0], .live [.int .i64 y, .int .i64 k, .int .i64 0]] =
    some (.exit 2, [.loc 0 0, .loc 1 0, .int .i64 ((d - 1 : Nat) : Int)], [.live [.int .i64 0, .int .i64 0, .int .i64 0], .live [.int .i64 y, .int .i64 m, .int .i64 0]]) := by
 have h1 := h.d1
 have h2 := h.d2
 have h3 := h.m2
 have h4 := h.y2
 have h5 := KG y m
 intro j
 induction j with
 | zero =>
   intro k hk hk1
   have : k = m := by omega
   subst this
   have hl := qj (y := y) (m := k) (by omega) hk1 h3
   rw [show fJ y (k - 1) + (d - 1) - fJ y (k - 1) = d - 1 by omega]
   generalize f_ y k = l at *
   have g : ¬ (l : Int) ≤ ((d - 1 : Nat) : Int) := by omega
   have g' : ¬ l ≤ d - 1 := by omega
   generalize d - 1 = d1 at *
   refine aQ (QV ..) ?_
   simp (disch := omega) [JZ, hl, g, g']
 | succ j ih =>
   intro k hk hk1
   have hl := qj (y := y) (m := k) (by omega) hk1 (by omega)
   have hn := ih (k + 1) (by omega) (by omega)
   have hc : fJ y (k + 1 - 1) = fJ y (k - 1) + f_ y k := by
    rw [Nat.add_sub_cancel]
    obtain ⟨q, rfl⟩ : ∃ q, k = q + 1 := ⟨k - 1, by omega⟩
    simp only [fJ, Nat.add_sub_cancel]
   have hmo := Vu y (j := k) (k := m - 1) (by omega)
   rw [Nat.add_sub_cancel] at hc hn
   rw [hc] at hmo hn
   have hub := am0 y (m - 1)
   have hub2 : fJ y (m - 1) + (d - 1) ≤ 1000 := by omega
   have hmo2 : fJ y (k - 1) + f_ y k ≤ fJ y (m - 1) + (d - 1) := by omega
   generalize fJ y (m - 1) + (d - 1) = T at *
   generalize f_ y k = l at *
   generalize fJ y (k - 1) = c at *
   have g : l ≤ T - c := by omega
   have g' : (l : Int) ≤ ((T - c : Nat) : Int) := by omega
   have e1 : IntKind.i64.wrap (((T - c : Nat) : Int) - l) = ((T - (c + l) : Nat) : Int) := by rw [wrap64 _ (by omega)]; omega
   have e2 : IntKind.i64.wrap ((k : Int) + 1) = ((k + 1 : Nat) : Int) := by rw [wrap64 _ (by omega)]; omega
   generalize T - (c + l) = r2 at *
   generalize T - c = r1 at *
   generalize k + 1 = k2 at *
   refine aQ (QV ..) ?_
   simp (disch := omega) [JZ, hl, g, g', e1, e2, hn]
theorem rV {y m d : Nat} (h : Io y m d) : L.call gJ [.int .i64 (dayOf y m d)] = some (.aZ [zI y m d, .aF]) := by
 have hle := h.le
 have hlo := h.lo
 have hhi := h.hi
 have hd1 := h.d1
 have hd2 := h.d2
 have hml := KG y m
 have hy := h.y2
 have hm2 := h.m2
 have hb := DI h.y1 (by omega)
 have h366 := ake (y := y + 1) (by have := h.y1; omega)
 have l1 := amV hle hlo hhi h.y2 (y - (1900 + dayOf y m d / 366)) (1900 + dayOf y m d / 366) (by omega) (by omega)
 have l2 := amW h (m - 1) 1 (by have := h.m1; omega) (by omega)
 have his := Vw (dayOf y m d)
 rw [decide_eq_true (by omega)] at his
 have hT : dayOf y m d - fO y = fJ y (m - 1) + (d - 1) := by unfold dayOf; omega
 simp only [Nat.sub_self, fJ, Nat.sub_zero] at l2
 rw [← hT, show ((1 : Nat) : Int) = 1 from rfl] at l2
 have hbb := abu (y := y) (by omega)
 have q1 := Lj (dayOf y m d) 366
 simp at q1
 generalize dayOf y m d = day at *
 have e1 : IntKind.i64.wrap ((day : Int) / 366) = ((day / 366 : Nat) : Int) := by rw [wrap64 _ (by omega)]; omega
 have e2 : IntKind.i64.wrap (1900 + ((day / 366 : Nat) : Int)) = ((1900 + day / 366 : Nat) : Int) := by rw [wrap64 _ (by omega)]; omega
 have e2' : IntKind.i64.wrap (1900 + (day : Int) / 366) = ((1900 + day / 366 : Nat) : Int) := by rw [wrap64 _ (by omega)]; omega
 generalize 1900 + day / 366 = x at *
 generalize fO y = b at *
 have e3 : IntKind.i64.wrap ((day : Int) - b) = ((day - b : Nat) : Int) := by rw [wrap64 _ (by omega)]; omega
 generalize day - b = r at *
 have e4 : IntKind.i64.wrap (((d - 1 : Nat) : Int) + 1) = (d : Int) := by rw [wrap64 _ (by omega)]; omega
 generalize d - 1 = dd at *
 refine aJ XH rfl (Xy ..) ?_
 unfold zI
 simp (disch := omega) [QD, his, q1, e1, e2, e2', l1, hb, e3, l2, e4]
theorem UH {n : Int} (h : ¬ (0 ≤ n ∧ n ≤ 109572)) : L.call gJ [.int .i64 n] = some (.aZ [zI 0 0 0, wR 4]) := by
 have his := Vw n
 rw [decide_eq_false h] at his
 refine aJ XH rfl (Xy ..) ?_
 unfold zI
 simp (disch := omega) [QD, his, bT]
theorem asC {day : Nat} (h : day ≤ 109572) : ∃ y m d, Io y m d ∧ dayOf y m d = day := by
 have hy : ∃ y, 1900 ≤ y ∧ fO y ≤ day ∧ day < fO (y + 1) := by
  have : ∀ k, day < fO (1900 + k) → ∃ y, 1900 ≤ y ∧ fO y ≤ day ∧ day < fO (y + 1) := by
   intro k
   induction k with
   | zero => intro h1; have : fO 1900 = 0 := by decide
             rw [Nat.add_zero, this] at h1; omega
   | succ k ih =>
     intro h1
     rcases Nat.lt_or_ge day (fO (1900 + k)) with h2 | h2
     ·exact ih h2
     ·exact ⟨1900 + k, by omega, h2, h1⟩
  exact this 300 (by have : fO (1900 + 300) = 109573 := by decide
                     omega)
 obtain ⟨y, h1, h2, h3⟩ := hy
 have hm : ∃ m, 1 ≤ m ∧ m ≤ 12 ∧ fJ y (m - 1) ≤ day - fO y ∧ day - fO y < fJ y m := by
  have : ∀ k, k ≤ 12 → day - fO y < fJ y k → ∃ m, 1 ≤ m ∧ m ≤ 12 ∧ fJ y (m - 1) ≤ day - fO y ∧ day - fO y < fJ y m := by
   intro k
   induction k with
   | zero => intro _ h1; simp [fJ] at h1
   | succ k ih =>
     intro hk h1
     rcases Nat.lt_or_ge (day - fO y) (fJ y k) with h2 | h2
     ·exact ih (by omega) h2
     ·exact ⟨k + 1, by omega, hk, by rw [Nat.add_sub_cancel]; exact h2, h1⟩
  rw [PS h1] at h3
  exact this 12 (by omega) (by omega)
 obtain ⟨m, m1, m2, m3, m4⟩ := hm
 have h6 : fJ y m = fJ y (m - 1) + f_ y m := by
  obtain ⟨q, rfl⟩ : ∃ q, m = q + 1 := ⟨m - 1, by omega⟩
  simp only [fJ, Nat.add_sub_cancel]
 have hy2 : y ≤ 2199 := by
  rcases Nat.lt_or_ge 2199 y with hh | hh
  ·have := PO (x := 2200) (y := y) (by omega) hh
   have h4 : fO 2200 = 109573 := by decide
   omega
  ·exact hh
 refine ⟨y, m, day - fO y - fJ y (m - 1) + 1, ⟨h1, hy2, m1, m2, by omega, by omega⟩, ?_⟩
 unfold dayOf; omega
end Go.Ev.Code
end
section
namespace Go.Ev.Code
open Go Go.Ev
theorem ajt {y m d : Nat} (h : ¬ (1900 ≤ y ∧ y ≤ 2199)) (hy : y ≤ 1000000) (h1 : 1 ≤ m) (h2 : m ≤ 12) (hd : 1 ≤ d) : L.call uV [zI y m d] = some (.aZ [.int .i64 0, wR 4]) := by
 refine aJ aeb rfl (ad5 ..) ?_
 unfold zI
 by_cases g1 : y < 1900
 ·have g1' : (y : Int) < 1900 := by omega
  simp (disch := omega) [Tt, g1, g1', bT]
 ·have g1' : ¬ (y : Int) < 1900 := by omega
  have g2 : 2199 < y := by omega
  have g2' : (2199 : Int) < y := by omega
  simp (disch := omega) [Tt, g1, g1', g2, g2', bT]
theorem VN {y m : Nat} (h1 : 1 ≤ m) (h2 : m ≤ 12) : 28 ≤ f_ y m := by
 have : m = 1 ∨ m = 2 ∨ m = 3 ∨ m = 4 ∨ m = 5 ∨ m = 6 ∨ m = 7 ∨ m = 8 ∨ m = 9 ∨ m = 10 ∨ m = 11 ∨ m = 12 := by omega
 rcases this with rfl | rfl | rfl | rfl | rfl | rfl | rfl | rfl | rfl | rfl | rfl | rfl <;> simp only [f_] <;> (try split) <;> omega
def kU : Option Nat → D
 | some n => .aZ [.int .i64 n, .aF]
 | none => .aZ [.int .i64 0, wR 4]
def Hg (y m d : Nat) : Option Nat := if 1900 ≤ y ∧ y ≤ 2199 then some (dayOf y m d) else none
theorem abG {y m d : Nat} (hy : y ≤ 1000000) (h1 : 1 ≤ m) (h2 : m ≤ 12) (hd : 1 ≤ d) (hd2 : d ≤ f_ y m) : L.call uV [zI y m d] = some (kU (Hg y m d)) := by
 unfold Hg
 split
 ·rename_i h; exact abE h.1 h.2 h1 h2 hd hd2
 ·rename_i h; exact ajt h hy h1 h2 hd
theorem ah2 {y m : Nat} (hy : y ≤ 1000000) (h1 : 1 ≤ m) (h2 : m ≤ 12) : L.call zA [.int .i64 y, .int .i64 m] = some (kU (Hg y m (f_ y m))) := by
 have hl := qj hy h1 h2
 have hp := VN (y := y) h1 h2
 have h := abG hy h1 h2 (d := f_ y m) (by omega) (Nat.le_refl _)
 unfold zI at h
 generalize hr : Hg y m (f_ y m) = r at *
 generalize f_ y m = l at *
 refine aJ ajd rfl (ai4 ..) ?_
 cases r <;> simp [Uf, hl, h, kU] at h ⊢ <;> simp [Uf, hl, h, kU]
theorem agq {y m d : Nat} (h : Io y m d) : L.call um [.int .i64 (dayOf y m d)] = some (.bool (decide (d = f_ y m))) := by
 have hc := rV h
 have hl := qj (y := y) (m := m) (by have := h.y2; omega) h.m1 h.m2
 unfold zI at hc
 generalize dayOf y m d = day at *
 generalize f_ y m = l at *
 refine aJ ag4 rfl (agW ..) ?_
 have : ((d : Int) = l) ↔ d = l := by omega
 by_cases hdl : d = l <;> simp [YH, hc, hl, hdl, this]
def Nz (y m d : Nat) (n : Int) (e : Bool) : Option Nat :=
 if -3600 ≤ n ∧ n ≤ 3600 then
  (let a := ((y * 12 + m - 1 : Nat) : Int) + n
   let y' := (a / 12).toNat
   let m' := (a % 12).toNat + 1
   Hg y' m' (if e = true ∧ d = f_ y m then f_ y' m' else min d (f_ y' m')))
 else none
set_option maxHeartbeats 1000000 in
theorem ah1 {y m d : Nat} (h : Io y m d) (n : Int) (e : Bool) : L.call nC [.int .i64 (dayOf y m d), .int .i64 n, .bool e] = some (kU (Nz y m d n e)) := by
 have hc := rV h
 have hla := agq h
 unfold zI at hc
 have h1 := h.y1
 have h2 := h.y2
 have h3 := h.m1
 have h4 := h.m2
 have h5 := h.d1
 have h6 := h.d2
 by_cases hn : -3600 ≤ n ∧ n ≤ 3600
 ·obtain ⟨a, ha⟩ : ∃ a : Nat, ((y * 12 + m - 1 : Nat) : Int) + n = a := ⟨(((y * 12 + m - 1 : Nat) : Int) + n).toNat, by omega⟩
  have ha2 : a ≤ 1000000 := by omega
  have e1 : IntKind.i64.wrap ((y : Int) * 12) = ((y * 12 : Nat) : Int) := by rw [wrap64 _ (by omega)]; omega
  have e2 : IntKind.i64.wrap (((y * 12 : Nat) : Int) + m) = ((y * 12 + m : Nat) : Int) := by rw [wrap64 _ (by omega)]; omega
  have e3 : IntKind.i64.wrap (((y * 12 + m : Nat) : Int) - 1) = ((y * 12 + m - 1 : Nat) : Int) := by rw [wrap64 _ (by omega)]; omega
  have e4 : IntKind.i64.wrap (((y * 12 + m - 1 : Nat) : Int) + n) = (a : Int) := by rw [ha, wrap64 _ (by omega)]
  have q1 := Lj a 12
  have q2 := QK a 12
  simp at q1 q2
  have e5 : IntKind.i64.wrap ((a : Int) / 12) = ((a / 12 : Nat) : Int) := by rw [wrap64 _ (by omega)]; omega
  have e6 : IntKind.i64.wrap ((a : Int) % 12 + 1) = ((a % 12 + 1 : Nat) : Int) := by rw [wrap64 _ (by omega)]; omega
  have hA : Nz y m d n e = Hg (a / 12) (a % 12 + 1) (if e = true ∧ d = f_ y m then f_ (a / 12) (a % 12 + 1) else min d (f_ (a / 12) (a % 12 + 1))) := by
   unfold Nz
   rw [if_pos hn]
   simp only [ha]
   have : ((a : Int) / 12).toNat = a / 12 := by omega
   have : ((a : Int) % 12).toNat = a % 12 := by omega
   simp only [*]
  rw [hA]
  have hy' : a / 12 ≤ 1000000 := by omega
  have hm' : 1 ≤ a % 12 + 1 ∧ a % 12 + 1 ≤ 12 := by omega
  have hEnd := ah2 hy' hm'.1 hm'.2
  have hLen := qj hy' hm'.1 hm'.2
  have hp := VN (y := a / 12) hm'.1 hm'.2
  have hmk := abG hy' hm'.1 hm'.2 (d := min d (f_ (a / 12) (a % 12 + 1))) (by omega) (by omega)
  unfold zI at hmk
  have hmin : min (d : Int) (f_ (a / 12) (a % 12 + 1)) = ((min d (f_ (a / 12) (a % 12 + 1)) : Nat) : Int) := by omega
  have hg1 : ¬ n < -3600 := by omega
  have hg2 : ¬ 3600 < n := by omega
  generalize y * 12 + m - 1 = b1 at *
  generalize y * 12 + m = b2 at *
  generalize y * 12 = b3 at *
  generalize a % 12 + 1 = m' at *
  generalize a / 12 = y' at *
  generalize dayOf y m d = day at *
  generalize f_ y m = lm at *
  generalize hl' : f_ y' m' = l' at *
  by_cases hE : e = true ∧ d = lm
  ·obtain ⟨rfl, hdl⟩ := hE
   rw [if_pos ⟨rfl, hdl⟩]
   rw [decide_eq_true hdl] at hla
   generalize Hg y' m' l' = r at *
   cases r with
   | none =>
     simp [kU] at hEnd
     refine aJ AX rfl (AV ..) ?_
     simp (config := {maxSteps := 1000000}) [oq, hc, hg1, hg2, e1, e2, e3, e4, q1, q2, e5, e6, hla, hEnd, kU]
   | some r =>
     simp [kU] at hEnd
     refine aJ AX rfl (AV ..) ?_
     simp (config := {maxSteps := 1000000}) [oq, hc, hg1, hg2, e1, e2, e3, e4, q1, q2, e5, e6, hla, hEnd, kU]
  ·rw [if_neg hE]
   generalize min d l' = dm at *
   have hla' : e = true → L.call um [.int .i64 day] = some (.bool false) := fun he => by
    rw [hla, decide_eq_false (fun h => hE ⟨he, h⟩)]
   generalize Hg y' m' dm = r at *
   cases r with
   | none =>
     simp [kU] at hmk
     refine aJ AX rfl (AV ..) ?_
     cases e with
     | false => simp (config := {maxSteps := 1000000}) [oq, hc, hg1, hg2, e1, e2, e3, e4, q1, q2, e5, e6, hLen, hmin, hmk, kU]
     | true => simp (config := {maxSteps := 1000000}) [oq, hc, hg1, hg2, e1, e2, e3, e4, q1, q2, e5, e6, hla' rfl, hLen, hmin, hmk, kU]
   | some r =>
     simp [kU] at hmk
     refine aJ AX rfl (AV ..) ?_
     cases e with
     | false => simp (config := {maxSteps := 1000000}) [oq, hc, hg1, hg2, e1, e2, e3, e4, q1, q2, e5, e6, hLen, hmin, hmk, kU]
     | true => simp (config := {maxSteps := 1000000}) [oq, hc, hg1, hg2, e1, e2, e3, e4, q1, q2, e5, e6, hla' rfl, hLen, hmin, hmk, kU]
 ·have hA : Nz y m d n e = none := by unfold Nz; rw [if_neg hn]
  rw [hA]
  generalize dayOf y m d = day at *
  refine aJ AX rfl (AV ..) ?_
  by_cases hg1 : n < -3600
  ·simp (config := {maxSteps := 1000000}) [oq, hc, hg1, bT, kU]
  ·have hg2 : 3600 < n := by omega
   simp (config := {maxSteps := 1000000}) [oq, hc, hg1, hg2, bT, kU]
theorem agp {day : Int} (h : ¬ (0 ≤ day ∧ day ≤ 109572)) (n : Int) (e : Bool) : L.call nC [.int .i64 day, .int .i64 n, .bool e] = some (.aZ [.int .i64 0, wR 4]) := by
 have hc := UH h
 unfold zI at hc
 refine aJ AX rfl (AV ..) ?_
 simp at hc
 simp (config := {maxSteps := 1000000}) [oq, hc]
theorem aaS {y m d y' m' d' : Nat} (h : Io y m d) (h' : Io y' m' d') : L.call jY [.int .i64 (dayOf y m d), .int .i64 (dayOf y' m' d')] = some (.int .i64 (((y' * 12 + m' : Nat) : Int) - ((y * 12 + m : Nat) : Int))) := by
 have hc := rV h
 have hc' := rV h'
 unfold zI at hc hc'
 have h1 := h.y1
 have h2 := h.y2
 have h3 := h.m2
 have h1' := h'.y1
 have h2' := h'.y2
 have h3' := h'.m2
 generalize dayOf y m d = day at *
 generalize dayOf y' m' d' = day' at *
 have hr : ((y' * 12 + m' : Nat) : Int) - ((y * 12 + m : Nat) : Int) = ((y' : Int) - y) * 12 + m' - m := by omega
 rw [hr]
 have e1 : IntKind.i64.wrap ((y' : Int) - y) = (y' : Int) - y := wrap64 _ (by omega)
 have e2 : IntKind.i64.wrap (((y' : Int) - y) * 12) = ((y' : Int) - y) * 12 := wrap64 _ (by omega)
 have e3 : IntKind.i64.wrap (((y' : Int) - y) * 12 + m') = ((y' : Int) - y) * 12 + m' := wrap64 _ (by omega)
 have e4 : IntKind.i64.wrap (((y' : Int) - y) * 12 + m' - m) = ((y' : Int) - y) * 12 + m' - m := wrap64 _ (by omega)
 generalize hk4 : ((y' : Int) - y) * 12 + m' - m = k4 at *
 rw [← hk4]
 refine aJ abm rfl (abh ..) ?_
 simp [Tv, hc, hc', e1, e2, e3]
 rw [hk4]; exact e4
end Go.Ev.Code
end
section
namespace Go.Ev.Code
open Go Go.Ev
def ahj : Nat → Nat → Nat → Nat
 | 0, y, _ => y
 | f + 1, y, day => if fO (y + 1) ≤ day then ahj f (y + 1) day else y
def ahg : Nat → Nat → Nat → Nat → Nat × Nat
 | 0, _, m, r => (m, r)
 | f + 1, y, m, r => if f_ y m ≤ r then ahg f y (m + 1) (r - f_ y m) else (m, r)
def kL (day : Nat) : Nat × Nat × Nat :=
 let y := ahj 300 (1900 + day / 366) day
 let r := ahg 12 y 1 (day - fO y)
 (y, r.1, r.2 + 1)
theorem aqW {day y : Nat} (h1 : fO y ≤ day) (h2 : day < fO (y + 1)) : ∀ (f x : Nat), x ≤ y → y < x + f → 1900 ≤ x → ahj f x day = y := by
 intro f
 induction f with
 | zero => intro x hx hf; omega
 | succ f ih =>
   intro x hx hf h19
   simp only [ahj]
   rcases Nat.lt_or_ge x y with h | h
   ·have := PO (x := x + 1) (y := y) (by omega) h
    rw [if_pos (by omega)]
    exact ih (x + 1) h (by omega) (by omega)
   ·have : x = y := by omega
    subst this
    rw [if_neg (by omega)]
theorem aqV {y m d : Nat} (hd : d < f_ y m) : ∀ (f k : Nat), 1 ≤ k → k ≤ m → m < k + f → ahg f y k (fJ y (m - 1) + d - fJ y (k - 1)) = (m, d) := by
 intro f
 induction f with
 | zero => intro k h1 h2 h3; omega
 | succ f ih =>
   intro k h1 h2 h3
   simp only [ahg]
   rcases Nat.lt_or_ge k m with h | h
   ·have hc : fJ y (k - 1) + f_ y k = fJ y k := by
     obtain ⟨q, rfl⟩ : ∃ q, k = q + 1 := ⟨k - 1, by omega⟩
     simp only [fJ, Nat.add_sub_cancel]
    have hm := Vu y (j := k) (k := m - 1) (by omega)
    have := ih (k + 1) (by omega) (by omega) (by omega)
    rw [Nat.add_sub_cancel, ← hc, ← Nat.sub_sub] at this
    rw [if_pos (by omega)]
    exact this
   ·have : k = m := by omega
    subst this
    rw [show fJ y (k - 1) + d - fJ y (k - 1) = d by omega, if_neg (by omega)]
theorem ahi {y m d : Nat} (h : Io y m d) : kL (dayOf y m d) = (y, m, d) := by
 have h1 := h.y1
 have h2 := h.y2
 have hd1 := h.d1
 have hd2 := h.d2
 have hm1 := h.m1
 have hm2 := h.m2
 have h366 := ake (y := y + 1) (by omega)
 have hhi := h.hi
 unfold kL
 have hy : ahj 300 (1900 + dayOf y m d / 366) (dayOf y m d) = y := aqW h.lo h.hi 300 _ (by omega) (by omega) (by omega)
 rw [hy]
 have hr : dayOf y m d - fO y = fJ y (m - 1) + (d - 1) := by unfold dayOf; omega
 have hm : ahg 12 y 1 (dayOf y m d - fO y) = (m, d - 1) := by
  rw [hr]
  have := aqV (y := y) (m := m) (d := d - 1) (by omega) 12 1 (by omega) hm1 (by omega)
  simpa [fJ] using this
 simp only [hm]
 rw [show d - 1 + 1 = d by omega]
abbrev bU (n : Int) : Prop := 0 ≤ n ∧ n ≤ 109572
theorem ig {n : Int} (h : bU n) : ∃ y m d, Io y m d ∧ n = (dayOf y m d : Nat) ∧ kL n.toNat = (y, m, d) := by
 obtain ⟨y, m, d, hc, hd⟩ := asC (day := n.toNat) (by omega)
 refine ⟨y, m, d, hc, by omega, ?_⟩
 rw [← hd, ahi hc]
def yY (day n : Int) (e : Bool) : Option Nat := if bU day then Nz (kL day.toNat).1 (kL day.toNat).2.1 (kL day.toNat).2.2 n e else none
theorem TQ (day n : Int) (e : Bool) : L.call nC [.int .i64 day, .int .i64 n, .bool e] = some (kU (yY day n e)) := by
 unfold yY
 by_cases h : bU day
 ·obtain ⟨y, m, d, hc, hd, ho⟩ := ig h
  rw [if_pos h, ho]
  rw [hd]
  exact ah1 hc n e
 ·rw [if_neg h]
  exact agp h n e
def Cm (a b : Int) : Int := (((kL b.toNat).1 * 12 + (kL b.toNat).2.1 : Nat) : Int) - (((kL a.toNat).1 * 12 + (kL a.toNat).2.1 : Nat) : Int)
theorem SV {a b : Int} (ha : bU a) (hb : bU b) : L.call jY [.int .i64 a, .int .i64 b] = some (.int .i64 (Cm a b)) := by
 obtain ⟨y, m, d, hc, hd, ho⟩ := ig ha
 obtain ⟨y', m', d', hc', hd', ho'⟩ := ig hb
 unfold Cm
 rw [ho, ho', hd, hd']
 exact aaS hc hc'
theorem ah0 {y m d n : Nat} (h1 : 1 ≤ m) (h2 : m ≤ 12) (hd : 1 ≤ d) (hd2 : d ≤ f_ y m) (h : Hg y m d = some n) : Io y m d ∧ n = dayOf y m d := by
 unfold Hg at h
 split at h <;> simp at h
 rename_i hy
 exact ⟨⟨hy.1, hy.2, h1, h2, hd, hd2⟩, h.symm⟩
theorem aaj {day n : Int} {e : Bool} {r : Nat} (h : yY day n e = some r) : bU r := by
 unfold yY at h
 split at h <;> try (simp at h; done)
 rename_i hd
 obtain ⟨y, m, d, hc, hd, ho⟩ := ig hd
 rw [ho] at h
 unfold Nz at h
 split at h <;> try (simp at h; done)
 simp only at h
 have hm := h
 have h12 : 1 ≤ ((((y * 12 + m - 1 : Nat) : Int) + n) % 12).toNat + 1 ∧ ((((y * 12 + m - 1 : Nat) : Int) + n) % 12).toNat + 1 ≤ 12 := by omega
 generalize ((((y * 12 + m - 1 : Nat) : Int) + n) % 12).toNat + 1 = m' at *
 generalize ((((y * 12 + m - 1 : Nat) : Int) + n) / 12).toNat = y' at *
 have hp := VN (y := y') h12.1 h12.2
 have hd1 := hc.d1
 obtain ⟨q1, q2⟩ := ah0 h12.1 h12.2 (by split <;> omega) (by split <;> omega) hm
 have := q1.le
 rw [← q2] at this
 constructor <;> omega
end Go.Ev.Code
end
section
namespace Go.Ev.Code
open Go Go.Ev
def eH (c : Int) (s : List UInt8) : D := .iface jO (.ref [.int .i64 c, .str s, .aF] 0)
theorem y9 {c : Int} (h : c ≠ 0) (s : List UInt8) : L.call gW [.int .i64 c, .str s] = some (eH c s) := by
 refine aJ ajc rfl (ai3 ..) ?_
 unfold eH
 simp [Z_, h]
def an1 : List UInt8 := [105, 115, 115, 117, 101]
def O1 : List UInt8 := [109, 97, 116, 117, 114, 101]
def O0 : List UInt8 := [99, 111, 117, 112, 111, 110]
def O3 : List UInt8 := [114, 101, 100, 101, 101, 109]
def aqh : List UInt8 := [102, 114, 101, 113]
def anZ : List UInt8 := [99, 111, 117, 110, 116]
def TG : List UInt8 := [115, 116, 117, 98]
def tEx : List UInt8 := [101, 120]
def an0 : List UInt8 := [102, 108, 111, 119, 115]
structure aO where
 issue : Int
 fP : Int
 eU : Int
 dX : List UInt8
 dY : List UInt8
 count : Int
 stub : Int
 ends : Bool
 ex : Int
def aN (b : aO) : List D := [.int .i64 b.issue, .int .i64 b.fP, .int .i64 b.eU, .str b.dX, .str b.dY, .int .i64 b.count, .int .i64 b.stub, .bool b.ends, .int .i64 b.ex]
abbrev aS (b : aO) : D := .agg (aN b)
def months (b : aO) : Int := if b.eU = 1 then 12 else if b.eU = 2 then 6 else if b.eU = 4 then 3 else if b.eU = 12 then 1 else 0
theorem Ky (b : aO) : L.call lF [aS b] = some (.int .i64 (months b)) := by
 obtain ⟨i, m, f, c, r, n, s, e, x⟩ := b
 unfold months aS aN
 refine aJ afN rfl (afk ..) ?_
 simp only
 by_cases h1 : f = 1
 ·subst h1; simp [xg, wrap64]
 by_cases h2 : f = 2
 ·subst h2; simp [xg, wrap64]
 by_cases h4 : f = 4
 ·subst h4; simp [xg, wrap64]
 by_cases h12 : f = 12
 ·subst h12; simp [xg, wrap64]
 ·simp [xg, h1, h2, h4, h12]
abbrev Err := Option (Int × List UInt8)
def eX : Err → D
 | none => .aF
 | some (c, s) => eH c s
def RI (b : aO) : Err :=
 if ¬ bU b.issue then some (4, an1) else if ¬ bU b.fP then some (4, O1) else if b.fP ≤ b.issue then some (5, O1) else
  match yY b.issue 360 false with
  | some e => if (e : Int) < b.fP then some (5, O1) else none
  | none => none
theorem aa' {n : Int} : YS n < 0 ↔ ¬ bU n := by
 unfold YS
 split
 ·rename_i h; constructor
  ·intro h1; omega
  ·intro h1; exact absurd h h1
 ·rename_i h; simp [h]
theorem ahb (b : aO) : L.call CB [aS b] = some (eX (RI b)) := by
 obtain ⟨i, m, f, c, r, n, s, e, x⟩ := b
 have w1 := BK i
 have w2 := BK m
 have n1 := @aa' i
 have n2 := @aa' m
 have ha := TQ i 360 false
 have f1 := fun s => y9 (c := 4) (by decide) s
 have f2 := fun s => y9 (c := 5) (by decide) s
 unfold RI aS aN
 simp only
 generalize YS i = wi at *
 generalize YS m = wm at *
 refine aJ ai_ rfl (aiZ ..) ?_
 by_cases h1 : bU i
 ·have g1 : ¬ wi < 0 := fun h => (n1.1 h) h1
  by_cases h2 : bU m
  ·have g2 : ¬ wm < 0 := fun h => (n2.1 h) h2
   by_cases h3 : m ≤ i
   ·rw [if_neg (fun h => h h1), if_neg (fun h => h h2), if_pos h3]
    simp [yJ, w1, w2, g1, g2, h3, f2, eX, O1, eH]
   ·rw [if_neg (fun h => h h1), if_neg (fun h => h h2), if_neg h3]
    generalize yY i 360 false = r at *
    cases r with
    | none => simp [kU] at ha; simp [yJ, w1, w2, g1, g2, h3, ha, eX]
    | some e =>
      simp [kU] at ha
      by_cases h4 : (e : Int) < m
      ·simp [yJ, w1, w2, g1, g2, h3, ha, h4, f2, eX, O1, eH]
      ·simp [yJ, w1, w2, g1, g2, h3, ha, h4, eX]
  ·have g2 : wm < 0 := n2.2 h2
   rw [if_neg (fun h => h h1), if_pos h2]
   simp [yJ, w1, w2, g1, g2, f1, eX, O1, eH]
 ·have g1 : wi < 0 := n1.2 h1
  rw [if_pos h1]
  simp [yJ, w1, g1, f1, eX, an1, eH]
end Go.Ev.Code
end
section
namespace Go.Ev.Code
open Go Go.Ev
theorem N9 {n : Int} (h : -9223372036854775808 ≤ n ∧ n ≤ 9223372036854775807) : L.call rE [.int .i64 n] = some (bF (Rat.divInt n 1)) := by
 have := ru h (d := 1) (by omega) (by omega)
 refine aJ amo rfl (amf ..) ?_
 simp [ae0, this]
def Wu : Option (Rat × Nat) → D
 | some (q, n) => .aZ [bF q, .bool (decide (n ≤ 6)), .aF]
 | none => .aZ [.aK, .bool true, wR 1]
theorem F8 {s : List UInt8} (h : s.length ≤ 1000000) : L.call qI [.str s] = some (Wu (wJ s)) := by
 have hg := Vy h
 generalize wJ s = r at *
 refine aJ ag1 rfl (agS ..) ?_
 cases r with
 | none => simp [Fv] at hg; simp [Qx, hg, Wu]
 | some qn =>
   obtain ⟨q, n⟩ := qn
   simp [Fv] at hg
   have : ((n : Int) ≤ 6) ↔ n ≤ 6 := by omega
   simp [Qx, hg, Wu, this]
theorem Vx {s : List UInt8} {q : Rat} {n : Nat} (h : wJ s = some (q, n)) : RB 400 q ∧ n ≤ 20 := by
 unfold wJ at h
 split at h <;> try (simp at h; done)
 rename_i hs
 unfold CP at h
 split at h <;> try (simp at h; done)
 rename_i hc
 simp at h
 obtain ⟨rfl, rfl⟩ := h
 obtain ⟨h1, h2, h3⟩ := hc
 have hl := ae8 s
 have hb := ahm 46 (qW s).2
 have hf := @Oc 46 (qW s).2
 generalize (lV 46 (qW s).2).1 = w at *
 generalize (lV 46 (qW s).2).2.1 = r at *
 generalize (lV 46 (qW s).2).2.2 = p at *
 have hr : r.length ≤ 20 ∧ r.all rH = true := by
  cases p with
  | true => exact (h2 rfl).2
  | false => rw [(hf rfl).2]; simp
 have had : (w ++ r).all rH = true := by rw [List.all_append, h1.2.2.2, hr.2]; rfl
 have hv : NB 400 (jF 0 (w ++ r)) := aky had (by simp; omega)
 refine ⟨iH ?_ ((an2 r.length).mono (by omega)) (akM _), hr.1⟩
 split
 ·exact (IB.ofNat hv).neg
 ·exact IB.ofNat hv
theorem ahk {a b : Rat} : 0 < tX a b ↔ b < a := by
 unfold tX
 split
 ·rename_i h
  constructor
  ·intro h1; omega
  ·intro h1; exact absurd h1 (Rat.not_lt.2 (Rat.le_of_lt h))
 ·split
  ·rename_i h1 h2
   subst h2
   constructor
   ·intro h; omega
   ·intro h; exact absurd h h1
  ·rename_i h1 h2
   refine ⟨fun _ => ?_, fun _ => by omega⟩
   exact Rat.lt_of_le_of_ne (Rat.not_lt.1 h1) (Ne.symm h2)
def q30 : Rat := Rat.divInt 30 1
def aaY : Rat := Rat.divInt 200 1
theorem ame {n : Int} {k : Nat} (h : IB k n) (hk : 1 ≤ k) : RB k (Rat.divInt n 1) := iH h ((show IB 1 1 by unfold IB NB; decide).mono hk) (by decide)
def TF (b : aO) : Err := match wJ b.dX with
 | none => some (1, O0)
 | some (q, n) => if ¬ n ≤ 6 ∨ q.num < 0 ∨ q30 < q then some (5, O0) else match wJ b.dY with
   | none => some (1, O3)
   | some (r, k) => if ¬ k ≤ 6 ∨ r.num ≤ 0 ∨ aaY < r then some (5, O3) else none
theorem arB {z : Int} : z.sign ≤ 0 ↔ z ≤ 0 := by
 rcases Int.lt_trichotomy z 0 with h | h | h
 ·rw [Int.sign_eq_neg_one_of_neg h]; omega
 ·subst h; simp
 ·rw [Int.sign_eq_one_of_pos h]; omega
theorem ahc {b : aO} (hc : b.dX.length ≤ 1000000) (hr : b.dY.length ≤ 1000000) : L.call CG [aS b] = some (eX (TF b)) := by
 obtain ⟨i, m, f, c, r, n, s, e, x⟩ := b
 simp only at hc hr
 have v1 := F8 hc
 have v2 := F8 hr
 have f1 := fun s => y9 (c := 1) (by decide) s
 have f2 := fun s => y9 (c := 5) (by decide) s
 have o1 := N9 (n := 30) (by omega)
 have o2 := N9 (n := 200) (by omega)
 have b1 : RB 400 q30 := (ame (k := 10) (by unfold IB NB; decide) (by decide)).mono (by decide)
 have b2 : RB 400 aaY := (ame (k := 10) (by unfold IB NB; decide) (by decide)).mono (by decide)
 change L.call rE [.int .i64 30] = some (bF q30) at o1
 change L.call rE [.int .i64 200] = some (bF aaY) at o2
 have d1 := @Vx c
 have d2 := @Vx r
 unfold TF aS aN
 simp only
 generalize wJ c = dc at *
 generalize wJ r = dr at *
 refine aJ ai' rfl (ai0 ..) ?_
 cases dc with
 | none => simp [Wu] at v1; simp [n_, v1, f1, eX, eH, O0]
 | some qn =>
   obtain ⟨q, k⟩ := qn
   simp [Wu] at v1
   have cq := uq (d1 rfl).1 b1 (by omega)
   have sq := Bd q
   have pq := @ahk q q30
   have nq := @sign_neg q.num
   simp only
   generalize tX q q30 = cm at *
   generalize q.num.sign = sg at *
   by_cases h1 : k ≤ 6
   ·by_cases h2 : q.num < 0
    ·rw [if_pos (.inr (.inl h2))]
     have g2 := nq.2 h2
     simp [n_, v1, f2, h1, sq, g2, eX, eH, O0]
    ·have g2 : ¬ sg < 0 := fun h => h2 (nq.1 h)
     by_cases h3 : q30 < q
     ·rw [if_pos (.inr (.inr h3))]
      have g3 := pq.2 h3
      simp [n_, v1, f2, h1, sq, g2, o1, cq, g3, eX, eH, O0]
     ·have g3 : ¬ 0 < cm := fun h => h3 (pq.1 h)
      rw [if_neg (fun h => by rcases h with h | h | h <;> contradiction)]
      cases dr with
      | none =>
        simp [Wu] at v2
        simp [n_, v1, v2, f1, h1, sq, g2, o1, cq, g3, eX, eH, O3]
      | some rn =>
        obtain ⟨r', k'⟩ := rn
        simp [Wu] at v2
        have cr := uq (d2 rfl).1 b2 (by omega)
        have sr := Bd r'
        have pr := @ahk r' aaY
        have nr := @arB r'.num
        simp only
        generalize tX r' aaY = cm' at *
        generalize r'.num.sign = sg' at *
        by_cases h4 : k' ≤ 6
        ·by_cases h5 : r'.num ≤ 0
         ·rw [if_pos (.inr (.inl h5))]
          have g5 := nr.2 h5
          simp [n_, v1, v2, f2, h1, sq, g2, o1, cq, g3, h4, sr, g5, eX, eH, O3]
         ·have g5 : ¬ sg' ≤ 0 := fun h => h5 (nr.1 h)
          by_cases h6 : aaY < r'
          ·rw [if_pos (.inr (.inr h6))]
           have g6 := pr.2 h6
           simp [n_, v1, v2, f2, h1, sq, g2, o1, cq, g3, h4, sr, g5, o2, cr, g6, eX, eH, O3]
          ·have g6 : ¬ 0 < cm' := fun h => h6 (pr.1 h)
           rw [if_neg (fun h => by rcases h with h | h | h <;> contradiction)]
           simp [n_, v1, v2, f2, h1, sq, g2, o1, cq, g3, h4, sr, g5, o2, cr, g6, eX]
        ·rw [if_pos (.inl h4)]
         simp [n_, v1, v2, f2, h1, sq, g2, o1, cq, g3, h4, eX, eH, O3]
   ·rw [if_pos (.inl h1)]
    simp [n_, v1, f2, h1, eX, eH, O0]
end Go.Ev.Code
end
section
namespace Go.Ev.Code
open Go Go.Ev
theorem PX (n : Int) : L.call xA [.int .i64 n] = some (.bool (decide (1 ≤ n ∧ n ≤ 4))) := by
 refine aJ aja rfl (ai1 ..) ?_
 by_cases h : 1 ≤ n
 ·by_cases h' : n ≤ 4 <;> simp [Ue, h, h']
 ·simp [Ue, h]
def alN (b : aO) : Int := (Cm b.issue b.fP).tdiv (months b) + 2
def chk (b : aO) : Err := match RI b with
 | some e => some e
 | none => if months b = 0 then some (5, aqh) else match TF b with
   | some e => some e
   | none => if ¬ (1 ≤ b.count ∧ b.count ≤ 4) then some (5, anZ) else if b.stub < 0 ∨ 2 < b.stub then some (5, TG) else if b.ex < 0 ∨ 30 < b.ex then some (5, tEx)
     else if 200 < alN b then some (5, an0) else none
theorem Ja {b : aO} (h : RI b = none) : bU b.issue ∧ bU b.fP ∧ b.issue < b.fP := by
 unfold RI at h
 split at h <;> try (simp at h; done)
 split at h <;> try (simp at h; done)
 split at h <;> try (simp at h; done)
 exact ⟨by rename_i a _ _; exact Classical.not_not.1 a, by rename_i _ a _; exact Classical.not_not.1 a, by omega⟩
theorem ahh {n : Int} (h : bU n) : 1900 ≤ (kL n.toNat).1 ∧ (kL n.toNat).1 ≤ 2199 ∧ 1 ≤ (kL n.toNat).2.1 ∧ (kL n.toNat).2.1 ≤ 12 := by
 obtain ⟨y, m, d, hc, hd, ho⟩ := ig h
 rw [ho]
 exact ⟨hc.y1, hc.y2, hc.m1, hc.m2⟩
theorem aqA {a b : Int} (ha : bU a) (hb : bU b) : -4000 ≤ Cm a b ∧ Cm a b ≤ 4000 := by
 have h1 := ahh ha
 have h2 := ahh hb
 unfold Cm
 omega
theorem vO (b : aO) : months b = 0 ∨ months b = 1 ∨ months b = 3 ∨ months b = 6 ∨ months b = 12 := by
 unfold months
 split
 ·omega
 ·split
  ·omega
  ·split
   ·omega
   ·split <;> omega
theorem arY {a m : Int} (ha : -4000 ≤ a ∧ a ≤ 4000) (hm : m = 1 ∨ m = 3 ∨ m = 6 ∨ m = 12) : -4000 ≤ a.tdiv m ∧ a.tdiv m ≤ 4000 := by
 rcases Int.le_total 0 a with h | h
 ·rw [Int.tdiv_eq_ediv_of_nonneg h]
  rcases hm with rfl | rfl | rfl | rfl <;> omega
 ·obtain ⟨k, rfl⟩ : ∃ k : Int, a = -k := ⟨-a, by omega⟩
  rw [Int.neg_tdiv, Int.tdiv_eq_ediv_of_nonneg (by omega)]
  rcases hm with rfl | rfl | rfl | rfl <;> omega
theorem AA {b : aO} (hc : b.dX.length ≤ 1000000) (hr : b.dY.length ≤ 1000000) : L.call lJ [aS b] = some (eX (chk b)) := by
 have c1 := ahb b
 have c2 := Ky b
 have c3 := ahc hc hr
 have c4 := PX b.count
 have c5 : bU b.issue → bU b.fP → L.call jY [.int .i64 b.issue, .int .i64 b.fP] = some (.int .i64 (Cm b.issue b.fP)) := SV
 have n1 := @Ja b
 have f2 := fun s => y9 (c := 5) (by decide) s
 have hmc := vO b
 have hbb := @aqA b.issue b.fP
 unfold chk alN
 generalize RI b = de at *
 generalize TF b = se at *
 generalize months b = mo at *
 obtain ⟨i, m, f, c, r, n, s, e, x⟩ := b
 unfold aS aN at *
 simp only at *
 refine aJ ag0 rfl (agR ..) ?_
 cases de with
 | some er => obtain ⟨ec, es⟩ := er; simp [eX, eH] at c1; simp [lu, c1, eX, eH]
 | none =>
   obtain ⟨d1, d2, d3⟩ := n1 rfl
   have c5 := c5 d1 d2
   have hbb := hbb d1 d2
   simp [eX] at c1
   by_cases h0 : mo = 0
   ·simp [lu, c1, c2, h0, f2, eX, eH, aqh]
   ·have hq := arY hbb (show mo = 1 ∨ mo = 3 ∨ mo = 6 ∨ mo = 12 by omega)
    simp only [if_neg h0]
    cases se with
    | some er => obtain ⟨ec, es⟩ := er; simp [eX, eH] at c3; simp [lu, c1, c2, h0, c3, eX, eH]
    | none =>
      simp [eX] at c3
      simp only
      by_cases h1 : 1 ≤ n ∧ n ≤ 4
      ·rw [if_neg (fun h => h h1)]
       rw [decide_eq_true h1] at c4
       by_cases h2 : s < 0
       ·rw [if_pos (.inl h2)]
        simp [lu, c1, c2, h0, c3, c4, h2, f2, eX, eH, TG]
       by_cases h2' : 2 < s
       ·rw [if_pos (.inr h2')]
        simp [lu, c1, c2, h0, c3, c4, h2, h2', f2, eX, eH, TG]
       rw [if_neg (fun h => by rcases h with h | h <;> contradiction)]
       by_cases h3 : x < 0
       ·rw [if_pos (.inl h3)]
        simp [lu, c1, c2, h0, c3, c4, h2, h2', h3, f2, eX, eH, tEx]
       by_cases h3' : 30 < x
       ·rw [if_pos (.inr h3')]
        simp [lu, c1, c2, h0, c3, c4, h2, h2', h3, h3', f2, eX, eH, tEx]
       rw [if_neg (fun h => by rcases h with h | h <;> contradiction)]
       have e1 : IntKind.i64.wrap ((Cm i m).tdiv mo) = (Cm i m).tdiv mo := wrap64 _ (by omega)
       have e2 : IntKind.i64.wrap ((Cm i m).tdiv mo + 2) = (Cm i m).tdiv mo + 2 := wrap64 _ (by omega)
       obtain ⟨t, ht⟩ : ∃ t, (Cm i m).tdiv mo = t := ⟨_, rfl⟩
       rw [ht] at e1 e2 hq ⊢
       obtain ⟨pp, hpp⟩ : ∃ pp, t + 2 = pp := ⟨_, rfl⟩
       have e2 : IntKind.i64.wrap (t + 2) = pp := by rw [e2, hpp]
       rw [hpp]
       by_cases h4 : 200 < pp
       ·simp [lu, c1, c2, h0, c3, c4, h2, h2', h3, h3', c5, ht, e1, e2, h4, f2, eX, eH, an0]
       ·simp [lu, c1, c2, h0, c3, c4, h2, h2', h3, h3', c5, ht, e1, e2, h4, eX]
      ·rw [if_pos h1]
       rw [decide_eq_false h1] at c4
       simp [lu, c1, c2, h0, c3, c4, f2, eX, eH, anZ]
def q0 : Rat := Rat.divInt 0 1
def PY (b : aO) : Rat := match chk b with
 | some _ => q0
 | none => match wJ b.dX with | some (q, _) => q | none => q0
def iW (b : aO) : Rat := match chk b with
 | some _ => q0
 | none => match wJ b.dY with | some (q, _) => q | none => q0
theorem dK {b : aO} (h : chk b = none) : RI b = none ∧ months b ≠ 0 ∧ TF b = none := by
 unfold chk at h
 split at h <;> try (simp at h; done)
 rename_i hd
 split at h <;> try (simp at h; done)
 rename_i hm
 split at h <;> try (simp at h; done)
 rename_i hs
 exact ⟨hd, hm, hs⟩
theorem J8 {b : aO} (h : TF b = none) : ∃ q n r k, wJ b.dX = some (q, n) ∧ wJ b.dY = some (r, k) ∧ n ≤ 6 ∧ 0 ≤ q.num ∧ ¬ q30 < q ∧ k ≤ 6 ∧ 0 < r.num ∧ ¬ aaY < r := by
 unfold TF at h
 split at h <;> try (simp at h; done)
 rename_i q n hq
 split at h <;> try (simp at h; done)
 rename_i h1
 split at h <;> try (simp at h; done)
 rename_i r k hr
 split at h <;> try (simp at h; done)
 rename_i h2
 refine ⟨q, n, r, k, hq, hr, ?_, ?_, ?_, ?_, ?_, ?_⟩
 ·exact Classical.not_not.1 fun h => h1 (.inl h)
 ·exact Int.not_lt.1 fun h => h1 (.inr (.inl h))
 ·exact fun h => h1 (.inr (.inr h))
 ·exact Classical.not_not.1 fun h => h2 (.inl h)
 ·exact Int.not_le.1 fun h => h2 (.inr (.inl h))
 ·exact fun h => h2 (.inr (.inr h))
theorem Dx {b : aO} (hc : b.dX.length ≤ 1000000) (hr : b.dY.length ≤ 1000000) : L.call lD [aS b] = some (bF (PY b)) := by
 have c1 := AA hc hr
 have v1 := F8 hc
 have o1 := N9 (n := 0) (by omega)
 change L.call rE [.int .i64 0] = some (bF q0) at o1
 have hs := @dK b
 have hss := @J8 b
 unfold PY
 generalize chk b = ck at *
 obtain ⟨i, m, f, c, r, n, s, e, x⟩ := b
 unfold aS aN at *
 simp only at *
 refine aJ afM rfl (afj ..) ?_
 cases ck with
 | some er => obtain ⟨ec, es⟩ := er; simp [eX, eH] at c1; simp [NG, c1, o1]
 | none =>
   obtain ⟨q, n, r, k, h1, _⟩ := hss (hs rfl).2.2
   rw [h1] at v1
   simp [Wu] at v1
   simp [eX] at c1
   rw [h1]
   simp [NG, c1, v1]
theorem Dy {b : aO} (hc : b.dX.length ≤ 1000000) (hr : b.dY.length ≤ 1000000) : L.call nU [aS b] = some (bF (iW b)) := by
 have c1 := AA hc hr
 have v1 := F8 hr
 have o1 := N9 (n := 0) (by omega)
 change L.call rE [.int .i64 0] = some (bF q0) at o1
 have hs := @dK b
 have hss := @J8 b
 unfold iW
 generalize chk b = ck at *
 obtain ⟨i, m, f, c, r, n, s, e, x⟩ := b
 unfold aS aN at *
 simp only at *
 refine aJ afO rfl (afl ..) ?_
 cases ck with
 | some er => obtain ⟨ec, es⟩ := er; simp [eX, eH] at c1; simp [NH, c1, o1]
 | none =>
   obtain ⟨q, n, r, k, _, h1, _⟩ := hss (hs rfl).2.2
   rw [h1] at v1
   simp [Wu] at v1
   simp [eX] at c1
   rw [h1]
   simp [NH, c1, v1]
end Go.Ev.Code
end
section
namespace Go.Ev.Code
open Go Go.Ev
def anch (b : aO) (k : Nat) : Option Nat := yY b.fP (-(k : Int) * months b) b.ends
def yZ : Option Nat → D
 | some d => .int .i64 d
 | none => .int .i64 0
theorem zn (b : aO) {k : Nat} (hk : k ≤ 100000) : L.call qU [aS b, .int .i64 k] = some (.aZ [yZ (anch b k), .bool (anch b k).isSome]) := by
 have hm := Ky b
 have ha := TQ b.fP (-(k : Int) * months b) b.ends
 have hmc := vO b
 have e1 : IntKind.i64.wrap (0 - (k : Int)) = -(k : Int) := by rw [wrap64 _ (by omega)]; omega
 have e2 : IntKind.i64.wrap (-(k : Int) * months b) = -(k : Int) * months b := by
  refine wrap64 _ ?_
  rcases hmc with h | h | h | h | h <;> rw [h] <;> omega
 unfold anch
 generalize hx : -(k : Int) * months b = x at *
 generalize hr : yY b.fP x b.ends = r at *
 generalize months b = mo at *
 obtain ⟨i, m, f, c, rd, n, s, e, ex⟩ := b
 unfold aS aN at *
 simp only at *
 refine aJ af9 rfl (afE ..) ?_
 have e1' : IntKind.i64.wrap (-(k : Int)) = -(k : Int) := by rw [wrap64 _ (by omega)]
 have e2' : IntKind.i64.wrap (-((k : Int) * mo)) = x := by rw [← e2, ← hx, Int.neg_mul]
 have hx' : -((k : Int) * mo) = x := by rw [← hx, Int.neg_mul]
 cases r with
 | none => simp [kU] at ha; simp [NT, hm, e1, e1', e2, e2', hx, hx', ha, yZ]
 | some d => simp [kU] at ha; simp [NT, hm, e1, e1', e2, e2', hx, hx', ha, yZ]
def ints (l : List Nat) : List D := l.map fun (n : Nat) => D.int .i64 n
theorem H8 (l : List Nat) : (ints l).length = l.length := by simp [ints]
theorem apc (l : List Nat) (d : Nat) : ints (l ++ [d]) = ints l ++ [.int .i64 d] := by simp [ints]
theorem P_ (l : List Nat) (b n : Nat) : (ints l).all (D.clo b (n + 1)) = true := by
 rw [List.all_eq_true]
 intro d hd
 simp only [ints, List.mem_map] at hd
 obtain ⟨x, _, rfl⟩ := hd
 rfl
def mV (b : aO) (k : Nat) : List Nat := (List.range k).map fun i => (anch b i).getD 0
theorem Ku (b : aO) (k : Nat) : (mV b k).length = k := by simp [mV]
theorem amH (b : aO) (k : Nat) : mV b (k + 1) = mV b k ++ [(anch b k).getD 0] := by simp [mV, List.range_succ]
def Goes (b : aO) (k : Nat) : Prop := ∃ d, anch b k = some d ∧ b.issue < (d : Int)
theorem ag' {b : aO} {K : Nat} (hK : K ≤ 90000) (hgo : ∀ i, i < K → Goes b i) (hst : ¬ Goes b K) : ∀ (j k : Nat), k + j = K → 1 ≤ k →
  L.loop [1, 5, 6] [2, 3, 4] mg 2 [.loc 1 0, .bg 2 0 k 1, .int .i64 k] [.live (aN b), .live (aN b), .live (ints (mV b k))] =
    some (.ret, [.bg 2 0 K 1, yZ (anch b K), .bool (anch b K).isSome], [.live (aN b), .live (aN b), .live (ints (mV b K))]) := by
 intro j
 induction j with
 | zero =>
   intro k hk h1
   have hkK : k = K := by omega
   subst hkK
   have ha := zn b (k := k) (by omega)
   have hcl := P_ (mV b k) 2 11
   have hl : (ints (mV b k)).length = k := by rw [H8, Ku]
   unfold Goes at hst
   generalize ints (mV b k) = l at *
   generalize hr : anch b k = r at *
   obtain ⟨i, m, f, c, rd, n, s, e, ex⟩ := b
   unfold aS aN at *
   simp only at *
   refine aQ (Fh ..) ?_
   cases r with
   | none => simp [yZ] at ha; simp [tH, ha, yZ, hcl]
   | some d =>
     have g : (d : Int) ≤ i := by
      by_cases h : i < (d : Int)
      ·exact absurd ⟨d, rfl, h⟩ hst
      ·omega
     simp [yZ] at ha; simp [tH, ha, yZ, g, hcl]
 | succ j ih =>
   intro k hk h1
   have hn := ih (k + 1) (by omega) (by omega)
   have ha := zn b (k := k) (by omega)
   obtain ⟨d, hd, hdi⟩ := hgo k (by omega)
   rw [amH, hd, Option.getD_some, apc] at hn
   rw [hd] at ha
   have hcl := P_ (mV b k) 2 11
   have hl : (ints (mV b k)).length = k := by rw [H8, Ku]
   generalize ints (mV b k) = l at *
   generalize (anch b K).isSome = zb at *
   generalize yZ (anch b K) = zd at *
   generalize ints (mV b K) = lK at *
   have htk : l.take k = l := List.take_of_length_le (by omega)
   have hlen : k + 1 ≤ 4294967296 := by omega
   have e1 : IntKind.i64.wrap ((k : Int) + 1) = ((k + 1 : Nat) : Int) := by rw [wrap64 _ (by omega)]; omega
   obtain ⟨i, m, f, c, rd, n, s, e, ex⟩ := b
   unfold aS aN at *
   simp only at *
   simp [yZ] at ha hn
   have g : ¬ (d : Int) ≤ i := by omega
   refine aQ (Fh ..) ?_
   simp [tH, ha, g, hcl, htk, hl, hlen, e1, tJ, hn]
theorem ala {b : aO} {K : Nat} (hK : K ≤ 90000) (h1 : 1 ≤ K) (hgo : ∀ i, i < K → Goes b i) (hst : ¬ Goes b K) :
  L.bH vY [aS b] [.live (aN b)] = some (.aZ [.bg 1 0 K 1, yZ (anch b K), .bool (anch b K).isSome], [.live (aN b), .live (ints (mV b K))]) := by
 have hl : L.loop [1, 5, 6] [2, 3, 4] mg 2 [.loc 1 0, .dA, .int .i64 0] [.live (aN b), .live (aN b)] =
   some (.ret, [.bg 2 0 K 1, yZ (anch b K), .bool (anch b K).isSome], [.live (aN b), .live (aN b), .live (ints (mV b K))]) := by
  have hn := ag' hK hgo hst (K - 1) 1 (by omega) (by omega)
  have ha := zn b (k := 0) (by omega)
  obtain ⟨d, hd, hdi⟩ := hgo 0 (by omega)
  rw [show mV b 1 = [(anch b 0).getD 0] by simp [mV], hd, Option.getD_some, show ((1 : Nat) : Int) = 1 from rfl] at hn
  rw [hd] at ha
  generalize (anch b K).isSome = zb at *
  generalize yZ (anch b K) = zd at *
  generalize ints (mV b K) = lK at *
  obtain ⟨i, m, f, c, rd, n, s, e, ex⟩ := b
  unfold aS aN at *
  simp only at *
  simp [yZ, ints] at ha hn
  have g : ¬ (d : Int) ≤ i := by omega
  refine aQ (Fh ..) ?_
  simp [tH, ha, g, tJ, wrap64, hn]
 have hcl := P_ (mV b K) 1 11
 have hz : yZ (anch b K) = .int .i64 ((anch b K).getD 0 : Nat) := by cases anch b K <;> rfl
 rw [hz] at hl ⊢
 generalize (anch b K).isSome = zb at *
 generalize (anch b K).getD 0 = zd at *
 have hlen : (ints (mV b K)).length = K := by rw [H8, Ku]
 generalize ints (mV b K) = lK at *
 obtain ⟨i, m, f, c, rd, n, s, e, ex⟩ := b
 unfold aS aN at *
 simp only at *
 refine ni ada rfl (acZ ..) ?_
 simp [U_, hl, hcl]
end Go.Ev.Code
end
section
namespace Go.Ev.Code
open Go Go.Ev
def alz (b : aO) (k : Nat) : Bool := match anch b k with
 | some d => decide (b.issue < (d : Int))
 | none => false
theorem aeF (b : aO) (k : Nat) : alz b k = true ↔ Goes b k := by
 unfold alz Goes
 cases anch b k with
 | none => simp
 | some d => simp
def Y4 (b : aO) : Nat → Nat → Nat
 | 0, k => k
 | f + 1, k => if alz b k = true then Y4 b f (k + 1) else k
def dM (b : aO) : Nat := Y4 b 3601 0
theorem ahE (b : aO) : ∀ (f k : Nat), (∀ i, i < k → Goes b i) → ¬ Goes b (k + f) → (∀ i, i < Y4 b f k → Goes b i) ∧ ¬ Goes b (Y4 b f k) ∧ Y4 b f k ≤ k + f
 | 0, k, h1, h2 => ⟨h1, h2, Nat.le_refl _⟩
 | f + 1, k, h1, h2 => by
   simp only [Y4]
   split
   ·rename_i hg
    have hg := (aeF b k).1 hg
    have := ahE b f (k + 1) (fun i hi => by
     rcases Nat.lt_or_ge i k with h | h
     ·exact h1 i h
     ·have : i = k := by omega
      rw [this]; exact hg) (by rw [show k + 1 + f = k + (f + 1) by omega]; exact h2)
    exact ⟨this.1, this.2.1, by omega⟩
   ·rename_i hg
    exact ⟨h1, fun h => hg ((aeF b k).2 h), by omega⟩
theorem ag8 {y m d : Nat} {n : Int} {e : Bool} (h : ¬ (-3600 ≤ n ∧ n ≤ 3600)) : Nz y m d n e = none := by unfold Nz; rw [if_neg h]
theorem aov (b : aO) (hm : months b ≠ 0) : ¬ Goes b 3601 := by
 rintro ⟨d, hd, _⟩
 have hc := vO b
 unfold anch yY at hd
 split at hd
 ·rw [ag8 (by rcases hc with h | h | h | h | h <;> rw [h] <;> omega)] at hd
  simp at hd
 ·simp at hd
theorem Qa {b : aO} (hm : months b ≠ 0) : (∀ i, i < dM b → Goes b i) ∧ ¬ Goes b (dM b) ∧ dM b ≤ 3601 := by
 have := ahE b 3601 0 (fun i hi => absurd hi (by omega)) (by rw [Nat.zero_add]; exact aov b hm)
 exact ⟨this.1, this.2.1, Nat.le_trans this.2.2 (by decide)⟩
theorem amF {day : Int} (h : bU day) (e : Bool) : yY day 0 e = some day.toNat := by
 obtain ⟨y, m, d, hc, hd, ho⟩ := ig h
 unfold yY
 rw [if_pos h, ho]
 have h1 := hc.y1
 have h2 := hc.y2
 have h3 := hc.m1
 have h4 := hc.m2
 have h5 := hc.d2
 unfold Nz
 rw [if_pos (by omega)]
 have e1 : ((((y * 12 + m - 1 : Nat) : Int) + 0) / 12).toNat = y := by omega
 have e2 : ((((y * 12 + m - 1 : Nat) : Int) + 0) % 12).toNat + 1 = m := by omega
 simp only [e1, e2]
 unfold Hg
 rw [if_pos ⟨h1, h2⟩]
 congr 1
 have : (if e = true ∧ d = f_ y m then f_ y m else min d (f_ y m)) = d := by split <;> omega
 rw [this, hd]; omega
theorem aem {b : aO} (h : bU b.fP) : anch b 0 = some b.fP.toNat := by
 unfold anch
 rw [show (-((0 : Nat) : Int) * months b) = 0 by simp]
 exact amF h _
theorem UR {b : aO} (h : chk b = none) : 1 ≤ dM b := by
 obtain ⟨h1, h2, h3⟩ := dK h
 obtain ⟨d1, d2, d3⟩ := Ja h1
 obtain ⟨k1, k2, k3⟩ := Qa h2
 rcases Nat.eq_zero_or_pos (dM b) with h0 | h0
 ·rw [h0] at k2
  exact absurd ⟨_, aem d2, by omega⟩ k2
 ·exact h0
def qc : Int → List Nat → List (Int × Int)
 | _, [] => []
 | f, d :: ds => (f, (d : Int)) :: qc d ds
def cu : List (Int × Int) → List D
 | [] => []
 | (a, b) :: ps => .int .i64 a :: .int .i64 b :: cu ps
theorem ain (l r : List (Int × Int)) : cu (l ++ r) = cu l ++ cu r := by
 induction l with
 | nil => rfl
 | cons x xs ih => obtain ⟨a, b⟩ := x; simp [cu, ih]
theorem Qo (l : List (Int × Int)) : (cu l).length = l.length * 2 := by
 induction l with
 | nil => rfl
 | cons x xs ih => obtain ⟨a, b⟩ := x; simp [cu, ih]; omega
theorem jI (l : List (Int × Int)) (b n : Nat) : (cu l).all (D.clo b (n + 1)) = true := by
 induction l with
 | nil => rfl
 | cons x xs ih => obtain ⟨p, q⟩ := x; simp [cu]; simpa using ih
theorem alI (f : Int) (l : List Nat) : (qc f l).length = l.length := by
 induction l generalizing f with
 | nil => rfl
 | cons x xs ih => simp [qc, ih]
theorem xk (a b : D) : zeros 1 [a, b] = [a, b] := by rfl
theorem aia {b : aO} {days : List Nat} {nx : Int} {is : Bool} (hd : days.length ≤ 90000) : ∀ (rest pre : List Nat) (acc : List (Int × Int)) (fr : Int), days = pre ++ rest → acc ≠ [] → acc.length = pre.length →
  L.loop [1, 6, 7, 8, 9, 27, 28, 29] [1, 6, 7, 8] xQ 2 [.loc 0 0, .int .i64 nx, .bool is, .bg 2 0 acc.length 2, .int .i64 fr, .bg 1 0 days.length 1, .int .i64 days.length, .int .i64 pre.length]
    [.live (aN b), .live (ints days), .live (cu acc)] =
    some (.exit 0, [.loc 0 0, .int .i64 nx, .bool is, .bg 2 0 days.length 2], [.live (aN b), .live (ints days), .live (cu (acc ++ qc fr rest))]) := by
 have hcl := P_ days 2 11
 have hbc : (aN b).all (D.clo 2 12) = true := by obtain ⟨i, m, f, c, rd, n, s, e, ex⟩ := b; simp [aN]
 intro rest
 induction rest with
 | nil =>
   intro pre acc fr hdd hne hal
   have hpl : pre.length = days.length := by rw [hdd]; simp
   rw [hal, hpl]
   have hpc := jI acc 2 11
   simp only [qc, List.append_nil]
   generalize aN b = B at *
   generalize cu acc = pc at *
   generalize hid : ints days = id at *
   generalize days.length = K at *
   refine aQ (Pg ..) ?_
   simp [J5, hcl, hbc, hpc]
 | cons d rest ih =>
   intro pre acc fr hdd hne hal
   have hn := ih (pre ++ [d]) (acc ++ [(fr, (d : Int))]) d (by rw [hdd]; simp) (by simp) (by simp [hal])
   have hmk : acc ++ qc fr (d :: rest) = acc ++ [(fr, (d : Int))] ++ qc d rest := by simp [qc]
   rw [← hmk] at hn
   have hlt : pre.length < days.length := by rw [hdd]; simp
   have hget : (ints days)[pre.length]? = some (.int .i64 d) := by
    rw [hdd]; simp [ints]
   have hpc := jI acc 2 11
   rw [ain] at hn
   have hpl := Qo acc
   rw [show cu [(fr, (d : Int))] = [.int .i64 fr, .int .i64 d] from rfl] at hn
   have htk : (cu acc).take (acc.length * 2) = cu acc := List.take_of_length_le (by omega)
   have hil : (ints days).length = days.length := H8 days
   have e1 : IntKind.i64.wrap ((pre.length : Int) + 1) = ((pre.length + 1 : Nat) : Int) := by rw [wrap64 _ (by omega)]; omega
   have hlen : acc.length + 1 ≤ 4294967296 := by omega
   rw [List.length_append, List.length_append] at hn
   simp only [List.length_singleton] at hn
   generalize cu (acc ++ qc fr (d :: rest)) = pz at *
   generalize aN b = B at *
   generalize cu acc = pc at *
   generalize ints days = id at *
   generalize days.length = K at *
   generalize hA : acc.length = A at *
   generalize pre.length = P at *
   have hltI : (P : Int) < K := by omega
   simp at hn
   refine aQ (Pg ..) ?_
   simp [J5, hcl, hbc, hpc, hlt, hltI, hget, xk, htk, e1, hlen, hpl, hn]
end Go.Ev.Code
end
section
namespace Go.Ev.Code
open Go Go.Ev
def kE (b : aO) : List (Int × Int) := qc b.issue (mV b (dM b)).reverse
def adD (b : aO) : Bool := match anch b (dM b) with
 | some d => decide ((d : Int) = b.issue)
 | none => false
def aV (b : aO) : Err × List (Int × Int) := match chk b with
 | some e => (some e, [])
 | none => if adD b = true then (none, kE b) else if b.stub = 0 then (some (5, TG), []) else if b.stub = 2 then
   (match kE b with
    | _ :: q :: r => (none, (b.issue, q.2) :: r)
    | ps => (none, ps))
   else (none, kE b)
def jd (ps : List (Int × Int)) : D := .sl ps.length (cu ps)
def wM (r : Err × List (Int × Int)) : D := .aZ [jd r.2, eX r.1]
theorem Bf (b : aO) : (kE b).length = dM b := by unfold kE; rw [alI, List.length_reverse, Ku]
theorem VE (l : List (Int × Int)) (n : Nat) (m : Mem) : jV (fz (n + 1)) (cu l) m = some (cu l, m) := by
 induction l with
 | nil => rfl
 | cons x xs ih => obtain ⟨a, b⟩ := x; simp [cu, ih]
theorem alR {b : aO} {days : List Nat} {nx : Int} {is : Bool} (hd : days.length ≤ 90000) (hne : days ≠ []) :
  L.loop [1, 6, 7, 8, 9, 27, 28, 29] [1, 6, 7, 8] xQ 2 [.loc 0 0, .int .i64 nx, .bool is, .dA, .int .i64 b.issue, .bg 1 0 days.length 1, .int .i64 days.length, .int .i64 0]
    [.live (aN b), .live (ints days)] =
    some (.exit 0, [.loc 0 0, .int .i64 nx, .bool is, .bg 2 0 days.length 2], [.live (aN b), .live (ints days), .live (cu (qc b.issue days))]) := by
 obtain ⟨d, rest, rfl⟩ : ∃ d rest, days = d :: rest := List.exists_cons_of_ne_nil hne
 have hn := aia (b := b) (nx := nx) (is := is) hd rest [d] [(b.issue, (d : Int))] d rfl (by simp) rfl
 have hcl := P_ (d :: rest) 2 11
 have hbc : (aN b).all (D.clo 2 12) = true := by obtain ⟨i, m, f, c, rd, n, s, e, ex⟩ := b; simp [aN]
 rw [show [(b.issue, (d : Int))] ++ qc d rest = qc b.issue (d :: rest) from rfl, show cu [(b.issue, (d : Int))] = [.int .i64 b.issue, .int .i64 d] from rfl] at hn
 have hget : (ints (d :: rest))[0]? = some (.int .i64 d) := by simp [ints]
 have hil := H8 (d :: rest)
 have hlt : 0 < (d :: rest).length := by simp
 generalize cu (qc b.issue (d :: rest)) = pz at *
 generalize aN b = B at *
 generalize ints (d :: rest) = id at *
 generalize (d :: rest).length = K at *
 simp at hn
 have hltI : (0 : Int) < K := by omega
 refine aQ (Pg ..) ?_
 simp [J5, hcl, hbc, hlt, hltI, hget, xk, wrap64, hn]
theorem Ae {b : aO} (hc : b.dX.length ≤ 1000000) (hr : b.dY.length ≤ 1000000) : L.call qA [aS b] = some (wM (aV b)) := by
 have hck := AA hc hr
 by_cases hchk : chk b = none
 ·obtain ⟨k1, k2, k3⟩ := Qa (dK hchk).2.1
  have kp := UR hchk
  have han := ala (by omega) kp k1 k2
  have hlen := Ku b (dM b)
  have hrev := apz (pre := [.live (aN b)]) (l := ints (mV b (dM b))) (by obtain ⟨i, m, f, c, rd, n, s, e, ex⟩ := b; simp [aN]) (by rw [H8, hlen]; omega)
   (fun d hd => by
    simp only [ints, List.mem_map] at hd
    obtain ⟨x, _, rfl⟩ := hd
    exact ⟨rfl, rfl⟩)
  rw [H8, hlen, show (ints (mV b (dM b))).reverse = ints (mV b (dM b)).reverse by simp [ints]] at hrev
  have hz : yZ (anch b (dM b)) = .int .i64 ((anch b (dM b)).getD 0 : Nat) := by cases anch b (dM b) <;> rfl
  rw [hz] at han
  have hlp := alR (b := b) (days := (mV b (dM b)).reverse) (nx := ((anch b (dM b)).getD 0 : Nat)) (is := (anch b (dM b)).isSome) (by rw [List.length_reverse, hlen]; omega) (by
   intro h
   have := congrArg List.length h
   rw [List.length_reverse, hlen] at this
   simp at this; omega)
  rw [List.length_reverse, hlen] at hlp
  have hpl := Qo (kE b)
  have hrl := Bf b
  rw [hrl] at hpl
  have hit : adD b = ((anch b (dM b)).isSome && decide ((((anch b (dM b)).getD 0 : Nat) : Int) = b.issue)) := by
   unfold adD
   cases anch b (dM b) <;> simp
  have htk : (cu (kE b)).take (dM b * 2) = cu (kE b) := List.take_of_length_le (by omega)
  have hfz : ∀ m, jV (fz 10) (cu (kE b)) m = some (cu (kE b), m) := fun m => VE (kE b) 9 m
  have hpc := jI (kE b) 0 11
  unfold aV
  rw [hchk]
  simp only
  rw [hit]
  unfold kE at *
  generalize (anch b (dM b)).isSome = is at *
  generalize (anch b (dM b)).getD 0 = nx at *
  generalize ints (mV b (dM b)).reverse = rv at *
  generalize ints (mV b (dM b)) = iv at *
  have f2 : L.call gW [.int .i64 5, .str [115, 116, 117, 98]] = some (eH 5 TG) := y9 (c := 5) (by decide) TG
  rw [hchk] at hck
  simp [eX] at hck
  generalize hps : qc b.issue (mV b (dM b)).reverse = ps at *
  generalize hk : dM b = K at *
  obtain ⟨i, m, f, c, rd, n, s, e, ex⟩ := b
  unfold aS aN at *
  simp only at *
  simp at hrev
  refine aJ aef rfl (ad9 ..) ?_
  by_cases hh : (is && decide ((nx : Int) = i)) = true
  ·rw [if_pos hh]
   simp only [Bool.and_eq_true, decide_eq_true_eq] at hh
   obtain ⟨rfl, hh⟩ := hh
   rw [hh] at han hlp
   simp [rD, hck, han, hrev, hlp, hpc, hfz, hpl, htk, wM, jd, hrl, eX]
  ·rw [if_neg hh]
   by_cases hs0 : s = 0
   ·subst hs0
    rw [if_pos rfl]
    cases is with
    | false => simp [rD, hck, han, hrev, hlp, f2, wM, jd, eX, eH, TG, cu]
    | true =>
      have hh : ¬ (nx : Int) = i := by simpa using hh
      simp [rD, hck, han, hrev, hlp, hh, f2, wM, jd, eX, eH, TG, cu]
   ·rw [if_neg hs0]
    have hh2 : is = false ∨ (is = true ∧ ¬ (nx : Int) = i) := by
     cases is with
     | false => exact .inl rfl
     | true => exact .inr ⟨rfl, by simpa using hh⟩
    by_cases hs2 : s = 2
    ·subst hs2
     rw [if_pos rfl]
     by_cases hK1 : 1 < K
     ·obtain ⟨p, q, r, rfl⟩ : ∃ p q r, ps = p :: q :: r := by
       cases ps with
       | nil => simp at hrl; omega
       | cons p t => cases t with
         | nil => simp at hrl; omega
         | cons q r => exact ⟨p, q, r, rfl⟩
      obtain ⟨p1, p2⟩ := p
      obtain ⟨q1, q2⟩ := q
      have hK1' : (1 : Int) < K := by omega
      have hrK : r.length + 1 + 1 = K := by simpa using hrl
      have hKr : K - 1 = r.length + 1 := by omega
      have hrl2 := Qo r
      have hfz2 : ∀ m, jV (fz 10) (cu r) m = some (cu r, m) := fun m => VE r 9 m
      have hbn : jX true false K [.int .i64 1] = some (1, K) := by
       have h1K : (1 : Int) ≤ K := by omega
       have h1K' : 1 ≤ K := by omega
       simp [jX, bnd, h1K, h1K']
      have hpc2 := jI r 0 11
      have htk2 : (cu r).take (r.length * 2) = cu r := List.take_of_length_le (by omega)
      have hb1 : 2 + (r.length + 1) * 2 ≤ (cu r).length + 1 + 1 + 1 + 1 := by omega
      have hb2 : (r.length + 1) * 2 = r.length * 2 + 1 + 1 := by omega
      have hb3 : 2 + (r.length * 2 + 1 + 1) ≤ r.length * 2 + 1 + 1 + 1 + 1 := by omega
      simp only [cu] at hlp
      rcases hh2 with rfl | ⟨rfl, hh2⟩
      ·simp [rD, hck, han, hrev, hlp, hK1, hK1', hbn, hKr, hrl2, hfz2, hpc2, htk2, hb1, hb2, hb3, wM, jd, cu, eX]
      ·simp [rD, hck, han, hrev, hlp, hh2, hK1, hK1', hbn, hKr, hrl2, hfz2, hpc2, htk2, hb1, hb2, hb3, wM, jd, cu, eX]
     ·have hK1' : ¬ (1 : Int) < K := by omega
      have hcase : (match ps with | _ :: q :: r => ((none : Err), (i, q.2) :: r) | ps => (none, ps)) = (none, ps) := by
       match ps, hrl with
       | [], _ => rfl
       | [_], _ => rfl
       | _ :: _ :: _, hrl => simp at hrl; omega
      rw [hcase]
      rcases hh2 with rfl | ⟨rfl, hh2⟩
      ·simp [rD, hck, han, hrev, hlp, hK1, hK1', hpc, hfz, hpl, htk, wM, jd, hrl, eX]
      ·simp [rD, hck, han, hrev, hlp, hh2, hK1, hK1', hpc, hfz, hpl, htk, wM, jd, hrl, eX]
    ·rw [if_neg hs2]
     rcases hh2 with rfl | ⟨rfl, hh2⟩
     ·simp [rD, hck, han, hrev, hlp, hs0, hs2, hpc, hfz, hpl, htk, wM, jd, hrl, eX]
     ·simp [rD, hck, han, hrev, hlp, hh2, hs0, hs2, hpc, hfz, hpl, htk, wM, jd, hrl, eX]
 ·cases hce : chk b with
  | none => exact absurd hce hchk
  | some er =>
    unfold aV
    rw [hce] at hck ⊢
    obtain ⟨ec, es⟩ := er
    simp only [wM, jd, cu, List.length_nil]
    obtain ⟨i, m, f, c, rd, n, s, e, ex⟩ := b
    unfold aS aN at *
    simp only at *
    simp [eX, eH] at hck
    refine aJ aef rfl (ad9 ..) ?_
    simp [rD, hck, eX, eH]
end Go.Ev.Code
end
section
namespace Go.Ev.Code
open Go Go.Ev
def Dc (b : aO) (day : Int) : Nat → Nat → Option Nat
 | 0, _ => none
 | f + 1, k => match anch b k with
   | some a => if (a : Int) < day then none else if (a : Int) = day then some k else Dc b day f (k + 1)
   | none => none
def Qp (b : aO) (day : Int) : Option Nat := Dc b day 3602 0
def FB : Option Nat → List D
 | some k => [.int .i64 k, .bool true]
 | none => [.int .i64 0, .bool false]
theorem amG (b : aO) (hm : months b ≠ 0) : anch b 3601 = none := by
 have hc := vO b
 unfold anch yY
 split
 ·rw [ag8 (by rcases hc with h | h | h | h | h <;> rw [h] <;> omega)]
 ·rfl
theorem alO {b : aO} (hm : months b ≠ 0) {day : Int} : ∀ (f k : Nat), k + f = 3602 →
  L.loop [1, 2, 6] [4, 5] pG 1 [.int .i64 day, .loc 0 0, .int .i64 k] [.live (aN b)] = some (.ret, FB (Dc b day f k), [.live (aN b)]) ∨ f = 0 := by
 intro f
 induction f with
 | zero => intro k hk; exact .inr rfl
 | succ f ih =>
   intro k hk
   left
   have ha := zn b (k := k) (by omega)
   have hn := ih (k + 1) (by omega)
   have hlast : f = 0 → anch b k = none := fun h => by
    have : k = 3601 := by omega
    rw [this]; exact amG b hm
   simp only [Dc]
   have e1 : IntKind.i64.wrap ((k : Int) + 1) = ((k + 1 : Nat) : Int) := by rw [wrap64 _ (by omega)]; omega
   generalize anch b k = r at *
   generalize Dc b day f (k + 1) = r2 at *
   obtain ⟨i, m, fq, c, rd, n, s, e, ex⟩ := b
   unfold aS aN at *
   simp only at *
   refine aQ (abl ..) ?_
   cases r with
   | none => simp [yZ] at ha; simp [rP, ha, FB]
   | some a =>
     simp [yZ] at ha
     simp only
     by_cases h1 : (a : Int) < day
     ·simp [rP, ha, h1, FB]
     ·by_cases h2 : (a : Int) = day
      ·subst h2
       simp [rP, ha, FB]
      ·rcases hn with hn | hn
       ·cases r2 with
        | none => simp [FB] at hn; simp [rP, ha, h1, h2, e1, hn, FB]
        | some k2 => simp [FB] at hn; simp [rP, ha, h1, h2, e1, hn, FB]
       ·have := hlast hn; simp at this
theorem ags {b : aO} (hm : months b ≠ 0) (day : Int) : L.call Af [aS b, .int .i64 day] = some (.aZ (FB (Qp b day))) := by
 have hl := (alO hm (day := day) 3602 0 rfl).resolve_right (by decide)
 change L.loop [1, 2, 6] [4, 5] pG 1 [.int .i64 day, .loc 0 0, .int .i64 0] [.live (aN b)] = some (.ret, FB (Qp b day), [.live (aN b)]) at hl
 generalize Qp b day = r at *
 obtain ⟨i, m, fq, c, rd, n, s, e, ex⟩ := b
 unfold aS aN at *
 simp only at *
 refine aJ ag6 rfl (agY ..) ?_
 cases r with
 | none => simp [FB] at hl; simp [QG, hl, FB]
 | some k => simp [FB] at hl; simp [QG, hl, FB]
theorem T_ {b : aO} {day : Int} : ∀ {f k j : Nat}, Dc b day f k = some j → j < k + f ∧ anch b j = some day.toNat ∧ 0 ≤ day
 | 0, k, j, h => by simp [Dc] at h
 | f + 1, k, j, h => by
   simp only [Dc] at h
   split at h <;> try (simp at h; done)
   rename_i a ha
   split at h <;> try (simp at h; done)
   split at h
   ·rename_i h2
    simp at h
    subst h
    refine ⟨by omega, ?_, by omega⟩
    rw [ha]; congr 1; omega
   ·have := T_ h
    exact ⟨by omega, this.2⟩
def quasi (b : aO) (day : Int) : Option Nat := match Qp b day with
 | some k => if day ≤ b.issue then none else anch b (k + 1)
 | none => none
def aaZ (b : aO) (day : Int) : D := match chk b with
 | some e => .aZ [.int .i64 0, eX (some e)]
 | none => kU (quasi b day)
theorem Hl {b : aO} (hc : b.dX.length ≤ 1000000) (hr : b.dY.length ≤ 1000000) (day : Int) : L.call oI [aS b, .int .i64 day] = some (aaZ b day) := by
 have hck := AA hc hr
 by_cases hchk : chk b = none
 ·have hm := (dK hchk).2.1
  have hp := ags hm day
  have hps := fun {j} => @T_ b day 3602 0 j
  have han := fun k (hk : k ≤ 100000) => zn b (k := k) hk
  unfold aaZ quasi
  rw [hchk] at hck ⊢
  simp only
  unfold Qp at *
  generalize Dc b day 3602 0 = r at *
  simp [eX] at hck
  cases r with
  | none =>
    obtain ⟨i, m, fq, c, rd, n, s, e, ex⟩ := b
    unfold aS aN at *
    simp only at *
    simp [FB] at hp
    refine aJ Pq rfl (Ph ..) ?_
    simp [zo, hck, hp, bT, kU]
  | some k =>
    have hk := (hps rfl).1
    have ha := han (k + 1) (by omega)
    have e1 : IntKind.i64.wrap ((k : Int) + 1) = ((k + 1 : Nat) : Int) := by rw [wrap64 _ (by omega)]; omega
    show L.call oI [aS b, .int .i64 day] = some (kU (if day ≤ b.issue then none else anch b (k + 1)))
    generalize anch b (k + 1) = r2 at *
    obtain ⟨i, m, fq, c, rd, n, s, e, ex⟩ := b
    unfold aS aN at *
    simp only at *
    simp [FB] at hp
    refine aJ Pq rfl (Ph ..) ?_
    by_cases hd : day ≤ i
    ·simp [zo, hck, hp, hd, bT, kU]
    ·cases r2 with
     | none => simp [yZ] at ha; simp [zo, hck, hp, hd, e1, ha, bT, kU]
     | some a => simp [yZ] at ha; simp [zo, hck, hp, hd, e1, ha, kU]
 ·cases hce : chk b with
  | none => exact absurd hce hchk
  | some er =>
    obtain ⟨ec, es⟩ := er
    unfold aaZ
    rw [hce] at hck ⊢
    obtain ⟨i, m, fq, c, rd, n, s, e, ex⟩ := b
    unfold aS aN at *
    simp only at *
    simp [eX, eH] at hck
    refine aJ Pq rfl (Ph ..) ?_
    simp [zo, hck, eX, eH]
def pD (p : Int × Int) : D := .agg [.int .i64 p.1, .int .i64 p.2]
def regular (b : aO) (p : Int × Int) : Bool := match chk b with
 | some _ => false
 | none => match quasi b p.2 with
   | some a => decide ((a : Int) = p.1)
   | none => false
theorem BR {b : aO} (hc : b.dX.length ≤ 1000000) (hr : b.dY.length ≤ 1000000) (p : Int × Int) : L.call kX [aS b, pD p] = some (.bool (regular b p)) := by
 have hq := Hl hc hr p.2
 obtain ⟨p1, p2⟩ := p
 unfold regular pD
 unfold aaZ at hq
 simp only at hq ⊢
 generalize chk b = ck at *
 generalize quasi b p2 = q at *
 obtain ⟨i, m, fq, c, rd, n, s, e, ex⟩ := b
 unfold aS aN at *
 refine aJ ac' rfl (acY ..) ?_
 cases ck with
 | some er => obtain ⟨ec, es⟩ := er; simp [eX, eH] at hq; simp [E5, hq]
 | none =>
   cases q with
   | none => simp [kU] at hq; simp [E5, hq]
   | some a => simp [kU] at hq; simp [E5, hq]
end Go.Ev.Code
end
section
namespace Go.Ev.Code
open Go Go.Ev
theorem Vt {y m d y' m' d' : Nat} (h : Io y m d) (h' : Io y' m' d') (hlt : y * 12 + m < y' * 12 + m') : dayOf y m d < dayOf y' m' d' := by
 have a1 := h.m1
 have a2 := h.m2
 have a3 := h'.m1
 have a4 := h'.m2
 have a5 := h.d1
 have a6 := h.d2
 have a7 := h'.d1
 have a8 := h.y1
 rcases Nat.lt_or_ge y y' with hy | hy
 ·have h1 := h.hi
  have h2 := h'.lo
  have h3 := PO (x := y + 1) (y := y') (by omega) hy
  omega
 ·have hyy : y = y' := by omega
  subst hyy
  have hm : m < m' := by omega
  have h4 : fJ y m = fJ y (m - 1) + f_ y m := by
   obtain ⟨q, rfl⟩ : ∃ q, m = q + 1 := ⟨m - 1, by omega⟩
   simp only [fJ, Nat.add_sub_cancel]
  have h5 := Vu y (j := m) (k := m' - 1) (by omega)
  unfold dayOf
  omega
theorem Vr {day n : Int} {e : Bool} {r : Nat} (h : yY day n e = some r) : ∃ y m d, Io y m d ∧ r = dayOf y m d ∧
  ((y * 12 + m : Nat) : Int) = (((kL day.toNat).1 * 12 + (kL day.toNat).2.1 : Nat) : Int) + n := by
 unfold yY at h
 split at h <;> try (simp at h; done)
 rename_i hd
 obtain ⟨y, m, d, hc, hd, ho⟩ := ig hd
 rw [ho] at h ⊢
 unfold Nz at h
 split at h <;> try (simp at h; done)
 simp only at h ⊢
 have h1 := hc.y1
 have h3 := hc.m1
 have h12 : 1 ≤ ((((y * 12 + m - 1 : Nat) : Int) + n) % 12).toNat + 1 ∧ ((((y * 12 + m - 1 : Nat) : Int) + n) % 12).toNat + 1 ≤ 12 := by omega
 have hsum : (((((((y * 12 + m - 1 : Nat) : Int) + n) / 12).toNat * 12 + (((((y * 12 + m - 1 : Nat) : Int) + n) % 12).toNat + 1) : Nat)) : Int) = ((y * 12 + m : Nat) : Int) + n := by omega
 generalize ((((y * 12 + m - 1 : Nat) : Int) + n) % 12).toNat + 1 = m' at *
 generalize ((((y * 12 + m - 1 : Nat) : Int) + n) / 12).toNat = y' at *
 have hp := VN (y := y') h12.1 h12.2
 have hd1 := hc.d1
 obtain ⟨q1, q2⟩ := ah0 h12.1 h12.2 (by split <;> omega) (by split <;> omega) h
 exact ⟨_, _, _, q1, q2, hsum⟩
theorem adl {b : aO} (hm : months b ≠ 0) {j k a c : Nat} (hjk : j < k) (hj : anch b j = some a) (hk : anch b k = some c) : c < a := by
 obtain ⟨y, m, d, h1, h2, h3⟩ := Vr hj
 obtain ⟨y', m', d', h1', h2', h3'⟩ := Vr hk
 rw [h2, h2']
 refine Vt h1' h1 ?_
 have hc := vO b
 rcases hc with h | h | h | h | h
 ·exact absurd h hm
 all_goals (rw [h] at h3 h3'; omega)
theorem aak {b : aO} {k a : Nat} (h : anch b k = some a) : bU a := aaj h
theorem ab9 {b : aO} (hm : months b ≠ 0) {k a : Nat} (hk : anch b k = some a) (hall : ∀ i, i < k → (anch b i).isSome = true) (hk2 : k < 3602) : Qp b a = some k := by
 unfold Qp
 have : ∀ f i, i ≤ k → k < i + f → Dc b a f i = some k := by
  intro f
  induction f with
  | zero => intro i h1 h2; omega
  | succ f ih =>
    intro i h1 h2
    simp only [Dc]
    rcases Nat.lt_or_ge i k with h | h
    ·obtain ⟨c, hc⟩ := Option.isSome_iff_exists.1 (hall i h)
     have := adl hm h hc hk
     rw [hc]
     simp only
     rw [if_neg (by omega), if_neg (by omega)]
     exact ih (i + 1) h (by omega)
    ·have : i = k := by omega
     subst this
     rw [hk]
     simp
 exact this 3602 0 (by omega) (by omega)
theorem YD {b : aO} (hchk : chk b = none) {k a : Nat} (hk : k < dM b) (h1 : anch b k = some a) {p : Int} (h2 : ∃ c, anch b (k + 1) = some c ∧ (c : Int) = p) : regular b (p, (a : Int)) = true := by
 have hm := (dK hchk).2.1
 obtain ⟨g1, g2, g3⟩ := Qa hm
 obtain ⟨c, hc, hcp⟩ := h2
 have hpl := ab9 hm h1 (fun i hi => by
  obtain ⟨d, hd, _⟩ := g1 i (by omega)
  rw [hd]; rfl) (by omega)
 obtain ⟨d, hd, hdi⟩ := g1 k hk
 rw [h1] at hd
 simp at hd
 subst hd
 unfold regular quasi
 rw [hchk]
 simp only [hpl]
 rw [if_neg (by omega), hc]
 simp [hcp]
theorem asJ {b : aO} (hchk : chk b = none) : dM b ≤ 199 := by
 obtain ⟨q1, hm, _⟩ := dK hchk
 obtain ⟨d1, d2, d3⟩ := Ja q1
 obtain ⟨g1, g2, g3⟩ := Qa hm
 have kp := UR hchk
 have hper : alN b ≤ 200 := by
  have h := hchk
  unfold chk at h
  split at h <;> try (simp at h; done)
  split at h <;> try (simp at h; done)
  split at h <;> try (simp at h; done)
  split at h <;> try (simp at h; done)
  split at h <;> try (simp at h; done)
  split at h <;> try (simp at h; done)
  split at h <;> try (simp at h; done)
  omega
 obtain ⟨d, hd, hdi⟩ := g1 (dM b - 1) (by omega)
 obtain ⟨y, m, dd, h1, h2, h3⟩ := Vr hd
 obtain ⟨yi, mi, di, hci, hdi2, hoi⟩ := ig d1
 have hge : yi * 12 + mi ≤ y * 12 + m := by
  rcases Nat.lt_or_ge (y * 12 + m) (yi * 12 + mi) with h | h
  ·have := Vt h1 hci h
   omega
  ·exact h
 have hb : Cm b.issue b.fP = ((dM b - 1 : Nat) : Int) * months b + (((y * 12 + m : Nat) : Int) - ((yi * 12 + mi : Nat) : Int)) := by
  unfold Cm
  rw [hoi]
  simp only
  rw [Int.neg_mul] at h3
  omega
 have hnn : ((dM b - 1 : Nat) : Int) * months b ≤ Cm b.issue b.fP := by omega
 unfold alN at hper
 generalize Cm b.issue b.fP = bw at *
 have hc := vO b
 rcases hc with h | h | h | h | h
 ·exact absurd h hm
 all_goals
  rw [h] at hper hnn
  rw [Int.tdiv_eq_ediv_of_nonneg (by omega)] at hper
  omega
end Go.Ev.Code
end
