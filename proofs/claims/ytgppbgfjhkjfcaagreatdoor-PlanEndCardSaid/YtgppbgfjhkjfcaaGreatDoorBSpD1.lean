/- A part of the proof of planStub_card, planEnd_card, planLone_card, bondLong_card. -/
import Derived.Test.YtgppbgfjhkjfcaaGreatDoorBSpC
set_option linter.unusedVariables false
set_option linter.unusedSimpArgs false
section
namespace Go.Ev.Code
open Go Go.Ev
def leap (y : Nat) : Bool := decide (y % 4 = 0 ∧ (y % 100 ≠ 0 ∨ y % 400 = 0))
def bP (y m : Nat) : Nat := match m with
 | 2 => if leap y then 29 else 28
 | 4 | 6 | 9 | 11 => 30
 | 1 | 3 | 5 | 7 | 8 | 10 | 12 => 31
 | _ => 0
def dY (y : Nat) : Nat := 365 * (y - 1900) + ((y - 1) / 4 - (y - 1) / 100 + (y - 1) / 400) - 460
theorem JX (a b : Nat) : Int.tdiv (a : Int) (b : Int) = ((a / b : Nat) : Int) := rfl
theorem Aa (a b : Nat) : Int.tmod (a : Int) (b : Int) = ((a % b : Nat) : Int) := rfl
theorem xP {y : Nat} (h1 : 1900 ≤ y) (h2 : y ≤ 1000000) : L.call mW [.int .i64 y] = some (.int .i64 (dY y)) := by
 have e1 : IntKind.i64.wrap ((y : Int) - 1) = ((y - 1 : Nat) : Int) := by rw [wrap64 _ (by omega)]; omega
 have e2 : IntKind.i64.wrap ((y : Int) - 1900) = ((y - 1900 : Nat) : Int) := by rw [wrap64 _ (by omega)]; omega
 have q1 := JX (y - 1) 4
 have q2 := JX (y - 1) 100
 have q3 := JX (y - 1) 400
 simp at q1 q2 q3
 have hb : dY y = 365 * (y - 1900) + ((y - 1) / 4 - (y - 1) / 100 + (y - 1) / 400) - 460 := rfl
 refine aX abo rfl (aaV ..) ?_
 simp (disch := omega) [Qj, e1, e2, q1, q2, q3, wrap64]
 omega
theorem ac6 {y : Nat} (h : y ≤ 1000000) : L.call EJ [.int .i64 y] = some (.bool (leap y)) := by
 have q1 := Aa y 4
 have q2 := Aa y 100
 have q3 := Aa y 400
 simp at q1 q2 q3
 refine aX aeL rfl (aeC ..) ?_
 unfold leap
 by_cases h4 : y % 4 = 0
 ·by_cases h100 : y % 100 = 0
  ·by_cases h400 : y % 400 = 0
   ·simp (disch := omega) [yY, q1, q2, q3, h4, h100, h400]
    have : (y : Int) % 4 = 0 := by omega
    have : (y : Int) % 100 = 0 := by omega
    have : (y : Int) % 400 = 0 := by omega
    simp [*]
   ·have : (y : Int) % 4 = 0 := by omega
    have : (y : Int) % 100 = 0 := by omega
    have : ¬ (y : Int) % 400 = 0 := by omega
    simp (disch := omega) [yY, q1, q2, q3, *]
  ·have : (y : Int) % 4 = 0 := by omega
   have : ¬ (y : Int) % 100 = 0 := by omega
   simp (disch := omega) [yY, q1, q2, q3, *]
 ·have : ¬ (y : Int) % 4 = 0 := by omega
  simp (disch := omega) [yY, q1, q2, q3, *]
end Go.Ev.Code
end
section
namespace Go.Ev.Code
open Go Go.Ev
theorem mG {y m : Nat} (h : y ≤ 1000000) (h1 : 1 ≤ m) (h2 : m ≤ 12) : L.call fF [.int .i64 y, .int .i64 m] = some (.int .i64 (bP y m)) := by
 have hl := ac6 h
 refine aX abn rfl (aaU ..) ?_
 have : m = 1 ∨ m = 2 ∨ m = 3 ∨ m = 4 ∨ m = 5 ∨ m = 6 ∨ m = 7 ∨ m = 8 ∨ m = 9 ∨ m = 10 ∨ m = 11 ∨ m = 12 := by omega
 rcases this with rfl | rfl | rfl | rfl | rfl | rfl | rfl | rfl | rfl | rfl | rfl | rfl
 case inr.inl =>
  cases hy : leap y <;> rw [hy] at hl <;> simp [Gp, bP, hl, hy]
 all_goals simp [Gp, bP]
theorem OJ (n : Int) : L.call Cj [.int .i64 n] = some (.bool (decide (0 ≤ n ∧ n ≤ 109572))) := by
 refine aX ah8 rfl (ah0 ..) ?_
 by_cases h : 0 ≤ n
 ·by_cases h' : n ≤ 109572 <;> simp [TU, h, h']
 ·simp [TU, h]
def Uf (n : Int) : Int := if 0 ≤ n ∧ n ≤ 109572 then (n + 1) % 7 else -1
theorem wI (n : Int) : L.call eH [.int .i64 n] = some (.int .i64 (Uf n)) := by
 have h := OJ n
 refine aX YW rfl (YL ..) ?_
 unfold Uf
 by_cases hn : 0 ≤ n ∧ n ≤ 109572
 ·rw [decide_eq_true hn] at h
  have e : Int.tmod (n + 1) 7 = (n + 1) % 7 := Int.tmod_eq_emod_of_nonneg (by omega)
  simp (disch := omega) [D6, h, wrap64, hn, e]
 ·rw [decide_eq_false hn] at h
  simp [D6, h, hn]
def dH (y : Nat) : Nat → Nat
 | 0 => 0
 | k + 1 => dH y k + bP y (k + 1)
theorem vN (y m : Nat) : bP y m ≤ 31 := by unfold bP; split <;> (try split) <;> omega
theorem RD (y k : Nat) : dH y k ≤ 31 * k := by
 induction k with
 | zero => simp [dH]
 | succ k ih => have := vN y (k + 1); simp only [dH]; omega
theorem Iz {y : Nat} (h : y ≤ 2200) : dY y ≤ 109573 := by unfold dY; omega
def jS (y m d : Nat) : D := .agg [.int .i64 y, .int .i64 m, .int .i64 d]
theorem amv {y m d A : Nat} (hy : y ≤ 2200) (hm : m ≤ 12) (hA : A ≤ 1000000) : ∀ (j k : Nat), k + j = m → 1 ≤ k →
  L.loop [1, 4, 5] [4] AL 1 [.loc 0 0, .int .i64 ((A + dH y (k - 1) : Nat) : Int), .int .i64 k] [.live [.int .i64 y, .int .i64 m, .int .i64 d]] =
    some (.exit 0, [.int .i64 ((A + dH y (m - 1) : Nat) : Int)], [.live [.int .i64 y, .int .i64 m, .int .i64 d]]) := by
 intro j
 induction j with
 | zero =>
   intro k hk h1
   have : k = m := by omega
   subst this
   generalize A + dH y (k - 1) = B
   refine aU (Q7 ..) ?_
   simp [JO]
 | succ j ih =>
   intro k hk h1
   have hl := mG (y := y) (m := k) (by omega) h1 (by omega)
   have hn := ih (k + 1) (by omega) (by omega)
   have hc : A + dH y (k + 1 - 1) = A + dH y (k - 1) + bP y k := by
    rw [Nat.add_sub_cancel]
    obtain ⟨q, rfl⟩ : ∃ q, k = q + 1 := ⟨k - 1, by omega⟩
    simp only [dH, Nat.add_sub_cancel]; omega
   rw [hc] at hn
   have hb := RD y (k - 1)
   have hb2 := vN y k
   have hlt : k < m := by omega
   have hBl : A + dH y (k - 1) ≤ 1000372 := by omega
   generalize A + dH y (k - 1) = B at *
   generalize A + dH y (m - 1) = C at *
   generalize bP y k = l at *
   have e1 : IntKind.i64.wrap ((B : Int) + l) = ((B + l : Nat) : Int) := by rw [wrap64 _ (by omega)]; omega
   have e2 : IntKind.i64.wrap ((k : Int) + 1) = ((k + 1 : Nat) : Int) := by rw [wrap64 _ (by omega)]; omega
   generalize B + l = B2 at *
   generalize k + 1 = k2 at *
   refine aU (Q7 ..) ?_
   simp (disch := omega) [JO, hl, hlt, e1, e2, hn]
def dayOf (y m d : Nat) : Nat := dY y + dH y (m - 1) + d - 1
theorem XC {y m d : Nat} (h1 : 1900 ≤ y) (h2 : y ≤ 2199) (hm : 1 ≤ m) (hm2 : m ≤ 12) (hd : 1 ≤ d) (hd2 : d ≤ bP y m) :
  L.call pF [jS y m d] = some (.bg [.int .i64 (dayOf y m d), .aC]) := by
 have hl := mG (y := y) (m := m) (by omega) hm hm2
 have hb := xP h1 (by omega)
 have hlp := amv (y := y) (m := m) (d := d) (A := dY y + d - 1) (by omega) hm2 (by have := Iz (y := y) (by omega); have := vN y m; omega) (m - 1) 1 (by omega) (by omega)
 simp only [Nat.sub_self, dH, Nat.add_zero] at hlp
 have hbb := Iz (y := y) (by omega)
 have hml := vN y m
 have hC : dY y + d - 1 + dH y (m - 1) = dayOf y m d := by unfold dayOf; omega
 rw [hC, show ((1 : Nat) : Int) = 1 from rfl] at hlp
 have g1 : ¬ (y : Int) < 1900 := by omega
 have g2 : ¬ (2199 : Int) < y := by omega
 have g3 : ¬ (d : Int) < 1 := by omega
 generalize bP y m = l at *
 have g4 : ¬ (l : Int) < d := by omega
 have g5 : ¬ l < d := by omega
 have g6 : ¬ 2199 < y := by omega
 generalize dayOf y m d = r at *
 generalize dY y = b at *
 have e1 : IntKind.i64.wrap ((b : Int) + d) = ((b + d : Nat) : Int) := by rw [wrap64 _ (by omega)]; omega
 have e2 : IntKind.i64.wrap (((b + d : Nat) : Int) - 1) = ((b + d - 1 : Nat) : Int) := by rw [wrap64 _ (by omega)]; omega
 generalize b + d - 1 = b1 at *
 generalize b + d = b2 at *
 refine aX ZQ rfl (ZM ..) ?_
 unfold jS
 simp (disch := omega) [LW, hl, hb, g1, g2, g3, g4, g5, g6, e1, e2, hlp]
end Go.Ev.Code
end
section
namespace Go.Ev.Code
open Go Go.Ev
theorem akE (y : Nat) : leap y = true ↔ (y % 4 = 0 ∧ (y % 100 ≠ 0 ∨ y % 400 = 0)) := by unfold leap; simp
theorem agW (y : Nat) : dH y 12 = if leap y then 366 else 365 := by
 cases h : leap y <;> simp [dH, bP, h]
theorem ad8 {z k : Nat} (hk : 0 < k) : (z + 1) / k = z / k + (if (z + 1) % k = 0 then 1 else 0) := by
 rw [Nat.succ_div]
 by_cases h : (z + 1) % k = 0
 ·rw [if_pos h, if_pos (Nat.dvd_of_mod_eq_zero h)]
 ·rw [if_neg h, if_neg (fun hd => h (Nat.mod_eq_zero_of_dvd hd))]
theorem zD {y : Nat} (h : 1900 ≤ y) : dY (y + 1) = dY y + dH y 12 := by
 rw [agW]
 have hl := akE y
 obtain ⟨z, rfl⟩ : ∃ z, y = z + 1 := ⟨y - 1, by omega⟩
 by_cases hz : z = 1899
 ·subst hz; decide
 have hz2 : 1900 ≤ z := by omega
 unfold dY
 have h4 := ad8 (z := z) (k := 4) (by decide)
 have h100 := ad8 (z := z) (k := 100) (by decide)
 have h400 := ad8 (z := z) (k := 400) (by decide)
 have b1 : z / 100 ≤ z / 4 := Nat.div_le_div_left (by decide) (by decide)
 have b2 : 474 ≤ z / 4 := by omega
 have b3 : (z + 1) / 100 ≤ (z + 1) / 4 := Nat.div_le_div_left (by decide) (by decide)
 have b4 : 455 ≤ z / 4 - z / 100 := by omega
 have i1 : (z + 1) % 400 = 0 → (z + 1) % 100 = 0 := fun h => by omega
 have i2 : (z + 1) % 100 = 0 → (z + 1) % 4 = 0 := fun h => by omega
 rw [Nat.add_sub_cancel, Nat.add_sub_cancel]
 generalize (z + 1) % 4 = r4 at *
 generalize (z + 1) % 100 = r100 at *
 generalize (z + 1) % 400 = r400 at *
 generalize (z + 1) / 4 = p4 at *
 generalize (z + 1) / 100 = p100 at *
 generalize (z + 1) / 400 = p400 at *
 generalize z / 4 = s4 at *
 generalize z / 100 = s100 at *
 generalize z / 400 = s400 at *
 by_cases c4 : r4 = 0
 ·rw [if_pos c4] at h4
  by_cases c100 : r100 = 0
  ·rw [if_pos c100] at h100
   by_cases c400 : r400 = 0
   ·rw [if_pos c400] at h400
    rw [if_pos (hl.2 ⟨c4, .inr c400⟩)]; omega
   ·rw [if_neg c400] at h400
    rw [if_neg (fun h => by rcases (hl.1 h).2 with h | h <;> contradiction)]; omega
  ·rw [if_neg c100] at h100
   have c400 : ¬ r400 = 0 := fun h => c100 (i1 h)
   rw [if_neg c400] at h400
   rw [if_pos (hl.2 ⟨c4, .inl c100⟩)]; omega
 ·have c100 : ¬ r100 = 0 := fun h => c4 (i2 h)
  have c400 : ¬ r400 = 0 := fun h => c100 (i1 h)
  rw [if_neg c4] at h4
  rw [if_neg c100] at h100
  rw [if_neg c400] at h400
  rw [if_neg (fun h => c4 (hl.1 h).1)]; omega
theorem IJ (y : Nat) {j k : Nat} (h : j ≤ k) : dH y j ≤ dH y k := by
 induction k with
 | zero => have : j = 0 := by omega
           rw [this]; exact Nat.le_refl _
 | succ k ih =>
   rcases Nat.lt_or_ge k j with h1 | h1
   ·have : j = k + 1 := by omega
    rw [this]; exact Nat.le_refl _
   ·have := ih h1; simp only [dH]; omega
theorem Cb {x y : Nat} (h : 1900 ≤ x) (hxy : x ≤ y) : dY x ≤ dY y := by
 induction y with
 | zero => omega
 | succ y ih =>
   rcases Nat.lt_or_ge y x with h1 | h1
   ·have : x = y + 1 := by omega
    rw [this]; exact Nat.le_refl _
   ·have := ih h1; rw [zD (by omega)]; omega
structure qX (y m d : Nat) : Prop where
 y1 : 1900 ≤ y
 y2 : y ≤ 2199
 m1 : 1 ≤ m
 m2 : m ≤ 12
 d1 : 1 ≤ d
 d2 : d ≤ bP y m
theorem qX.lo {y m d : Nat} (h : qX y m d) : dY y ≤ dayOf y m d := by have := h.d1; unfold dayOf; omega
theorem qX.hi {y m d : Nat} (h : qX y m d) : dayOf y m d < dY (y + 1) := by
 have h1 := h.d1
 have h2 := h.d2
 have h3 := h.m1
 have h5 := h.m2
 rw [zD h.y1]
 have h4 := IJ y h5
 have h6 : dH y m = dH y (m - 1) + bP y m := by
  obtain ⟨q, rfl⟩ : ∃ q, m = q + 1 := ⟨m - 1, by omega⟩
  simp only [dH, Nat.add_sub_cancel]
 unfold dayOf; omega
theorem qX.le {y m d : Nat} (h : qX y m d) : dayOf y m d ≤ 109572 := by
 have h1 := h.hi
 have h2 := h.y1
 have h3 := h.y2
 have := Cb (x := y + 1) (y := 2200) (by omega) (by omega)
 have h4 : dY 2200 = 109573 := by decide
 omega
theorem afT {y : Nat} (h : 1900 ≤ y) : dY y ≤ 366 * (y - 1900) := by
 unfold dY; omega
theorem aiA {day y : Nat} (hd : day ≤ 109572) (hy1 : dY y ≤ day) (hy2 : day < dY (y + 1)) (hy3 : y ≤ 2199) : ∀ (j x : Nat), x + j = y → 1900 ≤ x →
  L.loop [0, 2, 4] [0, 2, 4] u_ 2 [.int .i64 day, .loc 0 0, .loc 1 0] [.live [.int .i64 0, .int .i64 0, .int .i64 0], .live [.int .i64 x, .int .i64 1, .int .i64 0]] =
    some (.exit 0, [.int .i64 day, .loc 0 0, .loc 1 0], [.live [.int .i64 0, .int .i64 0, .int .i64 0], .live [.int .i64 y, .int .i64 1, .int .i64 0]]) := by
 intro j
 induction j with
 | zero =>
   intro x hx h1
   have : x = y := by omega
   subst this
   have hb := xP (y := x + 1) (by omega) (by omega)
   have e1 : IntKind.i64.wrap ((x : Int) + 1) = ((x + 1 : Nat) : Int) := by rw [wrap64 _ (by omega)]; omega
   generalize dY (x + 1) = b at *
   generalize x + 1 = x2 at *
   have g : ¬ b ≤ day := by omega
   have g' : ¬ (b : Int) ≤ day := by omega
   refine aU (Kr ..) ?_
   simp (disch := omega) [BA, e1, hb, g, g']
 | succ j ih =>
   intro x hx h1
   have hb := xP (y := x + 1) (by omega) (by omega)
   have hn := ih (x + 1) (by omega) (by omega)
   have hmo := Cb (x := x + 1) (y := y) (by omega) (by omega)
   have e1 : IntKind.i64.wrap ((x : Int) + 1) = ((x + 1 : Nat) : Int) := by rw [wrap64 _ (by omega)]; omega
   generalize dY (x + 1) = b at *
   generalize x + 1 = x2 at *
   have g : b ≤ day := by omega
   have g' : (b : Int) ≤ day := by omega
   refine aU (Kr ..) ?_
   simp (disch := omega) [BA, e1, hb, g, g', hn]
theorem aiB {y m d : Nat} (h : qX y m d) : ∀ (j k : Nat), k + j = m → 1 ≤ k →
  L.loop [2, 4, 5] [2, 4, 5] vg 2 [.loc 0 0, .loc 1 0, .int .i64 ((dH y (m - 1) + (d - 1) - dH y (k - 1) : Nat) : Int)] [.live [.int .i64 0, .int .i64 0, .int .i64 0], .live [.int .i64 y, .int .i64 k, .int .i64 0]] =
    some (.exit 2, [.loc 0 0, .loc 1 0, .int .i64 ((d - 1 : Nat) : Int)], [.live [.int .i64 0, .int .i64 0, .int .i64 0], .live [.int .i64 y, .int .i64 m, .int .i64 0]]) := by
 have h1 := h.d1
 have h2 := h.d2
 have h3 := h.m2
 have h4 := h.y2
 have h5 := vN y m
 intro j
 induction j with
 | zero =>
   intro k hk hk1
   have : k = m := by omega
   subst this
   have hl := mG (y := y) (m := k) (by omega) hk1 h3
   rw [show dH y (k - 1) + (d - 1) - dH y (k - 1) = d - 1 by omega]
   generalize bP y k = l at *
   have g : ¬ (l : Int) ≤ ((d - 1 : Nat) : Int) := by omega
   have g' : ¬ l ≤ d - 1 := by omega
   generalize d - 1 = d1 at *
   refine aU (Kt ..) ?_
   simp (disch := omega) [BD, hl, g, g']
 | succ j ih =>
   intro k hk hk1
   have hl := mG (y := y) (m := k) (by omega) hk1 (by omega)
   have hn := ih (k + 1) (by omega) (by omega)
   have hc : dH y (k + 1 - 1) = dH y (k - 1) + bP y k := by
    rw [Nat.add_sub_cancel]
    obtain ⟨q, rfl⟩ : ∃ q, k = q + 1 := ⟨k - 1, by omega⟩
    simp only [dH, Nat.add_sub_cancel]
   have hmo := IJ y (j := k) (k := m - 1) (by omega)
   rw [Nat.add_sub_cancel] at hc hn
   rw [hc] at hmo hn
   have hub := RD y (m - 1)
   have hub2 : dH y (m - 1) + (d - 1) ≤ 1000 := by omega
   have hmo2 : dH y (k - 1) + bP y k ≤ dH y (m - 1) + (d - 1) := by omega
   generalize dH y (m - 1) + (d - 1) = T at *
   generalize bP y k = l at *
   generalize dH y (k - 1) = c at *
   have g : l ≤ T - c := by omega
   have g' : (l : Int) ≤ ((T - c : Nat) : Int) := by omega
   have e1 : IntKind.i64.wrap (((T - c : Nat) : Int) - l) = ((T - (c + l) : Nat) : Int) := by rw [wrap64 _ (by omega)]; omega
   have e2 : IntKind.i64.wrap ((k : Int) + 1) = ((k + 1 : Nat) : Int) := by rw [wrap64 _ (by omega)]; omega
   generalize T - (c + l) = r2 at *
   generalize T - c = r1 at *
   generalize k + 1 = k2 at *
   refine aU (Kt ..) ?_
   simp (disch := omega) [BD, hl, g, g', e1, e2, hn]
theorem n_ {y m d : Nat} (h : qX y m d) : L.call eG [.int .i64 (dayOf y m d)] = some (.bg [jS y m d, .aC]) := by
 have hle := h.le
 have hlo := h.lo
 have hhi := h.hi
 have hd1 := h.d1
 have hd2 := h.d2
 have hml := vN y m
 have hy := h.y2
 have hm2 := h.m2
 have hb := xP h.y1 (by omega)
 have h366 := afT (y := y + 1) (by have := h.y1; omega)
 have l1 := aiA hle hlo hhi h.y2 (y - (1900 + dayOf y m d / 366)) (1900 + dayOf y m d / 366) (by omega) (by omega)
 have l2 := aiB h (m - 1) 1 (by have := h.m1; omega) (by omega)
 have his := OJ (dayOf y m d)
 rw [decide_eq_true (by omega)] at his
 have hT : dayOf y m d - dY y = dH y (m - 1) + (d - 1) := by unfold dayOf; omega
 simp only [Nat.sub_self, dH, Nat.sub_zero] at l2
 rw [← hT, show ((1 : Nat) : Int) = 1 from rfl] at l2
 have hbb := Iz (y := y) (by omega)
 have q1 := JX (dayOf y m d) 366
 simp at q1
 generalize dayOf y m d = day at *
 have e1 : IntKind.i64.wrap ((day : Int) / 366) = ((day / 366 : Nat) : Int) := by rw [wrap64 _ (by omega)]; omega
 have e2 : IntKind.i64.wrap (1900 + ((day / 366 : Nat) : Int)) = ((1900 + day / 366 : Nat) : Int) := by rw [wrap64 _ (by omega)]; omega
 have e2' : IntKind.i64.wrap (1900 + (day : Int) / 366) = ((1900 + day / 366 : Nat) : Int) := by rw [wrap64 _ (by omega)]; omega
 generalize 1900 + day / 366 = x at *
 generalize dY y = b at *
 have e3 : IntKind.i64.wrap ((day : Int) - b) = ((day - b : Nat) : Int) := by rw [wrap64 _ (by omega)]; omega
 generalize day - b = r at *
 have e4 : IntKind.i64.wrap (((d - 1 : Nat) : Int) + 1) = (d : Int) := by rw [wrap64 _ (by omega)]; omega
 generalize d - 1 = dd at *
 refine aX Rj rfl (Q5 ..) ?_
 unfold jS
 simp (disch := omega) [JM, his, q1, e1, e2, e2', l1, hb, e3, l2, e4]
theorem NR {n : Int} (h : ¬ (0 ≤ n ∧ n ≤ 109572)) : L.call eG [.int .i64 n] = some (.bg [jS 0 0 0, wQ 4]) := by
 have his := OJ n
 rw [decide_eq_false h] at his
 refine aX Rj rfl (Q5 ..) ?_
 unfold jS
 simp (disch := omega) [JM, his, dI]
theorem ant {day : Nat} (h : day ≤ 109572) : ∃ y m d, qX y m d ∧ dayOf y m d = day := by
 have hy : ∃ y, 1900 ≤ y ∧ dY y ≤ day ∧ day < dY (y + 1) := by
  have : ∀ k, day < dY (1900 + k) → ∃ y, 1900 ≤ y ∧ dY y ≤ day ∧ day < dY (y + 1) := by
   intro k
   induction k with
   | zero => intro h1; have : dY 1900 = 0 := by decide
             rw [Nat.add_zero, this] at h1; omega
   | succ k ih =>
     intro h1
     rcases Nat.lt_or_ge day (dY (1900 + k)) with h2 | h2
     ·exact ih h2
     ·exact ⟨1900 + k, by omega, h2, h1⟩
  exact this 300 (by have : dY (1900 + 300) = 109573 := by decide
                     omega)
 obtain ⟨y, h1, h2, h3⟩ := hy
 have hm : ∃ m, 1 ≤ m ∧ m ≤ 12 ∧ dH y (m - 1) ≤ day - dY y ∧ day - dY y < dH y m := by
  have : ∀ k, k ≤ 12 → day - dY y < dH y k → ∃ m, 1 ≤ m ∧ m ≤ 12 ∧ dH y (m - 1) ≤ day - dY y ∧ day - dY y < dH y m := by
   intro k
   induction k with
   | zero => intro _ h1; simp [dH] at h1
   | succ k ih =>
     intro hk h1
     rcases Nat.lt_or_ge (day - dY y) (dH y k) with h2 | h2
     ·exact ih (by omega) h2
     ·exact ⟨k + 1, by omega, hk, by rw [Nat.add_sub_cancel]; exact h2, h1⟩
  rw [zD h1] at h3
  exact this 12 (by omega) (by omega)
 obtain ⟨m, m1, m2, m3, m4⟩ := hm
 have h6 : dH y m = dH y (m - 1) + bP y m := by
  obtain ⟨q, rfl⟩ : ∃ q, m = q + 1 := ⟨m - 1, by omega⟩
  simp only [dH, Nat.add_sub_cancel]
 have hy2 : y ≤ 2199 := by
  rcases Nat.lt_or_ge 2199 y with hh | hh
  ·have := Cb (x := 2200) (y := y) (by omega) hh
   have h4 : dY 2200 = 109573 := by decide
   omega
  ·exact hh
 refine ⟨y, m, day - dY y - dH y (m - 1) + 1, ⟨h1, hy2, m1, m2, by omega, by omega⟩, ?_⟩
 unfold dayOf; omega
end Go.Ev.Code
end
section
namespace Go.Ev.Code
open Go Go.Ev
theorem ae2 {y m d : Nat} (h : ¬ (1900 ≤ y ∧ y ≤ 2199)) (hy : y ≤ 1000000) (h1 : 1 ≤ m) (h2 : m ≤ 12) (hd : 1 ≤ d) : L.call pF [jS y m d] = some (.bg [.int .i64 0, wQ 4]) := by
 refine aX ZQ rfl (ZM ..) ?_
 unfold jS
 by_cases g1 : y < 1900
 ·have g1' : (y : Int) < 1900 := by omega
  simp (disch := omega) [LW, g1, g1', dI]
 ·have g1' : ¬ (y : Int) < 1900 := by omega
  have g2 : 2199 < y := by omega
  have g2' : (2199 : Int) < y := by omega
  simp (disch := omega) [LW, g1, g1', g2, g2', dI]
theorem rP {y m : Nat} (h1 : 1 ≤ m) (h2 : m ≤ 12) : 28 ≤ bP y m := by
 have : m = 1 ∨ m = 2 ∨ m = 3 ∨ m = 4 ∨ m = 5 ∨ m = 6 ∨ m = 7 ∨ m = 8 ∨ m = 9 ∨ m = 10 ∨ m = 11 ∨ m = 12 := by omega
 rcases this with rfl | rfl | rfl | rfl | rfl | rfl | rfl | rfl | rfl | rfl | rfl | rfl <;> simp only [bP] <;> (try split) <;> omega
def jl : Option Nat → D
 | some n => .bg [.int .i64 n, .aC]
 | none => .bg [.int .i64 0, wQ 4]
def lV (y m d : Nat) : Option Nat := if 1900 ≤ y ∧ y ≤ 2199 then some (dayOf y m d) else none
theorem XD {y m d : Nat} (hy : y ≤ 1000000) (h1 : 1 ≤ m) (h2 : m ≤ 12) (hd : 1 ≤ d) (hd2 : d ≤ bP y m) : L.call pF [jS y m d] = some (jl (lV y m d)) := by
 unfold lV
 split
 ·rename_i h; exact XC h.1 h.2 h1 h2 hd hd2
 ·rename_i h; exact ae2 h hy h1 h2 hd
theorem SV {y m : Nat} (hy : y ≤ 1000000) (h1 : 1 ≤ m) (h2 : m ≤ 12) : L.call tZ [.int .i64 y, .int .i64 m] = some (jl (lV y m (bP y m))) := by
 have hl := mG hy h1 h2
 have hp := rP (y := y) h1 h2
 have h := XD hy h1 h2 (d := bP y m) (by omega) (Nat.le_refl _)
 unfold jS at h
 generalize hr : lV y m (bP y m) = r at *
 generalize bP y m = l at *
 refine aX aeN rfl (aeE ..) ?_
 cases r <;> simp [Nj, hl, h, jl] at h ⊢ <;> simp [Nj, hl, h, jl]
theorem Qd {y m d : Nat} (h : qX y m d) : L.call mZ [.int .i64 (dayOf y m d)] = some (.bool (decide (d = bP y m))) := by
 have hc := n_ h
 have hl := mG (y := y) (m := m) (by have := h.y2; omega) h.m1 h.m2
 unfold jS at hc
 generalize dayOf y m d = day at *
 generalize bP y m = l at *
 refine aX acL rfl (acD ..) ?_
 have : ((d : Int) = l) ↔ d = l := by omega
 by_cases hdl : d = l <;> simp [TV, hc, hl, hdl, this]
def Au (y m d : Nat) (n : Int) (e : Bool) : Option Nat :=
 if -3600 ≤ n ∧ n ≤ 3600 then
  (let a := ((y * 12 + m - 1 : Nat) : Int) + n
   let y' := (a / 12).toNat
   let m' := (a % 12).toNat + 1
   lV y' m' (if e = true ∧ d = bP y m then bP y' m' else min d (bP y' m')))
 else none
set_option maxHeartbeats 1000000 in
theorem adL {y m d : Nat} (h : qX y m d) (n : Int) (e : Bool) : L.call lN [.int .i64 (dayOf y m d), .int .i64 n, .bool e] = some (jl (Au y m d n e)) := by
 have hc := n_ h
 have hla := Qd h
 unfold jS at hc
 have h1 := h.y1
 have h2 := h.y2
 have h3 := h.m1
 have h4 := h.m2
 have h5 := h.d1
 have h6 := h.d2
 by_cases hn : -3600 ≤ n ∧ n ≤ 3600
 ·obtain ⟨a, ha⟩ : ∃ a : Nat, ((y * 12 + m - 1 : Nat) : Int) + n = a := ⟨(((y * 12 + m - 1 : Nat) : Int) + n).toNat, by omega⟩
  have ha2 : a ≤ 1000000 := by omega
  have e1 : IntKind.i64.wrap ((y : Int) * 12) = ((y * 12 : Nat) : Int) := by rw [wrap64 _ (by omega)]; omega
  have e2 : IntKind.i64.wrap (((y * 12 : Nat) : Int) + m) = ((y * 12 + m : Nat) : Int) := by rw [wrap64 _ (by omega)]; omega
  have e3 : IntKind.i64.wrap (((y * 12 + m : Nat) : Int) - 1) = ((y * 12 + m - 1 : Nat) : Int) := by rw [wrap64 _ (by omega)]; omega
  have e4 : IntKind.i64.wrap (((y * 12 + m - 1 : Nat) : Int) + n) = (a : Int) := by rw [ha, wrap64 _ (by omega)]
  have q1 := JX a 12
  have q2 := Aa a 12
  simp at q1 q2
  have e5 : IntKind.i64.wrap ((a : Int) / 12) = ((a / 12 : Nat) : Int) := by rw [wrap64 _ (by omega)]; omega
  have e6 : IntKind.i64.wrap ((a : Int) % 12 + 1) = ((a % 12 + 1 : Nat) : Int) := by rw [wrap64 _ (by omega)]; omega
  have hA : Au y m d n e = lV (a / 12) (a % 12 + 1) (if e = true ∧ d = bP y m then bP (a / 12) (a % 12 + 1) else min d (bP (a / 12) (a % 12 + 1))) := by
   unfold Au
   rw [if_pos hn]
   simp only [ha]
   have : ((a : Int) / 12).toNat = a / 12 := by omega
   have : ((a : Int) % 12).toNat = a % 12 := by omega
   simp only [*]
  rw [hA]
  have hy' : a / 12 ≤ 1000000 := by omega
  have hm' : 1 ≤ a % 12 + 1 ∧ a % 12 + 1 ≤ 12 := by omega
  have hEnd := SV hy' hm'.1 hm'.2
  have hLen := mG hy' hm'.1 hm'.2
  have hp := rP (y := a / 12) hm'.1 hm'.2
  have hmk := XD hy' hm'.1 hm'.2 (d := min d (bP (a / 12) (a % 12 + 1))) (by omega) (by omega)
  unfold jS at hmk
  have hmin : min (d : Int) (bP (a / 12) (a % 12 + 1)) = ((min d (bP (a / 12) (a % 12 + 1)) : Nat) : Int) := by omega
  have hg1 : ¬ n < -3600 := by omega
  have hg2 : ¬ 3600 < n := by omega
  generalize y * 12 + m - 1 = b1 at *
  generalize y * 12 + m = b2 at *
  generalize y * 12 = b3 at *
  generalize a % 12 + 1 = m' at *
  generalize a / 12 = y' at *
  generalize dayOf y m d = day at *
  generalize bP y m = lm at *
  generalize hl' : bP y' m' = l' at *
  by_cases hE : e = true ∧ d = lm
  ·obtain ⟨rfl, hdl⟩ := hE
   rw [if_pos ⟨rfl, hdl⟩]
   rw [decide_eq_true hdl] at hla
   generalize lV y' m' l' = r at *
   cases r with
   | none =>
     simp [jl] at hEnd
     refine aX vH rfl (vG ..) ?_
     simp (config := {maxSteps := 1000000}) [kY, hc, hg1, hg2, e1, e2, e3, e4, q1, q2, e5, e6, hla, hEnd, jl]
   | some r =>
     simp [jl] at hEnd
     refine aX vH rfl (vG ..) ?_
     simp (config := {maxSteps := 1000000}) [kY, hc, hg1, hg2, e1, e2, e3, e4, q1, q2, e5, e6, hla, hEnd, jl]
  ·rw [if_neg hE]
   generalize min d l' = dm at *
   have hla' : e = true → L.call mZ [.int .i64 day] = some (.bool false) := fun he => by
    rw [hla, decide_eq_false (fun h => hE ⟨he, h⟩)]
   generalize lV y' m' dm = r at *
   cases r with
   | none =>
     simp [jl] at hmk
     refine aX vH rfl (vG ..) ?_
     cases e with
     | false => simp (config := {maxSteps := 1000000}) [kY, hc, hg1, hg2, e1, e2, e3, e4, q1, q2, e5, e6, hLen, hmin, hmk, jl]
     | true => simp (config := {maxSteps := 1000000}) [kY, hc, hg1, hg2, e1, e2, e3, e4, q1, q2, e5, e6, hla' rfl, hLen, hmin, hmk, jl]
   | some r =>
     simp [jl] at hmk
     refine aX vH rfl (vG ..) ?_
     cases e with
     | false => simp (config := {maxSteps := 1000000}) [kY, hc, hg1, hg2, e1, e2, e3, e4, q1, q2, e5, e6, hLen, hmin, hmk, jl]
     | true => simp (config := {maxSteps := 1000000}) [kY, hc, hg1, hg2, e1, e2, e3, e4, q1, q2, e5, e6, hla' rfl, hLen, hmin, hmk, jl]
 ·have hA : Au y m d n e = none := by unfold Au; rw [if_neg hn]
  rw [hA]
  generalize dayOf y m d = day at *
  refine aX vH rfl (vG ..) ?_
  by_cases hg1 : n < -3600
  ·simp (config := {maxSteps := 1000000}) [kY, hc, hg1, dI, jl]
  ·have hg2 : 3600 < n := by omega
   simp (config := {maxSteps := 1000000}) [kY, hc, hg1, hg2, dI, jl]
theorem ab2 {day : Int} (h : ¬ (0 ≤ day ∧ day ≤ 109572)) (n : Int) (e : Bool) : L.call lN [.int .i64 day, .int .i64 n, .bool e] = some (.bg [.int .i64 0, wQ 4]) := by
 have hc := NR h
 unfold jS at hc
 refine aX vH rfl (vG ..) ?_
 simp at hc
 simp (config := {maxSteps := 1000000}) [kY, hc]
theorem WO {y m d y' m' d' : Nat} (h : qX y m d) (h' : qX y' m' d') : L.call iO [.int .i64 (dayOf y m d), .int .i64 (dayOf y' m' d')] = some (.int .i64 (((y' * 12 + m' : Nat) : Int) - ((y * 12 + m : Nat) : Int))) := by
 have hc := n_ h
 have hc' := n_ h'
 unfold jS at hc hc'
 have h1 := h.y1
 have h2 := h.y2
 have h3 := h.m2
 have h1' := h'.y1
 have h2' := h'.y2
 have h3' := h'.m2
 generalize dayOf y m d = day at *
 generalize dayOf y' m' d' = day' at *
 have hr : ((y' * 12 + m' : Nat) : Int) - ((y * 12 + m : Nat) : Int) = ((y' : Int) - y) * 12 + m' - m := by omega
 rw [hr]
 have e1 : IntKind.i64.wrap ((y' : Int) - y) = (y' : Int) - y := wrap64 _ (by omega)
 have e2 : IntKind.i64.wrap (((y' : Int) - y) * 12) = ((y' : Int) - y) * 12 := wrap64 _ (by omega)
 have e3 : IntKind.i64.wrap (((y' : Int) - y) * 12 + m') = ((y' : Int) - y) * 12 + m' := wrap64 _ (by omega)
 have e4 : IntKind.i64.wrap (((y' : Int) - y) * 12 + m' - m) = ((y' : Int) - y) * 12 + m' - m := wrap64 _ (by omega)
 generalize hk4 : ((y' : Int) - y) * 12 + m' - m = k4 at *
 rw [← hk4]
 refine aX Xl rfl (Xh ..) ?_
 simp [LX, hc, hc', e1, e2, e3]
 rw [hk4]; exact e4
end Go.Ev.Code
end
section
namespace Go.Ev.Code
open Go Go.Ev
def ac1 : Nat → Nat → Nat → Nat
 | 0, y, _ => y
 | f + 1, y, day => if dY (y + 1) ≤ day then ac1 f (y + 1) day else y
def acZ : Nat → Nat → Nat → Nat → Nat × Nat
 | 0, _, m, r => (m, r)
 | f + 1, y, m, r => if bP y m ≤ r then acZ f y (m + 1) (r - bP y m) else (m, r)
def jq (day : Nat) : Nat × Nat × Nat :=
 let y := ac1 300 (1900 + day / 366) day
 let r := acZ 12 y 1 (day - dY y)
 (y, r.1, r.2 + 1)
theorem al8 {day y : Nat} (h1 : dY y ≤ day) (h2 : day < dY (y + 1)) : ∀ (f x : Nat), x ≤ y → y < x + f → 1900 ≤ x → ac1 f x day = y := by
 intro f
 induction f with
 | zero => intro x hx hf; omega
 | succ f ih =>
   intro x hx hf h19
   simp only [ac1]
   rcases Nat.lt_or_ge x y with h | h
   ·have := Cb (x := x + 1) (y := y) (by omega) h
    rw [if_pos (by omega)]
    exact ih (x + 1) h (by omega) (by omega)
   ·have : x = y := by omega
    subst this
    rw [if_neg (by omega)]
theorem al7 {y m d : Nat} (hd : d < bP y m) : ∀ (f k : Nat), 1 ≤ k → k ≤ m → m < k + f → acZ f y k (dH y (m - 1) + d - dH y (k - 1)) = (m, d) := by
 intro f
 induction f with
 | zero => intro k h1 h2 h3; omega
 | succ f ih =>
   intro k h1 h2 h3
   simp only [acZ]
   rcases Nat.lt_or_ge k m with h | h
   ·have hc : dH y (k - 1) + bP y k = dH y k := by
     obtain ⟨q, rfl⟩ : ∃ q, k = q + 1 := ⟨k - 1, by omega⟩
     simp only [dH, Nat.add_sub_cancel]
    have hm := IJ y (j := k) (k := m - 1) (by omega)
    have := ih (k + 1) (by omega) (by omega) (by omega)
    rw [Nat.add_sub_cancel, ← hc, ← Nat.sub_sub] at this
    rw [if_pos (by omega)]
    exact this
   ·have : k = m := by omega
    subst this
    rw [show dH y (k - 1) + d - dH y (k - 1) = d by omega, if_neg (by omega)]
theorem IG {y m d : Nat} (h : qX y m d) : jq (dayOf y m d) = (y, m, d) := by
 have h1 := h.y1
 have h2 := h.y2
 have hd1 := h.d1
 have hd2 := h.d2
 have hm1 := h.m1
 have hm2 := h.m2
 have h366 := afT (y := y + 1) (by omega)
 have hhi := h.hi
 unfold jq
 have hy : ac1 300 (1900 + dayOf y m d / 366) (dayOf y m d) = y := al8 h.lo h.hi 300 _ (by omega) (by omega) (by omega)
 rw [hy]
 have hr : dayOf y m d - dY y = dH y (m - 1) + (d - 1) := by unfold dayOf; omega
 have hm : acZ 12 y 1 (dayOf y m d - dY y) = (m, d - 1) := by
  rw [hr]
  have := al7 (y := y) (m := m) (d := d - 1) (by omega) 12 1 (by omega) hm1 (by omega)
  simpa [dH] using this
 simp only [hm]
 rw [show d - 1 + 1 = d by omega]
abbrev bW (n : Int) : Prop := 0 ≤ n ∧ n ≤ 109572
theorem eF {n : Int} (h : bW n) : ∃ y m d, qX y m d ∧ n = (dayOf y m d : Nat) ∧ jq n.toNat = (y, m, d) := by
 obtain ⟨y, m, d, hc, hd⟩ := ant (day := n.toNat) (by omega)
 refine ⟨y, m, d, hc, by omega, ?_⟩
 rw [← hd, IG hc]
def kZ (day n : Int) (e : Bool) : Option Nat := if bW day then Au (jq day.toNat).1 (jq day.toNat).2.1 (jq day.toNat).2.2 n e else none
theorem MQ (day n : Int) (e : Bool) : L.call lN [.int .i64 day, .int .i64 n, .bool e] = some (jl (kZ day n e)) := by
 unfold kZ
 by_cases h : bW day
 ·obtain ⟨y, m, d, hc, hd, ho⟩ := eF h
  rw [if_pos h, ho]
  rw [hd]
  exact adL hc n e
 ·rw [if_neg h]
  exact ab2 h n e
def mD (a b : Int) : Int := (((jq b.toNat).1 * 12 + (jq b.toNat).2.1 : Nat) : Int) - (((jq a.toNat).1 * 12 + (jq a.toNat).2.1 : Nat) : Int)
theorem A8 {a b : Int} (ha : bW a) (hb : bW b) : L.call iO [.int .i64 a, .int .i64 b] = some (.int .i64 (mD a b)) := by
 obtain ⟨y, m, d, hc, hd, ho⟩ := eF ha
 obtain ⟨y', m', d', hc', hd', ho'⟩ := eF hb
 unfold mD
 rw [ho, ho', hd, hd']
 exact WO hc hc'
theorem WL {y m d n : Nat} (h1 : 1 ≤ m) (h2 : m ≤ 12) (hd : 1 ≤ d) (hd2 : d ≤ bP y m) (h : lV y m d = some n) : qX y m d ∧ n = dayOf y m d := by
 unfold lV at h
 split at h <;> simp at h
 rename_i hy
 exact ⟨⟨hy.1, hy.2, h1, h2, hd, hd2⟩, h.symm⟩
theorem nZ {day n : Int} {e : Bool} {r : Nat} (h : kZ day n e = some r) : bW r := by
 unfold kZ at h
 split at h <;> try (simp at h; done)
 rename_i hd
 obtain ⟨y, m, d, hc, hd, ho⟩ := eF hd
 rw [ho] at h
 unfold Au at h
 split at h <;> try (simp at h; done)
 simp only at h
 have hm := h
 have h12 : 1 ≤ ((((y * 12 + m - 1 : Nat) : Int) + n) % 12).toNat + 1 ∧ ((((y * 12 + m - 1 : Nat) : Int) + n) % 12).toNat + 1 ≤ 12 := by omega
 generalize ((((y * 12 + m - 1 : Nat) : Int) + n) % 12).toNat + 1 = m' at *
 generalize ((((y * 12 + m - 1 : Nat) : Int) + n) / 12).toNat = y' at *
 have hp := rP (y := y') h12.1 h12.2
 have hd1 := hc.d1
 obtain ⟨q1, q2⟩ := WL h12.1 h12.2 (by split <;> omega) (by split <;> omega) hm
 have := q1.le
 rw [← q2] at this
 constructor <;> omega
end Go.Ev.Code
end
section
namespace Go.Ev.Code
open Go Go.Ev
def gu (c : Int) (s : List UInt8) : D := .iface jg (.ref [.int .i64 c, .str s, .aC] 0)
theorem sQ {c : Int} (h : c ≠ 0) (s : List UInt8) : L.call dM [.int .i64 c, .str s] = some (gu c s) := by
 refine aX aeM rfl (aeD ..) ?_
 unfold gu
 simp [Vz, h]
def ael : List UInt8 := [105, 115, 115, 117, 101]
def nX : List UInt8 := [109, 97, 116, 117, 114, 101]
def Hy : List UInt8 := [99, 111, 117, 112, 111, 110]
def Hz : List UInt8 := [114, 101, 100, 101, 101, 109]
def YE : List UInt8 := [102, 114, 101, 113]
def JV : List UInt8 := [99, 111, 117, 110, 116]
def sH : List UInt8 := [115, 116, 117, 98]
def tEx : List UInt8 := [101, 120]
def E8 : List UInt8 := [102, 108, 111, 119, 115]
structure aW where
 issue : Int
 dw : Int
 dV : Int
 iM : List UInt8
 iT : List UInt8
 count : Int
 stub : Int
 ends : Bool
 ex : Int
def bC (b : aW) : List D := [.int .i64 b.issue, .int .i64 b.dw, .int .i64 b.dV, .str b.iM, .str b.iT, .int .i64 b.count, .int .i64 b.stub, .bool b.ends, .int .i64 b.ex]
abbrev dB (b : aW) : D := .agg (bC b)
def months (b : aW) : Int := if b.dV = 1 then 12 else if b.dV = 2 then 6 else if b.dV = 4 then 3 else if b.dV = 12 then 1 else 0
theorem Ce (b : aW) : L.call jy [dB b] = some (.int .i64 (months b)) := by
 obtain ⟨i, m, f, c, r, n, s, e, x⟩ := b
 unfold months dB bC
 refine aX abl rfl (aaS ..) ?_
 simp only
 by_cases h1 : f = 1
 ·subst h1; simp [qV, wrap64]
 by_cases h2 : f = 2
 ·subst h2; simp [qV, wrap64]
 by_cases h4 : f = 4
 ·subst h4; simp [qV, wrap64]
 by_cases h12 : f = 12
 ·subst h12; simp [qV, wrap64]
 ·simp [qV, h1, h2, h4, h12]
abbrev Err := Option (Int × List UInt8)
def dU : Err → D
 | none => .aC
 | some (c, s) => gu c s
def qo (b : aW) : Err :=
 if ¬ bW b.issue then some (4, ael) else if ¬ bW b.dw then some (4, nX) else if b.dw ≤ b.issue then some (5, nX) else
  match kZ b.issue 360 false with
  | some e => if (e : Int) < b.dw then some (5, nX) else none
  | none => none
theorem Xc {n : Int} : Uf n < 0 ↔ ¬ bW n := by
 unfold Uf
 split
 ·rename_i h; constructor
  ·intro h1; omega
  ·intro h1; exact absurd h h1
 ·rename_i h; simp [h]
theorem acT (b : aW) : L.call EH [dB b] = some (dU (qo b)) := by
 obtain ⟨i, m, f, c, r, n, s, e, x⟩ := b
 have w1 := wI i
 have w2 := wI m
 have n1 := @Xc i
 have n2 := @Xc m
 have ha := MQ i 360 false
 have f1 := fun s => sQ (c := 4) (by decide) s
 have f2 := fun s => sQ (c := 5) (by decide) s
 unfold qo dB bC
 simp only
 generalize Uf i = wi at *
 generalize Uf m = wm at *
 refine aX aeI rfl (aez ..) ?_
 by_cases h1 : bW i
 ·have g1 : ¬ wi < 0 := fun h => (n1.1 h) h1
  by_cases h2 : bW m
  ·have g2 : ¬ wm < 0 := fun h => (n2.1 h) h2
   by_cases h3 : m ≤ i
   ·rw [if_neg (fun h => h h1), if_neg (fun h => h h2), if_pos h3]
    simp [rX, w1, w2, g1, g2, h3, f2, dU, nX, gu]
   ·rw [if_neg (fun h => h h1), if_neg (fun h => h h2), if_neg h3]
    generalize kZ i 360 false = r at *
    cases r with
    | none => simp [jl] at ha; simp [rX, w1, w2, g1, g2, h3, ha, dU]
    | some e =>
      simp [jl] at ha
      by_cases h4 : (e : Int) < m
      ·simp [rX, w1, w2, g1, g2, h3, ha, h4, f2, dU, nX, gu]
      ·simp [rX, w1, w2, g1, g2, h3, ha, h4, dU]
  ·have g2 : wm < 0 := n2.2 h2
   rw [if_neg (fun h => h h1), if_pos h2]
   simp [rX, w1, w2, g1, g2, f1, dU, nX, gu]
 ·have g1 : wi < 0 := n1.2 h1
  rw [if_pos h1]
  simp [rX, w1, g1, f1, dU, ael, gu]
end Go.Ev.Code
end
section
namespace Go.Ev.Code
open Go Go.Ev
theorem G5 {n : Int} (h : -9223372036854775808 ≤ n ∧ n ≤ 9223372036854775807) : L.call mF [.int .i64 n] = some (d_ (Rat.divInt n 1)) := by
 have := Am h (d := 1) (by omega) (by omega)
 refine aX ah6 rfl (ahY ..) ?_
 simp [aaz, this]
def PX : Option (Rat × Nat) → D
 | some (q, n) => .bg [d_ q, .bool (decide (n ≤ 6)), .aC]
 | none => .bg [.aO, .bool true, wQ 1]
theorem zf {s : List UInt8} (h : s.length ≤ 1000000) : L.call lg [.str s] = some (PX (uw s)) := by
 have hg := XE h
 generalize uw s = r at *
 refine aX acI rfl (acz ..) ?_
 cases r with
 | none => simp [zG] at hg; simp [JH, hg, PX]
 | some qn =>
   obtain ⟨q, n⟩ := qn
   simp [zG] at hg
   have : ((n : Int) ≤ 6) ↔ n ≤ 6 := by omega
   simp [JH, hg, PX, this]
theorem OL {s : List UInt8} {q : Rat} {n : Nat} (h : uw s = some (q, n)) : RB 400 q ∧ n ≤ 20 := by
 unfold uw at h
 split at h <;> try (simp at h; done)
 rename_i hs
 unfold zH at h
 split at h <;> try (simp at h; done)
 rename_i hc
 simp at h
 obtain ⟨rfl, rfl⟩ := h
 obtain ⟨h1, h2, h3⟩ := hc
 have hl := aaF s
 have hb := ac4 46 (oU s).2
 have hf := @G8 46 (oU s).2
 generalize (kR 46 (oU s).2).1 = w at *
 generalize (kR 46 (oU s).2).2.1 = r at *
 generalize (kR 46 (oU s).2).2.2 = p at *
 have hr : r.length ≤ 20 ∧ r.all qA = true := by
  cases p with
  | true => exact (h2 rfl).2
  | false => rw [(hf rfl).2]; simp
 have had : (w ++ r).all qA = true := by rw [List.all_append, h1.2.2.2, hr.2]; rfl
 have hv : NB 400 (iG 0 (w ++ r)) := agb had (by simp; omega)
 refine ⟨tX ?_ ((ajv r.length).mono (by omega)) (ags _), hr.1⟩
 split
 ·exact (IB.ofNat hv).neg
 ·exact IB.ofNat hv
theorem ac2 {a b : Rat} : 0 < OI a b ↔ b < a := by
 unfold OI
 split
 ·rename_i h
  constructor
  ·intro h1; omega
  ·intro h1; exact absurd h1 (Rat.not_lt.2 (Rat.le_of_lt h))
 ·split
  ·rename_i h1 h2
   subst h2
   constructor
   ·intro h; omega
   ·intro h; exact absurd h h1
  ·rename_i h1 h2
   refine ⟨fun _ => ?_, fun _ => by omega⟩
   exact Rat.lt_of_le_of_ne (Rat.not_lt.1 h1) (Ne.symm h2)
def q30 : Rat := Rat.divInt 30 1
def WS : Rat := Rat.divInt 200 1
theorem ahX {n : Int} {k : Nat} (h : IB k n) (hk : 1 ≤ k) : RB k (Rat.divInt n 1) := tX h ((show IB 1 1 by unfold IB NB; decide).mono hk) (by decide)
def sG (b : aW) : Err := match uw b.iM with
 | none => some (1, Hy)
 | some (q, n) => if ¬ n ≤ 6 ∨ q.num < 0 ∨ q30 < q then some (5, Hy) else match uw b.iT with
   | none => some (1, Hz)
   | some (r, k) => if ¬ k ≤ 6 ∨ r.num ≤ 0 ∨ WS < r then some (5, Hz) else none
theorem amB {z : Int} : z.sign ≤ 0 ↔ z ≤ 0 := by
 rcases Int.lt_trichotomy z 0 with h | h | h
 ·rw [Int.sign_eq_neg_one_of_neg h]; omega
 ·subst h; simp
 ·rw [Int.sign_eq_one_of_pos h]; omega
theorem acU {b : aW} (hc : b.iM.length ≤ 1000000) (hr : b.iT.length ≤ 1000000) : L.call EI [dB b] = some (dU (sG b)) := by
 obtain ⟨i, m, f, c, r, n, s, e, x⟩ := b
 simp only at hc hr
 have v1 := zf hc
 have v2 := zf hr
 have f1 := fun s => sQ (c := 1) (by decide) s
 have f2 := fun s => sQ (c := 5) (by decide) s
 have o1 := G5 (n := 30) (by omega)
 have o2 := G5 (n := 200) (by omega)
 have b1 : RB 400 q30 := (ahX (k := 10) (by unfold IB NB; decide) (by decide)).mono (by decide)
 have b2 : RB 400 WS := (ahX (k := 10) (by unfold IB NB; decide) (by decide)).mono (by decide)
 change L.call mF [.int .i64 30] = some (d_ q30) at o1
 change L.call mF [.int .i64 200] = some (d_ WS) at o2
 have d1 := @OL c
 have d2 := @OL r
 unfold sG dB bC
 simp only
 generalize uw c = dc at *
 generalize uw r = dr at *
 refine aX aeJ rfl (aeA ..) ?_
 cases dc with
 | none => simp [PX] at v1; simp [kW, v1, f1, dU, gu, Hy]
 | some qn =>
   obtain ⟨q, k⟩ := qn
   simp [PX] at v1
   have cq := PG (d1 rfl).1 b1 (by omega)
   have sq := Nc q
   have pq := @ac2 q q30
   have nq := @sign_neg q.num
   simp only
   generalize OI q q30 = cm at *
   generalize q.num.sign = sg at *
   by_cases h1 : k ≤ 6
   ·by_cases h2 : q.num < 0
    ·rw [if_pos (.inr (.inl h2))]
     have g2 := nq.2 h2
     simp [kW, v1, f2, h1, sq, g2, dU, gu, Hy]
    ·have g2 : ¬ sg < 0 := fun h => h2 (nq.1 h)
     by_cases h3 : q30 < q
     ·rw [if_pos (.inr (.inr h3))]
      have g3 := pq.2 h3
      simp [kW, v1, f2, h1, sq, g2, o1, cq, g3, dU, gu, Hy]
     ·have g3 : ¬ 0 < cm := fun h => h3 (pq.1 h)
      rw [if_neg (fun h => by rcases h with h | h | h <;> contradiction)]
      cases dr with
      | none =>
        simp [PX] at v2
        simp [kW, v1, v2, f1, h1, sq, g2, o1, cq, g3, dU, gu, Hz]
      | some rn =>
        obtain ⟨r', k'⟩ := rn
        simp [PX] at v2
        have cr := PG (d2 rfl).1 b2 (by omega)
        have sr := Nc r'
        have pr := @ac2 r' WS
        have nr := @amB r'.num
        simp only
        generalize OI r' WS = cm' at *
        generalize r'.num.sign = sg' at *
        by_cases h4 : k' ≤ 6
        ·by_cases h5 : r'.num ≤ 0
         ·rw [if_pos (.inr (.inl h5))]
          have g5 := nr.2 h5
          simp [kW, v1, v2, f2, h1, sq, g2, o1, cq, g3, h4, sr, g5, dU, gu, Hz]
         ·have g5 : ¬ sg' ≤ 0 := fun h => h5 (nr.1 h)
          by_cases h6 : WS < r'
          ·rw [if_pos (.inr (.inr h6))]
           have g6 := pr.2 h6
           simp [kW, v1, v2, f2, h1, sq, g2, o1, cq, g3, h4, sr, g5, o2, cr, g6, dU, gu, Hz]
          ·have g6 : ¬ 0 < cm' := fun h => h6 (pr.1 h)
           rw [if_neg (fun h => by rcases h with h | h | h <;> contradiction)]
           simp [kW, v1, v2, f2, h1, sq, g2, o1, cq, g3, h4, sr, g5, o2, cr, g6, dU]
        ·rw [if_pos (.inl h4)]
         simp [kW, v1, v2, f2, h1, sq, g2, o1, cq, g3, h4, dU, gu, Hz]
   ·rw [if_pos (.inl h1)]
    simp [kW, v1, f2, h1, dU, gu, Hy]
end Go.Ev.Code
end
section
namespace Go.Ev.Code
open Go Go.Ev
theorem II (n : Int) : L.call rC [.int .i64 n] = some (.bool (decide (1 ≤ n ∧ n ≤ 4))) := by
 refine aX aeK rfl (aeB ..) ?_
 by_cases h : 1 ≤ n
 ·by_cases h' : n ≤ 4 <;> simp [Nh, h, h']
 ·simp [Nh, h]
def Gl (b : aW) : Int := (mD b.issue b.dw).tdiv (months b) + 2
def chk (b : aW) : Err := match qo b with
 | some e => some e
 | none => if months b = 0 then some (5, YE) else match sG b with
   | some e => some e
   | none => if ¬ (1 ≤ b.count ∧ b.count ≤ 4) then some (5, JV) else if b.stub < 0 ∨ 2 < b.stub then some (5, sH) else if b.ex < 0 ∨ 30 < b.ex then some (5, tEx)
     else if 200 < Gl b then some (5, E8) else none
theorem AO {b : aW} (h : qo b = none) : bW b.issue ∧ bW b.dw ∧ b.issue < b.dw := by
 unfold qo at h
 split at h <;> try (simp at h; done)
 split at h <;> try (simp at h; done)
 split at h <;> try (simp at h; done)
 exact ⟨by rename_i a _ _; exact Classical.not_not.1 a, by rename_i _ a _; exact Classical.not_not.1 a, by omega⟩
theorem ac0 {n : Int} (h : bW n) : 1900 ≤ (jq n.toNat).1 ∧ (jq n.toNat).1 ≤ 2199 ∧ 1 ≤ (jq n.toNat).2.1 ∧ (jq n.toNat).2.1 ≤ 12 := by
 obtain ⟨y, m, d, hc, hd, ho⟩ := eF h
 rw [ho]
 exact ⟨hc.y1, hc.y2, hc.m1, hc.m2⟩
theorem afU {a b : Int} (ha : bW a) (hb : bW b) : -4000 ≤ mD a b ∧ mD a b ≤ 4000 := by
 have h1 := ac0 ha
 have h2 := ac0 hb
 unfold mD
 omega
theorem lC (b : aW) : months b = 0 ∨ months b = 1 ∨ months b = 3 ∨ months b = 6 ∨ months b = 12 := by
 unfold months
 split
 ·omega
 ·split
  ·omega
  ·split
   ·omega
   ·split <;> omega
theorem agr {a m : Int} (ha : -4000 ≤ a ∧ a ≤ 4000) (hm : m = 1 ∨ m = 3 ∨ m = 6 ∨ m = 12) : -4000 ≤ a.tdiv m ∧ a.tdiv m ≤ 4000 := by
 rcases Int.le_total 0 a with h | h
 ·rw [Int.tdiv_eq_ediv_of_nonneg h]
  rcases hm with rfl | rfl | rfl | rfl <;> omega
 ·obtain ⟨k, rfl⟩ : ∃ k : Int, a = -k := ⟨-a, by omega⟩
  rw [Int.neg_tdiv, Int.tdiv_eq_ediv_of_nonneg (by omega)]
  rcases hm with rfl | rfl | rfl | rfl <;> omega
theorem qO {b : aW} (hc : b.iM.length ≤ 1000000) (hr : b.iT.length ≤ 1000000) : L.call gW [dB b] = some (dU (chk b)) := by
 have c1 := acT b
 have c2 := Ce b
 have c3 := acU hc hr
 have c4 := II b.count
 have c5 : bW b.issue → bW b.dw → L.call iO [.int .i64 b.issue, .int .i64 b.dw] = some (.int .i64 (mD b.issue b.dw)) := A8
 have n1 := @AO b
 have f2 := fun s => sQ (c := 5) (by decide) s
 have hmc := lC b
 have hbb := @afU b.issue b.dw
 unfold chk Gl
 generalize qo b = de at *
 generalize sG b = se at *
 generalize months b = mo at *
 obtain ⟨i, m, f, c, r, n, s, e, x⟩ := b
 unfold dB bC at *
 simp only at *
 refine aX acH rfl (acy ..) ?_
 cases de with
 | some er => obtain ⟨ec, es⟩ := er; simp [dU, gu] at c1; simp [jv, c1, dU, gu]
 | none =>
   obtain ⟨d1, d2, d3⟩ := n1 rfl
   have c5 := c5 d1 d2
   have hbb := hbb d1 d2
   simp [dU] at c1
   by_cases h0 : mo = 0
   ·simp [jv, c1, c2, h0, f2, dU, gu, YE]
   ·have hq := agr hbb (show mo = 1 ∨ mo = 3 ∨ mo = 6 ∨ mo = 12 by omega)
    simp only [if_neg h0]
    cases se with
    | some er => obtain ⟨ec, es⟩ := er; simp [dU, gu] at c3; simp [jv, c1, c2, h0, c3, dU, gu]
    | none =>
      simp [dU] at c3
      simp only
      by_cases h1 : 1 ≤ n ∧ n ≤ 4
      ·rw [if_neg (fun h => h h1)]
       rw [decide_eq_true h1] at c4
       by_cases h2 : s < 0
       ·rw [if_pos (.inl h2)]
        simp [jv, c1, c2, h0, c3, c4, h2, f2, dU, gu, sH]
       by_cases h2' : 2 < s
       ·rw [if_pos (.inr h2')]
        simp [jv, c1, c2, h0, c3, c4, h2, h2', f2, dU, gu, sH]
       rw [if_neg (fun h => by rcases h with h | h <;> contradiction)]
       by_cases h3 : x < 0
       ·rw [if_pos (.inl h3)]
        simp [jv, c1, c2, h0, c3, c4, h2, h2', h3, f2, dU, gu, tEx]
       by_cases h3' : 30 < x
       ·rw [if_pos (.inr h3')]
        simp [jv, c1, c2, h0, c3, c4, h2, h2', h3, h3', f2, dU, gu, tEx]
       rw [if_neg (fun h => by rcases h with h | h <;> contradiction)]
       have e1 : IntKind.i64.wrap ((mD i m).tdiv mo) = (mD i m).tdiv mo := wrap64 _ (by omega)
       have e2 : IntKind.i64.wrap ((mD i m).tdiv mo + 2) = (mD i m).tdiv mo + 2 := wrap64 _ (by omega)
       obtain ⟨t, ht⟩ : ∃ t, (mD i m).tdiv mo = t := ⟨_, rfl⟩
       rw [ht] at e1 e2 hq ⊢
       obtain ⟨pp, hpp⟩ : ∃ pp, t + 2 = pp := ⟨_, rfl⟩
       have e2 : IntKind.i64.wrap (t + 2) = pp := by rw [e2, hpp]
       rw [hpp]
       by_cases h4 : 200 < pp
       ·simp [jv, c1, c2, h0, c3, c4, h2, h2', h3, h3', c5, ht, e1, e2, h4, f2, dU, gu, E8]
       ·simp [jv, c1, c2, h0, c3, c4, h2, h2', h3, h3', c5, ht, e1, e2, h4, dU]
      ·rw [if_pos h1]
       rw [decide_eq_false h1] at c4
       simp [jv, c1, c2, h0, c3, c4, f2, dU, gu, JV]
def q0 : Rat := Rat.divInt 0 1
def Vl (b : aW) : Rat := match chk b with
 | some _ => q0
 | none => match uw b.iM with | some (q, _) => q | none => q0
def vw (b : aW) : Rat := match chk b with
 | some _ => q0
 | none => match uw b.iT with | some (q, _) => q | none => q0
theorem iF {b : aW} (h : chk b = none) : qo b = none ∧ months b ≠ 0 ∧ sG b = none := by
 unfold chk at h
 split at h <;> try (simp at h; done)
 rename_i hd
 split at h <;> try (simp at h; done)
 rename_i hm
 split at h <;> try (simp at h; done)
 rename_i hs
 exact ⟨hd, hm, hs⟩
theorem YD {b : aW} (h : sG b = none) : ∃ q n r k, uw b.iM = some (q, n) ∧ uw b.iT = some (r, k) ∧ n ≤ 6 ∧ 0 ≤ q.num ∧ ¬ q30 < q ∧ k ≤ 6 ∧ 0 < r.num ∧ ¬ WS < r := by
 unfold sG at h
 split at h <;> try (simp at h; done)
 rename_i q n hq
 split at h <;> try (simp at h; done)
 rename_i h1
 split at h <;> try (simp at h; done)
 rename_i r k hr
 split at h <;> try (simp at h; done)
 rename_i h2
 refine ⟨q, n, r, k, hq, hr, ?_, ?_, ?_, ?_, ?_, ?_⟩
 ·exact Classical.not_not.1 fun h => h1 (.inl h)
 ·exact Int.not_lt.1 fun h => h1 (.inr (.inl h))
 ·exact fun h => h1 (.inr (.inr h))
 ·exact Classical.not_not.1 fun h => h2 (.inl h)
 ·exact Int.not_le.1 fun h => h2 (.inr (.inl h))
 ·exact fun h => h2 (.inr (.inr h))
theorem Cc {b : aW} (hc : b.iM.length ≤ 1000000) (hr : b.iT.length ≤ 1000000) : L.call jR [dB b] = some (d_ (Vl b)) := by
 have c1 := qO hc hr
 have v1 := zf hc
 have o1 := G5 (n := 0) (by omega)
 change L.call mF [.int .i64 0] = some (d_ q0) at o1
 have hs := @iF b
 have hss := @YD b
 unfold Vl
 generalize chk b = ck at *
 obtain ⟨i, m, f, c, r, n, s, e, x⟩ := b
 unfold dB bC at *
 simp only at *
 refine aX abk rfl (aaR ..) ?_
 cases ck with
 | some er => obtain ⟨ec, es⟩ := er; simp [dU, gu] at c1; simp [Gm, c1, o1]
 | none =>
   obtain ⟨q, n, r, k, h1, _⟩ := hss (hs rfl).2.2
   rw [h1] at v1
   simp [PX] at v1
   simp [dU] at c1
   rw [h1]
   simp [Gm, c1, v1]
theorem Ci {b : aW} (hc : b.iM.length ≤ 1000000) (hr : b.iT.length ≤ 1000000) : L.call oV [dB b] = some (d_ (vw b)) := by
 have c1 := qO hc hr
 have v1 := zf hr
 have o1 := G5 (n := 0) (by omega)
 change L.call mF [.int .i64 0] = some (d_ q0) at o1
 have hs := @iF b
 have hss := @YD b
 unfold vw
 generalize chk b = ck at *
 obtain ⟨i, m, f, c, r, n, s, e, x⟩ := b
 unfold dB bC at *
 simp only at *
 refine aX abm rfl (aaT ..) ?_
 cases ck with
 | some er => obtain ⟨ec, es⟩ := er; simp [dU, gu] at c1; simp [Gn, c1, o1]
 | none =>
   obtain ⟨q, n, r, k, _, h1, _⟩ := hss (hs rfl).2.2
   rw [h1] at v1
   simp [PX] at v1
   simp [dU] at c1
   rw [h1]
   simp [Gn, c1, v1]
end Go.Ev.Code
end
section
namespace Go.Ev.Code
open Go Go.Ev
def anch (b : aW) (k : Nat) : Option Nat := kZ b.dw (-(k : Int) * months b) b.ends
def sJ : Option Nat → D
 | some d => .int .i64 d
 | none => .int .i64 0
theorem tK (b : aW) {k : Nat} (hk : k ≤ 100000) : L.call nC [dB b, .int .i64 k] = some (.bg [sJ (anch b k), .bool (anch b k).isSome]) := by
 have hm := Ce b
 have ha := MQ b.dw (-(k : Int) * months b) b.ends
 have hmc := lC b
 have e1 : IntKind.i64.wrap (0 - (k : Int)) = -(k : Int) := by rw [wrap64 _ (by omega)]; omega
 have e2 : IntKind.i64.wrap (-(k : Int) * months b) = -(k : Int) * months b := by
  refine wrap64 _ ?_
  rcases hmc with h | h | h | h | h <;> rw [h] <;> omega
 unfold anch
 generalize hx : -(k : Int) * months b = x at *
 generalize hr : kZ b.dw x b.ends = r at *
 generalize months b = mo at *
 obtain ⟨i, m, f, c, rd, n, s, e, ex⟩ := b
 unfold dB bC at *
 simp only at *
 refine aX abG rfl (aa' ..) ?_
 have e1' : IntKind.i64.wrap (-(k : Int)) = -(k : Int) := by rw [wrap64 _ (by omega)]
 have e2' : IntKind.i64.wrap (-((k : Int) * mo)) = x := by rw [← e2, ← hx, Int.neg_mul]
 have hx' : -((k : Int) * mo) = x := by rw [← hx, Int.neg_mul]
 cases r with
 | none => simp [jl] at ha; simp [Gy, hm, e1, e1', e2, e2', hx, hx', ha, sJ]
 | some d => simp [jl] at ha; simp [Gy, hm, e1, e1', e2, e2', hx, hx', ha, sJ]
def ints (l : List Nat) : List D := l.map fun (n : Nat) => D.int .i64 n
theorem zL (l : List Nat) : (ints l).length = l.length := by simp [ints]
theorem akA (l : List Nat) (d : Nat) : ints (l ++ [d]) = ints l ++ [.int .i64 d] := by simp [ints]
theorem Ja (l : List Nat) (b n : Nat) : (ints l).all (D.clo b (n + 1)) = true := by
 rw [List.all_eq_true]
 intro d hd
 simp only [ints, List.mem_map] at hd
 obtain ⟨x, _, rfl⟩ := hd
 rfl
def jJ (b : aW) (k : Nat) : List Nat := (List.range k).map fun i => (anch b i).getD 0
theorem B_ (b : aW) (k : Nat) : (jJ b k).length = k := by simp [jJ]
theorem aio (b : aW) (k : Nat) : jJ b (k + 1) = jJ b k ++ [(anch b k).getD 0] := by simp [jJ, List.range_succ]
def Goes (b : aW) (k : Nat) : Prop := ∃ d, anch b k = some d ∧ b.issue < (d : Int)
theorem acS {b : aW} {K : Nat} (hK : K ≤ 90000) (hgo : ∀ i, i < K → Goes b i) (hst : ¬ Goes b K) : ∀ (j k : Nat), k + j = K → 1 ≤ k →
  L.loop [1, 5, 6] [2, 3, 4] nN 2 [.loc 1 0, .bn 2 0 k 1, .int .i64 k] [.live (bC b), .live (bC b), .live (ints (jJ b k))] =
    some (.ret, [.bn 2 0 K 1, sJ (anch b K), .bool (anch b K).isSome], [.live (bC b), .live (bC b), .live (ints (jJ b K))]) := by
 intro j
 induction j with
 | zero =>
   intro k hk h1
   have hkK : k = K := by omega
   subst hkK
   have ha := tK b (k := k) (by omega)
   have hcl := Ja (jJ b k) 2 11
   have hl : (ints (jJ b k)).length = k := by rw [zL, B_]
   unfold Goes at hst
   generalize ints (jJ b k) = l at *
   generalize hr : anch b k = r at *
   obtain ⟨i, m, f, c, rd, n, s, e, ex⟩ := b
   unfold dB bC at *
   simp only at *
   refine aU (yw ..) ?_
   cases r with
   | none => simp [sJ] at ha; simp [oL, ha, sJ, hcl]
   | some d =>
     have g : (d : Int) ≤ i := by
      by_cases h : i < (d : Int)
      ·exact absurd ⟨d, rfl, h⟩ hst
      ·omega
     simp [sJ] at ha; simp [oL, ha, sJ, g, hcl]
 | succ j ih =>
   intro k hk h1
   have hn := ih (k + 1) (by omega) (by omega)
   have ha := tK b (k := k) (by omega)
   obtain ⟨d, hd, hdi⟩ := hgo k (by omega)
   rw [aio, hd, Option.getD_some, akA] at hn
   rw [hd] at ha
   have hcl := Ja (jJ b k) 2 11
   have hl : (ints (jJ b k)).length = k := by rw [zL, B_]
   generalize ints (jJ b k) = l at *
   generalize (anch b K).isSome = zb at *
   generalize sJ (anch b K) = zd at *
   generalize ints (jJ b K) = lK at *
   have htk : l.take k = l := List.take_of_length_le (by omega)
   have hlen : k + 1 ≤ 4294967296 := by omega
   have e1 : IntKind.i64.wrap ((k : Int) + 1) = ((k + 1 : Nat) : Int) := by rw [wrap64 _ (by omega)]; omega
   obtain ⟨i, m, f, c, rd, n, s, e, ex⟩ := b
   unfold dB bC at *
   simp only at *
   simp [sJ] at ha hn
   have g : ¬ (d : Int) ≤ i := by omega
   refine aU (yw ..) ?_
   simp [oL, ha, g, hcl, htk, hl, hlen, e1, oM, hn]
theorem agR {b : aW} {K : Nat} (hK : K ≤ 90000) (h1 : 1 ≤ K) (hgo : ∀ i, i < K → Goes b i) (hst : ¬ Goes b K) :
  L.aY xB [dB b] [.live (bC b)] = some (.bg [.bn 1 0 K 1, sJ (anch b K), .bool (anch b K).isSome], [.live (bC b), .live (ints (jJ b K))]) := by
 have hl : L.loop [1, 5, 6] [2, 3, 4] nN 2 [.loc 1 0, .cO, .int .i64 0] [.live (bC b), .live (bC b)] =
   some (.ret, [.bn 2 0 K 1, sJ (anch b K), .bool (anch b K).isSome], [.live (bC b), .live (bC b), .live (ints (jJ b K))]) := by
  have hn := acS hK hgo hst (K - 1) 1 (by omega) (by omega)
  have ha := tK b (k := 0) (by omega)
  obtain ⟨d, hd, hdi⟩ := hgo 0 (by omega)
  rw [show jJ b 1 = [(anch b 0).getD 0] by simp [jJ], hd, Option.getD_some, show ((1 : Nat) : Int) = 1 from rfl] at hn
  rw [hd] at ha
  generalize (anch b K).isSome = zb at *
  generalize sJ (anch b K) = zd at *
  generalize ints (jJ b K) = lK at *
  obtain ⟨i, m, f, c, rd, n, s, e, ex⟩ := b
  unfold dB bC at *
  simp only at *
  simp [sJ, ints] at ha hn
  have g : ¬ (d : Int) ≤ i := by omega
  refine aU (yw ..) ?_
  simp [oL, ha, g, oM, wrap64, hn]
 have hcl := Ja (jJ b K) 1 11
 have hz : sJ (anch b K) = .int .i64 ((anch b K).getD 0 : Nat) := by cases anch b K <;> rfl
 rw [hz] at hl ⊢
 generalize (anch b K).isSome = zb at *
 generalize (anch b K).getD 0 = zd at *
 have hlen : (ints (jJ b K)).length = K := by rw [zL, B_]
 generalize ints (jJ b K) = lK at *
 obtain ⟨i, m, f, c, rd, n, s, e, ex⟩ := b
 unfold dB bC at *
 simp only at *
 refine kF Y4 rfl (YS ..) ?_
 simp [Om, hl, hcl]
end Go.Ev.Code
end
section
namespace Go.Ev.Code
open Go Go.Ev
def ag9 (b : aW) (k : Nat) : Bool := match anch b k with
 | some d => decide (b.issue < (d : Int))
 | none => false
theorem aai (b : aW) (k : Nat) : ag9 b k = true ↔ Goes b k := by
 unfold ag9 Goes
 cases anch b k with
 | none => simp
 | some d => simp
def Ur (b : aW) : Nat → Nat → Nat
 | 0, k => k
 | f + 1, k => if ag9 b k = true then Ur b f (k + 1) else k
def fC (b : aW) : Nat := Ur b 3601 0
theorem ado (b : aW) : ∀ (f k : Nat), (∀ i, i < k → Goes b i) → ¬ Goes b (k + f) → (∀ i, i < Ur b f k → Goes b i) ∧ ¬ Goes b (Ur b f k) ∧ Ur b f k ≤ k + f
 | 0, k, h1, h2 => ⟨h1, h2, Nat.le_refl _⟩
 | f + 1, k, h1, h2 => by
   simp only [Ur]
   split
   ·rename_i hg
    have hg := (aai b k).1 hg
    have := ado b f (k + 1) (fun i hi => by
     rcases Nat.lt_or_ge i k with h | h
     ·exact h1 i h
     ·have : i = k := by omega
      rw [this]; exact hg) (by rw [show k + 1 + f = k + (f + 1) by omega]; exact h2)
    exact ⟨this.1, this.2.1, by omega⟩
   ·rename_i hg
    exact ⟨h1, fun h => hg ((aai b k).2 h), by omega⟩
theorem acO {y m d : Nat} {n : Int} {e : Bool} (h : ¬ (-3600 ≤ n ∧ n ≤ 3600)) : Au y m d n e = none := by unfold Au; rw [if_neg h]
theorem ajY (b : aW) (hm : months b ≠ 0) : ¬ Goes b 3601 := by
 rintro ⟨d, hd, _⟩
 have hc := lC b
 unfold anch kZ at hd
 split at hd
 ·rw [acO (by rcases hc with h | h | h | h | h <;> rw [h] <;> omega)] at hd
  simp at hd
 ·simp at hd
theorem EL {b : aW} (hm : months b ≠ 0) : (∀ i, i < fC b → Goes b i) ∧ ¬ Goes b (fC b) ∧ fC b ≤ 3601 := by
 have := ado b 3601 0 (fun i hi => absurd hi (by omega)) (by rw [Nat.zero_add]; exact ajY b hm)
 exact ⟨this.1, this.2.1, Nat.le_trans this.2.2 (by decide)⟩
theorem aik {day : Int} (h : bW day) (e : Bool) : kZ day 0 e = some day.toNat := by
 obtain ⟨y, m, d, hc, hd, ho⟩ := eF h
 unfold kZ
 rw [if_pos h, ho]
 have h1 := hc.y1
 have h2 := hc.y2
 have h3 := hc.m1
 have h4 := hc.m2
 have h5 := hc.d2
 unfold Au
 rw [if_pos (by omega)]
 have e1 : ((((y * 12 + m - 1 : Nat) : Int) + 0) / 12).toNat = y := by omega
 have e2 : ((((y * 12 + m - 1 : Nat) : Int) + 0) % 12).toNat + 1 = m := by omega
 simp only [e1, e2]
 unfold lV
 rw [if_pos ⟨h1, h2⟩]
 congr 1
 have : (if e = true ∧ d = bP y m then bP y m else min d (bP y m)) = d := by split <;> omega
 rw [this, hd]; omega
theorem Ez {b : aW} (h : bW b.dw) : anch b 0 = some b.dw.toNat := by
 unfold anch
 rw [show (-((0 : Nat) : Int) * months b) = 0 by simp]
 exact aik h _
theorem Zq {b : aW} (h : chk b = none) : 1 ≤ fC b := by
 obtain ⟨h1, h2, h3⟩ := iF h
 obtain ⟨d1, d2, d3⟩ := AO h1
 obtain ⟨k1, k2, k3⟩ := EL h2
 rcases Nat.eq_zero_or_pos (fC b) with h0 | h0
 ·rw [h0] at k2
  exact absurd ⟨_, Ez d2, by omega⟩ k2
 ·exact h0
def lu : Int → List Nat → List (Int × Int)
 | _, [] => []
 | f, d :: ds => (f, (d : Int)) :: lu d ds
def dG : List (Int × Int) → List D
 | [] => []
 | (a, b) :: ps => .int .i64 a :: .int .i64 b :: dG ps
theorem ad2 (l r : List (Int × Int)) : dG (l ++ r) = dG l ++ dG r := by
 induction l with
 | nil => rfl
 | cons x xs ih => obtain ⟨a, b⟩ := x; simp [dG, ih]
theorem Jv (l : List (Int × Int)) : (dG l).length = l.length * 2 := by
 induction l with
 | nil => rfl
 | cons x xs ih => obtain ⟨a, b⟩ := x; simp [dG, ih]; omega
theorem ku (l : List (Int × Int)) (b n : Nat) : (dG l).all (D.clo b (n + 1)) = true := by
 induction l with
 | nil => rfl
 | cons x xs ih => obtain ⟨p, q⟩ := x; simp [dG]; simpa using ih
theorem ahg (f : Int) (l : List Nat) : (lu f l).length = l.length := by
 induction l generalizing f with
 | nil => rfl
 | cons x xs ih => simp [lu, ih]
theorem qW (a b : D) : zeros 1 [a, b] = [a, b] := by rfl
theorem adU {b : aW} {days : List Nat} {nx : Int} {is : Bool} (hd : days.length ≤ 90000) : ∀ (rest pre : List Nat) (acc : List (Int × Int)) (fr : Int), days = pre ++ rest → acc ≠ [] → acc.length = pre.length →
  L.loop [1, 6, 7, 8, 9, 27, 28, 29] [1, 6, 7, 8] xX 2 [.loc 0 0, .int .i64 nx, .bool is, .bn 2 0 acc.length 2, .int .i64 fr, .bn 1 0 days.length 1, .int .i64 days.length, .int .i64 pre.length]
    [.live (bC b), .live (ints days), .live (dG acc)] =
    some (.exit 0, [.loc 0 0, .int .i64 nx, .bool is, .bn 2 0 days.length 2], [.live (bC b), .live (ints days), .live (dG (acc ++ lu fr rest))]) := by
 have hcl := Ja days 2 11
 have hbc : (bC b).all (D.clo 2 12) = true := by obtain ⟨i, m, f, c, rd, n, s, e, ex⟩ := b; simp [bC]
 intro rest
 induction rest with
 | nil =>
   intro pre acc fr hdd hne hal
   have hpl : pre.length = days.length := by rw [hdd]; simp
   rw [hal, hpl]
   have hpc := ku acc 2 11
   simp only [lu, List.append_nil]
   generalize bC b = B at *
   generalize dG acc = pc at *
   generalize hid : ints days = id at *
   generalize days.length = K at *
   refine aU (Ig ..) ?_
   simp [BH, hcl, hbc, hpc]
 | cons d rest ih =>
   intro pre acc fr hdd hne hal
   have hn := ih (pre ++ [d]) (acc ++ [(fr, (d : Int))]) d (by rw [hdd]; simp) (by simp) (by simp [hal])
   have hmk : acc ++ lu fr (d :: rest) = acc ++ [(fr, (d : Int))] ++ lu d rest := by simp [lu]
   rw [← hmk] at hn
   have hlt : pre.length < days.length := by rw [hdd]; simp
   have hget : (ints days)[pre.length]? = some (.int .i64 d) := by
    rw [hdd]; simp [ints]
   have hpc := ku acc 2 11
   rw [ad2] at hn
   have hpl := Jv acc
   rw [show dG [(fr, (d : Int))] = [.int .i64 fr, .int .i64 d] from rfl] at hn
   have htk : (dG acc).take (acc.length * 2) = dG acc := List.take_of_length_le (by omega)
   have hil : (ints days).length = days.length := zL days
   have e1 : IntKind.i64.wrap ((pre.length : Int) + 1) = ((pre.length + 1 : Nat) : Int) := by rw [wrap64 _ (by omega)]; omega
   have hlen : acc.length + 1 ≤ 4294967296 := by omega
   rw [List.length_append, List.length_append] at hn
   simp only [List.length_singleton] at hn
   generalize dG (acc ++ lu fr (d :: rest)) = pz at *
   generalize bC b = B at *
   generalize dG acc = pc at *
   generalize ints days = id at *
   generalize days.length = K at *
   generalize hA : acc.length = A at *
   generalize pre.length = P at *
   have hltI : (P : Int) < K := by omega
   simp at hn
   refine aU (Ig ..) ?_
   simp [BH, hcl, hbc, hpc, hlt, hltI, hget, qW, htk, e1, hlen, hpl, hn]
end Go.Ev.Code
end
section
namespace Go.Ev.Code
open Go Go.Ev
def eu (b : aW) : List (Int × Int) := lu b.issue (jJ b (fC b)).reverse
def Gj (b : aW) : Bool := match anch b (fC b) with
 | some d => decide ((d : Int) = b.issue)
 | none => false
def gq (b : aW) : Err × List (Int × Int) := match chk b with
 | some e => (some e, [])
 | none => if Gj b = true then (none, eu b) else if b.stub = 0 then (some (5, sH), []) else if b.stub = 2 then
   (match eu b with
    | _ :: q :: r => (none, (b.issue, q.2) :: r)
    | ps => (none, ps))
   else (none, eu b)
def jU (ps : List (Int × Int)) : D := .sl ps.length (dG ps)
def rE (r : Err × List (Int × Int)) : D := .bg [jU r.2, dU r.1]
theorem rW (b : aW) : (eu b).length = fC b := by unfold eu; rw [ahg, List.length_reverse, B_]
theorem V4 (l : List (Int × Int)) (n : Nat) (m : Mem) : jZ (fz (n + 1)) (dG l) m = some (dG l, m) := by
 induction l with
 | nil => rfl
 | cons x xs ih => obtain ⟨a, b⟩ := x; simp [dG, ih]
theorem ahr {b : aW} {days : List Nat} {nx : Int} {is : Bool} (hd : days.length ≤ 90000) (hne : days ≠ []) :
  L.loop [1, 6, 7, 8, 9, 27, 28, 29] [1, 6, 7, 8] xX 2 [.loc 0 0, .int .i64 nx, .bool is, .cO, .int .i64 b.issue, .bn 1 0 days.length 1, .int .i64 days.length, .int .i64 0]
    [.live (bC b), .live (ints days)] =
    some (.exit 0, [.loc 0 0, .int .i64 nx, .bool is, .bn 2 0 days.length 2], [.live (bC b), .live (ints days), .live (dG (lu b.issue days))]) := by
 obtain ⟨d, rest, rfl⟩ : ∃ d rest, days = d :: rest := List.exists_cons_of_ne_nil hne
 have hn := adU (b := b) (nx := nx) (is := is) hd rest [d] [(b.issue, (d : Int))] d rfl (by simp) rfl
 have hcl := Ja (d :: rest) 2 11
 have hbc : (bC b).all (D.clo 2 12) = true := by obtain ⟨i, m, f, c, rd, n, s, e, ex⟩ := b; simp [bC]
 rw [show [(b.issue, (d : Int))] ++ lu d rest = lu b.issue (d :: rest) from rfl, show dG [(b.issue, (d : Int))] = [.int .i64 b.issue, .int .i64 d] from rfl] at hn
 have hget : (ints (d :: rest))[0]? = some (.int .i64 d) := by simp [ints]
 have hil := zL (d :: rest)
 have hlt : 0 < (d :: rest).length := by simp
 generalize dG (lu b.issue (d :: rest)) = pz at *
 generalize bC b = B at *
 generalize ints (d :: rest) = id at *
 generalize (d :: rest).length = K at *
 simp at hn
 have hltI : (0 : Int) < K := by omega
 refine aU (Ig ..) ?_
 simp [BH, hcl, hbc, hlt, hltI, hget, qW, wrap64, hn]
theorem oQ {b : aW} (hc : b.iM.length ≤ 1000000) (hr : b.iT.length ≤ 1000000) : L.call fV [dB b] = some (rE (gq b)) := by
 have hck := qO hc hr
 by_cases hchk : chk b = none
 ·obtain ⟨k1, k2, k3⟩ := EL (iF hchk).2.1
  have kp := Zq hchk
  have han := agR (by omega) kp k1 k2
  have hlen := B_ b (fC b)
  have hrev := akT (pre := [.live (bC b)]) (l := ints (jJ b (fC b))) (by obtain ⟨i, m, f, c, rd, n, s, e, ex⟩ := b; simp [bC]) (by rw [zL, hlen]; omega)
   (fun d hd => by
    simp only [ints, List.mem_map] at hd
    obtain ⟨x, _, rfl⟩ := hd
    exact ⟨rfl, rfl⟩)
  rw [zL, hlen, show (ints (jJ b (fC b))).reverse = ints (jJ b (fC b)).reverse by simp [ints]] at hrev
  have hz : sJ (anch b (fC b)) = .int .i64 ((anch b (fC b)).getD 0 : Nat) := by cases anch b (fC b) <;> rfl
  rw [hz] at han
  have hlp := ahr (b := b) (days := (jJ b (fC b)).reverse) (nx := ((anch b (fC b)).getD 0 : Nat)) (is := (anch b (fC b)).isSome) (by rw [List.length_reverse, hlen]; omega) (by
   intro h
   have := congrArg List.length h
   rw [List.length_reverse, hlen] at this
   simp at this; omega)
  rw [List.length_reverse, hlen] at hlp
  have hpl := Jv (eu b)
  have hrl := rW b
  rw [hrl] at hpl
  have hit : Gj b = ((anch b (fC b)).isSome && decide ((((anch b (fC b)).getD 0 : Nat) : Int) = b.issue)) := by
   unfold Gj
   cases anch b (fC b) <;> simp
  have htk : (dG (eu b)).take (fC b * 2) = dG (eu b) := List.take_of_length_le (by omega)
  have hfz : ∀ m, jZ (fz 10) (dG (eu b)) m = some (dG (eu b), m) := fun m => V4 (eu b) 9 m
  have hpc := ku (eu b) 0 11
  unfold gq
  rw [hchk]
  simp only
  rw [hit]
  unfold eu at *
  generalize (anch b (fC b)).isSome = is at *
  generalize (anch b (fC b)).getD 0 = nx at *
  generalize ints (jJ b (fC b)).reverse = rv at *
  generalize ints (jJ b (fC b)) = iv at *
  have f2 : L.call dM [.int .i64 5, .str [115, 116, 117, 98]] = some (gu 5 sH) := sQ (c := 5) (by decide) sH
  rw [hchk] at hck
  simp [dU] at hck
  generalize hps : lu b.issue (jJ b (fC b)).reverse = ps at *
  generalize hk : fC b = K at *
  obtain ⟨i, m, f, c, rd, n, s, e, ex⟩ := b
  unfold dB bC at *
  simp only at *
  simp at hrev
  refine aX ZU rfl (ZP ..) ?_
  by_cases hh : (is && decide ((nx : Int) = i)) = true
  ·rw [if_pos hh]
   simp only [Bool.and_eq_true, decide_eq_true_eq] at hh
   obtain ⟨rfl, hh⟩ := hh
   rw [hh] at han hlp
   simp [nM, hck, han, hrev, hlp, hpc, hfz, hpl, htk, rE, jU, hrl, dU]
  ·rw [if_neg hh]
   by_cases hs0 : s = 0
   ·subst hs0
    rw [if_pos rfl]
    cases is with
    | false => simp [nM, hck, han, hrev, hlp, f2, rE, jU, dU, gu, sH, dG]
    | true =>
      have hh : ¬ (nx : Int) = i := by simpa using hh
      simp [nM, hck, han, hrev, hlp, hh, f2, rE, jU, dU, gu, sH, dG]
   ·rw [if_neg hs0]
    have hh2 : is = false ∨ (is = true ∧ ¬ (nx : Int) = i) := by
     cases is with
     | false => exact .inl rfl
     | true => exact .inr ⟨rfl, by simpa using hh⟩
    by_cases hs2 : s = 2
    ·subst hs2
     rw [if_pos rfl]
     by_cases hK1 : 1 < K
     ·obtain ⟨p, q, r, rfl⟩ : ∃ p q r, ps = p :: q :: r := by
       cases ps with
       | nil => simp at hrl; omega
       | cons p t => cases t with
         | nil => simp at hrl; omega
         | cons q r => exact ⟨p, q, r, rfl⟩
      obtain ⟨p1, p2⟩ := p
      obtain ⟨q1, q2⟩ := q
      have hK1' : (1 : Int) < K := by omega
      have hrK : r.length + 1 + 1 = K := by simpa using hrl
      have hKr : K - 1 = r.length + 1 := by omega
      have hrl2 := Jv r
      have hfz2 : ∀ m, jZ (fz 10) (dG r) m = some (dG r, m) := fun m => V4 r 9 m
      have hbn : qC true false K [.int .i64 1] = some (1, K) := by
       have h1K : (1 : Int) ≤ K := by omega
       have h1K' : 1 ≤ K := by omega
       simp [qC, bnd, h1K, h1K']
      have hpc2 := ku r 0 11
      have htk2 : (dG r).take (r.length * 2) = dG r := List.take_of_length_le (by omega)
      have hb1 : 2 + (r.length + 1) * 2 ≤ (dG r).length + 1 + 1 + 1 + 1 := by omega
      have hb2 : (r.length + 1) * 2 = r.length * 2 + 1 + 1 := by omega
      have hb3 : 2 + (r.length * 2 + 1 + 1) ≤ r.length * 2 + 1 + 1 + 1 + 1 := by omega
      simp only [dG] at hlp
      rcases hh2 with rfl | ⟨rfl, hh2⟩
      ·simp [nM, hck, han, hrev, hlp, hK1, hK1', hbn, hKr, hrl2, hfz2, hpc2, htk2, hb1, hb2, hb3, rE, jU, dG, dU]
      ·simp [nM, hck, han, hrev, hlp, hh2, hK1, hK1', hbn, hKr, hrl2, hfz2, hpc2, htk2, hb1, hb2, hb3, rE, jU, dG, dU]
     ·have hK1' : ¬ (1 : Int) < K := by omega
      have hcase : (match ps with | _ :: q :: r => ((none : Err), (i, q.2) :: r) | ps => (none, ps)) = (none, ps) := by
       match ps, hrl with
       | [], _ => rfl
       | [_], _ => rfl
       | _ :: _ :: _, hrl => simp at hrl; omega
      rw [hcase]
      rcases hh2 with rfl | ⟨rfl, hh2⟩
      ·simp [nM, hck, han, hrev, hlp, hK1, hK1', hpc, hfz, hpl, htk, rE, jU, hrl, dU]
      ·simp [nM, hck, han, hrev, hlp, hh2, hK1, hK1', hpc, hfz, hpl, htk, rE, jU, hrl, dU]
    ·rw [if_neg hs2]
     rcases hh2 with rfl | ⟨rfl, hh2⟩
     ·simp [nM, hck, han, hrev, hlp, hs0, hs2, hpc, hfz, hpl, htk, rE, jU, hrl, dU]
     ·simp [nM, hck, han, hrev, hlp, hh2, hs0, hs2, hpc, hfz, hpl, htk, rE, jU, hrl, dU]
 ·cases hce : chk b with
  | none => exact absurd hce hchk
  | some er =>
    unfold gq
    rw [hce] at hck ⊢
    obtain ⟨ec, es⟩ := er
    simp only [rE, jU, dG, List.length_nil]
    obtain ⟨i, m, f, c, rd, n, s, e, ex⟩ := b
    unfold dB bC at *
    simp only at *
    simp [dU, gu] at hck
    refine aX ZU rfl (ZP ..) ?_
    simp [nM, hck, dU, gu]
end Go.Ev.Code
end
section
namespace Go.Ev.Code
open Go Go.Ev
def xA (b : aW) (day : Int) : Nat → Nat → Option Nat
 | 0, _ => none
 | f + 1, k => match anch b k with
   | some a => if (a : Int) < day then none else if (a : Int) = day then some k else xA b day f (k + 1)
   | none => none
def Jw (b : aW) (day : Int) : Option Nat := xA b day 3602 0
def yD : Option Nat → List D
 | some k => [.int .i64 k, .bool true]
 | none => [.int .i64 0, .bool false]
theorem ain (b : aW) (hm : months b ≠ 0) : anch b 3601 = none := by
 have hc := lC b
 unfold anch kZ
 split
 ·rw [acO (by rcases hc with h | h | h | h | h <;> rw [h] <;> omega)]
 ·rfl
theorem ahn {b : aW} (hm : months b ≠ 0) {day : Int} : ∀ (f k : Nat), k + f = 3602 →
  L.loop [1, 2, 6] [4, 5] qR 1 [.int .i64 day, .loc 0 0, .int .i64 k] [.live (bC b)] = some (.ret, yD (xA b day f k), [.live (bC b)]) ∨ f = 0 := by
 intro f
 induction f with
 | zero => intro k hk; exact .inr rfl
 | succ f ih =>
   intro k hk
   left
   have ha := tK b (k := k) (by omega)
   have hn := ih (k + 1) (by omega)
   have hlast : f = 0 → anch b k = none := fun h => by
    have : k = 3601 := by omega
    rw [this]; exact ain b hm
   simp only [xA]
   have e1 : IntKind.i64.wrap ((k : Int) + 1) = ((k + 1 : Nat) : Int) := by rw [wrap64 _ (by omega)]; omega
   generalize anch b k = r at *
   generalize xA b day f (k + 1) = r2 at *
   obtain ⟨i, m, fq, c, rd, n, s, e, ex⟩ := b
   unfold dB bC at *
   simp only at *
   refine aU (Xk ..) ?_
   cases r with
   | none => simp [sJ] at ha; simp [nV, ha, yD]
   | some a =>
     simp [sJ] at ha
     simp only
     by_cases h1 : (a : Int) < day
     ·simp [nV, ha, h1, yD]
     ·by_cases h2 : (a : Int) = day
      ·subst h2
       simp [nV, ha, yD]
      ·rcases hn with hn | hn
       ·cases r2 with
        | none => simp [yD] at hn; simp [nV, ha, h1, h2, e1, hn, yD]
        | some k2 => simp [yD] at hn; simp [nV, ha, h1, h2, e1, hn, yD]
       ·have := hlast hn; simp at this
theorem ab6 {b : aW} (hm : months b ≠ 0) (day : Int) : L.call Bf [dB b, .int .i64 day] = some (.bg (yD (Jw b day))) := by
 have hl := (ahn hm (day := day) 3602 0 rfl).resolve_right (by decide)
 change L.loop [1, 2, 6] [4, 5] qR 1 [.int .i64 day, .loc 0 0, .int .i64 0] [.live (bC b)] = some (.ret, yD (Jw b day), [.live (bC b)]) at hl
 generalize Jw b day = r at *
 obtain ⟨i, m, fq, c, rd, n, s, e, ex⟩ := b
 unfold dB bC at *
 simp only at *
 refine aX acN rfl (acF ..) ?_
 cases r with
 | none => simp [yD] at hl; simp [JR, hl, yD]
 | some k => simp [yD] at hl; simp [JR, hl, yD]
theorem MX {b : aW} {day : Int} : ∀ {f k j : Nat}, xA b day f k = some j → j < k + f ∧ anch b j = some day.toNat ∧ 0 ≤ day
 | 0, k, j, h => by simp [xA] at h
 | f + 1, k, j, h => by
   simp only [xA] at h
   split at h <;> try (simp at h; done)
   rename_i a ha
   split at h <;> try (simp at h; done)
   split at h
   ·rename_i h2
    simp at h
    subst h
    refine ⟨by omega, ?_, by omega⟩
    rw [ha]; congr 1; omega
   ·have := MX h
    exact ⟨by omega, this.2⟩
def quasi (b : aW) (day : Int) : Option Nat := match Jw b day with
 | some k => if day ≤ b.issue then none else anch b (k + 1)
 | none => none
def WT (b : aW) (day : Int) : D := match chk b with
 | some e => .bg [.int .i64 0, dU (some e)]
 | none => jl (quasi b day)
theorem zo {b : aW} (hc : b.iM.length ≤ 1000000) (hr : b.iT.length ≤ 1000000) (day : Int) : L.call ny [dB b, .int .i64 day] = some (WT b day) := by
 have hck := qO hc hr
 by_cases hchk : chk b = none
 ·have hm := (iF hchk).2.1
  have hp := ab6 hm day
  have hps := fun {j} => @MX b day 3602 0 j
  have han := fun k (hk : k ≤ 100000) => tK b (k := k) hk
  unfold WT quasi
  rw [hchk] at hck ⊢
  simp only
  unfold Jw at *
  generalize xA b day 3602 0 = r at *
  simp [dU] at hck
  cases r with
  | none =>
    obtain ⟨i, m, fq, c, rd, n, s, e, ex⟩ := b
    unfold dB bC at *
    simp only at *
    simp [yD] at hp
    refine aX Ij rfl (Ih ..) ?_
    simp [tN, hck, hp, dI, jl]
  | some k =>
    have hk := (hps rfl).1
    have ha := han (k + 1) (by omega)
    have e1 : IntKind.i64.wrap ((k : Int) + 1) = ((k + 1 : Nat) : Int) := by rw [wrap64 _ (by omega)]; omega
    show L.call ny [dB b, .int .i64 day] = some (jl (if day ≤ b.issue then none else anch b (k + 1)))
    generalize anch b (k + 1) = r2 at *
    obtain ⟨i, m, fq, c, rd, n, s, e, ex⟩ := b
    unfold dB bC at *
    simp only at *
    simp [yD] at hp
    refine aX Ij rfl (Ih ..) ?_
    by_cases hd : day ≤ i
    ·simp [tN, hck, hp, hd, dI, jl]
    ·cases r2 with
     | none => simp [sJ] at ha; simp [tN, hck, hp, hd, e1, ha, dI, jl]
     | some a => simp [sJ] at ha; simp [tN, hck, hp, hd, e1, ha, jl]
 ·cases hce : chk b with
  | none => exact absurd hce hchk
  | some er =>
    obtain ⟨ec, es⟩ := er
    unfold WT
    rw [hce] at hck ⊢
    obtain ⟨i, m, fq, c, rd, n, s, e, ex⟩ := b
    unfold dB bC at *
    simp only at *
    simp [dU, gu] at hck
    refine aX Ij rfl (Ih ..) ?_
    simp [tN, hck, dU, gu]
def pD (p : Int × Int) : D := .agg [.int .i64 p.1, .int .i64 p.2]
def regular (b : aW) (p : Int × Int) : Bool := match chk b with
 | some _ => false
 | none => match quasi b p.2 with
   | some a => decide ((a : Int) = p.1)
   | none => false
theorem wJ {b : aW} (hc : b.iM.length ≤ 1000000) (hr : b.iT.length ≤ 1000000) (p : Int × Int) : L.call g_ [dB b, pD p] = some (.bool (regular b p)) := by
 have hq := zo hc hr p.2
 obtain ⟨p1, p2⟩ := p
 unfold regular pD
 unfold WT at hq
 simp only at hq ⊢
 generalize chk b = ck at *
 generalize quasi b p2 = q at *
 obtain ⟨i, m, fq, c, rd, n, s, e, ex⟩ := b
 unfold dB bC at *
 refine aX Y3 rfl (YR ..) ?_
 cases ck with
 | some er => obtain ⟨ec, es⟩ := er; simp [dU, gu] at hq; simp [yc, hq]
 | none =>
   cases q with
   | none => simp [jl] at hq; simp [yc, hq]
   | some a => simp [jl] at hq; simp [yc, hq]
end Go.Ev.Code
end
section
namespace Go.Ev.Code
open Go Go.Ev
theorem uo {y m d y' m' d' : Nat} (h : qX y m d) (h' : qX y' m' d') (hlt : y * 12 + m < y' * 12 + m') : dayOf y m d < dayOf y' m' d' := by
 have a1 := h.m1
 have a2 := h.m2
 have a3 := h'.m1
 have a4 := h'.m2
 have a5 := h.d1
 have a6 := h.d2
 have a7 := h'.d1
 have a8 := h.y1
 rcases Nat.lt_or_ge y y' with hy | hy
 ·have h1 := h.hi
  have h2 := h'.lo
  have h3 := Cb (x := y + 1) (y := y') (by omega) hy
  omega
 ·have hyy : y = y' := by omega
  subst hyy
  have hm : m < m' := by omega
  have h4 : dH y m = dH y (m - 1) + bP y m := by
   obtain ⟨q, rfl⟩ : ∃ q, m = q + 1 := ⟨m - 1, by omega⟩
   simp only [dH, Nat.add_sub_cancel]
  have h5 := IJ y (j := m) (k := m' - 1) (by omega)
  unfold dayOf
  omega
theorem OE {day n : Int} {e : Bool} {r : Nat} (h : kZ day n e = some r) : ∃ y m d, qX y m d ∧ r = dayOf y m d ∧
  ((y * 12 + m : Nat) : Int) = (((jq day.toNat).1 * 12 + (jq day.toNat).2.1 : Nat) : Int) + n := by
 unfold kZ at h
 split at h <;> try (simp at h; done)
 rename_i hd
 obtain ⟨y, m, d, hc, hd, ho⟩ := eF hd
 rw [ho] at h ⊢
 unfold Au at h
 split at h <;> try (simp at h; done)
 simp only at h ⊢
 have h1 := hc.y1
 have h3 := hc.m1
 have h12 : 1 ≤ ((((y * 12 + m - 1 : Nat) : Int) + n) % 12).toNat + 1 ∧ ((((y * 12 + m - 1 : Nat) : Int) + n) % 12).toNat + 1 ≤ 12 := by omega
 have hsum : (((((((y * 12 + m - 1 : Nat) : Int) + n) / 12).toNat * 12 + (((((y * 12 + m - 1 : Nat) : Int) + n) % 12).toNat + 1) : Nat)) : Int) = ((y * 12 + m : Nat) : Int) + n := by omega
 generalize ((((y * 12 + m - 1 : Nat) : Int) + n) % 12).toNat + 1 = m' at *
 generalize ((((y * 12 + m - 1 : Nat) : Int) + n) / 12).toNat = y' at *
 have hp := rP (y := y') h12.1 h12.2
 have hd1 := hc.d1
 obtain ⟨q1, q2⟩ := WL h12.1 h12.2 (by split <;> omega) (by split <;> omega) h
 exact ⟨_, _, _, q1, q2, hsum⟩
theorem Y8 {b : aW} (hm : months b ≠ 0) {j k a c : Nat} (hjk : j < k) (hj : anch b j = some a) (hk : anch b k = some c) : c < a := by
 obtain ⟨y, m, d, h1, h2, h3⟩ := OE hj
 obtain ⟨y', m', d', h1', h2', h3'⟩ := OE hk
 rw [h2, h2']
 refine uo h1' h1 ?_
 have hc := lC b
 rcases hc with h | h | h | h | h
 ·exact absurd h hm
 all_goals (rw [h] at h3 h3'; omega)
theorem VK {b : aW} {k a : Nat} (h : anch b k = some a) : bW a := nZ h
theorem Yd {b : aW} (hm : months b ≠ 0) {k a : Nat} (hk : anch b k = some a) (hall : ∀ i, i < k → (anch b i).isSome = true) (hk2 : k < 3602) : Jw b a = some k := by
 unfold Jw
 have : ∀ f i, i ≤ k → k < i + f → xA b a f i = some k := by
  intro f
  induction f with
  | zero => intro i h1 h2; omega
  | succ f ih =>
    intro i h1 h2
    simp only [xA]
    rcases Nat.lt_or_ge i k with h | h
    ·obtain ⟨c, hc⟩ := Option.isSome_iff_exists.1 (hall i h)
     have := Y8 hm h hc hk
     rw [hc]
     simp only
     rw [if_neg (by omega), if_neg (by omega)]
     exact ih (i + 1) h (by omega)
    ·have : i = k := by omega
     subst this
     rw [hk]
     simp
 exact this 3602 0 (by omega) (by omega)
theorem TF {b : aW} (hchk : chk b = none) {k a : Nat} (hk : k < fC b) (h1 : anch b k = some a) {p : Int} (h2 : ∃ c, anch b (k + 1) = some c ∧ (c : Int) = p) : regular b (p, (a : Int)) = true := by
 have hm := (iF hchk).2.1
 obtain ⟨g1, g2, g3⟩ := EL hm
 obtain ⟨c, hc, hcp⟩ := h2
 have hpl := Yd hm h1 (fun i hi => by
  obtain ⟨d, hd, _⟩ := g1 i (by omega)
  rw [hd]; rfl) (by omega)
 obtain ⟨d, hd, hdi⟩ := g1 k hk
 rw [h1] at hd
 simp at hd
 subst hd
 unfold regular quasi
 rw [hchk]
 simp only [hpl]
 rw [if_neg (by omega), hc]
 simp [hcp]
theorem anC {b : aW} (hchk : chk b = none) : fC b ≤ 199 := by
 obtain ⟨q1, hm, _⟩ := iF hchk
 obtain ⟨d1, d2, d3⟩ := AO q1
 obtain ⟨g1, g2, g3⟩ := EL hm
 have kp := Zq hchk
 have hper : Gl b ≤ 200 := by
  have h := hchk
  unfold chk at h
  split at h <;> try (simp at h; done)
  split at h <;> try (simp at h; done)
  split at h <;> try (simp at h; done)
  split at h <;> try (simp at h; done)
  split at h <;> try (simp at h; done)
  split at h <;> try (simp at h; done)
  split at h <;> try (simp at h; done)
  omega
 obtain ⟨d, hd, hdi⟩ := g1 (fC b - 1) (by omega)
 obtain ⟨y, m, dd, h1, h2, h3⟩ := OE hd
 obtain ⟨yi, mi, di, hci, hdi2, hoi⟩ := eF d1
 have hge : yi * 12 + mi ≤ y * 12 + m := by
  rcases Nat.lt_or_ge (y * 12 + m) (yi * 12 + mi) with h | h
  ·have := uo h1 hci h
   omega
  ·exact h
 have hb : mD b.issue b.dw = ((fC b - 1 : Nat) : Int) * months b + (((y * 12 + m : Nat) : Int) - ((yi * 12 + mi : Nat) : Int)) := by
  unfold mD
  rw [hoi]
  simp only
  rw [Int.neg_mul] at h3
  omega
 have hnn : ((fC b - 1 : Nat) : Int) * months b ≤ mD b.issue b.dw := by omega
 unfold Gl at hper
 generalize mD b.issue b.dw = bw at *
 have hc := lC b
 rcases hc with h | h | h | h | h
 ·exact absurd h hm
 all_goals
  rw [h] at hper hnn
  rw [Int.tdiv_eq_ediv_of_nonneg (by omega)] at hper
  omega
end Go.Ev.Code
end
