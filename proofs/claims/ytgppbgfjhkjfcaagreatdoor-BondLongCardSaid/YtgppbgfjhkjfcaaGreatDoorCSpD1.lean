/- A part of the proof of planLone_card, bondLong_card. -/
import Derived.Test.YtgppbgfjhkjfcaaGreatDoorCSpC
set_option linter.unusedVariables false
set_option linter.unusedSimpArgs false
section
namespace Go.Ev.Code
open Go Go.Ev
def leap (y : Nat) : Bool := decide (y % 4 = 0 ∧ (y % 100 ≠ 0 ∨ y % 400 = 0))
def bf (y m : Nat) : Nat := match m with
 | 2 => if leap y then 29 else 28
 | 4 | 6 | 9 | 11 => 30
 | 1 | 3 | 5 | 7 | 8 | 10 | 12 => 31
 | _ => 0
def dG (y : Nat) : Nat := 365 * (y - 1900) + ((y - 1) / 4 - (y - 1) / 100 + (y - 1) / 400) - 460
theorem J5 (a b : Nat) : Int.tdiv (a : Int) (b : Int) = ((a / b : Nat) : Int) := rfl
theorem BR (a b : Nat) : Int.tmod (a : Int) (b : Int) = ((a % b : Nat) : Int) := rfl
theorem yQ {y : Nat} (h1 : 1900 ≤ y) (h2 : y ≤ 1000000) : L.call nO [.int .i64 y] = some (.int .i64 (dG y)) := by
 have e1 : IntKind.i64.wrap ((y : Int) - 1) = ((y - 1 : Nat) : Int) := by rw [wrap64 _ (by omega)]; omega
 have e2 : IntKind.i64.wrap ((y : Int) - 1900) = ((y - 1900 : Nat) : Int) := by rw [wrap64 _ (by omega)]; omega
 have q1 := J5 (y - 1) 4
 have q2 := J5 (y - 1) 100
 have q3 := J5 (y - 1) 400
 simp at q1 q2 q3
 have hb : dG y = 365 * (y - 1900) + ((y - 1) / 4 - (y - 1) / 100 + (y - 1) / 400) - 460 := rfl
 refine aO aa6 rfl (aaE ..) ?_
 simp (disch := omega) [Qc, e1, e2, q1, q2, q3, wrap64]
 omega
theorem acQ {y : Nat} (h : y ≤ 1000000) : L.call xX [.int .i64 y] = some (.bool (leap y)) := by
 have q1 := BR y 4
 have q2 := BR y 100
 have q3 := BR y 400
 simp at q1 q2 q3
 refine aO aeD rfl (aeu ..) ?_
 unfold leap
 by_cases h4 : y % 4 = 0
 ·by_cases h100 : y % 100 = 0
  ·by_cases h400 : y % 400 = 0
   ·simp (disch := omega) [zW, q1, q2, q3, h4, h100, h400]
    have : (y : Int) % 4 = 0 := by omega
    have : (y : Int) % 100 = 0 := by omega
    have : (y : Int) % 400 = 0 := by omega
    simp [*]
   ·have : (y : Int) % 4 = 0 := by omega
    have : (y : Int) % 100 = 0 := by omega
    have : ¬ (y : Int) % 400 = 0 := by omega
    simp (disch := omega) [zW, q1, q2, q3, *]
  ·have : (y : Int) % 4 = 0 := by omega
   have : ¬ (y : Int) % 100 = 0 := by omega
   simp (disch := omega) [zW, q1, q2, q3, *]
 ·have : ¬ (y : Int) % 4 = 0 := by omega
  simp (disch := omega) [zW, q1, q2, q3, *]
end Go.Ev.Code
end
section
namespace Go.Ev.Code
open Go Go.Ev
theorem ni {y m : Nat} (h : y ≤ 1000000) (h1 : 1 ≤ m) (h2 : m ≤ 12) : L.call fO [.int .i64 y, .int .i64 m] = some (.int .i64 (bf y m)) := by
 have hl := acQ h
 refine aO aa5 rfl (aaD ..) ?_
 have : m = 1 ∨ m = 2 ∨ m = 3 ∨ m = 4 ∨ m = 5 ∨ m = 6 ∨ m = 7 ∨ m = 8 ∨ m = 9 ∨ m = 10 ∨ m = 11 ∨ m = 12 := by omega
 rcases this with rfl | rfl | rfl | rfl | rfl | rfl | rfl | rfl | rfl | rfl | rfl | rfl
 case inr.inl =>
  cases hy : leap y <;> rw [hy] at hl <;> simp [GZ, bf, hl, hy]
 all_goals simp [GZ, bf]
theorem OV (n : Int) : L.call Cc [.int .i64 n] = some (.bool (decide (0 ≤ n ∧ n ≤ 109572))) := by
 refine aO ahV rfl (ahN ..) ?_
 by_cases h : 0 ≤ n
 ·by_cases h' : n ≤ 109572 <;> simp [Tq, h, h']
 ·simp [Tq, h]
def TJ (n : Int) : Int := if 0 ≤ n ∧ n ≤ 109572 then (n + 1) % 7 else -1
theorem xK (n : Int) : L.call dK [.int .i64 n] = some (.int .i64 (TJ n)) := by
 have h := OV n
 refine aO Yt rfl (Yh ..) ?_
 unfold TJ
 by_cases hn : 0 ≤ n ∧ n ≤ 109572
 ·rw [decide_eq_true hn] at h
  have e : Int.tmod (n + 1) 7 = (n + 1) % 7 := Int.tmod_eq_emod_of_nonneg (by omega)
  simp (disch := omega) [ES, h, wrap64, hn, e]
 ·rw [decide_eq_false hn] at h
  simp [ES, h, hn]
def bU (y : Nat) : Nat → Nat
 | 0 => 0
 | k + 1 => bU y k + bf y (k + 1)
theorem xq (y m : Nat) : bf y m ≤ 31 := by unfold bf; split <;> (try split) <;> omega
theorem Rl (y k : Nat) : bU y k ≤ 31 * k := by
 induction k with
 | zero => simp [bU]
 | succ k ih => have := xq y (k + 1); simp only [bU]; omega
theorem Jj {y : Nat} (h : y ≤ 2200) : dG y ≤ 109573 := by unfold dG; omega
def jT (y m d : Nat) : D := .agg [.int .i64 y, .int .i64 m, .int .i64 d]
theorem ami {y m d A : Nat} (hy : y ≤ 2200) (hm : m ≤ 12) (hA : A ≤ 1000000) : ∀ (j k : Nat), k + j = m → 1 ≤ k →
  L.loop [1, 4, 5] [4] vT 1 [.loc 0 0, .int .i64 ((A + bU y (k - 1) : Nat) : Int), .int .i64 k] [.live [.int .i64 y, .int .i64 m, .int .i64 d]] =
    some (.exit 0, [.int .i64 ((A + bU y (m - 1) : Nat) : Int)], [.live [.int .i64 y, .int .i64 m, .int .i64 d]]) := by
 intro j
 induction j with
 | zero =>
   intro k hk h1
   have : k = m := by omega
   subst this
   generalize A + bU y (k - 1) = B
   refine aJ (QS ..) ?_
   simp [JW]
 | succ j ih =>
   intro k hk h1
   have hl := ni (y := y) (m := k) (by omega) h1 (by omega)
   have hn := ih (k + 1) (by omega) (by omega)
   have hc : A + bU y (k + 1 - 1) = A + bU y (k - 1) + bf y k := by
    rw [Nat.add_sub_cancel]
    obtain ⟨q, rfl⟩ : ∃ q, k = q + 1 := ⟨k - 1, by omega⟩
    simp only [bU, Nat.add_sub_cancel]; omega
   rw [hc] at hn
   have hb := Rl y (k - 1)
   have hb2 := xq y k
   have hlt : k < m := by omega
   have hBl : A + bU y (k - 1) ≤ 1000372 := by omega
   generalize A + bU y (k - 1) = B at *
   generalize A + bU y (m - 1) = C at *
   generalize bf y k = l at *
   have e1 : IntKind.i64.wrap ((B : Int) + l) = ((B + l : Nat) : Int) := by rw [wrap64 _ (by omega)]; omega
   have e2 : IntKind.i64.wrap ((k : Int) + 1) = ((k + 1 : Nat) : Int) := by rw [wrap64 _ (by omega)]; omega
   generalize B + l = B2 at *
   generalize k + 1 = k2 at *
   refine aJ (QS ..) ?_
   simp (disch := omega) [JW, hl, hlt, e1, e2, hn]
def dayOf (y m d : Nat) : Nat := dG y + bU y (m - 1) + d - 1
theorem Xe {y m d : Nat} (h1 : 1900 ≤ y) (h2 : y ≤ 2199) (hm : 1 ≤ m) (hm2 : m ≤ 12) (hd : 1 ≤ d) (hd2 : d ≤ bf y m) :
  L.call qM [jT y m d] = some (.aS [.int .i64 (dayOf y m d), .aB]) := by
 have hl := ni (y := y) (m := m) (by omega) hm hm2
 have hb := yQ h1 (by omega)
 have hlp := ami (y := y) (m := m) (d := d) (A := dG y + d - 1) (by omega) hm2 (by have := Jj (y := y) (by omega); have := xq y m; omega) (m - 1) 1 (by omega) (by omega)
 simp only [Nat.sub_self, bU, Nat.add_zero] at hlp
 have hbb := Jj (y := y) (by omega)
 have hml := xq y m
 have hC : dG y + d - 1 + bU y (m - 1) = dayOf y m d := by unfold dayOf; omega
 rw [hC, show ((1 : Nat) : Int) = 1 from rfl] at hlp
 have g1 : ¬ (y : Int) < 1900 := by omega
 have g2 : ¬ (2199 : Int) < y := by omega
 have g3 : ¬ (d : Int) < 1 := by omega
 generalize bf y m = l at *
 have g4 : ¬ (l : Int) < d := by omega
 have g5 : ¬ l < d := by omega
 have g6 : ¬ 2199 < y := by omega
 generalize dayOf y m d = r at *
 generalize dG y = b at *
 have e1 : IntKind.i64.wrap ((b : Int) + d) = ((b + d : Nat) : Int) := by rw [wrap64 _ (by omega)]; omega
 have e2 : IntKind.i64.wrap (((b + d : Nat) : Int) - 1) = ((b + d - 1 : Nat) : Int) := by rw [wrap64 _ (by omega)]; omega
 generalize b + d - 1 = b1 at *
 generalize b + d = b2 at *
 refine aO ZE rfl (Zz ..) ?_
 unfold jT
 simp (disch := omega) [MK, hl, hb, g1, g2, g3, g4, g5, g6, e1, e2, hlp]
end Go.Ev.Code
end
section
namespace Go.Ev.Code
open Go Go.Ev
theorem aks (y : Nat) : leap y = true ↔ (y % 4 = 0 ∧ (y % 100 ≠ 0 ∨ y % 400 = 0)) := by unfold leap; simp
theorem agN (y : Nat) : bU y 12 = if leap y then 366 else 365 := by
 cases h : leap y <;> simp [bU, bf, h]
theorem adZ {z k : Nat} (hk : 0 < k) : (z + 1) / k = z / k + (if (z + 1) % k = 0 then 1 else 0) := by
 rw [Nat.succ_div]
 by_cases h : (z + 1) % k = 0
 ·rw [if_pos h, if_pos (Nat.dvd_of_mod_eq_zero h)]
 ·rw [if_neg h, if_neg (fun hd => h (Nat.mod_eq_zero_of_dvd hd))]
theorem Bz {y : Nat} (h : 1900 ≤ y) : dG (y + 1) = dG y + bU y 12 := by
 rw [agN]
 have hl := aks y
 obtain ⟨z, rfl⟩ : ∃ z, y = z + 1 := ⟨y - 1, by omega⟩
 by_cases hz : z = 1899
 ·subst hz; decide
 have hz2 : 1900 ≤ z := by omega
 unfold dG
 have h4 := adZ (z := z) (k := 4) (by decide)
 have h100 := adZ (z := z) (k := 100) (by decide)
 have h400 := adZ (z := z) (k := 400) (by decide)
 have b1 : z / 100 ≤ z / 4 := Nat.div_le_div_left (by decide) (by decide)
 have b2 : 474 ≤ z / 4 := by omega
 have b3 : (z + 1) / 100 ≤ (z + 1) / 4 := Nat.div_le_div_left (by decide) (by decide)
 have b4 : 455 ≤ z / 4 - z / 100 := by omega
 have i1 : (z + 1) % 400 = 0 → (z + 1) % 100 = 0 := fun h => by omega
 have i2 : (z + 1) % 100 = 0 → (z + 1) % 4 = 0 := fun h => by omega
 rw [Nat.add_sub_cancel, Nat.add_sub_cancel]
 generalize (z + 1) % 4 = r4 at *
 generalize (z + 1) % 100 = r100 at *
 generalize (z + 1) % 400 = r400 at *
 generalize (z + 1) / 4 = p4 at *
 generalize (z + 1) / 100 = p100 at *
 generalize (z + 1) / 400 = p400 at *
 generalize z / 4 = s4 at *
 generalize z / 100 = s100 at *
 generalize z / 400 = s400 at *
 by_cases c4 : r4 = 0
 ·rw [if_pos c4] at h4
  by_cases c100 : r100 = 0
  ·rw [if_pos c100] at h100
   by_cases c400 : r400 = 0
   ·rw [if_pos c400] at h400
    rw [if_pos (hl.2 ⟨c4, .inr c400⟩)]; omega
   ·rw [if_neg c400] at h400
    rw [if_neg (fun h => by rcases (hl.1 h).2 with h | h <;> contradiction)]; omega
  ·rw [if_neg c100] at h100
   have c400 : ¬ r400 = 0 := fun h => c100 (i1 h)
   rw [if_neg c400] at h400
   rw [if_pos (hl.2 ⟨c4, .inl c100⟩)]; omega
 ·have c100 : ¬ r100 = 0 := fun h => c4 (i2 h)
  have c400 : ¬ r400 = 0 := fun h => c100 (i1 h)
  rw [if_neg c4] at h4
  rw [if_neg c100] at h100
  rw [if_neg c400] at h400
  rw [if_neg (fun h => c4 (hl.1 h).1)]; omega
theorem Jp (y : Nat) {j k : Nat} (h : j ≤ k) : bU y j ≤ bU y k := by
 induction k with
 | zero => have : j = 0 := by omega
           rw [this]; exact Nat.le_refl _
 | succ k ih =>
   rcases Nat.lt_or_ge k j with h1 | h1
   ·have : j = k + 1 := by omega
    rw [this]; exact Nat.le_refl _
   ·have := ih h1; simp only [bU]; omega
theorem Et {x y : Nat} (h : 1900 ≤ x) (hxy : x ≤ y) : dG x ≤ dG y := by
 induction y with
 | zero => omega
 | succ y ih =>
   rcases Nat.lt_or_ge y x with h1 | h1
   ·have : x = y + 1 := by omega
    rw [this]; exact Nat.le_refl _
   ·have := ih h1; rw [Bz (by omega)]; omega
structure uO (y m d : Nat) : Prop where
 y1 : 1900 ≤ y
 y2 : y ≤ 2199
 m1 : 1 ≤ m
 m2 : m ≤ 12
 d1 : 1 ≤ d
 d2 : d ≤ bf y m
theorem uO.lo {y m d : Nat} (h : uO y m d) : dG y ≤ dayOf y m d := by have := h.d1; unfold dayOf; omega
theorem uO.hi {y m d : Nat} (h : uO y m d) : dayOf y m d < dG (y + 1) := by
 have h1 := h.d1
 have h2 := h.d2
 have h3 := h.m1
 have h5 := h.m2
 rw [Bz h.y1]
 have h4 := Jp y h5
 have h6 : bU y m = bU y (m - 1) + bf y m := by
  obtain ⟨q, rfl⟩ : ∃ q, m = q + 1 := ⟨m - 1, by omega⟩
  simp only [bU, Nat.add_sub_cancel]
 unfold dayOf; omega
theorem uO.le {y m d : Nat} (h : uO y m d) : dayOf y m d ≤ 109572 := by
 have h1 := h.hi
 have h2 := h.y1
 have h3 := h.y2
 have := Et (x := y + 1) (y := 2200) (by omega) (by omega)
 have h4 : dG 2200 = 109573 := by decide
 omega
theorem afJ {y : Nat} (h : 1900 ≤ y) : dG y ≤ 366 * (y - 1900) := by
 unfold dG; omega
theorem ain {day y : Nat} (hd : day ≤ 109572) (hy1 : dG y ≤ day) (hy2 : day < dG (y + 1)) (hy3 : y ≤ 2199) : ∀ (j x : Nat), x + j = y → 1900 ≤ x →
  L.loop [0, 2, 4] [0, 2, 4] oU 2 [.int .i64 day, .loc 0 0, .loc 1 0] [.live [.int .i64 0, .int .i64 0, .int .i64 0], .live [.int .i64 x, .int .i64 1, .int .i64 0]] =
    some (.exit 0, [.int .i64 day, .loc 0 0, .loc 1 0], [.live [.int .i64 0, .int .i64 0, .int .i64 0], .live [.int .i64 y, .int .i64 1, .int .i64 0]]) := by
 intro j
 induction j with
 | zero =>
   intro x hx h1
   have : x = y := by omega
   subst this
   have hb := yQ (y := x + 1) (by omega) (by omega)
   have e1 : IntKind.i64.wrap ((x : Int) + 1) = ((x + 1 : Nat) : Int) := by rw [wrap64 _ (by omega)]; omega
   generalize dG (x + 1) = b at *
   generalize x + 1 = x2 at *
   have g : ¬ b ≤ day := by omega
   have g' : ¬ (b : Int) ≤ day := by omega
   refine aJ (Kv ..) ?_
   simp (disch := omega) [DY, e1, hb, g, g']
 | succ j ih =>
   intro x hx h1
   have hb := yQ (y := x + 1) (by omega) (by omega)
   have hn := ih (x + 1) (by omega) (by omega)
   have hmo := Et (x := x + 1) (y := y) (by omega) (by omega)
   have e1 : IntKind.i64.wrap ((x : Int) + 1) = ((x + 1 : Nat) : Int) := by rw [wrap64 _ (by omega)]; omega
   generalize dG (x + 1) = b at *
   generalize x + 1 = x2 at *
   have g : b ≤ day := by omega
   have g' : (b : Int) ≤ day := by omega
   refine aJ (Kv ..) ?_
   simp (disch := omega) [DY, e1, hb, g, g', hn]
theorem aio {y m d : Nat} (h : uO y m d) : ∀ (j k : Nat), k + j = m → 1 ≤ k →
  L.loop [2, 4, 5] [2, 4, 5] oV 2 [.loc 0 0, .loc 1 0, .int .i64 ((bU y (m - 1) + (d - 1) - bU y (k - 1) : Nat) : Int)] [.live [.int .i64 0, .int .i64 0, .int .i64 0], .live [.int .i64 y, .int .i64 k, .int .i64 0]] =
    some (.exit 2, [.loc 0 0, .loc 1 0, .int .i64 ((d - 1 : Nat) : Int)], [.live [.int .i64 0, .int .i64 0, .int .i64 0], .live [.int .i64 y, .int .i64 m, .int .i64 0]]) := by
 have h1 := h.d1
 have h2 := h.d2
 have h3 := h.m2
 have h4 := h.y2
 have h5 := xq y m
 intro j
 induction j with
 | zero =>
   intro k hk hk1
   have : k = m := by omega
   subst this
   have hl := ni (y := y) (m := k) (by omega) hk1 h3
   rw [show bU y (k - 1) + (d - 1) - bU y (k - 1) = d - 1 by omega]
   generalize bf y k = l at *
   have g : ¬ (l : Int) ≤ ((d - 1 : Nat) : Int) := by omega
   have g' : ¬ l ≤ d - 1 := by omega
   generalize d - 1 = d1 at *
   refine aJ (Kw ..) ?_
   simp (disch := omega) [DZ, hl, g, g']
 | succ j ih =>
   intro k hk hk1
   have hl := ni (y := y) (m := k) (by omega) hk1 (by omega)
   have hn := ih (k + 1) (by omega) (by omega)
   have hc : bU y (k + 1 - 1) = bU y (k - 1) + bf y k := by
    rw [Nat.add_sub_cancel]
    obtain ⟨q, rfl⟩ : ∃ q, k = q + 1 := ⟨k - 1, by omega⟩
    simp only [bU, Nat.add_sub_cancel]
   have hmo := Jp y (j := k) (k := m - 1) (by omega)
   rw [Nat.add_sub_cancel] at hc hn
   rw [hc] at hmo hn
   have hub := Rl y (m - 1)
   have hub2 : bU y (m - 1) + (d - 1) ≤ 1000 := by omega
   have hmo2 : bU y (k - 1) + bf y k ≤ bU y (m - 1) + (d - 1) := by omega
   generalize bU y (m - 1) + (d - 1) = T at *
   generalize bf y k = l at *
   generalize bU y (k - 1) = c at *
   have g : l ≤ T - c := by omega
   have g' : (l : Int) ≤ ((T - c : Nat) : Int) := by omega
   have e1 : IntKind.i64.wrap (((T - c : Nat) : Int) - l) = ((T - (c + l) : Nat) : Int) := by rw [wrap64 _ (by omega)]; omega
   have e2 : IntKind.i64.wrap ((k : Int) + 1) = ((k + 1 : Nat) : Int) := by rw [wrap64 _ (by omega)]; omega
   generalize T - (c + l) = r2 at *
   generalize T - c = r1 at *
   generalize k + 1 = k2 at *
   refine aJ (Kw ..) ?_
   simp (disch := omega) [DZ, hl, g, g', e1, e2, hn]
theorem oW {y m d : Nat} (h : uO y m d) : L.call eF [.int .i64 (dayOf y m d)] = some (.aS [jT y m d, .aB]) := by
 have hle := h.le
 have hlo := h.lo
 have hhi := h.hi
 have hd1 := h.d1
 have hd2 := h.d2
 have hml := xq y m
 have hy := h.y2
 have hm2 := h.m2
 have hb := yQ h.y1 (by omega)
 have h366 := afJ (y := y + 1) (by have := h.y1; omega)
 have l1 := ain hle hlo hhi h.y2 (y - (1900 + dayOf y m d / 366)) (1900 + dayOf y m d / 366) (by omega) (by omega)
 have l2 := aio h (m - 1) 1 (by have := h.m1; omega) (by omega)
 have his := OV (dayOf y m d)
 rw [decide_eq_true (by omega)] at his
 have hT : dayOf y m d - dG y = bU y (m - 1) + (d - 1) := by unfold dayOf; omega
 simp only [Nat.sub_self, bU, Nat.sub_zero] at l2
 rw [← hT, show ((1 : Nat) : Int) = 1 from rfl] at l2
 have hbb := Jj (y := y) (by omega)
 have q1 := J5 (dayOf y m d) 366
 simp at q1
 generalize dayOf y m d = day at *
 have e1 : IntKind.i64.wrap ((day : Int) / 366) = ((day / 366 : Nat) : Int) := by rw [wrap64 _ (by omega)]; omega
 have e2 : IntKind.i64.wrap (1900 + ((day / 366 : Nat) : Int)) = ((1900 + day / 366 : Nat) : Int) := by rw [wrap64 _ (by omega)]; omega
 have e2' : IntKind.i64.wrap (1900 + (day : Int) / 366) = ((1900 + day / 366 : Nat) : Int) := by rw [wrap64 _ (by omega)]; omega
 generalize 1900 + day / 366 = x at *
 generalize dG y = b at *
 have e3 : IntKind.i64.wrap ((day : Int) - b) = ((day - b : Nat) : Int) := by rw [wrap64 _ (by omega)]; omega
 generalize day - b = r at *
 have e4 : IntKind.i64.wrap (((d - 1 : Nat) : Int) + 1) = (d : Int) := by rw [wrap64 _ (by omega)]; omega
 generalize d - 1 = dd at *
 refine aO QZ rfl (QO ..) ?_
 unfold jT
 simp (disch := omega) [JV, his, q1, e1, e2, e2', l1, hb, e3, l2, e4]
theorem NW {n : Int} (h : ¬ (0 ≤ n ∧ n ≤ 109572)) : L.call eF [.int .i64 n] = some (.aS [jT 0 0 0, xZ 4]) := by
 have his := OV n
 rw [decide_eq_false h] at his
 refine aO QZ rfl (QO ..) ?_
 unfold jT
 simp (disch := omega) [JV, his, bV]
theorem ang {day : Nat} (h : day ≤ 109572) : ∃ y m d, uO y m d ∧ dayOf y m d = day := by
 have hy : ∃ y, 1900 ≤ y ∧ dG y ≤ day ∧ day < dG (y + 1) := by
  have : ∀ k, day < dG (1900 + k) → ∃ y, 1900 ≤ y ∧ dG y ≤ day ∧ day < dG (y + 1) := by
   intro k
   induction k with
   | zero => intro h1; have : dG 1900 = 0 := by decide
             rw [Nat.add_zero, this] at h1; omega
   | succ k ih =>
     intro h1
     rcases Nat.lt_or_ge day (dG (1900 + k)) with h2 | h2
     ·exact ih h2
     ·exact ⟨1900 + k, by omega, h2, h1⟩
  exact this 300 (by have : dG (1900 + 300) = 109573 := by decide
                     omega)
 obtain ⟨y, h1, h2, h3⟩ := hy
 have hm : ∃ m, 1 ≤ m ∧ m ≤ 12 ∧ bU y (m - 1) ≤ day - dG y ∧ day - dG y < bU y m := by
  have : ∀ k, k ≤ 12 → day - dG y < bU y k → ∃ m, 1 ≤ m ∧ m ≤ 12 ∧ bU y (m - 1) ≤ day - dG y ∧ day - dG y < bU y m := by
   intro k
   induction k with
   | zero => intro _ h1; simp [bU] at h1
   | succ k ih =>
     intro hk h1
     rcases Nat.lt_or_ge (day - dG y) (bU y k) with h2 | h2
     ·exact ih (by omega) h2
     ·exact ⟨k + 1, by omega, hk, by rw [Nat.add_sub_cancel]; exact h2, h1⟩
  rw [Bz h1] at h3
  exact this 12 (by omega) (by omega)
 obtain ⟨m, m1, m2, m3, m4⟩ := hm
 have h6 : bU y m = bU y (m - 1) + bf y m := by
  obtain ⟨q, rfl⟩ : ∃ q, m = q + 1 := ⟨m - 1, by omega⟩
  simp only [bU, Nat.add_sub_cancel]
 have hy2 : y ≤ 2199 := by
  rcases Nat.lt_or_ge 2199 y with hh | hh
  ·have := Et (x := 2200) (y := y) (by omega) hh
   have h4 : dG 2200 = 109573 := by decide
   omega
  ·exact hh
 refine ⟨y, m, day - dG y - bU y (m - 1) + 1, ⟨h1, hy2, m1, m2, by omega, by omega⟩, ?_⟩
 unfold dayOf; omega
end Go.Ev.Code
end
section
namespace Go.Ev.Code
open Go Go.Ev
theorem aeU {y m d : Nat} (h : ¬ (1900 ≤ y ∧ y ≤ 2199)) (hy : y ≤ 1000000) (h1 : 1 ≤ m) (h2 : m ≤ 12) (hd : 1 ≤ d) : L.call qM [jT y m d] = some (.aS [.int .i64 0, xZ 4]) := by
 refine aO ZE rfl (Zz ..) ?_
 unfold jT
 by_cases g1 : y < 1900
 ·have g1' : (y : Int) < 1900 := by omega
  simp (disch := omega) [MK, g1, g1', bV]
 ·have g1' : ¬ (y : Int) < 1900 := by omega
  have g2 : 2199 < y := by omega
  have g2' : (2199 : Int) < y := by omega
  simp (disch := omega) [MK, g1, g1', g2, g2', bV]
theorem yj {y m : Nat} (h1 : 1 ≤ m) (h2 : m ≤ 12) : 28 ≤ bf y m := by
 have : m = 1 ∨ m = 2 ∨ m = 3 ∨ m = 4 ∨ m = 5 ∨ m = 6 ∨ m = 7 ∨ m = 8 ∨ m = 9 ∨ m = 10 ∨ m = 11 ∨ m = 12 := by omega
 rcases this with rfl | rfl | rfl | rfl | rfl | rfl | rfl | rfl | rfl | rfl | rfl | rfl <;> simp only [bf] <;> (try split) <;> omega
def jo : Option Nat → D
 | some n => .aS [.int .i64 n, .aB]
 | none => .aS [.int .i64 0, xZ 4]
def oH (y m d : Nat) : Option Nat := if 1900 ≤ y ∧ y ≤ 2199 then some (dayOf y m d) else none
theorem Xf {y m d : Nat} (hy : y ≤ 1000000) (h1 : 1 ≤ m) (h2 : m ≤ 12) (hd : 1 ≤ d) (hd2 : d ≤ bf y m) : L.call qM [jT y m d] = some (jo (oH y m d)) := by
 unfold oH
 split
 ·rename_i h; exact Xe h.1 h.2 h1 h2 hd hd2
 ·rename_i h; exact aeU h hy h1 h2 hd
theorem adF {y m : Nat} (hy : y ≤ 1000000) (h1 : 1 ≤ m) (h2 : m ≤ 12) : L.call tX [.int .i64 y, .int .i64 m] = some (jo (oH y m (bf y m))) := by
 have hl := ni hy h1 h2
 have hp := yj (y := y) h1 h2
 have h := Xf hy h1 h2 (d := bf y m) (by omega) (Nat.le_refl _)
 unfold jT at h
 generalize hr : oH y m (bf y m) = r at *
 generalize bf y m = l at *
 refine aO aeF rfl (aew ..) ?_
 cases r <;> simp [Nr, hl, h, jo] at h ⊢ <;> simp [Nr, hl, h, jo]
theorem abM {y m d : Nat} (h : uO y m d) : L.call nR [.int .i64 (dayOf y m d)] = some (.bool (decide (d = bf y m))) := by
 have hc := oW h
 have hl := ni (y := y) (m := m) (by have := h.y2; omega) h.m1 h.m2
 unfold jT at hc
 generalize dayOf y m d = day at *
 generalize bf y m = l at *
 refine aO acu rfl (ach ..) ?_
 have : ((d : Int) = l) ↔ d = l := by omega
 by_cases hdl : d = l <;> simp [Tt, hc, hl, hdl, this]
def Eo (y m d : Nat) (n : Int) (e : Bool) : Option Nat :=
 if -3600 ≤ n ∧ n ≤ 3600 then
  (let a := ((y * 12 + m - 1 : Nat) : Int) + n
   let y' := (a / 12).toNat
   let m' := (a % 12).toNat + 1
   oH y' m' (if e = true ∧ d = bf y m then bf y' m' else min d (bf y' m')))
 else none
set_option maxHeartbeats 1000000 in
theorem adE {y m d : Nat} (h : uO y m d) (n : Int) (e : Bool) : L.call kJ [.int .i64 (dayOf y m d), .int .i64 n, .bool e] = some (jo (Eo y m d n e)) := by
 have hc := oW h
 have hla := abM h
 unfold jT at hc
 have h1 := h.y1
 have h2 := h.y2
 have h3 := h.m1
 have h4 := h.m2
 have h5 := h.d1
 have h6 := h.d2
 by_cases hn : -3600 ≤ n ∧ n ≤ 3600
 ·obtain ⟨a, ha⟩ : ∃ a : Nat, ((y * 12 + m - 1 : Nat) : Int) + n = a := ⟨(((y * 12 + m - 1 : Nat) : Int) + n).toNat, by omega⟩
  have ha2 : a ≤ 1000000 := by omega
  have e1 : IntKind.i64.wrap ((y : Int) * 12) = ((y * 12 : Nat) : Int) := by rw [wrap64 _ (by omega)]; omega
  have e2 : IntKind.i64.wrap (((y * 12 : Nat) : Int) + m) = ((y * 12 + m : Nat) : Int) := by rw [wrap64 _ (by omega)]; omega
  have e3 : IntKind.i64.wrap (((y * 12 + m : Nat) : Int) - 1) = ((y * 12 + m - 1 : Nat) : Int) := by rw [wrap64 _ (by omega)]; omega
  have e4 : IntKind.i64.wrap (((y * 12 + m - 1 : Nat) : Int) + n) = (a : Int) := by rw [ha, wrap64 _ (by omega)]
  have q1 := J5 a 12
  have q2 := BR a 12
  simp at q1 q2
  have e5 : IntKind.i64.wrap ((a : Int) / 12) = ((a / 12 : Nat) : Int) := by rw [wrap64 _ (by omega)]; omega
  have e6 : IntKind.i64.wrap ((a : Int) % 12 + 1) = ((a % 12 + 1 : Nat) : Int) := by rw [wrap64 _ (by omega)]; omega
  have hA : Eo y m d n e = oH (a / 12) (a % 12 + 1) (if e = true ∧ d = bf y m then bf (a / 12) (a % 12 + 1) else min d (bf (a / 12) (a % 12 + 1))) := by
   unfold Eo
   rw [if_pos hn]
   simp only [ha]
   have : ((a : Int) / 12).toNat = a / 12 := by omega
   have : ((a : Int) % 12).toNat = a % 12 := by omega
   simp only [*]
  rw [hA]
  have hy' : a / 12 ≤ 1000000 := by omega
  have hm' : 1 ≤ a % 12 + 1 ∧ a % 12 + 1 ≤ 12 := by omega
  have hEnd := adF hy' hm'.1 hm'.2
  have hLen := ni hy' hm'.1 hm'.2
  have hp := yj (y := a / 12) hm'.1 hm'.2
  have hmk := Xf hy' hm'.1 hm'.2 (d := min d (bf (a / 12) (a % 12 + 1))) (by omega) (by omega)
  unfold jT at hmk
  have hmin : min (d : Int) (bf (a / 12) (a % 12 + 1)) = ((min d (bf (a / 12) (a % 12 + 1)) : Nat) : Int) := by omega
  have hg1 : ¬ n < -3600 := by omega
  have hg2 : ¬ 3600 < n := by omega
  generalize y * 12 + m - 1 = b1 at *
  generalize y * 12 + m = b2 at *
  generalize y * 12 = b3 at *
  generalize a % 12 + 1 = m' at *
  generalize a / 12 = y' at *
  generalize dayOf y m d = day at *
  generalize bf y m = lm at *
  generalize hl' : bf y' m' = l' at *
  by_cases hE : e = true ∧ d = lm
  ·obtain ⟨rfl, hdl⟩ := hE
   rw [if_pos ⟨rfl, hdl⟩]
   rw [decide_eq_true hdl] at hla
   generalize oH y' m' l' = r at *
   cases r with
   | none =>
     simp [jo] at hEnd
     refine aO wZ rfl (wY ..) ?_
     simp (config := {maxSteps := 1000000}) [lu, hc, hg1, hg2, e1, e2, e3, e4, q1, q2, e5, e6, hla, hEnd, jo]
   | some r =>
     simp [jo] at hEnd
     refine aO wZ rfl (wY ..) ?_
     simp (config := {maxSteps := 1000000}) [lu, hc, hg1, hg2, e1, e2, e3, e4, q1, q2, e5, e6, hla, hEnd, jo]
  ·rw [if_neg hE]
   generalize min d l' = dm at *
   have hla' : e = true → L.call nR [.int .i64 day] = some (.bool false) := fun he => by
    rw [hla, decide_eq_false (fun h => hE ⟨he, h⟩)]
   generalize oH y' m' dm = r at *
   cases r with
   | none =>
     simp [jo] at hmk
     refine aO wZ rfl (wY ..) ?_
     cases e with
     | false => simp (config := {maxSteps := 1000000}) [lu, hc, hg1, hg2, e1, e2, e3, e4, q1, q2, e5, e6, hLen, hmin, hmk, jo]
     | true => simp (config := {maxSteps := 1000000}) [lu, hc, hg1, hg2, e1, e2, e3, e4, q1, q2, e5, e6, hla' rfl, hLen, hmin, hmk, jo]
   | some r =>
     simp [jo] at hmk
     refine aO wZ rfl (wY ..) ?_
     cases e with
     | false => simp (config := {maxSteps := 1000000}) [lu, hc, hg1, hg2, e1, e2, e3, e4, q1, q2, e5, e6, hLen, hmin, hmk, jo]
     | true => simp (config := {maxSteps := 1000000}) [lu, hc, hg1, hg2, e1, e2, e3, e4, q1, q2, e5, e6, hla' rfl, hLen, hmin, hmk, jo]
 ·have hA : Eo y m d n e = none := by unfold Eo; rw [if_neg hn]
  rw [hA]
  generalize dayOf y m d = day at *
  refine aO wZ rfl (wY ..) ?_
  by_cases hg1 : n < -3600
  ·simp (config := {maxSteps := 1000000}) [lu, hc, hg1, bV, jo]
  ·have hg2 : 3600 < n := by omega
   simp (config := {maxSteps := 1000000}) [lu, hc, hg1, hg2, bV, jo]
theorem abL {day : Int} (h : ¬ (0 ≤ day ∧ day ≤ 109572)) (n : Int) (e : Bool) : L.call kJ [.int .i64 day, .int .i64 n, .bool e] = some (.aS [.int .i64 0, xZ 4]) := by
 have hc := NW h
 unfold jT at hc
 refine aO wZ rfl (wY ..) ?_
 simp at hc
 simp (config := {maxSteps := 1000000}) [lu, hc]
theorem V7 {y m d y' m' d' : Nat} (h : uO y m d) (h' : uO y' m' d') : L.call gJ [.int .i64 (dayOf y m d), .int .i64 (dayOf y' m' d')] = some (.int .i64 (((y' * 12 + m' : Nat) : Int) - ((y * 12 + m : Nat) : Int))) := by
 have hc := oW h
 have hc' := oW h'
 unfold jT at hc hc'
 have h1 := h.y1
 have h2 := h.y2
 have h3 := h.m2
 have h1' := h'.y1
 have h2' := h'.y2
 have h3' := h'.m2
 generalize dayOf y m d = day at *
 generalize dayOf y' m' d' = day' at *
 have hr : ((y' * 12 + m' : Nat) : Int) - ((y * 12 + m : Nat) : Int) = ((y' : Int) - y) * 12 + m' - m := by omega
 rw [hr]
 have e1 : IntKind.i64.wrap ((y' : Int) - y) = (y' : Int) - y := wrap64 _ (by omega)
 have e2 : IntKind.i64.wrap (((y' : Int) - y) * 12) = ((y' : Int) - y) * 12 := wrap64 _ (by omega)
 have e3 : IntKind.i64.wrap (((y' : Int) - y) * 12 + m') = ((y' : Int) - y) * 12 + m' := wrap64 _ (by omega)
 have e4 : IntKind.i64.wrap (((y' : Int) - y) * 12 + m' - m) = ((y' : Int) - y) * 12 + m' - m := wrap64 _ (by omega)
 generalize hk4 : ((y' : Int) - y) * 12 + m' - m = k4 at *
 rw [← hk4]
 refine aO WR rfl (WL ..) ?_
 simp [ML, hc, hc', e1, e2, e3]
 rw [hk4]; exact e4
end Go.Ev.Code
end
section
namespace Go.Ev.Code
open Go Go.Ev
def acL : Nat → Nat → Nat → Nat
 | 0, y, _ => y
 | f + 1, y, day => if dG (y + 1) ≤ day then acL f (y + 1) day else y
def acI : Nat → Nat → Nat → Nat → Nat × Nat
 | 0, _, m, r => (m, r)
 | f + 1, y, m, r => if bf y m ≤ r then acI f y (m + 1) (r - bf y m) else (m, r)
def jF (day : Nat) : Nat × Nat × Nat :=
 let y := acL 300 (1900 + day / 366) day
 let r := acI 12 y 1 (day - dG y)
 (y, r.1, r.2 + 1)
theorem alX {day y : Nat} (h1 : dG y ≤ day) (h2 : day < dG (y + 1)) : ∀ (f x : Nat), x ≤ y → y < x + f → 1900 ≤ x → acL f x day = y := by
 intro f
 induction f with
 | zero => intro x hx hf; omega
 | succ f ih =>
   intro x hx hf h19
   simp only [acL]
   rcases Nat.lt_or_ge x y with h | h
   ·have := Et (x := x + 1) (y := y) (by omega) h
    rw [if_pos (by omega)]
    exact ih (x + 1) h (by omega) (by omega)
   ·have : x = y := by omega
    subst this
    rw [if_neg (by omega)]
theorem alW {y m d : Nat} (hd : d < bf y m) : ∀ (f k : Nat), 1 ≤ k → k ≤ m → m < k + f → acI f y k (bU y (m - 1) + d - bU y (k - 1)) = (m, d) := by
 intro f
 induction f with
 | zero => intro k h1 h2 h3; omega
 | succ f ih =>
   intro k h1 h2 h3
   simp only [acI]
   rcases Nat.lt_or_ge k m with h | h
   ·have hc : bU y (k - 1) + bf y k = bU y k := by
     obtain ⟨q, rfl⟩ : ∃ q, k = q + 1 := ⟨k - 1, by omega⟩
     simp only [bU, Nat.add_sub_cancel]
    have hm := Jp y (j := k) (k := m - 1) (by omega)
    have := ih (k + 1) (by omega) (by omega) (by omega)
    rw [Nat.add_sub_cancel, ← hc, ← Nat.sub_sub] at this
    rw [if_pos (by omega)]
    exact this
   ·have : k = m := by omega
    subst this
    rw [show bU y (k - 1) + d - bU y (k - 1) = d by omega, if_neg (by omega)]
theorem acK {y m d : Nat} (h : uO y m d) : jF (dayOf y m d) = (y, m, d) := by
 have h1 := h.y1
 have h2 := h.y2
 have hd1 := h.d1
 have hd2 := h.d2
 have hm1 := h.m1
 have hm2 := h.m2
 have h366 := afJ (y := y + 1) (by omega)
 have hhi := h.hi
 unfold jF
 have hy : acL 300 (1900 + dayOf y m d / 366) (dayOf y m d) = y := alX h.lo h.hi 300 _ (by omega) (by omega) (by omega)
 rw [hy]
 have hr : dayOf y m d - dG y = bU y (m - 1) + (d - 1) := by unfold dayOf; omega
 have hm : acI 12 y 1 (dayOf y m d - dG y) = (m, d - 1) := by
  rw [hr]
  have := alW (y := y) (m := m) (d := d - 1) (by omega) 12 1 (by omega) hm1 (by omega)
  simpa [bU] using this
 simp only [hm]
 rw [show d - 1 + 1 = d by omega]
abbrev bF (n : Int) : Prop := 0 ≤ n ∧ n ≤ 109572
theorem dU {n : Int} (h : bF n) : ∃ y m d, uO y m d ∧ n = (dayOf y m d : Nat) ∧ jF n.toNat = (y, m, d) := by
 obtain ⟨y, m, d, hc, hd⟩ := ang (day := n.toNat) (by omega)
 refine ⟨y, m, d, hc, by omega, ?_⟩
 rw [← hd, acK hc]
def sG (day n : Int) (e : Bool) : Option Nat := if bF day then Eo (jF day.toNat).1 (jF day.toNat).2.1 (jF day.toNat).2.2 n e else none
theorem MW (day n : Int) (e : Bool) : L.call kJ [.int .i64 day, .int .i64 n, .bool e] = some (jo (sG day n e)) := by
 unfold sG
 by_cases h : bF day
 ·obtain ⟨y, m, d, hc, hd, ho⟩ := dU h
  rw [if_pos h, ho]
  rw [hd]
  exact adE hc n e
 ·rw [if_neg h]
  exact abL h n e
def m_ (a b : Int) : Int := (((jF b.toNat).1 * 12 + (jF b.toNat).2.1 : Nat) : Int) - (((jF a.toNat).1 * 12 + (jF a.toNat).2.1 : Nat) : Int)
theorem LY {a b : Int} (ha : bF a) (hb : bF b) : L.call gJ [.int .i64 a, .int .i64 b] = some (.int .i64 (m_ a b)) := by
 obtain ⟨y, m, d, hc, hd, ho⟩ := dU ha
 obtain ⟨y', m', d', hc', hd', ho'⟩ := dU hb
 unfold m_
 rw [ho, ho', hd, hd']
 exact V7 hc hc'
theorem adD {y m d n : Nat} (h1 : 1 ≤ m) (h2 : m ≤ 12) (hd : 1 ≤ d) (hd2 : d ≤ bf y m) (h : oH y m d = some n) : uO y m d ∧ n = dayOf y m d := by
 unfold oH at h
 split at h <;> simp at h
 rename_i hy
 exact ⟨⟨hy.1, hy.2, h1, h2, hd, hd2⟩, h.symm⟩
theorem Ji {day n : Int} {e : Bool} {r : Nat} (h : sG day n e = some r) : bF r := by
 unfold sG at h
 split at h <;> try (simp at h; done)
 rename_i hd
 obtain ⟨y, m, d, hc, hd, ho⟩ := dU hd
 rw [ho] at h
 unfold Eo at h
 split at h <;> try (simp at h; done)
 simp only at h
 have hm := h
 have h12 : 1 ≤ ((((y * 12 + m - 1 : Nat) : Int) + n) % 12).toNat + 1 ∧ ((((y * 12 + m - 1 : Nat) : Int) + n) % 12).toNat + 1 ≤ 12 := by omega
 generalize ((((y * 12 + m - 1 : Nat) : Int) + n) % 12).toNat + 1 = m' at *
 generalize ((((y * 12 + m - 1 : Nat) : Int) + n) / 12).toNat = y' at *
 have hp := yj (y := y') h12.1 h12.2
 have hd1 := hc.d1
 obtain ⟨q1, q2⟩ := adD h12.1 h12.2 (by split <;> omega) (by split <;> omega) hm
 have := q1.le
 rw [← q2] at this
 constructor <;> omega
end Go.Ev.Code
end
section
namespace Go.Ev.Code
open Go Go.Ev
def fP (c : Int) (s : List UInt8) : D := .iface h_ (.ref [.int .i64 c, .str s, .aB] 0)
theorem uV {c : Int} (h : c ≠ 0) (s : List UInt8) : L.call eH [.int .i64 c, .str s] = some (fP c s) := by
 refine aO aeE rfl (aev ..) ?_
 unfold fP
 simp [U9, h]
def aed : List UInt8 := [105, 115, 115, 117, 101]
def oP : List UInt8 := [109, 97, 116, 117, 114, 101]
def IG : List UInt8 := [99, 111, 117, 112, 111, 110]
def II : List UInt8 := [114, 101, 100, 101, 101, 109]
def Ya : List UInt8 := [102, 114, 101, 113]
def J3 : List UInt8 := [99, 111, 117, 110, 116]
def zq : List UInt8 := [115, 116, 117, 98]
def tEx : List UInt8 := [101, 120]
def GH : List UInt8 := [102, 108, 111, 119, 115]
structure aV where
 issue : Int
 dD : Int
 dW : Int
 je : List UInt8
 jg : List UInt8
 count : Int
 stub : Int
 ends : Bool
 ex : Int
def aW (b : aV) : List D := [.int .i64 b.issue, .int .i64 b.dD, .int .i64 b.dW, .str b.je, .str b.jg, .int .i64 b.count, .int .i64 b.stub, .bool b.ends, .int .i64 b.ex]
abbrev bQ (b : aV) : D := .agg (aW b)
def months (b : aV) : Int := if b.dW = 1 then 12 else if b.dW = 2 then 6 else if b.dW = 4 then 3 else if b.dW = 12 then 1 else 0
theorem Ew (b : aV) : L.call jB [bQ b] = some (.int .i64 (months b)) := by
 obtain ⟨i, m, f, c, r, n, s, e, x⟩ := b
 unfold months bQ aW
 refine aO aa3 rfl (aaB ..) ?_
 simp only
 by_cases h1 : f = 1
 ·subst h1; simp [sV, wrap64]
 by_cases h2 : f = 2
 ·subst h2; simp [sV, wrap64]
 by_cases h4 : f = 4
 ·subst h4; simp [sV, wrap64]
 by_cases h12 : f = 12
 ·subst h12; simp [sV, wrap64]
 ·simp [sV, h1, h2, h4, h12]
abbrev Err := Option (Int × List UInt8)
def dh : Err → D
 | none => .aB
 | some (c, s) => fP c s
def xM (b : aV) : Err :=
 if ¬ bF b.issue then some (4, aed) else if ¬ bF b.dD then some (4, oP) else if b.dD ≤ b.issue then some (5, oP) else
  match sG b.issue 360 false with
  | some e => if (e : Int) < b.dD then some (5, oP) else none
  | none => none
theorem WC {n : Int} : TJ n < 0 ↔ ¬ bF n := by
 unfold TJ
 split
 ·rename_i h; constructor
  ·intro h1; omega
  ·intro h1; exact absurd h h1
 ·rename_i h; simp [h]
theorem acD (b : aV) : L.call xR [bQ b] = some (dh (xM b)) := by
 obtain ⟨i, m, f, c, r, n, s, e, x⟩ := b
 have w1 := xK i
 have w2 := xK m
 have n1 := @WC i
 have n2 := @WC m
 have ha := MW i 360 false
 have f1 := fun s => uV (c := 4) (by decide) s
 have f2 := fun s => uV (c := 5) (by decide) s
 unfold xM bQ aW
 simp only
 generalize TJ i = wi at *
 generalize TJ m = wm at *
 refine aO aeA rfl (aep ..) ?_
 by_cases h1 : bF i
 ·have g1 : ¬ wi < 0 := fun h => (n1.1 h) h1
  by_cases h2 : bF m
  ·have g2 : ¬ wm < 0 := fun h => (n2.1 h) h2
   by_cases h3 : m ≤ i
   ·rw [if_neg (fun h => h h1), if_neg (fun h => h h2), if_pos h3]
    simp [uK, w1, w2, g1, g2, h3, f2, dh, oP, fP]
   ·rw [if_neg (fun h => h h1), if_neg (fun h => h h2), if_neg h3]
    generalize sG i 360 false = r at *
    cases r with
    | none => simp [jo] at ha; simp [uK, w1, w2, g1, g2, h3, ha, dh]
    | some e =>
      simp [jo] at ha
      by_cases h4 : (e : Int) < m
      ·simp [uK, w1, w2, g1, g2, h3, ha, h4, f2, dh, oP, fP]
      ·simp [uK, w1, w2, g1, g2, h3, ha, h4, dh]
  ·have g2 : wm < 0 := n2.2 h2
   rw [if_neg (fun h => h h1), if_pos h2]
   simp [uK, w1, w2, g1, g2, f1, dh, oP, fP]
 ·have g1 : wi < 0 := n1.2 h1
  rw [if_pos h1]
  simp [uK, w1, g1, f1, dh, aed, fP]
end Go.Ev.Code
end
section
namespace Go.Ev.Code
open Go Go.Ev
theorem Ht {n : Int} (h : -9223372036854775808 ≤ n ∧ n ≤ 9223372036854775807) : L.call oC [.int .i64 n] = some (dI (Rat.divInt n 1)) := by
 have := CU h (d := 1) (by omega) (by omega)
 refine aO ahT rfl (ahL ..) ?_
 simp [aai, this]
def PV : Option (Rat × Nat) → D
 | some (q, n) => .aS [dI q, .bool (decide (n ≤ 6)), .aB]
 | none => .aS [.aK, .bool true, xZ 1]
theorem Aa {s : List UInt8} (h : s.length ≤ 1000000) : L.call nM [.str s] = some (PV (vU s)) := by
 have hg := Xg h
 generalize vU s = r at *
 refine aO acp rfl (acd ..) ?_
 cases r with
 | none => simp [BF] at hg; simp [JM, hg, PV]
 | some qn =>
   obtain ⟨q, n⟩ := qn
   simp [BF] at hg
   have : ((n : Int) ≤ 6) ↔ n ≤ 6 := by omega
   simp [JM, hg, PV, this]
theorem OW {s : List UInt8} {q : Rat} {n : Nat} (h : vU s = some (q, n)) : RB 400 q ∧ n ≤ 20 := by
 unfold vU at h
 split at h <;> try (simp at h; done)
 rename_i hs
 unfold BG at h
 split at h <;> try (simp at h; done)
 rename_i hc
 simp at h
 obtain ⟨rfl, rfl⟩ := h
 obtain ⟨h1, h2, h3⟩ := hc
 have hl := aao s
 have hb := acO 46 (qB s).2
 have hf := @Hy 46 (qB s).2
 generalize (kR 46 (qB s).2).1 = w at *
 generalize (kR 46 (qB s).2).2.1 = r at *
 generalize (kR 46 (qB s).2).2.2 = p at *
 have hr : r.length ≤ 20 ∧ r.all sD = true := by
  cases p with
  | true => exact (h2 rfl).2
  | false => rw [(hf rfl).2]; simp
 have had : (w ++ r).all sD = true := by rw [List.all_append, h1.2.2.2, hr.2]; rfl
 have hv : NB 400 (iE 0 (w ++ r)) := af5 had (by simp; omega)
 refine ⟨vG ?_ ((aji r.length).mono (by omega)) (agh _), hr.1⟩
 split
 ·exact (IB.ofNat hv).neg
 ·exact IB.ofNat hv
theorem acM {a b : Rat} : 0 < OT a b ↔ b < a := by
 unfold OT
 split
 ·rename_i h
  constructor
  ·intro h1; omega
  ·intro h1; exact absurd h1 (Rat.not_lt.2 (Rat.le_of_lt h))
 ·split
  ·rename_i h1 h2
   subst h2
   constructor
   ·intro h; omega
   ·intro h; exact absurd h h1
  ·rename_i h1 h2
   refine ⟨fun _ => ?_, fun _ => by omega⟩
   exact Rat.lt_of_le_of_ne (Rat.not_lt.1 h1) (Ne.symm h2)
def q30 : Rat := Rat.divInt 30 1
def V9 : Rat := Rat.divInt 200 1
theorem ahK {n : Int} {k : Nat} (h : IB k n) (hk : 1 ≤ k) : RB k (Rat.divInt n 1) := vG h ((show IB 1 1 by unfold IB NB; decide).mono hk) (by decide)
def Bv (b : aV) : Err := match vU b.je with
 | none => some (1, IG)
 | some (q, n) => if ¬ n ≤ 6 ∨ q.num < 0 ∨ q30 < q then some (5, IG) else match vU b.jg with
   | none => some (1, II)
   | some (r, k) => if ¬ k ≤ 6 ∨ r.num ≤ 0 ∨ V9 < r then some (5, II) else none
theorem amo {z : Int} : z.sign ≤ 0 ↔ z ≤ 0 := by
 rcases Int.lt_trichotomy z 0 with h | h | h
 ·rw [Int.sign_eq_neg_one_of_neg h]; omega
 ·subst h; simp
 ·rw [Int.sign_eq_one_of_pos h]; omega
theorem acE {b : aV} (hc : b.je.length ≤ 1000000) (hr : b.jg.length ≤ 1000000) : L.call xU [bQ b] = some (dh (Bv b)) := by
 obtain ⟨i, m, f, c, r, n, s, e, x⟩ := b
 simp only at hc hr
 have v1 := Aa hc
 have v2 := Aa hr
 have f1 := fun s => uV (c := 1) (by decide) s
 have f2 := fun s => uV (c := 5) (by decide) s
 have o1 := Ht (n := 30) (by omega)
 have o2 := Ht (n := 200) (by omega)
 have b1 : RB 400 q30 := (ahK (k := 10) (by unfold IB NB; decide) (by decide)).mono (by decide)
 have b2 : RB 400 V9 := (ahK (k := 10) (by unfold IB NB; decide) (by decide)).mono (by decide)
 change L.call oC [.int .i64 30] = some (dI q30) at o1
 change L.call oC [.int .i64 200] = some (dI V9) at o2
 have d1 := @OW c
 have d2 := @OW r
 unfold Bv bQ aW
 simp only
 generalize vU c = dc at *
 generalize vU r = dr at *
 refine aO aeB rfl (aer ..) ?_
 cases dc with
 | none => simp [PV] at v1; simp [lg, v1, f1, dh, fP, IG]
 | some qn =>
   obtain ⟨q, k⟩ := qn
   simp [PV] at v1
   have cq := PE (d1 rfl).1 b1 (by omega)
   have sq := Np q
   have pq := @acM q q30
   have nq := @sign_neg q.num
   simp only
   generalize OT q q30 = cm at *
   generalize q.num.sign = sg at *
   by_cases h1 : k ≤ 6
   ·by_cases h2 : q.num < 0
    ·rw [if_pos (.inr (.inl h2))]
     have g2 := nq.2 h2
     simp [lg, v1, f2, h1, sq, g2, dh, fP, IG]
    ·have g2 : ¬ sg < 0 := fun h => h2 (nq.1 h)
     by_cases h3 : q30 < q
     ·rw [if_pos (.inr (.inr h3))]
      have g3 := pq.2 h3
      simp [lg, v1, f2, h1, sq, g2, o1, cq, g3, dh, fP, IG]
     ·have g3 : ¬ 0 < cm := fun h => h3 (pq.1 h)
      rw [if_neg (fun h => by rcases h with h | h | h <;> contradiction)]
      cases dr with
      | none =>
        simp [PV] at v2
        simp [lg, v1, v2, f1, h1, sq, g2, o1, cq, g3, dh, fP, II]
      | some rn =>
        obtain ⟨r', k'⟩ := rn
        simp [PV] at v2
        have cr := PE (d2 rfl).1 b2 (by omega)
        have sr := Np r'
        have pr := @acM r' V9
        have nr := @amo r'.num
        simp only
        generalize OT r' V9 = cm' at *
        generalize r'.num.sign = sg' at *
        by_cases h4 : k' ≤ 6
        ·by_cases h5 : r'.num ≤ 0
         ·rw [if_pos (.inr (.inl h5))]
          have g5 := nr.2 h5
          simp [lg, v1, v2, f2, h1, sq, g2, o1, cq, g3, h4, sr, g5, dh, fP, II]
         ·have g5 : ¬ sg' ≤ 0 := fun h => h5 (nr.1 h)
          by_cases h6 : V9 < r'
          ·rw [if_pos (.inr (.inr h6))]
           have g6 := pr.2 h6
           simp [lg, v1, v2, f2, h1, sq, g2, o1, cq, g3, h4, sr, g5, o2, cr, g6, dh, fP, II]
          ·have g6 : ¬ 0 < cm' := fun h => h6 (pr.1 h)
           rw [if_neg (fun h => by rcases h with h | h | h <;> contradiction)]
           simp [lg, v1, v2, f2, h1, sq, g2, o1, cq, g3, h4, sr, g5, o2, cr, g6, dh]
        ·rw [if_pos (.inl h4)]
         simp [lg, v1, v2, f2, h1, sq, g2, o1, cq, g3, h4, dh, fP, II]
   ·rw [if_pos (.inl h1)]
    simp [lg, v1, f2, h1, dh, fP, IG]
end Go.Ev.Code
end
section
namespace Go.Ev.Code
open Go Go.Ev
theorem Jo (n : Int) : L.call tH [.int .i64 n] = some (.bool (decide (1 ≤ n ∧ n ≤ 4))) := by
 refine aO aeC rfl (aes ..) ?_
 by_cases h : 1 ≤ n
 ·by_cases h' : n ≤ 4 <;> simp [Nq, h, h']
 ·simp [Nq, h]
def SI (b : aV) : Int := (m_ b.issue b.dD).tdiv (months b) + 2
def chk (b : aV) : Err := match xM b with
 | some e => some e
 | none => if months b = 0 then some (5, Ya) else match Bv b with
   | some e => some e
   | none => if ¬ (1 ≤ b.count ∧ b.count ≤ 4) then some (5, J3) else if b.stub < 0 ∨ 2 < b.stub then some (5, zq) else if b.ex < 0 ∨ 30 < b.ex then some (5, tEx)
     else if 200 < SI b then some (5, GH) else none
theorem CZ {b : aV} (h : xM b = none) : bF b.issue ∧ bF b.dD ∧ b.issue < b.dD := by
 unfold xM at h
 split at h <;> try (simp at h; done)
 split at h <;> try (simp at h; done)
 split at h <;> try (simp at h; done)
 exact ⟨by rename_i a _ _; exact Classical.not_not.1 a, by rename_i _ a _; exact Classical.not_not.1 a, by omega⟩
theorem acJ {n : Int} (h : bF n) : 1900 ≤ (jF n.toNat).1 ∧ (jF n.toNat).1 ≤ 2199 ∧ 1 ≤ (jF n.toNat).2.1 ∧ (jF n.toNat).2.1 ≤ 12 := by
 obtain ⟨y, m, d, hc, hd, ho⟩ := dU h
 rw [ho]
 exact ⟨hc.y1, hc.y2, hc.m1, hc.m2⟩
theorem afL {a b : Int} (ha : bF a) (hb : bF b) : -4000 ≤ m_ a b ∧ m_ a b ≤ 4000 := by
 have h1 := acJ ha
 have h2 := acJ hb
 unfold m_
 omega
theorem lG (b : aV) : months b = 0 ∨ months b = 1 ∨ months b = 3 ∨ months b = 6 ∨ months b = 12 := by
 unfold months
 split
 ·omega
 ·split
  ·omega
  ·split
   ·omega
   ·split <;> omega
theorem agf {a m : Int} (ha : -4000 ≤ a ∧ a ≤ 4000) (hm : m = 1 ∨ m = 3 ∨ m = 6 ∨ m = 12) : -4000 ≤ a.tdiv m ∧ a.tdiv m ≤ 4000 := by
 rcases Int.le_total 0 a with h | h
 ·rw [Int.tdiv_eq_ediv_of_nonneg h]
  rcases hm with rfl | rfl | rfl | rfl <;> omega
 ·obtain ⟨k, rfl⟩ : ∃ k : Int, a = -k := ⟨-a, by omega⟩
  rw [Int.neg_tdiv, Int.tdiv_eq_ediv_of_nonneg (by omega)]
  rcases hm with rfl | rfl | rfl | rfl <;> omega
theorem sN {b : aV} (hc : b.je.length ≤ 1000000) (hr : b.jg.length ≤ 1000000) : L.call jd [bQ b] = some (dh (chk b)) := by
 have c1 := acD b
 have c2 := Ew b
 have c3 := acE hc hr
 have c4 := Jo b.count
 have c5 : bF b.issue → bF b.dD → L.call gJ [.int .i64 b.issue, .int .i64 b.dD] = some (.int .i64 (m_ b.issue b.dD)) := LY
 have n1 := @CZ b
 have f2 := fun s => uV (c := 5) (by decide) s
 have hmc := lG b
 have hbb := @afL b.issue b.dD
 unfold chk SI
 generalize xM b = de at *
 generalize Bv b = se at *
 generalize months b = mo at *
 obtain ⟨i, m, f, c, r, n, s, e, x⟩ := b
 unfold bQ aW at *
 simp only at *
 refine aO aco rfl (ab_ ..) ?_
 cases de with
 | some er => obtain ⟨ec, es⟩ := er; simp [dh, fP] at c1; simp [jw, c1, dh, fP]
 | none =>
   obtain ⟨d1, d2, d3⟩ := n1 rfl
   have c5 := c5 d1 d2
   have hbb := hbb d1 d2
   simp [dh] at c1
   by_cases h0 : mo = 0
   ·simp [jw, c1, c2, h0, f2, dh, fP, Ya]
   ·have hq := agf hbb (show mo = 1 ∨ mo = 3 ∨ mo = 6 ∨ mo = 12 by omega)
    simp only [if_neg h0]
    cases se with
    | some er => obtain ⟨ec, es⟩ := er; simp [dh, fP] at c3; simp [jw, c1, c2, h0, c3, dh, fP]
    | none =>
      simp [dh] at c3
      simp only
      by_cases h1 : 1 ≤ n ∧ n ≤ 4
      ·rw [if_neg (fun h => h h1)]
       rw [decide_eq_true h1] at c4
       by_cases h2 : s < 0
       ·rw [if_pos (.inl h2)]
        simp [jw, c1, c2, h0, c3, c4, h2, f2, dh, fP, zq]
       by_cases h2' : 2 < s
       ·rw [if_pos (.inr h2')]
        simp [jw, c1, c2, h0, c3, c4, h2, h2', f2, dh, fP, zq]
       rw [if_neg (fun h => by rcases h with h | h <;> contradiction)]
       by_cases h3 : x < 0
       ·rw [if_pos (.inl h3)]
        simp [jw, c1, c2, h0, c3, c4, h2, h2', h3, f2, dh, fP, tEx]
       by_cases h3' : 30 < x
       ·rw [if_pos (.inr h3')]
        simp [jw, c1, c2, h0, c3, c4, h2, h2', h3, h3', f2, dh, fP, tEx]
       rw [if_neg (fun h => by rcases h with h | h <;> contradiction)]
       have e1 : IntKind.i64.wrap ((m_ i m).tdiv mo) = (m_ i m).tdiv mo := wrap64 _ (by omega)
       have e2 : IntKind.i64.wrap ((m_ i m).tdiv mo + 2) = (m_ i m).tdiv mo + 2 := wrap64 _ (by omega)
       obtain ⟨t, ht⟩ : ∃ t, (m_ i m).tdiv mo = t := ⟨_, rfl⟩
       rw [ht] at e1 e2 hq ⊢
       obtain ⟨pp, hpp⟩ : ∃ pp, t + 2 = pp := ⟨_, rfl⟩
       have e2 : IntKind.i64.wrap (t + 2) = pp := by rw [e2, hpp]
       rw [hpp]
       by_cases h4 : 200 < pp
       ·simp [jw, c1, c2, h0, c3, c4, h2, h2', h3, h3', c5, ht, e1, e2, h4, f2, dh, fP, GH]
       ·simp [jw, c1, c2, h0, c3, c4, h2, h2', h3, h3', c5, ht, e1, e2, h4, dh]
      ·rw [if_pos h1]
       rw [decide_eq_false h1] at c4
       simp [jw, c1, c2, h0, c3, c4, f2, dh, fP, J3]
def q0 : Rat := Rat.divInt 0 1
def UY (b : aV) : Rat := match chk b with
 | some _ => q0
 | none => match vU b.je with | some (q, _) => q | none => q0
def wU (b : aV) : Rat := match chk b with
 | some _ => q0
 | none => match vU b.jg with | some (q, _) => q | none => q0
theorem iD {b : aV} (h : chk b = none) : xM b = none ∧ months b ≠ 0 ∧ Bv b = none := by
 unfold chk at h
 split at h <;> try (simp at h; done)
 rename_i hd
 split at h <;> try (simp at h; done)
 rename_i hm
 split at h <;> try (simp at h; done)
 rename_i hs
 exact ⟨hd, hm, hs⟩
theorem X_ {b : aV} (h : Bv b = none) : ∃ q n r k, vU b.je = some (q, n) ∧ vU b.jg = some (r, k) ∧ n ≤ 6 ∧ 0 ≤ q.num ∧ ¬ q30 < q ∧ k ≤ 6 ∧ 0 < r.num ∧ ¬ V9 < r := by
 unfold Bv at h
 split at h <;> try (simp at h; done)
 rename_i q n hq
 split at h <;> try (simp at h; done)
 rename_i h1
 split at h <;> try (simp at h; done)
 rename_i r k hr
 split at h <;> try (simp at h; done)
 rename_i h2
 refine ⟨q, n, r, k, hq, hr, ?_, ?_, ?_, ?_, ?_, ?_⟩
 ·exact Classical.not_not.1 fun h => h1 (.inl h)
 ·exact Int.not_lt.1 fun h => h1 (.inr (.inl h))
 ·exact fun h => h1 (.inr (.inr h))
 ·exact Classical.not_not.1 fun h => h2 (.inl h)
 ·exact Int.not_le.1 fun h => h2 (.inr (.inl h))
 ·exact fun h => h2 (.inr (.inr h))
theorem Eu {b : aV} (hc : b.je.length ≤ 1000000) (hr : b.jg.length ≤ 1000000) : L.call jA [bQ b] = some (dI (UY b)) := by
 have c1 := sN hc hr
 have v1 := Aa hc
 have o1 := Ht (n := 0) (by omega)
 change L.call oC [.int .i64 0] = some (dI q0) at o1
 have hs := @iD b
 have hss := @X_ b
 unfold UY
 generalize chk b = ck at *
 obtain ⟨i, m, f, c, r, n, s, e, x⟩ := b
 unfold bQ aW at *
 simp only at *
 refine aO aa2 rfl (aaA ..) ?_
 cases ck with
 | some er => obtain ⟨ec, es⟩ := er; simp [dh, fP] at c1; simp [GX, c1, o1]
 | none =>
   obtain ⟨q, n, r, k, h1, _⟩ := hss (hs rfl).2.2
   rw [h1] at v1
   simp [PV] at v1
   simp [dh] at c1
   rw [h1]
   simp [GX, c1, v1]
theorem Ey {b : aV} (hc : b.je.length ≤ 1000000) (hr : b.jg.length ≤ 1000000) : L.call kU [bQ b] = some (dI (wU b)) := by
 have c1 := sN hc hr
 have v1 := Aa hr
 have o1 := Ht (n := 0) (by omega)
 change L.call oC [.int .i64 0] = some (dI q0) at o1
 have hs := @iD b
 have hss := @X_ b
 unfold wU
 generalize chk b = ck at *
 obtain ⟨i, m, f, c, r, n, s, e, x⟩ := b
 unfold bQ aW at *
 simp only at *
 refine aO aa4 rfl (aaC ..) ?_
 cases ck with
 | some er => obtain ⟨ec, es⟩ := er; simp [dh, fP] at c1; simp [GY, c1, o1]
 | none =>
   obtain ⟨q, n, r, k, _, h1, _⟩ := hss (hs rfl).2.2
   rw [h1] at v1
   simp [PV] at v1
   simp [dh] at c1
   rw [h1]
   simp [GY, c1, v1]
end Go.Ev.Code
end
section
namespace Go.Ev.Code
open Go Go.Ev
def anch (b : aV) (k : Nat) : Option Nat := sG b.dD (-(k : Int) * months b) b.ends
def uS : Option Nat → D
 | some d => .int .i64 d
 | none => .int .i64 0
theorem u_ (b : aV) {k : Nat} (hk : k ≤ 100000) : L.call nY [bQ b, .int .i64 k] = some (.aS [uS (anch b k), .bool (anch b k).isSome]) := by
 have hm := Ew b
 have ha := MW b.dD (-(k : Int) * months b) b.ends
 have hmc := lG b
 have e1 : IntKind.i64.wrap (0 - (k : Int)) = -(k : Int) := by rw [wrap64 _ (by omega)]; omega
 have e2 : IntKind.i64.wrap (-(k : Int) * months b) = -(k : Int) * months b := by
  refine wrap64 _ ?_
  rcases hmc with h | h | h | h | h <;> rw [h] <;> omega
 unfold anch
 generalize hx : -(k : Int) * months b = x at *
 generalize hr : sG b.dD x b.ends = r at *
 generalize months b = mo at *
 obtain ⟨i, m, f, c, rd, n, s, e, ex⟩ := b
 unfold bQ aW at *
 simp only at *
 refine aO abn rfl (aaU ..) ?_
 have e1' : IntKind.i64.wrap (-(k : Int)) = -(k : Int) := by rw [wrap64 _ (by omega)]
 have e2' : IntKind.i64.wrap (-((k : Int) * mo)) = x := by rw [← e2, ← hx, Int.neg_mul]
 have hx' : -((k : Int) * mo) = x := by rw [← hx, Int.neg_mul]
 cases r with
 | none => simp [jo] at ha; simp [Hf, hm, e1, e1', e2, e2', hx, hx', ha, uS]
 | some d => simp [jo] at ha; simp [Hf, hm, e1, e1', e2, e2', hx, hx', ha, uS]
def ints (l : List Nat) : List D := l.map fun (n : Nat) => D.int .i64 n
theorem BJ (l : List Nat) : (ints l).length = l.length := by simp [ints]
theorem ako (l : List Nat) (d : Nat) : ints (l ++ [d]) = ints l ++ [.int .i64 d] := by simp [ints]
theorem Jt (l : List Nat) (b n : Nat) : (ints l).all (D.clo b (n + 1)) = true := by
 rw [List.all_eq_true]
 intro d hd
 simp only [ints, List.mem_map] at hd
 obtain ⟨x, _, rfl⟩ := hd
 rfl
def jL (b : aV) (k : Nat) : List Nat := (List.range k).map fun i => (anch b i).getD 0
theorem Es (b : aV) (k : Nat) : (jL b k).length = k := by simp [jL]
theorem ah9 (b : aV) (k : Nat) : jL b (k + 1) = jL b k ++ [(anch b k).getD 0] := by simp [jL, List.range_succ]
def Goes (b : aV) (k : Nat) : Prop := ∃ d, anch b k = some d ∧ b.issue < (d : Int)
theorem acC {b : aV} {K : Nat} (hK : K ≤ 90000) (hgo : ∀ i, i < K → Goes b i) (hst : ¬ Goes b K) : ∀ (j k : Nat), k + j = K → 1 ≤ k →
  L.loop [1, 5, 6] [2, 3, 4] jP 2 [.loc 1 0, .aT 2 0 k 1, .int .i64 k] [.live (aW b), .live (aW b), .live (ints (jL b k))] =
    some (.ret, [.aT 2 0 K 1, uS (anch b K), .bool (anch b K).isSome], [.live (aW b), .live (aW b), .live (ints (jL b K))]) := by
 intro j
 induction j with
 | zero =>
   intro k hk h1
   have hkK : k = K := by omega
   subst hkK
   have ha := u_ b (k := k) (by omega)
   have hcl := Jt (jL b k) 2 11
   have hl : (ints (jL b k)).length = k := by rw [BJ, Es]
   unfold Goes at hst
   generalize ints (jL b k) = l at *
   generalize hr : anch b k = r at *
   obtain ⟨i, m, f, c, rd, n, s, e, ex⟩ := b
   unfold bQ aW at *
   simp only at *
   refine aJ (zC ..) ?_
   cases r with
   | none => simp [uS] at ha; simp [pY, ha, uS, hcl]
   | some d =>
     have g : (d : Int) ≤ i := by
      by_cases h : i < (d : Int)
      ·exact absurd ⟨d, rfl, h⟩ hst
      ·omega
     simp [uS] at ha; simp [pY, ha, uS, g, hcl]
 | succ j ih =>
   intro k hk h1
   have hn := ih (k + 1) (by omega) (by omega)
   have ha := u_ b (k := k) (by omega)
   obtain ⟨d, hd, hdi⟩ := hgo k (by omega)
   rw [ah9, hd, Option.getD_some, ako] at hn
   rw [hd] at ha
   have hcl := Jt (jL b k) 2 11
   have hl : (ints (jL b k)).length = k := by rw [BJ, Es]
   generalize ints (jL b k) = l at *
   generalize (anch b K).isSome = zb at *
   generalize uS (anch b K) = zd at *
   generalize ints (jL b K) = lK at *
   have htk : l.take k = l := List.take_of_length_le (by omega)
   have hlen : k + 1 ≤ 4294967296 := by omega
   have e1 : IntKind.i64.wrap ((k : Int) + 1) = ((k + 1 : Nat) : Int) := by rw [wrap64 _ (by omega)]; omega
   obtain ⟨i, m, f, c, rd, n, s, e, ex⟩ := b
   unfold bQ aW at *
   simp only at *
   simp [uS] at ha hn
   have g : ¬ (d : Int) ≤ i := by omega
   refine aJ (zC ..) ?_
   simp [pY, ha, g, hcl, htk, hl, hlen, e1, qc, hn]
theorem agI {b : aV} {K : Nat} (hK : K ≤ 90000) (h1 : 1 ≤ K) (hgo : ∀ i, i < K → Goes b i) (hst : ¬ Goes b K) :
  L.aY rF [bQ b] [.live (aW b)] = some (.aS [.aT 1 0 K 1, uS (anch b K), .bool (anch b K).isSome], [.live (aW b), .live (ints (jL b K))]) := by
 have hl : L.loop [1, 5, 6] [2, 3, 4] jP 2 [.loc 1 0, .bK, .int .i64 0] [.live (aW b), .live (aW b)] =
   some (.ret, [.aT 2 0 K 1, uS (anch b K), .bool (anch b K).isSome], [.live (aW b), .live (aW b), .live (ints (jL b K))]) := by
  have hn := acC hK hgo hst (K - 1) 1 (by omega) (by omega)
  have ha := u_ b (k := 0) (by omega)
  obtain ⟨d, hd, hdi⟩ := hgo 0 (by omega)
  rw [show jL b 1 = [(anch b 0).getD 0] by simp [jL], hd, Option.getD_some, show ((1 : Nat) : Int) = 1 from rfl] at hn
  rw [hd] at ha
  generalize (anch b K).isSome = zb at *
  generalize uS (anch b K) = zd at *
  generalize ints (jL b K) = lK at *
  obtain ⟨i, m, f, c, rd, n, s, e, ex⟩ := b
  unfold bQ aW at *
  simp only at *
  simp [uS, ints] at ha hn
  have g : ¬ (d : Int) ≤ i := by omega
  refine aJ (zC ..) ?_
  simp [pY, ha, g, qc, wrap64, hn]
 have hcl := Jt (jL b K) 1 11
 have hz : uS (anch b K) = .int .i64 ((anch b K).getD 0 : Nat) := by cases anch b K <;> rfl
 rw [hz] at hl ⊢
 generalize (anch b K).isSome = zb at *
 generalize (anch b K).getD 0 = zd at *
 have hlen : (ints (jL b K)).length = K := by rw [BJ, Es]
 generalize ints (jL b K) = lK at *
 obtain ⟨i, m, f, c, rd, n, s, e, ex⟩ := b
 unfold bQ aW at *
 simp only at *
 refine kH YA rfl (Yo ..) ?_
 simp [Oy, hl, hcl]
end Go.Ev.Code
end
section
namespace Go.Ev.Code
open Go Go.Ev
def ag0 (b : aV) (k : Nat) : Bool := match anch b k with
 | some d => decide (b.issue < (d : Int))
 | none => false
theorem ZW (b : aV) (k : Nat) : ag0 b k = true ↔ Goes b k := by
 unfold ag0 Goes
 cases anch b k with
 | none => simp
 | some d => simp
def TS (b : aV) : Nat → Nat → Nat
 | 0, k => k
 | f + 1, k => if ag0 b k = true then TS b f (k + 1) else k
def eu (b : aV) : Nat := TS b 3601 0
theorem ac5 (b : aV) : ∀ (f k : Nat), (∀ i, i < k → Goes b i) → ¬ Goes b (k + f) → (∀ i, i < TS b f k → Goes b i) ∧ ¬ Goes b (TS b f k) ∧ TS b f k ≤ k + f
 | 0, k, h1, h2 => ⟨h1, h2, Nat.le_refl _⟩
 | f + 1, k, h1, h2 => by
   simp only [TS]
   split
   ·rename_i hg
    have hg := (ZW b k).1 hg
    have := ac5 b f (k + 1) (fun i hi => by
     rcases Nat.lt_or_ge i k with h | h
     ·exact h1 i h
     ·have : i = k := by omega
      rw [this]; exact hg) (by rw [show k + 1 + f = k + (f + 1) by omega]; exact h2)
    exact ⟨this.1, this.2.1, by omega⟩
   ·rename_i hg
    exact ⟨h1, fun h => hg ((ZW b k).2 h), by omega⟩
theorem acy {y m d : Nat} {n : Int} {e : Bool} (h : ¬ (-3600 ≤ n ∧ n ≤ 3600)) : Eo y m d n e = none := by unfold Eo; rw [if_neg h]
theorem ajM (b : aV) (hm : months b ≠ 0) : ¬ Goes b 3601 := by
 rintro ⟨d, hd, _⟩
 have hc := lG b
 unfold anch sG at hd
 split at hd
 ·rw [acy (by rcases hc with h | h | h | h | h <;> rw [h] <;> omega)] at hd
  simp at hd
 ·simp at hd
theorem N_ {b : aV} (hm : months b ≠ 0) : (∀ i, i < eu b → Goes b i) ∧ ¬ Goes b (eu b) ∧ eu b ≤ 3601 := by
 have := ac5 b 3601 0 (fun i hi => absurd hi (by omega)) (by rw [Nat.zero_add]; exact ajM b hm)
 exact ⟨this.1, this.2.1, Nat.le_trans this.2.2 (by decide)⟩
theorem ah6 {day : Int} (h : bF day) (e : Bool) : sG day 0 e = some day.toNat := by
 obtain ⟨y, m, d, hc, hd, ho⟩ := dU h
 unfold sG
 rw [if_pos h, ho]
 have h1 := hc.y1
 have h2 := hc.y2
 have h3 := hc.m1
 have h4 := hc.m2
 have h5 := hc.d2
 unfold Eo
 rw [if_pos (by omega)]
 have e1 : ((((y * 12 + m - 1 : Nat) : Int) + 0) / 12).toNat = y := by omega
 have e2 : ((((y * 12 + m - 1 : Nat) : Int) + 0) % 12).toNat + 1 = m := by omega
 simp only [e1, e2]
 unfold oH
 rw [if_pos ⟨h1, h2⟩]
 congr 1
 have : (if e = true ∧ d = bf y m then bf y m else min d (bf y m)) = d := by split <;> omega
 rw [this, hd]; omega
theorem Lc {b : aV} (h : bF b.dD) : anch b 0 = some b.dD.toNat := by
 unfold anch
 rw [show (-((0 : Nat) : Int) * months b) = 0 by simp]
 exact ah6 h _
theorem YV {b : aV} (h : chk b = none) : 1 ≤ eu b := by
 obtain ⟨h1, h2, h3⟩ := iD h
 obtain ⟨d1, d2, d3⟩ := CZ h1
 obtain ⟨k1, k2, k3⟩ := N_ h2
 rcases Nat.eq_zero_or_pos (eu b) with h0 | h0
 ·rw [h0] at k2
  exact absurd ⟨_, Lc d2, by omega⟩ k2
 ·exact h0
def lF : Int → List Nat → List (Int × Int)
 | _, [] => []
 | f, d :: ds => (f, (d : Int)) :: lF d ds
def bW : List (Int × Int) → List D
 | [] => []
 | (a, b) :: ps => .int .i64 a :: .int .i64 b :: bW ps
theorem adU (l r : List (Int × Int)) : bW (l ++ r) = bW l ++ bW r := by
 induction l with
 | nil => rfl
 | cons x xs ih => obtain ⟨a, b⟩ := x; simp [bW, ih]
theorem JD (l : List (Int × Int)) : (bW l).length = l.length * 2 := by
 induction l with
 | nil => rfl
 | cons x xs ih => obtain ⟨a, b⟩ := x; simp [bW, ih]; omega
theorem lH (l : List (Int × Int)) (b n : Nat) : (bW l).all (D.clo b (n + 1)) = true := by
 induction l with
 | nil => rfl
 | cons x xs ih => obtain ⟨p, q⟩ := x; simp [bW]; simpa using ih
theorem ag8 (f : Int) (l : List Nat) : (lF f l).length = l.length := by
 induction l generalizing f with
 | nil => rfl
 | cons x xs ih => simp [lF, ih]
theorem sW (a b : D) : zeros 1 [a, b] = [a, b] := by rfl
theorem adN {b : aV} {days : List Nat} {nx : Int} {is : Bool} (hd : days.length ≤ 90000) : ∀ (rest pre : List Nat) (acc : List (Int × Int)) (fr : Int), days = pre ++ rest → acc ≠ [] → acc.length = pre.length →
  L.loop [1, 6, 7, 8, 9, 27, 28, 29] [1, 6, 7, 8] uf 2 [.loc 0 0, .int .i64 nx, .bool is, .aT 2 0 acc.length 2, .int .i64 fr, .aT 1 0 days.length 1, .int .i64 days.length, .int .i64 pre.length]
    [.live (aW b), .live (ints days), .live (bW acc)] =
    some (.exit 0, [.loc 0 0, .int .i64 nx, .bool is, .aT 2 0 days.length 2], [.live (aW b), .live (ints days), .live (bW (acc ++ lF fr rest))]) := by
 have hcl := Jt days 2 11
 have hbc : (aW b).all (D.clo 2 12) = true := by obtain ⟨i, m, f, c, rd, n, s, e, ex⟩ := b; simp [aW]
 intro rest
 induction rest with
 | nil =>
   intro pre acc fr hdd hne hal
   have hpl : pre.length = days.length := by rw [hdd]; simp
   rw [hal, hpl]
   have hpc := lH acc 2 11
   simp only [lF, List.append_nil]
   generalize aW b = B at *
   generalize bW acc = pc at *
   generalize hid : ints days = id at *
   generalize days.length = K at *
   refine aJ (I5 ..) ?_
   simp [D7, hcl, hbc, hpc]
 | cons d rest ih =>
   intro pre acc fr hdd hne hal
   have hn := ih (pre ++ [d]) (acc ++ [(fr, (d : Int))]) d (by rw [hdd]; simp) (by simp) (by simp [hal])
   have hmk : acc ++ lF fr (d :: rest) = acc ++ [(fr, (d : Int))] ++ lF d rest := by simp [lF]
   rw [← hmk] at hn
   have hlt : pre.length < days.length := by rw [hdd]; simp
   have hget : (ints days)[pre.length]? = some (.int .i64 d) := by
    rw [hdd]; simp [ints]
   have hpc := lH acc 2 11
   rw [adU] at hn
   have hpl := JD acc
   rw [show bW [(fr, (d : Int))] = [.int .i64 fr, .int .i64 d] from rfl] at hn
   have htk : (bW acc).take (acc.length * 2) = bW acc := List.take_of_length_le (by omega)
   have hil : (ints days).length = days.length := BJ days
   have e1 : IntKind.i64.wrap ((pre.length : Int) + 1) = ((pre.length + 1 : Nat) : Int) := by rw [wrap64 _ (by omega)]; omega
   have hlen : acc.length + 1 ≤ 4294967296 := by omega
   rw [List.length_append, List.length_append] at hn
   simp only [List.length_singleton] at hn
   generalize bW (acc ++ lF fr (d :: rest)) = pz at *
   generalize aW b = B at *
   generalize bW acc = pc at *
   generalize ints days = id at *
   generalize days.length = K at *
   generalize hA : acc.length = A at *
   generalize pre.length = P at *
   have hltI : (P : Int) < K := by omega
   simp at hn
   refine aJ (I5 ..) ?_
   simp [D7, hcl, hbc, hpc, hlt, hltI, hget, sW, htk, e1, hlen, hpl, hn]
end Go.Ev.Code
end
section
namespace Go.Ev.Code
open Go Go.Ev
def iy (b : aV) : List (Int × Int) := lF b.issue (jL b (eu b)).reverse
def RI (b : aV) : Bool := match anch b (eu b) with
 | some d => decide ((d : Int) = b.issue)
 | none => false
def jm (b : aV) : Err × List (Int × Int) := match chk b with
 | some e => (some e, [])
 | none => if RI b = true then (none, iy b) else if b.stub = 0 then (some (5, zq), []) else if b.stub = 2 then
   (match iy b with
    | _ :: q :: r => (none, (b.issue, q.2) :: r)
    | ps => (none, ps))
   else (none, iy b)
def kS (ps : List (Int × Int)) : D := .sl ps.length (bW ps)
def wC (r : Err × List (Int × Int)) : D := .aS [kS r.2, dh r.1]
theorem zU (b : aV) : (iy b).length = eu b := by unfold iy; rw [ag8, List.length_reverse, Es]
theorem Vu (l : List (Int × Int)) (n : Nat) (m : Mem) : kC (fz (n + 1)) (bW l) m = some (bW l, m) := by
 induction l with
 | nil => rfl
 | cons x xs ih => obtain ⟨a, b⟩ := x; simp [bW, ih]
theorem ahh {b : aV} {days : List Nat} {nx : Int} {is : Bool} (hd : days.length ≤ 90000) (hne : days ≠ []) :
  L.loop [1, 6, 7, 8, 9, 27, 28, 29] [1, 6, 7, 8] uf 2 [.loc 0 0, .int .i64 nx, .bool is, .bK, .int .i64 b.issue, .aT 1 0 days.length 1, .int .i64 days.length, .int .i64 0]
    [.live (aW b), .live (ints days)] =
    some (.exit 0, [.loc 0 0, .int .i64 nx, .bool is, .aT 2 0 days.length 2], [.live (aW b), .live (ints days), .live (bW (lF b.issue days))]) := by
 obtain ⟨d, rest, rfl⟩ : ∃ d rest, days = d :: rest := List.exists_cons_of_ne_nil hne
 have hn := adN (b := b) (nx := nx) (is := is) hd rest [d] [(b.issue, (d : Int))] d rfl (by simp) rfl
 have hcl := Jt (d :: rest) 2 11
 have hbc : (aW b).all (D.clo 2 12) = true := by obtain ⟨i, m, f, c, rd, n, s, e, ex⟩ := b; simp [aW]
 rw [show [(b.issue, (d : Int))] ++ lF d rest = lF b.issue (d :: rest) from rfl, show bW [(b.issue, (d : Int))] = [.int .i64 b.issue, .int .i64 d] from rfl] at hn
 have hget : (ints (d :: rest))[0]? = some (.int .i64 d) := by simp [ints]
 have hil := BJ (d :: rest)
 have hlt : 0 < (d :: rest).length := by simp
 generalize bW (lF b.issue (d :: rest)) = pz at *
 generalize aW b = B at *
 generalize ints (d :: rest) = id at *
 generalize (d :: rest).length = K at *
 simp at hn
 have hltI : (0 : Int) < K := by omega
 refine aJ (I5 ..) ?_
 simp [D7, hcl, hbc, hlt, hltI, hget, sW, wrap64, hn]
theorem DI {b : aV} (hc : b.je.length ≤ 1000000) (hr : b.jg.length ≤ 1000000) : L.call iU [bQ b] = some (wC (jm b)) := by
 have hck := sN hc hr
 by_cases hchk : chk b = none
 ·obtain ⟨k1, k2, k3⟩ := N_ (iD hchk).2.1
  have kp := YV hchk
  have han := agI (by omega) kp k1 k2
  have hlen := Es b (eu b)
  have hrev := akH (pre := [.live (aW b)]) (l := ints (jL b (eu b))) (by obtain ⟨i, m, f, c, rd, n, s, e, ex⟩ := b; simp [aW]) (by rw [BJ, hlen]; omega)
   (fun d hd => by
    simp only [ints, List.mem_map] at hd
    obtain ⟨x, _, rfl⟩ := hd
    exact ⟨rfl, rfl⟩)
  rw [BJ, hlen, show (ints (jL b (eu b))).reverse = ints (jL b (eu b)).reverse by simp [ints]] at hrev
  have hz : uS (anch b (eu b)) = .int .i64 ((anch b (eu b)).getD 0 : Nat) := by cases anch b (eu b) <;> rfl
  rw [hz] at han
  have hlp := ahh (b := b) (days := (jL b (eu b)).reverse) (nx := ((anch b (eu b)).getD 0 : Nat)) (is := (anch b (eu b)).isSome) (by rw [List.length_reverse, hlen]; omega) (by
   intro h
   have := congrArg List.length h
   rw [List.length_reverse, hlen] at this
   simp at this; omega)
  rw [List.length_reverse, hlen] at hlp
  have hpl := JD (iy b)
  have hrl := zU b
  rw [hrl] at hpl
  have hit : RI b = ((anch b (eu b)).isSome && decide ((((anch b (eu b)).getD 0 : Nat) : Int) = b.issue)) := by
   unfold RI
   cases anch b (eu b) <;> simp
  have htk : (bW (iy b)).take (eu b * 2) = bW (iy b) := List.take_of_length_le (by omega)
  have hfz : ∀ m, kC (fz 10) (bW (iy b)) m = some (bW (iy b), m) := fun m => Vu (iy b) 9 m
  have hpc := lH (iy b) 0 11
  unfold jm
  rw [hchk]
  simp only
  rw [hit]
  unfold iy at *
  generalize (anch b (eu b)).isSome = is at *
  generalize (anch b (eu b)).getD 0 = nx at *
  generalize ints (jL b (eu b)).reverse = rv at *
  generalize ints (jL b (eu b)) = iv at *
  have f2 : L.call eH [.int .i64 5, .str [115, 116, 117, 98]] = some (fP 5 zq) := uV (c := 5) (by decide) zq
  rw [hchk] at hck
  simp [dh] at hck
  generalize hps : lF b.issue (jL b (eu b)).reverse = ps at *
  generalize hk : eu b = K at *
  obtain ⟨i, m, f, c, rd, n, s, e, ex⟩ := b
  unfold bQ aW at *
  simp only at *
  simp at hrev
  refine aO ZH rfl (ZC ..) ?_
  by_cases hh : (is && decide ((nx : Int) = i)) = true
  ·rw [if_pos hh]
   simp only [Bool.and_eq_true, decide_eq_true_eq] at hh
   obtain ⟨rfl, hh⟩ := hh
   rw [hh] at han hlp
   simp [oz, hck, han, hrev, hlp, hpc, hfz, hpl, htk, wC, kS, hrl, dh]
  ·rw [if_neg hh]
   by_cases hs0 : s = 0
   ·subst hs0
    rw [if_pos rfl]
    cases is with
    | false => simp [oz, hck, han, hrev, hlp, f2, wC, kS, dh, fP, zq, bW]
    | true =>
      have hh : ¬ (nx : Int) = i := by simpa using hh
      simp [oz, hck, han, hrev, hlp, hh, f2, wC, kS, dh, fP, zq, bW]
   ·rw [if_neg hs0]
    have hh2 : is = false ∨ (is = true ∧ ¬ (nx : Int) = i) := by
     cases is with
     | false => exact .inl rfl
     | true => exact .inr ⟨rfl, by simpa using hh⟩
    by_cases hs2 : s = 2
    ·subst hs2
     rw [if_pos rfl]
     by_cases hK1 : 1 < K
     ·obtain ⟨p, q, r, rfl⟩ : ∃ p q r, ps = p :: q :: r := by
       cases ps with
       | nil => simp at hrl; omega
       | cons p t => cases t with
         | nil => simp at hrl; omega
         | cons q r => exact ⟨p, q, r, rfl⟩
      obtain ⟨p1, p2⟩ := p
      obtain ⟨q1, q2⟩ := q
      have hK1' : (1 : Int) < K := by omega
      have hrK : r.length + 1 + 1 = K := by simpa using hrl
      have hKr : K - 1 = r.length + 1 := by omega
      have hrl2 := JD r
      have hfz2 : ∀ m, kC (fz 10) (bW r) m = some (bW r, m) := fun m => Vu r 9 m
      have hbn : sH true false K [.int .i64 1] = some (1, K) := by
       have h1K : (1 : Int) ≤ K := by omega
       have h1K' : 1 ≤ K := by omega
       simp [sH, bnd, h1K, h1K']
      have hpc2 := lH r 0 11
      have htk2 : (bW r).take (r.length * 2) = bW r := List.take_of_length_le (by omega)
      have hb1 : 2 + (r.length + 1) * 2 ≤ (bW r).length + 1 + 1 + 1 + 1 := by omega
      have hb2 : (r.length + 1) * 2 = r.length * 2 + 1 + 1 := by omega
      have hb3 : 2 + (r.length * 2 + 1 + 1) ≤ r.length * 2 + 1 + 1 + 1 + 1 := by omega
      simp only [bW] at hlp
      rcases hh2 with rfl | ⟨rfl, hh2⟩
      ·simp [oz, hck, han, hrev, hlp, hK1, hK1', hbn, hKr, hrl2, hfz2, hpc2, htk2, hb1, hb2, hb3, wC, kS, bW, dh]
      ·simp [oz, hck, han, hrev, hlp, hh2, hK1, hK1', hbn, hKr, hrl2, hfz2, hpc2, htk2, hb1, hb2, hb3, wC, kS, bW, dh]
     ·have hK1' : ¬ (1 : Int) < K := by omega
      have hcase : (match ps with | _ :: q :: r => ((none : Err), (i, q.2) :: r) | ps => (none, ps)) = (none, ps) := by
       match ps, hrl with
       | [], _ => rfl
       | [_], _ => rfl
       | _ :: _ :: _, hrl => simp at hrl; omega
      rw [hcase]
      rcases hh2 with rfl | ⟨rfl, hh2⟩
      ·simp [oz, hck, han, hrev, hlp, hK1, hK1', hpc, hfz, hpl, htk, wC, kS, hrl, dh]
      ·simp [oz, hck, han, hrev, hlp, hh2, hK1, hK1', hpc, hfz, hpl, htk, wC, kS, hrl, dh]
    ·rw [if_neg hs2]
     rcases hh2 with rfl | ⟨rfl, hh2⟩
     ·simp [oz, hck, han, hrev, hlp, hs0, hs2, hpc, hfz, hpl, htk, wC, kS, hrl, dh]
     ·simp [oz, hck, han, hrev, hlp, hh2, hs0, hs2, hpc, hfz, hpl, htk, wC, kS, hrl, dh]
 ·cases hce : chk b with
  | none => exact absurd hce hchk
  | some er =>
    unfold jm
    rw [hce] at hck ⊢
    obtain ⟨ec, es⟩ := er
    simp only [wC, kS, bW, List.length_nil]
    obtain ⟨i, m, f, c, rd, n, s, e, ex⟩ := b
    unfold bQ aW at *
    simp only at *
    simp [dh, fP] at hck
    refine aO ZH rfl (ZC ..) ?_
    simp [oz, hck, dh, fP]
end Go.Ev.Code
end
section
namespace Go.Ev.Code
open Go Go.Ev
def yB (b : aV) (day : Int) : Nat → Nat → Option Nat
 | 0, _ => none
 | f + 1, k => match anch b k with
   | some a => if (a : Int) < day then none else if (a : Int) = day then some k else yB b day f (k + 1)
   | none => none
def JE (b : aV) (day : Int) : Option Nat := yB b day 3602 0
def zH : Option Nat → List D
 | some k => [.int .i64 k, .bool true]
 | none => [.int .i64 0, .bool false]
theorem ah8 (b : aV) (hm : months b ≠ 0) : anch b 3601 = none := by
 have hc := lG b
 unfold anch sG
 split
 ·rw [acy (by rcases hc with h | h | h | h | h <;> rw [h] <;> omega)]
 ·rfl
theorem ahe {b : aV} (hm : months b ≠ 0) {day : Int} : ∀ (f k : Nat), k + f = 3602 →
  L.loop [1, 2, 6] [4, 5] lZ 1 [.int .i64 day, .loc 0 0, .int .i64 k] [.live (aW b)] = some (.ret, zH (yB b day f k), [.live (aW b)]) ∨ f = 0 := by
 intro f
 induction f with
 | zero => intro k hk; exact .inr rfl
 | succ f ih =>
   intro k hk
   left
   have ha := u_ b (k := k) (by omega)
   have hn := ih (k + 1) (by omega)
   have hlast : f = 0 → anch b k = none := fun h => by
    have : k = 3601 := by omega
    rw [this]; exact ah8 b hm
   simp only [yB]
   have e1 : IntKind.i64.wrap ((k : Int) + 1) = ((k + 1 : Nat) : Int) := by rw [wrap64 _ (by omega)]; omega
   generalize anch b k = r at *
   generalize yB b day f (k + 1) = r2 at *
   obtain ⟨i, m, fq, c, rd, n, s, e, ex⟩ := b
   unfold bQ aW at *
   simp only at *
   refine aJ (WQ ..) ?_
   cases r with
   | none => simp [uS] at ha; simp [oO, ha, zH]
   | some a =>
     simp [uS] at ha
     simp only
     by_cases h1 : (a : Int) < day
     ·simp [oO, ha, h1, zH]
     ·by_cases h2 : (a : Int) = day
      ·subst h2
       simp [oO, ha, zH]
      ·rcases hn with hn | hn
       ·cases r2 with
        | none => simp [zH] at hn; simp [oO, ha, h1, h2, e1, hn, zH]
        | some k2 => simp [zH] at hn; simp [oO, ha, h1, h2, e1, hn, zH]
       ·have := hlast hn; simp at this
theorem abP {b : aV} (hm : months b ≠ 0) (day : Int) : L.call wE [bQ b, .int .i64 day] = some (.aS (zH (JE b day))) := by
 have hl := (ahe hm (day := day) 3602 0 rfl).resolve_right (by decide)
 change L.loop [1, 2, 6] [4, 5] lZ 1 [.int .i64 day, .loc 0 0, .int .i64 0] [.live (aW b)] = some (.ret, zH (JE b day), [.live (aW b)]) at hl
 generalize JE b day = r at *
 obtain ⟨i, m, fq, c, rd, n, s, e, ex⟩ := b
 unfold bQ aW at *
 simp only at *
 refine aO acw rfl (acj ..) ?_
 cases r with
 | none => simp [zH] at hl; simp [JY, hl, zH]
 | some k => simp [zH] at hl; simp [JY, hl, zH]
theorem Nb {b : aV} {day : Int} : ∀ {f k j : Nat}, yB b day f k = some j → j < k + f ∧ anch b j = some day.toNat ∧ 0 ≤ day
 | 0, k, j, h => by simp [yB] at h
 | f + 1, k, j, h => by
   simp only [yB] at h
   split at h <;> try (simp at h; done)
   rename_i a ha
   split at h <;> try (simp at h; done)
   split at h
   ·rename_i h2
    simp at h
    subst h
    refine ⟨by omega, ?_, by omega⟩
    rw [ha]; congr 1; omega
   ·have := Nb h
    exact ⟨by omega, this.2⟩
def quasi (b : aV) (day : Int) : Option Nat := match JE b day with
 | some k => if day ≤ b.issue then none else anch b (k + 1)
 | none => none
def V_ (b : aV) (day : Int) : D := match chk b with
 | some e => .aS [.int .i64 0, dh (some e)]
 | none => jo (quasi b day)
theorem Bc {b : aV} (hc : b.je.length ≤ 1000000) (hr : b.jg.length ≤ 1000000) (day : Int) : L.call lI [bQ b, .int .i64 day] = some (V_ b day) := by
 have hck := sN hc hr
 by_cases hchk : chk b = none
 ·have hm := (iD hchk).2.1
  have hp := abP hm day
  have hps := fun {j} => @Nb b day 3602 0 j
  have han := fun k (hk : k ≤ 100000) => u_ b (k := k) hk
  unfold V_ quasi
  rw [hchk] at hck ⊢
  simp only
  unfold JE at *
  generalize yB b day 3602 0 = r at *
  simp [dh] at hck
  cases r with
  | none =>
    obtain ⟨i, m, fq, c, rd, n, s, e, ex⟩ := b
    unfold bQ aW at *
    simp only at *
    simp [zH] at hp
    refine aO I9 rfl (I7 ..) ?_
    simp [vk, hck, hp, bV, jo]
  | some k =>
    have hk := (hps rfl).1
    have ha := han (k + 1) (by omega)
    have e1 : IntKind.i64.wrap ((k : Int) + 1) = ((k + 1 : Nat) : Int) := by rw [wrap64 _ (by omega)]; omega
    show L.call lI [bQ b, .int .i64 day] = some (jo (if day ≤ b.issue then none else anch b (k + 1)))
    generalize anch b (k + 1) = r2 at *
    obtain ⟨i, m, fq, c, rd, n, s, e, ex⟩ := b
    unfold bQ aW at *
    simp only at *
    simp [zH] at hp
    refine aO I9 rfl (I7 ..) ?_
    by_cases hd : day ≤ i
    ·simp [vk, hck, hp, hd, bV, jo]
    ·cases r2 with
     | none => simp [uS] at ha; simp [vk, hck, hp, hd, e1, ha, bV, jo]
     | some a => simp [uS] at ha; simp [vk, hck, hp, hd, e1, ha, jo]
 ·cases hce : chk b with
  | none => exact absurd hce hchk
  | some er =>
    obtain ⟨ec, es⟩ := er
    unfold V_
    rw [hce] at hck ⊢
    obtain ⟨i, m, fq, c, rd, n, s, e, ex⟩ := b
    unfold bQ aW at *
    simp only at *
    simp [dh, fP] at hck
    refine aO I9 rfl (I7 ..) ?_
    simp [vk, hck, dh, fP]
def pD (p : Int × Int) : D := .agg [.int .i64 p.1, .int .i64 p.2]
def regular (b : aV) (p : Int × Int) : Bool := match chk b with
 | some _ => false
 | none => match quasi b p.2 with
   | some a => decide ((a : Int) = p.1)
   | none => false
theorem L8 {b : aV} (hc : b.je.length ≤ 1000000) (hr : b.jg.length ≤ 1000000) (p : Int × Int) : L.call gW [bQ b, pD p] = some (.bool (regular b p)) := by
 have hq := Bc hc hr p.2
 obtain ⟨p1, p2⟩ := p
 unfold regular pD
 unfold V_ at hq
 simp only at hq ⊢
 generalize chk b = ck at *
 generalize quasi b p2 = q at *
 obtain ⟨i, m, fq, c, rd, n, s, e, ex⟩ := b
 unfold bQ aW at *
 refine aO Yz rfl (Yn ..) ?_
 cases ck with
 | some er => obtain ⟨ec, es⟩ := er; simp [dh, fP] at hq; simp [zo, hq]
 | none =>
   cases q with
   | none => simp [jo] at hq; simp [zo, hq]
   | some a => simp [jo] at hq; simp [zo, hq]
end Go.Ev.Code
end
section
namespace Go.Ev.Code
open Go Go.Ev
theorem vO {y m d y' m' d' : Nat} (h : uO y m d) (h' : uO y' m' d') (hlt : y * 12 + m < y' * 12 + m') : dayOf y m d < dayOf y' m' d' := by
 have a1 := h.m1
 have a2 := h.m2
 have a3 := h'.m1
 have a4 := h'.m2
 have a5 := h.d1
 have a6 := h.d2
 have a7 := h'.d1
 have a8 := h.y1
 rcases Nat.lt_or_ge y y' with hy | hy
 ·have h1 := h.hi
  have h2 := h'.lo
  have h3 := Et (x := y + 1) (y := y') (by omega) hy
  omega
 ·have hyy : y = y' := by omega
  subst hyy
  have hm : m < m' := by omega
  have h4 : bU y m = bU y (m - 1) + bf y m := by
   obtain ⟨q, rfl⟩ : ∃ q, m = q + 1 := ⟨m - 1, by omega⟩
   simp only [bU, Nat.add_sub_cancel]
  have h5 := Jp y (j := m) (k := m' - 1) (by omega)
  unfold dayOf
  omega
theorem OO {day n : Int} {e : Bool} {r : Nat} (h : sG day n e = some r) : ∃ y m d, uO y m d ∧ r = dayOf y m d ∧
  ((y * 12 + m : Nat) : Int) = (((jF day.toNat).1 * 12 + (jF day.toNat).2.1 : Nat) : Int) + n := by
 unfold sG at h
 split at h <;> try (simp at h; done)
 rename_i hd
 obtain ⟨y, m, d, hc, hd, ho⟩ := dU hd
 rw [ho] at h ⊢
 unfold Eo at h
 split at h <;> try (simp at h; done)
 simp only at h ⊢
 have h1 := hc.y1
 have h3 := hc.m1
 have h12 : 1 ≤ ((((y * 12 + m - 1 : Nat) : Int) + n) % 12).toNat + 1 ∧ ((((y * 12 + m - 1 : Nat) : Int) + n) % 12).toNat + 1 ≤ 12 := by omega
 have hsum : (((((((y * 12 + m - 1 : Nat) : Int) + n) / 12).toNat * 12 + (((((y * 12 + m - 1 : Nat) : Int) + n) % 12).toNat + 1) : Nat)) : Int) = ((y * 12 + m : Nat) : Int) + n := by omega
 generalize ((((y * 12 + m - 1 : Nat) : Int) + n) % 12).toNat + 1 = m' at *
 generalize ((((y * 12 + m - 1 : Nat) : Int) + n) / 12).toNat = y' at *
 have hp := yj (y := y') h12.1 h12.2
 have hd1 := hc.d1
 obtain ⟨q1, q2⟩ := adD h12.1 h12.2 (by split <;> omega) (by split <;> omega) h
 exact ⟨_, _, _, q1, q2, hsum⟩
theorem YE {b : aV} (hm : months b ≠ 0) {j k a c : Nat} (hjk : j < k) (hj : anch b j = some a) (hk : anch b k = some c) : c < a := by
 obtain ⟨y, m, d, h1, h2, h3⟩ := OO hj
 obtain ⟨y', m', d', h1', h2', h3'⟩ := OO hk
 rw [h2, h2']
 refine vO h1' h1 ?_
 have hc := lG b
 rcases hc with h | h | h | h | h
 ·exact absurd h hm
 all_goals (rw [h] at h3 h3'; omega)
theorem Vk {b : aV} {k a : Nat} (h : anch b k = some a) : bF a := Ji h
theorem ahd {b : aV} (hm : months b ≠ 0) {k a : Nat} (hk : anch b k = some a) (hall : ∀ i, i < k → (anch b i).isSome = true) (hk2 : k < 3602) : JE b a = some k := by
 unfold JE
 have : ∀ f i, i ≤ k → k < i + f → yB b a f i = some k := by
  intro f
  induction f with
  | zero => intro i h1 h2; omega
  | succ f ih =>
    intro i h1 h2
    simp only [yB]
    rcases Nat.lt_or_ge i k with h | h
    ·obtain ⟨c, hc⟩ := Option.isSome_iff_exists.1 (hall i h)
     have := YE hm h hc hk
     rw [hc]
     simp only
     rw [if_neg (by omega), if_neg (by omega)]
     exact ih (i + 1) h (by omega)
    ·have : i = k := by omega
     subst this
     rw [hk]
     simp
 exact this 3602 0 (by omega) (by omega)
theorem Ti {b : aV} (hchk : chk b = none) {k a : Nat} (hk : k < eu b) (h1 : anch b k = some a) {p : Int} (h2 : ∃ c, anch b (k + 1) = some c ∧ (c : Int) = p) : regular b (p, (a : Int)) = true := by
 have hm := (iD hchk).2.1
 obtain ⟨g1, g2, g3⟩ := N_ hm
 obtain ⟨c, hc, hcp⟩ := h2
 have hpl := ahd hm h1 (fun i hi => by
  obtain ⟨d, hd, _⟩ := g1 i (by omega)
  rw [hd]; rfl) (by omega)
 obtain ⟨d, hd, hdi⟩ := g1 k hk
 rw [h1] at hd
 simp at hd
 subst hd
 unfold regular quasi
 rw [hchk]
 simp only [hpl]
 rw [if_neg (by omega), hc]
 simp [hcp]
theorem anp {b : aV} (hchk : chk b = none) : eu b ≤ 199 := by
 obtain ⟨q1, hm, _⟩ := iD hchk
 obtain ⟨d1, d2, d3⟩ := CZ q1
 obtain ⟨g1, g2, g3⟩ := N_ hm
 have kp := YV hchk
 have hper : SI b ≤ 200 := by
  have h := hchk
  unfold chk at h
  split at h <;> try (simp at h; done)
  split at h <;> try (simp at h; done)
  split at h <;> try (simp at h; done)
  split at h <;> try (simp at h; done)
  split at h <;> try (simp at h; done)
  split at h <;> try (simp at h; done)
  split at h <;> try (simp at h; done)
  omega
 obtain ⟨d, hd, hdi⟩ := g1 (eu b - 1) (by omega)
 obtain ⟨y, m, dd, h1, h2, h3⟩ := OO hd
 obtain ⟨yi, mi, di, hci, hdi2, hoi⟩ := dU d1
 have hge : yi * 12 + mi ≤ y * 12 + m := by
  rcases Nat.lt_or_ge (y * 12 + m) (yi * 12 + mi) with h | h
  ·have := vO h1 hci h
   omega
  ·exact h
 have hb : m_ b.issue b.dD = ((eu b - 1 : Nat) : Int) * months b + (((y * 12 + m : Nat) : Int) - ((yi * 12 + mi : Nat) : Int)) := by
  unfold m_
  rw [hoi]
  simp only
  rw [Int.neg_mul] at h3
  omega
 have hnn : ((eu b - 1 : Nat) : Int) * months b ≤ m_ b.issue b.dD := by omega
 unfold SI at hper
 generalize m_ b.issue b.dD = bw at *
 have hc := lG b
 rcases hc with h | h | h | h | h
 ·exact absurd h hm
 all_goals
  rw [h] at hper hnn
  rw [Int.tdiv_eq_ediv_of_nonneg (by omega)] at hper
  omega
end Go.Ev.Code
end
