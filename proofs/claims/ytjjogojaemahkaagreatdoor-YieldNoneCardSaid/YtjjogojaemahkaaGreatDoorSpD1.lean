/- A part of the proof of the theorem yieldNone_card. -/
import Derived.Test.YtjjogojaemahkaaGreatDoorSpC
section
set_option linter.unusedVariables false
set_option linter.unusedSimpArgs false
namespace Go.Ev.Code
open Go Go.Ev
def leap (y : Nat) : Bool := decide (y % 4 = 0 ∧ (y % 100 ≠ 0 ∨ y % 400 = 0))
def mlen (y m : Nat) : Nat := match m with
  | 2 => if leap y then 29 else 28
  | 4 | 6 | 9 | 11 => 30
  | 1 | 3 | 5 | 7 | 8 | 10 | 12 => 31
  | _ => 0
def bef (y : Nat) : Nat := 365 * (y - 1900) + ((y - 1) / 4 - (y - 1) / 100 + (y - 1) / 400) - 460
theorem tdiv_nat (a b : Nat) : Int.tdiv (a : Int) (b : Int) = ((a / b : Nat) : Int) := rfl
theorem tmod_nat (a b : Nat) : Int.tmod (a : Int) (b : Int) = ((a % b : Nat) : Int) := rfl
theorem date_before_ok {y : Nat} (h1 : 1900 ≤ y) (h2 : y ≤ 1000000) : L.call date_before [.int .i64 y] = some (.int .i64 (bef y)) := by
  have e1 : IntKind.i64.wrap ((y : Int) - 1) = ((y - 1 : Nat) : Int) := by rw [wrap64 _ (by omega)]; omega
  have e2 : IntKind.i64.wrap ((y : Int) - 1900) = ((y - 1900 : Nat) : Int) := by rw [wrap64 _ (by omega)]; omega
  have q1 := tdiv_nat (y - 1) 4
  have q2 := tdiv_nat (y - 1) 100
  have q3 := tdiv_nat (y - 1) 400
  simp at q1 q2 q3
  have hb : bef y = 365 * (y - 1900) + ((y - 1) / 4 - (y - 1) / 100 + (y - 1) / 400) - 460 := rfl
  refine callL T_date_before rfl (S_date_before ..) ?_
  simp (disch := omega) [s_date_before, e1, e2, q1, q2, q3, wrap64]
  omega
theorem date_Leap_ok {y : Nat} (h : y ≤ 1000000) : L.call date_Leap [.int .i64 y] = some (.bool (leap y)) := by
  have q1 := tmod_nat y 4
  have q2 := tmod_nat y 100
  have q3 := tmod_nat y 400
  simp at q1 q2 q3
  refine callL T_date_Leap rfl (S_date_Leap ..) ?_
  unfold leap
  by_cases h4 : y % 4 = 0
  · by_cases h100 : y % 100 = 0
    · by_cases h400 : y % 400 = 0
      · simp (disch := omega) [s_date_Leap, q1, q2, q3, h4, h100, h400]
        have : (y : Int) % 4 = 0 := by omega
        have : (y : Int) % 100 = 0 := by omega
        have : (y : Int) % 400 = 0 := by omega
        simp [*]
      · have : (y : Int) % 4 = 0 := by omega
        have : (y : Int) % 100 = 0 := by omega
        have : ¬ (y : Int) % 400 = 0 := by omega
        simp (disch := omega) [s_date_Leap, q1, q2, q3, *]
    · have : (y : Int) % 4 = 0 := by omega
      have : ¬ (y : Int) % 100 = 0 := by omega
      simp (disch := omega) [s_date_Leap, q1, q2, q3, *]
  · have : ¬ (y : Int) % 4 = 0 := by omega
    simp (disch := omega) [s_date_Leap, q1, q2, q3, *]
end Go.Ev.Code
end
section
set_option linter.unusedVariables false
set_option linter.unusedSimpArgs false
namespace Go.Ev.Code
open Go Go.Ev
theorem date_Length_ok {y m : Nat} (h : y ≤ 1000000) (h1 : 1 ≤ m) (h2 : m ≤ 12) : L.call date_Length [.int .i64 y, .int .i64 m] = some (.int .i64 (mlen y m)) := by
  have hl := date_Leap_ok h
  refine callL T_date_Length rfl (S_date_Length ..) ?_
  have : m = 1 ∨ m = 2 ∨ m = 3 ∨ m = 4 ∨ m = 5 ∨ m = 6 ∨ m = 7 ∨ m = 8 ∨ m = 9 ∨ m = 10 ∨ m = 11 ∨ m = 12 := by omega
  rcases this with rfl | rfl | rfl | rfl | rfl | rfl | rfl | rfl | rfl | rfl | rfl | rfl
  case inr.inl =>
    cases hy : leap y <;> rw [hy] at hl <;> simp [s_date_Length, mlen, hl, hy]
  all_goals simp [s_date_Length, mlen]
theorem date_is_ok (n : Int) : L.call date_is [.int .i64 n] = some (.bool (decide (0 ≤ n ∧ n ≤ 109572))) := by
  refine callL T_date_is rfl (S_date_is ..) ?_
  by_cases h : 0 ≤ n
  · by_cases h' : n ≤ 109572 <;> simp [s_date_is, h, h']
  · simp [s_date_is, h]
def wday (n : Int) : Int := if 0 ≤ n ∧ n ≤ 109572 then (n + 1) % 7 else -1
theorem date_Weekday_ok (n : Int) : L.call date_Weekday [.int .i64 n] = some (.int .i64 (wday n)) := by
  have h := date_is_ok n
  refine callL T_date_Weekday rfl (S_date_Weekday ..) ?_
  unfold wday
  by_cases hn : 0 ≤ n ∧ n ≤ 109572
  · rw [decide_eq_true hn] at h
    have e : Int.tmod (n + 1) 7 = (n + 1) % 7 := Int.tmod_eq_emod_of_nonneg (by omega)
    simp (disch := omega) [s_date_Weekday, h, wrap64, hn, e]
  · rw [decide_eq_false hn] at h
    simp [s_date_Weekday, h, hn]
def cum (y : Nat) : Nat → Nat
  | 0 => 0
  | k + 1 => cum y k + mlen y (k + 1)
theorem mlen_le (y m : Nat) : mlen y m ≤ 31 := by unfold mlen; split <;> (try split) <;> omega
theorem cum_le (y k : Nat) : cum y k ≤ 31 * k := by
  induction k with
  | zero => simp [cum]
  | succ k ih => have := mlen_le y (k + 1); simp only [cum]; omega
theorem bef_le {y : Nat} (h : y ≤ 2200) : bef y ≤ 109573 := by unfold bef; omega
def civD (y m d : Nat) : D := .agg [.int .i64 y, .int .i64 m, .int .i64 d]
theorem of_loop {y m d A : Nat} (hy : y ≤ 2200) (hm : m ≤ 12) (hA : A ≤ 1000000) : ∀ (j k : Nat), k + j = m → 1 ≤ k →
    L.loop [1, 4, 5] [4] date_Of_b1 1 [.loc 0 0, .int .i64 ((A + cum y (k - 1) : Nat) : Int), .int .i64 k] [.live [.int .i64 y, .int .i64 m, .int .i64 d]] =
      some (.exit 0, [.int .i64 ((A + cum y (m - 1) : Nat) : Int)], [.live [.int .i64 y, .int .i64 m, .int .i64 d]]) := by
  intro j
  induction j with
  | zero =>
    intro k hk h1
    have : k = m := by omega
    subst this
    generalize A + cum y (k - 1) = B
    refine roundL (S_date_Of_b1 ..) ?_
    simp [s_date_Of_b1]
  | succ j ih =>
    intro k hk h1
    have hl := date_Length_ok (y := y) (m := k) (by omega) h1 (by omega)
    have hn := ih (k + 1) (by omega) (by omega)
    have hc : A + cum y (k + 1 - 1) = A + cum y (k - 1) + mlen y k := by
      rw [Nat.add_sub_cancel]
      obtain ⟨q, rfl⟩ : ∃ q, k = q + 1 := ⟨k - 1, by omega⟩
      simp only [cum, Nat.add_sub_cancel]; omega
    rw [hc] at hn
    have hb := cum_le y (k - 1)
    have hb2 := mlen_le y k
    have hlt : k < m := by omega
    have hBl : A + cum y (k - 1) ≤ 1000372 := by omega
    generalize A + cum y (k - 1) = B at *
    generalize A + cum y (m - 1) = C at *
    generalize mlen y k = l at *
    have e1 : IntKind.i64.wrap ((B : Int) + l) = ((B + l : Nat) : Int) := by rw [wrap64 _ (by omega)]; omega
    have e2 : IntKind.i64.wrap ((k : Int) + 1) = ((k + 1 : Nat) : Int) := by rw [wrap64 _ (by omega)]; omega
    generalize B + l = B2 at *
    generalize k + 1 = k2 at *
    refine roundL (S_date_Of_b1 ..) ?_
    simp (disch := omega) [s_date_Of_b1, hl, hlt, e1, e2, hn]
def dayOf (y m d : Nat) : Nat := bef y + cum y (m - 1) + d - 1
theorem date_Of_ok {y m d : Nat} (h1 : 1900 ≤ y) (h2 : y ≤ 2199) (hm : 1 ≤ m) (hm2 : m ≤ 12) (hd : 1 ≤ d) (hd2 : d ≤ mlen y m) :
    L.call date_Of [civD y m d] = some (.tup [.int .i64 (dayOf y m d), .nili]) := by
  have hl := date_Length_ok (y := y) (m := m) (by omega) hm hm2
  have hb := date_before_ok h1 (by omega)
  have hlp := of_loop (y := y) (m := m) (d := d) (A := bef y + d - 1) (by omega) hm2 (by have := bef_le (y := y) (by omega); have := mlen_le y m; omega) (m - 1) 1 (by omega) (by omega)
  simp only [Nat.sub_self, cum, Nat.add_zero] at hlp
  have hbb := bef_le (y := y) (by omega)
  have hml := mlen_le y m
  have hC : bef y + d - 1 + cum y (m - 1) = dayOf y m d := by unfold dayOf; omega
  rw [hC, show ((1 : Nat) : Int) = 1 from rfl] at hlp
  have g1 : ¬ (y : Int) < 1900 := by omega
  have g2 : ¬ (2199 : Int) < y := by omega
  have g3 : ¬ (d : Int) < 1 := by omega
  generalize mlen y m = l at *
  have g4 : ¬ (l : Int) < d := by omega
  have g5 : ¬ l < d := by omega
  have g6 : ¬ 2199 < y := by omega
  generalize dayOf y m d = r at *
  generalize bef y = b at *
  have e1 : IntKind.i64.wrap ((b : Int) + d) = ((b + d : Nat) : Int) := by rw [wrap64 _ (by omega)]; omega
  have e2 : IntKind.i64.wrap (((b + d : Nat) : Int) - 1) = ((b + d - 1 : Nat) : Int) := by rw [wrap64 _ (by omega)]; omega
  generalize b + d - 1 = b1 at *
  generalize b + d = b2 at *
  refine callL T_date_Of rfl (S_date_Of ..) ?_
  unfold civD
  simp (disch := omega) [s_date_Of, hl, hb, g1, g2, g3, g4, g5, g6, e1, e2, hlp]
end Go.Ev.Code
end
section
set_option linter.unusedVariables false
set_option linter.unusedSimpArgs false
namespace Go.Ev.Code
open Go Go.Ev
theorem leap_iff (y : Nat) : leap y = true ↔ (y % 4 = 0 ∧ (y % 100 ≠ 0 ∨ y % 400 = 0)) := by unfold leap; simp
theorem cum12 (y : Nat) : cum y 12 = if leap y then 366 else 365 := by
  cases h : leap y <;> simp [cum, mlen, h]
theorem quo_up {z k : Nat} (hk : 0 < k) : (z + 1) / k = z / k + (if (z + 1) % k = 0 then 1 else 0) := by
  rw [Nat.succ_div]
  by_cases h : (z + 1) % k = 0
  · rw [if_pos h, if_pos (Nat.dvd_of_mod_eq_zero h)]
  · rw [if_neg h, if_neg (fun hd => h (Nat.mod_eq_zero_of_dvd hd))]
theorem bef_succ {y : Nat} (h : 1900 ≤ y) : bef (y + 1) = bef y + cum y 12 := by
  rw [cum12]
  have hl := leap_iff y
  obtain ⟨z, rfl⟩ : ∃ z, y = z + 1 := ⟨y - 1, by omega⟩
  by_cases hz : z = 1899
  · subst hz; decide
  have hz2 : 1900 ≤ z := by omega
  unfold bef
  have h4 := quo_up (z := z) (k := 4) (by decide)
  have h100 := quo_up (z := z) (k := 100) (by decide)
  have h400 := quo_up (z := z) (k := 400) (by decide)
  have b1 : z / 100 ≤ z / 4 := Nat.div_le_div_left (by decide) (by decide)
  have b2 : 474 ≤ z / 4 := by omega
  have b3 : (z + 1) / 100 ≤ (z + 1) / 4 := Nat.div_le_div_left (by decide) (by decide)
  have b4 : 455 ≤ z / 4 - z / 100 := by omega
  have i1 : (z + 1) % 400 = 0 → (z + 1) % 100 = 0 := fun h => by omega
  have i2 : (z + 1) % 100 = 0 → (z + 1) % 4 = 0 := fun h => by omega
  rw [Nat.add_sub_cancel, Nat.add_sub_cancel]
  generalize (z + 1) % 4 = r4 at *
  generalize (z + 1) % 100 = r100 at *
  generalize (z + 1) % 400 = r400 at *
  generalize (z + 1) / 4 = p4 at *
  generalize (z + 1) / 100 = p100 at *
  generalize (z + 1) / 400 = p400 at *
  generalize z / 4 = s4 at *
  generalize z / 100 = s100 at *
  generalize z / 400 = s400 at *
  by_cases c4 : r4 = 0
  · rw [if_pos c4] at h4
    by_cases c100 : r100 = 0
    · rw [if_pos c100] at h100
      by_cases c400 : r400 = 0
      · rw [if_pos c400] at h400
        rw [if_pos (hl.2 ⟨c4, .inr c400⟩)]; omega
      · rw [if_neg c400] at h400
        rw [if_neg (fun h => by rcases (hl.1 h).2 with h | h <;> contradiction)]; omega
    · rw [if_neg c100] at h100
      have c400 : ¬ r400 = 0 := fun h => c100 (i1 h)
      rw [if_neg c400] at h400
      rw [if_pos (hl.2 ⟨c4, .inl c100⟩)]; omega
  · have c100 : ¬ r100 = 0 := fun h => c4 (i2 h)
    have c400 : ¬ r400 = 0 := fun h => c100 (i1 h)
    rw [if_neg c4] at h4
    rw [if_neg c100] at h100
    rw [if_neg c400] at h400
    rw [if_neg (fun h => c4 (hl.1 h).1)]; omega
theorem cum_mono (y : Nat) {j k : Nat} (h : j ≤ k) : cum y j ≤ cum y k := by
  induction k with
  | zero => have : j = 0 := by omega
            rw [this]; exact Nat.le_refl _
  | succ k ih =>
    rcases Nat.lt_or_ge k j with h1 | h1
    · have : j = k + 1 := by omega
      rw [this]; exact Nat.le_refl _
    · have := ih h1; simp only [cum]; omega
theorem bef_mono {x y : Nat} (h : 1900 ≤ x) (hxy : x ≤ y) : bef x ≤ bef y := by
  induction y with
  | zero => omega
  | succ y ih =>
    rcases Nat.lt_or_ge y x with h1 | h1
    · have : x = y + 1 := by omega
      rw [this]; exact Nat.le_refl _
    · have := ih h1; rw [bef_succ (by omega)]; omega
structure Civ (y m d : Nat) : Prop where
  y1 : 1900 ≤ y
  y2 : y ≤ 2199
  m1 : 1 ≤ m
  m2 : m ≤ 12
  d1 : 1 ≤ d
  d2 : d ≤ mlen y m
theorem Civ.lo {y m d : Nat} (h : Civ y m d) : bef y ≤ dayOf y m d := by have := h.d1; unfold dayOf; omega
theorem Civ.hi {y m d : Nat} (h : Civ y m d) : dayOf y m d < bef (y + 1) := by
  have h1 := h.d1
  have h2 := h.d2
  have h3 := h.m1
  have h5 := h.m2
  rw [bef_succ h.y1]
  have h4 := cum_mono y h5
  have h6 : cum y m = cum y (m - 1) + mlen y m := by
    obtain ⟨q, rfl⟩ : ∃ q, m = q + 1 := ⟨m - 1, by omega⟩
    simp only [cum, Nat.add_sub_cancel]
  unfold dayOf; omega
theorem Civ.le {y m d : Nat} (h : Civ y m d) : dayOf y m d ≤ 109572 := by
  have h1 := h.hi
  have h2 := h.y1
  have h3 := h.y2
  have := bef_mono (x := y + 1) (y := 2200) (by omega) (by omega)
  have h4 : bef 2200 = 109573 := by decide
  omega
theorem bef_366 {y : Nat} (h : 1900 ≤ y) : bef y ≤ 366 * (y - 1900) := by
  unfold bef; omega
theorem civ_loop1 {day y : Nat} (hd : day ≤ 109572) (hy1 : bef y ≤ day) (hy2 : day < bef (y + 1)) (hy3 : y ≤ 2199) : ∀ (j x : Nat), x + j = y → 1900 ≤ x →
    L.loop [0, 2, 4] [0, 2, 4] date_Civil_b1 2 [.int .i64 day, .loc 0 0, .loc 1 0] [.live [.int .i64 0, .int .i64 0, .int .i64 0], .live [.int .i64 x, .int .i64 1, .int .i64 0]] =
      some (.exit 0, [.int .i64 day, .loc 0 0, .loc 1 0], [.live [.int .i64 0, .int .i64 0, .int .i64 0], .live [.int .i64 y, .int .i64 1, .int .i64 0]]) := by
  intro j
  induction j with
  | zero =>
    intro x hx h1
    have : x = y := by omega
    subst this
    have hb := date_before_ok (y := x + 1) (by omega) (by omega)
    have e1 : IntKind.i64.wrap ((x : Int) + 1) = ((x + 1 : Nat) : Int) := by rw [wrap64 _ (by omega)]; omega
    generalize bef (x + 1) = b at *
    generalize x + 1 = x2 at *
    have g : ¬ b ≤ day := by omega
    have g' : ¬ (b : Int) ≤ day := by omega
    refine roundL (S_date_Civil_b1 ..) ?_
    simp (disch := omega) [s_date_Civil_b1, e1, hb, g, g']
  | succ j ih =>
    intro x hx h1
    have hb := date_before_ok (y := x + 1) (by omega) (by omega)
    have hn := ih (x + 1) (by omega) (by omega)
    have hmo := bef_mono (x := x + 1) (y := y) (by omega) (by omega)
    have e1 : IntKind.i64.wrap ((x : Int) + 1) = ((x + 1 : Nat) : Int) := by rw [wrap64 _ (by omega)]; omega
    generalize bef (x + 1) = b at *
    generalize x + 1 = x2 at *
    have g : b ≤ day := by omega
    have g' : (b : Int) ≤ day := by omega
    refine roundL (S_date_Civil_b1 ..) ?_
    simp (disch := omega) [s_date_Civil_b1, e1, hb, g, g', hn]
theorem civ_loop2 {y m d : Nat} (h : Civ y m d) : ∀ (j k : Nat), k + j = m → 1 ≤ k →
    L.loop [2, 4, 5] [2, 4, 5] date_Civil_b2 2 [.loc 0 0, .loc 1 0, .int .i64 ((cum y (m - 1) + (d - 1) - cum y (k - 1) : Nat) : Int)] [.live [.int .i64 0, .int .i64 0, .int .i64 0], .live [.int .i64 y, .int .i64 k, .int .i64 0]] =
      some (.exit 2, [.loc 0 0, .loc 1 0, .int .i64 ((d - 1 : Nat) : Int)], [.live [.int .i64 0, .int .i64 0, .int .i64 0], .live [.int .i64 y, .int .i64 m, .int .i64 0]]) := by
  have h1 := h.d1
  have h2 := h.d2
  have h3 := h.m2
  have h4 := h.y2
  have h5 := mlen_le y m
  intro j
  induction j with
  | zero =>
    intro k hk hk1
    have : k = m := by omega
    subst this
    have hl := date_Length_ok (y := y) (m := k) (by omega) hk1 h3
    rw [show cum y (k - 1) + (d - 1) - cum y (k - 1) = d - 1 by omega]
    generalize mlen y k = l at *
    have g : ¬ (l : Int) ≤ ((d - 1 : Nat) : Int) := by omega
    have g' : ¬ l ≤ d - 1 := by omega
    generalize d - 1 = d1 at *
    refine roundL (S_date_Civil_b2 ..) ?_
    simp (disch := omega) [s_date_Civil_b2, hl, g, g']
  | succ j ih =>
    intro k hk hk1
    have hl := date_Length_ok (y := y) (m := k) (by omega) hk1 (by omega)
    have hn := ih (k + 1) (by omega) (by omega)
    have hc : cum y (k + 1 - 1) = cum y (k - 1) + mlen y k := by
      rw [Nat.add_sub_cancel]
      obtain ⟨q, rfl⟩ : ∃ q, k = q + 1 := ⟨k - 1, by omega⟩
      simp only [cum, Nat.add_sub_cancel]
    have hmo := cum_mono y (j := k) (k := m - 1) (by omega)
    rw [Nat.add_sub_cancel] at hc hn
    rw [hc] at hmo hn
    have hub := cum_le y (m - 1)
    have hub2 : cum y (m - 1) + (d - 1) ≤ 1000 := by omega
    have hmo2 : cum y (k - 1) + mlen y k ≤ cum y (m - 1) + (d - 1) := by omega
    generalize cum y (m - 1) + (d - 1) = T at *
    generalize mlen y k = l at *
    generalize cum y (k - 1) = c at *
    have g : l ≤ T - c := by omega
    have g' : (l : Int) ≤ ((T - c : Nat) : Int) := by omega
    have e1 : IntKind.i64.wrap (((T - c : Nat) : Int) - l) = ((T - (c + l) : Nat) : Int) := by rw [wrap64 _ (by omega)]; omega
    have e2 : IntKind.i64.wrap ((k : Int) + 1) = ((k + 1 : Nat) : Int) := by rw [wrap64 _ (by omega)]; omega
    generalize T - (c + l) = r2 at *
    generalize T - c = r1 at *
    generalize k + 1 = k2 at *
    refine roundL (S_date_Civil_b2 ..) ?_
    simp (disch := omega) [s_date_Civil_b2, hl, g, g', e1, e2, hn]
theorem date_Civil_ok {y m d : Nat} (h : Civ y m d) : L.call date_Civil [.int .i64 (dayOf y m d)] = some (.tup [civD y m d, .nili]) := by
  have hle := h.le
  have hlo := h.lo
  have hhi := h.hi
  have hd1 := h.d1
  have hd2 := h.d2
  have hml := mlen_le y m
  have hy := h.y2
  have hm2 := h.m2
  have hb := date_before_ok h.y1 (by omega)
  have h366 := bef_366 (y := y + 1) (by have := h.y1; omega)
  have l1 := civ_loop1 hle hlo hhi h.y2 (y - (1900 + dayOf y m d / 366)) (1900 + dayOf y m d / 366) (by omega) (by omega)
  have l2 := civ_loop2 h (m - 1) 1 (by have := h.m1; omega) (by omega)
  have his := date_is_ok (dayOf y m d)
  rw [decide_eq_true (by omega)] at his
  have hT : dayOf y m d - bef y = cum y (m - 1) + (d - 1) := by unfold dayOf; omega
  simp only [Nat.sub_self, cum, Nat.sub_zero] at l2
  rw [← hT, show ((1 : Nat) : Int) = 1 from rfl] at l2
  have hbb := bef_le (y := y) (by omega)
  have q1 := tdiv_nat (dayOf y m d) 366
  simp at q1
  generalize dayOf y m d = day at *
  have e1 : IntKind.i64.wrap ((day : Int) / 366) = ((day / 366 : Nat) : Int) := by rw [wrap64 _ (by omega)]; omega
  have e2 : IntKind.i64.wrap (1900 + ((day / 366 : Nat) : Int)) = ((1900 + day / 366 : Nat) : Int) := by rw [wrap64 _ (by omega)]; omega
  have e2' : IntKind.i64.wrap (1900 + (day : Int) / 366) = ((1900 + day / 366 : Nat) : Int) := by rw [wrap64 _ (by omega)]; omega
  generalize 1900 + day / 366 = x at *
  generalize bef y = b at *
  have e3 : IntKind.i64.wrap ((day : Int) - b) = ((day - b : Nat) : Int) := by rw [wrap64 _ (by omega)]; omega
  generalize day - b = r at *
  have e4 : IntKind.i64.wrap (((d - 1 : Nat) : Int) + 1) = (d : Int) := by rw [wrap64 _ (by omega)]; omega
  generalize d - 1 = dd at *
  refine callL T_date_Civil rfl (S_date_Civil ..) ?_
  unfold civD
  simp (disch := omega) [s_date_Civil, his, q1, e1, e2, e2', l1, hb, e3, l2, e4]
theorem date_Civil_bad {n : Int} (h : ¬ (0 ≤ n ∧ n ≤ 109572)) : L.call date_Civil [.int .i64 n] = some (.tup [civD 0 0 0, errD 4]) := by
  have his := date_is_ok n
  rw [decide_eq_false h] at his
  refine callL T_date_Civil rfl (S_date_Civil ..) ?_
  unfold civD
  simp (disch := omega) [s_date_Civil, his, fault_Of_ok]
theorem civ_ex {day : Nat} (h : day ≤ 109572) : ∃ y m d, Civ y m d ∧ dayOf y m d = day := by
  have hy : ∃ y, 1900 ≤ y ∧ bef y ≤ day ∧ day < bef (y + 1) := by
    have : ∀ k, day < bef (1900 + k) → ∃ y, 1900 ≤ y ∧ bef y ≤ day ∧ day < bef (y + 1) := by
      intro k
      induction k with
      | zero => intro h1; have : bef 1900 = 0 := by decide
                rw [Nat.add_zero, this] at h1; omega
      | succ k ih =>
        intro h1
        rcases Nat.lt_or_ge day (bef (1900 + k)) with h2 | h2
        · exact ih h2
        · exact ⟨1900 + k, by omega, h2, h1⟩
    exact this 300 (by have : bef (1900 + 300) = 109573 := by decide
                       omega)
  obtain ⟨y, h1, h2, h3⟩ := hy
  have hm : ∃ m, 1 ≤ m ∧ m ≤ 12 ∧ cum y (m - 1) ≤ day - bef y ∧ day - bef y < cum y m := by
    have : ∀ k, k ≤ 12 → day - bef y < cum y k → ∃ m, 1 ≤ m ∧ m ≤ 12 ∧ cum y (m - 1) ≤ day - bef y ∧ day - bef y < cum y m := by
      intro k
      induction k with
      | zero => intro _ h1; simp [cum] at h1
      | succ k ih =>
        intro hk h1
        rcases Nat.lt_or_ge (day - bef y) (cum y k) with h2 | h2
        · exact ih (by omega) h2
        · exact ⟨k + 1, by omega, hk, by rw [Nat.add_sub_cancel]; exact h2, h1⟩
    rw [bef_succ h1] at h3
    exact this 12 (by omega) (by omega)
  obtain ⟨m, m1, m2, m3, m4⟩ := hm
  have h6 : cum y m = cum y (m - 1) + mlen y m := by
    obtain ⟨q, rfl⟩ : ∃ q, m = q + 1 := ⟨m - 1, by omega⟩
    simp only [cum, Nat.add_sub_cancel]
  have hy2 : y ≤ 2199 := by
    rcases Nat.lt_or_ge 2199 y with hh | hh
    · have := bef_mono (x := 2200) (y := y) (by omega) hh
      have h4 : bef 2200 = 109573 := by decide
      omega
    · exact hh
  refine ⟨y, m, day - bef y - cum y (m - 1) + 1, ⟨h1, hy2, m1, m2, by omega, by omega⟩, ?_⟩
  unfold dayOf; omega
end Go.Ev.Code
end
section
set_option linter.unusedVariables false
set_option linter.unusedSimpArgs false
namespace Go.Ev.Code
open Go Go.Ev
theorem date_Of_bad {y m d : Nat} (h : ¬ (1900 ≤ y ∧ y ≤ 2199)) (hy : y ≤ 1000000) (h1 : 1 ≤ m) (h2 : m ≤ 12) (hd : 1 ≤ d) : L.call date_Of [civD y m d] = some (.tup [.int .i64 0, errD 4]) := by
  refine callL T_date_Of rfl (S_date_Of ..) ?_
  unfold civD
  by_cases g1 : y < 1900
  · have g1' : (y : Int) < 1900 := by omega
    simp (disch := omega) [s_date_Of, g1, g1', fault_Of_ok]
  · have g1' : ¬ (y : Int) < 1900 := by omega
    have g2 : 2199 < y := by omega
    have g2' : (2199 : Int) < y := by omega
    simp (disch := omega) [s_date_Of, g1, g1', g2, g2', fault_Of_ok]
theorem mlen_pos {y m : Nat} (h1 : 1 ≤ m) (h2 : m ≤ 12) : 28 ≤ mlen y m := by
  have : m = 1 ∨ m = 2 ∨ m = 3 ∨ m = 4 ∨ m = 5 ∨ m = 6 ∨ m = 7 ∨ m = 8 ∨ m = 9 ∨ m = 10 ∨ m = 11 ∨ m = 12 := by omega
  rcases this with rfl | rfl | rfl | rfl | rfl | rfl | rfl | rfl | rfl | rfl | rfl | rfl <;> simp only [mlen] <;> (try split) <;> omega
def dayD : Option Nat → D
  | some n => .tup [.int .i64 n, .nili]
  | none => .tup [.int .i64 0, errD 4]
def mkDay (y m d : Nat) : Option Nat := if 1900 ≤ y ∧ y ≤ 2199 then some (dayOf y m d) else none
theorem date_mk_ok {y m d : Nat} (hy : y ≤ 1000000) (h1 : 1 ≤ m) (h2 : m ≤ 12) (hd : 1 ≤ d) (hd2 : d ≤ mlen y m) : L.call date_Of [civD y m d] = some (dayD (mkDay y m d)) := by
  unfold mkDay
  split
  · rename_i h; exact date_Of_ok h.1 h.2 h1 h2 hd hd2
  · rename_i h; exact date_Of_bad h hy h1 h2 hd
theorem month_End_ok {y m : Nat} (hy : y ≤ 1000000) (h1 : 1 ≤ m) (h2 : m ≤ 12) : L.call month_End [.int .i64 y, .int .i64 m] = some (dayD (mkDay y m (mlen y m))) := by
  have hl := date_Length_ok hy h1 h2
  have hp := mlen_pos (y := y) h1 h2
  have h := date_mk_ok hy h1 h2 (d := mlen y m) (by omega) (Nat.le_refl _)
  unfold civD at h
  generalize hr : mkDay y m (mlen y m) = r at *
  generalize mlen y m = l at *
  refine callL T_month_End rfl (S_month_End ..) ?_
  cases r <;> simp [s_month_End, hl, h, dayD] at h ⊢ <;> simp [s_month_End, hl, h, dayD]
theorem month_Last_ok {y m d : Nat} (h : Civ y m d) : L.call month_Last [.int .i64 (dayOf y m d)] = some (.bool (decide (d = mlen y m))) := by
  have hc := date_Civil_ok h
  have hl := date_Length_ok (y := y) (m := m) (by have := h.y2; omega) h.m1 h.m2
  unfold civD at hc
  generalize dayOf y m d = day at *
  generalize mlen y m = l at *
  refine callL T_month_Last rfl (S_month_Last ..) ?_
  have : ((d : Int) = l) ↔ d = l := by omega
  by_cases hdl : d = l <;> simp [s_month_Last, hc, hl, hdl, this]
def addM (y m d : Nat) (n : Int) (e : Bool) : Option Nat :=
  if -3600 ≤ n ∧ n ≤ 3600 then
    (let a := ((y * 12 + m - 1 : Nat) : Int) + n
     let y' := (a / 12).toNat
     let m' := (a % 12).toNat + 1
     mkDay y' m' (if e = true ∧ d = mlen y m then mlen y' m' else min d (mlen y' m')))
  else none
set_option maxHeartbeats 1000000 in
theorem month_Add_ok {y m d : Nat} (h : Civ y m d) (n : Int) (e : Bool) : L.call month_Add [.int .i64 (dayOf y m d), .int .i64 n, .bool e] = some (dayD (addM y m d n e)) := by
  have hc := date_Civil_ok h
  have hla := month_Last_ok h
  unfold civD at hc
  have h1 := h.y1
  have h2 := h.y2
  have h3 := h.m1
  have h4 := h.m2
  have h5 := h.d1
  have h6 := h.d2
  by_cases hn : -3600 ≤ n ∧ n ≤ 3600
  · obtain ⟨a, ha⟩ : ∃ a : Nat, ((y * 12 + m - 1 : Nat) : Int) + n = a := ⟨(((y * 12 + m - 1 : Nat) : Int) + n).toNat, by omega⟩
    have ha2 : a ≤ 1000000 := by omega
    have e1 : IntKind.i64.wrap ((y : Int) * 12) = ((y * 12 : Nat) : Int) := by rw [wrap64 _ (by omega)]; omega
    have e2 : IntKind.i64.wrap (((y * 12 : Nat) : Int) + m) = ((y * 12 + m : Nat) : Int) := by rw [wrap64 _ (by omega)]; omega
    have e3 : IntKind.i64.wrap (((y * 12 + m : Nat) : Int) - 1) = ((y * 12 + m - 1 : Nat) : Int) := by rw [wrap64 _ (by omega)]; omega
    have e4 : IntKind.i64.wrap (((y * 12 + m - 1 : Nat) : Int) + n) = (a : Int) := by rw [ha, wrap64 _ (by omega)]
    have q1 := tdiv_nat a 12
    have q2 := tmod_nat a 12
    simp at q1 q2
    have e5 : IntKind.i64.wrap ((a : Int) / 12) = ((a / 12 : Nat) : Int) := by rw [wrap64 _ (by omega)]; omega
    have e6 : IntKind.i64.wrap ((a : Int) % 12 + 1) = ((a % 12 + 1 : Nat) : Int) := by rw [wrap64 _ (by omega)]; omega
    have hA : addM y m d n e = mkDay (a / 12) (a % 12 + 1) (if e = true ∧ d = mlen y m then mlen (a / 12) (a % 12 + 1) else min d (mlen (a / 12) (a % 12 + 1))) := by
      unfold addM
      rw [if_pos hn]
      simp only [ha]
      have : ((a : Int) / 12).toNat = a / 12 := by omega
      have : ((a : Int) % 12).toNat = a % 12 := by omega
      simp only [*]
    rw [hA]
    have hy' : a / 12 ≤ 1000000 := by omega
    have hm' : 1 ≤ a % 12 + 1 ∧ a % 12 + 1 ≤ 12 := by omega
    have hEnd := month_End_ok hy' hm'.1 hm'.2
    have hLen := date_Length_ok hy' hm'.1 hm'.2
    have hp := mlen_pos (y := a / 12) hm'.1 hm'.2
    have hmk := date_mk_ok hy' hm'.1 hm'.2 (d := min d (mlen (a / 12) (a % 12 + 1))) (by omega) (by omega)
    unfold civD at hmk
    have hmin : min (d : Int) (mlen (a / 12) (a % 12 + 1)) = ((min d (mlen (a / 12) (a % 12 + 1)) : Nat) : Int) := by omega
    have hg1 : ¬ n < -3600 := by omega
    have hg2 : ¬ 3600 < n := by omega
    generalize y * 12 + m - 1 = b1 at *
    generalize y * 12 + m = b2 at *
    generalize y * 12 = b3 at *
    generalize a % 12 + 1 = m' at *
    generalize a / 12 = y' at *
    generalize dayOf y m d = day at *
    generalize mlen y m = lm at *
    generalize hl' : mlen y' m' = l' at *
    by_cases hE : e = true ∧ d = lm
    · obtain ⟨rfl, hdl⟩ := hE
      rw [if_pos ⟨rfl, hdl⟩]
      rw [decide_eq_true hdl] at hla
      generalize mkDay y' m' l' = r at *
      cases r with
      | none =>
        simp [dayD] at hEnd
        refine callL T_month_Add rfl (S_month_Add ..) ?_
        simp (config := {maxSteps := 1000000}) [s_month_Add, hc, hg1, hg2, e1, e2, e3, e4, q1, q2, e5, e6, hla, hEnd, dayD]
      | some r =>
        simp [dayD] at hEnd
        refine callL T_month_Add rfl (S_month_Add ..) ?_
        simp (config := {maxSteps := 1000000}) [s_month_Add, hc, hg1, hg2, e1, e2, e3, e4, q1, q2, e5, e6, hla, hEnd, dayD]
    · rw [if_neg hE]
      generalize min d l' = dm at *
      have hla' : e = true → L.call month_Last [.int .i64 day] = some (.bool false) := fun he => by
        rw [hla, decide_eq_false (fun h => hE ⟨he, h⟩)]
      generalize mkDay y' m' dm = r at *
      cases r with
      | none =>
        simp [dayD] at hmk
        refine callL T_month_Add rfl (S_month_Add ..) ?_
        cases e with
        | false => simp (config := {maxSteps := 1000000}) [s_month_Add, hc, hg1, hg2, e1, e2, e3, e4, q1, q2, e5, e6, hLen, hmin, hmk, dayD]
        | true => simp (config := {maxSteps := 1000000}) [s_month_Add, hc, hg1, hg2, e1, e2, e3, e4, q1, q2, e5, e6, hla' rfl, hLen, hmin, hmk, dayD]
      | some r =>
        simp [dayD] at hmk
        refine callL T_month_Add rfl (S_month_Add ..) ?_
        cases e with
        | false => simp (config := {maxSteps := 1000000}) [s_month_Add, hc, hg1, hg2, e1, e2, e3, e4, q1, q2, e5, e6, hLen, hmin, hmk, dayD]
        | true => simp (config := {maxSteps := 1000000}) [s_month_Add, hc, hg1, hg2, e1, e2, e3, e4, q1, q2, e5, e6, hla' rfl, hLen, hmin, hmk, dayD]
  · have hA : addM y m d n e = none := by unfold addM; rw [if_neg hn]
    rw [hA]
    generalize dayOf y m d = day at *
    refine callL T_month_Add rfl (S_month_Add ..) ?_
    by_cases hg1 : n < -3600
    · simp (config := {maxSteps := 1000000}) [s_month_Add, hc, hg1, fault_Of_ok, dayD]
    · have hg2 : 3600 < n := by omega
      simp (config := {maxSteps := 1000000}) [s_month_Add, hc, hg1, hg2, fault_Of_ok, dayD]
theorem month_Add_bad {day : Int} (h : ¬ (0 ≤ day ∧ day ≤ 109572)) (n : Int) (e : Bool) : L.call month_Add [.int .i64 day, .int .i64 n, .bool e] = some (.tup [.int .i64 0, errD 4]) := by
  have hc := date_Civil_bad h
  unfold civD at hc
  refine callL T_month_Add rfl (S_month_Add ..) ?_
  simp at hc
  simp (config := {maxSteps := 1000000}) [s_month_Add, hc]
theorem month_Between_ok {y m d y' m' d' : Nat} (h : Civ y m d) (h' : Civ y' m' d') : L.call month_Between [.int .i64 (dayOf y m d), .int .i64 (dayOf y' m' d')] = some (.int .i64 (((y' * 12 + m' : Nat) : Int) - ((y * 12 + m : Nat) : Int))) := by
  have hc := date_Civil_ok h
  have hc' := date_Civil_ok h'
  unfold civD at hc hc'
  have h1 := h.y1
  have h2 := h.y2
  have h3 := h.m2
  have h1' := h'.y1
  have h2' := h'.y2
  have h3' := h'.m2
  generalize dayOf y m d = day at *
  generalize dayOf y' m' d' = day' at *
  have hr : ((y' * 12 + m' : Nat) : Int) - ((y * 12 + m : Nat) : Int) = ((y' : Int) - y) * 12 + m' - m := by omega
  rw [hr]
  have e1 : IntKind.i64.wrap ((y' : Int) - y) = (y' : Int) - y := wrap64 _ (by omega)
  have e2 : IntKind.i64.wrap (((y' : Int) - y) * 12) = ((y' : Int) - y) * 12 := wrap64 _ (by omega)
  have e3 : IntKind.i64.wrap (((y' : Int) - y) * 12 + m') = ((y' : Int) - y) * 12 + m' := wrap64 _ (by omega)
  have e4 : IntKind.i64.wrap (((y' : Int) - y) * 12 + m' - m) = ((y' : Int) - y) * 12 + m' - m := wrap64 _ (by omega)
  generalize hk4 : ((y' : Int) - y) * 12 + m' - m = k4 at *
  rw [← hk4]
  refine callL T_month_Between rfl (S_month_Between ..) ?_
  simp [s_month_Between, hc, hc', e1, e2, e3]
  rw [hk4]; exact e4
end Go.Ev.Code
end
section
set_option linter.unusedVariables false
set_option linter.unusedSimpArgs false
namespace Go.Ev.Code
open Go Go.Ev
def civY : Nat → Nat → Nat → Nat
  | 0, y, _ => y
  | f + 1, y, day => if bef (y + 1) ≤ day then civY f (y + 1) day else y
def civM : Nat → Nat → Nat → Nat → Nat × Nat
  | 0, _, m, r => (m, r)
  | f + 1, y, m, r => if mlen y m ≤ r then civM f y (m + 1) (r - mlen y m) else (m, r)
def civOf (day : Nat) : Nat × Nat × Nat :=
  let y := civY 300 (1900 + day / 366) day
  let r := civM 12 y 1 (day - bef y)
  (y, r.1, r.2 + 1)
theorem civY_ok {day y : Nat} (h1 : bef y ≤ day) (h2 : day < bef (y + 1)) : ∀ (f x : Nat), x ≤ y → y < x + f → 1900 ≤ x → civY f x day = y := by
  intro f
  induction f with
  | zero => intro x hx hf; omega
  | succ f ih =>
    intro x hx hf h19
    simp only [civY]
    rcases Nat.lt_or_ge x y with h | h
    · have := bef_mono (x := x + 1) (y := y) (by omega) h
      rw [if_pos (by omega)]
      exact ih (x + 1) h (by omega) (by omega)
    · have : x = y := by omega
      subst this
      rw [if_neg (by omega)]
theorem civM_ok {y m d : Nat} (hd : d < mlen y m) : ∀ (f k : Nat), 1 ≤ k → k ≤ m → m < k + f → civM f y k (cum y (m - 1) + d - cum y (k - 1)) = (m, d) := by
  intro f
  induction f with
  | zero => intro k h1 h2 h3; omega
  | succ f ih =>
    intro k h1 h2 h3
    simp only [civM]
    rcases Nat.lt_or_ge k m with h | h
    · have hc : cum y (k - 1) + mlen y k = cum y k := by
        obtain ⟨q, rfl⟩ : ∃ q, k = q + 1 := ⟨k - 1, by omega⟩
        simp only [cum, Nat.add_sub_cancel]
      have hm := cum_mono y (j := k) (k := m - 1) (by omega)
      have := ih (k + 1) (by omega) (by omega) (by omega)
      rw [Nat.add_sub_cancel, ← hc, ← Nat.sub_sub] at this
      rw [if_pos (by omega)]
      exact this
    · have : k = m := by omega
      subst this
      rw [show cum y (k - 1) + d - cum y (k - 1) = d by omega, if_neg (by omega)]
theorem civOf_ok {y m d : Nat} (h : Civ y m d) : civOf (dayOf y m d) = (y, m, d) := by
  have h1 := h.y1
  have h2 := h.y2
  have hd1 := h.d1
  have hd2 := h.d2
  have hm1 := h.m1
  have hm2 := h.m2
  have h366 := bef_366 (y := y + 1) (by omega)
  have hhi := h.hi
  unfold civOf
  have hy : civY 300 (1900 + dayOf y m d / 366) (dayOf y m d) = y := civY_ok h.lo h.hi 300 _ (by omega) (by omega) (by omega)
  rw [hy]
  have hr : dayOf y m d - bef y = cum y (m - 1) + (d - 1) := by unfold dayOf; omega
  have hm : civM 12 y 1 (dayOf y m d - bef y) = (m, d - 1) := by
    rw [hr]
    have := civM_ok (y := y) (m := m) (d := d - 1) (by omega) 12 1 (by omega) hm1 (by omega)
    simpa [cum] using this
  simp only [hm]
  rw [show d - 1 + 1 = d by omega]
abbrev IsDay (n : Int) : Prop := 0 ≤ n ∧ n ≤ 109572
theorem isDay_civ {n : Int} (h : IsDay n) : ∃ y m d, Civ y m d ∧ n = (dayOf y m d : Nat) ∧ civOf n.toNat = (y, m, d) := by
  obtain ⟨y, m, d, hc, hd⟩ := civ_ex (day := n.toNat) (by omega)
  refine ⟨y, m, d, hc, by omega, ?_⟩
  rw [← hd, civOf_ok hc]
def addD (day n : Int) (e : Bool) : Option Nat := if IsDay day then addM (civOf day.toNat).1 (civOf day.toNat).2.1 (civOf day.toNat).2.2 n e else none
theorem month_Add_D (day n : Int) (e : Bool) : L.call month_Add [.int .i64 day, .int .i64 n, .bool e] = some (dayD (addD day n e)) := by
  unfold addD
  by_cases h : IsDay day
  · obtain ⟨y, m, d, hc, hd, ho⟩ := isDay_civ h
    rw [if_pos h, ho]
    rw [hd]
    exact month_Add_ok hc n e
  · rw [if_neg h]
    exact month_Add_bad h n e
def betw (a b : Int) : Int := (((civOf b.toNat).1 * 12 + (civOf b.toNat).2.1 : Nat) : Int) - (((civOf a.toNat).1 * 12 + (civOf a.toNat).2.1 : Nat) : Int)
theorem month_Between_D {a b : Int} (ha : IsDay a) (hb : IsDay b) : L.call month_Between [.int .i64 a, .int .i64 b] = some (.int .i64 (betw a b)) := by
  obtain ⟨y, m, d, hc, hd, ho⟩ := isDay_civ ha
  obtain ⟨y', m', d', hc', hd', ho'⟩ := isDay_civ hb
  unfold betw
  rw [ho, ho', hd, hd']
  exact month_Between_ok hc hc'
end Go.Ev.Code
end
section
set_option linter.unusedVariables false
set_option linter.unusedSimpArgs false
namespace Go.Ev.Code
open Go Go.Ev
def erAt (c : Int) (s : List UInt8) : D := .iface ty_Fault (.ref [.int .i64 c, .str s, .nili] 0)
theorem fault_New_ok {c : Int} (h : c ≠ 0) (s : List UInt8) : L.call fault_New [.int .i64 c, .str s] = some (erAt c s) := by
  refine callL T_fault_New rfl (S_fault_New ..) ?_
  unfold erAt
  simp [s_fault_New, h]
def tIssue : List UInt8 := [105, 115, 115, 117, 101]
def tMature : List UInt8 := [109, 97, 116, 117, 114, 101]
def tCoupon : List UInt8 := [99, 111, 117, 112, 111, 110]
def tRedeem : List UInt8 := [114, 101, 100, 101, 101, 109]
def tFreq : List UInt8 := [102, 114, 101, 113]
def tCount : List UInt8 := [99, 111, 117, 110, 116]
def tStub : List UInt8 := [115, 116, 117, 98]
def tEx : List UInt8 := [101, 120]
def tFlows : List UInt8 := [102, 108, 111, 119, 115]
structure Bond where
  issue : Int
  mature : Int
  freq : Int
  coupon : List UInt8
  redeem : List UInt8
  count : Int
  stub : Int
  ends : Bool
  ex : Int
def bondC (b : Bond) : List D := [.int .i64 b.issue, .int .i64 b.mature, .int .i64 b.freq, .str b.coupon, .str b.redeem, .int .i64 b.count, .int .i64 b.stub, .bool b.ends, .int .i64 b.ex]
abbrev bondD (b : Bond) : D := .agg (bondC b)
def months (b : Bond) : Int := if b.freq = 1 then 12 else if b.freq = 2 then 6 else if b.freq = 4 then 3 else if b.freq = 12 then 1 else 0
theorem bond_Months_ok (b : Bond) : L.call bond_Months [bondD b] = some (.int .i64 (months b)) := by
  obtain ⟨i, m, f, c, r, n, s, e, x⟩ := b
  unfold months bondD bondC
  refine callL T_bond_Months rfl (S_bond_Months ..) ?_
  simp only
  by_cases h1 : f = 1
  · subst h1; simp [s_bond_Months, wrap64]
  by_cases h2 : f = 2
  · subst h2; simp [s_bond_Months, wrap64]
  by_cases h4 : f = 4
  · subst h4; simp [s_bond_Months, wrap64]
  by_cases h12 : f = 12
  · subst h12; simp [s_bond_Months, wrap64]
  · simp [s_bond_Months, h1, h2, h4, h12]
abbrev Err := Option (Int × List UInt8)
def errO : Err → D
  | none => .nili
  | some (c, s) => erAt c s
def daysE (b : Bond) : Err :=
  if ¬ IsDay b.issue then some (4, tIssue) else if ¬ IsDay b.mature then some (4, tMature) else if b.mature ≤ b.issue then some (5, tMature) else
    match addD b.issue 360 false with
    | some e => if (e : Int) < b.mature then some (5, tMature) else none
    | none => none
theorem wday_neg {n : Int} : wday n < 0 ↔ ¬ IsDay n := by
  unfold wday
  split
  · rename_i h; constructor
    · intro h1; omega
    · intro h1; exact absurd h h1
  · rename_i h; simp [h]
theorem bond_days_ok (b : Bond) : L.call bond_days [bondD b] = some (errO (daysE b)) := by
  obtain ⟨i, m, f, c, r, n, s, e, x⟩ := b
  have w1 := date_Weekday_ok i
  have w2 := date_Weekday_ok m
  have n1 := @wday_neg i
  have n2 := @wday_neg m
  have ha := month_Add_D i 360 false
  have f1 := fun s => fault_New_ok (c := 4) (by decide) s
  have f2 := fun s => fault_New_ok (c := 5) (by decide) s
  unfold daysE bondD bondC
  simp only
  generalize wday i = wi at *
  generalize wday m = wm at *
  refine callL T_bond_days rfl (S_bond_days ..) ?_
  by_cases h1 : IsDay i
  · have g1 : ¬ wi < 0 := fun h => (n1.1 h) h1
    by_cases h2 : IsDay m
    · have g2 : ¬ wm < 0 := fun h => (n2.1 h) h2
      by_cases h3 : m ≤ i
      · rw [if_neg (fun h => h h1), if_neg (fun h => h h2), if_pos h3]
        simp [s_bond_days, w1, w2, g1, g2, h3, f2, errO, tMature, erAt]
      · rw [if_neg (fun h => h h1), if_neg (fun h => h h2), if_neg h3]
        generalize addD i 360 false = r at *
        cases r with
        | none => simp [dayD] at ha; simp [s_bond_days, w1, w2, g1, g2, h3, ha, errO]
        | some e =>
          simp [dayD] at ha
          by_cases h4 : (e : Int) < m
          · simp [s_bond_days, w1, w2, g1, g2, h3, ha, h4, f2, errO, tMature, erAt]
          · simp [s_bond_days, w1, w2, g1, g2, h3, ha, h4, errO]
    · have g2 : wm < 0 := n2.2 h2
      rw [if_neg (fun h => h h1), if_pos h2]
      simp [s_bond_days, w1, w2, g1, g2, f1, errO, tMature, erAt]
  · have g1 : wi < 0 := n1.2 h1
    rw [if_pos h1]
    simp [s_bond_days, w1, g1, f1, errO, tIssue, erAt]
end Go.Ev.Code
end
section
set_option linter.unusedVariables false
set_option linter.unusedSimpArgs false
namespace Go.Ev.Code
open Go Go.Ev
def decL : List D → Option (List Nat)
  | [] => some []
  | .int .u64 x :: ds => if 0 ≤ x ∧ x < 18446744073709551616 then (decL ds).bind fun l => some (x.toNat :: l) else none
  | _ => none
theorem decL_ok : ∀ {cs : List D} {l : List Nat}, decL cs = some l → cs = l.map mkU ∧ Small l
  | [], l, h => by simp [decL] at h; subst h; exact ⟨rfl, fun x hx => by simp at hx⟩
  | d :: ds, l, h => by
    unfold decL at h
    split at h <;> try (simp at h; done)
    · rename_i heq; simp at heq
    · rename_i x ds' heq
      simp at heq
      obtain ⟨rfl, rfl⟩ := heq
      split at h <;> try (simp at h; done)
      rename_i hx
      rw [Option.bind_eq_some_iff] at h
      obtain ⟨l', hl', h⟩ := h
      simp at h
      subst h
      obtain ⟨q1, q2⟩ := decL_ok hl'
      have hx' : (x.toNat : Int) = x := by omega
      refine ⟨by simp [q1, hx'], fun y hy => ?_⟩
      simp at hy
      rcases hy with rfl | hy
      · unfold W; omega
      · exact q2 y hy
def lastN0 : List Nat → Bool
  | [] => true
  | [x] => !(Nat.beq x 0)
  | _ :: y :: ys => lastN0 (y :: ys)
theorem lastN0_ok : ∀ {l : List Nat}, lastN0 l = true → ∀ h : l ≠ [], l.getLast h ≠ 0
  | [], _, h => absurd rfl h
  | [x], h, _ => by
    simp only [lastN0, Bool.not_eq_true'] at h
    intro hx
    simp at hx
    subst hx
    simp at h
  | x :: y :: ys, h, hne => by
    rw [List.getLast_cons (by simp)]
    exact lastN0_ok (l := y :: ys) h _
def decN : D → Option Nat
  | .ref [.sl k cs] 0 => (decL cs).bind fun l => if k = l.length ∧ l.length ≤ 1000 ∧ lastN0 l = true then some (val l) else none
  | _ => none
theorem decN_ok {d : D} {n : Nat} (h : decN d = some n) : d = natD n ∧ NB 64000 n := by
  unfold decN at h
  split at h <;> try (simp at h; done)
  rename_i k cs
  rw [Option.bind_eq_some_iff] at h
  obtain ⟨l, hl, h⟩ := h
  split at h <;> try (simp at h; done)
  rename_i hc
  simp at h
  subst h
  obtain ⟨q1, q2⟩ := decL_ok hl
  have hcan : Canon l := ⟨q2, lastN0_ok hc.2.2⟩
  refine ⟨?_, ?_⟩
  · show D.ref [.sl k cs] 0 = .ref (natC (val l)) 0
    unfold natC
    rw [limbs_val hcan, q1, hc.1]
  · have : NB (64 * l.length) (val l) := by
      unfold NB
      have := val_lt q2
      rw [W_pow, ← Nat.pow_mul] at this
      exact this
    exact this.mono (by omega)
def decI : D → Option Int
  | .ref [.bool b, dn] 0 => (decN dn).bind fun n => if b then (if n = 0 then none else some (-(n : Int))) else some (n : Int)
  | _ => none
theorem decI_ok {d : D} {z : Int} (h : decI d = some z) : d = intD z ∧ IB 64000 z := by
  unfold decI at h
  split at h <;> try (simp at h; done)
  rename_i b dn
  rw [Option.bind_eq_some_iff] at h
  obtain ⟨n, hn, h⟩ := h
  obtain ⟨q1, q2⟩ := decN_ok hn
  subst q1
  split at h
  · rename_i hb
    split at h <;> try (simp at h; done)
    rename_i hn0
    simp at h
    subst h
    subst hb
    refine ⟨?_, (IB.ofNat q2).neg⟩
    show D.ref _ 0 = .ref (intC _) 0
    unfold intC
    have h1 : -(n : Int) < 0 := by omega
    have h2 : (-(n : Int)).natAbs = n := by omega
    rw [h2, decide_eq_true h1]
  · rename_i hb
    simp at h hb
    subst h
    subst hb
    refine ⟨?_, IB.ofNat q2⟩
    show D.ref _ 0 = .ref (intC _) 0
    unfold intC
    have h1 : ¬ (n : Int) < 0 := by omega
    have h2 : ((n : Int)).natAbs = n := by omega
    rw [h2, decide_eq_false h1]
def decQ : D → Option Rat
  | .ref [dn, dd] 0 => (decI dn).bind fun z => (decI dd).bind fun e => if h : 0 < e ∧ Nat.gcd z.natAbs e.natAbs = 1 then some ⟨z, e.natAbs, by omega, h.2⟩ else none
  | _ => none
theorem decQ_ok {d : D} {q : Rat} (h : decQ d = some q) : d = ratD q ∧ RB 64000 q := by
  unfold decQ at h
  split at h <;> try (simp at h; done)
  rename_i dn dd
  simp only [Option.bind_eq_some_iff] at h
  obtain ⟨z, hz, e, he, h⟩ := h
  obtain ⟨q1, q2⟩ := decI_ok hz
  obtain ⟨q3, q4⟩ := decI_ok he
  split at h <;> try (simp at h; done)
  rename_i hc
  simp at h
  subst h
  refine ⟨?_, q2, q4⟩
  show D.ref _ 0 = .ref (ratC _) 0
  unfold ratC
  have : ((e.natAbs : Nat) : Int) = e := by omega
  rw [q1, q3]
  simp only [this]
def Good (g : Nat) (p : List D → Option D) : Prop := ∀ args d, p args = some d → L.call g args = some d
def a1 {α : Type} (dec : D → Option α) (f : α → Option D) : List D → Option D
  | [x] => (dec x).bind f
  | _ => none
def a2 {α β : Type} (dec : D → Option α) (dec' : D → Option β) (f : α → β → Option D) : List D → Option D
  | [x, y] => (dec x).bind fun a => (dec' y).bind fun b => f a b
  | _ => none
theorem a1_ok {α : Type} {dec : D → Option α} {f : α → Option D} {g : Nat} (h : ∀ x a d, dec x = some a → f a = some d → L.call g [x] = some d) : Good g (a1 dec f) := by
  intro args d hd
  unfold a1 at hd
  split at hd <;> try (simp at hd; done)
  rw [Option.bind_eq_some_iff] at hd
  obtain ⟨a, ha, hd⟩ := hd
  exact h _ a d ha hd
theorem a2_ok {α β : Type} {dec : D → Option α} {dec' : D → Option β} {f : α → β → Option D} {g : Nat} (h : ∀ x y a b d, dec x = some a → dec' y = some b → f a b = some d → L.call g [x, y] = some d) : Good g (a2 dec dec' f) := by
  intro args d hd
  unfold a2 at hd
  split at hd <;> try (simp at hd; done)
  simp only [Option.bind_eq_some_iff] at hd
  obtain ⟨a, ha, b, hb, hd⟩ := hd
  exact h _ _ a b d ha hb hd
theorem n2_ok {f : Nat → Nat → Option D} {g : Nat} (h : ∀ a b d, NB 64000 a → NB 64000 b → f a b = some d → L.call g [natD a, natD b] = some d) : Good g (a2 decN decN f) :=
  a2_ok fun x y a b d hx hy hf => by rw [(decN_ok hx).1, (decN_ok hy).1]; exact h a b d (decN_ok hx).2 (decN_ok hy).2 hf
theorem n1_ok {f : Nat → Option D} {g : Nat} (h : ∀ a d, NB 64000 a → f a = some d → L.call g [natD a] = some d) : Good g (a1 decN f) :=
  a1_ok fun x a d hx hf => by rw [(decN_ok hx).1]; exact h a d (decN_ok hx).2 hf
theorem i2_ok {f : Int → Int → Option D} {g : Nat} (h : ∀ a b d, IB 64000 a → IB 64000 b → f a b = some d → L.call g [intD a, intD b] = some d) : Good g (a2 decI decI f) :=
  a2_ok fun x y a b d hx hy hf => by rw [(decI_ok hx).1, (decI_ok hy).1]; exact h a b d (decI_ok hx).2 (decI_ok hy).2 hf
theorem i1_ok {f : Int → Option D} {g : Nat} (h : ∀ a d, IB 64000 a → f a = some d → L.call g [intD a] = some d) : Good g (a1 decI f) :=
  a1_ok fun x a d hx hf => by rw [(decI_ok hx).1]; exact h a d (decI_ok hx).2 hf
theorem q2_ok {f : Rat → Rat → Option D} {g : Nat} (h : ∀ a b d, RB 64000 a → RB 64000 b → f a b = some d → L.call g [ratD a, ratD b] = some d) : Good g (a2 decQ decQ f) :=
  a2_ok fun x y a b d hx hy hf => by rw [(decQ_ok hx).1, (decQ_ok hy).1]; exact h a b d (decQ_ok hx).2 (decQ_ok hy).2 hf
theorem q1_ok {f : Rat → Option D} {g : Nat} (h : ∀ a d, RB 64000 a → f a = some d → L.call g [ratD a] = some d) : Good g (a1 decQ f) :=
  a1_ok fun x a d hx hf => by rw [(decQ_ok hx).1]; exact h a d (decQ_ok hx).2 hf
def decS : D → Option (List UInt8)
  | .str s => if s.length ≤ 1000 then some s else none
  | _ => none
theorem decS_ok {d : D} {s : List UInt8} (h : decS d = some s) : d = .str s ∧ s.length ≤ 1000 := by
  unfold decS at h
  split at h <;> try (simp at h; done)
  split at h <;> try (simp at h; done)
  simp at h
  subst h
  exact ⟨rfl, by assumption⟩
def decB : D → Option Bool
  | .bool b => some b
  | _ => none
theorem decB_ok {d : D} {b : Bool} (h : decB d = some b) : d = .bool b := by
  unfold decB at h
  split at h <;> simp at h
  rw [h]
def dec64 : D → Option Int
  | .int .i64 n => if -9223372036854775808 ≤ n ∧ n ≤ 9223372036854775807 then some n else none
  | _ => none
theorem dec64_ok {d : D} {n : Int} (h : dec64 d = some n) : d = .int .i64 n ∧ (-9223372036854775808 ≤ n ∧ n ≤ 9223372036854775807) := by
  unfold dec64 at h
  split at h <;> try (simp at h; done)
  split at h <;> try (simp at h; done)
  simp at h
  subst h
  exact ⟨rfl, by assumption⟩
def decU : D → Option Nat
  | .int .u64 n => if 0 ≤ n ∧ n < 18446744073709551616 then some n.toNat else none
  | _ => none
theorem decU_ok {d : D} {n : Nat} (h : decU d = some n) : d = mkU n ∧ n < W := by
  unfold decU at h
  split at h <;> try (simp at h; done)
  split at h <;> try (simp at h; done)
  rename_i z hz
  simp at h
  subst h
  refine ⟨?_, by unfold W; omega⟩
  show D.int _ _ = .int _ _
  congr 1; omega
end Go.Ev.Code
end
section
set_option linter.unusedVariables false
set_option linter.unusedSimpArgs false
namespace Go.Ev.Code
open Go Go.Ev
theorem bond_of_ok {n : Int} (h : -9223372036854775808 ≤ n ∧ n ≤ 9223372036854775807) : L.call bond_of [.int .i64 n] = some (ratD (Rat.divInt n 1)) := by
  have := rat_Of_ok h (d := 1) (by omega) (by omega)
  refine callL T_bond_of rfl (S_bond_of ..) ?_
  simp [s_bond_of, this]
def valD : Option (Rat × Nat) → D
  | some (q, n) => .tup [ratD q, .bool (decide (n ≤ 6)), .nili]
  | none => .tup [.nilp, .bool true, errD 1]
theorem bond_value_ok {s : List UInt8} (h : s.length ≤ 1000000) : L.call bond_value [.str s] = some (valD (decOf s)) := by
  have hg := dec_Get_ok h
  generalize decOf s = r at *
  refine callL T_bond_value rfl (S_bond_value ..) ?_
  cases r with
  | none => simp [decD] at hg; simp [s_bond_value, hg, valD]
  | some qn =>
    obtain ⟨q, n⟩ := qn
    simp [decD] at hg
    have : ((n : Int) ≤ 6) ↔ n ≤ 6 := by omega
    simp [s_bond_value, hg, valD, this]
theorem decOf_RB {s : List UInt8} {q : Rat} {n : Nat} (h : decOf s = some (q, n)) : RB 400 q ∧ n ≤ 20 := by
  unfold decOf at h
  split at h <;> try (simp at h; done)
  rename_i hs
  unfold decParts at h
  split at h <;> try (simp at h; done)
  rename_i hc
  simp at h
  obtain ⟨rfl, rfl⟩ := h
  obtain ⟨h1, h2, h3⟩ := hc
  have hl := signB_len s
  have hb := cutB_len 46 (signB s).2
  have hf := @cutB_false 46 (signB s).2
  generalize (cutB 46 (signB s).2).1 = w at *
  generalize (cutB 46 (signB s).2).2.1 = r at *
  generalize (cutB 46 (signB s).2).2.2 = p at *
  have hr : r.length ≤ 20 ∧ r.all isD = true := by
    cases p with
    | true => exact (h2 rfl).2
    | false => rw [(hf rfl).2]; simp
  have had : (w ++ r).all isD = true := by rw [List.all_append, h1.2.2.2, hr.2]; rfl
  have hv : NB 400 (numF 0 (w ++ r)) := numF_NB had (by simp; omega)
  refine ⟨divInt_RB ?_ ((ten_IB r.length).mono (by omega)) (ten_pos _), hr.1⟩
  split
  · exact (IB.ofNat hv).neg
  · exact IB.ofNat hv
theorem cmpQ_pos {a b : Rat} : 0 < cmpQ a b ↔ b < a := by
  unfold cmpQ
  split
  · rename_i h
    constructor
    · intro h1; omega
    · intro h1; exact absurd h1 (Rat.not_lt.2 (Rat.le_of_lt h))
  · split
    · rename_i h1 h2
      subst h2
      constructor
      · intro h; omega
      · intro h; exact absurd h h1
    · rename_i h1 h2
      refine ⟨fun _ => ?_, fun _ => by omega⟩
      exact Rat.lt_of_le_of_ne (Rat.not_lt.1 h1) (Ne.symm h2)
def q30 : Rat := Rat.divInt 30 1
def q200 : Rat := Rat.divInt 200 1
theorem RB_int {n : Int} {k : Nat} (h : IB k n) (hk : 1 ≤ k) : RB k (Rat.divInt n 1) := divInt_RB h ((show IB 1 1 by unfold IB NB; decide).mono hk) (by decide)
def sumsE (b : Bond) : Err := match decOf b.coupon with
  | none => some (1, tCoupon)
  | some (q, n) => if ¬ n ≤ 6 ∨ q.num < 0 ∨ q30 < q then some (5, tCoupon) else match decOf b.redeem with
    | none => some (1, tRedeem)
    | some (r, k) => if ¬ k ≤ 6 ∨ r.num ≤ 0 ∨ q200 < r then some (5, tRedeem) else none
theorem sign_le {z : Int} : z.sign ≤ 0 ↔ z ≤ 0 := by
  rcases Int.lt_trichotomy z 0 with h | h | h
  · rw [Int.sign_eq_neg_one_of_neg h]; omega
  · subst h; simp
  · rw [Int.sign_eq_one_of_pos h]; omega
theorem bond_sums_ok {b : Bond} (hc : b.coupon.length ≤ 1000000) (hr : b.redeem.length ≤ 1000000) : L.call bond_sums [bondD b] = some (errO (sumsE b)) := by
  obtain ⟨i, m, f, c, r, n, s, e, x⟩ := b
  simp only at hc hr
  have v1 := bond_value_ok hc
  have v2 := bond_value_ok hr
  have f1 := fun s => fault_New_ok (c := 1) (by decide) s
  have f2 := fun s => fault_New_ok (c := 5) (by decide) s
  have o1 := bond_of_ok (n := 30) (by omega)
  have o2 := bond_of_ok (n := 200) (by omega)
  have b1 : RB 400 q30 := (RB_int (k := 10) (by unfold IB NB; decide) (by decide)).mono (by decide)
  have b2 : RB 400 q200 := (RB_int (k := 10) (by unfold IB NB; decide) (by decide)).mono (by decide)
  change L.call bond_of [.int .i64 30] = some (ratD q30) at o1
  change L.call bond_of [.int .i64 200] = some (ratD q200) at o2
  have d1 := @decOf_RB c
  have d2 := @decOf_RB r
  unfold sumsE bondD bondC
  simp only
  generalize decOf c = dc at *
  generalize decOf r = dr at *
  refine callL T_bond_sums rfl (S_bond_sums ..) ?_
  cases dc with
  | none => simp [valD] at v1; simp [s_bond_sums, v1, f1, errO, erAt, tCoupon]
  | some qn =>
    obtain ⟨q, k⟩ := qn
    simp [valD] at v1
    have cq := rat_Cmp_ok (d1 rfl).1 b1 (by omega)
    have sq := rat_Sign_ok q
    have pq := @cmpQ_pos q q30
    have nq := @sign_neg q.num
    simp only
    generalize cmpQ q q30 = cm at *
    generalize q.num.sign = sg at *
    by_cases h1 : k ≤ 6
    · by_cases h2 : q.num < 0
      · rw [if_pos (.inr (.inl h2))]
        have g2 := nq.2 h2
        simp [s_bond_sums, v1, f2, h1, sq, g2, errO, erAt, tCoupon]
      · have g2 : ¬ sg < 0 := fun h => h2 (nq.1 h)
        by_cases h3 : q30 < q
        · rw [if_pos (.inr (.inr h3))]
          have g3 := pq.2 h3
          simp [s_bond_sums, v1, f2, h1, sq, g2, o1, cq, g3, errO, erAt, tCoupon]
        · have g3 : ¬ 0 < cm := fun h => h3 (pq.1 h)
          rw [if_neg (fun h => by rcases h with h | h | h <;> contradiction)]
          cases dr with
          | none =>
            simp [valD] at v2
            simp [s_bond_sums, v1, v2, f1, h1, sq, g2, o1, cq, g3, errO, erAt, tRedeem]
          | some rn =>
            obtain ⟨r', k'⟩ := rn
            simp [valD] at v2
            have cr := rat_Cmp_ok (d2 rfl).1 b2 (by omega)
            have sr := rat_Sign_ok r'
            have pr := @cmpQ_pos r' q200
            have nr := @sign_le r'.num
            simp only
            generalize cmpQ r' q200 = cm' at *
            generalize r'.num.sign = sg' at *
            by_cases h4 : k' ≤ 6
            · by_cases h5 : r'.num ≤ 0
              · rw [if_pos (.inr (.inl h5))]
                have g5 := nr.2 h5
                simp [s_bond_sums, v1, v2, f2, h1, sq, g2, o1, cq, g3, h4, sr, g5, errO, erAt, tRedeem]
              · have g5 : ¬ sg' ≤ 0 := fun h => h5 (nr.1 h)
                by_cases h6 : q200 < r'
                · rw [if_pos (.inr (.inr h6))]
                  have g6 := pr.2 h6
                  simp [s_bond_sums, v1, v2, f2, h1, sq, g2, o1, cq, g3, h4, sr, g5, o2, cr, g6, errO, erAt, tRedeem]
                · have g6 : ¬ 0 < cm' := fun h => h6 (pr.1 h)
                  rw [if_neg (fun h => by rcases h with h | h | h <;> contradiction)]
                  simp [s_bond_sums, v1, v2, f2, h1, sq, g2, o1, cq, g3, h4, sr, g5, o2, cr, g6, errO]
            · rw [if_pos (.inl h4)]
              simp [s_bond_sums, v1, v2, f2, h1, sq, g2, o1, cq, g3, h4, errO, erAt, tRedeem]
    · rw [if_pos (.inl h1)]
      simp [s_bond_sums, v1, f2, h1, errO, erAt, tCoupon]
end Go.Ev.Code
end
section
set_option linter.unusedVariables false
set_option linter.unusedSimpArgs false
namespace Go.Ev.Code
open Go Go.Ev
theorem count_May_ok (n : Int) : L.call count_May [.int .i64 n] = some (.bool (decide (1 ≤ n ∧ n ≤ 4))) := by
  refine callL T_count_May rfl (S_count_May ..) ?_
  by_cases h : 1 ≤ n
  · by_cases h' : n ≤ 4 <;> simp [s_count_May, h, h']
  · simp [s_count_May, h]
def perE (b : Bond) : Int := (betw b.issue b.mature).tdiv (months b) + 2
def chk (b : Bond) : Err := match daysE b with
  | some e => some e
  | none => if months b = 0 then some (5, tFreq) else match sumsE b with
    | some e => some e
    | none => if ¬ (1 ≤ b.count ∧ b.count ≤ 4) then some (5, tCount) else if b.stub < 0 ∨ 2 < b.stub then some (5, tStub) else if b.ex < 0 ∨ 30 < b.ex then some (5, tEx)
      else if 200 < perE b then some (5, tFlows) else none
theorem daysE_none {b : Bond} (h : daysE b = none) : IsDay b.issue ∧ IsDay b.mature ∧ b.issue < b.mature := by
  unfold daysE at h
  split at h <;> try (simp at h; done)
  split at h <;> try (simp at h; done)
  split at h <;> try (simp at h; done)
  exact ⟨by rename_i a _ _; exact Classical.not_not.1 a, by rename_i _ a _; exact Classical.not_not.1 a, by omega⟩
theorem civOf_bd {n : Int} (h : IsDay n) : 1900 ≤ (civOf n.toNat).1 ∧ (civOf n.toNat).1 ≤ 2199 ∧ 1 ≤ (civOf n.toNat).2.1 ∧ (civOf n.toNat).2.1 ≤ 12 := by
  obtain ⟨y, m, d, hc, hd, ho⟩ := isDay_civ h
  rw [ho]
  exact ⟨hc.y1, hc.y2, hc.m1, hc.m2⟩
theorem betw_bd {a b : Int} (ha : IsDay a) (hb : IsDay b) : -4000 ≤ betw a b ∧ betw a b ≤ 4000 := by
  have h1 := civOf_bd ha
  have h2 := civOf_bd hb
  unfold betw
  omega
theorem months_cases (b : Bond) : months b = 0 ∨ months b = 1 ∨ months b = 3 ∨ months b = 6 ∨ months b = 12 := by
  unfold months
  split
  · omega
  · split
    · omega
    · split
      · omega
      · split <;> omega
theorem tdiv_bd {a m : Int} (ha : -4000 ≤ a ∧ a ≤ 4000) (hm : m = 1 ∨ m = 3 ∨ m = 6 ∨ m = 12) : -4000 ≤ a.tdiv m ∧ a.tdiv m ≤ 4000 := by
  rcases Int.le_total 0 a with h | h
  · rw [Int.tdiv_eq_ediv_of_nonneg h]
    rcases hm with rfl | rfl | rfl | rfl <;> omega
  · obtain ⟨k, rfl⟩ : ∃ k : Int, a = -k := ⟨-a, by omega⟩
    rw [Int.neg_tdiv, Int.tdiv_eq_ediv_of_nonneg (by omega)]
    rcases hm with rfl | rfl | rfl | rfl <;> omega
theorem bond_Check_ok {b : Bond} (hc : b.coupon.length ≤ 1000000) (hr : b.redeem.length ≤ 1000000) : L.call bond_Check [bondD b] = some (errO (chk b)) := by
  have c1 := bond_days_ok b
  have c2 := bond_Months_ok b
  have c3 := bond_sums_ok hc hr
  have c4 := count_May_ok b.count
  have c5 : IsDay b.issue → IsDay b.mature → L.call month_Between [.int .i64 b.issue, .int .i64 b.mature] = some (.int .i64 (betw b.issue b.mature)) := month_Between_D
  have n1 := @daysE_none b
  have f2 := fun s => fault_New_ok (c := 5) (by decide) s
  have hmc := months_cases b
  have hbb := @betw_bd b.issue b.mature
  unfold chk perE
  generalize daysE b = de at *
  generalize sumsE b = se at *
  generalize months b = mo at *
  obtain ⟨i, m, f, c, r, n, s, e, x⟩ := b
  unfold bondD bondC at *
  simp only at *
  refine callL T_bond_Check rfl (S_bond_Check ..) ?_
  cases de with
  | some er => obtain ⟨ec, es⟩ := er; simp [errO, erAt] at c1; simp [s_bond_Check, c1, errO, erAt]
  | none =>
    obtain ⟨d1, d2, d3⟩ := n1 rfl
    have c5 := c5 d1 d2
    have hbb := hbb d1 d2
    simp [errO] at c1
    by_cases h0 : mo = 0
    · simp [s_bond_Check, c1, c2, h0, f2, errO, erAt, tFreq]
    · have hq := tdiv_bd hbb (show mo = 1 ∨ mo = 3 ∨ mo = 6 ∨ mo = 12 by omega)
      simp only [if_neg h0]
      cases se with
      | some er => obtain ⟨ec, es⟩ := er; simp [errO, erAt] at c3; simp [s_bond_Check, c1, c2, h0, c3, errO, erAt]
      | none =>
        simp [errO] at c3
        simp only
        by_cases h1 : 1 ≤ n ∧ n ≤ 4
        · rw [if_neg (fun h => h h1)]
          rw [decide_eq_true h1] at c4
          by_cases h2 : s < 0
          · rw [if_pos (.inl h2)]
            simp [s_bond_Check, c1, c2, h0, c3, c4, h2, f2, errO, erAt, tStub]
          by_cases h2' : 2 < s
          · rw [if_pos (.inr h2')]
            simp [s_bond_Check, c1, c2, h0, c3, c4, h2, h2', f2, errO, erAt, tStub]
          rw [if_neg (fun h => by rcases h with h | h <;> contradiction)]
          by_cases h3 : x < 0
          · rw [if_pos (.inl h3)]
            simp [s_bond_Check, c1, c2, h0, c3, c4, h2, h2', h3, f2, errO, erAt, tEx]
          by_cases h3' : 30 < x
          · rw [if_pos (.inr h3')]
            simp [s_bond_Check, c1, c2, h0, c3, c4, h2, h2', h3, h3', f2, errO, erAt, tEx]
          rw [if_neg (fun h => by rcases h with h | h <;> contradiction)]
          have e1 : IntKind.i64.wrap ((betw i m).tdiv mo) = (betw i m).tdiv mo := wrap64 _ (by omega)
          have e2 : IntKind.i64.wrap ((betw i m).tdiv mo + 2) = (betw i m).tdiv mo + 2 := wrap64 _ (by omega)
          obtain ⟨t, ht⟩ : ∃ t, (betw i m).tdiv mo = t := ⟨_, rfl⟩
          rw [ht] at e1 e2 hq ⊢
          obtain ⟨pp, hpp⟩ : ∃ pp, t + 2 = pp := ⟨_, rfl⟩
          have e2 : IntKind.i64.wrap (t + 2) = pp := by rw [e2, hpp]
          rw [hpp]
          by_cases h4 : 200 < pp
          · simp [s_bond_Check, c1, c2, h0, c3, c4, h2, h2', h3, h3', c5, ht, e1, e2, h4, f2, errO, erAt, tFlows]
          · simp [s_bond_Check, c1, c2, h0, c3, c4, h2, h2', h3, h3', c5, ht, e1, e2, h4, errO]
        · rw [if_pos h1]
          rw [decide_eq_false h1] at c4
          simp [s_bond_Check, c1, c2, h0, c3, c4, f2, errO, erAt, tCount]
def q0 : Rat := Rat.divInt 0 1
def cpn (b : Bond) : Rat := match chk b with
  | some _ => q0
  | none => match decOf b.coupon with | some (q, _) => q | none => q0
def rdm (b : Bond) : Rat := match chk b with
  | some _ => q0
  | none => match decOf b.redeem with | some (q, _) => q | none => q0
theorem chk_days {b : Bond} (h : chk b = none) : daysE b = none ∧ months b ≠ 0 ∧ sumsE b = none := by
  unfold chk at h
  split at h <;> try (simp at h; done)
  rename_i hd
  split at h <;> try (simp at h; done)
  rename_i hm
  split at h <;> try (simp at h; done)
  rename_i hs
  exact ⟨hd, hm, hs⟩
theorem sumsE_none {b : Bond} (h : sumsE b = none) : ∃ q n r k, decOf b.coupon = some (q, n) ∧ decOf b.redeem = some (r, k) ∧ n ≤ 6 ∧ 0 ≤ q.num ∧ ¬ q30 < q ∧ k ≤ 6 ∧ 0 < r.num ∧ ¬ q200 < r := by
  unfold sumsE at h
  split at h <;> try (simp at h; done)
  rename_i q n hq
  split at h <;> try (simp at h; done)
  rename_i h1
  split at h <;> try (simp at h; done)
  rename_i r k hr
  split at h <;> try (simp at h; done)
  rename_i h2
  refine ⟨q, n, r, k, hq, hr, ?_, ?_, ?_, ?_, ?_, ?_⟩
  · exact Classical.not_not.1 fun h => h1 (.inl h)
  · exact Int.not_lt.1 fun h => h1 (.inr (.inl h))
  · exact fun h => h1 (.inr (.inr h))
  · exact Classical.not_not.1 fun h => h2 (.inl h)
  · exact Int.not_le.1 fun h => h2 (.inr (.inl h))
  · exact fun h => h2 (.inr (.inr h))
theorem bond_Coupon_ok {b : Bond} (hc : b.coupon.length ≤ 1000000) (hr : b.redeem.length ≤ 1000000) : L.call bond_Coupon [bondD b] = some (ratD (cpn b)) := by
  have c1 := bond_Check_ok hc hr
  have v1 := bond_value_ok hc
  have o1 := bond_of_ok (n := 0) (by omega)
  change L.call bond_of [.int .i64 0] = some (ratD q0) at o1
  have hs := @chk_days b
  have hss := @sumsE_none b
  unfold cpn
  generalize chk b = ck at *
  obtain ⟨i, m, f, c, r, n, s, e, x⟩ := b
  unfold bondD bondC at *
  simp only at *
  refine callL T_bond_Coupon rfl (S_bond_Coupon ..) ?_
  cases ck with
  | some er => obtain ⟨ec, es⟩ := er; simp [errO, erAt] at c1; simp [s_bond_Coupon, c1, o1]
  | none =>
    obtain ⟨q, n, r, k, h1, _⟩ := hss (hs rfl).2.2
    rw [h1] at v1
    simp [valD] at v1
    simp [errO] at c1
    rw [h1]
    simp [s_bond_Coupon, c1, v1]
theorem bond_Redeem_ok {b : Bond} (hc : b.coupon.length ≤ 1000000) (hr : b.redeem.length ≤ 1000000) : L.call bond_Redeem [bondD b] = some (ratD (rdm b)) := by
  have c1 := bond_Check_ok hc hr
  have v1 := bond_value_ok hr
  have o1 := bond_of_ok (n := 0) (by omega)
  change L.call bond_of [.int .i64 0] = some (ratD q0) at o1
  have hs := @chk_days b
  have hss := @sumsE_none b
  unfold rdm
  generalize chk b = ck at *
  obtain ⟨i, m, f, c, r, n, s, e, x⟩ := b
  unfold bondD bondC at *
  simp only at *
  refine callL T_bond_Redeem rfl (S_bond_Redeem ..) ?_
  cases ck with
  | some er => obtain ⟨ec, es⟩ := er; simp [errO, erAt] at c1; simp [s_bond_Redeem, c1, o1]
  | none =>
    obtain ⟨q, n, r, k, _, h1, _⟩ := hss (hs rfl).2.2
    rw [h1] at v1
    simp [valD] at v1
    simp [errO] at c1
    rw [h1]
    simp [s_bond_Redeem, c1, v1]
end Go.Ev.Code
end
section
set_option linter.unusedVariables false
set_option linter.unusedSimpArgs false
namespace Go.Ev.Code
open Go Go.Ev
def anch (b : Bond) (k : Nat) : Option Nat := addD b.mature (-(k : Int) * months b) b.ends
def ancD : Option Nat → D
  | some d => .int .i64 d
  | none => .int .i64 0
theorem plan_anchor_ok (b : Bond) {k : Nat} (hk : k ≤ 100000) : L.call plan_anchor [bondD b, .int .i64 k] = some (.tup [ancD (anch b k), .bool (anch b k).isSome]) := by
  have hm := bond_Months_ok b
  have ha := month_Add_D b.mature (-(k : Int) * months b) b.ends
  have hmc := months_cases b
  have e1 : IntKind.i64.wrap (0 - (k : Int)) = -(k : Int) := by rw [wrap64 _ (by omega)]; omega
  have e2 : IntKind.i64.wrap (-(k : Int) * months b) = -(k : Int) * months b := by
    refine wrap64 _ ?_
    rcases hmc with h | h | h | h | h <;> rw [h] <;> omega
  unfold anch
  generalize hx : -(k : Int) * months b = x at *
  generalize hr : addD b.mature x b.ends = r at *
  generalize months b = mo at *
  obtain ⟨i, m, f, c, rd, n, s, e, ex⟩ := b
  unfold bondD bondC at *
  simp only at *
  refine callL T_plan_anchor rfl (S_plan_anchor ..) ?_
  have e1' : IntKind.i64.wrap (-(k : Int)) = -(k : Int) := by rw [wrap64 _ (by omega)]
  have e2' : IntKind.i64.wrap (-((k : Int) * mo)) = x := by rw [← e2, ← hx, Int.neg_mul]
  have hx' : -((k : Int) * mo) = x := by rw [← hx, Int.neg_mul]
  cases r with
  | none => simp [dayD] at ha; simp [s_plan_anchor, hm, e1, e1', e2, e2', hx, hx', ha, ancD]
  | some d => simp [dayD] at ha; simp [s_plan_anchor, hm, e1, e1', e2, e2', hx, hx', ha, ancD]
def ints (l : List Nat) : List D := l.map fun (n : Nat) => D.int .i64 n
theorem ints_len (l : List Nat) : (ints l).length = l.length := by simp [ints]
theorem ints_app (l : List Nat) (d : Nat) : ints (l ++ [d]) = ints l ++ [.int .i64 d] := by simp [ints]
theorem ints_clo (l : List Nat) (b n : Nat) : (ints l).all (D.clo b (n + 1)) = true := by
  rw [List.all_eq_true]
  intro d hd
  simp only [ints, List.mem_map] at hd
  obtain ⟨x, _, rfl⟩ := hd
  rfl
def ancs (b : Bond) (k : Nat) : List Nat := (List.range k).map fun i => (anch b i).getD 0
theorem ancs_len (b : Bond) (k : Nat) : (ancs b k).length = k := by simp [ancs]
theorem ancs_succ (b : Bond) (k : Nat) : ancs b (k + 1) = ancs b k ++ [(anch b k).getD 0] := by simp [ancs, List.range_succ]
def Goes (b : Bond) (k : Nat) : Prop := ∃ d, anch b k = some d ∧ b.issue < (d : Int)
theorem anchors_loop {b : Bond} {K : Nat} (hK : K ≤ 90000) (hgo : ∀ i, i < K → Goes b i) (hst : ¬ Goes b K) : ∀ (j k : Nat), k + j = K → 1 ≤ k →
    L.loop [1, 5, 6] [2, 3, 4] plan_anchors_b1 2 [.loc 1 0, .lsl 2 0 k 1, .int .i64 k] [.live (bondC b), .live (bondC b), .live (ints (ancs b k))] =
      some (.ret, [.lsl 2 0 K 1, ancD (anch b K), .bool (anch b K).isSome], [.live (bondC b), .live (bondC b), .live (ints (ancs b K))]) := by
  intro j
  induction j with
  | zero =>
    intro k hk h1
    have hkK : k = K := by omega
    subst hkK
    have ha := plan_anchor_ok b (k := k) (by omega)
    have hcl := ints_clo (ancs b k) 2 11
    have hl : (ints (ancs b k)).length = k := by rw [ints_len, ancs_len]
    unfold Goes at hst
    generalize ints (ancs b k) = l at *
    generalize hr : anch b k = r at *
    obtain ⟨i, m, f, c, rd, n, s, e, ex⟩ := b
    unfold bondD bondC at *
    simp only at *
    refine roundL (S_plan_anchors_b1 ..) ?_
    cases r with
    | none => simp [ancD] at ha; simp [s_plan_anchors_b1, ha, ancD, hcl]
    | some d =>
      have g : (d : Int) ≤ i := by
        by_cases h : i < (d : Int)
        · exact absurd ⟨d, rfl, h⟩ hst
        · omega
      simp [ancD] at ha; simp [s_plan_anchors_b1, ha, ancD, g, hcl]
  | succ j ih =>
    intro k hk h1
    have hn := ih (k + 1) (by omega) (by omega)
    have ha := plan_anchor_ok b (k := k) (by omega)
    obtain ⟨d, hd, hdi⟩ := hgo k (by omega)
    rw [ancs_succ, hd, Option.getD_some, ints_app] at hn
    rw [hd] at ha
    have hcl := ints_clo (ancs b k) 2 11
    have hl : (ints (ancs b k)).length = k := by rw [ints_len, ancs_len]
    generalize ints (ancs b k) = l at *
    generalize (anch b K).isSome = zb at *
    generalize ancD (anch b K) = zd at *
    generalize ints (ancs b K) = lK at *
    have htk : l.take k = l := List.take_of_length_le (by omega)
    have hlen : k + 1 ≤ 4294967296 := by omega
    have e1 : IntKind.i64.wrap ((k : Int) + 1) = ((k + 1 : Nat) : Int) := by rw [wrap64 _ (by omega)]; omega
    obtain ⟨i, m, f, c, rd, n, s, e, ex⟩ := b
    unfold bondD bondC at *
    simp only at *
    simp [ancD] at ha hn
    have g : ¬ (d : Int) ≤ i := by omega
    refine roundL (S_plan_anchors_b1 ..) ?_
    simp [s_plan_anchors_b1, ha, g, hcl, htk, hl, hlen, e1, zeros_, hn]
theorem anchors_ok {b : Bond} {K : Nat} (hK : K ≤ 90000) (h1 : 1 ≤ K) (hgo : ∀ i, i < K → Goes b i) (hst : ¬ Goes b K) :
    L.calla plan_anchors [bondD b] [.live (bondC b)] = some (.tup [.lsl 1 0 K 1, ancD (anch b K), .bool (anch b K).isSome], [.live (bondC b), .live (ints (ancs b K))]) := by
  have hl : L.loop [1, 5, 6] [2, 3, 4] plan_anchors_b1 2 [.loc 1 0, .nils, .int .i64 0] [.live (bondC b), .live (bondC b)] =
      some (.ret, [.lsl 2 0 K 1, ancD (anch b K), .bool (anch b K).isSome], [.live (bondC b), .live (bondC b), .live (ints (ancs b K))]) := by
    have hn := anchors_loop hK hgo hst (K - 1) 1 (by omega) (by omega)
    have ha := plan_anchor_ok b (k := 0) (by omega)
    obtain ⟨d, hd, hdi⟩ := hgo 0 (by omega)
    rw [show ancs b 1 = [(anch b 0).getD 0] by simp [ancs], hd, Option.getD_some, show ((1 : Nat) : Int) = 1 from rfl] at hn
    rw [hd] at ha
    generalize (anch b K).isSome = zb at *
    generalize ancD (anch b K) = zd at *
    generalize ints (ancs b K) = lK at *
    obtain ⟨i, m, f, c, rd, n, s, e, ex⟩ := b
    unfold bondD bondC at *
    simp only at *
    simp [ancD, ints] at ha hn
    have g : ¬ (d : Int) ≤ i := by omega
    refine roundL (S_plan_anchors_b1 ..) ?_
    simp [s_plan_anchors_b1, ha, g, zeros_, wrap64, hn]
  have hcl := ints_clo (ancs b K) 1 11
  have hz : ancD (anch b K) = .int .i64 ((anch b K).getD 0 : Nat) := by cases anch b K <;> rfl
  rw [hz] at hl ⊢
  generalize (anch b K).isSome = zb at *
  generalize (anch b K).getD 0 = zd at *
  have hlen : (ints (ancs b K)).length = K := by rw [ints_len, ancs_len]
  generalize ints (ancs b K) = lK at *
  obtain ⟨i, m, f, c, rd, n, s, e, ex⟩ := b
  unfold bondD bondC at *
  simp only at *
  refine callaL T_plan_anchors rfl (S_plan_anchors ..) ?_
  simp [s_plan_anchors, hl, hcl]
end Go.Ev.Code
end
section
set_option linter.unusedVariables false
set_option linter.unusedSimpArgs false
namespace Go.Ev.Code
open Go Go.Ev
def goesB (b : Bond) (k : Nat) : Bool := match anch b k with
  | some d => decide (b.issue < (d : Int))
  | none => false
theorem goesB_iff (b : Bond) (k : Nat) : goesB b k = true ↔ Goes b k := by
  unfold goesB Goes
  cases anch b k with
  | none => simp
  | some d => simp
def findK (b : Bond) : Nat → Nat → Nat
  | 0, k => k
  | f + 1, k => if goesB b k = true then findK b f (k + 1) else k
def kOf (b : Bond) : Nat := findK b 3601 0
theorem findK_ok (b : Bond) : ∀ (f k : Nat), (∀ i, i < k → Goes b i) → ¬ Goes b (k + f) → (∀ i, i < findK b f k → Goes b i) ∧ ¬ Goes b (findK b f k) ∧ findK b f k ≤ k + f
  | 0, k, h1, h2 => ⟨h1, h2, Nat.le_refl _⟩
  | f + 1, k, h1, h2 => by
    simp only [findK]
    split
    · rename_i hg
      have hg := (goesB_iff b k).1 hg
      have := findK_ok b f (k + 1) (fun i hi => by
        rcases Nat.lt_or_ge i k with h | h
        · exact h1 i h
        · have : i = k := by omega
          rw [this]; exact hg) (by rw [show k + 1 + f = k + (f + 1) by omega]; exact h2)
      exact ⟨this.1, this.2.1, by omega⟩
    · rename_i hg
      exact ⟨h1, fun h => hg ((goesB_iff b k).2 h), by omega⟩
theorem addM_far {y m d : Nat} {n : Int} {e : Bool} (h : ¬ (-3600 ≤ n ∧ n ≤ 3600)) : addM y m d n e = none := by unfold addM; rw [if_neg h]
theorem anch_far (b : Bond) (hm : months b ≠ 0) : ¬ Goes b 3601 := by
  rintro ⟨d, hd, _⟩
  have hc := months_cases b
  unfold anch addD at hd
  split at hd
  · rw [addM_far (by rcases hc with h | h | h | h | h <;> rw [h] <;> omega)] at hd
    simp at hd
  · simp at hd
theorem kOf_ok {b : Bond} (hm : months b ≠ 0) : (∀ i, i < kOf b → Goes b i) ∧ ¬ Goes b (kOf b) ∧ kOf b ≤ 3601 := by
  have := findK_ok b 3601 0 (fun i hi => absurd hi (by omega)) (by rw [Nat.zero_add]; exact anch_far b hm)
  exact ⟨this.1, this.2.1, Nat.le_trans this.2.2 (by decide)⟩
theorem addD_zero {day : Int} (h : IsDay day) (e : Bool) : addD day 0 e = some day.toNat := by
  obtain ⟨y, m, d, hc, hd, ho⟩ := isDay_civ h
  unfold addD
  rw [if_pos h, ho]
  have h1 := hc.y1
  have h2 := hc.y2
  have h3 := hc.m1
  have h4 := hc.m2
  have h5 := hc.d2
  unfold addM
  rw [if_pos (by omega)]
  have e1 : ((((y * 12 + m - 1 : Nat) : Int) + 0) / 12).toNat = y := by omega
  have e2 : ((((y * 12 + m - 1 : Nat) : Int) + 0) % 12).toNat + 1 = m := by omega
  simp only [e1, e2]
  unfold mkDay
  rw [if_pos ⟨h1, h2⟩]
  congr 1
  have : (if e = true ∧ d = mlen y m then mlen y m else min d (mlen y m)) = d := by split <;> omega
  rw [this, hd]; omega
theorem anch_zero {b : Bond} (h : IsDay b.mature) : anch b 0 = some b.mature.toNat := by
  unfold anch
  rw [show (-((0 : Nat) : Int) * months b) = 0 by simp]
  exact addD_zero h _
theorem kOf_pos {b : Bond} (h : chk b = none) : 1 ≤ kOf b := by
  obtain ⟨h1, h2, h3⟩ := chk_days h
  obtain ⟨d1, d2, d3⟩ := daysE_none h1
  obtain ⟨k1, k2, k3⟩ := kOf_ok h2
  rcases Nat.eq_zero_or_pos (kOf b) with h0 | h0
  · rw [h0] at k2
    exact absurd ⟨_, anch_zero d2, by omega⟩ k2
  · exact h0
def mkPers : Int → List Nat → List (Int × Int)
  | _, [] => []
  | f, d :: ds => (f, (d : Int)) :: mkPers d ds
def perC : List (Int × Int) → List D
  | [] => []
  | (a, b) :: ps => .int .i64 a :: .int .i64 b :: perC ps
theorem perC_app (l r : List (Int × Int)) : perC (l ++ r) = perC l ++ perC r := by
  induction l with
  | nil => rfl
  | cons x xs ih => obtain ⟨a, b⟩ := x; simp [perC, ih]
theorem perC_len (l : List (Int × Int)) : (perC l).length = l.length * 2 := by
  induction l with
  | nil => rfl
  | cons x xs ih => obtain ⟨a, b⟩ := x; simp [perC, ih]; omega
theorem perC_clo (l : List (Int × Int)) (b n : Nat) : (perC l).all (D.clo b (n + 1)) = true := by
  induction l with
  | nil => rfl
  | cons x xs ih => obtain ⟨p, q⟩ := x; simp [perC]; simpa using ih
theorem mkPers_len (f : Int) (l : List Nat) : (mkPers f l).length = l.length := by
  induction l generalizing f with
  | nil => rfl
  | cons x xs ih => simp [mkPers, ih]
theorem zeros12 (a b : D) : zeros 1 [a, b] = [a, b] := by rfl
theorem of_loop_plan {b : Bond} {days : List Nat} {nx : Int} {is : Bool} (hd : days.length ≤ 90000) : ∀ (rest pre : List Nat) (acc : List (Int × Int)) (fr : Int), days = pre ++ rest → acc ≠ [] → acc.length = pre.length →
    L.loop [1, 6, 7, 8, 9, 27, 28, 29] [1, 6, 7, 8] plan_Of_b1 2 [.loc 0 0, .int .i64 nx, .bool is, .lsl 2 0 acc.length 2, .int .i64 fr, .lsl 1 0 days.length 1, .int .i64 days.length, .int .i64 pre.length]
        [.live (bondC b), .live (ints days), .live (perC acc)] =
      some (.exit 0, [.loc 0 0, .int .i64 nx, .bool is, .lsl 2 0 days.length 2], [.live (bondC b), .live (ints days), .live (perC (acc ++ mkPers fr rest))]) := by
  have hcl := ints_clo days 2 11
  have hbc : (bondC b).all (D.clo 2 12) = true := by obtain ⟨i, m, f, c, rd, n, s, e, ex⟩ := b; simp [bondC]
  intro rest
  induction rest with
  | nil =>
    intro pre acc fr hdd hne hal
    have hpl : pre.length = days.length := by rw [hdd]; simp
    rw [hal, hpl]
    have hpc := perC_clo acc 2 11
    simp only [mkPers, List.append_nil]
    generalize bondC b = B at *
    generalize perC acc = pc at *
    generalize hid : ints days = id at *
    generalize days.length = K at *
    refine roundL (S_plan_Of_b1 ..) ?_
    simp [s_plan_Of_b1, hcl, hbc, hpc]
  | cons d rest ih =>
    intro pre acc fr hdd hne hal
    have hn := ih (pre ++ [d]) (acc ++ [(fr, (d : Int))]) d (by rw [hdd]; simp) (by simp) (by simp [hal])
    have hmk : acc ++ mkPers fr (d :: rest) = acc ++ [(fr, (d : Int))] ++ mkPers d rest := by simp [mkPers]
    rw [← hmk] at hn
    have hlt : pre.length < days.length := by rw [hdd]; simp
    have hget : (ints days)[pre.length]? = some (.int .i64 d) := by
      rw [hdd]; simp [ints]
    have hpc := perC_clo acc 2 11
    rw [perC_app] at hn
    have hpl := perC_len acc
    rw [show perC [(fr, (d : Int))] = [.int .i64 fr, .int .i64 d] from rfl] at hn
    have htk : (perC acc).take (acc.length * 2) = perC acc := List.take_of_length_le (by omega)
    have hil : (ints days).length = days.length := ints_len days
    have e1 : IntKind.i64.wrap ((pre.length : Int) + 1) = ((pre.length + 1 : Nat) : Int) := by rw [wrap64 _ (by omega)]; omega
    have hlen : acc.length + 1 ≤ 4294967296 := by omega
    rw [List.length_append, List.length_append] at hn
    simp only [List.length_singleton] at hn
    generalize perC (acc ++ mkPers fr (d :: rest)) = pz at *
    generalize bondC b = B at *
    generalize perC acc = pc at *
    generalize ints days = id at *
    generalize days.length = K at *
    generalize hA : acc.length = A at *
    generalize pre.length = P at *
    have hltI : (P : Int) < K := by omega
    simp at hn
    refine roundL (S_plan_Of_b1 ..) ?_
    simp [s_plan_Of_b1, hcl, hbc, hpc, hlt, hltI, hget, zeros12, htk, e1, hlen, hpl, hn]
end Go.Ev.Code
end
section
set_option linter.unusedVariables false
set_option linter.unusedSimpArgs false
namespace Go.Ev.Code
open Go Go.Ev
def rawPers (b : Bond) : List (Int × Int) := mkPers b.issue (ancs b (kOf b)).reverse
def hitB (b : Bond) : Bool := match anch b (kOf b) with
  | some d => decide ((d : Int) = b.issue)
  | none => false
def planR (b : Bond) : Err × List (Int × Int) := match chk b with
  | some e => (some e, [])
  | none => if hitB b = true then (none, rawPers b) else if b.stub = 0 then (some (5, tStub), []) else if b.stub = 2 then
      (match rawPers b with
        | _ :: q :: r => (none, (b.issue, q.2) :: r)
        | ps => (none, ps))
    else (none, rawPers b)
def perD (ps : List (Int × Int)) : D := .sl ps.length (perC ps)
def planD (r : Err × List (Int × Int)) : D := .tup [perD r.2, errO r.1]
theorem rawPers_len (b : Bond) : (rawPers b).length = kOf b := by unfold rawPers; rw [mkPers_len, List.length_reverse, ancs_len]
theorem fzL_perC (l : List (Int × Int)) (n : Nat) (m : Mem) : fzL (fz (n + 1)) (perC l) m = some (perC l, m) := by
  induction l with
  | nil => rfl
  | cons x xs ih => obtain ⟨a, b⟩ := x; simp [perC, ih]
theorem plan_loop0 {b : Bond} {days : List Nat} {nx : Int} {is : Bool} (hd : days.length ≤ 90000) (hne : days ≠ []) :
    L.loop [1, 6, 7, 8, 9, 27, 28, 29] [1, 6, 7, 8] plan_Of_b1 2 [.loc 0 0, .int .i64 nx, .bool is, .nils, .int .i64 b.issue, .lsl 1 0 days.length 1, .int .i64 days.length, .int .i64 0]
        [.live (bondC b), .live (ints days)] =
      some (.exit 0, [.loc 0 0, .int .i64 nx, .bool is, .lsl 2 0 days.length 2], [.live (bondC b), .live (ints days), .live (perC (mkPers b.issue days))]) := by
  obtain ⟨d, rest, rfl⟩ : ∃ d rest, days = d :: rest := List.exists_cons_of_ne_nil hne
  have hn := of_loop_plan (b := b) (nx := nx) (is := is) hd rest [d] [(b.issue, (d : Int))] d rfl (by simp) rfl
  have hcl := ints_clo (d :: rest) 2 11
  have hbc : (bondC b).all (D.clo 2 12) = true := by obtain ⟨i, m, f, c, rd, n, s, e, ex⟩ := b; simp [bondC]
  rw [show [(b.issue, (d : Int))] ++ mkPers d rest = mkPers b.issue (d :: rest) from rfl, show perC [(b.issue, (d : Int))] = [.int .i64 b.issue, .int .i64 d] from rfl] at hn
  have hget : (ints (d :: rest))[0]? = some (.int .i64 d) := by simp [ints]
  have hil := ints_len (d :: rest)
  have hlt : 0 < (d :: rest).length := by simp
  generalize perC (mkPers b.issue (d :: rest)) = pz at *
  generalize bondC b = B at *
  generalize ints (d :: rest) = id at *
  generalize (d :: rest).length = K at *
  simp at hn
  have hltI : (0 : Int) < K := by omega
  refine roundL (S_plan_Of_b1 ..) ?_
  simp [s_plan_Of_b1, hcl, hbc, hlt, hltI, hget, zeros12, wrap64, hn]
theorem plan_Of_ok {b : Bond} (hc : b.coupon.length ≤ 1000000) (hr : b.redeem.length ≤ 1000000) : L.call plan_Of [bondD b] = some (planD (planR b)) := by
  have hck := bond_Check_ok hc hr
  by_cases hchk : chk b = none
  · obtain ⟨k1, k2, k3⟩ := kOf_ok (chk_days hchk).2.1
    have kp := kOf_pos hchk
    have han := anchors_ok (by omega) kp k1 k2
    have hlen := ancs_len b (kOf b)
    have hrev := rev_ok_i (pre := [.live (bondC b)]) (l := ints (ancs b (kOf b))) (by obtain ⟨i, m, f, c, rd, n, s, e, ex⟩ := b; simp [bondC]) (by rw [ints_len, hlen]; omega)
      (fun d hd => by
        simp only [ints, List.mem_map] at hd
        obtain ⟨x, _, rfl⟩ := hd
        exact ⟨rfl, rfl⟩)
    rw [ints_len, hlen, show (ints (ancs b (kOf b))).reverse = ints (ancs b (kOf b)).reverse by simp [ints]] at hrev
    have hz : ancD (anch b (kOf b)) = .int .i64 ((anch b (kOf b)).getD 0 : Nat) := by cases anch b (kOf b) <;> rfl
    rw [hz] at han
    have hlp := plan_loop0 (b := b) (days := (ancs b (kOf b)).reverse) (nx := ((anch b (kOf b)).getD 0 : Nat)) (is := (anch b (kOf b)).isSome) (by rw [List.length_reverse, hlen]; omega) (by
      intro h
      have := congrArg List.length h
      rw [List.length_reverse, hlen] at this
      simp at this; omega)
    rw [List.length_reverse, hlen] at hlp
    have hpl := perC_len (rawPers b)
    have hrl := rawPers_len b
    rw [hrl] at hpl
    have hit : hitB b = ((anch b (kOf b)).isSome && decide ((((anch b (kOf b)).getD 0 : Nat) : Int) = b.issue)) := by
      unfold hitB
      cases anch b (kOf b) <;> simp
    have htk : (perC (rawPers b)).take (kOf b * 2) = perC (rawPers b) := List.take_of_length_le (by omega)
    have hfz : ∀ m, fzL (fz 10) (perC (rawPers b)) m = some (perC (rawPers b), m) := fun m => fzL_perC (rawPers b) 9 m
    have hpc := perC_clo (rawPers b) 0 11
    unfold planR
    rw [hchk]
    simp only
    rw [hit]
    unfold rawPers at *
    generalize (anch b (kOf b)).isSome = is at *
    generalize (anch b (kOf b)).getD 0 = nx at *
    generalize ints (ancs b (kOf b)).reverse = rv at *
    generalize ints (ancs b (kOf b)) = iv at *
    have f2 : L.call fault_New [.int .i64 5, .str [115, 116, 117, 98]] = some (erAt 5 tStub) := fault_New_ok (c := 5) (by decide) tStub
    rw [hchk] at hck
    simp [errO] at hck
    generalize hps : mkPers b.issue (ancs b (kOf b)).reverse = ps at *
    generalize hk : kOf b = K at *
    obtain ⟨i, m, f, c, rd, n, s, e, ex⟩ := b
    unfold bondD bondC at *
    simp only at *
    simp at hrev
    refine callL T_plan_Of rfl (S_plan_Of ..) ?_
    by_cases hh : (is && decide ((nx : Int) = i)) = true
    · rw [if_pos hh]
      simp only [Bool.and_eq_true, decide_eq_true_eq] at hh
      obtain ⟨rfl, hh⟩ := hh
      rw [hh] at han hlp
      simp [s_plan_Of, hck, han, hrev, hlp, hpc, hfz, hpl, htk, planD, perD, hrl, errO]
    · rw [if_neg hh]
      by_cases hs0 : s = 0
      · subst hs0
        rw [if_pos rfl]
        cases is with
        | false => simp [s_plan_Of, hck, han, hrev, hlp, f2, planD, perD, errO, erAt, tStub, perC]
        | true =>
          have hh : ¬ (nx : Int) = i := by simpa using hh
          simp [s_plan_Of, hck, han, hrev, hlp, hh, f2, planD, perD, errO, erAt, tStub, perC]
      · rw [if_neg hs0]
        have hh2 : is = false ∨ (is = true ∧ ¬ (nx : Int) = i) := by
          cases is with
          | false => exact .inl rfl
          | true => exact .inr ⟨rfl, by simpa using hh⟩
        by_cases hs2 : s = 2
        · subst hs2
          rw [if_pos rfl]
          by_cases hK1 : 1 < K
          · obtain ⟨p, q, r, rfl⟩ : ∃ p q r, ps = p :: q :: r := by
              cases ps with
              | nil => simp at hrl; omega
              | cons p t => cases t with
                | nil => simp at hrl; omega
                | cons q r => exact ⟨p, q, r, rfl⟩
            obtain ⟨p1, p2⟩ := p
            obtain ⟨q1, q2⟩ := q
            have hK1' : (1 : Int) < K := by omega
            have hrK : r.length + 1 + 1 = K := by simpa using hrl
            have hKr : K - 1 = r.length + 1 := by omega
            have hrl2 := perC_len r
            have hfz2 : ∀ m, fzL (fz 10) (perC r) m = some (perC r, m) := fun m => fzL_perC r 9 m
            have hbn : bnds true false K [.int .i64 1] = some (1, K) := by
              have h1K : (1 : Int) ≤ K := by omega
              have h1K' : 1 ≤ K := by omega
              simp [bnds, bnd, h1K, h1K']
            have hpc2 := perC_clo r 0 11
            have htk2 : (perC r).take (r.length * 2) = perC r := List.take_of_length_le (by omega)
            have hb1 : 2 + (r.length + 1) * 2 ≤ (perC r).length + 1 + 1 + 1 + 1 := by omega
            have hb2 : (r.length + 1) * 2 = r.length * 2 + 1 + 1 := by omega
            have hb3 : 2 + (r.length * 2 + 1 + 1) ≤ r.length * 2 + 1 + 1 + 1 + 1 := by omega
            simp only [perC] at hlp
            rcases hh2 with rfl | ⟨rfl, hh2⟩
            · simp [s_plan_Of, hck, han, hrev, hlp, hK1, hK1', hbn, hKr, hrl2, hfz2, hpc2, htk2, hb1, hb2, hb3, planD, perD, perC, errO]
            · simp [s_plan_Of, hck, han, hrev, hlp, hh2, hK1, hK1', hbn, hKr, hrl2, hfz2, hpc2, htk2, hb1, hb2, hb3, planD, perD, perC, errO]
          · have hK1' : ¬ (1 : Int) < K := by omega
            have hcase : (match ps with | _ :: q :: r => ((none : Err), (i, q.2) :: r) | ps => (none, ps)) = (none, ps) := by
              match ps, hrl with
              | [], _ => rfl
              | [_], _ => rfl
              | _ :: _ :: _, hrl => simp at hrl; omega
            rw [hcase]
            rcases hh2 with rfl | ⟨rfl, hh2⟩
            · simp [s_plan_Of, hck, han, hrev, hlp, hK1, hK1', hpc, hfz, hpl, htk, planD, perD, hrl, errO]
            · simp [s_plan_Of, hck, han, hrev, hlp, hh2, hK1, hK1', hpc, hfz, hpl, htk, planD, perD, hrl, errO]
        · rw [if_neg hs2]
          rcases hh2 with rfl | ⟨rfl, hh2⟩
          · simp [s_plan_Of, hck, han, hrev, hlp, hs0, hs2, hpc, hfz, hpl, htk, planD, perD, hrl, errO]
          · simp [s_plan_Of, hck, han, hrev, hlp, hh2, hs0, hs2, hpc, hfz, hpl, htk, planD, perD, hrl, errO]
  · cases hce : chk b with
    | none => exact absurd hce hchk
    | some er =>
      unfold planR
      rw [hce] at hck ⊢
      obtain ⟨ec, es⟩ := er
      simp only [planD, perD, perC, List.length_nil]
      obtain ⟨i, m, f, c, rd, n, s, e, ex⟩ := b
      unfold bondD bondC at *
      simp only at *
      simp [errO, erAt] at hck
      refine callL T_plan_Of rfl (S_plan_Of ..) ?_
      simp [s_plan_Of, hck, errO, erAt]
end Go.Ev.Code
end
