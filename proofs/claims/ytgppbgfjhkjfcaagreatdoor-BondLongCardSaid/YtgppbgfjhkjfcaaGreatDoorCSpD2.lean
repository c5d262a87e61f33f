/- A part of the proof of planLone_card, bondLong_card. -/
import Derived.Test.YtgppbgfjhkjfcaaGreatDoorCSpD1
set_option linter.unusedVariables false
set_option linter.unusedSimpArgs false
section
namespace Go.Ev.Code
open Go Go.Ev
theorem XC : ∀ (l : List Nat) (f : Int) (i : Nat), i < l.length → (lF f l)[i]? = some (if i = 0 then f else ((l[i - 1]?.getD 0 : Nat) : Int), ((l[i]?.getD 0 : Nat) : Int))
 | [], _, i, h => by simp at h
 | d :: ds, f, 0, h => by simp [lF]
 | d :: ds, f, i + 1, h => by
   have h' : i < ds.length := by simpa using h
   have := XC ds d i h'
   simp only [lF, List.getElem?_cons_succ, this, Nat.add_sub_cancel]
   cases i with
   | zero => simp
   | succ j => simp
structure Whole (b : aV) (ps : List (Int × Int)) : Prop where
 ne : ps ≠ []
 first : ∀ p : Int × Int, ps[0]? = some p → p.1 = b.issue
 last : ∀ p : Int × Int, ps[ps.length - 1]? = some p → p.2 = b.dD
 len : ps.length ≤ 200
 ord : ∀ (i : Nat) (p : Int × Int), ps[i]? = some p → p.1 < p.2
 next : ∀ (i : Nat) (p q : Int × Int), ps[i]? = some q → ps[i + 1]? = some p → p.1 = q.2 ∧ regular b p = true
 stub : b.stub = 0 → ∀ p : Int × Int, ps[0]? = some p → regular b p = true
theorem EL {b : aV} {i : Nat} (h : i < eu b) : (iy b)[i]? = some (if i = 0 then b.issue else (((anch b (eu b - i)).getD 0 : Nat) : Int), (((anch b (eu b - 1 - i)).getD 0 : Nat) : Int)) := by
 unfold iy
 have hl := Es b (eu b)
 rw [XC _ _ _ (by rw [List.length_reverse, hl]; exact h)]
 have hg : ∀ j, j < eu b → (jL b (eu b)).reverse[j]? = some ((anch b (eu b - 1 - j)).getD 0) := by
  intro j hj
  rw [List.getElem?_reverse (by rw [hl]; exact hj), hl]
  simp [jL, List.getElem?_range, show eu b - 1 - j < eu b by omega]
 rw [hg i h, Option.getD_some]
 by_cases h0 : i = 0
 ·simp [h0]
 ·rw [if_neg h0, if_neg h0, hg (i - 1) (by omega), Option.getD_some, show eu b - 1 - (i - 1) = eu b - i by omega]
theorem Td {b : aV} (hchk : chk b = none) {k : Nat} (hk : k < eu b) : ∃ a, anch b k = some a ∧ b.issue < (a : Int) ∧ (k + 1 < eu b → ∃ c, anch b (k + 1) = some c ∧ c < a) := by
 have hm := (iD hchk).2.1
 obtain ⟨g1, g2, g3⟩ := N_ hm
 obtain ⟨a, ha, hai⟩ := g1 k hk
 refine ⟨a, ha, hai, fun hk2 => ?_⟩
 obtain ⟨c, hc, _⟩ := g1 (k + 1) hk2
 exact ⟨c, hc, YE hm (Nat.lt_succ_self k) ha hc⟩
theorem af_ {b : aV} (hchk : chk b = none) {i : Nat} {p : Int × Int} (h : (iy b)[i]? = some p) : p.1 < p.2 ∧ b.issue < p.2 := by
 have hl : i < eu b := by rw [← zU]; exact (List.getElem?_eq_some_iff.1 h).1
 rw [EL hl] at h
 simp at h
 subst h
 obtain ⟨a, ha, hai, hn⟩ := Td hchk (k := eu b - 1 - i) (by omega)
 simp only [ha, Option.getD_some]
 by_cases h0 : i = 0
 ·rw [if_pos h0]; exact ⟨hai, hai⟩
 ·rw [if_neg h0]
  obtain ⟨c, hc, hca⟩ := hn (by omega)
  rw [show eu b - i = eu b - 1 - i + 1 by omega, hc, Option.getD_some]
  exact ⟨by omega, hai⟩
theorem akF {b : aV} (hchk : chk b = none) {i : Nat} {p q : Int × Int} (hq : (iy b)[i]? = some q) (hp : (iy b)[i + 1]? = some p) : p.1 = q.2 ∧ regular b p = true := by
 have hl : i + 1 < eu b := by rw [← zU]; exact (List.getElem?_eq_some_iff.1 hp).1
 rw [EL (by omega)] at hq
 rw [EL hl] at hp
 simp at hq hp
 obtain ⟨a, ha, hai, hn⟩ := Td hchk (k := eu b - 1 - (i + 1)) (by omega)
 obtain ⟨c, hc, hca⟩ := hn (by omega)
 rw [show eu b - 1 - (i + 1) + 1 = eu b - (i + 1) by omega] at hc
 subst hp
 subst hq
 refine ⟨?_, ?_⟩
 ·simp only
  rw [show eu b - 1 - i = eu b - (i + 1) by omega]
 ·simp only [ha, hc, Option.getD_some]
  exact Ti hchk (k := eu b - 1 - (i + 1)) (by omega) ha ⟨c, by rw [show eu b - 1 - (i + 1) + 1 = eu b - (i + 1) by omega]; exact hc, rfl⟩
theorem aae {b : aV} (hchk : chk b = none) (hs : b.stub = 0 → RI b = true) : Whole b (iy b) := by
 have kp := YV hchk
 have hm := (iD hchk).2.1
 obtain ⟨d1, d2, d3⟩ := CZ (iD hchk).1
 have hl := zU b
 refine ⟨?_, ?_, ?_, ?_, ?_, ?_, ?_⟩
 ·intro h; rw [h] at hl; simp at hl; omega
 ·intro p hp
  rw [EL (by omega)] at hp
  simp at hp
  rw [← hp]
 ·intro p hp
  rw [hl, EL (by omega)] at hp
  simp at hp
  rw [← hp]
  simp only [show eu b - 1 - (eu b - 1) = 0 by omega, Lc d2, Option.getD_some]
  omega
 ·have := anp hchk; omega
 ·exact fun i p hp => (af_ hchk hp).1
 ·exact fun i p q hq hp => akF hchk hq hp
 ·intro h0 p hp
  have hh := hs h0
  rw [EL (by omega)] at hp
  simp at hp
  subst hp
  obtain ⟨a, ha, hai, _⟩ := Td hchk (k := eu b - 1) (by omega)
  simp only [Nat.sub_zero, ha, Option.getD_some]
  refine Ti hchk (k := eu b - 1) (by omega) ha ?_
  rw [show eu b - 1 + 1 = eu b by omega]
  unfold RI at hh
  cases hk : anch b (eu b) with
  | none => rw [hk] at hh; simp at hh
  | some c => rw [hk] at hh; exact ⟨c, rfl, by simpa using hh⟩
theorem Pm {b : aV} (h : (jm b).1 = none) : chk b = none ∧ Whole b (jm b).2 := by
 unfold jm at h ⊢
 cases hchk : chk b with
 | some e => rw [hchk] at h; simp at h
 | none =>
   rw [hchk] at h
   simp only at h ⊢
   refine ⟨trivial, ?_⟩
   by_cases hh : RI b = true
   ·rw [if_pos hh]; exact aae hchk fun _ => hh
   ·rw [if_neg hh] at h ⊢
    by_cases h0 : b.stub = 0
    ·rw [if_pos h0] at h; simp at h
    ·rw [if_neg h0] at h ⊢
     have hw := aae hchk fun h => absurd h h0
     by_cases h2 : b.stub = 2
     ·rw [if_pos h2]
      split
      ·rename_i p q r hr
       rw [hr] at hw
       have hq := af_ hchk (i := 1) (p := q) (by rw [hr]; rfl)
       refine ⟨by simp, ?_, ?_, ?_, ?_, ?_, fun h => absurd h h0⟩
       ·intro x hx; simp at hx; rw [← hx]
       ·intro x hx
        have hl := hw.last
        cases r with
        | nil => simp at hx hl; rw [← hx]; exact hl
        | cons y ys =>
          refine hl x ?_
          simp at hx ⊢
          exact hx
       ·have := hw.len; simp at this ⊢; omega
       ·intro i x hx
        cases i with
        | zero => simp at hx; rw [← hx]; exact hq.2
        | succ j => exact hw.ord (j + 2) x (by simpa using hx)
       ·intro i x y hy hx
        cases i with
        | zero =>
          simp at hy
          have := hw.next 1 x q (by simp) (by simpa using hx)
          rw [← hy]; exact this
        | succ j => exact hw.next (j + 2) x y (by simpa using hy) (by simpa using hx)
      ·exact hw
     ·rw [if_neg h2]; exact hw
theorem JC : ∀ {ps : List (Int × Int)} {i : Nat} {p : Int × Int}, ps[i]? = some p → (bW ps)[i * 2]? = some (.int .i64 p.1) ∧ (bW ps)[i * 2 + 1]? = some (.int .i64 p.2) ∧ i * 2 + 2 ≤ (bW ps).length ∧ ((bW ps).drop (i * 2)).take 2 = [.int .i64 p.1, .int .i64 p.2]
 | [], i, p, h => by simp at h
 | (a, b) :: ps, 0, p, h => by simp at h; subst h; simp [bW]
 | (a, b) :: ps, i + 1, p, h => by
   obtain ⟨h1, h2, h3, h4⟩ := JC (ps := ps) (i := i) (p := p) (by simpa using h)
   have e1 : (i + 1) * 2 = i * 2 + 1 + 1 := by omega
   have e2 : (i + 1) * 2 + 1 = i * 2 + 1 + 1 + 1 := by omega
   rw [e1]
   refine ⟨by simpa [bW] using h1, by simpa [bW] using h2, by simp [bW]; omega, by simpa [bW] using h4⟩
theorem BZ (b : aV) (k : Nat) : (aW b).all (D.clo k 12) = true := by obtain ⟨i, m, f, c, rd, n, s, e, ex⟩ := b; simp [aW]
theorem F5 (b : aV) : (aW b).length = 9 := rfl
end Go.Ev.Code
end
section
namespace Go.Ev.Code
open Go Go.Ev
theorem Tf {y : Nat} (h : y ≤ 1000000) : L.call jv [.int .i64 y] = some (.bool (leap y)) := by
 have q1 := BR y 4
 have q2 := BR y 100
 have q3 := BR y 400
 simp at q1 q2 q3
 refine aO Q8 rfl (QX ..) ?_
 unfold leap
 have c4 : ((y : Int) % 4 = 0) ↔ y % 4 = 0 := by omega
 have c100 : ((y : Int) % 100 = 0) ↔ y % 100 = 0 := by omega
 have c400 : ((y : Int) % 400 = 0) ↔ y % 400 = 0 := by omega
 by_cases h4 : y % 4 = 0
 ·by_cases h100 : y % 100 = 0
  ·by_cases h400 : y % 400 = 0 <;> simp (disch := omega) [uo, q1, q2, q3, c4, c100, c400, h4, h100, h400]
  ·simp (disch := omega) [uo, q1, q2, q3, c4, c100, c400, h4, h100]
 ·simp (disch := omega) [uo, q1, q2, q3, c4, c100, c400, h4]
theorem qP {y m : Nat} (h : y ≤ 1000000) (h1 : 1 ≤ m) (h2 : m ≤ 12) : L.call dF [.int .i64 y, .int .i64 m] = some (.int .i64 (bf y m)) := by
 have hl := Tf h
 refine aO OL rfl (OG ..) ?_
 have : m = 1 ∨ m = 2 ∨ m = 3 ∨ m = 4 ∨ m = 5 ∨ m = 6 ∨ m = 7 ∨ m = 8 ∨ m = 9 ∨ m = 10 ∨ m = 11 ∨ m = 12 := by omega
 rcases this with rfl | rfl | rfl | rfl | rfl | rfl | rfl | rfl | rfl | rfl | rfl | rfl
 case inr.inl =>
  cases hy : leap y <;> rw [hy] at hl <;> simp [wJ, bf, hl, hy]
 all_goals simp [wJ, bf]
theorem wG (n : Int) : L.call gZ [.int .i64 n] = some (.bool (decide (0 ≤ n ∧ n ≤ 109572))) := by
 refine aO Vh rfl (Vg ..) ?_
 by_cases h : 0 ≤ n
 ·by_cases h' : n ≤ 109572 <;> simp [BQ, h, h']
 ·simp [BQ, h]
theorem JH {y : Nat} (h : y ≤ 1000000) : L.call iI [.int .i64 y] = some (.int .i64 (bU y 12)) := by
 have hl := Tf h
 rw [agN]
 refine aO Q9 rfl (QY ..) ?_
 cases hy : leap y <;> rw [hy] at hl <;> simp [Gz, hl]
theorem akd (y : Nat) : bU y 12 ≤ 366 ∧ 365 ≤ bU y 12 := by rw [agN]; split <;> omega
theorem abQ {y m d : Nat} (hy : y ≤ 2199) : ∀ (j k : Nat), k + j = y → 1900 ≤ k →
  L.loop [1, 4, 5] [1, 4] jM 1 [.loc 0 0, .int .i64 (dG k), .int .i64 k] [.live [.int .i64 y, .int .i64 m, .int .i64 d]] =
    some (.exit 0, [.loc 0 0, .int .i64 (dG y)], [.live [.int .i64 y, .int .i64 m, .int .i64 d]]) := by
 intro j
 induction j with
 | zero =>
   intro k hk h1
   have : k = y := by omega
   subst this
   generalize dG k = B
   refine aJ (Ea ..) ?_
   simp [xG]
 | succ j ih =>
   intro k hk h1
   have hl := JH (y := k) (by omega)
   have hn := ih (k + 1) (by omega) (by omega)
   have hs := Bz h1
   have hb := Jj (y := k) (by omega)
   have hc := akd k
   have hlt : k < y := by omega
   rw [hs] at hn
   generalize dG y = By at *
   generalize dG k = B at *
   generalize bU k 12 = l at *
   have e1 : IntKind.i64.wrap ((B : Int) + l) = ((B + l : Nat) : Int) := by rw [wrap64 _ (by omega)]; omega
   have e2 : IntKind.i64.wrap ((k : Int) + 1) = ((k + 1 : Nat) : Int) := by rw [wrap64 _ (by omega)]; omega
   generalize B + l = B2 at *
   generalize k + 1 = k2 at *
   refine aJ (Ea ..) ?_
   simp [xG, hl, hlt, e1, e2, hn]
theorem abR {y m d A : Nat} (hy : y ≤ 2200) (hm : m ≤ 12) (hA : A ≤ 1000000) : ∀ (j k : Nat), k + j = m → 1 ≤ k →
  L.loop [1, 4, 6] [1, 4] jO 1 [.loc 0 0, .int .i64 ((A + bU y (k - 1) : Nat) : Int), .int .i64 k] [.live [.int .i64 y, .int .i64 m, .int .i64 d]] =
    some (.exit 2, [.loc 0 0, .int .i64 ((A + bU y (m - 1) : Nat) : Int)], [.live [.int .i64 y, .int .i64 m, .int .i64 d]]) := by
 intro j
 induction j with
 | zero =>
   intro k hk h1
   have : k = m := by omega
   subst this
   generalize A + bU y (k - 1) = B
   refine aJ (Eb ..) ?_
   simp [xH]
 | succ j ih =>
   intro k hk h1
   have hl := qP (y := y) (m := k) (by omega) h1 (by omega)
   have hn := ih (k + 1) (by omega) (by omega)
   have hc : A + bU y (k + 1 - 1) = A + bU y (k - 1) + bf y k := by
    rw [Nat.add_sub_cancel]
    obtain ⟨q, rfl⟩ : ∃ q, k = q + 1 := ⟨k - 1, by omega⟩
    simp only [bU, Nat.add_sub_cancel]; omega
   rw [hc] at hn
   have hb := Rl y (k - 1)
   have hb2 := xq y k
   have hlt : k < m := by omega
   have hBl : A + bU y (k - 1) ≤ 1000372 := by omega
   generalize A + bU y (k - 1) = B at *
   generalize A + bU y (m - 1) = C at *
   generalize bf y k = l at *
   have e1 : IntKind.i64.wrap ((B : Int) + l) = ((B + l : Nat) : Int) := by rw [wrap64 _ (by omega)]; omega
   have e2 : IntKind.i64.wrap ((k : Int) + 1) = ((k + 1 : Nat) : Int) := by rw [wrap64 _ (by omega)]; omega
   generalize B + l = B2 at *
   generalize k + 1 = k2 at *
   refine aJ (Eb ..) ?_
   simp (disch := omega) [xH, hl, hlt, e1, e2, hn]
theorem ahn {y m d : Nat} (h1 : 1900 ≤ y) (h2 : y ≤ 2199) (hm : 1 ≤ m) (hm2 : m ≤ 12) (hd : 1 ≤ d) (hd2 : d ≤ bf y m) :
  L.call jG [jT y m d] = some (.aS [.int .i64 (dayOf y m d), .bool true]) := by
 have hl := qP (y := y) (m := m) (by omega) hm hm2
 have hbb := Jj (y := y) (by omega)
 have hl1 := abQ (y := y) (m := m) (d := d) h2 (y - 1900) 1900 (by omega) (by omega)
 have hl2 := abR (y := y) (m := m) (d := d) (A := dG y) (by omega) hm2 (by omega) (m - 1) 1 (by omega) (by omega)
 simp only [Nat.sub_self, bU, Nat.add_zero] at hl2
 have hml := xq y m
 have hcu := Rl y (m - 1)
 have hC : dayOf y m d = dG y + bU y (m - 1) + d - 1 := rfl
 rw [show dG 1900 = 0 from rfl] at hl1
 have g1 : ¬ (y : Int) < 1900 := by omega
 have g2 : ¬ (2199 : Int) < y := by omega
 have g3 : ¬ (d : Int) < 1 := by omega
 generalize bf y m = l at *
 have g4 : ¬ (l : Int) < d := by omega
 have g5 : ¬ l < d := by omega
 have g6 : ¬ 2199 < y := by omega
 generalize hx : dG y + bU y (m - 1) = x at *
 generalize dayOf y m d = r at *
 generalize dG y = b at *
 have e1 : IntKind.i64.wrap ((x : Int) + d) = ((x + d : Nat) : Int) := by rw [wrap64 _ (by omega)]; omega
 have e2 : IntKind.i64.wrap (((x + d : Nat) : Int) - 1) = (r : Int) := by rw [wrap64 _ (by omega)]; omega
 generalize x + d = b2 at *
 simp at hl1 hl2
 refine aO I_ rfl (I8 ..) ?_
 unfold jT
 simp (disch := omega) [wK, hl, g1, g2, g3, g4, g5, g6, e1, e2, hl1, hl2]
theorem afu {y m d : Nat} (h : ¬ (1900 ≤ y ∧ y ≤ 2199)) : L.call jG [jT y m d] = some (.aS [.int .i64 0, .bool false]) := by
 refine aO I_ rfl (I8 ..) ?_
 unfold jT
 by_cases h1 : 1900 ≤ y
 ·have g1 : ¬ (y : Int) < 1900 := by omega
  have g2 : (2199 : Int) < y := by omega
  have g6 : 2199 < y := by omega
  simp [wK, g1, g2, g6]
 ·have g1 : (y : Int) < 1900 := by omega
  simp [wK, g1]
end Go.Ev.Code
end
section
namespace Go.Ev.Code
open Go Go.Ev
theorem Zv {y day : Nat} (hlo : dG y ≤ day) (hhi : day < dG (y + 1)) (hy : y ≤ 2199) : ∀ (j k : Nat), k + j = y → 1900 ≤ k →
  L.loop [0, 2, 3] [0, 2, 3] iG 2 [.int .i64 ((day - dG k : Nat) : Int), .loc 0 0, .loc 1 0] [.live [.int .i64 0, .int .i64 0, .int .i64 0], .live [.int .i64 k, .int .i64 1, .int .i64 0]] =
    some (.exit 0, [.int .i64 ((day - dG y : Nat) : Int), .loc 0 0, .loc 1 0], [.live [.int .i64 0, .int .i64 0, .int .i64 0], .live [.int .i64 y, .int .i64 1, .int .i64 0]]) := by
 intro j
 induction j with
 | zero =>
   intro k hk h1
   have : k = y := by omega
   subst this
   have hl := JH (y := k) (by omega)
   have hs := Bz h1
   generalize dG (k + 1) = b2 at *
   generalize dG k = b at *
   generalize bU k 12 = l at *
   have g : ¬ (l : Int) ≤ ((day - b : Nat) : Int) := by omega
   have g' : ¬ l ≤ day - b := by omega
   generalize day - b = r at *
   refine aJ (zL ..) ?_
   simp [uM, hl, g, g']
 | succ j ih =>
   intro k hk h1
   have hl := JH (y := k) (by omega)
   have hs := Bz h1
   have hn := ih (k + 1) (by omega) (by omega)
   have hmo := Et (x := k + 1) (y := y) (by omega) (by omega)
   have hbl := Jj (y := y + 1) (by omega)
   rw [hs] at hn hmo
   generalize dG (y + 1) = by1 at *
   generalize dG y = by0 at *
   generalize dG k = b at *
   generalize bU k 12 = l at *
   have g : (l : Int) ≤ ((day - b : Nat) : Int) := by omega
   have g' : l ≤ day - b := by omega
   have e1 : IntKind.i64.wrap (((day - b : Nat) : Int) - l) = ((day - (b + l) : Nat) : Int) := by rw [wrap64 _ (by omega)]; omega
   have e2 : IntKind.i64.wrap ((k : Int) + 1) = ((k + 1 : Nat) : Int) := by rw [wrap64 _ (by omega)]; omega
   generalize day - (b + l) = r2 at *
   generalize day - b = r at *
   generalize k + 1 = k2 at *
   refine aJ (zL ..) ?_
   simp [uM, hl, g, g', e1, e2, hn]
theorem Zw {y m d : Nat} (h : uO y m d) : ∀ (j k : Nat), k + j = m → 1 ≤ k →
  L.loop [0, 2, 3] [0, 2, 3] iH 2 [.int .i64 ((bU y (m - 1) + (d - 1) - bU y (k - 1) : Nat) : Int), .loc 0 0, .loc 1 0] [.live [.int .i64 0, .int .i64 0, .int .i64 0], .live [.int .i64 y, .int .i64 k, .int .i64 0]] =
    some (.exit 2, [.int .i64 ((d - 1 : Nat) : Int), .loc 0 0, .loc 1 0], [.live [.int .i64 0, .int .i64 0, .int .i64 0], .live [.int .i64 y, .int .i64 m, .int .i64 0]]) := by
 have h1 := h.d1
 have h2 := h.d2
 have h3 := h.m2
 have h4 := h.y2
 have h5 := xq y m
 intro j
 induction j with
 | zero =>
   intro k hk hk1
   have : k = m := by omega
   subst this
   have hl := qP (y := y) (m := k) (by omega) hk1 h3
   rw [show bU y (k - 1) + (d - 1) - bU y (k - 1) = d - 1 by omega]
   generalize bf y k = l at *
   have g : ¬ (l : Int) ≤ ((d - 1 : Nat) : Int) := by omega
   have g' : ¬ l ≤ d - 1 := by omega
   generalize d - 1 = d1 at *
   refine aJ (zM ..) ?_
   simp (disch := omega) [uN, hl, g, g']
 | succ j ih =>
   intro k hk hk1
   have hl := qP (y := y) (m := k) (by omega) hk1 (by omega)
   have hn := ih (k + 1) (by omega) (by omega)
   have hc : bU y (k + 1 - 1) = bU y (k - 1) + bf y k := by
    rw [Nat.add_sub_cancel]
    obtain ⟨q, rfl⟩ : ∃ q, k = q + 1 := ⟨k - 1, by omega⟩
    simp only [bU, Nat.add_sub_cancel]
   have hmo := Jp y (j := k) (k := m - 1) (by omega)
   rw [Nat.add_sub_cancel] at hc hn
   rw [hc] at hmo hn
   have hub := Rl y (m - 1)
   have hub2 : bU y (m - 1) + (d - 1) ≤ 1000 := by omega
   have hmo2 : bU y (k - 1) + bf y k ≤ bU y (m - 1) + (d - 1) := by omega
   generalize bU y (m - 1) + (d - 1) = T at *
   generalize bf y k = l at *
   generalize bU y (k - 1) = c at *
   have g : l ≤ T - c := by omega
   have g' : (l : Int) ≤ ((T - c : Nat) : Int) := by omega
   have e1 : IntKind.i64.wrap (((T - c : Nat) : Int) - l) = ((T - (c + l) : Nat) : Int) := by rw [wrap64 _ (by omega)]; omega
   have e2 : IntKind.i64.wrap ((k : Int) + 1) = ((k + 1 : Nat) : Int) := by rw [wrap64 _ (by omega)]; omega
   generalize T - (c + l) = r2 at *
   generalize T - c = r1 at *
   generalize k + 1 = k2 at *
   refine aJ (zM ..) ?_
   simp (disch := omega) [uN, hl, g, g', e1, e2, hn]
theorem Bg {y m d : Nat} (h : uO y m d) : L.call fE [.int .i64 (dayOf y m d)] = some (jT y m d) := by
 have hlo := h.lo
 have hhi := h.hi
 have hd1 := h.d1
 have hd2 := h.d2
 have hml := xq y m
 have hy := h.y2
 have hm2 := h.m2
 have l1 := Zv hlo hhi hy (y - 1900) 1900 (by have := h.y1; omega) (by omega)
 have l2 := Zw h (m - 1) 1 (by have := h.m1; omega) (by omega)
 have hT : dayOf y m d - dG y = bU y (m - 1) + (d - 1) := by unfold dayOf; omega
 simp only [Nat.sub_self, bU, Nat.sub_zero] at l2
 rw [← hT, show ((1 : Nat) : Int) = 1 from rfl] at l2
 rw [show dG 1900 = 0 from rfl, Nat.sub_zero] at l1
 generalize dayOf y m d = day at *
 generalize dG y = b at *
 generalize day - b = r at *
 have e4 : IntKind.i64.wrap (((d - 1 : Nat) : Int) + 1) = (d : Int) := by rw [wrap64 _ (by omega)]; omega
 generalize d - 1 = dd at *
 simp at l1 l2
 refine aO QA rfl (Qx ..) ?_
 unfold jT
 simp (disch := omega) [Ej, l1, l2, e4]
theorem ad1 {y m d : Nat} (h : uO y m d) : L.call kE [.int .i64 (dayOf y m d)] = some (.bool (decide (d = bf y m))) := by
 have hc := Bg h
 have hl := qP (y := y) (m := m) (by have := h.y2; omega) h.m1 h.m2
 generalize dayOf y m d = day at *
 generalize bf y m = l at *
 unfold jT at hc
 refine aO Q7 rfl (QW ..) ?_
 by_cases hd : d = l
 ·subst hd
  simp [yJ, hc, hl]
 ·have hd' : ¬ (d : Int) = l := by omega
  simp [yJ, hc, hl, hd, hd']
end Go.Ev.Code
end
section
namespace Go.Ev.Code
open Go Go.Ev
theorem ajK {st : Bool} {d : Nat} : ∀ (N cy cm : Nat), 1 ≤ cm → cm ≤ 12 → cy + N ≤ 100000 →
  L.loop [1, 8, 9] [1, 8, 9] dL 1 [.int .i64 N, .loc 0 0, .bool st] [.live [.int .i64 cy, .int .i64 cm, .int .i64 d]] =
    some (.exit 0, [.int .i64 0, .loc 0 0, .bool st], [.live [.int .i64 (((cy * 12 + cm - 1 + N) / 12 : Nat) : Int), .int .i64 (((cy * 12 + cm - 1 + N) % 12 + 1 : Nat) : Int), .int .i64 d]]) := by
 intro N
 induction N with
 | zero =>
   intro cy cm h1 h2 h3
   rw [show (cy * 12 + cm - 1 + 0) / 12 = cy by omega, show (cy * 12 + cm - 1 + 0) % 12 + 1 = cm by omega]
   refine aJ (jZ ..) ?_
   simp [iM]
 | succ N ih =>
   intro cy cm h1 h2 h3
   have e1 : IntKind.i64.wrap ((cm : Int) + 1) = ((cm + 1 : Nat) : Int) := by rw [wrap64 _ (by omega)]; omega
   have e2 : IntKind.i64.wrap ((cy : Int) + 1) = ((cy + 1 : Nat) : Int) := by rw [wrap64 _ (by omega)]; omega
   have e3 : IntKind.i64.wrap (((N + 1 : Nat) : Int) - 1) = (N : Int) := by rw [wrap64 _ (by omega)]; omega
   have g : (0 : Int) < ((N + 1 : Nat) : Int) := by omega
   have g0 : 0 < N + 1 := by omega
   by_cases hc : cm = 12
   ·have hn := ih (cy + 1) 1 (by omega) (by omega) (by omega)
    rw [show (cy + 1) * 12 + 1 - 1 + N = cy * 12 + cm - 1 + (N + 1) by omega] at hn
    have g1 : (12 : Int) < ((cm + 1 : Nat) : Int) := by omega
    have g2 : 12 < cm + 1 := by omega
    generalize (cy * 12 + cm - 1 + (N + 1)) / 12 = Y at *
    generalize (cy * 12 + cm - 1 + (N + 1)) % 12 + 1 = M at *
    generalize N + 1 = N1 at *
    generalize cm + 1 = c1 at *
    generalize cy + 1 = y1 at *
    simp only [show ((1 : Nat) : Int) = 1 from rfl] at hn
    refine aJ (jZ ..) ?_
    simp [iM, e1, e2, e3, g, g0, g1, g2, hn]
   ·have hn := ih cy (cm + 1) (by omega) (by omega) (by omega)
    rw [show cy * 12 + (cm + 1) - 1 + N = cy * 12 + cm - 1 + (N + 1) by omega] at hn
    have g1 : ¬ (12 : Int) < ((cm + 1 : Nat) : Int) := by omega
    have g2 : ¬ 12 < cm + 1 := by omega
    generalize (cy * 12 + cm - 1 + (N + 1)) / 12 = Y at *
    generalize (cy * 12 + cm - 1 + (N + 1)) % 12 + 1 = M at *
    generalize N + 1 = N1 at *
    generalize cm + 1 = c1 at *
    refine aJ (jZ ..) ?_
    simp [iM, e1, e3, g, g0, g1, g2, hn]
theorem ajL {st : Bool} {d cy cm : Nat} {n : Int} (h : n ≤ 0) :
  L.loop [1, 8, 9] [1, 8, 9] dL 1 [.int .i64 n, .loc 0 0, .bool st] [.live [.int .i64 cy, .int .i64 cm, .int .i64 d]] =
    some (.exit 0, [.int .i64 n, .loc 0 0, .bool st], [.live [.int .i64 cy, .int .i64 cm, .int .i64 d]]) := by
 have g : ¬ (0 : Int) < n := by omega
 refine aJ (jZ ..) ?_
 simp [iM, g]
theorem acB {st : Bool} {d : Nat} : ∀ (N cy cm : Nat), 1 ≤ cm → cm ≤ 12 → N ≤ cy * 12 + cm - 1 → cy ≤ 100000 → N ≤ 100000 →
  L.loop [1, 8, 9] [8, 9] dZ 1 [.int .i64 (-(N : Int)), .loc 0 0, .bool st] [.live [.int .i64 cy, .int .i64 cm, .int .i64 d]] =
    some (.exit 2, [.loc 0 0, .bool st], [.live [.int .i64 (((cy * 12 + cm - 1 - N) / 12 : Nat) : Int), .int .i64 (((cy * 12 + cm - 1 - N) % 12 + 1 : Nat) : Int), .int .i64 d]]) := by
 intro N
 induction N with
 | zero =>
   intro cy cm h1 h2 h3 h4 h5
   rw [show (cy * 12 + cm - 1 - 0) / 12 = cy by omega, show (cy * 12 + cm - 1 - 0) % 12 + 1 = cm by omega]
   refine aJ (oQ ..) ?_
   simp [ku]
 | succ N ih =>
   intro cy cm h1 h2 h3 h4 h5
   have e3 : IntKind.i64.wrap (-((N + 1 : Nat) : Int) + 1) = -(N : Int) := by rw [wrap64 _ (by omega)]; omega
   have g : -((N + 1 : Nat) : Int) < 0 := by omega
   have e1 : IntKind.i64.wrap ((cm : Int) - 1) = ((cm - 1 : Nat) : Int) := by rw [wrap64 _ (by omega)]; omega
   by_cases hc : cm = 1
   ·have e2 : IntKind.i64.wrap ((cy : Int) - 1) = ((cy - 1 : Nat) : Int) := by rw [wrap64 _ (by omega)]; omega
    have hn := ih (cy - 1) 12 (by omega) (by omega) (by omega) (by omega) (by omega)
    rw [show (cy - 1) * 12 + 12 - 1 - N = cy * 12 + cm - 1 - (N + 1) by omega] at hn
    have g1 : ((cm - 1 : Nat) : Int) < 1 := by omega
    have g2 : cm - 1 < 1 := by omega
    generalize (cy * 12 + cm - 1 - (N + 1)) / 12 = Y at *
    generalize (cy * 12 + cm - 1 - (N + 1)) % 12 + 1 = M at *
    generalize -((N + 1 : Nat) : Int) = N1 at *
    generalize -(N : Int) = N0 at *
    generalize cm - 1 = c1 at *
    generalize cy - 1 = y1 at *
    simp only [show ((12 : Nat) : Int) = 12 from rfl] at hn
    refine aJ (oQ ..) ?_
    simp [ku, e1, e2, e3, g, g1, g2, hn]
   ·have hn := ih cy (cm - 1) (by omega) (by omega) (by omega) (by omega) (by omega)
    rw [show cy * 12 + (cm - 1) - 1 - N = cy * 12 + cm - 1 - (N + 1) by omega] at hn
    have g1 : ¬ ((cm - 1 : Nat) : Int) < 1 := by omega
    have g2 : ¬ cm - 1 < 1 := by omega
    have g3 : ¬ cm - 1 = 0 := by omega
    generalize (cy * 12 + cm - 1 - (N + 1)) / 12 = Y at *
    generalize (cy * 12 + cm - 1 - (N + 1)) % 12 + 1 = M at *
    generalize -((N + 1 : Nat) : Int) = N1 at *
    generalize -(N : Int) = N0 at *
    generalize cm - 1 = c1 at *
    refine aJ (oQ ..) ?_
    simp [ku, e1, e3, g, g1, g2, g3, hn]
def okD : Option Nat → D
 | some n => .aS [.int .i64 n, .bool true]
 | none => .aS [.int .i64 0, .bool false]
theorem PI {y m d : Nat} (h1 : 1 ≤ m) (h2 : m ≤ 12) (hd : 1 ≤ d) (hd2 : d ≤ bf y m) : L.call jG [jT y m d] = some (okD (oH y m d)) := by
 unfold oH
 split
 ·rename_i h; exact ahn h.1 h.2 h1 h2 hd hd2
 ·rename_i h; exact afu h
theorem ah7 {y m d y' m' : Nat} {n : Int} {e : Bool} (h : uO y m d) (hn1 : -3600 ≤ n) (hn2 : n ≤ 3600) (hy' : y' ≤ 1000000) (hm1 : 1 ≤ m') (hm2 : m' ≤ 12)
  {k : Int} (hl1 : L.loop [1, 8, 9] [1, 8, 9] dL 1 [.int .i64 n, .loc 0 0, .bool (e && decide (d = bf y m))] [.live [.int .i64 y, .int .i64 m, .int .i64 d]] = some (.exit 0, [.int .i64 k, .loc 0 0, .bool (e && decide (d = bf y m))], [.live (if k = 0 then [.int .i64 y', .int .i64 m', .int .i64 d] else [.int .i64 y, .int .i64 m, .int .i64 d])]))
  (hl2 : L.loop [1, 8, 9] [8, 9] dZ 1 [.int .i64 k, .loc 0 0, .bool (e && decide (d = bf y m))] [.live (if k = 0 then [.int .i64 y', .int .i64 m', .int .i64 d] else [.int .i64 y, .int .i64 m, .int .i64 d])] = some (.exit 2, [.loc 0 0, .bool (e && decide (d = bf y m))], [.live [.int .i64 y', .int .i64 m', .int .i64 d]])) :
  L.call bY [.int .i64 (dayOf y m d), .int .i64 n, .bool e] = some (okD (oH y' m' (if e = true ∧ d = bf y m then bf y' m' else min d (bf y' m')))) := by
 have hc := Bg h
 have hla := ad1 h
 have his := wG (dayOf y m d)
 have hle := h.le
 rw [decide_eq_true (by omega)] at his
 have hlen := qP hy' hm1 hm2
 have hpos := yj (y := y') hm1 hm2
 have hd1 := h.d1
 generalize (if k = 0 then [D.int .i64 y', .int .i64 m', .int .i64 d] else [D.int .i64 y, .int .i64 m, .int .i64 d]) = cells at *
 generalize dayOf y m d = day at *
 have g1 : ¬ n < -3600 := by omega
 have g2 : ¬ 3600 < n := by omega
 unfold jT at hc
 by_cases hst : e = true ∧ d = bf y m
 ·rw [if_pos hst]
  have hof := PI (y := y') (d := bf y' m') hm1 hm2 (by omega) (Nat.le_refl _)
  obtain ⟨he, hdl⟩ := hst
  rw [decide_eq_true hdl] at hla
  rw [he, decide_eq_true hdl] at hl1 hl2
  subst he
  simp only [Bool.and_self] at hl1 hl2
  generalize bf y' m' = l at *
  unfold jT at hof
  refine aO jJ rfl (jI ..) ?_
  cases hmk : oH y' m' l <;> rw [hmk] at hof <;> simp [okD] at hof <;> simp [dQ, his, g1, g2, hc, hla, hl1, hl2, hlen, hof, okD]
 ·rw [if_neg hst]
  have hb : (e && decide (d = bf y m)) = false := by
   cases e <;> simp_all
  rw [hb] at hl1 hl2
  by_cases hdl : bf y' m' < d
  ·have hof := PI (y := y') (d := bf y' m') hm1 hm2 (by omega) (Nat.le_refl _)
   rw [show min d (bf y' m') = bf y' m' by omega]
   have g3 : ((bf y' m' : Nat) : Int) < d := by omega
   generalize bf y' m' = l at *
   unfold jT at hof
   refine aO jJ rfl (jI ..) ?_
   cases e with
   | false => cases hmk : oH y' m' l <;> rw [hmk] at hof <;> simp [okD] at hof <;> simp [dQ, his, g1, g2, hc, hl1, hl2, hlen, hdl, g3, hof, okD]
   | true =>
     have hdm : ¬ d = bf y m := fun x => hst ⟨rfl, x⟩
     rw [decide_eq_false hdm] at hla
     cases hmk : oH y' m' l <;> rw [hmk] at hof <;> simp [okD] at hof <;> simp [dQ, his, g1, g2, hc, hla, hl1, hl2, hlen, hdl, g3, hof, okD]
  ·have hof := PI (y := y') (d := d) hm1 hm2 (by omega) (by omega)
   rw [show min d (bf y' m') = d by omega]
   have g3 : ¬ ((bf y' m' : Nat) : Int) < d := by omega
   generalize bf y' m' = l at *
   unfold jT at hof
   refine aO jJ rfl (jI ..) ?_
   cases e with
   | false => cases hmk : oH y' m' d <;> rw [hmk] at hof <;> simp [okD] at hof <;> simp [dQ, his, g1, g2, hc, hl1, hl2, hlen, hdl, g3, hof, okD]
   | true =>
     have hdm : ¬ d = bf y m := fun x => hst ⟨rfl, x⟩
     rw [decide_eq_false hdm] at hla
     cases hmk : oH y' m' d <;> rw [hmk] at hof <;> simp [okD] at hof <;> simp [dQ, his, g1, g2, hc, hla, hl1, hl2, hlen, hdl, g3, hof, okD]
theorem Hq (day n : Int) (e : Bool) : L.call bY [.int .i64 day, .int .i64 n, .bool e] = some (okD (sG day n e)) := by
 unfold sG
 by_cases hd : bF day
 ·rw [if_pos hd]
  obtain ⟨y, m, d, hc, rfl, ho⟩ := dU hd
  rw [ho]
  unfold Eo
  by_cases hn : -3600 ≤ n ∧ n ≤ 3600
  ·rw [if_pos hn]
   have y1 := hc.y1
   have y2 := hc.y2
   have m1 := hc.m1
   have m2 := hc.m2
   simp only
   by_cases hs : 0 ≤ n
   ·obtain ⟨N, rfl⟩ : ∃ N : Nat, n = N := ⟨n.toNat, by omega⟩
    rw [show ((((y * 12 + m - 1 : Nat) : Int) + (N : Int)) / 12).toNat = (y * 12 + m - 1 + N) / 12 by omega, show ((((y * 12 + m - 1 : Nat) : Int) + (N : Int)) % 12).toNat + 1 = (y * 12 + m - 1 + N) % 12 + 1 by omega]
    have l1 := ajK (st := e && decide (d = bf y m)) (d := d) N y m m1 m2 (by omega)
    have l2 := acB (st := e && decide (d = bf y m)) (d := d) 0 ((y * 12 + m - 1 + N) / 12) ((y * 12 + m - 1 + N) % 12 + 1) (by omega) (by omega) (by omega) (by omega) (by omega)
    rw [show ((y * 12 + m - 1 + N) / 12 * 12 + ((y * 12 + m - 1 + N) % 12 + 1) - 1 - 0) / 12 = (y * 12 + m - 1 + N) / 12 by omega, show ((y * 12 + m - 1 + N) / 12 * 12 + ((y * 12 + m - 1 + N) % 12 + 1) - 1 - 0) % 12 + 1 = (y * 12 + m - 1 + N) % 12 + 1 by omega] at l2
    exact ah7 hc hn.1 hn.2 (by omega) (by omega) (by omega) (k := 0) (by simpa using l1) (by simpa using l2)
   ·obtain ⟨N, rfl⟩ : ∃ N : Nat, n = -(N : Int) := ⟨(-n).toNat, by omega⟩
    rw [show ((((y * 12 + m - 1 : Nat) : Int) + -(N : Int)) / 12).toNat = (y * 12 + m - 1 - N) / 12 by omega, show ((((y * 12 + m - 1 : Nat) : Int) + -(N : Int)) % 12).toNat + 1 = (y * 12 + m - 1 - N) % 12 + 1 by omega]
    have l1 := ajL (st := e && decide (d = bf y m)) (d := d) (cy := y) (cm := m) (n := -(N : Int)) (by omega)
    have l2 := acB (st := e && decide (d = bf y m)) (d := d) N y m m1 m2 (by omega) (by omega) (by omega)
    have hk : ¬ (-(N : Int)) = 0 := by omega
    exact ah7 hc hn.1 hn.2 (by omega) (by omega) (by omega) (k := -(N : Int)) (by rw [if_neg hk]; exact l1) (by rw [if_neg hk]; exact l2)
  ·rw [if_neg hn]
   have his := wG (dayOf y m d)
   have hle := hc.le
   rw [decide_eq_true (by omega)] at his
   generalize dayOf y m d = dd at *
   refine aO jJ rfl (jI ..) ?_
   by_cases h1 : n < -3600
   ·simp [dQ, his, h1, okD]
   ·have h2 : 3600 < n := by omega
    simp [dQ, his, h1, h2, okD]
 ·rw [if_neg hd]
  have his := wG day
  rw [decide_eq_false hd] at his
  refine aO jJ rfl (jI ..) ?_
  simp [dQ, his, okD]
end Go.Ev.Code
end
section
namespace Go.Ev.Code
open Go Go.Ev
theorem WE {n k : Int} (hk : 0 < k) (hk2 : k ≤ 1000000) : Int.tmod (IntKind.i64.wrap (Int.tmod n k + k)) k = n % k := by
 have h1 : Int.tmod n k = n % k ∨ Int.tmod n k = n % k - k := by
  rw [Int.tmod_eq_emod]
  split
  ·left; omega
  ·right
   have : (k.natAbs : Int) = k := by omega
   omega
 have h2 := Int.emod_nonneg n (show k ≠ 0 by omega)
 have h3 := Int.emod_lt_of_pos n hk
 generalize n % k = r at *
 rw [wrap64 _ (by omega), Int.tmod_eq_emod_of_nonneg (by omega)]
 rcases h1 with h1 | h1
 ·rw [h1, Int.add_emod_right, Int.emod_eq_of_lt h2 h3]
 ·rw [h1, show r - k + k = r by omega, Int.emod_eq_of_lt h2 h3]
theorem RQ (n : Int) : L.call iF [.int .i64 n] = some (.int .i64 (n % 109573)) := by
 have h1 : Int.tmod n 109573 = n % 109573 ∨ Int.tmod n 109573 = n % 109573 - 109573 := by
  rw [Int.tmod_eq_emod]
  split
  ·left; omega
  ·right; simp
 have h2 := Int.emod_nonneg n (show (109573 : Int) ≠ 0 by omega)
 have h3 := Int.emod_lt_of_pos n (show (0 : Int) < 109573 by omega)
 have e1 : IntKind.i64.wrap (Int.tmod n 109573) = Int.tmod n 109573 := wrap64 _ (by omega)
 have e2 : IntKind.i64.wrap (Int.tmod n 109573 + 109572) = Int.tmod n 109573 + 109572 := wrap64 _ (by omega)
 have e3 : IntKind.i64.wrap (Int.tmod n 109573 + 109572 + 1) = Int.tmod n 109573 + 109573 := by rw [wrap64 _ (by omega)]; omega
 have e4 := WE (n := n) (k := 109573) (by omega) (by omega)
 have e5 : IntKind.i64.wrap (Int.tmod n 109573 + 109573) = Int.tmod n 109573 + 109573 := wrap64 _ (by omega)
 rw [e5] at e4
 have e6 : IntKind.i64.wrap (n % 109573) = n % 109573 := wrap64 _ (by omega)
 refine aO Q5 rfl (QV ..) ?_
 simp [Gy, e1, e2, e3, e4, e6]
def five (c : List UInt8) (k : Int) : aV := ⟨36524, 38351, 2, c, [49, 48, 48], k, 0, false, 0⟩
theorem P9 (c : List UInt8) (k : Int) : L.call eP [.str c, .int .i64 k] = some (bQ (five c k)) := by
 refine aO Qy rfl (Qv ..) ?_
 simp [Eh, five, bQ, aW]
def OU : Err → Int
 | none => 0
 | some (c, _) => c
theorem ahI : TT.fn j_ = none := by kernel_rfl
theorem ahJ : TT.iK j_ = abZ := by kernel_rfl
theorem abH (e : Err) : L.call j_ [dh e] = some (.int .i64 (OU e)) := by
 cases e with
 | none => exact Bd ahI (by rw [ahJ]; rfl) rfl
 | some p =>
   obtain ⟨c, s⟩ := p
   exact Bd ahI (by rw [ahJ]; rfl) rfl
theorem abJ (e : Err) (c : Int) : L.call fD [dh e, .int .i64 c] = some (.bool (decide (OU e = c))) := by
 have h := abH e
 have hcl : D.clo 0 12 (dh e) = true := by cases e <;> rfl
 generalize OU e = z at *
 refine aO Qz rfl (Qw ..) ?_
 by_cases hc : z = c <;> simp [Ei, h, hc, hcl]
end Go.Ev.Code
end
section
namespace Go.Ev.Code
open Go Go.Ev
def mi (day : Int) : Nat := (jF day.toNat).1 * 12 + (jF day.toNat).2.1
theorem Dx {y m d : Nat} (h : uO y m d) : mi (dayOf y m d : Nat) = y * 12 + m := by
 unfold mi
 rw [show ((dayOf y m d : Nat) : Int).toNat = dayOf y m d by omega, acK h]
theorem XB {a : Int} (h : bF a) : 22801 ≤ mi a ∧ mi a ≤ 26400 := by
 obtain ⟨y, m, d, hc, rfl, _⟩ := dU h
 rw [Dx hc]
 have := hc.y1; have := hc.y2; have := hc.m1; have := hc.m2
 omega
theorem acS {a b : Int} (ha : bF a) (hb : bF b) (h : mi a < mi b) : a < b := by
 obtain ⟨y, m, d, hc, rfl, _⟩ := dU ha
 obtain ⟨y', m', d', hc', rfl, _⟩ := dU hb
 rw [Dx hc, Dx hc'] at h
 have := vO hc hc' h
 omega
theorem Ua {a b : Int} (ha : bF a) (hb : bF b) (h : a ≤ b) : mi a ≤ mi b := by
 rcases Nat.lt_or_ge (mi b) (mi a) with h1 | h1
 ·have := acS hb ha h1; omega
 ·exact h1
theorem afP {a b : Int} (ha : bF a) (hb : bF b) (h : mi a + 2 ≤ mi b) : a + 28 < b := by
 obtain ⟨y, m, d, hc, rfl, _⟩ := dU ha
 obtain ⟨y', m', d', hc', rfl, _⟩ := dU hb
 rw [Dx hc, Dx hc'] at h
 have a1 := hc.y1; have a2 := hc.m1; have a3 := hc.m2; have a4 := hc'.y2; have a5 := hc'.m1; have a6 := hc'.m2
 have hm1 : 1 ≤ (y * 12 + m) % 12 + 1 ∧ (y * 12 + m) % 12 + 1 ≤ 12 := by omega
 have hy1 : 1900 ≤ (y * 12 + m) / 12 ∧ (y * 12 + m) / 12 ≤ 2199 := by omega
 have hs : (y * 12 + m) / 12 * 12 + ((y * 12 + m) % 12 + 1) = y * 12 + m + 1 := by omega
 generalize (y * 12 + m) % 12 + 1 = m1 at *
 generalize (y * 12 + m) / 12 = y1 at *
 have hp := yj (y := y1) hm1.1 hm1.2
 have c1 : uO y1 m1 1 := ⟨hy1.1, hy1.2, hm1.1, hm1.2, by omega, by omega⟩
 have c2 : uO y1 m1 28 := ⟨hy1.1, hy1.2, hm1.1, hm1.2, by omega, by omega⟩
 have h1 := vO hc c1 (by omega)
 have h2 := vO c2 hc' (by omega)
 have h3 : dayOf y1 m1 28 = dayOf y1 m1 1 + 27 := by unfold dayOf; omega
 omega
theorem NU {day n : Int} {e : Bool} {r : Nat} (h : sG day n e = some r) : ((mi r : Nat) : Int) = mi day + n := by
 obtain ⟨y, m, d, hc, rfl, hs⟩ := OO h
 rw [Dx hc]
 exact hs
theorem ah5 {day n : Int} (e : Bool) (hd : bF day) (h1 : 22801 ≤ (mi day : Int) + n) (h2 : (mi day : Int) + n ≤ 26400) : ∃ r, sG day n e = some r := by
 have hb := XB hd
 obtain ⟨y, m, d, hc, rfl, ho⟩ := dU hd
 rw [Dx hc] at h1 h2 hb
 unfold sG Eo
 rw [if_pos hd, ho]
 rw [if_pos (by omega)]
 have a2 := hc.m1
 simp only
 unfold oH
 rw [if_pos (by omega)]
 exact ⟨_, rfl⟩
theorem afM (a b : Int) : m_ a b = (mi b : Int) - mi a := rfl
end Go.Ev.Code
end
section
namespace Go.Ev.Code
open Go Go.Ev
abbrev Er := Option (Int × Option (List UInt8))
def erV : Er → D
 | none => .aB
 | some (c, none) => xZ c
 | some (c, some s) => fP c s
def ank : Err → Er
 | none => none
 | some (c, s) => some (c, some s)
def acT (a b : Int) : Int :=
 360 * (((jF b.toNat).1 : Int) - (jF a.toNat).1) + 30 * (((jF b.toNat).2.1 : Int) - (jF a.toNat).2.1) + min ((jF b.toNat).2.2 : Int) 30 - min ((jF a.toNat).2.2 : Int) 30
def vF (k a b : Int) : Int := if k = 1 then acT a b else b - a
theorem Rk {k a b : Int} (ha : bF a) (hb : bF b) : -1000000 ≤ vF k a b ∧ vF k a b ≤ 1000000 := by
 unfold vF
 split
 ·obtain ⟨y, m, d, hc, hd, ho⟩ := dU ha
  obtain ⟨y', m', d', hc', hd', ho'⟩ := dU hb
  unfold acT
  rw [ho, ho']
  have := hc.y1; have := hc.y2; have := hc.m1; have := hc.m2; have := hc'.y1; have := hc'.y2; have := hc'.m1; have := hc'.m2
  simp only
  omega
 ·omega
theorem aby {k a b : Int} (h1 : 1 ≤ k) (h2 : k ≤ 4) (ha : bF a) (hb : bF b) : L.call vS [.int .i64 k, .int .i64 a, .int .i64 b] = some (.int .i64 (vF k a b)) := by
 have hm := Jo k
 rw [decide_eq_true ⟨h1, h2⟩] at hm
 obtain ⟨y, m, d, hc, hd, ho⟩ := dU ha
 obtain ⟨y', m', d', hc', hd', ho'⟩ := dU hb
 have c1 := oW hc
 have c2 := oW hc'
 rw [← hd] at c1
 rw [← hd'] at c2
 unfold jT at c1 c2
 unfold vF acT
 rw [ho, ho']
 simp only
 have a1 := hc.y1; have a2 := hc.y2; have a3 := hc.m1; have a4 := hc.m2
 have b1 := hc'.y1; have b2 := hc'.y2; have b3 := hc'.m1; have b4 := hc'.m2
 refine aO acr rfl (acf ..) ?_
 by_cases h : k = 1
 ·subst h
  have e1 : IntKind.i64.wrap ((y' : Int) - y) = (y' : Int) - y := wrap64 _ (by omega)
  have e2 : IntKind.i64.wrap (360 * ((y' : Int) - y)) = 360 * ((y' : Int) - y) := wrap64 _ (by omega)
  have e3 : IntKind.i64.wrap ((m' : Int) - m) = (m' : Int) - m := wrap64 _ (by omega)
  have e4 : IntKind.i64.wrap (30 * ((m' : Int) - m)) = 30 * ((m' : Int) - m) := wrap64 _ (by omega)
  have e5 : IntKind.i64.wrap (360 * ((y' : Int) - y) + 30 * ((m' : Int) - m)) = 360 * ((y' : Int) - y) + 30 * ((m' : Int) - m) := wrap64 _ (by omega)
  have e6 : IntKind.i64.wrap (360 * ((y' : Int) - y) + 30 * ((m' : Int) - m) + min (d' : Int) 30) = 360 * ((y' : Int) - y) + 30 * ((m' : Int) - m) + min (d' : Int) 30 := wrap64 _ (by omega)
  have e7 : IntKind.i64.wrap (360 * ((y' : Int) - y) + 30 * ((m' : Int) - m) + min (d' : Int) 30 - min (d : Int) 30) = 360 * ((y' : Int) - y) + 30 * ((m' : Int) - m) + min (d' : Int) 30 - min (d : Int) 30 := wrap64 _ (by omega)
  simp [JR, hm, c1, c2, e1, e2, e3, e4, e5, e6, e7]
 ·have e1 : IntKind.i64.wrap (b - a) = b - a := wrap64 _ (by omega)
  simp [JR, hm, c1, c2, h, e1]
theorem UU (n : Int) : L.call qU [.int .i64 n] = some (.bool (decide (bF n))) := by
 have h := xK n
 have h1 := @WC n
 refine aO Yr rfl (Yg ..) ?_
 generalize TJ n = w at *
 by_cases hd : bF n
 ·have : 0 ≤ w := by
   have := fun h => h1.1 h hd
   omega
  simp [EP, h, hd, this]
 ·have : ¬ 0 ≤ w := by have := h1.2 hd; omega
  simp [EP, h, hd, this]
def L6 (k a b : Int) : Rat := Rat.divInt (vF k a b) (if k = 3 then 365 else 360)
def Ec : Except Int Rat → D
 | .ok q => .aS [dI q, .aB]
 | .error c => .aS [.aK, xZ c]
theorem abz {k a b s e f : Int} (h1 : 1 ≤ k) (h2 : k ≤ 3) (ha : bF a) (hb : bF b) (hab : a ≤ b) :
  L.call qh [.int .i64 k, .int .i64 a, .int .i64 b, .int .i64 s, .int .i64 e, .int .i64 f] = some (.aS [dI (L6 k a b), .aB]) := by
 have hm := Jo k
 rw [decide_eq_true ⟨h1, by omega⟩] at hm
 have i1 := UU a
 rw [decide_eq_true ha] at i1
 have i2 := UU b
 rw [decide_eq_true hb] at i2
 have hd := aby h1 (by omega) ha hb
 have hbd := Rk (k := k) ha hb
 have hq : L.call jq [.int .i64 (vF k a b), .int .i64 (if k = 3 then 365 else 360)] = some (.aS [dI (L6 k a b), .aB]) := by
  unfold L6
  refine CU (by omega) ?_ ?_
  ·split <;> omega
  ·split <;> omega
 have h4 : ¬ k = 4 := by omega
 have hlt : ¬ b < a := by omega
 generalize L6 k a b = q at *
 generalize vF k a b = n at *
 refine aO acs rfl (acg ..) ?_
 by_cases h3 : k = 3
 ·subst h3
  rw [if_pos rfl] at hq
  simp [JU, hm, i1, i2, hlt, hd, hq]
 ·rw [if_neg h3] at hq
  simp [JU, hm, i1, i2, hlt, hd, hq, h3, h4]
def rZ (b : aV) (st : Int) : Nat → Int → Option (List (Int × Int))
 | 0, _ => some []
 | f + 1, e => if e ≤ st then some [] else match quasi b e with
   | none => none
   | some a => (rZ b st f a).map fun l => ((a : Int), e) :: l
def Wh (b : aV) (p : Int × Int) : Option (List (Int × Int)) := rZ b p.1 (p.2 - p.1).toNat p.2
theorem XL {b : aV} {day : Int} {a : Nat} (h : quasi b day = some a) : ∃ k, anch b k = some day.toNat ∧ anch b (k + 1) = some a ∧ 0 ≤ day ∧ b.issue < day := by
 unfold quasi at h
 split at h
 ·rename_i k hk
  split at h
  ·simp at h
  ·have := Nb hk
   exact ⟨k, this.2.1, h, this.2.2, by omega⟩
 ·simp at h
theorem Py {b : aV} (hm : months b ≠ 0) {day : Int} {a : Nat} (h : quasi b day = some a) : (a : Int) < day ∧ bF a ∧ bF day := by
 obtain ⟨k, h1, h2, h3, _⟩ := XL h
 have := YE hm (Nat.lt_succ_self k) h1 h2
 have hd := Vk h1
 exact ⟨by omega, Vk h2, by rw [Int.toNat_of_nonneg h3] at hd; exact hd⟩
theorem adY {b : aV} (hm : months b ≠ 0) {st : Int} : ∀ {f : Nat} {e : Int} {l : List (Int × Int)}, rZ b st f e = some l → ∀ q ∈ l, bF q.1 ∧ bF q.2 ∧ q.1 < q.2 ∧ q.2 ≤ e
 | 0, e, l, h => by simp [rZ] at h; subst h; simp
 | f + 1, e, l, h => by
   simp only [rZ] at h
   split at h
   ·simp at h; subst h; simp
   ·split at h
    ·simp at h
    ·rename_i a ha
     have hq := Py hm ha
     cases hl : rZ b st f a with
     | none => rw [hl] at h; simp at h
     | some r =>
       rw [hl] at h
       simp at h
       subst h
       intro q hmem
       rcases List.mem_cons.1 hmem with rfl | hmem
       ·exact ⟨hq.2.1, hq.2.2, hq.1, Int.le_refl _⟩
       ·have := adY hm hl q hmem
        exact ⟨this.1, this.2.1, this.2.2.1, by omega⟩
theorem aad {b : aV} (hm : months b ≠ 0) {st : Int} : ∀ {f : Nat} {e : Int} {l : List (Int × Int)}, bF e → rZ b st f e = some l → l.length + 22800 ≤ mi e
 | 0, e, l, he, h => by
   simp [rZ] at h; subst h
   have := XB he
   simp; omega
 | f + 1, e, l, he, h => by
   have hb := XB he
   simp only [rZ] at h
   split at h
   ·simp at h; subst h; simp; omega
   ·split at h
    ·simp at h
    ·rename_i a ha
     have hq := Py hm ha
     cases hl : rZ b st f a with
     | none => rw [hl] at h; simp at h
     | some r =>
       rw [hl] at h
       simp at h
       subst h
       have ih := aad hm hq.2.1 hl
       obtain ⟨k, h1, h2, h3, _⟩ := XL ha
       unfold anch at h1 h2
       have m1 := NU h1
       have m2 := NU h2
       rw [Int.toNat_of_nonneg h3] at m1
       have hc := lG b
       simp only [List.length_cons]
       have : ((k + 1 : Nat) : Int) * months b = (k : Int) * months b + months b := by rw [Int.natCast_add, Int.add_mul]; simp
       have e1 : -((k + 1 : Nat) : Int) * months b = -((k : Int) * months b) - months b := by rw [Int.neg_mul, this]; omega
       have e2 : -(k : Int) * months b = -((k : Int) * months b) := Int.neg_mul ..
       rw [e1] at m2
       rw [e2] at m1
       generalize (k : Int) * months b = z at *
       omega
theorem FY (b : aV) (k n : Nat) : (aW b).all (D.clo k (n + 1)) = true := by obtain ⟨i, m, f, c, rd, n, s, e, ex⟩ := b; simp [aW]
theorem aft {b : aV} (hchk : chk b = none) (hc : b.je.length ≤ 1000000) (hr : b.jg.length ≤ 1000000) (p1 p2 : Int) : ∀ (f : Nat) (e : Int) (acc : List (Int × Int)), (e - p1).toNat ≤ f → acc ≠ [] → acc.length + f ≤ 1000000 →
  (∀ l, rZ b p1 f e = some l → L.loop [2, 3, 6, 7] [4, 5, 6] eY 2 [.loc 0 0, .loc 1 0, .aT 2 0 acc.length 2, .int .i64 e] [.live (aW b), .live [.int .i64 p1, .int .i64 p2], .live (bW acc)] =
   some (.exit 0, [.undef, .undef, .aT 2 0 (acc ++ l).length 2], [.live (aW b), .live [.int .i64 p1, .int .i64 p2], .live (bW (acc ++ l))])) ∧
  (rZ b p1 f e = none → ∃ x m, L.loop [2, 3, 6, 7] [4, 5, 6] eY 2 [.loc 0 0, .loc 1 0, .aT 2 0 acc.length 2, .int .i64 e] [.live (aW b), .live [.int .i64 p1, .int .i64 p2], .live (bW acc)] =
   some (.ret, [.bK, xZ 4, x], m)) := by
 intro f
 induction f with
 | zero =>
   intro e acc hf hne hal
   have hpc := lH acc 2 11
   have hbc := BZ b 2
   have he : ¬ p1 < e := by omega
   simp only [rZ]
   refine ⟨fun l hl => ?_, fun h => by simp at h⟩
   simp at hl
   subst hl
   rw [List.append_nil]
   generalize bW acc = pc at *
   generalize aW b = B at *
   refine aJ (mZ ..) ?_
   simp [kF, he, hpc, hbc]
 | succ f ih =>
   intro e acc hf hne hal
   have hpc := lH acc 2 11
   have hbc := BZ b 2
   have hpl := JD acc
   simp only [rZ]
   by_cases he : e ≤ p1
   ·rw [if_pos he]
    have he' : ¬ p1 < e := by omega
    refine ⟨fun l hl => ?_, fun h => by simp at h⟩
    simp at hl
    subst hl
    rw [List.append_nil]
    generalize bW acc = pc at *
    generalize aW b = B at *
    refine aJ (mZ ..) ?_
    simp [kF, he', hpc, hbc]
   ·rw [if_neg he]
    have he' : p1 < e := by omega
    have hq := Bc hc hr e
    unfold V_ at hq
    rw [hchk] at hq
    simp only at hq
    cases hqe : quasi b e with
    | none =>
      simp only
      rw [hqe] at hq
      simp [jo] at hq
      refine ⟨fun l hl => by simp at hl, fun _ => ⟨.aT 2 0 acc.length 2, [.live (aW b), .live [.int .i64 p1, .int .i64 p2], .live (bW acc)], ?_⟩⟩
      unfold bQ at hq
      have hbl := F5 b
      have hbd := FY b 0 10
      generalize bW acc = pc at *
      generalize aW b = B at *
      have htk : B.take 9 = B := List.take_of_length_le (by omega)
      refine aJ (mZ ..) ?_
      simp [kF, he', hpc, hbc, hbl, hbd, htk, hq]
    | some a =>
      simp only
      rw [hqe] at hq
      simp [jo] at hq
      have hlt := Py (iD hchk).2.1 hqe
      have hn := ih a (acc ++ [((a : Int), e)]) (by omega) (by simp) (by simp; omega)
      rw [adU, show bW [((a : Int), e)] = [.int .i64 a, .int .i64 e] from rfl, List.length_append, List.length_singleton] at hn
      have htk : (bW acc).take (acc.length * 2) = bW acc := List.take_of_length_le (by omega)
      have hlen : acc.length + 1 ≤ 4294967296 := by omega
      have hstep : ∀ r, L.loop [2, 3, 6, 7] [4, 5, 6] eY 2 [.loc 0 0, .loc 1 0, .aT 2 0 (acc.length + 1) 2, .int .i64 a] [.live (aW b), .live [.int .i64 p1, .int .i64 p2], .live (bW acc ++ [.int .i64 a, .int .i64 e])] = some r →
        L.loop [2, 3, 6, 7] [4, 5, 6] eY 2 [.loc 0 0, .loc 1 0, .aT 2 0 acc.length 2, .int .i64 e] [.live (aW b), .live [.int .i64 p1, .int .i64 p2], .live (bW acc)] = some r := by
       intro r hr
       unfold bQ at hq
       have hbl := F5 b
       have hbd := FY b 0 10
       generalize bW acc = pc at *
       generalize aW b = B at *
       have htkB : B.take 9 = B := List.take_of_length_le (by omega)
       generalize acc.length = A at *
       refine aJ (mZ ..) ?_
       simp [kF, he', hpc, hbc, hbl, hbd, htkB, hq, sW, htk, hlen, hpl, hr]
      refine ⟨fun l hl => ?_, fun h => ?_⟩
      ·cases hl2 : rZ b p1 f a with
       | none => rw [hl2] at hl; simp at hl
       | some r =>
         rw [hl2] at hl
         simp at hl
         subst hl
         have := hn.1 r hl2
         rw [List.append_assoc] at this
         exact hstep _ this
      ·cases hl2 : rZ b p1 f a with
       | some r => rw [hl2] at h; simp at h
       | none =>
         obtain ⟨x, m, hx⟩ := hn.2 hl2
         exact ⟨x, m, hstep _ hx⟩
def Ud : Option (List (Int × Int)) → D
 | some l => .aS [kS l, .aB]
 | none => .aS [.sl 0 [], xZ 4]
theorem YS {b : aV} (hchk : chk b = none) (hc : b.je.length ≤ 1000000) (hr : b.jg.length ≤ 1000000) {p : Int × Int} (hlt : p.1 < p.2) (hle : p.2 - p.1 ≤ 900000) :
  L.call uD [bQ b, pD p] = some (Ud (Wh b p)) := by
 obtain ⟨p1, p2⟩ := p
 simp only at hlt hle
 obtain ⟨f, hf⟩ : ∃ f, (p2 - p1).toNat = f + 1 := ⟨(p2 - p1).toNat - 1, by omega⟩
 have hq := Bc hc hr p2
 unfold V_ at hq
 rw [hchk] at hq
 simp only at hq
 have hbc := BZ b 2
 have hbl := F5 b
 have hbd := FY b 0 10
 have hnle : ¬ p2 ≤ p1 := by omega
 unfold Wh pD
 simp only
 rw [hf]
 simp only [rZ]
 rw [if_neg hnle]
 cases hqe : quasi b p2 with
 | none =>
   rw [hqe] at hq
   simp [jo] at hq
   simp only [Ud]
   unfold bQ at hq ⊢
   generalize aW b = B at *
   have htkB : B.take 9 = B := List.take_of_length_le (by omega)
   have hl : L.loop [2, 3, 6, 7] [4, 5, 6] eY 2 [.loc 0 0, .loc 1 0, .bK, .int .i64 p2] [.live B, .live [.int .i64 p1, .int .i64 p2]] = some (.ret, [.bK, xZ 4, .bK], [.live B, .live [.int .i64 p1, .int .i64 p2]]) := by
    refine aJ (mZ ..) ?_
    simp [kF, hlt, hbc, hbl, hbd, htkB, hq]
   refine aO GR rfl (GL ..) ?_
   simp [Bj, hl]
 | some a =>
   rw [hqe] at hq
   simp [jo] at hq
   simp only
   have hqlt := Py (iD hchk).2.1 hqe
   have hn := aft hchk hc hr p1 p2 f a [((a : Int), p2)] (by omega) (by simp) (by simp; omega)
   rw [show bW [((a : Int), p2)] = [.int .i64 a, .int .i64 p2] from rfl, List.length_singleton] at hn
   have hstep : ∀ r, L.loop [2, 3, 6, 7] [4, 5, 6] eY 2 [.loc 0 0, .loc 1 0, .aT 2 0 1 2, .int .i64 a] [.live (aW b), .live [.int .i64 p1, .int .i64 p2], .live [.int .i64 a, .int .i64 p2]] = some r →
     L.loop [2, 3, 6, 7] [4, 5, 6] eY 2 [.loc 0 0, .loc 1 0, .bK, .int .i64 p2] [.live (aW b), .live [.int .i64 p1, .int .i64 p2]] = some r := by
    intro r hr
    unfold bQ at hq
    generalize aW b = B at *
    have htkB : B.take 9 = B := List.take_of_length_le (by omega)
    refine aJ (mZ ..) ?_
    simp [kF, hlt, hbc, hbl, hbd, htkB, hq, sW, hr]
   cases hl2 : rZ b p1 f a with
   | none =>
     obtain ⟨x, m, hx⟩ := hn.2 hl2
     have := hstep _ hx
     simp only [Ud, Option.map_none]
     unfold bQ
     generalize aW b = B at *
     refine aO GR rfl (GL ..) ?_
     simp [Bj, this]
   | some r =>
     have := hstep _ (hn.1 r hl2)
     simp only [Ud, Option.map_some, kS]
     rw [show [((a : Int), p2)] ++ r = ((a : Int), p2) :: r from rfl] at this
     have hcl := lH (((a : Int), p2) :: r) 0 11
     have hlen := JD (((a : Int), p2) :: r)
     have hfz : ∀ m, kC (fz 10) (bW (((a : Int), p2) :: r)) m = some (bW (((a : Int), p2) :: r), m) := fun m => Vu _ 9 m
     have htk : (bW (((a : Int), p2) :: r)).take ((((a : Int), p2) :: r).length * 2) = bW (((a : Int), p2) :: r) := List.take_of_length_le (by omega)
     unfold bQ
     generalize aW b = B at *
     generalize bW (((a : Int), p2) :: r) = pc at *
     generalize (((a : Int), p2) :: r).length = K at *
     refine aO GR rfl (GL ..) ?_
     simp [Bj, this, hcl, hfz, hlen, htk]
end Go.Ev.Code
end
section
namespace Go.Ev.Code
open Go Go.Ev
def Nj (dW x y : Int) (q : Int × Int) : Rat := Rat.divInt (max (min y q.2 - max x q.1) 0) (dW * (q.2 - q.1))
def sumF (dW x y : Int) : Rat → List (Int × Int) → Rat
 | s, [] => s
 | s, q :: r => sumF dW x y (s + Nj dW x y q) r
abbrev IV (f : Int) : Prop := f = 1 ∨ f = 2 ∨ f = 4 ∨ f = 12
theorem zO {b : aV} (h : months b ≠ 0) : IV b.dW := by
 unfold months at h
 split at h
 ·left; assumption
 ·split at h
  ·right; left; assumption
  ·split at h
   ·right; right; left; assumption
   ·split at h
    ·right; right; right; assumption
    ·simp at h
structure QOk (q : Int × Int) : Prop where
 d1 : bF q.1
 d2 : bF q.2
 lt : q.1 < q.2
theorem IV.mul {f a : Int} (hf : IV f) (h1 : 1 ≤ a) (h2 : a ≤ 200000) : 1 ≤ f * a ∧ f * a ≤ 2400000 := by
 rcases hf with rfl | rfl | rfl | rfl <;> omega
theorem Zr {f x y : Int} {q : Int × Int} (hf : IV f) (hq : QOk q) : RB 64 (Nj f x y q) := by
 have h1 := hq.d1; have h2 := hq.d2; have h3 := hq.lt
 have hm := hf.mul (a := q.2 - q.1) (by omega) (by omega)
 unfold Nj
 exact vG (uF (by omega)) (uF (by omega)) (by omega)
theorem agd {f x y : Int} (hf : IV f) : ∀ {l : List (Int × Int)} {s : Rat} {j : Nat}, (∀ q ∈ l, QOk q) → RB j s → RB (j + 65 * l.length) (sumF f x y s l)
 | [], s, j, hl, hs => by simpa [sumF] using hs
 | q :: r, s, j, hl, hs => by
   have := agd (x := x) (y := y) hf (l := r) (s := s + Nj f x y q) (j := j + 64 + 1) (fun q hq => hl q (List.mem_cons_of_mem _ hq)) (hs.add (Zr hf (hl q (by simp))))
   simp only [sumF]
   exact this.mono (by simp; omega)
theorem ai1 {b : aV} (hf : IV b.dW) {p1 p2 x y : Int} (hx : p1 ≤ x) (hxy : x ≤ y) (hy : y ≤ p2) (d1 : bF p1) (d2 : bF p2) (all : List (Int × Int)) (hall : ∀ q ∈ all, QOk q) (hlen : all.length ≤ 4000) :
  ∀ (l pre : List (Int × Int)) (s : Rat) (j : Nat), all = pre ++ l → RB j s → j + 65 * l.length ≤ 600000 →
    L.loop [2, 3, 4, 14, 77, 78, 79] [14] qX 2 [.int .i64 x, .int .i64 y, .loc 0 0, dI s, kS all, .int .i64 all.length, .int .i64 pre.length] [.live (aW b), .live [.int .i64 p1, .int .i64 p2]] =
      some (.exit 0, [dI (sumF b.dW x y s l)], [.live (aW b), .live [.int .i64 p1, .int .i64 p2]]) := by
 have hbc := BZ b 2
 have hpcc := lH all 2 11
 intro l
 induction l with
 | nil =>
   intro pre s j hal hs hj
   rw [List.append_nil] at hal
   subst hal
   unfold kS
   simp only [sumF]
   generalize aW b = B at *
   generalize bW all = pc at *
   generalize all.length = n at *
   refine aJ (ND ..) ?_
   simp [ET, hbc]
 | cons q r ih =>
   intro pre s j hal hs hj
   have hq := hall q (by rw [hal]; simp)
   have hn := ih (pre ++ [q]) (s + Nj b.dW x y q) (j + 64 + 1) (by rw [hal]; simp) (hs.add (Zr hf hq)) (by simp at hj ⊢; omega)
   rw [List.length_append, List.length_singleton, show ((pre.length + 1 : Nat) : Int) = (pre.length : Int) + 1 by omega] at hn
   simp only [sumF]
   have hg := JC (ps := all) (i := pre.length) (p := q) (by rw [hal]; simp)
   have hlt : pre.length < all.length := by rw [hal]; simp
   have a1 := hq.d1; have a2 := hq.d2; have a3 := hq.lt
   have hm := hf.mul (a := q.2 - q.1) (by omega) (by omega)
   have hadd := DU hs (Zr (x := x) (y := y) hf hq) (by omega)
   have hof : L.call jq [.int .i64 (max (min y q.2 - max x q.1) 0), .int .i64 (b.dW * (q.2 - q.1))] = some (.aS [dI (Nj b.dW x y q), .aB]) := by
    unfold Nj
    exact CU (by omega) (by omega) (by omega)
   have e1 : IntKind.i64.wrap (min y q.2 - max x q.1) = min y q.2 - max x q.1 := wrap64 _ (by omega)
   have e2 : IntKind.i64.wrap (q.2 - q.1) = q.2 - q.1 := wrap64 _ (by omega)
   have e3 : IntKind.i64.wrap (b.dW * (q.2 - q.1)) = b.dW * (q.2 - q.1) := wrap64 _ (by omega)
   have e4 : IntKind.i64.wrap ((pre.length : Int) + 1) = (pre.length : Int) + 1 := wrap64 _ (by omega)
   generalize sumF b.dW x y (s + Nj b.dW x y q) r = res at *
   generalize s + Nj b.dW x y q = s2 at *
   generalize Nj b.dW x y q = qq at *
   obtain ⟨q1, q2⟩ := q
   simp only at *
   unfold kS at *
   obtain ⟨g1, g2, g3, g4⟩ := hg
   generalize bW all = pc at *
   generalize all.length = N at *
   generalize pre.length = P at *
   have hltI : (P : Int) < N := by omega
   obtain ⟨i, m, fq, c, rd, n, st, e, ex⟩ := b
   unfold aW at *
   simp only at *
   refine aJ (ND ..) ?_
   simp [ET, hlt, hltI, g1, g2, g3, g4, e1, e2, e3, e4, hof, hadd, hn]
def Ph (b : aV) (p : Int × Int) (x y : Int) : Except Int Rat :=
 if b.count = 4 then match Wh b p with
  | none => .error 4
  | some l => if x < p.1 ∨ y < x ∨ p.2 < y then .error 6 else .ok (sumF b.dW x y (Rat.divInt 0 1) l)
 else if x < p.1 ∨ y < x ∨ p.2 < y then .error 6 else .ok (L6 b.count x y)
theorem Uj : RB 64 (Rat.divInt 0 1) := vG (uF (by omega)) (uF (by omega)) (by omega)
theorem aac {b : aV} (h : (jm b).1 = none) : chk b = none := (Pm h).1
theorem aie {b : aV} (h : chk b = none) : 1 ≤ b.count ∧ b.count ≤ 4 := by
 unfold chk at h
 split at h <;> try (simp at h; done)
 split at h <;> try (simp at h; done)
 split at h <;> try (simp at h; done)
 split at h <;> try (simp at h; done)
 rename_i h1
 exact Classical.not_not.1 h1
theorem Ue {b : aV} (hchk : chk b = none) {p : Int × Int} (d2 : bF p.2) {l : List (Int × Int)} (h : Wh b p = some l) : (∀ q ∈ l, QOk q) ∧ l.length ≤ 3600 := by
 have hm := (iD hchk).2.1
 have hb := XB d2
 refine ⟨fun q hq => ?_, ?_⟩
 ·have := adY hm h q hq
  exact ⟨this.1, this.2.1, this.2.2.1⟩
 ·have := aad hm d2 h; omega
set_option maxHeartbeats 1000000 in
theorem ac6 {b : aV} (hp : (jm b).1 = none) (hc : b.je.length ≤ 1000000) (hr : b.jg.length ≤ 1000000) {p : Int × Int} (d1 : bF p.1) (d2 : bF p.2) (hlt : p.1 < p.2) (x y : Int) :
  L.call qE [bQ b, pD p, .int .i64 x, .int .i64 y] = some (Ec (Ph b p x y)) := by
 have hchk := aac hp
 have hpl := DI hc hr
 have hcl := lH (jm b).2 0 11
 have hqs := YS hchk hc hr hlt (by omega)
 have hf := zO (iD hchk).2.1
 have hcnt := aie hchk
 have hok := fun {l} h => Ue (l := l) hchk d2 h
 have hz : L.call jq [.int .i64 0, .int .i64 1] = some (.aS [dI (Rat.divInt 0 1), .aB]) := CU (by omega) (by omega) (by omega)
 unfold wC at hpl
 rw [hp] at hpl
 simp only [dh] at hpl
 have hloop := fun l hx hxy hy hall => ai1 (b := b) hf (p1 := p.1) (p2 := p.2) (x := x) (y := y) hx hxy hy d1 d2 l hall
 obtain ⟨p1, p2⟩ := p
 unfold pD at *
 simp only at *
 unfold kS at hpl
 generalize (jm b).2.length = pn at *
 generalize bW (jm b).2 = pc at *
 unfold Ph
 simp only
 have hbad : x < p1 ∨ y < x ∨ p2 < y ∨ (p1 ≤ x ∧ x ≤ y ∧ y ≤ p2) := by omega
 by_cases hk : b.count = 4
 ·rw [if_pos hk]
  cases hq : Wh b (p1, p2) with
  | none =>
    rw [hq] at hqs
    simp only [Ud] at hqs
    obtain ⟨i, m, fq, c, rd, n, st, e, ex⟩ := b
    unfold bQ aW at *
    simp only at *
    subst hk
    refine aO MQ rfl (MP ..) ?_
    simp [lq, hpl, hqs, Ec]
  | some l =>
    rw [hq] at hqs
    simp only [Ud] at hqs
    obtain ⟨hall, hll⟩ := hok hq
    simp only
    have hlp := fun h1 h2 h3 => hloop l h1 h2 h3 hall (by omega) l [] (Rat.divInt 0 1) 64 rfl Uj (by omega)
    have hlc := lH l 0 11
    simp only [List.length_nil] at hlp
    unfold kS at *
    generalize bW l = lc at *
    generalize l.length = ln at *
    generalize Rat.divInt 0 1 = z at *
    generalize sumF b.dW x y z l = res at *
    obtain ⟨i, m, fq, c, rd, n, st, e, ex⟩ := b
    unfold bQ aW at *
    simp only at *
    subst hk
    refine aO MQ rfl (MP ..) ?_
    by_cases h1 : x < p1
    ·rw [if_pos (.inl h1)]
     simp [lq, hpl, hqs, h1, bV, Ec]
    by_cases h2 : y < x
    ·rw [if_pos (.inr (.inl h2))]
     simp [lq, hpl, hqs, h1, h2, bV, Ec]
    by_cases h3 : p2 < y
    ·rw [if_pos (.inr (.inr h3))]
     simp [lq, hpl, hqs, h1, h2, h3, bV, Ec]
    ·rw [if_neg (by omega)]
     have := hlp (by omega) (by omega) (by omega)
     simp at this
     simp [lq, hpl, hqs, h1, h2, h3, hz, this, Ec]
 ·rw [if_neg hk]
  have hcp : ¬ (x < p1 ∨ y < x ∨ p2 < y) → ∀ s e f, L.call qh [.int .i64 b.count, .int .i64 x, .int .i64 y, .int .i64 s, .int .i64 e, .int .i64 f] = some (.aS [dI (L6 b.count x y), .aB]) :=
   fun h s e f => abz (by omega) (by omega) (by omega) (by omega) (by omega)
  generalize L6 b.count x y = res at *
  obtain ⟨i, m, fq, c, rd, n, st, e, ex⟩ := b
  unfold bQ aW at *
  simp only at *
  refine aO MQ rfl (MP ..) ?_
  by_cases h1 : x < p1
  ·rw [if_pos (.inl h1)]
   simp [lq, hpl, hk, h1, bV, Ec]
  by_cases h2 : y < x
  ·rw [if_pos (.inr (.inl h2))]
   simp [lq, hpl, hk, h1, h2, bV, Ec]
  by_cases h3 : p2 < y
  ·rw [if_pos (.inr (.inr h3))]
   simp [lq, hpl, hk, h1, h2, h3, bV, Ec]
  ·rw [if_neg (by omega)]
   have := hcp (by omega) p1 p2 fq
   simp [lq, hpl, hk, h1, h2, h3, this, Ec]
theorem adT {b : aV} (hchk : chk b = none) {p : Int × Int} (d1 : bF p.1) (d2 : bF p.2) {x y : Int} {q : Rat} (h : Ph b p x y = .ok q) {n : Nat} (hn : ∀ l, Wh b p = some l → l.length ≤ n) : RB (64 + 65 * n) q := by
 have hf := zO (iD hchk).2.1
 unfold Ph at h
 split at h
 ·split at h
  ·simp at h
  ·rename_i l hl
   split at h
   ·simp at h
   ·simp at h
    subst h
    exact (agd hf (Ue hchk d2 hl).1 Uj).mono (by have := hn l hl; omega)
 ·split at h
  ·simp at h
  ·rename_i hxy
   simp at h
   subst h
   unfold L6
   have := Rk (k := b.count) (a := x) (b := y) (by omega) (by omega)
   refine (vG (k := 64) (uF (by omega)) (uF ?_) ?_).mono (by omega)
   ·split <;> omega
   ·split <;> omega
def rJ (b : aV) : Rat := UY b * Rat.divInt 1 b.dW
theorem Xc (b : aV) : RB 400 (UY b) := by
 unfold UY
 have hq : RB 400 q0 := Uj.mono (by omega)
 split
 ·exact hq
 ·split
  ·rename_i h; exact (OW h).1
  ·exact hq
theorem XP (b : aV) : RB 400 (wU b) := by
 unfold wU
 have hq : RB 400 q0 := Uj.mono (by omega)
 split
 ·exact hq
 ·split
  ·rename_i h; exact (OW h).1
  ·exact hq
theorem aiK {f : Int} (hf : IV f) : RB 64 (Rat.divInt 1 f) := vG (uF (by omega)) (uF (by omega)) (by omega)
theorem aaf {b : aV} (hf : IV b.dW) : RB 464 (rJ b) := (Xc b).mul (aiK hf)
theorem LU {b : aV} (hf : IV b.dW) (hc : b.je.length ≤ 1000000) (hr : b.jg.length ≤ 1000000) : L.call nZ [bQ b] = some (dI (rJ b)) := by
 have h1 := Eu hc hr
 have h2 : L.call jq [.int .i64 1, .int .i64 b.dW] = some (.aS [dI (Rat.divInt 1 b.dW), .aB]) := CU (by omega) (by omega) (by omega)
 have h3 := PG (Xc b) (aiK hf) (by omega)
 unfold rJ
 generalize UY b * Rat.divInt 1 b.dW = r at *
 generalize Rat.divInt 1 b.dW = v at *
 generalize UY b = q at *
 obtain ⟨i, m, fq, c, rd, n, st, e, ex⟩ := b
 unfold bQ aW at *
 simp only at *
 refine aO Yu rfl (Yi ..) ?_
 simp [Ov, h1, h2, h3]
def SH (b : aV) (p : Int × Int) : Except Int Rat := if regular b p = true then .ok (rJ b) else match Ph b p p.1 p.2 with
 | .ok q => .ok (UY b * q)
 | .error c => .error c
theorem aml {b : aV} (hchk : chk b = none) {p : Int × Int} (d1 : bF p.1) (d2 : bF p.2) {q : Rat} (h : SH b p = .ok q) {n : Nat} (hn : ∀ l, Wh b p = some l → l.length ≤ n) : RB (464 + 65 * n) q := by
 have hf := zO (iD hchk).2.1
 unfold SH at h
 split at h
 ·simp at h; subst h; exact (aaf hf).mono (by omega)
 ·split at h
  ·rename_i v hv
   simp at h; subst h
   exact ((Xc b).mul (adT hchk d1 d2 hv hn)).mono (by omega)
  ·simp at h
theorem afa {b : aV} (hp : (jm b).1 = none) (hc : b.je.length ≤ 1000000) (hr : b.jg.length ≤ 1000000) {p : Int × Int} (d1 : bF p.1) (d2 : bF p.2) (hlt : p.1 < p.2) : L.call qY [bQ b, pD p] = some (Ec (SH b p)) := by
 have hchk := aac hp
 have hf := zO (iD hchk).2.1
 have hpl := DI hc hr
 have hreg := L8 hc hr p
 have hpart := ac6 hp hc hr d1 d2 hlt p.1 p.2
 have hrp := LU hf hc hr
 have hcp := Eu hc hr
 have hcl := lH (jm b).2 0 11
 have hmul := fun {q} h => PG (Xc b) (adT hchk d1 d2 (q := q) (x := p.1) (y := p.2) h (n := 3600) (fun l hl => (Ue hchk d2 hl).2)) (by omega)
 unfold wC at hpl
 rw [hp] at hpl
 simp only [dh] at hpl
 unfold kS at hpl
 generalize (jm b).2.length = pn at *
 generalize bW (jm b).2 = pc at *
 unfold SH
 obtain ⟨p1, p2⟩ := p
 unfold pD at *
 simp only at *
 generalize Ph b (p1, p2) p1 p2 = pr at *
 generalize regular b (p1, p2) = rg at *
 generalize rJ b = rp at *
 generalize UY b = cq at *
 obtain ⟨i, m, fq, c, rd, n, st, e, ex⟩ := b
 unfold bQ aW at *
 simp only at *
 refine aO agB rfl (agu ..) ?_
 cases rg with
 | true => simp [Iu, hpl, hreg, hrp, Ec]
 | false =>
   cases pr with
   | error c => simp [Ec] at hpart; simp [Iu, hpl, hreg, hpart, Ec]
   | ok q =>
     have hmul := hmul rfl
     simp only [Ec] at hpart
     simp [Iu, hpl, hreg, hpart, hcp, hmul, Ec]
end Go.Ev.Code
end
