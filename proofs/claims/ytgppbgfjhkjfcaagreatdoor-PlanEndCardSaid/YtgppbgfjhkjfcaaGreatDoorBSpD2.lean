/- A part of the proof of planStub_card, planEnd_card, planLone_card, bondLong_card. -/
import Derived.Test.YtgppbgfjhkjfcaaGreatDoorBSpD1
set_option linter.unusedVariables false
set_option linter.unusedSimpArgs false
section
namespace Go.Ev.Code
open Go Go.Ev
theorem X6 : ∀ (l : List Nat) (f : Int) (i : Nat), i < l.length → (lu f l)[i]? = some (if i = 0 then f else ((l[i - 1]?.getD 0 : Nat) : Int), ((l[i]?.getD 0 : Nat) : Int))
 | [], _, i, h => by simp at h
 | d :: ds, f, 0, h => by simp [lu]
 | d :: ds, f, i + 1, h => by
   have h' : i < ds.length := by simpa using h
   have := X6 ds d i h'
   simp only [lu, List.getElem?_cons_succ, this, Nat.add_sub_cancel]
   cases i with
   | zero => simp
   | succ j => simp
structure Whole (b : aW) (ps : List (Int × Int)) : Prop where
 ne : ps ≠ []
 first : ∀ p : Int × Int, ps[0]? = some p → p.1 = b.issue
 last : ∀ p : Int × Int, ps[ps.length - 1]? = some p → p.2 = b.dw
 len : ps.length ≤ 200
 ord : ∀ (i : Nat) (p : Int × Int), ps[i]? = some p → p.1 < p.2
 next : ∀ (i : Nat) (p q : Int × Int), ps[i]? = some q → ps[i + 1]? = some p → p.1 = q.2 ∧ regular b p = true
 stub : b.stub = 0 → ∀ p : Int × Int, ps[0]? = some p → regular b p = true
theorem vV {b : aW} {i : Nat} (h : i < fC b) : (eu b)[i]? = some (if i = 0 then b.issue else (((anch b (fC b - i)).getD 0 : Nat) : Int), (((anch b (fC b - 1 - i)).getD 0 : Nat) : Int)) := by
 unfold eu
 have hl := B_ b (fC b)
 rw [X6 _ _ _ (by rw [List.length_reverse, hl]; exact h)]
 have hg : ∀ j, j < fC b → (jJ b (fC b)).reverse[j]? = some ((anch b (fC b - 1 - j)).getD 0) := by
  intro j hj
  rw [List.getElem?_reverse (by rw [hl]; exact hj), hl]
  simp [jJ, List.getElem?_range, show fC b - 1 - j < fC b by omega]
 rw [hg i h, Option.getD_some]
 by_cases h0 : i = 0
 ·simp [h0]
 ·rw [if_neg h0, if_neg h0, hg (i - 1) (by omega), Option.getD_some, show fC b - 1 - (i - 1) = fC b - i by omega]
theorem TB {b : aW} (hchk : chk b = none) {k : Nat} (hk : k < fC b) : ∃ a, anch b k = some a ∧ b.issue < (a : Int) ∧ (k + 1 < fC b → ∃ c, anch b (k + 1) = some c ∧ c < a) := by
 have hm := (iF hchk).2.1
 obtain ⟨g1, g2, g3⟩ := EL hm
 obtain ⟨a, ha, hai⟩ := g1 k hk
 refine ⟨a, ha, hai, fun hk2 => ?_⟩
 obtain ⟨c, hc, _⟩ := g1 (k + 1) hk2
 exact ⟨c, hc, Y8 hm (Nat.lt_succ_self k) ha hc⟩
theorem agj {b : aW} (hchk : chk b = none) {i : Nat} {p : Int × Int} (h : (eu b)[i]? = some p) : p.1 < p.2 ∧ b.issue < p.2 := by
 have hl : i < fC b := by rw [← rW]; exact (List.getElem?_eq_some_iff.1 h).1
 rw [vV hl] at h
 simp at h
 subst h
 obtain ⟨a, ha, hai, hn⟩ := TB hchk (k := fC b - 1 - i) (by omega)
 simp only [ha, Option.getD_some]
 by_cases h0 : i = 0
 ·rw [if_pos h0]; exact ⟨hai, hai⟩
 ·rw [if_neg h0]
  obtain ⟨c, hc, hca⟩ := hn (by omega)
  rw [show fC b - i = fC b - 1 - i + 1 by omega, hc, Option.getD_some]
  exact ⟨by omega, hai⟩
theorem akR {b : aW} (hchk : chk b = none) {i : Nat} {p q : Int × Int} (hq : (eu b)[i]? = some q) (hp : (eu b)[i + 1]? = some p) : p.1 = q.2 ∧ regular b p = true := by
 have hl : i + 1 < fC b := by rw [← rW]; exact (List.getElem?_eq_some_iff.1 hp).1
 rw [vV (by omega)] at hq
 rw [vV hl] at hp
 simp at hq hp
 obtain ⟨a, ha, hai, hn⟩ := TB hchk (k := fC b - 1 - (i + 1)) (by omega)
 obtain ⟨c, hc, hca⟩ := hn (by omega)
 rw [show fC b - 1 - (i + 1) + 1 = fC b - (i + 1) by omega] at hc
 subst hp
 subst hq
 refine ⟨?_, ?_⟩
 ·simp only
  rw [show fC b - 1 - i = fC b - (i + 1) by omega]
 ·simp only [ha, hc, Option.getD_some]
  exact TF hchk (k := fC b - 1 - (i + 1)) (by omega) ha ⟨c, by rw [show fC b - 1 - (i + 1) + 1 = fC b - (i + 1) by omega]; exact hc, rfl⟩
theorem aav {b : aW} (hchk : chk b = none) (hs : b.stub = 0 → Gj b = true) : Whole b (eu b) := by
 have kp := Zq hchk
 have hm := (iF hchk).2.1
 obtain ⟨d1, d2, d3⟩ := AO (iF hchk).1
 have hl := rW b
 refine ⟨?_, ?_, ?_, ?_, ?_, ?_, ?_⟩
 ·intro h; rw [h] at hl; simp at hl; omega
 ·intro p hp
  rw [vV (by omega)] at hp
  simp at hp
  rw [← hp]
 ·intro p hp
  rw [hl, vV (by omega)] at hp
  simp at hp
  rw [← hp]
  simp only [show fC b - 1 - (fC b - 1) = 0 by omega, Ez d2, Option.getD_some]
  omega
 ·have := anC hchk; omega
 ·exact fun i p hp => (agj hchk hp).1
 ·exact fun i p q hq hp => akR hchk hq hp
 ·intro h0 p hp
  have hh := hs h0
  rw [vV (by omega)] at hp
  simp at hp
  subst hp
  obtain ⟨a, ha, hai, _⟩ := TB hchk (k := fC b - 1) (by omega)
  simp only [Nat.sub_zero, ha, Option.getD_some]
  refine TF hchk (k := fC b - 1) (by omega) ha ?_
  rw [show fC b - 1 + 1 = fC b by omega]
  unfold Gj at hh
  cases hk : anch b (fC b) with
  | none => rw [hk] at hh; simp at hh
  | some c => rw [hk] at hh; exact ⟨c, rfl, by simpa using hh⟩
theorem Ph {b : aW} (h : (gq b).1 = none) : chk b = none ∧ Whole b (gq b).2 := by
 unfold gq at h ⊢
 cases hchk : chk b with
 | some e => rw [hchk] at h; simp at h
 | none =>
   rw [hchk] at h
   simp only at h ⊢
   refine ⟨trivial, ?_⟩
   by_cases hh : Gj b = true
   ·rw [if_pos hh]; exact aav hchk fun _ => hh
   ·rw [if_neg hh] at h ⊢
    by_cases h0 : b.stub = 0
    ·rw [if_pos h0] at h; simp at h
    ·rw [if_neg h0] at h ⊢
     have hw := aav hchk fun h => absurd h h0
     by_cases h2 : b.stub = 2
     ·rw [if_pos h2]
      split
      ·rename_i p q r hr
       rw [hr] at hw
       have hq := agj hchk (i := 1) (p := q) (by rw [hr]; rfl)
       refine ⟨by simp, ?_, ?_, ?_, ?_, ?_, fun h => absurd h h0⟩
       ·intro x hx; simp at hx; rw [← hx]
       ·intro x hx
        have hl := hw.last
        cases r with
        | nil => simp at hx hl; rw [← hx]; exact hl
        | cons y ys =>
          refine hl x ?_
          simp at hx ⊢
          exact hx
       ·have := hw.len; simp at this ⊢; omega
       ·intro i x hx
        cases i with
        | zero => simp at hx; rw [← hx]; exact hq.2
        | succ j => exact hw.ord (j + 2) x (by simpa using hx)
       ·intro i x y hy hx
        cases i with
        | zero =>
          simp at hy
          have := hw.next 1 x q (by simp) (by simpa using hx)
          rw [← hy]; exact this
        | succ j => exact hw.next (j + 2) x y (by simpa using hy) (by simpa using hx)
      ·exact hw
     ·rw [if_neg h2]; exact hw
theorem DT : ∀ {ps : List (Int × Int)} {i : Nat} {p : Int × Int}, ps[i]? = some p → (dG ps)[i * 2]? = some (.int .i64 p.1) ∧ (dG ps)[i * 2 + 1]? = some (.int .i64 p.2) ∧ i * 2 + 2 ≤ (dG ps).length ∧ ((dG ps).drop (i * 2)).take 2 = [.int .i64 p.1, .int .i64 p.2]
 | [], i, p, h => by simp at h
 | (a, b) :: ps, 0, p, h => by simp at h; subst h; simp [dG]
 | (a, b) :: ps, i + 1, p, h => by
   obtain ⟨h1, h2, h3, h4⟩ := DT (ps := ps) (i := i) (p := p) (by simpa using h)
   have e1 : (i + 1) * 2 = i * 2 + 1 + 1 := by omega
   have e2 : (i + 1) * 2 + 1 = i * 2 + 1 + 1 + 1 := by omega
   rw [e1]
   refine ⟨by simpa [dG] using h1, by simpa [dG] using h2, by simp [dG]; omega, by simpa [dG] using h4⟩
theorem Ae (b : aW) (k : Nat) : (bC b).all (D.clo k 12) = true := by obtain ⟨i, m, f, c, rd, n, s, e, ex⟩ := b; simp [bC]
theorem EG (b : aW) : (bC b).length = 9 := rfl
end Go.Ev.Code
end
section
namespace Go.Ev.Code
open Go Go.Ev
theorem TD {y : Nat} (h : y ≤ 1000000) : L.call kC [.int .i64 y] = some (.bool (leap y)) := by
 have q1 := Aa y 4
 have q2 := Aa y 100
 have q3 := Aa y 400
 simp at q1 q2 q3
 refine aX Rn rfl (Rh ..) ?_
 unfold leap
 have c4 : ((y : Int) % 4 = 0) ↔ y % 4 = 0 := by omega
 have c100 : ((y : Int) % 100 = 0) ↔ y % 100 = 0 := by omega
 have c400 : ((y : Int) % 400 = 0) ↔ y % 400 = 0 := by omega
 by_cases h4 : y % 4 = 0
 ·by_cases h100 : y % 100 = 0
  ·by_cases h400 : y % 400 = 0 <;> simp (disch := omega) [rG, q1, q2, q3, c4, c100, c400, h4, h100, h400]
  ·simp (disch := omega) [rG, q1, q2, q3, c4, c100, c400, h4, h100]
 ·simp (disch := omega) [rG, q1, q2, q3, c4, c100, c400, h4]
theorem pO {y m : Nat} (h : y ≤ 1000000) (h1 : 1 ≤ m) (h2 : m ≤ 12) : L.call dJ [.int .i64 y, .int .i64 m] = some (.int .i64 (bP y m)) := by
 have hl := TD h
 refine aX OC rfl (Oy ..) ?_
 have : m = 1 ∨ m = 2 ∨ m = 3 ∨ m = 4 ∨ m = 5 ∨ m = 6 ∨ m = 7 ∨ m = 8 ∨ m = 9 ∨ m = 10 ∨ m = 11 ∨ m = 12 := by omega
 rcases this with rfl | rfl | rfl | rfl | rfl | rfl | rfl | rfl | rfl | rfl | rfl | rfl
 case inr.inl =>
  cases hy : leap y <;> rw [hy] at hl <;> simp [uV, bP, hl, hy]
 all_goals simp [uV, bP]
theorem uQ (n : Int) : L.call fO [.int .i64 n] = some (.bool (decide (0 ≤ n ∧ n ≤ 109572))) := by
 refine aX VI rfl (VH ..) ?_
 by_cases h : 0 ≤ n
 ·by_cases h' : n ≤ 109572 <;> simp [z_, h, h']
 ·simp [z_, h]
theorem JA {y : Nat} (h : y ≤ 1000000) : L.call iK [.int .i64 y] = some (.int .i64 (dH y 12)) := by
 have hl := TD h
 rw [agW]
 refine aX Ro rfl (Ri ..) ?_
 cases hy : leap y <;> rw [hy] at hl <;> simp [E5, hl]
theorem ako (y : Nat) : dH y 12 ≤ 366 ∧ 365 ≤ dH y 12 := by rw [agW]; split <;> omega
theorem ab7 {y m d : Nat} (hy : y ≤ 2199) : ∀ (j k : Nat), k + j = y → 1900 ≤ k →
  L.loop [1, 4, 5] [1, 4] oI 1 [.loc 0 0, .int .i64 (dY k), .int .i64 k] [.live [.int .i64 y, .int .i64 m, .int .i64 d]] =
    some (.exit 0, [.loc 0 0, .int .i64 (dY y)], [.live [.int .i64 y, .int .i64 m, .int .i64 d]]) := by
 intro j
 induction j with
 | zero =>
   intro k hk h1
   have : k = y := by omega
   subst this
   generalize dY k = B
   refine aU (BM ..) ?_
   simp [wB]
 | succ j ih =>
   intro k hk h1
   have hl := JA (y := k) (by omega)
   have hn := ih (k + 1) (by omega) (by omega)
   have hs := zD h1
   have hb := Iz (y := k) (by omega)
   have hc := ako k
   have hlt : k < y := by omega
   rw [hs] at hn
   generalize dY y = By at *
   generalize dY k = B at *
   generalize dH k 12 = l at *
   have e1 : IntKind.i64.wrap ((B : Int) + l) = ((B + l : Nat) : Int) := by rw [wrap64 _ (by omega)]; omega
   have e2 : IntKind.i64.wrap ((k : Int) + 1) = ((k + 1 : Nat) : Int) := by rw [wrap64 _ (by omega)]; omega
   generalize B + l = B2 at *
   generalize k + 1 = k2 at *
   refine aU (BM ..) ?_
   simp [wB, hl, hlt, e1, e2, hn]
theorem ab8 {y m d A : Nat} (hy : y ≤ 2200) (hm : m ≤ 12) (hA : A ≤ 1000000) : ∀ (j k : Nat), k + j = m → 1 ≤ k →
  L.loop [1, 4, 6] [1, 4] oJ 1 [.loc 0 0, .int .i64 ((A + dH y (k - 1) : Nat) : Int), .int .i64 k] [.live [.int .i64 y, .int .i64 m, .int .i64 d]] =
    some (.exit 2, [.loc 0 0, .int .i64 ((A + dH y (m - 1) : Nat) : Int)], [.live [.int .i64 y, .int .i64 m, .int .i64 d]]) := by
 intro j
 induction j with
 | zero =>
   intro k hk h1
   have : k = m := by omega
   subst this
   generalize A + dH y (k - 1) = B
   refine aU (BN ..) ?_
   simp [wC]
 | succ j ih =>
   intro k hk h1
   have hl := pO (y := y) (m := k) (by omega) h1 (by omega)
   have hn := ih (k + 1) (by omega) (by omega)
   have hc : A + dH y (k + 1 - 1) = A + dH y (k - 1) + bP y k := by
    rw [Nat.add_sub_cancel]
    obtain ⟨q, rfl⟩ : ∃ q, k = q + 1 := ⟨k - 1, by omega⟩
    simp only [dH, Nat.add_sub_cancel]; omega
   rw [hc] at hn
   have hb := RD y (k - 1)
   have hb2 := vN y k
   have hlt : k < m := by omega
   have hBl : A + dH y (k - 1) ≤ 1000372 := by omega
   generalize A + dH y (k - 1) = B at *
   generalize A + dH y (m - 1) = C at *
   generalize bP y k = l at *
   have e1 : IntKind.i64.wrap ((B : Int) + l) = ((B + l : Nat) : Int) := by rw [wrap64 _ (by omega)]; omega
   have e2 : IntKind.i64.wrap ((k : Int) + 1) = ((k + 1 : Nat) : Int) := by rw [wrap64 _ (by omega)]; omega
   generalize B + l = B2 at *
   generalize k + 1 = k2 at *
   refine aU (BN ..) ?_
   simp (disch := omega) [wC, hl, hlt, e1, e2, hn]
theorem ahB {y m d : Nat} (h1 : 1900 ≤ y) (h2 : y ≤ 2199) (hm : 1 ≤ m) (hm2 : m ≤ 12) (hd : 1 ≤ d) (hd2 : d ≤ bP y m) :
  L.call mM [jS y m d] = some (.bg [.int .i64 (dayOf y m d), .bool true]) := by
 have hl := pO (y := y) (m := m) (by omega) hm hm2
 have hbb := Iz (y := y) (by omega)
 have hl1 := ab7 (y := y) (m := m) (d := d) h2 (y - 1900) 1900 (by omega) (by omega)
 have hl2 := ab8 (y := y) (m := m) (d := d) (A := dY y) (by omega) hm2 (by omega) (m - 1) 1 (by omega) (by omega)
 simp only [Nat.sub_self, dH, Nat.add_zero] at hl2
 have hml := vN y m
 have hcu := RD y (m - 1)
 have hC : dayOf y m d = dY y + dH y (m - 1) + d - 1 := rfl
 rw [show dY 1900 = 0 from rfl] at hl1
 have g1 : ¬ (y : Int) < 1900 := by omega
 have g2 : ¬ (2199 : Int) < y := by omega
 have g3 : ¬ (d : Int) < 1 := by omega
 generalize bP y m = l at *
 have g4 : ¬ (l : Int) < d := by omega
 have g5 : ¬ l < d := by omega
 have g6 : ¬ 2199 < y := by omega
 generalize hx : dY y + dH y (m - 1) = x at *
 generalize dayOf y m d = r at *
 generalize dY y = b at *
 have e1 : IntKind.i64.wrap ((x : Int) + d) = ((x + d : Nat) : Int) := by rw [wrap64 _ (by omega)]; omega
 have e2 : IntKind.i64.wrap (((x + d : Nat) : Int) - 1) = (r : Int) := by rw [wrap64 _ (by omega)]; omega
 generalize x + d = b2 at *
 simp at hl1 hl2
 refine aX Ik rfl (Ii ..) ?_
 unfold jS
 simp (disch := omega) [uX, hl, g1, g2, g3, g4, g5, g6, e1, e2, hl1, hl2]
theorem afD {y m d : Nat} (h : ¬ (1900 ≤ y ∧ y ≤ 2199)) : L.call mM [jS y m d] = some (.bg [.int .i64 0, .bool false]) := by
 refine aX Ik rfl (Ii ..) ?_
 unfold jS
 by_cases h1 : 1900 ≤ y
 ·have g1 : ¬ (y : Int) < 1900 := by omega
  have g2 : (2199 : Int) < y := by omega
  have g6 : 2199 < y := by omega
  simp [uX, g1, g2, g6]
 ·have g1 : (y : Int) < 1900 := by omega
  simp [uX, g1]
end Go.Ev.Code
end
section
namespace Go.Ev.Code
open Go Go.Ev
theorem ZF {y day : Nat} (hlo : dY y ≤ day) (hhi : day < dY (y + 1)) (hy : y ≤ 2199) : ∀ (j k : Nat), k + j = y → 1900 ≤ k →
  L.loop [0, 2, 3] [0, 2, 3] lH 2 [.int .i64 ((day - dY k : Nat) : Int), .loc 0 0, .loc 1 0] [.live [.int .i64 0, .int .i64 0, .int .i64 0], .live [.int .i64 k, .int .i64 1, .int .i64 0]] =
    some (.exit 0, [.int .i64 ((day - dY y : Nat) : Int), .loc 0 0, .loc 1 0], [.live [.int .i64 0, .int .i64 0, .int .i64 0], .live [.int .i64 y, .int .i64 1, .int .i64 0]]) := by
 intro j
 induction j with
 | zero =>
   intro k hk h1
   have : k = y := by omega
   subst this
   have hl := JA (y := k) (by omega)
   have hs := zD h1
   generalize dY (k + 1) = b2 at *
   generalize dY k = b at *
   generalize dH k 12 = l at *
   have g : ¬ (l : Int) ≤ ((day - b : Nat) : Int) := by omega
   have g' : ¬ l ≤ day - b := by omega
   generalize day - b = r at *
   refine aU (yJ ..) ?_
   simp [rY, hl, g, g']
 | succ j ih =>
   intro k hk h1
   have hl := JA (y := k) (by omega)
   have hs := zD h1
   have hn := ih (k + 1) (by omega) (by omega)
   have hmo := Cb (x := k + 1) (y := y) (by omega) (by omega)
   have hbl := Iz (y := y + 1) (by omega)
   rw [hs] at hn hmo
   generalize dY (y + 1) = by1 at *
   generalize dY y = by0 at *
   generalize dY k = b at *
   generalize dH k 12 = l at *
   have g : (l : Int) ≤ ((day - b : Nat) : Int) := by omega
   have g' : l ≤ day - b := by omega
   have e1 : IntKind.i64.wrap (((day - b : Nat) : Int) - l) = ((day - (b + l) : Nat) : Int) := by rw [wrap64 _ (by omega)]; omega
   have e2 : IntKind.i64.wrap ((k : Int) + 1) = ((k + 1 : Nat) : Int) := by rw [wrap64 _ (by omega)]; omega
   generalize day - (b + l) = r2 at *
   generalize day - b = r at *
   generalize k + 1 = k2 at *
   refine aU (yJ ..) ?_
   simp [rY, hl, g, g', e1, e2, hn]
theorem ZG {y m d : Nat} (h : qX y m d) : ∀ (j k : Nat), k + j = m → 1 ≤ k →
  L.loop [0, 2, 3] [0, 2, 3] lI 2 [.int .i64 ((dH y (m - 1) + (d - 1) - dH y (k - 1) : Nat) : Int), .loc 0 0, .loc 1 0] [.live [.int .i64 0, .int .i64 0, .int .i64 0], .live [.int .i64 y, .int .i64 k, .int .i64 0]] =
    some (.exit 2, [.int .i64 ((d - 1 : Nat) : Int), .loc 0 0, .loc 1 0], [.live [.int .i64 0, .int .i64 0, .int .i64 0], .live [.int .i64 y, .int .i64 m, .int .i64 0]]) := by
 have h1 := h.d1
 have h2 := h.d2
 have h3 := h.m2
 have h4 := h.y2
 have h5 := vN y m
 intro j
 induction j with
 | zero =>
   intro k hk hk1
   have : k = m := by omega
   subst this
   have hl := pO (y := y) (m := k) (by omega) hk1 h3
   rw [show dH y (k - 1) + (d - 1) - dH y (k - 1) = d - 1 by omega]
   generalize bP y k = l at *
   have g : ¬ (l : Int) ≤ ((d - 1 : Nat) : Int) := by omega
   have g' : ¬ l ≤ d - 1 := by omega
   generalize d - 1 = d1 at *
   refine aU (yK ..) ?_
   simp (disch := omega) [rZ, hl, g, g']
 | succ j ih =>
   intro k hk hk1
   have hl := pO (y := y) (m := k) (by omega) hk1 (by omega)
   have hn := ih (k + 1) (by omega) (by omega)
   have hc : dH y (k + 1 - 1) = dH y (k - 1) + bP y k := by
    rw [Nat.add_sub_cancel]
    obtain ⟨q, rfl⟩ : ∃ q, k = q + 1 := ⟨k - 1, by omega⟩
    simp only [dH, Nat.add_sub_cancel]
   have hmo := IJ y (j := k) (k := m - 1) (by omega)
   rw [Nat.add_sub_cancel] at hc hn
   rw [hc] at hmo hn
   have hub := RD y (m - 1)
   have hub2 : dH y (m - 1) + (d - 1) ≤ 1000 := by omega
   have hmo2 : dH y (k - 1) + bP y k ≤ dH y (m - 1) + (d - 1) := by omega
   generalize dH y (m - 1) + (d - 1) = T at *
   generalize bP y k = l at *
   generalize dH y (k - 1) = c at *
   have g : l ≤ T - c := by omega
   have g' : (l : Int) ≤ ((T - c : Nat) : Int) := by omega
   have e1 : IntKind.i64.wrap (((T - c : Nat) : Int) - l) = ((T - (c + l) : Nat) : Int) := by rw [wrap64 _ (by omega)]; omega
   have e2 : IntKind.i64.wrap ((k : Int) + 1) = ((k + 1 : Nat) : Int) := by rw [wrap64 _ (by omega)]; omega
   generalize T - (c + l) = r2 at *
   generalize T - c = r1 at *
   generalize k + 1 = k2 at *
   refine aU (yK ..) ?_
   simp (disch := omega) [rZ, hl, g, g', e1, e2, hn]
theorem zu {y m d : Nat} (h : qX y m d) : L.call fG [.int .i64 (dayOf y m d)] = some (jS y m d) := by
 have hlo := h.lo
 have hhi := h.hi
 have hd1 := h.d1
 have hd2 := h.d2
 have hml := vN y m
 have hy := h.y2
 have hm2 := h.m2
 have l1 := ZF hlo hhi hy (y - 1900) 1900 (by have := h.y1; omega) (by omega)
 have l2 := ZG h (m - 1) 1 (by have := h.m1; omega) (by omega)
 have hT : dayOf y m d - dY y = dH y (m - 1) + (d - 1) := by unfold dayOf; omega
 simp only [Nat.sub_self, dH, Nat.sub_zero] at l2
 rw [← hT, show ((1 : Nat) : Int) = 1 from rfl] at l2
 rw [show dY 1900 = 0 from rfl, Nat.sub_zero] at l1
 generalize dayOf y m d = day at *
 generalize dY y = b at *
 generalize day - b = r at *
 have e4 : IntKind.i64.wrap (((d - 1 : Nat) : Int) + 1) = (d : Int) := by rw [wrap64 _ (by omega)]; omega
 generalize d - 1 = dd at *
 simp at l1 l2
 refine aX QG rfl (QD ..) ?_
 unfold jS
 simp (disch := omega) [BU, l1, l2, e4]
theorem ad9 {y m d : Nat} (h : qX y m d) : L.call qj [.int .i64 (dayOf y m d)] = some (.bool (decide (d = bP y m))) := by
 have hc := zu h
 have hl := pO (y := y) (m := m) (by have := h.y2; omega) h.m1 h.m2
 generalize dayOf y m d = day at *
 generalize bP y m = l at *
 unfold jS at hc
 refine aX Rl rfl (Rf ..) ?_
 by_cases hd : d = l
 ·subst hd
  simp [xG, hc, hl]
 ·have hd' : ¬ (d : Int) = l := by omega
  simp [xG, hc, hl, hd, hd']
end Go.Ev.Code
end
section
namespace Go.Ev.Code
open Go Go.Ev
theorem ajW {st : Bool} {d : Nat} : ∀ (N cy cm : Nat), 1 ≤ cm → cm ≤ 12 → cy + N ≤ 100000 →
  L.loop [1, 8, 9] [1, 8, 9] fQ 1 [.int .i64 N, .loc 0 0, .bool st] [.live [.int .i64 cy, .int .i64 cm, .int .i64 d]] =
    some (.exit 0, [.int .i64 0, .loc 0 0, .bool st], [.live [.int .i64 (((cy * 12 + cm - 1 + N) / 12 : Nat) : Int), .int .i64 (((cy * 12 + cm - 1 + N) % 12 + 1 : Nat) : Int), .int .i64 d]]) := by
 intro N
 induction N with
 | zero =>
   intro cy cm h1 h2 h3
   rw [show (cy * 12 + cm - 1 + 0) / 12 = cy by omega, show (cy * 12 + cm - 1 + 0) % 12 + 1 = cm by omega]
   refine aU (jX ..) ?_
   simp [iU]
 | succ N ih =>
   intro cy cm h1 h2 h3
   have e1 : IntKind.i64.wrap ((cm : Int) + 1) = ((cm + 1 : Nat) : Int) := by rw [wrap64 _ (by omega)]; omega
   have e2 : IntKind.i64.wrap ((cy : Int) + 1) = ((cy + 1 : Nat) : Int) := by rw [wrap64 _ (by omega)]; omega
   have e3 : IntKind.i64.wrap (((N + 1 : Nat) : Int) - 1) = (N : Int) := by rw [wrap64 _ (by omega)]; omega
   have g : (0 : Int) < ((N + 1 : Nat) : Int) := by omega
   have g0 : 0 < N + 1 := by omega
   by_cases hc : cm = 12
   ·have hn := ih (cy + 1) 1 (by omega) (by omega) (by omega)
    rw [show (cy + 1) * 12 + 1 - 1 + N = cy * 12 + cm - 1 + (N + 1) by omega] at hn
    have g1 : (12 : Int) < ((cm + 1 : Nat) : Int) := by omega
    have g2 : 12 < cm + 1 := by omega
    generalize (cy * 12 + cm - 1 + (N + 1)) / 12 = Y at *
    generalize (cy * 12 + cm - 1 + (N + 1)) % 12 + 1 = M at *
    generalize N + 1 = N1 at *
    generalize cm + 1 = c1 at *
    generalize cy + 1 = y1 at *
    simp only [show ((1 : Nat) : Int) = 1 from rfl] at hn
    refine aU (jX ..) ?_
    simp [iU, e1, e2, e3, g, g0, g1, g2, hn]
   ·have hn := ih cy (cm + 1) (by omega) (by omega) (by omega)
    rw [show cy * 12 + (cm + 1) - 1 + N = cy * 12 + cm - 1 + (N + 1) by omega] at hn
    have g1 : ¬ (12 : Int) < ((cm + 1 : Nat) : Int) := by omega
    have g2 : ¬ 12 < cm + 1 := by omega
    generalize (cy * 12 + cm - 1 + (N + 1)) / 12 = Y at *
    generalize (cy * 12 + cm - 1 + (N + 1)) % 12 + 1 = M at *
    generalize N + 1 = N1 at *
    generalize cm + 1 = c1 at *
    refine aU (jX ..) ?_
    simp [iU, e1, e3, g, g0, g1, g2, hn]
theorem ajX {st : Bool} {d cy cm : Nat} {n : Int} (h : n ≤ 0) :
  L.loop [1, 8, 9] [1, 8, 9] fQ 1 [.int .i64 n, .loc 0 0, .bool st] [.live [.int .i64 cy, .int .i64 cm, .int .i64 d]] =
    some (.exit 0, [.int .i64 n, .loc 0 0, .bool st], [.live [.int .i64 cy, .int .i64 cm, .int .i64 d]]) := by
 have g : ¬ (0 : Int) < n := by omega
 refine aU (jX ..) ?_
 simp [iU, g]
theorem acR {st : Bool} {d : Nat} : ∀ (N cy cm : Nat), 1 ≤ cm → cm ≤ 12 → N ≤ cy * 12 + cm - 1 → cy ≤ 100000 → N ≤ 100000 →
  L.loop [1, 8, 9] [8, 9] h_ 1 [.int .i64 (-(N : Int)), .loc 0 0, .bool st] [.live [.int .i64 cy, .int .i64 cm, .int .i64 d]] =
    some (.exit 2, [.loc 0 0, .bool st], [.live [.int .i64 (((cy * 12 + cm - 1 - N) / 12 : Nat) : Int), .int .i64 (((cy * 12 + cm - 1 - N) % 12 + 1 : Nat) : Int), .int .i64 d]]) := by
 intro N
 induction N with
 | zero =>
   intro cy cm h1 h2 h3 h4 h5
   rw [show (cy * 12 + cm - 1 - 0) / 12 = cy by omega, show (cy * 12 + cm - 1 - 0) % 12 + 1 = cm by omega]
   refine aU (nY ..) ?_
   simp [jY]
 | succ N ih =>
   intro cy cm h1 h2 h3 h4 h5
   have e3 : IntKind.i64.wrap (-((N + 1 : Nat) : Int) + 1) = -(N : Int) := by rw [wrap64 _ (by omega)]; omega
   have g : -((N + 1 : Nat) : Int) < 0 := by omega
   have e1 : IntKind.i64.wrap ((cm : Int) - 1) = ((cm - 1 : Nat) : Int) := by rw [wrap64 _ (by omega)]; omega
   by_cases hc : cm = 1
   ·have e2 : IntKind.i64.wrap ((cy : Int) - 1) = ((cy - 1 : Nat) : Int) := by rw [wrap64 _ (by omega)]; omega
    have hn := ih (cy - 1) 12 (by omega) (by omega) (by omega) (by omega) (by omega)
    rw [show (cy - 1) * 12 + 12 - 1 - N = cy * 12 + cm - 1 - (N + 1) by omega] at hn
    have g1 : ((cm - 1 : Nat) : Int) < 1 := by omega
    have g2 : cm - 1 < 1 := by omega
    generalize (cy * 12 + cm - 1 - (N + 1)) / 12 = Y at *
    generalize (cy * 12 + cm - 1 - (N + 1)) % 12 + 1 = M at *
    generalize -((N + 1 : Nat) : Int) = N1 at *
    generalize -(N : Int) = N0 at *
    generalize cm - 1 = c1 at *
    generalize cy - 1 = y1 at *
    simp only [show ((12 : Nat) : Int) = 12 from rfl] at hn
    refine aU (nY ..) ?_
    simp [jY, e1, e2, e3, g, g1, g2, hn]
   ·have hn := ih cy (cm - 1) (by omega) (by omega) (by omega) (by omega) (by omega)
    rw [show cy * 12 + (cm - 1) - 1 - N = cy * 12 + cm - 1 - (N + 1) by omega] at hn
    have g1 : ¬ ((cm - 1 : Nat) : Int) < 1 := by omega
    have g2 : ¬ cm - 1 < 1 := by omega
    have g3 : ¬ cm - 1 = 0 := by omega
    generalize (cy * 12 + cm - 1 - (N + 1)) / 12 = Y at *
    generalize (cy * 12 + cm - 1 - (N + 1)) % 12 + 1 = M at *
    generalize -((N + 1 : Nat) : Int) = N1 at *
    generalize -(N : Int) = N0 at *
    generalize cm - 1 = c1 at *
    refine aU (nY ..) ?_
    simp [jY, e1, e3, g, g1, g2, g3, hn]
def okD : Option Nat → D
 | some n => .bg [.int .i64 n, .bool true]
 | none => .bg [.int .i64 0, .bool false]
theorem PK {y m d : Nat} (h1 : 1 ≤ m) (h2 : m ≤ 12) (hd : 1 ≤ d) (hd2 : d ≤ bP y m) : L.call mM [jS y m d] = some (okD (lV y m d)) := by
 unfold lV
 split
 ·rename_i h; exact ahB h.1 h.2 h1 h2 hd hd2
 ·rename_i h; exact afD h
theorem ail {y m d y' m' : Nat} {n : Int} {e : Bool} (h : qX y m d) (hn1 : -3600 ≤ n) (hn2 : n ≤ 3600) (hy' : y' ≤ 1000000) (hm1 : 1 ≤ m') (hm2 : m' ≤ 12)
  {k : Int} (hl1 : L.loop [1, 8, 9] [1, 8, 9] fQ 1 [.int .i64 n, .loc 0 0, .bool (e && decide (d = bP y m))] [.live [.int .i64 y, .int .i64 m, .int .i64 d]] = some (.exit 0, [.int .i64 k, .loc 0 0, .bool (e && decide (d = bP y m))], [.live (if k = 0 then [.int .i64 y', .int .i64 m', .int .i64 d] else [.int .i64 y, .int .i64 m, .int .i64 d])]))
  (hl2 : L.loop [1, 8, 9] [8, 9] h_ 1 [.int .i64 k, .loc 0 0, .bool (e && decide (d = bP y m))] [.live (if k = 0 then [.int .i64 y', .int .i64 m', .int .i64 d] else [.int .i64 y, .int .i64 m, .int .i64 d])] = some (.exit 2, [.loc 0 0, .bool (e && decide (d = bP y m))], [.live [.int .i64 y', .int .i64 m', .int .i64 d]])) :
  L.call dA [.int .i64 (dayOf y m d), .int .i64 n, .bool e] = some (okD (lV y' m' (if e = true ∧ d = bP y m then bP y' m' else min d (bP y' m')))) := by
 have hc := zu h
 have hla := ad9 h
 have his := uQ (dayOf y m d)
 have hle := h.le
 rw [decide_eq_true (by omega)] at his
 have hlen := pO hy' hm1 hm2
 have hpos := rP (y := y') hm1 hm2
 have hd1 := h.d1
 generalize (if k = 0 then [D.int .i64 y', .int .i64 m', .int .i64 d] else [D.int .i64 y, .int .i64 m, .int .i64 d]) = cells at *
 generalize dayOf y m d = day at *
 have g1 : ¬ n < -3600 := by omega
 have g2 : ¬ 3600 < n := by omega
 unfold jS at hc
 by_cases hst : e = true ∧ d = bP y m
 ·rw [if_pos hst]
  have hof := PK (y := y') (d := bP y' m') hm1 hm2 (by omega) (Nat.le_refl _)
  obtain ⟨he, hdl⟩ := hst
  rw [decide_eq_true hdl] at hla
  rw [he, decide_eq_true hdl] at hl1 hl2
  subst he
  simp only [Bool.and_self] at hl1 hl2
  generalize bP y' m' = l at *
  unfold jS at hof
  refine aX jG rfl (jF ..) ?_
  cases hmk : lV y' m' l <;> rw [hmk] at hof <;> simp [okD] at hof <;> simp [eY, his, g1, g2, hc, hla, hl1, hl2, hlen, hof, okD]
 ·rw [if_neg hst]
  have hb : (e && decide (d = bP y m)) = false := by
   cases e <;> simp_all
  rw [hb] at hl1 hl2
  by_cases hdl : bP y' m' < d
  ·have hof := PK (y := y') (d := bP y' m') hm1 hm2 (by omega) (Nat.le_refl _)
   rw [show min d (bP y' m') = bP y' m' by omega]
   have g3 : ((bP y' m' : Nat) : Int) < d := by omega
   generalize bP y' m' = l at *
   unfold jS at hof
   refine aX jG rfl (jF ..) ?_
   cases e with
   | false => cases hmk : lV y' m' l <;> rw [hmk] at hof <;> simp [okD] at hof <;> simp [eY, his, g1, g2, hc, hl1, hl2, hlen, hdl, g3, hof, okD]
   | true =>
     have hdm : ¬ d = bP y m := fun x => hst ⟨rfl, x⟩
     rw [decide_eq_false hdm] at hla
     cases hmk : lV y' m' l <;> rw [hmk] at hof <;> simp [okD] at hof <;> simp [eY, his, g1, g2, hc, hla, hl1, hl2, hlen, hdl, g3, hof, okD]
  ·have hof := PK (y := y') (d := d) hm1 hm2 (by omega) (by omega)
   rw [show min d (bP y' m') = d by omega]
   have g3 : ¬ ((bP y' m' : Nat) : Int) < d := by omega
   generalize bP y' m' = l at *
   unfold jS at hof
   refine aX jG rfl (jF ..) ?_
   cases e with
   | false => cases hmk : lV y' m' d <;> rw [hmk] at hof <;> simp [okD] at hof <;> simp [eY, his, g1, g2, hc, hl1, hl2, hlen, hdl, g3, hof, okD]
   | true =>
     have hdm : ¬ d = bP y m := fun x => hst ⟨rfl, x⟩
     rw [decide_eq_false hdm] at hla
     cases hmk : lV y' m' d <;> rw [hmk] at hof <;> simp [okD] at hof <;> simp [eY, his, g1, g2, hc, hla, hl1, hl2, hlen, hdl, g3, hof, okD]
theorem lM (day n : Int) (e : Bool) : L.call dA [.int .i64 day, .int .i64 n, .bool e] = some (okD (kZ day n e)) := by
 unfold kZ
 by_cases hd : bW day
 ·rw [if_pos hd]
  obtain ⟨y, m, d, hc, rfl, ho⟩ := eF hd
  rw [ho]
  unfold Au
  by_cases hn : -3600 ≤ n ∧ n ≤ 3600
  ·rw [if_pos hn]
   have y1 := hc.y1
   have y2 := hc.y2
   have m1 := hc.m1
   have m2 := hc.m2
   simp only
   by_cases hs : 0 ≤ n
   ·obtain ⟨N, rfl⟩ : ∃ N : Nat, n = N := ⟨n.toNat, by omega⟩
    rw [show ((((y * 12 + m - 1 : Nat) : Int) + (N : Int)) / 12).toNat = (y * 12 + m - 1 + N) / 12 by omega, show ((((y * 12 + m - 1 : Nat) : Int) + (N : Int)) % 12).toNat + 1 = (y * 12 + m - 1 + N) % 12 + 1 by omega]
    have l1 := ajW (st := e && decide (d = bP y m)) (d := d) N y m m1 m2 (by omega)
    have l2 := acR (st := e && decide (d = bP y m)) (d := d) 0 ((y * 12 + m - 1 + N) / 12) ((y * 12 + m - 1 + N) % 12 + 1) (by omega) (by omega) (by omega) (by omega) (by omega)
    rw [show ((y * 12 + m - 1 + N) / 12 * 12 + ((y * 12 + m - 1 + N) % 12 + 1) - 1 - 0) / 12 = (y * 12 + m - 1 + N) / 12 by omega, show ((y * 12 + m - 1 + N) / 12 * 12 + ((y * 12 + m - 1 + N) % 12 + 1) - 1 - 0) % 12 + 1 = (y * 12 + m - 1 + N) % 12 + 1 by omega] at l2
    exact ail hc hn.1 hn.2 (by omega) (by omega) (by omega) (k := 0) (by simpa using l1) (by simpa using l2)
   ·obtain ⟨N, rfl⟩ : ∃ N : Nat, n = -(N : Int) := ⟨(-n).toNat, by omega⟩
    rw [show ((((y * 12 + m - 1 : Nat) : Int) + -(N : Int)) / 12).toNat = (y * 12 + m - 1 - N) / 12 by omega, show ((((y * 12 + m - 1 : Nat) : Int) + -(N : Int)) % 12).toNat + 1 = (y * 12 + m - 1 - N) % 12 + 1 by omega]
    have l1 := ajX (st := e && decide (d = bP y m)) (d := d) (cy := y) (cm := m) (n := -(N : Int)) (by omega)
    have l2 := acR (st := e && decide (d = bP y m)) (d := d) N y m m1 m2 (by omega) (by omega) (by omega)
    have hk : ¬ (-(N : Int)) = 0 := by omega
    exact ail hc hn.1 hn.2 (by omega) (by omega) (by omega) (k := -(N : Int)) (by rw [if_neg hk]; exact l1) (by rw [if_neg hk]; exact l2)
  ·rw [if_neg hn]
   have his := uQ (dayOf y m d)
   have hle := hc.le
   rw [decide_eq_true (by omega)] at his
   generalize dayOf y m d = dd at *
   refine aX jG rfl (jF ..) ?_
   by_cases h1 : n < -3600
   ·simp [eY, his, h1, okD]
   ·have h2 : 3600 < n := by omega
    simp [eY, his, h1, h2, okD]
 ·rw [if_neg hd]
  have his := uQ day
  rw [decide_eq_false hd] at his
  refine aX jG rfl (jF ..) ?_
  simp [eY, his, okD]
end Go.Ev.Code
end
section
namespace Go.Ev.Code
open Go Go.Ev
theorem Eh {n k : Int} (hk : 0 < k) (hk2 : k ≤ 1000000) : Int.tmod (IntKind.i64.wrap (Int.tmod n k + k)) k = n % k := by
 have h1 : Int.tmod n k = n % k ∨ Int.tmod n k = n % k - k := by
  rw [Int.tmod_eq_emod]
  split
  ·left; omega
  ·right
   have : (k.natAbs : Int) = k := by omega
   omega
 have h2 := Int.emod_nonneg n (show k ≠ 0 by omega)
 have h3 := Int.emod_lt_of_pos n hk
 generalize n % k = r at *
 rw [wrap64 _ (by omega), Int.tmod_eq_emod_of_nonneg (by omega)]
 rcases h1 with h1 | h1
 ·rw [h1, Int.add_emod_right, Int.emod_eq_of_lt h2 h3]
 ·rw [h1, show r - k + k = r by omega, Int.emod_eq_of_lt h2 h3]
theorem Jb (n : Int) : L.call iJ [.int .i64 n] = some (.int .i64 (n % 109573)) := by
 have h1 : Int.tmod n 109573 = n % 109573 ∨ Int.tmod n 109573 = n % 109573 - 109573 := by
  rw [Int.tmod_eq_emod]
  split
  ·left; omega
  ·right; simp
 have h2 := Int.emod_nonneg n (show (109573 : Int) ≠ 0 by omega)
 have h3 := Int.emod_lt_of_pos n (show (0 : Int) < 109573 by omega)
 have e1 : IntKind.i64.wrap (Int.tmod n 109573) = Int.tmod n 109573 := wrap64 _ (by omega)
 have e2 : IntKind.i64.wrap (Int.tmod n 109573 + 109572) = Int.tmod n 109573 + 109572 := wrap64 _ (by omega)
 have e3 : IntKind.i64.wrap (Int.tmod n 109573 + 109572 + 1) = Int.tmod n 109573 + 109573 := by rw [wrap64 _ (by omega)]; omega
 have e4 := Eh (n := n) (k := 109573) (by omega) (by omega)
 have e5 : IntKind.i64.wrap (Int.tmod n 109573 + 109573) = Int.tmod n 109573 + 109573 := wrap64 _ (by omega)
 rw [e5] at e4
 have e6 : IntKind.i64.wrap (n % 109573) = n % 109573 := wrap64 _ (by omega)
 refine aX Rk rfl (Q_ ..) ?_
 simp [EZ, e1, e2, e3, e4, e6]
def five (c : List UInt8) (k : Int) : aW := ⟨36524, 38351, 2, c, [49, 48, 48], k, 0, false, 0⟩
theorem zl (c : List UInt8) (k : Int) : L.call fE [.str c, .int .i64 k] = some (dB (five c k)) := by
 refine aX QE rfl (QB ..) ?_
 simp [BQ, five, dB, bC]
def Ld : Err → Int
 | none => 0
 | some (c, _) => c
theorem ahV : TT.fn mX = none := by kernel_rfl
theorem ahW : TT.iR mX = aci := by kernel_rfl
theorem abY (e : Err) : L.call mX [dU e] = some (.int .i64 (Ld e)) := by
 cases e with
 | none => exact zq ahV (by rw [ahW]; rfl) rfl
 | some p =>
   obtain ⟨c, s⟩ := p
   exact zq ahV (by rw [ahW]; rfl) rfl
theorem P_ (e : Err) (c : Int) : L.call f_ [dU e, .int .i64 c] = some (.bool (decide (Ld e = c))) := by
 have h := abY e
 have hcl : D.clo 0 12 (dU e) = true := by cases e <;> rfl
 generalize Ld e = z at *
 refine aX QF rfl (QC ..) ?_
 by_cases hc : z = c <;> simp [BR, h, hc, hcl]
end Go.Ev.Code
end
section
namespace Go.Ev.Code
open Go Go.Ev
def mi (day : Int) : Nat := (jq day.toNat).1 * 12 + (jq day.toNat).2.1
theorem yO {y m d : Nat} (h : qX y m d) : mi (dayOf y m d : Nat) = y * 12 + m := by
 unfold mi
 rw [show ((dayOf y m d : Nat) : Int).toNat = dayOf y m d by omega, IG h]
theorem LC {a : Int} (h : bW a) : 22801 ≤ mi a ∧ mi a ≤ 26400 := by
 obtain ⟨y, m, d, hc, rfl, _⟩ := eF h
 rw [yO hc]
 have := hc.y1; have := hc.y2; have := hc.m1; have := hc.m2
 omega
theorem IK {a b : Int} (ha : bW a) (hb : bW b) (h : mi a < mi b) : a < b := by
 obtain ⟨y, m, d, hc, rfl, _⟩ := eF ha
 obtain ⟨y', m', d', hc', rfl, _⟩ := eF hb
 rw [yO hc, yO hc'] at h
 have := uo hc hc' h
 omega
theorem Ai {a b : Int} (ha : bW a) (hb : bW b) (h : a ≤ b) : mi a ≤ mi b := by
 rcases Nat.lt_or_ge (mi b) (mi a) with h1 | h1
 ·have := IK hb ha h1; omega
 ·exact h1
theorem Zc {a b : Int} (ha : bW a) (hb : bW b) (h : mi a + 2 ≤ mi b) : a + 28 < b := by
 obtain ⟨y, m, d, hc, rfl, _⟩ := eF ha
 obtain ⟨y', m', d', hc', rfl, _⟩ := eF hb
 rw [yO hc, yO hc'] at h
 have a1 := hc.y1; have a2 := hc.m1; have a3 := hc.m2; have a4 := hc'.y2; have a5 := hc'.m1; have a6 := hc'.m2
 have hm1 : 1 ≤ (y * 12 + m) % 12 + 1 ∧ (y * 12 + m) % 12 + 1 ≤ 12 := by omega
 have hy1 : 1900 ≤ (y * 12 + m) / 12 ∧ (y * 12 + m) / 12 ≤ 2199 := by omega
 have hs : (y * 12 + m) / 12 * 12 + ((y * 12 + m) % 12 + 1) = y * 12 + m + 1 := by omega
 generalize (y * 12 + m) % 12 + 1 = m1 at *
 generalize (y * 12 + m) / 12 = y1 at *
 have hp := rP (y := y1) hm1.1 hm1.2
 have c1 : qX y1 m1 1 := ⟨hy1.1, hy1.2, hm1.1, hm1.2, by omega, by omega⟩
 have c2 : qX y1 m1 28 := ⟨hy1.1, hy1.2, hm1.1, hm1.2, by omega, by omega⟩
 have h1 := uo hc c1 (by omega)
 have h2 := uo c2 hc' (by omega)
 have h3 : dayOf y1 m1 28 = dayOf y1 m1 1 + 27 := by unfold dayOf; omega
 omega
theorem vI {day n : Int} {e : Bool} {r : Nat} (h : kZ day n e = some r) : ((mi r : Nat) : Int) = mi day + n := by
 obtain ⟨y, m, d, hc, rfl, hs⟩ := OE h
 rw [yO hc]
 exact hs
theorem Ey {day n : Int} (e : Bool) (hd : bW day) (h1 : 22801 ≤ (mi day : Int) + n) (h2 : (mi day : Int) + n ≤ 26400) : ∃ r, kZ day n e = some r := by
 have hb := LC hd
 obtain ⟨y, m, d, hc, rfl, ho⟩ := eF hd
 rw [yO hc] at h1 h2 hb
 unfold kZ Au
 rw [if_pos hd, ho]
 rw [if_pos (by omega)]
 have a2 := hc.m1
 simp only
 unfold lV
 rw [if_pos (by omega)]
 exact ⟨_, rfl⟩
theorem NQ (a b : Int) : mD a b = (mi b : Int) - mi a := rfl
theorem adI : mi 20000 = 23458 := by decide +kernel
end Go.Ev.Code
end
section
namespace Go.Ev.Code
open Go Go.Ev
structure Stub (b : aW) (K l A : Nat) : Prop where
 m1 : 20000 ≤ b.dw
 m2 : b.dw ≤ 99999
 fr : b.dV = 2
 en : b.ends = false
 K1 : 2 ≤ K
 K2 : K ≤ 9
 l1 : 1 ≤ l
 l2 : l ≤ 27
 hA : kZ b.dw (-6 * (K : Int)) false = some A
 is : b.issue = A + l
 cp : b.iM = [53]
 rd : b.iT = [49, 48, 48]
 ct : b.count = 4
 s1 : 0 ≤ b.stub
 s2 : b.stub ≤ 2
 ex : b.ex = 0
theorem Stub.day {b : aW} {K l A : Nat} (h : Stub b K l A) : bW b.dw := ⟨by have := h.m1; omega, by have := h.m2; omega⟩
theorem Stub.mo {b : aW} {K l A : Nat} (h : Stub b K l A) : months b = 6 := by unfold months; rw [h.fr]; rfl
theorem Stub.Xo {b : aW} {K l A : Nat} (h : Stub b K l A) (i : Nat) : anch b i = kZ b.dw (-6 * (i : Int)) false := by
 unfold anch
 rw [h.mo, h.en, show -(i : Int) * 6 = -6 * (i : Int) by omega]
theorem Stub.miM {b : aW} {K l A : Nat} (h : Stub b K l A) : 23458 ≤ mi b.dw := by
 rw [← adI]
 exact Ai (by decide) h.day h.m1
theorem Stub.NP {b : aW} {K l A : Nat} (h : Stub b K l A) {i : Nat} (hi : i ≤ 100) : ∃ a : Nat, anch b i = some a ∧ (mi a : Int) = mi b.dw - 6 * i ∧ bW a := by
 have hm := h.miM
 have hb := LC h.day
 obtain ⟨r, hr⟩ := Ey (day := b.dw) (n := -6 * (i : Int)) false h.day (by omega) (by omega)
 refine ⟨r, by rw [h.Xo, hr], ?_, nZ hr⟩
 have := vI hr
 omega
theorem Stub.GZ {b : aW} {K l A : Nat} (h : Stub b K l A) : anch b K = some A := by rw [h.Xo]; exact h.hA
theorem Stub.between {b : aW} {K l A : Nat} (h : Stub b K l A) {i a : Nat} (hi : i < K) (ha : anch b i = some a) : b.issue < (a : Int) := by
 have hK := h.K2
 obtain ⟨a', h1, h2, h3⟩ := h.NP (i := i) (by omega)
 obtain ⟨c', k1, k2, k3⟩ := h.NP (i := K) (by omega)
 obtain rfl := Option.some.inj (ha.symm.trans h1)
 obtain rfl := Option.some.inj (h.GZ.symm.trans k1)
 have := Zc k3 h3 (by omega)
 have := h.is
 have := h.l2
 omega
theorem Stub.zk {b : aW} {K l A : Nat} (h : Stub b K l A) : bW b.issue := by
 have hK := h.K1
 obtain ⟨a', h1, h2, h3⟩ := h.NP (i := 0) (by omega)
 have hlt := h.between (i := 0) (by omega) h1
 have := h.is
 exact ⟨by omega, by have := h3.2; omega⟩
theorem Stub.miI {b : aW} {K l A : Nat} (h : Stub b K l A) : (mi b.dw : Int) - 6 * K ≤ mi b.issue := by
 have hK := h.K2
 obtain ⟨c', k1, k2, k3⟩ := h.NP (i := K) (by omega)
 obtain rfl := Option.some.inj (h.GZ.symm.trans k1)
 have := Ai k3 h.zk (by have := h.is; omega)
 omega
theorem Stub.lt {b : aW} {K l A : Nat} (h : Stub b K l A) : b.issue < b.dw := by
 have hK := h.K1
 have h1 := Ez h.day
 have := h.between (i := 0) (by omega) h1
 have := h.m1
 omega
theorem Stub.sums {b : aW} {K l A : Nat} (h : Stub b K l A) : sG b = none := by
 unfold sG
 rw [h.cp, h.rd]
 decide +kernel
theorem Stub.Rw {b : aW} {K l A : Nat} (h : Stub b K l A) : chk b = none := by
 have hd : qo b = none := by
  unfold qo
  rw [if_neg (by have := h.zk; simpa using this), if_neg (by have := h.day; simpa using this), if_neg (by have := h.lt; omega)]
  split
  ·rename_i e he
   have h1 := vI he
   have h2 := h.miI
   have h3 := IK h.day (nZ he) (by have := h.K2; omega)
   rw [if_neg (by omega)]
  ·rfl
 have hbb := h.miM
 have hp : Gl b ≤ 200 := by
  unfold Gl
  rw [NQ, h.mo]
  have h2 := h.miI
  have h3 := Ai h.zk h.day (by have := h.lt; omega)
  have h4 := h.K2
  rw [Int.tdiv_eq_ediv_of_nonneg (by omega)]
  omega
 unfold chk
 rw [hd, h.mo, h.sums]
 simp only
 rw [if_neg (by omega), if_neg (by have := h.ct; omega), if_neg (by have := h.s1; have := h.s2; omega), if_neg (by have := h.ex; omega), if_neg (by omega)]
theorem Stub.NV {b : aW} {K l A : Nat} (h : Stub b K l A) : fC b = K := by
 obtain ⟨k1, k2, k3⟩ := EL (b := b) (by rw [h.mo]; omega)
 have hK := h.K2
 have g1 : ∀ i, i < K → Goes b i := fun i hi => by
  obtain ⟨a', h1, h2, h3⟩ := h.NP (i := i) (by omega)
  exact ⟨a', h1, h.between hi h1⟩
 have g2 : ¬ Goes b K := by
  rintro ⟨a, ha, hlt⟩
  obtain rfl := Option.some.inj (h.GZ.symm.trans ha)
  have := h.is
  omega
 rcases Nat.lt_trichotomy (fC b) K with hl | hl | hl
 ·exact absurd (g1 _ hl) k2
 ·exact hl
 ·exact absurd (k1 _ hl) g2
theorem Stub.hit {b : aW} {K l A : Nat} (h : Stub b K l A) : Gj b = false := by
 unfold Gj
 rw [h.NV, h.GZ]
 have := h.is
 have := h.l1
 simp only [decide_eq_false_iff_not]
 omega
theorem Stub.irr {b : aW} {K l A : Nat} (h : Stub b K l A) {j a : Nat} (hj : j < K) (ha : anch b j = some a) : regular b (b.issue, (a : Int)) = false := by
 have hK := h.K2
 unfold regular
 rw [h.Rw]
 simp only
 have hp := Yd (b := b) (by rw [h.mo]; omega) ha (fun i hi => by
  obtain ⟨a', h1, _⟩ := h.NP (i := i) (by omega)
  rw [h1]; rfl) (by omega)
 unfold quasi
 rw [hp]
 simp only
 rw [if_neg (by have := h.between hj ha; omega)]
 obtain ⟨c, k1, k2, k3⟩ := h.NP (i := j + 1) (by omega)
 rw [k1]
 simp only [decide_eq_false_iff_not]
 rcases Nat.lt_or_ge (j + 1) K with h1 | h1
 ·have := h.between h1 k1; omega
 ·have : j + 1 = K := by omega
  rw [this, h.GZ] at k1
  obtain rfl := Option.some.inj k1
  have := h.is
  have := h.l1
  omega
theorem Stub.raw {b : aW} {K l A : Nat} (h : Stub b K l A) : ∃ (f s : Nat) (r : List (Int × Int)), anch b (K - 1) = some f ∧ anch b (K - 2) = some s ∧ eu b = (b.issue, (f : Int)) :: ((f : Int), (s : Int)) :: r ∧ r.length + 2 = K := by
 have hK := h.K1
 have hK2 := h.K2
 obtain ⟨f, f1, _⟩ := h.NP (i := K - 1) (by omega)
 obtain ⟨s, s1, _⟩ := h.NP (i := K - 2) (by omega)
 have hlen := rW b
 rw [h.NV] at hlen
 have r0 := vV (b := b) (i := 0) (by rw [h.NV]; omega)
 have r1 := vV (b := b) (i := 1) (by rw [h.NV]; omega)
 rw [h.NV] at r0 r1
 rw [if_pos rfl, show K - 1 - 0 = K - 1 by omega, f1] at r0
 rw [if_neg (by omega), f1, show K - 1 - 1 = K - 2 by omega, s1] at r1
 generalize eu b = ps at *
 match ps, hlen, r0, r1 with
 | p :: q :: r, hlen, r0, r1 =>
   simp at r0 r1 hlen
   exact ⟨f, s, r, f1, s1, by rw [r0, r1], by omega⟩
 | [p], hlen, _, _ => simp at hlen; omega
 | [], hlen, _, _ => simp at hlen; omega
theorem Stub.with {b : aW} {K l A : Nat} (h : Stub b K l A) {s : Int} (h1 : 0 ≤ s) (h2 : s ≤ 2) : Stub { b with stub := s } K l A :=
 ⟨h.m1, h.m2, h.fr, h.en, h.K1, h.K2, h.l1, h.l2, h.hA, h.is, h.cp, h.rd, h.ct, h1, h2, h.ex⟩
theorem Stub.aoq {b : aW} {K l A : Nat} (h : Stub b K l A) (hs : b.stub = 0) : gq b = (some (5, sH), []) := by
 unfold gq
 rw [h.Rw]
 simp only
 rw [h.hit, if_neg (by decide), if_pos hs]
theorem Stub.short {b : aW} {K l A : Nat} (h : Stub b K l A) (hs : b.stub = 1) : gq b = (none, eu b) := by
 unfold gq
 rw [h.Rw]
 simp only
 rw [h.hit, if_neg (by decide), if_neg (by omega), if_neg (by omega)]
theorem Stub.long {b : aW} {K l A f s : Nat} {r : List (Int × Int)} (h : Stub b K l A) (hs : b.stub = 2) (hr : eu b = (b.issue, (f : Int)) :: ((f : Int), (s : Int)) :: r) : gq b = (none, (b.issue, (s : Int)) :: r) := by
 unfold gq
 rw [h.Rw]
 simp only
 rw [h.hit, if_neg (by decide), if_neg (by omega), if_pos hs, hr]
end Go.Ev.Code
end
