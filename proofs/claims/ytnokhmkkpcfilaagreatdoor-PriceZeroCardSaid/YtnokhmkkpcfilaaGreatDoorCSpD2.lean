/- A part of the proof of flowSum_card, flowParts_card, flowEx_card, accrWhole_card, priceZero_card. -/
import Derived.Test.YtnokhmkkpcfilaaGreatDoorCSpD1
set_option linter.unusedVariables false
set_option linter.unusedSimpArgs false
section
namespace Go.Ev.Code
open Go Go.Ev
theorem aaM : ∀ (l : List Nat) (f : Int) (i : Nat), i < l.length → (oW f l)[i]? = some (if i = 0 then f else ((l[i - 1]?.getD 0 : Nat) : Int), ((l[i]?.getD 0 : Nat) : Int))
 | [], _, i, h => by simp at h
 | d :: ds, f, 0, h => by simp [oW]
 | d :: ds, f, i + 1, h => by
   have h' : i < ds.length := by simpa using h
   have := aaM ds d i h'
   simp only [oW, List.getElem?_cons_succ, this, Nat.add_sub_cancel]
   cases i with
   | zero => simp
   | succ j => simp
structure Whole (b : aN) (ps : List (Int × Int)) : Prop where
 ne : ps ≠ []
 first : ∀ p : Int × Int, ps[0]? = some p → p.1 = b.issue
 last : ∀ p : Int × Int, ps[ps.length - 1]? = some p → p.2 = b.fO
 len : ps.length ≤ 200
 ord : ∀ (i : Nat) (p : Int × Int), ps[i]? = some p → p.1 < p.2
 next : ∀ (i : Nat) (p q : Int × Int), ps[i]? = some q → ps[i + 1]? = some p → p.1 = q.2 ∧ regular b p = true
 stub : b.stub = 0 → ∀ p : Int × Int, ps[0]? = some p → regular b p = true
theorem yH {b : aN} {i : Nat} (h : i < cO b) : (iq b)[i]? = some (if i = 0 then b.issue else (((anch b (cO b - i)).getD 0 : Nat) : Int), (((anch b (cO b - 1 - i)).getD 0 : Nat) : Int)) := by
 unfold iq
 have hl := Jh b (cO b)
 rw [aaM _ _ _ (by rw [List.length_reverse, hl]; exact h)]
 have hg : ∀ j, j < cO b → (kS b (cO b)).reverse[j]? = some ((anch b (cO b - 1 - j)).getD 0) := by
  intro j hj
  rw [List.getElem?_reverse (by rw [hl]; exact hj), hl]
  simp [kS, List.getElem?_range, show cO b - 1 - j < cO b by omega]
 rw [hg i h, Option.getD_some]
 by_cases h0 : i = 0
 ·simp [h0]
 ·rw [if_neg h0, if_neg h0, hg (i - 1) (by omega), Option.getD_some, show cO b - 1 - (i - 1) = cO b - i by omega]
theorem m_ {b : aN} (hchk : chk b = none) {k : Nat} (hk : k < cO b) : ∃ a, anch b k = some a ∧ b.issue < (a : Int) ∧ (k + 1 < cO b → ∃ c, anch b (k + 1) = some c ∧ c < a) := by
 have hm := (dM hchk).2.1
 obtain ⟨g1, g2, g3⟩ := OE hm
 obtain ⟨a, ha, hai⟩ := g1 k hk
 refine ⟨a, ha, hai, fun hk2 => ?_⟩
 obtain ⟨c, hc, _⟩ := g1 (k + 1) hk2
 exact ⟨c, hc, abV hm (Nat.lt_succ_self k) ha hc⟩
theorem ajy {b : aN} (hchk : chk b = none) {i : Nat} {p : Int × Int} (h : (iq b)[i]? = some p) : p.1 < p.2 ∧ b.issue < p.2 := by
 have hl : i < cO b := by rw [← xH]; exact (List.getElem?_eq_some_iff.1 h).1
 rw [yH hl] at h
 simp at h
 subst h
 obtain ⟨a, ha, hai, hn⟩ := m_ hchk (k := cO b - 1 - i) (by omega)
 simp only [ha, Option.getD_some]
 by_cases h0 : i = 0
 ·rw [if_pos h0]; exact ⟨hai, hai⟩
 ·rw [if_neg h0]
  obtain ⟨c, hc, hca⟩ := hn (by omega)
  rw [show cO b - i = cO b - 1 - i + 1 by omega, hc, Option.getD_some]
  exact ⟨by omega, hai⟩
theorem aor {b : aN} (hchk : chk b = none) {i : Nat} {p q : Int × Int} (hq : (iq b)[i]? = some q) (hp : (iq b)[i + 1]? = some p) : p.1 = q.2 ∧ regular b p = true := by
 have hl : i + 1 < cO b := by rw [← xH]; exact (List.getElem?_eq_some_iff.1 hp).1
 rw [yH (by omega)] at hq
 rw [yH hl] at hp
 simp at hq hp
 obtain ⟨a, ha, hai, hn⟩ := m_ hchk (k := cO b - 1 - (i + 1)) (by omega)
 obtain ⟨c, hc, hca⟩ := hn (by omega)
 rw [show cO b - 1 - (i + 1) + 1 = cO b - (i + 1) by omega] at hc
 subst hp
 subst hq
 refine ⟨?_, ?_⟩
 ·simp only
  rw [show cO b - 1 - i = cO b - (i + 1) by omega]
 ·simp only [ha, hc, Option.getD_some]
  exact Xt hchk (k := cO b - 1 - (i + 1)) (by omega) ha ⟨c, by rw [show cO b - 1 - (i + 1) + 1 = cO b - (i + 1) by omega]; exact hc, rfl⟩
theorem adC {b : aN} (hchk : chk b = none) (hs : b.stub = 0 → Uf b = true) : Whole b (iq b) := by
 have kp := Js hchk
 have hm := (dM hchk).2.1
 obtain ⟨d1, d2, d3⟩ := He (dM hchk).1
 have hl := xH b
 refine ⟨?_, ?_, ?_, ?_, ?_, ?_, ?_⟩
 ·intro h; rw [h] at hl; simp at hl; omega
 ·intro p hp
  rw [yH (by omega)] at hp
  simp at hp
  rw [← hp]
 ·intro p hp
  rw [hl, yH (by omega)] at hp
  simp at hp
  rw [← hp]
  simp only [show cO b - 1 - (cO b - 1) = 0 by omega, ac1 d2, Option.getD_some]
  omega
 ·have := arz hchk; omega
 ·exact fun i p hp => (ajy hchk hp).1
 ·exact fun i p q hq hp => aor hchk hq hp
 ·intro h0 p hp
  have hh := hs h0
  rw [yH (by omega)] at hp
  simp at hp
  subst hp
  obtain ⟨a, ha, hai, _⟩ := m_ hchk (k := cO b - 1) (by omega)
  simp only [Nat.sub_zero, ha, Option.getD_some]
  refine Xt hchk (k := cO b - 1) (by omega) ha ?_
  rw [show cO b - 1 + 1 = cO b by omega]
  unfold Uf at hh
  cases hk : anch b (cO b) with
  | none => rw [hk] at hh; simp at hh
  | some c => rw [hk] at hh; exact ⟨c, rfl, by simpa using hh⟩
theorem eG {b : aN} (h : (aK b).1 = none) : chk b = none ∧ Whole b (aK b).2 := by
 unfold aK at h ⊢
 cases hchk : chk b with
 | some e => rw [hchk] at h; simp at h
 | none =>
   rw [hchk] at h
   simp only at h ⊢
   refine ⟨trivial, ?_⟩
   by_cases hh : Uf b = true
   ·rw [if_pos hh]; exact adC hchk fun _ => hh
   ·rw [if_neg hh] at h ⊢
    by_cases h0 : b.stub = 0
    ·rw [if_pos h0] at h; simp at h
    ·rw [if_neg h0] at h ⊢
     have hw := adC hchk fun h => absurd h h0
     by_cases h2 : b.stub = 2
     ·rw [if_pos h2]
      split
      ·rename_i p q r hr
       rw [hr] at hw
       have hq := ajy hchk (i := 1) (p := q) (by rw [hr]; rfl)
       refine ⟨by simp, ?_, ?_, ?_, ?_, ?_, fun h => absurd h h0⟩
       ·intro x hx; simp at hx; rw [← hx]
       ·intro x hx
        have hl := hw.last
        cases r with
        | nil => simp at hx hl; rw [← hx]; exact hl
        | cons y ys =>
          refine hl x ?_
          simp at hx ⊢
          exact hx
       ·have := hw.len; simp at this ⊢; omega
       ·intro i x hx
        cases i with
        | zero => simp at hx; rw [← hx]; exact hq.2
        | succ j => exact hw.ord (j + 2) x (by simpa using hx)
       ·intro i x y hy hx
        cases i with
        | zero =>
          simp at hy
          have := hw.next 1 x q (by simp) (by simpa using hx)
          rw [← hy]; exact this
        | succ j => exact hw.next (j + 2) x y (by simpa using hy) (by simpa using hx)
      ·exact hw
     ·rw [if_neg h2]; exact hw
theorem pJ : ∀ {ps : List (Int × Int)} {i : Nat} {p : Int × Int}, ps[i]? = some p → (bT ps)[i * 2]? = some (.int .i64 p.1) ∧ (bT ps)[i * 2 + 1]? = some (.int .i64 p.2) ∧ i * 2 + 2 ≤ (bT ps).length ∧ ((bT ps).drop (i * 2)).take 2 = [.int .i64 p.1, .int .i64 p.2]
 | [], i, p, h => by simp at h
 | (a, b) :: ps, 0, p, h => by simp at h; subst h; simp [bT]
 | (a, b) :: ps, i + 1, p, h => by
   obtain ⟨h1, h2, h3, h4⟩ := pJ (ps := ps) (i := i) (p := p) (by simpa using h)
   have e1 : (i + 1) * 2 = i * 2 + 1 + 1 := by omega
   have e2 : (i + 1) * 2 + 1 = i * 2 + 1 + 1 + 1 := by omega
   rw [e1]
   refine ⟨by simpa [bT] using h1, by simpa [bT] using h2, by simp [bT]; omega, by simpa [bT] using h4⟩
theorem iw (b : aN) (k : Nat) : (aS b).all (D.clo k 12) = true := by obtain ⟨i, m, f, c, rd, n, s, e, ex⟩ := b; simp [aS]
theorem mQ (b : aN) : (aS b).length = 9 := rfl
end Go.Ev.Code
end
section
namespace Go.Ev.Code
open Go Go.Ev
theorem Xr {y : Nat} (h : y ≤ 1000000) : L.call kK [.int .i64 y] = some (.bool (leap y)) := by
 have q1 := Gw y 4
 have q2 := Gw y 100
 have q3 := Gw y 400
 simp at q1 q2 q3
 refine aO V8 rfl (VU ..) ?_
 unfold leap
 have c4 : ((y : Int) % 4 = 0) ↔ y % 4 = 0 := by omega
 have c100 : ((y : Int) % 100 = 0) ↔ y % 100 = 0 := by omega
 have c400 : ((y : Int) % 400 = 0) ↔ y % 400 = 0 := by omega
 by_cases h4 : y % 4 = 0
 ·by_cases h100 : y % 100 = 0
  ·by_cases h400 : y % 400 = 0 <;> simp (disch := omega) [w_, q1, q2, q3, c4, c100, c400, h4, h100, h400]
  ·simp (disch := omega) [w_, q1, q2, q3, c4, c100, c400, h4, h100]
 ·simp (disch := omega) [w_, q1, q2, q3, c4, c100, c400, h4]
theorem uj {y m : Nat} (h : y ≤ 1000000) (h1 : 1 ≤ m) (h2 : m ≤ 12) : L.call dU [.int .i64 y, .int .i64 m] = some (.int .i64 (bU y m)) := by
 have hl := Xr h
 refine aO TL rfl (TI ..) ?_
 have : m = 1 ∨ m = 2 ∨ m = 3 ∨ m = 4 ∨ m = 5 ∨ m = 6 ∨ m = 7 ∨ m = 8 ∨ m = 9 ∨ m = 10 ∨ m = 11 ∨ m = 12 := by omega
 rcases this with rfl | rfl | rfl | rfl | rfl | rfl | rfl | rfl | rfl | rfl | rfl | rfl
 case inr.inl =>
  cases hy : leap y <;> rw [hy] at hl <;> simp [zK, bU, hl, hy]
 all_goals simp [zK, bU]
theorem UG (n : Int) : L.call pK [.int .i64 n] = some (.bool (decide (0 ≤ n ∧ n ≤ 109572))) := by
 refine aO YT rfl (YS ..) ?_
 by_cases h : 0 ≤ n
 ·by_cases h' : n ≤ 109572 <;> simp [Gv, h, h']
 ·simp [Gv, h]
theorem OY {y : Nat} (h : y ≤ 1000000) : L.call jH [.int .i64 y] = some (.int .i64 (dD y 12)) := by
 have hl := Xr h
 rw [afl]
 refine aO V9 rfl (VW ..) ?_
 cases hy : leap y <;> rw [hy] at hl <;> simp [Lj, hl]
theorem anT (y : Nat) : dD y 12 ≤ 366 ∧ 365 ≤ dD y 12 := by rw [afl]; split <;> omega
theorem afe {y m d : Nat} (hy : y ≤ 2199) : ∀ (j k : Nat), k + j = y → 1900 ≤ k →
  L.loop [1, 4, 5] [1, 4] lD 1 [.loc 0 0, .int .i64 (dO k), .int .i64 k] [.live [.int .i64 y, .int .i64 m, .int .i64 d]] =
    some (.exit 0, [.loc 0 0, .int .i64 (dO y)], [.live [.int .i64 y, .int .i64 m, .int .i64 d]]) := by
 intro j
 induction j with
 | zero =>
   intro k hk h1
   have : k = y := by omega
   subst this
   generalize dO k = B
   refine aQ (I_ ..) ?_
   simp [Aq]
 | succ j ih =>
   intro k hk h1
   have hl := OY (y := k) (by omega)
   have hn := ih (k + 1) (by omega) (by omega)
   have hs := F7 h1
   have hb := Oq (y := k) (by omega)
   have hc := anT k
   have hlt : k < y := by omega
   rw [hs] at hn
   generalize dO y = By at *
   generalize dO k = B at *
   generalize dD k 12 = l at *
   have e1 : IntKind.i64.wrap ((B : Int) + l) = ((B + l : Nat) : Int) := by rw [wrap64 _ (by omega)]; omega
   have e2 : IntKind.i64.wrap ((k : Int) + 1) = ((k + 1 : Nat) : Int) := by rw [wrap64 _ (by omega)]; omega
   generalize B + l = B2 at *
   generalize k + 1 = k2 at *
   refine aQ (I_ ..) ?_
   simp [Aq, hl, hlt, e1, e2, hn]
theorem aff {y m d A : Nat} (hy : y ≤ 2200) (hm : m ≤ 12) (hA : A ≤ 1000000) : ∀ (j k : Nat), k + j = m → 1 ≤ k →
  L.loop [1, 4, 6] [1, 4] lF 1 [.loc 0 0, .int .i64 ((A + dD y (k - 1) : Nat) : Int), .int .i64 k] [.live [.int .i64 y, .int .i64 m, .int .i64 d]] =
    some (.exit 2, [.loc 0 0, .int .i64 ((A + dD y (m - 1) : Nat) : Int)], [.live [.int .i64 y, .int .i64 m, .int .i64 d]]) := by
 intro j
 induction j with
 | zero =>
   intro k hk h1
   have : k = m := by omega
   subst this
   generalize A + dD y (k - 1) = B
   refine aQ (Ja ..) ?_
   simp [Ar]
 | succ j ih =>
   intro k hk h1
   have hl := uj (y := y) (m := k) (by omega) h1 (by omega)
   have hn := ih (k + 1) (by omega) (by omega)
   have hc : A + dD y (k + 1 - 1) = A + dD y (k - 1) + bU y k := by
    rw [Nat.add_sub_cancel]
    obtain ⟨q, rfl⟩ : ∃ q, k = q + 1 := ⟨k - 1, by omega⟩
    simp only [dD, Nat.add_sub_cancel]; omega
   rw [hc] at hn
   have hb := Ws y (k - 1)
   have hb2 := yD y k
   have hlt : k < m := by omega
   have hBl : A + dD y (k - 1) ≤ 1000372 := by omega
   generalize A + dD y (k - 1) = B at *
   generalize A + dD y (m - 1) = C at *
   generalize bU y k = l at *
   have e1 : IntKind.i64.wrap ((B : Int) + l) = ((B + l : Nat) : Int) := by rw [wrap64 _ (by omega)]; omega
   have e2 : IntKind.i64.wrap ((k : Int) + 1) = ((k + 1 : Nat) : Int) := by rw [wrap64 _ (by omega)]; omega
   generalize B + l = B2 at *
   generalize k + 1 = k2 at *
   refine aQ (Ja ..) ?_
   simp (disch := omega) [Ar, hl, hlt, e1, e2, hn]
theorem akS {y m d : Nat} (h1 : 1900 ≤ y) (h2 : y ≤ 2199) (hm : 1 ≤ m) (hm2 : m ≤ 12) (hd : 1 ≤ d) (hd2 : d ≤ bU y m) :
  L.call kX [mF y m d] = some (.aZ [.int .i64 (dayOf y m d), .bool true]) := by
 have hl := uj (y := y) (m := m) (by omega) hm hm2
 have hbb := Oq (y := y) (by omega)
 have hl1 := afe (y := y) (m := m) (d := d) h2 (y - 1900) 1900 (by omega) (by omega)
 have hl2 := aff (y := y) (m := m) (d := d) (A := dO y) (by omega) hm2 (by omega) (m - 1) 1 (by omega) (by omega)
 simp only [Nat.sub_self, dD, Nat.add_zero] at hl2
 have hml := yD y m
 have hcu := Ws y (m - 1)
 have hC : dayOf y m d = dO y + dD y (m - 1) + d - 1 := rfl
 rw [show dO 1900 = 0 from rfl] at hl1
 have g1 : ¬ (y : Int) < 1900 := by omega
 have g2 : ¬ (2199 : Int) < y := by omega
 have g3 : ¬ (d : Int) < 1 := by omega
 generalize bU y m = l at *
 have g4 : ¬ (l : Int) < d := by omega
 have g5 : ¬ l < d := by omega
 have g6 : ¬ 2199 < y := by omega
 generalize hx : dO y + dD y (m - 1) = x at *
 generalize dayOf y m d = r at *
 generalize dO y = b at *
 have e1 : IntKind.i64.wrap ((x : Int) + d) = ((x + d : Nat) : Int) := by rw [wrap64 _ (by omega)]; omega
 have e2 : IntKind.i64.wrap (((x + d : Nat) : Int) - 1) = (r : Int) := by rw [wrap64 _ (by omega)]; omega
 generalize x + d = b2 at *
 simp at hl1 hl2
 refine aO Oc rfl (N9 ..) ?_
 unfold mF
 simp (disch := omega) [zL, hl, g1, g2, g3, g4, g5, g6, e1, e2, hl1, hl2]
theorem aiT {y m d : Nat} (h : ¬ (1900 ≤ y ∧ y ≤ 2199)) : L.call kX [mF y m d] = some (.aZ [.int .i64 0, .bool false]) := by
 refine aO Oc rfl (N9 ..) ?_
 unfold mF
 by_cases h1 : 1900 ≤ y
 ·have g1 : ¬ (y : Int) < 1900 := by omega
  have g2 : (2199 : Int) < y := by omega
  have g6 : 2199 < y := by omega
  simp [zL, g1, g2, g6]
 ·have g1 : (y : Int) < 1900 := by omega
  simp [zL, g1]
end Go.Ev.Code
end
section
namespace Go.Ev.Code
open Go Go.Ev
theorem acB {y day : Nat} (hlo : dO y ≤ day) (hhi : day < dO (y + 1)) (hy : y ≤ 2199) : ∀ (j k : Nat), k + j = y → 1900 ≤ k →
  L.loop [0, 2, 3] [0, 2, 3] jF 2 [.int .i64 ((day - dO k : Nat) : Int), .loc 0 0, .loc 1 0] [.live [.int .i64 0, .int .i64 0, .int .i64 0], .live [.int .i64 k, .int .i64 1, .int .i64 0]] =
    some (.exit 0, [.int .i64 ((day - dO y : Nat) : Int), .loc 0 0, .loc 1 0], [.live [.int .i64 0, .int .i64 0, .int .i64 0], .live [.int .i64 y, .int .i64 1, .int .i64 0]]) := by
 intro j
 induction j with
 | zero =>
   intro k hk h1
   have : k = y := by omega
   subst this
   have hl := OY (y := k) (by omega)
   have hs := F7 h1
   generalize dO (k + 1) = b2 at *
   generalize dO k = b at *
   generalize dD k 12 = l at *
   have g : ¬ (l : Int) ≤ ((day - b : Nat) : Int) := by omega
   have g' : ¬ l ≤ day - b := by omega
   generalize day - b = r at *
   refine aQ (Ej ..) ?_
   simp [xJ, hl, g, g']
 | succ j ih =>
   intro k hk h1
   have hl := OY (y := k) (by omega)
   have hs := F7 h1
   have hn := ih (k + 1) (by omega) (by omega)
   have hmo := Ji (x := k + 1) (y := y) (by omega) (by omega)
   have hbl := Oq (y := y + 1) (by omega)
   rw [hs] at hn hmo
   generalize dO (y + 1) = by1 at *
   generalize dO y = by0 at *
   generalize dO k = b at *
   generalize dD k 12 = l at *
   have g : (l : Int) ≤ ((day - b : Nat) : Int) := by omega
   have g' : l ≤ day - b := by omega
   have e1 : IntKind.i64.wrap (((day - b : Nat) : Int) - l) = ((day - (b + l) : Nat) : Int) := by rw [wrap64 _ (by omega)]; omega
   have e2 : IntKind.i64.wrap ((k : Int) + 1) = ((k + 1 : Nat) : Int) := by rw [wrap64 _ (by omega)]; omega
   generalize day - (b + l) = r2 at *
   generalize day - b = r at *
   generalize k + 1 = k2 at *
   refine aQ (Ej ..) ?_
   simp [xJ, hl, g, g', e1, e2, hn]
theorem acC {y m d : Nat} (h : Au y m d) : ∀ (j k : Nat), k + j = m → 1 ≤ k →
  L.loop [0, 2, 3] [0, 2, 3] jG 2 [.int .i64 ((dD y (m - 1) + (d - 1) - dD y (k - 1) : Nat) : Int), .loc 0 0, .loc 1 0] [.live [.int .i64 0, .int .i64 0, .int .i64 0], .live [.int .i64 y, .int .i64 k, .int .i64 0]] =
    some (.exit 2, [.int .i64 ((d - 1 : Nat) : Int), .loc 0 0, .loc 1 0], [.live [.int .i64 0, .int .i64 0, .int .i64 0], .live [.int .i64 y, .int .i64 m, .int .i64 0]]) := by
 have h1 := h.d1
 have h2 := h.d2
 have h3 := h.m2
 have h4 := h.y2
 have h5 := yD y m
 intro j
 induction j with
 | zero =>
   intro k hk hk1
   have : k = m := by omega
   subst this
   have hl := uj (y := y) (m := k) (by omega) hk1 h3
   rw [show dD y (k - 1) + (d - 1) - dD y (k - 1) = d - 1 by omega]
   generalize bU y k = l at *
   have g : ¬ (l : Int) ≤ ((d - 1 : Nat) : Int) := by omega
   have g' : ¬ l ≤ d - 1 := by omega
   generalize d - 1 = d1 at *
   refine aQ (Em ..) ?_
   simp (disch := omega) [xK, hl, g, g']
 | succ j ih =>
   intro k hk hk1
   have hl := uj (y := y) (m := k) (by omega) hk1 (by omega)
   have hn := ih (k + 1) (by omega) (by omega)
   have hc : dD y (k + 1 - 1) = dD y (k - 1) + bU y k := by
    rw [Nat.add_sub_cancel]
    obtain ⟨q, rfl⟩ : ∃ q, k = q + 1 := ⟨k - 1, by omega⟩
    simp only [dD, Nat.add_sub_cancel]
   have hmo := Ox y (j := k) (k := m - 1) (by omega)
   rw [Nat.add_sub_cancel] at hc hn
   rw [hc] at hmo hn
   have hub := Ws y (m - 1)
   have hub2 : dD y (m - 1) + (d - 1) ≤ 1000 := by omega
   have hmo2 : dD y (k - 1) + bU y k ≤ dD y (m - 1) + (d - 1) := by omega
   generalize dD y (m - 1) + (d - 1) = T at *
   generalize bU y k = l at *
   generalize dD y (k - 1) = c at *
   have g : l ≤ T - c := by omega
   have g' : (l : Int) ≤ ((T - c : Nat) : Int) := by omega
   have e1 : IntKind.i64.wrap (((T - c : Nat) : Int) - l) = ((T - (c + l) : Nat) : Int) := by rw [wrap64 _ (by omega)]; omega
   have e2 : IntKind.i64.wrap ((k : Int) + 1) = ((k + 1 : Nat) : Int) := by rw [wrap64 _ (by omega)]; omega
   generalize T - (c + l) = r2 at *
   generalize T - c = r1 at *
   generalize k + 1 = k2 at *
   refine aQ (Em ..) ?_
   simp (disch := omega) [xK, hl, g, g', e1, e2, hn]
theorem U8 {y m d : Nat} (h : Au y m d) : L.call jW [.int .i64 (dayOf y m d)] = some (mF y m d) := by
 have hlo := h.lo
 have hhi := h.hi
 have hd1 := h.d1
 have hd2 := h.d2
 have hml := yD y m
 have hy := h.y2
 have hm2 := h.m2
 have l1 := acB hlo hhi hy (y - 1900) 1900 (by have := h.y1; omega) (by omega)
 have l2 := acC h (m - 1) 1 (by have := h.m1; omega) (by omega)
 have hT : dayOf y m d - dO y = dD y (m - 1) + (d - 1) := by unfold dayOf; omega
 simp only [Nat.sub_self, dD, Nat.sub_zero] at l2
 rw [← hT, show ((1 : Nat) : Int) = 1 from rfl] at l2
 rw [show dO 1900 = 0 from rfl, Nat.sub_zero] at l1
 generalize dayOf y m d = day at *
 generalize dO y = b at *
 generalize day - b = r at *
 have e4 : IntKind.i64.wrap (((d - 1 : Nat) : Int) + 1) = (d : Int) := by rw [wrap64 _ (by omega)]; omega
 generalize d - 1 = dd at *
 simp at l1 l2
 refine aO Vx rfl (Vt ..) ?_
 unfold mF
 simp (disch := omega) [Je, l1, l2, e4]
theorem aho {y m d : Nat} (h : Au y m d) : L.call mJ [.int .i64 (dayOf y m d)] = some (.bool (decide (d = bU y m))) := by
 have hc := U8 h
 have hl := uj (y := y) (m := m) (by have := h.y2; omega) h.m1 h.m2
 generalize dayOf y m d = day at *
 generalize bU y m = l at *
 unfold mF at hc
 refine aO V7 rfl (VT ..) ?_
 by_cases hd : d = l
 ·subst hd
  simp [BR, hc, hl]
 ·have hd' : ¬ (d : Int) = l := by omega
  simp [BR, hc, hl, hd, hd']
end Go.Ev.Code
end
section
namespace Go.Ev.Code
open Go Go.Ev
theorem anp {st : Bool} {d : Nat} : ∀ (N cy cm : Nat), 1 ≤ cm → cm ≤ 12 → cy + N ≤ 100000 →
  L.loop [1, 8, 9] [1, 8, 9] eP 1 [.int .i64 N, .loc 0 0, .bool st] [.live [.int .i64 cy, .int .i64 cm, .int .i64 d]] =
    some (.exit 0, [.int .i64 0, .loc 0 0, .bool st], [.live [.int .i64 (((cy * 12 + cm - 1 + N) / 12 : Nat) : Int), .int .i64 (((cy * 12 + cm - 1 + N) % 12 + 1 : Nat) : Int), .int .i64 d]]) := by
 intro N
 induction N with
 | zero =>
   intro cy cm h1 h2 h3
   rw [show (cy * 12 + cm - 1 + 0) / 12 = cy by omega, show (cy * 12 + cm - 1 + 0) % 12 + 1 = cm by omega]
   refine aQ (l9 ..) ?_
   simp [jM]
 | succ N ih =>
   intro cy cm h1 h2 h3
   have e1 : IntKind.i64.wrap ((cm : Int) + 1) = ((cm + 1 : Nat) : Int) := by rw [wrap64 _ (by omega)]; omega
   have e2 : IntKind.i64.wrap ((cy : Int) + 1) = ((cy + 1 : Nat) : Int) := by rw [wrap64 _ (by omega)]; omega
   have e3 : IntKind.i64.wrap (((N + 1 : Nat) : Int) - 1) = (N : Int) := by rw [wrap64 _ (by omega)]; omega
   have g : (0 : Int) < ((N + 1 : Nat) : Int) := by omega
   have g0 : 0 < N + 1 := by omega
   by_cases hc : cm = 12
   ·have hn := ih (cy + 1) 1 (by omega) (by omega) (by omega)
    rw [show (cy + 1) * 12 + 1 - 1 + N = cy * 12 + cm - 1 + (N + 1) by omega] at hn
    have g1 : (12 : Int) < ((cm + 1 : Nat) : Int) := by omega
    have g2 : 12 < cm + 1 := by omega
    generalize (cy * 12 + cm - 1 + (N + 1)) / 12 = Y at *
    generalize (cy * 12 + cm - 1 + (N + 1)) % 12 + 1 = M at *
    generalize N + 1 = N1 at *
    generalize cm + 1 = c1 at *
    generalize cy + 1 = y1 at *
    simp only [show ((1 : Nat) : Int) = 1 from rfl] at hn
    refine aQ (l9 ..) ?_
    simp [jM, e1, e2, e3, g, g0, g1, g2, hn]
   ·have hn := ih cy (cm + 1) (by omega) (by omega) (by omega)
    rw [show cy * 12 + (cm + 1) - 1 + N = cy * 12 + cm - 1 + (N + 1) by omega] at hn
    have g1 : ¬ (12 : Int) < ((cm + 1 : Nat) : Int) := by omega
    have g2 : ¬ 12 < cm + 1 := by omega
    generalize (cy * 12 + cm - 1 + (N + 1)) / 12 = Y at *
    generalize (cy * 12 + cm - 1 + (N + 1)) % 12 + 1 = M at *
    generalize N + 1 = N1 at *
    generalize cm + 1 = c1 at *
    refine aQ (l9 ..) ?_
    simp [jM, e1, e3, g, g0, g1, g2, hn]
theorem anq {st : Bool} {d cy cm : Nat} {n : Int} (h : n ≤ 0) :
  L.loop [1, 8, 9] [1, 8, 9] eP 1 [.int .i64 n, .loc 0 0, .bool st] [.live [.int .i64 cy, .int .i64 cm, .int .i64 d]] =
    some (.exit 0, [.int .i64 n, .loc 0 0, .bool st], [.live [.int .i64 cy, .int .i64 cm, .int .i64 d]]) := by
 have g : ¬ (0 : Int) < n := by omega
 refine aQ (l9 ..) ?_
 simp [jM, g]
theorem afY {st : Bool} {d : Nat} : ∀ (N cy cm : Nat), 1 ≤ cm → cm ≤ 12 → N ≤ cy * 12 + cm - 1 → cy ≤ 100000 → N ≤ 100000 →
  L.loop [1, 8, 9] [8, 9] fH 1 [.int .i64 (-(N : Int)), .loc 0 0, .bool st] [.live [.int .i64 cy, .int .i64 cm, .int .i64 d]] =
    some (.exit 2, [.loc 0 0, .bool st], [.live [.int .i64 (((cy * 12 + cm - 1 - N) / 12 : Nat) : Int), .int .i64 (((cy * 12 + cm - 1 - N) % 12 + 1 : Nat) : Int), .int .i64 d]]) := by
 intro N
 induction N with
 | zero =>
   intro cy cm h1 h2 h3 h4 h5
   rw [show (cy * 12 + cm - 1 - 0) / 12 = cy by omega, show (cy * 12 + cm - 1 - 0) % 12 + 1 = cm by omega]
   refine aQ (qW ..) ?_
   simp [mD]
 | succ N ih =>
   intro cy cm h1 h2 h3 h4 h5
   have e3 : IntKind.i64.wrap (-((N + 1 : Nat) : Int) + 1) = -(N : Int) := by rw [wrap64 _ (by omega)]; omega
   have g : -((N + 1 : Nat) : Int) < 0 := by omega
   have e1 : IntKind.i64.wrap ((cm : Int) - 1) = ((cm - 1 : Nat) : Int) := by rw [wrap64 _ (by omega)]; omega
   by_cases hc : cm = 1
   ·have e2 : IntKind.i64.wrap ((cy : Int) - 1) = ((cy - 1 : Nat) : Int) := by rw [wrap64 _ (by omega)]; omega
    have hn := ih (cy - 1) 12 (by omega) (by omega) (by omega) (by omega) (by omega)
    rw [show (cy - 1) * 12 + 12 - 1 - N = cy * 12 + cm - 1 - (N + 1) by omega] at hn
    have g1 : ((cm - 1 : Nat) : Int) < 1 := by omega
    have g2 : cm - 1 < 1 := by omega
    generalize (cy * 12 + cm - 1 - (N + 1)) / 12 = Y at *
    generalize (cy * 12 + cm - 1 - (N + 1)) % 12 + 1 = M at *
    generalize -((N + 1 : Nat) : Int) = N1 at *
    generalize -(N : Int) = N0 at *
    generalize cm - 1 = c1 at *
    generalize cy - 1 = y1 at *
    simp only [show ((12 : Nat) : Int) = 12 from rfl] at hn
    refine aQ (qW ..) ?_
    simp [mD, e1, e2, e3, g, g1, g2, hn]
   ·have hn := ih cy (cm - 1) (by omega) (by omega) (by omega) (by omega) (by omega)
    rw [show cy * 12 + (cm - 1) - 1 - N = cy * 12 + cm - 1 - (N + 1) by omega] at hn
    have g1 : ¬ ((cm - 1 : Nat) : Int) < 1 := by omega
    have g2 : ¬ cm - 1 < 1 := by omega
    have g3 : ¬ cm - 1 = 0 := by omega
    generalize (cy * 12 + cm - 1 - (N + 1)) / 12 = Y at *
    generalize (cy * 12 + cm - 1 - (N + 1)) % 12 + 1 = M at *
    generalize -((N + 1 : Nat) : Int) = N1 at *
    generalize -(N : Int) = N0 at *
    generalize cm - 1 = c1 at *
    refine aQ (qW ..) ?_
    simp [mD, e1, e3, g, g1, g2, g3, hn]
def okD : Option Nat → D
 | some n => .aZ [.int .i64 n, .bool true]
 | none => .aZ [.int .i64 0, .bool false]
theorem UH {y m d : Nat} (h1 : 1 ≤ m) (h2 : m ≤ 12) (hd : 1 ≤ d) (hd2 : d ≤ bU y m) : L.call kX [mF y m d] = some (okD (qO y m d)) := by
 unfold qO
 split
 ·rename_i h; exact akS h.1 h.2 h1 h2 hd hd2
 ·rename_i h; exact aiT h
theorem alC {y m d y' m' : Nat} {n : Int} {e : Bool} (h : Au y m d) (hn1 : -3600 ≤ n) (hn2 : n ≤ 3600) (hy' : y' ≤ 1000000) (hm1 : 1 ≤ m') (hm2 : m' ≤ 12)
  {k : Int} (hl1 : L.loop [1, 8, 9] [1, 8, 9] eP 1 [.int .i64 n, .loc 0 0, .bool (e && decide (d = bU y m))] [.live [.int .i64 y, .int .i64 m, .int .i64 d]] = some (.exit 0, [.int .i64 k, .loc 0 0, .bool (e && decide (d = bU y m))], [.live (if k = 0 then [.int .i64 y', .int .i64 m', .int .i64 d] else [.int .i64 y, .int .i64 m, .int .i64 d])]))
  (hl2 : L.loop [1, 8, 9] [8, 9] fH 1 [.int .i64 k, .loc 0 0, .bool (e && decide (d = bU y m))] [.live (if k = 0 then [.int .i64 y', .int .i64 m', .int .i64 d] else [.int .i64 y, .int .i64 m, .int .i64 d])] = some (.exit 2, [.loc 0 0, .bool (e && decide (d = bU y m))], [.live [.int .i64 y', .int .i64 m', .int .i64 d]])) :
  L.call fA [.int .i64 (dayOf y m d), .int .i64 n, .bool e] = some (okD (qO y' m' (if e = true ∧ d = bU y m then bU y' m' else min d (bU y' m')))) := by
 have hc := U8 h
 have hla := aho h
 have his := UG (dayOf y m d)
 have hle := h.le
 rw [decide_eq_true (by omega)] at his
 have hlen := uj hy' hm1 hm2
 have hpos := OO (y := y') hm1 hm2
 have hd1 := h.d1
 generalize (if k = 0 then [D.int .i64 y', .int .i64 m', .int .i64 d] else [D.int .i64 y, .int .i64 m, .int .i64 d]) = cells at *
 generalize dayOf y m d = day at *
 have g1 : ¬ n < -3600 := by omega
 have g2 : ¬ 3600 < n := by omega
 unfold mF at hc
 by_cases hst : e = true ∧ d = bU y m
 ·rw [if_pos hst]
  have hof := UH (y := y') (d := bU y' m') hm1 hm2 (by omega) (Nat.le_refl _)
  obtain ⟨he, hdl⟩ := hst
  rw [decide_eq_true hdl] at hla
  rw [he, decide_eq_true hdl] at hl1 hl2
  subst he
  simp only [Bool.and_self] at hl1 hl2
  generalize bU y' m' = l at *
  unfold mF at hof
  refine aO lg rfl (kZ ..) ?_
  cases hmk : qO y' m' l <;> rw [hmk] at hof <;> simp [okD] at hof <;> simp [fB, his, g1, g2, hc, hla, hl1, hl2, hlen, hof, okD]
 ·rw [if_neg hst]
  have hb : (e && decide (d = bU y m)) = false := by
   cases e <;> simp_all
  rw [hb] at hl1 hl2
  by_cases hdl : bU y' m' < d
  ·have hof := UH (y := y') (d := bU y' m') hm1 hm2 (by omega) (Nat.le_refl _)
   rw [show min d (bU y' m') = bU y' m' by omega]
   have g3 : ((bU y' m' : Nat) : Int) < d := by omega
   generalize bU y' m' = l at *
   unfold mF at hof
   refine aO lg rfl (kZ ..) ?_
   cases e with
   | false => cases hmk : qO y' m' l <;> rw [hmk] at hof <;> simp [okD] at hof <;> simp [fB, his, g1, g2, hc, hl1, hl2, hlen, hdl, g3, hof, okD]
   | true =>
     have hdm : ¬ d = bU y m := fun x => hst ⟨rfl, x⟩
     rw [decide_eq_false hdm] at hla
     cases hmk : qO y' m' l <;> rw [hmk] at hof <;> simp [okD] at hof <;> simp [fB, his, g1, g2, hc, hla, hl1, hl2, hlen, hdl, g3, hof, okD]
  ·have hof := UH (y := y') (d := d) hm1 hm2 (by omega) (by omega)
   rw [show min d (bU y' m') = d by omega]
   have g3 : ¬ ((bU y' m' : Nat) : Int) < d := by omega
   generalize bU y' m' = l at *
   unfold mF at hof
   refine aO lg rfl (kZ ..) ?_
   cases e with
   | false => cases hmk : qO y' m' d <;> rw [hmk] at hof <;> simp [okD] at hof <;> simp [fB, his, g1, g2, hc, hl1, hl2, hlen, hdl, g3, hof, okD]
   | true =>
     have hdm : ¬ d = bU y m := fun x => hst ⟨rfl, x⟩
     rw [decide_eq_false hdm] at hla
     cases hmk : qO y' m' d <;> rw [hmk] at hof <;> simp [okD] at hof <;> simp [fB, his, g1, g2, hc, hla, hl1, hl2, hlen, hdl, g3, hof, okD]
theorem Ef (day n : Int) (e : Bool) : L.call fA [.int .i64 day, .int .i64 n, .bool e] = some (okD (xk day n e)) := by
 unfold xk
 by_cases hd : bQ day
 ·rw [if_pos hd]
  obtain ⟨y, m, d, hc, rfl, ho⟩ := gV hd
  rw [ho]
  unfold Jg
  by_cases hn : -3600 ≤ n ∧ n ≤ 3600
  ·rw [if_pos hn]
   have y1 := hc.y1
   have y2 := hc.y2
   have m1 := hc.m1
   have m2 := hc.m2
   simp only
   by_cases hs : 0 ≤ n
   ·obtain ⟨N, rfl⟩ : ∃ N : Nat, n = N := ⟨n.toNat, by omega⟩
    rw [show ((((y * 12 + m - 1 : Nat) : Int) + (N : Int)) / 12).toNat = (y * 12 + m - 1 + N) / 12 by omega, show ((((y * 12 + m - 1 : Nat) : Int) + (N : Int)) % 12).toNat + 1 = (y * 12 + m - 1 + N) % 12 + 1 by omega]
    have l1 := anp (st := e && decide (d = bU y m)) (d := d) N y m m1 m2 (by omega)
    have l2 := afY (st := e && decide (d = bU y m)) (d := d) 0 ((y * 12 + m - 1 + N) / 12) ((y * 12 + m - 1 + N) % 12 + 1) (by omega) (by omega) (by omega) (by omega) (by omega)
    rw [show ((y * 12 + m - 1 + N) / 12 * 12 + ((y * 12 + m - 1 + N) % 12 + 1) - 1 - 0) / 12 = (y * 12 + m - 1 + N) / 12 by omega, show ((y * 12 + m - 1 + N) / 12 * 12 + ((y * 12 + m - 1 + N) % 12 + 1) - 1 - 0) % 12 + 1 = (y * 12 + m - 1 + N) % 12 + 1 by omega] at l2
    exact alC hc hn.1 hn.2 (by omega) (by omega) (by omega) (k := 0) (by simpa using l1) (by simpa using l2)
   ·obtain ⟨N, rfl⟩ : ∃ N : Nat, n = -(N : Int) := ⟨(-n).toNat, by omega⟩
    rw [show ((((y * 12 + m - 1 : Nat) : Int) + -(N : Int)) / 12).toNat = (y * 12 + m - 1 - N) / 12 by omega, show ((((y * 12 + m - 1 : Nat) : Int) + -(N : Int)) % 12).toNat + 1 = (y * 12 + m - 1 - N) % 12 + 1 by omega]
    have l1 := anq (st := e && decide (d = bU y m)) (d := d) (cy := y) (cm := m) (n := -(N : Int)) (by omega)
    have l2 := afY (st := e && decide (d = bU y m)) (d := d) N y m m1 m2 (by omega) (by omega) (by omega)
    have hk : ¬ (-(N : Int)) = 0 := by omega
    exact alC hc hn.1 hn.2 (by omega) (by omega) (by omega) (k := -(N : Int)) (by rw [if_neg hk]; exact l1) (by rw [if_neg hk]; exact l2)
  ·rw [if_neg hn]
   have his := UG (dayOf y m d)
   have hle := hc.le
   rw [decide_eq_true (by omega)] at his
   generalize dayOf y m d = dd at *
   refine aO lg rfl (kZ ..) ?_
   by_cases h1 : n < -3600
   ·simp [fB, his, h1, okD]
   ·have h2 : 3600 < n := by omega
    simp [fB, his, h1, h2, okD]
 ·rw [if_neg hd]
  have his := UG day
  rw [decide_eq_false hd] at his
  refine aO lg rfl (kZ ..) ?_
  simp [fB, his, okD]
end Go.Ev.Code
end
section
namespace Go.Ev.Code
open Go Go.Ev
theorem JR {n k : Int} (hk : 0 < k) (hk2 : k ≤ 1000000) : Int.tmod (IntKind.i64.wrap (Int.tmod n k + k)) k = n % k := by
 have h1 : Int.tmod n k = n % k ∨ Int.tmod n k = n % k - k := by
  rw [Int.tmod_eq_emod]
  split
  ·left; omega
  ·right
   have : (k.natAbs : Int) = k := by omega
   omega
 have h2 := Int.emod_nonneg n (show k ≠ 0 by omega)
 have h3 := Int.emod_lt_of_pos n hk
 generalize n % k = r at *
 rw [wrap64 _ (by omega), Int.tmod_eq_emod_of_nonneg (by omega)]
 rcases h1 with h1 | h1
 ·rw [h1, Int.add_emod_right, Int.emod_eq_of_lt h2 h3]
 ·rw [h1, show r - k + k = r by omega, Int.emod_eq_of_lt h2 h3]
theorem OG (n : Int) : L.call jD [.int .i64 n] = some (.int .i64 (n % 109573)) := by
 have h1 : Int.tmod n 109573 = n % 109573 ∨ Int.tmod n 109573 = n % 109573 - 109573 := by
  rw [Int.tmod_eq_emod]
  split
  ·left; omega
  ·right; simp
 have h2 := Int.emod_nonneg n (show (109573 : Int) ≠ 0 by omega)
 have h3 := Int.emod_lt_of_pos n (show (0 : Int) < 109573 by omega)
 have e1 : IntKind.i64.wrap (Int.tmod n 109573) = Int.tmod n 109573 := wrap64 _ (by omega)
 have e2 : IntKind.i64.wrap (Int.tmod n 109573 + 109572) = Int.tmod n 109573 + 109572 := wrap64 _ (by omega)
 have e3 : IntKind.i64.wrap (Int.tmod n 109573 + 109572 + 1) = Int.tmod n 109573 + 109573 := by rw [wrap64 _ (by omega)]; omega
 have e4 := JR (n := n) (k := 109573) (by omega) (by omega)
 have e5 : IntKind.i64.wrap (Int.tmod n 109573 + 109573) = Int.tmod n 109573 + 109573 := wrap64 _ (by omega)
 rw [e5] at e4
 have e6 : IntKind.i64.wrap (n % 109573) = n % 109573 := wrap64 _ (by omega)
 refine aO V5 rfl (VQ ..) ?_
 simp [Le, e1, e2, e3, e4, e6]
def five (c : List UInt8) (k : Int) : aN := ⟨36524, 38351, 2, c, [49, 48, 48], k, 0, false, 0⟩
theorem LM (c : List UInt8) (k : Int) : L.call gZ [.str c, .int .i64 k] = some (bf (five c k)) := by
 refine aO Vu rfl (Vr ..) ?_
 simp [Jc, five, bf, aS]
theorem afA : TT.fn mg = none := by kernel_rfl
theorem afB : TT.jL mg = afq := by kernel_rfl
end Go.Ev.Code
end
section
namespace Go.Ev.Code
open Go Go.Ev
def mi (day : Int) : Nat := (kU day.toNat).1 * 12 + (kU day.toNat).2.1
theorem OM {y m d : Nat} (h : Au y m d) : mi (dayOf y m d : Nat) = y * 12 + m := by
 unfold mi
 rw [show ((dayOf y m d : Nat) : Int).toNat = dayOf y m d by omega, af_ h]
theorem QJ {a : Int} (h : bQ a) : 22801 ≤ mi a ∧ mi a ≤ 26400 := by
 obtain ⟨y, m, d, hc, rfl, _⟩ := gV h
 rw [OM hc]
 have := hc.y1; have := hc.y2; have := hc.m1; have := hc.m2
 omega
theorem agi {a b : Int} (ha : bQ a) (hb : bQ b) (h : mi a < mi b) : a < b := by
 obtain ⟨y, m, d, hc, rfl, _⟩ := gV ha
 obtain ⟨y', m', d', hc', rfl, _⟩ := gV hb
 rw [OM hc, OM hc'] at h
 have := TU hc hc' h
 omega
theorem NC {a b : Int} (ha : bQ a) (hb : bQ b) (h : a ≤ b) : mi a ≤ mi b := by
 rcases Nat.lt_or_ge (mi b) (mi a) with h1 | h1
 ·have := agi hb ha h1; omega
 ·exact h1
theorem Nw {day n : Int} {e : Bool} {r : Nat} (h : xk day n e = some r) : ((mi r : Nat) : Int) = mi day + n := by
 obtain ⟨y, m, d, hc, rfl, hs⟩ := TQ h
 rw [OM hc]
 exact hs
theorem Qh {day n : Int} (e : Bool) (hd : bQ day) (h1 : 22801 ≤ (mi day : Int) + n) (h2 : (mi day : Int) + n ≤ 26400) : ∃ r, xk day n e = some r := by
 have hb := QJ hd
 obtain ⟨y, m, d, hc, rfl, ho⟩ := gV hd
 rw [OM hc] at h1 h2 hb
 unfold xk Jg
 rw [if_pos hd, ho]
 rw [if_pos (by omega)]
 have a2 := hc.m1
 simp only
 unfold qO
 rw [if_pos (by omega)]
 exact ⟨_, rfl⟩
theorem apx (a b : Int) : Aj a b = (mi b : Int) - mi a := rfl
end Go.Ev.Code
end
section
namespace Go.Ev.Code
open Go Go.Ev
abbrev Er := Option (Int × Option (List UInt8))
def jc : Er → D
 | none => .aF
 | some (c, none) => yj c
 | some (c, some s) => fQ c s
def anZ : Err → Er
 | none => none
 | some (c, s) => some (c, some s)
def aaf : Er → Int
 | none => 0
 | some (c, _) => c
theorem ab3 (e : Er) (n : Nat) : D.clo n 12 (jc e) = true := by
 rcases e with _ | ⟨c, _ | s⟩ <;> rfl
theorem agv (e : Er) : L.call mg [jc e] = some (.int .i64 (aaf e)) := by
 rcases e with _ | ⟨c, _ | s⟩
 ·exact DT afA (by rw [afB]; rfl) rfl
 ·exact DT afA (by rw [afB]; rfl) rfl
 ·exact DT afA (by rw [afB]; rfl) rfl
theorem WO (e : Er) (c : Int) : L.call iW [jc e, .int .i64 c] = some (.bool (decide (aaf e = c))) := by
 have h := agv e
 have hcl := ab3 e 0
 generalize aaf e = z at *
 generalize jc e = d at *
 refine aO Vw rfl (Vs ..) ?_
 by_cases hc : z = c <;> simp [Jd, h, hc, hcl]
def aam (a b : Int) : Int :=
 360 * (((kU b.toNat).1 : Int) - (kU a.toNat).1) + 30 * (((kU b.toNat).2.1 : Int) - (kU a.toNat).2.1) + min ((kU b.toNat).2.2 : Int) 30 - min ((kU a.toNat).2.2 : Int) 30
def oD (k a b : Int) : Int := if k = 1 then aam a b else b - a
theorem Wq {k a b : Int} (ha : bQ a) (hb : bQ b) : -1000000 ≤ oD k a b ∧ oD k a b ≤ 1000000 := by
 unfold oD
 split
 ·obtain ⟨y, m, d, hc, hd, ho⟩ := gV ha
  obtain ⟨y', m', d', hc', hd', ho'⟩ := gV hb
  unfold aam
  rw [ho, ho']
  have := hc.y1; have := hc.y2; have := hc.m1; have := hc.m2; have := hc'.y1; have := hc'.y2; have := hc'.m1; have := hc'.m2
  simp only
  omega
 ·omega
theorem ae4 {k a b : Int} (h1 : 1 ≤ k) (h2 : k ≤ 4) (ha : bQ a) (hb : bQ b) : L.call yV [.int .i64 k, .int .i64 a, .int .i64 b] = some (.int .i64 (oD k a b)) := by
 have hm := Ov k
 rw [decide_eq_true ⟨h1, h2⟩] at hm
 obtain ⟨y, m, d, hc, hd, ho⟩ := gV ha
 obtain ⟨y', m', d', hc', hd', ho'⟩ := gV hb
 have c1 := qZ hc
 have c2 := qZ hc'
 rw [← hd] at c1
 rw [← hd'] at c2
 unfold mF at c1 c2
 unfold oD aam
 rw [ho, ho']
 simp only
 have a1 := hc.y1; have a2 := hc.y2; have a3 := hc.m1; have a4 := hc.m2
 have b1 := hc'.y1; have b2 := hc'.y2; have b3 := hc'.m1; have b4 := hc'.m2
 refine aO afO rfl (afG ..) ?_
 by_cases h : k = 1
 ·subst h
  have e1 : IntKind.i64.wrap ((y' : Int) - y) = (y' : Int) - y := wrap64 _ (by omega)
  have e2 : IntKind.i64.wrap (360 * ((y' : Int) - y)) = 360 * ((y' : Int) - y) := wrap64 _ (by omega)
  have e3 : IntKind.i64.wrap ((m' : Int) - m) = (m' : Int) - m := wrap64 _ (by omega)
  have e4 : IntKind.i64.wrap (30 * ((m' : Int) - m)) = 30 * ((m' : Int) - m) := wrap64 _ (by omega)
  have e5 : IntKind.i64.wrap (360 * ((y' : Int) - y) + 30 * ((m' : Int) - m)) = 360 * ((y' : Int) - y) + 30 * ((m' : Int) - m) := wrap64 _ (by omega)
  have e6 : IntKind.i64.wrap (360 * ((y' : Int) - y) + 30 * ((m' : Int) - m) + min (d' : Int) 30) = 360 * ((y' : Int) - y) + 30 * ((m' : Int) - m) + min (d' : Int) 30 := wrap64 _ (by omega)
  have e7 : IntKind.i64.wrap (360 * ((y' : Int) - y) + 30 * ((m' : Int) - m) + min (d' : Int) 30 - min (d : Int) 30) = 360 * ((y' : Int) - y) + 30 * ((m' : Int) - m) + min (d' : Int) 30 - min (d : Int) 30 := wrap64 _ (by omega)
  simp [O7, hm, c1, c2, e1, e2, e3, e4, e5, e6, e7]
 ·have e1 : IntKind.i64.wrap (b - a) = b - a := wrap64 _ (by omega)
  simp [O7, hm, c1, c2, h, e1]
theorem Yy (n : Int) : L.call uq [.int .i64 n] = some (.bool (decide (bQ n))) := by
 have h := AO n
 have h1 := @ZM n
 refine aO abD rfl (abp ..) ?_
 generalize XH n = w at *
 by_cases hd : bQ n
 ·have : 0 ≤ w := by
   have := fun h => h1.1 h hd
   omega
  simp [JD, h, hd, this]
 ·have : ¬ 0 ≤ w := by have := h1.2 hd; omega
  simp [JD, h, hd, this]
def FQ (k a b : Int) : Rat := Rat.divInt (oD k a b) (if k = 3 then 365 else 360)
def AX : Except Int Rat → D
 | .ok q => .aZ [bZ q, .aF]
 | .error c => .aZ [.aV, yj c]
theorem ae5 {k a b s e f : Int} (h1 : 1 ≤ k) (h2 : k ≤ 3) (ha : bQ a) (hb : bQ b) (hab : a ≤ b) :
  L.call sF [.int .i64 k, .int .i64 a, .int .i64 b, .int .i64 s, .int .i64 e, .int .i64 f] = some (.aZ [bZ (FQ k a b), .aF]) := by
 have hm := Ov k
 rw [decide_eq_true ⟨h1, by omega⟩] at hm
 have i1 := Yy a
 rw [decide_eq_true ha] at i1
 have i2 := Yy b
 rw [decide_eq_true hb] at i2
 have hd := ae4 h1 (by omega) ha hb
 have hbd := Wq (k := k) ha hb
 have hq : L.call h_ [.int .i64 (oD k a b), .int .i64 (if k = 3 then 365 else 360)] = some (.aZ [bZ (FQ k a b), .aF]) := by
  unfold FQ
  refine oL (by omega) ?_ ?_
  ·split <;> omega
  ·split <;> omega
 have h4 : ¬ k = 4 := by omega
 have hlt : ¬ b < a := by omega
 generalize FQ k a b = q at *
 generalize oD k a b = n at *
 refine aO afP rfl (afH ..) ?_
 by_cases h3 : k = 3
 ·subst h3
  rw [if_pos rfl] at hq
  simp [O8, hm, i1, i2, hlt, hd, hq]
 ·rw [if_neg h3] at hq
  simp [O8, hm, i1, i2, hlt, hd, hq, h3, h4]
def jo (b : aN) (st : Int) : Nat → Int → Option (List (Int × Int))
 | 0, _ => some []
 | f + 1, e => if e ≤ st then some [] else match quasi b e with
   | none => none
   | some a => (jo b st f a).map fun l => ((a : Int), e) :: l
def uQ (b : aN) (p : Int × Int) : Option (List (Int × Int)) := jo b p.1 (p.2 - p.1).toNat p.2
theorem aaY {b : aN} {day : Int} {a : Nat} (h : quasi b day = some a) : ∃ k, anch b k = some day.toNat ∧ anch b (k + 1) = some a ∧ 0 ≤ day ∧ b.issue < day := by
 unfold quasi at h
 split at h
 ·rename_i k hk
  split at h
  ·simp at h
  ·have := Rt hk
   exact ⟨k, this.2.1, h, this.2.2, by omega⟩
 ·simp at h
theorem UD {b : aN} (hm : months b ≠ 0) {day : Int} {a : Nat} (h : quasi b day = some a) : (a : Int) < day ∧ bQ a ∧ bQ day := by
 obtain ⟨k, h1, h2, h3, _⟩ := aaY h
 have := abV hm (Nat.lt_succ_self k) h1 h2
 have hd := TR h1
 exact ⟨by omega, TR h2, by rw [Int.toNat_of_nonneg h3] at hd; exact hd⟩
theorem ahi {b : aN} (hm : months b ≠ 0) {st : Int} : ∀ {f : Nat} {e : Int} {l : List (Int × Int)}, jo b st f e = some l → ∀ q ∈ l, bQ q.1 ∧ bQ q.2 ∧ q.1 < q.2 ∧ q.2 ≤ e
 | 0, e, l, h => by simp [jo] at h; subst h; simp
 | f + 1, e, l, h => by
   simp only [jo] at h
   split at h
   ·simp at h; subst h; simp
   ·split at h
    ·simp at h
    ·rename_i a ha
     have hq := UD hm ha
     cases hl : jo b st f a with
     | none => rw [hl] at h; simp at h
     | some r =>
       rw [hl] at h
       simp at h
       subst h
       intro q hmem
       rcases List.mem_cons.1 hmem with rfl | hmem
       ·exact ⟨hq.2.1, hq.2.2, hq.1, Int.le_refl _⟩
       ·have := ahi hm hl q hmem
        exact ⟨this.1, this.2.1, this.2.2.1, by omega⟩
theorem adz {b : aN} (hm : months b ≠ 0) {st : Int} : ∀ {f : Nat} {e : Int} {l : List (Int × Int)}, bQ e → jo b st f e = some l → l.length + 22800 ≤ mi e
 | 0, e, l, he, h => by
   simp [jo] at h; subst h
   have := QJ he
   simp; omega
 | f + 1, e, l, he, h => by
   have hb := QJ he
   simp only [jo] at h
   split at h
   ·simp at h; subst h; simp; omega
   ·split at h
    ·simp at h
    ·rename_i a ha
     have hq := UD hm ha
     cases hl : jo b st f a with
     | none => rw [hl] at h; simp at h
     | some r =>
       rw [hl] at h
       simp at h
       subst h
       have ih := adz hm hq.2.1 hl
       obtain ⟨k, h1, h2, h3, _⟩ := aaY ha
       unfold anch at h1 h2
       have m1 := Nw h1
       have m2 := Nw h2
       rw [Int.toNat_of_nonneg h3] at m1
       have hc := uF b
       simp only [List.length_cons]
       have : ((k + 1 : Nat) : Int) * months b = (k : Int) * months b + months b := by rw [Int.natCast_add, Int.add_mul]; simp
       have e1 : -((k + 1 : Nat) : Int) * months b = -((k : Int) * months b) - months b := by rw [Int.neg_mul, this]; omega
       have e2 : -(k : Int) * months b = -((k : Int) * months b) := Int.neg_mul ..
       rw [e1] at m2
       rw [e2] at m1
       generalize (k : Int) * months b = z at *
       omega
theorem mP (b : aN) (k n : Nat) : (aS b).all (D.clo k (n + 1)) = true := by obtain ⟨i, m, f, c, rd, n, s, e, ex⟩ := b; simp [aS]
theorem aiQ {b : aN} (hchk : chk b = none) (hc : b.d_.length ≤ 1000000) (hr : b.eH.length ≤ 1000000) (p1 p2 : Int) : ∀ (f : Nat) (e : Int) (acc : List (Int × Int)), (e - p1).toNat ≤ f → acc ≠ [] → acc.length + f ≤ 1000000 →
  (∀ l, jo b p1 f e = some l → L.loop [2, 3, 6, 7] [4, 5, 6] gK 2 [.loc 0 0, .loc 1 0, .bg 2 0 acc.length 2, .int .i64 e] [.live (aS b), .live [.int .i64 p1, .int .i64 p2], .live (bT acc)] =
   some (.exit 0, [.undef, .undef, .bg 2 0 (acc ++ l).length 2], [.live (aS b), .live [.int .i64 p1, .int .i64 p2], .live (bT (acc ++ l))])) ∧
  (jo b p1 f e = none → ∃ x m, L.loop [2, 3, 6, 7] [4, 5, 6] gK 2 [.loc 0 0, .loc 1 0, .bg 2 0 acc.length 2, .int .i64 e] [.live (aS b), .live [.int .i64 p1, .int .i64 p2], .live (bT acc)] =
   some (.ret, [.dA, yj 4, x], m)) := by
 intro f
 induction f with
 | zero =>
   intro e acc hf hne hal
   have hpc := jC acc 2 11
   have hbc := iw b 2
   have he : ¬ p1 < e := by omega
   simp only [jo]
   refine ⟨fun l hl => ?_, fun h => by simp at h⟩
   simp at hl
   subst hl
   rw [List.append_nil]
   generalize bT acc = pc at *
   generalize aS b = B at *
   refine aQ (o7 ..) ?_
   simp [mM, he, hpc, hbc]
 | succ f ih =>
   intro e acc hf hne hal
   have hpc := jC acc 2 11
   have hbc := iw b 2
   have hpl := OW acc
   simp only [jo]
   by_cases he : e ≤ p1
   ·rw [if_pos he]
    have he' : ¬ p1 < e := by omega
    refine ⟨fun l hl => ?_, fun h => by simp at h⟩
    simp at hl
    subst hl
    rw [List.append_nil]
    generalize bT acc = pc at *
    generalize aS b = B at *
    refine aQ (o7 ..) ?_
    simp [mM, he', hpc, hbc]
   ·rw [if_neg he]
    have he' : p1 < e := by omega
    have hq := FU hc hr e
    unfold ZA at hq
    rw [hchk] at hq
    simp only at hq
    cases hqe : quasi b e with
    | none =>
      simp only
      rw [hqe] at hq
      simp [kF] at hq
      refine ⟨fun l hl => by simp at hl, fun _ => ⟨.bg 2 0 acc.length 2, [.live (aS b), .live [.int .i64 p1, .int .i64 p2], .live (bT acc)], ?_⟩⟩
      unfold bf at hq
      have hbl := mQ b
      have hbd := mP b 0 10
      generalize bT acc = pc at *
      generalize aS b = B at *
      have htk : B.take 9 = B := List.take_of_length_le (by omega)
      refine aQ (o7 ..) ?_
      simp [mM, he', hpc, hbc, hbl, hbd, htk, hq]
    | some a =>
      simp only
      rw [hqe] at hq
      simp [kF] at hq
      have hlt := UD (dM hchk).2.1 hqe
      have hn := ih a (acc ++ [((a : Int), e)]) (by omega) (by simp) (by simp; omega)
      rw [ahb, show bT [((a : Int), e)] = [.int .i64 a, .int .i64 e] from rfl, List.length_append, List.length_singleton] at hn
      have htk : (bT acc).take (acc.length * 2) = bT acc := List.take_of_length_le (by omega)
      have hlen : acc.length + 1 ≤ 4294967296 := by omega
      have hstep : ∀ r, L.loop [2, 3, 6, 7] [4, 5, 6] gK 2 [.loc 0 0, .loc 1 0, .bg 2 0 (acc.length + 1) 2, .int .i64 a] [.live (aS b), .live [.int .i64 p1, .int .i64 p2], .live (bT acc ++ [.int .i64 a, .int .i64 e])] = some r →
        L.loop [2, 3, 6, 7] [4, 5, 6] gK 2 [.loc 0 0, .loc 1 0, .bg 2 0 acc.length 2, .int .i64 e] [.live (aS b), .live [.int .i64 p1, .int .i64 p2], .live (bT acc)] = some r := by
       intro r hr
       unfold bf at hq
       have hbl := mQ b
       have hbd := mP b 0 10
       generalize bT acc = pc at *
       generalize aS b = B at *
       have htkB : B.take 9 = B := List.take_of_length_le (by omega)
       generalize acc.length = A at *
       refine aQ (o7 ..) ?_
       simp [mM, he', hpc, hbc, hbl, hbd, htkB, hq, vV, htk, hlen, hpl, hr]
      refine ⟨fun l hl => ?_, fun h => ?_⟩
      ·cases hl2 : jo b p1 f a with
       | none => rw [hl2] at hl; simp at hl
       | some r =>
         rw [hl2] at hl
         simp at hl
         subst hl
         have := hn.1 r hl2
         rw [List.append_assoc] at this
         exact hstep _ this
      ·cases hl2 : jo b p1 f a with
       | some r => rw [hl2] at h; simp at h
       | none =>
         obtain ⟨x, m, hx⟩ := hn.2 hl2
         exact ⟨x, m, hstep _ hx⟩
def X5 : Option (List (Int × Int)) → D
 | some l => .aZ [fZ l, .aF]
 | none => .aZ [.sl 0 [], yj 4]
theorem ab9 {b : aN} (hchk : chk b = none) (hc : b.d_.length ≤ 1000000) (hr : b.eH.length ≤ 1000000) {p : Int × Int} (hlt : p.1 < p.2) (hle : p.2 - p.1 ≤ 900000) :
  L.call xw [bf b, pD p] = some (X5 (uQ b p)) := by
 obtain ⟨p1, p2⟩ := p
 simp only at hlt hle
 obtain ⟨f, hf⟩ : ∃ f, (p2 - p1).toNat = f + 1 := ⟨(p2 - p1).toNat - 1, by omega⟩
 have hq := FU hc hr p2
 unfold ZA at hq
 rw [hchk] at hq
 simp only at hq
 have hbc := iw b 2
 have hbl := mQ b
 have hbd := mP b 0 10
 have hnle : ¬ p2 ≤ p1 := by omega
 unfold uQ pD
 simp only
 rw [hf]
 simp only [jo]
 rw [if_neg hnle]
 cases hqe : quasi b p2 with
 | none =>
   rw [hqe] at hq
   simp [kF] at hq
   simp only [X5]
   unfold bf at hq ⊢
   generalize aS b = B at *
   have htkB : B.take 9 = B := List.take_of_length_le (by omega)
   have hl : L.loop [2, 3, 6, 7] [4, 5, 6] gK 2 [.loc 0 0, .loc 1 0, .dA, .int .i64 p2] [.live B, .live [.int .i64 p1, .int .i64 p2]] = some (.ret, [.dA, yj 4, .dA], [.live B, .live [.int .i64 p1, .int .i64 p2]]) := by
    refine aQ (o7 ..) ?_
    simp [mM, hlt, hbc, hbl, hbd, htkB, hq]
   refine aO LD rfl (Ls ..) ?_
   simp [FX, hl]
 | some a =>
   rw [hqe] at hq
   simp [kF] at hq
   simp only
   have hqlt := UD (dM hchk).2.1 hqe
   have hn := aiQ hchk hc hr p1 p2 f a [((a : Int), p2)] (by omega) (by simp) (by simp; omega)
   rw [show bT [((a : Int), p2)] = [.int .i64 a, .int .i64 p2] from rfl, List.length_singleton] at hn
   have hstep : ∀ r, L.loop [2, 3, 6, 7] [4, 5, 6] gK 2 [.loc 0 0, .loc 1 0, .bg 2 0 1 2, .int .i64 a] [.live (aS b), .live [.int .i64 p1, .int .i64 p2], .live [.int .i64 a, .int .i64 p2]] = some r →
     L.loop [2, 3, 6, 7] [4, 5, 6] gK 2 [.loc 0 0, .loc 1 0, .dA, .int .i64 p2] [.live (aS b), .live [.int .i64 p1, .int .i64 p2]] = some r := by
    intro r hr
    unfold bf at hq
    generalize aS b = B at *
    have htkB : B.take 9 = B := List.take_of_length_le (by omega)
    refine aQ (o7 ..) ?_
    simp [mM, hlt, hbc, hbl, hbd, htkB, hq, vV, hr]
   cases hl2 : jo b p1 f a with
   | none =>
     obtain ⟨x, m, hx⟩ := hn.2 hl2
     have := hstep _ hx
     simp only [X5, Option.map_none]
     unfold bf
     generalize aS b = B at *
     refine aO LD rfl (Ls ..) ?_
     simp [FX, this]
   | some r =>
     have := hstep _ (hn.1 r hl2)
     simp only [X5, Option.map_some, fZ]
     rw [show [((a : Int), p2)] ++ r = ((a : Int), p2) :: r from rfl] at this
     have hcl := jC (((a : Int), p2) :: r) 0 11
     have hlen := OW (((a : Int), p2) :: r)
     have hfz : ∀ m, jV (fz 10) (bT (((a : Int), p2) :: r)) m = some (bT (((a : Int), p2) :: r), m) := fun m => Ue _ 9 m
     have htk : (bT (((a : Int), p2) :: r)).take ((((a : Int), p2) :: r).length * 2) = bT (((a : Int), p2) :: r) := List.take_of_length_le (by omega)
     unfold bf
     generalize aS b = B at *
     generalize bT (((a : Int), p2) :: r) = pc at *
     generalize (((a : Int), p2) :: r).length = K at *
     refine aO LD rfl (Ls ..) ?_
     simp [FX, this, hcl, hfz, hlen, htk]
end Go.Ev.Code
end
section
namespace Go.Ev.Code
open Go Go.Ev
def Gs (dQ x y : Int) (q : Int × Int) : Rat := Rat.divInt (max (min y q.2 - max x q.1) 0) (dQ * (q.2 - q.1))
def sumF (dQ x y : Int) : Rat → List (Int × Int) → Rat
 | s, [] => s
 | s, q :: r => sumF dQ x y (s + Gs dQ x y q) r
abbrev D9 (f : Int) : Prop := f = 1 ∨ f = 2 ∨ f = 4 ∨ f = 12
theorem jm {b : aN} (h : months b ≠ 0) : D9 b.dQ := by
 unfold months at h
 split at h
 ·left; assumption
 ·split at h
  ·right; left; assumption
  ·split at h
   ·right; right; left; assumption
   ·split at h
    ·right; right; right; assumption
    ·simp at h
structure QOk (q : Int × Int) : Prop where
 d1 : bQ q.1
 d2 : bQ q.2
 lt : q.1 < q.2
theorem D9.mul {f a : Int} (hf : D9 f) (h1 : 1 ≤ a) (h2 : a ≤ 200000) : 1 ≤ f * a ∧ f * a ≤ 2400000 := by
 rcases hf with rfl | rfl | rfl | rfl <;> omega
theorem acy {f x y : Int} {q : Int × Int} (hf : D9 f) (hq : QOk q) : RB 64 (Gs f x y q) := by
 have h1 := hq.d1; have h2 := hq.d2; have h3 := hq.lt
 have hm := hf.mul (a := q.2 - q.1) (by omega) (by omega)
 unfold Gs
 exact lG (jd (by omega)) (jd (by omega)) (by omega)
theorem ajG {f x y : Int} (hf : D9 f) : ∀ {l : List (Int × Int)} {s : Rat} {j : Nat}, (∀ q ∈ l, QOk q) → RB j s → RB (j + 65 * l.length) (sumF f x y s l)
 | [], s, j, hl, hs => by simpa [sumF] using hs
 | q :: r, s, j, hl, hs => by
   have := ajG (x := x) (y := y) hf (l := r) (s := s + Gs f x y q) (j := j + 64 + 1) (fun q hq => hl q (List.mem_cons_of_mem _ hq)) (hs.add (acy hf (hl q (by simp))))
   simp only [sumF]
   exact this.mono (by simp; omega)
theorem amB {b : aN} (hf : D9 b.dQ) {p1 p2 x y : Int} (hx : p1 ≤ x) (hxy : x ≤ y) (hy : y ≤ p2) (d1 : bQ p1) (d2 : bQ p2) (all : List (Int × Int)) (hall : ∀ q ∈ all, QOk q) (hlen : all.length ≤ 4000) :
  ∀ (l pre : List (Int × Int)) (s : Rat) (j : Nat), all = pre ++ l → RB j s → j + 65 * l.length ≤ 600000 →
    L.loop [2, 3, 4, 14, 77, 78, 79] [14] uD 2 [.int .i64 x, .int .i64 y, .loc 0 0, bZ s, fZ all, .int .i64 all.length, .int .i64 pre.length] [.live (aS b), .live [.int .i64 p1, .int .i64 p2]] =
      some (.exit 0, [bZ (sumF b.dQ x y s l)], [.live (aS b), .live [.int .i64 p1, .int .i64 p2]]) := by
 have hbc := iw b 2
 have hpcc := jC all 2 11
 intro l
 induction l with
 | nil =>
   intro pre s j hal hs hj
   rw [List.append_nil] at hal
   subst hal
   unfold fZ
   simp only [sumF]
   generalize aS b = B at *
   generalize bT all = pc at *
   generalize all.length = n at *
   refine aQ (RU ..) ?_
   simp [JG, hbc]
 | cons q r ih =>
   intro pre s j hal hs hj
   have hq := hall q (by rw [hal]; simp)
   have hn := ih (pre ++ [q]) (s + Gs b.dQ x y q) (j + 64 + 1) (by rw [hal]; simp) (hs.add (acy hf hq)) (by simp at hj ⊢; omega)
   rw [List.length_append, List.length_singleton, show ((pre.length + 1 : Nat) : Int) = (pre.length : Int) + 1 by omega] at hn
   simp only [sumF]
   have hg := pJ (ps := all) (i := pre.length) (p := q) (by rw [hal]; simp)
   have hlt : pre.length < all.length := by rw [hal]; simp
   have a1 := hq.d1; have a2 := hq.d2; have a3 := hq.lt
   have hm := hf.mul (a := q.2 - q.1) (by omega) (by omega)
   have hadd := sU hs (acy (x := x) (y := y) hf hq) (by omega)
   have hof : L.call h_ [.int .i64 (max (min y q.2 - max x q.1) 0), .int .i64 (b.dQ * (q.2 - q.1))] = some (.aZ [bZ (Gs b.dQ x y q), .aF]) := by
    unfold Gs
    exact oL (by omega) (by omega) (by omega)
   have e1 : IntKind.i64.wrap (min y q.2 - max x q.1) = min y q.2 - max x q.1 := wrap64 _ (by omega)
   have e2 : IntKind.i64.wrap (q.2 - q.1) = q.2 - q.1 := wrap64 _ (by omega)
   have e3 : IntKind.i64.wrap (b.dQ * (q.2 - q.1)) = b.dQ * (q.2 - q.1) := wrap64 _ (by omega)
   have e4 : IntKind.i64.wrap ((pre.length : Int) + 1) = (pre.length : Int) + 1 := wrap64 _ (by omega)
   generalize sumF b.dQ x y (s + Gs b.dQ x y q) r = res at *
   generalize s + Gs b.dQ x y q = s2 at *
   generalize Gs b.dQ x y q = qq at *
   obtain ⟨q1, q2⟩ := q
   simp only at *
   unfold fZ at *
   obtain ⟨g1, g2, g3, g4⟩ := hg
   generalize bT all = pc at *
   generalize all.length = N at *
   generalize pre.length = P at *
   have hltI : (P : Int) < N := by omega
   obtain ⟨i, m, fq, c, rd, n, st, e, ex⟩ := b
   unfold aS at *
   simp only at *
   refine aQ (RU ..) ?_
   simp [JG, hlt, hltI, g1, g2, g3, g4, e1, e2, e3, e4, hof, hadd, hn]
def fV (b : aN) (p : Int × Int) (x y : Int) : Except Int Rat :=
 if b.count = 4 then match uQ b p with
  | none => .error 4
  | some l => if x < p.1 ∨ y < x ∨ p.2 < y then .error 6 else .ok (sumF b.dQ x y (Rat.divInt 0 1) l)
 else if x < p.1 ∨ y < x ∨ p.2 < y then .error 6 else .ok (FQ b.count x y)
theorem NP : RB 64 (Rat.divInt 0 1) := lG (jd (by omega)) (jd (by omega)) (by omega)
theorem jw {b : aN} (h : (aK b).1 = none) : chk b = none := (eG h).1
theorem alL {b : aN} (h : chk b = none) : 1 ≤ b.count ∧ b.count ≤ 4 := by
 unfold chk at h
 split at h <;> try (simp at h; done)
 split at h <;> try (simp at h; done)
 split at h <;> try (simp at h; done)
 split at h <;> try (simp at h; done)
 rename_i h1
 exact Classical.not_not.1 h1
theorem vS {b : aN} (hchk : chk b = none) {p : Int × Int} (d2 : bQ p.2) {l : List (Int × Int)} (h : uQ b p = some l) : (∀ q ∈ l, QOk q) ∧ l.length ≤ 3600 := by
 have hm := (dM hchk).2.1
 have hb := QJ d2
 refine ⟨fun q hq => ?_, ?_⟩
 ·have := ahi hm h q hq
  exact ⟨this.1, this.2.1, this.2.2.1⟩
 ·have := adz hm d2 h; omega
set_option maxHeartbeats 1000000 in
theorem qE {b : aN} (hp : (aK b).1 = none) (hc : b.d_.length ≤ 1000000) (hr : b.eH.length ≤ 1000000) {p : Int × Int} (d1 : bQ p.1) (d2 : bQ p.2) (hlt : p.1 < p.2) (x y : Int) :
  L.call lH [bf b, pD p, .int .i64 x, .int .i64 y] = some (AX (fV b p x y)) := by
 have hchk := jw hp
 have hpl := qw hc hr
 have hcl := jC (aK b).2 0 11
 have hqs := ab9 hchk hc hr hlt (by omega)
 have hf := jm (dM hchk).2.1
 have hcnt := alL hchk
 have hok := fun {l} h => vS (l := l) hchk d2 h
 have hz : L.call h_ [.int .i64 0, .int .i64 1] = some (.aZ [bZ (Rat.divInt 0 1), .aF]) := oL (by omega) (by omega) (by omega)
 unfold qp at hpl
 rw [hp] at hpl
 simp only [dK] at hpl
 have hloop := fun l hx hxy hy hall => amB (b := b) hf (p1 := p.1) (p2 := p.2) (x := x) (y := y) hx hxy hy d1 d2 l hall
 obtain ⟨p1, p2⟩ := p
 unfold pD at *
 simp only at *
 unfold fZ at hpl
 generalize (aK b).2.length = pn at *
 generalize bT (aK b).2 = pc at *
 unfold fV
 simp only
 have hbad : x < p1 ∨ y < x ∨ p2 < y ∨ (p1 ≤ x ∧ x ≤ y ∧ y ≤ p2) := by omega
 by_cases hk : b.count = 4
 ·rw [if_pos hk]
  cases hq : uQ b (p1, p2) with
  | none =>
    rw [hq] at hqs
    simp only [X5] at hqs
    obtain ⟨i, m, fq, c, rd, n, st, e, ex⟩ := b
    unfold bf aS at *
    simp only at *
    subst hk
    refine aO Rf rfl (Q_ ..) ?_
    simp [nO, hpl, hqs, AX]
  | some l =>
    rw [hq] at hqs
    simp only [X5] at hqs
    obtain ⟨hall, hll⟩ := hok hq
    simp only
    have hlp := fun h1 h2 h3 => hloop l h1 h2 h3 hall (by omega) l [] (Rat.divInt 0 1) 64 rfl NP (by omega)
    have hlc := jC l 0 11
    simp only [List.length_nil] at hlp
    unfold fZ at *
    generalize bT l = lc at *
    generalize l.length = ln at *
    generalize Rat.divInt 0 1 = z at *
    generalize sumF b.dQ x y z l = res at *
    obtain ⟨i, m, fq, c, rd, n, st, e, ex⟩ := b
    unfold bf aS at *
    simp only at *
    subst hk
    refine aO Rf rfl (Q_ ..) ?_
    by_cases h1 : x < p1
    ·rw [if_pos (.inl h1)]
     simp [nO, hpl, hqs, h1, bP, AX]
    by_cases h2 : y < x
    ·rw [if_pos (.inr (.inl h2))]
     simp [nO, hpl, hqs, h1, h2, bP, AX]
    by_cases h3 : p2 < y
    ·rw [if_pos (.inr (.inr h3))]
     simp [nO, hpl, hqs, h1, h2, h3, bP, AX]
    ·rw [if_neg (by omega)]
     have := hlp (by omega) (by omega) (by omega)
     simp at this
     simp [nO, hpl, hqs, h1, h2, h3, hz, this, AX]
 ·rw [if_neg hk]
  have hcp : ¬ (x < p1 ∨ y < x ∨ p2 < y) → ∀ s e f, L.call sF [.int .i64 b.count, .int .i64 x, .int .i64 y, .int .i64 s, .int .i64 e, .int .i64 f] = some (.aZ [bZ (FQ b.count x y), .aF]) :=
   fun h s e f => ae5 (by omega) (by omega) (by omega) (by omega) (by omega)
  generalize FQ b.count x y = res at *
  obtain ⟨i, m, fq, c, rd, n, st, e, ex⟩ := b
  unfold bf aS at *
  simp only at *
  refine aO Rf rfl (Q_ ..) ?_
  by_cases h1 : x < p1
  ·rw [if_pos (.inl h1)]
   simp [nO, hpl, hk, h1, bP, AX]
  by_cases h2 : y < x
  ·rw [if_pos (.inr (.inl h2))]
   simp [nO, hpl, hk, h1, h2, bP, AX]
  by_cases h3 : p2 < y
  ·rw [if_pos (.inr (.inr h3))]
   simp [nO, hpl, hk, h1, h2, h3, bP, AX]
  ·rw [if_neg (by omega)]
   have := hcp (by omega) p1 p2 fq
   simp [nO, hpl, hk, h1, h2, h3, this, AX]
theorem zB {b : aN} (hchk : chk b = none) {p : Int × Int} (d1 : bQ p.1) (d2 : bQ p.2) {x y : Int} {q : Rat} (h : fV b p x y = .ok q) {n : Nat} (hn : ∀ l, uQ b p = some l → l.length ≤ n) : RB (64 + 65 * n) q := by
 have hf := jm (dM hchk).2.1
 unfold fV at h
 split at h
 ·split at h
  ·simp at h
  ·rename_i l hl
   split at h
   ·simp at h
   ·simp at h
    subst h
    exact (ajG hf (vS hchk d2 hl).1 NP).mono (by have := hn l hl; omega)
 ·split at h
  ·simp at h
  ·rename_i hxy
   simp at h
   subst h
   unfold FQ
   have := Wq (k := b.count) (a := x) (b := y) (by omega) (by omega)
   refine (lG (k := 64) (jd (by omega)) (jd ?_) ?_).mono (by omega)
   ·split <;> omega
   ·split <;> omega
def gJ (b : aN) : Rat := En b * Rat.divInt 1 b.dQ
theorem KL (b : aN) : RB 400 (En b) := by
 unfold En
 have hq : RB 400 q0 := NP.mono (by omega)
 split
 ·exact hq
 ·split
  ·rename_i h; exact (TW h).1
  ·exact hq
theorem Eu (b : aN) : RB 400 (iU b) := by
 unfold iU
 have hq : RB 400 q0 := NP.mono (by omega)
 split
 ·exact hq
 ·split
  ·rename_i h; exact (TW h).1
  ·exact hq
theorem amf {f : Int} (hf : D9 f) : RB 64 (Rat.divInt 1 f) := lG (jd (by omega)) (jd (by omega)) (by omega)
theorem K_ {b : aN} (hf : D9 b.dQ) : RB 464 (gJ b) := (KL b).mul (amf hf)
theorem QG {b : aN} (hf : D9 b.dQ) (hc : b.d_.length ≤ 1000000) (hr : b.eH.length ≤ 1000000) : L.call qF [bf b] = some (bZ (gJ b)) := by
 have h1 := x9 hc hr
 have h2 : L.call h_ [.int .i64 1, .int .i64 b.dQ] = some (.aZ [bZ (Rat.divInt 1 b.dQ), .aF]) := oL (by omega) (by omega) (by omega)
 have h3 := wW (KL b) (amf hf) (by omega)
 unfold gJ
 generalize En b * Rat.divInt 1 b.dQ = r at *
 generalize Rat.divInt 1 b.dQ = v at *
 generalize En b = q at *
 obtain ⟨i, m, fq, c, rd, n, st, e, ex⟩ := b
 unfold bf aS at *
 simp only at *
 refine aO abG rfl (abr ..) ?_
 simp [Tm, h1, h2, h3]
def Ap (b : aN) (p : Int × Int) : Except Int Rat := if regular b p = true then .ok (gJ b) else match fV b p p.1 p.2 with
 | .ok q => .ok (En b * q)
 | .error c => .error c
theorem XZ {b : aN} (hchk : chk b = none) {p : Int × Int} (d1 : bQ p.1) (d2 : bQ p.2) {q : Rat} (h : Ap b p = .ok q) {n : Nat} (hn : ∀ l, uQ b p = some l → l.length ≤ n) : RB (464 + 65 * n) q := by
 have hf := jm (dM hchk).2.1
 unfold Ap at h
 split at h
 ·simp at h; subst h; exact (K_ hf).mono (by omega)
 ·split at h
  ·rename_i v hv
   simp at h; subst h
   exact ((KL b).mul (zB hchk d1 d2 hv hn)).mono (by omega)
  ·simp at h
theorem Kw {b : aN} (hp : (aK b).1 = none) (hc : b.d_.length ≤ 1000000) (hr : b.eH.length ≤ 1000000) {p : Int × Int} (d1 : bQ p.1) (d2 : bQ p.2) (hlt : p.1 < p.2) : L.call nX [bf b, pD p] = some (AX (Ap b p)) := by
 have hchk := jw hp
 have hf := jm (dM hchk).2.1
 have hpl := qw hc hr
 have hreg := qP hc hr p
 have hpart := qE hp hc hr d1 d2 hlt p.1 p.2
 have hrp := QG hf hc hr
 have hcp := x9 hc hr
 have hcl := jC (aK b).2 0 11
 have hmul := fun {q} h => wW (KL b) (zB hchk d1 d2 (q := q) (x := p.1) (y := p.2) h (n := 3600) (fun l hl => (vS hchk d2 hl).2)) (by omega)
 unfold qp at hpl
 rw [hp] at hpl
 simp only [dK] at hpl
 unfold fZ at hpl
 generalize (aK b).2.length = pn at *
 generalize bT (aK b).2 = pc at *
 unfold Ap
 obtain ⟨p1, p2⟩ := p
 unfold pD at *
 simp only at *
 generalize fV b (p1, p2) p1 p2 = pr at *
 generalize regular b (p1, p2) = rg at *
 generalize gJ b = rp at *
 generalize En b = cq at *
 obtain ⟨i, m, fq, c, rd, n, st, e, ex⟩ := b
 unfold bf aS at *
 simp only at *
 refine aO aj0 rfl (ajT ..) ?_
 cases rg with
 | true => simp [Nu, hpl, hreg, hrp, AX]
 | false =>
   cases pr with
   | error c => simp [AX] at hpart; simp [Nu, hpl, hreg, hpart, AX]
   | ok q =>
     have hmul := hmul rfl
     simp only [AX] at hpart
     simp [Nu, hpl, hreg, hpart, hcp, hmul, AX]
end Go.Ev.Code
end
