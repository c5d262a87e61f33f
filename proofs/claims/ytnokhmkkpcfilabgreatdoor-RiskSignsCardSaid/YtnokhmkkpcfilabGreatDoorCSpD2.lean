/- A part of the proof of priceFalls_card, riskSigns_card, yieldBack_card, yieldEdge_card, yieldFalls_card. -/
import Derived.Test.YtnokhmkkpcfilabGreatDoorCSpD1
set_option linter.unusedVariables false
set_option linter.unusedSimpArgs false
section
namespace Go.Ev.Code
open Go Go.Ev
theorem ab3 : ∀ (l : List Nat) (f : Int) (i : Nat), i < l.length → (qc f l)[i]? = some (if i = 0 then f else ((l[i - 1]?.getD 0 : Nat) : Int), ((l[i]?.getD 0 : Nat) : Int))
 | [], _, i, h => by simp at h
 | d :: ds, f, 0, h => by simp [qc]
 | d :: ds, f, i + 1, h => by
   have h' : i < ds.length := by simpa using h
   have := ab3 ds d i h'
   simp only [qc, List.getElem?_cons_succ, this, Nat.add_sub_cancel]
   cases i with
   | zero => simp
   | succ j => simp
structure Whole (b : aO) (ps : List (Int × Int)) : Prop where
 ne : ps ≠ []
 first : ∀ p : Int × Int, ps[0]? = some p → p.1 = b.issue
 last : ∀ p : Int × Int, ps[ps.length - 1]? = some p → p.2 = b.fP
 len : ps.length ≤ 200
 ord : ∀ (i : Nat) (p : Int × Int), ps[i]? = some p → p.1 < p.2
 next : ∀ (i : Nat) (p q : Int × Int), ps[i]? = some q → ps[i + 1]? = some p → p.1 = q.2 ∧ regular b p = true
 stub : b.stub = 0 → ∀ p : Int × Int, ps[0]? = some p → regular b p = true
theorem EU {b : aO} {i : Nat} (h : i < dM b) : (kE b)[i]? = some (if i = 0 then b.issue else (((anch b (dM b - i)).getD 0 : Nat) : Int), (((anch b (dM b - 1 - i)).getD 0 : Nat) : Int)) := by
 unfold kE
 have hl := Ku b (dM b)
 rw [ab3 _ _ _ (by rw [List.length_reverse, hl]; exact h)]
 have hg : ∀ j, j < dM b → (mV b (dM b)).reverse[j]? = some ((anch b (dM b - 1 - j)).getD 0) := by
  intro j hj
  rw [List.getElem?_reverse (by rw [hl]; exact hj), hl]
  simp [mV, List.getElem?_range, show dM b - 1 - j < dM b by omega]
 rw [hg i h, Option.getD_some]
 by_cases h0 : i = 0
 ·simp [h0]
 ·rw [if_neg h0, if_neg h0, hg (i - 1) (by omega), Option.getD_some, show dM b - 1 - (i - 1) = dM b - i by omega]
theorem xY {b : aO} (hchk : chk b = none) {k : Nat} (hk : k < dM b) : ∃ a, anch b k = some a ∧ b.issue < (a : Int) ∧ (k + 1 < dM b → ∃ c, anch b (k + 1) = some c ∧ c < a) := by
 have hm := (dK hchk).2.1
 obtain ⟨g1, g2, g3⟩ := Qa hm
 obtain ⟨a, ha, hai⟩ := g1 k hk
 refine ⟨a, ha, hai, fun hk2 => ?_⟩
 obtain ⟨c, hc, _⟩ := g1 (k + 1) hk2
 exact ⟨c, hc, adl hm (Nat.lt_succ_self k) ha hc⟩
theorem akE {b : aO} (hchk : chk b = none) {i : Nat} {p : Int × Int} (h : (kE b)[i]? = some p) : p.1 < p.2 ∧ b.issue < p.2 := by
 have hl : i < dM b := by rw [← Bf]; exact (List.getElem?_eq_some_iff.1 h).1
 rw [EU hl] at h
 simp at h
 subst h
 obtain ⟨a, ha, hai, hn⟩ := xY hchk (k := dM b - 1 - i) (by omega)
 simp only [ha, Option.getD_some]
 by_cases h0 : i = 0
 ·rw [if_pos h0]; exact ⟨hai, hai⟩
 ·rw [if_neg h0]
  obtain ⟨c, hc, hca⟩ := hn (by omega)
  rw [show dM b - i = dM b - 1 - i + 1 by omega, hc, Option.getD_some]
  exact ⟨by omega, hai⟩
theorem apx {b : aO} (hchk : chk b = none) {i : Nat} {p q : Int × Int} (hq : (kE b)[i]? = some q) (hp : (kE b)[i + 1]? = some p) : p.1 = q.2 ∧ regular b p = true := by
 have hl : i + 1 < dM b := by rw [← Bf]; exact (List.getElem?_eq_some_iff.1 hp).1
 rw [EU (by omega)] at hq
 rw [EU hl] at hp
 simp at hq hp
 obtain ⟨a, ha, hai, hn⟩ := xY hchk (k := dM b - 1 - (i + 1)) (by omega)
 obtain ⟨c, hc, hca⟩ := hn (by omega)
 rw [show dM b - 1 - (i + 1) + 1 = dM b - (i + 1) by omega] at hc
 subst hp
 subst hq
 refine ⟨?_, ?_⟩
 ·simp only
  rw [show dM b - 1 - i = dM b - (i + 1) by omega]
 ·simp only [ha, hc, Option.getD_some]
  exact YD hchk (k := dM b - 1 - (i + 1)) (by omega) ha ⟨c, by rw [show dM b - 1 - (i + 1) + 1 = dM b - (i + 1) by omega]; exact hc, rfl⟩
theorem aeV {b : aO} (hchk : chk b = none) (hs : b.stub = 0 → adD b = true) : Whole b (kE b) := by
 have kp := UR hchk
 have hm := (dK hchk).2.1
 obtain ⟨d1, d2, d3⟩ := Ja (dK hchk).1
 have hl := Bf b
 refine ⟨?_, ?_, ?_, ?_, ?_, ?_, ?_⟩
 ·intro h; rw [h] at hl; simp at hl; omega
 ·intro p hp
  rw [EU (by omega)] at hp
  simp at hp
  rw [← hp]
 ·intro p hp
  rw [hl, EU (by omega)] at hp
  simp at hp
  rw [← hp]
  simp only [show dM b - 1 - (dM b - 1) = 0 by omega, aem d2, Option.getD_some]
  omega
 ·have := asJ hchk; omega
 ·exact fun i p hp => (akE hchk hp).1
 ·exact fun i p q hq hp => apx hchk hq hp
 ·intro h0 p hp
  have hh := hs h0
  rw [EU (by omega)] at hp
  simp at hp
  subst hp
  obtain ⟨a, ha, hai, _⟩ := xY hchk (k := dM b - 1) (by omega)
  simp only [Nat.sub_zero, ha, Option.getD_some]
  refine YD hchk (k := dM b - 1) (by omega) ha ?_
  rw [show dM b - 1 + 1 = dM b by omega]
  unfold adD at hh
  cases hk : anch b (dM b) with
  | none => rw [hk] at hh; simp at hh
  | some c => rw [hk] at hh; exact ⟨c, rfl, by simpa using hh⟩
theorem gK {b : aO} (h : (aV b).1 = none) : chk b = none ∧ Whole b (aV b).2 := by
 unfold aV at h ⊢
 cases hchk : chk b with
 | some e => rw [hchk] at h; simp at h
 | none =>
   rw [hchk] at h
   simp only at h ⊢
   refine ⟨trivial, ?_⟩
   by_cases hh : adD b = true
   ·rw [if_pos hh]; exact aeV hchk fun _ => hh
   ·rw [if_neg hh] at h ⊢
    by_cases h0 : b.stub = 0
    ·rw [if_pos h0] at h; simp at h
    ·rw [if_neg h0] at h ⊢
     have hw := aeV hchk fun h => absurd h h0
     by_cases h2 : b.stub = 2
     ·rw [if_pos h2]
      split
      ·rename_i p q r hr
       rw [hr] at hw
       have hq := akE hchk (i := 1) (p := q) (by rw [hr]; rfl)
       refine ⟨by simp, ?_, ?_, ?_, ?_, ?_, fun h => absurd h h0⟩
       ·intro x hx; simp at hx; rw [← hx]
       ·intro x hx
        have hl := hw.last
        cases r with
        | nil => simp at hx hl; rw [← hx]; exact hl
        | cons y ys =>
          refine hl x ?_
          simp at hx ⊢
          exact hx
       ·have := hw.len; simp at this ⊢; omega
       ·intro i x hx
        cases i with
        | zero => simp at hx; rw [← hx]; exact hq.2
        | succ j => exact hw.ord (j + 2) x (by simpa using hx)
       ·intro i x y hy hx
        cases i with
        | zero =>
          simp at hy
          have := hw.next 1 x q (by simp) (by simpa using hx)
          rw [← hy]; exact this
        | succ j => exact hw.next (j + 2) x y (by simpa using hy) (by simpa using hx)
      ·exact hw
     ·rw [if_neg h2]; exact hw
theorem yF : ∀ {ps : List (Int × Int)} {i : Nat} {p : Int × Int}, ps[i]? = some p → (cu ps)[i * 2]? = some (.int .i64 p.1) ∧ (cu ps)[i * 2 + 1]? = some (.int .i64 p.2) ∧ i * 2 + 2 ≤ (cu ps).length ∧ ((cu ps).drop (i * 2)).take 2 = [.int .i64 p.1, .int .i64 p.2]
 | [], i, p, h => by simp at h
 | (a, b) :: ps, 0, p, h => by simp at h; subst h; simp [cu]
 | (a, b) :: ps, i + 1, p, h => by
   obtain ⟨h1, h2, h3, h4⟩ := yF (ps := ps) (i := i) (p := p) (by simpa using h)
   have e1 : (i + 1) * 2 = i * 2 + 1 + 1 := by omega
   have e2 : (i + 1) * 2 + 1 = i * 2 + 1 + 1 + 1 := by omega
   rw [e1]
   refine ⟨by simpa [cu] using h1, by simpa [cu] using h2, by simp [cu]; omega, by simpa [cu] using h4⟩
theorem g_ (b : aO) (k : Nat) : (aN b).all (D.clo k 12) = true := by obtain ⟨i, m, f, c, rd, n, s, e, ex⟩ := b; simp [aN]
theorem l7 (b : aO) : (aN b).length = 9 := rfl
end Go.Ev.Code
end
section
namespace Go.Ev.Code
open Go Go.Ev
theorem aoU (y : Nat) : fJ y 12 ≤ 366 ∧ 365 ≤ fJ y 12 := by rw [alg]; split <;> omega
end Go.Ev.Code
end
section
namespace Go.Ev.Code
open Go Go.Ev
end Go.Ev.Code
end
section
namespace Go.Ev.Code
open Go Go.Ev
end Go.Ev.Code
end
section
namespace Go.Ev.Code
open Go Go.Ev
theorem aiQ {n k : Int} (hk : 0 < k) (hk2 : k ≤ 1000000) : Int.tmod (IntKind.i64.wrap (Int.tmod n k + k)) k = n % k := by
 have h1 : Int.tmod n k = n % k ∨ Int.tmod n k = n % k - k := by
  rw [Int.tmod_eq_emod]
  split
  ·left; omega
  ·right
   have : (k.natAbs : Int) = k := by omega
   omega
 have h2 := Int.emod_nonneg n (show k ≠ 0 by omega)
 have h3 := Int.emod_lt_of_pos n hk
 generalize n % k = r at *
 rw [wrap64 _ (by omega), Int.tmod_eq_emod_of_nonneg (by omega)]
 rcases h1 with h1 | h1
 ·rw [h1, Int.add_emod_right, Int.emod_eq_of_lt h2 h3]
 ·rw [h1, show r - k + k = r by omega, Int.emod_eq_of_lt h2 h3]
theorem agO : TT.fn iG = none := by kernel_rfl
theorem agP : TT.jZ iG = agE := by kernel_rfl
end Go.Ev.Code
end
section
namespace Go.Ev.Code
open Go Go.Ev
def mi (day : Int) : Nat := (kL day.toNat).1 * 12 + (kL day.toNat).2.1
theorem JH {y m d : Nat} (h : Io y m d) : mi (dayOf y m d : Nat) = y * 12 + m := by
 unfold mi
 rw [show ((dayOf y m d : Nat) : Int).toNat = dayOf y m d by omega, ahi h]
theorem Y9 {a : Int} (h : bU a) : 22801 ≤ mi a ∧ mi a ≤ 26400 := by
 obtain ⟨y, m, d, hc, rfl, _⟩ := ig h
 rw [JH hc]
 have := hc.y1; have := hc.y2; have := hc.m1; have := hc.m2
 omega
theorem am2 {a b : Int} (ha : bU a) (hb : bU b) (h : mi a < mi b) : a < b := by
 obtain ⟨y, m, d, hc, rfl, _⟩ := ig ha
 obtain ⟨y', m', d', hc', rfl, _⟩ := ig hb
 rw [JH hc, JH hc'] at h
 have := Vt hc hc' h
 omega
theorem Y_ {a b : Int} (ha : bU a) (hb : bU b) (h : a ≤ b) : mi a ≤ mi b := by
 rcases Nat.lt_or_ge (mi b) (mi a) with h1 | h1
 ·have := am2 hb ha h1; omega
 ·exact h1
theorem YW {day n : Int} {e : Bool} {r : Nat} (h : yY day n e = some r) : ((mi r : Nat) : Int) = mi day + n := by
 obtain ⟨y, m, d, hc, rfl, hs⟩ := Vr h
 rw [JH hc]
 exact hs
theorem amE {day n : Int} (e : Bool) (hd : bU day) (h1 : 22801 ≤ (mi day : Int) + n) (h2 : (mi day : Int) + n ≤ 26400) : ∃ r, yY day n e = some r := by
 have hb := Y9 hd
 obtain ⟨y, m, d, hc, rfl, ho⟩ := ig hd
 rw [JH hc] at h1 h2 hb
 unfold yY Nz
 rw [if_pos hd, ho]
 rw [if_pos (by omega)]
 have a2 := hc.m1
 simp only
 unfold Hg
 rw [if_pos (by omega)]
 exact ⟨_, rfl⟩
end Go.Ev.Code
end
section
namespace Go.Ev.Code
open Go Go.Ev
abbrev Er := Option (Int × Option (List UInt8))
def dS : Er → D
 | none => .aF
 | some (c, none) => wR c
 | some (c, some s) => eH c s
def ao3 : Err → Er
 | none => none
 | some (c, s) => some (c, some s)
def Ob : Er → Int
 | none => 0
 | some (c, _) => c
theorem UK (e : Er) (n : Nat) : D.clo n 12 (dS e) = true := by
 rcases e with _ | ⟨c, _ | s⟩ <;> rfl
theorem vJ (e : Er) : L.call iG [dS e] = some (.int .i64 (Ob e)) := by
 rcases e with _ | ⟨c, _ | s⟩
 ·exact ES agO (by rw [agP]; rfl) rfl
 ·exact ES agO (by rw [agP]; rfl) rfl
 ·exact ES agO (by rw [agP]; rfl) rfl
theorem Qc (e : Er) (c : Int) : L.call iR [dS e, .int .i64 c] = some (.bool (decide (Ob e = c))) := by
 have h := vJ e
 have hcl := UK e 0
 generalize Ob e = z at *
 generalize dS e = d at *
 refine aJ Xj rfl (Xh ..) ?_
 by_cases hc : z = c <;> simp [Kr, h, hc, hcl]
def XV (a b : Int) : Int :=
 360 * (((kL b.toNat).1 : Int) - (kL a.toNat).1) + 30 * (((kL b.toNat).2.1 : Int) - (kL a.toNat).2.1) + min ((kL b.toNat).2.2 : Int) 30 - min ((kL a.toNat).2.2 : Int) 30
def kG (k a b : Int) : Int := if k = 1 then XV a b else b - a
theorem XT {k a b : Int} (ha : bU a) (hb : bU b) : -1000000 ≤ kG k a b ∧ kG k a b ≤ 1000000 := by
 unfold kG
 split
 ·obtain ⟨y, m, d, hc, hd, ho⟩ := ig ha
  obtain ⟨y', m', d', hc', hd', ho'⟩ := ig hb
  unfold XV
  rw [ho, ho']
  have := hc.y1; have := hc.y2; have := hc.m1; have := hc.m2; have := hc'.y1; have := hc'.y2; have := hc'.m1; have := hc'.m2
  simp only
  omega
 ·omega
theorem agi {k a b : Int} (h1 : 1 ≤ k) (h2 : k ≤ 4) (ha : bU a) (hb : bU b) : L.call zJ [.int .i64 k, .int .i64 a, .int .i64 b] = some (.int .i64 (kG k a b)) := by
 have hm := PX k
 rw [decide_eq_true ⟨h1, h2⟩] at hm
 obtain ⟨y, m, d, hc, hd, ho⟩ := ig ha
 obtain ⟨y', m', d', hc', hd', ho'⟩ := ig hb
 have c1 := rV hc
 have c2 := rV hc'
 rw [← hd] at c1
 rw [← hd'] at c2
 unfold zI at c1 c2
 unfold kG XV
 rw [ho, ho']
 simp only
 have a1 := hc.y1; have a2 := hc.y2; have a3 := hc.m1; have a4 := hc.m2
 have b1 := hc'.y1; have b2 := hc'.y2; have b3 := hc'.m1; have b4 := hc'.m2
 refine aJ ag2 rfl (agU ..) ?_
 by_cases h : k = 1
 ·subst h
  have e1 : IntKind.i64.wrap ((y' : Int) - y) = (y' : Int) - y := wrap64 _ (by omega)
  have e2 : IntKind.i64.wrap (360 * ((y' : Int) - y)) = 360 * ((y' : Int) - y) := wrap64 _ (by omega)
  have e3 : IntKind.i64.wrap ((m' : Int) - m) = (m' : Int) - m := wrap64 _ (by omega)
  have e4 : IntKind.i64.wrap (30 * ((m' : Int) - m)) = 30 * ((m' : Int) - m) := wrap64 _ (by omega)
  have e5 : IntKind.i64.wrap (360 * ((y' : Int) - y) + 30 * ((m' : Int) - m)) = 360 * ((y' : Int) - y) + 30 * ((m' : Int) - m) := wrap64 _ (by omega)
  have e6 : IntKind.i64.wrap (360 * ((y' : Int) - y) + 30 * ((m' : Int) - m) + min (d' : Int) 30) = 360 * ((y' : Int) - y) + 30 * ((m' : Int) - m) + min (d' : Int) 30 := wrap64 _ (by omega)
  have e7 : IntKind.i64.wrap (360 * ((y' : Int) - y) + 30 * ((m' : Int) - m) + min (d' : Int) 30 - min (d : Int) 30) = 360 * ((y' : Int) - y) + 30 * ((m' : Int) - m) + min (d' : Int) 30 - min (d : Int) 30 := wrap64 _ (by omega)
  simp [QB, hm, c1, c2, e1, e2, e3, e4, e5, e6, e7]
 ·have e1 : IntKind.i64.wrap (b - a) = b - a := wrap64 _ (by omega)
  simp [QB, hm, c1, c2, h, e1]
theorem ZN (n : Int) : L.call vF [.int .i64 n] = some (.bool (decide (bU n))) := by
 have h := BK n
 have h1 := @aa' n
 refine aJ ac4 rfl (acR ..) ?_
 generalize YS n = w at *
 by_cases hd : bU n
 ·have : 0 ≤ w := by
   have := fun h => h1.1 h hd
   omega
  simp [KT, h, hd, this]
 ·have : ¬ 0 ≤ w := by have := h1.2 hd; omega
  simp [KT, h, hd, this]
def OA (k a b : Int) : Rat := Rat.divInt (kG k a b) (if k = 3 then 365 else 360)
def Fb : Except Int Rat → D
 | .ok q => .aZ [bF q, .aF]
 | .error c => .aZ [.aK, wR c]
theorem agj {k a b s e f : Int} (h1 : 1 ≤ k) (h2 : k ≤ 3) (ha : bU a) (hb : bU b) (hab : a ≤ b) :
  L.call tY [.int .i64 k, .int .i64 a, .int .i64 b, .int .i64 s, .int .i64 e, .int .i64 f] = some (.aZ [bF (OA k a b), .aF]) := by
 have hm := PX k
 rw [decide_eq_true ⟨h1, by omega⟩] at hm
 have i1 := ZN a
 rw [decide_eq_true ha] at i1
 have i2 := ZN b
 rw [decide_eq_true hb] at i2
 have hd := agi h1 (by omega) ha hb
 have hbd := XT (k := k) ha hb
 have hq : L.call jQ [.int .i64 (kG k a b), .int .i64 (if k = 3 then 365 else 360)] = some (.aZ [bF (OA k a b), .aF]) := by
  unfold OA
  refine ru (by omega) ?_ ?_
  ·split <;> omega
  ·split <;> omega
 have h4 : ¬ k = 4 := by omega
 have hlt : ¬ b < a := by omega
 generalize OA k a b = q at *
 generalize kG k a b = n at *
 refine aJ ag3 rfl (agV ..) ?_
 by_cases h3 : k = 3
 ·subst h3
  rw [if_pos rfl] at hq
  simp [QC, hm, i1, i2, hlt, hd, hq]
 ·rw [if_neg h3] at hq
  simp [QC, hm, i1, i2, hlt, hd, hq, h3, h4]
def mF (b : aO) (st : Int) : Nat → Int → Option (List (Int × Int))
 | 0, _ => some []
 | f + 1, e => if e ≤ st then some [] else match quasi b e with
   | none => none
   | some a => (mF b st f a).map fun l => ((a : Int), e) :: l
def Di (b : aO) (p : Int × Int) : Option (List (Int × Int)) := mF b p.1 (p.2 - p.1).toNat p.2
theorem acg {b : aO} {day : Int} {a : Nat} (h : quasi b day = some a) : ∃ k, anch b k = some day.toNat ∧ anch b (k + 1) = some a ∧ 0 ≤ day ∧ b.issue < day := by
 unfold quasi at h
 split at h
 ·rename_i k hk
  split at h
  ·simp at h
  ·have := T_ hk
   exact ⟨k, this.2.1, h, this.2.2, by omega⟩
 ·simp at h
theorem V9 {b : aO} (hm : months b ≠ 0) {day : Int} {a : Nat} (h : quasi b day = some a) : (a : Int) < day ∧ bU a ∧ bU day := by
 obtain ⟨k, h1, h2, h3, _⟩ := acg h
 have := adl hm (Nat.lt_succ_self k) h1 h2
 have hd := aak h1
 exact ⟨by omega, aak h2, by rw [Int.toNat_of_nonneg h3] at hd; exact hd⟩
theorem ais {b : aO} (hm : months b ≠ 0) {st : Int} : ∀ {f : Nat} {e : Int} {l : List (Int × Int)}, mF b st f e = some l → ∀ q ∈ l, bU q.1 ∧ bU q.2 ∧ q.1 < q.2 ∧ q.2 ≤ e
 | 0, e, l, h => by simp [mF] at h; subst h; simp
 | f + 1, e, l, h => by
   simp only [mF] at h
   split at h
   ·simp at h; subst h; simp
   ·split at h
    ·simp at h
    ·rename_i a ha
     have hq := V9 hm ha
     cases hl : mF b st f a with
     | none => rw [hl] at h; simp at h
     | some r =>
       rw [hl] at h
       simp at h
       subst h
       intro q hmem
       rcases List.mem_cons.1 hmem with rfl | hmem
       ·exact ⟨hq.2.1, hq.2.2, hq.1, Int.le_refl _⟩
       ·have := ais hm hl q hmem
        exact ⟨this.1, this.2.1, this.2.2.1, by omega⟩
theorem aeT {b : aO} (hm : months b ≠ 0) {st : Int} : ∀ {f : Nat} {e : Int} {l : List (Int × Int)}, bU e → mF b st f e = some l → l.length + 22800 ≤ mi e
 | 0, e, l, he, h => by
   simp [mF] at h; subst h
   have := Y9 he
   simp; omega
 | f + 1, e, l, he, h => by
   have hb := Y9 he
   simp only [mF] at h
   split at h
   ·simp at h; subst h; simp; omega
   ·split at h
    ·simp at h
    ·rename_i a ha
     have hq := V9 hm ha
     cases hl : mF b st f a with
     | none => rw [hl] at h; simp at h
     | some r =>
       rw [hl] at h
       simp at h
       subst h
       have ih := aeT hm hq.2.1 hl
       obtain ⟨k, h1, h2, h3, _⟩ := acg ha
       unfold anch at h1 h2
       have m1 := YW h1
       have m2 := YW h2
       rw [Int.toNat_of_nonneg h3] at m1
       have hc := vO b
       simp only [List.length_cons]
       have : ((k + 1 : Nat) : Int) * months b = (k : Int) * months b + months b := by rw [Int.natCast_add, Int.add_mul]; simp
       have e1 : -((k + 1 : Nat) : Int) * months b = -((k : Int) * months b) - months b := by rw [Int.neg_mul, this]; omega
       have e2 : -(k : Int) * months b = -((k : Int) * months b) := Int.neg_mul ..
       rw [e1] at m2
       rw [e2] at m1
       generalize (k : Int) * months b = z at *
       omega
theorem lZ (b : aO) (k n : Nat) : (aN b).all (D.clo k (n + 1)) = true := by obtain ⟨i, m, f, c, rd, n, s, e, ex⟩ := b; simp [aN]
theorem aj0 {b : aO} (hchk : chk b = none) (hc : b.dX.length ≤ 1000000) (hr : b.dY.length ≤ 1000000) (p1 p2 : Int) : ∀ (f : Nat) (e : Int) (acc : List (Int × Int)), (e - p1).toNat ≤ f → acc ≠ [] → acc.length + f ≤ 1000000 →
  (∀ l, mF b p1 f e = some l → L.loop [2, 3, 6, 7] [4, 5, 6] iC 2 [.loc 0 0, .loc 1 0, .bg 2 0 acc.length 2, .int .i64 e] [.live (aN b), .live [.int .i64 p1, .int .i64 p2], .live (cu acc)] =
   some (.exit 0, [.undef, .undef, .bg 2 0 (acc ++ l).length 2], [.live (aN b), .live [.int .i64 p1, .int .i64 p2], .live (cu (acc ++ l))])) ∧
  (mF b p1 f e = none → ∃ x m, L.loop [2, 3, 6, 7] [4, 5, 6] iC 2 [.loc 0 0, .loc 1 0, .bg 2 0 acc.length 2, .int .i64 e] [.live (aN b), .live [.int .i64 p1, .int .i64 p2], .live (cu acc)] =
   some (.ret, [.dA, wR 4, x], m)) := by
 intro f
 induction f with
 | zero =>
   intro e acc hf hne hal
   have hpc := jI acc 2 11
   have hbc := g_ b 2
   have he : ¬ p1 < e := by omega
   simp only [mF]
   refine ⟨fun l hl => ?_, fun h => by simp at h⟩
   simp at hl
   subst hl
   rw [List.append_nil]
   generalize cu acc = pc at *
   generalize aN b = B at *
   refine aQ (qh ..) ?_
   simp [m_, he, hpc, hbc]
 | succ f ih =>
   intro e acc hf hne hal
   have hpc := jI acc 2 11
   have hbc := g_ b 2
   have hpl := Qo acc
   simp only [mF]
   by_cases he : e ≤ p1
   ·rw [if_pos he]
    have he' : ¬ p1 < e := by omega
    refine ⟨fun l hl => ?_, fun h => by simp at h⟩
    simp at hl
    subst hl
    rw [List.append_nil]
    generalize cu acc = pc at *
    generalize aN b = B at *
    refine aQ (qh ..) ?_
    simp [m_, he', hpc, hbc]
   ·rw [if_neg he]
    have he' : p1 < e := by omega
    have hq := Hl hc hr e
    unfold aaZ at hq
    rw [hchk] at hq
    simp only at hq
    cases hqe : quasi b e with
    | none =>
      simp only
      rw [hqe] at hq
      simp [kU] at hq
      refine ⟨fun l hl => by simp at hl, fun _ => ⟨.bg 2 0 acc.length 2, [.live (aN b), .live [.int .i64 p1, .int .i64 p2], .live (cu acc)], ?_⟩⟩
      unfold aS at hq
      have hbl := l7 b
      have hbd := lZ b 0 10
      generalize cu acc = pc at *
      generalize aN b = B at *
      have htk : B.take 9 = B := List.take_of_length_le (by omega)
      refine aQ (qh ..) ?_
      simp [m_, he', hpc, hbc, hbl, hbd, htk, hq]
    | some a =>
      simp only
      rw [hqe] at hq
      simp [kU] at hq
      have hlt := V9 (dK hchk).2.1 hqe
      have hn := ih a (acc ++ [((a : Int), e)]) (by omega) (by simp) (by simp; omega)
      rw [ain, show cu [((a : Int), e)] = [.int .i64 a, .int .i64 e] from rfl, List.length_append, List.length_singleton] at hn
      have htk : (cu acc).take (acc.length * 2) = cu acc := List.take_of_length_le (by omega)
      have hlen : acc.length + 1 ≤ 4294967296 := by omega
      have hstep : ∀ r, L.loop [2, 3, 6, 7] [4, 5, 6] iC 2 [.loc 0 0, .loc 1 0, .bg 2 0 (acc.length + 1) 2, .int .i64 a] [.live (aN b), .live [.int .i64 p1, .int .i64 p2], .live (cu acc ++ [.int .i64 a, .int .i64 e])] = some r →
        L.loop [2, 3, 6, 7] [4, 5, 6] iC 2 [.loc 0 0, .loc 1 0, .bg 2 0 acc.length 2, .int .i64 e] [.live (aN b), .live [.int .i64 p1, .int .i64 p2], .live (cu acc)] = some r := by
       intro r hr
       unfold aS at hq
       have hbl := l7 b
       have hbd := lZ b 0 10
       generalize cu acc = pc at *
       generalize aN b = B at *
       have htkB : B.take 9 = B := List.take_of_length_le (by omega)
       generalize acc.length = A at *
       refine aQ (qh ..) ?_
       simp [m_, he', hpc, hbc, hbl, hbd, htkB, hq, xk, htk, hlen, hpl, hr]
      refine ⟨fun l hl => ?_, fun h => ?_⟩
      ·cases hl2 : mF b p1 f a with
       | none => rw [hl2] at hl; simp at hl
       | some r =>
         rw [hl2] at hl
         simp at hl
         subst hl
         have := hn.1 r hl2
         rw [List.append_assoc] at this
         exact hstep _ this
      ·cases hl2 : mF b p1 f a with
       | some r => rw [hl2] at h; simp at h
       | none =>
         obtain ⟨x, m, hx⟩ := hn.2 hl2
         exact ⟨x, m, hstep _ hx⟩
def Zd : Option (List (Int × Int)) → D
 | some l => .aZ [jd l, .aF]
 | none => .aZ [.sl 0 [], wR 4]
theorem adz {b : aO} (hchk : chk b = none) (hc : b.dX.length ≤ 1000000) (hr : b.dY.length ≤ 1000000) {p : Int × Int} (hlt : p.1 < p.2) (hle : p.2 - p.1 ≤ 900000) :
  L.call yA [aS b, pD p] = some (Zd (Di b p)) := by
 obtain ⟨p1, p2⟩ := p
 simp only at hlt hle
 obtain ⟨f, hf⟩ : ∃ f, (p2 - p1).toNat = f + 1 := ⟨(p2 - p1).toNat - 1, by omega⟩
 have hq := Hl hc hr p2
 unfold aaZ at hq
 rw [hchk] at hq
 simp only at hq
 have hbc := g_ b 2
 have hbl := l7 b
 have hbd := lZ b 0 10
 have hnle : ¬ p2 ≤ p1 := by omega
 unfold Di pD
 simp only
 rw [hf]
 simp only [mF]
 rw [if_neg hnle]
 cases hqe : quasi b p2 with
 | none =>
   rw [hqe] at hq
   simp [kU] at hq
   simp only [Zd]
   unfold aS at hq ⊢
   generalize aN b = B at *
   have htkB : B.take 9 = B := List.take_of_length_le (by omega)
   have hl : L.loop [2, 3, 6, 7] [4, 5, 6] iC 2 [.loc 0 0, .loc 1 0, .dA, .int .i64 p2] [.live B, .live [.int .i64 p1, .int .i64 p2]] = some (.ret, [.dA, wR 4, .dA], [.live B, .live [.int .i64 p1, .int .i64 p2]]) := by
    refine aQ (qh ..) ?_
    simp [m_, hlt, hbc, hbl, hbd, htkB, hq]
   refine aJ Nv rfl (Nq ..) ?_
   simp [Hr, hl]
 | some a =>
   rw [hqe] at hq
   simp [kU] at hq
   simp only
   have hqlt := V9 (dK hchk).2.1 hqe
   have hn := aj0 hchk hc hr p1 p2 f a [((a : Int), p2)] (by omega) (by simp) (by simp; omega)
   rw [show cu [((a : Int), p2)] = [.int .i64 a, .int .i64 p2] from rfl, List.length_singleton] at hn
   have hstep : ∀ r, L.loop [2, 3, 6, 7] [4, 5, 6] iC 2 [.loc 0 0, .loc 1 0, .bg 2 0 1 2, .int .i64 a] [.live (aN b), .live [.int .i64 p1, .int .i64 p2], .live [.int .i64 a, .int .i64 p2]] = some r →
     L.loop [2, 3, 6, 7] [4, 5, 6] iC 2 [.loc 0 0, .loc 1 0, .dA, .int .i64 p2] [.live (aN b), .live [.int .i64 p1, .int .i64 p2]] = some r := by
    intro r hr
    unfold aS at hq
    generalize aN b = B at *
    have htkB : B.take 9 = B := List.take_of_length_le (by omega)
    refine aQ (qh ..) ?_
    simp [m_, hlt, hbc, hbl, hbd, htkB, hq, xk, hr]
   cases hl2 : mF b p1 f a with
   | none =>
     obtain ⟨x, m, hx⟩ := hn.2 hl2
     have := hstep _ hx
     simp only [Zd, Option.map_none]
     unfold aS
     generalize aN b = B at *
     refine aJ Nv rfl (Nq ..) ?_
     simp [Hr, this]
   | some r =>
     have := hstep _ (hn.1 r hl2)
     simp only [Zd, Option.map_some, jd]
     rw [show [((a : Int), p2)] ++ r = ((a : Int), p2) :: r from rfl] at this
     have hcl := jI (((a : Int), p2) :: r) 0 11
     have hlen := Qo (((a : Int), p2) :: r)
     have hfz : ∀ m, jV (fz 10) (cu (((a : Int), p2) :: r)) m = some (cu (((a : Int), p2) :: r), m) := fun m => VE _ 9 m
     have htk : (cu (((a : Int), p2) :: r)).take ((((a : Int), p2) :: r).length * 2) = cu (((a : Int), p2) :: r) := List.take_of_length_le (by omega)
     unfold aS
     generalize aN b = B at *
     generalize cu (((a : Int), p2) :: r) = pc at *
     generalize (((a : Int), p2) :: r).length = K at *
     refine aJ Nv rfl (Nq ..) ?_
     simp [Hr, this, hcl, hfz, hlen, htk]
end Go.Ev.Code
end
section
namespace Go.Ev.Code
open Go Go.Ev
def FD (eU x y : Int) (q : Int × Int) : Rat := Rat.divInt (max (min y q.2 - max x q.1) 0) (eU * (q.2 - q.1))
def sumF (eU x y : Int) : Rat → List (Int × Int) → Rat
 | s, [] => s
 | s, q :: r => sumF eU x y (s + FD eU x y q) r
abbrev yT (f : Int) : Prop := f = 1 ∨ f = 2 ∨ f = 4 ∨ f = 12
theorem fU {b : aO} (h : months b ≠ 0) : yT b.eU := by
 unfold months at h
 split at h
 ·left; assumption
 ·split at h
  ·right; left; assumption
  ·split at h
   ·right; right; left; assumption
   ·split at h
    ·right; right; right; assumption
    ·simp at h
structure QOk (q : Int × Int) : Prop where
 d1 : bU q.1
 d2 : bU q.2
 lt : q.1 < q.2
theorem yT.mul {f a : Int} (hf : yT f) (h1 : 1 ≤ a) (h2 : a ≤ 200000) : 1 ≤ f * a ∧ f * a ≤ 2400000 := by
 rcases hf with rfl | rfl | rfl | rfl <;> omega
theorem adN {f x y : Int} {q : Int × Int} (hf : yT f) (hq : QOk q) : RB 64 (FD f x y q) := by
 have h1 := hq.d1; have h2 := hq.d2; have h3 := hq.lt
 have hm := hf.mul (a := q.2 - q.1) (by omega) (by omega)
 unfold FD
 exact iH (eF (by omega)) (eF (by omega)) (by omega)
theorem akL {f x y : Int} (hf : yT f) : ∀ {l : List (Int × Int)} {s : Rat} {j : Nat}, (∀ q ∈ l, QOk q) → RB j s → RB (j + 65 * l.length) (sumF f x y s l)
 | [], s, j, hl, hs => by simpa [sumF] using hs
 | q :: r, s, j, hl, hs => by
   have := akL (x := x) (y := y) hf (l := r) (s := s + FD f x y q) (j := j + 64 + 1) (fun q hq => hl q (List.mem_cons_of_mem _ hq)) (hs.add (adN hf (hl q (by simp))))
   simp only [sumF]
   exact this.mono (by simp; omega)
theorem anF {b : aO} (hf : yT b.eU) {p1 p2 x y : Int} (hx : p1 ≤ x) (hxy : x ≤ y) (hy : y ≤ p2) (d1 : bU p1) (d2 : bU p2) (all : List (Int × Int)) (hall : ∀ q ∈ all, QOk q) (hlen : all.length ≤ 4000) :
  ∀ (l pre : List (Int × Int)) (s : Rat) (j : Nat), all = pre ++ l → RB j s → j + 65 * l.length ≤ 600000 →
    L.loop [2, 3, 4, 14, 77, 78, 79] [14] vM 2 [.int .i64 x, .int .i64 y, .loc 0 0, bF s, jd all, .int .i64 all.length, .int .i64 pre.length] [.live (aN b), .live [.int .i64 p1, .int .i64 p2]] =
      some (.exit 0, [bF (sumF b.eU x y s l)], [.live (aN b), .live [.int .i64 p1, .int .i64 p2]]) := by
 have hbc := g_ b 2
 have hpcc := jI all 2 11
 intro l
 induction l with
 | nil =>
   intro pre s j hal hs hj
   rw [List.append_nil] at hal
   subst hal
   unfold jd
   simp only [sumF]
   generalize aN b = B at *
   generalize cu all = pc at *
   generalize all.length = n at *
   refine aQ (Us ..) ?_
   simp [KX, hbc]
 | cons q r ih =>
   intro pre s j hal hs hj
   have hq := hall q (by rw [hal]; simp)
   have hn := ih (pre ++ [q]) (s + FD b.eU x y q) (j + 64 + 1) (by rw [hal]; simp) (hs.add (adN hf hq)) (by simp at hj ⊢; omega)
   rw [List.length_append, List.length_singleton, show ((pre.length + 1 : Nat) : Int) = (pre.length : Int) + 1 by omega] at hn
   simp only [sumF]
   have hg := yF (ps := all) (i := pre.length) (p := q) (by rw [hal]; simp)
   have hlt : pre.length < all.length := by rw [hal]; simp
   have a1 := hq.d1; have a2 := hq.d2; have a3 := hq.lt
   have hm := hf.mul (a := q.2 - q.1) (by omega) (by omega)
   have hadd := xW hs (adN (x := x) (y := y) hf hq) (by omega)
   have hof : L.call jQ [.int .i64 (max (min y q.2 - max x q.1) 0), .int .i64 (b.eU * (q.2 - q.1))] = some (.aZ [bF (FD b.eU x y q), .aF]) := by
    unfold FD
    exact ru (by omega) (by omega) (by omega)
   have e1 : IntKind.i64.wrap (min y q.2 - max x q.1) = min y q.2 - max x q.1 := wrap64 _ (by omega)
   have e2 : IntKind.i64.wrap (q.2 - q.1) = q.2 - q.1 := wrap64 _ (by omega)
   have e3 : IntKind.i64.wrap (b.eU * (q.2 - q.1)) = b.eU * (q.2 - q.1) := wrap64 _ (by omega)
   have e4 : IntKind.i64.wrap ((pre.length : Int) + 1) = (pre.length : Int) + 1 := wrap64 _ (by omega)
   generalize sumF b.eU x y (s + FD b.eU x y q) r = res at *
   generalize s + FD b.eU x y q = s2 at *
   generalize FD b.eU x y q = qq at *
   obtain ⟨q1, q2⟩ := q
   simp only at *
   unfold jd at *
   obtain ⟨g1, g2, g3, g4⟩ := hg
   generalize cu all = pc at *
   generalize all.length = N at *
   generalize pre.length = P at *
   have hltI : (P : Int) < N := by omega
   obtain ⟨i, m, fq, c, rd, n, st, e, ex⟩ := b
   unfold aN at *
   simp only at *
   refine aQ (Us ..) ?_
   simp [KX, hlt, hltI, g1, g2, g3, g4, e1, e2, e3, e4, hof, hadd, hn]
def Ac (b : aO) (p : Int × Int) (x y : Int) : Except Int Rat :=
 if b.count = 4 then match Di b p with
  | none => .error 4
  | some l => if x < p.1 ∨ y < x ∨ p.2 < y then .error 6 else .ok (sumF b.eU x y (Rat.divInt 0 1) l)
 else if x < p.1 ∨ y < x ∨ p.2 < y then .error 6 else .ok (OA b.count x y)
theorem Zj : RB 64 (Rat.divInt 0 1) := iH (eF (by omega)) (eF (by omega)) (by omega)
theorem fG {b : aO} (h : (aV b).1 = none) : chk b = none := (gK h).1
theorem amO {b : aO} (h : chk b = none) : 1 ≤ b.count ∧ b.count ≤ 4 := by
 unfold chk at h
 split at h <;> try (simp at h; done)
 split at h <;> try (simp at h; done)
 split at h <;> try (simp at h; done)
 split at h <;> try (simp at h; done)
 rename_i h1
 exact Classical.not_not.1 h1
theorem IV {b : aO} (hchk : chk b = none) {p : Int × Int} (d2 : bU p.2) {l : List (Int × Int)} (h : Di b p = some l) : (∀ q ∈ l, QOk q) ∧ l.length ≤ 3600 := by
 have hm := (dK hchk).2.1
 have hb := Y9 d2
 refine ⟨fun q hq => ?_, ?_⟩
 ·have := ais hm h q hq
  exact ⟨this.1, this.2.1, this.2.2.1⟩
 ·have := aeT hm d2 h; omega
set_option maxHeartbeats 1000000 in
theorem Jt {b : aO} (hp : (aV b).1 = none) (hc : b.dX.length ≤ 1000000) (hr : b.dY.length ≤ 1000000) {p : Int × Int} (d1 : bU p.1) (d2 : bU p.2) (hlt : p.1 < p.2) (x y : Int) :
  L.call uJ [aS b, pD p, .int .i64 x, .int .i64 y] = some (Fb (Ac b p x y)) := by
 have hchk := fG hp
 have hpl := Ae hc hr
 have hcl := jI (aV b).2 0 11
 have hqs := adz hchk hc hr hlt (by omega)
 have hf := fU (dK hchk).2.1
 have hcnt := amO hchk
 have hok := fun {l} h => IV (l := l) hchk d2 h
 have hz : L.call jQ [.int .i64 0, .int .i64 1] = some (.aZ [bF (Rat.divInt 0 1), .aF]) := ru (by omega) (by omega) (by omega)
 unfold wM at hpl
 rw [hp] at hpl
 simp only [eX] at hpl
 have hloop := fun l hx hxy hy hall => anF (b := b) hf (p1 := p.1) (p2 := p.2) (x := x) (y := y) hx hxy hy d1 d2 l hall
 obtain ⟨p1, p2⟩ := p
 unfold pD at *
 simp only at *
 unfold jd at hpl
 generalize (aV b).2.length = pn at *
 generalize cu (aV b).2 = pc at *
 unfold Ac
 simp only
 have hbad : x < p1 ∨ y < x ∨ p2 < y ∨ (p1 ≤ x ∧ x ≤ y ∧ y ≤ p2) := by omega
 by_cases hk : b.count = 4
 ·rw [if_pos hk]
  cases hq : Di b (p1, p2) with
  | none =>
    rw [hq] at hqs
    simp only [Zd] at hqs
    obtain ⟨i, m, fq, c, rd, n, st, e, ex⟩ := b
    unfold aS aN at *
    simp only at *
    subst hk
    refine aJ TK rfl (TJ ..) ?_
    simp [og, hpl, hqs, Fb]
  | some l =>
    rw [hq] at hqs
    simp only [Zd] at hqs
    obtain ⟨hall, hll⟩ := hok hq
    simp only
    have hlp := fun h1 h2 h3 => hloop l h1 h2 h3 hall (by omega) l [] (Rat.divInt 0 1) 64 rfl Zj (by omega)
    have hlc := jI l 0 11
    simp only [List.length_nil] at hlp
    unfold jd at *
    generalize cu l = lc at *
    generalize l.length = ln at *
    generalize Rat.divInt 0 1 = z at *
    generalize sumF b.eU x y z l = res at *
    obtain ⟨i, m, fq, c, rd, n, st, e, ex⟩ := b
    unfold aS aN at *
    simp only at *
    subst hk
    refine aJ TK rfl (TJ ..) ?_
    by_cases h1 : x < p1
    ·rw [if_pos (.inl h1)]
     simp [og, hpl, hqs, h1, bT, Fb]
    by_cases h2 : y < x
    ·rw [if_pos (.inr (.inl h2))]
     simp [og, hpl, hqs, h1, h2, bT, Fb]
    by_cases h3 : p2 < y
    ·rw [if_pos (.inr (.inr h3))]
     simp [og, hpl, hqs, h1, h2, h3, bT, Fb]
    ·rw [if_neg (by omega)]
     have := hlp (by omega) (by omega) (by omega)
     simp at this
     simp [og, hpl, hqs, h1, h2, h3, hz, this, Fb]
 ·rw [if_neg hk]
  have hcp : ¬ (x < p1 ∨ y < x ∨ p2 < y) → ∀ s e f, L.call tY [.int .i64 b.count, .int .i64 x, .int .i64 y, .int .i64 s, .int .i64 e, .int .i64 f] = some (.aZ [bF (OA b.count x y), .aF]) :=
   fun h s e f => agj (by omega) (by omega) (by omega) (by omega) (by omega)
  generalize OA b.count x y = res at *
  obtain ⟨i, m, fq, c, rd, n, st, e, ex⟩ := b
  unfold aS aN at *
  simp only at *
  refine aJ TK rfl (TJ ..) ?_
  by_cases h1 : x < p1
  ·rw [if_pos (.inl h1)]
   simp [og, hpl, hk, h1, bT, Fb]
  by_cases h2 : y < x
  ·rw [if_pos (.inr (.inl h2))]
   simp [og, hpl, hk, h1, h2, bT, Fb]
  by_cases h3 : p2 < y
  ·rw [if_pos (.inr (.inr h3))]
   simp [og, hpl, hk, h1, h2, h3, bT, Fb]
  ·rw [if_neg (by omega)]
   have := hcp (by omega) p1 p2 fq
   simp [og, hpl, hk, h1, h2, h3, this, Fb]
theorem Qm {b : aO} (hchk : chk b = none) {p : Int × Int} (d1 : bU p.1) (d2 : bU p.2) {x y : Int} {q : Rat} (h : Ac b p x y = .ok q) {n : Nat} (hn : ∀ l, Di b p = some l → l.length ≤ n) : RB (64 + 65 * n) q := by
 have hf := fU (dK hchk).2.1
 unfold Ac at h
 split at h
 ·split at h
  ·simp at h
  ·rename_i l hl
   split at h
   ·simp at h
   ·simp at h
    subst h
    exact (akL hf (IV hchk d2 hl).1 Zj).mono (by have := hn l hl; omega)
 ·split at h
  ·simp at h
  ·rename_i hxy
   simp at h
   subst h
   unfold OA
   have := XT (k := b.count) (a := x) (b := y) (by omega) (by omega)
   refine (iH (k := 64) (eF (by omega)) (eF ?_) ?_).mono (by omega)
   ·split <;> omega
   ·split <;> omega
def jf (b : aO) : Rat := PY b * Rat.divInt 1 b.eU
theorem PZ (b : aO) : RB 400 (PY b) := by
 unfold PY
 have hq : RB 400 q0 := Zj.mono (by omega)
 split
 ·exact hq
 ·split
  ·rename_i h; exact (Vx h).1
  ·exact hq
theorem Qr (b : aO) : RB 400 (iW b) := by
 unfold iW
 have hq : RB 400 q0 := Zj.mono (by omega)
 split
 ·exact hq
 ·split
  ·rename_i h; exact (Vx h).1
  ·exact hq
theorem abT {f : Int} (hf : yT f) : RB 64 (Rat.divInt 1 f) := iH (eF (by omega)) (eF (by omega)) (by omega)
theorem Tn {b : aO} (hf : yT b.eU) : RB 464 (jf b) := (PZ b).mul (abT hf)
theorem SL {b : aO} (hf : yT b.eU) (hc : b.dX.length ≤ 1000000) (hr : b.dY.length ≤ 1000000) : L.call qX [aS b] = some (bF (jf b)) := by
 have h1 := Dx hc hr
 have h2 : L.call jQ [.int .i64 1, .int .i64 b.eU] = some (.aZ [bF (Rat.divInt 1 b.eU), .aF]) := ru (by omega) (by omega) (by omega)
 have h3 := oK (PZ b) (abT hf) (by omega)
 unfold jf
 generalize PY b * Rat.divInt 1 b.eU = r at *
 generalize Rat.divInt 1 b.eU = v at *
 generalize PY b = q at *
 obtain ⟨i, m, fq, c, rd, n, st, e, ex⟩ := b
 unfold aS aN at *
 simp only at *
 refine aJ ac6 rfl (acT ..) ?_
 simp [U8, h1, h2, h3]
def Ig (b : aO) (p : Int × Int) : Except Int Rat := if regular b p = true then .ok (jf b) else match Ac b p p.1 p.2 with
 | .ok q => .ok (PY b * q)
 | .error c => .error c
theorem Zb {b : aO} (hchk : chk b = none) {p : Int × Int} (d1 : bU p.1) (d2 : bU p.2) {q : Rat} (h : Ig b p = .ok q) {n : Nat} (hn : ∀ l, Di b p = some l → l.length ≤ n) : RB (464 + 65 * n) q := by
 have hf := fU (dK hchk).2.1
 unfold Ig at h
 split at h
 ·simp at h; subst h; exact (Tn hf).mono (by omega)
 ·split at h
  ·rename_i v hv
   simp at h; subst h
   exact ((PZ b).mul (Qm hchk d1 d2 hv hn)).mono (by omega)
  ·simp at h
theorem L9 {b : aO} (hp : (aV b).1 = none) (hc : b.dX.length ≤ 1000000) (hr : b.dY.length ≤ 1000000) {p : Int × Int} (d1 : bU p.1) (d2 : bU p.2) (hlt : p.1 < p.2) : L.call rX [aS b, pD p] = some (Fb (Ig b p)) := by
 have hchk := fG hp
 have hf := fU (dK hchk).2.1
 have hpl := Ae hc hr
 have hreg := BR hc hr p
 have hpart := Jt hp hc hr d1 d2 hlt p.1 p.2
 have hrp := SL hf hc hr
 have hcp := Dx hc hr
 have hcl := jI (aV b).2 0 11
 have hmul := fun {q} h => oK (PZ b) (Qm hchk d1 d2 (q := q) (x := p.1) (y := p.2) h (n := 3600) (fun l hl => (IV hchk d2 hl).2)) (by omega)
 unfold wM at hpl
 rw [hp] at hpl
 simp only [eX] at hpl
 unfold jd at hpl
 generalize (aV b).2.length = pn at *
 generalize cu (aV b).2 = pc at *
 unfold Ig
 obtain ⟨p1, p2⟩ := p
 unfold pD at *
 simp only at *
 generalize Ac b (p1, p2) p1 p2 = pr at *
 generalize regular b (p1, p2) = rg at *
 generalize jf b = rp at *
 generalize PY b = cq at *
 obtain ⟨i, m, fq, c, rd, n, st, e, ex⟩ := b
 unfold aS aN at *
 simp only at *
 refine aJ ak4 rfl (akX ..) ?_
 cases rg with
 | true => simp [OO, hpl, hreg, hrp, Fb]
 | false =>
   cases pr with
   | error c => simp [Fb] at hpart; simp [OO, hpl, hreg, hpart, Fb]
   | ok q =>
     have hmul := hmul rfl
     simp only [Fb] at hpart
     simp [OO, hpl, hreg, hpart, hcp, hmul, Fb]
end Go.Ev.Code
end
section
namespace Go.Ev.Code
open Go Go.Ev
def dH : List (Int × Rat) → List D
 | [] => []
 | (d, q) :: r => .int .i64 d :: .str (wH q) :: dH r
theorem KD (l r : List (Int × Rat)) : dH (l ++ r) = dH l ++ dH r := by
 induction l with
 | nil => rfl
 | cons x xs ih => obtain ⟨a, b⟩ := x; simp [dH, ih]
theorem zf (l : List (Int × Rat)) : (dH l).length = l.length * 2 := by
 induction l with
 | nil => rfl
 | cons x xs ih => obtain ⟨a, b⟩ := x; simp [dH, ih]; omega
theorem wY (l : List (Int × Rat)) (b n : Nat) : (dH l).all (D.clo b (n + 1)) = true := by
 induction l with
 | nil => rfl
 | cons x xs ih => obtain ⟨p, q⟩ := x; simp [dH]; simpa using ih
theorem Y6 (l : List (Int × Rat)) (n : Nat) (m : Mem) : jV (fz (n + 1)) (dH l) m = some (dH l, m) := by
 induction l with
 | nil => rfl
 | cons x xs ih => obtain ⟨a, b⟩ := x; simp [dH, ih]
def SI (l : List (Int × Rat)) : D := .sl l.length (dH l)
def lM (each red : Rat) : List (Int × Int) → List (Int × Rat)
 | [] => []
 | [p] => [(p.2, each + red)]
 | p :: q :: r => (p.2, each) :: lM each red (q :: r)
def rG (pay each red : Rat) : List (Int × Int) → List (Int × Rat)
 | [] => []
 | [p] => [(p.2, pay + red)]
 | p :: q :: r => (p.2, pay) :: lM each red (q :: r)
theorem aeY (each red : Rat) : ∀ l : List (Int × Int), (lM each red l).length = l.length
 | [] => rfl
 | [_] => rfl
 | _ :: q :: r => by simp [lM, aeY each red (q :: r)]
theorem X5 (pay each red : Rat) (l : List (Int × Int)) : (rG pay each red l).length = l.length := by
 match l with
 | [] => rfl
 | [_] => rfl
 | _ :: q :: r => simp [rG, aeY]
set_option maxHeartbeats 2000000 in
theorem of_rest {b : aO} {pre : Mem} {k : Nat} (hpre : (pre = [] ∧ k = 0) ∨ (pre = [.live (aN b)] ∧ k = 1)) (hc : b.dX.length ≤ 1000000) (hr : b.dY.length ≤ 1000000) {each : Rat} {j : Nat} (hE : RB j each) (hj : 1 ≤ j) (hj2 : j ≤ 400000)
  {ps : List (Int × Int)} (hn : ps.length ≤ 100000) : ∀ (rest pfx : List (Int × Int)) (acc : List (Int × Rat)), ps = pfx ++ rest → pfx ≠ [] → acc.length = pfx.length →
  L.loop [1, 4, 6, 7, 21, 22, 23] [2, 3, 7] oG (k + 1) [.loc k 0, jd ps, bF each, .bg (k + 1) 0 acc.length 2, jd ps, .int .i64 ps.length, .int .i64 pfx.length] (pre ++ [.live (aN b), .live (dH acc)]) =
    some (.exit 0, [.undef, .undef, .bg (k + 1) 0 ps.length 2], pre ++ [.live (aN b), .live (dH (acc ++ lM each (iW b) rest))]) := by
 have hbc := fun n => g_ b n
 have hbl := l7 b
 have hbd := lZ b 0 10
 have hbr := Dy hc hr
 have hadd := xW hE (Qr b) (by omega)
 have ht1 := yG hE (by omega) hj
 have ht2 := yG (hE.add (Qr b)) (by omega) (by omega)
 intro rest
 induction rest with
 | nil =>
   intro pfx acc hal hne hl
   rw [List.append_nil] at hal
   subst hal
   have hfc := fun n => wY acc n 11
   rw [hl]
   unfold jd
   simp only [lM, List.append_nil]
   generalize aN b = B at *
   generalize dH acc = fc at *
   generalize cu ps = pc at *
   generalize ps.length = n at *
   rcases hpre with ⟨rfl, rfl⟩ | ⟨rfl, rfl⟩
   ·refine aQ (jW ..) ?_
    simp [jL, hbc, hfc]
   ·refine aQ (jW ..) ?_
    simp [jL, hbc, hfc]
 | cons p rest ih =>
   intro pfx acc hal hne hl
   have hfc := fun n => wY acc n 11
   have hfl := zf acc
   have hpos : 0 < pfx.length := List.length_pos_iff.2 hne
   have hg := yF (ps := ps) (i := pfx.length) (p := p) (by rw [hal]; simp)
   have hlt : pfx.length < ps.length := by rw [hal]; simp
   have hlast : (pfx.length : Int) = (ps.length : Int) - 1 ↔ rest = [] := by
    have : ps.length = pfx.length + 1 + rest.length := by rw [hal]; simp; omega
    constructor
    ·intro h; exact List.eq_nil_of_length_eq_zero (by omega)
    ·rintro rfl; simp at this; omega
   have hstep : ∀ (a : Rat), a = (if rest = [] then each + iW b else each) →
     (∀ r, L.loop [1, 4, 6, 7, 21, 22, 23] [2, 3, 7] oG (k + 1) [.loc k 0, jd ps, bF each, .bg (k + 1) 0 (acc.length + 1) 2, jd ps, .int .i64 ps.length, .int .i64 ((pfx.length + 1 : Nat) : Int)] (pre ++ [.live (aN b), .live (dH acc ++ [.int .i64 p.2, .str (wH a)])]) = some r →
      L.loop [1, 4, 6, 7, 21, 22, 23] [2, 3, 7] oG (k + 1) [.loc k 0, jd ps, bF each, .bg (k + 1) 0 acc.length 2, jd ps, .int .i64 ps.length, .int .i64 pfx.length] (pre ++ [.live (aN b), .live (dH acc)]) = some r) := by
    intro a ha r hr
    have e1 : IntKind.i64.wrap ((pfx.length : Int) + 1) = ((pfx.length + 1 : Nat) : Int) := by rw [wrap64 _ (by omega)]; omega
    have e2 : IntKind.i64.wrap ((ps.length : Int) - 1) = (ps.length : Int) - 1 := wrap64 _ (by omega)
    have hlen : acc.length + 1 ≤ 4294967296 := by omega
    have htk : (dH acc).take (acc.length * 2) = dH acc := List.take_of_length_le (by omega)
    have hP0 : ¬ (pfx.length : Int) = 0 := by omega
    have hP0N : ¬ pfx.length = 0 := by omega
    obtain ⟨p1, p2⟩ := p
    simp only at *
    unfold jd at *
    obtain ⟨g1, g2, g3, g4⟩ := hg
    generalize hfcq : dH acc = fc at *
    generalize acc.length = A at *
    by_cases hrest : rest = []
    ·have hi := hlast.2 hrest
     rw [if_pos hrest] at ha
     subst ha
     generalize each + iW b = es at *
     generalize iW b = rd at *
     unfold aS at hbr
     generalize aN b = B at *
     have htkB : B.take 9 = B := List.take_of_length_le (by omega)
     generalize cu ps = pc at *
     generalize ps.length = N at *
     generalize pfx.length = P at *
     have hltI : (P : Int) < N := by omega
     have hi' : (N : Int) - 1 = P := by omega
     have e2' : IntKind.i64.wrap (P : Int) = P := wrap64 _ (by omega)
     rcases hpre with ⟨rfl, rfl⟩ | ⟨rfl, rfl⟩
     ·refine aQ (jW ..) ?_
      simp at hr
      simp [jL, hlt, hltI, g1, g2, g3, g4, hP0, hP0N, e1, e2, e2', hi', hbc, hbl, hbd, htkB, hbr, hadd, ht2, xk, hfc, hfl, htk, hlen, hr, gX]
     ·refine aQ (jW ..) ?_
      simp at hr
      simp [jL, hlt, hltI, g1, g2, g3, g4, hP0, hP0N, e1, e2, e2', hi', hbc, hbl, hbd, htkB, hbr, hadd, ht2, xk, hfc, hfl, htk, hlen, hr, gX]
    ·have hi : ¬ (pfx.length : Int) = (ps.length : Int) - 1 := fun h => hrest (hlast.1 h)
     rw [if_neg hrest] at ha
     subst ha
     generalize aN b = B at *
     generalize cu ps = pc at *
     generalize ps.length = N at *
     generalize pfx.length = P at *
     have hltI : (P : Int) < N := by omega
     rcases hpre with ⟨rfl, rfl⟩ | ⟨rfl, rfl⟩
     ·refine aQ (jW ..) ?_
      simp at hr
      simp [jL, hlt, hltI, g1, g2, g3, g4, hP0, hP0N, e1, e2, hi, hbc, hbl, hbd, ht1, xk, hfc, hfl, htk, hlen, hr, gX]
     ·refine aQ (jW ..) ?_
      simp at hr
      simp [jL, hlt, hltI, g1, g2, g3, g4, hP0, hP0N, e1, e2, hi, hbc, hbl, hbd, ht1, xk, hfc, hfl, htk, hlen, hr, gX]
   have hn2 := ih (pfx ++ [p]) (acc ++ [(p.2, if rest = [] then each + iW b else each)]) (by rw [hal]; simp) (by simp) (by simp [hl])
   rw [KD, KD, show dH [(p.2, if rest = [] then each + iW b else each)] = [.int .i64 p.2, .str (wH (if rest = [] then each + iW b else each))] from rfl, List.length_append, List.length_append, List.length_singleton, List.length_singleton] at hn2
   have := hstep _ rfl _ hn2
   rw [this]
   have hE2 : dH (acc ++ lM each (iW b) (p :: rest)) = dH acc ++ [.int .i64 p.2, .str (wH (if rest = [] then each + iW b else each))] ++ dH (lM each (iW b) rest) := by
    rw [KD]
    cases rest with
    | nil => simp [lM, dH]
    | cons q r => simp [lM, dH]
   rw [hE2, KD acc]
   rfl
def bJ (b : aO) : Er × List (Int × Rat) := match (aV b).1 with
 | some e => (ao3 (some e), [])
 | none => match (aV b).2 with
   | [] => (none, [])
   | p :: r => match Ig b p with
     | .error c => (some (c, none), [])
     | .ok q => (none, rG q (jf b) (iW b) (p :: r))
theorem pF {b : aO} (h : (aV b).1 = none) {p : Int × Int} (hp : p ∈ (aV b).2) : bU p.1 ∧ bU p.2 ∧ p.1 < p.2 := by
 have hw := gK h
 obtain ⟨i, hi⟩ := List.getElem?_of_mem hp
 have hlt := hw.2.ord i p hi
 have hchk := hw.1
 obtain ⟨z1, z2, z3⟩ := Ja (dK hchk).1
 have hraw : ∀ {i : Nat} {q : Int × Int}, (kE b)[i]? = some q → bU q.1 ∧ bU q.2 := by
  intro i q hq
  have hl : i < dM b := by rw [← Bf]; exact (List.getElem?_eq_some_iff.1 hq).1
  rw [EU hl] at hq
  simp at hq
  subst hq
  have hd : ∀ n : Nat, bU (((anch b n).getD 0 : Nat) : Int) := by
   intro n
   cases ha : anch b n with
   | none => exact ⟨by simp, by simp⟩
   | some a => simpa using aak ha
  refine ⟨?_, hd _⟩
  simp only
  split
  ·exact z1
  ·exact hd _
 have : bU p.1 ∧ bU p.2 := by
  unfold aV at hi
  rw [hchk] at hi
  simp only at hi
  split at hi
  ·exact hraw hi
  ·split at hi
   ·simp at hi
   ·split at hi
    ·split at hi
     ·rename_i x q r hx
      cases i with
      | zero =>
        simp at hi
        subst hi
        have := hraw (i := 1) (q := q) (by rw [hx]; rfl)
        exact ⟨z1, this.2⟩
      | succ i =>
        simp at hi
        exact hraw (i := i + 2) (q := p) (by rw [hx]; simpa using hi)
     ·exact hraw hi
    ·exact hraw hi
 exact ⟨this.1, this.2, hlt⟩
def callOf (k : Nat) (pre : Mem) : Er × List (Int × Rat) → D × Mem
 | (some e, _) => (.aZ [.dA, dS (some e)], pre)
 | (none, fs) => (.aZ [.bg k 0 fs.length 2, .aF], pre ++ [.live (dH fs)])
set_option maxHeartbeats 1000000 in
theorem ZR {b : aO} {pre : Mem} {k : Nat} (hpre : (pre = [] ∧ k = 0) ∨ (pre = [.live (aN b)] ∧ k = 1)) (hc : b.dX.length ≤ 1000000) (hr : b.dY.length ≤ 1000000) :
  L.bH zh [aS b] pre = some (callOf k pre (bJ b)) := by
 have hpl := Ae hc hr
 have hbc := fun n => g_ b n
 have hbl := l7 b
 have hbd := lZ b 0 10
 unfold wM at hpl
 cases hp : (aV b).1 with
 | some e =>
   rw [hp] at hpl
   unfold bJ
   rw [hp]
   obtain ⟨ec, es⟩ := e
   simp [eX, eH] at hpl
   simp only [ao3, callOf, dS]
   unfold jd at hpl
   have hcl := jI (aV b).2 0 11
   unfold aS at hpl ⊢
   generalize aN b = B at *
   have htkB : B.take 9 = B := List.take_of_length_le (by omega)
   generalize (aV b).2.length = pn at *
   generalize cu (aV b).2 = pc at *
   rcases hpre with ⟨rfl, rfl⟩ | ⟨rfl, rfl⟩
   ·refine ni Iq rfl (Ip ..) ?_
    simp [Dl, hpl, hbc, hbl, hbd, htkB, eH]
   ·refine ni Iq rfl (Ip ..) ?_
    simp [Dl, hpl, hbc, hbl, hbd, htkB, eH]
 | none =>
   have hw := gK hp
   have hchk := hw.1
   have hf := fU (dK hchk).2.1
   have hreg := SL hf hc hr
   rw [hp] at hpl
   simp only [eX] at hpl
   unfold bJ
   rw [hp]
   simp only
   have hdays := fun {p} h => pF hp (p := p) h
   have hplen := hw.2.len
   have hpne := hw.2.ne
   cases hps : (aV b).2 with
   | nil => exact absurd hps hpne
   | cons p r =>
     obtain ⟨d1, d2, d3⟩ := hdays (p := p) (by rw [hps]; simp)
     have hpay := L9 hp hc hr d1 d2 d3
     rw [hps] at hpl hplen
     simp only
     have hlen1 : (p :: r).length = r.length + 1 := rfl
     cases hpb : Ig b p with
     | error c =>
       rw [hpb] at hpay
       simp only [Fb] at hpay
       simp only [callOf, dS]
       have hg := yF (ps := p :: r) (i := 0) (p := p) rfl
       have hcl := jI (p :: r) 0 11
       unfold pD at hpay
       obtain ⟨p1, p2⟩ := p
       simp only at *
       obtain ⟨g1, g2, g3, g4⟩ := hg
       simp only [Nat.zero_mul, Nat.zero_add, List.drop_zero] at g1 g2 g3 g4
       unfold jd at hpl
       generalize jf b = rp at *
       generalize cu ((p1, p2) :: r) = pc at *
       generalize hN : ((p1, p2) :: r).length = N at *
       have hN0 : 0 < N := by omega
       have hN0I : (0 : Int) < N := by omega
       unfold aS at hpl hreg hpay ⊢
       generalize aN b = B at *
       have htkB : B.take 9 = B := List.take_of_length_le (by omega)
       have hlp : L.loop [1, 4, 6, 7, 21, 22, 23] [2, 3, 7] oG (k + 1) [.loc k 0, .sl N pc, bF rp, .dA, .sl N pc, .int .i64 N, .int .i64 0] (pre ++ [.live B]) = some (.ret, [.dA, wR c, .dA], pre ++ [.live B]) := by
        rcases hpre with ⟨rfl, rfl⟩ | ⟨rfl, rfl⟩
        ·refine aQ (jW ..) ?_
         simp [jL, hN0, hN0I, g1, g2, g3, g4, hbc, hbl, hbd, htkB, hpay, gX]
        ·refine aQ (jW ..) ?_
         simp [jL, hN0, hN0I, g1, g2, g3, g4, hbc, hbl, hbd, htkB, hpay, gX]
       rcases hpre with ⟨rfl, rfl⟩ | ⟨rfl, rfl⟩
       ·simp at hlp
        refine ni Iq rfl (Ip ..) ?_
        simp [Dl, hpl, hbc, hbl, hbd, htkB, hreg, hlp]
       ·simp at hlp
        refine ni Iq rfl (Ip ..) ?_
        simp [Dl, hpl, hbc, hbl, hbd, htkB, hreg, hlp]
     | ok q =>
       rw [hpb] at hpay
       simp only [Fb] at hpay
       simp only [callOf]
       have hqB := Zb hchk d1 d2 hpb (fun l hl => (IV hchk d2 hl).2)
       have hrest := of_rest hpre hc hr (Tn hf) (by omega) (by omega) (ps := p :: r) (by omega) r [p] [(p.2, if r = [] then q + iW b else q)] rfl (by simp) rfl
       have hfl : dH ([(p.2, if r = [] then q + iW b else q)] ++ lM (jf b) (iW b) r) = dH (rG q (jf b) (iW b) (p :: r)) := by
        cases r with
        | nil => simp [rG, lM, dH]
        | cons p2 r2 => simp [rG, dH]
       rw [hfl] at hrest
       have hfll := X5 q (jf b) (iW b) (p :: r)
       have hfcl := fun n => wY (rG q (jf b) (iW b) (p :: r)) n 11
       rw [hfll]
       generalize dH (rG q (jf b) (iW b) (p :: r)) = FC at *
       have hg := yF (ps := p :: r) (i := 0) (p := p) rfl
       have hcl := jI (p :: r) 0 11
       have hbr := Dy hc hr
       have hadd := xW hqB (Qr b) (by omega)
       have ht1 := yG hqB (by omega) (by omega)
       have ht2 := yG (hqB.add (Qr b)) (by omega) (by omega)
       unfold pD at hpay
       obtain ⟨p1, p2⟩ := p
       simp only at *
       obtain ⟨g1, g2, g3, g4⟩ := hg
       simp only [Nat.zero_mul, Nat.zero_add, List.drop_zero] at g1 g2 g3 g4
       unfold jd at hpl hrest
       simp only [dH, List.length_singleton] at hrest
       generalize cu ((p1, p2) :: r) = pc at *
       generalize hN : ((p1, p2) :: r).length = N at *
       have hN0 : 0 < N := by omega
       have hN0I : (0 : Int) < N := by omega
       have e2 : IntKind.i64.wrap ((N : Int) - 1) = (N : Int) - 1 := wrap64 _ (by omega)
       have hlp : L.loop [1, 4, 6, 7, 21, 22, 23] [2, 3, 7] oG (k + 1) [.loc k 0, .sl N pc, bF (jf b), .dA, .sl N pc, .int .i64 N, .int .i64 0] (pre ++ [.live (aN b)]) = some (.exit 0, [.undef, .undef, .bg (k + 1) 0 N 2], pre ++ [.live (aN b), .live FC]) := by
        generalize jf b = rp at *
        by_cases hr0 : r = []
        ·subst hr0
         simp at hN
         subst hN
         rw [if_pos rfl] at hrest
         generalize q + iW b = qs at *
         generalize iW b = rd at *
         unfold aS at hpl hreg hpay hbr
         generalize aN b = B at *
         have htkB : B.take 9 = B := List.take_of_length_le (by omega)
         rcases hpre with ⟨rfl, rfl⟩ | ⟨rfl, rfl⟩
         ·simp at hrest
          refine aQ (jW ..) ?_
          simp [jL, g1, g2, g3, g4, hbc, hbl, hbd, htkB, hpay, hbr, hadd, ht2, xk, wrap64, hrest, gX]
         ·simp at hrest
          refine aQ (jW ..) ?_
          simp [jL, g1, g2, g3, g4, hbc, hbl, hbd, htkB, hpay, hbr, hadd, ht2, xk, wrap64, hrest, gX]
        ·rw [if_neg hr0] at hrest
         have hrl : 0 < r.length := List.length_pos_iff.2 hr0
         have hN1 : ¬ (0 : Int) = (N : Int) - 1 := by omega
         have hN1' : ¬ (N : Int) - 1 = 0 := by omega
         unfold aS at hpl hreg hpay
         generalize aN b = B at *
         have htkB : B.take 9 = B := List.take_of_length_le (by omega)
         rcases hpre with ⟨rfl, rfl⟩ | ⟨rfl, rfl⟩
         ·simp at hrest
          refine aQ (jW ..) ?_
          simp [jL, hN0, hN0I, g1, g2, g3, g4, hbc, hbl, hbd, htkB, hpay, e2, hN1, hN1', ht1, xk, wrap64, hrest, gX]
         ·simp at hrest
          refine aQ (jW ..) ?_
          simp [jL, hN0, hN0I, g1, g2, g3, g4, hbc, hbl, hbd, htkB, hpay, e2, hN1, hN1', ht1, xk, wrap64, hrest, gX]
       generalize jf b = rp at *
       unfold aS at hpl hreg hpay ⊢
       generalize aN b = B at *
       have htkB : B.take 9 = B := List.take_of_length_le (by omega)
       rcases hpre with ⟨rfl, rfl⟩ | ⟨rfl, rfl⟩
       ·simp at hlp
        refine ni Iq rfl (Ip ..) ?_
        simp [Dl, hpl, hbc, hbl, hbd, htkB, hreg, hlp, hfcl]
       ·simp at hlp
        refine ni Iq rfl (Ip ..) ?_
        simp [Dl, hpl, hbc, hbl, hbd, htkB, hreg, hlp, hfcl]
def zO (r : Er × List (Int × Rat)) : D := .aZ [SI r.2, dS r.1]
theorem anf {b : aO} {e : Int × Option (List UInt8)} (h : (bJ b).1 = some e) : (bJ b).2 = [] := by
 unfold bJ at *
 split
 ·rfl
 ·rename_i h0
  rw [h0] at h
  simp only at h
  split
  ·rfl
  ·rename_i p r hps
   rw [hps] at h
   simp only at h
   split at h
   ·rfl
   ·simp at h
theorem abM {b : aO} (hc : b.dX.length ≤ 1000000) (hr : b.dY.length ≤ 1000000) : L.call zh [aS b] = some (zO (bJ b)) := by
 have h := ZR (b := b) (pre := []) (k := 0) (.inl ⟨rfl, rfl⟩) hc hr
 have he := fun {e} => @anf b e
 unfold zO SI
 cases hr : bJ b with
 | mk e fs =>
   rw [hr] at h he
   have hfz : ∀ m, jV (fz 10) (dH fs) m = some (dH fs, m) := fun m => Y6 fs 9 m
   have hlen := zf fs
   have htk : (dH fs).take (fs.length * 2) = dH fs := List.take_of_length_le (by omega)
   cases e with
   | some e =>
     have := he rfl
     simp only at this
     subst this
     refine xw h ?_
     rcases e with ⟨c, _ | s⟩ <;> simp [dS, eH, dH]
   | none =>
     refine xw h ?_
     generalize dH fs = fc at *
     simp [dS, hfz, hlen, htk]
end Go.Ev.Code
end
section
namespace Go.Ev.Code
open Go Go.Ev
theorem KE : ∀ {l : List (Int × Rat)} {i : Nat} {p : Int × Rat}, l[i]? = some p → (dH l)[i * 2]? = some (.int .i64 p.1) ∧ (dH l)[i * 2 + 1]? = some (.str (wH p.2)) ∧ i * 2 + 2 ≤ (dH l).length
 | [], i, p, h => by simp at h
 | (a, b) :: r, 0, p, h => by simp at h; subst h; simp [dH]
 | (a, b) :: r, i + 1, p, h => by
   simp at h
   have := KE h
   rw [show (i + 1) * 2 = i * 2 + 1 + 1 by omega]
   simp only [dH, List.getElem?_cons_succ, List.length_cons]
   exact ⟨this.1, this.2.1, by omega⟩
theorem anp {b : aO} {s : Int} (fs : List (Int × Rat)) : ∀ (l done : List (Int × Rat)), fs = done ++ l → (∃ p ∈ l, s < p.1) →
  L.loop [1, 2, 6] [1, 2, 6] vK 2 [.int .i64 s, .loc 0 0, .bg 1 (done.length * 2) l.length 2] [.live (aN b), .live (dH fs)] =
    some (.exit 0, [.int .i64 s, .loc 0 0, .bg 1 ((fs.length - (l.dropWhile fun p => decide (p.1 ≤ s)).length) * 2) (l.dropWhile fun p => decide (p.1 ≤ s)).length 2], [.live (aN b), .live (dH fs)]) := by
 have hbc := fun n => g_ b n
 have hfc := fun n => wY fs n 11
 intro l
 induction l with
 | nil => intro done _ h; obtain ⟨p, hp, _⟩ := h; simp at hp
 | cons p r ih =>
   intro done hal hex
   have hg := KE (l := fs) (i := done.length) (p := p) (by rw [hal]; simp)
   have hlen : fs.length = done.length + (r.length + 1) := by rw [hal]; simp
   by_cases hp : p.1 ≤ s
   ·have hex' : ∃ q ∈ r, s < q.1 := by
     obtain ⟨q, hq, hs⟩ := hex
     rcases List.mem_cons.1 hq with rfl | hq
     ·omega
     ·exact ⟨q, hq, hs⟩
    have hn := ih (done ++ [p]) (by rw [hal]; simp) hex'
    have hdw : (p :: r).dropWhile (fun p => decide (p.1 ≤ s)) = r.dropWhile (fun p => decide (p.1 ≤ s)) := by simp [List.dropWhile, hp]
    rw [hdw]
    rw [List.length_append, List.length_singleton] at hn
    have e1 : (done.length + 1) * 2 = done.length * 2 + 2 := by omega
    rw [e1] at hn
    obtain ⟨g1, g2, g3⟩ := hg
    generalize (r.dropWhile fun p => decide (p.1 ≤ s)).length = R at *
    generalize (fs.length - R) * 2 = R2 at *
    have hbn : jX true false (r.length + 1) [.int .i64 1] = some (1, r.length + 1) := by
     have : (1 : Int) ≤ (r.length : Int) + 1 := by omega
     simp [jX, bnd, this]
    rw [List.length_cons]
    generalize dH fs = fc at *
    generalize done.length * 2 = D2 at *
    generalize r.length = rl at *
    generalize aN b = B at *
    have hpos : (0 : Int) < (rl : Int) + 1 := by omega
    refine aQ (Ur ..) ?_
    simp [KW, hpos, g1, hp, hbn, hbc, hfc, hn]
   ·have hdw : (p :: r).dropWhile (fun p => decide (p.1 ≤ s)) = p :: r := by simp [List.dropWhile, hp]
    rw [hdw, show (fs.length - (p :: r).length) * 2 = done.length * 2 by rw [List.length_cons]; omega]
    obtain ⟨g1, g2, g3⟩ := hg
    rw [List.length_cons]
    generalize dH fs = fc at *
    generalize done.length * 2 = D2 at *
    generalize r.length = rl at *
    generalize aN b = B at *
    have hpos : (0 : Int) < (rl : Int) + 1 := by omega
    refine aQ (Ur ..) ?_
    simp [KW, hpos, g1, hp, hbc, hfc]
def aqc (b : aO) (s : Int) (l : List (Int × Rat)) : List (Int × Rat) := if 0 < b.ex then match l with
    | [] => []
    | [p] => if p.1 - b.ex ≤ s then [(p.1, iW b)] else [p]
    | p :: q :: r => if p.1 - b.ex ≤ s then q :: r else p :: q :: r
 else l
def leftB (b : aO) (s : Int) : Er × List (Int × Rat) := match (bJ b).1 with
 | some e => (some e, [])
 | none => if s < b.issue ∨ b.fP ≤ s then (some (6, none), []) else (none, aqc b s ((bJ b).2.dropWhile fun p => decide (p.1 ≤ s)))
theorem aeX (each red : Rat) : ∀ {l : List (Int × Int)} {i : Nat} {p : Int × Int}, l[i]? = some p → ∃ a, (lM each red l)[i]? = some (p.2, a)
 | [], i, p, h => by simp at h
 | [q], i, p, h => by
   cases i with
   | zero => simp at h; subst h; exact ⟨_, rfl⟩
   | succ i => simp at h
 | q :: q' :: r, i, p, h => by
   cases i with
   | zero => simp at h; subst h; exact ⟨_, rfl⟩
   | succ i =>
     simp only [List.getElem?_cons_succ] at h
     obtain ⟨a, ha⟩ := aeX each red h
     exact ⟨a, by simp only [lM, List.getElem?_cons_succ]; exact ha⟩
theorem aeC (pay each red : Rat) {l : List (Int × Int)} {i : Nat} {p : Int × Int} (h : l[i]? = some p) : ∃ a, (rG pay each red l)[i]? = some (p.2, a) := by
 match l, h with
 | [q], h =>
   cases i with
   | zero => simp at h; subst h; exact ⟨_, rfl⟩
   | succ i => simp at h
 | q :: q' :: r, h =>
   cases i with
   | zero => simp at h; subst h; exact ⟨_, rfl⟩
   | succ i =>
     simp only [List.getElem?_cons_succ] at h
     obtain ⟨a, ha⟩ := aeX each red h
     exact ⟨a, by simp only [rG, List.getElem?_cons_succ]; exact ha⟩
 | [], h => simp at h
theorem kW {b : aO} (h : (bJ b).1 = none) : (aV b).1 = none ∧ ∃ p r q, (aV b).2 = p :: r ∧ Ig b p = .ok q ∧ (bJ b).2 = rG q (jf b) (iW b) (p :: r) := by
 unfold bJ at *
 split at h
 ·simp [ao3] at h
 ·rename_i h0
  rw [h0]
  simp only
  have hne := (gK h0).2.ne
  refine ⟨trivial, ?_⟩
  cases hps : (aV b).2 with
  | nil => exact absurd hps hne
  | cons p r =>
    rw [hps] at h
    simp only at h ⊢
    cases hq : Ig b p with
    | error c => rw [hq] at h; simp at h
    | ok q => exact ⟨p, r, q, rfl, hq, rfl⟩
theorem alv {b : aO} (h : (bJ b).1 = none) : ∀ p ∈ (bJ b).2, bU p.1 := by
 obtain ⟨h0, p, r, q, hps, hq, hfl⟩ := kW h
 rw [hfl]
 intro x hx
 obtain ⟨i, hi⟩ := List.getElem?_of_mem hx
 have hl : i < (p :: r).length := by rw [← X5 q (jf b) (iW b) (p :: r)]; exact (List.getElem?_eq_some_iff.1 hi).1
 obtain ⟨a, ha⟩ := aeC q (jf b) (iW b) (l := p :: r) (i := i) (List.getElem?_eq_getElem hl)
 rw [hi] at ha
 have := Option.some.inj ha
 rw [this]
 have hm : (p :: r)[i] ∈ (aV b).2 := by rw [hps]; exact List.getElem_mem _
 exact (pF h0 hm).2.1
theorem alx {b : aO} (h : (bJ b).1 = none) : ∃ p ∈ (bJ b).2, p.1 = b.fP := by
 obtain ⟨h0, p, r, q, hps, hq, hfl⟩ := kW h
 have hw := (gK h0).2
 have hl : (aV b).2.length - 1 < (aV b).2.length := by rw [hps]; simp
 obtain ⟨x, hg⟩ : ∃ x, (aV b).2[(aV b).2.length - 1]? = some x := ⟨_, List.getElem?_eq_getElem hl⟩
 have hlast := hw.last _ hg
 rw [hps] at hg
 obtain ⟨a, ha⟩ := aeC q (jf b) (iW b) hg
 refine ⟨(x.2, a), ?_, hlast⟩
 rw [hfl]
 exact List.mem_of_getElem? ha
theorem amP {b : aO} (h : chk b = none) : 0 ≤ b.ex ∧ b.ex ≤ 30 := by
 unfold chk at h
 split at h <;> try (simp at h; done)
 split at h <;> try (simp at h; done)
 split at h <;> try (simp at h; done)
 split at h <;> try (simp at h; done)
 split at h <;> try (simp at h; done)
 split at h <;> try (simp at h; done)
 omega
theorem aew {α : Type} {f : α → Bool} : ∀ {l : List α}, l.dropWhile f = [] → ∀ x ∈ l, f x = true
 | [], _, x, h => by simp at h
 | y :: ys, h, x, hx => by
   simp only [List.dropWhile] at h
   split at h
   ·rename_i hy
    rcases List.mem_cons.1 hx with rfl | hx
    ·exact hy
    ·exact aew h x hx
   ·simp at h
theorem P5 : ∀ (done l : List (Int × Rat)), (dH (done ++ l)).drop (done.length * 2) = dH l := by
 intro done l
 rw [KD, ← zf done]
 exact List.drop_left
set_option maxHeartbeats 1000000 in
theorem P7 {b : aO} (hc : b.dX.length ≤ 1000000) (hr : b.dY.length ≤ 1000000) (s : Int) : L.call xE [aS b, .int .i64 s] = some (zO (leftB b s)) := by
 have hbc := fun n => g_ b n
 have hbl := l7 b
 have hbd := lZ b 0 10
 have hof := ZR (b := b) (pre := [.live (aN b)]) (k := 1) (.inr ⟨rfl, rfl⟩) hc hr
 have hb0 : (aN b)[0]? = some (.int .i64 b.issue) := rfl
 have hb1 : (aN b)[1]? = some (.int .i64 b.fP) := rfl
 have hb8 : (aN b)[8]? = some (.int .i64 b.ex) := rfl
 unfold leftB
 cases he : (bJ b).1 with
 | some e =>
   have hq : bJ b = (some e, (bJ b).2) := by rw [← he]
   rw [hq] at hof
   simp only [callOf] at hof
   have hcl := UK (some e) 0
   have hfz : ∀ m, fz 11 (dS (some e)) m = some (dS (some e), m) := by intro m; rcases e with ⟨c, _ | t⟩ <;> rfl
   simp only [zO, SI, dH, List.length_nil]
   unfold aS at hof ⊢
   generalize aN b = B at *
   have htkB : B.take 9 = B := List.take_of_length_le (by omega)
   rcases e with ⟨c, _ | t⟩
   ·simp only [dS] at *
    refine aJ uG rfl (uF ..) ?_
    simp [qV, hof, hbc, hbl, hbd, htkB]
   ·simp only [dS, eH] at *
    refine aJ uG rfl (uF ..) ?_
    simp [qV, hof, hbc, hbl, hbd, htkB]
 | none =>
   have hq : bJ b = (none, (bJ b).2) := by rw [← he]
   have hdays := alv he
   have hchk := fG (kW he).1
   have hlast := alx he
   have hex := amP hchk
   have hbr := Dy hc hr
   have htx := yG (Qr b) (by omega) (by omega)
   rw [hq] at hof
   simp only [callOf] at hof
   simp only
   have hlp := anp (b := b) (s := s) (bJ b).2 (bJ b).2 [] rfl
   have hfcl := fun n => wY (bJ b).2 n 11
   have hfll := zf (bJ b).2
   simp only [List.length_nil, Nat.zero_mul] at hlp
   have hlf0 : ∀ l, aqc b s l = if 0 < b.ex then match l with
    | [] => []
    | [p] => if p.1 - b.ex ≤ s then [(p.1, iW b)] else [p]
    | p :: q :: r => if p.1 - b.ex ≤ s then q :: r else p :: q :: r
    else l := fun l => rfl
   by_cases h1 : s < b.issue
   ·rw [if_pos (.inl h1)]
    simp only [zO, SI, dH, List.length_nil, dS]
    generalize dH (bJ b).2 = fc at *
    generalize (bJ b).2.length = N at *
    obtain ⟨i, m, fq, c, rd, n, st, e, ex⟩ := b
    unfold aS aN at *
    simp only at *
    simp at hof
    refine aJ uG rfl (uF ..) ?_
    simp [qV, hof, h1, bT]
   by_cases h2 : b.fP ≤ s
   ·rw [if_pos (.inr h2)]
    simp only [zO, SI, dH, List.length_nil, dS]
    generalize dH (bJ b).2 = fc at *
    generalize (bJ b).2.length = N at *
    obtain ⟨i, m, fq, c, rd, n, st, e, ex⟩ := b
    unfold aS aN at *
    simp only at *
    simp at hof
    refine aJ uG rfl (uF ..) ?_
    simp [qV, hof, h1, h2, bT]
   rw [if_neg (by omega)]
   have hex2 : ∃ p ∈ (bJ b).2, s < p.1 := by
    obtain ⟨p, hp, hpm⟩ := hlast
    exact ⟨p, hp, by omega⟩
   have hlp := hlp hex2
   generalize (bJ b).2 = fs at *
   obtain ⟨done, hdone⟩ : ∃ done, fs = done ++ fs.dropWhile (fun p => decide (p.1 ≤ s)) := ⟨fs.takeWhile _, (List.takeWhile_append_dropWhile).symm⟩
   have hne : fs.dropWhile (fun p => decide (p.1 ≤ s)) ≠ [] := by
    intro h
    obtain ⟨p, hp, hs⟩ := hex2
    have := aew h p hp
    simp at this
    omega
   generalize fs.dropWhile (fun p => decide (p.1 ≤ s)) = l at *
   have hlen : fs.length - l.length = done.length := by rw [hdone]; simp
   rw [hlen] at hlp
   have hdr := P5 done l
   rw [← hdone] at hdr
   have hlfc := zf l
   have hL2 : (dH fs).length = done.length * 2 + l.length * 2 := by rw [hfll, hdone]; simp; omega
   match l, hne with
   | p :: r, _ =>
     have hg := KE (l := fs) (i := done.length) (p := p) (by rw [hdone]; simp)
     have hpd := hdays p (by rw [hdone]; simp)
     obtain ⟨g1, g2, g3⟩ := hg
     have e1 : IntKind.i64.wrap (p.1 - b.ex) = p.1 - b.ex := wrap64 _ (by omega)
     have hrc := fun n => wY r n 11
     have hfzr : ∀ m, jV (fz 10) (dH fs) m = some (dH fs, m) := fun m => Y6 fs 9 m
     have hfzr2 : ∀ m, jV (fz 11) (dH fs) m = some (dH fs, m) := fun m => Y6 fs 10 m
     have htkl : ∀ l : List (Int × Rat), (dH l).take (l.length * 2) = dH l := fun l => List.take_of_length_le (by rw [zf]; omega)
     rw [hlf0]
     by_cases hx : 0 < b.ex
     ·rw [if_pos hx]
      by_cases hs : p.1 - b.ex ≤ s
      ·cases r with
       | nil =>
         simp only
         rw [if_pos hs]
         have hnew : (dH fs).set (done.length * 2 + 1) (.str (wH (iW b))) = dH (done ++ [(p.1, iW b)]) := by
          rw [hdone, KD, KD, ← zf done, List.set_append_right _ _ (by omega)]
          simp [dH]
         have hset := P5 done [(p.1, iW b)]
         rw [← hnew] at hset
         have hfz2 : ∀ m, jV (fz 10) ((dH fs).set (done.length * 2 + 1) (.str (wH (iW b)))) m = some ((dH fs).set (done.length * 2 + 1) (.str (wH (iW b))), m) := by
          intro m; rw [hnew]; exact Y6 _ 9 m
         have hcl2 : ∀ n, ((dH fs).set (done.length * 2 + 1) (.str (wH (iW b)))).all (D.clo n 12) = true := by
          intro n; rw [hnew]; exact wY _ n 11
         have hl2 : done.length * 2 + 2 ≤ ((dH fs).set (done.length * 2 + 1) (.str (wH (iW b)))).length := by rw [List.length_set]; omega
         simp only [zO, SI, dH, List.length_cons, List.length_nil, dS] at hset ⊢
         generalize iW b = rq at *
         generalize hfc : dH fs = fc at *
         generalize done.length * 2 = D2 at *
         have hltfc : D2 + 1 < fc.length := by omega
         obtain ⟨i, m, fq, c, rd, n, st, e, ex⟩ := b
         unfold aS aN at *
         simp only at *
         simp at hof hlp
         refine aJ uG rfl (uF ..) ?_
         simp [qV, hof, h1, h2, hlp, hx, hs, g1, e1, hbr, htx, hset, hfz2, hcl2, hl2, hfcl, g3, hltfc]
       | cons q r =>
         simp only
         rw [if_pos hs]
         have hd2 := P5 (done ++ [p]) (q :: r)
         rw [List.append_assoc, show [p] ++ q :: r = p :: q :: r from rfl, ← hdone, List.length_append, List.length_singleton, show (done.length + 1) * 2 = done.length * 2 + 2 by omega] at hd2
         have hb3 : done.length * 2 + 2 + (r.length + 1) * 2 ≤ (dH fs).length := by rw [hL2]; simp; omega
         have htk := htkl (q :: r)
         simp only [zO, SI, List.length_cons, dS] at htk ⊢
         rw [List.length_cons, List.length_cons] at hlp
         have hbn : jX true false (r.length + 1 + 1) [.int .i64 1] = some (1, r.length + 1 + 1) := by
          have : (1 : Int) ≤ (r.length : Int) + 1 + 1 := by omega
          simp [jX, bnd, this]
         generalize dH (q :: r) = fr at *
         generalize hfc : dH fs = fc at *
         generalize done.length * 2 = D2 at *
         generalize r.length = R at *
         have hR1 : (1 : Int) < (R : Int) + 1 + 1 := by omega
         have hR0 : (0 : Int) < (R : Int) + 1 + 1 := by omega
         have hR2 : 1 < R + 1 + 1 := by omega
         obtain ⟨i, m, fq, c, rd, n, st, e, ex⟩ := b
         unfold aS aN at *
         simp only at *
         simp at hof hlp
         refine aJ uG rfl (uF ..) ?_
         simp [qV, hof, h1, h2, hlp, hx, hs, g1, e1, hbn, hR1, hR0, hR2, hfzr, hfzr2, hfcl, hd2, hb3, htk]
      ·have hlf : (match p :: r with
        | [] => []
        | [p] => if p.1 - b.ex ≤ s then [(p.1, iW b)] else [p]
        | p :: q :: r => if p.1 - b.ex ≤ s then q :: r else p :: q :: r : List (Int × Rat)) = p :: r := by
        cases r with
        | nil => simp only; rw [if_neg hs]
        | cons q r => simp only; rw [if_neg hs]
       rw [hlf]
       have hb3 : done.length * 2 + (r.length + 1) * 2 ≤ (dH fs).length := by rw [hL2]; simp
       have htk := htkl (p :: r)
       simp only [zO, SI, List.length_cons, dS] at htk ⊢
       rw [List.length_cons] at hlp
       generalize dH (p :: r) = fr at *
       generalize hfc : dH fs = fc at *
       generalize done.length * 2 = D2 at *
       generalize r.length = R at *
       have hR0 : (0 : Int) < (R : Int) + 1 := by omega
       obtain ⟨i, m, fq, c, rd, n, st, e, ex⟩ := b
       unfold aS aN at *
       simp only at *
       simp at hof hlp
       refine aJ uG rfl (uF ..) ?_
       simp [qV, hof, h1, h2, hlp, hx, hs, g1, e1, hR0, hfzr, hfzr2, hfcl, hdr, hb3, htk]
     ·rw [if_neg hx]
      have hb3 : done.length * 2 + (r.length + 1) * 2 ≤ (dH fs).length := by rw [hL2]; simp
      have htk := htkl (p :: r)
      simp only [zO, SI, List.length_cons, dS] at htk ⊢
      rw [List.length_cons] at hlp
      generalize dH (p :: r) = fr at *
      generalize hfc : dH fs = fc at *
      generalize done.length * 2 = D2 at *
      generalize r.length = R at *
      obtain ⟨i, m, fq, c, rd, n, st, e, ex⟩ := b
      unfold aS aN at *
      simp only at *
      simp at hof hlp
      refine aJ uG rfl (uF ..) ?_
      simp [qV, hof, h1, h2, hlp, hx, hfzr, hfzr2, hfcl, hdr, hb3, htk]
end Go.Ev.Code
end
