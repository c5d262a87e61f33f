/- A part of the proof of priceFalls_card, riskSigns_card, yieldBack_card, yieldEdge_card, yieldFalls_card. -/
import Derived.Test.YtnokhmkkpcfilabGreatDoorCSpD3
import Derived.Test.YtnokhmkkpcfilabGreatDoorCSpD1
set_option linter.unusedVariables false
set_option linter.unusedSimpArgs false
section
namespace Go.Ev.Code
open Go Go.Ev
def vN (x : Rat) : List Rat → Rat
 | [] => 0
 | r :: t => r + x * vN x t
theorem ani {n d : Int} (hn : n ≠ 0) : ∀ l : List Int, (hs n d l).2 ≠ 0
 | [] => by simp [hs]
 | a :: t => by simp only [hs]; exact Int.mul_ne_zero (ani hn t) hn
theorem ah' (r : Rat) : (r.num : Rat) = r * (r.den : Rat) := by
 have hd : ((r.den : Nat) : Rat) ≠ 0 := by
  intro h
  rw [← Rat.intCast_natCast] at h
  have := Rat.intCast_eq_zero_iff.1 h
  have := r.den_nz
  omega
 have h : r = (r.num : Rat) / (r.den : Rat) := by
  rw [← Rat.intCast_natCast, ← Rat.divInt_eq_div]
  exact (Rat.num_divInt_den r).symm
 generalize (r.num : Rat) = n at *
 generalize (r.den : Rat) = d at *
 rw [h]
 exact (Rat.div_mul_cancel hd).symm
theorem aq_ {A P H E Z : Rat} (hA : A ≠ 0) (hP : P ≠ 0) (hE : E ≠ 0) (hZ : Z ≠ 0) : A * P * H * E / (A * P * (E * Z)) = H / Z := by grind
theorem ajX {A : Nat} {r : Rat} (h : r.den ∣ A) : ((r.num * ((A / r.den : Nat) : Int) : Int) : Rat) = r * (A : Rat) := by
 obtain ⟨k, rfl⟩ := h
 have hd : r.den ≠ 0 := r.den_nz
 rw [Nat.mul_div_cancel_left _ (by omega)]
 have h1 := ah' r
 rw [Rat.intCast_mul, h1, Rat.natCast_mul, Rat.intCast_natCast]
 grind
theorem anj {n d : Int} {A : Nat} {x : Rat} (hx : x * (n : Rat) = (d : Rat)) : ∀ (l : List Rat), (∀ r ∈ l, r.den ∣ A) → (((hs n d (bD A l)).1 : Int) : Rat) * (n : Rat) = (A : Rat) * vN x l * (((hs n d (bD A l)).2 : Int) : Rat)
 | [], _ => by simp only [bD, List.map_nil, hs, vN]; show ((0 : Int) : Rat) * _ = _; rw [Rat.intCast_zero]; grind
 | r :: t, h => by
   have ih := anj hx t (fun q hq => h q (by simp [hq]))
   have hr := ajX (h r (by simp))
   unfold bD at ih ⊢
   simp only [List.map_cons, hs, vN] at ih ⊢
   rw [Rat.intCast_mul] at hr
   rw [Rat.intCast_add, Rat.intCast_mul, Rat.intCast_mul, Rat.intCast_mul, Rat.intCast_mul, hr]
   generalize ((hs n d (List.map (fun r => r.num * ((A / r.den : Nat) : Int)) t)).1 : Rat) = s at *
   generalize ((hs n d (List.map (fun r => r.num * ((A / r.den : Nat) : Int)) t)).2 : Rat) = p at *
   generalize vN x t = H at *
   generalize (n : Rat) = N at *
   generalize (d : Rat) = E at *
   generalize (A : Rat) = B at *
   subst hx
   grind
theorem arX {n d : Int} {A : Nat} {x : Rat} (hn : n ≠ 0) (hx : x * (n : Rat) = (d : Rat)) {l : List Rat} (hne : l ≠ []) (h : ∀ r ∈ l, r.den ∣ A) :
  (((hs n d (bD A l)).1 : Int) : Rat) = (A : Rat) * (((hs n d (bD A l).tail).2 : Int) : Rat) * vN x l := by
 have h1 := anj hx l h
 have hn0 : (n : Rat) ≠ 0 := fun h => hn (Rat.intCast_eq_zero_iff.1 h)
 match l, hne with
 | r :: t, _ =>
   have e : ((hs n d (bD A (r :: t))).2 : Int) = (hs n d (bD A (r :: t)).tail).2 * n := rfl
   rw [e, Rat.intCast_mul] at h1
   generalize ((hs n d (bD A (r :: t))).1 : Rat) = s at *
   generalize ((hs n d (bD A (r :: t)).tail).2 : Rat) = p at *
   generalize vN x (r :: t) = H at *
   have : (s - (A : Rat) * p * H) * (n : Rat) = 0 := by grind
   rcases Rat.mul_eq_zero.1 this with h2 | h2
   ·grind
   ·exact absurd h2 hn0
def bK (b : aO) : Int := 100000000 * b.eU
def mQ (b : aO) (s y : Int) : Int := ((dZ b s).den : Int) * bK b + (dZ b s).num * y
def BL (b : aO) (y : Int) : Rat := (bK b : Rat) / ((bK b + y : Int) : Rat)
def bn (b : aO) (s y : Int) : Rat := vN (BL b y) (dG b s) / (1 + dZ b s * ((y : Rat) / (bK b : Rat)))
def kV (b : aO) (s y : Int) : Except Er Rat := match (leftB b s).1 with
 | some e => .error (some e)
 | none => if y < -2000000 ∨ 100000000 < y then .error (some (2, none)) else if fQ b s = 0 ∨ mQ b s y ≤ 0 then .error (some (3, none)) else .ok (bn b s y)
def lY : Except Er Rat → D
 | .ok q => .aZ [bF q, .aF]
 | .error e => .aZ [.aK, dS e]
theorem adk {b : aO} {s : Int} (h : (leftB b s).1 = none) : (∀ r ∈ dG b s, RB 2200 r) ∧ (dG b s).length ≤ 200 ∧ dG b s ≠ [] := by
 obtain ⟨f0, h2, h3, h4⟩ := gY h
 obtain ⟨d1, d2, d3, d4, d5, d6⟩ := vX h
 obtain ⟨k, k1, k2, k3, k4⟩ := Ba h2 h3 h4
 have hplen := (gK h2).2.len
 have hklt : k < (aV b).2.length := (List.getElem?_eq_some_iff.1 k2).1
 have hflen := MO f0
 have hrb := aas f0
 have hpB := OW f0 d6
 obtain ⟨a, ha⟩ : ∃ a : Nat, a = 600 := ⟨_, rfl⟩
 obtain ⟨c, hc⟩ : ∃ c : Nat, c = 1500 := ⟨_, rfl⟩
 obtain ⟨e, he⟩ : ∃ e : Nat, e = 2200 := ⟨_, rfl⟩
 rw [← ha] at hpB
 rw [← hc] at hrb
 rw [← he]
 unfold dG
 rw [k1, Int.toNat_natCast]
 have hl : (((bJ b).2.drop k).map Prod.snd).length = (aV b).2.length - k := by rw [List.length_map, List.length_drop, hflen]
 have hall : ∀ r ∈ ((bJ b).2.drop k).map Prod.snd, RB c r := by
  intro r hr
  obtain ⟨p, hp, rfl⟩ := List.mem_map.1 hr
  exact hrb p (List.mem_of_mem_drop hp)
 generalize ((bJ b).2.drop k).map Prod.snd = l at *
 match l, hl, hall with
 | [], hl, _ => simp at hl; omega
 | x :: t, hl, hall =>
   split
   ·simp only [VG]
    refine ⟨fun r hr => ?_, ?_, by simp⟩
    ·rcases List.mem_cons.1 hr with rfl | hr
     ·exact ((hall x (by simp)).sub hpB).mono (by omega)
     ·exact (hall r (by simp [hr])).mono (by omega)
    ·simp at hl ⊢; omega
   ·exact ⟨fun r hr => (hall r hr).mono (by omega), by omega, by simp⟩
theorem ahR : ∀ {l : List Rat} {a M : Nat}, a ∣ M → (∀ r ∈ l, r.den ∣ M) → dJ a l ∣ M
 | [], a, M, h, _ => h
 | r :: t, a, M, h, hl => by
   refine ahR (l := t) ?_ (fun q hq => hl q (by simp [hq]))
   have : a * (r.den / Nat.gcd a r.den) = Nat.lcm a r.den := by
    unfold Nat.lcm
    exact (Nat.mul_div_assoc _ (Nat.gcd_dvd_right _ _)).symm
   rw [this]
   exact Nat.lcm_dvd h (hl r (by simp))
theorem ads {n d : Int} (h : d ≠ 0) : (Rat.divInt n d).den ∣ d.natAbs := by
 rw [Rat.den_divInt, if_neg h]
 exact Nat.div_dvd_of_dvd (Nat.gcd_dvd_left _ _)
theorem ajv (a c : Rat) : (a + c).den ∣ a.den * c.den := by
 rw [add_eq a c]
 have := ads (n := a.num * c.den + c.num * a.den) (Yi (a := a) (b := c))
 rw [Int.natAbs_mul] at this
 simpa using this
theorem aeW (each red : Rat) : ∀ (l : List (Int × Int)), ∀ x ∈ lM each red l, x.2.den ∣ each.den * red.den
 | [], x, h => by simp [lM] at h
 | [p], x, h => by simp [lM] at h; subst h; exact ajv each red
 | p :: q :: r, x, h => by
   simp only [lM, List.mem_cons] at h
   rcases h with rfl | h
   ·exact Nat.dvd_mul_right _ _
   ·exact aeW each red (q :: r) x (by simpa [lM] using h)
theorem ao7 {b : aO} (h : (bJ b).1 = none) : ∀ x ∈ (bJ b).2.tail, x.2.den ∣ (jf b).den * (iW b).den := by
 obtain ⟨h0, p, r, q, hps, hq, hfl⟩ := kW h
 rw [hfl]
 match r with
 | [] => intro x hx; simp [rG] at hx
 | y :: r =>
   intro x hx
   simp only [rG, List.tail_cons] at hx
   exact aeW _ _ _ x hx
theorem akv {b : aO} {s : Int} (h : (leftB b s).1 = none) : NB 3100 (dJ 1 (dG b s)) := by
 obtain ⟨f0, h2, h3, h4⟩ := gY h
 obtain ⟨k, k1, k2, k3, k4⟩ := Ba h2 h3 h4
 obtain ⟨hall, hlen, hne⟩ := adk h
 have hf := fU (dK (fG h2)).2.1
 have htail : ∀ r ∈ (dG b s).tail, r.den ∣ (jf b).den * (iW b).den := by
  have hd : ∀ r ∈ (((bJ b).2.drop k).map Prod.snd).tail, r.den ∣ (jf b).den * (iW b).den := by
   intro r hr
   rw [← List.map_tail, List.tail_drop] at hr
   obtain ⟨x, hx, rfl⟩ := List.mem_map.1 hr
   refine ao7 f0 x ?_
   rw [← List.drop_tail] at hx
   exact List.mem_of_mem_drop hx
  unfold dG
  rw [k1, Int.toNat_natCast]
  generalize ((bJ b).2.drop k).map Prod.snd = l at *
  split
  ·match l with
   | [] => exact hd
   | x :: t => exact hd
  ·exact hd
 have hrp := Tn hf
 have hrd := Qr b
 obtain ⟨c1, hc1⟩ : ∃ c : Nat, c = 464 := ⟨_, rfl⟩
 obtain ⟨c2, hc2⟩ : ∃ c : Nat, c = 400 := ⟨_, rfl⟩
 rw [← hc1] at hrp
 rw [← hc2] at hrd
 have hE : NB (c1 + c2) ((jf b).den * (iW b).den) := hrp.2.mul hrd.2
 have hE0 : 0 < (jf b).den * (iW b).den := Nat.mul_pos (jf b).den_pos (iW b).den_pos
 obtain ⟨K, hK⟩ : ∃ K : Nat, K = 2200 := ⟨_, rfl⟩
 obtain ⟨J, hJ⟩ : ∃ J : Nat, J = 3100 := ⟨_, rfl⟩
 rw [← hK] at hall
 rw [← hJ]
 generalize (jf b).den * (iW b).den = E at *
 match dG b s, hne, hall, htail with
 | x :: t, _, hall, htail =>
   have hx := (hall x (by simp)).2
   have hm : dJ 1 (x :: t) ∣ x.den * E := ahR (Nat.one_dvd _) (fun r hr => by
    rcases List.mem_cons.1 hr with rfl | hr
    ·exact Nat.dvd_mul_right _ _
    ·exact Nat.dvd_trans (htail r hr) (Nat.dvd_mul_left _ _))
   have hp : 0 < x.den * E := Nat.mul_pos x.den_pos hE0
   exact ((hx.mul hE).le (Nat.le_of_dvd hp hm)).mono (by omega)
theorem D8 {b : aO} (hf : yT b.eU) {y : Int} (h1 : -2000000 ≤ y) (h2 : y ≤ 100000000) : IB 40 (bK b) ∧ IB 40 (bK b + y) ∧ IB 40 y ∧ 0 < bK b ∧ 0 < bK b + y := by
 have hb : 100000000 ≤ bK b ∧ bK b ≤ 1200000000 := by
  unfold bK
  rcases hf with h | h | h | h <;> rw [h] <;> decide
 refine ⟨?_, ?_, ?_, by omega, by omega⟩ <;> (unfold IB NB; have : (2 : Nat) ^ 40 = 1099511627776 := by decide) <;> omega
theorem EP {b : aO} (hc : b.dX.length ≤ 1000000) (hr : b.dY.length ≤ 1000000) (s : Int) {y : Int} (hy : -9223372036854775808 ≤ y ∧ y ≤ 9223372036854775807) :
  L.call jo [aS b, .int .i64 s, .int .i64 y] = some (lY (kV b s y)) ∧ (∀ q, kV b s y = .ok q → RB 15000 q) := by
 have hl := aaX hc hr s
 have hwt := WO hc hr s
 unfold aot at hl
 unfold kV
 cases he : (leftB b s).1 with
 | some e =>
   refine ⟨?_, fun q h => by simp at h⟩
   rw [he] at hl
   simp only [lY]
   obtain ⟨i, m, fq, c, rd, n, st, en, ex⟩ := b
   unfold aS aN at *
   simp only at *
   rcases e with ⟨c, _ | t⟩
   ·simp only [dS] at *
    refine aJ wW rfl (wV ..) ?_
    simp [pJ, hl]
   ·simp only [dS, eH] at *
    refine aJ wW rfl (wV ..) ?_
    simp [pJ, hl]
 | none =>
   rw [he] at hl
   simp only
   by_cases hr1 : y < -2000000 ∨ 100000000 < y
   ·rw [if_pos hr1]
    refine ⟨?_, fun q h => by simp at h⟩
    simp only [lY, dS]
    unfold oL at hl
    generalize eG (dG b s) = rc at *
    generalize (dG b s).length = N at *
    obtain ⟨i, m, fq, c, rd, n, st, en, ex⟩ := b
    unfold aS aN at *
    simp only at *
    refine aJ wW rfl (wV ..) ?_
    by_cases h1 : y < -2000000
    ·simp [pJ, hl, h1, bT]
    ·have h2 : 100000000 < y := by omega
     simp [pJ, hl, h1, h2, bT]
   rw [if_neg hr1]
   have hy1 : ¬ y < -2000000 := by omega
   have hy2 : ¬ 100000000 < y := by omega
   unfold agJ at hwt
   rw [he] at hwt
   simp only at hwt
   by_cases h0 : fQ b s = 0
   ·rw [if_pos h0] at hwt
    rw [if_pos (.inl h0)]
    refine ⟨?_, fun q h => by simp at h⟩
    simp only [lY, dS]
    unfold oL at hl
    generalize eG (dG b s) = rc at *
    generalize (dG b s).length = N at *
    obtain ⟨i, m, fq, c, rd, n, st, en, ex⟩ := b
    unfold aS aN at *
    simp only at *
    refine aJ wW rfl (wV ..) ?_
    simp [pJ, hl, hy1, hy2, hwt]
   rw [if_neg h0] at hwt
   have hf := fU (dK (fG (gY he).2.1)).2.1
   obtain ⟨gB, nB, yB, g0, n0⟩ := D8 hf (y := y) (by omega) (by omega)
   have hwB := aiO he h0
   obtain ⟨hall, hlen, hne⟩ := adk he
   obtain ⟨W, hW⟩ : ∃ W : Nat, W = 700 := ⟨_, rfl⟩
   obtain ⟨K, hK⟩ : ∃ K : Nat, K = 2200 := ⟨_, rfl⟩
   rw [← hW] at hwB
   rw [← hK] at hall
   have hKl : K * (dG b s).length ≤ 440000 := by rw [hK]; omega
   have hsum := acd hne (by omega) hall nB gB (by omega)
   have hgz : 100000000 * b.eU = bK b := rfl
   have o1 := l9 100000000 (by omega)
   have o2 := l9 b.eU (by rcases hf with h | h | h | h <;> omega)
   have o3 := l9 y hy
   have m1 := dL (a := 100000000) (b := b.eU) (eF (by omega)) (eF (by rcases hf with h | h | h | h <;> omega)) (by omega) (by omega)
   rw [hgz] at m1
   have m2 := qP gB yB (by omega) (by omega)
   have m3 := dL hwB.den gB (by omega) (by omega)
   have m4 := dL hwB.num yB (by omega) (by omega)
   have m5 := qP (hwB.den.mul gB) (hwB.num.mul yB) (by omega) (by omega)
   have haz : ((dZ b s).den : Int) * bK b + (dZ b s).num * y = mQ b s y := rfl
   have aB := (hwB.den.mul gB).add (hwB.num.mul yB)
   rw [haz] at m5 aB
   have h1n : NB 1 1 := by unfold NB; decide
   have hA := akv he
   obtain ⟨J, hJ⟩ : ∃ J : Nat, J = 3100 := ⟨_, rfl⟩
   rw [← hJ] at hA
   have hab := VR hA hall
   have hnl : (bD (dJ 1 (dG b s)) (dG b s)).length = (dG b s).length := by simp [bD]
   have sB := (SN nB gB hab).1
   have pB := (SN nB gB (l := (bD (dJ 1 (dG b s)) (dG b s)).tail) (fun a ha => hab a (List.mem_of_mem_tail ha))).2
   have htl : (bD (dJ 1 (dG b s)) (dG b s)).tail.length ≤ 200 := by rw [List.length_tail, hnl]; omega
   have bB := (IB.ofNat hA).mul pB
   rw [hnl] at sB
   have m6 := dL sB (hwB.den.mul gB) (by omega) (by omega)
   have m7 := dL bB aB (by omega) (by omega)
   have hden := xX (dZ b s)
   have hnum := JV (dZ b s)
   have hsg := Me (mQ b s y)
   by_cases ha : mQ b s y ≤ 0
   ·rw [if_pos (.inr ha)]
    refine ⟨?_, fun q h => by simp at h⟩
    simp only [lY, dS]
    have hsl : (mQ b s y).sign ≤ 0 := by
     rcases Int.lt_trichotomy (mQ b s y) 0 with h | h | h
     ·rw [Int.sign_eq_neg_one_of_neg h]; omega
     ·rw [h]; decide
     ·omega
    generalize (mQ b s y).sign = sg at *
    generalize mQ b s y = az at *
    generalize (dZ b s).num * y = wy at *
    generalize ((dZ b s).den : Int) * bK b = wd at *
    generalize bK b + y = ny at *
    generalize bK b = gz at *
    generalize hs ny gz (bD (dJ 1 (dG b s)) (dG b s)) = r1 at *
    generalize hs ny gz (bD (dJ 1 (dG b s)) (dG b s)).tail = r2 at *
    generalize ((dJ 1 (dG b s) : Nat) : Int) * r2.2 = by1 at *
    generalize (dZ b s) = w at *
    unfold oL at *
    generalize eG (dG b s) = rc at *
    generalize (dG b s).length = N at *
    obtain ⟨i, m, fq, c, rd, n, st, en, ex⟩ := b
    unfold aS aN at *
    simp only at *
    refine aJ wW rfl (wV ..) ?_
    simp [pJ, hl, hy1, hy2, hwt, o1, o2, o3, m1, m2, hsum, hden, hnum, m3, m4, m5, hsg, hsl, bT]
   ·rw [if_neg (by intro h; rcases h with h | h; exact h0 h; exact ha h)]
    have hA0 := VI (l := dG b s) (a := 1) (by omega)
    have hp0 := ani (n := bK b + y) (d := bK b) (by omega) (bD (dJ 1 (dG b s)) (dG b s)).tail
    have hby : ((dJ 1 (dG b s) : Nat) : Int) * (hs (bK b + y) (bK b) (bD (dJ 1 (dG b s)) (dG b s)).tail).2 ≠ 0 := Int.mul_ne_zero (by omega) hp0
    have hnz := Int.mul_ne_zero hby (show mQ b s y ≠ 0 by omega)
    have hnew := uw (sB.mul (hwB.den.mul gB)) (bB.mul aB) (by omega) (by omega) hnz
    have hRB : RB 15000 (Rat.divInt ((hs (bK b + y) (bK b) (bD (dJ 1 (dG b s)) (dG b s))).1 * (((dZ b s).den : Int) * bK b)) (((dJ 1 (dG b s) : Nat) : Int) * (hs (bK b + y) (bK b) (bD (dJ 1 (dG b s)) (dG b s)).tail).2 * mQ b s y)) :=
     iH ((sB.mul (hwB.den.mul gB)).mono (by omega)) ((bB.mul aB).mono (by omega)) hnz
    have hval : Rat.divInt ((hs (bK b + y) (bK b) (bD (dJ 1 (dG b s)) (dG b s))).1 * (((dZ b s).den : Int) * bK b)) (((dJ 1 (dG b s) : Nat) : Int) * (hs (bK b + y) (bK b) (bD (dJ 1 (dG b s)) (dG b s)).tail).2 * mQ b s y) = bn b s y := by
     have hx : BL b y * ((bK b + y : Int) : Rat) = (bK b : Rat) := by
      have : ((bK b + y : Int) : Rat) ≠ 0 := fun h => by have := Rat.intCast_eq_zero_iff.1 h; omega
      unfold BL
      exact Rat.div_mul_cancel this
     have hsv := arX (n := bK b + y) (d := bK b) (A := dJ 1 (dG b s)) (by omega) hx hne (fun r hr => ahQ r hr)
     rw [← Rat.intCast_natCast (dJ 1 (dG b s))] at hsv
     have hq1 : ((((dJ 1 (dG b s) : Nat) : Int) : Rat)) ≠ 0 := fun h => by have := Rat.intCast_eq_zero_iff.1 h; omega
     have hq2 : (((hs (bK b + y) (bK b) (bD (dJ 1 (dG b s)) (dG b s)).tail).2 : Int) : Rat) ≠ 0 := fun h => hp0 (Rat.intCast_eq_zero_iff.1 h)
     have hq3 : ((mQ b s y : Int) : Rat) ≠ 0 := fun h => by have := Rat.intCast_eq_zero_iff.1 h; omega
     have hq4 : ((bK b : Int) : Rat) ≠ 0 := fun h => by have := Rat.intCast_eq_zero_iff.1 h; omega
     have hq5 : (((dZ b s).den : Int) : Rat) ≠ 0 := fun h => by have := Rat.intCast_eq_zero_iff.1 h; have := (dZ b s).den_nz; omega
     have hwn : dZ b s * (((dZ b s).den : Int) : Rat) = ((dZ b s).num : Rat) := by
      rw [Rat.intCast_natCast]; exact (ah' (dZ b s)).symm
     have haq : ((mQ b s y : Int) : Rat) = (((dZ b s).den : Int) : Rat) * (bK b : Rat) + ((dZ b s).num : Rat) * (y : Rat) := by
      unfold mQ
      rw [Rat.intCast_add, Rat.intCast_mul, Rat.intCast_mul]
     rw [Rat.divInt_eq_div, Rat.intCast_mul, Rat.intCast_mul, Rat.intCast_mul, Rat.intCast_mul, hsv]
     unfold bn
     generalize ((((dJ 1 (dG b s) : Nat) : Int) : Rat)) = A at *
     generalize ((hs (bK b + y) (bK b) (bD (dJ 1 (dG b s)) (dG b s)).tail).2 : Rat) = P at *
     generalize vN (BL b y) (dG b s) = H at *
     rw [haq] at hq3 ⊢
     generalize (((dZ b s).den : Int) : Rat) = wd at *
     generalize ((dZ b s).num : Rat) = wn at *
     generalize dZ b s = w at *
     generalize ((bK b : Int) : Rat) = G at *
     generalize (y : Rat) = Y at *
     subst hwn
     have e1 : wd * G + w * wd * Y = wd * G * (1 + w * (Y / G)) := by grind
     rw [e1] at hq3 ⊢
     have hq6 : 1 + w * (Y / G) ≠ 0 := fun h => hq3 (by rw [h]; grind)
     generalize 1 + w * (Y / G) = Z at *
     have hE : wd * G ≠ 0 := fun h => hq3 (by rw [h]; grind)
     exact aq_ hq1 hq2 hE hq6
    refine ⟨?_, fun q h => by simp at h; rw [← h, ← hval]; exact hRB⟩
    simp only [lY]
    rw [hval] at hnew
    have hsl : ¬ (mQ b s y).sign ≤ 0 := by
     rw [Int.sign_eq_one_of_pos (by omega)]; omega
    generalize bn b s y = res at *
    generalize (mQ b s y).sign = sg at *
    generalize mQ b s y = az at *
    generalize (dZ b s).num * y = wy at *
    generalize ((dZ b s).den : Int) * bK b = wd at *
    generalize bK b + y = ny at *
    generalize bK b = gz at *
    generalize hs ny gz (bD (dJ 1 (dG b s)) (dG b s)) = r1 at *
    generalize hs ny gz (bD (dJ 1 (dG b s)) (dG b s)).tail = r2 at *
    generalize ((dJ 1 (dG b s) : Nat) : Int) * r2.2 = by1 at *
    generalize by1 * az = ba at *
    generalize r1.1 * wd = rw1 at *
    generalize (dZ b s) = w at *
    unfold oL at *
    generalize eG (dG b s) = rc at *
    generalize (dG b s).length = N at *
    obtain ⟨i, m, fq, c, rd, n, st, en, ex⟩ := b
    unfold aS aN at *
    simp only at *
    refine aJ wW rfl (wV ..) ?_
    simp [pJ, hl, hy1, hy2, hwt, o1, o2, o3, m1, m2, hsum, hden, hnum, m3, m4, m5, hsg, hsl, m6, m7, hnew]
theorem TM {b : aO} {s y : Int} {e : Er} (h : kV b s y = .error e) : e ≠ none := by
 unfold kV at h
 split at h
 ·simp at h; rw [← h]; simp
 ·split at h
  ·simp at h; rw [← h]; simp
  ·split at h
   ·simp at h; rw [← h]; simp
   ·simp at h
theorem ZQ {b : aO} {s y : Int} {q : Rat} (h : kV b s y = .ok q) : (leftB b s).1 = none := by
 unfold kV at h
 split at h
 ·simp at h
 ·assumption
end Go.Ev.Code
end
section
namespace Go.Ev.Code
open Go Go.Ev
def FN (b : aO) (s y : Int) : Except Er Rat := match kV b s y with
 | .error e => .error e
 | .ok q => .ok (q - pO b s)
theorem qB {b : aO} (hc : b.dX.length ≤ 1000000) (hr : b.dY.length ≤ 1000000) (s : Int) {y : Int} (hy : -9223372036854775808 ≤ y ∧ y ≤ 9223372036854775807) :
  L.call fV [aS b, .int .i64 s, .int .i64 y] = some (lY (FN b s y)) ∧ (∀ q, FN b s y = .ok q → RB 17000 q) := by
 obtain ⟨hd, hdB⟩ := EP hc hr s hy
 unfold FN
 cases he : kV b s y with
 | error e =>
   refine ⟨?_, fun q h => by simp at h⟩
   rw [he] at hd
   simp only [lY] at *
   have hne := TM he
   obtain ⟨i, m, fq, c, rd, n, st, en, ex⟩ := b
   unfold aS aN at *
   simp only at *
   rcases e with _ | ⟨c, _ | t⟩
   ·exact absurd rfl hne
   ·simp only [dS] at *
    refine aJ Nw rfl (Ns ..) ?_
    simp [Hy, hd]
   ·simp only [dS, eH] at *
    refine aJ Nw rfl (Ns ..) ?_
    simp [Hy, hd]
 | ok q =>
   rw [he] at hd
   have hl := ZQ he
   have ha := amD hl hc hr
   have haB := aqw hl
   obtain ⟨j, hj⟩ : ∃ j : Nat, j = 1400 := ⟨_, rfl⟩
   rw [← hj] at haB
   have hqB := hdB q he
   have hsub := uy hqB haB (by omega)
   refine ⟨?_, fun r h => by simp at h; rw [← h]; exact (hqB.sub haB).mono (by omega)⟩
   simp only [lY] at *
   generalize q - pO b s = v at *
   generalize pO b s = a at *
   obtain ⟨i, m, fq, c, rd, n, st, en, ex⟩ := b
   unfold aS aN at *
   simp only at *
   refine aJ Nw rfl (Ns ..) ?_
   simp [Hy, hd, ha, hsub]
end Go.Ev.Code
end
section
namespace Go.Ev.Code
open Go Go.Ev
theorem asx {y : Nat} (h : 1900 ≤ y) (k : Nat) : fO y + 365 * k ≤ fO (y + k) := by
 induction k with
 | zero => simp only [Nat.mul_zero, Nat.add_zero]; exact Nat.le_refl _
 | succ k ih =>
   have h2 := PS (y := y + k) (by omega)
   have h3 := alg (y + k)
   have h4 : 365 ≤ fJ (y + k) 12 := by rw [h3]; split <;> omega
   rw [show y + (k + 1) = y + k + 1 from rfl, h2, Nat.mul_succ, ← Nat.add_assoc]
   exact Nat.add_le_add ih h4
end Go.Ev.Code
end
section
namespace Go.Ev.Code
open Go Go.Ev
theorem alb {y : Nat} (h : 1900 ≤ y) (k : Nat) : fO (y + k) ≤ fO y + 366 * k := by
 induction k with
 | zero => simp only [Nat.mul_zero, Nat.add_zero]; exact Nat.le_refl _
 | succ k ih =>
   have h2 := PS (y := y + k) (by omega)
   have h4 := (aoU (y + k)).1
   rw [show y + (k + 1) = y + k + 1 from rfl, h2, Nat.mul_succ, ← Nat.add_assoc]
   exact Nat.add_le_add ih h4
theorem aoV (y m : Nat) (h1 : 1 ≤ m) (h2 : m ≤ 12) : fJ y (m - 1) + f_ y m ≤ 366 := by
 have hm : m = 1 ∨ m = 2 ∨ m = 3 ∨ m = 4 ∨ m = 5 ∨ m = 6 ∨ m = 7 ∨ m = 8 ∨ m = 9 ∨ m = 10 ∨ m = 11 ∨ m = 12 := by omega
 have f2 : f_ y 2 ≤ 29 := by
  show (if leap y = true then 29 else 28) ≤ 29
  split <;> omega
 rcases hm with rfl | rfl | rfl | rfl | rfl | rfl | rfl | rfl | rfl | rfl | rfl | rfl <;> simp only [fJ, Nat.reduceSub, Nat.reduceAdd] <;> (generalize hg : f_ y 2 = g at *) <;> simp only [f_] at * <;> omega
theorem aoX {a b : Int} (ha : bU a) (hb : bU b) (h : mi b ≤ mi a + 361) : b ≤ a + 12100 := by
 obtain ⟨y, m, d, hc, rfl, _⟩ := ig ha
 obtain ⟨y', m', d', hc', rfl, _⟩ := ig hb
 rw [JH hc, JH hc'] at h
 have a1 := hc.y1; have a2 := hc.m1; have a3 := hc.m2; have a5 := hc'.m1; have a6 := hc'.m2
 have g1 := aoV y' m' a5 a6
 have g2 := hc'.d2
 have g3 := hc.d1
 have hy : y' ≤ y + 31 := by omega
 have g4 : fO y' ≤ fO y + 11346 := by
  rcases Nat.lt_or_ge y' y with h1 | h1
  ·obtain ⟨k, rfl⟩ : ∃ k, y = y' + k := ⟨y - y', by omega⟩
   have := asx hc'.y1 k
   exact Nat.le_trans (Nat.le_trans (Nat.le_add_right _ _) this) (Nat.le_add_right _ _)
  ·obtain ⟨k, rfl⟩ : ∃ k, y' = y + k := ⟨y' - y, by omega⟩
   have := alb a1 k
   refine Nat.le_trans this (Nat.add_le_add_left ?_ _)
   omega
 have e1 : dayOf y' m' d' = fO y' + fJ y' (m' - 1) + d' - 1 := rfl
 have e2 : dayOf y m d = fO y + fJ y (m - 1) + d - 1 := rfl
 generalize dayOf y' m' d' = u at *
 generalize dayOf y m d = v at *
 generalize fO y' = b1 at *
 generalize fO y = b0 at *
 generalize fJ y' (m' - 1) = c1 at *
 generalize fJ y (m - 1) = c0 at *
 generalize f_ y' m' = ml at *
 omega
theorem thirty {b : aO} (h : chk b = none) : mi b.fP ≤ mi b.issue + 360 ∧ bU b.issue ∧ bU b.fP := by
 have hd := (dK h).1
 unfold RI at hd
 split at hd
 ·simp at hd
 ·rename_i h1
  split at hd
  ·simp at hd
  ·rename_i h2
   have i1 : bU b.issue := Classical.not_not.1 h1
   have i2 : bU b.fP := Classical.not_not.1 h2
   refine ⟨?_, i1, i2⟩
   have hb := Y9 i2
   have hbi := Y9 i1
   split at hd
   ·simp at hd
   ·cases ha : yY b.issue 360 false with
    | none =>
      rcases Nat.lt_or_ge (mi b.issue + 360) 26401 with h4 | h4
      ·obtain ⟨r, hr⟩ := amE (day := b.issue) (n := 360) false i1 (by omega) (by omega)
       rw [hr] at ha; simp at ha
      ·omega
    | some e =>
      rw [ha] at hd
      simp only at hd
      split at hd
      ·simp at hd
      ·have hm := YW ha
       have he : bU e := aaj ha
       have := Y_ i2 he (by omega)
       omega
def d30 (a : Int) : Int := 30 * (mi a : Int) + min ((kL a.toNat).2.2 : Int) 30
theorem RH (a b : Int) : XV a b = d30 b - d30 a := by
 unfold XV d30 mi
 omega
theorem aoW {a b : Int} (ha : bU a) (hb : bU b) (h : a ≤ b) : d30 a ≤ d30 b := by
 have hm := Y_ ha hb h
 obtain ⟨y, m, d, hc, rfl, o1⟩ := ig ha
 obtain ⟨y', m', d', hc', rfl, o2⟩ := ig hb
 unfold d30
 rw [o1, o2]
 have e1 := JH hc
 have e2 := JH hc'
 have b1 := hc.d1; have b2 := hc.d2; have b3 := hc'.d1; have b4 := hc'.d2
 have l1 := KG y m
 rcases Nat.lt_or_eq_of_le hm with h1 | h1
 ·simp only; omega
 ·have a2 := hc.m1; have a3 := hc.m2; have a5 := hc'.m1; have a6 := hc'.m2
  rw [e1, e2] at h1
  obtain rfl : m = m' := by omega
  obtain rfl : y = y' := by omega
  have g : d ≤ d' := by
   have e3 : dayOf y m d = fO y + fJ y (m - 1) + d - 1 := rfl
   have e4 : dayOf y m d' = fO y + fJ y (m - 1) + d' - 1 := rfl
   generalize dayOf y m d = u at *
   generalize dayOf y m d' = v at *
   generalize fO y = b0 at *
   generalize fJ y (m - 1) = c0 at *
   omega
  simp only; omega
theorem aep {k a x y : Int} (hx : bU x) (hy : bU y) (h : x ≤ y) : kG k a x ≤ kG k a y := by
 unfold kG
 split
 ·rw [RH, RH]
  have := aoW hx hy h
  omega
 ·omega
theorem am3 (k a : Int) : kG k a a = 0 := by
 unfold kG
 split
 ·rw [RH]; omega
 ·omega
theorem am4 {k a b : Int} (ha : bU a) (hb : bU b) (h : mi b ≤ mi a + 361) : kG k a b ≤ 12100 := by
 unfold kG
 split
 ·rw [RH]
  unfold d30
  have : (0 : Int) ≤ ((kL a.toNat).2.2 : Int) := by omega
  omega
 ·have := aoX ha hb h; omega
theorem yx {a b D : Int} (hD : 0 < D) (h : a ≤ b) : Rat.divInt a D ≤ Rat.divInt b D := by
 rw [Rat.divInt_eq_div, Rat.divInt_eq_div, Rat.div_def, Rat.div_def]
 refine Rat.mul_le_mul_of_nonneg_right (Rat.intCast_le_intCast.2 h) (Rat.le_of_lt ?_)
 rw [Rat.inv_pos]
 exact Rat.intCast_pos.2 hD
theorem divInt_zero (D : Int) : Rat.divInt 0 D = 0 := by
 rw [Rat.divInt_eq_div, Rat.intCast_zero, Rat.div_def, Rat.zero_mul]
theorem TN {c D : Int} (hD : 0 < D) : Rat.divInt (c * D) D = (c : Rat) := by
 have hD0 : (D : Rat) ≠ 0 := fun h => by have := Rat.intCast_eq_zero_iff.1 h; omega
 rw [Rat.divInt_eq_div, Rat.intCast_mul]
 generalize (D : Rat) = d at *
 generalize (c : Rat) = e at *
 grind
theorem anG {f x y y' : Int} {q : Int × Int} (hf : yT f) (hq : QOk q) (h : y ≤ y') : FD f x y q ≤ FD f x y' q := by
 have := hq.d1; have := hq.d2; have := hq.lt
 have hD := (hf.mul (a := q.2 - q.1) (by omega) (by omega)).1
 exact yx (by omega) (by omega)
theorem aru {f x y : Int} {q : Int × Int} (hf : yT f) (hq : QOk q) : 0 ≤ FD f x y q ∧ FD f x y q ≤ 1 := by
 have := hq.d1; have := hq.d2; have hlt := hq.lt
 have hD := (hf.mul (a := q.2 - q.1) (by omega) (by omega)).1
 have hf1 : 1 ≤ f := by rcases hf with h | h | h | h <;> omega
 have hge : q.2 - q.1 ≤ f * (q.2 - q.1) := by
  have := Int.mul_le_mul_of_nonneg_right hf1 (show 0 ≤ q.2 - q.1 by omega)
  omega
 unfold FD
 generalize f * (q.2 - q.1) = D at *
 constructor
 ·rw [← divInt_zero D]
  exact yx (by omega) (by omega)
 ·have := yx (D := D) (a := max (min y q.2 - max x q.1) 0) (b := 1 * D) (by omega) (by omega)
  rw [TN (by omega)] at this
  exact this
theorem afa {f x y y' : Int} (hf : yT f) (h : y ≤ y') : ∀ {l : List (Int × Int)} {s s' : Rat}, (∀ q ∈ l, QOk q) → s ≤ s' → sumF f x y s l ≤ sumF f x y' s' l
 | [], s, s', _, hs => hs
 | q :: r, s, s', hl, hs => by
   have h1 := anG (x := x) hf (hl q (by simp)) h
   simp only [sumF]
   exact afa hf h (fun z hz => hl z (by simp [hz])) (by grind)
theorem adU {f x y : Int} (hf : yT f) : ∀ {l : List (Int × Int)} {s : Rat}, (∀ q ∈ l, QOk q) → s ≤ sumF f x y s l ∧ sumF f x y s l ≤ s + (l.length : Rat)
 | [], s, _ => by
   simp only [sumF, List.length_nil]
   have : ((0 : Nat) : Rat) = 0 := rfl
   rw [this]
   exact ⟨Rat.le_refl, by grind⟩
 | q :: r, s, hl => by
   have h1 := aru (x := x) (y := y) hf (hl q (by simp))
   have ih := adU (x := x) (y := y) hf (l := r) (s := s + FD f x y q) (fun z hz => hl z (by simp [hz]))
   simp only [sumF, List.length_cons]
   have e : ((r.length + 1 : Nat) : Rat) = (r.length : Rat) + 1 := by rw [Rat.natCast_add]; rfl
   rw [e]
   generalize (r.length : Rat) = n at *
   constructor
   ·exact Rat.le_trans (by grind) ih.1
   ·exact Rat.le_trans ih.2 (by grind)
theorem ab7 {b : aO} (h : (bJ b).1 = none) {p : Int × Int} (hp : p ∈ (aV b).2) {x y : Int} (h1 : p.1 ≤ x) (h2 : x ≤ y) (h3 : y ≤ p.2) :
  0 ≤ Ad b p p.1 x ∧ Ad b p p.1 x ≤ Ad b p p.1 y ∧ Ad b p p.1 y ≤ 40 := by
 have h0 := (kW h).1
 have hchk := fG h0
 have hf := fU (dK hchk).2.1
 obtain ⟨d1, d2, d3⟩ := pF h0 hp
 have hx := Qn h hp (Int.le_refl p.1) h1 (by omega : x ≤ p.2)
 have hy := Qn h hp (Int.le_refl p.1) (by omega : p.1 ≤ y) h3
 unfold Ac at hx hy
 by_cases hc : b.count = 4
 ·rw [if_pos hc] at hx hy
  cases hq : Di b p with
  | none => rw [hq] at hx; simp at hx
  | some l =>
    have hok := (IV hchk d2 hq).1
    have hl2 := V8 h0 hp hq
    rw [hq] at hx hy
    simp only at hx hy
    rw [if_neg (by omega)] at hx hy
    have ex := Except.ok.inj hx
    have ey := Except.ok.inj hy
    rw [← ex, ← ey]
    have bx := adU (x := p.1) (y := x) (s := Rat.divInt 0 1) hf hok
    have bY := adU (x := p.1) (y := y) (s := Rat.divInt 0 1) hf hok
    have hz : Rat.divInt 0 1 = 0 := divInt_zero 1
    have hn : (l.length : Rat) ≤ 2 := by
     have : ((2 : Nat) : Rat) = 2 := rfl
     rw [← this]
     exact Rat.natCast_le_natCast.2 hl2
    refine ⟨by have := bx.1; rw [hz] at this; rw [hz]; exact this, afa hf h2 hok Rat.le_refl, ?_⟩
    have := bY.2
    rw [hz] at this
    rw [hz]
    refine Rat.le_trans this ?_
    generalize (l.length : Rat) = n at *
    grind
 ·rw [if_neg hc, if_neg (by omega)] at hx hy
  have ex := Except.ok.inj hx
  have ey := Except.ok.inj hy
  rw [← ex, ← ey]
  have hw := (gK h0).2
  obtain ⟨t1, t2, t3⟩ := thirty hchk
  have hi : b.issue ≤ p.1 ∧ p.2 ≤ b.fP := by
   obtain ⟨_, g1, _⟩ := akA h0 hp (s := p.1) (by omega) (by omega)
   obtain ⟨_, _, g2⟩ := akA h0 hp (s := p.2 - 1) (by omega) (by omega)
   omega
  have dx : bU x := by omega
  have dy : bU y := by omega
  have m1 := Y_ t2 d1 hi.1
  have m2 := Y_ dy t3 (by omega)
  have c1 := aep (k := b.count) (a := p.1) d1 dx h1
  have c2 := aep (k := b.count) (a := p.1) dx dy h2
  have c3 := am4 (k := b.count) (a := p.1) d1 dy (by omega)
  rw [am3] at c1
  unfold OA
  have hD : (0 : Int) < (if b.count = 3 then 365 else 360) ∧ (12100 : Int) ≤ 40 * (if b.count = 3 then 365 else 360) := by split <;> omega
  generalize (if b.count = 3 then (365 : Int) else 360) = D at *
  refine ⟨by rw [← divInt_zero D]; exact yx hD.1 c1, yx hD.1 c2, ?_⟩
  have := yx (a := kG b.count p.1 y) (b := 40 * D) hD.1 (by omega)
  rw [TN hD.1] at this
  exact this
end Go.Ev.Code
end
section
namespace Go.Ev.Code
open Go Go.Ev
theorem qO {q : Rat} : 0 ≤ q.num ↔ 0 ≤ q := Rat.num_nonneg
theorem abB (b : aO) : 0 ≤ PY b := by
 unfold PY
 cases hc : chk b with
 | some e => simp only; exact qO.1 (by decide)
 | none =>
   obtain ⟨q, n, r, k, h1, h2, h3, h4, _⟩ := J8 (dK hc).2.2
   simp only [h1]
   exact qO.1 h4
theorem acj (b : aO) : 0 ≤ iW b := by
 unfold iW
 cases hc : chk b with
 | some e => simp only; exact qO.1 (by decide)
 | none =>
   obtain ⟨q, n, r, k, h1, h2, h3, h4, h5, h6, h7, _⟩ := J8 (dK hc).2.2
   simp only [h2]
   exact qO.1 (by omega)
theorem abU {f : Int} (hf : yT f) : 0 ≤ Rat.divInt 1 f := by
 rcases hf with rfl | rfl | rfl | rfl <;> decide +kernel
theorem agu {b : aO} (hf : yT b.eU) : 0 ≤ jf b := Rat.mul_nonneg (abB b) (abU hf)
end Go.Ev.Code
end
section
namespace Go.Ev.Code
open Go Go.Ev
theorem aco (each red : Rat) : ∀ {l : List (Int × Int)} {i : Nat} {p : Int × Int}, l[i]? = some p → (lM each red l)[i]? = some (p.2, if i + 1 = l.length then each + red else each)
 | [], i, p, h => by simp at h
 | [x], 0, p, h => by simp at h; subst h; simp [lM]
 | [x], i + 1, p, h => by simp at h
 | x :: y :: r, 0, p, h => by simp at h; subst h; simp [lM]
 | x :: y :: r, i + 1, p, h => by
   have := aco each red (l := y :: r) (i := i) (p := p) (by simpa using h)
   simp only [lM, List.getElem?_cons_succ, List.length_cons] at this ⊢
   rw [this]
   congr 2
   simp
theorem SK {b : aO} (h : (bJ b).1 = none) {i : Nat} {p : Int × Int} (hp : (aV b).2[i]? = some p) : (bJ b).2[i]? = some (p.2, if i + 1 = (aV b).2.length then lX b p + iW b else lX b p) := by
 obtain ⟨h0, p0, r, q, hps, hq, hfl⟩ := kW h
 have hw := (gK h0).2
 cases i with
 | zero =>
   rw [hps] at hp
   have hp : p0 = p := by simpa using hp
   subst hp
   rw [hfl, hps, OX hq]
   match r with
   | [] => simp [rG]
   | y :: r => simp [rG]
 | succ i =>
   have hlt : i + 1 < (aV b).2.length := (List.getElem?_eq_some_iff.1 hp).1
   have hg := List.getElem?_eq_getElem (l := (aV b).2) (i := i) (by omega)
   have hreg := (hw.next i p _ hg hp).2
   have hpay : lX b p = jf b := by
    unfold lX Ig
    rw [if_pos hreg]
   rw [hpay, hfl]
   rw [hps] at hp ⊢
   match r, hp with
   | [], hp => simp at hp
   | y :: r, hp =>
     have := aco (jf b) (iW b) (l := y :: r) (i := i) (p := p) (by simpa using hp)
     simp only [rG, List.getElem?_cons_succ, List.length_cons] at this ⊢
     rw [this]
     congr 2
     simp
theorem TW {b : aO} (h : (bJ b).1 = none) {p : Int × Int} (hp : p ∈ (aV b).2) : 0 ≤ lX b p := by
 have h0 := (kW h).1
 have hf := fU (dK (fG h0)).2.1
 obtain ⟨d1, d2, d3⟩ := pF h0 hp
 unfold lX Ig
 split
 ·rename_i q hq
  split at hq
  ·rw [← Except.ok.inj hq]; exact agu hf
  ·rw [Qn h hp (Int.le_refl _) (by omega) (Int.le_refl _)] at hq
   simp only at hq
   rw [← Except.ok.inj hq]
   exact Rat.mul_nonneg (abB b) (ab7 h hp (x := p.2) (y := p.2) (by omega) (Int.le_refl _) (Int.le_refl _)).1
 ·exact Rat.le_refl
theorem Lr {b : aO} {s : Int} (h : (leftB b s).1 = none) : ∀ r ∈ dG b s, 0 ≤ r := by
 obtain ⟨f0, h2, h3, h4⟩ := gY h
 obtain ⟨d1, d2, d3, d4, d5, d6⟩ := vX h
 obtain ⟨k, k1, k2, k3, k4⟩ := Ba h2 h3 h4
 have hall : ∀ x ∈ (bJ b).2, 0 ≤ x.2 := by
  intro x hx
  obtain ⟨i, hi⟩ := List.getElem?_of_mem hx
  have hlt : i < (aV b).2.length := by rw [← MO f0]; exact (List.getElem?_eq_some_iff.1 hi).1
  have hg := List.getElem?_eq_getElem hlt
  have h5 := SK f0 hg
  rw [hi] at h5
  have h6 := Option.some.inj h5
  rw [h6]
  have hp := TW f0 (List.mem_of_getElem? hg)
  simp only
  split
  ·exact Rat.add_nonneg hp (acj b)
  ·exact hp
 have h5 := SK f0 k2
 unfold dG
 rw [k1, Int.toNat_natCast]
 have hk : k < (bJ b).2.length := (List.getElem?_eq_some_iff.1 h5).1
 have hdr : (bJ b).2.drop k = (bJ b).2[k] :: (bJ b).2.drop (k + 1) := List.drop_eq_getElem_cons hk
 have he : (bJ b).2[k] = ((fH b s).2, if k + 1 = (aV b).2.length then lX b (fH b s) + iW b else lX b (fH b s)) := by
  rw [List.getElem?_eq_getElem hk] at h5
  exact Option.some.inj h5
 split
 ·rw [hdr, he]
  simp only [List.map_cons, VG]
  intro r hr
  rcases List.mem_cons.1 hr with rfl | hr
  ·have := acj b
   generalize iW b = rd at *
   generalize lX b (fH b s) = pv at *
   split <;> grind
  ·obtain ⟨x, hx, rfl⟩ := List.mem_map.1 hr
   exact hall x (List.mem_of_mem_drop hx)
 ·intro r hr
  obtain ⟨x, hx, rfl⟩ := List.mem_map.1 hr
  exact hall x (List.mem_of_mem_drop hx)
theorem asE {a c : Rat} (h0 : 0 ≤ a) (h1 : a ≤ c) (hc : c ≠ 0) : 0 ≤ 1 - a / c ∧ 1 - a / c ≤ 1 := by
 have hpos : 0 < c := by grind
 have hi : 0 < c⁻¹ := Rat.inv_pos.2 hpos
 have e1 : a / c = a * c⁻¹ := Rat.div_def _ _
 have e2 : c * c⁻¹ = 1 := Rat.mul_inv_cancel _ hc
 have h2 := Rat.mul_le_mul_of_nonneg_right h1 (Rat.le_of_lt hi)
 have h3 := Rat.mul_nonneg h0 (Rat.le_of_lt hi)
 rw [e1]
 generalize a * c⁻¹ = x at *
 constructor <;> grind
theorem QO {b : aO} {s : Int} (h : (leftB b s).1 = none) (h0 : fQ b s ≠ 0) : 0 ≤ dZ b s ∧ dZ b s ≤ 40 * (b.eU : Rat) := by
 obtain ⟨f0, h2, h3, h4⟩ := gY h
 obtain ⟨d1, d2, d3, d4, d5, d6⟩ := vX h
 have hf := fU (dK (fG h2)).2.1
 obtain ⟨p1, p2, p3⟩ := ab7 f0 d6 d4 (Int.le_of_lt d5) (Int.le_refl _)
 have hf1 : (1 : Rat) ≤ (b.eU : Rat) := by
  have : ((1 : Int) : Rat) ≤ (b.eU : Rat) := Rat.intCast_le_intCast.2 (by rcases hf with h | h | h | h <;> omega)
  exact this
 have hfr : Rat.divInt b.eU 1 = (b.eU : Rat) := by
  have := TN (c := b.eU) (D := 1) (by omega)
  rw [Int.mul_one] at this; exact this
 have hpe : Ad b (fH b s) (fH b s).1 s = BQ b s := rfl
 have hwe : Ad b (fH b s) (fH b s).1 (fH b s).2 = fQ b s := rfl
 rw [hpe] at p1 p2
 rw [hwe] at p2 p3
 obtain ⟨q1, q2⟩ := asE p1 p2 h0
 unfold dZ
 rw [hfr]
 generalize BQ b s / fQ b s = x at *
 generalize (b.eU : Rat) = F at *
 split
 ·constructor
  ·exact q1
  ·grind
 ·have hw0 : 0 ≤ fQ b s := Rat.le_trans p1 p2
  generalize fQ b s = W at *
  generalize 1 - x = u at *
  have hF0 : 0 ≤ F := by grind
  have a1 := Rat.mul_le_mul_of_nonneg_right q2 hF0
  have a0 := Rat.mul_nonneg q1 hF0
  have a2 := Rat.mul_le_mul_of_nonneg_right a1 hw0
  have a3 := Rat.mul_le_mul_of_nonneg_left p3 hF0
  refine ⟨Rat.mul_nonneg a0 hw0, ?_⟩
  generalize u * F * W = X at *
  grind
theorem Mc {x : Rat} (hx : 0 ≤ x) : ∀ {l : List Rat}, (∀ r ∈ l, 0 ≤ r) → 0 ≤ vN x l
 | [], _ => Rat.le_refl
 | r :: t, h => by
   simp only [vN]
   exact Rat.add_nonneg (h r (by simp)) (Rat.mul_nonneg hx (Mc hx (fun q hq => h q (by simp [hq]))))
theorem aeG {x y : Rat} (hx : 0 ≤ x) (hxy : x ≤ y) : ∀ {l : List Rat}, (∀ r ∈ l, 0 ≤ r) → vN x l ≤ vN y l
 | [], _ => Rat.le_refl
 | r :: t, h => by
   have h1 := aeG hx hxy (l := t) (fun q hq => h q (by simp [hq]))
   have h2 := Mc hx (l := t) (fun q hq => h q (by simp [hq]))
   have hy : 0 ≤ y := Rat.le_trans hx hxy
   have h3 := Rat.mul_le_mul_of_nonneg_left h1 hy
   have h4 := Rat.mul_le_mul_of_nonneg_right hxy h2
   simp only [vN]
   grind
theorem ahs {a b c d : Rat} (ha : 0 ≤ a) (hab : a ≤ b) (hc : 0 < c) (hcd : c ≤ d) : a / d ≤ b / c := by
 have hd : 0 < d := by grind
 have ic : 0 < c⁻¹ := Rat.inv_pos.2 hc
 have id : 0 < d⁻¹ := Rat.inv_pos.2 hd
 have e1 : c * c⁻¹ = 1 := Rat.mul_inv_cancel _ (by grind)
 have e2 : d * d⁻¹ = 1 := Rat.mul_inv_cancel _ (by grind)
 have h1 : d⁻¹ ≤ c⁻¹ := by
  have := Rat.mul_le_mul_of_nonneg_right hcd (Rat.le_of_lt (Rat.mul_pos ic id))
  rw [← Rat.mul_assoc, e1, Rat.one_mul, Rat.mul_comm c⁻¹, ← Rat.mul_assoc, e2, Rat.one_mul] at this
  exact this
 have h2 := Rat.mul_le_mul_of_nonneg_left h1 ha
 have h3 := Rat.mul_le_mul_of_nonneg_right hab (Rat.le_of_lt ic)
 rw [Rat.div_def, Rat.div_def]
 exact Rat.le_trans h2 h3
theorem am8 {b : aO} (hf : yT b.eU) {y z : Int} (h1 : -2000000 ≤ y) (h2 : y ≤ z) (h3 : z ≤ 100000000) : 0 ≤ BL b z ∧ BL b z ≤ BL b y := by
 obtain ⟨_, _, _, g0, n0⟩ := D8 hf (y := y) h1 (by omega)
 obtain ⟨_, _, _, _, n1⟩ := D8 hf (y := z) (by omega) h3
 have a1 : (0 : Rat) < (bK b : Rat) := Rat.intCast_pos.2 g0
 have a2 : (0 : Rat) < ((bK b + y : Int) : Rat) := Rat.intCast_pos.2 n0
 have a3 : ((bK b + y : Int) : Rat) ≤ ((bK b + z : Int) : Rat) := Rat.intCast_le_intCast.2 (by omega)
 have a4 : (0 : Rat) < ((bK b + z : Int) : Rat) := Rat.intCast_pos.2 n1
 unfold BL
 refine ⟨?_, ahs (Rat.le_of_lt a1) Rat.le_refl a2 a3⟩
 rw [Rat.div_def]
 exact Rat.mul_nonneg (Rat.le_of_lt a1) (Rat.le_of_lt (Rat.inv_pos.2 a4))
theorem I_ {b : aO} (hf : yT b.eU) {w : Rat} (hw0 : 0 ≤ w) (hw1 : w ≤ 40 * (b.eU : Rat)) {y z : Int} (h1 : -2000000 ≤ y) (h2 : y ≤ z) (h3 : z ≤ 100000000) :
  0 < 1 + w * ((y : Rat) / (bK b : Rat)) ∧ 1 + w * ((y : Rat) / (bK b : Rat)) ≤ 1 + w * ((z : Rat) / (bK b : Rat)) := by
 obtain ⟨_, _, _, g0, n0⟩ := D8 hf (y := y) h1 (by omega)
 have a1 : (0 : Rat) < (bK b : Rat) := Rat.intCast_pos.2 g0
 have i1 : (0 : Rat) < (bK b : Rat)⁻¹ := Rat.inv_pos.2 a1
 have e1 : (bK b : Rat) * (bK b : Rat)⁻¹ = 1 := Rat.mul_inv_cancel _ (by grind)
 have hg : (bK b : Rat) = 100000000 * (b.eU : Rat) := by unfold bK; rw [Rat.intCast_mul]; rfl
 have y1 : ((-2000000 : Int) : Rat) ≤ (y : Rat) := Rat.intCast_le_intCast.2 h1
 have y1' : (-2000000 : Rat) ≤ (y : Rat) := y1
 have y2 : (y : Rat) ≤ (z : Rat) := Rat.intCast_le_intCast.2 h2
 rw [Rat.div_def, Rat.div_def]
 generalize (bK b : Rat)⁻¹ = I at *
 generalize (bK b : Rat) = G at *
 generalize (y : Rat) = Y at *
 generalize (z : Rat) = Z at *
 generalize (b.eU : Rat) = F at *
 have hwI := Rat.mul_nonneg hw0 (Rat.le_of_lt i1)
 have b1 := Rat.mul_le_mul_of_nonneg_left y1' hwI
 have b2 := Rat.mul_le_mul_of_nonneg_left y2 hwI
 have b3 := Rat.mul_le_mul_of_nonneg_right hw1 (Rat.le_of_lt i1)
 constructor
 ·subst hg
  grind
 ·grind
theorem aej {b : aO} {s y : Int} (h : (leftB b s).1 = none) (h0 : fQ b s ≠ 0) (h1 : -2000000 ≤ y) (h2 : y ≤ 100000000) : ¬ mQ b s y ≤ 0 := by
 have hf := fU (dK (fG (gY h).2.1)).2.1
 obtain ⟨_, _, _, g0, n0⟩ := D8 hf (y := y) h1 h2
 obtain ⟨w0, w1⟩ := QO h h0
 have ha := (I_ hf w0 w1 (z := y) h1 (Int.le_refl _) h2).1
 have hq4 : ((bK b : Int) : Rat) ≠ 0 := fun h => by have := Rat.intCast_eq_zero_iff.1 h; omega
 have hq5 : (0 : Rat) < (((dZ b s).den : Int) : Rat) := Rat.intCast_pos.2 (by have := (dZ b s).den_pos; omega)
 have hgp : (0 : Rat) < (bK b : Rat) := Rat.intCast_pos.2 g0
 have hwn : dZ b s * (((dZ b s).den : Int) : Rat) = ((dZ b s).num : Rat) := by
  rw [Rat.intCast_natCast]; exact (ah' (dZ b s)).symm
 have haq : ((mQ b s y : Int) : Rat) = (((dZ b s).den : Int) : Rat) * (bK b : Rat) + ((dZ b s).num : Rat) * (y : Rat) := by
  unfold mQ
  rw [Rat.intCast_add, Rat.intCast_mul, Rat.intCast_mul]
 have hpos : (0 : Rat) < ((mQ b s y : Int) : Rat) := by
  rw [haq]
  generalize (((dZ b s).den : Int) : Rat) = wd at *
  generalize ((dZ b s).num : Rat) = wn at *
  generalize dZ b s = w at *
  generalize ((bK b : Int) : Rat) = G at *
  generalize (y : Rat) = Y at *
  subst hwn
  have e1 : wd * G + w * wd * Y = wd * G * (1 + w * (Y / G)) := by grind
  rw [e1]
  exact Rat.mul_pos (Rat.mul_pos hq5 hgp) ha
 have := Rat.intCast_pos.1 hpos
 omega
theorem alk {b : aO} {s y z : Int} (h : (leftB b s).1 = none) (h0 : fQ b s ≠ 0) (h1 : -2000000 ≤ y) (h2 : y ≤ z) (h3 : z ≤ 100000000) : bn b s z ≤ bn b s y := by
 have hf := fU (dK (fG (gY h).2.1)).2.1
 obtain ⟨w0, w1⟩ := QO h h0
 obtain ⟨a1, a2⟩ := I_ hf w0 w1 h1 h2 h3
 obtain ⟨d1, d2⟩ := am8 hf h1 h2 h3
 have hn := Lr h
 unfold bn
 exact ahs (Mc d1 hn) (aeG d1 d2 hn) a1 a2
end Go.Ev.Code
end
section
namespace Go.Ev.Code
open Go Go.Ev
theorem Yb (s : List UInt8) {n : Nat} (hn : n ≤ 1000000) : L.call lg [.str s, .int .i64 n] = some (.str (s.take n)) := by
 have hb : jX false true s.length [.int .i64 (min (s.length : Int) n)] = some (0, min s.length n) := by
  have h1 : (0 : Int) ≤ min (s.length : Int) n := by omega
  have h2 : min (s.length : Int) n ≤ s.length := by omega
  have h3 : (min (s.length : Int) n).toNat = min s.length n := by omega
  simp only [jX, bnd, h1, h2, and_self, if_true, h3, Option.bind_some]
 have ht : s.take (min s.length n) = s.take n := by
  rcases Nat.le_total s.length n with h | h
  ·rw [Nat.min_eq_left h, List.take_of_length_le (Nat.le_refl _), List.take_of_length_le h]
  ·rw [Nat.min_eq_right h]
 refine aJ XJ rfl (XD ..) ?_
 simp [Nh, hb, ht]
def AY (b : aO) : aO := { b with dX := b.dX.take 30, dY := b.dY.take 30 }
theorem CV (b : aO) : L.call iF [aS b] = some (aS (AY b)) := by
 obtain ⟨i, m, f, c, rd, n, s, e, ex⟩ := b
 have h1 := Yb c (n := 30) (by decide)
 have h2 := Yb rd (n := 30) (by decide)
 unfold AY aS aN
 simp only
 simp at h1 h2
 refine aJ XI rfl (XC ..) ?_
 simp [Nc, h1, h2]
theorem UG (b : aO) : (AY b).dX.length ≤ 1000000 ∧ (AY b).dY.length ≤ 1000000 := by
 unfold AY; simp; omega
end Go.Ev.Code
end
