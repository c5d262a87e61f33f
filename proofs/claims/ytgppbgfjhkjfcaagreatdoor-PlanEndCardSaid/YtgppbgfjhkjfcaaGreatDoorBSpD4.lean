/- A part of the proof of planStub_card, planEnd_card, planLone_card, bondLong_card. -/
import Derived.Test.YtgppbgfjhkjfcaaGreatDoorBSpD2
set_option linter.unusedVariables false
set_option linter.unusedSimpArgs false
namespace Go.Ev.Code
open Go Go.Ev
structure Even (b : aW) (K mo A : Nat) : Prop where
 day : bW b.dw
 lo : 23458 ≤ mi b.dw
 mo0 : months b = mo
 mo1 : 1 ≤ mo
 mo2 : mo ≤ 12
 tot : K * mo = 60
 hA : kZ b.dw (-60) b.ends = some A
 is : b.issue = A
 sums : sG b = none
 c1 : 1 ≤ b.count
 c2 : b.count ≤ 4
 st : b.stub = 0
 ex : b.ex = 0
theorem Even.K1 {b : aW} {K mo A : Nat} (h : Even b K mo A) : 1 ≤ K := by
 have := h.tot
 rcases Nat.eq_zero_or_pos K with h0 | h0
 ·subst h0; simp at this
 ·exact h0
theorem Even.K2 {b : aW} {K mo A : Nat} (h : Even b K mo A) : K ≤ 60 := by
 have := h.tot
 have h1 : K * 1 ≤ K * mo := Nat.mul_le_mul_left _ h.mo1
 omega
theorem Even.Xo {b : aW} {K mo A : Nat} (h : Even b K mo A) (i : Nat) : anch b i = kZ b.dw (-((i * mo : Nat) : Int)) b.ends := by
 unfold anch
 rw [h.mo0]
 congr 1
 rw [Int.neg_mul]
 simp
theorem Even.NP {b : aW} {K mo A : Nat} (h : Even b K mo A) {i : Nat} (hi : i ≤ K) : ∃ a : Nat, anch b i = some a ∧ (mi a : Int) = mi b.dw - (i * mo : Nat) ∧ bW a := by
 have hm := h.lo
 have hb := LC h.day
 have hle : i * mo ≤ 60 := by rw [← h.tot]; exact Nat.mul_le_mul_right _ hi
 rw [h.Xo]
 generalize i * mo = z at *
 obtain ⟨r, hr⟩ := Ey (day := b.dw) (n := -(z : Int)) b.ends h.day (by omega) (by omega)
 refine ⟨r, hr, ?_, nZ hr⟩
 have := vI hr
 omega
theorem Even.GZ {b : aW} {K mo A : Nat} (h : Even b K mo A) : anch b K = some A := by rw [h.Xo, h.tot]; exact h.hA
theorem Even.miA {b : aW} {K mo A : Nat} (h : Even b K mo A) : (mi A : Int) = mi b.dw - 60 := by
 have := vI h.hA; omega
theorem Even.Rw {b : aW} {K mo A : Nat} (h : Even b K mo A) : chk b = none := by
 have hAd : bW (A : Int) := nZ h.hA
 have hmA := h.miA
 have hlt : (A : Int) < b.dw := IK hAd h.day (by omega)
 have hI : bW b.issue := by rw [h.is]; exact hAd
 have hd : qo b = none := by
  unfold qo
  rw [if_neg (by simpa using hI), if_neg (by have := h.day; simpa using this), if_neg (by rw [h.is]; omega)]
  split
  ·rename_i e he
   have h1 := vI he
   rw [h.is] at h1
   have h3 := IK h.day (nZ he) (by omega)
   rw [if_neg (by omega)]
  ·rfl
 have hm1 := h.mo1
 have hp : Gl b ≤ 200 := by
  unfold Gl
  rw [NQ, h.mo0, h.is]
  have e : (mi b.dw : Int) - mi (A : Int) = 60 := by omega
  rw [e, Int.tdiv_eq_ediv_of_nonneg (by omega)]
  have : (60 : Int) / (mo : Int) ≤ 60 := Int.ediv_le_self _ (by omega)
  omega
 unfold chk
 rw [hd, h.mo0, h.sums]
 simp only
 rw [if_neg (by omega), if_neg (by have := h.c1; have := h.c2; omega), if_neg (by have := h.st; omega), if_neg (by have := h.ex; omega), if_neg (by omega)]
theorem Even.NV {b : aW} {K mo A : Nat} (h : Even b K mo A) : fC b = K := by
 have hm1 := h.mo1
 obtain ⟨k1, k2, k3⟩ := EL (b := b) (by rw [h.mo0]; omega)
 have hAd : bW (A : Int) := nZ h.hA
 have g1 : ∀ i, i < K → Goes b i := fun i hi => by
  obtain ⟨a', h1, h2, h3⟩ := h.NP (i := i) (by omega)
  refine ⟨a', h1, ?_⟩
  rw [h.is]
  refine IK hAd h3 ?_
  have e := h.miA
  have : (i + 1) * mo ≤ K * mo := Nat.mul_le_mul_right _ hi
  rw [h.tot, Nat.add_mul] at this
  generalize i * mo = z at *
  omega
 have g2 : ¬ Goes b K := by
  rintro ⟨a, ha, hlt⟩
  obtain rfl := Option.some.inj (h.GZ.symm.trans ha)
  rw [h.is] at hlt
  omega
 rcases Nat.lt_trichotomy (fC b) K with hl | hl | hl
 ·exact absurd (g1 _ hl) k2
 ·exact hl
 ·exact absurd (k1 _ hl) g2
theorem Even.plan {b : aW} {K mo A : Nat} (h : Even b K mo A) : gq b = (none, eu b) := by
 have hh : Gj b = true := by
  unfold Gj
  rw [h.NV, h.GZ]
  simp [h.is]
 unfold gq
 rw [h.Rw]
 simp only
 rw [hh, if_pos rfl]
theorem Even.per {b : aW} {K mo A : Nat} (h : Even b K mo A) {i : Nat} (hi : i < K) : ∃ (a c : Nat) (j : Nat), (eu b)[i]? = some ((a : Int), (c : Int)) ∧ bW a ∧ bW c ∧ (mi c : Int) - mi a = mo ∧ kZ b.dw (-((j * mo : Nat) : Int)) b.ends = some c := by
 have r0 := vV (b := b) (i := i) (by rw [h.NV]; exact hi)
 rw [h.NV] at r0
 obtain ⟨a, a1, a2, a3⟩ := h.NP (i := K - i) (by omega)
 obtain ⟨c, c1, c2, c3⟩ := h.NP (i := K - 1 - i) (by omega)
 rw [c1] at r0
 have e : (K - i) * mo = (K - 1 - i) * mo + mo := by
  rw [show K - i = K - 1 - i + 1 by omega, Nat.add_mul, Nat.one_mul]
 refine ⟨a, c, K - 1 - i, ?_, a3, c3, by rw [e] at a2; generalize (K - 1 - i) * mo = z at *; omega, by rw [← h.Xo]; exact c1⟩
 rw [r0]
 by_cases h0 : i = 0
 ·subst h0
  rw [if_pos rfl, h.is]
  rw [Nat.sub_zero, h.GZ] at a1
  obtain rfl := Option.some.inj a1
  rfl
 ·rw [if_neg h0, a1]
  rfl
theorem Even.len {b : aW} {K mo A : Nat} (h : Even b K mo A) : (eu b).length = K := by rw [rW, h.NV]
def isLast (a : Nat) : Bool := match jq a with
 | (y, m, d) => decide (d = bP y m)
theorem adM {a : Nat} (h : bW a) : L.call mZ [.int .i64 a] = some (.bool (isLast a)) := by
 obtain ⟨y, m, d, hc, hd, ho⟩ := eF h
 have ha : a = dayOf y m d := by omega
 subst ha
 have := Qd hc
 unfold isLast
 rw [IG hc]
 exact this
theorem aij {a n : Int} {r : Nat} (h : kZ a n true = some r) (hl : isLast a.toNat = true) : isLast r = true := by
 unfold kZ at h
 split at h <;> try (simp at h; done)
 rename_i hd
 obtain ⟨y, m, d, hc, hd, ho⟩ := eF hd
 unfold isLast at hl
 rw [ho] at h hl
 simp only [decide_eq_true_eq] at hl
 unfold Au at h
 split at h <;> try (simp at h; done)
 simp only at h
 rw [if_pos ⟨trivial, hl⟩] at h
 have h12 : 1 ≤ ((((y * 12 + m - 1 : Nat) : Int) + n) % 12).toNat + 1 ∧ ((((y * 12 + m - 1 : Nat) : Int) + n) % 12).toNat + 1 ≤ 12 := by omega
 generalize ((((y * 12 + m - 1 : Nat) : Int) + n) % 12).toNat + 1 = m' at *
 generalize ((((y * 12 + m - 1 : Nat) : Int) + n) / 12).toNat = y' at *
 have hp := rP (y := y') h12.1 h12.2
 obtain ⟨q1, q2⟩ := WL h12.1 h12.2 (by omega) (by omega) h
 unfold isLast
 rw [q2, IG q1]
 simp
end Go.Ev.Code
