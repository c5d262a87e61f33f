/- A part of the proof of priceFalls_card, riskSigns_card, yieldBack_card, yieldEdge_card, yieldFalls_card. -/
import Derived.Test.YtnokhmkkpcfilabGreatDoorCSpD8
import Derived.Test.YtnokhmkkpcfilabGreatDoorCWalkYieldBack
set_option linter.unusedVariables false
set_option linter.unusedSimpArgs false
namespace Go.Ev.Code
open Go Go.Ev
theorem an7 (n : Nat) : (46 : UInt8) ∉ txt n := by
 intro h
 have := List.all_eq_true.1 (adV n) _ h
 exact absurd this (by decide)
theorem abH {x : Nat} (h : x < 1000000000) : wJ (yu x) = some (Rat.divInt (x : Int) 100, 2) := by
 have hl := uZ 9 (n := x / 100) (by omega) (by omega)
 have hlen : (yu x).length ≤ 60 := by unfold yu; rw [List.length_append, List.length_cons, Ie]; omega
 have hnb : NB 13000 (x / 100) := NB.mono (j := 64) (by show x / 100 < 2 ^ 64; omega) (Nat.le_of_ble_eq_true rfl)
 have hnum := YP hnb
 have hne : [45].isPrefixOf (yu x) = false := by
  have h1 := aah (x / 100)
  have h2 := Bo (x / 100)
  unfold yu
  cases ht : txt (x / 100) with
  | nil => rw [ht] at h2; simp at h2
  | cons a r =>
    rw [ht] at h1
    simpa [List.isPrefixOf] using h1
 have hs : qW (yu x) = (false, yu x) := by unfold qW; rw [hne]; rfl
 have hcut : lV 46 (yu x) = (txt (x / 100), lW 2 (x % 100), true) := by
  unfold lV yu
  rw [XU _ _ _ (an7 _)]
  rfl
 have hpd : lW 2 (x % 100) = [dg (x % 100 / 10 % 10), dg (x % 100 % 10)] := rfl
 have d1 := UJ (d := x % 100 / 10 % 10) (by omega)
 have d2 := UJ (d := x % 100 % 10) (by omega)
 have hall : (lW 2 (x % 100)).all rH = true := by rw [hpd]; simp only [List.all_cons, List.all_nil, d1.2, d2.2, Bool.and_true]
 have hv : jF 0 (txt (x / 100) ++ lW 2 (x % 100)) = x := by
  rw [aaU, aa_, hpd, uP, uP, Aa, d1.1, d2.1]
  omega
 unfold wJ
 rw [if_pos hlen, hs]
 simp only
 rw [hcut]
 simp only
 unfold CP
 rw [if_pos ⟨hnum, fun _ => ⟨by rw [hpd]; simp, by rw [Ie]; omega, hall⟩, by simp⟩, hv, Ie]
 rfl
theorem ou {b : aO} {s : Int} {t : List UInt8} (ht : t.length ≤ 1000000) {q : Rat} {n : Nat} (hd : wJ t = some (q, n)) {r : Except Er Int} (hne : ∀ e, r = .error e → e ≠ none) (hN : L.call gZ [aS b, .int .i64 s, bF q] = some (jT r)) :
  L.call yK [aS b, .int .i64 s, .str t] = some (jT r) := by
 have hg := Vy ht
 rw [hd] at hg
 simp only [Fv] at hg
 obtain ⟨i, mt, fq, c, rd', n', st, en, ex⟩ := b
 unfold aS aN at *
 simp only at *
 cases r with
 | ok y =>
   simp only [jT] at *
   refine aJ Vp rfl (Vl ..) ?_
   simp [OQ, hg, hN]
 | error e =>
   have := hne e rfl
   simp only [jT] at *
   rcases e with _ | ⟨c, _ | t⟩
   ·exact absurd rfl this
   ·simp only [dS] at *
    refine aJ Vp rfl (Vl ..) ?_
    simp [OQ, hg, hN]
   ·simp only [dS, eH] at *
    refine aJ Vp rfl (Vl ..) ?_
    simp [OQ, hg, hN]
theorem acP {b : aO} (hc : b.dX.length ≤ 1000000) (hr : b.dY.length ≤ 1000000) (s : Int) {P Q : Nat} (hP : P < 1000000000) (hQ : Q < 1000000000) (hPQ : P ≤ Q) :
  ∃ r t : Except Er Int, L.call yK [aS b, .int .i64 s, .str (yu P)] = some (jT r) ∧ L.call yK [aS b, .int .i64 s, .str (yu Q)] = some (jT t) ∧
    ((∃ e, e ≠ none ∧ r = .error e ∧ t = .error e) ∨ r = .error (some (7, none)) ∧ (t = .error (some (7, none)) ∨ ∃ y, t = .ok y) ∨ t = .error (some (7, none)) ∧ (∃ y, r = .ok y) ∨ ∃ x y, r = .ok x ∧ t = .ok y ∧ y ≤ x) := by
 have lP : (yu P).length ≤ 1000000 := by
  have hl := uZ 9 (n := P / 100) (by omega) (by omega)
  unfold yu; rw [List.length_append, List.length_cons, Ie]; omega
 have lQ : (yu Q).length ≤ 1000000 := by
  have hl := uZ 9 (n := Q / 100) (by omega) (by omega)
  unfold yu; rw [List.length_append, List.length_cons, Ie]; omega
 have dP := abH hP
 have dQ := abH hQ
 have bP : RB 64 (Rat.divInt (P : Int) 100) := iH (eF (by omega)) (eF (by omega)) (by omega)
 have bQ : RB 64 (Rat.divInt (Q : Int) 100) := iH (eF (by omega)) (eF (by omega)) (by omega)
 have hle : Rat.divInt (P : Int) 100 ≤ Rat.divInt (Q : Int) 100 := yx (by omega) (by omega)
 rcases Ls b s with ⟨e, hne, hE⟩ | ⟨hE, hM⟩
 ·have n1 := Ll hc hr hne (hE (-2000000) (by omega) (by omega)) (x := bF (Rat.divInt (P : Int) 100)) (.inr ⟨_, rfl⟩)
  have n2 := Ll hc hr hne (hE (-2000000) (by omega) (by omega)) (x := bF (Rat.divInt (Q : Int) 100)) (.inr ⟨_, rfl⟩)
  exact ⟨.error e, .error e, ou lP dP (fun e' h => by rw [← Except.error.inj h]; exact hne) n1, ou lQ dQ (fun e' h => by rw [← Except.error.inj h]; exact hne) n2, .inl ⟨e, hne, rfl, rfl⟩⟩
 ·have hf := XP hc hr hE
  have h7 : ∀ e, (Except.error (some (7, none)) : Except Er Int) = .error e → e ≠ none := fun e h => by rw [← Except.error.inj h]; simp
  have hk : ∀ (y : Int) e, (Except.ok y : Except Er Int) = .error e → e ≠ none := fun y e h => by simp at h
  rcases pK bP (by omega) hf hM with ⟨x, x1, x2, x3, x4, _, x5⟩ | ⟨_, x5⟩
  ·rcases pK bQ (by omega) hf hM with ⟨y, y1, y2, y3, y4, _, y5⟩ | ⟨_, y5⟩
   ·refine ⟨_, _, ou lP dP (hk x) x5, ou lQ dQ (hk y) y5, .inr (.inr (.inr ⟨x, y, rfl, rfl, ?_⟩))⟩
    rcases (by omega : x < y ∨ y ≤ x) with h | h
    ·exact absurd (Rat.le_trans hle y3) (Rat.not_le.2 (x4 y h y2))
    ·exact h
   ·exact ⟨_, _, ou lP dP (hk x) x5, ou lQ dQ h7 y5, .inr (.inr (.inl ⟨rfl, x, rfl⟩))⟩
  ·rcases pK bQ (by omega) hf hM with ⟨y, y1, y2, y3, y4, _, y5⟩ | ⟨_, y5⟩
   ·exact ⟨_, _, ou lP dP h7 x5, ou lQ dQ (hk y) y5, .inr (.inl ⟨rfl, .inr ⟨y, rfl⟩⟩)⟩
   ·exact ⟨_, _, ou lP dP h7 x5, ou lQ dQ h7 y5, .inr (.inl ⟨rfl, .inl rfl⟩)⟩
theorem agx (hbeg : L.call dO [] = some (.bool true)) (b0 : aO) (s p q : Int) : L.call iV [aS b0, .int .i64 s, .int .i64 p, .int .i64 q] = some (.bool true) := by
 have hcut := CV b0
 obtain ⟨hc, hr⟩ := UG b0
 generalize AY b0 = b at *
 have m1 := aiQ (n := p) (k := 30000) (by omega) (by omega)
 have m2 := aiQ (n := q) (k := 30000) (by omega) (by omega)
 obtain ⟨P, hP⟩ : ∃ P : Nat, (P : Int) = 1 + p % 30000 := ⟨(1 + p % 30000).toNat, by omega⟩
 obtain ⟨Q, hQ⟩ : ∃ Q : Nat, (Q : Int) = 1 + q % 30000 := ⟨(1 + q % 30000).toNat, by omega⟩
 have w1 : IntKind.i64.wrap (1 + p % 30000) = (P : Int) := by rw [wrap64 _ (by omega)]; omega
 have w2 : IntKind.i64.wrap (1 + q % 30000) = (Q : Int) := by rw [wrap64 _ (by omega)]; omega
 obtain ⟨tp, htp⟩ : ∃ t, t = Int.tmod p 30000 := ⟨_, rfl⟩
 obtain ⟨tq, htq⟩ : ∃ t, t = Int.tmod q 30000 := ⟨_, rfl⟩
 rw [← htp] at m1
 rw [← htq] at m2
 have oP := acn (x := P) (by omega)
 have oQ := acn (x := Q) (by omega)
 have dP := Z8 (x := P) (by omega)
 have dQ := Z8 (x := Q) (by omega)
 have c7 := vJ (some (7, none))
 have c0 := vJ none
 have s7 := Qc (some (7, none)) 7
 have s0 := Qc none 7
 simp only [dS, Ob] at c7 c0 s7 s0
 have ncP : D.clo 0 11 (nD P) = true := by unfold nD; split <;> rfl
 have ncQ : D.clo 0 11 (nD Q) = true := by unfold nD; split <;> rfl
 by_cases h : (Q : Int) < P
 ·have hle : Q ≤ P := by omega
  obtain ⟨r, t, h1, h2, h3⟩ := acP hc hr s (P := Q) (Q := P) (by omega) (by omega) (by omega)
  generalize yu P = tP at *
  generalize yu Q = tQ at *
  generalize nD P = nP at *
  generalize nD Q = nQ at *
  clear hP hQ
  generalize (P : Int) = Pz at *
  generalize (Q : Int) = Qz at *
  obtain ⟨i, mt, fq, c, rd', n, st, en, ex⟩ := b
  obtain ⟨i', mt', fq', c', rd'', n', st', en', ex'⟩ := b0
  unfold aS aN at *
  simp only at *
  refine aJ BH rfl (BD ..) ?_
  rcases h3 with ⟨e, he, rfl, rfl⟩ | ⟨rfl, rfl | ⟨y, rfl⟩⟩ | ⟨rfl, y, rfl⟩ | ⟨x, y, rfl, rfl, hxy⟩
  ·have ce := vJ e
   generalize Ob e = cz at *
   simp only [jT] at h1 h2
   rcases e with _ | ⟨c, _ | t⟩
   ·exact absurd rfl he
   ·simp only [dS] at *
    simp [dF, hbeg, hcut, ← htp, ← htq, m1, m2, w1, w2, h, oP, oQ, dP, dQ, h1, h2, ncP, ncQ, ce]
   ·simp only [dS, eH] at *
    simp [dF, hbeg, hcut, ← htp, ← htq, m1, m2, w1, w2, h, oP, oQ, dP, dQ, h1, h2, ncP, ncQ, ce]
  ·simp only [jT, dS] at h1 h2
   simp [dF, hbeg, hcut, ← htp, ← htq, m1, m2, w1, w2, h, oP, oQ, dP, dQ, h1, h2, ncP, ncQ, c7]
  ·simp only [jT, dS] at h1 h2
   simp [dF, hbeg, hcut, ← htp, ← htq, m1, m2, w1, w2, h, oP, oQ, dP, dQ, h1, h2, ncP, ncQ, c7, c0, s7]
  ·simp only [jT, dS] at h1 h2
   simp [dF, hbeg, hcut, ← htp, ← htq, m1, m2, w1, w2, h, oP, oQ, dP, dQ, h1, h2, ncP, ncQ, c7, c0, s7, s0]
  ·simp only [jT, dS] at h1 h2
   simp [dF, hbeg, hcut, ← htp, ← htq, m1, m2, w1, w2, h, oP, oQ, dP, dQ, h1, h2, ncP, ncQ, hxy]
 ·have hle : P ≤ Q := by omega
  obtain ⟨r, t, h1, h2, h3⟩ := acP hc hr s (P := P) (Q := Q) (by omega) (by omega) (by omega)
  generalize yu P = tP at *
  generalize yu Q = tQ at *
  generalize nD P = nP at *
  generalize nD Q = nQ at *
  clear hP hQ
  generalize (P : Int) = Pz at *
  generalize (Q : Int) = Qz at *
  obtain ⟨i, mt, fq, c, rd', n, st, en, ex⟩ := b
  obtain ⟨i', mt', fq', c', rd'', n', st', en', ex'⟩ := b0
  unfold aS aN at *
  simp only at *
  refine aJ BH rfl (BD ..) ?_
  rcases h3 with ⟨e, he, rfl, rfl⟩ | ⟨rfl, rfl | ⟨y, rfl⟩⟩ | ⟨rfl, y, rfl⟩ | ⟨x, y, rfl, rfl, hxy⟩
  ·have ce := vJ e
   generalize Ob e = cz at *
   simp only [jT] at h1 h2
   rcases e with _ | ⟨c, _ | t⟩
   ·exact absurd rfl he
   ·simp only [dS] at *
    simp [dF, hbeg, hcut, ← htp, ← htq, m1, m2, w1, w2, h, oP, oQ, dP, dQ, h1, h2, ncP, ncQ, ce]
   ·simp only [dS, eH] at *
    simp [dF, hbeg, hcut, ← htp, ← htq, m1, m2, w1, w2, h, oP, oQ, dP, dQ, h1, h2, ncP, ncQ, ce]
  ·simp only [jT, dS] at h1 h2
   simp [dF, hbeg, hcut, ← htp, ← htq, m1, m2, w1, w2, h, oP, oQ, dP, dQ, h1, h2, ncP, ncQ, c7]
  ·simp only [jT, dS] at h1 h2
   simp [dF, hbeg, hcut, ← htp, ← htq, m1, m2, w1, w2, h, oP, oQ, dP, dQ, h1, h2, ncP, ncQ, c7, c0, s7]
  ·simp only [jT, dS] at h1 h2
   simp [dF, hbeg, hcut, ← htp, ← htq, m1, m2, w1, w2, h, oP, oQ, dP, dQ, h1, h2, ncP, ncQ, c7, c0, s7, s0]
  ·simp only [jT, dS] at h1 h2
   simp [dF, hbeg, hcut, ← htp, ← htq, m1, m2, w1, w2, h, oP, oQ, dP, dQ, h1, h2, ncP, ncQ, hxy]
end Go.Ev.Code
