/- A part of the proof of flowSum_card, flowParts_card, flowEx_card, accrWhole_card, priceZero_card. -/
import Derived.Test.YtnokhmkkpcfilaaGreatDoorCSpD3
set_option linter.unusedVariables false
set_option linter.unusedSimpArgs false
namespace Go.Ev.Code
open Go Go.Ev
theorem ai9 {m : Mem} (a : Int) : dZ .and [.int .i64 a, .int .i64 1023] m = some (.int .i64 (a % 1024), m) := by
 have h : (BitVec.ofInt 64 a &&& BitVec.ofInt 64 1023).toNat = (a % 1024).toNat := by
  rw [BitVec.toNat_and]
  have e : (BitVec.ofInt 64 1023).toNat = 2 ^ 10 - 1 := by decide
  rw [e, Nat.and_two_pow_sub_one_eq_mod, BitVec.toNat_ofInt]
  have h1 : 0 ≤ a % ((2 ^ 64 : Nat) : Int) := Int.emod_nonneg _ (by decide)
  have h2 : a % ((2 ^ 64 : Nat) : Int) % 1024 = a % 1024 := Int.emod_emod_of_dvd a (by decide)
  have h3 : 0 ≤ a % 1024 := Int.emod_nonneg _ (by decide)
  omega
 have h3 : 0 ≤ a % 1024 := Int.emod_nonneg _ (by decide)
 have h4 : a % 1024 < 1024 := Int.emod_lt_of_pos _ (by decide)
 have hw : IntKind.i64.wrap (((a % 1024).toNat : Nat) : Int) = a % 1024 := by rw [wrap64 _ (by omega)]; omega
 show (bif IntKind.i64 == IntKind.i64 then (Ev.aj .and .i64 a 1023).bind fun d => some (d, m) else none) = _
 simp only [beq_self_eq_true, cond_true, Ev.aj]
 rw [show IntKind.i64.bits = 64 from rfl, h, hw]
 rfl
theorem aap {a b d : Int} : Rat.divInt a d + Rat.divInt b d = Rat.divInt (a + b) d := by
 rw [Rat.divInt_eq_div, Rat.divInt_eq_div, Rat.divInt_eq_div, Rat.intCast_add]
 grind
theorem aop {f x u y : Int} {q : Int × Int} (h1 : x ≤ u) (h2 : u ≤ y) (hq : q.1 < q.2) : Gs f x u q + Gs f u y q = Gs f x y q := by
 unfold Gs
 rw [aap]
 congr 1
 omega
theorem ZJ {f x u y : Int} (h1 : x ≤ u) (h2 : u ≤ y) : ∀ {l : List (Int × Int)} {s t : Rat}, (∀ q ∈ l, QOk q) → sumF f x u s l + sumF f u y t l = sumF f x y (s + t) l
 | [], s, t, _ => rfl
 | q :: r, s, t, h => by
   simp only [sumF]
   rw [ZJ h1 h2 (fun p hp => h p (by simp [hp])), ← aop (f := f) h1 h2 (h q (by simp)).lt]
   congr 1
   grind
theorem ae3 {k x u y : Int} : oD k x u + oD k u y = oD k x y := by
 unfold oD
 split
 ·unfold aam; omega
 ·omega
theorem adw {k x u y : Int} : FQ k x u + FQ k u y = FQ k x y := by
 unfold FQ
 rw [aap, ae3]
theorem aom {b : aN} (hchk : chk b = none) {p : Int × Int} (d2 : bQ p.2) {u v : Int} (h1 : p.1 ≤ u) (h2 : u ≤ v) (h3 : v ≤ p.2) :
  (fV b p p.1 u = .error 4 ∧ fV b p u v = .error 4 ∧ fV b p v p.2 = .error 4 ∧ fV b p p.1 p.2 = .error 4) ∨
  ∃ A C E : Rat, fV b p p.1 u = .ok A ∧ fV b p u v = .ok C ∧ fV b p v p.2 = .ok E ∧ fV b p p.1 p.2 = .ok (A + C + E) := by
 unfold fV
 by_cases hc : b.count = 4
 ·simp only [if_pos hc]
  cases hq : uQ b p with
  | none => left; exact ⟨rfl, rfl, rfl, rfl⟩
  | some l =>
    right
    have hok := (vS hchk d2 hq).1
    simp only
    rw [if_neg (by omega), if_neg (by omega), if_neg (by omega), if_neg (by omega)]
    refine ⟨_, _, _, rfl, rfl, rfl, ?_⟩
    rw [ZJ h1 h2 hok, ZJ (by omega) h3 hok]
    have hz : Rat.divInt 0 1 + Rat.divInt 0 1 + Rat.divInt 0 1 = Rat.divInt 0 1 := by decide +kernel
    rw [hz]
 ·simp only [if_neg hc]
  right
  rw [if_neg (by omega), if_neg (by omega), if_neg (by omega), if_neg (by omega)]
  refine ⟨_, _, _, rfl, rfl, rfl, ?_⟩
  rw [adw, adw]
theorem akL {b : aN} (hchk : chk b = none) {p : Int × Int} (d1 : bQ p.1) (d2 : bQ p.2) (hlt : p.1 < p.2) (hreg : regular b p = true) (hc : b.count = 4) {a : Rat} (h : fV b p p.1 p.2 = .ok a) : a = Rat.divInt 1 b.dQ := by
 have hf := jm (dM hchk).2.1
 unfold regular at hreg
 rw [hchk] at hreg
 simp only at hreg
 obtain ⟨f, hfu⟩ : ∃ f, (p.2 - p.1).toNat = f + 1 := ⟨(p.2 - p.1).toNat - 1, by omega⟩
 have hq : uQ b p = some [(p.1, p.2)] := by
  unfold uQ
  rw [hfu]
  simp only [jo]
  rw [if_neg (by omega)]
  cases hqe : quasi b p.2 with
  | none => rw [hqe] at hreg; simp at hreg
  | some x =>
    rw [hqe] at hreg
    simp at hreg
    simp only [hreg]
    cases f with
    | zero => simp [jo]
    | succ f => simp [jo]
 unfold fV at h
 rw [if_pos hc, hq] at h
 simp only at h
 rw [if_neg (by omega)] at h
 simp at h
 subst h
 simp only [sumF, Gs]
 have e : max (min p.2 p.2 - max p.1 p.1) 0 = p.2 - p.1 := by omega
 rw [e]
 have hne : ((p.2 - p.1 : Int) : Rat) ≠ 0 := by
  intro h0
  have := Rat.intCast_eq_zero_iff.1 h0
  omega
 have hfn : ((b.dQ : Int) : Rat) ≠ 0 := by
  intro h0
  have := Rat.intCast_eq_zero_iff.1 h0
  rcases hf with h | h | h | h <;> omega
 simp only [Rat.divInt_eq_div, Rat.intCast_mul]
 generalize ((p.2 - p.1 : Int) : Rat) = w at *
 generalize ((b.dQ : Int) : Rat) = v at *
 have h0 : ((0 : Int) : Rat) = 0 := rfl
 have h1 : ((1 : Int) : Rat) = 1 := rfl
 first | rw [h0, h1] | rw [h1]
 grind
end Go.Ev.Code
