/- A part of the proof of the theorem yieldNone_card. -/
import Derived.Test.YtjjogojaemahkaaGreatDoorSpD1
section
set_option linter.unusedVariables false
set_option linter.unusedSimpArgs false
namespace Go.Ev.Code
open Go Go.Ev
def placeF (b : Bond) (day : Int) : Nat → Nat → Option Nat
  | 0, _ => none
  | f + 1, k => match anch b k with
    | some a => if (a : Int) < day then none else if (a : Int) = day then some k else placeF b day f (k + 1)
    | none => none
def placeB (b : Bond) (day : Int) : Option Nat := placeF b day 3602 0
def plcD : Option Nat → List D
  | some k => [.int .i64 k, .bool true]
  | none => [.int .i64 0, .bool false]
theorem anch_none (b : Bond) (hm : months b ≠ 0) : anch b 3601 = none := by
  have hc := months_cases b
  unfold anch addD
  split
  · rw [addM_far (by rcases hc with h | h | h | h | h <;> rw [h] <;> omega)]
  · rfl
theorem place_loop {b : Bond} (hm : months b ≠ 0) {day : Int} : ∀ (f k : Nat), k + f = 3602 →
    L.loop [1, 2, 6] [4, 5] plan_place_b1 1 [.int .i64 day, .loc 0 0, .int .i64 k] [.live (bondC b)] = some (.ret, plcD (placeF b day f k), [.live (bondC b)]) ∨ f = 0 := by
  intro f
  induction f with
  | zero => intro k hk; exact .inr rfl
  | succ f ih =>
    intro k hk
    left
    have ha := plan_anchor_ok b (k := k) (by omega)
    have hn := ih (k + 1) (by omega)
    have hlast : f = 0 → anch b k = none := fun h => by
      have : k = 3601 := by omega
      rw [this]; exact anch_none b hm
    simp only [placeF]
    have e1 : IntKind.i64.wrap ((k : Int) + 1) = ((k + 1 : Nat) : Int) := by rw [wrap64 _ (by omega)]; omega
    generalize anch b k = r at *
    generalize placeF b day f (k + 1) = r2 at *
    obtain ⟨i, m, fq, c, rd, n, s, e, ex⟩ := b
    unfold bondD bondC at *
    simp only at *
    refine roundL (S_plan_place_b1 ..) ?_
    cases r with
    | none => simp [ancD] at ha; simp [s_plan_place_b1, ha, plcD]
    | some a =>
      simp [ancD] at ha
      simp only
      by_cases h1 : (a : Int) < day
      · simp [s_plan_place_b1, ha, h1, plcD]
      · by_cases h2 : (a : Int) = day
        · subst h2
          simp [s_plan_place_b1, ha, plcD]
        · rcases hn with hn | hn
          · cases r2 with
            | none => simp [plcD] at hn; simp [s_plan_place_b1, ha, h1, h2, e1, hn, plcD]
            | some k2 => simp [plcD] at hn; simp [s_plan_place_b1, ha, h1, h2, e1, hn, plcD]
          · have := hlast hn; simp at this
theorem plan_place_ok {b : Bond} (hm : months b ≠ 0) (day : Int) : L.call plan_place [bondD b, .int .i64 day] = some (.tup (plcD (placeB b day))) := by
  have hl := (place_loop hm (day := day) 3602 0 rfl).resolve_right (by decide)
  change L.loop [1, 2, 6] [4, 5] plan_place_b1 1 [.int .i64 day, .loc 0 0, .int .i64 0] [.live (bondC b)] = some (.ret, plcD (placeB b day), [.live (bondC b)]) at hl
  generalize placeB b day = r at *
  obtain ⟨i, m, fq, c, rd, n, s, e, ex⟩ := b
  unfold bondD bondC at *
  simp only at *
  refine callL T_plan_place rfl (S_plan_place ..) ?_
  cases r with
  | none => simp [plcD] at hl; simp [s_plan_place, hl, plcD]
  | some k => simp [plcD] at hl; simp [s_plan_place, hl, plcD]
theorem placeF_some {b : Bond} {day : Int} : ∀ {f k j : Nat}, placeF b day f k = some j → j < k + f ∧ anch b j = some day.toNat ∧ 0 ≤ day
  | 0, k, j, h => by simp [placeF] at h
  | f + 1, k, j, h => by
    simp only [placeF] at h
    split at h <;> try (simp at h; done)
    rename_i a ha
    split at h <;> try (simp at h; done)
    split at h
    · rename_i h2
      simp at h
      subst h
      refine ⟨by omega, ?_, by omega⟩
      rw [ha]; congr 1; omega
    · have := placeF_some h
      exact ⟨by omega, this.2⟩
def quasi (b : Bond) (day : Int) : Option Nat := match placeB b day with
  | some k => if day ≤ b.issue then none else anch b (k + 1)
  | none => none
def quaD (b : Bond) (day : Int) : D := match chk b with
  | some e => .tup [.int .i64 0, errO (some e)]
  | none => dayD (quasi b day)
theorem plan_Quasi_ok {b : Bond} (hc : b.coupon.length ≤ 1000000) (hr : b.redeem.length ≤ 1000000) (day : Int) : L.call plan_Quasi [bondD b, .int .i64 day] = some (quaD b day) := by
  have hck := bond_Check_ok hc hr
  by_cases hchk : chk b = none
  · have hm := (chk_days hchk).2.1
    have hp := plan_place_ok hm day
    have hps := fun {j} => @placeF_some b day 3602 0 j
    have han := fun k (hk : k ≤ 100000) => plan_anchor_ok b (k := k) hk
    unfold quaD quasi
    rw [hchk] at hck ⊢
    simp only
    unfold placeB at *
    generalize placeF b day 3602 0 = r at *
    simp [errO] at hck
    cases r with
    | none =>
      obtain ⟨i, m, fq, c, rd, n, s, e, ex⟩ := b
      unfold bondD bondC at *
      simp only at *
      simp [plcD] at hp
      refine callL T_plan_Quasi rfl (S_plan_Quasi ..) ?_
      simp [s_plan_Quasi, hck, hp, fault_Of_ok, dayD]
    | some k =>
      have hk := (hps rfl).1
      have ha := han (k + 1) (by omega)
      have e1 : IntKind.i64.wrap ((k : Int) + 1) = ((k + 1 : Nat) : Int) := by rw [wrap64 _ (by omega)]; omega
      show L.call plan_Quasi [bondD b, .int .i64 day] = some (dayD (if day ≤ b.issue then none else anch b (k + 1)))
      generalize anch b (k + 1) = r2 at *
      obtain ⟨i, m, fq, c, rd, n, s, e, ex⟩ := b
      unfold bondD bondC at *
      simp only at *
      simp [plcD] at hp
      refine callL T_plan_Quasi rfl (S_plan_Quasi ..) ?_
      by_cases hd : day ≤ i
      · simp [s_plan_Quasi, hck, hp, hd, fault_Of_ok, dayD]
      · cases r2 with
        | none => simp [ancD] at ha; simp [s_plan_Quasi, hck, hp, hd, e1, ha, fault_Of_ok, dayD]
        | some a => simp [ancD] at ha; simp [s_plan_Quasi, hck, hp, hd, e1, ha, dayD]
  · cases hce : chk b with
    | none => exact absurd hce hchk
    | some er =>
      obtain ⟨ec, es⟩ := er
      unfold quaD
      rw [hce] at hck ⊢
      obtain ⟨i, m, fq, c, rd, n, s, e, ex⟩ := b
      unfold bondD bondC at *
      simp only at *
      simp [errO, erAt] at hck
      refine callL T_plan_Quasi rfl (S_plan_Quasi ..) ?_
      simp [s_plan_Quasi, hck, errO, erAt]
def pD (p : Int × Int) : D := .agg [.int .i64 p.1, .int .i64 p.2]
def regular (b : Bond) (p : Int × Int) : Bool := match chk b with
  | some _ => false
  | none => match quasi b p.2 with
    | some a => decide ((a : Int) = p.1)
    | none => false
theorem plan_Regular_ok {b : Bond} (hc : b.coupon.length ≤ 1000000) (hr : b.redeem.length ≤ 1000000) (p : Int × Int) : L.call plan_Regular [bondD b, pD p] = some (.bool (regular b p)) := by
  have hq := plan_Quasi_ok hc hr p.2
  obtain ⟨p1, p2⟩ := p
  unfold regular pD
  unfold quaD at hq
  simp only at hq ⊢
  generalize chk b = ck at *
  generalize quasi b p2 = q at *
  obtain ⟨i, m, fq, c, rd, n, s, e, ex⟩ := b
  unfold bondD bondC at *
  refine callL T_plan_Regular rfl (S_plan_Regular ..) ?_
  cases ck with
  | some er => obtain ⟨ec, es⟩ := er; simp [errO, erAt] at hq; simp [s_plan_Regular, hq]
  | none =>
    cases q with
    | none => simp [dayD] at hq; simp [s_plan_Regular, hq]
    | some a => simp [dayD] at hq; simp [s_plan_Regular, hq]
end Go.Ev.Code
end
section
set_option linter.unusedVariables false
set_option linter.unusedSimpArgs false
namespace Go.Ev.Code
open Go Go.Ev
theorem orcL {n f : Nat} {args : List D} {d : D} (h : (TT.orc n).call f args = some d) : L.call f args = some d := by
  rw [orc_call] at h
  obtain ⟨⟨r, m⟩, hr⟩ := pureOf_some h
  rw [hr] at h
  exact call_calla (lim_calla.2 ⟨n, hr⟩) h
def rule11 : D := .agg [.int .i64 1, .int .i64 1, .int .i64 1, .int .i64 0, .int .i64 0, .bool false]
theorem holi_May11 : L.call holi_May [rule11] = some (.bool true) := orcL (n := 30) (by kernel_rfl)
theorem within_ok {n a b : Int} (h1 : a ≤ n) (h2 : n ≤ b) : L.call holi_within [.int .i64 n, .int .i64 a, .int .i64 b] = some (.bool true) := by
  refine callL T_holi_within rfl (S_holi_within ..) ?_
  simp [s_holi_within, h1, h2]
theorem holi_Day11 {y : Nat} (h1 : 1900 ≤ y) (h2 : y ≤ 2199) : L.call holi_Day [rule11, .int .i64 y] = some (.tup [.int .i64 (bef y), .bool true]) := by
  have hm := holi_May11
  have hd := date_Of_ok (y := y) (m := 1) (d := 1) h1 h2 (by decide) (by decide) (by decide) (by simp [mlen])
  have e : dayOf y 1 1 = bef y := by simp [dayOf, cum]
  rw [e] at hd
  have hb := bef_le (y := y) (by omega)
  have hb' : bef y ≤ 109572 := by unfold bef; omega
  have hw := within_ok (n := bef y) (a := 0) (b := 109572) (by omega) (by omega)
  unfold civD at hd
  unfold rule11 at hm ⊢
  generalize bef y = b at *
  refine callL T_holi_Day rfl (S_holi_Day ..) ?_
  simp [s_holi_Day, hm, hd, hw] at *
def jans : Nat → List Int
  | 0 => []
  | k + 1 => ((bef (1900 + k) : Nat) : Int) :: jans k
theorem bef_up {y : Nat} (h1 : 1900 ≤ y) (h2 : y ≤ 2199) : bef y < bef (y + 1) := by unfold bef; omega
theorem jans_lt : ∀ {k : Nat}, k ≤ 300 → ∀ z ∈ jans k, z < (bef (1900 + k) : Nat)
  | 0, _, z, hz => by simp [jans] at hz
  | k + 1, hk, z, hz => by
    have := bef_up (y := 1900 + k) (by omega) (by omega)
    simp only [jans, List.mem_cons] at hz
    rcases hz with rfl | hz
    · have e : 1900 + k + 1 = 1900 + (k + 1) := by omega
      rw [e] at this; omega
    · have h := jans_lt (k := k) (by omega) z hz
      have e : 1900 + k + 1 = 1900 + (k + 1) := by omega
      rw [e] at this; omega
theorem insK_jans {k : Nat} (hk : k < 300) : insK (jans k) ((bef (1900 + k) : Nat) : Int) = jans (k + 1) := by
  have : (jans k).contains ((bef (1900 + k) : Nat) : Int) = false := by
    rw [← Bool.not_eq_true, List.contains_iff_mem]
    intro h
    have := jans_lt (k := k) (by omega) _ h
    omega
  unfold insK
  rw [this]
  rfl
def rules11 : D := .sl 1 [.int .i64 1, .int .i64 1, .int .i64 1, .int .i64 0, .int .i64 0, .bool false]
theorem new_loop (j : Nat) : ∀ k, k + j = 300 →
    L.loop [6, 10, 11, 47, 48, 49] [6, 47, 48, 49] cal_New_b2 3 [.loc 1 0, .loc 2 0, .int .i64 ((1900 + k : Nat) : Int), rules11, .int .i64 1, .int .i64 0] [.mp (jans k), .live [.lmap 0], .live [.int .i64 1, .int .i64 1, .int .i64 1, .int .i64 0, .int .i64 0, .bool false]] =
      some (.exit 5, [.loc 1 0, rules11, .int .i64 1, .int .i64 0], [.mp (jans 300), .live [.lmap 0], .live [.int .i64 1, .int .i64 1, .int .i64 1, .int .i64 0, .int .i64 0, .bool false]]) := by
  induction j with
  | zero =>
    intro k hk
    have : k = 300 := by omega
    subst this
    refine roundL (S_cal_New_b2 ..) ?_
    simp [s_cal_New_b2, rules11]
  | succ j ih =>
    intro k hk
    have hd := holi_Day11 (y := 1900 + k) (by omega) (by omega)
    have hn := ih (k + 1) (by omega)
    have hi := insK_jans (k := k) (by omega)
    have h1 : ((1900 + k : Nat) : Int) ≤ 2199 := by omega
    have h2 : IntKind.i64.wrap (((1900 + k : Nat) : Int) + 1) = ((1900 + (k + 1) : Nat) : Int) := by rw [wrap64 _ (by omega)]; omega
    generalize 1900 + (k + 1) = y' at *
    generalize 1900 + k = y at *
    generalize bef y = b at *
    generalize jans (k + 1) = js at *
    generalize jans k = jk at *
    generalize jans 300 = jz at *
    unfold rule11 at hd
    refine roundL (S_cal_New_b2 ..) ?_
    unfold rules11 at *
    simp [s_cal_New_b2, rMput, h1, h2, hd, hi, hn]
theorem contains_May : L.call slices_ContainsFunc_api_Rule [rules11, .func cal_New_1 []] = some (.bool false) := orcL (n := 40) (by kernel_rfl)
theorem contains_More : L.call slices_ContainsFunc_int [.sl 0 [], .func cal_New_2 []] = some (.bool false) := orcL (n := 40) (by kernel_rfl)
theorem cal_New11 : L.call cal_New [rules11, .sl 0 []] = some (.tup [.ref [.mapf (jans 300)] 0, .nili]) := by
  have h1 := contains_May
  have h2 := contains_More
  have h3 := new_loop 300 0 (by omega)
  refine callL T_cal_New rfl (S_cal_New ..) ?_
  generalize jans 300 = jz at *
  unfold rules11 at *
  simp [jans] at h3
  have l1 : L.loop [0, 6, 35, 36, 37] [0, 6] cal_New_b1 2 [.sl 1 [.int .i64 1, .int .i64 1, .int .i64 1, .int .i64 0, .int .i64 0, .bool false], .loc 1 0, .sl 0 [], .int .i64 0, .int .i64 0] [.mp [], .live [.lmap 0]] = some (.exit 1, [.sl 1 [.int .i64 1, .int .i64 1, .int .i64 1, .int .i64 0, .int .i64 0, .bool false], .loc 1 0], [.mp [], .live [.lmap 0]]) := by
    refine roundL (S_cal_New_b1 ..) ?_
    simp [s_cal_New_b1]
  have l3 : L.loop [6, 47, 48, 49] [6] cal_New_b3 2 [.loc 1 0, .sl 1 [.int .i64 1, .int .i64 1, .int .i64 1, .int .i64 0, .int .i64 0, .bool false], .int .i64 1, .int .i64 1] [.mp jz, .live [.lmap 0]] = some (.exit 3, [.loc 1 0], [.mp jz, .live [.lmap 0]]) := by
    refine roundL (S_cal_New_b3 ..) ?_
    simp [s_cal_New_b3]
  have l2 : L.loop [6, 47, 48, 49] [6] cal_New_b3 2 [.loc 1 0, .sl 1 [.int .i64 1, .int .i64 1, .int .i64 1, .int .i64 0, .int .i64 0, .bool false], .int .i64 1, .int .i64 0] [.mp [], .live [.lmap 0]] = some (.exit 3, [.loc 1 0], [.mp jz, .live [.lmap 0]]) := by
    refine roundL (S_cal_New_b3 ..) ?_
    have e1 : IntKind.i64.wrap 1 = 1 := by decide
    simp [s_cal_New_b3, h3, e1, l3]
  simp [s_cal_New, h1, h2, rMkm, l1, l2]
end Go.Ev.Code
end
