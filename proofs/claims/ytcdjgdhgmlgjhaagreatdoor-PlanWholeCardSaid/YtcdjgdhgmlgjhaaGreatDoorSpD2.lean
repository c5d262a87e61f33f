/- A part of the proof of the theorem planWhole_card. -/
import Derived.Test.YtcdjgdhgmlgjhaaGreatDoorSpD1
import Derived.Test.YtcdjgdhgmlgjhaaGreatDoorSpC
section
set_option linter.unusedVariables false
set_option linter.unusedSimpArgs false
namespace Go.Ev.Code
open Go Go.Ev
theorem civ_before {y m d y' m' d' : Nat} (h : Civ y m d) (h' : Civ y' m' d') (hlt : y * 12 + m < y' * 12 + m') : dayOf y m d < dayOf y' m' d' := by
  have a1 := h.m1
  have a2 := h.m2
  have a3 := h'.m1
  have a4 := h'.m2
  have a5 := h.d1
  have a6 := h.d2
  have a7 := h'.d1
  have a8 := h.y1
  rcases Nat.lt_or_ge y y' with hy | hy
  · have h1 := h.hi
    have h2 := h'.lo
    have h3 := bef_mono (x := y + 1) (y := y') (by omega) hy
    omega
  · have hyy : y = y' := by omega
    subst hyy
    have hm : m < m' := by omega
    have h4 : cum y m = cum y (m - 1) + mlen y m := by
      obtain ⟨q, rfl⟩ : ∃ q, m = q + 1 := ⟨m - 1, by omega⟩
      simp only [cum, Nat.add_sub_cancel]
    have h5 := cum_mono y (j := m) (k := m' - 1) (by omega)
    unfold dayOf
    omega
theorem addD_mon {day n : Int} {e : Bool} {r : Nat} (h : addD day n e = some r) : ∃ y m d, Civ y m d ∧ r = dayOf y m d ∧
    ((y * 12 + m : Nat) : Int) = (((civOf day.toNat).1 * 12 + (civOf day.toNat).2.1 : Nat) : Int) + n := by
  unfold addD at h
  split at h <;> try (simp at h; done)
  rename_i hd
  obtain ⟨y, m, d, hc, hd, ho⟩ := isDay_civ hd
  rw [ho] at h ⊢
  unfold addM at h
  split at h <;> try (simp at h; done)
  simp only at h ⊢
  have h1 := hc.y1
  have h3 := hc.m1
  have h12 : 1 ≤ ((((y * 12 + m - 1 : Nat) : Int) + n) % 12).toNat + 1 ∧ ((((y * 12 + m - 1 : Nat) : Int) + n) % 12).toNat + 1 ≤ 12 := by omega
  have hsum : (((((((y * 12 + m - 1 : Nat) : Int) + n) / 12).toNat * 12 + (((((y * 12 + m - 1 : Nat) : Int) + n) % 12).toNat + 1) : Nat)) : Int) = ((y * 12 + m : Nat) : Int) + n := by omega
  generalize ((((y * 12 + m - 1 : Nat) : Int) + n) % 12).toNat + 1 = m' at *
  generalize ((((y * 12 + m - 1 : Nat) : Int) + n) / 12).toNat = y' at *
  have hp := mlen_pos (y := y') h12.1 h12.2
  have hd1 := hc.d1
  obtain ⟨q1, q2⟩ := mkDay_le h12.1 h12.2 (by split <;> omega) (by split <;> omega) h
  exact ⟨_, _, _, q1, q2, hsum⟩
theorem anch_lt {b : Bond} (hm : months b ≠ 0) {j k a c : Nat} (hjk : j < k) (hj : anch b j = some a) (hk : anch b k = some c) : c < a := by
  obtain ⟨y, m, d, h1, h2, h3⟩ := addD_mon hj
  obtain ⟨y', m', d', h1', h2', h3'⟩ := addD_mon hk
  rw [h2, h2']
  refine civ_before h1' h1 ?_
  have hc := months_cases b
  rcases hc with h | h | h | h | h
  · exact absurd h hm
  all_goals (rw [h] at h3 h3'; omega)
theorem place_anch {b : Bond} (hm : months b ≠ 0) {k a : Nat} (hk : anch b k = some a) (hall : ∀ i, i < k → (anch b i).isSome = true) (hk2 : k < 3602) : placeB b a = some k := by
  unfold placeB
  have : ∀ f i, i ≤ k → k < i + f → placeF b a f i = some k := by
    intro f
    induction f with
    | zero => intro i h1 h2; omega
    | succ f ih =>
      intro i h1 h2
      simp only [placeF]
      rcases Nat.lt_or_ge i k with h | h
      · obtain ⟨c, hc⟩ := Option.isSome_iff_exists.1 (hall i h)
        have := anch_lt hm h hc hk
        rw [hc]
        simp only
        rw [if_neg (by omega), if_neg (by omega)]
        exact ih (i + 1) h (by omega)
      · have : i = k := by omega
        subst this
        rw [hk]
        simp
  exact this 3602 0 (by omega) (by omega)
theorem regular_anch {b : Bond} (hchk : chk b = none) {k a : Nat} (hk : k < kOf b) (h1 : anch b k = some a) {p : Int} (h2 : ∃ c, anch b (k + 1) = some c ∧ (c : Int) = p) : regular b (p, (a : Int)) = true := by
  have hm := (chk_days hchk).2.1
  obtain ⟨g1, g2, g3⟩ := kOf_ok hm
  obtain ⟨c, hc, hcp⟩ := h2
  have hpl := place_anch hm h1 (fun i hi => by
    obtain ⟨d, hd, _⟩ := g1 i (by omega)
    rw [hd]; rfl) (by omega)
  obtain ⟨d, hd, hdi⟩ := g1 k hk
  rw [h1] at hd
  simp at hd
  subst hd
  unfold regular quasi
  rw [hchk]
  simp only [hpl]
  rw [if_neg (by omega), hc]
  simp [hcp]
theorem kOf_le {b : Bond} (hchk : chk b = none) : kOf b ≤ 199 := by
  obtain ⟨q1, hm, _⟩ := chk_days hchk
  obtain ⟨d1, d2, d3⟩ := daysE_none q1
  obtain ⟨g1, g2, g3⟩ := kOf_ok hm
  have kp := kOf_pos hchk
  have hper : perE b ≤ 200 := by
    have h := hchk
    unfold chk at h
    split at h <;> try (simp at h; done)
    split at h <;> try (simp at h; done)
    split at h <;> try (simp at h; done)
    split at h <;> try (simp at h; done)
    split at h <;> try (simp at h; done)
    split at h <;> try (simp at h; done)
    split at h <;> try (simp at h; done)
    omega
  obtain ⟨d, hd, hdi⟩ := g1 (kOf b - 1) (by omega)
  obtain ⟨y, m, dd, h1, h2, h3⟩ := addD_mon hd
  obtain ⟨yi, mi, di, hci, hdi2, hoi⟩ := isDay_civ d1
  have hge : yi * 12 + mi ≤ y * 12 + m := by
    rcases Nat.lt_or_ge (y * 12 + m) (yi * 12 + mi) with h | h
    · have := civ_before h1 hci h
      omega
    · exact h
  have hb : betw b.issue b.mature = ((kOf b - 1 : Nat) : Int) * months b + (((y * 12 + m : Nat) : Int) - ((yi * 12 + mi : Nat) : Int)) := by
    unfold betw
    rw [hoi]
    simp only
    rw [Int.neg_mul] at h3
    omega
  have hnn : ((kOf b - 1 : Nat) : Int) * months b ≤ betw b.issue b.mature := by omega
  unfold perE at hper
  generalize betw b.issue b.mature = bw at *
  have hc := months_cases b
  rcases hc with h | h | h | h | h
  · exact absurd h hm
  all_goals
    rw [h] at hper hnn
    rw [Int.tdiv_eq_ediv_of_nonneg (by omega)] at hper
    omega
end Go.Ev.Code
end
section
set_option linter.unusedVariables false
set_option linter.unusedSimpArgs false
namespace Go.Ev.Code
open Go Go.Ev
theorem mkPers_get : ∀ (l : List Nat) (f : Int) (i : Nat), i < l.length → (mkPers f l)[i]? = some (if i = 0 then f else ((l[i - 1]?.getD 0 : Nat) : Int), ((l[i]?.getD 0 : Nat) : Int))
  | [], _, i, h => by simp at h
  | d :: ds, f, 0, h => by simp [mkPers]
  | d :: ds, f, i + 1, h => by
    have h' : i < ds.length := by simpa using h
    have := mkPers_get ds d i h'
    simp only [mkPers, List.getElem?_cons_succ, this, Nat.add_sub_cancel]
    cases i with
    | zero => simp
    | succ j => simp
structure Whole (b : Bond) (ps : List (Int × Int)) : Prop where
  ne : ps ≠ []
  first : ∀ p : Int × Int, ps[0]? = some p → p.1 = b.issue
  last : ∀ p : Int × Int, ps[ps.length - 1]? = some p → p.2 = b.mature
  len : ps.length ≤ 200
  ord : ∀ (i : Nat) (p : Int × Int), ps[i]? = some p → p.1 < p.2
  next : ∀ (i : Nat) (p q : Int × Int), ps[i]? = some q → ps[i + 1]? = some p → p.1 = q.2 ∧ regular b p = true
  stub : b.stub = 0 → ∀ p : Int × Int, ps[0]? = some p → regular b p = true
theorem raw_get {b : Bond} {i : Nat} (h : i < kOf b) : (rawPers b)[i]? = some (if i = 0 then b.issue else (((anch b (kOf b - i)).getD 0 : Nat) : Int), (((anch b (kOf b - 1 - i)).getD 0 : Nat) : Int)) := by
  unfold rawPers
  have hl := ancs_len b (kOf b)
  rw [mkPers_get _ _ _ (by rw [List.length_reverse, hl]; exact h)]
  have hg : ∀ j, j < kOf b → (ancs b (kOf b)).reverse[j]? = some ((anch b (kOf b - 1 - j)).getD 0) := by
    intro j hj
    rw [List.getElem?_reverse (by rw [hl]; exact hj), hl]
    simp [ancs, List.getElem?_range, show kOf b - 1 - j < kOf b by omega]
  rw [hg i h, Option.getD_some]
  by_cases h0 : i = 0
  · simp [h0]
  · rw [if_neg h0, if_neg h0, hg (i - 1) (by omega), Option.getD_some, show kOf b - 1 - (i - 1) = kOf b - i by omega]
theorem raw_facts {b : Bond} (hchk : chk b = none) {k : Nat} (hk : k < kOf b) : ∃ a, anch b k = some a ∧ b.issue < (a : Int) ∧ (k + 1 < kOf b → ∃ c, anch b (k + 1) = some c ∧ c < a) := by
  have hm := (chk_days hchk).2.1
  obtain ⟨g1, g2, g3⟩ := kOf_ok hm
  obtain ⟨a, ha, hai⟩ := g1 k hk
  refine ⟨a, ha, hai, fun hk2 => ?_⟩
  obtain ⟨c, hc, _⟩ := g1 (k + 1) hk2
  exact ⟨c, hc, anch_lt hm (Nat.lt_succ_self k) ha hc⟩
theorem raw_ord {b : Bond} (hchk : chk b = none) {i : Nat} {p : Int × Int} (h : (rawPers b)[i]? = some p) : p.1 < p.2 ∧ b.issue < p.2 := by
  have hl : i < kOf b := by rw [← rawPers_len]; exact (List.getElem?_eq_some_iff.1 h).1
  rw [raw_get hl] at h
  simp at h
  subst h
  obtain ⟨a, ha, hai, hn⟩ := raw_facts hchk (k := kOf b - 1 - i) (by omega)
  simp only [ha, Option.getD_some]
  by_cases h0 : i = 0
  · rw [if_pos h0]; exact ⟨hai, hai⟩
  · rw [if_neg h0]
    obtain ⟨c, hc, hca⟩ := hn (by omega)
    rw [show kOf b - i = kOf b - 1 - i + 1 by omega, hc, Option.getD_some]
    exact ⟨by omega, hai⟩
theorem raw_next {b : Bond} (hchk : chk b = none) {i : Nat} {p q : Int × Int} (hq : (rawPers b)[i]? = some q) (hp : (rawPers b)[i + 1]? = some p) : p.1 = q.2 ∧ regular b p = true := by
  have hl : i + 1 < kOf b := by rw [← rawPers_len]; exact (List.getElem?_eq_some_iff.1 hp).1
  rw [raw_get (by omega)] at hq
  rw [raw_get hl] at hp
  simp at hq hp
  obtain ⟨a, ha, hai, hn⟩ := raw_facts hchk (k := kOf b - 1 - (i + 1)) (by omega)
  obtain ⟨c, hc, hca⟩ := hn (by omega)
  rw [show kOf b - 1 - (i + 1) + 1 = kOf b - (i + 1) by omega] at hc
  subst hp
  subst hq
  refine ⟨?_, ?_⟩
  · simp only
    rw [show kOf b - 1 - i = kOf b - (i + 1) by omega]
  · simp only [ha, hc, Option.getD_some]
    exact regular_anch hchk (k := kOf b - 1 - (i + 1)) (by omega) ha ⟨c, by rw [show kOf b - 1 - (i + 1) + 1 = kOf b - (i + 1) by omega]; exact hc, rfl⟩
theorem raw_whole {b : Bond} (hchk : chk b = none) (hs : b.stub = 0 → hitB b = true) : Whole b (rawPers b) := by
  have kp := kOf_pos hchk
  have hm := (chk_days hchk).2.1
  obtain ⟨d1, d2, d3⟩ := daysE_none (chk_days hchk).1
  have hl := rawPers_len b
  refine ⟨?_, ?_, ?_, ?_, ?_, ?_, ?_⟩
  · intro h; rw [h] at hl; simp at hl; omega
  · intro p hp
    rw [raw_get (by omega)] at hp
    simp at hp
    rw [← hp]
  · intro p hp
    rw [hl, raw_get (by omega)] at hp
    simp at hp
    rw [← hp]
    simp only [show kOf b - 1 - (kOf b - 1) = 0 by omega, anch_zero d2, Option.getD_some]
    omega
  · have := kOf_le hchk; omega
  · exact fun i p hp => (raw_ord hchk hp).1
  · exact fun i p q hq hp => raw_next hchk hq hp
  · intro h0 p hp
    have hh := hs h0
    rw [raw_get (by omega)] at hp
    simp at hp
    subst hp
    obtain ⟨a, ha, hai, _⟩ := raw_facts hchk (k := kOf b - 1) (by omega)
    simp only [Nat.sub_zero, ha, Option.getD_some]
    refine regular_anch hchk (k := kOf b - 1) (by omega) ha ?_
    rw [show kOf b - 1 + 1 = kOf b by omega]
    unfold hitB at hh
    cases hk : anch b (kOf b) with
    | none => rw [hk] at hh; simp at hh
    | some c => rw [hk] at hh; exact ⟨c, rfl, by simpa using hh⟩
theorem plan_whole {b : Bond} (h : (planR b).1 = none) : chk b = none ∧ Whole b (planR b).2 := by
  unfold planR at h ⊢
  cases hchk : chk b with
  | some e => rw [hchk] at h; simp at h
  | none =>
    rw [hchk] at h
    simp only at h ⊢
    refine ⟨trivial, ?_⟩
    by_cases hh : hitB b = true
    · rw [if_pos hh]; exact raw_whole hchk fun _ => hh
    · rw [if_neg hh] at h ⊢
      by_cases h0 : b.stub = 0
      · rw [if_pos h0] at h; simp at h
      · rw [if_neg h0] at h ⊢
        have hw := raw_whole hchk fun h => absurd h h0
        by_cases h2 : b.stub = 2
        · rw [if_pos h2]
          split
          · rename_i p q r hr
            rw [hr] at hw
            have hq := raw_ord hchk (i := 1) (p := q) (by rw [hr]; rfl)
            refine ⟨by simp, ?_, ?_, ?_, ?_, ?_, fun h => absurd h h0⟩
            · intro x hx; simp at hx; rw [← hx]
            · intro x hx
              have hl := hw.last
              cases r with
              | nil => simp at hx hl; rw [← hx]; exact hl
              | cons y ys =>
                refine hl x ?_
                simp at hx ⊢
                exact hx
            · have := hw.len; simp at this ⊢; omega
            · intro i x hx
              cases i with
              | zero => simp at hx; rw [← hx]; exact hq.2
              | succ j => exact hw.ord (j + 2) x (by simpa using hx)
            · intro i x y hy hx
              cases i with
              | zero =>
                simp at hy
                have := hw.next 1 x q (by simp) (by simpa using hx)
                rw [← hy]; exact this
              | succ j => exact hw.next (j + 2) x y (by simpa using hy) (by simpa using hx)
          · exact hw
        · rw [if_neg h2]; exact hw
end Go.Ev.Code
end
section
set_option linter.unusedVariables false
set_option linter.unusedSimpArgs false
namespace Go.Ev.Code
open Go Go.Ev
theorem perC_get : ∀ {ps : List (Int × Int)} {i : Nat} {p : Int × Int}, ps[i]? = some p → (perC ps)[i * 2]? = some (.int .i64 p.1) ∧ (perC ps)[i * 2 + 1]? = some (.int .i64 p.2) ∧ i * 2 + 2 ≤ (perC ps).length ∧ ((perC ps).drop (i * 2)).take 2 = [.int .i64 p.1, .int .i64 p.2]
  | [], i, p, h => by simp at h
  | (a, b) :: ps, 0, p, h => by simp at h; subst h; simp [perC]
  | (a, b) :: ps, i + 1, p, h => by
    obtain ⟨h1, h2, h3, h4⟩ := perC_get (ps := ps) (i := i) (p := p) (by simpa using h)
    have e1 : (i + 1) * 2 = i * 2 + 1 + 1 := by omega
    have e2 : (i + 1) * 2 + 1 = i * 2 + 1 + 1 + 1 := by omega
    rw [e1]
    refine ⟨by simpa [perC] using h1, by simpa [perC] using h2, by simp [perC]; omega, by simpa [perC] using h4⟩
theorem bondC_clo (b : Bond) (k : Nat) : (bondC b).all (D.clo k 12) = true := by obtain ⟨i, m, f, c, rd, n, s, e, ex⟩ := b; simp [bondC]
theorem bondC_len (b : Bond) : (bondC b).length = 9 := rfl
theorem whole_loop {b : Bond} (hc : b.coupon.length ≤ 1000000) (hr : b.redeem.length ≤ 1000000) {ps : List (Int × Int)} (hw : Whole b ps) : ∀ (j i : Nat), i + j = ps.length →
    L.loop [1, 4, 52, 53] [1, 2, 4] rentierlaw13_PlanWhole_b1 1 [.loc 0 0, .sl ps.length (perC ps), .int .i64 ps.length, .int .i64 i] [.live (bondC b)] =
      some (.exit 0, [.loc 0 0, .undef, .sl ps.length (perC ps)], [.live (bondC b)]) := by
  have hcl := bondC_clo b 1
  have hcl11 : (bondC b).all (D.clo 0 11) = true := by obtain ⟨i, m, f, c, rd, n, s, e, ex⟩ := b; simp [bondC]
  have hpc := perC_clo ps 1 11
  intro j
  induction j with
  | zero =>
    intro i hi
    have : i = ps.length := by omega
    rw [this]
    generalize perC ps = cs at *
    generalize bondC b = B at *
    generalize ps.length = n at *
    refine roundL (S_rentierlaw13_PlanWhole_b1 ..) ?_
    simp [s_rentierlaw13_PlanWhole_b1, hcl, hpc]
  | succ j ih =>
    intro i hi
    have hn := ih (i + 1) (by omega)
    have hlt : i < ps.length := by omega
    obtain ⟨p, hp⟩ : ∃ p, ps[i]? = some p := ⟨ps[i], List.getElem?_eq_getElem hlt⟩
    obtain ⟨g1, g2, g3, g4⟩ := perC_get hp
    have ho := hw.ord i p hp
    have hl200 := hw.len
    have hreg := plan_Regular_ok hc hr p
    have e1 : IntKind.i64.wrap ((i : Int) + 1) = ((i + 1 : Nat) : Int) := by rw [wrap64 _ (by omega)]; omega
    have hord : ¬ p.2 ≤ p.1 := by omega
    have hbl := bondC_len b
    have htk : (bondC b).take 9 = bondC b := List.take_of_length_le (by rw [hbl]; exact Nat.le_refl _)
    rcases Nat.eq_zero_or_pos i with h0 | h0
    · subst h0
      unfold bondD pD at hreg
      generalize regular b p = rg at *
      generalize perC ps = cs at *
      generalize bondC b = B at *
      generalize ps.length = n at *
      have hltI : (0 : Int) < n := by omega
      simp at hn g1 g2 g3 g4
      refine roundL (S_rentierlaw13_PlanWhole_b1 ..) ?_
      have e1' : IntKind.i64.wrap 1 = 1 := by decide
      simp [s_rentierlaw13_PlanWhole_b1, hcl, hpc, hlt, hltI, g1, g2, hord, e1', hn]
    · obtain ⟨q, hq⟩ : ∃ q, ps[i - 1]? = some q := ⟨ps[i - 1]'(by omega), List.getElem?_eq_getElem _⟩
      obtain ⟨k1, k2, k3, k4⟩ := perC_get hq
      have hnx := hw.next (i - 1) p q hq (by rw [show i - 1 + 1 = i by omega]; exact hp)
      rw [hnx.2] at hreg
      unfold bondD pD at hreg
      have e2 : IntKind.i64.wrap ((i : Int) - 1) = ((i - 1 : Nat) : Int) := by rw [wrap64 _ (by omega)]; omega
      have hpI : (0 : Int) < i := by omega
      have hlt2 : i - 1 < ps.length := by omega
      have heq := hnx.1
      generalize perC ps = cs at *
      generalize bondC b = B at *
      generalize ps.length = n at *
      generalize i - 1 = i1 at *
      have hltI : (i : Int) < n := by omega
      obtain ⟨p1, p2⟩ := p
      obtain ⟨q1, q2⟩ := q
      simp only at heq ho hord g1 g2 g4 k1 k2 k4 hreg
      subst heq
      simp at hn
      refine roundL (S_rentierlaw13_PlanWhole_b1 ..) ?_
      simp [s_rentierlaw13_PlanWhole_b1, hcl, hcl11, hpc, hlt, hltI, hlt2, g1, g2, g3, g4, k1, k2, hord, hpI, h0, e1, e2, hbl, htk, hreg, hn]
theorem planWhole_ok (hbeg : L.call rentierlaw13_begun [] = some (.bool true)) (b : Bond) : L.call rentierlaw13_PlanWhole [bondD b] = some (.bool true) := by
  have hcut := law13_Cut_ok b
  obtain ⟨hc, hr⟩ := cut_len b
  have hpl := plan_Of_ok hc hr
  have hbB := bondC_len b
  generalize hb' : cutBond b = b' at *
  have hw := @plan_whole b'
  have hbl := bondC_len b'
  have htk : (bondC b').take 9 = bondC b' := List.take_of_length_le (by rw [hbl]; exact Nat.le_refl _)
  have htk0 : (bondC b).take 9 = bondC b := List.take_of_length_le (by rw [hbB]; exact Nat.le_refl _)
  have hreg := fun p => plan_Regular_ok hc hr p
  have hlp := fun {ps} (h : Whole b' ps) => whole_loop hc hr h ps.length 0 (by omega)
  generalize hpr : planR b' = r at *
  obtain ⟨er, ps⟩ := r
  cases er with
  | some e =>
    have hps : ps = [] := by
      unfold planR at hpr
      split at hpr
      · simp at hpr; first | exact hpr.2 | exact hpr.2.symm
      · split at hpr
        · simp at hpr
        · split at hpr
          · simp at hpr; first | exact hpr.2 | exact hpr.2.symm
          · split at hpr
            · split at hpr <;> simp at hpr
            · simp at hpr
    subst hps
    obtain ⟨ec, es⟩ := e
    simp [planD, perD, perC, errO, erAt] at hpl
    clear hb' hreg hlp hw hpr htk htk0 hbl hbB
    obtain ⟨i, m, f, c, rd, n, s, e, ex⟩ := b
    obtain ⟨i', m', f', c', rd', n', s', e', ex'⟩ := b'
    unfold bondD bondC at *
    simp only at *
    refine callL T_rentierlaw13_PlanWhole rfl (S_rentierlaw13_PlanWhole ..) ?_
    simp [s_rentierlaw13_PlanWhole, hbeg, hcut, hpl]
  | none =>
    obtain ⟨hchk, hwh⟩ := hw rfl
    simp only at hwh
    have hlp := hlp hwh
    have hne := hwh.ne
    have hlen := List.length_pos_iff.2 hne
    have hl200 := hwh.len
    obtain ⟨p, hp⟩ : ∃ p, ps[0]? = some p := ⟨ps[0], List.getElem?_eq_getElem hlen⟩
    obtain ⟨q, hq⟩ : ∃ q, ps[ps.length - 1]? = some q := ⟨ps[ps.length - 1]'(by omega), List.getElem?_eq_getElem _⟩
    have hf := hwh.first p hp
    have hla := hwh.last q hq
    have hst := fun h => hwh.stub h p hp
    have hreg := hreg p
    obtain ⟨g1, g2, g3, g4⟩ := perC_get hp
    obtain ⟨k1, k2, k3, k4⟩ := perC_get hq
    have e1 : IntKind.i64.wrap ((ps.length : Int) - 1) = ((ps.length - 1 : Nat) : Int) := by rw [wrap64 _ (by omega)]; omega
    have hpc := perC_clo ps 0 11
    simp [planD, perD, errO] at hpl
    generalize regular b' p = rg at *
    clear hb' hw hpr htk htk0 hbl hbB hwh hchk
    obtain ⟨bi, m, f, c, rd, bn, s, e, ex⟩ := b
    obtain ⟨iss, mat, f', c', rd', n', stb, e', ex'⟩ := b'
    unfold bondD pD bondC at *
    simp only at *
    have hnl : ps.length - 1 < ps.length := by omega
    generalize perC ps = cs at *
    generalize ps.length - 1 = n1 at *
    generalize ps.length = n at *
    have hn0 : ¬ n = 0 := by omega
    have hn0I : (0 : Int) < n := by omega
    have hn200 : ¬ (200 : Int) < n := by omega
    have hn200' : ¬ 200 < n := by omega
    obtain ⟨p1, p2⟩ := p
    obtain ⟨q1, q2⟩ := q
    simp only at hf hla
    subst hf hla
    simp at g1 g2 g3 g4 hlp
    refine callL T_rentierlaw13_PlanWhole rfl (S_rentierlaw13_PlanWhole ..) ?_
    by_cases h0 : stb = 0
    · have hrg := hst h0
      subst hrg
      subst h0
      simp [s_rentierlaw13_PlanWhole, hbeg, hcut, hpl, hn0, hn0I, hlen, g1, e1, hnl, k2, hn200, hn200', hlp, g3, g4, hreg]
    · simp [s_rentierlaw13_PlanWhole, hbeg, hcut, hpl, hn0, hn0I, hlen, g1, e1, hnl, k2, hn200, hn200', hlp, h0]
end Go.Ev.Code
end
section
set_option linter.unusedVariables false
set_option linter.unusedSimpArgs false
namespace Go.Ev.Code
open Go Go.Ev
def decL : List D → Option (List Nat)
  | [] => some []
  | .int .u64 x :: ds => if 0 ≤ x ∧ x < 18446744073709551616 then (decL ds).bind fun l => some (x.toNat :: l) else none
  | _ => none
theorem decL_ok : ∀ {cs : List D} {l : List Nat}, decL cs = some l → cs = l.map mkU ∧ Small l
  | [], l, h => by simp [decL] at h; subst h; exact ⟨rfl, fun x hx => by simp at hx⟩
  | d :: ds, l, h => by
    unfold decL at h
    split at h <;> try (simp at h; done)
    · rename_i heq; simp at heq
    · rename_i x ds' heq
      simp at heq
      obtain ⟨rfl, rfl⟩ := heq
      split at h <;> try (simp at h; done)
      rename_i hx
      rw [Option.bind_eq_some_iff] at h
      obtain ⟨l', hl', h⟩ := h
      simp at h
      subst h
      obtain ⟨q1, q2⟩ := decL_ok hl'
      have hx' : (x.toNat : Int) = x := by omega
      refine ⟨by simp [q1, hx'], fun y hy => ?_⟩
      simp at hy
      rcases hy with rfl | hy
      · unfold W; omega
      · exact q2 y hy
def lastN0 : List Nat → Bool
  | [] => true
  | [x] => !(Nat.beq x 0)
  | _ :: y :: ys => lastN0 (y :: ys)
theorem lastN0_ok : ∀ {l : List Nat}, lastN0 l = true → ∀ h : l ≠ [], l.getLast h ≠ 0
  | [], _, h => absurd rfl h
  | [x], h, _ => by
    simp only [lastN0, Bool.not_eq_true'] at h
    intro hx
    simp at hx
    subst hx
    simp at h
  | x :: y :: ys, h, hne => by
    rw [List.getLast_cons (by simp)]
    exact lastN0_ok (l := y :: ys) h _
def decN : D → Option Nat
  | .ref [.sl k cs] 0 => (decL cs).bind fun l => if k = l.length ∧ l.length ≤ 1000 ∧ lastN0 l = true then some (val l) else none
  | _ => none
theorem decN_ok {d : D} {n : Nat} (h : decN d = some n) : d = natD n ∧ NB 64000 n := by
  unfold decN at h
  split at h <;> try (simp at h; done)
  rename_i k cs
  rw [Option.bind_eq_some_iff] at h
  obtain ⟨l, hl, h⟩ := h
  split at h <;> try (simp at h; done)
  rename_i hc
  simp at h
  subst h
  obtain ⟨q1, q2⟩ := decL_ok hl
  have hcan : Canon l := ⟨q2, lastN0_ok hc.2.2⟩
  refine ⟨?_, ?_⟩
  · show D.ref [.sl k cs] 0 = .ref (natC (val l)) 0
    unfold natC
    rw [limbs_val hcan, q1, hc.1]
  · have : NB (64 * l.length) (val l) := by
      unfold NB
      have := val_lt q2
      rw [W_pow, ← Nat.pow_mul] at this
      exact this
    exact this.mono (by omega)
def decI : D → Option Int
  | .ref [.bool b, dn] 0 => (decN dn).bind fun n => if b then (if n = 0 then none else some (-(n : Int))) else some (n : Int)
  | _ => none
theorem decI_ok {d : D} {z : Int} (h : decI d = some z) : d = intD z ∧ IB 64000 z := by
  unfold decI at h
  split at h <;> try (simp at h; done)
  rename_i b dn
  rw [Option.bind_eq_some_iff] at h
  obtain ⟨n, hn, h⟩ := h
  obtain ⟨q1, q2⟩ := decN_ok hn
  subst q1
  split at h
  · rename_i hb
    split at h <;> try (simp at h; done)
    rename_i hn0
    simp at h
    subst h
    subst hb
    refine ⟨?_, (IB.ofNat q2).neg⟩
    show D.ref _ 0 = .ref (intC _) 0
    unfold intC
    have h1 : -(n : Int) < 0 := by omega
    have h2 : (-(n : Int)).natAbs = n := by omega
    rw [h2, decide_eq_true h1]
  · rename_i hb
    simp at h hb
    subst h
    subst hb
    refine ⟨?_, IB.ofNat q2⟩
    show D.ref _ 0 = .ref (intC _) 0
    unfold intC
    have h1 : ¬ (n : Int) < 0 := by omega
    have h2 : ((n : Int)).natAbs = n := by omega
    rw [h2, decide_eq_false h1]
def decQ : D → Option Rat
  | .ref [dn, dd] 0 => (decI dn).bind fun z => (decI dd).bind fun e => if h : 0 < e ∧ Nat.gcd z.natAbs e.natAbs = 1 then some ⟨z, e.natAbs, by omega, h.2⟩ else none
  | _ => none
theorem decQ_ok {d : D} {q : Rat} (h : decQ d = some q) : d = ratD q ∧ RB 64000 q := by
  unfold decQ at h
  split at h <;> try (simp at h; done)
  rename_i dn dd
  simp only [Option.bind_eq_some_iff] at h
  obtain ⟨z, hz, e, he, h⟩ := h
  obtain ⟨q1, q2⟩ := decI_ok hz
  obtain ⟨q3, q4⟩ := decI_ok he
  split at h <;> try (simp at h; done)
  rename_i hc
  simp at h
  subst h
  refine ⟨?_, q2, q4⟩
  show D.ref _ 0 = .ref (ratC _) 0
  unfold ratC
  have : ((e.natAbs : Nat) : Int) = e := by omega
  rw [q1, q3]
  simp only [this]
def Good (g : Nat) (p : List D → Option D) : Prop := ∀ args d, p args = some d → L.call g args = some d
def a1 {α : Type} (dec : D → Option α) (f : α → Option D) : List D → Option D
  | [x] => (dec x).bind f
  | _ => none
def a2 {α β : Type} (dec : D → Option α) (dec' : D → Option β) (f : α → β → Option D) : List D → Option D
  | [x, y] => (dec x).bind fun a => (dec' y).bind fun b => f a b
  | _ => none
theorem a1_ok {α : Type} {dec : D → Option α} {f : α → Option D} {g : Nat} (h : ∀ x a d, dec x = some a → f a = some d → L.call g [x] = some d) : Good g (a1 dec f) := by
  intro args d hd
  unfold a1 at hd
  split at hd <;> try (simp at hd; done)
  rw [Option.bind_eq_some_iff] at hd
  obtain ⟨a, ha, hd⟩ := hd
  exact h _ a d ha hd
theorem a2_ok {α β : Type} {dec : D → Option α} {dec' : D → Option β} {f : α → β → Option D} {g : Nat} (h : ∀ x y a b d, dec x = some a → dec' y = some b → f a b = some d → L.call g [x, y] = some d) : Good g (a2 dec dec' f) := by
  intro args d hd
  unfold a2 at hd
  split at hd <;> try (simp at hd; done)
  simp only [Option.bind_eq_some_iff] at hd
  obtain ⟨a, ha, b, hb, hd⟩ := hd
  exact h _ _ a b d ha hb hd
theorem n2_ok {f : Nat → Nat → Option D} {g : Nat} (h : ∀ a b d, NB 64000 a → NB 64000 b → f a b = some d → L.call g [natD a, natD b] = some d) : Good g (a2 decN decN f) :=
  a2_ok fun x y a b d hx hy hf => by rw [(decN_ok hx).1, (decN_ok hy).1]; exact h a b d (decN_ok hx).2 (decN_ok hy).2 hf
theorem n1_ok {f : Nat → Option D} {g : Nat} (h : ∀ a d, NB 64000 a → f a = some d → L.call g [natD a] = some d) : Good g (a1 decN f) :=
  a1_ok fun x a d hx hf => by rw [(decN_ok hx).1]; exact h a d (decN_ok hx).2 hf
theorem i2_ok {f : Int → Int → Option D} {g : Nat} (h : ∀ a b d, IB 64000 a → IB 64000 b → f a b = some d → L.call g [intD a, intD b] = some d) : Good g (a2 decI decI f) :=
  a2_ok fun x y a b d hx hy hf => by rw [(decI_ok hx).1, (decI_ok hy).1]; exact h a b d (decI_ok hx).2 (decI_ok hy).2 hf
theorem i1_ok {f : Int → Option D} {g : Nat} (h : ∀ a d, IB 64000 a → f a = some d → L.call g [intD a] = some d) : Good g (a1 decI f) :=
  a1_ok fun x a d hx hf => by rw [(decI_ok hx).1]; exact h a d (decI_ok hx).2 hf
theorem q2_ok {f : Rat → Rat → Option D} {g : Nat} (h : ∀ a b d, RB 64000 a → RB 64000 b → f a b = some d → L.call g [ratD a, ratD b] = some d) : Good g (a2 decQ decQ f) :=
  a2_ok fun x y a b d hx hy hf => by rw [(decQ_ok hx).1, (decQ_ok hy).1]; exact h a b d (decQ_ok hx).2 (decQ_ok hy).2 hf
theorem q1_ok {f : Rat → Option D} {g : Nat} (h : ∀ a d, RB 64000 a → f a = some d → L.call g [ratD a] = some d) : Good g (a1 decQ f) :=
  a1_ok fun x a d hx hf => by rw [(decQ_ok hx).1]; exact h a d (decQ_ok hx).2 hf
def decS : D → Option (List UInt8)
  | .str s => if s.length ≤ 1000 then some s else none
  | _ => none
theorem decS_ok {d : D} {s : List UInt8} (h : decS d = some s) : d = .str s ∧ s.length ≤ 1000 := by
  unfold decS at h
  split at h <;> try (simp at h; done)
  split at h <;> try (simp at h; done)
  simp at h
  subst h
  exact ⟨rfl, by assumption⟩
def decB : D → Option Bool
  | .bool b => some b
  | _ => none
theorem decB_ok {d : D} {b : Bool} (h : decB d = some b) : d = .bool b := by
  unfold decB at h
  split at h <;> simp at h
  rw [h]
def dec64 : D → Option Int
  | .int .i64 n => if -9223372036854775808 ≤ n ∧ n ≤ 9223372036854775807 then some n else none
  | _ => none
theorem dec64_ok {d : D} {n : Int} (h : dec64 d = some n) : d = .int .i64 n ∧ (-9223372036854775808 ≤ n ∧ n ≤ 9223372036854775807) := by
  unfold dec64 at h
  split at h <;> try (simp at h; done)
  split at h <;> try (simp at h; done)
  simp at h
  subst h
  exact ⟨rfl, by assumption⟩
def decU : D → Option Nat
  | .int .u64 n => if 0 ≤ n ∧ n < 18446744073709551616 then some n.toNat else none
  | _ => none
theorem decU_ok {d : D} {n : Nat} (h : decU d = some n) : d = mkU n ∧ n < W := by
  unfold decU at h
  split at h <;> try (simp at h; done)
  split at h <;> try (simp at h; done)
  rename_i z hz
  simp at h
  subst h
  refine ⟨?_, by unfold W; omega⟩
  show D.int _ _ = .int _ _
  congr 1; omega
end Go.Ev.Code
end
section
set_option linter.unusedVariables false
set_option linter.unusedSimpArgs false
namespace Go.Ev.Code
open Go Go.Ev
theorem orcL {n f : Nat} {args : List D} {d : D} (h : (TT.orc n).call f args = some d) : L.call f args = some d := by
  rw [orc_call] at h
  obtain ⟨⟨r, m⟩, hr⟩ := pureOf_some h
  rw [hr] at h
  exact call_calla (lim_calla.2 ⟨n, hr⟩) h
def rule11 : D := .agg [.int .i64 1, .int .i64 1, .int .i64 1, .int .i64 0, .int .i64 0, .bool false]
theorem holi_May11 : L.call holi_May [rule11] = some (.bool true) := orcL (n := 30) (by kernel_rfl)
theorem within_ok {n a b : Int} (h1 : a ≤ n) (h2 : n ≤ b) : L.call holi_within [.int .i64 n, .int .i64 a, .int .i64 b] = some (.bool true) := by
  refine callL T_holi_within rfl (S_holi_within ..) ?_
  simp [s_holi_within, h1, h2]
theorem holi_Day11 {y : Nat} (h1 : 1900 ≤ y) (h2 : y ≤ 2199) : L.call holi_Day [rule11, .int .i64 y] = some (.tup [.int .i64 (bef y), .bool true]) := by
  have hm := holi_May11
  have hd := date_Of_ok (y := y) (m := 1) (d := 1) h1 h2 (by decide) (by decide) (by decide) (by simp [mlen])
  have e : dayOf y 1 1 = bef y := by simp [dayOf, cum]
  rw [e] at hd
  have hb := bef_le (y := y) (by omega)
  have hb' : bef y ≤ 109572 := by unfold bef; omega
  have hw := within_ok (n := bef y) (a := 0) (b := 109572) (by omega) (by omega)
  unfold civD at hd
  unfold rule11 at hm ⊢
  generalize bef y = b at *
  refine callL T_holi_Day rfl (S_holi_Day ..) ?_
  simp [s_holi_Day, hm, hd, hw] at *
def jans : Nat → List Int
  | 0 => []
  | k + 1 => ((bef (1900 + k) : Nat) : Int) :: jans k
theorem bef_up {y : Nat} (h1 : 1900 ≤ y) (h2 : y ≤ 2199) : bef y < bef (y + 1) := by unfold bef; omega
theorem jans_lt : ∀ {k : Nat}, k ≤ 300 → ∀ z ∈ jans k, z < (bef (1900 + k) : Nat)
  | 0, _, z, hz => by simp [jans] at hz
  | k + 1, hk, z, hz => by
    have := bef_up (y := 1900 + k) (by omega) (by omega)
    simp only [jans, List.mem_cons] at hz
    rcases hz with rfl | hz
    · have e : 1900 + k + 1 = 1900 + (k + 1) := by omega
      rw [e] at this; omega
    · have h := jans_lt (k := k) (by omega) z hz
      have e : 1900 + k + 1 = 1900 + (k + 1) := by omega
      rw [e] at this; omega
theorem insK_jans {k : Nat} (hk : k < 300) : insK (jans k) ((bef (1900 + k) : Nat) : Int) = jans (k + 1) := by
  have : (jans k).contains ((bef (1900 + k) : Nat) : Int) = false := by
    rw [← Bool.not_eq_true, List.contains_iff_mem]
    intro h
    have := jans_lt (k := k) (by omega) _ h
    omega
  unfold insK
  rw [this]
  rfl
def rules11 : D := .sl 1 [.int .i64 1, .int .i64 1, .int .i64 1, .int .i64 0, .int .i64 0, .bool false]
theorem new_loop (j : Nat) : ∀ k, k + j = 300 →
    L.loop [6, 10, 11, 47, 48, 49] [6, 47, 48, 49] cal_New_b2 3 [.loc 1 0, .loc 2 0, .int .i64 ((1900 + k : Nat) : Int), rules11, .int .i64 1, .int .i64 0] [.mp (jans k), .live [.lmap 0], .live [.int .i64 1, .int .i64 1, .int .i64 1, .int .i64 0, .int .i64 0, .bool false]] =
      some (.exit 5, [.loc 1 0, rules11, .int .i64 1, .int .i64 0], [.mp (jans 300), .live [.lmap 0], .live [.int .i64 1, .int .i64 1, .int .i64 1, .int .i64 0, .int .i64 0, .bool false]]) := by
  induction j with
  | zero =>
    intro k hk
    have : k = 300 := by omega
    subst this
    refine roundL (S_cal_New_b2 ..) ?_
    simp [s_cal_New_b2, rules11]
  | succ j ih =>
    intro k hk
    have hd := holi_Day11 (y := 1900 + k) (by omega) (by omega)
    have hn := ih (k + 1) (by omega)
    have hi := insK_jans (k := k) (by omega)
    have h1 : ((1900 + k : Nat) : Int) ≤ 2199 := by omega
    have h2 : IntKind.i64.wrap (((1900 + k : Nat) : Int) + 1) = ((1900 + (k + 1) : Nat) : Int) := by rw [wrap64 _ (by omega)]; omega
    generalize 1900 + (k + 1) = y' at *
    generalize 1900 + k = y at *
    generalize bef y = b at *
    generalize jans (k + 1) = js at *
    generalize jans k = jk at *
    generalize jans 300 = jz at *
    unfold rule11 at hd
    refine roundL (S_cal_New_b2 ..) ?_
    unfold rules11 at *
    simp [s_cal_New_b2, rMput, h1, h2, hd, hi, hn]
theorem contains_May : L.call slices_ContainsFunc_api_Rule [rules11, .func cal_New_1 []] = some (.bool false) := orcL (n := 40) (by kernel_rfl)
theorem contains_More : L.call slices_ContainsFunc_int [.sl 0 [], .func cal_New_2 []] = some (.bool false) := orcL (n := 40) (by kernel_rfl)
theorem cal_New11 : L.call cal_New [rules11, .sl 0 []] = some (.tup [.ref [.mapf (jans 300)] 0, .nili]) := by
  have h1 := contains_May
  have h2 := contains_More
  have h3 := new_loop 300 0 (by omega)
  refine callL T_cal_New rfl (S_cal_New ..) ?_
  generalize jans 300 = jz at *
  unfold rules11 at *
  simp [jans] at h3
  have l1 : L.loop [0, 6, 35, 36, 37] [0, 6] cal_New_b1 2 [.sl 1 [.int .i64 1, .int .i64 1, .int .i64 1, .int .i64 0, .int .i64 0, .bool false], .loc 1 0, .sl 0 [], .int .i64 0, .int .i64 0] [.mp [], .live [.lmap 0]] = some (.exit 1, [.sl 1 [.int .i64 1, .int .i64 1, .int .i64 1, .int .i64 0, .int .i64 0, .bool false], .loc 1 0], [.mp [], .live [.lmap 0]]) := by
    refine roundL (S_cal_New_b1 ..) ?_
    simp [s_cal_New_b1]
  have l3 : L.loop [6, 47, 48, 49] [6] cal_New_b3 2 [.loc 1 0, .sl 1 [.int .i64 1, .int .i64 1, .int .i64 1, .int .i64 0, .int .i64 0, .bool false], .int .i64 1, .int .i64 1] [.mp jz, .live [.lmap 0]] = some (.exit 3, [.loc 1 0], [.mp jz, .live [.lmap 0]]) := by
    refine roundL (S_cal_New_b3 ..) ?_
    simp [s_cal_New_b3]
  have l2 : L.loop [6, 47, 48, 49] [6] cal_New_b3 2 [.loc 1 0, .sl 1 [.int .i64 1, .int .i64 1, .int .i64 1, .int .i64 0, .int .i64 0, .bool false], .int .i64 1, .int .i64 0] [.mp [], .live [.lmap 0]] = some (.exit 3, [.loc 1 0], [.mp jz, .live [.lmap 0]]) := by
    refine roundL (S_cal_New_b3 ..) ?_
    have e1 : IntKind.i64.wrap 1 = 1 := by decide
    simp [s_cal_New_b3, h3, e1, l3]
  simp [s_cal_New, h1, h2, rMkm, l1, l2]
end Go.Ev.Code
end
