/- A part of the proof of flowSum_card, flowParts_card, flowEx_card, accrWhole_card, priceZero_card. -/
import Derived.Test.YtnokhmkkpcfilaaGreatDoorCSpD6
set_option linter.unusedVariables false
set_option linter.unusedSimpArgs false
section
namespace Go.Ev.Code
open Go Go.Ev
theorem Ur {a b : Nat} {j k : Nat} (ha : NB j a) (hb : NB k b) (hj : j ≤ 900000) (hk : k ≤ 900000) (h0 : b ≠ 0) :
  L.call qm [intD (a : Int), intD (b : Int)] = some (.aZ [intD ((a / b : Nat) : Int), intD ((a % b : Nat) : Int), .aF]) := by
 have hd := DJ (ha.fit hj) (hb.fit hk) h0
 have s1 : 0 ≤ ((a : Int).sign) := by rw [KH]; omega
 have s2 : 0 ≤ ((b : Int).sign) := by rw [KH]; omega
 have s3 : (b : Int).sign = 1 := Int.sign_eq_one_of_pos (by omega)
 have hab : ((a : Int)).natAbs = a := by simp
 have hbb : ((b : Int)).natAbs = b := by simp
 have h1 := Iw (a : Int)
 have h2 := Iw (b : Int)
 have h3 := Kz (a : Int)
 have h4 := Kz (b : Int)
 rw [hab] at h1
 rw [hbb] at h2
 rw [s3] at h4
 have hn1 := DN false (a / b)
 have hn2 := DN false (a % b)
 simp only [Bool.false_eq_true, if_false] at hn1 hn2
 have hm : decide (IntKind.i64.wrap ((a : Int).sign * 1) < 0) = false := by
  have : (a : Int).sign = 0 ∨ (a : Int).sign = 1 := by
   rcases Int.sign_trichotomy (a : Int) with h | h | h
   ·exact .inr h
   ·exact .inl h
   ·rw [h] at s1; omega
  rcases this with h | h <;> rw [h] <;> decide
 generalize ((a : Int)).sign = sa at *
 generalize a / b = q at *
 generalize a % b = r at *
 generalize (a : Int) = az at *
 generalize (b : Int) = bz at *
 generalize (q : Int) = qz at *
 generalize (r : Int) = rz at *
 refine aO aeR rfl (aen ..) ?_
 simp only [Int.mul_one] at hm
 simp [Vh, h1, h2, h3, h4, hd, hm, hn1, hn2]
theorem ahf : L.call BL [] = some (bZ 1) := by
 have h := oL (n := 1) (d := 1) (by omega) (by omega) (by omega)
 have e : Rat.divInt 1 1 = 1 := by decide +kernel
 rw [e] at h
 refine aO ah_ rfl (ahZ ..) ?_
 simp [YN, h]
def afp (b : aN) (s : Int) : D := match (leftB b s).1 with
 | some e => .aZ [.sl 0 [], .int .i64 0, jc (some e)]
 | none => .aZ [fZ (aK b).2, .int .i64 (MB (aK b).2 s), .aF]
theorem U7 {b : aN} (hc : b.d_.length ≤ 1000000) (hr : b.eH.length ≤ 1000000) (s : Int) : L.call wS [bf b, .int .i64 s] = some (afp b s) := by
 have hl := Ia hc hr s
 have hpl := qw hc hr
 have hbc := fun n => iw b n
 have hbl := mQ b
 have hbd := mP b 0 10
 unfold afp
 unfold xQ AV at hl
 have hfcl := vM (leftB b s).2 0 11
 cases he : (leftB b s).1 with
 | some e =>
   rw [he] at hl
   generalize (leftB b s).2.length = N at *
   generalize dw (leftB b s).2 = fc at *
   unfold bf at *
   generalize aS b = B at *
   have htk : B.take 9 = B := List.take_of_length_le (by omega)
   rcases e with ⟨c, _ | t⟩
   ·simp only [jc] at *
    refine aO Oa rfl (N7 ..) ?_
    simp [IZ, hl, hbc, hbl, hbd, htk]
   ·simp only [jc, fQ] at *
    refine aO Oa rfl (N7 ..) ?_
    simp [IZ, hl, hbc, hbl, hbd, htk]
 | none =>
   rw [he] at hl
   obtain ⟨h1, h2, h3, h4⟩ := jY he
   have hplen := (eG h2).2.len
   have hat := Uw (ps := (aK b).2) (by omega) s
   unfold qp at hpl
   rw [h2] at hpl
   simp only [dK] at hpl
   simp only [jc] at hl
   have hpcl := jC (aK b).2 0 11
   have hpcl' := jC (aK b).2 0 10
   generalize MB (aK b).2 s = k at *
   unfold fZ at *
   generalize (leftB b s).2.length = N at *
   generalize dw (leftB b s).2 = fc at *
   generalize (aK b).2.length = M at *
   generalize bT (aK b).2 = pc at *
   unfold bf at *
   generalize aS b = B at *
   have htk : B.take 9 = B := List.take_of_length_le (by omega)
   refine aO Oa rfl (N7 ..) ?_
   simp [IZ, hl, hbc, hbl, hbd, htk, hpl, hat, hpcl, hpcl']
end Go.Ev.Code
end
section
namespace Go.Ev.Code
open Go Go.Ev
theorem aha {b : aN} (h : (bn b).1 = none) {p : Int × Int} (hp : p ∈ (aK b).2) {x y : Int} (h1 : p.1 ≤ x) (h2 : x ≤ y) (h3 : y ≤ p.2) : fV b p x y = .ok (KA b p x y) := by
 have h0 := (lC h).1
 have hchk := jw h0
 obtain ⟨d1, d2, d3⟩ := lJ h0 hp
 have : ∃ q, fV b p x y = .ok q := by
  rcases acr h hp h1 h2 h3 with ⟨hc, hr⟩ | h4
  ·have hq := ahk hchk d3 hr
   unfold fV
   rw [if_pos hc, hq]
   simp only
   rw [if_neg (by omega)]
   exact ⟨_, rfl⟩
  ·exact h4
 obtain ⟨q, hq⟩ := this
 rw [Zx hq]; exact hq
theorem ag' {b : aN} (h : (bn b).1 = none) {p : Int × Int} (hp : p ∈ (aK b).2) {x y : Int} (h1 : p.1 ≤ x) (h2 : x ≤ y) (h3 : y ≤ p.2) : RB 200 (KA b p x y) := by
 have h0 := (lC h).1
 have hchk := jw h0
 obtain ⟨d1, d2, d3⟩ := lJ h0 hp
 exact (zB hchk d1 d2 (aha h hp h1 h2 h3) (n := 2) (fun l hl => ZB h0 hp hl)).mono (by omega)
def l7 (b : aN) (s : Int) : Rat := KA b (eF b s) (eF b s).1 (eF b s).2
def FT (b : aN) (s : Int) : Rat := KA b (eF b s) (eF b s).1 s
def iY (b : aN) (s : Int) : Rat := if regular b (eF b s) = true then 1 - FT b s / l7 b s else (1 - FT b s / l7 b s) * Rat.divInt b.dQ 1 * l7 b s
def ak3 (b : aN) (s : Int) : D := match (leftB b s).1 with
 | some e => .aZ [.aV, jc (some e)]
 | none => if l7 b s = 0 then .aZ [.aV, yj 3] else .aZ [bZ (iY b s), .aF]
theorem ag4 : RB 1 (1 : Rat) := ⟨by show (1 : Rat).num.natAbs < 2 ^ 1; decide, by show (1 : Rat).den < 2 ^ 1; decide⟩
theorem ahI {b : aN} {s : Int} (h : (leftB b s).1 = none) : RB 200 (l7 b s) ∧ RB 200 (FT b s) := by
 obtain ⟨d1, d2, d3, d4, d5, d6⟩ := BK h
 exact ⟨ag' (jY h).1 d6 (by omega) (by omega) (by omega), ag' (jY h).1 d6 (by omega) (by omega) (by omega)⟩
theorem ab_ {f : Int} (hf : D9 f) : RB 64 (Rat.divInt f 1) := lG (jd (by rcases hf with h | h | h | h <;> omega)) (jd (by omega)) (by omega)
theorem ao1 {b : aN} {s : Int} (h : (leftB b s).1 = none) (h0 : l7 b s ≠ 0) : RB 700 (iY b s) := by
 obtain ⟨hw, hp⟩ := ahI h
 have hf := ab_ (jm (dM (jw (jY h).2.1)).2.1)
 have h1 : RB 410 (1 - FT b s / l7 b s) := (ag4.sub (hp.div hw h0)).mono (by omega)
 have h2 : RB 690 ((1 - FT b s / l7 b s) * Rat.divInt b.dQ 1 * l7 b s) := ((h1.mul hf).mul hw).mono (by omega)
 unfold iY
 split
 ·exact h1.mono (by omega)
 ·exact h2.mono (by omega)
theorem afd {b : aN} (hc : b.d_.length ≤ 1000000) (hr : b.eH.length ≤ 1000000) (s : Int) : L.call sS [bf b, .int .i64 s] = some (ak3 b s) := by
 have hl := U7 hc hr s
 unfold afp at hl
 unfold ak3
 cases he : (leftB b s).1 with
 | some e =>
   rw [he] at hl
   obtain ⟨i, m, fq, c, rd, n, st, en, ex⟩ := b
   unfold bf aS at *
   simp only at *
   rcases e with ⟨c, _ | t⟩
   ·simp only [jc] at *
    refine aO G_ rfl (G9 ..) ?_
    simp [yJ, hl]
   ·simp only [jc, fQ] at *
    refine aO G_ rfl (G9 ..) ?_
    simp [yJ, hl]
 | none =>
   rw [he] at hl
   obtain ⟨f0, h2, h3, h4⟩ := jY he
   obtain ⟨d1, d2, d3, d4, d5, d6⟩ := BK he
   obtain ⟨k, k1, k2, k3, k4⟩ := G5 h2 h3 h4
   have hplen := (eG h2).2.len
   have hg := pJ k2
   have hklt : k < (aK b).2.length := (List.getElem?_eq_some_iff.1 k2).1
   obtain ⟨wB, pB⟩ := ahI he
   have hf := jm (dM (jw h2)).2.1
   have hw := qE h2 hc hr d1 d2 d3 (eF b s).1 (eF b s).2
   have hp := qE h2 hc hr d1 d2 d3 (eF b s).1 s
   rw [aha f0 d6 (by omega) (by omega) (by omega)] at hw hp
   simp only [AX] at hw hp
   have hwe : KA b (eF b s) (eF b s).1 (eF b s).2 = l7 b s := rfl
   have hpe : KA b (eF b s) (eF b s).1 s = FT b s := rfl
   rw [hwe] at hw
   rw [hpe] at hp
   have hreg := qP hc hr (eF b s)
   have hone := ahf
   rw [k1] at hl
   unfold iY
   by_cases h0 : l7 b s = 0
   ·rw [if_pos h0]
    rw [h0] at hw
    have hdiv := aiR pB (by omega)
    generalize FT b s = pv at *
    unfold fZ at *
    unfold pD at *
    generalize eF b s = p at *
    obtain ⟨p1, p2⟩ := p
    simp only at *
    obtain ⟨g1, g2, g3, g4⟩ := hg
    generalize (aK b).2.length = M at *
    generalize bT (aK b).2 = pc at *
    have hkI : (k : Int) < M := by omega
    obtain ⟨i, m, fq, c, rd, n, st, en, ex⟩ := b
    unfold bf aS at *
    simp only at *
    refine aO G_ rfl (G9 ..) ?_
    simp [yJ, hl, hklt, hkI, g1, g2, g3, g4, hw, hp, hdiv]
   ·rw [if_neg h0]
    have hdiv := aa1 pB wB (by omega) h0
    have hdB := pB.div wB h0
    have hsub := DV ag4 hdB (by omega)
    have hsB := ag4.sub hdB
    have hfo := oL (n := b.dQ) (d := 1) (by rcases hf with h | h | h | h <;> omega) (by omega) (by omega)
    have hm1 := wW hsB (ab_ hf) (by omega)
    have hm2 := wW (hsB.mul (ab_ hf)) wB (by omega)
    generalize (1 - FT b s / l7 b s) * Rat.divInt b.dQ 1 * l7 b s = v3 at *
    generalize (1 - FT b s / l7 b s) * Rat.divInt b.dQ 1 = v2 at *
    generalize 1 - FT b s / l7 b s = v1 at *
    generalize FT b s / l7 b s = v0 at *
    generalize FT b s = pv at *
    generalize l7 b s = wv at *
    generalize (1 : Rat) = one at *
    generalize regular b (eF b s) = rg at *
    generalize Rat.divInt b.dQ 1 = fr at *
    unfold fZ at *
    unfold pD at *
    generalize eF b s = p at *
    obtain ⟨p1, p2⟩ := p
    simp only at *
    obtain ⟨g1, g2, g3, g4⟩ := hg
    generalize (aK b).2.length = M at *
    generalize bT (aK b).2 = pc at *
    have hkI : (k : Int) < M := by omega
    obtain ⟨i, m, fq, c, rd, n, st, en, ex⟩ := b
    unfold bf aS at *
    simp only at *
    refine aO G_ rfl (G9 ..) ?_
    cases rg with
    | true => simp [yJ, hl, hklt, hkI, g1, g2, g3, g4, hw, hp, hdiv, hone, hsub, hreg]
    | false => simp [yJ, hl, hklt, hkI, g1, g2, g3, g4, hw, hp, hdiv, hone, hsub, hreg, hfo, hm1, hm2]
end Go.Ev.Code
end
section
namespace Go.Ev.Code
open Go Go.Ev
def jy (l : List Rat) : List D := l.map bZ
theorem acD (l : List Rat) (b n : Nat) : (jy l).all (D.clo b (n + 1)) = true := by
 unfold jy
 induction l with
 | nil => rfl
 | cons q r ih => simp only [List.map_cons, List.all_cons, ih, Bool.and_true]; rfl
theorem aa4 (l : List Rat) (n : Nat) (m : Mem) : jV (fz (n + 1)) (jy l) m = some (jy l, m) := by
 unfold jy
 induction l with
 | nil => rfl
 | cons q r ih => simp [ih]
theorem NG (l : List Rat) : (jy l).length = l.length := by simp [jy]
theorem aqm (l r : List Rat) : jy (l ++ r) = jy l ++ jy r := by simp [jy]
theorem ajA {l : List Rat} {i : Nat} {q : Rat} (h : l[i]? = some q) : (jy l)[i]? = some (bZ q) := by simp [jy, h]
def Ey (l : List Rat) : D := .sl l.length (jy l)
theorem Y2 : ∀ {l : List (Int × Rat)} {i : Nat} {p : Int × Rat}, l[i]? = some p → ((dw l).drop (i * 2)).take 2 = [.int .i64 p.1, .str (xM p.2)]
 | [], i, p, h => by simp at h
 | (a, b) :: r, 0, p, h => by simp at h; subst h; simp [dw]
 | (a, b) :: r, i + 1, p, h => by
   have := Y2 (l := r) (i := i) (p := p) (by simpa using h)
   rw [show (i + 1) * 2 = i * 2 + 1 + 1 by omega]
   simpa [dw] using this
theorem afv : zeros 1 [.aV] = [.aV] := rfl
theorem apv {b : aN} {s k : Int} {pl : Nat} {pc : List D} {all : List (Int × Rat)} (hq : ∀ p ∈ all, RB 13000 p.2) (hn : all.length ≤ 100000) : ∀ (rest pfx : List (Int × Rat)), all = pfx ++ rest → pfx ≠ [] →
  L.loop [1, 2, 6, 7, 10, 39, 40, 41] [1, 2, 6, 7, 10] kG 1 [.int .i64 s, .loc 0 0, .sl pl pc, .int .i64 k, .bg 1 0 pfx.length 1, .sl all.length (dw all), .int .i64 all.length, .int .i64 pfx.length] [.live (aS b), .live (jy (pfx.map Prod.snd))] =
    some (.exit 0, [.int .i64 s, .loc 0 0, .sl pl pc, .int .i64 k, .bg 1 0 all.length 1], [.live (aS b), .live (jy (all.map Prod.snd))]) := by
 have hbc := fun n => iw b n
 intro rest
 induction rest with
 | nil =>
   intro pfx hal hne
   rw [List.append_nil] at hal
   subst hal
   have hrc := fun n => acD (all.map Prod.snd) n 11
   generalize jy (all.map Prod.snd) = rc at *
   generalize dw all = fc at *
   generalize aS b = B at *
   generalize all.length = N at *
   refine aQ (A8 ..) ?_
   simp [wZ, hbc, hrc]
 | cons p r ih =>
   intro pfx hal hne
   have hpos : 0 < pfx.length := List.length_pos_iff.2 hne
   have hgi : all[pfx.length]? = some p := by rw [hal]; simp
   obtain ⟨g1, g2, g3⟩ := Jq hgi
   have g4 := Y2 hgi
   have hlt : pfx.length < all.length := by rw [hal]; simp
   have hget := KE (hq p (by rw [hal]; simp))
   have hn2 := ih (pfx ++ [p]) (by rw [hal]; simp) (by simp)
   rw [List.map_append, aqm, show jy ([p].map Prod.snd) = [bZ p.2] from rfl, List.length_append, List.length_singleton, show ((pfx.length + 1 : Nat) : Int) = (pfx.length : Int) + 1 by omega] at hn2
   have hrc := fun n => acD (pfx.map Prod.snd) n 11
   have hfz : ∀ m, jV (fz 11) (jy (pfx.map Prod.snd)) m = some (jy (pfx.map Prod.snd), m) := fun m => aa4 _ 10 m
   have hrl : (jy (pfx.map Prod.snd)).length = pfx.length := by rw [NG, List.length_map]
   have e1 : IntKind.i64.wrap ((pfx.length : Int) + 1) = (pfx.length : Int) + 1 := wrap64 _ (by omega)
   have hlen : pfx.length + 1 ≤ 4294967296 := by omega
   have htk : (jy (pfx.map Prod.snd)).take pfx.length = jy (pfx.map Prod.snd) := List.take_of_length_le (by omega)
   obtain ⟨pd, q⟩ := p
   simp only at *
   generalize jy (pfx.map Prod.snd) = rc at *
   generalize jy (all.map Prod.snd) = ra at *
   generalize dw all = fc at *
   generalize aS b = B at *
   generalize all.length = N at *
   generalize pfx.length = P at *
   generalize xM q = tq at *
   have hltI : (P : Int) < N := by omega
   refine aQ (A8 ..) ?_
   simp [wZ, hlt, hltI, g1, g2, g3, g4, hget, e1, hbc, hrc, hrl, htk, hlen, afv, hn2, kV]
theorem arf {b : aN} {s k : Int} {pl : Nat} {pc : List D} {all : List (Int × Rat)} (hq : ∀ p ∈ all, RB 13000 p.2) (hn : all.length ≤ 100000) (hne : all ≠ []) :
  L.loop [1, 2, 6, 7, 10, 39, 40, 41] [1, 2, 6, 7, 10] kG 1 [.int .i64 s, .loc 0 0, .sl pl pc, .int .i64 k, .dA, .sl all.length (dw all), .int .i64 all.length, .int .i64 0] [.live (aS b)] =
    some (.exit 0, [.int .i64 s, .loc 0 0, .sl pl pc, .int .i64 k, .bg 1 0 all.length 1], [.live (aS b), .live (jy (all.map Prod.snd))]) := by
 have hbc := fun n => iw b n
 match all, hne with
 | p :: r, _ =>
   have hgi : (p :: r)[0]? = some p := rfl
   obtain ⟨g1, g2, g3⟩ := Jq hgi
   have g4 := Y2 hgi
   have hget := KE (hq p (by simp))
   have hn2 := apv (b := b) (s := s) (k := k) (pl := pl) (pc := pc) hq hn r [p] rfl (by simp)
   rw [show jy ([p].map Prod.snd) = [bZ p.2] from rfl, List.length_singleton] at hn2
   obtain ⟨pd, q⟩ := p
   simp only [Nat.zero_mul, Nat.zero_add, List.drop_zero] at *
   have hlt : 0 < ((pd, q) :: r).length := by simp
   generalize jy (((pd, q) :: r).map Prod.snd) = ra at *
   generalize dw ((pd, q) :: r) = fc at *
   generalize aS b = B at *
   generalize ((pd, q) :: r).length = N at *
   generalize xM q = tq at *
   have hltI : (0 : Int) < N := by omega
   refine aQ (A8 ..) ?_
   simp at hn2
   have e1 : IntKind.i64.wrap (1 : Int) = 1 := wrap64 _ (by omega)
   simp [wZ, hlt, hltI, g1, g2, g3, g4, hget, hbc, afv, hn2, kV, e1]
end Go.Ev.Code
end
section
namespace Go.Ev.Code
open Go Go.Ev
theorem an2 {pay each red : Rat} {i j k : Nat} (hP : RB i pay) (hE : RB j each) (hR : RB k red) : ∀ (l : List (Int × Int)), ∀ p ∈ sK pay each red l, RB (i + j + k + 1) p.2 := by
 have hrest : ∀ (l : List (Int × Int)), ∀ p ∈ iG each red l, RB (j + k + 1) p.2 := by
  intro l
  induction l with
  | nil => intro p h; simp [iG] at h
  | cons x r ih =>
    cases r with
    | nil => intro p h; simp [iG] at h; subst h; exact hE.add hR
    | cons y r =>
      intro p h
      simp only [iG, List.mem_cons] at h
      rcases h with rfl | h
      ·exact hE.mono (by omega)
      ·exact ih p h
 intro l p h
 match l, h with
 | [], h => simp [sK] at h
 | [x], h => simp [sK] at h; subst h; exact (hP.add hR).mono (by omega)
 | x :: y :: r, h =>
   simp only [sK, List.mem_cons] at h
   rcases h with rfl | h
   ·exact hP.mono (by omega)
   ·exact (hrest _ p h).mono (by omega)
theorem Y3 {b : aN} (h : (bn b).1 = none) : ∀ p ∈ (bn b).2, RB 1500 p.2 := by
 obtain ⟨h0, p, r, q, hps, hq, hfl⟩ := lC h
 have hP := Jw h (p := p) (by rw [hps]; simp)
 rw [SV hq] at hP
 have hf := jm (dM (jw h0)).2.1
 have hE := K_ hf
 have hR := Eu b
 rw [hfl]
 intro x hx
 obtain ⟨a, ha⟩ : ∃ a : Nat, a = 600 := ⟨_, rfl⟩
 obtain ⟨c, hc⟩ : ∃ c : Nat, c = 464 := ⟨_, rfl⟩
 rw [← ha] at hP
 rw [← hc] at hE
 exact (an2 hP hE hR _ x hx).mono (by omega)
def aky (v : Rat) : List Rat → List Rat
 | [] => []
 | r :: t => (r - v) :: t
def dP (b : aN) (s : Int) : List Rat := if Oz b s = true then aky (xE b (eF b s)) (((bn b).2.drop (MB (aK b).2 s).toNat).map Prod.snd) else ((bn b).2.drop (MB (aK b).2 s).toNat).map Prod.snd
def anr (b : aN) (s : Int) : D := match (leftB b s).1 with
 | some e => .aZ [.sl 0 [], jc (some e)]
 | none => .aZ [Ey (dP b s), .aF]
theorem WC {b : aN} (h : (bn b).1 = none) : (bn b).2.length = (aK b).2.length := by
 obtain ⟨h0, p, r, q, hps, hq, hfl⟩ := lC h
 rw [hfl, hps, KQ]
theorem Zy {b : aN} (hc : b.d_.length ≤ 1000000) (hr : b.eH.length ≤ 1000000) (s : Int) : L.call rC [bf b, .int .i64 s] = some (anr b s) := by
 have hl := U7 hc hr s
 have hbc := fun n => iw b n
 have hbl := mQ b
 have hbd := mP b 0 10
 unfold afp at hl
 unfold anr
 cases he : (leftB b s).1 with
 | some e =>
   rw [he] at hl
   unfold bf at *
   generalize aS b = B at *
   have htk : B.take 9 = B := List.take_of_length_le (by omega)
   rcases e with ⟨c, _ | t⟩
   ·simp only [jc] at *
    refine aO AB rfl (Az ..) ?_
    simp [wY, hl, hbc, hbl, hbd, htk]
   ·simp only [jc, fQ] at *
    refine aO AB rfl (Az ..) ?_
    simp [wY, hl, hbc, hbl, hbd, htk]
 | none =>
   rw [he] at hl
   obtain ⟨f0, h2, h3, h4⟩ := jY he
   obtain ⟨d1, d2, d3, d4, d5, d6⟩ := BK he
   obtain ⟨k, k1, k2, k3, k4⟩ := G5 h2 h3 h4
   have hplen := (eG h2).2.len
   have hg := pJ k2
   have hklt : k < (aK b).2.length := (List.getElem?_eq_some_iff.1 k2).1
   have hfl := aaw hc hr
   have hflen := WC f0
   have hrb := Y3 f0
   have hex := TN hc hr s
   unfold exD at hex
   rw [he] at hex
   have hpay := Ud f0 hc hr d6
   have hpB := Jw f0 d6
   unfold xQ AV at hfl
   rw [f0] at hfl
   simp only [jc] at hfl
   unfold dP
   rw [k1, Int.toNat_natCast]
   rw [k1] at hl
   have hdr := TY ((bn b).2.take k) ((bn b).2.drop k)
   rw [List.take_append_drop] at hdr
   have htl : ((bn b).2.take k).length = k := by rw [List.length_take]; omega
   rw [htl] at hdr
   have hrl := CX ((bn b).2.drop k)
   have hll : ((bn b).2.drop k).length = (aK b).2.length - k := by rw [List.length_drop, hflen]
   have hflc := CX (bn b).2
   have hrb2 : ∀ p ∈ (bn b).2.drop k, RB 1500 p.2 := fun p hp => hrb p (List.mem_of_mem_drop hp)
   have hcl := vM (bn b).2 0 11
   have hcl3 := jC (aK b).2 0 11
   have hne : (bn b).2.drop k ≠ [] := by
    intro h
    rw [h] at hll
    simp at hll
    omega
   have h13 : ∀ p ∈ (bn b).2.drop k, RB 13000 p.2 := fun p hp => (hrb2 p hp).mono (Nat.le_of_ble_eq_true rfl)
   have hloop := arf (b := b) (s := s) (k := k) (pl := (aK b).2.length) (pc := bT (aK b).2) h13 (by omega) hne
   unfold fZ at hl
   rw [hflen] at hfl hflc
   generalize (bn b).2.drop k = rest at *
   rw [hll] at hloop hrl
   have htk2 : (dw rest).take (((aK b).2.length - k) * 2) = dw rest := List.take_of_length_le (by omega)
   unfold pD at *
   generalize eF b s = p at *
   obtain ⟨p1, p2⟩ := p
   simp only at *
   obtain ⟨g1, g2, g3, g4⟩ := hg
   have hbn : nH true false (aK b).2.length [.int .i64 (k : Int)] = some (k, (aK b).2.length) := by
    have : (k : Int) ≤ ((aK b).2.length : Int) := by omega
    simp [nH, bnd, this]
   have hb3 : k * 2 + ((aK b).2.length - k) * 2 ≤ (dw (bn b).2).length := by omega
   have hrqz : ∀ l m, jV (fz 11) (jy l) m = some (jy l, m) := fun l m => aa4 l 10 m
   have hrqc : ∀ l n, (jy l).all (D.clo n 12) = true := fun l n => acD l n 11
   have hrql := NG (rest.map Prod.snd)
   rw [List.length_map, hll] at hrql
   have htk3 : (jy (rest.map Prod.snd)).take ((aK b).2.length - k) = jy (rest.map Prod.snd) := List.take_of_length_le (by omega)
   have hkI : (k : Int) < ((aK b).2.length : Int) := by omega
   have hNk : 0 < (aK b).2.length - k := by omega
   generalize hfc : dw (bn b).2 = fc at *
   generalize hNN : (aK b).2.length = N at *
   generalize hNNk : N - k = Nk at *
   generalize bT (aK b).2 = pc at *
   generalize dw rest = fr at *
   cases hxb : Oz b s with
   | false =>
     rw [hxb] at hex
     rw [if_neg (by decide)]
     unfold Ey
     rw [List.length_map, hll]
     have hc1 := fun n => hrqc (rest.map Prod.snd) n
     have hz1 := fun m => aa4 (rest.map Prod.snd) 9 m
     generalize jy (rest.map Prod.snd) = rq at *
     unfold bf at *
     generalize aS b = B at *
     have htk : B.take 9 = B := List.take_of_length_le (by omega)
     refine aO AB rfl (Az ..) ?_
     simp [wY, hl, hbc, hbl, hbd, htk, hfl, hbn, hdr, hb3, htk2, hNNk, hloop, hex, hz1, hc1, htk3, hrql]
   | true =>
     rw [hxb] at hex
     rw [if_pos rfl]
     match rest, hne with
     | x :: r, _ =>
       have hsub := DV (hrb2 x (by simp)) hpB (Nat.le_of_ble_eq_true rfl)
       simp only [List.map_cons, aky]
       simp only [List.map_cons] at *
       unfold Ey
       have hl4 : ((x.2 - xE b (p1, p2)) :: r.map Prod.snd).length = Nk := by simp at hll ⊢; exact hll
       have hl5 := NG ((x.2 - xE b (p1, p2)) :: r.map Prod.snd)
       have htk5 : (jy ((x.2 - xE b (p1, p2)) :: r.map Prod.snd)).take Nk = jy ((x.2 - xE b (p1, p2)) :: r.map Prod.snd) := List.take_of_length_le (by omega)
       rw [hl4] at hl5
       rw [hl4]
       have hc1 := fun n => hrqc (r.map Prod.snd) n
       have hz1 := fun m => aa4 (r.map Prod.snd) 9 m
       have hcons : ∀ q l, jy (q :: l) = bZ q :: jy l := fun q l => rfl
       simp only [hcons] at *
       simp only [List.length_cons] at hl5 hrql
       generalize jy (r.map Prod.snd) = rq at *
       generalize x.2 - xE b (p1, p2) = v2 at *
       generalize xE b (p1, p2) = pv at *
       generalize x.2 = xv at *
       have hNkI : (0 : Int) < (Nk : Int) := by omega
       have hNkl : Nk ≤ rq.length + 1 := by omega
       unfold bf at *
       generalize aS b = B at *
       have htk : B.take 9 = B := List.take_of_length_le (by omega)
       refine aO AB rfl (Az ..) ?_
       simp [wY, hl, hbc, hbl, hbd, htk, hfl, hbn, hdr, hb3, htk2, hNNk, hloop, hex, hz1, hc1, htk5, hNkl, hsub, hpay, hklt, hkI, g1, g2, g3, g4, hNk, hNkI, kV]
end Go.Ev.Code
end
section
namespace Go.Ev.Code
open Go Go.Ev
def dS : Nat → List Rat → Nat
 | a, [] => a
 | a, r :: t => dS (a * (r.den / Nat.gcd a r.den)) t
theorem ach {K : Nat} : ∀ {l : List Rat} {a j : Nat}, NB j a → (∀ r ∈ l, RB K r) → NB (j + K * l.length) (dS a l)
 | [], a, j, h, _ => by simpa [dS] using h
 | r :: t, a, j, h, hl => by
   have h1 : NB K (r.den / Nat.gcd a r.den) := (hl r (by simp)).2.le (Nat.div_le_self _ _)
   have := ach (l := t) (h.mul h1) (fun x hx => hl x (by simp [hx]))
   simp only [dS, List.length_cons]
   refine this.mono ?_
   rw [Nat.mul_add]; omega
theorem Zr : ∀ {l : List Rat} {a : Nat}, 0 < a → 0 < dS a l
 | [], a, h => h
 | r :: t, a, h => by
   have hg : 0 < Nat.gcd a r.den := Nat.gcd_pos_of_pos_left _ h
   have hd : 0 < r.den := r.den_pos
   have hle : Nat.gcd a r.den ≤ r.den := Nat.le_of_dvd hd (Nat.gcd_dvd_right _ _)
   exact Zr (l := t) (Nat.mul_pos h (Nat.div_pos hle hg))
theorem adn : ∀ {l : List Rat} {a : Nat}, a ∣ dS a l
 | [], a => Nat.dvd_refl _
 | r :: t, a => Nat.dvd_trans (Nat.dvd_mul_right _ _) (adn (l := t))
theorem agH : ∀ {l : List Rat} {a : Nat}, ∀ r ∈ l, r.den ∣ dS a l
 | [], a, r, h => by simp at h
 | x :: t, a, r, h => by
   rcases List.mem_cons.1 h with rfl | h
   ·refine Nat.dvd_trans ?_ (adn (l := t))
    have h1 : a * (r.den / Nat.gcd a r.den) = r.den * (a / Nat.gcd a r.den) := by
     rw [← Nat.mul_div_assoc _ (Nat.gcd_dvd_right _ _), ← Nat.mul_div_assoc _ (Nat.gcd_dvd_left _ _), Nat.mul_comm]
    rw [h1]
    exact Nat.dvd_mul_right _ _
   ·exact agH (l := t) r h
theorem alW {K : Nat} {all : List Rat} (hn : all.length ≤ 100000) : ∀ (rest pfx : List Rat) (a j : Nat), all = pfx ++ rest → (∀ r ∈ rest, RB K r) → NB j a → 0 < a → j + K * rest.length + K ≤ 900000 →
  L.loop [0, 4, 18, 19, 20] [0, 4] n_ 0 [Ey all, intD (a : Int), Ey all, .int .i64 all.length, .int .i64 pfx.length] [] = some (.exit 0, [Ey all, intD ((dS a rest : Nat) : Int)], []) := by
 intro rest
 induction rest with
 | nil =>
   intro pfx a j hal _ _ _ _
   rw [List.append_nil] at hal
   subst hal
   unfold Ey
   simp only [dS]
   generalize jy all = rc at *
   generalize all.length = N at *
   generalize (a : Int) = az at *
   refine aQ (Md ..) ?_
   simp [Eh]
 | cons r t ih =>
   intro pfx a j hal hall ha h0 hK
   have hr := hall r (by simp)
   have hjK : j + K * t.length + K + K ≤ 900000 := by rw [List.length_cons, Nat.mul_add] at hK; omega
   have hjK2 : j ≤ 900000 := by omega
   have hK2 : K ≤ 900000 := by omega
   have hg0 : Nat.gcd a r.den ≠ 0 := by
    have := Nat.gcd_pos_of_pos_left r.den h0; omega
   have hgd : NB K (Nat.gcd a r.den) := hr.2.le (Nat.le_of_dvd r.den_pos (Nat.gcd_dvd_right _ _))
   have hq : NB K (r.den / Nat.gcd a r.den) := hr.2.le (Nat.div_le_self _ _)
   have h1 := Iw (a : Int)
   have h2 := Iw (r.den : Int)
   rw [show ((a : Int)).natAbs = a from by simp] at h1
   rw [show ((r.den : Int)).natAbs = r.den from by simp] at h2
   have h3 := Un (ha.fit hjK2) (hr.2.fit hK2)
   have h4 := DN false (Nat.gcd a r.den)
   simp only [Bool.false_eq_true, if_false] at h4
   have h5 := Ur hr.2 hgd hK2 hK2 hg0
   have h6 := dW (IB.ofNat ha) (IB.ofNat hq) hjK2 hK2
   rw [← Int.natCast_mul] at h6
   have hden := IK r
   have hpos2 : 0 < a * (r.den / Nat.gcd a r.den) := Zr (l := [r]) h0
   have hn2 := ih (pfx ++ [r]) (a * (r.den / Nat.gcd a r.den)) (j + K) (by rw [hal]; simp) (fun x hx => hall x (by simp [hx])) (ha.mul hq) hpos2 (by omega)
   rw [List.length_append, List.length_singleton, show ((pfx.length + 1 : Nat) : Int) = (pfx.length : Int) + 1 by omega] at hn2
   have hlt : pfx.length < all.length := by rw [hal]; simp
   have hget : (jy all)[pfx.length]? = some (bZ r) := ajA (by rw [hal]; simp)
   have hrl := NG all
   have e1 : IntKind.i64.wrap ((pfx.length : Int) + 1) = (pfx.length : Int) + 1 := wrap64 _ (by omega)
   simp only [dS]
   unfold Ey at *
   generalize (dS (a * (r.den / Nat.gcd a r.den)) t) = res at *
   generalize ((a * (r.den / Nat.gcd a r.den) : Nat) : Int) = a2 at *
   generalize ((r.den / Nat.gcd a r.den : Nat) : Int) = qz at *
   generalize ((r.den % Nat.gcd a r.den : Nat) : Int) = rz at *
   generalize (r.den : Int) = dz at *
   generalize (a : Int) = az at *
   generalize (Nat.gcd a r.den) = gg at *
   generalize r.den = dd at *
   generalize (gg : Int) = gz at *
   generalize jy all = rc at *
   generalize all.length = N at *
   generalize pfx.length = P at *
   have hltI : (P : Int) < N := by omega
   refine aQ (Md ..) ?_
   simp [Eh, hlt, hltI, hget, hden, h1, h2, h3, h4, h5, h6, e1, hn2]
def dh (A : Nat) (l : List Rat) : List Int := l.map fun r => r.num * ((A / r.den : Nat) : Int)
def oH (l : List Int) : List D := l.map intD
theorem acf (l : List Int) (b n : Nat) : (oH l).all (D.clo b (n + 1)) = true := by
 unfold oH
 induction l with
 | nil => rfl
 | cons q r ih => simp only [List.map_cons, List.all_cons, ih, Bool.and_true]; rfl
theorem amg (l : List Int) (n : Nat) (m : Mem) : jV (fz (n + 1)) (oH l) m = some (oH l, m) := by
 unfold oH
 induction l with
 | nil => rfl
 | cons q r ih => simp [ih]
theorem ajo (l : List Int) : (oH l).length = l.length := by simp [oH]
theorem ap_ (l r : List Int) : oH (l ++ r) = oH l ++ oH r := by simp [oH]
theorem ap' {l : List Int} {i : Nat} {z : Int} (h : l[i]? = some z) : (oH l)[i]? = some (intD z) := by simp [oH, h]
theorem alX {K A : Nat} {all : List Rat} (hn : all.length ≤ 100000) {j : Nat} (hA : NB j A) (hj : j ≤ 900000) (hK : K ≤ 900000) (hall : ∀ r ∈ all, RB K r) : ∀ (rest pfx : List Rat), all = pfx ++ rest → pfx ≠ [] →
  L.loop [4, 11, 43, 44, 45] [4, 11] lM 0 [intD (A : Int), .bg 0 0 pfx.length 1, Ey all, .int .i64 all.length, .int .i64 pfx.length] [.live (oH (dh A pfx))] =
    some (.exit 2, [intD (A : Int), .bg 0 0 all.length 1], [.live (oH (dh A all))]) := by
 intro rest
 induction rest with
 | nil =>
   intro pfx hal hne
   rw [List.append_nil] at hal
   subst hal
   unfold Ey
   generalize jy all = rc at *
   have hic := fun n => acf (dh A all) n 11
   generalize oH (dh A all) = ic at *
   generalize all.length = N at *
   generalize (A : Int) = az at *
   refine aQ (Ea ..) ?_
   simp [xU, hic]
 | cons r t ih =>
   intro pfx hal hne
   have hr := hall r (by rw [hal]; simp)
   have hpos : 0 < pfx.length := List.length_pos_iff.2 hne
   have h0 : r.den ≠ 0 := r.den_nz
   have h5 := Ur hA hr.2 hj hK h0
   have hq : NB j (A / r.den) := hA.le (Nat.div_le_self _ _)
   have h6 := dW hr.num (IB.ofNat hq) hK hj
   have hden := IK r
   have hnum := Nq r
   have hn2 := ih (pfx ++ [r]) (by rw [hal]; simp) (by simp)
   rw [show dh A (pfx ++ [r]) = dh A pfx ++ [r.num * ((A / r.den : Nat) : Int)] by simp [dh], ap_, List.length_append, List.length_singleton, show ((pfx.length + 1 : Nat) : Int) = (pfx.length : Int) + 1 by omega, show oH [r.num * ((A / r.den : Nat) : Int)] = [intD (r.num * ((A / r.den : Nat) : Int))] from rfl] at hn2
   have hlt : pfx.length < all.length := by rw [hal]; simp
   have hget : (jy all)[pfx.length]? = some (bZ r) := ajA (by rw [hal]; simp)
   have hrl := NG all
   have hil : (oH (dh A pfx)).length = pfx.length := by rw [ajo]; simp [dh]
   have htk : (oH (dh A pfx)).take pfx.length = oH (dh A pfx) := List.take_of_length_le (by omega)
   have hlen : pfx.length + 1 ≤ 4294967296 := by omega
   have e1 : IntKind.i64.wrap ((pfx.length : Int) + 1) = (pfx.length : Int) + 1 := wrap64 _ (by omega)
   unfold Ey at *
   generalize r.num * ((A / r.den : Nat) : Int) = v at *
   generalize ((A / r.den : Nat) : Int) = qz at *
   generalize ((A % r.den : Nat) : Int) = rz at *
   generalize (r.den : Int) = dz at *
   generalize (A : Int) = az at *
   have hpc := fun n => acf (dh A pfx) n 11
   generalize oH (dh A pfx) = ip at *
   generalize oH (dh A all) = ia at *
   generalize jy all = rc at *
   generalize all.length = N at *
   generalize pfx.length = P at *
   have hltI : (P : Int) < N := by omega
   refine aQ (Ea ..) ?_
   simp [xU, hlt, hltI, hget, hden, hnum, h5, h6, e1, hn2, hil, hpc, htk, hlen, afv, kV]
theorem apU {K A : Nat} {all : List Rat} (hn : all.length ≤ 100000) {j : Nat} (hA : NB j A) (hj : j ≤ 900000) (hK : K ≤ 900000) (hall : ∀ r ∈ all, RB K r) (hne : all ≠ []) :
  L.loop [4, 11, 43, 44, 45] [4, 11] lM 0 [intD (A : Int), .dA, Ey all, .int .i64 all.length, .int .i64 0] [] =
    some (.exit 2, [intD (A : Int), .bg 0 0 all.length 1], [.live (oH (dh A all))]) := by
 match all, hne with
 | r :: t, _ =>
   have hr := hall r (by simp)
   have h0 : r.den ≠ 0 := r.den_nz
   have h5 := Ur hA hr.2 hj hK h0
   have hq : NB j (A / r.den) := hA.le (Nat.div_le_self _ _)
   have h6 := dW hr.num (IB.ofNat hq) hK hj
   have hden := IK r
   have hnum := Nq r
   have hn2 := alX hn hA hj hK hall t [r] rfl (by simp)
   rw [show oH (dh A [r]) = [intD (r.num * ((A / r.den : Nat) : Int))] from rfl, List.length_singleton] at hn2
   have hlt : 0 < (r :: t).length := by simp
   have hget : (jy (r :: t))[0]? = some (bZ r) := rfl
   have hrl := NG (r :: t)
   have e1 : IntKind.i64.wrap (1 : Int) = 1 := wrap64 _ (by omega)
   unfold Ey at *
   generalize r.num * ((A / r.den : Nat) : Int) = v at *
   generalize ((A / r.den : Nat) : Int) = qz at *
   generalize ((A % r.den : Nat) : Int) = rz at *
   generalize hdz : (r.den : Int) = dz at *
   generalize (A : Int) = az at *
   generalize oH (dh A (r :: t)) = ia at *
   generalize jy (r :: t) = rc at *
   generalize (r :: t).length = N at *
   have hltI : (0 : Int) < N := by omega
   refine aQ (Ea ..) ?_
   simp at hn2
   simp [xU, hlt, hltI, hget, hden, hnum, h5, h6, e1, hn2, afv, kV]
theorem aaT {K : Nat} {l : List Rat} (hne : l ≠ []) (hn : l.length ≤ 100000) (hall : ∀ r ∈ l, RB K r) (hK : 1 + K * l.length + K ≤ 900000) :
  L.call uN [Ey l] = some (.aZ [.sl l.length (oH (dh (dS 1 l) l)), intD ((dS 1 l : Nat) : Int)]) := by
 have h1 : NB 1 1 := by unfold NB; decide
 have hl1 := alW hn l [] 1 1 rfl hall h1 (by omega) hK
 have hA := ach h1 hall
 have hl2 := apU hn hA (by omega) (by omega) hall hne
 have hof := wO 1 (by omega)
 simp only [List.length_nil] at hl1
 rw [show ((1 : Nat) : Int) = 1 from rfl] at hl1
 have hil : (oH (dh (dS 1 l) l)).length = l.length := by rw [ajo]; simp [dh]
 have htk : (oH (dh (dS 1 l) l)).take l.length = oH (dh (dS 1 l) l) := List.take_of_length_le (by omega)
 have hfz := fun m => amg (dh (dS 1 l) l) 9 m
 have hfz2 := fun m => amg (dh (dS 1 l) l) 10 m
 have hic := fun n => acf (dh (dS 1 l) l) n 11
 unfold Ey at *
 generalize oH (dh (dS 1 l) l) = ic at *
 generalize ((dS 1 l : Nat) : Int) = az at *
 generalize jy l = rc at *
 generalize l.length = N at *
 generalize hone : intD 1 = one at *
 refine aO abN rfl (abz ..) ?_
 subst hone
 simp at hl1 hl2
 simp [Tt, hof, hl1, hl2, hfz, hfz2, htk, hil, hic]
end Go.Ev.Code
end
section
namespace Go.Ev.Code
open Go Go.Ev
def hs (n d : Int) : List Int → Int × Int
 | [] => (0, 1)
 | a :: t => ((hs n d t).1 * d + a * (hs n d t).2, (hs n d t).2 * n)
theorem aaD {n d : Int} {q k : Nat} (hn : IB q n) (hd : IB q d) : ∀ {l : List Int}, (∀ a ∈ l, IB k a) → IB (k + (q + 2) * l.length + 2) (hs n d l).1 ∧ IB (q * l.length + 1) (hs n d l).2
 | [], _ => ⟨by unfold IB NB hs; simp; exact Nat.two_pow_pos _, by unfold IB NB hs; simp⟩
 | a :: t, h => by
   have ih := aaD (k := k) hn hd (l := t) (fun x hx => h x (by simp [hx]))
   have ha := h a (by simp)
   have e : (q + 2) * (t.length + 1) = (q + 2) * t.length + q + 2 := by rw [Nat.mul_add]; omega
   have e2 : q * (t.length + 1) = q * t.length + q := by rw [Nat.mul_add]; omega
   have e3 : q * t.length ≤ (q + 2) * t.length := Nat.mul_le_mul_right _ (by omega)
   simp only [hs, List.length_cons]
   refine ⟨((ih.1.mul hd).add (ha.mul ih.2)).mono ?_, (ih.2.mul hn).mono (by omega)⟩
   rw [e]
   generalize (q + 2) * t.length = X at *
   generalize q * t.length = Y at *
   omega
theorem aqr {n d : Int} {q k : Nat} (hn : IB q n) (hd : IB q d) {as : List Int} (hall : ∀ a ∈ as, IB k a) (hK : k + (q + 2) * as.length + 2 + q ≤ 900000) (hlen : as.length ≤ 100000) (Z : D) (hZ : ∃ z, Z = intD z) : ∀ (c : Nat), c < as.length →
  L.loop [1, 2, 8, 9, 10, 11, 12] [9, 10, 11] iE 0 [intD n, intD d, .sl as.length (oH as), Z, intD (hs n d (as.drop (c + 1))).1, intD (hs n d (as.drop (c + 1))).2, .int .i64 c] [] =
    some (.exit 0, [Z, intD (hs n d as).1, intD (hs n d as.tail).2], []) := by
 obtain ⟨z, rfl⟩ := hZ
 have hstop : ∀ s p : Int, L.loop [1, 2, 8, 9, 10, 11, 12] [9, 10, 11] iE 0 [intD n, intD d, .sl as.length (oH as), intD z, intD s, intD p, .int .i64 (-1)] [] = some (.exit 0, [intD z, intD s, intD p], []) := by
  intro s p
  generalize oH as = ic at *
  generalize as.length = N at *
  refine aQ (Eb ..) ?_
  simp [xW]
 have hb : ∀ t : List Int, (∀ a ∈ t, IB k a) → t.length ≤ as.length → IB (k + (q + 2) * as.length + 2) (hs n d t).1 ∧ IB (q * as.length + 1) (hs n d t).2 := by
  intro t ht hl
  have := aaD (k := k) hn hd (l := t) ht
  have e1 : (q + 2) * t.length ≤ (q + 2) * as.length := Nat.mul_le_mul_left _ hl
  have e2 : q * t.length ≤ q * as.length := Nat.mul_le_mul_left _ hl
  exact ⟨this.1.mono (by omega), this.2.mono (by omega)⟩
 have e3 : q * as.length ≤ (q + 2) * as.length := Nat.mul_le_mul_right _ (by omega)
 have hstep : ∀ (c : Nat) (a : Int), c < as.length → as[c]? = some a → ∀ r,
   (if 0 < c then L.loop [1, 2, 8, 9, 10, 11, 12] [9, 10, 11] iE 0 [intD n, intD d, .sl as.length (oH as), intD z, intD ((hs n d (as.drop (c + 1))).1 * d + a * (hs n d (as.drop (c + 1))).2), intD ((hs n d (as.drop (c + 1))).2 * n), .int .i64 ((c : Int) - 1)] []
    else L.loop [1, 2, 8, 9, 10, 11, 12] [9, 10, 11] iE 0 [intD n, intD d, .sl as.length (oH as), intD z, intD ((hs n d (as.drop (c + 1))).1 * d + a * (hs n d (as.drop (c + 1))).2), intD (hs n d (as.drop (c + 1))).2, .int .i64 (-1)] []) = some r →
   L.loop [1, 2, 8, 9, 10, 11, 12] [9, 10, 11] iE 0 [intD n, intD d, .sl as.length (oH as), intD z, intD (hs n d (as.drop (c + 1))).1, intD (hs n d (as.drop (c + 1))).2, .int .i64 c] [] = some r := by
  intro c a hc hget r hr
  have hmem : a ∈ as := List.mem_of_getElem? hget
  have hbd := hb (as.drop (c + 1)) (fun x hx => hall x (List.mem_of_mem_drop hx)) (by rw [List.length_drop]; omega)
  have ha := hall a hmem
  have m1 := dW hbd.1 hd (by omega) (by omega)
  have m2 := dW ha hbd.2 (by omega) (by omega)
  have m3 := zA (hbd.1.mul hd) (ha.mul hbd.2) (by omega) (by omega)
  have m4 := dW hbd.2 hn (by omega) (by omega)
  have hg := ap' hget
  have e1 : IntKind.i64.wrap ((c : Int) - 1) = (c : Int) - 1 := wrap64 _ (by omega)
  generalize (hs n d (as.drop (c + 1))).1 * d + a * (hs n d (as.drop (c + 1))).2 = s2 at *
  generalize (hs n d (as.drop (c + 1))).1 * d = s1 at *
  generalize a * (hs n d (as.drop (c + 1))).2 = s3 at *
  generalize (hs n d (as.drop (c + 1))).2 * n = p2 at *
  generalize (hs n d (as.drop (c + 1))).2 = p0 at *
  generalize (hs n d (as.drop (c + 1))).1 = s0 at *
  generalize oH as = ic at *
  generalize as.length = N at *
  have hcI : (c : Int) < N := by omega
  by_cases h0 : 0 < c
  ·rw [if_pos h0] at hr
   have h0I : (0 : Int) < c := by omega
   refine aQ (Eb ..) ?_
   simp [xW, hc, hcI, hg, m1, m2, m3, m4, h0, h0I, e1, hr]
  ·rw [if_neg h0] at hr
   obtain rfl : c = 0 := by omega
   have e2 : IntKind.i64.wrap (-1) = -1 := wrap64 _ (by omega)
   refine aQ (Eb ..) ?_
   simp [xW, hc, hcI, hg, m1, m2, m3, m4, e2, hr]
 intro c
 induction c with
 | zero =>
   intro hc
   have hget := List.getElem?_eq_getElem (l := as) (i := 0) hc
   refine hstep 0 _ hc hget _ ?_
   rw [if_neg (by omega), hstop]
   match as, hc with
   | a :: t, _ => rfl
 | succ c ih =>
   intro hc
   have hget := List.getElem?_eq_getElem (l := as) (i := c + 1) hc
   refine hstep (c + 1) _ hc hget _ ?_
   rw [if_pos (by omega)]
   have hi := ih (by omega)
   have hd2 : as.drop (c + 1) = as[c + 1] :: as.drop (c + 1 + 1) := List.drop_eq_getElem_cons hc
   rw [hd2] at hi
   simp only [hs] at hi
   rw [show ((c + 1 : Nat) : Int) - 1 = (c : Int) by omega]
   exact hi
theorem ag1 {A : Nat} {j K : Nat} (hA : NB j A) {l : List Rat} (hall : ∀ r ∈ l, RB K r) : ∀ a ∈ dh A l, IB (K + j) a := by
 intro a ha
 unfold dh at ha
 obtain ⟨r, hr, rfl⟩ := List.mem_map.1 ha
 exact (hall r hr).num.mul (IB.ofNat (hA.le (Nat.div_le_self _ _)))
theorem aaU {K q : Nat} {l : List Rat} (hne : l ≠ []) (hn : l.length ≤ 100000) (hall : ∀ r ∈ l, RB K r) {n d : Int} (hn2 : IB q n) (hd : IB q d) (hK : K + (1 + K * l.length) + (q + 2) * l.length + 2 + q ≤ 900000) :
  L.call uO [Ey l, intD n, intD d] = some (.aZ [intD (hs n d (dh (dS 1 l) l)).1, intD (((dS 1 l : Nat) : Int) * (hs n d (dh (dS 1 l) l).tail).2)]) := by
 have h1 : NB 1 1 := by unfold NB; decide
 have hA := ach h1 hall
 have hcom := aaT hne hn hall (by omega)
 have hlen : (dh (dS 1 l) l).length = l.length := by simp [dh]
 have hab := ag1 hA hall
 have hpos : 0 < l.length := List.length_pos_iff.2 hne
 obtain ⟨c, hc⟩ : ∃ c, l.length = c + 1 := ⟨l.length - 1, by omega⟩
 have hloop := aqr hn2 hd hab (by rw [hlen]; exact hK) (by omega) (intD ((dS 1 l : Nat) : Int)) ⟨_, rfl⟩ c (by omega)
 have hdr : (dh (dS 1 l) l).drop (c + 1) = [] := List.drop_eq_nil_of_le (by omega)
 rw [hdr] at hloop
 simp only [hs] at hloop
 have htb := (aaD hn2 hd (l := (dh (dS 1 l) l).tail) (fun a ha => hab a (List.mem_of_mem_tail ha))).2
 have htl : (dh (dS 1 l) l).tail.length ≤ l.length := by rw [List.length_tail, hlen]; omega
 have e2 : q * (dh (dS 1 l) l).tail.length ≤ (q + 2) * l.length := Nat.mul_le_mul (by omega) htl
 have hm := dW (IB.ofNat hA) htb (by omega) (by omega)
 have o0 := wO 0 (by omega)
 have o1 := wO 1 (by omega)
 rw [hlen] at hloop
 have e1 : IntKind.i64.wrap ((l.length : Int) - 1) = (c : Int) := by rw [wrap64 _ (by omega)]; omega
 generalize hs n d (dh (dS 1 l) l) = r at *
 generalize ((dS 1 l : Nat) : Int) * (hs n d (dh (dS 1 l) l).tail).2 = v at *
 generalize (hs n d (dh (dS 1 l) l).tail).2 = p at *
 generalize oH (dh (dS 1 l) l) = ic at *
 generalize ((dS 1 l : Nat) : Int) = az at *
 unfold Ey at *
 generalize jy l = rc at *
 generalize l.length = N at *
 generalize hz0 : intD 0 = zero at *
 generalize hz1 : intD 1 = one at *
 subst hz0 hz1
 refine aO abO rfl (abA ..) ?_
 simp [Tv, hcom, o0, o1, e1, hloop, hm]
end Go.Ev.Code
end
section
namespace Go.Ev.Code
open Go Go.Ev
def Bv (x : Rat) : List Rat → Rat
 | [] => 0
 | r :: t => r + x * Bv x t
theorem amc {n d : Int} (hn : n ≠ 0) : ∀ l : List Int, (hs n d l).2 ≠ 0
 | [] => by simp [hs]
 | a :: t => by simp only [hs]; exact Int.mul_ne_zero (amc hn t) hn
theorem amv (r : Rat) : (r.num : Rat) = r * (r.den : Rat) := by
 have hd : ((r.den : Nat) : Rat) ≠ 0 := by
  intro h
  rw [← Rat.intCast_natCast] at h
  have := Rat.intCast_eq_zero_iff.1 h
  have := r.den_nz
  omega
 have h : r = (r.num : Rat) / (r.den : Rat) := by
  rw [← Rat.intCast_natCast, ← Rat.divInt_eq_div]
  exact (Rat.num_divInt_den r).symm
 generalize (r.num : Rat) = n at *
 generalize (r.den : Rat) = d at *
 rw [h]
 exact (Rat.div_mul_cancel hd).symm
theorem ap6 {A P H E Z : Rat} (hA : A ≠ 0) (hP : P ≠ 0) (hE : E ≠ 0) (hZ : Z ≠ 0) : A * P * H * E / (A * P * (E * Z)) = H / Z := by grind
theorem aiN {A : Nat} {r : Rat} (h : r.den ∣ A) : ((r.num * ((A / r.den : Nat) : Int) : Int) : Rat) = r * (A : Rat) := by
 obtain ⟨k, rfl⟩ := h
 have hd : r.den ≠ 0 := r.den_nz
 rw [Nat.mul_div_cancel_left _ (by omega)]
 have h1 := amv r
 rw [Rat.intCast_mul, h1, Rat.natCast_mul, Rat.intCast_natCast]
 grind
theorem amd {n d : Int} {A : Nat} {x : Rat} (hx : x * (n : Rat) = (d : Rat)) : ∀ (l : List Rat), (∀ r ∈ l, r.den ∣ A) → (((hs n d (dh A l)).1 : Int) : Rat) * (n : Rat) = (A : Rat) * Bv x l * (((hs n d (dh A l)).2 : Int) : Rat)
 | [], _ => by simp only [dh, List.map_nil, hs, Bv]; show ((0 : Int) : Rat) * _ = _; rw [Rat.intCast_zero]; grind
 | r :: t, h => by
   have ih := amd hx t (fun q hq => h q (by simp [hq]))
   have hr := aiN (h r (by simp))
   unfold dh at ih ⊢
   simp only [List.map_cons, hs, Bv] at ih ⊢
   rw [Rat.intCast_mul] at hr
   rw [Rat.intCast_add, Rat.intCast_mul, Rat.intCast_mul, Rat.intCast_mul, Rat.intCast_mul, hr]
   generalize ((hs n d (List.map (fun r => r.num * ((A / r.den : Nat) : Int)) t)).1 : Rat) = s at *
   generalize ((hs n d (List.map (fun r => r.num * ((A / r.den : Nat) : Int)) t)).2 : Rat) = p at *
   generalize Bv x t = H at *
   generalize (n : Rat) = N at *
   generalize (d : Rat) = E at *
   generalize (A : Rat) = B at *
   subst hx
   grind
theorem aqM {n d : Int} {A : Nat} {x : Rat} (hn : n ≠ 0) (hx : x * (n : Rat) = (d : Rat)) {l : List Rat} (hne : l ≠ []) (h : ∀ r ∈ l, r.den ∣ A) :
  (((hs n d (dh A l)).1 : Int) : Rat) = (A : Rat) * (((hs n d (dh A l).tail).2 : Int) : Rat) * Bv x l := by
 have h1 := amd hx l h
 have hn0 : (n : Rat) ≠ 0 := fun h => hn (Rat.intCast_eq_zero_iff.1 h)
 match l, hne with
 | r :: t, _ =>
   have e : ((hs n d (dh A (r :: t))).2 : Int) = (hs n d (dh A (r :: t)).tail).2 * n := rfl
   rw [e, Rat.intCast_mul] at h1
   generalize ((hs n d (dh A (r :: t))).1 : Rat) = s at *
   generalize ((hs n d (dh A (r :: t)).tail).2 : Rat) = p at *
   generalize Bv x (r :: t) = H at *
   have : (s - (A : Rat) * p * H) * (n : Rat) = 0 := by grind
   rcases Rat.mul_eq_zero.1 this with h2 | h2
   ·grind
   ·exact absurd h2 hn0
def dY (b : aN) : Int := 100000000 * b.dQ
def nR (b : aN) (s y : Int) : Int := ((iY b s).den : Int) * dY b + (iY b s).num * y
def XP (b : aN) (y : Int) : Rat := (dY b : Rat) / ((dY b + y : Int) : Rat)
def Wv (b : aN) (s y : Int) : Rat := Bv (XP b y) (dP b s) / (1 + iY b s * ((y : Rat) / (dY b : Rat)))
def Oy (b : aN) (s y : Int) : Except Er Rat := match (leftB b s).1 with
 | some e => .error (some e)
 | none => if y < -2000000 ∨ 100000000 < y then .error (some (2, none)) else if l7 b s = 0 ∨ nR b s y ≤ 0 then .error (some (3, none)) else .ok (Wv b s y)
def Xg : Except Er Rat → D
 | .ok q => .aZ [bZ q, .aF]
 | .error e => .aZ [.aV, jc e]
theorem ai7 {b : aN} {s : Int} (h : (leftB b s).1 = none) : (∀ r ∈ dP b s, RB 2200 r) ∧ (dP b s).length ≤ 200 ∧ dP b s ≠ [] := by
 obtain ⟨f0, h2, h3, h4⟩ := jY h
 obtain ⟨d1, d2, d3, d4, d5, d6⟩ := BK h
 obtain ⟨k, k1, k2, k3, k4⟩ := G5 h2 h3 h4
 have hplen := (eG h2).2.len
 have hklt : k < (aK b).2.length := (List.getElem?_eq_some_iff.1 k2).1
 have hflen := WC f0
 have hrb := Y3 f0
 have hpB := Jw f0 d6
 obtain ⟨a, ha⟩ : ∃ a : Nat, a = 600 := ⟨_, rfl⟩
 obtain ⟨c, hc⟩ : ∃ c : Nat, c = 1500 := ⟨_, rfl⟩
 obtain ⟨e, he⟩ : ∃ e : Nat, e = 2200 := ⟨_, rfl⟩
 rw [← ha] at hpB
 rw [← hc] at hrb
 rw [← he]
 unfold dP
 rw [k1, Int.toNat_natCast]
 have hl : (((bn b).2.drop k).map Prod.snd).length = (aK b).2.length - k := by rw [List.length_map, List.length_drop, hflen]
 have hall : ∀ r ∈ ((bn b).2.drop k).map Prod.snd, RB c r := by
  intro r hr
  obtain ⟨p, hp, rfl⟩ := List.mem_map.1 hr
  exact hrb p (List.mem_of_mem_drop hp)
 generalize ((bn b).2.drop k).map Prod.snd = l at *
 match l, hl, hall with
 | [], hl, _ => simp at hl; omega
 | x :: t, hl, hall =>
   split
   ·simp only [aky]
    refine ⟨fun r hr => ?_, ?_, by simp⟩
    ·rcases List.mem_cons.1 hr with rfl | hr
     ·exact ((hall x (by simp)).sub hpB).mono (by omega)
     ·exact (hall r (by simp [hr])).mono (by omega)
    ·simp at hl ⊢; omega
   ·exact ⟨fun r hr => (hall r hr).mono (by omega), by omega, by simp⟩
theorem agI : ∀ {l : List Rat} {a M : Nat}, a ∣ M → (∀ r ∈ l, r.den ∣ M) → dS a l ∣ M
 | [], a, M, h, _ => h
 | r :: t, a, M, h, hl => by
   refine agI (l := t) ?_ (fun q hq => hl q (by simp [hq]))
   have : a * (r.den / Nat.gcd a r.den) = Nat.lcm a r.den := by
    unfold Nat.lcm
    exact (Nat.mul_div_assoc _ (Nat.gcd_dvd_right _ _)).symm
   rw [this]
   exact Nat.lcm_dvd h (hl r (by simp))
theorem abZ {n d : Int} (h : d ≠ 0) : (Rat.divInt n d).den ∣ d.natAbs := by
 rw [Rat.den_divInt, if_neg h]
 exact Nat.div_dvd_of_dvd (Nat.gcd_dvd_left _ _)
theorem aip (a c : Rat) : (a + c).den ∣ a.den * c.den := by
 rw [add_eq a c]
 have := abZ (n := a.num * c.den + c.num * a.den) (WX (a := a) (b := c))
 rw [Int.natAbs_mul] at this
 simpa using this
theorem adE (each red : Rat) : ∀ (l : List (Int × Int)), ∀ x ∈ iG each red l, x.2.den ∣ each.den * red.den
 | [], x, h => by simp [iG] at h
 | [p], x, h => by simp [iG] at h; subst h; exact aip each red
 | p :: q :: r, x, h => by
   simp only [iG, List.mem_cons] at h
   rcases h with rfl | h
   ·exact Nat.dvd_mul_right _ _
   ·exact adE each red (q :: r) x (by simpa [iG] using h)
theorem an3 {b : aN} (h : (bn b).1 = none) : ∀ x ∈ (bn b).2.tail, x.2.den ∣ (gJ b).den * (iU b).den := by
 obtain ⟨h0, p, r, q, hps, hq, hfl⟩ := lC h
 rw [hfl]
 match r with
 | [] => intro x hx; simp [sK] at hx
 | y :: r =>
   intro x hx
   simp only [sK, List.tail_cons] at hx
   exact adE _ _ _ x hx
theorem aqc {b : aN} {s : Int} (h : (leftB b s).1 = none) : NB 3100 (dS 1 (dP b s)) := by
 obtain ⟨f0, h2, h3, h4⟩ := jY h
 obtain ⟨k, k1, k2, k3, k4⟩ := G5 h2 h3 h4
 obtain ⟨hall, hlen, hne⟩ := ai7 h
 have hf := jm (dM (jw h2)).2.1
 have htail : ∀ r ∈ (dP b s).tail, r.den ∣ (gJ b).den * (iU b).den := by
  have hd : ∀ r ∈ (((bn b).2.drop k).map Prod.snd).tail, r.den ∣ (gJ b).den * (iU b).den := by
   intro r hr
   rw [← List.map_tail, List.tail_drop] at hr
   obtain ⟨x, hx, rfl⟩ := List.mem_map.1 hr
   refine an3 f0 x ?_
   rw [← List.drop_tail] at hx
   exact List.mem_of_mem_drop hx
  unfold dP
  rw [k1, Int.toNat_natCast]
  generalize ((bn b).2.drop k).map Prod.snd = l at *
  split
  ·match l with
   | [] => exact hd
   | x :: t => exact hd
  ·exact hd
 have hrp := K_ hf
 have hrd := Eu b
 obtain ⟨c1, hc1⟩ : ∃ c : Nat, c = 464 := ⟨_, rfl⟩
 obtain ⟨c2, hc2⟩ : ∃ c : Nat, c = 400 := ⟨_, rfl⟩
 rw [← hc1] at hrp
 rw [← hc2] at hrd
 have hE : NB (c1 + c2) ((gJ b).den * (iU b).den) := hrp.2.mul hrd.2
 have hE0 : 0 < (gJ b).den * (iU b).den := Nat.mul_pos (gJ b).den_pos (iU b).den_pos
 obtain ⟨K, hK⟩ : ∃ K : Nat, K = 2200 := ⟨_, rfl⟩
 obtain ⟨J, hJ⟩ : ∃ J : Nat, J = 3100 := ⟨_, rfl⟩
 rw [← hK] at hall
 rw [← hJ]
 generalize (gJ b).den * (iU b).den = E at *
 match dP b s, hne, hall, htail with
 | x :: t, _, hall, htail =>
   have hx := (hall x (by simp)).2
   have hm : dS 1 (x :: t) ∣ x.den * E := agI (Nat.one_dvd _) (fun r hr => by
    rcases List.mem_cons.1 hr with rfl | hr
    ·exact Nat.dvd_mul_right _ _
    ·exact Nat.dvd_trans (htail r hr) (Nat.dvd_mul_left _ _))
   have hp : 0 < x.den * E := Nat.mul_pos x.den_pos hE0
   exact ((hx.mul hE).le (Nat.le_of_dvd hp hm)).mono (by omega)
theorem ajl {b : aN} (hf : D9 b.dQ) {y : Int} (h1 : -2000000 ≤ y) (h2 : y ≤ 100000000) : IB 40 (dY b) ∧ IB 40 (dY b + y) ∧ IB 40 y ∧ 0 < dY b ∧ 0 < dY b + y := by
 have hb : 100000000 ≤ dY b ∧ dY b ≤ 1200000000 := by
  unfold dY
  rcases hf with h | h | h | h <;> rw [h] <;> decide
 refine ⟨?_, ?_, ?_, by omega, by omega⟩ <;> (unfold IB NB; have : (2 : Nat) ^ 40 = 1099511627776 := by decide) <;> omega
theorem acw {b : aN} (hc : b.d_.length ≤ 1000000) (hr : b.eH.length ≤ 1000000) (s : Int) {y : Int} (hy : -9223372036854775808 ≤ y ∧ y ≤ 9223372036854775807) :
  L.call qB [bf b, .int .i64 s, .int .i64 y] = some (Xg (Oy b s y)) ∧ (∀ q, Oy b s y = .ok q → RB 15000 q) := by
 have hl := Zy hc hr s
 have hwt := afd hc hr s
 unfold anr at hl
 unfold Oy
 cases he : (leftB b s).1 with
 | some e =>
   refine ⟨?_, fun q h => by simp at h⟩
   rw [he] at hl
   simp only [Xg]
   obtain ⟨i, m, fq, c, rd, n, st, en, ex⟩ := b
   unfold bf aS at *
   simp only at *
   rcases e with ⟨c, _ | t⟩
   ·simp only [jc] at *
    refine aO vI rfl (vH ..) ?_
    simp [oM, hl]
   ·simp only [jc, fQ] at *
    refine aO vI rfl (vH ..) ?_
    simp [oM, hl]
 | none =>
   rw [he] at hl
   simp only
   by_cases hr1 : y < -2000000 ∨ 100000000 < y
   ·rw [if_pos hr1]
    refine ⟨?_, fun q h => by simp at h⟩
    simp only [Xg, jc]
    unfold Ey at hl
    generalize jy (dP b s) = rc at *
    generalize (dP b s).length = N at *
    obtain ⟨i, m, fq, c, rd, n, st, en, ex⟩ := b
    unfold bf aS at *
    simp only at *
    refine aO vI rfl (vH ..) ?_
    by_cases h1 : y < -2000000
    ·simp [oM, hl, h1, bP]
    ·have h2 : 100000000 < y := by omega
     simp [oM, hl, h1, h2, bP]
   rw [if_neg hr1]
   have hy1 : ¬ y < -2000000 := by omega
   have hy2 : ¬ 100000000 < y := by omega
   unfold ak3 at hwt
   rw [he] at hwt
   simp only at hwt
   by_cases h0 : l7 b s = 0
   ·rw [if_pos h0] at hwt
    rw [if_pos (.inl h0)]
    refine ⟨?_, fun q h => by simp at h⟩
    simp only [Xg, jc]
    unfold Ey at hl
    generalize jy (dP b s) = rc at *
    generalize (dP b s).length = N at *
    obtain ⟨i, m, fq, c, rd, n, st, en, ex⟩ := b
    unfold bf aS at *
    simp only at *
    refine aO vI rfl (vH ..) ?_
    simp [oM, hl, hy1, hy2, hwt]
   rw [if_neg h0] at hwt
   have hf := jm (dM (jw (jY he).2.1)).2.1
   obtain ⟨gB, nB, yB, g0, n0⟩ := ajl hf (y := y) (by omega) (by omega)
   have hwB := ao1 he h0
   obtain ⟨hall, hlen, hne⟩ := ai7 he
   obtain ⟨W, hW⟩ : ∃ W : Nat, W = 700 := ⟨_, rfl⟩
   obtain ⟨K, hK⟩ : ∃ K : Nat, K = 2200 := ⟨_, rfl⟩
   rw [← hW] at hwB
   rw [← hK] at hall
   have hKl : K * (dP b s).length ≤ 440000 := by rw [hK]; omega
   have hsum := aaU hne (by omega) hall nB gB (by omega)
   have hgz : 100000000 * b.dQ = dY b := rfl
   have o1 := wO 100000000 (by omega)
   have o2 := wO b.dQ (by rcases hf with h | h | h | h <;> omega)
   have o3 := wO y hy
   have m1 := dW (a := 100000000) (b := b.dQ) (jd (by omega)) (jd (by rcases hf with h | h | h | h <;> omega)) (by omega) (by omega)
   rw [hgz] at m1
   have m2 := zA gB yB (by omega) (by omega)
   have m3 := dW hwB.den gB (by omega) (by omega)
   have m4 := dW hwB.num yB (by omega) (by omega)
   have m5 := zA (hwB.den.mul gB) (hwB.num.mul yB) (by omega) (by omega)
   have haz : ((iY b s).den : Int) * dY b + (iY b s).num * y = nR b s y := rfl
   have aB := (hwB.den.mul gB).add (hwB.num.mul yB)
   rw [haz] at m5 aB
   have h1n : NB 1 1 := by unfold NB; decide
   have hA := aqc he
   obtain ⟨J, hJ⟩ : ∃ J : Nat, J = 3100 := ⟨_, rfl⟩
   rw [← hJ] at hA
   have hab := ag1 hA hall
   have hnl : (dh (dS 1 (dP b s)) (dP b s)).length = (dP b s).length := by simp [dh]
   have sB := (aaD nB gB hab).1
   have pB := (aaD nB gB (l := (dh (dS 1 (dP b s)) (dP b s)).tail) (fun a ha => hab a (List.mem_of_mem_tail ha))).2
   have htl : (dh (dS 1 (dP b s)) (dP b s)).tail.length ≤ 200 := by rw [List.length_tail, hnl]; omega
   have bB := (IB.ofNat hA).mul pB
   rw [hnl] at sB
   have m6 := dW sB (hwB.den.mul gB) (by omega) (by omega)
   have m7 := dW bB aB (by omega) (by omega)
   have hden := IK (iY b s)
   have hnum := Nq (iY b s)
   have hsg := Kz (nR b s y)
   by_cases ha : nR b s y ≤ 0
   ·rw [if_pos (.inr ha)]
    refine ⟨?_, fun q h => by simp at h⟩
    simp only [Xg, jc]
    have hsl : (nR b s y).sign ≤ 0 := by
     rcases Int.lt_trichotomy (nR b s y) 0 with h | h | h
     ·rw [Int.sign_eq_neg_one_of_neg h]; omega
     ·rw [h]; decide
     ·omega
    generalize (nR b s y).sign = sg at *
    generalize nR b s y = az at *
    generalize (iY b s).num * y = wy at *
    generalize ((iY b s).den : Int) * dY b = wd at *
    generalize dY b + y = ny at *
    generalize dY b = gz at *
    generalize hs ny gz (dh (dS 1 (dP b s)) (dP b s)) = r1 at *
    generalize hs ny gz (dh (dS 1 (dP b s)) (dP b s)).tail = r2 at *
    generalize ((dS 1 (dP b s) : Nat) : Int) * r2.2 = by1 at *
    generalize (iY b s) = w at *
    unfold Ey at *
    generalize jy (dP b s) = rc at *
    generalize (dP b s).length = N at *
    obtain ⟨i, m, fq, c, rd, n, st, en, ex⟩ := b
    unfold bf aS at *
    simp only at *
    refine aO vI rfl (vH ..) ?_
    simp [oM, hl, hy1, hy2, hwt, o1, o2, o3, m1, m2, hsum, hden, hnum, m3, m4, m5, hsg, hsl, bP]
   ·rw [if_neg (by intro h; rcases h with h | h; exact h0 h; exact ha h)]
    have hA0 := Zr (l := dP b s) (a := 1) (by omega)
    have hp0 := amc (n := dY b + y) (d := dY b) (by omega) (dh (dS 1 (dP b s)) (dP b s)).tail
    have hby : ((dS 1 (dP b s) : Nat) : Int) * (hs (dY b + y) (dY b) (dh (dS 1 (dP b s)) (dP b s)).tail).2 ≠ 0 := Int.mul_ne_zero (by omega) hp0
    have hnz := Int.mul_ne_zero hby (show nR b s y ≠ 0 by omega)
    have hnew := zD (sB.mul (hwB.den.mul gB)) (bB.mul aB) (by omega) (by omega) hnz
    have hRB : RB 15000 (Rat.divInt ((hs (dY b + y) (dY b) (dh (dS 1 (dP b s)) (dP b s))).1 * (((iY b s).den : Int) * dY b)) (((dS 1 (dP b s) : Nat) : Int) * (hs (dY b + y) (dY b) (dh (dS 1 (dP b s)) (dP b s)).tail).2 * nR b s y)) :=
     lG ((sB.mul (hwB.den.mul gB)).mono (by omega)) ((bB.mul aB).mono (by omega)) hnz
    have hval : Rat.divInt ((hs (dY b + y) (dY b) (dh (dS 1 (dP b s)) (dP b s))).1 * (((iY b s).den : Int) * dY b)) (((dS 1 (dP b s) : Nat) : Int) * (hs (dY b + y) (dY b) (dh (dS 1 (dP b s)) (dP b s)).tail).2 * nR b s y) = Wv b s y := by
     have hx : XP b y * ((dY b + y : Int) : Rat) = (dY b : Rat) := by
      have : ((dY b + y : Int) : Rat) ≠ 0 := fun h => by have := Rat.intCast_eq_zero_iff.1 h; omega
      unfold XP
      exact Rat.div_mul_cancel this
     have hsv := aqM (n := dY b + y) (d := dY b) (A := dS 1 (dP b s)) (by omega) hx hne (fun r hr => agH r hr)
     rw [← Rat.intCast_natCast (dS 1 (dP b s))] at hsv
     have hq1 : ((((dS 1 (dP b s) : Nat) : Int) : Rat)) ≠ 0 := fun h => by have := Rat.intCast_eq_zero_iff.1 h; omega
     have hq2 : (((hs (dY b + y) (dY b) (dh (dS 1 (dP b s)) (dP b s)).tail).2 : Int) : Rat) ≠ 0 := fun h => hp0 (Rat.intCast_eq_zero_iff.1 h)
     have hq3 : ((nR b s y : Int) : Rat) ≠ 0 := fun h => by have := Rat.intCast_eq_zero_iff.1 h; omega
     have hq4 : ((dY b : Int) : Rat) ≠ 0 := fun h => by have := Rat.intCast_eq_zero_iff.1 h; omega
     have hq5 : (((iY b s).den : Int) : Rat) ≠ 0 := fun h => by have := Rat.intCast_eq_zero_iff.1 h; have := (iY b s).den_nz; omega
     have hwn : iY b s * (((iY b s).den : Int) : Rat) = ((iY b s).num : Rat) := by
      rw [Rat.intCast_natCast]; exact (amv (iY b s)).symm
     have haq : ((nR b s y : Int) : Rat) = (((iY b s).den : Int) : Rat) * (dY b : Rat) + ((iY b s).num : Rat) * (y : Rat) := by
      unfold nR
      rw [Rat.intCast_add, Rat.intCast_mul, Rat.intCast_mul]
     rw [Rat.divInt_eq_div, Rat.intCast_mul, Rat.intCast_mul, Rat.intCast_mul, Rat.intCast_mul, hsv]
     unfold Wv
     generalize ((((dS 1 (dP b s) : Nat) : Int) : Rat)) = A at *
     generalize ((hs (dY b + y) (dY b) (dh (dS 1 (dP b s)) (dP b s)).tail).2 : Rat) = P at *
     generalize Bv (XP b y) (dP b s) = H at *
     rw [haq] at hq3 ⊢
     generalize (((iY b s).den : Int) : Rat) = wd at *
     generalize ((iY b s).num : Rat) = wn at *
     generalize iY b s = w at *
     generalize ((dY b : Int) : Rat) = G at *
     generalize (y : Rat) = Y at *
     subst hwn
     have e1 : wd * G + w * wd * Y = wd * G * (1 + w * (Y / G)) := by grind
     rw [e1] at hq3 ⊢
     have hq6 : 1 + w * (Y / G) ≠ 0 := fun h => hq3 (by rw [h]; grind)
     generalize 1 + w * (Y / G) = Z at *
     have hE : wd * G ≠ 0 := fun h => hq3 (by rw [h]; grind)
     exact ap6 hq1 hq2 hE hq6
    refine ⟨?_, fun q h => by simp at h; rw [← h, ← hval]; exact hRB⟩
    simp only [Xg]
    rw [hval] at hnew
    have hsl : ¬ (nR b s y).sign ≤ 0 := by
     rw [Int.sign_eq_one_of_pos (by omega)]; omega
    generalize Wv b s y = res at *
    generalize (nR b s y).sign = sg at *
    generalize nR b s y = az at *
    generalize (iY b s).num * y = wy at *
    generalize ((iY b s).den : Int) * dY b = wd at *
    generalize dY b + y = ny at *
    generalize dY b = gz at *
    generalize hs ny gz (dh (dS 1 (dP b s)) (dP b s)) = r1 at *
    generalize hs ny gz (dh (dS 1 (dP b s)) (dP b s)).tail = r2 at *
    generalize ((dS 1 (dP b s) : Nat) : Int) * r2.2 = by1 at *
    generalize by1 * az = ba at *
    generalize r1.1 * wd = rw1 at *
    generalize (iY b s) = w at *
    unfold Ey at *
    generalize jy (dP b s) = rc at *
    generalize (dP b s).length = N at *
    obtain ⟨i, m, fq, c, rd, n, st, en, ex⟩ := b
    unfold bf aS at *
    simp only at *
    refine aO vI rfl (vH ..) ?_
    simp [oM, hl, hy1, hy2, hwt, o1, o2, o3, m1, m2, hsum, hden, hnum, m3, m4, m5, hsg, hsl, m6, m7, hnew]
end Go.Ev.Code
end
section
namespace Go.Ev.Code
open Go Go.Ev
end Go.Ev.Code
end
