/- A part of the proof of flowSum_card, flowParts_card, flowEx_card, accrWhole_card, priceZero_card. -/
import Derived.Test.YtnokhmkkpcfilaaGreatDoorCSpD3
set_option linter.unusedVariables false
set_option linter.unusedSimpArgs false
section
namespace Go.Ev.Code
open Go Go.Ev
def Yu (d : Int) : List (Int × Int) → Nat → Int
 | [], _ => -1
 | p :: r, i => if p.1 ≤ d ∧ d < p.2 then (i : Int) else Yu d r (i + 1)
def MB (ps : List (Int × Int)) (d : Int) : Int := Yu d ps 0
theorem aiP (p : Int × Int) (d : Int) : L.call wQ [pD p, .ref [.int .i64 d] 0] = some (.bool (decide (p.1 ≤ d ∧ d < p.2))) := by
 obtain ⟨p1, p2⟩ := p
 unfold pD
 simp only
 refine aO ah9 rfl (ahY ..) ?_
 by_cases h1 : p1 ≤ d
 ·by_cases h2 : d < p2 <;> simp [RH, h1, h2]
 ·simp [RH, h1]
def atR (z : Int) : Ex × List D × Mem := if z = -1 then (.exit 0, [.undef], []) else (.ret, [.int .i64 z], [])
theorem at_loop {d : Int} (all : List (Int × Int)) (hn : all.length ≤ 1000000) : ∀ (l pre : List (Int × Int)), all = pre ++ l →
  L.loop [0, 1, 7, 8] [4] eU 0 [fZ all, .func wQ [.ref [.int .i64 d] 0], .int .i64 all.length, .int .i64 pre.length] [] =
    some (atR (Yu d l pre.length)) := by
 intro l
 induction l with
 | nil =>
   intro pre hal
   rw [List.append_nil] at hal
   subst hal
   simp only [Yu, atR, if_true]
   unfold fZ
   generalize bT all = pc at *
   generalize all.length = n at *
   refine aQ (um ..) ?_
   simp [jI]
 | cons p r ih =>
   intro pre hal
   have hg := pJ (ps := all) (i := pre.length) (p := p) (by rw [hal]; simp)
   have hlt : pre.length < all.length := by rw [hal]; simp
   have h1 := aiP p d
   have hn2 := ih (pre ++ [p]) (by rw [hal]; simp)
   rw [List.length_append, List.length_singleton, show ((pre.length + 1 : Nat) : Int) = (pre.length : Int) + 1 by omega] at hn2
   have e1 : IntKind.i64.wrap ((pre.length : Int) + 1) = (pre.length : Int) + 1 := wrap64 _ (by omega)
   simp only [Yu]
   obtain ⟨p1, p2⟩ := p
   unfold pD at h1
   unfold fZ at *
   simp only at *
   obtain ⟨g1, g2, g3, g4⟩ := hg
   generalize bT all = pc at *
   generalize all.length = n at *
   generalize pre.length = P at *
   generalize Yu d r (P + 1) = z at *
   have hltI : (P : Int) < n := by omega
   have hneg : ¬ (P : Int) = -1 := by omega
   refine aQ (um ..) ?_
   by_cases h : p1 ≤ d ∧ d < p2
   ·rw [decide_eq_true h] at h1
    rw [if_pos h]
    unfold atR
    rw [if_neg hneg]
    simp [jI, hlt, hltI, g1, g2, g3, g4, h1]
   ·rw [decide_eq_false h] at h1
    rw [if_neg h]
    simp [jI, hlt, hltI, g1, g2, g3, g4, h1, e1, hn2]
theorem Uw {ps : List (Int × Int)} (hn : ps.length ≤ 1000000) (d : Int) : L.call yF [fZ ps, .int .i64 d] = some (.int .i64 (MB ps d)) := by
 have hl := at_loop (d := d) ps hn ps [] rfl
 simp only [List.length_nil] at hl
 have hi : L.call fJ [fZ ps, .func wQ [.ref [.int .i64 d] 0]] = some (.int .i64 (MB ps d)) := by
  unfold MB
  unfold fZ at *
  generalize Yu d ps 0 = z at *
  generalize bT ps = pc at *
  generalize ps.length = n at *
  refine aO I9 rfl (I8 ..) ?_
  unfold atR at hl
  by_cases hz : z = -1
  ·rw [if_pos hz] at hl
   subst hz
   simp at hl
   simp [oN, hl]
  ·rw [if_neg hz] at hl
   simp at hl
   simp [oN, hl]
 have hfz : ∀ m, jV (fz 11) (bT ps) m = some (bT ps, m) := fun m => Ue ps 10 m
 generalize MB ps d = z at *
 unfold fZ at *
 generalize bT ps = pc at *
 generalize ps.length = n at *
 refine aO alv rfl (alm ..) ?_
 simp [adN, hfz, hi]
theorem alF {d : Int} : ∀ (l : List (Int × Int)) (i : Nat), (∀ (j : Nat) (p q : Int × Int), l[j]? = some q → l[j + 1]? = some p → p.1 = q.2) → (∀ p, l[0]? = some p → p.1 ≤ d) → (∃ p, l[l.length - 1]? = some p ∧ d < p.2) →
  ∃ (k : Nat) (p : Int × Int), l[k]? = some p ∧ p.1 ≤ d ∧ d < p.2 ∧ Yu d l i = (i : Int) + k
 | [], i, _, _, h => by obtain ⟨p, hp, _⟩ := h; simp at hp
 | p :: r, i, hnx, h0, hl => by
   have hp := h0 p rfl
   by_cases h : d < p.2
   ·exact ⟨0, p, rfl, hp, h, by simp only [Yu]; rw [if_pos ⟨hp, h⟩]; simp⟩
   ·cases r with
    | nil =>
      obtain ⟨x, hx, hd⟩ := hl
      simp at hx
      subst hx
      exact absurd hd h
    | cons q r =>
      obtain ⟨k, x, h1, h2, h3, h4⟩ := alF (d := d) (q :: r) (i + 1) (fun j p q hq hp => hnx (j + 1) p q (by simpa using hq) (by simpa using hp))
       (fun x hx => by
        have hx : q = x := by simpa using hx
        have h5 : q.1 = p.2 := hnx 0 q p rfl rfl
        rw [← hx, h5]; omega) (by
        obtain ⟨x, hx, hd⟩ := hl
        exact ⟨x, by simpa using hx, hd⟩)
      refine ⟨k + 1, x, by simpa using h1, h2, h3, ?_⟩
      simp only [Yu] at h4 ⊢
      rw [if_neg (fun h5 => h h5.2), h4]
      omega
def eF (b : aN) (s : Int) : Int × Int := ((aK b).2[(MB (aK b).2 s).toNat]?).getD (0, 0)
theorem jY {b : aN} {s : Int} (h : (leftB b s).1 = none) : (bn b).1 = none ∧ (aK b).1 = none ∧ b.issue ≤ s ∧ s < b.fO := by
 unfold leftB at h
 split at h
 ·simp at h
 ·rename_i h0
  split at h
  ·simp at h
  ·exact ⟨h0, (lC h0).1, by omega, by omega⟩
theorem G5 {b : aN} {s : Int} (h0 : (aK b).1 = none) (h1 : b.issue ≤ s) (h2 : s < b.fO) : ∃ k : Nat, MB (aK b).2 s = k ∧ (aK b).2[k]? = some (eF b s) ∧ (eF b s).1 ≤ s ∧ s < (eF b s).2 := by
 have hw := (eG h0).2
 obtain ⟨k, p, g1, g2, g3, g4⟩ := alF (d := s) (aK b).2 0 (fun j p q hq hp => (hw.next j p q hq hp).1) (fun p hp => by rw [hw.first p hp]; exact h1) (by
  have hpos : 0 < (aK b).2.length := List.length_pos_iff.2 hw.ne
  have hg := List.getElem?_eq_getElem (l := (aK b).2) (i := (aK b).2.length - 1) (by omega)
  exact ⟨_, hg, by rw [hw.last _ hg]; exact h2⟩)
 have hk : MB (aK b).2 s = k := by unfold MB; rw [g4]; simp
 have hp : eF b s = p := by
  unfold eF
  rw [hk, Int.toNat_natCast, g1]; rfl
 exact ⟨k, hk, by rw [hp]; exact g1, by rw [hp]; exact g2, by rw [hp]; exact g3⟩
def afs (b : aN) (s : Int) : D := match (leftB b s).1 with
 | some e => .aZ [.agg [.int .i64 0, .int .i64 0], jc (some e)]
 | none => .aZ [pD (eF b s), .aF]
theorem Sr {b : aN} (hc : b.d_.length ≤ 1000000) (hr : b.eH.length ≤ 1000000) (s : Int) : L.call tJ [bf b, .int .i64 s] = some (afs b s) := by
 have hl := Ia hc hr s
 have hpl := qw hc hr
 have hbc := fun n => iw b n
 have hbl := mQ b
 have hbd := mP b 0 10
 unfold afs
 unfold xQ AV at hl
 have hfcl := vM (leftB b s).2 0 11
 cases he : (leftB b s).1 with
 | some e =>
   rw [he] at hl
   generalize (leftB b s).2.length = N at *
   generalize dw (leftB b s).2 = fc at *
   unfold bf at *
   generalize aS b = B at *
   have htk : B.take 9 = B := List.take_of_length_le (by omega)
   rcases e with ⟨c, _ | t⟩
   ·simp only [jc] at *
    refine aO LC rfl (Lr ..) ?_
    simp [FW, hl, hbc, hbl, hbd, htk]
   ·simp only [jc, fQ] at *
    refine aO LC rfl (Lr ..) ?_
    simp [FW, hl, hbc, hbl, hbd, htk]
 | none =>
   rw [he] at hl
   obtain ⟨h1, h2, h3, h4⟩ := jY he
   obtain ⟨k, k1, k2, k3, k4⟩ := G5 h2 h3 h4
   have hplen := (eG h2).2.len
   have hat := Uw (ps := (aK b).2) (by omega) s
   rw [k1] at hat
   have hg := pJ k2
   have hklt : k < (aK b).2.length := (List.getElem?_eq_some_iff.1 k2).1
   unfold qp at hpl
   rw [h2] at hpl
   simp only [dK] at hpl
   simp only [jc] at hl
   have hpcl := jC (aK b).2 0 11
   have hpcl' := jC (aK b).2 0 10
   unfold fZ at *
   unfold pD
   generalize eF b s = p at *
   obtain ⟨p1, p2⟩ := p
   simp only at *
   obtain ⟨g1, g2, g3, g4⟩ := hg
   generalize (leftB b s).2.length = N at *
   generalize dw (leftB b s).2 = fc at *
   generalize (aK b).2.length = M at *
   generalize bT (aK b).2 = pc at *
   unfold bf at *
   generalize aS b = B at *
   have htk : B.take 9 = B := List.take_of_length_le (by omega)
   have hkI : (k : Int) < M := by omega
   refine aO LC rfl (Lr ..) ?_
   simp [FW, hl, hbc, hbl, hbd, htk, hpl, hat, hklt, hkI, g1, g2, g3, g4]
def Oz (b : aN) (s : Int) : Bool := decide (0 < b.ex) && decide ((eF b s).2 - b.ex ≤ s)
def exD (b : aN) (s : Int) : D := match (leftB b s).1 with
 | some e => .aZ [.bool false, jc (some e)]
 | none => .aZ [.bool (Oz b s), .aF]
theorem BK {b : aN} {s : Int} (h : (leftB b s).1 = none) : bQ (eF b s).1 ∧ bQ (eF b s).2 ∧ (eF b s).1 < (eF b s).2 ∧ (eF b s).1 ≤ s ∧ s < (eF b s).2 ∧ (eF b s) ∈ (aK b).2 := by
 obtain ⟨h1, h2, h3, h4⟩ := jY h
 obtain ⟨k, k1, k2, k3, k4⟩ := G5 h2 h3 h4
 have hm := List.mem_of_getElem? k2
 have := lJ h2 hm
 exact ⟨this.1, this.2.1, this.2.2, k3, k4, hm⟩
theorem TN {b : aN} (hc : b.d_.length ≤ 1000000) (hr : b.eH.length ≤ 1000000) (s : Int) : L.call Aa [bf b, .int .i64 s] = some (exD b s) := by
 have hp := Sr hc hr s
 unfold afs at hp
 unfold exD
 cases he : (leftB b s).1 with
 | some e =>
   rw [he] at hp
   have hecl := ab3 (some e) 0
   obtain ⟨i, m, fq, c, rd, n, st, en, ex⟩ := b
   unfold bf aS at *
   simp only at *
   rcases e with ⟨c, _ | t⟩
   ·simp only [jc] at *
    refine aO VX rfl (VG ..) ?_
    simp [La, hp]
   ·simp only [jc, fQ] at *
    refine aO VX rfl (VG ..) ?_
    simp [La, hp]
 | none =>
   rw [he] at hp
   obtain ⟨d1, d2, d3, d4, d5, d6⟩ := BK he
   have hex := alM (jw (jY he).2.1)
   unfold Oz
   unfold pD at hp
   generalize eF b s = p at *
   obtain ⟨p1, p2⟩ := p
   simp only at *
   have e1 : IntKind.i64.wrap (p2 - b.ex) = p2 - b.ex := wrap64 _ (by omega)
   obtain ⟨i, m, fq, c, rd, n, st, en, ex⟩ := b
   unfold bf aS at *
   simp only at *
   refine aO VX rfl (VG ..) ?_
   by_cases h1 : 0 < ex
   ·by_cases h2 : p2 - ex ≤ s <;> simp [La, hp, h1, e1, h2]
   ·simp [La, hp, h1]
def KA (b : aN) (p : Int × Int) (x y : Int) : Rat := match fV b p x y with
 | .ok q => q
 | .error _ => 0
def xE (b : aN) (p : Int × Int) : Rat := match Ap b p with
 | .ok q => q
 | .error _ => 0
def y9 (b : aN) (p : Int × Int) (s : Int) : Rat := if b.count = 4 ∧ regular b p = true then xE b p * Rat.divInt (s - p.1) (p.2 - p.1) else En b * KA b p p.1 s
def vF (b : aN) (s : Int) : Rat := if Oz b s = true then y9 b (eF b s) s - xE b (eF b s) else y9 b (eF b s) s
theorem SV {b : aN} {p : Int × Int} {q : Rat} (h : Ap b p = .ok q) : xE b p = q := by unfold xE; rw [h]
theorem Zx {b : aN} {p : Int × Int} {x y : Int} {q : Rat} (h : fV b p x y = .ok q) : KA b p x y = q := by unfold KA; rw [h]
theorem Xe {b : aN} (h : (bn b).1 = none) {p : Int × Int} (hp : p ∈ (aK b).2) : ∃ q, Ap b p = .ok q := by
 obtain ⟨h0, p0, r, q, hps, hq, _⟩ := lC h
 obtain ⟨i, hi⟩ := List.getElem?_of_mem hp
 have hw := (eG h0).2
 cases i with
 | zero =>
   rw [hps] at hi
   have hi : p0 = p := by simpa using hi
   rw [← hi]; exact ⟨q, hq⟩
 | succ i =>
   have hlt : i + 1 < (aK b).2.length := (List.getElem?_eq_some_iff.1 hi).1
   have hg := List.getElem?_eq_getElem (l := (aK b).2) (i := i) (by omega)
   have := (hw.next i p _ hg hi).2
   unfold Ap
   rw [if_pos this]
   exact ⟨_, rfl⟩
theorem acr {b : aN} (h : (bn b).1 = none) {p : Int × Int} (hp : p ∈ (aK b).2) {x y : Int} (h1 : p.1 ≤ x) (h2 : x ≤ y) (h3 : y ≤ p.2) : b.count = 4 ∧ regular b p = true ∨ ∃ q, fV b p x y = .ok q := by
 obtain ⟨q, hq⟩ := Xe h hp
 by_cases hc : b.count = 4
 ·by_cases hr : regular b p = true
  ·exact .inl ⟨hc, hr⟩
  ·right
   unfold Ap at hq
   rw [if_neg hr] at hq
   unfold fV at hq ⊢
   rw [if_pos hc] at hq ⊢
   cases hqs : uQ b p with
   | none => rw [hqs] at hq; simp at hq
   | some l =>
     simp only
     rw [if_neg (by omega)]
     exact ⟨_, rfl⟩
 ·right
  unfold fV
  rw [if_neg hc, if_neg (by omega)]
  exact ⟨_, rfl⟩
theorem afU {b : aN} (h : (bn b).1 = none) (hc : b.d_.length ≤ 1000000) (hr : b.eH.length ≤ 1000000) {p : Int × Int} (hp : p ∈ (aK b).2) {s : Int} (h1 : p.1 ≤ s) (h2 : s ≤ p.2) :
  L.call Bf [bf b, pD p, .int .i64 s] = some (.aZ [bZ (y9 b p s), .aF]) ∧ RB 240000 (y9 b p s) := by
 have h0 := (lC h).1
 have hchk := jw h0
 obtain ⟨d1, d2, d3⟩ := lJ h0 hp
 obtain ⟨q, hq⟩ := Xe h hp
 have hqB := XZ hchk d1 d2 hq (n := 3600) (fun l hl => (vS hchk d2 hl).2)
 have hpay := Kw h0 hc hr d1 d2 d3
 have hreg := qP hc hr p
 have hpart := qE h0 hc hr d1 d2 d3 p.1 s
 have hcp := x9 hc hr
 have e1 : IntKind.i64.wrap (s - p.1) = s - p.1 := wrap64 _ (by omega)
 have e2 : IntKind.i64.wrap (p.2 - p.1) = p.2 - p.1 := wrap64 _ (by omega)
 have hof : L.call h_ [.int .i64 (s - p.1), .int .i64 (p.2 - p.1)] = some (.aZ [bZ (Rat.divInt (s - p.1) (p.2 - p.1)), .aF]) := oL (by omega) (by omega) (by omega)
 have hofB : RB 64 (Rat.divInt (s - p.1) (p.2 - p.1)) := lG (jd (by omega)) (jd (by omega)) (by omega)
 have hpo := acr h hp (Int.le_refl _) h1 h2
 have hbc := fun n => iw b n
 rw [hq] at hpay
 simp only [AX] at hpay
 unfold y9
 rw [SV hq]
 by_cases hcr : b.count = 4 ∧ regular b p = true
 ·rw [if_pos hcr]
  have hmul := wW hqB hofB (by omega)
  refine ⟨?_, (hqB.mul hofB).mono (by omega)⟩
  obtain ⟨hc4, hrg⟩ := hcr
  rw [hrg] at hreg
  obtain ⟨p1, p2⟩ := p
  unfold pD at *
  simp only at *
  generalize q * Rat.divInt (s - p1) (p2 - p1) = v at *
  generalize Rat.divInt (s - p1) (p2 - p1) = w at *
  obtain ⟨i, m, fq, c, rd, n, st, en, ex⟩ := b
  unfold bf aS at *
  simp only at *
  subst hc4
  refine aO Yl rfl (Yi ..) ?_
  simp [KG, hreg, hpay, e1, e2, hof, hmul]
 ·rw [if_neg hcr]
  obtain ⟨v, hv⟩ := hpo.resolve_left hcr
  have hvB := zB hchk d1 d2 hv (n := 3600) (fun l hl => (vS hchk d2 hl).2)
  have hmul := wW (KL b) hvB (by omega)
  rw [Zx hv]
  refine ⟨?_, ((KL b).mul hvB).mono (by omega)⟩
  rw [hv] at hpart
  simp only [AX] at hpart
  generalize En b * v = w at *
  generalize En b = cq at *
  generalize regular b p = rg at *
  obtain ⟨p1, p2⟩ := p
  unfold pD at *
  simp only at *
  obtain ⟨i, m, fq, c, rd, n, st, en, ex⟩ := b
  unfold bf aS at *
  simp only at *
  refine aO Yl rfl (Yi ..) ?_
  by_cases hn : n = 4
  ·have hrg : rg = false := by
    cases rg with
    | false => rfl
    | true => exact absurd ⟨hn, rfl⟩ hcr
   subst hrg
   subst hn
   simp [KG, hreg, hpart, hcp, hmul]
  ·simp [KG, hn, hpart, hcp, hmul]
def anl (b : aN) (s : Int) : D := match (leftB b s).1 with
 | some e => .aZ [.aV, jc (some e)]
 | none => .aZ [bZ (vF b s), .aF]
theorem aj8 {b : aN} (hc : b.d_.length ≤ 1000000) (hr : b.eH.length ≤ 1000000) (s : Int) : L.call xY [bf b, .int .i64 s] = some (anl b s) ∧ ((leftB b s).1 = none → RB 480000 (vF b s)) := by
 have hp := Sr hc hr s
 have hx := TN hc hr s
 unfold afs at hp
 unfold anl
 unfold exD at hx
 cases he : (leftB b s).1 with
 | some e =>
   refine ⟨?_, fun h => by simp at h⟩
   rw [he] at hp
   obtain ⟨i, m, fq, c, rd, n, st, en, ex⟩ := b
   unfold bf aS at *
   simp only at *
   rcases e with ⟨c, _ | t⟩
   ·simp only [jc] at *
    refine aO VY rfl (VH ..) ?_
    simp [Lc, hp]
   ·simp only [jc, fQ] at *
    refine aO VY rfl (VH ..) ?_
    simp [Lc, hp]
 | none =>
   rw [he] at hp hx
   obtain ⟨d1, d2, d3, d4, d5, d6⟩ := BK he
   obtain ⟨f0, h0, _, _⟩ := jY he
   have hchk := jw h0
   obtain ⟨hg, hgB⟩ := afU f0 hc hr d6 d4 (by omega)
   obtain ⟨q, hq⟩ := Xe f0 d6
   have hqB := XZ hchk d1 d2 hq (n := 3600) (fun l hl => (vS hchk d2 hl).2)
   have hpay := Kw h0 hc hr d1 d2 d3
   rw [hq] at hpay
   simp only [AX] at hpay
   have hsub := DV hgB hqB (by omega)
   unfold vF
   rw [SV hq]
   constructor
   ·generalize y9 b (eF b s) s - q = v at *
    generalize y9 b (eF b s) s = g at *
    unfold pD at *
    generalize eF b s = p at *
    generalize Oz b s = xb at *
    obtain ⟨p1, p2⟩ := p
    simp only at *
    obtain ⟨i, m, fq, c, rd, n, st, en, ex⟩ := b
    unfold bf aS at *
    simp only at *
    refine aO VY rfl (VH ..) ?_
    cases xb with
    | true => simp [Lc, hp, hg, hx, hpay, hsub]
    | false => simp [Lc, hp, hg, hx]
   ·intro _
    split
    ·exact (hgB.sub hqB).mono (by omega)
    ·exact hgB.mono (by omega)
end Go.Ev.Code
end
section
namespace Go.Ev.Code
open Go Go.Ev
theorem ahm {b : aN} (hchk : chk b = none) {k a : Nat} (hk : k < cO b) (ha : anch b k = some a) : quasi b a = anch b (k + 1) := by
 have hm := (dM hchk).2.1
 obtain ⟨g1, g2, g3⟩ := OE hm
 have hpl := aaR hm ha (fun i hi => by
  obtain ⟨d, hd, _⟩ := g1 i (by omega)
  rw [hd]; rfl) (by omega)
 obtain ⟨d, hd, hdi⟩ := g1 k hk
 rw [ha] at hd
 simp at hd
 subst hd
 unfold quasi
 rw [hpl]
 simp only
 rw [if_neg (by omega)]
theorem adA {b : aN} (hchk : chk b = none) {k a : Nat} (hk : k < cO b) (ha : anch b k = some a) {st : Int} (h1 : st < (a : Int)) (h2 : ∀ c, anch b (k + 1) = some c → (c : Int) ≤ st) {f : Nat} (hf : ((a : Int) - st).toNat ≤ f) :
  jo b st f a = (anch b (k + 1)).map fun c => [((c : Int), (a : Int))] := by
 obtain ⟨g, rfl⟩ : ∃ g, f = g + 1 := ⟨f - 1, by omega⟩
 simp only [jo]
 rw [if_neg (by omega), ahm hchk hk ha]
 cases hc : anch b (k + 1) with
 | none => rfl
 | some c =>
   have := h2 c hc
   simp only [Option.map_some]
   cases g with
   | zero => simp [jo]
   | succ g => simp only [jo]; rw [if_pos this]; rfl
theorem ac0 {b : aN} (hchk : chk b = none) {c : Nat} (h : anch b (cO b) = some c) : (c : Int) ≤ b.issue := by
 obtain ⟨g1, g2, g3⟩ := OE (dM hchk).2.1
 rcases Int.lt_or_le b.issue c with h1 | h1
 ·exact absurd ⟨c, h, h1⟩ g2
 ·exact h1
theorem aaX {b : aN} (hchk : chk b = none) {a : Nat} (ha : anch b (cO b - 1) = some a) : uQ b (b.issue, (a : Int)) = (anch b (cO b)).map fun c => [((c : Int), (a : Int))] := by
 have kp := Js hchk
 obtain ⟨x, hx, hxi, _⟩ := m_ hchk (k := cO b - 1) (by omega)
 rw [ha] at hx
 simp at hx
 subst hx
 unfold uQ
 have h := adA hchk (k := cO b - 1) (by omega) ha (st := b.issue) hxi (fun c hc => by rw [show cO b - 1 + 1 = cO b by omega] at hc; exact ac0 hchk hc) (f := ((a : Int) - b.issue).toNat) (Nat.le_refl _)
 rw [show cO b - 1 + 1 = cO b by omega] at h
 exact h
theorem adB {b : aN} (hchk : chk b = none) {a c : Nat} (hk : 2 ≤ cO b) (ha : anch b (cO b - 2) = some a) (hc : anch b (cO b - 1) = some c) :
  uQ b (b.issue, (a : Int)) = (anch b (cO b)).map fun d => [((c : Int), (a : Int)), ((d : Int), (c : Int))] := by
 obtain ⟨x, hx, hxi, hn⟩ := m_ hchk (k := cO b - 2) (by omega)
 rw [ha] at hx
 simp at hx
 subst hx
 obtain ⟨z, hz, hza⟩ := hn (by omega)
 rw [show cO b - 2 + 1 = cO b - 1 by omega, hc] at hz
 simp at hz
 subst hz
 obtain ⟨x, hx, hci, _⟩ := m_ hchk (k := cO b - 1) (by omega)
 rw [hc] at hx
 simp at hx
 subst hx
 unfold uQ
 simp only
 obtain ⟨f, hf⟩ : ∃ f, ((a : Int) - b.issue).toNat = f + 1 := ⟨((a : Int) - b.issue).toNat - 1, by omega⟩
 rw [hf]
 simp only [jo]
 rw [if_neg (by omega), ahm hchk (k := cO b - 2) (by omega) ha, show cO b - 2 + 1 = cO b - 1 by omega, hc]
 simp only
 have h := adA hchk (k := cO b - 1) (by omega) hc (st := b.issue) hci (fun d hd => by rw [show cO b - 1 + 1 = cO b by omega] at hd; exact ac0 hchk hd) (f := f) (by omega)
 rw [show cO b - 1 + 1 = cO b by omega] at h
 rw [h]
 cases anch b (cO b) <;> rfl
theorem ahk {b : aN} (hchk : chk b = none) {p : Int × Int} (hlt : p.1 < p.2) (hreg : regular b p = true) : uQ b p = some [p] := by
 unfold regular at hreg
 rw [hchk] at hreg
 simp only at hreg
 obtain ⟨f, hfu⟩ : ∃ f, (p.2 - p.1).toNat = f + 1 := ⟨(p.2 - p.1).toNat - 1, by omega⟩
 unfold uQ
 rw [hfu]
 simp only [jo]
 rw [if_neg (by omega)]
 cases hqe : quasi b p.2 with
 | none => rw [hqe] at hreg; simp at hreg
 | some x =>
   rw [hqe] at hreg
   simp at hreg
   simp only [hreg]
   cases f with
   | zero => simp [jo]
   | succ f => simp [jo]
theorem ZB {b : aN} (h : (aK b).1 = none) {p : Int × Int} (hp : p ∈ (aK b).2) {l : List (Int × Int)} (hl : uQ b p = some l) : l.length ≤ 2 := by
 have hw := eG h
 have hchk := hw.1
 have hd := lJ h hp
 obtain ⟨i, hi⟩ := List.getElem?_of_mem hp
 have kp := Js hchk
 have hraw0 : ∀ {q : Int × Int}, (iq b)[0]? = some q → ∀ {l}, uQ b q = some l → l.length ≤ 2 := by
  intro q hq l hl
  rw [yH (by omega)] at hq
  simp at hq
  obtain ⟨a, ha, _⟩ := m_ hchk (k := cO b - 1) (by omega)
  rw [ha] at hq
  simp at hq
  subst hq
  rw [aaX hchk ha] at hl
  cases hk : anch b (cO b) with
  | none => rw [hk] at hl; simp at hl
  | some c => rw [hk] at hl; simp at hl; subst hl; simp
 cases i with
 | succ i =>
   have hlt : i + 1 < (aK b).2.length := (List.getElem?_eq_some_iff.1 hi).1
   have hg := List.getElem?_eq_getElem (l := (aK b).2) (i := i) (by omega)
   have hr := (hw.2.next i p _ hg hi).2
   rw [ahk hchk hd.2.2 hr] at hl
   simp at hl; subst hl; simp
 | zero =>
   unfold aK at hi
   rw [hchk] at hi
   simp only at hi
   split at hi
   ·exact hraw0 hi hl
   ·split at hi
    ·simp at hi
    ·split at hi
     ·split at hi
      ·rename_i x q r hx
       simp at hi
       subst hi
       have hk2 : 2 ≤ cO b := by have := xH b; rw [hx] at this; simp at this; omega
       obtain ⟨a, ha, _⟩ := m_ hchk (k := cO b - 2) (by omega)
       obtain ⟨c, hc, _⟩ := m_ hchk (k := cO b - 1) (by omega)
       have hq := yH (b := b) (i := 1) (by omega)
       rw [hx] at hq
       simp [show cO b - 1 - 1 = cO b - 2 by omega, ha] at hq
       rw [hq] at hl
       simp only at hl
       rw [adB hchk hk2 ha hc] at hl
       cases hk : anch b (cO b) with
       | none => rw [hk] at hl; simp at hl
       | some d => rw [hk] at hl; simp at hl; subst hl; simp
      ·exact hraw0 hi hl
     ·exact hraw0 hi hl
theorem SY {b : aN} (h : (aK b).1 = none) : ∀ (d i : Nat) {p q : Int × Int}, (aK b).2[i]? = some p → (aK b).2[i + d + 1]? = some q → p.2 ≤ q.1
 | 0, i, p, q, hp, hq => by
   have := ((eG h).2.next i q p hp hq).1
   omega
 | d + 1, i, p, q, hp, hq => by
   have hlt : i + (d + 1) + 1 < (aK b).2.length := (List.getElem?_eq_some_iff.1 hq).1
   have hg := List.getElem?_eq_getElem (l := (aK b).2) (i := i + d + 1) (by omega)
   have h1 := SY h d i hp hg
   have h2 := (eG h).2.ord _ _ hg
   have h3 := ((eG h).2.next (i + d + 1) q _ hg hq).1
   omega
theorem acu {b : aN} {s : Int} (h : (aK b).1 = none) {p : Int × Int} (hp : p ∈ (aK b).2) (h1 : p.1 ≤ s) (h2 : s < p.2) : eF b s = p ∧ b.issue ≤ s ∧ s < b.fO := by
 obtain ⟨i, hi⟩ := List.getElem?_of_mem hp
 have hw := (eG h).2
 have hil : i < (aK b).2.length := (List.getElem?_eq_some_iff.1 hi).1
 have hb : b.issue ≤ s ∧ s < b.fO := by
  constructor
  ·cases i with
   | zero => rw [← hw.first p hi]; exact h1
   | succ i =>
     have h0 := List.getElem?_eq_getElem (l := (aK b).2) (i := 0) (by omega)
     have := SY h i 0 h0 (by rw [Nat.zero_add]; exact hi)
     have h3 := hw.ord _ _ h0
     have h4 := hw.first _ h0
     omega
  ·have hg := List.getElem?_eq_getElem (l := (aK b).2) (i := (aK b).2.length - 1) (by omega)
   have hl := hw.last _ hg
   rcases Nat.lt_or_ge i ((aK b).2.length - 1) with h3 | h3
   ·have := SY h ((aK b).2.length - 1 - i - 1) i hi (by rw [show i + ((aK b).2.length - 1 - i - 1) + 1 = (aK b).2.length - 1 by omega]; exact hg)
    have h5 := hw.ord _ _ hg
    omega
   ·have : i = (aK b).2.length - 1 := by omega
    rw [this] at hi
    rw [← hl]
    rw [hi] at hg
    rw [← Option.some.inj hg]; exact h2
 obtain ⟨k, k1, k2, k3, k4⟩ := G5 h hb.1 hb.2
 refine ⟨?_, hb⟩
 rcases Nat.lt_trichotomy i k with h3 | h3 | h3
 ·have := SY h (k - i - 1) i hi (by rw [show i + (k - i - 1) + 1 = k by omega]; exact k2)
  omega
 ·rw [h3, k2] at hi
  exact Option.some.inj hi
 ·have := SY h (i - k - 1) k k2 (by rw [show k + (i - k - 1) + 1 = i by omega]; exact hi)
  omega
end Go.Ev.Code
end
section
namespace Go.Ev.Code
open Go Go.Ev
structure Made (b : aN) (M : Nat) : Prop where
 i1 : 3000 ≤ b.issue
 i2 : b.issue ≤ 92999
 hm : ∃ A : Nat, xk b.issue M false = some A ∧ b.fO = A
 M1 : 6 ≤ M
 M2 : M ≤ 120
 fr : D9 b.dQ
 sums : I5 b = none
 ct : 1 ≤ b.count ∧ b.count ≤ 4
 st : 1 ≤ b.stub ∧ b.stub ≤ 2
 ex : 0 ≤ b.ex ∧ b.ex ≤ 30
theorem aqd : 22890 ≤ mi 3000 := by decide +kernel
theorem Uj : mi 92999 ≤ 25900 := by decide +kernel
theorem Made.aaE {b : aN} {M : Nat} (h : Made b M) : bQ b.issue := ⟨by have := h.i1; omega, by have := h.i2; omega⟩
theorem Made.mi1 {b : aN} {M : Nat} (h : Made b M) : 22890 ≤ mi b.issue ∧ mi b.issue ≤ 25900 := by
 have h1 := NC h.aaE (b := 92999) (by decide) h.i2
 have h2 := NC (a := 3000) (by decide) h.aaE h.i1
 have := aqd
 have := Uj
 omega
theorem Made.miM {b : aN} {M : Nat} (h : Made b M) : mi b.fO = mi b.issue + M ∧ bQ b.fO := by
 obtain ⟨A, h1, h2⟩ := h.hm
 rw [h2]
 have := Nw h1
 exact ⟨by omega, TP h1⟩
theorem Made.lt {b : aN} {M : Nat} (h : Made b M) : b.issue < b.fO := by
 obtain ⟨h1, h2⟩ := h.miM
 exact agi h.aaE h2 (by have := h.M1; omega)
theorem Made.mo {b : aN} {M : Nat} (h : Made b M) : months b = 1 ∨ months b = 3 ∨ months b = 6 ∨ months b = 12 := by
 unfold months
 rcases h.fr with h3 | h3 | h3 | h3 <;> rw [h3] <;> decide
theorem Made.LJ {b : aN} {M : Nat} (h : Made b M) : chk b = none := by
 obtain ⟨h1, h2⟩ := h.miM
 have hM := h.M2
 have hd : MI b = none := by
  unfold MI
  rw [if_neg (by have := h.aaE; simpa using this), if_neg (by simpa using h2), if_neg (by have := h.lt; omega)]
  split
  ·rename_i e he
   have h3 := Nw he
   have h4 := agi h2 (TP he) (by omega)
   rw [if_neg (by omega)]
  ·rfl
 have hmo := h.mo
 have hp : acs b ≤ 200 := by
  unfold acs
  rw [apx, Int.tdiv_eq_ediv_of_nonneg (by omega)]
  have e : (mi b.fO : Int) - mi b.issue = M := by omega
  rw [e]
  rcases hmo with h | h | h | h <;> rw [h] <;> omega
 unfold chk
 rw [hd, h.sums]
 simp only
 rw [if_neg (by omega), if_neg (by have := h.ct; omega), if_neg (by have := h.st; omega), if_neg (by have := h.ex; omega), if_neg (by omega)]
theorem Made.plan {b : aN} {M : Nat} (h : Made b M) : (aK b).1 = none := by
 unfold aK
 rw [h.LJ]
 simp only
 split
 ·rfl
 ·rw [if_neg (by have := h.st; omega)]
  split
  ·split <;> rfl
  ·rfl
theorem Made.ase {b : aN} {M : Nat} (h : Made b M) : ∃ c, anch b (cO b) = some c := by
 have kp := Js h.LJ
 obtain ⟨a, ha, hai, _⟩ := m_ h.LJ (k := cO b - 1) (by omega)
 have hb := h.mi1
 obtain ⟨h1, h2⟩ := h.miM
 have hM := h.M2
 have hmo := h.mo
 have had := TR ha
 have hge := NC h.aaE had (by omega)
 unfold anch at ha ⊢
 have hma := Nw ha
 obtain ⟨k, hk⟩ : ∃ k, cO b = k + 1 := ⟨cO b - 1, by omega⟩
 rw [hk] at hma ⊢
 rw [Nat.add_sub_cancel] at hma
 have e1 : -((k + 1 : Nat) : Int) * months b = -(k : Int) * months b - months b := by
  rw [Int.natCast_add, Int.neg_mul, Int.neg_mul, Int.add_mul]; simp; omega
 rw [e1]
 generalize -(k : Int) * months b = z at *
 have hz : z ≤ 0 ∨ 0 < z := by omega
 refine Qh b.ends h2 (by omega) ?_
 have hmb := QJ had
 omega
theorem Made.flow {b : aN} {M : Nat} (h : Made b M) : (bn b).1 = none := by
 have h0 := h.plan
 have hchk := h.LJ
 unfold bn
 rw [h0]
 simp only
 have hw := (eG h0).2
 cases hps : (aK b).2 with
 | nil => exact absurd hps hw.ne
 | cons p r =>
   simp only
   have hmem : p ∈ (aK b).2 := by rw [hps]; simp
   obtain ⟨d1, d2, d3⟩ := lJ h0 hmem
   have hq : ∃ l, uQ b p = some l := by
    obtain ⟨c, hc⟩ := h.ase
    have hraw0 : ∀ {q : Int × Int}, (iq b)[0]? = some q → ∃ l, uQ b q = some l := by
     intro q hq
     have kp := Js hchk
     rw [yH (by omega)] at hq
     simp at hq
     obtain ⟨a, ha, _⟩ := m_ hchk (k := cO b - 1) (by omega)
     rw [ha] at hq
     simp at hq
     subst hq
     rw [aaX hchk ha, hc]
     exact ⟨_, rfl⟩
    have hi : (aK b).2[0]? = some p := by rw [hps]; rfl
    unfold aK at hi
    rw [hchk] at hi
    simp only at hi
    split at hi
    ·exact hraw0 hi
    ·split at hi
     ·simp at hi
     ·split at hi
      ·split at hi
       ·rename_i x q r hx
        simp at hi
        subst hi
        have hk2 : 2 ≤ cO b := by have := xH b; rw [hx] at this; simp at this; omega
        obtain ⟨a, ha, _⟩ := m_ hchk (k := cO b - 2) (by omega)
        obtain ⟨e, he, _⟩ := m_ hchk (k := cO b - 1) (by omega)
        have hq := yH (b := b) (i := 1) (by omega)
        rw [hx] at hq
        simp [show cO b - 1 - 1 = cO b - 2 by omega, ha] at hq
        rw [hq]
        simp only
        rw [adB hchk hk2 ha he, hc]
        exact ⟨_, rfl⟩
       ·exact hraw0 hi
      ·exact hraw0 hi
   obtain ⟨l, hl⟩ := hq
   have hv : ∃ v, fV b p p.1 p.2 = .ok v := by
    unfold fV
    by_cases hc : b.count = 4
    ·rw [if_pos hc, hl]
     simp only
     rw [if_neg (by omega)]
     exact ⟨_, rfl⟩
    ·rw [if_neg hc, if_neg (by omega)]
     exact ⟨_, rfl⟩
   have : ∃ q, Ap b p = .ok q := by
    obtain ⟨v, hv⟩ := hv
    unfold Ap
    rw [hv]
    split
    ·exact ⟨_, rfl⟩
    ·exact ⟨_, rfl⟩
   obtain ⟨q, hq⟩ := this
   rw [hq]
theorem MX {b : aN} (h : (bn b).1 = none) {s : Int} (h1 : b.issue ≤ s) (h2 : s < b.fO) : (leftB b s).1 = none := by
 unfold leftB
 rw [h]
 simp only
 rw [if_neg (by omega)]
end Go.Ev.Code
end
section
namespace Go.Ev.Code
open Go Go.Ev
theorem Jw {b : aN} (h : (bn b).1 = none) {p : Int × Int} (hp : p ∈ (aK b).2) : RB 600 (xE b p) := by
 have h0 := (lC h).1
 have hchk := jw h0
 obtain ⟨d1, d2, d3⟩ := lJ h0 hp
 obtain ⟨q, hq⟩ := Xe h hp
 rw [SV hq]
 exact (XZ hchk d1 d2 hq (n := 2) (fun l hl => ZB h0 hp hl)).mono (by omega)
theorem an9 {b : aN} (h : (bn b).1 = none) {p : Int × Int} (hp : p ∈ (aK b).2) {s : Int} (h1 : p.1 ≤ s) (h2 : s ≤ p.2) : RB 700 (y9 b p s) := by
 have h0 := (lC h).1
 have hchk := jw h0
 obtain ⟨d1, d2, d3⟩ := lJ h0 hp
 have hofB : RB 64 (Rat.divInt (s - p.1) (p.2 - p.1)) := lG (jd (by omega)) (jd (by omega)) (by omega)
 unfold y9
 by_cases hcr : b.count = 4 ∧ regular b p = true
 ·rw [if_pos hcr]
  exact ((Jw h hp).mul hofB).mono (by omega)
 ·rw [if_neg hcr]
  obtain ⟨v, hv⟩ := (acr h hp (Int.le_refl _) h1 h2).resolve_left hcr
  rw [Zx hv]
  have := zB hchk d1 d2 hv (n := 2) (fun l hl => ZB h0 hp hl)
  exact ((KL b).mul this).mono (by omega)
theorem abR {b : aN} {s : Int} (h : (leftB b s).1 = none) : RB 1400 (vF b s) := by
 obtain ⟨f0, h0, _, _⟩ := jY h
 obtain ⟨d1, d2, d3, d4, d5, d6⟩ := BK h
 have hg := an9 f0 d6 d4 (by omega : s ≤ (eF b s).2)
 have hp := Jw f0 d6
 obtain ⟨j, hj⟩ : ∃ j : Nat, j = 700 := ⟨_, rfl⟩
 obtain ⟨k, hk⟩ : ∃ k : Nat, k = 600 := ⟨_, rfl⟩
 rw [← hj] at hg
 rw [← hk] at hp
 unfold vF
 split
 ·exact (hg.sub hp).mono (by omega)
 ·exact hg.mono (by omega)
theorem Ud {b : aN} (h : (bn b).1 = none) (hc : b.d_.length ≤ 1000000) (hr : b.eH.length ≤ 1000000) {p : Int × Int} (hp : p ∈ (aK b).2) : L.call nX [bf b, pD p] = some (.aZ [bZ (xE b p), .aF]) := by
 have h0 := (lC h).1
 obtain ⟨d1, d2, d3⟩ := lJ h0 hp
 obtain ⟨q, hq⟩ := Xe h hp
 have := Kw h0 hc hr d1 d2 d3
 rw [hq] at this
 rw [SV hq]
 exact this
theorem Wh {b : aN} {s : Int} (h : (leftB b s).1 = none) (hc : b.d_.length ≤ 1000000) (hr : b.eH.length ≤ 1000000) : L.call xY [bf b, .int .i64 s] = some (.aZ [bZ (vF b s), .aF]) := by
 have := (aj8 hc hr s).1
 unfold anl at this
 rw [h] at this
 exact this
theorem apt {b : aN} (h : (aK b).1 = none) {p : Int × Int} (hp : p ∈ (aK b).2) {s : Int} (h1 : p.1 ≤ s) (h2 : s < p.2) (hx : b.ex = 0) : vF b s = y9 b p s := by
 unfold vF Oz
 rw [hx, (acu h hp h1 h2).1]
 simp
end Go.Ev.Code
end
section
namespace Go.Ev.Code
open Go Go.Ev
theorem agl {α : Type} {f : α → Bool} : ∀ (k : Nat) (l : List α), (∀ j x, j < k → l[j]? = some x → f x = true) → (∃ x, l[k]? = some x ∧ f x = false) → l.dropWhile f = l.drop k
 | 0, [], _, h => by obtain ⟨x, hx, _⟩ := h; simp at hx
 | 0, y :: ys, _, h => by
   obtain ⟨x, hx, hf⟩ := h
   simp at hx
   subst hx
   simp [List.dropWhile, hf]
 | k + 1, [], _, h => by obtain ⟨x, hx, _⟩ := h; simp at hx
 | k + 1, y :: ys, h1, h2 => by
   have hy := h1 0 y (by omega) rfl
   simp only [List.dropWhile, hy, List.drop_succ_cons]
   exact agl k ys (fun j x hj hx => h1 (j + 1) x (by omega) (by simpa using hx)) (by
    obtain ⟨x, hx, hf⟩ := h2
    exact ⟨x, by simpa using hx, hf⟩)
theorem WE {b : aN} {s : Int} (h : (leftB b s).1 = none) : ∃ k : Nat, MB (aK b).2 s = k ∧ (aK b).2[k]? = some (eF b s) ∧ k < (aK b).2.length ∧ ((bn b).2.dropWhile fun p => decide (p.1 ≤ s)) = (bn b).2.drop k ∧
  (bn b).2.length = (aK b).2.length ∧ ∃ a, (bn b).2[k]? = some ((eF b s).2, a) := by
 obtain ⟨f0, h0, h3, h4⟩ := jY h
 obtain ⟨k, k1, k2, k3, k4⟩ := G5 h0 h3 h4
 obtain ⟨_, p, r, q, hps, hq, hfl⟩ := lC f0
 have hget : ∀ {i : Nat} {x : Int × Int}, (aK b).2[i]? = some x → ∃ a, (bn b).2[i]? = some (x.2, a) := by
  intro i x hx
  rw [hps] at hx
  rw [hfl]
  exact WB _ _ _ hx
 have hlen : (bn b).2.length = (aK b).2.length := by rw [hfl, hps, KQ]
 have hkl : k < (aK b).2.length := (List.getElem?_eq_some_iff.1 k2).1
 refine ⟨k, k1, k2, hkl, ?_, hlen, hget k2⟩
 refine agl k _ (fun j x hj hx => ?_) ?_
 ·have hg := List.getElem?_eq_getElem (l := (aK b).2) (i := j) (by omega)
  obtain ⟨a, ha⟩ := hget hg
  rw [hx] at ha
  have := SY h0 (k - j - 1) j hg (by rw [show j + (k - j - 1) + 1 = k by omega]; exact k2)
  rw [Option.some.inj ha]
  simp only [decide_eq_true_eq]
  omega
 ·obtain ⟨a, ha⟩ := hget k2
  exact ⟨_, ha, by simp only [decide_eq_false_iff_not]; omega⟩
abbrev jP (b : aN) (e : Int) : aN := { b with ex := e }
theorem ai8 (b : aN) (e : Int) (k : Nat) : anch (jP b e) k = anch b k := rfl
theorem agx (b : aN) (e : Int) : ∀ f k, MW (jP b e) f k = MW b f k
 | 0, k => rfl
 | f + 1, k => by
   have h : aay (jP b e) k = aay b k := rfl
   simp only [MW, h, agx b e f]
theorem ami (b : aN) (e : Int) : cO (jP b e) = cO b := agx b e 3601 0
theorem arM (b : aN) (e : Int) : iq (jP b e) = iq b := by
 have h : ∀ k, kS (jP b e) k = kS b k := fun k => rfl
 unfold iq
 rw [ami, h]
theorem arx (b : aN) (e : Int) : Uf (jP b e) = Uf b := by unfold Uf; rw [ami, ai8]
theorem ahd {b : aN} {e : Int} (h1 : chk b = none) (h2 : chk (jP b e) = none) : aK (jP b e) = aK b := by
 unfold aK
 rw [h1, h2]
 simp only
 rw [arx, arM]
theorem ady (b : aN) (e d : Int) : ∀ f k, wP (jP b e) d f k = wP b d f k
 | 0, k => rfl
 | f + 1, k => by simp only [wP, ai8, ady b e d f]
theorem ahl (b : aN) (e d : Int) : quasi (jP b e) d = quasi b d := by
 have h : Iy (jP b e) d = Iy b d := ady b e d 3602 0
 unfold quasi
 rw [h]
 rfl
theorem ahj (b : aN) (e st : Int) : ∀ f d, jo (jP b e) st f d = jo b st f d
 | 0, d => rfl
 | f + 1, d => by simp only [jo, ahl, ahj b e st f]
theorem aqk (b : aN) (e : Int) (p : Int × Int) : uQ (jP b e) p = uQ b p := ahj b e _ _ _
theorem aa2 {b : aN} {e : Int} (h1 : chk b = none) (h2 : chk (jP b e) = none) (p : Int × Int) : regular (jP b e) p = regular b p := by
 unfold regular
 rw [h1, h2, ahl]
theorem ag_ (b : aN) (e : Int) (p : Int × Int) (x y : Int) : fV (jP b e) p x y = fV b p x y := by
 unfold fV
 rw [aqk]
theorem agc {b : aN} {e : Int} (h1 : chk b = none) (h2 : chk (jP b e) = none) : En (jP b e) = En b := by unfold En; rw [h1, h2]
theorem arN {b : aN} {e : Int} (h1 : chk b = none) (h2 : chk (jP b e) = none) : iU (jP b e) = iU b := by unfold iU; rw [h1, h2]
theorem aju {b : aN} {e : Int} (h1 : chk b = none) (h2 : chk (jP b e) = none) (p : Int × Int) : Ap (jP b e) p = Ap b p := by
 unfold Ap gJ
 rw [aa2 h1 h2, ag_, agc h1 h2]
theorem OA {b : aN} {e : Int} (h1 : chk b = none) (h2 : chk (jP b e) = none) : bn (jP b e) = bn b := by
 unfold bn gJ
 rw [ahd h1 h2, arN h1 h2, agc h1 h2]
 cases (aK b).1 with
 | some _ => rfl
 | none =>
   cases (aK b).2 with
   | nil => rfl
   | cons p r => simp only; rw [aju h1 h2]
theorem an_ {b : aN} {e : Int} (h1 : chk b = none) (h2 : chk (jP b e) = none) (p : Int × Int) (s : Int) : y9 (jP b e) p s = y9 b p s := by
 unfold y9 xE KA
 rw [aa2 h1 h2, aju h1 h2, ag_, agc h1 h2]
theorem aqj {b : aN} {e : Int} (h1 : chk b = none) (h2 : chk (jP b e) = none) (s : Int) : eF (jP b e) s = eF b s := by
 unfold eF
 rw [ahd h1 h2]
theorem aru {b : aN} {s : Int} (hx : 0 < b.ex) (h1 : chk b = none) (h2 : chk (jP b 0) = none) (h : (leftB b s).1 = none) :
  (leftB (jP b 0) s).1 = none ∧ Oz b s = decide ((eF b s).2 - b.ex ≤ s) ∧
  (Oz b s = false → (leftB b s).2.length = (leftB (jP b 0) s).2.length ∧ vF b s = vF (jP b 0) s) ∧
  (Oz b s = true → ((leftB b s).2.length + 1 = (leftB (jP b 0) s).2.length ∨ (leftB (jP b 0) s).2.length = 1) ∧ vF (jP b 0) s - vF b s = xE b (eF b s)) := by
 obtain ⟨f0, h0, h3, h4⟩ := jY h
 have hl0 : (leftB (jP b 0) s).1 = none := MX (by rw [OA h1 h2]; exact f0) h3 h4
 have hex : Oz b s = decide ((eF b s).2 - b.ex ≤ s) := by unfold Oz; rw [decide_eq_true hx, Bool.true_and]
 obtain ⟨k, k1, k2, k3, k4, k5, a, ha⟩ := WE h
 have e1 : (leftB b s).2 = QH b s ((bn b).2.drop k) := by
  unfold leftB
  rw [f0]
  simp only
  rw [if_neg (by omega), k4]
 have e2 : (leftB (jP b 0) s).2 = (bn b).2.drop k := by
  unfold leftB
  rw [OA h1 h2, f0]
  simp only
  rw [if_neg (by omega), k4]
  unfold QH
  rw [if_neg (show ¬ (0 : Int) < 0 by decide)]
 have hd : (bn b).2.drop k = ((eF b s).2, a) :: (bn b).2.drop (k + 1) := by
  rw [List.drop_eq_getElem_cons (by omega)]
  congr 1
  have := List.getElem?_eq_getElem (l := (bn b).2) (i := k) (by omega)
  rw [this] at ha
  exact Option.some.inj ha
 have a0 : vF (jP b 0) s = y9 b (eF b s) s := by
  unfold vF Oz
  rw [aqj h1 h2, an_ h1 h2]
  simp
 refine ⟨hl0, hex, fun hx0 => ?_, fun hx1 => ?_⟩
 ·rw [hex] at hx0
  have hn : ¬ (eF b s).2 - b.ex ≤ s := by simpa using hx0
  constructor
  ·rw [e1, e2, hd]
   unfold QH
   rw [if_pos hx]
   cases (bn b).2.drop (k + 1) with
   | nil => simp only; rw [if_neg hn]
   | cons y ys => simp only; rw [if_neg hn]
  ·rw [a0]
   unfold vF
   rw [hex, hx0]
   simp
 ·have hx1' := hx1
  rw [hex] at hx1
  have hn : (eF b s).2 - b.ex ≤ s := by simpa using hx1
  constructor
  ·rw [e1, e2, hd]
   unfold QH
   rw [if_pos hx]
   cases (bn b).2.drop (k + 1) with
   | nil => right; rfl
   | cons y ys => left; simp only; rw [if_pos hn]; rfl
  ·rw [a0]
   unfold vF
   rw [hx1', if_pos rfl]
   grind
end Go.Ev.Code
end
section
namespace Go.Ev.Code
open Go Go.Ev
theorem alY (y z m : Nat) (h1 : 1 ≤ m) (h2 : m ≤ 12) : dD y (m - 1) ≤ dD z (m - 1) + 1 := by
 have f2 : ∀ y, 28 ≤ bU y 2 ∧ bU y 2 ≤ 29 := fun y => by
  show 28 ≤ (if leap y = true then 29 else 28) ∧ (if leap y = true then 29 else 28) ≤ 29
  split <;> omega
 have a := f2 y
 have b := f2 z
 have l : ∀ k, k ≠ 2 → bU y k = bU z k := fun k hk => by
  unfold bU
  split <;> first | rfl | exact absurd rfl hk
 have hm : m = 1 ∨ m = 2 ∨ m = 3 ∨ m = 4 ∨ m = 5 ∨ m = 6 ∨ m = 7 ∨ m = 8 ∨ m = 9 ∨ m = 10 ∨ m = 11 ∨ m = 12 := by omega
 have e1 := l 1 (by decide); have e3 := l 3 (by decide); have e4 := l 4 (by decide); have e5 := l 5 (by decide); have e6 := l 6 (by decide)
 have e7 := l 7 (by decide); have e8 := l 8 (by decide); have e9 := l 9 (by decide); have e10 := l 10 (by decide); have e11 := l 11 (by decide)
 rcases hm with rfl | rfl | rfl | rfl | rfl | rfl | rfl | rfl | rfl | rfl | rfl | rfl <;> simp only [dD, Nat.reduceSub, Nat.reduceAdd] <;> omega
theorem ari {y : Nat} (h : 1900 ≤ y) (k : Nat) : dO y + 365 * k ≤ dO (y + k) := by
 induction k with
 | zero => simp only [Nat.mul_zero, Nat.add_zero]; exact Nat.le_refl _
 | succ k ih =>
   have h2 := F7 (y := y + k) (by omega)
   have h3 := afl (y + k)
   have h4 : 365 ≤ dD (y + k) 12 := by rw [h3]; split <;> omega
   rw [show y + (k + 1) = y + k + 1 from rfl, h2, Nat.mul_succ, ← Nat.add_assoc]
   exact Nat.add_le_add ih h4
theorem ao3 {a b : Int} (ha : bQ a) (hb : bQ b) {k : Nat} (h : mi b = mi a + 12 * k) : a + 365 * k ≤ b + 31 := by
 obtain ⟨y, m, d, hc, rfl, _⟩ := gV ha
 obtain ⟨y', m', d', hc', rfl, _⟩ := gV hb
 rw [OM hc, OM hc'] at h
 have a1 := hc.y1; have a2 := hc.m1; have a3 := hc.m2; have a5 := hc'.m1; have a6 := hc'.m2
 obtain rfl : m' = m := by omega
 obtain rfl : y' = y + k := by omega
 have h1 := ari a1 k
 have h2 := alY y (y + k) m' a2 a3
 have h3 := hc.d2
 have h4 := yD y m'
 have h5 := hc'.d1
 have h6 := hc.d1
 have g : ∀ (B0 B1 c0 c1 D0 D1 K ml : Nat), B0 + K ≤ B1 → c0 ≤ c1 + 1 → D0 ≤ ml → ml ≤ 31 → 1 ≤ D1 → 1 ≤ D0 → B0 + c0 + D0 - 1 + K ≤ B1 + c1 + D1 - 1 + 31 := by intros; omega
 have g2 := g (dO y) (dO (y + k)) (dD y (m' - 1)) (dD (y + k) (m' - 1)) d d' (365 * k) (bU y m') h1 h2 h3 h4 h5 h6
 have e : dayOf y m' d + 365 * k ≤ dayOf (y + k) m' d' + 31 := g2
 generalize dayOf y m' d = u at *
 generalize dayOf (y + k) m' d' = v at *
 generalize hw : 365 * k = w at *
 have hw2 : 365 * (k : Int) = (w : Int) := by rw [← hw]; simp
 rw [hw2]
 omega
end Go.Ev.Code
end
