/- A part of the proof of priceFalls_card, riskSigns_card, yieldBack_card, yieldEdge_card, yieldFalls_card. -/
import Derived.Test.YtnokhmkkpcfilabGreatDoorCSpD2
set_option linter.unusedVariables false
set_option linter.unusedSimpArgs false
section
namespace Go.Ev.Code
open Go Go.Ev
def ZJ (d : Int) : List (Int × Int) → Nat → Int
 | [], _ => -1
 | p :: r, i => if p.1 ≤ d ∧ d < p.2 then (i : Int) else ZJ d r (i + 1)
def WG (ps : List (Int × Int)) (d : Int) : Int := ZJ d ps 0
theorem ajZ (p : Int × Int) (d : Int) : L.call xP [pD p, .ref [.int .i64 d] 0] = some (.bool (decide (p.1 ≤ d ∧ d < p.2))) := by
 obtain ⟨p1, p2⟩ := p
 unfold pD
 simp only
 refine aJ ajh rfl (ai8 ..) ?_
 by_cases h1 : p1 ≤ d
 ·by_cases h2 : d < p2 <;> simp [Ui, h1, h2]
 ·simp [Ui, h1]
def atR (z : Int) : Ex × List D × Mem := if z = -1 then (.exit 0, [.undef], []) else (.ret, [.int .i64 z], [])
theorem at_loop {d : Int} (all : List (Int × Int)) (hn : all.length ≤ 1000000) : ∀ (l pre : List (Int × Int)), all = pre ++ l →
  L.loop [0, 1, 7, 8] [4] fD 0 [jd all, .func xP [.ref [.int .i64 d] 0], .int .i64 all.length, .int .i64 pre.length] [] =
    some (atR (ZJ d l pre.length)) := by
 intro l
 induction l with
 | nil =>
   intro pre hal
   rw [List.append_nil] at hal
   subst hal
   simp only [ZJ, atR, if_true]
   unfold jd
   generalize cu all = pc at *
   generalize all.length = n at *
   refine aQ (vk ..) ?_
   simp [jU]
 | cons p r ih =>
   intro pre hal
   have hg := yF (ps := all) (i := pre.length) (p := p) (by rw [hal]; simp)
   have hlt : pre.length < all.length := by rw [hal]; simp
   have h1 := ajZ p d
   have hn2 := ih (pre ++ [p]) (by rw [hal]; simp)
   rw [List.length_append, List.length_singleton, show ((pre.length + 1 : Nat) : Int) = (pre.length : Int) + 1 by omega] at hn2
   have e1 : IntKind.i64.wrap ((pre.length : Int) + 1) = (pre.length : Int) + 1 := wrap64 _ (by omega)
   simp only [ZJ]
   obtain ⟨p1, p2⟩ := p
   unfold pD at h1
   unfold jd at *
   simp only at *
   obtain ⟨g1, g2, g3, g4⟩ := hg
   generalize cu all = pc at *
   generalize all.length = n at *
   generalize pre.length = P at *
   generalize ZJ d r (P + 1) = z at *
   have hltI : (P : Int) < n := by omega
   have hneg : ¬ (P : Int) = -1 := by omega
   refine aQ (vk ..) ?_
   by_cases h : p1 ≤ d ∧ d < p2
   ·rw [decide_eq_true h] at h1
    rw [if_pos h]
    unfold atR
    rw [if_neg hneg]
    simp [jU, hlt, hltI, g1, g2, g3, g4, h1]
   ·rw [decide_eq_false h] at h1
    rw [if_neg h]
    simp [jU, hlt, hltI, g1, g2, g3, g4, h1, e1, hn2]
theorem VY {ps : List (Int × Int)} (hn : ps.length ≤ 1000000) (d : Int) : L.call Bc [jd ps, .int .i64 d] = some (.int .i64 (WG ps d)) := by
 have hl := at_loop (d := d) ps hn ps [] rfl
 simp only [List.length_nil] at hl
 have hi : L.call gG [jd ps, .func xP [.ref [.int .i64 d] 0]] = some (.int .i64 (WG ps d)) := by
  unfold WG
  unfold jd at *
  generalize ZJ d ps 0 = z at *
  generalize cu ps = pc at *
  generalize ps.length = n at *
  refine aJ Ko rfl (J_ ..) ?_
  unfold atR at hl
  by_cases hz : z = -1
  ·rw [if_pos hz] at hl
   subst hz
   simp at hl
   simp [pR, hl]
  ·rw [if_neg hz] at hl
   simp at hl
   simp [pR, hl]
 have hfz : ∀ m, jV (fz 11) (cu ps) m = some (cu ps, m) := fun m => VE ps 10 m
 generalize WG ps d = z at *
 unfold jd at *
 generalize cu ps = pc at *
 generalize ps.length = n at *
 refine aJ amx rfl (amm ..) ?_
 simp [ae5, hfz, hi]
theorem amI {d : Int} : ∀ (l : List (Int × Int)) (i : Nat), (∀ (j : Nat) (p q : Int × Int), l[j]? = some q → l[j + 1]? = some p → p.1 = q.2) → (∀ p, l[0]? = some p → p.1 ≤ d) → (∃ p, l[l.length - 1]? = some p ∧ d < p.2) →
  ∃ (k : Nat) (p : Int × Int), l[k]? = some p ∧ p.1 ≤ d ∧ d < p.2 ∧ ZJ d l i = (i : Int) + k
 | [], i, _, _, h => by obtain ⟨p, hp, _⟩ := h; simp at hp
 | p :: r, i, hnx, h0, hl => by
   have hp := h0 p rfl
   by_cases h : d < p.2
   ·exact ⟨0, p, rfl, hp, h, by simp only [ZJ]; rw [if_pos ⟨hp, h⟩]; simp⟩
   ·cases r with
    | nil =>
      obtain ⟨x, hx, hd⟩ := hl
      simp at hx
      subst hx
      exact absurd hd h
    | cons q r =>
      obtain ⟨k, x, h1, h2, h3, h4⟩ := amI (d := d) (q :: r) (i + 1) (fun j p q hq hp => hnx (j + 1) p q (by simpa using hq) (by simpa using hp))
       (fun x hx => by
        have hx : q = x := by simpa using hx
        have h5 : q.1 = p.2 := hnx 0 q p rfl rfl
        rw [← hx, h5]; omega) (by
        obtain ⟨x, hx, hd⟩ := hl
        exact ⟨x, by simpa using hx, hd⟩)
      refine ⟨k + 1, x, by simpa using h1, h2, h3, ?_⟩
      simp only [ZJ] at h4 ⊢
      rw [if_neg (fun h5 => h h5.2), h4]
      omega
def fH (b : aO) (s : Int) : Int × Int := ((aV b).2[(WG (aV b).2 s).toNat]?).getD (0, 0)
theorem gY {b : aO} {s : Int} (h : (leftB b s).1 = none) : (bJ b).1 = none ∧ (aV b).1 = none ∧ b.issue ≤ s ∧ s < b.fP := by
 unfold leftB at h
 split at h
 ·simp at h
 ·rename_i h0
  split at h
  ·simp at h
  ·exact ⟨h0, (kW h0).1, by omega, by omega⟩
theorem Ba {b : aO} {s : Int} (h0 : (aV b).1 = none) (h1 : b.issue ≤ s) (h2 : s < b.fP) : ∃ k : Nat, WG (aV b).2 s = k ∧ (aV b).2[k]? = some (fH b s) ∧ (fH b s).1 ≤ s ∧ s < (fH b s).2 := by
 have hw := (gK h0).2
 obtain ⟨k, p, g1, g2, g3, g4⟩ := amI (d := s) (aV b).2 0 (fun j p q hq hp => (hw.next j p q hq hp).1) (fun p hp => by rw [hw.first p hp]; exact h1) (by
  have hpos : 0 < (aV b).2.length := List.length_pos_iff.2 hw.ne
  have hg := List.getElem?_eq_getElem (l := (aV b).2) (i := (aV b).2.length - 1) (by omega)
  exact ⟨_, hg, by rw [hw.last _ hg]; exact h2⟩)
 have hk : WG (aV b).2 s = k := by unfold WG; rw [g4]; simp
 have hp : fH b s = p := by
  unfold fH
  rw [hk, Int.toNat_natCast, g1]; rfl
 exact ⟨k, hk, by rw [hp]; exact g1, by rw [hp]; exact g2, by rw [hp]; exact g3⟩
def agG (b : aO) (s : Int) : D := match (leftB b s).1 with
 | some e => .aZ [.agg [.int .i64 0, .int .i64 0], dS (some e)]
 | none => .aZ [pD (fH b s), .aF]
theorem UD {b : aO} (hc : b.dX.length ≤ 1000000) (hr : b.dY.length ≤ 1000000) (s : Int) : L.call uH [aS b, .int .i64 s] = some (agG b s) := by
 have hl := P7 hc hr s
 have hpl := Ae hc hr
 have hbc := fun n => g_ b n
 have hbl := l7 b
 have hbd := lZ b 0 10
 unfold agG
 unfold zO SI at hl
 have hfcl := wY (leftB b s).2 0 11
 cases he : (leftB b s).1 with
 | some e =>
   rw [he] at hl
   generalize (leftB b s).2.length = N at *
   generalize dH (leftB b s).2 = fc at *
   unfold aS at *
   generalize aN b = B at *
   have htk : B.take 9 = B := List.take_of_length_le (by omega)
   rcases e with ⟨c, _ | t⟩
   ·simp only [dS] at *
    refine aJ Nu rfl (Np ..) ?_
    simp [Hq, hl, hbc, hbl, hbd, htk]
   ·simp only [dS, eH] at *
    refine aJ Nu rfl (Np ..) ?_
    simp [Hq, hl, hbc, hbl, hbd, htk]
 | none =>
   rw [he] at hl
   obtain ⟨h1, h2, h3, h4⟩ := gY he
   obtain ⟨k, k1, k2, k3, k4⟩ := Ba h2 h3 h4
   have hplen := (gK h2).2.len
   have hat := VY (ps := (aV b).2) (by omega) s
   rw [k1] at hat
   have hg := yF k2
   have hklt : k < (aV b).2.length := (List.getElem?_eq_some_iff.1 k2).1
   unfold wM at hpl
   rw [h2] at hpl
   simp only [eX] at hpl
   simp only [dS] at hl
   have hpcl := jI (aV b).2 0 11
   have hpcl' := jI (aV b).2 0 10
   unfold jd at *
   unfold pD
   generalize fH b s = p at *
   obtain ⟨p1, p2⟩ := p
   simp only at *
   obtain ⟨g1, g2, g3, g4⟩ := hg
   generalize (leftB b s).2.length = N at *
   generalize dH (leftB b s).2 = fc at *
   generalize (aV b).2.length = M at *
   generalize cu (aV b).2 = pc at *
   unfold aS at *
   generalize aN b = B at *
   have htk : B.take 9 = B := List.take_of_length_le (by omega)
   have hkI : (k : Int) < M := by omega
   refine aJ Nu rfl (Np ..) ?_
   simp [Hq, hl, hbc, hbl, hbd, htk, hpl, hat, hklt, hkI, g1, g2, g3, g4]
def exB (b : aO) (s : Int) : Bool := decide (0 < b.ex) && decide ((fH b s).2 - b.ex ≤ s)
def exD (b : aO) (s : Int) : D := match (leftB b s).1 with
 | some e => .aZ [.bool false, dS (some e)]
 | none => .aZ [.bool (exB b s), .aF]
theorem vX {b : aO} {s : Int} (h : (leftB b s).1 = none) : bU (fH b s).1 ∧ bU (fH b s).2 ∧ (fH b s).1 < (fH b s).2 ∧ (fH b s).1 ≤ s ∧ s < (fH b s).2 ∧ (fH b s) ∈ (aV b).2 := by
 obtain ⟨h1, h2, h3, h4⟩ := gY h
 obtain ⟨k, k1, k2, k3, k4⟩ := Ba h2 h3 h4
 have hm := List.mem_of_getElem? k2
 have := pF h2 hm
 exact ⟨this.1, this.2.1, this.2.2, k3, k4, hm⟩
theorem Vq {b : aO} (hc : b.dX.length ≤ 1000000) (hr : b.dY.length ≤ 1000000) (s : Int) : L.call Du [aS b, .int .i64 s] = some (exD b s) := by
 have hp := UD hc hr s
 unfold agG at hp
 unfold exD
 cases he : (leftB b s).1 with
 | some e =>
   rw [he] at hp
   have hecl := UK (some e) 0
   obtain ⟨i, m, fq, c, rd, n, st, en, ex⟩ := b
   unfold aS aN at *
   simp only at *
   rcases e with ⟨c, _ | t⟩
   ·simp only [dS] at *
    refine aJ XF rfl (Xu ..) ?_
    simp [Na, hp]
   ·simp only [dS, eH] at *
    refine aJ XF rfl (Xu ..) ?_
    simp [Na, hp]
 | none =>
   rw [he] at hp
   obtain ⟨d1, d2, d3, d4, d5, d6⟩ := vX he
   have hex := amP (fG (gY he).2.1)
   unfold exB
   unfold pD at hp
   generalize fH b s = p at *
   obtain ⟨p1, p2⟩ := p
   simp only at *
   have e1 : IntKind.i64.wrap (p2 - b.ex) = p2 - b.ex := wrap64 _ (by omega)
   obtain ⟨i, m, fq, c, rd, n, st, en, ex⟩ := b
   unfold aS aN at *
   simp only at *
   refine aJ XF rfl (Xu ..) ?_
   by_cases h1 : 0 < ex
   ·by_cases h2 : p2 - ex ≤ s <;> simp [Na, hp, h1, e1, h2]
   ·simp [Na, hp, h1]
def Ad (b : aO) (p : Int × Int) (x y : Int) : Rat := match Ac b p x y with
 | .ok q => q
 | .error _ => 0
def lX (b : aO) (p : Int × Int) : Rat := match Ig b p with
 | .ok q => q
 | .error _ => 0
def Ov (b : aO) (p : Int × Int) (s : Int) : Rat := if b.count = 4 ∧ regular b p = true then lX b p * Rat.divInt (s - p.1) (p.2 - p.1) else PY b * Ad b p p.1 s
def pO (b : aO) (s : Int) : Rat := if exB b s = true then Ov b (fH b s) s - lX b (fH b s) else Ov b (fH b s) s
theorem OX {b : aO} {p : Int × Int} {q : Rat} (h : Ig b p = .ok q) : lX b p = q := by unfold lX; rw [h]
theorem aaV {b : aO} {p : Int × Int} {x y : Int} {q : Rat} (h : Ac b p x y = .ok q) : Ad b p x y = q := by unfold Ad; rw [h]
theorem Yp {b : aO} (h : (bJ b).1 = none) {p : Int × Int} (hp : p ∈ (aV b).2) : ∃ q, Ig b p = .ok q := by
 obtain ⟨h0, p0, r, q, hps, hq, _⟩ := kW h
 obtain ⟨i, hi⟩ := List.getElem?_of_mem hp
 have hw := (gK h0).2
 cases i with
 | zero =>
   rw [hps] at hi
   have hi : p0 = p := by simpa using hi
   rw [← hi]; exact ⟨q, hq⟩
 | succ i =>
   have hlt : i + 1 < (aV b).2.length := (List.getElem?_eq_some_iff.1 hi).1
   have hg := List.getElem?_eq_getElem (l := (aV b).2) (i := i) (by omega)
   have := (hw.next i p _ hg hi).2
   unfold Ig
   rw [if_pos this]
   exact ⟨_, rfl⟩
theorem adM {b : aO} (h : (bJ b).1 = none) {p : Int × Int} (hp : p ∈ (aV b).2) {x y : Int} (h1 : p.1 ≤ x) (h2 : x ≤ y) (h3 : y ≤ p.2) : b.count = 4 ∧ regular b p = true ∨ ∃ q, Ac b p x y = .ok q := by
 obtain ⟨q, hq⟩ := Yp h hp
 by_cases hc : b.count = 4
 ·by_cases hr : regular b p = true
  ·exact .inl ⟨hc, hr⟩
  ·right
   unfold Ig at hq
   rw [if_neg hr] at hq
   unfold Ac at hq ⊢
   rw [if_pos hc] at hq ⊢
   cases hqs : Di b p with
   | none => rw [hqs] at hq; simp at hq
   | some l =>
     simp only
     rw [if_neg (by omega)]
     exact ⟨_, rfl⟩
 ·right
  unfold Ac
  rw [if_neg hc, if_neg (by omega)]
  exact ⟨_, rfl⟩
theorem ag7 {b : aO} (h : (bJ b).1 = none) (hc : b.dX.length ≤ 1000000) (hr : b.dY.length ≤ 1000000) {p : Int × Int} (hp : p ∈ (aV b).2) {s : Int} (h1 : p.1 ≤ s) (h2 : s ≤ p.2) :
  L.call Cj [aS b, pD p, .int .i64 s] = some (.aZ [bF (Ov b p s), .aF]) ∧ RB 240000 (Ov b p s) := by
 have h0 := (kW h).1
 have hchk := fG h0
 obtain ⟨d1, d2, d3⟩ := pF h0 hp
 obtain ⟨q, hq⟩ := Yp h hp
 have hqB := Zb hchk d1 d2 hq (n := 3600) (fun l hl => (IV hchk d2 hl).2)
 have hpay := L9 h0 hc hr d1 d2 d3
 have hreg := BR hc hr p
 have hpart := Jt h0 hc hr d1 d2 d3 p.1 s
 have hcp := Dx hc hr
 have e1 : IntKind.i64.wrap (s - p.1) = s - p.1 := wrap64 _ (by omega)
 have e2 : IntKind.i64.wrap (p.2 - p.1) = p.2 - p.1 := wrap64 _ (by omega)
 have hof : L.call jQ [.int .i64 (s - p.1), .int .i64 (p.2 - p.1)] = some (.aZ [bF (Rat.divInt (s - p.1) (p.2 - p.1)), .aF]) := ru (by omega) (by omega) (by omega)
 have hofB : RB 64 (Rat.divInt (s - p.1) (p.2 - p.1)) := iH (eF (by omega)) (eF (by omega)) (by omega)
 have hpo := adM h hp (Int.le_refl _) h1 h2
 have hbc := fun n => g_ b n
 rw [hq] at hpay
 simp only [Fb] at hpay
 unfold Ov
 rw [OX hq]
 by_cases hcr : b.count = 4 ∧ regular b p = true
 ·rw [if_pos hcr]
  have hmul := oK hqB hofB (by omega)
  refine ⟨?_, (hqB.mul hofB).mono (by omega)⟩
  obtain ⟨hc4, hrg⟩ := hcr
  rw [hrg] at hreg
  obtain ⟨p1, p2⟩ := p
  unfold pD at *
  simp only at *
  generalize q * Rat.divInt (s - p1) (p2 - p1) = v at *
  generalize Rat.divInt (s - p1) (p2 - p1) = w at *
  obtain ⟨i, m, fq, c, rd, n, st, en, ex⟩ := b
  unfold aS aN at *
  simp only at *
  subst hc4
  refine aJ ZA rfl (Zx ..) ?_
  simp [MH, hreg, hpay, e1, e2, hof, hmul]
 ·rw [if_neg hcr]
  obtain ⟨v, hv⟩ := hpo.resolve_left hcr
  have hvB := Qm hchk d1 d2 hv (n := 3600) (fun l hl => (IV hchk d2 hl).2)
  have hmul := oK (PZ b) hvB (by omega)
  rw [aaV hv]
  refine ⟨?_, ((PZ b).mul hvB).mono (by omega)⟩
  rw [hv] at hpart
  simp only [Fb] at hpart
  generalize PY b * v = w at *
  generalize PY b = cq at *
  generalize regular b p = rg at *
  obtain ⟨p1, p2⟩ := p
  unfold pD at *
  simp only at *
  obtain ⟨i, m, fq, c, rd, n, st, en, ex⟩ := b
  unfold aS aN at *
  simp only at *
  refine aJ ZA rfl (Zx ..) ?_
  by_cases hn : n = 4
  ·have hrg : rg = false := by
    cases rg with
    | false => rfl
    | true => exact absurd ⟨hn, rfl⟩ hcr
   subst hrg
   subst hn
   simp [MH, hreg, hpart, hcp, hmul]
  ·simp [MH, hn, hpart, hcp, hmul]
def aoq (b : aO) (s : Int) : D := match (leftB b s).1 with
 | some e => .aZ [.aK, dS (some e)]
 | none => .aZ [bF (pO b s), .aF]
theorem ak_ {b : aO} (hc : b.dX.length ≤ 1000000) (hr : b.dY.length ≤ 1000000) (s : Int) : L.call Dv [aS b, .int .i64 s] = some (aoq b s) ∧ ((leftB b s).1 = none → RB 480000 (pO b s)) := by
 have hp := UD hc hr s
 have hx := Vq hc hr s
 unfold agG at hp
 unfold aoq
 unfold exD at hx
 cases he : (leftB b s).1 with
 | some e =>
   refine ⟨?_, fun h => by simp at h⟩
   rw [he] at hp
   obtain ⟨i, m, fq, c, rd, n, st, en, ex⟩ := b
   unfold aS aN at *
   simp only at *
   rcases e with ⟨c, _ | t⟩
   ·simp only [dS] at *
    refine aJ XG rfl (Xv ..) ?_
    simp [Nb, hp]
   ·simp only [dS, eH] at *
    refine aJ XG rfl (Xv ..) ?_
    simp [Nb, hp]
 | none =>
   rw [he] at hp hx
   obtain ⟨d1, d2, d3, d4, d5, d6⟩ := vX he
   obtain ⟨f0, h0, _, _⟩ := gY he
   have hchk := fG h0
   obtain ⟨hg, hgB⟩ := ag7 f0 hc hr d6 d4 (by omega)
   obtain ⟨q, hq⟩ := Yp f0 d6
   have hqB := Zb hchk d1 d2 hq (n := 3600) (fun l hl => (IV hchk d2 hl).2)
   have hpay := L9 h0 hc hr d1 d2 d3
   rw [hq] at hpay
   simp only [Fb] at hpay
   have hsub := uy hgB hqB (by omega)
   unfold pO
   rw [OX hq]
   constructor
   ·generalize Ov b (fH b s) s - q = v at *
    generalize Ov b (fH b s) s = g at *
    unfold pD at *
    generalize fH b s = p at *
    generalize exB b s = xb at *
    obtain ⟨p1, p2⟩ := p
    simp only at *
    obtain ⟨i, m, fq, c, rd, n, st, en, ex⟩ := b
    unfold aS aN at *
    simp only at *
    refine aJ XG rfl (Xv ..) ?_
    cases xb with
    | true => simp [Nb, hp, hg, hx, hpay, hsub]
    | false => simp [Nb, hp, hg, hx]
   ·intro _
    split
    ·exact (hgB.sub hqB).mono (by omega)
    ·exact hgB.mono (by omega)
end Go.Ev.Code
end
section
namespace Go.Ev.Code
open Go Go.Ev
theorem aiu {b : aO} (hchk : chk b = none) {k a : Nat} (hk : k < dM b) (ha : anch b k = some a) : quasi b a = anch b (k + 1) := by
 have hm := (dK hchk).2.1
 obtain ⟨g1, g2, g3⟩ := Qa hm
 have hpl := ab9 hm ha (fun i hi => by
  obtain ⟨d, hd, _⟩ := g1 i (by omega)
  rw [hd]; rfl) (by omega)
 obtain ⟨d, hd, hdi⟩ := g1 k hk
 rw [ha] at hd
 simp at hd
 subst hd
 unfold quasi
 rw [hpl]
 simp only
 rw [if_neg (by omega)]
theorem aeU {b : aO} (hchk : chk b = none) {k a : Nat} (hk : k < dM b) (ha : anch b k = some a) {st : Int} (h1 : st < (a : Int)) (h2 : ∀ c, anch b (k + 1) = some c → (c : Int) ≤ st) {f : Nat} (hf : ((a : Int) - st).toNat ≤ f) :
  mF b st f a = (anch b (k + 1)).map fun c => [((c : Int), (a : Int))] := by
 obtain ⟨g, rfl⟩ : ∃ g, f = g + 1 := ⟨f - 1, by omega⟩
 simp only [mF]
 rw [if_neg (by omega), aiu hchk hk ha]
 cases hc : anch b (k + 1) with
 | none => rfl
 | some c =>
   have := h2 c hc
   simp only [Option.map_some]
   cases g with
   | zero => simp [mF]
   | succ g => simp only [mF]; rw [if_pos this]; rfl
theorem ael {b : aO} (hchk : chk b = none) {c : Nat} (h : anch b (dM b) = some c) : (c : Int) ≤ b.issue := by
 obtain ⟨g1, g2, g3⟩ := Qa (dK hchk).2.1
 rcases Int.lt_or_le b.issue c with h1 | h1
 ·exact absurd ⟨c, h, h1⟩ g2
 ·exact h1
theorem alS {b : aO} (hchk : chk b = none) {a : Nat} (ha : anch b (dM b - 1) = some a) : Di b (b.issue, (a : Int)) = (anch b (dM b)).map fun c => [((c : Int), (a : Int))] := by
 have kp := UR hchk
 obtain ⟨x, hx, hxi, _⟩ := xY hchk (k := dM b - 1) (by omega)
 rw [ha] at hx
 simp at hx
 subst hx
 unfold Di
 have h := aeU hchk (k := dM b - 1) (by omega) ha (st := b.issue) hxi (fun c hc => by rw [show dM b - 1 + 1 = dM b by omega] at hc; exact ael hchk hc) (f := ((a : Int) - b.issue).toNat) (Nat.le_refl _)
 rw [show dM b - 1 + 1 = dM b by omega] at h
 exact h
theorem anH {b : aO} (hchk : chk b = none) {a c : Nat} (hk : 2 ≤ dM b) (ha : anch b (dM b - 2) = some a) (hc : anch b (dM b - 1) = some c) :
  Di b (b.issue, (a : Int)) = (anch b (dM b)).map fun d => [((c : Int), (a : Int)), ((d : Int), (c : Int))] := by
 obtain ⟨x, hx, hxi, hn⟩ := xY hchk (k := dM b - 2) (by omega)
 rw [ha] at hx
 simp at hx
 subst hx
 obtain ⟨z, hz, hza⟩ := hn (by omega)
 rw [show dM b - 2 + 1 = dM b - 1 by omega, hc] at hz
 simp at hz
 subst hz
 obtain ⟨x, hx, hci, _⟩ := xY hchk (k := dM b - 1) (by omega)
 rw [hc] at hx
 simp at hx
 subst hx
 unfold Di
 simp only
 obtain ⟨f, hf⟩ : ∃ f, ((a : Int) - b.issue).toNat = f + 1 := ⟨((a : Int) - b.issue).toNat - 1, by omega⟩
 rw [hf]
 simp only [mF]
 rw [if_neg (by omega), aiu hchk (k := dM b - 2) (by omega) ha, show dM b - 2 + 1 = dM b - 1 by omega, hc]
 simp only
 have h := aeU hchk (k := dM b - 1) (by omega) hc (st := b.issue) hci (fun d hd => by rw [show dM b - 1 + 1 = dM b by omega] at hd; exact ael hchk hd) (f := f) (by omega)
 rw [show dM b - 1 + 1 = dM b by omega] at h
 rw [h]
 cases anch b (dM b) <;> rfl
theorem ait {b : aO} (hchk : chk b = none) {p : Int × Int} (hlt : p.1 < p.2) (hreg : regular b p = true) : Di b p = some [p] := by
 unfold regular at hreg
 rw [hchk] at hreg
 simp only at hreg
 obtain ⟨f, hfu⟩ : ∃ f, (p.2 - p.1).toNat = f + 1 := ⟨(p.2 - p.1).toNat - 1, by omega⟩
 unfold Di
 rw [hfu]
 simp only [mF]
 rw [if_neg (by omega)]
 cases hqe : quasi b p.2 with
 | none => rw [hqe] at hreg; simp at hreg
 | some x =>
   rw [hqe] at hreg
   simp at hreg
   simp only [hreg]
   cases f with
   | zero => simp [mF]
   | succ f => simp [mF]
theorem V8 {b : aO} (h : (aV b).1 = none) {p : Int × Int} (hp : p ∈ (aV b).2) {l : List (Int × Int)} (hl : Di b p = some l) : l.length ≤ 2 := by
 have hw := gK h
 have hchk := hw.1
 have hd := pF h hp
 obtain ⟨i, hi⟩ := List.getElem?_of_mem hp
 have kp := UR hchk
 have hraw0 : ∀ {q : Int × Int}, (kE b)[0]? = some q → ∀ {l}, Di b q = some l → l.length ≤ 2 := by
  intro q hq l hl
  rw [EU (by omega)] at hq
  simp at hq
  obtain ⟨a, ha, _⟩ := xY hchk (k := dM b - 1) (by omega)
  rw [ha] at hq
  simp at hq
  subst hq
  rw [alS hchk ha] at hl
  cases hk : anch b (dM b) with
  | none => rw [hk] at hl; simp at hl
  | some c => rw [hk] at hl; simp at hl; subst hl; simp
 cases i with
 | succ i =>
   have hlt : i + 1 < (aV b).2.length := (List.getElem?_eq_some_iff.1 hi).1
   have hg := List.getElem?_eq_getElem (l := (aV b).2) (i := i) (by omega)
   have hr := (hw.2.next i p _ hg hi).2
   rw [ait hchk hd.2.2 hr] at hl
   simp at hl; subst hl; simp
 | zero =>
   unfold aV at hi
   rw [hchk] at hi
   simp only at hi
   split at hi
   ·exact hraw0 hi hl
   ·split at hi
    ·simp at hi
    ·split at hi
     ·split at hi
      ·rename_i x q r hx
       simp at hi
       subst hi
       have hk2 : 2 ≤ dM b := by have := Bf b; rw [hx] at this; simp at this; omega
       obtain ⟨a, ha, _⟩ := xY hchk (k := dM b - 2) (by omega)
       obtain ⟨c, hc, _⟩ := xY hchk (k := dM b - 1) (by omega)
       have hq := EU (b := b) (i := 1) (by omega)
       rw [hx] at hq
       simp [show dM b - 1 - 1 = dM b - 2 by omega, ha] at hq
       rw [hq] at hl
       simp only at hl
       rw [anH hchk hk2 ha hc] at hl
       cases hk : anch b (dM b) with
       | none => rw [hk] at hl; simp at hl
       | some d => rw [hk] at hl; simp at hl; subst hl; simp
      ·exact hraw0 hi hl
     ·exact hraw0 hi hl
theorem Yq {b : aO} (h : (aV b).1 = none) : ∀ (d i : Nat) {p q : Int × Int}, (aV b).2[i]? = some p → (aV b).2[i + d + 1]? = some q → p.2 ≤ q.1
 | 0, i, p, q, hp, hq => by
   have := ((gK h).2.next i q p hp hq).1
   omega
 | d + 1, i, p, q, hp, hq => by
   have hlt : i + (d + 1) + 1 < (aV b).2.length := (List.getElem?_eq_some_iff.1 hq).1
   have hg := List.getElem?_eq_getElem (l := (aV b).2) (i := i + d + 1) (by omega)
   have h1 := Yq h d i hp hg
   have h2 := (gK h).2.ord _ _ hg
   have h3 := ((gK h).2.next (i + d + 1) q _ hg hq).1
   omega
theorem akA {b : aO} {s : Int} (h : (aV b).1 = none) {p : Int × Int} (hp : p ∈ (aV b).2) (h1 : p.1 ≤ s) (h2 : s < p.2) : fH b s = p ∧ b.issue ≤ s ∧ s < b.fP := by
 obtain ⟨i, hi⟩ := List.getElem?_of_mem hp
 have hw := (gK h).2
 have hil : i < (aV b).2.length := (List.getElem?_eq_some_iff.1 hi).1
 have hb : b.issue ≤ s ∧ s < b.fP := by
  constructor
  ·cases i with
   | zero => rw [← hw.first p hi]; exact h1
   | succ i =>
     have h0 := List.getElem?_eq_getElem (l := (aV b).2) (i := 0) (by omega)
     have := Yq h i 0 h0 (by rw [Nat.zero_add]; exact hi)
     have h3 := hw.ord _ _ h0
     have h4 := hw.first _ h0
     omega
  ·have hg := List.getElem?_eq_getElem (l := (aV b).2) (i := (aV b).2.length - 1) (by omega)
   have hl := hw.last _ hg
   rcases Nat.lt_or_ge i ((aV b).2.length - 1) with h3 | h3
   ·have := Yq h ((aV b).2.length - 1 - i - 1) i hi (by rw [show i + ((aV b).2.length - 1 - i - 1) + 1 = (aV b).2.length - 1 by omega]; exact hg)
    have h5 := hw.ord _ _ hg
    omega
   ·have : i = (aV b).2.length - 1 := by omega
    rw [this] at hi
    rw [← hl]
    rw [hi] at hg
    rw [← Option.some.inj hg]; exact h2
 obtain ⟨k, k1, k2, k3, k4⟩ := Ba h hb.1 hb.2
 refine ⟨?_, hb⟩
 rcases Nat.lt_trichotomy i k with h3 | h3 | h3
 ·have := Yq h (k - i - 1) i hi (by rw [show i + (k - i - 1) + 1 = k by omega]; exact k2)
  omega
 ·rw [h3, k2] at hi
  exact Option.some.inj hi
 ·have := Yq h (i - k - 1) k k2 (by rw [show k + (i - k - 1) + 1 = i by omega]; exact hi)
  omega
end Go.Ev.Code
end
section
namespace Go.Ev.Code
open Go Go.Ev
structure Made (b : aO) (M : Nat) : Prop where
 i1 : 3000 ≤ b.issue
 i2 : b.issue ≤ 92999
 hm : ∃ A : Nat, yY b.issue M false = some A ∧ b.fP = A
 M1 : 6 ≤ M
 M2 : M ≤ 120
 fr : yT b.eU
 sums : TF b = none
 ct : 1 ≤ b.count ∧ b.count ≤ 4
 st : 1 ≤ b.stub ∧ b.stub ≤ 2
 ex : 0 ≤ b.ex ∧ b.ex ≤ 30
theorem Made.aty {b : aO} {M : Nat} (h : Made b M) : bU b.issue := ⟨by have := h.i1; omega, by have := h.i2; omega⟩
theorem Made.miM {b : aO} {M : Nat} (h : Made b M) : mi b.fP = mi b.issue + M ∧ bU b.fP := by
 obtain ⟨A, h1, h2⟩ := h.hm
 rw [h2]
 have := YW h1
 exact ⟨by omega, aaj h1⟩
theorem Made.lt {b : aO} {M : Nat} (h : Made b M) : b.issue < b.fP := by
 obtain ⟨h1, h2⟩ := h.miM
 exact am2 h.aty h2 (by have := h.M1; omega)
theorem Made.mo {b : aO} {M : Nat} (h : Made b M) : months b = 1 ∨ months b = 3 ∨ months b = 6 ∨ months b = 12 := by
 unfold months
 rcases h.fr with h3 | h3 | h3 | h3 <;> rw [h3] <;> decide
end Go.Ev.Code
end
section
namespace Go.Ev.Code
open Go Go.Ev
theorem UJ {d : Nat} (h : d < 10) : (dg d).toNat = 48 + d ∧ rH (dg d) = true := by
 have : ∀ d : Nat, d < 10 → (dg d).toNat = 48 + d ∧ rH (dg d) = true := by decide +kernel
 exact this d h
theorem adV (n : Nat) : (txt n).all rH = true := by
 induction n using Nat.strongRecOn with
 | _ n ih =>
   by_cases h : n < 10
   ·rw [nK h]; simp [(UJ h).2]
   ·rw [Dn (by omega), List.all_append, ih (n / 10) (by omega)]
    simp [(UJ (d := n % 10) (by omega)).2]
theorem aa_ (n : Nat) : jF 0 (txt n) = n := by
 induction n using Nat.strongRecOn with
 | _ n ih =>
   by_cases h : n < 10
   ·rw [nK h, uP, Aa, (UJ h).1]; omega
   ·rw [Dn (by omega), aaU, ih (n / 10) (by omega), uP, Aa, (UJ (d := n % 10) (by omega)).1]; omega
theorem aa9 : ∀ (n : Nat), 1 ≤ n → ∃ d r, txt n = dg d :: r ∧ 1 ≤ d ∧ d < 10 := by
 intro n
 induction n using Nat.strongRecOn with
 | _ n ih =>
   intro h1
   by_cases h : n < 10
   ·exact ⟨n, [], nK h, h1, h⟩
   ·obtain ⟨d, r, hr, h2, h3⟩ := ih (n / 10) (by omega) (by omega)
    exact ⟨d, r ++ [dg (n % 10)], by rw [Dn (by omega), hr]; rfl, h2, h3⟩
theorem ap_ {d : Nat} (h : d < 10) : dg d ≠ 45 ∧ dg d ≠ 47 ∧ (1 ≤ d → dg d ≠ 48) := by
 have : ∀ d : Nat, d < 10 → dg d ≠ 45 ∧ dg d ≠ 47 ∧ (1 ≤ d → dg d ≠ 48) := by decide +kernel
 exact this d h
theorem afe (n : Nat) : (47 : UInt8) ∉ txt n := by
 intro h
 have := List.all_eq_true.1 (adV n) _ h
 exact absurd this (by decide)
theorem asf {n : Nat} (h : NB 13000 n) : n < 10 ^ 4000 := Nat.lt_of_lt_of_le h (by decide +kernel)
theorem YP {n : Nat} (h : NB 13000 n) : yL (txt n) := by
 have hl := uZ 4000 (n := n) (by omega) (asf h)
 refine ⟨fun h0 => ?_, hl, ?_, adV n⟩
 ·have := Bo n
  rw [h0] at this
  simp at this
 ·rintro ⟨h1, h2⟩
  by_cases hn : n < 10
  ·rw [nK hn] at h1; simp at h1
  ·obtain ⟨d, r, hr, h3, h4⟩ := aa9 n (by omega)
   rw [hr] at h2
   simp at h2
   exact (ap_ h4).2.2 h3 h2
theorem aah (n : Nat) : List.isPrefixOf [45] (txt n) = false := by
 by_cases h : n = 0
 ·subst h; rw [nK (by decide)]; decide
 ·obtain ⟨d, r, hr, h3, h4⟩ := aa9 n (by omega)
  rw [hr]
  have := (ap_ h4).1
  simp [List.isPrefixOf, this]
  exact fun h => this h.symm
theorem ajW {z : Int} (h : IB 13000 z) : L.call KI [.str (zx z)] = some (.aZ [intD z, .aF]) := by
 have hg := zW (YP h)
 rw [aa_] at hg
 have hcut := Xt (zx z) [45]
 unfold zx at *
 have hz : ∀ b : Bool, L.call iJ [.bool b, dR z.natAbs] = some (intD (if b then -(z.natAbs : Int) else z.natAbs)) := fun b => EM b _
 by_cases hneg : z < 0
 ·rw [if_pos hneg] at hcut ⊢
  rw [if_pos (by simp [List.isPrefixOf])] at hcut
  simp at hcut
  have h0 : ¬ z.natAbs = 0 := by omega
  have hz0 := TR z.natAbs
  rw [decide_eq_false h0] at hz0
  have hzt := hz true
  have e : (if true = true then -(z.natAbs : Int) else z.natAbs) = z := by simp; omega
  rw [e] at hzt
  generalize txt z.natAbs = t at *
  have hz1 : ¬ z = 0 := by omega
  refine aJ aee rfl (ad8 ..) ?_
  simp [YJ, hcut, hg, hz0, hzt, hz1]
 ·rw [if_neg hneg] at hcut ⊢
  rw [if_neg (by rw [aah]; simp)] at hcut
  have hzt := hz false
  have e : (if false = true then -(z.natAbs : Int) else z.natAbs) = z := by simp; omega
  rw [e] at hzt
  generalize txt z.natAbs = t at *
  refine aJ aee rfl (ad8 ..) ?_
  simp [YJ, hcut, hg, hzt]
theorem XU {c : UInt8} : ∀ (x acc b : List UInt8), c ∉ x → cutAt c acc (x ++ c :: b) = some (acc.reverse ++ x, b)
 | [], acc, b, _ => by simp [cutAt]
 | y :: ys, acc, b, h => by
   have h1 : (y == c) = false := by
    simp only [beq_eq_false_iff_ne]
    intro e; exact h (by rw [e]; simp)
   simp only [List.cons_append, cutAt, h1, Bool.false_eq_true, if_false]
   rw [XU ys (y :: acc) b (fun h2 => h (by simp [h2]))]
   simp
theorem abC {c : UInt8} : ∀ (x acc : List UInt8), c ∉ x → cutAt c acc x = none
 | [], acc, _ => rfl
 | y :: ys, acc, h => by
   have h1 : (y == c) = false := by
    simp only [beq_eq_false_iff_ne]
    intro e; exact h (by rw [e]; simp)
   simp only [cutAt, h1, Bool.false_eq_true, if_false]
   exact abC ys (y :: acc) (fun h2 => h (by simp [h2]))
theorem acK (z : Int) : (47 : UInt8) ∉ zx z := by
 unfold zx
 split
 ·simp only [List.mem_cons, not_or]
  exact ⟨by decide, afe _⟩
 ·exact afe _
theorem MF {q : Rat} (h : RB 13000 q) : L.call IW [.str (wH q)] = some (.aZ [bF q, .aF]) := by
 have hn := ajW h.num
 have hl1 := aa8 h.num (by omega) (by omega)
 have hd := zW (YP h.2)
 rw [aa_] at hd
 have hl2 := uZ 4000 (n := q.den) (by omega) (asf h.2)
 have hden := q.den_nz
 have hz := TR q.den
 rw [decide_eq_false hden] at hz
 have hnew := EM false q.den
 simp only [Bool.false_eq_true, if_false] at hnew
 have hrn := uw h.num h.den (by omega) (by omega) (FP q)
 rw [Rat.num_divInt_den] at hrn
 have htx := yG h (by omega) (by omega)
 have hcut := amb (s := wH q) (by
  unfold wH
  split
  ·omega
  ·simp; omega) 47
 unfold lV at hcut
 unfold wH at *
 by_cases h1 : q.den = 1
 ·rw [if_pos h1] at hcut htx ⊢
  rw [abC _ _ (acK _)] at hcut
  simp at hcut
  have h49 : txt q.den = [49] := adW.2 h1
  rw [h49] at hd
  rw [h1] at hd hz hnew hrn
  generalize zx q.num = t at *
  refine aJ aeg rfl (ad_ ..) ?_
  simp at hd hz hnew hrn
  simp [YK, hcut, hn, hd, hz, hnew, hrn, htx]
 ·rw [if_neg h1] at hcut htx ⊢
  rw [XU _ _ _ (acK _)] at hcut
  simp at hcut
  generalize zx q.num ++ 47 :: txt q.den = s at *
  generalize zx q.num = t at *
  generalize txt q.den = u at *
  refine aJ aeg rfl (ad_ ..) ?_
  simp [YK, hcut, hn, hd, hz, hden, hnew, hrn, htx]
end Go.Ev.Code
end
section
namespace Go.Ev.Code
open Go Go.Ev
theorem OW {b : aO} (h : (bJ b).1 = none) {p : Int × Int} (hp : p ∈ (aV b).2) : RB 600 (lX b p) := by
 have h0 := (kW h).1
 have hchk := fG h0
 obtain ⟨d1, d2, d3⟩ := pF h0 hp
 obtain ⟨q, hq⟩ := Yp h hp
 rw [OX hq]
 exact (Zb hchk d1 d2 hq (n := 2) (fun l hl => V8 h0 hp hl)).mono (by omega)
theorem apb {b : aO} (h : (bJ b).1 = none) {p : Int × Int} (hp : p ∈ (aV b).2) {s : Int} (h1 : p.1 ≤ s) (h2 : s ≤ p.2) : RB 700 (Ov b p s) := by
 have h0 := (kW h).1
 have hchk := fG h0
 obtain ⟨d1, d2, d3⟩ := pF h0 hp
 have hofB : RB 64 (Rat.divInt (s - p.1) (p.2 - p.1)) := iH (eF (by omega)) (eF (by omega)) (by omega)
 unfold Ov
 by_cases hcr : b.count = 4 ∧ regular b p = true
 ·rw [if_pos hcr]
  exact ((OW h hp).mul hofB).mono (by omega)
 ·rw [if_neg hcr]
  obtain ⟨v, hv⟩ := (adM h hp (Int.le_refl _) h1 h2).resolve_left hcr
  rw [aaV hv]
  have := Qm hchk d1 d2 hv (n := 2) (fun l hl => V8 h0 hp hl)
  exact ((PZ b).mul this).mono (by omega)
theorem aqw {b : aO} {s : Int} (h : (leftB b s).1 = none) : RB 1400 (pO b s) := by
 obtain ⟨f0, h0, _, _⟩ := gY h
 obtain ⟨d1, d2, d3, d4, d5, d6⟩ := vX h
 have hg := apb f0 d6 d4 (by omega : s ≤ (fH b s).2)
 have hp := OW f0 d6
 obtain ⟨j, hj⟩ : ∃ j : Nat, j = 700 := ⟨_, rfl⟩
 obtain ⟨k, hk⟩ : ∃ k : Nat, k = 600 := ⟨_, rfl⟩
 rw [← hj] at hg
 rw [← hk] at hp
 unfold pO
 split
 ·exact (hg.sub hp).mono (by omega)
 ·exact hg.mono (by omega)
theorem abN {b : aO} (h : (bJ b).1 = none) (hc : b.dX.length ≤ 1000000) (hr : b.dY.length ≤ 1000000) {p : Int × Int} (hp : p ∈ (aV b).2) : L.call rX [aS b, pD p] = some (.aZ [bF (lX b p), .aF]) := by
 have h0 := (kW h).1
 obtain ⟨d1, d2, d3⟩ := pF h0 hp
 obtain ⟨q, hq⟩ := Yp h hp
 have := L9 h0 hc hr d1 d2 d3
 rw [hq] at this
 rw [OX hq]
 exact this
theorem amD {b : aO} {s : Int} (h : (leftB b s).1 = none) (hc : b.dX.length ≤ 1000000) (hr : b.dY.length ≤ 1000000) : L.call Dv [aS b, .int .i64 s] = some (.aZ [bF (pO b s), .aF]) := by
 have := (ak_ hc hr s).1
 unfold aoq at this
 rw [h] at this
 exact this
end Go.Ev.Code
end
section
namespace Go.Ev.Code
open Go Go.Ev
theorem Oz {a b : Nat} {j k : Nat} (ha : NB j a) (hb : NB k b) (hj : j ≤ 900000) (hk : k ≤ 900000) (h0 : b ≠ 0) :
  L.call qQ [intD (a : Int), intD (b : Int)] = some (.aZ [intD ((a / b : Nat) : Int), intD ((a % b : Nat) : Int), .aF]) := by
 have hd := EK (ha.fit hj) (hb.fit hk) h0
 have s1 : 0 ≤ ((a : Int).sign) := by rw [Bl]; omega
 have s2 : 0 ≤ ((b : Int).sign) := by rw [Bl]; omega
 have s3 : (b : Int).sign = 1 := Int.sign_eq_one_of_pos (by omega)
 have hab : ((a : Int)).natAbs = a := by simp
 have hbb : ((b : Int)).natAbs = b := by simp
 have h1 := JK (a : Int)
 have h2 := JK (b : Int)
 have h3 := Me (a : Int)
 have h4 := Me (b : Int)
 rw [hab] at h1
 rw [hbb] at h2
 rw [s3] at h4
 have hn1 := EM false (a / b)
 have hn2 := EM false (a % b)
 simp only [Bool.false_eq_true, if_false] at hn1 hn2
 have hm : decide (IntKind.i64.wrap ((a : Int).sign * 1) < 0) = false := by
  have : (a : Int).sign = 0 ∨ (a : Int).sign = 1 := by
   rcases Int.sign_trichotomy (a : Int) with h | h | h
   ·exact .inr h
   ·exact .inl h
   ·rw [h] at s1; omega
  rcases this with h | h <;> rw [h] <;> decide
 generalize ((a : Int)).sign = sa at *
 generalize a / b = q at *
 generalize a % b = r at *
 generalize (a : Int) = az at *
 generalize (b : Int) = bz at *
 generalize (q : Int) = qz at *
 generalize (r : Int) = rz at *
 refine aJ af5 rfl (afA ..) ?_
 simp only [Int.mul_one] at hm
 simp [WZ, h1, h2, h3, h4, hd, hm, hn1, hn2]
theorem aip : L.call Df [] = some (bF 1) := by
 have h := ru (n := 1) (d := 1) (by omega) (by omega) (by omega)
 have e : Rat.divInt 1 1 = 1 := by decide +kernel
 rw [e] at h
 refine aJ aji rfl (ai9 ..) ?_
 simp [aae, h]
def agD (b : aO) (s : Int) : D := match (leftB b s).1 with
 | some e => .aZ [.sl 0 [], .int .i64 0, dS (some e)]
 | none => .aZ [jd (aV b).2, .int .i64 (WG (aV b).2 s), .aF]
theorem WQ {b : aO} (hc : b.dX.length ≤ 1000000) (hr : b.dY.length ≤ 1000000) (s : Int) : L.call xR [aS b, .int .i64 s] = some (agD b s) := by
 have hl := P7 hc hr s
 have hpl := Ae hc hr
 have hbc := fun n => g_ b n
 have hbl := l7 b
 have hbd := lZ b 0 10
 unfold agD
 unfold zO SI at hl
 have hfcl := wY (leftB b s).2 0 11
 cases he : (leftB b s).1 with
 | some e =>
   rw [he] at hl
   generalize (leftB b s).2.length = N at *
   generalize dH (leftB b s).2 = fc at *
   unfold aS at *
   generalize aN b = B at *
   have htk : B.take 9 = B := List.take_of_length_le (by omega)
   rcases e with ⟨c, _ | t⟩
   ·simp only [dS] at *
    refine aJ Pv rfl (Pj ..) ?_
    simp [J6, hl, hbc, hbl, hbd, htk]
   ·simp only [dS, eH] at *
    refine aJ Pv rfl (Pj ..) ?_
    simp [J6, hl, hbc, hbl, hbd, htk]
 | none =>
   rw [he] at hl
   obtain ⟨h1, h2, h3, h4⟩ := gY he
   have hplen := (gK h2).2.len
   have hat := VY (ps := (aV b).2) (by omega) s
   unfold wM at hpl
   rw [h2] at hpl
   simp only [eX] at hpl
   simp only [dS] at hl
   have hpcl := jI (aV b).2 0 11
   have hpcl' := jI (aV b).2 0 10
   generalize WG (aV b).2 s = k at *
   unfold jd at *
   generalize (leftB b s).2.length = N at *
   generalize dH (leftB b s).2 = fc at *
   generalize (aV b).2.length = M at *
   generalize cu (aV b).2 = pc at *
   unfold aS at *
   generalize aN b = B at *
   have htk : B.take 9 = B := List.take_of_length_le (by omega)
   refine aJ Pv rfl (Pj ..) ?_
   simp [J6, hl, hbc, hbl, hbd, htk, hpl, hat, hpcl, hpcl']
end Go.Ev.Code
end
section
namespace Go.Ev.Code
open Go Go.Ev
theorem Qn {b : aO} (h : (bJ b).1 = none) {p : Int × Int} (hp : p ∈ (aV b).2) {x y : Int} (h1 : p.1 ≤ x) (h2 : x ≤ y) (h3 : y ≤ p.2) : Ac b p x y = .ok (Ad b p x y) := by
 have h0 := (kW h).1
 have hchk := fG h0
 obtain ⟨d1, d2, d3⟩ := pF h0 hp
 have : ∃ q, Ac b p x y = .ok q := by
  rcases adM h hp h1 h2 h3 with ⟨hc, hr⟩ | h4
  ·have hq := ait hchk d3 hr
   unfold Ac
   rw [if_pos hc, hq]
   simp only
   rw [if_neg (by omega)]
   exact ⟨_, rfl⟩
  ·exact h4
 obtain ⟨q, hq⟩ := this
 rw [aaV hq]; exact hq
theorem ail {b : aO} (h : (bJ b).1 = none) {p : Int × Int} (hp : p ∈ (aV b).2) {x y : Int} (h1 : p.1 ≤ x) (h2 : x ≤ y) (h3 : y ≤ p.2) : RB 200 (Ad b p x y) := by
 have h0 := (kW h).1
 have hchk := fG h0
 obtain ⟨d1, d2, d3⟩ := pF h0 hp
 exact (Qm hchk d1 d2 (Qn h hp h1 h2 h3) (n := 2) (fun l hl => V8 h0 hp hl)).mono (by omega)
def fQ (b : aO) (s : Int) : Rat := Ad b (fH b s) (fH b s).1 (fH b s).2
def BQ (b : aO) (s : Int) : Rat := Ad b (fH b s) (fH b s).1 s
def dZ (b : aO) (s : Int) : Rat := if regular b (fH b s) = true then 1 - BQ b s / fQ b s else (1 - BQ b s / fQ b s) * Rat.divInt b.eU 1 * fQ b s
def agJ (b : aO) (s : Int) : D := match (leftB b s).1 with
 | some e => .aZ [.aK, dS (some e)]
 | none => if fQ b s = 0 then .aZ [.aK, wR 3] else .aZ [bF (dZ b s), .aF]
theorem aib : RB 1 (1 : Rat) := ⟨by show (1 : Rat).num.natAbs < 2 ^ 1; decide, by show (1 : Rat).den < 2 ^ 1; decide⟩
theorem aiP {b : aO} {s : Int} (h : (leftB b s).1 = none) : RB 200 (fQ b s) ∧ RB 200 (BQ b s) := by
 obtain ⟨d1, d2, d3, d4, d5, d6⟩ := vX h
 exact ⟨ail (gY h).1 d6 (by omega) (by omega) (by omega), ail (gY h).1 d6 (by omega) (by omega) (by omega)⟩
theorem adA {f : Int} (hf : yT f) : RB 64 (Rat.divInt f 1) := iH (eF (by rcases hf with h | h | h | h <;> omega)) (eF (by omega)) (by omega)
theorem aiO {b : aO} {s : Int} (h : (leftB b s).1 = none) (h0 : fQ b s ≠ 0) : RB 700 (dZ b s) := by
 obtain ⟨hw, hp⟩ := aiP h
 have hf := adA (fU (dK (fG (gY h).2.1)).2.1)
 have h1 : RB 410 (1 - BQ b s / fQ b s) := (aib.sub (hp.div hw h0)).mono (by omega)
 have h2 : RB 690 ((1 - BQ b s / fQ b s) * Rat.divInt b.eU 1 * fQ b s) := ((h1.mul hf).mul hw).mono (by omega)
 unfold dZ
 split
 ·exact h1.mono (by omega)
 ·exact h2.mono (by omega)
theorem WO {b : aO} (hc : b.dX.length ≤ 1000000) (hr : b.dY.length ≤ 1000000) (s : Int) : L.call uo [aS b, .int .i64 s] = some (agJ b s) := by
 have hl := WQ hc hr s
 unfold agD at hl
 unfold agJ
 cases he : (leftB b s).1 with
 | some e =>
   rw [he] at hl
   obtain ⟨i, m, fq, c, rd, n, st, en, ex⟩ := b
   unfold aS aN at *
   simp only at *
   rcases e with ⟨c, _ | t⟩
   ·simp only [dS] at *
    refine aJ I8 rfl (IZ ..) ?_
    simp [zq, hl]
   ·simp only [dS, eH] at *
    refine aJ I8 rfl (IZ ..) ?_
    simp [zq, hl]
 | none =>
   rw [he] at hl
   obtain ⟨f0, h2, h3, h4⟩ := gY he
   obtain ⟨d1, d2, d3, d4, d5, d6⟩ := vX he
   obtain ⟨k, k1, k2, k3, k4⟩ := Ba h2 h3 h4
   have hplen := (gK h2).2.len
   have hg := yF k2
   have hklt : k < (aV b).2.length := (List.getElem?_eq_some_iff.1 k2).1
   obtain ⟨wB, pB⟩ := aiP he
   have hf := fU (dK (fG h2)).2.1
   have hw := Jt h2 hc hr d1 d2 d3 (fH b s).1 (fH b s).2
   have hp := Jt h2 hc hr d1 d2 d3 (fH b s).1 s
   rw [Qn f0 d6 (by omega) (by omega) (by omega)] at hw hp
   simp only [Fb] at hw hp
   have hwe : Ad b (fH b s) (fH b s).1 (fH b s).2 = fQ b s := rfl
   have hpe : Ad b (fH b s) (fH b s).1 s = BQ b s := rfl
   rw [hwe] at hw
   rw [hpe] at hp
   have hreg := BR hc hr (fH b s)
   have hone := aip
   rw [k1] at hl
   unfold dZ
   by_cases h0 : fQ b s = 0
   ·rw [if_pos h0]
    rw [h0] at hw
    have hdiv := Z5 pB (by omega)
    generalize BQ b s = pv at *
    unfold jd at *
    unfold pD at *
    generalize fH b s = p at *
    obtain ⟨p1, p2⟩ := p
    simp only at *
    obtain ⟨g1, g2, g3, g4⟩ := hg
    generalize (aV b).2.length = M at *
    generalize cu (aV b).2 = pc at *
    have hkI : (k : Int) < M := by omega
    obtain ⟨i, m, fq, c, rd, n, st, en, ex⟩ := b
    unfold aS aN at *
    simp only at *
    refine aJ I8 rfl (IZ ..) ?_
    simp [zq, hl, hklt, hkI, g1, g2, g3, g4, hw, hp, hdiv]
   ·rw [if_neg h0]
    have hdiv := Wi pB wB (by omega) h0
    have hdB := pB.div wB h0
    have hsub := uy aib hdB (by omega)
    have hsB := aib.sub hdB
    have hfo := ru (n := b.eU) (d := 1) (by rcases hf with h | h | h | h <;> omega) (by omega) (by omega)
    have hm1 := oK hsB (adA hf) (by omega)
    have hm2 := oK (hsB.mul (adA hf)) wB (by omega)
    generalize (1 - BQ b s / fQ b s) * Rat.divInt b.eU 1 * fQ b s = v3 at *
    generalize (1 - BQ b s / fQ b s) * Rat.divInt b.eU 1 = v2 at *
    generalize 1 - BQ b s / fQ b s = v1 at *
    generalize BQ b s / fQ b s = v0 at *
    generalize BQ b s = pv at *
    generalize fQ b s = wv at *
    generalize (1 : Rat) = one at *
    generalize regular b (fH b s) = rg at *
    generalize Rat.divInt b.eU 1 = fr at *
    unfold jd at *
    unfold pD at *
    generalize fH b s = p at *
    obtain ⟨p1, p2⟩ := p
    simp only at *
    obtain ⟨g1, g2, g3, g4⟩ := hg
    generalize (aV b).2.length = M at *
    generalize cu (aV b).2 = pc at *
    have hkI : (k : Int) < M := by omega
    obtain ⟨i, m, fq, c, rd, n, st, en, ex⟩ := b
    unfold aS aN at *
    simp only at *
    refine aJ I8 rfl (IZ ..) ?_
    cases rg with
    | true => simp [zq, hl, hklt, hkI, g1, g2, g3, g4, hw, hp, hdiv, hone, hsub, hreg]
    | false => simp [zq, hl, hklt, hkI, g1, g2, g3, g4, hw, hp, hdiv, hone, hsub, hreg, hfo, hm1, hm2]
end Go.Ev.Code
end
section
namespace Go.Ev.Code
open Go Go.Ev
def eG (l : List Rat) : List D := l.map bF
theorem OY (l : List Rat) (b n : Nat) : (eG l).all (D.clo b (n + 1)) = true := by
 unfold eG
 induction l with
 | nil => rfl
 | cons q r ih => simp only [List.map_cons, List.all_cons, ih, Bool.and_true]; rfl
theorem M_ (l : List Rat) (n : Nat) (m : Mem) : jV (fz (n + 1)) (eG l) m = some (eG l, m) := by
 unfold eG
 induction l with
 | nil => rfl
 | cons q r ih => simp [ih]
theorem EY (l : List Rat) : (eG l).length = l.length := by simp [eG]
theorem akG (l r : List Rat) : eG (l ++ r) = eG l ++ eG r := by simp [eG]
theorem Ze {l : List Rat} {i : Nat} {q : Rat} (h : l[i]? = some q) : (eG l)[i]? = some (bF q) := by simp [eG, h]
def oL (l : List Rat) : D := .sl l.length (eG l)
theorem P6 : ∀ {l : List (Int × Rat)} {i : Nat} {p : Int × Rat}, l[i]? = some p → ((dH l).drop (i * 2)).take 2 = [.int .i64 p.1, .str (wH p.2)]
 | [], i, p, h => by simp at h
 | (a, b) :: r, 0, p, h => by simp at h; subst h; simp [dH]
 | (a, b) :: r, i + 1, p, h => by
   have := P6 (l := r) (i := i) (p := p) (by simpa using h)
   rw [show (i + 1) * 2 = i * 2 + 1 + 1 by omega]
   simpa [dH] using this
theorem Zi : zeros 1 [.aK] = [.aK] := rfl
theorem aqy {b : aO} {s k : Int} {pl : Nat} {pc : List D} {all : List (Int × Rat)} (hq : ∀ p ∈ all, RB 13000 p.2) (hn : all.length ≤ 100000) : ∀ (rest pfx : List (Int × Rat)), all = pfx ++ rest → pfx ≠ [] →
  L.loop [1, 2, 6, 7, 10, 39, 40, 41] [1, 2, 6, 7, 10] kY 1 [.int .i64 s, .loc 0 0, .sl pl pc, .int .i64 k, .bg 1 0 pfx.length 1, .sl all.length (dH all), .int .i64 all.length, .int .i64 pfx.length] [.live (aN b), .live (eG (pfx.map Prod.snd))] =
    some (.exit 0, [.int .i64 s, .loc 0 0, .sl pl pc, .int .i64 k, .bg 1 0 all.length 1], [.live (aN b), .live (eG (all.map Prod.snd))]) := by
 have hbc := fun n => g_ b n
 intro rest
 induction rest with
 | nil =>
   intro pfx hal hne
   rw [List.append_nil] at hal
   subst hal
   have hrc := fun n => OY (all.map Prod.snd) n 11
   generalize eG (all.map Prod.snd) = rc at *
   generalize dH all = fc at *
   generalize aN b = B at *
   generalize all.length = N at *
   refine aQ (B_ ..) ?_
   simp [yc, hbc, hrc]
 | cons p r ih =>
   intro pfx hal hne
   have hpos : 0 < pfx.length := List.length_pos_iff.2 hne
   have hgi : all[pfx.length]? = some p := by rw [hal]; simp
   obtain ⟨g1, g2, g3⟩ := KE hgi
   have g4 := P6 hgi
   have hlt : pfx.length < all.length := by rw [hal]; simp
   have hget := MF (hq p (by rw [hal]; simp))
   have hn2 := ih (pfx ++ [p]) (by rw [hal]; simp) (by simp)
   rw [List.map_append, akG, show eG ([p].map Prod.snd) = [bF p.2] from rfl, List.length_append, List.length_singleton, show ((pfx.length + 1 : Nat) : Int) = (pfx.length : Int) + 1 by omega] at hn2
   have hrc := fun n => OY (pfx.map Prod.snd) n 11
   have hfz : ∀ m, jV (fz 11) (eG (pfx.map Prod.snd)) m = some (eG (pfx.map Prod.snd), m) := fun m => M_ _ 10 m
   have hrl : (eG (pfx.map Prod.snd)).length = pfx.length := by rw [EY, List.length_map]
   have e1 : IntKind.i64.wrap ((pfx.length : Int) + 1) = (pfx.length : Int) + 1 := wrap64 _ (by omega)
   have hlen : pfx.length + 1 ≤ 4294967296 := by omega
   have htk : (eG (pfx.map Prod.snd)).take pfx.length = eG (pfx.map Prod.snd) := List.take_of_length_le (by omega)
   obtain ⟨pd, q⟩ := p
   simp only at *
   generalize eG (pfx.map Prod.snd) = rc at *
   generalize eG (all.map Prod.snd) = ra at *
   generalize dH all = fc at *
   generalize aN b = B at *
   generalize all.length = N at *
   generalize pfx.length = P at *
   generalize wH q = tq at *
   have hltI : (P : Int) < N := by omega
   refine aQ (B_ ..) ?_
   simp [yc, hlt, hltI, g1, g2, g3, g4, hget, e1, hbc, hrc, hrl, htk, hlen, Zi, hn2, gX]
theorem asu {b : aO} {s k : Int} {pl : Nat} {pc : List D} {all : List (Int × Rat)} (hq : ∀ p ∈ all, RB 13000 p.2) (hn : all.length ≤ 100000) (hne : all ≠ []) :
  L.loop [1, 2, 6, 7, 10, 39, 40, 41] [1, 2, 6, 7, 10] kY 1 [.int .i64 s, .loc 0 0, .sl pl pc, .int .i64 k, .dA, .sl all.length (dH all), .int .i64 all.length, .int .i64 0] [.live (aN b)] =
    some (.exit 0, [.int .i64 s, .loc 0 0, .sl pl pc, .int .i64 k, .bg 1 0 all.length 1], [.live (aN b), .live (eG (all.map Prod.snd))]) := by
 have hbc := fun n => g_ b n
 match all, hne with
 | p :: r, _ =>
   have hgi : (p :: r)[0]? = some p := rfl
   obtain ⟨g1, g2, g3⟩ := KE hgi
   have g4 := P6 hgi
   have hget := MF (hq p (by simp))
   have hn2 := aqy (b := b) (s := s) (k := k) (pl := pl) (pc := pc) hq hn r [p] rfl (by simp)
   rw [show eG ([p].map Prod.snd) = [bF p.2] from rfl, List.length_singleton] at hn2
   obtain ⟨pd, q⟩ := p
   simp only [Nat.zero_mul, Nat.zero_add, List.drop_zero] at *
   have hlt : 0 < ((pd, q) :: r).length := by simp
   generalize eG (((pd, q) :: r).map Prod.snd) = ra at *
   generalize dH ((pd, q) :: r) = fc at *
   generalize aN b = B at *
   generalize ((pd, q) :: r).length = N at *
   generalize wH q = tq at *
   have hltI : (0 : Int) < N := by omega
   refine aQ (B_ ..) ?_
   simp at hn2
   have e1 : IntKind.i64.wrap (1 : Int) = 1 := wrap64 _ (by omega)
   simp [yc, hlt, hltI, g1, g2, g3, g4, hget, hbc, Zi, hn2, gX, e1]
end Go.Ev.Code
end
section
namespace Go.Ev.Code
open Go Go.Ev
theorem ao6 {pay each red : Rat} {i j k : Nat} (hP : RB i pay) (hE : RB j each) (hR : RB k red) : ∀ (l : List (Int × Int)), ∀ p ∈ rG pay each red l, RB (i + j + k + 1) p.2 := by
 have hrest : ∀ (l : List (Int × Int)), ∀ p ∈ lM each red l, RB (j + k + 1) p.2 := by
  intro l
  induction l with
  | nil => intro p h; simp [lM] at h
  | cons x r ih =>
    cases r with
    | nil => intro p h; simp [lM] at h; subst h; exact hE.add hR
    | cons y r =>
      intro p h
      simp only [lM, List.mem_cons] at h
      rcases h with rfl | h
      ·exact hE.mono (by omega)
      ·exact ih p h
 intro l p h
 match l, h with
 | [], h => simp [rG] at h
 | [x], h => simp [rG] at h; subst h; exact (hP.add hR).mono (by omega)
 | x :: y :: r, h =>
   simp only [rG, List.mem_cons] at h
   rcases h with rfl | h
   ·exact hP.mono (by omega)
   ·exact (hrest _ p h).mono (by omega)
theorem aas {b : aO} (h : (bJ b).1 = none) : ∀ p ∈ (bJ b).2, RB 1500 p.2 := by
 obtain ⟨h0, p, r, q, hps, hq, hfl⟩ := kW h
 have hP := OW h (p := p) (by rw [hps]; simp)
 rw [OX hq] at hP
 have hf := fU (dK (fG h0)).2.1
 have hE := Tn hf
 have hR := Qr b
 rw [hfl]
 intro x hx
 obtain ⟨a, ha⟩ : ∃ a : Nat, a = 600 := ⟨_, rfl⟩
 obtain ⟨c, hc⟩ : ∃ c : Nat, c = 464 := ⟨_, rfl⟩
 rw [← ha] at hP
 rw [← hc] at hE
 exact (ao6 hP hE hR _ x hx).mono (by omega)
def VG (v : Rat) : List Rat → List Rat
 | [] => []
 | r :: t => (r - v) :: t
def dG (b : aO) (s : Int) : List Rat := if exB b s = true then VG (lX b (fH b s)) (((bJ b).2.drop (WG (aV b).2 s).toNat).map Prod.snd) else ((bJ b).2.drop (WG (aV b).2 s).toNat).map Prod.snd
def aot (b : aO) (s : Int) : D := match (leftB b s).1 with
 | some e => .aZ [.sl 0 [], dS (some e)]
 | none => .aZ [oL (dG b s), .aF]
theorem MO {b : aO} (h : (bJ b).1 = none) : (bJ b).2.length = (aV b).2.length := by
 obtain ⟨h0, p, r, q, hps, hq, hfl⟩ := kW h
 rw [hfl, hps, X5]
theorem aaX {b : aO} (hc : b.dX.length ≤ 1000000) (hr : b.dY.length ≤ 1000000) (s : Int) : L.call rY [aS b, .int .i64 s] = some (aot b s) := by
 have hl := WQ hc hr s
 have hbc := fun n => g_ b n
 have hbl := l7 b
 have hbd := lZ b 0 10
 unfold agD at hl
 unfold aot
 cases he : (leftB b s).1 with
 | some e =>
   rw [he] at hl
   unfold aS at *
   generalize aN b = B at *
   have htk : B.take 9 = B := List.take_of_length_le (by omega)
   rcases e with ⟨c, _ | t⟩
   ·simp only [dS] at *
    refine aJ BG rfl (BA ..) ?_
    simp [x9, hl, hbc, hbl, hbd, htk]
   ·simp only [dS, eH] at *
    refine aJ BG rfl (BA ..) ?_
    simp [x9, hl, hbc, hbl, hbd, htk]
 | none =>
   rw [he] at hl
   obtain ⟨f0, h2, h3, h4⟩ := gY he
   obtain ⟨d1, d2, d3, d4, d5, d6⟩ := vX he
   obtain ⟨k, k1, k2, k3, k4⟩ := Ba h2 h3 h4
   have hplen := (gK h2).2.len
   have hg := yF k2
   have hklt : k < (aV b).2.length := (List.getElem?_eq_some_iff.1 k2).1
   have hfl := abM hc hr
   have hflen := MO f0
   have hrb := aas f0
   have hex := Vq hc hr s
   unfold exD at hex
   rw [he] at hex
   have hpay := abN f0 hc hr d6
   have hpB := OW f0 d6
   unfold zO SI at hfl
   rw [f0] at hfl
   simp only [dS] at hfl
   unfold dG
   rw [k1, Int.toNat_natCast]
   rw [k1] at hl
   have hdr := P5 ((bJ b).2.take k) ((bJ b).2.drop k)
   rw [List.take_append_drop] at hdr
   have htl : ((bJ b).2.take k).length = k := by rw [List.length_take]; omega
   rw [htl] at hdr
   have hrl := zf ((bJ b).2.drop k)
   have hll : ((bJ b).2.drop k).length = (aV b).2.length - k := by rw [List.length_drop, hflen]
   have hflc := zf (bJ b).2
   have hrb2 : ∀ p ∈ (bJ b).2.drop k, RB 1500 p.2 := fun p hp => hrb p (List.mem_of_mem_drop hp)
   have hcl := wY (bJ b).2 0 11
   have hcl3 := jI (aV b).2 0 11
   have hne : (bJ b).2.drop k ≠ [] := by
    intro h
    rw [h] at hll
    simp at hll
    omega
   have h13 : ∀ p ∈ (bJ b).2.drop k, RB 13000 p.2 := fun p hp => (hrb2 p hp).mono (Nat.le_of_ble_eq_true rfl)
   have hloop := asu (b := b) (s := s) (k := k) (pl := (aV b).2.length) (pc := cu (aV b).2) h13 (by omega) hne
   unfold jd at hl
   rw [hflen] at hfl hflc
   generalize (bJ b).2.drop k = rest at *
   rw [hll] at hloop hrl
   have htk2 : (dH rest).take (((aV b).2.length - k) * 2) = dH rest := List.take_of_length_le (by omega)
   unfold pD at *
   generalize fH b s = p at *
   obtain ⟨p1, p2⟩ := p
   simp only at *
   obtain ⟨g1, g2, g3, g4⟩ := hg
   have hbn : jX true false (aV b).2.length [.int .i64 (k : Int)] = some (k, (aV b).2.length) := by
    have : (k : Int) ≤ ((aV b).2.length : Int) := by omega
    simp [jX, bnd, this]
   have hb3 : k * 2 + ((aV b).2.length - k) * 2 ≤ (dH (bJ b).2).length := by omega
   have hrqz : ∀ l m, jV (fz 11) (eG l) m = some (eG l, m) := fun l m => M_ l 10 m
   have hrqc : ∀ l n, (eG l).all (D.clo n 12) = true := fun l n => OY l n 11
   have hrql := EY (rest.map Prod.snd)
   rw [List.length_map, hll] at hrql
   have htk3 : (eG (rest.map Prod.snd)).take ((aV b).2.length - k) = eG (rest.map Prod.snd) := List.take_of_length_le (by omega)
   have hkI : (k : Int) < ((aV b).2.length : Int) := by omega
   have hNk : 0 < (aV b).2.length - k := by omega
   generalize hfc : dH (bJ b).2 = fc at *
   generalize hNN : (aV b).2.length = N at *
   generalize hNNk : N - k = Nk at *
   generalize cu (aV b).2 = pc at *
   generalize dH rest = fr at *
   cases hxb : exB b s with
   | false =>
     rw [hxb] at hex
     rw [if_neg (by decide)]
     unfold oL
     rw [List.length_map, hll]
     have hc1 := fun n => hrqc (rest.map Prod.snd) n
     have hz1 := fun m => M_ (rest.map Prod.snd) 9 m
     generalize eG (rest.map Prod.snd) = rq at *
     unfold aS at *
     generalize aN b = B at *
     have htk : B.take 9 = B := List.take_of_length_le (by omega)
     refine aJ BG rfl (BA ..) ?_
     simp [x9, hl, hbc, hbl, hbd, htk, hfl, hbn, hdr, hb3, htk2, hNNk, hloop, hex, hz1, hc1, htk3, hrql]
   | true =>
     rw [hxb] at hex
     rw [if_pos rfl]
     match rest, hne with
     | x :: r, _ =>
       have hsub := uy (hrb2 x (by simp)) hpB (Nat.le_of_ble_eq_true rfl)
       simp only [List.map_cons, VG]
       simp only [List.map_cons] at *
       unfold oL
       have hl4 : ((x.2 - lX b (p1, p2)) :: r.map Prod.snd).length = Nk := by simp at hll ⊢; exact hll
       have hl5 := EY ((x.2 - lX b (p1, p2)) :: r.map Prod.snd)
       have htk5 : (eG ((x.2 - lX b (p1, p2)) :: r.map Prod.snd)).take Nk = eG ((x.2 - lX b (p1, p2)) :: r.map Prod.snd) := List.take_of_length_le (by omega)
       rw [hl4] at hl5
       rw [hl4]
       have hc1 := fun n => hrqc (r.map Prod.snd) n
       have hz1 := fun m => M_ (r.map Prod.snd) 9 m
       have hcons : ∀ q l, eG (q :: l) = bF q :: eG l := fun q l => rfl
       simp only [hcons] at *
       simp only [List.length_cons] at hl5 hrql
       generalize eG (r.map Prod.snd) = rq at *
       generalize x.2 - lX b (p1, p2) = v2 at *
       generalize lX b (p1, p2) = pv at *
       generalize x.2 = xv at *
       have hNkI : (0 : Int) < (Nk : Int) := by omega
       have hNkl : Nk ≤ rq.length + 1 := by omega
       unfold aS at *
       generalize aN b = B at *
       have htk : B.take 9 = B := List.take_of_length_le (by omega)
       refine aJ BG rfl (BA ..) ?_
       simp [x9, hl, hbc, hbl, hbd, htk, hfl, hbn, hdr, hb3, htk2, hNNk, hloop, hex, hz1, hc1, htk5, hNkl, hsub, hpay, hklt, hkI, g1, g2, g3, g4, hNk, hNkI, gX]
end Go.Ev.Code
end
section
namespace Go.Ev.Code
open Go Go.Ev
def dJ : Nat → List Rat → Nat
 | a, [] => a
 | a, r :: t => dJ (a * (r.den / Nat.gcd a r.den)) t
theorem adG {K : Nat} : ∀ {l : List Rat} {a j : Nat}, NB j a → (∀ r ∈ l, RB K r) → NB (j + K * l.length) (dJ a l)
 | [], a, j, h, _ => by simpa [dJ] using h
 | r :: t, a, j, h, hl => by
   have h1 : NB K (r.den / Nat.gcd a r.den) := (hl r (by simp)).2.le (Nat.div_le_self _ _)
   have := adG (l := t) (h.mul h1) (fun x hx => hl x (by simp [hx]))
   simp only [dJ, List.length_cons]
   refine this.mono ?_
   rw [Nat.mul_add]; omega
theorem VI : ∀ {l : List Rat} {a : Nat}, 0 < a → 0 < dJ a l
 | [], a, h => h
 | r :: t, a, h => by
   have hg : 0 < Nat.gcd a r.den := Nat.gcd_pos_of_pos_left _ h
   have hd : 0 < r.den := r.den_pos
   have hle : Nat.gcd a r.den ≤ r.den := Nat.le_of_dvd hd (Nat.gcd_dvd_right _ _)
   exact VI (l := t) (Nat.mul_pos h (Nat.div_pos hle hg))
theorem aeJ : ∀ {l : List Rat} {a : Nat}, a ∣ dJ a l
 | [], a => Nat.dvd_refl _
 | r :: t, a => Nat.dvd_trans (Nat.dvd_mul_right _ _) (aeJ (l := t))
theorem ahQ : ∀ {l : List Rat} {a : Nat}, ∀ r ∈ l, r.den ∣ dJ a l
 | [], a, r, h => by simp at h
 | x :: t, a, r, h => by
   rcases List.mem_cons.1 h with rfl | h
   ·refine Nat.dvd_trans ?_ (aeJ (l := t))
    have h1 : a * (r.den / Nat.gcd a r.den) = r.den * (a / Nat.gcd a r.den) := by
     rw [← Nat.mul_div_assoc _ (Nat.gcd_dvd_right _ _), ← Nat.mul_div_assoc _ (Nat.gcd_dvd_left _ _), Nat.mul_comm]
    rw [h1]
    exact Nat.dvd_mul_right _ _
   ·exact ahQ (l := t) r h
theorem amY {K : Nat} {all : List Rat} (hn : all.length ≤ 100000) : ∀ (rest pfx : List Rat) (a j : Nat), all = pfx ++ rest → (∀ r ∈ rest, RB K r) → NB j a → 0 < a → j + K * rest.length + K ≤ 900000 →
  L.loop [0, 4, 18, 19, 20] [0, 4] oJ 0 [oL all, intD (a : Int), oL all, .int .i64 all.length, .int .i64 pfx.length] [] = some (.exit 0, [oL all, intD ((dJ a rest : Nat) : Int)], []) := by
 intro rest
 induction rest with
 | nil =>
   intro pfx a j hal _ _ _ _
   rw [List.append_nil] at hal
   subst hal
   unfold oL
   simp only [dJ]
   generalize eG all = rc at *
   generalize all.length = N at *
   generalize (a : Int) = az at *
   refine aQ (NW ..) ?_
   simp [FH]
 | cons r t ih =>
   intro pfx a j hal hall ha h0 hK
   have hr := hall r (by simp)
   have hjK : j + K * t.length + K + K ≤ 900000 := by rw [List.length_cons, Nat.mul_add] at hK; omega
   have hjK2 : j ≤ 900000 := by omega
   have hK2 : K ≤ 900000 := by omega
   have hg0 : Nat.gcd a r.den ≠ 0 := by
    have := Nat.gcd_pos_of_pos_left r.den h0; omega
   have hgd : NB K (Nat.gcd a r.den) := hr.2.le (Nat.le_of_dvd r.den_pos (Nat.gcd_dvd_right _ _))
   have hq : NB K (r.den / Nat.gcd a r.den) := hr.2.le (Nat.div_le_self _ _)
   have h1 := JK (a : Int)
   have h2 := JK (r.den : Int)
   rw [show ((a : Int)).natAbs = a from by simp] at h1
   rw [show ((r.den : Int)).natAbs = r.den from by simp] at h2
   have h3 := VQ (ha.fit hjK2) (hr.2.fit hK2)
   have h4 := EM false (Nat.gcd a r.den)
   simp only [Bool.false_eq_true, if_false] at h4
   have h5 := Oz hr.2 hgd hK2 hK2 hg0
   have h6 := dL (IB.ofNat ha) (IB.ofNat hq) hjK2 hK2
   rw [← Int.natCast_mul] at h6
   have hden := xX r
   have hpos2 : 0 < a * (r.den / Nat.gcd a r.den) := VI (l := [r]) h0
   have hn2 := ih (pfx ++ [r]) (a * (r.den / Nat.gcd a r.den)) (j + K) (by rw [hal]; simp) (fun x hx => hall x (by simp [hx])) (ha.mul hq) hpos2 (by omega)
   rw [List.length_append, List.length_singleton, show ((pfx.length + 1 : Nat) : Int) = (pfx.length : Int) + 1 by omega] at hn2
   have hlt : pfx.length < all.length := by rw [hal]; simp
   have hget : (eG all)[pfx.length]? = some (bF r) := Ze (by rw [hal]; simp)
   have hrl := EY all
   have e1 : IntKind.i64.wrap ((pfx.length : Int) + 1) = (pfx.length : Int) + 1 := wrap64 _ (by omega)
   simp only [dJ]
   unfold oL at *
   generalize (dJ (a * (r.den / Nat.gcd a r.den)) t) = res at *
   generalize ((a * (r.den / Nat.gcd a r.den) : Nat) : Int) = a2 at *
   generalize ((r.den / Nat.gcd a r.den : Nat) : Int) = qz at *
   generalize ((r.den % Nat.gcd a r.den : Nat) : Int) = rz at *
   generalize (r.den : Int) = dz at *
   generalize (a : Int) = az at *
   generalize (Nat.gcd a r.den) = gg at *
   generalize r.den = dd at *
   generalize (gg : Int) = gz at *
   generalize eG all = rc at *
   generalize all.length = N at *
   generalize pfx.length = P at *
   have hltI : (P : Int) < N := by omega
   refine aQ (NW ..) ?_
   simp [FH, hlt, hltI, hget, hden, h1, h2, h3, h4, h5, h6, e1, hn2]
def bD (A : Nat) (l : List Rat) : List Int := l.map fun r => r.num * ((A / r.den : Nat) : Int)
def o8 (l : List Int) : List D := l.map intD
theorem adE (l : List Int) (b n : Nat) : (o8 l).all (D.clo b (n + 1)) = true := by
 unfold o8
 induction l with
 | nil => rfl
 | cons q r ih => simp only [List.map_cons, List.all_cons, ih, Bool.and_true]; rfl
theorem anl (l : List Int) (n : Nat) (m : Mem) : jV (fz (n + 1)) (o8 l) m = some (o8 l, m) := by
 unfold o8
 induction l with
 | nil => rfl
 | cons q r ih => simp [ih]
theorem akt (l : List Int) : (o8 l).length = l.length := by simp [o8]
theorem arf (l r : List Int) : o8 (l ++ r) = o8 l ++ o8 r := by simp [o8]
theorem arh {l : List Int} {i : Nat} {z : Int} (h : l[i]? = some z) : (o8 l)[i]? = some (intD z) := by simp [o8, h]
theorem amZ {K A : Nat} {all : List Rat} (hn : all.length ≤ 100000) {j : Nat} (hA : NB j A) (hj : j ≤ 900000) (hK : K ≤ 900000) (hall : ∀ r ∈ all, RB K r) : ∀ (rest pfx : List Rat), all = pfx ++ rest → pfx ≠ [] →
  L.loop [4, 11, 43, 44, 45] [4, 11] mD 0 [intD (A : Int), .bg 0 0 pfx.length 1, oL all, .int .i64 all.length, .int .i64 pfx.length] [.live (o8 (bD A pfx))] =
    some (.exit 2, [intD (A : Int), .bg 0 0 all.length 1], [.live (o8 (bD A all))]) := by
 intro rest
 induction rest with
 | nil =>
   intro pfx hal hne
   rw [List.append_nil] at hal
   subst hal
   unfold oL
   generalize eG all = rc at *
   have hic := fun n => adE (bD A all) n 11
   generalize o8 (bD A all) = ic at *
   generalize all.length = N at *
   generalize (A : Int) = az at *
   refine aQ (Fj ..) ?_
   simp [yQ, hic]
 | cons r t ih =>
   intro pfx hal hne
   have hr := hall r (by rw [hal]; simp)
   have hpos : 0 < pfx.length := List.length_pos_iff.2 hne
   have h0 : r.den ≠ 0 := r.den_nz
   have h5 := Oz hA hr.2 hj hK h0
   have hq : NB j (A / r.den) := hA.le (Nat.div_le_self _ _)
   have h6 := dL hr.num (IB.ofNat hq) hK hj
   have hden := xX r
   have hnum := JV r
   have hn2 := ih (pfx ++ [r]) (by rw [hal]; simp) (by simp)
   rw [show bD A (pfx ++ [r]) = bD A pfx ++ [r.num * ((A / r.den : Nat) : Int)] by simp [bD], arf, List.length_append, List.length_singleton, show ((pfx.length + 1 : Nat) : Int) = (pfx.length : Int) + 1 by omega, show o8 [r.num * ((A / r.den : Nat) : Int)] = [intD (r.num * ((A / r.den : Nat) : Int))] from rfl] at hn2
   have hlt : pfx.length < all.length := by rw [hal]; simp
   have hget : (eG all)[pfx.length]? = some (bF r) := Ze (by rw [hal]; simp)
   have hrl := EY all
   have hil : (o8 (bD A pfx)).length = pfx.length := by rw [akt]; simp [bD]
   have htk : (o8 (bD A pfx)).take pfx.length = o8 (bD A pfx) := List.take_of_length_le (by omega)
   have hlen : pfx.length + 1 ≤ 4294967296 := by omega
   have e1 : IntKind.i64.wrap ((pfx.length : Int) + 1) = (pfx.length : Int) + 1 := wrap64 _ (by omega)
   unfold oL at *
   generalize r.num * ((A / r.den : Nat) : Int) = v at *
   generalize ((A / r.den : Nat) : Int) = qz at *
   generalize ((A % r.den : Nat) : Int) = rz at *
   generalize (r.den : Int) = dz at *
   generalize (A : Int) = az at *
   have hpc := fun n => adE (bD A pfx) n 11
   generalize o8 (bD A pfx) = ip at *
   generalize o8 (bD A all) = ia at *
   generalize eG all = rc at *
   generalize all.length = N at *
   generalize pfx.length = P at *
   have hltI : (P : Int) < N := by omega
   refine aQ (Fj ..) ?_
   simp [yQ, hlt, hltI, hget, hden, hnum, h5, h6, e1, hn2, hil, hpc, htk, hlen, Zi, gX]
theorem aqY {K A : Nat} {all : List Rat} (hn : all.length ≤ 100000) {j : Nat} (hA : NB j A) (hj : j ≤ 900000) (hK : K ≤ 900000) (hall : ∀ r ∈ all, RB K r) (hne : all ≠ []) :
  L.loop [4, 11, 43, 44, 45] [4, 11] mD 0 [intD (A : Int), .dA, oL all, .int .i64 all.length, .int .i64 0] [] =
    some (.exit 2, [intD (A : Int), .bg 0 0 all.length 1], [.live (o8 (bD A all))]) := by
 match all, hne with
 | r :: t, _ =>
   have hr := hall r (by simp)
   have h0 : r.den ≠ 0 := r.den_nz
   have h5 := Oz hA hr.2 hj hK h0
   have hq : NB j (A / r.den) := hA.le (Nat.div_le_self _ _)
   have h6 := dL hr.num (IB.ofNat hq) hK hj
   have hden := xX r
   have hnum := JV r
   have hn2 := amZ hn hA hj hK hall t [r] rfl (by simp)
   rw [show o8 (bD A [r]) = [intD (r.num * ((A / r.den : Nat) : Int))] from rfl, List.length_singleton] at hn2
   have hlt : 0 < (r :: t).length := by simp
   have hget : (eG (r :: t))[0]? = some (bF r) := rfl
   have hrl := EY (r :: t)
   have e1 : IntKind.i64.wrap (1 : Int) = 1 := wrap64 _ (by omega)
   unfold oL at *
   generalize r.num * ((A / r.den : Nat) : Int) = v at *
   generalize ((A / r.den : Nat) : Int) = qz at *
   generalize ((A % r.den : Nat) : Int) = rz at *
   generalize hdz : (r.den : Int) = dz at *
   generalize (A : Int) = az at *
   generalize o8 (bD A (r :: t)) = ia at *
   generalize eG (r :: t) = rc at *
   generalize (r :: t).length = N at *
   have hltI : (0 : Int) < N := by omega
   refine aQ (Fj ..) ?_
   simp at hn2
   simp [yQ, hlt, hltI, hget, hden, hnum, h5, h6, e1, hn2, Zi, gX]
theorem ab_ {K : Nat} {l : List Rat} (hne : l ≠ []) (hn : l.length ≤ 100000) (hall : ∀ r ∈ l, RB K r) (hK : 1 + K * l.length + K ≤ 900000) :
  L.call vZ [oL l] = some (.aZ [.sl l.length (o8 (bD (dJ 1 l) l)), intD ((dJ 1 l : Nat) : Int)]) := by
 have h1 : NB 1 1 := by unfold NB; decide
 have hl1 := amY hn l [] 1 1 rfl hall h1 (by omega) hK
 have hA := adG h1 hall
 have hl2 := aqY hn hA (by omega) (by omega) hall hne
 have hof := l9 1 (by omega)
 simp only [List.length_nil] at hl1
 rw [show ((1 : Nat) : Int) = 1 from rfl] at hl1
 have hil : (o8 (bD (dJ 1 l) l)).length = l.length := by rw [akt]; simp [bD]
 have htk : (o8 (bD (dJ 1 l) l)).take l.length = o8 (bD (dJ 1 l) l) := List.take_of_length_le (by omega)
 have hfz := fun m => anl (bD (dJ 1 l) l) 9 m
 have hfz2 := fun m => anl (bD (dJ 1 l) l) 10 m
 have hic := fun n => adE (bD (dJ 1 l) l) n 11
 unfold oL at *
 generalize o8 (bD (dJ 1 l) l) = ic at *
 generalize ((dJ 1 l : Nat) : Int) = az at *
 generalize eG l = rc at *
 generalize l.length = N at *
 generalize hone : intD 1 = one at *
 refine aJ adb rfl (ac0 ..) ?_
 subst hone
 simp at hl1 hl2
 simp [Va, hof, hl1, hl2, hfz, hfz2, htk, hil, hic]
end Go.Ev.Code
end
section
namespace Go.Ev.Code
open Go Go.Ev
def hs (n d : Int) : List Int → Int × Int
 | [] => (0, 1)
 | a :: t => ((hs n d t).1 * d + a * (hs n d t).2, (hs n d t).2 * n)
theorem SN {n d : Int} {q k : Nat} (hn : IB q n) (hd : IB q d) : ∀ {l : List Int}, (∀ a ∈ l, IB k a) → IB (k + (q + 2) * l.length + 2) (hs n d l).1 ∧ IB (q * l.length + 1) (hs n d l).2
 | [], _ => ⟨by unfold IB NB hs; simp; exact Nat.two_pow_pos _, by unfold IB NB hs; simp⟩
 | a :: t, h => by
   have ih := SN (k := k) hn hd (l := t) (fun x hx => h x (by simp [hx]))
   have ha := h a (by simp)
   have e : (q + 2) * (t.length + 1) = (q + 2) * t.length + q + 2 := by rw [Nat.mul_add]; omega
   have e2 : q * (t.length + 1) = q * t.length + q := by rw [Nat.mul_add]; omega
   have e3 : q * t.length ≤ (q + 2) * t.length := Nat.mul_le_mul_right _ (by omega)
   simp only [hs, List.length_cons]
   refine ⟨((ih.1.mul hd).add (ha.mul ih.2)).mono ?_, (ih.2.mul hn).mono (by omega)⟩
   rw [e]
   generalize (q + 2) * t.length = X at *
   generalize q * t.length = Y at *
   omega
theorem arC {n d : Int} {q k : Nat} (hn : IB q n) (hd : IB q d) {as : List Int} (hall : ∀ a ∈ as, IB k a) (hK : k + (q + 2) * as.length + 2 + q ≤ 900000) (hlen : as.length ≤ 100000) (Z : D) (hZ : ∃ z, Z = intD z) : ∀ (c : Nat), c < as.length →
  L.loop [1, 2, 8, 9, 10, 11, 12] [9, 10, 11] je 0 [intD n, intD d, .sl as.length (o8 as), Z, intD (hs n d (as.drop (c + 1))).1, intD (hs n d (as.drop (c + 1))).2, .int .i64 c] [] =
    some (.exit 0, [Z, intD (hs n d as).1, intD (hs n d as.tail).2], []) := by
 obtain ⟨z, rfl⟩ := hZ
 have hstop : ∀ s p : Int, L.loop [1, 2, 8, 9, 10, 11, 12] [9, 10, 11] je 0 [intD n, intD d, .sl as.length (o8 as), intD z, intD s, intD p, .int .i64 (-1)] [] = some (.exit 0, [intD z, intD s, intD p], []) := by
  intro s p
  generalize o8 as = ic at *
  generalize as.length = N at *
  refine aQ (Fp ..) ?_
  simp [yR]
 have hb : ∀ t : List Int, (∀ a ∈ t, IB k a) → t.length ≤ as.length → IB (k + (q + 2) * as.length + 2) (hs n d t).1 ∧ IB (q * as.length + 1) (hs n d t).2 := by
  intro t ht hl
  have := SN (k := k) hn hd (l := t) ht
  have e1 : (q + 2) * t.length ≤ (q + 2) * as.length := Nat.mul_le_mul_left _ hl
  have e2 : q * t.length ≤ q * as.length := Nat.mul_le_mul_left _ hl
  exact ⟨this.1.mono (by omega), this.2.mono (by omega)⟩
 have e3 : q * as.length ≤ (q + 2) * as.length := Nat.mul_le_mul_right _ (by omega)
 have hstep : ∀ (c : Nat) (a : Int), c < as.length → as[c]? = some a → ∀ r,
   (if 0 < c then L.loop [1, 2, 8, 9, 10, 11, 12] [9, 10, 11] je 0 [intD n, intD d, .sl as.length (o8 as), intD z, intD ((hs n d (as.drop (c + 1))).1 * d + a * (hs n d (as.drop (c + 1))).2), intD ((hs n d (as.drop (c + 1))).2 * n), .int .i64 ((c : Int) - 1)] []
    else L.loop [1, 2, 8, 9, 10, 11, 12] [9, 10, 11] je 0 [intD n, intD d, .sl as.length (o8 as), intD z, intD ((hs n d (as.drop (c + 1))).1 * d + a * (hs n d (as.drop (c + 1))).2), intD (hs n d (as.drop (c + 1))).2, .int .i64 (-1)] []) = some r →
   L.loop [1, 2, 8, 9, 10, 11, 12] [9, 10, 11] je 0 [intD n, intD d, .sl as.length (o8 as), intD z, intD (hs n d (as.drop (c + 1))).1, intD (hs n d (as.drop (c + 1))).2, .int .i64 c] [] = some r := by
  intro c a hc hget r hr
  have hmem : a ∈ as := List.mem_of_getElem? hget
  have hbd := hb (as.drop (c + 1)) (fun x hx => hall x (List.mem_of_mem_drop hx)) (by rw [List.length_drop]; omega)
  have ha := hall a hmem
  have m1 := dL hbd.1 hd (by omega) (by omega)
  have m2 := dL ha hbd.2 (by omega) (by omega)
  have m3 := qP (hbd.1.mul hd) (ha.mul hbd.2) (by omega) (by omega)
  have m4 := dL hbd.2 hn (by omega) (by omega)
  have hg := arh hget
  have e1 : IntKind.i64.wrap ((c : Int) - 1) = (c : Int) - 1 := wrap64 _ (by omega)
  generalize (hs n d (as.drop (c + 1))).1 * d + a * (hs n d (as.drop (c + 1))).2 = s2 at *
  generalize (hs n d (as.drop (c + 1))).1 * d = s1 at *
  generalize a * (hs n d (as.drop (c + 1))).2 = s3 at *
  generalize (hs n d (as.drop (c + 1))).2 * n = p2 at *
  generalize (hs n d (as.drop (c + 1))).2 = p0 at *
  generalize (hs n d (as.drop (c + 1))).1 = s0 at *
  generalize o8 as = ic at *
  generalize as.length = N at *
  have hcI : (c : Int) < N := by omega
  by_cases h0 : 0 < c
  ·rw [if_pos h0] at hr
   have h0I : (0 : Int) < c := by omega
   refine aQ (Fp ..) ?_
   simp [yR, hc, hcI, hg, m1, m2, m3, m4, h0, h0I, e1, hr]
  ·rw [if_neg h0] at hr
   obtain rfl : c = 0 := by omega
   have e2 : IntKind.i64.wrap (-1) = -1 := wrap64 _ (by omega)
   refine aQ (Fp ..) ?_
   simp [yR, hc, hcI, hg, m1, m2, m3, m4, e2, hr]
 intro c
 induction c with
 | zero =>
   intro hc
   have hget := List.getElem?_eq_getElem (l := as) (i := 0) hc
   refine hstep 0 _ hc hget _ ?_
   rw [if_neg (by omega), hstop]
   match as, hc with
   | a :: t, _ => rfl
 | succ c ih =>
   intro hc
   have hget := List.getElem?_eq_getElem (l := as) (i := c + 1) hc
   refine hstep (c + 1) _ hc hget _ ?_
   rw [if_pos (by omega)]
   have hi := ih (by omega)
   have hd2 : as.drop (c + 1) = as[c + 1] :: as.drop (c + 1 + 1) := List.drop_eq_getElem_cons hc
   rw [hd2] at hi
   simp only [hs] at hi
   rw [show ((c + 1 : Nat) : Int) - 1 = (c : Int) by omega]
   exact hi
theorem VR {A : Nat} {j K : Nat} (hA : NB j A) {l : List Rat} (hall : ∀ r ∈ l, RB K r) : ∀ a ∈ bD A l, IB (K + j) a := by
 intro a ha
 unfold bD at ha
 obtain ⟨r, hr, rfl⟩ := List.mem_map.1 ha
 exact (hall r hr).num.mul (IB.ofNat (hA.le (Nat.div_le_self _ _)))
theorem acd {K q : Nat} {l : List Rat} (hne : l ≠ []) (hn : l.length ≤ 100000) (hall : ∀ r ∈ l, RB K r) {n d : Int} (hn2 : IB q n) (hd : IB q d) (hK : K + (1 + K * l.length) + (q + 2) * l.length + 2 + q ≤ 900000) :
  L.call wo [oL l, intD n, intD d] = some (.aZ [intD (hs n d (bD (dJ 1 l) l)).1, intD (((dJ 1 l : Nat) : Int) * (hs n d (bD (dJ 1 l) l).tail).2)]) := by
 have h1 : NB 1 1 := by unfold NB; decide
 have hA := adG h1 hall
 have hcom := ab_ hne hn hall (by omega)
 have hlen : (bD (dJ 1 l) l).length = l.length := by simp [bD]
 have hab := VR hA hall
 have hpos : 0 < l.length := List.length_pos_iff.2 hne
 obtain ⟨c, hc⟩ : ∃ c, l.length = c + 1 := ⟨l.length - 1, by omega⟩
 have hloop := arC hn2 hd hab (by rw [hlen]; exact hK) (by omega) (intD ((dJ 1 l : Nat) : Int)) ⟨_, rfl⟩ c (by omega)
 have hdr : (bD (dJ 1 l) l).drop (c + 1) = [] := List.drop_eq_nil_of_le (by omega)
 rw [hdr] at hloop
 simp only [hs] at hloop
 have htb := (SN hn2 hd (l := (bD (dJ 1 l) l).tail) (fun a ha => hab a (List.mem_of_mem_tail ha))).2
 have htl : (bD (dJ 1 l) l).tail.length ≤ l.length := by rw [List.length_tail, hlen]; omega
 have e2 : q * (bD (dJ 1 l) l).tail.length ≤ (q + 2) * l.length := Nat.mul_le_mul (by omega) htl
 have hm := dL (IB.ofNat hA) htb (by omega) (by omega)
 have o0 := l9 0 (by omega)
 have o1 := l9 1 (by omega)
 rw [hlen] at hloop
 have e1 : IntKind.i64.wrap ((l.length : Int) - 1) = (c : Int) := by rw [wrap64 _ (by omega)]; omega
 generalize hs n d (bD (dJ 1 l) l) = r at *
 generalize ((dJ 1 l : Nat) : Int) * (hs n d (bD (dJ 1 l) l).tail).2 = v at *
 generalize (hs n d (bD (dJ 1 l) l).tail).2 = p at *
 generalize o8 (bD (dJ 1 l) l) = ic at *
 generalize ((dJ 1 l : Nat) : Int) = az at *
 unfold oL at *
 generalize eG l = rc at *
 generalize l.length = N at *
 generalize hz0 : intD 0 = zero at *
 generalize hz1 : intD 1 = one at *
 subst hz0 hz1
 refine aJ ade rfl (ac1 ..) ?_
 simp [Vb, hcom, o0, o1, e1, hloop, hm]
end Go.Ev.Code
end
