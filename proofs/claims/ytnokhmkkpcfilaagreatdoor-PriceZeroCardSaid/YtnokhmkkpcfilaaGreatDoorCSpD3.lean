/- A part of the proof of flowSum_card, flowParts_card, flowEx_card, accrWhole_card, priceZero_card. -/
import Derived.Test.YtnokhmkkpcfilaaGreatDoorCSpD2
import Derived.Test.YtnokhmkkpcfilaaGreatDoorCSpD1
set_option linter.unusedVariables false
set_option linter.unusedSimpArgs false
section
namespace Go.Ev.Code
open Go Go.Ev
def dw : List (Int × Rat) → List D
 | [] => []
 | (d, q) :: r => .int .i64 d :: .str (xM q) :: dw r
theorem Jp (l r : List (Int × Rat)) : dw (l ++ r) = dw l ++ dw r := by
 induction l with
 | nil => rfl
 | cons x xs ih => obtain ⟨a, b⟩ := x; simp [dw, ih]
theorem CX (l : List (Int × Rat)) : (dw l).length = l.length * 2 := by
 induction l with
 | nil => rfl
 | cons x xs ih => obtain ⟨a, b⟩ := x; simp [dw, ih]; omega
theorem vM (l : List (Int × Rat)) (b n : Nat) : (dw l).all (D.clo b (n + 1)) = true := by
 induction l with
 | nil => rfl
 | cons x xs ih => obtain ⟨p, q⟩ := x; simp [dw]; simpa using ih
theorem XT (l : List (Int × Rat)) (n : Nat) (m : Mem) : jV (fz (n + 1)) (dw l) m = some (dw l, m) := by
 induction l with
 | nil => rfl
 | cons x xs ih => obtain ⟨a, b⟩ := x; simp [dw, ih]
def AV (l : List (Int × Rat)) : D := .sl l.length (dw l)
def iG (each red : Rat) : List (Int × Int) → List (Int × Rat)
 | [] => []
 | [p] => [(p.2, each + red)]
 | p :: q :: r => (p.2, each) :: iG each red (q :: r)
def sK (pay each red : Rat) : List (Int × Int) → List (Int × Rat)
 | [] => []
 | [p] => [(p.2, pay + red)]
 | p :: q :: r => (p.2, pay) :: iG each red (q :: r)
theorem adG (each red : Rat) : ∀ l : List (Int × Int), (iG each red l).length = l.length
 | [] => rfl
 | [_] => rfl
 | _ :: q :: r => by simp [iG, adG each red (q :: r)]
theorem KQ (pay each red : Rat) (l : List (Int × Int)) : (sK pay each red l).length = l.length := by
 match l with
 | [] => rfl
 | [_] => rfl
 | _ :: q :: r => simp [sK, adG]
set_option maxHeartbeats 2000000 in
theorem of_rest {b : aN} {pre : Mem} {k : Nat} (hpre : (pre = [] ∧ k = 0) ∨ (pre = [.live (aS b)] ∧ k = 1)) (hc : b.d_.length ≤ 1000000) (hr : b.eH.length ≤ 1000000) {each : Rat} {j : Nat} (hE : RB j each) (hj : 1 ≤ j) (hj2 : j ≤ 400000)
  {ps : List (Int × Int)} (hn : ps.length ≤ 100000) : ∀ (rest pfx : List (Int × Int)) (acc : List (Int × Rat)), ps = pfx ++ rest → pfx ≠ [] → acc.length = pfx.length →
  L.loop [1, 4, 6, 7, 21, 22, 23] [2, 3, 7] nV (k + 1) [.loc k 0, fZ ps, bZ each, .bg (k + 1) 0 acc.length 2, fZ ps, .int .i64 ps.length, .int .i64 pfx.length] (pre ++ [.live (aS b), .live (dw acc)]) =
    some (.exit 0, [.undef, .undef, .bg (k + 1) 0 ps.length 2], pre ++ [.live (aS b), .live (dw (acc ++ iG each (iU b) rest))]) := by
 have hbc := fun n => iw b n
 have hbl := mQ b
 have hbd := mP b 0 10
 have hbr := yc hc hr
 have hadd := sU hE (Eu b) (by omega)
 have ht1 := xG hE (by omega) hj
 have ht2 := xG (hE.add (Eu b)) (by omega) (by omega)
 intro rest
 induction rest with
 | nil =>
   intro pfx acc hal hne hl
   rw [List.append_nil] at hal
   subst hal
   have hfc := fun n => vM acc n 11
   rw [hl]
   unfold fZ
   simp only [iG, List.append_nil]
   generalize aS b = B at *
   generalize dw acc = fc at *
   generalize bT ps = pc at *
   generalize ps.length = n at *
   rcases hpre with ⟨rfl, rfl⟩ | ⟨rfl, rfl⟩
   ·refine aQ (jJ ..) ?_
    simp [ji, hbc, hfc]
   ·refine aQ (jJ ..) ?_
    simp [ji, hbc, hfc]
 | cons p rest ih =>
   intro pfx acc hal hne hl
   have hfc := fun n => vM acc n 11
   have hfl := CX acc
   have hpos : 0 < pfx.length := List.length_pos_iff.2 hne
   have hg := pJ (ps := ps) (i := pfx.length) (p := p) (by rw [hal]; simp)
   have hlt : pfx.length < ps.length := by rw [hal]; simp
   have hlast : (pfx.length : Int) = (ps.length : Int) - 1 ↔ rest = [] := by
    have : ps.length = pfx.length + 1 + rest.length := by rw [hal]; simp; omega
    constructor
    ·intro h; exact List.eq_nil_of_length_eq_zero (by omega)
    ·rintro rfl; simp at this; omega
   have hstep : ∀ (a : Rat), a = (if rest = [] then each + iU b else each) →
     (∀ r, L.loop [1, 4, 6, 7, 21, 22, 23] [2, 3, 7] nV (k + 1) [.loc k 0, fZ ps, bZ each, .bg (k + 1) 0 (acc.length + 1) 2, fZ ps, .int .i64 ps.length, .int .i64 ((pfx.length + 1 : Nat) : Int)] (pre ++ [.live (aS b), .live (dw acc ++ [.int .i64 p.2, .str (xM a)])]) = some r →
      L.loop [1, 4, 6, 7, 21, 22, 23] [2, 3, 7] nV (k + 1) [.loc k 0, fZ ps, bZ each, .bg (k + 1) 0 acc.length 2, fZ ps, .int .i64 ps.length, .int .i64 pfx.length] (pre ++ [.live (aS b), .live (dw acc)]) = some r) := by
    intro a ha r hr
    have e1 : IntKind.i64.wrap ((pfx.length : Int) + 1) = ((pfx.length + 1 : Nat) : Int) := by rw [wrap64 _ (by omega)]; omega
    have e2 : IntKind.i64.wrap ((ps.length : Int) - 1) = (ps.length : Int) - 1 := wrap64 _ (by omega)
    have hlen : acc.length + 1 ≤ 4294967296 := by omega
    have htk : (dw acc).take (acc.length * 2) = dw acc := List.take_of_length_le (by omega)
    have hP0 : ¬ (pfx.length : Int) = 0 := by omega
    have hP0N : ¬ pfx.length = 0 := by omega
    obtain ⟨p1, p2⟩ := p
    simp only at *
    unfold fZ at *
    obtain ⟨g1, g2, g3, g4⟩ := hg
    generalize hfcq : dw acc = fc at *
    generalize acc.length = A at *
    by_cases hrest : rest = []
    ·have hi := hlast.2 hrest
     rw [if_pos hrest] at ha
     subst ha
     generalize each + iU b = es at *
     generalize iU b = rd at *
     unfold bf at hbr
     generalize aS b = B at *
     have htkB : B.take 9 = B := List.take_of_length_le (by omega)
     generalize bT ps = pc at *
     generalize ps.length = N at *
     generalize pfx.length = P at *
     have hltI : (P : Int) < N := by omega
     have hi' : (N : Int) - 1 = P := by omega
     have e2' : IntKind.i64.wrap (P : Int) = P := wrap64 _ (by omega)
     rcases hpre with ⟨rfl, rfl⟩ | ⟨rfl, rfl⟩
     ·refine aQ (jJ ..) ?_
      simp at hr
      simp [ji, hlt, hltI, g1, g2, g3, g4, hP0, hP0N, e1, e2, e2', hi', hbc, hbl, hbd, htkB, hbr, hadd, ht2, vV, hfc, hfl, htk, hlen, hr, kV]
     ·refine aQ (jJ ..) ?_
      simp at hr
      simp [ji, hlt, hltI, g1, g2, g3, g4, hP0, hP0N, e1, e2, e2', hi', hbc, hbl, hbd, htkB, hbr, hadd, ht2, vV, hfc, hfl, htk, hlen, hr, kV]
    ·have hi : ¬ (pfx.length : Int) = (ps.length : Int) - 1 := fun h => hrest (hlast.1 h)
     rw [if_neg hrest] at ha
     subst ha
     generalize aS b = B at *
     generalize bT ps = pc at *
     generalize ps.length = N at *
     generalize pfx.length = P at *
     have hltI : (P : Int) < N := by omega
     rcases hpre with ⟨rfl, rfl⟩ | ⟨rfl, rfl⟩
     ·refine aQ (jJ ..) ?_
      simp at hr
      simp [ji, hlt, hltI, g1, g2, g3, g4, hP0, hP0N, e1, e2, hi, hbc, hbl, hbd, ht1, vV, hfc, hfl, htk, hlen, hr, kV]
     ·refine aQ (jJ ..) ?_
      simp at hr
      simp [ji, hlt, hltI, g1, g2, g3, g4, hP0, hP0N, e1, e2, hi, hbc, hbl, hbd, ht1, vV, hfc, hfl, htk, hlen, hr, kV]
   have hn2 := ih (pfx ++ [p]) (acc ++ [(p.2, if rest = [] then each + iU b else each)]) (by rw [hal]; simp) (by simp) (by simp [hl])
   rw [Jp, Jp, show dw [(p.2, if rest = [] then each + iU b else each)] = [.int .i64 p.2, .str (xM (if rest = [] then each + iU b else each))] from rfl, List.length_append, List.length_append, List.length_singleton, List.length_singleton] at hn2
   have := hstep _ rfl _ hn2
   rw [this]
   have hE2 : dw (acc ++ iG each (iU b) (p :: rest)) = dw acc ++ [.int .i64 p.2, .str (xM (if rest = [] then each + iU b else each))] ++ dw (iG each (iU b) rest) := by
    rw [Jp]
    cases rest with
    | nil => simp [iG, dw]
    | cons q r => simp [iG, dw]
   rw [hE2, Jp acc]
   rfl
def bn (b : aN) : Er × List (Int × Rat) := match (aK b).1 with
 | some e => (anZ (some e), [])
 | none => match (aK b).2 with
   | [] => (none, [])
   | p :: r => match Ap b p with
     | .error c => (some (c, none), [])
     | .ok q => (none, sK q (gJ b) (iU b) (p :: r))
theorem lJ {b : aN} (h : (aK b).1 = none) {p : Int × Int} (hp : p ∈ (aK b).2) : bQ p.1 ∧ bQ p.2 ∧ p.1 < p.2 := by
 have hw := eG h
 obtain ⟨i, hi⟩ := List.getElem?_of_mem hp
 have hlt := hw.2.ord i p hi
 have hchk := hw.1
 obtain ⟨z1, z2, z3⟩ := He (dM hchk).1
 have hraw : ∀ {i : Nat} {q : Int × Int}, (iq b)[i]? = some q → bQ q.1 ∧ bQ q.2 := by
  intro i q hq
  have hl : i < cO b := by rw [← xH]; exact (List.getElem?_eq_some_iff.1 hq).1
  rw [yH hl] at hq
  simp at hq
  subst hq
  have hd : ∀ n : Nat, bQ (((anch b n).getD 0 : Nat) : Int) := by
   intro n
   cases ha : anch b n with
   | none => exact ⟨by simp, by simp⟩
   | some a => simpa using TR ha
  refine ⟨?_, hd _⟩
  simp only
  split
  ·exact z1
  ·exact hd _
 have : bQ p.1 ∧ bQ p.2 := by
  unfold aK at hi
  rw [hchk] at hi
  simp only at hi
  split at hi
  ·exact hraw hi
  ·split at hi
   ·simp at hi
   ·split at hi
    ·split at hi
     ·rename_i x q r hx
      cases i with
      | zero =>
        simp at hi
        subst hi
        have := hraw (i := 1) (q := q) (by rw [hx]; rfl)
        exact ⟨z1, this.2⟩
      | succ i =>
        simp at hi
        exact hraw (i := i + 2) (q := p) (by rw [hx]; simpa using hi)
     ·exact hraw hi
    ·exact hraw hi
 exact ⟨this.1, this.2, hlt⟩
def callOf (k : Nat) (pre : Mem) : Er × List (Int × Rat) → D × Mem
 | (some e, _) => (.aZ [.dA, jc (some e)], pre)
 | (none, fs) => (.aZ [.bg k 0 fs.length 2, .aF], pre ++ [.live (dw fs)])
set_option maxHeartbeats 1000000 in
theorem YC {b : aN} {pre : Mem} {k : Nat} (hpre : (pre = [] ∧ k = 0) ∨ (pre = [.live (aS b)] ∧ k = 1)) (hc : b.d_.length ≤ 1000000) (hr : b.eH.length ≤ 1000000) :
  L.bF vN [bf b] pre = some (callOf k pre (bn b)) := by
 have hpl := qw hc hr
 have hbc := fun n => iw b n
 have hbl := mQ b
 have hbd := mP b 0 10
 unfold qp at hpl
 cases hp : (aK b).1 with
 | some e =>
   rw [hp] at hpl
   unfold bn
   rw [hp]
   obtain ⟨ec, es⟩ := e
   simp [dK, fQ] at hpl
   simp only [anZ, callOf, jc]
   unfold fZ at hpl
   have hcl := jC (aK b).2 0 11
   unfold bf at hpl ⊢
   generalize aS b = B at *
   have htkB : B.take 9 = B := List.take_of_length_le (by omega)
   generalize (aK b).2.length = pn at *
   generalize bT (aK b).2 = pc at *
   rcases hpre with ⟨rfl, rfl⟩ | ⟨rfl, rfl⟩
   ·refine mV Gy rfl (Gx ..) ?_
    simp [BQ, hpl, hbc, hbl, hbd, htkB, fQ]
   ·refine mV Gy rfl (Gx ..) ?_
    simp [BQ, hpl, hbc, hbl, hbd, htkB, fQ]
 | none =>
   have hw := eG hp
   have hchk := hw.1
   have hf := jm (dM hchk).2.1
   have hreg := QG hf hc hr
   rw [hp] at hpl
   simp only [dK] at hpl
   unfold bn
   rw [hp]
   simp only
   have hdays := fun {p} h => lJ hp (p := p) h
   have hplen := hw.2.len
   have hpne := hw.2.ne
   cases hps : (aK b).2 with
   | nil => exact absurd hps hpne
   | cons p r =>
     obtain ⟨d1, d2, d3⟩ := hdays (p := p) (by rw [hps]; simp)
     have hpay := Kw hp hc hr d1 d2 d3
     rw [hps] at hpl hplen
     simp only
     have hlen1 : (p :: r).length = r.length + 1 := rfl
     cases hpb : Ap b p with
     | error c =>
       rw [hpb] at hpay
       simp only [AX] at hpay
       simp only [callOf, jc]
       have hg := pJ (ps := p :: r) (i := 0) (p := p) rfl
       have hcl := jC (p :: r) 0 11
       unfold pD at hpay
       obtain ⟨p1, p2⟩ := p
       simp only at *
       obtain ⟨g1, g2, g3, g4⟩ := hg
       simp only [Nat.zero_mul, Nat.zero_add, List.drop_zero] at g1 g2 g3 g4
       unfold fZ at hpl
       generalize gJ b = rp at *
       generalize bT ((p1, p2) :: r) = pc at *
       generalize hN : ((p1, p2) :: r).length = N at *
       have hN0 : 0 < N := by omega
       have hN0I : (0 : Int) < N := by omega
       unfold bf at hpl hreg hpay ⊢
       generalize aS b = B at *
       have htkB : B.take 9 = B := List.take_of_length_le (by omega)
       have hlp : L.loop [1, 4, 6, 7, 21, 22, 23] [2, 3, 7] nV (k + 1) [.loc k 0, .sl N pc, bZ rp, .dA, .sl N pc, .int .i64 N, .int .i64 0] (pre ++ [.live B]) = some (.ret, [.dA, yj c, .dA], pre ++ [.live B]) := by
        rcases hpre with ⟨rfl, rfl⟩ | ⟨rfl, rfl⟩
        ·refine aQ (jJ ..) ?_
         simp [ji, hN0, hN0I, g1, g2, g3, g4, hbc, hbl, hbd, htkB, hpay, kV]
        ·refine aQ (jJ ..) ?_
         simp [ji, hN0, hN0I, g1, g2, g3, g4, hbc, hbl, hbd, htkB, hpay, kV]
       rcases hpre with ⟨rfl, rfl⟩ | ⟨rfl, rfl⟩
       ·simp at hlp
        refine mV Gy rfl (Gx ..) ?_
        simp [BQ, hpl, hbc, hbl, hbd, htkB, hreg, hlp]
       ·simp at hlp
        refine mV Gy rfl (Gx ..) ?_
        simp [BQ, hpl, hbc, hbl, hbd, htkB, hreg, hlp]
     | ok q =>
       rw [hpb] at hpay
       simp only [AX] at hpay
       simp only [callOf]
       have hqB := XZ hchk d1 d2 hpb (fun l hl => (vS hchk d2 hl).2)
       have hrest := of_rest hpre hc hr (K_ hf) (by omega) (by omega) (ps := p :: r) (by omega) r [p] [(p.2, if r = [] then q + iU b else q)] rfl (by simp) rfl
       have hfl : dw ([(p.2, if r = [] then q + iU b else q)] ++ iG (gJ b) (iU b) r) = dw (sK q (gJ b) (iU b) (p :: r)) := by
        cases r with
        | nil => simp [sK, iG, dw]
        | cons p2 r2 => simp [sK, dw]
       rw [hfl] at hrest
       have hfll := KQ q (gJ b) (iU b) (p :: r)
       have hfcl := fun n => vM (sK q (gJ b) (iU b) (p :: r)) n 11
       rw [hfll]
       generalize dw (sK q (gJ b) (iU b) (p :: r)) = FC at *
       have hg := pJ (ps := p :: r) (i := 0) (p := p) rfl
       have hcl := jC (p :: r) 0 11
       have hbr := yc hc hr
       have hadd := sU hqB (Eu b) (by omega)
       have ht1 := xG hqB (by omega) (by omega)
       have ht2 := xG (hqB.add (Eu b)) (by omega) (by omega)
       unfold pD at hpay
       obtain ⟨p1, p2⟩ := p
       simp only at *
       obtain ⟨g1, g2, g3, g4⟩ := hg
       simp only [Nat.zero_mul, Nat.zero_add, List.drop_zero] at g1 g2 g3 g4
       unfold fZ at hpl hrest
       simp only [dw, List.length_singleton] at hrest
       generalize bT ((p1, p2) :: r) = pc at *
       generalize hN : ((p1, p2) :: r).length = N at *
       have hN0 : 0 < N := by omega
       have hN0I : (0 : Int) < N := by omega
       have e2 : IntKind.i64.wrap ((N : Int) - 1) = (N : Int) - 1 := wrap64 _ (by omega)
       have hlp : L.loop [1, 4, 6, 7, 21, 22, 23] [2, 3, 7] nV (k + 1) [.loc k 0, .sl N pc, bZ (gJ b), .dA, .sl N pc, .int .i64 N, .int .i64 0] (pre ++ [.live (aS b)]) = some (.exit 0, [.undef, .undef, .bg (k + 1) 0 N 2], pre ++ [.live (aS b), .live FC]) := by
        generalize gJ b = rp at *
        by_cases hr0 : r = []
        ·subst hr0
         simp at hN
         subst hN
         rw [if_pos rfl] at hrest
         generalize q + iU b = qs at *
         generalize iU b = rd at *
         unfold bf at hpl hreg hpay hbr
         generalize aS b = B at *
         have htkB : B.take 9 = B := List.take_of_length_le (by omega)
         rcases hpre with ⟨rfl, rfl⟩ | ⟨rfl, rfl⟩
         ·simp at hrest
          refine aQ (jJ ..) ?_
          simp [ji, g1, g2, g3, g4, hbc, hbl, hbd, htkB, hpay, hbr, hadd, ht2, vV, wrap64, hrest, kV]
         ·simp at hrest
          refine aQ (jJ ..) ?_
          simp [ji, g1, g2, g3, g4, hbc, hbl, hbd, htkB, hpay, hbr, hadd, ht2, vV, wrap64, hrest, kV]
        ·rw [if_neg hr0] at hrest
         have hrl : 0 < r.length := List.length_pos_iff.2 hr0
         have hN1 : ¬ (0 : Int) = (N : Int) - 1 := by omega
         have hN1' : ¬ (N : Int) - 1 = 0 := by omega
         unfold bf at hpl hreg hpay
         generalize aS b = B at *
         have htkB : B.take 9 = B := List.take_of_length_le (by omega)
         rcases hpre with ⟨rfl, rfl⟩ | ⟨rfl, rfl⟩
         ·simp at hrest
          refine aQ (jJ ..) ?_
          simp [ji, hN0, hN0I, g1, g2, g3, g4, hbc, hbl, hbd, htkB, hpay, e2, hN1, hN1', ht1, vV, wrap64, hrest, kV]
         ·simp at hrest
          refine aQ (jJ ..) ?_
          simp [ji, hN0, hN0I, g1, g2, g3, g4, hbc, hbl, hbd, htkB, hpay, e2, hN1, hN1', ht1, vV, wrap64, hrest, kV]
       generalize gJ b = rp at *
       unfold bf at hpl hreg hpay ⊢
       generalize aS b = B at *
       have htkB : B.take 9 = B := List.take_of_length_le (by omega)
       rcases hpre with ⟨rfl, rfl⟩ | ⟨rfl, rfl⟩
       ·simp at hlp
        refine mV Gy rfl (Gx ..) ?_
        simp [BQ, hpl, hbc, hbl, hbd, htkB, hreg, hlp, hfcl]
       ·simp at hlp
        refine mV Gy rfl (Gx ..) ?_
        simp [BQ, hpl, hbc, hbl, hbd, htkB, hreg, hlp, hfcl]
def xQ (r : Er × List (Int × Rat)) : D := .aZ [AV r.2, jc r.1]
theorem al_ {b : aN} {e : Int × Option (List UInt8)} (h : (bn b).1 = some e) : (bn b).2 = [] := by
 unfold bn at *
 split
 ·rfl
 ·rename_i h0
  rw [h0] at h
  simp only at h
  split
  ·rfl
  ·rename_i p r hps
   rw [hps] at h
   simp only at h
   split at h
   ·rfl
   ·simp at h
theorem aaw {b : aN} (hc : b.d_.length ≤ 1000000) (hr : b.eH.length ≤ 1000000) : L.call vN [bf b] = some (xQ (bn b)) := by
 have h := YC (b := b) (pre := []) (k := 0) (.inl ⟨rfl, rfl⟩) hc hr
 have he := fun {e} => @al_ b e
 unfold xQ AV
 cases hr : bn b with
 | mk e fs =>
   rw [hr] at h he
   have hfz : ∀ m, jV (fz 10) (dw fs) m = some (dw fs, m) := fun m => XT fs 9 m
   have hlen := CX fs
   have htk : (dw fs).take (fs.length * 2) = dw fs := List.take_of_length_le (by omega)
   cases e with
   | some e =>
     have := he rfl
     simp only at this
     subst this
     refine vY h ?_
     rcases e with ⟨c, _ | s⟩ <;> simp [jc, fQ, dw]
   | none =>
     refine vY h ?_
     generalize dw fs = fc at *
     simp [jc, hfz, hlen, htk]
end Go.Ev.Code
end
section
namespace Go.Ev.Code
open Go Go.Ev
theorem Jq : ∀ {l : List (Int × Rat)} {i : Nat} {p : Int × Rat}, l[i]? = some p → (dw l)[i * 2]? = some (.int .i64 p.1) ∧ (dw l)[i * 2 + 1]? = some (.str (xM p.2)) ∧ i * 2 + 2 ≤ (dw l).length
 | [], i, p, h => by simp at h
 | (a, b) :: r, 0, p, h => by simp at h; subst h; simp [dw]
 | (a, b) :: r, i + 1, p, h => by
   simp at h
   have := Jq h
   rw [show (i + 1) * 2 = i * 2 + 1 + 1 by omega]
   simp only [dw, List.getElem?_cons_succ, List.length_cons]
   exact ⟨this.1, this.2.1, by omega⟩
theorem amk {b : aN} {s : Int} (fs : List (Int × Rat)) : ∀ (l done : List (Int × Rat)), fs = done ++ l → (∃ p ∈ l, s < p.1) →
  L.loop [1, 2, 6] [1, 2, 6] uz 2 [.int .i64 s, .loc 0 0, .bg 1 (done.length * 2) l.length 2] [.live (aS b), .live (dw fs)] =
    some (.exit 0, [.int .i64 s, .loc 0 0, .bg 1 ((fs.length - (l.dropWhile fun p => decide (p.1 ≤ s)).length) * 2) (l.dropWhile fun p => decide (p.1 ≤ s)).length 2], [.live (aS b), .live (dw fs)]) := by
 have hbc := fun n => iw b n
 have hfc := fun n => vM fs n 11
 intro l
 induction l with
 | nil => intro done _ h; obtain ⟨p, hp, _⟩ := h; simp at hp
 | cons p r ih =>
   intro done hal hex
   have hg := Jq (l := fs) (i := done.length) (p := p) (by rw [hal]; simp)
   have hlen : fs.length = done.length + (r.length + 1) := by rw [hal]; simp
   by_cases hp : p.1 ≤ s
   ·have hex' : ∃ q ∈ r, s < q.1 := by
     obtain ⟨q, hq, hs⟩ := hex
     rcases List.mem_cons.1 hq with rfl | hq
     ·omega
     ·exact ⟨q, hq, hs⟩
    have hn := ih (done ++ [p]) (by rw [hal]; simp) hex'
    have hdw : (p :: r).dropWhile (fun p => decide (p.1 ≤ s)) = r.dropWhile (fun p => decide (p.1 ≤ s)) := by simp [List.dropWhile, hp]
    rw [hdw]
    rw [List.length_append, List.length_singleton] at hn
    have e1 : (done.length + 1) * 2 = done.length * 2 + 2 := by omega
    rw [e1] at hn
    obtain ⟨g1, g2, g3⟩ := hg
    generalize (r.dropWhile fun p => decide (p.1 ≤ s)).length = R at *
    generalize (fs.length - R) * 2 = R2 at *
    have hbn : nH true false (r.length + 1) [.int .i64 1] = some (1, r.length + 1) := by
     have : (1 : Int) ≤ (r.length : Int) + 1 := by omega
     simp [nH, bnd, this]
    rw [List.length_cons]
    generalize dw fs = fc at *
    generalize done.length * 2 = D2 at *
    generalize r.length = rl at *
    generalize aS b = B at *
    have hpos : (0 : Int) < (rl : Int) + 1 := by omega
    refine aQ (RS ..) ?_
    simp [JF, hpos, g1, hp, hbn, hbc, hfc, hn]
   ·have hdw : (p :: r).dropWhile (fun p => decide (p.1 ≤ s)) = p :: r := by simp [List.dropWhile, hp]
    rw [hdw, show (fs.length - (p :: r).length) * 2 = done.length * 2 by rw [List.length_cons]; omega]
    obtain ⟨g1, g2, g3⟩ := hg
    rw [List.length_cons]
    generalize dw fs = fc at *
    generalize done.length * 2 = D2 at *
    generalize r.length = rl at *
    generalize aS b = B at *
    have hpos : (0 : Int) < (rl : Int) + 1 := by omega
    refine aQ (RS ..) ?_
    simp [JF, hpos, g1, hp, hbc, hfc]
def QH (b : aN) (s : Int) (l : List (Int × Rat)) : List (Int × Rat) := if 0 < b.ex then match l with
    | [] => []
    | [p] => if p.1 - b.ex ≤ s then [(p.1, iU b)] else [p]
    | p :: q :: r => if p.1 - b.ex ≤ s then q :: r else p :: q :: r
 else l
def leftB (b : aN) (s : Int) : Er × List (Int × Rat) := match (bn b).1 with
 | some e => (some e, [])
 | none => if s < b.issue ∨ b.fO ≤ s then (some (6, none), []) else (none, QH b s ((bn b).2.dropWhile fun p => decide (p.1 ≤ s)))
theorem adF (each red : Rat) : ∀ {l : List (Int × Int)} {i : Nat} {p : Int × Int}, l[i]? = some p → ∃ a, (iG each red l)[i]? = some (p.2, a)
 | [], i, p, h => by simp at h
 | [q], i, p, h => by
   cases i with
   | zero => simp at h; subst h; exact ⟨_, rfl⟩
   | succ i => simp at h
 | q :: q' :: r, i, p, h => by
   cases i with
   | zero => simp at h; subst h; exact ⟨_, rfl⟩
   | succ i =>
     simp only [List.getElem?_cons_succ] at h
     obtain ⟨a, ha⟩ := adF each red h
     exact ⟨a, by simp only [iG, List.getElem?_cons_succ]; exact ha⟩
theorem WB (pay each red : Rat) {l : List (Int × Int)} {i : Nat} {p : Int × Int} (h : l[i]? = some p) : ∃ a, (sK pay each red l)[i]? = some (p.2, a) := by
 match l, h with
 | [q], h =>
   cases i with
   | zero => simp at h; subst h; exact ⟨_, rfl⟩
   | succ i => simp at h
 | q :: q' :: r, h =>
   cases i with
   | zero => simp at h; subst h; exact ⟨_, rfl⟩
   | succ i =>
     simp only [List.getElem?_cons_succ] at h
     obtain ⟨a, ha⟩ := adF each red h
     exact ⟨a, by simp only [sK, List.getElem?_cons_succ]; exact ha⟩
 | [], h => simp at h
theorem lC {b : aN} (h : (bn b).1 = none) : (aK b).1 = none ∧ ∃ p r q, (aK b).2 = p :: r ∧ Ap b p = .ok q ∧ (bn b).2 = sK q (gJ b) (iU b) (p :: r) := by
 unfold bn at *
 split at h
 ·simp [anZ] at h
 ·rename_i h0
  rw [h0]
  simp only
  have hne := (eG h0).2.ne
  refine ⟨trivial, ?_⟩
  cases hps : (aK b).2 with
  | nil => exact absurd hps hne
  | cons p r =>
    rw [hps] at h
    simp only at h ⊢
    cases hq : Ap b p with
    | error c => rw [hq] at h; simp at h
    | ok q => exact ⟨p, r, q, rfl, hq, rfl⟩
theorem aks {b : aN} (h : (bn b).1 = none) : ∀ p ∈ (bn b).2, bQ p.1 := by
 obtain ⟨h0, p, r, q, hps, hq, hfl⟩ := lC h
 rw [hfl]
 intro x hx
 obtain ⟨i, hi⟩ := List.getElem?_of_mem hx
 have hl : i < (p :: r).length := by rw [← KQ q (gJ b) (iU b) (p :: r)]; exact (List.getElem?_eq_some_iff.1 hi).1
 obtain ⟨a, ha⟩ := WB q (gJ b) (iU b) (l := p :: r) (i := i) (List.getElem?_eq_getElem hl)
 rw [hi] at ha
 have := Option.some.inj ha
 rw [this]
 have hm : (p :: r)[i] ∈ (aK b).2 := by rw [hps]; exact List.getElem_mem _
 exact (lJ h0 hm).2.1
theorem akt {b : aN} (h : (bn b).1 = none) : ∃ p ∈ (bn b).2, p.1 = b.fO := by
 obtain ⟨h0, p, r, q, hps, hq, hfl⟩ := lC h
 have hw := (eG h0).2
 have hl : (aK b).2.length - 1 < (aK b).2.length := by rw [hps]; simp
 obtain ⟨x, hg⟩ : ∃ x, (aK b).2[(aK b).2.length - 1]? = some x := ⟨_, List.getElem?_eq_getElem hl⟩
 have hlast := hw.last _ hg
 rw [hps] at hg
 obtain ⟨a, ha⟩ := WB q (gJ b) (iU b) hg
 refine ⟨(x.2, a), ?_, hlast⟩
 rw [hfl]
 exact List.mem_of_getElem? ha
theorem alM {b : aN} (h : chk b = none) : 0 ≤ b.ex ∧ b.ex ≤ 30 := by
 unfold chk at h
 split at h <;> try (simp at h; done)
 split at h <;> try (simp at h; done)
 split at h <;> try (simp at h; done)
 split at h <;> try (simp at h; done)
 split at h <;> try (simp at h; done)
 split at h <;> try (simp at h; done)
 omega
theorem ac9 {α : Type} {f : α → Bool} : ∀ {l : List α}, l.dropWhile f = [] → ∀ x ∈ l, f x = true
 | [], _, x, h => by simp at h
 | y :: ys, h, x, hx => by
   simp only [List.dropWhile] at h
   split at h
   ·rename_i hy
    rcases List.mem_cons.1 hx with rfl | hx
    ·exact hy
    ·exact ac9 h x hx
   ·simp at h
theorem TY : ∀ (done l : List (Int × Rat)), (dw (done ++ l)).drop (done.length * 2) = dw l := by
 intro done l
 rw [Jp, ← CX done]
 exact List.drop_left
set_option maxHeartbeats 1000000 in
theorem Ia {b : aN} (hc : b.d_.length ≤ 1000000) (hr : b.eH.length ≤ 1000000) (s : Int) : L.call oG [bf b, .int .i64 s] = some (xQ (leftB b s)) := by
 have hbc := fun n => iw b n
 have hbl := mQ b
 have hbd := mP b 0 10
 have hof := YC (b := b) (pre := [.live (aS b)]) (k := 1) (.inr ⟨rfl, rfl⟩) hc hr
 have hb0 : (aS b)[0]? = some (.int .i64 b.issue) := rfl
 have hb1 : (aS b)[1]? = some (.int .i64 b.fO) := rfl
 have hb8 : (aS b)[8]? = some (.int .i64 b.ex) := rfl
 unfold leftB
 cases he : (bn b).1 with
 | some e =>
   have hq : bn b = (some e, (bn b).2) := by rw [← he]
   rw [hq] at hof
   simp only [callOf] at hof
   have hcl := ab3 (some e) 0
   have hfz : ∀ m, fz 11 (jc (some e)) m = some (jc (some e), m) := by intro m; rcases e with ⟨c, _ | t⟩ <;> rfl
   simp only [xQ, AV, dw, List.length_nil]
   unfold bf at hof ⊢
   generalize aS b = B at *
   have htkB : B.take 9 = B := List.take_of_length_le (by omega)
   rcases e with ⟨c, _ | t⟩
   ·simp only [jc] at *
    refine aO tH rfl (tC ..) ?_
    simp [qC, hof, hbc, hbl, hbd, htkB]
   ·simp only [jc, fQ] at *
    refine aO tH rfl (tC ..) ?_
    simp [qC, hof, hbc, hbl, hbd, htkB]
 | none =>
   have hq : bn b = (none, (bn b).2) := by rw [← he]
   have hdays := aks he
   have hchk := jw (lC he).1
   have hlast := akt he
   have hex := alM hchk
   have hbr := yc hc hr
   have htx := xG (Eu b) (by omega) (by omega)
   rw [hq] at hof
   simp only [callOf] at hof
   simp only
   have hlp := amk (b := b) (s := s) (bn b).2 (bn b).2 [] rfl
   have hfcl := fun n => vM (bn b).2 n 11
   have hfll := CX (bn b).2
   simp only [List.length_nil, Nat.zero_mul] at hlp
   have hlf0 : ∀ l, QH b s l = if 0 < b.ex then match l with
    | [] => []
    | [p] => if p.1 - b.ex ≤ s then [(p.1, iU b)] else [p]
    | p :: q :: r => if p.1 - b.ex ≤ s then q :: r else p :: q :: r
    else l := fun l => rfl
   by_cases h1 : s < b.issue
   ·rw [if_pos (.inl h1)]
    simp only [xQ, AV, dw, List.length_nil, jc]
    generalize dw (bn b).2 = fc at *
    generalize (bn b).2.length = N at *
    obtain ⟨i, m, fq, c, rd, n, st, e, ex⟩ := b
    unfold bf aS at *
    simp only at *
    simp at hof
    refine aO tH rfl (tC ..) ?_
    simp [qC, hof, h1, bP]
   by_cases h2 : b.fO ≤ s
   ·rw [if_pos (.inr h2)]
    simp only [xQ, AV, dw, List.length_nil, jc]
    generalize dw (bn b).2 = fc at *
    generalize (bn b).2.length = N at *
    obtain ⟨i, m, fq, c, rd, n, st, e, ex⟩ := b
    unfold bf aS at *
    simp only at *
    simp at hof
    refine aO tH rfl (tC ..) ?_
    simp [qC, hof, h1, h2, bP]
   rw [if_neg (by omega)]
   have hex2 : ∃ p ∈ (bn b).2, s < p.1 := by
    obtain ⟨p, hp, hpm⟩ := hlast
    exact ⟨p, hp, by omega⟩
   have hlp := hlp hex2
   generalize (bn b).2 = fs at *
   obtain ⟨done, hdone⟩ : ∃ done, fs = done ++ fs.dropWhile (fun p => decide (p.1 ≤ s)) := ⟨fs.takeWhile _, (List.takeWhile_append_dropWhile).symm⟩
   have hne : fs.dropWhile (fun p => decide (p.1 ≤ s)) ≠ [] := by
    intro h
    obtain ⟨p, hp, hs⟩ := hex2
    have := ac9 h p hp
    simp at this
    omega
   generalize fs.dropWhile (fun p => decide (p.1 ≤ s)) = l at *
   have hlen : fs.length - l.length = done.length := by rw [hdone]; simp
   rw [hlen] at hlp
   have hdr := TY done l
   rw [← hdone] at hdr
   have hlfc := CX l
   have hL2 : (dw fs).length = done.length * 2 + l.length * 2 := by rw [hfll, hdone]; simp; omega
   match l, hne with
   | p :: r, _ =>
     have hg := Jq (l := fs) (i := done.length) (p := p) (by rw [hdone]; simp)
     have hpd := hdays p (by rw [hdone]; simp)
     obtain ⟨g1, g2, g3⟩ := hg
     have e1 : IntKind.i64.wrap (p.1 - b.ex) = p.1 - b.ex := wrap64 _ (by omega)
     have hrc := fun n => vM r n 11
     have hfzr : ∀ m, jV (fz 10) (dw fs) m = some (dw fs, m) := fun m => XT fs 9 m
     have hfzr2 : ∀ m, jV (fz 11) (dw fs) m = some (dw fs, m) := fun m => XT fs 10 m
     have htkl : ∀ l : List (Int × Rat), (dw l).take (l.length * 2) = dw l := fun l => List.take_of_length_le (by rw [CX]; omega)
     rw [hlf0]
     by_cases hx : 0 < b.ex
     ·rw [if_pos hx]
      by_cases hs : p.1 - b.ex ≤ s
      ·cases r with
       | nil =>
         simp only
         rw [if_pos hs]
         have hnew : (dw fs).set (done.length * 2 + 1) (.str (xM (iU b))) = dw (done ++ [(p.1, iU b)]) := by
          rw [hdone, Jp, Jp, ← CX done, List.set_append_right _ _ (by omega)]
          simp [dw]
         have hset := TY done [(p.1, iU b)]
         rw [← hnew] at hset
         have hfz2 : ∀ m, jV (fz 10) ((dw fs).set (done.length * 2 + 1) (.str (xM (iU b)))) m = some ((dw fs).set (done.length * 2 + 1) (.str (xM (iU b))), m) := by
          intro m; rw [hnew]; exact XT _ 9 m
         have hcl2 : ∀ n, ((dw fs).set (done.length * 2 + 1) (.str (xM (iU b)))).all (D.clo n 12) = true := by
          intro n; rw [hnew]; exact vM _ n 11
         have hl2 : done.length * 2 + 2 ≤ ((dw fs).set (done.length * 2 + 1) (.str (xM (iU b)))).length := by rw [List.length_set]; omega
         simp only [xQ, AV, dw, List.length_cons, List.length_nil, jc] at hset ⊢
         generalize iU b = rq at *
         generalize hfc : dw fs = fc at *
         generalize done.length * 2 = D2 at *
         have hltfc : D2 + 1 < fc.length := by omega
         obtain ⟨i, m, fq, c, rd, n, st, e, ex⟩ := b
         unfold bf aS at *
         simp only at *
         simp at hof hlp
         refine aO tH rfl (tC ..) ?_
         simp [qC, hof, h1, h2, hlp, hx, hs, g1, e1, hbr, htx, hset, hfz2, hcl2, hl2, hfcl, g3, hltfc]
       | cons q r =>
         simp only
         rw [if_pos hs]
         have hd2 := TY (done ++ [p]) (q :: r)
         rw [List.append_assoc, show [p] ++ q :: r = p :: q :: r from rfl, ← hdone, List.length_append, List.length_singleton, show (done.length + 1) * 2 = done.length * 2 + 2 by omega] at hd2
         have hb3 : done.length * 2 + 2 + (r.length + 1) * 2 ≤ (dw fs).length := by rw [hL2]; simp; omega
         have htk := htkl (q :: r)
         simp only [xQ, AV, List.length_cons, jc] at htk ⊢
         rw [List.length_cons, List.length_cons] at hlp
         have hbn : nH true false (r.length + 1 + 1) [.int .i64 1] = some (1, r.length + 1 + 1) := by
          have : (1 : Int) ≤ (r.length : Int) + 1 + 1 := by omega
          simp [nH, bnd, this]
         generalize dw (q :: r) = fr at *
         generalize hfc : dw fs = fc at *
         generalize done.length * 2 = D2 at *
         generalize r.length = R at *
         have hR1 : (1 : Int) < (R : Int) + 1 + 1 := by omega
         have hR0 : (0 : Int) < (R : Int) + 1 + 1 := by omega
         have hR2 : 1 < R + 1 + 1 := by omega
         obtain ⟨i, m, fq, c, rd, n, st, e, ex⟩ := b
         unfold bf aS at *
         simp only at *
         simp at hof hlp
         refine aO tH rfl (tC ..) ?_
         simp [qC, hof, h1, h2, hlp, hx, hs, g1, e1, hbn, hR1, hR0, hR2, hfzr, hfzr2, hfcl, hd2, hb3, htk]
      ·have hlf : (match p :: r with
        | [] => []
        | [p] => if p.1 - b.ex ≤ s then [(p.1, iU b)] else [p]
        | p :: q :: r => if p.1 - b.ex ≤ s then q :: r else p :: q :: r : List (Int × Rat)) = p :: r := by
        cases r with
        | nil => simp only; rw [if_neg hs]
        | cons q r => simp only; rw [if_neg hs]
       rw [hlf]
       have hb3 : done.length * 2 + (r.length + 1) * 2 ≤ (dw fs).length := by rw [hL2]; simp
       have htk := htkl (p :: r)
       simp only [xQ, AV, List.length_cons, jc] at htk ⊢
       rw [List.length_cons] at hlp
       generalize dw (p :: r) = fr at *
       generalize hfc : dw fs = fc at *
       generalize done.length * 2 = D2 at *
       generalize r.length = R at *
       have hR0 : (0 : Int) < (R : Int) + 1 := by omega
       obtain ⟨i, m, fq, c, rd, n, st, e, ex⟩ := b
       unfold bf aS at *
       simp only at *
       simp at hof hlp
       refine aO tH rfl (tC ..) ?_
       simp [qC, hof, h1, h2, hlp, hx, hs, g1, e1, hR0, hfzr, hfzr2, hfcl, hdr, hb3, htk]
     ·rw [if_neg hx]
      have hb3 : done.length * 2 + (r.length + 1) * 2 ≤ (dw fs).length := by rw [hL2]; simp
      have htk := htkl (p :: r)
      simp only [xQ, AV, List.length_cons, jc] at htk ⊢
      rw [List.length_cons] at hlp
      generalize dw (p :: r) = fr at *
      generalize hfc : dw fs = fc at *
      generalize done.length * 2 = D2 at *
      generalize r.length = R at *
      obtain ⟨i, m, fq, c, rd, n, st, e, ex⟩ := b
      unfold bf aS at *
      simp only at *
      simp at hof hlp
      refine aO tH rfl (tC ..) ?_
      simp [qC, hof, h1, h2, hlp, hx, hfzr, hfzr2, hfcl, hdr, hb3, htk]
end Go.Ev.Code
end
section
namespace Go.Ev.Code
open Go Go.Ev
theorem aao {d : Nat} (h : d < 10) : (dg d).toNat = 48 + d ∧ rM (dg d) = true := by
 have : ∀ d : Nat, d < 10 → (dg d).toNat = 48 + d ∧ rM (dg d) = true := by decide +kernel
 exact this d h
theorem ajJ (n : Nat) : (txt n).all rM = true := by
 induction n using Nat.strongRecOn with
 | _ n ih =>
   by_cases h : n < 10
   ·rw [zY h]; simp [(aao h).2]
   ·rw [Ll (by omega), List.all_append, ih (n / 10) (by omega)]
    simp [(aao (d := n % 10) (by omega)).2]
theorem ahE (n : Nat) : jr 0 (txt n) = n := by
 induction n using Nat.strongRecOn with
 | _ n ih =>
   by_cases h : n < 10
   ·rw [zY h, yP, BJ, (aao h).1]; omega
   ·rw [Ll (by omega), ag2, ih (n / 10) (by omega), yP, BJ, (aao (d := n % 10) (by omega)).1]; omega
theorem ahD : ∀ (n : Nat), 1 ≤ n → ∃ d r, txt n = dg d :: r ∧ 1 ≤ d ∧ d < 10 := by
 intro n
 induction n using Nat.strongRecOn with
 | _ n ih =>
   intro h1
   by_cases h : n < 10
   ·exact ⟨n, [], zY h, h1, h⟩
   ·obtain ⟨d, r, hr, h2, h3⟩ := ih (n / 10) (by omega) (by omega)
    exact ⟨d, r ++ [dg (n % 10)], by rw [Ll (by omega), hr]; rfl, h2, h3⟩
theorem ao5 {d : Nat} (h : d < 10) : dg d ≠ 45 ∧ dg d ≠ 47 ∧ (1 ≤ d → dg d ≠ 48) := by
 have : ∀ d : Nat, d < 10 → dg d ≠ 45 ∧ dg d ≠ 47 ∧ (1 ≤ d → dg d ≠ 48) := by decide +kernel
 exact this d h
theorem adY (n : Nat) : (47 : UInt8) ∉ txt n := by
 intro h
 have := List.all_eq_true.1 (ajJ n) _ h
 exact absurd this (by decide)
theorem aq4 {n : Nat} (h : NB 13000 n) : n < 10 ^ 4000 := Nat.lt_of_lt_of_le h (by decide +kernel)
theorem adW {n : Nat} (h : NB 13000 n) : xO (txt n) := by
 have hl := G7 4000 (n := n) (by omega) (aq4 h)
 refine ⟨fun h0 => ?_, hl, ?_, ajJ n⟩
 ·have := YQ n
  rw [h0] at this
  simp at this
 ·rintro ⟨h1, h2⟩
  by_cases hn : n < 10
  ·rw [zY hn] at h1; simp at h1
  ·obtain ⟨d, r, hr, h3, h4⟩ := ahD n (by omega)
   rw [hr] at h2
   simp at h2
   exact (ao5 h4).2.2 h3 h2
theorem ai1 (n : Nat) : List.isPrefixOf [45] (txt n) = false := by
 by_cases h : n = 0
 ·subst h; rw [zY (by decide)]; decide
 ·obtain ⟨d, r, hr, h3, h4⟩ := ahD n (by omega)
  rw [hr]
  have := (ao5 h4).1
  simp [List.isPrefixOf, this]
  exact fun h => this h.symm
theorem aiM {z : Int} (h : IB 13000 z) : L.call Ju [.str (yL z)] = some (.aZ [intD z, .aF]) := by
 have hg := zn (adW h)
 rw [ahE] at hg
 have hcut := VF (yL z) [45]
 unfold yL at *
 have hz : ∀ b : Bool, L.call gW [.bool b, dG z.natAbs] = some (intD (if b then -(z.natAbs : Int) else z.natAbs)) := fun b => DN b _
 by_cases hneg : z < 0
 ·rw [if_pos hneg] at hcut ⊢
  rw [if_pos (by simp [List.isPrefixOf])] at hcut
  simp at hcut
  have h0 : ¬ z.natAbs = 0 := by omega
  have hz0 := Rk z.natAbs
  rw [decide_eq_false h0] at hz0
  have hzt := hz true
  have e : (if true = true then -(z.natAbs : Int) else z.natAbs) = z := by simp; omega
  rw [e] at hzt
  generalize txt z.natAbs = t at *
  have hz1 : ¬ z = 0 := by omega
  refine aO acT rfl (acM ..) ?_
  simp [Xz, hcut, hg, hz0, hzt, hz1]
 ·rw [if_neg hneg] at hcut ⊢
  rw [if_neg (by rw [ai1]; simp)] at hcut
  have hzt := hz false
  have e : (if false = true then -(z.natAbs : Int) else z.natAbs) = z := by simp; omega
  rw [e] at hzt
  generalize txt z.natAbs = t at *
  refine aO acT rfl (acM ..) ?_
  simp [Xz, hcut, hg, hzt]
theorem ac5 {c : UInt8} : ∀ (x acc b : List UInt8), c ∉ x → cutAt c acc (x ++ c :: b) = some (acc.reverse ++ x, b)
 | [], acc, b, _ => by simp [cutAt]
 | y :: ys, acc, b, h => by
   have h1 : (y == c) = false := by
    simp only [beq_eq_false_iff_ne]
    intro e; exact h (by rw [e]; simp)
   simp only [List.cons_append, cutAt, h1, Bool.false_eq_true, if_false]
   rw [ac5 ys (y :: acc) b (fun h2 => h (by simp [h2]))]
   simp
theorem aai {c : UInt8} : ∀ (x acc : List UInt8), c ∉ x → cutAt c acc x = none
 | [], acc, _ => rfl
 | y :: ys, acc, h => by
   have h1 : (y == c) = false := by
    simp only [beq_eq_false_iff_ne]
    intro e; exact h (by rw [e]; simp)
   simp only [cutAt, h1, Bool.false_eq_true, if_false]
   exact aai ys (y :: acc) (fun h2 => h (by simp [h2]))
theorem abm (z : Int) : (47 : UInt8) ∉ yL z := by
 unfold yL
 split
 ·simp only [List.mem_cons, not_or]
  exact ⟨by decide, adY _⟩
 ·exact adY _
theorem KE {q : Rat} (h : RB 13000 q) : L.call Af [.str (xM q)] = some (.aZ [bZ q, .aF]) := by
 have hn := aiM h.num
 have hl1 := ZL h.num (by omega) (by omega)
 have hd := zn (adW h.2)
 rw [ahE] at hd
 have hl2 := G7 4000 (n := q.den) (by omega) (aq4 h.2)
 have hden := q.den_nz
 have hz := Rk q.den
 rw [decide_eq_false hden] at hz
 have hnew := DN false q.den
 simp only [Bool.false_eq_true, if_false] at hnew
 have hrn := zD h.num h.den (by omega) (by omega) (Hg q)
 rw [Rat.num_divInt_den] at hrn
 have htx := xG h (by omega) (by omega)
 have hcut := ak' (s := xM q) (by
  unfold xM
  split
  ·omega
  ·simp; omega) 47
 unfold mG at hcut
 unfold xM at *
 by_cases h1 : q.den = 1
 ·rw [if_pos h1] at hcut htx ⊢
  rw [aai _ _ (abm _)] at hcut
  simp at hcut
  have h49 : txt q.den = [49] := acE.2 h1
  rw [h49] at hd
  rw [h1] at hd hz hnew hrn
  generalize yL q.num = t at *
  refine aO acV rfl (acO ..) ?_
  simp at hd hz hnew hrn
  simp [XA, hcut, hn, hd, hz, hnew, hrn, htx]
 ·rw [if_neg h1] at hcut htx ⊢
  rw [ac5 _ _ _ (abm _)] at hcut
  simp at hcut
  generalize yL q.num ++ 47 :: txt q.den = s at *
  generalize yL q.num = t at *
  generalize txt q.den = u at *
  refine aO acV rfl (acO ..) ?_
  simp [XA, hcut, hn, hd, hz, hden, hnew, hrn, htx]
end Go.Ev.Code
end
section
namespace Go.Ev.Code
open Go Go.Ev
def JQ : Rat → List (Int × Rat) → Rat
 | s, [] => s
 | s, p :: r => JQ (s - p.2) r
theorem adT (each red : Rat) : ∀ (l : List (Int × Int)) (s : Rat), l ≠ [] → JQ s (iG each red l) = s - (l.length : Rat) * each - red
 | [], s, h => absurd rfl h
 | [p], s, _ => by simp only [iG, JQ, List.length_singleton]; grind
 | p :: q :: r, s, _ => by
   have ih := adT each red (q :: r) (s - each) (by simp)
   have e : (((p :: q :: r).length : Nat) : Rat) = (((q :: r).length : Nat) : Rat) + 1 := by
    rw [List.length_cons, Rat.natCast_add]; rfl
   simp only [iG, JQ]
   rw [ih, e]
   grind
theorem aa3 (each red : Rat) : ∀ (k : Nat) (l : List (Int × Int)), k < l.length → (iG each red l).drop k = iG each red (l.drop k)
 | 0, l, _ => rfl
 | k + 1, [], h => by simp at h
 | k + 1, [p], h => by simp at h
 | k + 1, p :: q :: r, h => by
   simp only [iG, List.drop_succ_cons]
   exact aa3 each red k (q :: r) (by simpa using h)
theorem akr (pay each red : Rat) {k : Nat} {l : List (Int × Int)} (hk : 1 ≤ k) (h : k < l.length) : (sK pay each red l).drop k = iG each red (l.drop k) := by
 obtain ⟨j, rfl⟩ : ∃ j, k = j + 1 := ⟨k - 1, by omega⟩
 match l with
 | [] => simp at h
 | [p] => simp at h
 | p :: q :: r =>
   simp only [sK, List.drop_succ_cons]
   exact aa3 each red j (q :: r) (by simpa using h)
theorem an4 {f : Int} (hf : D9 f) : (f.toNat : Rat) * Rat.divInt 1 f = 1 := by
 rcases hf with rfl | rfl | rfl | rfl <;> decide +kernel
theorem aoW {b : aN} (hf : D9 b.dQ) (r : Rat) : r - (b.dQ.toNat : Rat) * gJ b - r + En b = 0 := by
 have h := an4 hf
 unfold gJ
 generalize (b.dQ.toNat : Rat) = n at *
 generalize Rat.divInt 1 b.dQ = v at *
 grind
theorem DL {q : Rat} : 0 ≤ q.num ↔ 0 ≤ q := Rat.num_nonneg
theorem ake (b : aN) : 0 ≤ En b := by
 unfold En
 cases hc : chk b with
 | some e => simp only; exact DL.1 (by decide)
 | none =>
   obtain ⟨q, n, r, k, h1, h2, h3, h4, _⟩ := Nv (dM hc).2.2
   simp only [h1]
   exact DL.1 h4
theorem akR (b : aN) : 0 ≤ iU b := by
 unfold iU
 cases hc : chk b with
 | some e => simp only; exact DL.1 (by decide)
 | none =>
   obtain ⟨q, n, r, k, h1, h2, h3, h4, h5, h6, h7, _⟩ := Nv (dM hc).2.2
   simp only [h2]
   exact DL.1 (by omega)
theorem akB {f : Int} (hf : D9 f) : 0 ≤ Rat.divInt 1 f := by
 rcases hf with rfl | rfl | rfl | rfl <;> decide +kernel
theorem afg {b : aN} (hf : D9 b.dQ) : 0 ≤ gJ b := Rat.mul_nonneg (ake b) (akB hf)
end Go.Ev.Code
end
section
namespace Go.Ev.Code
open Go Go.Ev
theorem adD {each red : Rat} (he : 0 ≤ each) (hr : 0 ≤ red) {j k : Nat} (hE : RB j each) (hR : RB k red) : ∀ {l : List (Int × Int)}, ∀ p ∈ iG each red l, 0 ≤ p.2 ∧ RB (j + k + 1) p.2
 | [], p, h => by simp [iG] at h
 | [q], p, h => by
   simp [iG] at h
   subst h
   exact ⟨Rat.add_nonneg he hr, hE.add hR⟩
 | q :: q' :: r, p, h => by
   simp only [iG, List.mem_cons] at h
   rcases h with rfl | h
   ·exact ⟨he, hE.mono (by omega)⟩
   ·exact adD he hr hE hR p h
theorem ajF {k : Nat} : ∀ {l : List (Int × Rat)} {s : Rat} {j : Nat}, RB j s → (∀ p ∈ l, RB k p.2) → RB (j + (k + 1) * l.length) (JQ s l)
 | [], s, j, hs, _ => by simpa [JQ] using hs
 | p :: r, s, j, hs, h => by
   have := ajF (l := r) (s := s - p.2) (j := j + k + 1) (hs.sub (h p (by simp))) (fun q hq => h q (by simp [hq]))
   simp only [JQ]
   refine this.mono ?_
   rw [List.length_cons, Nat.mul_add]; omega
theorem aoV {b : aN} {fs : List (Int × Rat)} (hn : fs.length ≤ 100000) : ∀ (rest pre : List (Int × Rat)) (s : Rat) (j : Nat), fs = pre ++ rest → (∀ p ∈ rest, 0 ≤ p.2 ∧ RB 900 p.2) → RB j s → j + 901 * rest.length ≤ 600000 →
  L.loop [1, 4, 6, 7] [1, 2, 6] ig 1 [.loc 0 0, AV fs, bZ s, .int .i64 pre.length] [.live (aS b)] = some (.exit 0, [.loc 0 0, .undef, bZ (JQ s rest)], [.live (aS b)]) := by
 have hbc := iw b 1
 intro rest
 induction rest with
 | nil =>
   intro pre s j hal _ _ _
   rw [List.append_nil] at hal
   subst hal
   unfold AV
   simp only [JQ]
   generalize dw fs = fc at *
   generalize fs.length = n at *
   generalize aS b = B at *
   refine aQ (AA ..) ?_
   simp [sV, hbc]
 | cons p r ih =>
   intro pre s j hal hall hs hj
   obtain ⟨p0, p1⟩ := hall p (by simp)
   have hn2 := ih (pre ++ [p]) (s - p.2) (j + 900 + 1) (by rw [hal]; simp) (fun q hq => hall q (by simp [hq])) (hs.sub p1) (by rw [List.length_cons] at hj; omega)
   rw [List.length_append, List.length_singleton, show ((pre.length + 1 : Nat) : Int) = (pre.length : Int) + 1 by omega] at hn2
   have h13 : RB 13000 p.2 := p1.mono (Nat.le_of_ble_eq_true rfl)
   have hg := KE h13
   obtain ⟨K, hK⟩ : ∃ K : Nat, K = 900 := ⟨_, rfl⟩
   have p2 : RB K p.2 := by rw [hK]; exact p1
   have hsub := DV hs p2 (by rw [List.length_cons] at hj; omega)
   have hlt : pre.length < fs.length := by rw [hal]; simp
   have hget := Jq (l := fs) (i := pre.length) (p := p) (by rw [hal]; simp)
   have e1 : IntKind.i64.wrap ((pre.length : Int) + 1) = (pre.length : Int) + 1 := wrap64 _ (by omega)
   have hsg : ¬ p.2.num.sign < 0 := by
    have := DL.2 p0
    rw [sign_neg]; omega
   have hsgn : ¬ p.2.num < 0 := by have := DL.2 p0; omega
   obtain ⟨g1, g2, g3⟩ := hget
   have hsign := Et p.2
   simp only [JQ]
   unfold AV at *
   obtain ⟨d, q⟩ := p
   simp only at *
   generalize JQ (s - q) r = res at *
   generalize s - q = s2 at *
   generalize dw fs = fc at *
   generalize fs.length = N at *
   generalize pre.length = P at *
   have hltI : (P : Int) < N := by omega
   generalize q.num.sign = sg at *
   generalize aS b = B at *
   refine aQ (AA ..) ?_
   simp [sV, hlt, hltI, g1, g2, g3, hg, hsign, hsg, hsub, e1, hbc, hn2]
end Go.Ev.Code
end
section
namespace Go.Ev.Code
open Go Go.Ev
theorem WQ (s : List UInt8) {n : Nat} (hn : n ≤ 1000000) : L.call kJ [.str s, .int .i64 n] = some (.str (s.take n)) := by
 have hb : nH false true s.length [.int .i64 (min (s.length : Int) n)] = some (0, min s.length n) := by
  have h1 : (0 : Int) ≤ min (s.length : Int) n := by omega
  have h2 : min (s.length : Int) n ≤ s.length := by omega
  have h3 : (min (s.length : Int) n).toNat = min s.length n := by omega
  simp only [nH, bnd, h1, h2, and_self, if_true, h3, Option.bind_some]
 have ht : s.take (min s.length n) = s.take n := by
  rcases Nat.le_total s.length n with h | h
  ·rw [Nat.min_eq_left h, List.take_of_length_le (Nat.le_refl _), List.take_of_length_le h]
  ·rw [Nat.min_eq_right h]
 refine aO V6 rfl (VR ..) ?_
 simp [Lh, hb, ht]
def Jm (b : aN) : aN := { b with d_ := b.d_.take 30, eH := b.eH.take 30 }
theorem WM (b : aN) : L.call kH [bf b] = some (bf (Jm b)) := by
 obtain ⟨i, m, f, c, rd, n, s, e, ex⟩ := b
 have h1 := WQ c (n := 30) (by decide)
 have h2 := WQ rd (n := 30) (by decide)
 unfold Jm bf aS
 simp only
 simp at h1 h2
 refine aO V4 rfl (VP ..) ?_
 simp [Ld, h1, h2]
theorem ajc (b : aN) : (Jm b).d_.length ≤ 1000000 ∧ (Jm b).eH.length ≤ 1000000 := by
 unfold Jm; simp; omega
end Go.Ev.Code
end
