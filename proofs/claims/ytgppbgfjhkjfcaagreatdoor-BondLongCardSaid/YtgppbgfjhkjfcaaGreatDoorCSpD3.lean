/- A part of the proof of planLone_card, bondLong_card. -/
import Derived.Test.YtgppbgfjhkjfcaaGreatDoorCSpD2
set_option linter.unusedVariables false
set_option linter.unusedSimpArgs false
section
namespace Go.Ev.Code
open Go Go.Ev
def kT : List (Int × Rat) → List D
 | [] => []
 | (d, q) :: r => .int .i64 d :: .str (PS q) :: kT r
theorem TU (l r : List (Int × Rat)) : kT (l ++ r) = kT l ++ kT r := by
 induction l with
 | nil => rfl
 | cons x xs ih => obtain ⟨a, b⟩ := x; simp [kT, ih]
theorem afW (l : List (Int × Rat)) : (kT l).length = l.length * 2 := by
 induction l with
 | nil => rfl
 | cons x xs ih => obtain ⟨a, b⟩ := x; simp [kT, ih]; omega
theorem YR (l : List (Int × Rat)) (b n : Nat) : (kT l).all (D.clo b (n + 1)) = true := by
 induction l with
 | nil => rfl
 | cons x xs ih => obtain ⟨p, q⟩ := x; simp [kT]; simpa using ih
theorem al_ (l : List (Int × Rat)) (n : Nat) (m : Mem) : kC (fz (n + 1)) (kT l) m = some (kT l, m) := by
 induction l with
 | nil => rfl
 | cons x xs ih => obtain ⟨a, b⟩ := x; simp [kT, ih]
def flD (l : List (Int × Rat)) : D := .sl l.length (kT l)
def Bh (each red : Rat) : List (Int × Int) → List (Int × Rat)
 | [] => []
 | [p] => [(p.2, each + red)]
 | p :: q :: r => (p.2, each) :: Bh each red (q :: r)
def LQ (pay each red : Rat) : List (Int × Int) → List (Int × Rat)
 | [] => []
 | [p] => [(p.2, pay + red)]
 | p :: q :: r => (p.2, pay) :: Bh each red (q :: r)
theorem aag (each red : Rat) : ∀ l : List (Int × Int), (Bh each red l).length = l.length
 | [] => rfl
 | [_] => rfl
 | _ :: q :: r => by simp [Bh, aag each red (q :: r)]
theorem aiE (pay each red : Rat) (l : List (Int × Int)) : (LQ pay each red l).length = l.length := by
 match l with
 | [] => rfl
 | [_] => rfl
 | _ :: q :: r => simp [LQ, aag]
set_option maxHeartbeats 2000000 in
theorem of_rest {b : aV} {pre : Mem} {k : Nat} (hpre : (pre = [] ∧ k = 0) ∨ (pre = [.live (aW b)] ∧ k = 1)) (hc : b.je.length ≤ 1000000) (hr : b.jg.length ≤ 1000000) {each : Rat} {j : Nat} (hE : RB j each) (hj : 1 ≤ j) (hj2 : j ≤ 400000)
  {ps : List (Int × Int)} (hn : ps.length ≤ 100000) : ∀ (rest pfx : List (Int × Int)) (acc : List (Int × Rat)), ps = pfx ++ rest → pfx ≠ [] → acc.length = pfx.length →
  L.loop [1, 4, 6, 7, 21, 22, 23] [2, 3, 7] lC (k + 1) [.loc k 0, kS ps, dI each, .aT (k + 1) 0 acc.length 2, kS ps, .int .i64 ps.length, .int .i64 pfx.length] (pre ++ [.live (aW b), .live (kT acc)]) =
    some (.exit 0, [.undef, .undef, .aT (k + 1) 0 ps.length 2], pre ++ [.live (aW b), .live (kT (acc ++ Bh each (wU b) rest))]) := by
 have hbc := fun n => BZ b n
 have hbl := F5 b
 have hbd := FY b 0 10
 have hbr := Ey hc hr
 have hadd := DU hE (XP b) (by omega)
 have ht1 := zT hE (by omega) hj
 have ht2 := zT (hE.add (XP b)) (by omega) (by omega)
 intro rest
 induction rest with
 | nil =>
   intro pfx acc hal hne hl
   rw [List.append_nil] at hal
   subst hal
   have hfc := fun n => YR acc n 11
   rw [hl]
   unfold kS
   simp only [Bh, List.append_nil]
   generalize aW b = B at *
   generalize kT acc = fc at *
   generalize bW ps = pc at *
   generalize ps.length = n at *
   rcases hpre with ⟨rfl, rfl⟩ | ⟨rfl, rfl⟩
   ·refine aJ (iJ ..) ?_
    simp [g_, hbc, hfc]
   ·refine aJ (iJ ..) ?_
    simp [g_, hbc, hfc]
 | cons p rest ih =>
   intro pfx acc hal hne hl
   have hfc := fun n => YR acc n 11
   have hfl := afW acc
   have hpos : 0 < pfx.length := List.length_pos_iff.2 hne
   have hg := JC (ps := ps) (i := pfx.length) (p := p) (by rw [hal]; simp)
   have hlt : pfx.length < ps.length := by rw [hal]; simp
   have hlast : (pfx.length : Int) = (ps.length : Int) - 1 ↔ rest = [] := by
    have : ps.length = pfx.length + 1 + rest.length := by rw [hal]; simp; omega
    constructor
    ·intro h; exact List.eq_nil_of_length_eq_zero (by omega)
    ·rintro rfl; simp at this; omega
   have hstep : ∀ (a : Rat), a = (if rest = [] then each + wU b else each) →
     (∀ r, L.loop [1, 4, 6, 7, 21, 22, 23] [2, 3, 7] lC (k + 1) [.loc k 0, kS ps, dI each, .aT (k + 1) 0 (acc.length + 1) 2, kS ps, .int .i64 ps.length, .int .i64 ((pfx.length + 1 : Nat) : Int)] (pre ++ [.live (aW b), .live (kT acc ++ [.int .i64 p.2, .str (PS a)])]) = some r →
      L.loop [1, 4, 6, 7, 21, 22, 23] [2, 3, 7] lC (k + 1) [.loc k 0, kS ps, dI each, .aT (k + 1) 0 acc.length 2, kS ps, .int .i64 ps.length, .int .i64 pfx.length] (pre ++ [.live (aW b), .live (kT acc)]) = some r) := by
    intro a ha r hr
    have e1 : IntKind.i64.wrap ((pfx.length : Int) + 1) = ((pfx.length + 1 : Nat) : Int) := by rw [wrap64 _ (by omega)]; omega
    have e2 : IntKind.i64.wrap ((ps.length : Int) - 1) = (ps.length : Int) - 1 := wrap64 _ (by omega)
    have hlen : acc.length + 1 ≤ 4294967296 := by omega
    have htk : (kT acc).take (acc.length * 2) = kT acc := List.take_of_length_le (by omega)
    have hP0 : ¬ (pfx.length : Int) = 0 := by omega
    have hP0N : ¬ pfx.length = 0 := by omega
    obtain ⟨p1, p2⟩ := p
    simp only at *
    unfold kS at *
    obtain ⟨g1, g2, g3, g4⟩ := hg
    generalize hfcq : kT acc = fc at *
    generalize acc.length = A at *
    by_cases hrest : rest = []
    ·have hi := hlast.2 hrest
     rw [if_pos hrest] at ha
     subst ha
     generalize each + wU b = es at *
     generalize wU b = rd at *
     unfold bQ at hbr
     generalize aW b = B at *
     have htkB : B.take 9 = B := List.take_of_length_le (by omega)
     generalize bW ps = pc at *
     generalize ps.length = N at *
     generalize pfx.length = P at *
     have hltI : (P : Int) < N := by omega
     have hi' : (N : Int) - 1 = P := by omega
     have e2' : IntKind.i64.wrap (P : Int) = P := wrap64 _ (by omega)
     rcases hpre with ⟨rfl, rfl⟩ | ⟨rfl, rfl⟩
     ·refine aJ (iJ ..) ?_
      simp at hr
      simp [g_, hlt, hltI, g1, g2, g3, g4, hP0, hP0N, e1, e2, e2', hi', hbc, hbl, hbd, htkB, hbr, hadd, ht2, sW, hfc, hfl, htk, hlen, hr, mP]
     ·refine aJ (iJ ..) ?_
      simp at hr
      simp [g_, hlt, hltI, g1, g2, g3, g4, hP0, hP0N, e1, e2, e2', hi', hbc, hbl, hbd, htkB, hbr, hadd, ht2, sW, hfc, hfl, htk, hlen, hr, mP]
    ·have hi : ¬ (pfx.length : Int) = (ps.length : Int) - 1 := fun h => hrest (hlast.1 h)
     rw [if_neg hrest] at ha
     subst ha
     generalize aW b = B at *
     generalize bW ps = pc at *
     generalize ps.length = N at *
     generalize pfx.length = P at *
     have hltI : (P : Int) < N := by omega
     rcases hpre with ⟨rfl, rfl⟩ | ⟨rfl, rfl⟩
     ·refine aJ (iJ ..) ?_
      simp at hr
      simp [g_, hlt, hltI, g1, g2, g3, g4, hP0, hP0N, e1, e2, hi, hbc, hbl, hbd, ht1, sW, hfc, hfl, htk, hlen, hr, mP]
     ·refine aJ (iJ ..) ?_
      simp at hr
      simp [g_, hlt, hltI, g1, g2, g3, g4, hP0, hP0N, e1, e2, hi, hbc, hbl, hbd, ht1, sW, hfc, hfl, htk, hlen, hr, mP]
   have hn2 := ih (pfx ++ [p]) (acc ++ [(p.2, if rest = [] then each + wU b else each)]) (by rw [hal]; simp) (by simp) (by simp [hl])
   rw [TU, TU, show kT [(p.2, if rest = [] then each + wU b else each)] = [.int .i64 p.2, .str (PS (if rest = [] then each + wU b else each))] from rfl, List.length_append, List.length_append, List.length_singleton, List.length_singleton] at hn2
   have := hstep _ rfl _ hn2
   rw [this]
   have hE2 : kT (acc ++ Bh each (wU b) (p :: rest)) = kT acc ++ [.int .i64 p.2, .str (PS (if rest = [] then each + wU b else each))] ++ kT (Bh each (wU b) rest) := by
    rw [TU]
    cases rest with
    | nil => simp [Bh, kT]
    | cons q r => simp [Bh, kT]
   rw [hE2, TU acc]
   rfl
def FN (b : aV) : Er × List (Int × Rat) := match (jm b).1 with
 | some e => (ank (some e), [])
 | none => match (jm b).2 with
   | [] => (none, [])
   | p :: r => match SH b p with
     | .error c => (some (c, none), [])
     | .ok q => (none, LQ q (rJ b) (wU b) (p :: r))
theorem ai2 {b : aV} (h : (jm b).1 = none) {p : Int × Int} (hp : p ∈ (jm b).2) : bF p.1 ∧ bF p.2 ∧ p.1 < p.2 := by
 have hw := Pm h
 obtain ⟨i, hi⟩ := List.getElem?_of_mem hp
 have hlt := hw.2.ord i p hi
 have hchk := hw.1
 obtain ⟨z1, z2, z3⟩ := CZ (iD hchk).1
 have hraw : ∀ {i : Nat} {q : Int × Int}, (iy b)[i]? = some q → bF q.1 ∧ bF q.2 := by
  intro i q hq
  have hl : i < eu b := by rw [← zU]; exact (List.getElem?_eq_some_iff.1 hq).1
  rw [EL hl] at hq
  simp at hq
  subst hq
  have hd : ∀ n : Nat, bF (((anch b n).getD 0 : Nat) : Int) := by
   intro n
   cases ha : anch b n with
   | none => exact ⟨by simp, by simp⟩
   | some a => simpa using Vk ha
  refine ⟨?_, hd _⟩
  simp only
  split
  ·exact z1
  ·exact hd _
 have : bF p.1 ∧ bF p.2 := by
  unfold jm at hi
  rw [hchk] at hi
  simp only at hi
  split at hi
  ·exact hraw hi
  ·split at hi
   ·simp at hi
   ·split at hi
    ·split at hi
     ·rename_i x q r hx
      cases i with
      | zero =>
        simp at hi
        subst hi
        have := hraw (i := 1) (q := q) (by rw [hx]; rfl)
        exact ⟨z1, this.2⟩
      | succ i =>
        simp at hi
        exact hraw (i := i + 2) (q := p) (by rw [hx]; simpa using hi)
     ·exact hraw hi
    ·exact hraw hi
 exact ⟨this.1, this.2, hlt⟩
def callOf (k : Nat) (pre : Mem) : Er × List (Int × Rat) → D × Mem
 | (some e, _) => (.aS [.bK, erV (some e)], pre)
 | (none, fs) => (.aS [.aT k 0 fs.length 2, .aB], pre ++ [.live (kT fs)])
set_option maxHeartbeats 1000000 in
theorem ae' {b : aV} {pre : Mem} {k : Nat} (hpre : (pre = [] ∧ k = 0) ∨ (pre = [.live (aW b)] ∧ k = 1)) (hc : b.je.length ≤ 1000000) (hr : b.jg.length ≤ 1000000) :
  L.aY qN [bQ b] pre = some (callOf k pre (FN b)) := by
 have hpl := DI hc hr
 have hbc := fun n => BZ b n
 have hbl := F5 b
 have hbd := FY b 0 10
 unfold wC at hpl
 cases hp : (jm b).1 with
 | some e =>
   rw [hp] at hpl
   unfold FN
   rw [hp]
   obtain ⟨ec, es⟩ := e
   simp [dh, fP] at hpl
   simp only [ank, callOf, erV]
   unfold kS at hpl
   have hcl := lH (jm b).2 0 11
   unfold bQ at hpl ⊢
   generalize aW b = B at *
   have htkB : B.take 9 = B := List.take_of_length_le (by omega)
   generalize (jm b).2.length = pn at *
   generalize bW (jm b).2 = pc at *
   rcases hpre with ⟨rfl, rfl⟩ | ⟨rfl, rfl⟩
   ·refine kH BX rfl (BU ..) ?_
    simp [yI, hpl, hbc, hbl, hbd, htkB, fP]
   ·refine kH BX rfl (BU ..) ?_
    simp [yI, hpl, hbc, hbl, hbd, htkB, fP]
 | none =>
   have hw := Pm hp
   have hchk := hw.1
   have hf := zO (iD hchk).2.1
   have hreg := LU hf hc hr
   rw [hp] at hpl
   simp only [dh] at hpl
   unfold FN
   rw [hp]
   simp only
   have hdays := fun {p} h => ai2 hp (p := p) h
   have hplen := hw.2.len
   have hpne := hw.2.ne
   cases hps : (jm b).2 with
   | nil => exact absurd hps hpne
   | cons p r =>
     obtain ⟨d1, d2, d3⟩ := hdays (p := p) (by rw [hps]; simp)
     have hpay := afa hp hc hr d1 d2 d3
     rw [hps] at hpl hplen
     simp only
     have hlen1 : (p :: r).length = r.length + 1 := rfl
     cases hpb : SH b p with
     | error c =>
       rw [hpb] at hpay
       simp only [Ec] at hpay
       simp only [callOf, erV]
       have hg := JC (ps := p :: r) (i := 0) (p := p) rfl
       have hcl := lH (p :: r) 0 11
       unfold pD at hpay
       obtain ⟨p1, p2⟩ := p
       simp only at *
       obtain ⟨g1, g2, g3, g4⟩ := hg
       simp only [Nat.zero_mul, Nat.zero_add, List.drop_zero] at g1 g2 g3 g4
       unfold kS at hpl
       generalize rJ b = rp at *
       generalize bW ((p1, p2) :: r) = pc at *
       generalize hN : ((p1, p2) :: r).length = N at *
       have hN0 : 0 < N := by omega
       have hN0I : (0 : Int) < N := by omega
       unfold bQ at hpl hreg hpay ⊢
       generalize aW b = B at *
       have htkB : B.take 9 = B := List.take_of_length_le (by omega)
       have hlp : L.loop [1, 4, 6, 7, 21, 22, 23] [2, 3, 7] lC (k + 1) [.loc k 0, .sl N pc, dI rp, .bK, .sl N pc, .int .i64 N, .int .i64 0] (pre ++ [.live B]) = some (.ret, [.bK, xZ c, .bK], pre ++ [.live B]) := by
        rcases hpre with ⟨rfl, rfl⟩ | ⟨rfl, rfl⟩
        ·refine aJ (iJ ..) ?_
         simp [g_, hN0, hN0I, g1, g2, g3, g4, hbc, hbl, hbd, htkB, hpay, mP]
        ·refine aJ (iJ ..) ?_
         simp [g_, hN0, hN0I, g1, g2, g3, g4, hbc, hbl, hbd, htkB, hpay, mP]
       rcases hpre with ⟨rfl, rfl⟩ | ⟨rfl, rfl⟩
       ·simp at hlp
        refine kH BX rfl (BU ..) ?_
        simp [yI, hpl, hbc, hbl, hbd, htkB, hreg, hlp]
       ·simp at hlp
        refine kH BX rfl (BU ..) ?_
        simp [yI, hpl, hbc, hbl, hbd, htkB, hreg, hlp]
     | ok q =>
       rw [hpb] at hpay
       simp only [Ec] at hpay
       simp only [callOf]
       have hqB := aml hchk d1 d2 hpb (fun l hl => (Ue hchk d2 hl).2)
       have hrest := of_rest hpre hc hr (aaf hf) (by omega) (by omega) (ps := p :: r) (by omega) r [p] [(p.2, if r = [] then q + wU b else q)] rfl (by simp) rfl
       have hfl : kT ([(p.2, if r = [] then q + wU b else q)] ++ Bh (rJ b) (wU b) r) = kT (LQ q (rJ b) (wU b) (p :: r)) := by
        cases r with
        | nil => simp [LQ, Bh, kT]
        | cons p2 r2 => simp [LQ, kT]
       rw [hfl] at hrest
       have hfll := aiE q (rJ b) (wU b) (p :: r)
       have hfcl := fun n => YR (LQ q (rJ b) (wU b) (p :: r)) n 11
       rw [hfll]
       generalize kT (LQ q (rJ b) (wU b) (p :: r)) = FC at *
       have hg := JC (ps := p :: r) (i := 0) (p := p) rfl
       have hcl := lH (p :: r) 0 11
       have hbr := Ey hc hr
       have hadd := DU hqB (XP b) (by omega)
       have ht1 := zT hqB (by omega) (by omega)
       have ht2 := zT (hqB.add (XP b)) (by omega) (by omega)
       unfold pD at hpay
       obtain ⟨p1, p2⟩ := p
       simp only at *
       obtain ⟨g1, g2, g3, g4⟩ := hg
       simp only [Nat.zero_mul, Nat.zero_add, List.drop_zero] at g1 g2 g3 g4
       unfold kS at hpl hrest
       simp only [kT, List.length_singleton] at hrest
       generalize bW ((p1, p2) :: r) = pc at *
       generalize hN : ((p1, p2) :: r).length = N at *
       have hN0 : 0 < N := by omega
       have hN0I : (0 : Int) < N := by omega
       have e2 : IntKind.i64.wrap ((N : Int) - 1) = (N : Int) - 1 := wrap64 _ (by omega)
       have hlp : L.loop [1, 4, 6, 7, 21, 22, 23] [2, 3, 7] lC (k + 1) [.loc k 0, .sl N pc, dI (rJ b), .bK, .sl N pc, .int .i64 N, .int .i64 0] (pre ++ [.live (aW b)]) = some (.exit 0, [.undef, .undef, .aT (k + 1) 0 N 2], pre ++ [.live (aW b), .live FC]) := by
        generalize rJ b = rp at *
        by_cases hr0 : r = []
        ·subst hr0
         simp at hN
         subst hN
         rw [if_pos rfl] at hrest
         generalize q + wU b = qs at *
         generalize wU b = rd at *
         unfold bQ at hpl hreg hpay hbr
         generalize aW b = B at *
         have htkB : B.take 9 = B := List.take_of_length_le (by omega)
         rcases hpre with ⟨rfl, rfl⟩ | ⟨rfl, rfl⟩
         ·simp at hrest
          refine aJ (iJ ..) ?_
          simp [g_, g1, g2, g3, g4, hbc, hbl, hbd, htkB, hpay, hbr, hadd, ht2, sW, wrap64, hrest, mP]
         ·simp at hrest
          refine aJ (iJ ..) ?_
          simp [g_, g1, g2, g3, g4, hbc, hbl, hbd, htkB, hpay, hbr, hadd, ht2, sW, wrap64, hrest, mP]
        ·rw [if_neg hr0] at hrest
         have hrl : 0 < r.length := List.length_pos_iff.2 hr0
         have hN1 : ¬ (0 : Int) = (N : Int) - 1 := by omega
         have hN1' : ¬ (N : Int) - 1 = 0 := by omega
         unfold bQ at hpl hreg hpay
         generalize aW b = B at *
         have htkB : B.take 9 = B := List.take_of_length_le (by omega)
         rcases hpre with ⟨rfl, rfl⟩ | ⟨rfl, rfl⟩
         ·simp at hrest
          refine aJ (iJ ..) ?_
          simp [g_, hN0, hN0I, g1, g2, g3, g4, hbc, hbl, hbd, htkB, hpay, e2, hN1, hN1', ht1, sW, wrap64, hrest, mP]
         ·simp at hrest
          refine aJ (iJ ..) ?_
          simp [g_, hN0, hN0I, g1, g2, g3, g4, hbc, hbl, hbd, htkB, hpay, e2, hN1, hN1', ht1, sW, wrap64, hrest, mP]
       generalize rJ b = rp at *
       unfold bQ at hpl hreg hpay ⊢
       generalize aW b = B at *
       have htkB : B.take 9 = B := List.take_of_length_le (by omega)
       rcases hpre with ⟨rfl, rfl⟩ | ⟨rfl, rfl⟩
       ·simp at hlp
        refine kH BX rfl (BU ..) ?_
        simp [yI, hpl, hbc, hbl, hbd, htkB, hreg, hlp, hfcl]
       ·simp at hlp
        refine kH BX rfl (BU ..) ?_
        simp [yI, hpl, hbc, hbl, hbd, htkB, hreg, hlp, hfcl]
def ale (r : Er × List (Int × Rat)) : D := .aS [flD r.2, erV r.1]
theorem aiF {b : aV} {e : Int × Option (List UInt8)} (h : (FN b).1 = some e) : (FN b).2 = [] := by
 unfold FN at *
 split
 ·rfl
 ·rename_i h0
  rw [h0] at h
  simp only at h
  split
  ·rfl
  ·rename_i p r hps
   rw [hps] at h
   simp only at h
   split at h
   ·rfl
   ·simp at h
theorem agY {b : aV} (hc : b.je.length ≤ 1000000) (hr : b.jg.length ≤ 1000000) : L.call qN [bQ b] = some (ale (FN b)) := by
 have h := ae' (b := b) (pre := []) (k := 0) (.inl ⟨rfl, rfl⟩) hc hr
 have he := fun {e} => @aiF b e
 unfold ale flD
 cases hr : FN b with
 | mk e fs =>
   rw [hr] at h he
   have hfz : ∀ m, kC (fz 10) (kT fs) m = some (kT fs, m) := fun m => al_ fs 9 m
   have hlen := afW fs
   have htk : (kT fs).take (fs.length * 2) = kT fs := List.take_of_length_le (by omega)
   cases e with
   | some e =>
     have := he rfl
     simp only at this
     subst this
     refine tC h ?_
     rcases e with ⟨c, _ | s⟩ <;> simp [erV, fP, kT]
   | none =>
     refine tC h ?_
     generalize kT fs = fc at *
     simp [erV, hfz, hlen, htk]
end Go.Ev.Code
end
section
namespace Go.Ev.Code
open Go Go.Ev
theorem ahv {y m : Nat} (hy : 1900 ≤ y) (h1 : 1 ≤ m) (h2 : m ≤ 12) : ∃ y1 m1 y6 m6 : Nat, y1 * 12 + m1 = y * 12 + m + 1 ∧ y6 * 12 + m6 = y * 12 + m + 6 ∧ 1 ≤ m1 ∧ m1 ≤ 12 ∧ 1 ≤ m6 ∧ m6 ≤ 12 ∧ dayOf y1 m1 1 + 150 ≤ dayOf y6 m6 1 := by
 have hb := Bz hy
 have hm : m = 1 ∨ m = 2 ∨ m = 3 ∨ m = 4 ∨ m = 5 ∨ m = 6 ∨ m = 7 ∨ m = 8 ∨ m = 9 ∨ m = 10 ∨ m = 11 ∨ m = 12 := by omega
 have f2 : ∀ y, 28 ≤ bf y 2 ∧ bf y 2 ≤ 29 := fun y => by
  show 28 ≤ (if leap y = true then 29 else 28) ∧ (if leap y = true then 29 else 28) ≤ 29
  split <;> omega
 have e2 := f2 y
 have e2' := f2 (y + 1)
 have c0 : bU y 12 = bf y 1 + bf y 2 + bf y 3 + bf y 4 + bf y 5 + bf y 6 + bf y 7 + bf y 8 + bf y 9 + bf y 10 + bf y 11 + bf y 12 := by simp only [bU, Nat.zero_add, Nat.reduceAdd]
 have l1 : ∀ y, bf y 1 = 31 := fun _ => rfl
 have l3 : ∀ y, bf y 3 = 31 := fun _ => rfl
 have l4 : ∀ y, bf y 4 = 30 := fun _ => rfl
 have l5 : ∀ y, bf y 5 = 31 := fun _ => rfl
 have l6 : ∀ y, bf y 6 = 30 := fun _ => rfl
 have l7 : ∀ y, bf y 7 = 31 := fun _ => rfl
 have l8 : ∀ y, bf y 8 = 31 := fun _ => rfl
 have l9 : ∀ y, bf y 9 = 30 := fun _ => rfl
 have l10 : ∀ y, bf y 10 = 31 := fun _ => rfl
 have l11 : ∀ y, bf y 11 = 30 := fun _ => rfl
 have l12 : ∀ y, bf y 12 = 31 := fun _ => rfl
 rcases hm with rfl | rfl | rfl | rfl | rfl | rfl | rfl | rfl | rfl | rfl | rfl | rfl
 ·exact ⟨y, 2, y, 7, by omega, by omega, by omega, by omega, by omega, by omega, by simp only [dayOf, bU, Nat.reduceAdd, Nat.reduceSub, l1, l3, l4, l5, l6, l7, l8, l9, l10, l11, l12]; omega⟩
 ·exact ⟨y, 3, y, 8, by omega, by omega, by omega, by omega, by omega, by omega, by simp only [dayOf, bU, Nat.reduceAdd, Nat.reduceSub, l1, l3, l4, l5, l6, l7, l8, l9, l10, l11, l12]; omega⟩
 ·exact ⟨y, 4, y, 9, by omega, by omega, by omega, by omega, by omega, by omega, by simp only [dayOf, bU, Nat.reduceAdd, Nat.reduceSub, l1, l3, l4, l5, l6, l7, l8, l9, l10, l11, l12]; omega⟩
 ·exact ⟨y, 5, y, 10, by omega, by omega, by omega, by omega, by omega, by omega, by simp only [dayOf, bU, Nat.reduceAdd, Nat.reduceSub, l1, l3, l4, l5, l6, l7, l8, l9, l10, l11, l12]; omega⟩
 ·exact ⟨y, 6, y, 11, by omega, by omega, by omega, by omega, by omega, by omega, by simp only [dayOf, bU, Nat.reduceAdd, Nat.reduceSub, l1, l3, l4, l5, l6, l7, l8, l9, l10, l11, l12]; omega⟩
 ·exact ⟨y, 7, y, 12, by omega, by omega, by omega, by omega, by omega, by omega, by simp only [dayOf, bU, Nat.reduceAdd, Nat.reduceSub, l1, l3, l4, l5, l6, l7, l8, l9, l10, l11, l12]; omega⟩
 ·refine ⟨y, 8, y + 1, 1, by omega, by omega, by omega, by omega, by omega, by omega, ?_⟩
  simp only [dayOf, hb, c0, bU, Nat.reduceAdd, Nat.reduceSub, l1, l3, l4, l5, l6, l7, l8, l9, l10, l11, l12]; omega
 ·refine ⟨y, 9, y + 1, 2, by omega, by omega, by omega, by omega, by omega, by omega, ?_⟩
  simp only [dayOf, hb, c0, bU, Nat.reduceAdd, Nat.reduceSub, l1, l3, l4, l5, l6, l7, l8, l9, l10, l11, l12]; omega
 ·refine ⟨y, 10, y + 1, 3, by omega, by omega, by omega, by omega, by omega, by omega, ?_⟩
  simp only [dayOf, hb, c0, bU, Nat.reduceAdd, Nat.reduceSub, l1, l3, l4, l5, l6, l7, l8, l9, l10, l11, l12]; omega
 ·refine ⟨y, 11, y + 1, 4, by omega, by omega, by omega, by omega, by omega, by omega, ?_⟩
  simp only [dayOf, hb, c0, bU, Nat.reduceAdd, Nat.reduceSub, l1, l3, l4, l5, l6, l7, l8, l9, l10, l11, l12]; omega
 ·refine ⟨y, 12, y + 1, 5, by omega, by omega, by omega, by omega, by omega, by omega, ?_⟩
  simp only [dayOf, hb, c0, bU, Nat.reduceAdd, Nat.reduceSub, l1, l3, l4, l5, l6, l7, l8, l9, l10, l11, l12]; omega
 ·refine ⟨y + 1, 1, y + 1, 6, by omega, by omega, by omega, by omega, by omega, by omega, ?_⟩
  simp only [dayOf, hb, c0, bU, Nat.reduceAdd, Nat.reduceSub, l1, l3, l4, l5, l6, l7, l8, l9, l10, l11, l12]; omega
theorem acR {a b : Int} (ha : bF a) (hb : bF b) (h : mi a + 6 ≤ mi b) : a + 150 < b := by
 obtain ⟨y, m, d, hc, rfl, _⟩ := dU ha
 obtain ⟨y', m', d', hc', rfl, _⟩ := dU hb
 rw [Dx hc, Dx hc'] at h
 have a1 := hc.y1; have a2 := hc.m1; have a3 := hc.m2; have a4 := hc'.y2; have a5 := hc'.m1; have a6 := hc'.m2
 obtain ⟨y1, m1, y6, m6, e1, e6, b1, b2, b3, b4, hg⟩ := ahv hc.y1 hc.m1 hc.m2
 have p1 := yj (y := y1) b1 b2
 have p6 := yj (y := y6) b3 b4
 have c1 : uO y1 m1 1 := ⟨by omega, by omega, b1, b2, by omega, by omega⟩
 have c6 : uO y6 m6 1 := ⟨by omega, by omega, b3, b4, by omega, by omega⟩
 have h1 := vO hc c1 (by omega)
 rcases Nat.lt_or_ge (y6 * 12 + m6) (y' * 12 + m') with h2 | h2
 ·have h3 := vO c6 hc' h2
  omega
 ·obtain rfl : y6 = y' := by omega
  obtain rfl : m6 = m' := by omega
  have := hc'.d1
  have h3 : dayOf y6 m6 1 ≤ dayOf y6 m6 d' := by unfold dayOf; omega
  omega
structure Lone (b : aV) : Prop where
 m1 : 20000 ≤ b.dD
 m2 : b.dD ≤ 99999
 i1 : b.issue < b.dD
 i2 : b.dD ≤ b.issue + 150
 fr : b.dW = 2
 cp : b.je = [53]
 rd : b.jg = [49, 48, 48]
 ct : b.count = 1
 s1 : 1 ≤ b.stub
 s2 : b.stub ≤ 2
 ex : b.ex = 0
theorem Lone.day {b : aV} (h : Lone b) : bF b.dD := ⟨by have := h.m1; omega, by have := h.m2; omega⟩
theorem Lone.LV {b : aV} (h : Lone b) : bF b.issue := ⟨by have := h.m1; have := h.i2; omega, by have := h.m2; have := h.i1; omega⟩
theorem Lone.mo {b : aV} (h : Lone b) : months b = 6 := by unfold months; rw [h.fr]; rfl
theorem Lone.sums {b : aV} (h : Lone b) : Bv b = none := by
 unfold Bv
 rw [h.cp, h.rd]
 decide +kernel
theorem Lone.mi6 {b : aV} (h : Lone b) : mi b.dD < mi b.issue + 6 := by
 rcases Nat.lt_or_ge (mi b.dD) (mi b.issue + 6) with h1 | h1
 ·exact h1
 ·have := acR h.LV h.day h1
  have := h.i2
  omega
theorem Lone.ao_ {b : aV} (h : Lone b) : chk b = none := by
 have hmo := Ua h.LV h.day (by have := h.i1; omega)
 have hd : xM b = none := by
  unfold xM
  rw [if_neg (by have := h.LV; simpa using this), if_neg (by have := h.day; simpa using this), if_neg (by have := h.i1; omega)]
  split
  ·rename_i e he
   have h1 := NU he
   have h2 := h.mi6
   have h3 := acS h.day (Ji he) (by omega)
   rw [if_neg (by omega)]
  ·rfl
 have hp : SI b ≤ 200 := by
  unfold SI
  rw [afM, h.mo]
  have h2 := h.mi6
  rw [Int.tdiv_eq_ediv_of_nonneg (by omega)]
  omega
 unfold chk
 rw [hd, h.mo, h.sums]
 simp only
 rw [if_neg (by omega), if_neg (by have := h.ct; omega), if_neg (by have := h.s1; have := h.s2; omega), if_neg (by have := h.ex; omega), if_neg (by omega)]
theorem Lone.far {b : aV} (h : Lone b) {c : Nat} (hc : anch b 1 = some c) : (c : Int) < b.issue := by
 unfold anch at hc
 rw [h.mo] at hc
 have h1 := NU hc
 have h2 := acR (Ji hc) h.day (by omega)
 have := h.i2
 omega
theorem Lone.kEq {b : aV} (h : Lone b) : eu b = 1 := by
 obtain ⟨k1, k2, k3⟩ := N_ (b := b) (by rw [h.mo]; omega)
 have g1 : Goes b 0 := ⟨_, Lc h.day, by have := h.i1; have := h.m1; omega⟩
 have g2 : ¬ Goes b 1 := by
  rintro ⟨a, ha, hlt⟩
  have := h.far ha
  omega
 rcases Nat.lt_trichotomy (eu b) 1 with hl | hl | hl
 ·have : eu b = 0 := by omega
  rw [this] at k2
  exact absurd g1 k2
 ·exact hl
 ·exact absurd (k1 _ hl) g2
theorem Lone.hit {b : aV} (h : Lone b) : RI b = false := by
 unfold RI
 rw [h.kEq]
 split
 ·rename_i a ha
  have := h.far ha
  simp only [decide_eq_false_iff_not]
  omega
 ·rfl
theorem Lone.raw {b : aV} (h : Lone b) : iy b = [(b.issue, b.dD)] := by
 unfold iy
 rw [h.kEq]
 have h0 := Lc h.day
 simp [jL, h0, lF]
 have := h.m1
 omega
theorem Lone.plan {b : aV} (h : Lone b) : jm b = (none, [(b.issue, b.dD)]) := by
 unfold jm
 rw [h.ao_]
 simp only
 rw [h.hit, if_neg (by decide), if_neg (by have := h.s1; omega), h.raw]
 split <;> rfl
theorem Lone.flow {b : aV} (h : Lone b) : ∃ a, FN b = (none, [(b.dD, a)]) := by
 unfold FN
 rw [h.plan]
 simp only
 have hp : ∃ q, SH b (b.issue, b.dD) = .ok q := by
  unfold SH
  split
  ·exact ⟨_, rfl⟩
  ·unfold Ph
   rw [if_neg (by have := h.ct; omega), if_neg (by have := h.i1; simp only; omega)]
   exact ⟨_, rfl⟩
 obtain ⟨q, hq⟩ := hp
 rw [hq]
 exact ⟨_, rfl⟩
end Go.Ev.Code
end
