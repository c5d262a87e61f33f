/- A part of the proof of flowSum_card, flowParts_card, flowEx_card, accrWhole_card, priceZero_card. -/
import Derived.Test.YtnokhmkkpcfilaaGreatDoorCSpD5
import Derived.Test.YtnokhmkkpcfilaaGreatDoorCSpD3
set_option linter.unusedVariables false
set_option linter.unusedSimpArgs false
namespace Go.Ev.Code
open Go Go.Ev
theorem alU (q : Rat) : Ak q q = 0 := by
 unfold Ak
 rw [if_neg (by exact Rat.lt_irrefl), if_pos rfl]
set_option maxHeartbeats 1000000 in
theorem agA (hbeg : L.call dF [] = some (.bool true)) (b0 : aN) (at' x y : Int) : L.call iM [bf b0, .int .i64 at', .int .i64 x, .int .i64 y] = some (.bool true) := by
 have hcut := WM b0
 obtain ⟨hc, hr⟩ := ajc b0
 generalize Jm b0 = b at *
 have hpl := qw hc hr
 have hbl := mQ b
 have hbd := mP b 0 10
 have hbl0 := mQ b0
 have hbd0 := mP b0 0 10
 have hcl' := fun n => iw b n
 have hcl0 := fun n => iw b0 n
 have hb2 : (aS b)[2]? = some (.int .i64 b.dQ) := rfl
 have hb5 : (aS b)[5]? = some (.int .i64 b.count) := rfl
 unfold qp at hpl
 cases he : (aK b).1 with
 | some e =>
   rw [he] at hpl
   unfold bf fZ at *
   obtain ⟨i, mt, fq, c, rd', n, st, en, ex⟩ := b
   obtain ⟨i', mt', fq', c', rd'', n', st', en', ex'⟩ := b0
   unfold aS at *
   simp only at *
   obtain ⟨c, t⟩ := e
   simp only [dK, fQ] at hpl
   refine aO Bc rfl (A_ ..) ?_
   simp [dN, hbeg, hcut, hpl]
 | none =>
   rw [he] at hpl
   have hw := eG he
   have hchk := hw.1
   have hf := jm (dM hchk).2.1
   have hne := hw.2.ne
   have hplen := hw.2.len
   have hpos : 0 < (aK b).2.length := List.length_pos_iff.2 hne
   obtain ⟨k, hk⟩ : ∃ k : Nat, (k : Int) = Int.tmod (at' % 1024) (aK b).2.length := ⟨(Int.tmod (at' % 1024) (aK b).2.length).toNat, by
    rw [Int.tmod_eq_emod_of_nonneg (Int.emod_nonneg _ (by decide))]
    have := Int.emod_nonneg (at' % 1024) (show ((aK b).2.length : Int) ≠ 0 by omega)
    omega⟩
   have hklt : k < (aK b).2.length := by
    have h1 := Int.tmod_eq_emod_of_nonneg (b := ((aK b).2.length : Int)) (Int.emod_nonneg at' (show (1024 : Int) ≠ 0 by decide))
    have h2 := Int.emod_lt_of_pos (at' % 1024) (show (0 : Int) < ((aK b).2.length : Int) by omega)
    omega
   obtain ⟨p, hp⟩ : ∃ p, (aK b).2[k]? = some p := ⟨_, List.getElem?_eq_getElem hklt⟩
   obtain ⟨d1, d2, d3⟩ := lJ he (List.mem_of_getElem? hp)
   have hg := pJ hp
   obtain ⟨N, hN⟩ : ∃ N : Int, N = p.2 - p.1 + 1 := ⟨_, rfl⟩
   have tm : ∀ z : Int, ∃ w : Int, Int.tmod (z % 1024) N = w ∧ 0 ≤ w ∧ w < N := by
    intro z
    refine ⟨_, rfl, ?_⟩
    rw [Int.tmod_eq_emod_of_nonneg (Int.emod_nonneg _ (by decide))]
    exact ⟨Int.emod_nonneg _ (by omega), Int.emod_lt_of_pos _ (by omega)⟩
   obtain ⟨wx, hwx, wx0, wx1⟩ := tm x
   obtain ⟨wy, hwy, wy0, wy1⟩ := tm y
   have a0 := ai9 (m := [.live (aS b), .free]) at'
   have e1 : IntKind.i64.wrap (p.2 - p.1) = p.2 - p.1 := wrap64 _ (by omega)
   have e2 : IntKind.i64.wrap (p.2 - p.1 + 1) = N := by rw [wrap64 _ (by omega)]; omega
   have e3 : IntKind.i64.wrap (p.1 + wx) = p.1 + wx := wrap64 _ (by omega)
   have e4 : IntKind.i64.wrap (p.1 + wy) = p.1 + wy := wrap64 _ (by omega)
   have hNn : ¬ N = 0 := by omega
   have hLn : ¬ ((aK b).2.length : Int) = 0 := by omega
   have hfr : L.call h_ [.int .i64 1, .int .i64 b.dQ] = some (.aZ [bZ (Rat.divInt 1 b.dQ), .aF]) := oL (by omega) (by rcases hf with h | h | h | h <;> omega) (by rcases hf with h | h | h | h <;> omega)
   have hreg := qP hc hr p
   have hsame := WO (some (4, none)) 4
   simp only [jc, aaf] at hsame
   obtain ⟨u, v, huv, hu, hv, hswap⟩ : ∃ u v : Int, u ≤ v ∧ p.1 ≤ u ∧ v ≤ p.2 ∧ ((¬ p.1 + wy < p.1 + wx ∧ u = p.1 + wx ∧ v = p.1 + wy) ∨ (p.1 + wy < p.1 + wx ∧ u = p.1 + wy ∧ v = p.1 + wx)) := by
    by_cases h : p.1 + wy < p.1 + wx
    ·exact ⟨p.1 + wy, p.1 + wx, by omega, by omega, by omega, .inr ⟨h, rfl, rfl⟩⟩
    ·exact ⟨p.1 + wx, p.1 + wy, by omega, by omega, by omega, .inl ⟨h, rfl, rfl⟩⟩
   have f1 := qE he hc hr d1 d2 d3 p.1 u
   have f2 := qE he hc hr d1 d2 d3 u v
   have f3 := qE he hc hr d1 d2 d3 v p.2
   have f4 := qE he hc hr d1 d2 d3 p.1 p.2
   have hR1 := fun (q : Rat) (h : fV b p p.1 u = .ok q) => zB hchk d1 d2 h (n := 3600) (fun l hl => (vS hchk d2 hl).2)
   have hR2 := fun (q : Rat) (h : fV b p u v = .ok q) => zB hchk d1 d2 h (n := 3600) (fun l hl => (vS hchk d2 hl).2)
   have hR3 := fun (q : Rat) (h : fV b p v p.2 = .ok q) => zB hchk d1 d2 h (n := 3600) (fun l hl => (vS hchk d2 hl).2)
   have hR4 := fun (q : Rat) (h : fV b p p.1 p.2 = .ok q) => zB hchk d1 d2 h (n := 3600) (fun l hl => (vS hchk d2 hl).2)
   have hwhole := fun (h1 : regular b p = true) (h2 : b.count = 4) (a : Rat) (h3 : fV b p p.1 p.2 = .ok a) => akL hchk d1 d2 d3 h1 h2 h3
   have hand : ∀ (m : Mem) (a : Int), dZ .and [.int .i64 a, .int .i64 1023] m = some (.int .i64 (a % 1024), m) := fun m a => ai9 a
   have hparts := aom hchk d2 (u := u) (v := v) hu huv hv
   obtain ⟨p1, p2⟩ := p
   simp only at *
   obtain ⟨g1, g2, g3, g4⟩ := hg
   unfold pD at *
   simp only at *
   simp only [dK] at hpl
   generalize regular b (p1, p2) = rg at *
   generalize fV b (p1, p2) p1 u = q1 at *
   generalize fV b (p1, p2) u v = q2 at *
   generalize fV b (p1, p2) v p2 = q3 at *
   generalize fV b (p1, p2) p1 p2 = q4 at *
   unfold bf fZ at *
   generalize (aK b).2.length = pn at *
   generalize bT (aK b).2 = pc at *
   obtain ⟨i, mt, fq, c, rd', n, st, en, ex⟩ := b
   obtain ⟨i', mt', fq', c', rd'', n', st', en', ex'⟩ := b0
   unfold aS at *
   simp only at *
   have hkI : (k : Int) < pn := by omega
   have hrem1 : ∀ m : Mem, dZ .rem [.int .i64 (at' % 1024), .int .i64 (pn : Int)] m = some (.int .i64 (k : Int), m) := fun m => by
    show (bif IntKind.i64 == IntKind.i64 then (Ev.aj .rem .i64 (at' % 1024) (pn : Int)).bind fun d => some (d, m) else none) = _
    simp only [beq_self_eq_true, cond_true, Ev.aj]
    rw [if_neg hLn, ← hk]; rfl
   have hrem2 : ∀ m : Mem, dZ .rem [.int .i64 (x % 1024), .int .i64 N] m = some (.int .i64 wx, m) := fun m => by
    show (bif IntKind.i64 == IntKind.i64 then (Ev.aj .rem .i64 (x % 1024) N).bind fun d => some (d, m) else none) = _
    simp only [beq_self_eq_true, cond_true, Ev.aj]
    rw [if_neg hNn, hwx]; rfl
   have hrem3 : ∀ m : Mem, dZ .rem [.int .i64 (y % 1024), .int .i64 N] m = some (.int .i64 wy, m) := fun m => by
    show (bif IntKind.i64 == IntKind.i64 then (Ev.aj .rem .i64 (y % 1024) N).bind fun d => some (d, m) else none) = _
    simp only [beq_self_eq_true, cond_true, Ev.aj]
    rw [if_neg hNn, hwy]; rfl
   refine aO Bc rfl (A_ ..) ?_
   rcases hparts with ⟨rfl, rfl, rfl, rfl⟩ | ⟨A, C, E, rfl, rfl, rfl, rfl⟩
   ·simp only [AX] at f1 f2 f3 f4
    rcases hswap with ⟨hs, rfl, rfl⟩ | ⟨hs, rfl, rfl⟩
    ·have hs' : ¬ wy < wx := by omega
     simp [dN, hbeg, hcut, hpl, hand, hrem1, hrem2, hrem3, hklt, hkI, g1, g2, g3, g4, e1, e2, e3, e4, hs, hs', f1, f2, f3, f4, hsame]
    ·have hs' : wy < wx := by omega
     simp [dN, hbeg, hcut, hpl, hand, hrem1, hrem2, hrem3, hklt, hkI, g1, g2, g3, g4, e1, e2, e3, e4, hs, hs', f1, f2, f3, f4, hsame]
   ·simp only [AX] at f1 f2 f3 f4
    have r1 := hR1 _ rfl
    have r2 := hR2 _ rfl
    have r3 := hR3 _ rfl
    have r4 := hR4 _ rfl
    have ad1 := sU r1 r2 (by omega)
    have ad2 := sU (r1.add r2) r3 (by omega)
    have cp1 := wV r4 r4 (by omega)
    rw [alU] at cp1
    generalize hS : A + C + E = S at *
    generalize A + C = S1 at *
    by_cases h4 : n = 4
    ·have hwh4 := fun (h : rg = true) => hwhole h h4 S rfl
     subst h4
     cases rg with
     | false =>
       rcases hswap with ⟨hs, rfl, rfl⟩ | ⟨hs, rfl, rfl⟩
       ·have hs' : ¬ wy < wx := by omega
        simp [dN, hbeg, hcut, hpl, hand, hrem1, hrem2, hrem3, hklt, hkI, g1, g2, g3, g4, e1, e2, e3, e4, hs, hs', f1, f2, f3, f4,  hfr, ad1, ad2, cp1, hreg]
       ·have hs' : wy < wx := by omega
        simp [dN, hbeg, hcut, hpl, hand, hrem1, hrem2, hrem3, hklt, hkI, g1, g2, g3, g4, e1, e2, e3, e4, hs, hs', f1, f2, f3, f4,  hfr, ad1, ad2, cp1, hreg]
     | true =>
       have := hwh4 rfl
       rw [← this] at hfr
       rcases hswap with ⟨hs, rfl, rfl⟩ | ⟨hs, rfl, rfl⟩
       ·have hs' : ¬ wy < wx := by omega
        simp [dN, hbeg, hcut, hpl, hand, hrem1, hrem2, hrem3, hklt, hkI, g1, g2, g3, g4, e1, e2, e3, e4, hs, hs', f1, f2, f3, f4,  hfr, ad1, ad2, cp1, hreg]
       ·have hs' : wy < wx := by omega
        simp [dN, hbeg, hcut, hpl, hand, hrem1, hrem2, hrem3, hklt, hkI, g1, g2, g3, g4, e1, e2, e3, e4, hs, hs', f1, f2, f3, f4,  hfr, ad1, ad2, cp1, hreg]
    ·rcases hswap with ⟨hs, rfl, rfl⟩ | ⟨hs, rfl, rfl⟩
     ·have hs' : ¬ wy < wx := by omega
      simp [dN, hbeg, hcut, hpl, hand, hrem1, hrem2, hrem3, hklt, hkI, g1, g2, g3, g4, e1, e2, e3, e4, hs, hs', f1, f2, f3, f4,  hfr, ad1, ad2, cp1, h4]
     ·have hs' : wy < wx := by omega
      simp [dN, hbeg, hcut, hpl, hand, hrem1, hrem2, hrem3, hklt, hkI, g1, g2, g3, g4, e1, e2, e3, e4, hs, hs', f1, f2, f3, f4,  hfr, ad1, ad2, cp1, h4]
end Go.Ev.Code
