/- A part of the proof of flowSum_card, flowParts_card, flowEx_card, accrWhole_card, priceZero_card. -/
import Derived.Test.YtnokhmkkpcfilaaGreatDoorCSpD8
import Derived.Test.YtnokhmkkpcfilaaGreatDoorCSpD6
import Derived.Test.YtnokhmkkpcfilaaGreatDoorCSpD2
set_option linter.unusedVariables false
set_option linter.unusedSimpArgs false
namespace Go.Ev.Code
open Go Go.Ev
def LH : Rat → List (Int × Rat) → Rat
 | s, [] => s
 | s, p :: r => LH (s + p.2) r
theorem acX : ∀ (l : List (Int × Rat)) (s : Rat), LH s l = s + Bv 1 (l.map Prod.snd)
 | [], s => by simp only [LH, List.map_nil, Bv]; grind
 | p :: r, s => by
   simp only [LH, List.map_cons, Bv]
   rw [acX r]
   grind
theorem ai6 {k : Nat} : ∀ {l : List (Int × Rat)} {s : Rat} {j : Nat}, RB j s → (∀ p ∈ l, RB k p.2) → RB (j + (k + 1) * l.length) (LH s l)
 | [], s, j, hs, _ => by simpa [LH] using hs
 | p :: r, s, j, hs, h => by
   have := ai6 (l := r) (s := s + p.2) (j := j + k + 1) (hs.add (h p (by simp))) (fun q hq => h q (by simp [hq]))
   simp only [LH]
   refine this.mono ?_
   rw [List.length_cons, Nat.mul_add]; omega
theorem am4 {K : Nat} {A B : List D} (hA : A.all (D.clo 2 12) = true) (hB : B.all (D.clo 2 12) = true) {dz : D} {dq : Rat} (hd : dz = bZ dq) {fs : List (Int × Rat)} (hn : fs.length ≤ 100000) : ∀ (rest pre : List (Int × Rat)) (s : Rat) (j : Nat), fs = pre ++ rest → (∀ p ∈ rest, RB 13000 p.2 ∧ RB K p.2) → RB j s → j + (K + 1) * rest.length ≤ 800000 →
  L.loop [12, 14, 16, 94, 95] [12, 16] f_ 2 [dz, AV fs, bZ s, .int .i64 fs.length, .int .i64 pre.length] [.live A, .live B] = some (.exit 0, [dz, bZ (LH s rest)], [.live A, .live B]) := by
 subst hd
 intro rest
 induction rest with
 | nil =>
   intro pre s j hal _ _ _
   rw [List.append_nil] at hal
   subst hal
   unfold AV
   simp only [LH]
   generalize dw fs = fc at *
   generalize fs.length = n at *
   refine aQ (yN ..) ?_
   simp [qK, hA, hB]
 | cons p r ih =>
   intro pre s j hal hall hs hj
   obtain ⟨h13, p1⟩ := hall p (by simp)
   have e0 : (K + 1) * (r.length + 1) = (K + 1) * r.length + K + 1 := by rw [Nat.mul_add]; omega
   rw [List.length_cons, e0] at hj
   have hn2 := ih (pre ++ [p]) (s + p.2) (j + K + 1) (by rw [hal]; simp) (fun q hq => hall q (by simp [hq])) (hs.add p1) (by omega)
   rw [List.length_append, List.length_singleton, show ((pre.length + 1 : Nat) : Int) = (pre.length : Int) + 1 by omega] at hn2
   have hg := KE h13
   have hadd := sU hs p1 (by omega)
   have hlt : pre.length < fs.length := by rw [hal]; simp
   have hget := Jq (l := fs) (i := pre.length) (p := p) (by rw [hal]; simp)
   have e1 : IntKind.i64.wrap ((pre.length : Int) + 1) = (pre.length : Int) + 1 := wrap64 _ (by omega)
   obtain ⟨g1, g2, g3⟩ := hget
   simp only [LH]
   unfold AV at *
   obtain ⟨d, q⟩ := p
   simp only at *
   generalize LH (s + q) r = res at *
   generalize s + q = s2 at *
   generalize dw fs = fc at *
   generalize fs.length = N at *
   generalize pre.length = P at *
   have hltI : (P : Int) < N := by omega
   refine aQ (yN ..) ?_
   simp [qK, hlt, hltI, g1, g2, g3, hg, hadd, e1, hA, hB, hn2]
theorem akD {b : aN} {s : Int} (h : (leftB b s).1 = none) (hx : b.ex = 0) : (leftB b s).2 = (bn b).2.drop (MB (aK b).2 s).toNat := by
 obtain ⟨k, k1, _, _, hd, _⟩ := WE h
 obtain ⟨f0, h0, h3, h4⟩ := jY h
 rw [k1, Int.toNat_natCast, ← hd]
 unfold leftB
 rw [f0]
 simp only
 rw [if_neg (by omega)]
 unfold QH
 rw [if_neg (by omega)]
theorem aki {b : aN} {s : Int} (h : (leftB b s).1 = none) (hx : b.ex = 0) (h0 : l7 b s ≠ 0) : Oy b s 0 = .ok (Bv 1 (((bn b).2.drop (MB (aK b).2 s).toNat).map Prod.snd)) := by
 have hf := jm (dM (jw (jY h).2.1)).2.1
 obtain ⟨gB, nB, yB, g0, n0⟩ := ajl hf (y := 0) (by omega) (by omega)
 unfold Oy
 rw [h]
 simp only
 have ha : ¬ nR b s 0 ≤ 0 := by
  unfold nR
  have h1 : (0 : Int) < (iY b s).den := by have := (iY b s).den_pos; omega
  have := Int.mul_pos h1 g0
  omega
 rw [if_neg (by omega), if_neg (by intro h; rcases h with h | h; exact h0 h; exact ha h)]
 have hg : ((dY b : Int) : Rat) ≠ 0 := fun h => by have := Rat.intCast_eq_zero_iff.1 h; omega
 have hd : XP b 0 = 1 := by
  unfold XP
  rw [Int.add_zero]
  generalize ((dY b : Int) : Rat) = g at *
  grind
 have ham : dP b s = ((bn b).2.drop (MB (aK b).2 s).toNat).map Prod.snd := by
  unfold dP Oz
  rw [hx]
  simp
 unfold Wv
 rw [hd, ham, Rat.intCast_zero]
 congr 1
 generalize iY b s = w at *
 generalize ((dY b : Int) : Rat) = g at *
 generalize Bv 1 _ = H
 have : 1 + w * (0 / g) = 1 := by grind
 rw [this]
 grind
set_option maxHeartbeats 1000000 in
theorem ahe (hbeg : L.call dF [] = some (.bool true)) (n k count : Int) (hk : -9223372036854775808 ≤ k ∧ k ≤ 9223372036854775807) : L.call iO [.int .i64 n, .int .i64 k, .int .i64 count] = some (.bool true) := by
 have hday := OG n
 obtain ⟨C, hC⟩ : ∃ C, C = 1 + count % 4 := ⟨_, rfl⟩
 have hCb : 1 ≤ C ∧ C ≤ 4 := by omega
 have hfive := LM [51, 46, 53] C
 have hD1 := Int.emod_nonneg n (show (109573 : Int) ≠ 0 by omega)
 have hD2 := Int.emod_lt_of_pos n (show (0 : Int) < 109573 by omega)
 obtain ⟨dd, hDe⟩ : ∃ dd, dd = n % 109573 := ⟨_, rfl⟩
 rw [← hDe] at hday hD1 hD2
 obtain ⟨I, hI⟩ : ∃ I, I = 3000 + dd % 90000 := ⟨_, rfl⟩
 have e1 : Int.tmod dd 90000 = dd % 90000 := Int.tmod_eq_emod_of_nonneg hD1
 have e2 : IntKind.i64.wrap (3000 + dd % 90000) = I := by rw [wrap64 _ (by omega)]; omega
 have hId : bQ I := ⟨by omega, by omega⟩
 have hmi : mi I ≤ 25900 := by
  have h1 := NC hId (b := 92999) (by decide) (by omega)
  have := Uj
  omega
 have hmb := QJ hId
 obtain ⟨A, hA⟩ := Qh (day := I) (n := 60) false hId (by omega) (by omega)
 have ham := Ef I 60 false
 rw [hA] at ham
 simp [okD] at ham
 obtain ⟨b, hb⟩ : ∃ b : aN, b = ⟨I, A, 2, [51, 46, 53], [49, 48, 48], C, 1, false, 0⟩ := ⟨_, rfl⟩
 have hmade : Made b 60 := by
  rw [hb]
  exact ⟨by show 3000 ≤ I; omega, by show I ≤ 92999; omega, ⟨A, hA, rfl⟩, by omega, by omega, .inr (.inl rfl), by (unfold I5; simp only; decide +kernel), ⟨hCb.1, hCb.2⟩, ⟨by show (1 : Int) ≤ 1; omega, by show (1 : Int) ≤ 2; omega⟩, ⟨by show (0 : Int) ≤ 0; omega, by show (0 : Int) ≤ 30; omega⟩⟩
 have hc : b.d_.length ≤ 1000000 := by rw [hb]; simp
 have hr : b.eH.length ≤ 1000000 := by rw [hb]; simp
 have hf := hmade.flow
 have h0 := hmade.plan
 have hw := (eG h0).2
 have hpl := qw hc hr
 unfold qp at hpl
 rw [h0] at hpl
 simp only [dK] at hpl
 have hpos : 0 < (aK b).2.length := List.length_pos_iff.2 hw.ne
 have hplen := hw.len
 obtain ⟨z, hz⟩ : ∃ z : Nat, (z : Int) = k % (aK b).2.length := ⟨(k % (aK b).2.length).toNat, by have := Int.emod_nonneg k (show ((aK b).2.length : Int) ≠ 0 by omega); omega⟩
 have hzlt : z < (aK b).2.length := by have := Int.emod_lt_of_pos k (show (0 : Int) < (aK b).2.length by omega); omega
 have q1 := JR (n := k) (k := ((aK b).2.length : Int)) (by omega) (by omega)
 rw [← hz] at q1
 obtain ⟨p, hp⟩ : ∃ p, (aK b).2[z]? = some p := ⟨_, List.getElem?_eq_getElem hzlt⟩
 have hmem := List.mem_of_getElem? hp
 obtain ⟨d1, d2, d3⟩ := lJ h0 hmem
 have hg := pJ hp
 have hl : (leftB b p.1).1 = none := by
  obtain ⟨_, g1, g2⟩ := acu h0 hmem (s := p.1) (by omega) (by omega)
  exact MX hf g1 g2
 have hx0 : b.ex = 0 := by rw [hb]
 obtain ⟨hdirty, hdB⟩ := acw hc hr p.1 (y := 0) (by omega)
 have hleft := Ia hc hr p.1
 unfold xQ at hleft
 rw [hl] at hleft
 simp only [jc] at hleft
 have hle := akD hl hx0
 have hrb := Y3 hf
 have hflen := WC hf
 have c1 := JR (n := count) (k := 4) (by omega) (by omega)
 have c2 : IntKind.i64.wrap (1 + count % 4) = C := by rw [wrap64 _ (by omega)]; omega
 have hsame := WO (some (3, none)) 3
 simp only [jc, aaf] at hsame
 have hLn : ¬ ((aK b).2.length : Int) = 0 := by omega
 have hLn' : ¬ (aK b).2.length = 0 := by omega
 obtain ⟨w1, hw1⟩ : ∃ w1, w1 = Int.tmod k (aK b).2.length := ⟨_, rfl⟩
 rw [← hw1] at q1
 obtain ⟨w2, hw2⟩ : ∃ w2, w2 = Int.tmod count 4 := ⟨_, rfl⟩
 rw [← hw2] at c1
 have hbd : bf b = .agg [.int .i64 I, .int .i64 A, .int .i64 2, .str [51, 46, 53], .str [49, 48, 48], .int .i64 C, .int .i64 1, .bool false, .int .i64 0] := by rw [hb]; rfl
 by_cases hwz : l7 b p.1 = 0
 ·have hE : Oy b p.1 0 = .error (some (3, none)) := by
   unfold Oy
   rw [hl]
   simp only
   rw [if_neg (by omega), if_pos (.inl hwz)]
  rw [hE] at hdirty
  simp only [Xg, jc] at hdirty
  rw [hbd] at hpl hdirty hleft
  unfold AV at hleft
  generalize dw (leftB b p.1).2 = fc at *
  generalize (leftB b p.1).2.length = NL at *
  clear hbd hmade hf h0 hw hl hmem hle hrb hflen hdB hE hwz
  obtain ⟨p1, p2⟩ := p
  simp only at *
  obtain ⟨g1, g2, g3, g4⟩ := hg
  clear hp
  unfold fZ at hpl
  generalize (aK b).2.length = M at *
  generalize bT (aK b).2 = pc at *
  unfold five bf aS at hfive
  simp only at *
  have hMI : (0 : Int) < M := by omega
  have hzI : (z : Int) < M := by omega
  refine aO Bd rfl (Ba ..) ?_
  simp [uX, hbeg, hfive, hday, e1, e2, ham, hpl, hLn, hLn', ← hw1, ← hw2, q1, c1, c2, hzlt, hzI, g1, g2, g3, g4, hdirty, hleft, hsame]
 ·have hE := aki hl hx0 hwz
  rw [← hle] at hE
  rw [hE] at hdirty
  have hdB2 := hdB _ hE
  simp only [Xg] at hdirty
  have hlen2 : (leftB b p.1).2.length ≤ 200 := by rw [hle, List.length_drop]; omega
  obtain ⟨K, hK⟩ : ∃ K : Nat, K = 1500 := ⟨_, rfl⟩
  have hall : ∀ x ∈ (leftB b p.1).2, RB 13000 x.2 ∧ RB K x.2 := by
   intro x hx
   rw [hle] at hx
   have := hrb x (List.mem_of_mem_drop hx)
   rw [← hK] at this
   exact ⟨this.mono (by rw [hK]; exact Nat.le_of_ble_eq_true rfl), this⟩
  have hKl : (K + 1) * (leftB b p.1).2.length ≤ 310000 := by
   have : (K + 1) * (leftB b p.1).2.length ≤ (K + 1) * 200 := Nat.mul_le_mul_left _ hlen2
   omega
  have hz0 : L.call h_ [.int .i64 0, .int .i64 1] = some (.aZ [bZ (Rat.divInt 0 1), .aF]) := oL (by omega) (by omega) (by omega)
  have hlp := fun (X Y : List D) (hX : X.all (D.clo 2 12) = true) (hY : Y.all (D.clo 2 12) = true) => am4 (K := K) hX hY (dq := Bv 1 ((leftB b p.1).2.map Prod.snd)) rfl (fs := (leftB b p.1).2) (by omega) (leftB b p.1).2 [] (Rat.divInt 0 1) 64 rfl hall NP (by omega)
  have hsv : LH (Rat.divInt 0 1) (leftB b p.1).2 = Bv 1 ((leftB b p.1).2.map Prod.snd) := by
   rw [acX, show Rat.divInt 0 1 = 0 from by decide +kernel]; grind
  rw [hsv] at hlp
  have hsB := ai6 NP (l := (leftB b p.1).2) (fun x hx => (hall x hx).2)
  rw [hsv] at hsB
  have hcmp := wV hdB2 hsB (by omega)
  rw [show ∀ q : Rat, Ak q q = 0 from fun q => by unfold Ak; rw [if_neg (by exact Rat.lt_irrefl), if_pos rfl]] at hcmp
  rw [hbd] at hpl hdirty hleft
  unfold AV at hleft hlp
  simp only [List.length_nil] at hlp
  generalize Bv 1 ((leftB b p.1).2.map Prod.snd) = H at *
  generalize dw (leftB b p.1).2 = fc at *
  generalize (leftB b p.1).2.length = NL at *
  generalize Rat.divInt 0 1 = zq at *
  clear hbd hmade hf h0 hw hl hmem hle hrb hflen hdB hE hwz hdB2 hall hsv hsB
  obtain ⟨p1, p2⟩ := p
  simp only at *
  obtain ⟨g1, g2, g3, g4⟩ := hg
  clear hp
  unfold fZ at hpl
  generalize (aK b).2.length = M at *
  generalize bT (aK b).2 = pc at *
  unfold five bf aS at hfive
  simp only at *
  have hlp2 := hlp [.int .i64 I, .int .i64 A, .int .i64 2, .str [51, 46, 53], .str [49, 48, 48], .int .i64 C, .int .i64 1, .bool false, .int .i64 0] [.int .i64 p1, .int .i64 p2] (by simp) (by simp)
  simp at hlp2
  have hMI : (0 : Int) < M := by omega
  have hzI : (z : Int) < M := by omega
  refine aO Bd rfl (Ba ..) ?_
  simp [uX, hbeg, hfive, hday, e1, e2, ham, hpl, hLn, hLn', ← hw1, ← hw2, q1, c1, c2, hzlt, hzI, g1, g2, g3, g4, hdirty, hleft, hz0, hlp2, hcmp]
end Go.Ev.Code
