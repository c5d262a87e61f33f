/- A part of the proof of priceFalls_card, riskSigns_card, yieldBack_card, yieldEdge_card, yieldFalls_card. -/
import Derived.Test.YtnokhmkkpcfilabGreatDoorCSpD3
set_option linter.unusedVariables false
set_option linter.unusedSimpArgs false
section
namespace Go.Ev.Code
open Go Go.Ev
theorem aeQ : ∀ (k : Nat) {x : Nat}, x < 10 ^ k → lW (k + 1) x = 48 :: lW k x
 | 0, x, h => by
   obtain rfl : x = 0 := by omega
   rfl
 | k + 1, x, h => by
   have h1 : x / 10 < 10 ^ k := by rw [Nat.pow_succ] at h; omega
   have := aeQ k h1
   show lW (k + 1) (x / 10) ++ [dg (x % 10)] = 48 :: (lW k (x / 10) ++ [dg (x % 10)])
   rw [this]; rfl
theorem aik : ∀ (k : Nat) {x : Nat}, 10 ^ k ≤ x → x < 10 ^ (k + 1) → lW (k + 1) x = txt x
 | 0, x, h, h2 => by
   have h3 : x < 10 := h2
   rw [nK h3]
   show [] ++ [dg (x % 10)] = [dg x]
   rw [Nat.mod_eq_of_lt h3]; rfl
 | k + 1, x, h, h2 => by
   have h1 : 10 ^ k ≤ x / 10 := by rw [Nat.pow_succ] at h; omega
   have h3 : x / 10 < 10 ^ (k + 1) := by rw [Nat.pow_succ] at h2; omega
   have h4 : 10 ≤ x := by
    have : 0 < 10 ^ k := Nat.pow_pos (by decide)
    omega
   rw [Dn h4, ← aik k h1 h3]; rfl
theorem apn {l : D} (hl : ∃ n cs, l = .sl n cs) (z : Int) : ∀ (j : Nat) (x : Nat) (acc : List UInt8), j ≤ 9 → x < 1000000000 → acc.length + j ≤ 100000 →
  L.loop [0, 3, 4, 5, 6] [0, 3, 4] jJ 0 [l, .str acc, .int .i64 z, .int .u64 x, .int .i64 (9 - j : Int)] [] = some (.exit 2, [l, .str (lW j x ++ acc), .int .i64 z], []) := by
 obtain ⟨n, cs, rfl⟩ := hl
 intro j
 induction j with
 | zero =>
   intro x acc _ _ _
   refine aQ (E_ ..) ?_
   simp [wS, lW]
 | succ j ih =>
   intro x acc hj hx hacc
   have hn := ih (x / 10) (dg (x % 10) :: acc) (by omega) (by omega) (by simp; omega)
   have hal : 1 + acc.length ≤ 1099511627776 := by omega
   have e1 : Int.tmod (x : Int) 10 = ((x % 10 : Nat) : Int) := QK x 10
   have e2 : IntKind.u64.wrap (48 + ((x % 10 : Nat) : Int)) = 48 + ((x % 10 : Nat) : Int) := kS _ (by omega)
   have e3 : IntKind.u8.wrap (48 + ((x % 10 : Nat) : Int)) = 48 + ((x % 10 : Nat) : Int) := by
    have : x % 10 < 10 := Nat.mod_lt _ (by omega)
    simp [IntKind.wrap, IntKind.signed, IntKind.bits]; omega
   have e4 : Int.tdiv (x : Int) 10 = ((x / 10 : Nat) : Int) := Lj x 10
   have e5 : IntKind.u64.wrap ((x / 10 : Nat) : Int) = ((x / 10 : Nat) : Int) := kS _ (by omega)
   have e6 : IntKind.i64.wrap (9 - ((j + 1 : Nat) : Int) + 1) = 9 - (j : Int) := by rw [wrap64 _ (by omega)]; omega
   have hlt : 9 - ((j + 1 : Nat) : Int) < 9 := by omega
   have hp : lW (j + 1) x ++ acc = lW j (x / 10) ++ dg (x % 10) :: acc := by
    show (lW j (x / 10) ++ [dg (x % 10)]) ++ acc = _
    simp
   rw [hp]
   have hb : UInt8.ofNat (48 + ((x % 10 : Nat) : Int)).toNat = dg (x % 10) := by
    unfold dg
    congr 1
   have hbs : bytesOf [.int .u8 (48 + ((x % 10 : Nat) : Int))] = some [dg (x % 10)] := by
    have h1 : x % 10 < 10 := Nat.mod_lt _ (by omega)
    rw [← hb]
    simp [bytesOf]
    omega
   clear hp ih hb
   generalize lW j (x / 10) ++ dg (x % 10) :: acc = res at *
   generalize dg (x % 10) = dx at *
   generalize ((x % 10 : Nat) : Int) = r at *
   generalize ((x / 10 : Nat) : Int) = q at *
   generalize (x : Int) = xz at *
   generalize ((j + 1 : Nat) : Int) = j1 at *
   generalize (j : Int) = jz at *
   refine aQ (E_ ..) ?_
   have hz : zeros 1 [.int .u8 0] = [.int .u8 0] := rfl
   simp [wS, hlt, e1, e2, e3, e4, e5, e6, hbs, hn, hz, hal]
theorem apo : ∀ (k : Nat) {x : Nat}, 1 ≤ x → x < 10 ^ k → k ≤ 9 → L.loop [3] [3] iK 0 [.str (lW k x)] [] = some (.exit 4, [.str (txt x)], []) := by
 have hlen : ∀ k x, (lW k x).length = k := by
  intro k
  induction k with
  | zero => intro x; rfl
  | succ k ih => intro x; show (lW k (x / 10) ++ [dg (x % 10)]).length = _; simp [ih]
 intro k
 induction k with
 | zero => intro x h1 h2; simp at h2; omega
 | succ k ih =>
   intro x h1 h2 h3
   by_cases hx : x < 10 ^ k
   ·have hn := ih h1 hx (by omega)
    rw [aeQ k hx]
    have hk : 1 ≤ k := by
     rcases Nat.eq_zero_or_pos k with h | h
     ·subst h; simp at hx; omega
     ·exact h
    have hl := hlen k x
    generalize lW k x = pd at *
    have hlt : (1 : Int) < (pd.length : Int) + 1 := by omega
    have hpos : 0 < pd.length := by omega
    have hbn : jX true false (pd.length + 1) [.int .i64 1] = some (1, pd.length + 1) := by
     have : (1 : Int) ≤ (pd.length : Int) + 1 := by omega
     simp [jX, bnd, this]
    refine aQ (wQ ..) ?_
    simp [lS, hlt, hpos, hbn, hn]
   ·rw [aik k (by omega) h2]
    obtain ⟨d, r, e, d1, d2⟩ := aa9 x h1
    rw [e]
    have hd : ¬ (dg d).toNat = 48 := by
     unfold dg
     simp
     omega
    have ZV : ¬ ((dg d).toNat : Int) = 48 := by omega
    generalize dg d = b at *
    refine aQ (wQ ..) ?_
    by_cases hr : r = []
    ·subst hr
     simp [lS]
    ·have hpos : 0 < r.length := List.length_pos_iff.2 hr
     have hlt : (1 : Int) < (r.length : Int) + 1 := by omega
     simp [lS, hlt, hpos, hd, ZV]
def nD (x : Nat) : D := if x = 0 then .sl 0 [] else .sl 1 [.int .u64 x]
theorem adQ {x : Nat} (h : x < 1000000000) : L.call lq [nD x] = some (.str (txt x)) := by
 unfold nD
 by_cases h0 : x = 0
 ·rw [if_pos h0]
  subst h0
  have l2 : L.loop [0, 3, 4] [3] gQ 0 [.sl 0 [], .str [], .int .i64 0] [] = some (.exit 0, [.str []], []) := by
   refine aQ (wP ..) ?_
   simp [pW]
  have l3 : L.loop [3] [3] iK 0 [.str []] [] = some (.exit 4, [.str []], []) := by
   refine aQ (wQ ..) ?_
   simp [lS]
  have e : txt 0 = [48] := by rw [nK (by omega)]; rfl
  rw [e]
  refine aJ I9 rfl (I5 ..) ?_
  simp [Ap, l2, l3]
 ·rw [if_neg h0]
  have l1 := apn (l := .sl 1 [.int .u64 x]) ⟨_, _, rfl⟩ 0 9 x [] (by omega) h (by simp)
  have l3 := apo 9 (x := x) (by omega) (by omega) (by omega)
  rw [List.append_nil] at l1
  have hne : txt x ≠ [] := by
   intro h
   have := Bo x
   rw [h] at this
   simp at this
  generalize txt x = tx at *
  generalize lW 9 x = pd at *
  generalize (x : Int) = xz at *
  simp at l1
  have l2b : L.loop [0, 3, 4] [3] gQ 0 [.sl 1 [.int .u64 xz], .str pd, .int .i64 1] [] = some (.exit 0, [.str pd], []) := by
   refine aQ (wP ..) ?_
   simp [pW]
  have e1 : IntKind.i64.wrap (1 : Int) = 1 := by decide
  have l2 : L.loop [0, 3, 4] [3] gQ 0 [.sl 1 [.int .u64 xz], .str [], .int .i64 0] [] = some (.exit 0, [.str pd], []) := by
   refine aQ (wP ..) ?_
   simp [pW, l1, e1, l2b]
  refine aJ I9 rfl (I5 ..) ?_
  simp [Ap, l2, l3, hne]
theorem aj1 {x : Nat} (h : x < 1000000000) : L.call mJ [.int .u64 x] = some (nD x) := by
 have hz : zeros 1 [.int .u64 0] = [.int .u64 0] := rfl
 unfold nD
 by_cases h0 : x = 0
 ·rw [if_pos h0]
  subst h0
  have l : L.loop [0, 3] [3] jg 0 [.int .u64 0, .dA] [] = some (.exit 0, [.dA], []) := by
   refine aQ (zF ..) ?_
   simp [uz]
  refine aJ NZ rfl (NY ..) ?_
  simp [FI, l]
 ·rw [if_neg h0]
  have hpos : (0 : Int) < (x : Int) := by omega
  have hposN : 0 < x := by omega
  have e1 : Int.tmod (x : Int) 1000000000 = (x : Int) := by rw [Int.tmod_eq_emod_of_nonneg (by omega)]; omega
  have e2 : Int.tdiv (x : Int) 1000000000 = 0 := by rw [Int.tdiv_eq_ediv_of_nonneg (by omega)]; omega
  have e3 : IntKind.u64.wrap 0 = 0 := by decide
  have l2 : L.loop [0, 3] [3] jg 0 [.int .u64 0, .bg 0 0 1 1] [.live [.int .u64 x]] = some (.exit 0, [.bg 0 0 1 1], [.live [.int .u64 x]]) := by
   refine aQ (zF ..) ?_
   simp [uz]
  generalize (x : Int) = xz at *
  have l : L.loop [0, 3] [3] jg 0 [.int .u64 xz, .dA] [] = some (.exit 0, [.bg 0 0 1 1], [.live [.int .u64 xz]]) := by
   refine aQ (zF ..) ?_
   simp [uz, hpos, hz, e1, e2, e3, l2]
  refine aJ NZ rfl (NY ..) ?_
  simp [FI, l]
theorem acn {x : Nat} (h : x < 1000000000) : L.call nJ [.int .i64 x] = some (.agg [.bool false, nD x]) := by
 have ho := aj1 h
 have e1 : IntKind.u64.wrap (x : Int) = x := kS _ (by omega)
 have hn : ¬ (x : Int) < 0 := by omega
 unfold nD at *
 by_cases h0 : x = 0
 ·rw [if_pos h0] at *
  generalize (x : Int) = xz at *
  refine aJ Px rfl (Pm ..) ?_
  simp [Ij, hn, e1, ho, kZ]
 ·rw [if_neg h0] at *
  generalize (x : Int) = xz at *
  refine aJ Px rfl (Pm ..) ?_
  simp [Ij, hn, e1, ho, kZ]
end Go.Ev.Code
end
section
namespace Go.Ev.Code
open Go Go.Ev
def yu (x : Nat) : List UInt8 := txt (x / 100) ++ 46 :: lW 2 (x % 100)
theorem Ie (b : Nat) : (lW 2 b).length = 2 := rfl
theorem ap6 (x : Nat) : txt (x / 100) ++ lW 2 (x % 100) = if x < 10 then 48 :: 48 :: txt x else if x < 100 then 48 :: txt x else txt x := by
 by_cases h1 : x < 10
 ·rw [if_pos h1, show x / 100 = 0 by omega, show x % 100 = x by omega, nK (by omega), nK h1]
  show [dg 0] ++ ([dg (x / 10 % 10)] ++ [dg (x % 10)]) = _
  rw [show x / 10 % 10 = 0 by omega, show x % 10 = x by omega]; rfl
 ·rw [if_neg h1]
  by_cases h2 : x < 100
  ·rw [if_pos h2, show x / 100 = 0 by omega, show x % 100 = x by omega, nK (by omega), Dn (n := x) (by omega), nK (n := x / 10) (by omega)]
   show [dg 0] ++ ([dg (x / 10 % 10)] ++ [dg (x % 10)]) = _
   rw [show x / 10 % 10 = x / 10 by omega]; rfl
  ·rw [if_neg h2]
   have := YQ 2 (n := x) (by omega)
   exact this.symm
theorem Z8 {x : Nat} (h : x < 1000000000) : L.call mG [.agg [.bool false, nD x], .int .i64 2] = some (.str (yu x)) := by
 have ht := adQ h
 have hp := ap6 x
 have hl0 := uZ 9 (n := x) (by omega) (by omega)
 have hl1 := Bo x
 have hcl : ([.bool false, nD x] : List D).all (D.clo 1 12) = true := by unfold nD; split <;> simp
 have hcl0 : ([.bool false, nD x] : List D).all (D.clo 0 11) = true := by unfold nD; split <;> simp
 have hnc : D.clo 0 12 (nD x) = true := by unfold nD; split <;> rfl
 have hnc1 : D.clo 1 12 (nD x) = true := by unfold nD; split <;> rfl
 have hstop : ∀ s : List UInt8, 2 < s.length → L.loop [1, 2, 5] [1, 2, 5] iy 1 [.int .i64 2, .loc 0 0, .str s] [.live [.bool false, nD x]] = some (.exit 0, [.int .i64 2, .loc 0 0, .str s], [.live [.bool false, nD x]]) := by
  intro s hs
  have hs' : ¬ (s.length : Int) ≤ 2 := by omega
  have hs2 : ¬ s.length ≤ 2 := by omega
  generalize nD x = nx at *
  refine aQ (I4 ..) ?_
  simp [Am, hs', hs2, hnc1]
 have hone : ∀ s : List UInt8, s.length ≤ 2 → ∀ r, L.loop [1, 2, 5] [1, 2, 5] iy 1 [.int .i64 2, .loc 0 0, .str (48 :: s)] [.live [.bool false, nD x]] = some r →
   L.loop [1, 2, 5] [1, 2, 5] iy 1 [.int .i64 2, .loc 0 0, .str s] [.live [.bool false, nD x]] = some r := by
  intro s hs r hr
  have hs' : (s.length : Int) ≤ 2 := by omega
  have hs3 : 1 + s.length ≤ 1099511627776 := by omega
  generalize nD x = nx at *
  refine aQ (I4 ..) ?_
  simp [Am, hs', hs, hs3, hnc1, hr]
 have hloop : L.loop [1, 2, 5] [1, 2, 5] iy 1 [.int .i64 2, .loc 0 0, .str (txt x)] [.live [.bool false, nD x]] = some (.exit 0, [.int .i64 2, .loc 0 0, .str (txt (x / 100) ++ lW 2 (x % 100))], [.live [.bool false, nD x]]) := by
  rw [hp]
  by_cases h1 : x < 10
  ·rw [if_pos h1]
   have hl : (txt x).length = 1 := by rw [nK h1]; rfl
   exact hone _ (by omega) _ (hone _ (by simp; omega) _ (hstop _ (by simp; omega)))
  ·rw [if_neg h1]
   by_cases h2 : x < 100
   ·rw [if_pos h2]
    have hl : (txt x).length = 2 := by rw [Dn (n := x) (by omega), nK (n := x / 10) (by omega)]; rfl
    exact hone _ (by omega) _ (hstop _ (by simp; omega))
   ·rw [if_neg h2]
    rw [if_neg h1, if_neg h2] at hp
    refine hstop _ ?_
    rw [← hp, List.length_append, Ie]
    have := Bo (x / 100)
    omega
 have hlp := uZ 9 (n := x / 100) (by omega) (by omega)
 clear hp hstop hone
 unfold yu
 have hpl := Ie (x % 100)
 generalize lW 2 (x % 100) = pd at *
 generalize txt (x / 100) = tx at *
 have e1 : IntKind.i64.wrap (tx.length : Int) = (tx.length : Int) := wrap64 _ (by omega)
 have hL : (tx ++ pd).length = tx.length + 2 := by rw [List.length_append, hpl]
 have b1 : jX false true (tx.length + 2) [.int .i64 (tx.length : Int)] = some (0, tx.length) := by
  have : (tx.length : Int) ≤ (tx.length : Int) + 2 := by omega
  simp [jX, bnd, this]
 have b2 : jX true false (tx.length + 2) [.int .i64 (tx.length : Int)] = some (tx.length, tx.length + 2) := by
  have : (tx.length : Int) ≤ (tx.length : Int) + 2 := by omega
  simp [jX, bnd, this]
 have t1 : (tx ++ pd).take tx.length = tx := by simp
 have t2 : (tx ++ pd).drop tx.length = pd := by simp
 have t3 : pd.take 2 = pd := List.take_of_length_le (by omega)
 have hLI : ((tx ++ pd).length : Int) = (tx.length : Int) + 2 := by rw [hL]; omega
 have s3 : tx.length ≤ 1099511627773 := by omega
 have s1 : tx.length + 1 ≤ 1099511627776 := by omega
 have s2 : tx.length + 1 + pd.length ≤ 1099511627776 := by omega
 generalize tx ++ pd = tp at *
 generalize nD x = nx at *
 refine aJ Zl rfl (Zk ..) ?_
 simp [N8, ht, hnc, hloop, hL, hLI, e1, b1, b2, t1, t2, t3, s1, s2, s3, hpl]
end Go.Ev.Code
end
