/- A part of the proof of priceFalls_card, riskSigns_card, yieldBack_card, yieldEdge_card, yieldFalls_card. -/
import Derived.Test.YtnokhmkkpcfilabGreatDoorCSpB
set_option linter.unusedVariables false
set_option linter.unusedSimpArgs false
section
namespace Go.Ev.Code
open Go Go.Ev
def dg (n : Nat) : UInt8 := UInt8.ofNat (48 + n)
def txt (n : Nat) : List UInt8 := if h : n < 10 then [dg n] else txt (n / 10) ++ [dg (n % 10)]
 termination_by n
 decreasing_by omega
def lW : Nat → Nat → List UInt8
 | 0, _ => []
 | k + 1, n => lW k (n / 10) ++ [dg (n % 10)]
theorem nK {n : Nat} (h : n < 10) : txt n = [dg n] := by rw [txt]; simp [h]
theorem Dn {n : Nat} (h : 10 ≤ n) : txt n = txt (n / 10) ++ [dg (n % 10)] := by rw [txt]; simp [Nat.not_lt.2 h]
theorem YQ : ∀ (k : Nat) {n : Nat}, 10 ^ k ≤ n → txt n = txt (n / 10 ^ k) ++ lW k (n % 10 ^ k)
 | 0, n, _ => by simp [lW]
 | k + 1, n, h => by
   have h10 : 10 ≤ n := Nat.le_trans (by rw [Nat.pow_succ]; have := Nat.pow_pos (n := k) (show 0 < 10 by decide); omega) h
   have h1 : 10 ^ k ≤ n / 10 := by rw [Nat.le_div_iff_mul_le (by decide), ← Nat.pow_succ]; exact h
   have e1 : n % 10 ^ (k + 1) / 10 = n / 10 % 10 ^ k := by
    rw [Nat.pow_succ, Nat.mul_comm, Nat.mod_mul_right_div_self]
   have e2 : n % 10 ^ (k + 1) % 10 = n % 10 := Nat.mod_mod_of_dvd _ (Nat.dvd_of_pow_dvd (show 1 ≤ k + 1 by omega) (Nat.dvd_refl _))
   rw [Dn h10, YQ k h1, Nat.div_div_eq_div_mul, ← Nat.pow_succ', lW, e1, e2, List.append_assoc]
theorem Bo (n : Nat) : 0 < (txt n).length := by
 rw [txt]; split <;> simp
theorem uZ : ∀ (k : Nat) {n : Nat}, 1 ≤ k → n < 10 ^ k → (txt n).length ≤ k
 | 0, _, h, _ => by omega
 | k + 1, n, _, h => by
   by_cases h10 : n < 10
   ·rw [nK h10]; simp
   ·rw [Dn (by omega)]
    have h1 : n / 10 < 10 ^ k := by rw [Nat.div_lt_iff_lt_mul (by decide), ← Nat.pow_succ]; exact h
    have hk : 1 ≤ k := by
     rcases Nat.eq_zero_or_pos k with rfl | h
     ·simp at h1; omega
     ·exact h
    have := uZ k hk h1
    simp; omega
theorem ab6 : ∀ (k : Nat) {n : Nat}, 1 ≤ k → n < 10 ^ k → lW k n = List.replicate (k - (txt n).length) 48 ++ txt n
 | 0, _, h, _ => by omega
 | k + 1, n, _, h => by
   rw [lW]
   have h1 : n / 10 < 10 ^ k := by rw [Nat.div_lt_iff_lt_mul (by decide), ← Nat.pow_succ]; exact h
   by_cases h10 : n < 10
   ·rw [nK h10, Nat.div_eq_of_lt h10, Nat.mod_eq_of_lt h10]
    rcases Nat.eq_zero_or_pos k with rfl | hk
    ·simp [lW]
    ·rw [ab6 k hk (by exact Nat.pow_pos (by decide)), nK (by decide)]
     have e : dg 0 = 48 := by decide
     have : k + 1 - [dg n].length = (k - [dg 0].length) + 1 := by simp; omega
     rw [this, List.replicate_succ', e]
   ·have hk : 1 ≤ k := by
     rcases Nat.eq_zero_or_pos k with rfl | h
     ·simp at h1; omega
     ·exact h
    have e : k + 1 - (txt (n / 10) ++ [dg (n % 10)]).length = k - (txt (n / 10)).length := by simp
    rw [ab6 k hk h1, Dn (n := n) (by omega), List.append_assoc, e]
theorem decDigits_eq : ∀ (f n : Nat) (acc : List UInt8), 1 ≤ f → n < 10 ^ f → decDigits f n acc = txt n ++ acc
 | 0, _, _, h, _ => by omega
 | f + 1, n, acc, _, h => by
   unfold decDigits
   by_cases h10 : n < 10
   ·have : n / 10 = 0 := Nat.div_eq_of_lt h10
    rw [if_pos this, nK h10, Nat.mod_eq_of_lt h10]; rfl
   ·have hne : n / 10 ≠ 0 := by omega
    have h1 : n / 10 < 10 ^ f := by rw [Nat.div_lt_iff_lt_mul (by decide), ← Nat.pow_succ]; exact h
    have hf : 1 ≤ f := by
     rcases Nat.eq_zero_or_pos f with rfl | h
     ·simp at h1; omega
     ·exact h
    rw [if_neg hne, decDigits_eq f _ _ hf h1, Dn (n := n) (by omega), List.append_assoc]; rfl
theorem ali {n : Nat} (h : n < 10 ^ 100) : A8 n = txt n := by
 unfold A8
 rw [decDigits_eq 100 n [] (by decide) h, List.append_nil]
theorem aoe : TT.fn gI = none := by kernel_rfl
theorem aog : TT.jZ gI = U1 := by kernel_rfl
theorem aof : TT.fn strings_Repeat = none := by kernel_rfl
theorem aoh : TT.jZ strings_Repeat = OV := by kernel_rfl
theorem asg : TT.fn strings_Join = none := by kernel_rfl
theorem asj : TT.jZ strings_Join = VW := by kernel_rfl
theorem amc {n : Nat} (h : n < W) : L.call gI [aT n, .int .i64 10] = some (.str (txt n)) := by
 have hp : TT.jZ gI [aT n, .int .i64 10] [] = some (.str (txt n), []) := by
  rw [aog]
  have : A8 n = txt n := ali (Nat.lt_trans h (by decide))
  simp [U1, E8 h, this]
 exact ES aoe hp (by simp)
theorem ad4 {s : List UInt8} {n : Nat} (hn : n ≤ 1000000) (hs : s.length ≤ 1000) : L.call strings_Repeat [.str s, .int .i64 n] = some (.str (List.replicate n s).flatten) := by
 have hp : TT.jZ strings_Repeat [.str s, .int .i64 n] [] = some (.str (List.replicate n s).flatten, []) := by
  rw [aoh]
  have : (0 : Int) ≤ n ∧ (n : Int) ≤ 1000000 := by omega
  simp [OV, this, hs]
 exact ES aof hp (by simp)
theorem Ya : ∀ ss : List (List UInt8), zQ [] ss = ss.flatten
 | [] => rfl
 | [x] => by simp [zQ]
 | x :: y :: xs => by rw [zQ, Ya (y :: xs)]; simp
theorem akK : ∀ ss : List (List UInt8), strs (ss.map D.str) = some ss
 | [] => rfl
 | s :: ss => by simp [strs, akK ss]
theorem aqk {ss : List (List UInt8)} {sep : List UInt8} (h : (zQ sep ss).length ≤ 1000000) (hn : ss.length ≤ 4294967296) : L.call strings_Join [.sl ss.length (ss.map D.str), .str sep] = some (.str (zQ sep ss)) := by
 have hp : TT.jZ strings_Join [.sl ss.length (ss.map D.str), .str sep] [] = some (.str (zQ sep ss), []) := by
  rw [asj]
  simp [VW, akK, h, hn]
 exact ES asg hp (by simp)
end Go.Ev.Code
end
section
namespace Go.Ev.Code
open Go Go.Ev
theorem akB (pre : Mem) (c : Slot) : (pre ++ [c])[pre.length]? = some c := by
 rw [List.getElem?_append_right (Nat.le_refl _)]; simp
theorem akC (pre : Mem) (c c' : Slot) : (pre ++ [c]).set pre.length c' = pre ++ [c'] := by
 rw [List.set_append_right _ _ (Nat.le_refl _)]; simp
def O6 (b : Nat) (cs : List D) : Prop := ∀ d ∈ cs, D.clo b 12 d = true ∧ fF d = some [d]
theorem O6.set {b : Nat} {cs : List D} (h : O6 b cs) {d : D} (hd : D.clo b 12 d = true ∧ fF d = some [d]) (i : Nat) : O6 b (cs.set i d) := fun x hx => by
 rcases List.mem_or_eq_of_mem_set hx with h1 | h1
 ·exact h x h1
 ·rw [h1]; exact hd
theorem O6.all {b : Nat} {cs : List D} (h : O6 b cs) : cs.all (D.clo b 12) = true := by
 rw [List.all_eq_true]; exact fun x hx => (h x hx).1
def Turned (l c : List D) (i j : Int) : Prop := c.length = l.length ∧ ∀ k : Nat, k < l.length → c[k]? = if (k : Int) < i ∨ j < k then l[l.length - 1 - k]? else l[k]?
theorem alY {pre : Mem} {l : List D} (hp : pre.all (Lh (pre.length + 1)) = true) (hL : l.length ≤ 4000000000) :
  ∀ (n i : Nat) (j : Int) (c : List D), (j - i).toNat ≤ n → (i : Int) + j = (l.length : Int) - 1 → O6 (pre.length + 1) c → Turned l c i j →
  L.loop [0, 2, 3] [] fE (pre.length + 1) [.bg pre.length 0 l.length 1, .int .i64 i, .int .i64 j] (pre ++ [.live c]) = some (.exit 0, [], pre ++ [.live l.reverse]) := by
 intro n
 have fin : ∀ (i : Nat) (j : Int) (c : List D), ¬ (i : Int) < j → (i : Int) + j = (l.length : Int) - 1 → Turned l c i j → c = l.reverse := by
  intro i j c hlt hs ht
  apply List.ext_getElem?
  intro k
  by_cases hk : k < l.length
  ·rw [ht.2 k hk, List.getElem?_reverse hk]
   split
   ·rfl
   ·have : k = l.length - 1 - k := by omega
    rw [← this]
  ·rw [List.getElem?_eq_none (by rw [ht.1]; omega), List.getElem?_eq_none (by simp; omega)]
 have base : ∀ (i : Nat) (j : Int) (c : List D), ¬ (i : Int) < j → (i : Int) + j = (l.length : Int) - 1 → O6 (pre.length + 1) c → Turned l c i j → L.loop [0, 2, 3] [] fE (pre.length + 1) [.bg pre.length 0 l.length 1, .int .i64 i, .int .i64 j] (pre ++ [.live c]) = some (.exit 0, [], pre ++ [.live l.reverse]) := by
  intro i j c hlt hs hcl ht
  rw [fin i j c hlt hs ht] at hcl ⊢
  refine aQ (Aw ..) ?_
  have ha := hcl.all
  have hd : decide ((i : Int) < j) = false := by simpa using hlt
  have htk : (pre ++ [Slot.live l.reverse]).take (pre.length + 1) = pre ++ [.live l.reverse] := List.take_of_length_le (by simp)
  have hlr : l.reverse.all (D.clo (pre.length + 1) 12) = l.all (D.clo (pre.length + 1) 12) := List.all_reverse
  rw [hlr] at ha
  simp [sG, hlt, ha, hp, htk]
 induction n with
 | zero => intro i j c hn hs hcl ht; exact base i j c (by omega) hs hcl ht
 | succ n ih =>
   intro i j c hn hs hcl ht
   by_cases hlt : (i : Int) < j
   ·obtain ⟨jn, rfl⟩ : ∃ jn : Nat, j = jn := ⟨j.toNat, by omega⟩
    have hjl : jn < l.length := by omega
    have hil : i < l.length := by omega
    obtain ⟨x, hx⟩ : ∃ x, c[i]? = some x := ⟨c[i]'(by rw [ht.1]; exact hil), List.getElem?_eq_getElem _⟩
    obtain ⟨y, hy⟩ : ∃ y, c[jn]? = some y := ⟨c[jn]'(by rw [ht.1]; exact hjl), List.getElem?_eq_getElem _⟩
    have hcx := hcl x (List.mem_of_getElem? hx)
    have hcy := hcl y (List.mem_of_getElem? hy)
    have ht' : Turned l ((c.set i y).set jn x) ((i + 1 : Nat) : Int) ((jn : Int) - 1) := by
     refine ⟨by simp [ht.1], fun k hk => ?_⟩
     have hi1 := ht.2 i hil
     have hj1 := ht.2 jn hjl
     rw [if_neg (by omega)] at hi1 hj1
     by_cases h1 : k = jn
     ·subst h1
      rw [List.getElem?_set_self (by simp [ht.1]; omega), if_pos (by omega), ← hx, hi1]
      congr 1; omega
     ·rw [List.getElem?_set_ne (by omega)]
      by_cases h2 : k = i
      ·subst h2
       rw [List.getElem?_set_self (by rw [ht.1]; omega), if_pos (by omega), ← hy, hj1]
       congr 1; omega
      ·rw [List.getElem?_set_ne (by omega), ht.2 k hk]
       by_cases h3 : (k : Int) < i ∨ (jn : Int) < k
       ·rw [if_pos h3, if_pos (by omega)]
       ·rw [if_neg h3, if_neg (by omega)]
    have hcl' := (hcl.set hcy i).set hcx jn
    have h2 := ih (i + 1) ((jn : Int) - 1) ((c.set i y).set jn x) (by omega) (by omega) hcl' ht'
    refine aQ (Aw ..) ?_
    have e1 : IntKind.i64.wrap ((i : Int) + 1) = ((i + 1 : Nat) : Int) := by rw [wrap64 _ (by omega)]; omega
    have e2 : IntKind.i64.wrap ((jn : Int) - 1) = (jn : Int) - 1 := wrap64 _ (by omega)
    have hlt' : i < jn := by omega
    have w1 : i + 1 ≤ c.length := by rw [ht.1]; omega
    have w2 : jn + 1 ≤ c.length := by rw [ht.1]; omega
    have ha := hcl'.all
    have hcx2 : ∀ p : i < c.length, c[i] = x := fun p => by simpa using (List.getElem?_eq_some_iff.1 hx).2
    have hcy2 : ∀ p : jn < c.length, c[jn] = y := fun p => by simpa using (List.getElem?_eq_some_iff.1 hy).2
    have htk : ∀ z, (pre ++ [z]).take (pre.length + 1) = pre ++ [z] := fun z => List.take_of_length_le (by simp)
    generalize hi1 : i + 1 = i1 at *
    simp (disch := omega) [sG, hlt', e1, e2, akB, akC, hx, hy, hcx.2, hcy.2, hcx2, hcy2, w1, w2, ha, hp, htk, qG, h2]
   ·exact base i j c hlt hs hcl ht
theorem apA {pre : Mem} {l : List D} (hp : pre.all (Lh (pre.length + 1)) = true) (hL : l.length ≤ 4000000000) (hcl : O6 (pre.length + 1) l) :
  L.bH slices_Reverse_string [.bg pre.length 0 l.length 1] (pre ++ [.live l]) = some (.aZ [], pre ++ [.live l.reverse]) := by
 have h := alY hp hL _ 0 ((l.length : Int) - 1) l (Nat.le_refl _) (by omega) hcl ⟨rfl, fun k hk => by rw [if_neg (by omega)]⟩
 have h' : L.loop [0, 2, 3] [] fE (pre.length + 1) [.bg pre.length 0 l.length 1, .int .i64 0, .int .i64 ((l.length : Int) - 1)] (pre ++ [.live l]) = _ := h
 have e1 : IntKind.i64.wrap ((l.length : Int) - 1) = (l.length : Int) - 1 := wrap64 _ (by omega)
 have htk : ∀ z, (pre ++ [z]).take (pre.length + 1) = pre ++ [z] := fun z => List.take_of_length_le (by simp)
 have ha : l.reverse.all (D.clo (pre.length + 1) 12) = true := by rw [List.all_reverse]; exact hcl.all
 refine ni QT rfl (QS ..) ?_
 simp [Fe, e1, h', hp, ha, htk]
theorem alX {pre : Mem} {l : List D} (hp : pre.all (Lh (pre.length + 1)) = true) (hL : l.length ≤ 4000000000) :
  ∀ (n i : Nat) (j : Int) (c : List D), (j - i).toNat ≤ n → (i : Int) + j = (l.length : Int) - 1 → O6 (pre.length + 1) c → Turned l c i j →
  L.loop [0, 2, 3] [] gU (pre.length + 1) [.bg pre.length 0 l.length 1, .int .i64 i, .int .i64 j] (pre ++ [.live c]) = some (.exit 0, [], pre ++ [.live l.reverse]) := by
 intro n
 have fin : ∀ (i : Nat) (j : Int) (c : List D), ¬ (i : Int) < j → (i : Int) + j = (l.length : Int) - 1 → Turned l c i j → c = l.reverse := by
  intro i j c hlt hs ht
  apply List.ext_getElem?
  intro k
  by_cases hk : k < l.length
  ·rw [ht.2 k hk, List.getElem?_reverse hk]
   split
   ·rfl
   ·have : k = l.length - 1 - k := by omega
    rw [← this]
  ·rw [List.getElem?_eq_none (by rw [ht.1]; omega), List.getElem?_eq_none (by simp; omega)]
 have base : ∀ (i : Nat) (j : Int) (c : List D), ¬ (i : Int) < j → (i : Int) + j = (l.length : Int) - 1 → O6 (pre.length + 1) c → Turned l c i j → L.loop [0, 2, 3] [] gU (pre.length + 1) [.bg pre.length 0 l.length 1, .int .i64 i, .int .i64 j] (pre ++ [.live c]) = some (.exit 0, [], pre ++ [.live l.reverse]) := by
  intro i j c hlt hs hcl ht
  rw [fin i j c hlt hs ht] at hcl ⊢
  refine aQ (Fa ..) ?_
  have ha := hcl.all
  have hd : decide ((i : Int) < j) = false := by simpa using hlt
  have htk : (pre ++ [Slot.live l.reverse]).take (pre.length + 1) = pre ++ [.live l.reverse] := List.take_of_length_le (by simp)
  have hlr : l.reverse.all (D.clo (pre.length + 1) 12) = l.all (D.clo (pre.length + 1) 12) := List.all_reverse
  rw [hlr] at ha
  simp [wU, hlt, ha, hp, htk]
 induction n with
 | zero => intro i j c hn hs hcl ht; exact base i j c (by omega) hs hcl ht
 | succ n ih =>
   intro i j c hn hs hcl ht
   by_cases hlt : (i : Int) < j
   ·obtain ⟨jn, rfl⟩ : ∃ jn : Nat, j = jn := ⟨j.toNat, by omega⟩
    have hjl : jn < l.length := by omega
    have hil : i < l.length := by omega
    obtain ⟨x, hx⟩ : ∃ x, c[i]? = some x := ⟨c[i]'(by rw [ht.1]; exact hil), List.getElem?_eq_getElem _⟩
    obtain ⟨y, hy⟩ : ∃ y, c[jn]? = some y := ⟨c[jn]'(by rw [ht.1]; exact hjl), List.getElem?_eq_getElem _⟩
    have hcx := hcl x (List.mem_of_getElem? hx)
    have hcy := hcl y (List.mem_of_getElem? hy)
    have ht' : Turned l ((c.set i y).set jn x) ((i + 1 : Nat) : Int) ((jn : Int) - 1) := by
     refine ⟨by simp [ht.1], fun k hk => ?_⟩
     have hi1 := ht.2 i hil
     have hj1 := ht.2 jn hjl
     rw [if_neg (by omega)] at hi1 hj1
     by_cases h1 : k = jn
     ·subst h1
      rw [List.getElem?_set_self (by simp [ht.1]; omega), if_pos (by omega), ← hx, hi1]
      congr 1; omega
     ·rw [List.getElem?_set_ne (by omega)]
      by_cases h2 : k = i
      ·subst h2
       rw [List.getElem?_set_self (by rw [ht.1]; omega), if_pos (by omega), ← hy, hj1]
       congr 1; omega
      ·rw [List.getElem?_set_ne (by omega), ht.2 k hk]
       by_cases h3 : (k : Int) < i ∨ (jn : Int) < k
       ·rw [if_pos h3, if_pos (by omega)]
       ·rw [if_neg h3, if_neg (by omega)]
    have hcl' := (hcl.set hcy i).set hcx jn
    have h2 := ih (i + 1) ((jn : Int) - 1) ((c.set i y).set jn x) (by omega) (by omega) hcl' ht'
    refine aQ (Fa ..) ?_
    have e1 : IntKind.i64.wrap ((i : Int) + 1) = ((i + 1 : Nat) : Int) := by rw [wrap64 _ (by omega)]; omega
    have e2 : IntKind.i64.wrap ((jn : Int) - 1) = (jn : Int) - 1 := wrap64 _ (by omega)
    have hlt' : i < jn := by omega
    have w1 : i + 1 ≤ c.length := by rw [ht.1]; omega
    have w2 : jn + 1 ≤ c.length := by rw [ht.1]; omega
    have ha := hcl'.all
    have hcx2 : ∀ p : i < c.length, c[i] = x := fun p => by simpa using (List.getElem?_eq_some_iff.1 hx).2
    have hcy2 : ∀ p : jn < c.length, c[jn] = y := fun p => by simpa using (List.getElem?_eq_some_iff.1 hy).2
    have htk : ∀ z, (pre ++ [z]).take (pre.length + 1) = pre ++ [z] := fun z => List.take_of_length_le (by simp)
    generalize hi1 : i + 1 = i1 at *
    simp (disch := omega) [wU, hlt', e1, e2, akB, akC, hx, hy, hcx.2, hcy.2, hcx2, hcy2, w1, w2, ha, hp, htk, qG, h2]
   ·exact base i j c hlt hs hcl ht
theorem apz {pre : Mem} {l : List D} (hp : pre.all (Lh (pre.length + 1)) = true) (hL : l.length ≤ 4000000000) (hcl : O6 (pre.length + 1) l) :
  L.bH slices_Reverse_int [.bg pre.length 0 l.length 1] (pre ++ [.live l]) = some (.aZ [], pre ++ [.live l.reverse]) := by
 have h := alX hp hL _ 0 ((l.length : Int) - 1) l (Nat.le_refl _) (by omega) hcl ⟨rfl, fun k hk => by rw [if_neg (by omega)]⟩
 have h' : L.loop [0, 2, 3] [] gU (pre.length + 1) [.bg pre.length 0 l.length 1, .int .i64 0, .int .i64 ((l.length : Int) - 1)] (pre ++ [.live l]) = _ := h
 have e1 : IntKind.i64.wrap ((l.length : Int) - 1) = (l.length : Int) - 1 := wrap64 _ (by omega)
 have htk : ∀ z, (pre ++ [z]).take (pre.length + 1) = pre ++ [z] := fun z => List.take_of_length_le (by simp)
 have ha : l.reverse.all (D.clo (pre.length + 1) 12) = true := by rw [List.all_reverse]; exact hcl.all
 refine ni Vo rfl (Vk ..) ?_
 simp [J7, e1, h', hp, ha, htk]
end Go.Ev.Code
end
section
namespace Go.Ev.Code
open Go Go.Ev
def piece (v : Nat) : List UInt8 := if v < 10 ^ 18 then txt v else lW 18 (v % 10 ^ 18)
theorem afd {v : Nat} (h : v ≠ 0) : txt v = (if v / 10 ^ 18 = 0 then [] else txt (v / 10 ^ 18)) ++ piece v := by
 unfold piece
 by_cases h1 : v < 10 ^ 18
 ·rw [if_pos h1, if_pos (Nat.div_eq_of_lt h1), List.nil_append]
 ·have : v / 10 ^ 18 ≠ 0 := by
   have := Nat.div_pos (Nat.le_of_not_lt h1) (show 0 < 10 ^ 18 by decide)
   omega
  rw [if_neg h1, if_neg this]
  exact YQ 18 (Nat.le_of_not_lt h1)
@[simp] theorem auO (b n : Nat) (l : List (List UInt8)) : l.all (D.clo b (n + 1) ∘ D.str) = true := by simp
@[simp] theorem avK (n : Nat) (l : List (List UInt8)) (m : Mem) : jV (fz (n + 1)) (l.map D.str) m = some (l.map D.str, m) := by
  induction l with
  | nil => rfl
  | cons x xs ih => simp [ih]
theorem Z9 {v : Nat} (hv : Fit v) : ∃ q : List Nat, L.call xO [fA (limbs v), .int .u64 1000000000000000000] = some (.aZ [fA q, aT (v % 10 ^ 18)]) ∧ L.call gq [fA q] = some (dR (v / 10 ^ 18)) ∧ q.length = (limbs v).length ∧
  L.call gI [aT (v % 10 ^ 18), .int .i64 10] = some (.str (txt (v % 10 ^ 18))) := by
 have fv : (limbs v).length ≤ 1000000000 := hv
 obtain ⟨q, q1, q2, q3, q4⟩ := Yk (d := 1000000000000000000) (bV v).1 (by decide) (by decide) (by omega)
 have hm := kD q q2 (by unfold maxL; omega)
 rw [q3, dU] at hm
 rw [dU] at q4
 exact ⟨q, q4, hm, q1, amc (Nat.lt_trans (Nat.mod_lt _ (by decide)) (by decide))⟩
theorem an4 {X : Slot} (hX : Lh 1 X = true) : ∀ (j v : Nat) (ss : List (List UInt8)), v < 10 ^ (18 * j) → Fit v → ss ≠ [] → ss.length + j ≤ 4000000 →
  ∃ ss' : List (List UInt8), ss' ≠ [] ∧ ss'.length ≤ 4000000 ∧ ss'.reverse.flatten = (if v = 0 then [] else txt v) ++ ss.reverse.flatten ∧
    L.loop [3, 4] [3] kN 1 [.bg 1 0 ss.length 1, fA (limbs v)] [X, .live (ss.map D.str)] = some (.exit 0, [.bg 1 0 ss'.length 1], [X, .live (ss'.map D.str)]) := by
 intro j
 induction j with
 | zero =>
   intro v ss hv _ hne hl
   have : v = 0 := by simpa using hv
   subst this
   refine ⟨ss, hne, by omega, by simp, aQ (sJ ..) ?_⟩
   simp [kJ, hX]
 | succ j ih =>
   intro v ss hv hf hne hl
   by_cases h0 : v = 0
   ·subst h0
    refine ⟨ss, hne, by omega, by simp, aQ (sJ ..) ?_⟩
    simp [kJ, hX]
   ·have hq : v / 10 ^ 18 < 10 ^ (18 * j) := by
     rw [Nat.div_lt_iff_lt_mul (by decide), ← Nat.pow_add]; exact hv
    obtain ⟨ss', g1, g2, g3, g4⟩ := ih (v / 10 ^ 18) (ss ++ [piece v]) hq (hf.of_le (Nat.div_le_self _ _)) (by simp) (by simp; omega)
    obtain ⟨q, c1, c2, c3, c4⟩ := Z9 hf
    refine ⟨ss', g1, g2, ?_, aQ (sJ ..) ?_⟩
    ·rw [g3, if_neg h0, afd h0]; simp
    ·have hvl : limbs v ≠ [] := H9 h0
     have hvl' : 0 < (limbs v).length := List.length_pos_iff.2 hvl
     have hlen : ss.length + 1 ≤ 4294967296 := by omega
     have htk : (ss.map D.str).take ss.length = ss.map D.str := List.take_of_length_le (by simp)
     have hr : v % 10 ^ 18 < 10 ^ 18 := Nat.mod_lt _ (by decide)
     by_cases h1 : v < 10 ^ 18
     ·have e1 : v / 10 ^ 18 = 0 := Nat.div_eq_of_lt h1
      have e2 : v % 10 ^ 18 = v := Nat.mod_eq_of_lt h1
      have e3 : piece v = txt v := by unfold piece; rw [if_pos h1]
      rw [e1] at g4 c2
      rw [e2] at c1 c4
      rw [e3] at g4
      simp [c3] at c1 c2 g4
      simp [kJ, hvl, hvl', htk, c1, c2, c4, JI, hlen, hX, tJ, g4]
     ·have hd0 : v / 10 ^ 18 ≠ 0 := by
       have := Nat.div_pos (Nat.le_of_not_lt h1) (show 0 < 10 ^ 18 by decide)
       omega
      have hdl : limbs (v / 10 ^ 18) ≠ [] := H9 hd0
      have hdl' : 0 < (limbs (v / 10 ^ 18)).length := List.length_pos_iff.2 hdl
      have htl := uZ 18 (by decide) hr
      have hpad := ab6 18 (by decide) hr
      have e3 : piece v = List.replicate (18 - (txt (v % 10 ^ 18)).length) 48 ++ txt (v % 10 ^ 18) := by unfold piece; rw [if_neg h1, hpad]
      have e4 : IntKind.i64.wrap (18 - ((txt (v % 10 ^ 18)).length : Int)) = ((18 - (txt (v % 10 ^ 18)).length : Nat) : Int) := by rw [wrap64 _ (by omega)]; omega
      have hrep := ad4 (s := [48]) (n := 18 - (txt (v % 10 ^ 18)).length) (by omega) (by simp)
      have e5 : (List.replicate (18 - (txt (v % 10 ^ 18)).length) [(48 : UInt8)]).flatten = List.replicate (18 - (txt (v % 10 ^ 18)).length) 48 := by simp
      rw [e5] at hrep
      rw [e3] at g4
      generalize txt (v % 10 ^ 18) = tr at *
      generalize hk : 18 - tr.length = k at *
      have hlk : k + tr.length ≤ 1099511627776 := by omega
      generalize v / 10 ^ 18 = w at *
      generalize v % 10 ^ 18 = r at *
      simp [c3] at c1 c2 g4
      simp [kJ, hvl, hdl, hvl', hdl', htk, c1, c2, c4, JI, hlen, hX, tJ, e4, hrep, hlk, g4]
def Wri (n : Nat) : Prop := ∃ k : Nat, 1 ≤ k ∧ k ≤ 900000 ∧ n < 10 ^ k
theorem Z4 {v : Nat} (hf : Fit v) (hw : Wri v) : L.call jE [dR v] = some (.str (txt v)) := by
 refine aJ ac7 rfl (acU ..) ?_
 by_cases h0 : v = 0
 ·subst h0
  have hc := akR []
  have hl : L.loop [3, 4] [3] kN 0 [.dA, fA []] [] = some (.exit 0, [.dA], []) := by
   refine aQ (sJ ..) ?_
   simp [kJ]
  have ht : txt 0 = [48] := by rw [nK (by decide)]; rfl
  simp at hc hl
  simp [KY, hc, hl, ht]
 ·have hvl : limbs v ≠ [] := H9 h0
  have hvl' : 0 < (limbs v).length := List.length_pos_iff.2 hvl
  have fv : (limbs v).length ≤ 1000000000 := hf
  have hc := aai [] hvl (by omega)
  obtain ⟨k, hk1, hk2, hw⟩ := hw
  have hq : v / 10 ^ 18 < 10 ^ (18 * k) := Nat.lt_of_lt_of_le (Nat.lt_of_le_of_lt (Nat.div_le_self _ _) hw) (Nat.pow_le_pow_right (by decide) (by omega))
  obtain ⟨ss', g1, g2, g3, g4⟩ := an4 (X := .iZ ((limbs v).map aT)) rfl k (v / 10 ^ 18) [piece v] hq (hf.of_le (Nat.div_le_self _ _)) (by simp) (by simp; omega)
  obtain ⟨q, c1, c2, c3, c4⟩ := Z9 hf
  have hr : v % 10 ^ 18 < 10 ^ 18 := Nat.mod_lt _ (by decide)
  have htxt : ss'.reverse.flatten = txt v := by rw [g3, afd h0]; simp
  have hlen1 : ((txt v).length) ≤ k := uZ k hk1 hw
  have hj := aqk (ss := ss'.reverse) (sep := []) (by rw [Ya, htxt]; omega) (by simp; omega)
  rw [Ya, htxt] at hj
  have hss : 0 < ss'.length := List.length_pos_iff.2 g1
  have hrev := apA (pre := [.iZ ((limbs v).map aT)]) (l := ss'.map D.str) rfl (by simp; omega) (fun d hd => by
   obtain ⟨s, _, rfl⟩ := List.mem_map.1 hd
   exact ⟨rfl, rfl⟩)
  have htake : ((limbs v).map aT).take (limbs v).length = (limbs v).map aT := List.take_of_length_le (by simp)
  have first : L.loop [3, 4] [3] kN 1 [.dA, .bg 0 0 (limbs v).length 1] [.live ((limbs v).map aT)] = some (.exit 0, [.bg 1 0 ss'.length 1], [.iZ ((limbs v).map aT), .live (ss'.map D.str)]) := by
   refine aQ (sJ ..) ?_
   by_cases h1 : v < 10 ^ 18
   ·have e1 : v / 10 ^ 18 = 0 := Nat.div_eq_of_lt h1
    have e2 : v % 10 ^ 18 = v := Nat.mod_eq_of_lt h1
    have e3 : piece v = txt v := by unfold piece; rw [if_pos h1]
    rw [e1] at g4 c2
    rw [e2] at c1 c4
    rw [e3] at g4
    simp [c3] at c1 c2 g4
    simp [kJ, hvl, hvl', htake, c1, c2, c4, JI, tJ, g4]
   ·have hd0 : v / 10 ^ 18 ≠ 0 := by
     have := Nat.div_pos (Nat.le_of_not_lt h1) (show 0 < 10 ^ 18 by decide)
     omega
    have hdl : limbs (v / 10 ^ 18) ≠ [] := H9 hd0
    have hdl' : 0 < (limbs (v / 10 ^ 18)).length := List.length_pos_iff.2 hdl
    have htl := uZ 18 (by decide) hr
    have hpad := ab6 18 (by decide) hr
    have e3 : piece v = List.replicate (18 - (txt (v % 10 ^ 18)).length) 48 ++ txt (v % 10 ^ 18) := by unfold piece; rw [if_neg h1, hpad]
    have e4 : IntKind.i64.wrap (18 - ((txt (v % 10 ^ 18)).length : Int)) = ((18 - (txt (v % 10 ^ 18)).length : Nat) : Int) := by rw [wrap64 _ (by omega)]; omega
    have hrep := ad4 (s := [48]) (n := 18 - (txt (v % 10 ^ 18)).length) (by omega) (by simp)
    have e5 : (List.replicate (18 - (txt (v % 10 ^ 18)).length) [(48 : UInt8)]).flatten = List.replicate (18 - (txt (v % 10 ^ 18)).length) 48 := by simp
    rw [e5] at hrep
    rw [e3] at g4
    generalize txt (v % 10 ^ 18) = tr at *
    generalize hk : 18 - tr.length = k at *
    have hlk : k + tr.length ≤ 1099511627776 := by omega
    generalize v / 10 ^ 18 = w at *
    generalize v % 10 ^ 18 = r at *
    simp [c3] at c1 c2 g4
    simp [kJ, hvl, hdl, hvl', hdl', htake, c1, c2, c4, JI, tJ, e4, hrep, hlk, g4]
  have hrl : (ss'.map D.str).reverse = ss'.reverse.map D.str := by rw [List.map_reverse]
  have htake2 : (ss'.reverse.map D.str).take ss'.length = ss'.reverse.map D.str := List.take_of_length_le (by simp)
  rw [hrl] at hrev
  rw [List.length_reverse] at hj
  have hsl : ss'.reverse.length = ss'.length := by simp
  generalize ss'.reverse = sr at *
  simp [MM] at hc first hrev
  simp [KY, hc, first, hss, g1, hrev, hsl, htake2, hj]
end Go.Ev.Code
end
section
namespace Go.Ev.Code
open Go Go.Ev
def P9 (z : Int) : List D := [.bool (decide (z < 0)), dR z.natAbs]
abbrev intD (z : Int) : D := .ref (P9 z) 0
def NB (k n : Nat) : Prop := n < 2 ^ k
def IB (k : Nat) (z : Int) : Prop := NB k z.natAbs
theorem NB.mono {j k n : Nat} (h : NB j n) (hk : j ≤ k) : NB k n := Nat.lt_of_lt_of_le h (Nat.pow_le_pow_right (by decide) hk)
theorem NB.le {k n m : Nat} (h : NB k n) (hm : m ≤ n) : NB k m := Nat.lt_of_le_of_lt hm h
theorem NB.fit {k n : Nat} (h : NB k n) (hk : k ≤ 900000) : Fit n := by
 unfold Fit
 refine Nat.le_trans (Yd (k := k) (Nat.lt_of_lt_of_le h (Nat.pow_le_pow_left (by decide) k))) (by omega)
theorem NB.wri {k n : Nat} (h : NB k n) (hk : k ≤ 900000) (h1 : 1 ≤ k) : Wri n :=
 ⟨k, h1, hk, Nat.lt_of_lt_of_le h (Nat.pow_le_pow_left (by decide) k)⟩
theorem NB.mul {j k a b : Nat} (ha : NB j a) (hb : NB k b) : NB (j + k) (a * b) := by
 unfold NB at *
 rw [Nat.pow_add]; exact Nat.mul_lt_mul'' ha hb
theorem NB.add {j k a b : Nat} (ha : NB j a) (hb : NB k b) : NB (max j k + 1) (a + b) := by
 have h1 := ha.mono (Nat.le_max_left j k)
 have h2 := hb.mono (Nat.le_max_right j k)
 unfold NB at *
 rw [Nat.pow_succ]; omega
theorem IB.mono {j k : Nat} {z : Int} (h : IB j z) (hk : j ≤ k) : IB k z := NB.mono h hk
theorem IB.fit {k : Nat} {z : Int} (h : IB k z) (hk : k ≤ 900000) : Fit z.natAbs := NB.fit h hk
theorem IB.mul {j k : Nat} {a b : Int} (ha : IB j a) (hb : IB k b) : IB (j + k) (a * b) := by
 unfold IB; rw [Int.natAbs_mul]; exact NB.mul ha hb
theorem IB.add {j k : Nat} {a b : Int} (ha : IB j a) (hb : IB k b) : IB (max j k + 1) (a + b) :=
 NB.le (NB.add ha hb) (Int.natAbs_add_le a b)
theorem IB.neg {k : Nat} {z : Int} (h : IB k z) : IB k (-z) := by unfold IB; rw [Int.natAbs_neg]; exact h
theorem IB.ofNat {k n : Nat} (h : NB k n) : IB k (n : Int) := by unfold IB; simpa using h
@[simp] theorem EM (s : Bool) (n : Nat) : L.call iJ [.bool s, dR n] = some (intD (if s then -(n : Int) else n)) := by
  refine aJ amw rfl (aml ..) ?_
  cases s with
  | false =>
    have : ¬ (n : Int) < 0 := by omega
    simp [Tz, P9, this]
  | true =>
    by_cases hn : n = 0
    ·subst hn
     simp [Tz, P9]
    ·have hpos : 0 < n := by omega
     simp [Tz, P9, hn, hpos]
@[simp] theorem JK (z : Int) : L.call bW [intD z] = some (dR z.natAbs) := by
  refine aJ af0 rfl (afx ..) ?_
  simp [WX, P9]
@[simp] theorem Me (z : Int) : L.call dI [intD z] = some (.int .i64 z.sign) := by
  refine aJ ac9 rfl (acW ..) ?_
  rcases Int.lt_trichotomy z 0 with h | h | h
  ·have h1 : z.sign = -1 := Int.sign_eq_neg_one_of_neg h
   have h2 : ¬ z = 0 := by omega
   simp [EZ, h1, h2, P9, h]
  ·subst h
   simp [EZ]
  ·have h1 : z.sign = 1 := Int.sign_eq_one_of_pos h
   have h2 : ¬ z = 0 := by omega
   have h3 : ¬ z < 0 := by omega
   simp [EZ, h1, h2, P9, h3]
theorem sign_neg {z : Int} : z.sign < 0 ↔ z < 0 := by
 rcases Int.lt_trichotomy z 0 with h | h | h
 ·simp [Int.sign_eq_neg_one_of_neg h, h]
 ·simp [h]
 ·simp [Int.sign_eq_one_of_pos h]; omega
theorem Bl {z : Int} : 0 ≤ z.sign ↔ 0 ≤ z := by have := @sign_neg z; omega
@[simp] theorem alM (z : Int) : L.call nZ [intD z] = some (intD (-z)) := by
  refine aJ af7 rfl (afC ..) ?_
  by_cases h : 0 ≤ z
  ·have e : -(z.natAbs : Int) = -z := by omega
   simp [NS, Bl, h, e]
  ·have e : (z.natAbs : Int) = -z := by omega
   simp [NS, Bl, h, e]
theorem qP {a b : Int} {j k : Nat} (ha : IB j a) (hb : IB k b) (hj : j ≤ 900000) (hk : k ≤ 900000) : L.call iq [intD a, intD b] = some (intD (a + b)) := by
 have hadd := VO (ha.fit hj) (hb.fit hk)
 have hcmp := VP (ha.fit hj) (hb.fit hk)
 refine aJ af2 rfl (afy ..) ?_
 by_cases h1 : a < 0 <;> by_cases h2 : b < 0
 ·have e : -((a.natAbs + b.natAbs : Nat) : Int) = a + b := by omega
  generalize a.natAbs + b.natAbs = s at *
  simp [sD, sign_neg, h1, h2, hadd, e]
 ·by_cases h3 : a.natAbs < b.natAbs
  ·have hs := JJ (hb.fit hk) (ha.fit hj) (Nat.le_of_lt h3)
   have e : ((b.natAbs - a.natAbs : Nat) : Int) = a + b := by omega
   generalize b.natAbs - a.natAbs = s at *
   simp [sD, sign_neg, h1, h2, hcmp, DF, h3, hs, e]
  ·have hs := JJ (ha.fit hj) (hb.fit hk) (Nat.le_of_not_lt h3)
   have e : -((a.natAbs - b.natAbs : Nat) : Int) = a + b := by omega
   generalize a.natAbs - b.natAbs = s at *
   simp [sD, sign_neg, h1, h2, hcmp, DF, h3, hs, e]
 ·by_cases h3 : a.natAbs < b.natAbs
  ·have hs := JJ (hb.fit hk) (ha.fit hj) (Nat.le_of_lt h3)
   have e : -((b.natAbs - a.natAbs : Nat) : Int) = a + b := by omega
   generalize b.natAbs - a.natAbs = s at *
   simp [sD, sign_neg, h1, h2, hcmp, DF, h3, hs, e]
  ·have hs := JJ (ha.fit hj) (hb.fit hk) (Nat.le_of_not_lt h3)
   have e : ((a.natAbs - b.natAbs : Nat) : Int) = a + b := by omega
   generalize a.natAbs - b.natAbs = s at *
   simp [sD, sign_neg, h1, h2, hcmp, DF, h3, hs, e]
 ·have e : ((a.natAbs + b.natAbs : Nat) : Int) = a + b := by omega
  generalize a.natAbs + b.natAbs = s at *
  simp [sD, sign_neg, h1, h2, hadd, e]
theorem ab5 {a b : Int} {j k : Nat} (ha : IB j a) (hb : IB k b) (hj : j ≤ 900000) (hk : k ≤ 900000) : L.call qR [intD a, intD b] = some (intD (a - b)) := by
 have := qP ha hb.neg hj hk
 refine aJ af8 rfl (afD ..) ?_
 rw [Int.sub_eq_add_neg]
 simp [W9, this]
theorem VT {a b : Int} {j k : Nat} (ha : IB j a) (hb : IB k b) (hj : j ≤ 900000) (hk : k ≤ 900000) : L.call nY [intD a, intD b] = some (.int .i64 (a - b).sign) := by
 have := ab5 ha hb hj hk
 refine aJ af4 rfl (afz ..) ?_
 simp [WY, this]
theorem FW {a b : Int} : IntKind.i64.wrap (a.sign * b.sign) < 0 ↔ a * b < 0 := by
 rw [← Int.sign_mul, wrap64 _ (by rcases Int.sign_trichotomy (a * b) with h | h | h <;> rw [h] <;> decide)]
 exact sign_neg
theorem dL {a b : Int} {j k : Nat} (ha : IB j a) (hb : IB k b) (hj : j ≤ 900000) (hk : k ≤ 900000) : L.call bZ [intD a, intD b] = some (intD (a * b)) := by
 have hm := EL (ha.fit hj) (hb.fit hk)
 rw [← Int.natAbs_mul] at hm
 refine aJ af6 rfl (afB ..) ?_
 by_cases h : a * b < 0
 ·have e : -((a * b).natAbs : Int) = a * b := by omega
  have hd : decide (IntKind.i64.wrap (a.sign * b.sign) < 0) = true := by simpa [FW] using h
  generalize a * b = p at *
  simp [NR, hd, hm, e]
 ·have e : ((a * b).natAbs : Int) = a * b := by omega
  have hd : decide (IntKind.i64.wrap (a.sign * b.sign) < 0) = false := by simpa [FW] using h
  generalize a * b = p at *
  simp [NR, hd, hm, e]
theorem l9 (n : Int) (h : -9223372036854775808 ≤ n ∧ n ≤ 9223372036854775807) : L.call jH [.int .i64 n] = some (intD n) := by
 refine aJ aon rfl (aoj ..) ?_
 by_cases h0 : n < 0
 ·have e1 : IntKind.u64.wrap (0 - IntKind.u64.wrap n) = (n.natAbs : Int) := by
   simp [IntKind.wrap, IntKind.signed, IntKind.bits]; omega
  have hof := uK n.natAbs (by unfold W; omega)
  have e2 : -(n.natAbs : Int) = n := by omega
  generalize hk : n.natAbs = k at *
  have e1' : IntKind.u64.wrap (-IntKind.u64.wrap n) = (k : Int) := by rw [← e1]; congr 1; omega
  simp [aa6, h0, e1', hof, e2]
 ·obtain ⟨k, rfl⟩ : ∃ k : Nat, n = k := ⟨n.toNat, by omega⟩
  have e1 : IntKind.u64.wrap (k : Int) = (k : Int) := kS _ (by omega)
  have hof := uK k (by unfold W; omega)
  simp [aa6, h0, e1, hof]
def zx (z : Int) : List UInt8 := if z < 0 then 45 :: txt z.natAbs else txt z.natAbs
theorem TU {z : Int} {k : Nat} (h : IB k z) (hk : k ≤ 900000) (h1 : 1 ≤ k) : L.call jG [intD z] = some (.str (zx z)) := by
 have ht := Z4 (h.fit hk) (NB.wri h hk h1)
 have hl : (txt z.natAbs).length ≤ 900000 := by
  obtain ⟨j, j1, j2, j3⟩ := NB.wri h hk h1
  exact Nat.le_trans (uZ j j1 j3) j2
 have hl2 : 1 + (txt z.natAbs).length ≤ 1099511627776 := by omega
 refine aJ ac_ rfl (acX ..) ?_
 by_cases h0 : z < 0
 ·simp [Lc, sign_neg, h0, ht, zx, hl2]
 ·simp [Lc, sign_neg, h0, ht, zx]
end Go.Ev.Code
end
section
namespace Go.Ev.Code
open Go Go.Ev
def adP (q : Rat) : List D := [intD q.num, intD (q.den : Int)]
abbrev bF (q : Rat) : D := .ref (adP q) 0
def RB (k : Nat) (q : Rat) : Prop := NB k q.num.natAbs ∧ NB k q.den
theorem RB.mono {j k : Nat} {q : Rat} (h : RB j q) (hk : j ≤ k) : RB k q := ⟨h.1.mono hk, h.2.mono hk⟩
theorem RB.num {k : Nat} {q : Rat} (h : RB k q) : IB k q.num := h.1
theorem RB.den {k : Nat} {q : Rat} (h : RB k q) : IB k (q.den : Int) := IB.ofNat h.2
theorem iH {n d : Int} {k : Nat} (hn : IB k n) (hd : IB k d) (h0 : d ≠ 0) : RB k (Rat.divInt n d) := by
 have hg : 0 < Int.gcd d n := Int.gcd_pos_of_ne_zero_left _ h0
 constructor
 ·refine NB.le hn ?_
  rw [Rat.num_divInt, Int.natAbs_ediv_of_dvd (Int.dvd_trans (Int.gcd_dvd_right ..) (Int.dvd_mul_left ..)), Int.natAbs_mul]
  have : d.sign.natAbs = 1 := Int.natAbs_sign_of_ne_zero h0
  rw [this, Nat.one_mul]
  exact Nat.div_le_self _ _
 ·refine NB.le hd ?_
  rw [Rat.den_divInt, if_neg h0]
  exact Nat.div_le_self _ _
theorem uw {n d : Int} {j k : Nat} (hn : IB j n) (hd : IB k d) (hj : j ≤ 900000) (hk : k ≤ 900000) (h0 : d ≠ 0) : L.call nI [intD n, intD d] = some (.aZ [bF (Rat.divInt n d), .aF]) := by
 have fn := hn.fit hj
 have fd := hd.fit hk
 have hgcd := VQ fn fd
 have hg0 : Nat.gcd n.natAbs d.natAbs ≠ 0 := by
  have := Nat.gcd_pos_of_pos_right n.natAbs (Int.natAbs_pos.2 h0)
  omega
 have fg : Fit (Nat.gcd n.natAbs d.natAbs) := fd.of_le (Nat.le_of_dvd (Int.natAbs_pos.2 h0) (Nat.gcd_dvd_right ..))
 have d1 := EK fn fg hg0
 have d2 := EK fd fg hg0
 have hs : ¬ d.sign = 0 := by rw [Int.sign_eq_zero_iff_zero]; exact h0
 have hgc : Int.gcd d n = Nat.gcd n.natAbs d.natAbs := Nat.gcd_comm ..
 have hden : ((Rat.divInt n d).den : Int) = ((d.natAbs / Nat.gcd n.natAbs d.natAbs : Nat) : Int) := by rw [Rat.den_divInt, if_neg h0, hgc]
 have hnum : (Rat.divInt n d).num = if n * d < 0 then -((n.natAbs / Nat.gcd n.natAbs d.natAbs : Nat) : Int) else ((n.natAbs / Nat.gcd n.natAbs d.natAbs : Nat) : Int) := by
  rw [Rat.num_divInt, hgc]
  have hdv : ((Nat.gcd n.natAbs d.natAbs : Nat) : Int) ∣ (n.natAbs : Int) := Int.natCast_dvd_natCast.2 (Nat.gcd_dvd_left ..)
  have h1 : (d.sign * n).natAbs = n.natAbs := by rw [Int.natAbs_mul, Int.natAbs_sign_of_ne_zero h0, Nat.one_mul]
  have h2 : d.sign * n < 0 ↔ n * d < 0 := by
   rcases Int.lt_trichotomy d 0 with h | h | h
   ·rw [Int.sign_eq_neg_one_of_neg h]
    constructor
    ·intro h3; exact Int.mul_neg_of_pos_of_neg (by omega) h
    ·intro h3
     rcases Int.lt_trichotomy n 0 with h4 | h4 | h4
     ·have := Int.mul_pos_of_neg_of_neg h4 h; omega
     ·subst h4; simp at h3
     ·omega
   ·exact absurd h h0
   ·rw [Int.sign_eq_one_of_pos h]
    constructor
    ·intro h3; exact Int.mul_neg_of_neg_of_pos (by omega) h
    ·intro h3
     rcases Int.lt_trichotomy n 0 with h4 | h4 | h4
     ·omega
     ·subst h4; simp at h3
     ·have := Int.mul_pos h4 h; omega
  split
  ·rename_i h3
   have h4 : d.sign * n = -(n.natAbs : Int) := by have := h2.2 h3; omega
   rw [h4, Int.neg_ediv_of_dvd hdv, Int.natCast_ediv]
  ·rename_i h3
   have h4 : d.sign * n = (n.natAbs : Int) := by have := mt h2.1 h3; omega
   rw [h4, Int.natCast_ediv]
 refine aJ aeh rfl (aea ..) ?_
 unfold bF adP
 rw [hden, hnum]
 generalize n.natAbs / Nat.gcd n.natAbs d.natAbs = a at *
 generalize d.natAbs / Nat.gcd n.natAbs d.natAbs = b at *
 generalize n.natAbs % Nat.gcd n.natAbs d.natAbs = a' at *
 generalize d.natAbs % Nat.gcd n.natAbs d.natAbs = b' at *
 by_cases h : n * d < 0
 ·have hdc : decide (IntKind.i64.wrap (n.sign * d.sign) < 0) = true := by simpa [FW] using h
  have hl : (n.sign * d.sign) = (n * d).sign := (Int.sign_mul ..).symm
  simp [TA, hs, hgcd, d1, d2, FW, h]
 ·simp [TA, hs, hgcd, d1, d2, FW, h]
theorem Z7 (n : Int) : L.call nI [intD n, intD 0] = some (.aZ [.aK, wR 3]) := by
 refine aJ aeh rfl (aea ..) ?_
 simp [TA, bT]
theorem MG {n d : Int} {j k : Nat} (hn : IB j n) (hd : IB k d) (hj : j ≤ 900000) (hk : k ≤ 900000) (h0 : d ≠ 0) : L.call wz [intD n, intD d] = some (bF (Rat.divInt n d)) := by
 have := uw hn hd hj hk h0
 refine aJ ak9 rfl (ak2 ..) ?_
 simp [acB, this]
theorem eF {n : Int} (h : -9223372036854775808 ≤ n ∧ n ≤ 9223372036854775807) : IB 64 n := by
 unfold IB NB; have : (2 : Nat) ^ 64 = 18446744073709551616 := by decide
 omega
theorem ru {n d : Int} (hn : -9223372036854775808 ≤ n ∧ n ≤ 9223372036854775807) (hd : -9223372036854775808 ≤ d ∧ d ≤ 9223372036854775807) (h0 : d ≠ 0) :
  L.call jQ [.int .i64 n, .int .i64 d] = some (.aZ [bF (Rat.divInt n d), .aF]) := by
 have := uw (eF hn) (eF hd) (by omega) (by omega) h0
 refine aJ aoo rfl (aok ..) ?_
 simp [aiB, l9 n hn, l9 d hd, this]
@[simp] theorem JV (q : Rat) : L.call dN [bF q] = some (intD q.num) := by
  refine aJ agc rfl (afJ ..) ?_
  simp [Xc, adP]
@[simp] theorem xX (q : Rat) : L.call dw [bF q] = some (intD (q.den : Int)) := by
  refine aJ aga rfl (afH ..) ?_
  simp [Xa, adP]
@[simp] theorem Bd (q : Rat) : L.call iE [bF q] = some (.int .i64 q.num.sign) := by
  refine aJ adf rfl (ac2 ..) ?_
  simp [Vd]
theorem FP (q : Rat) : (q.den : Int) ≠ 0 := by have := q.den_nz; omega
theorem add_eq (a b : Rat) : a + b = Rat.divInt (a.num * b.den + b.num * a.den) ((a.den : Int) * b.den) := by
 have := Rat.divInt_add_divInt a.num b.num (FP a) (FP b)
 rwa [Rat.num_divInt_den, Rat.num_divInt_den] at this
theorem ajk {a b : Rat} (h : (a.den : Int) = b.den) : a + b = Rat.divInt (a.num + b.num) (a.den : Int) := by
 rw [add_eq, ← h, ← Int.add_mul, Rat.divInt_mul_right (FP a)]
theorem mul_eq (a b : Rat) : a * b = Rat.divInt (a.num * b.num) ((a.den : Int) * b.den) := by
 have := Rat.divInt_mul_divInt a.num b.num (d₁ := a.den) (d₂ := b.den)
 rwa [Rat.num_divInt_den, Rat.num_divInt_den] at this
theorem Yi {a b : Rat} : (a.den : Int) * b.den ≠ 0 := Int.mul_ne_zero (FP a) (FP b)
theorem RB.add {j k : Nat} {a b : Rat} (ha : RB j a) (hb : RB k b) : RB (j + k + 1) (a + b) := by
 rw [add_eq]
 refine iH ?_ ((ha.den.mul hb.den).mono (by omega)) Yi
 refine (IB.add (ha.num.mul hb.den) (hb.num.mul ha.den)).mono (by omega)
theorem RB.mul {j k : Nat} {a b : Rat} (ha : RB j a) (hb : RB k b) : RB (j + k) (a * b) := by
 rw [mul_eq]
 exact iH (ha.num.mul hb.num) (ha.den.mul hb.den) Yi
theorem RB.neg {k : Nat} {a : Rat} (h : RB k a) : RB k (-a) := ⟨by show NB k (-a.num).natAbs; rw [Int.natAbs_neg]; exact h.1, h.2⟩
theorem RB.sub {j k : Nat} {a b : Rat} (ha : RB j a) (hb : RB k b) : RB (j + k + 1) (a - b) := by rw [Rat.sub_eq_add_neg]; exact ha.add hb.neg
theorem xW {a b : Rat} {j k : Nat} (ha : RB j a) (hb : RB k b) (h : j + k + 1 ≤ 900000) : L.call jq [bF a, bF b] = some (bF (a + b)) := by
 have hc := VT ha.den hb.den (by omega) (by omega)
 have m1 := dL ha.num hb.den (by omega) (by omega)
 have m2 := dL hb.num ha.den (by omega) (by omega)
 have m3 := dL ha.den hb.den (by omega) (by omega)
 have a1 := qP (ha.num.mul hb.den) (hb.num.mul ha.den) (by omega) (by omega)
 have s1 := MG ((IB.add (ha.num.mul hb.den) (hb.num.mul ha.den)).mono (show _ ≤ j + k + 1 by omega)) (ha.den.mul hb.den) h (by omega) Yi
 rw [← add_eq] at s1
 refine aJ af_ rfl (afF ..) ?_
 by_cases he : (a.den : Int) = b.den
 ·have a2 := qP ha.num hb.num (by omega) (by omega)
  have s2 := MG ((IB.add ha.num hb.num).mono (show _ ≤ j + k + 1 by omega)) ha.den h (by omega) (FP a)
  rw [← ajk he] at s2
  rw [he] at hc s2
  generalize a.num + b.num = n at *
  simp [NU, he, hc, a2, s2]
 ·have hs : ¬ ((a.den : Int) - b.den).sign = 0 := by rw [Int.sign_eq_zero_iff_zero]; omega
  generalize a.num * b.den + b.num * a.den = n at *
  generalize a.num * b.den = n1 at *
  generalize b.num * a.den = n2 at *
  generalize (a.den : Int) * b.den = d at *
  generalize ((a.den : Int) - b.den).sign = sg at *
  simp [NU, hc, hs, m1, m2, m3, a1, s1]
theorem uy {a b : Rat} {j k : Nat} (ha : RB j a) (hb : RB k b) (h : j + k + 1 ≤ 900000) : L.call iO [bF a, bF b] = some (bF (a - b)) := by
 have hadd : L.call jq [bF a, .ref [intD (-b.num), intD (b.den : Int)] 0] = some (bF (a + -b)) := xW ha hb.neg h
 refine aJ agd rfl (afK ..) ?_
 rw [Rat.sub_eq_add_neg]
 simp [Xd, hadd]
theorem oK {a b : Rat} {j k : Nat} (ha : RB j a) (hb : RB k b) (h : j + k ≤ 900000) : L.call gV [bF a, bF b] = some (bF (a * b)) := by
 have m1 := dL ha.num hb.num (by omega) (by omega)
 have m3 := dL ha.den hb.den (by omega) (by omega)
 have s1 := MG (ha.num.mul hb.num) (ha.den.mul hb.den) h h Yi
 rw [← mul_eq] at s1
 refine aJ agb rfl (afI ..) ?_
 generalize a.num * b.num = n at *
 generalize (a.den : Int) * b.den = d at *
 simp [Xb, m1, m3, s1]
end Go.Ev.Code
end
section
namespace Go.Ev.Code
open Go Go.Ev
theorem VH {b : Rat} (h : b ≠ 0) : b.num ≠ 0 := fun h0 => h (by
 have := Rat.num_divInt_den b
 rw [h0] at this
 rw [← this, Rat.zero_divInt])
theorem div_eq {a b : Rat} (h : b ≠ 0) : a / b = Rat.divInt (a.num * b.den) ((a.den : Int) * b.num) := by
 have hb := VH h
 have h1 : b⁻¹ = Rat.divInt b.den b.num := by
  have := Rat.inv_divInt b.num b.den
  rw [Rat.num_divInt_den] at this
  exact this
 rw [Rat.div_def, h1]
 have := Rat.divInt_mul_divInt a.num (b.den : Int) (d₁ := a.den) (d₂ := b.num)
 rwa [Rat.num_divInt_den] at this
theorem RB.div {j k : Nat} {a b : Rat} (ha : RB j a) (hb : RB k b) (h : b ≠ 0) : RB (j + k) (a / b) := by
 rw [div_eq h]
 exact iH (ha.num.mul hb.den) (ha.den.mul hb.num) (Int.mul_ne_zero (FP a) (VH h))
theorem Wi {a b : Rat} {j k : Nat} (ha : RB j a) (hb : RB k b) (h : j + k ≤ 900000) (h0 : b ≠ 0) : L.call lH [bF a, bF b] = some (.aZ [bF (a / b), .aF]) := by
 have m1 := dL ha.num hb.den (by omega) (by omega)
 have m2 := dL ha.den hb.num (by omega) (by omega)
 have n1 := uw (ha.num.mul hb.den) (ha.den.mul hb.num) h h (Int.mul_ne_zero (FP a) (VH h0))
 rw [← div_eq h0] at n1
 refine aJ WE rfl (WC ..) ?_
 generalize a.num * b.den = n at *
 generalize (a.den : Int) * b.num = d at *
 simp [NV, m1, m2, n1]
theorem Z5 {a : Rat} {j : Nat} (ha : RB j a) (h : j ≤ 899000) : L.call lH [bF a, bF 0] = some (.aZ [.aK, wR 3]) := by
 have h0 : RB 1 (0 : Rat) := ⟨by unfold NB; decide, by unfold NB; decide⟩
 have m1 := dL ha.num h0.den (by omega) (by omega)
 have m2 := dL ha.den h0.num (by omega) (by omega)
 have e : (a.den : Int) * (0 : Rat).num = 0 := by simp
 rw [e] at m2
 refine aJ WE rfl (WC ..) ?_
 generalize a.num * ((0 : Rat).den : Int) = n at *
 simp [NV] at m1 m2 ⊢
 simp [m1, m2, Z7]
def tX (a b : Rat) : Int := if a < b then -1 else if a = b then 0 else 1
theorem uq {a b : Rat} {j k : Nat} (ha : RB j a) (hb : RB k b) (h : j + k ≤ 900000) : L.call iM [bF a, bF b] = some (.int .i64 (tX a b)) := by
 have m1 := dL ha.num hb.den (by omega) (by omega)
 have m2 := dL hb.num ha.den (by omega) (by omega)
 have c := VT (ha.num.mul hb.den) (hb.num.mul ha.den) (by omega) (by omega)
 have e : (a.num * b.den - b.num * a.den).sign = tX a b := by
  unfold tX
  have hlt := Rat.lt_iff a b
  have hle := Rat.le_iff b a
  split
  ·rename_i h1
   have := hlt.1 h1
   exact Int.sign_eq_neg_one_of_neg (by omega)
  ·rename_i h1
   have h2 := mt hlt.2 h1
   split
   ·rename_i h3
    subst h3
    simp
   ·rename_i h3
    have h4 : a.num * b.den ≠ b.num * a.den := fun h5 => h3 (by
     have h6 : b ≤ a := hle.2 (by omega)
     have h7 : a ≤ b := (Rat.le_iff a b).2 (by omega)
     exact Rat.le_antisymm h7 h6)
    exact Int.sign_eq_one_of_pos (by omega)
 rw [e] at c
 refine aJ af' rfl (afG ..) ?_
 generalize a.num * b.den = n at *
 generalize b.num * a.den = d at *
 generalize tX a b = r at *
 simp [W_, m1, m2, c]
def wH (q : Rat) : List UInt8 := if q.den = 1 then zx q.num else zx q.num ++ 47 :: txt q.den
theorem adW {n : Nat} : txt n = [49] ↔ n = 1 := by
 constructor
 ·intro h
  by_cases h10 : n < 10
  ·rw [nK h10] at h
   have : dg n = 49 := by simpa using h
   unfold dg at this
   have h2 := congrArg UInt8.toNat this
   simp at h2
   omega
  ·rw [Dn (by omega)] at h
   have h3 := congrArg List.length h
   have h4 := Bo (n / 10)
   simp at h3
   rw [h3] at h4
   exact absurd h4 (by decide)
 ·rintro rfl; rw [nK (by decide)]; rfl
theorem aa8 {z : Int} {k : Nat} (h : IB k z) (hk : k ≤ 900000) (h1 : 1 ≤ k) : (zx z).length ≤ 900001 := by
 obtain ⟨j, j1, j2, j3⟩ := NB.wri h hk h1
 have := uZ j j1 j3
 unfold zx
 split <;> simp <;> omega
theorem yG {q : Rat} {k : Nat} (h : RB k q) (hk : k ≤ 900000) (h1 : 1 ≤ k) : L.call gu [bF q] = some (.str (wH q)) := by
 have t1 := TU h.num hk h1
 have t2 := TU h.den hk h1
 have e : zx (q.den : Int) = txt q.den := by unfold zx; rw [if_neg (by omega)]; simp
 have l1 := aa8 h.num hk h1
 have l2 := aa8 h.den hk h1
 rw [e] at t2 l2
 refine aJ adg rfl (ac3 ..) ?_
 by_cases hd : q.den = 1
 ·have h2 : txt q.den = [49] := adW.2 hd
  have t2' : L.call jG [intD 1] = some (.str [49]) := by rw [h2, hd] at t2; exact t2
  simp [Ld, t1, t2', wH, hd]
 ·have h2 : ¬ txt q.den = [49] := fun h => hd (adW.1 h)
  have b1 : (zx q.num).length + 1 ≤ 1099511627776 := by omega
  have b2 : (zx q.num).length + 1 + (txt q.den).length ≤ 1099511627776 := by omega
  simp [Ld, t1, t2, h2, wH, hd, b1, b2]
end Go.Ev.Code
end
section
namespace Go.Ev.Code
open Go Go.Ev
def rH (b : UInt8) : Bool := decide (48 ≤ b.toNat ∧ b.toNat ≤ 57)
def al2 (n : Nat) (b : UInt8) : Nat := n * 10 + (b.toNat - 48)
theorem ap0 (n : Nat) (b : UInt8) : al2 n b = n * 10 + (b.toNat - 48) := rfl
attribute [irreducible] al2
def jF (n : Nat) (s : List UInt8) : Nat := s.foldl al2 n
theorem Aa (n : Nat) : jF n [] = n := by simp only [jF, List.foldl_nil]
theorem uP (n : Nat) (b : UInt8) (bs : List UInt8) : jF n (b :: bs) = jF (n * 10 + (b.toNat - 48)) bs := by
 simp only [jF, List.foldl_cons, ap0]
attribute [irreducible] jF
def yL (s : List UInt8) : Prop := s ≠ [] ∧ s.length ≤ 4000 ∧ ¬ (1 < s.length ∧ s[0]? = some 48) ∧ s.all rH = true
theorem alf (b : UInt8) : mO.contains b = rH b := by
 have h : ∀ n : Nat, n < 256 → mO.contains (UInt8.ofNat n) = rH (UInt8.ofNat n) := by decide +kernel
 have := h b.toNat (by have := b.toNat_lt; omega)
 simpa using this
theorem ap1 (p : UInt8 → Bool) (s : List UInt8) : strip p s = s.dropWhile p := by
 induction s with
 | nil => rfl
 | cons b bs ih =>
   simp only [strip, List.dropWhile]
   cases p b <;> simp [ih]
theorem strip_nil (p : UInt8 → Bool) (s : List UInt8) : strip p s = [] ↔ s.all p = true := by
 induction s with
 | nil => simp [strip]
 | cons b bs ih =>
   simp only [strip, List.all_cons, Bool.and_eq_true]
   cases h : p b <;> simp [ih]
theorem acE (p : UInt8 → Bool) (s : List UInt8) {b : UInt8} {bs : List UInt8} (h : strip p s = b :: bs) : p b = false := by
 induction s with
 | nil => simp [strip] at h
 | cons x xs ih =>
   simp only [strip] at h
   split at h
   ·exact ih h
   ·rename_i hx
    simp at h
    rw [← h.1]; simpa using hx
theorem ap5 (p : UInt8 → Bool) (s : List UInt8) : strip p (strip p s.reverse).reverse = [] ↔ s.all p = true := by
 rw [strip_nil, List.all_reverse, ← List.all_reverse (l := s)]
 constructor
 ·intro h
  cases hs : strip p s.reverse with
  | nil => exact (strip_nil p _).1 hs
  | cons b bs =>
    rw [hs] at h
    have := acE p _ hs
    simp [this] at h
 ·intro h
  rw [(strip_nil p _).2 h]; rfl
theorem asi : TT.fn lC = none := by kernel_rfl
theorem asn : TT.jZ lC = pTrim := by kernel_rfl
theorem YV {s : List UInt8} (h : s.length ≤ 1000000) : ∃ r : List UInt8, (r = [] ↔ s.all rH = true) ∧ L.call lC [.str s, .str [48, 49, 50, 51, 52, 53, 54, 55, 56, 57]] = some (.str r) := by
 have hp : TT.jZ lC [.str s, .str mO] [] = some (.str (strip (fun b => mO.contains b) (strip (fun b => mO.contains b) s.reverse).reverse), []) := by
  rw [asn]
  simp only [pTrim, h, and_true, if_true]
 have hi : strip (fun b => mO.contains b) (strip (fun b => mO.contains b) s.reverse).reverse = [] ↔ s.all rH = true := by
  have : (fun b => mO.contains b) = rH := funext alf
  rw [ap5, this]
 generalize strip (fun b => mO.contains b) (strip (fun b => mO.contains b) s.reverse).reverse = r at *
 exact ⟨r, hi, ES asi hp (by simp)⟩
theorem ajY (n : Nat) (b : UInt8) (bs : List UInt8) (h : rH b = true) : FT n (b :: bs) = FT (n * 10 + (b.toNat - 48)) bs := by
 have h1 : 48 ≤ b.toNat ∧ b.toNat ≤ 57 := of_decide_eq_true h
 rw [FT, if_pos h1]
theorem anE (s : List UInt8) (n : Nat) (h : s.all rH = true) : FT n s = some (jF n s) := by
 induction s generalizing n with
 | nil => simp [FT, Aa]
 | cons b bs ih =>
   have h' : rH b = true ∧ bs.all rH = true := by rw [← Bool.and_eq_true, ← List.all_cons]; exact h
   rw [uP, ajY n b bs h'.1]
   exact ih _ h'.2
theorem aqn : TT.fn iT = none := by kernel_rfl
theorem aqt : TT.jZ iT = Yo := by kernel_rfl
theorem Parse_ok {s : List UInt8} (h0 : s ≠ []) (hl : s.length ≤ 18) (hd : s.all rH = true) : L.call iT [.str s, .int .i64 10, .int .i64 64] = some (.aZ [aT (jF 0 s), .aF]) := by
 have hp : TT.jZ iT [.str s, .int .i64 10, .int .i64 64] [] = some (.aZ [aT (jF 0 s), .aF], []) := by
  rw [aqt]
  simp [Yo, h0, hl, anE s 0 hd]
 exact ES aqn hp (by simp)
theorem aaU (n : Nat) (a b : List UInt8) : jF n (a ++ b) = jF (jF n a) b := by
 induction a generalizing n with
 | nil => simp [Aa]
 | cons x xs ih => simp [uP, ih]
theorem Yl (n : Nat) (s : List UInt8) : jF n s = n * 10 ^ s.length + jF 0 s := by
 induction s generalizing n with
 | nil => simp [Aa]
 | cons b bs ih =>
   simp only [uP, List.length_cons, Nat.zero_mul, Nat.zero_add]
   rw [ih, ih (b.toNat - 48), Nat.pow_succ, Nat.add_mul, Nat.mul_assoc, Nat.mul_comm 10]; omega
theorem adJ {s : List UInt8} (h : s.all rH = true) : jF 0 s < 10 ^ s.length := by
 induction s with
 | nil => simp [Aa]
 | cons b bs ih =>
   simp only [List.all_cons, Bool.and_eq_true] at h
   have h1 : 48 ≤ b.toNat ∧ b.toNat ≤ 57 := by simpa [rH] using h.1
   have := ih h.2
   simp only [uP, List.length_cons, Nat.zero_mul, Nat.zero_add]
   rw [Yl, Nat.pow_succ]
   have h2 : (b.toNat - 48) * 10 ^ bs.length ≤ 9 * 10 ^ bs.length := Nat.mul_le_mul_right _ (by omega)
   omega
theorem an3 {n k : Nat} (h : n < 10 ^ k) : NB (4 * k) n := by
 unfold NB
 refine Nat.lt_of_lt_of_le h ?_
 rw [Nat.pow_mul]; exact Nat.pow_le_pow_left (by decide) k
def unit : Nat := 1000000000000000000
theorem nbU : NB 60 unit := by unfold NB unit; decide
theorem auS : Fit unit := nbU.fit (by omega)
theorem unit_eq : unit = 10 ^ 18 := by decide
theorem ar1 : L.call jc [.int .u64 1000000000000000000] = some (dR unit) := uK unit (by decide)
attribute [irreducible] unit
theorem apa : ∀ (k : Nat) (s : List UInt8) (out first : Nat), s.length = first + 18 * k → 1 ≤ first → first ≤ 18 → s.all rH = true → out < 10 ^ (4000 - s.length) → s.length ≤ 4000 → first = 18 ∨ out = 0 →
  L.loop [0, 5, 6, 7] [5] qL 0 [.str s, dR out, dR unit, .int .i64 first] [] = some (.exit 0, [dR (jF out s)], []) := by
 intro k
 have last : ∀ (out : Nat), L.loop [0, 5, 6, 7] [5] qL 0 [.str [], dR out, dR unit, .int .i64 18] [] = some (.exit 0, [dR out], []) := fun out => by
  refine aQ (XA ..) ?_
  simp [QF]
 have step : ∀ (s : List UInt8) (out first : Nat), 1 ≤ first → first ≤ 18 → first ≤ s.length → s.all rH = true → out < 10 ^ (4000 - s.length) → s.length ≤ 4000 →
   L.loop [0, 5, 6, 7] [5] qL 0 [.str (s.drop first), dR (jF out (s.take first)), dR unit, .int .i64 18] [] = some (.exit 0, [dR (jF out s)], []) → first = 18 ∨ out = 0 →
   L.loop [0, 5, 6, 7] [5] qL 0 [.str s, dR out, dR unit, .int .i64 first] [] = some (.exit 0, [dR (jF out s)], []) := by
  intro s out first h1 h2 h3 hd hout hs hnext hcase
  have hne : s ≠ [] := by intro h; rw [h] at h3; simp at h3; omega
  have htd : (s.take first).all rH = true := by rw [List.all_eq_true] at hd ⊢; exact fun x hx => hd x (List.mem_of_mem_take hx)
  have htl : (s.take first).length = first := by simp; omega
  have hp := Parse_ok (s := s.take first) (by intro h; rw [h] at htl; simp at htl; omega) (by omega) htd
  have hv := adJ htd
  rw [htl] at hv
  have hvW : jF 0 (s.take first) < W := Nat.lt_of_lt_of_le hv (Nat.le_trans (Nat.pow_le_pow_right (by decide) h2) (by decide))
  have hof := uK _ hvW
  have ob : NB (4 * 4000) out := (an3 hout).mono (by omega)
  have hm := EL (ob.fit (by omega)) auS
  have ha := VO ((ob.mul nbU).fit (by omega)) ((show NB 64 (jF 0 (s.take first)) by unfold NB; rw [← qH]; exact hvW).fit (by omega))
  have hval : out * unit + jF 0 (s.take first) = jF out (s.take first) := by
   rw [Yl out, htl]
   rcases hcase with rfl | rfl
   ·rw [unit_eq]
   ·simp
  rw [hval] at ha
  generalize jF out (s.take first) = o2 at *
  generalize jF 0 (s.take first) = v at *
  generalize out * unit = o1 at *
  have hf1 : (first : Int) ≤ s.length := by omega
  have hdt : (s.drop first).take (s.length - first) = s.drop first := List.take_of_length_le (by simp)
  refine aQ (XA ..) ?_
  simp (disch := omega) [QF, hne, hp, hof, hm, ha, hdt, hnext]
 induction k with
 | zero =>
   intro s out first hs h1 h2 hd hout hl hc
   have hf : first = s.length := by omega
   refine step s out first h1 h2 (by omega) hd hout hl ?_ hc
   rw [hf, List.take_length, List.drop_length]
   exact last _
 | succ k ih =>
   intro s out first hs h1 h2 hd hout hl hc
   refine step s out first h1 h2 (by omega) hd hout hl ?_ hc
   have h18 : 18 ≤ (s.drop first).length := by simp; omega
   have htd : (s.take first).all rH = true := by rw [List.all_eq_true] at hd ⊢; exact fun x hx => hd x (List.mem_of_mem_take hx)
   have hdd : (s.drop first).all rH = true := by rw [List.all_eq_true] at hd ⊢; exact fun x hx => hd x (List.mem_of_mem_drop hx)
   have htl : (s.take first).length = first := by simp; omega
   have := ih (s.drop first) (jF out (s.take first)) 18 (by simp; omega) (by omega) (by omega) hdd (by
    have h3 := adJ htd
    rw [htl] at h3
    rw [Yl, htl]
    have h4 : 10 ^ (4000 - (s.drop first).length) = 10 ^ (4000 - s.length) * 10 ^ first := by rw [← Nat.pow_add]; congr 1; simp; omega
    rw [h4]
    have h5 : (out + 1) * 10 ^ first ≤ 10 ^ (4000 - s.length) * 10 ^ first := Nat.mul_le_mul_right _ hout
    rw [Nat.add_mul, Nat.one_mul] at h5
    omega) (by simp; omega) (.inl rfl)
   rw [← aaU, List.take_append_drop] at this
   exact this
theorem zW {s : List UInt8} (h : yL s) : L.call mP [.str s] = some (.aZ [dR (jF 0 s), .aF]) := by
 obtain ⟨h0, h1, h2, h3⟩ := h
 have hpos : 0 < s.length := List.length_pos_iff.2 h0
 obtain ⟨r, hr, ht⟩ := YV (s := s) (by omega)
 have hr0 := hr.2 h3
 subst hr0
 have hz := uK 0 (by decide)
 have hz' : L.call jc [.int .u64 0] = some (dR 0) := hz
 have hl := apa ((s.length - 1) / 18) s 0 ((s.length - 1) % 18 + 1) (by omega) (by omega) (by omega) h3 (Nat.pow_pos (by decide)) h1 (.inr rfl)
 have e1 : IntKind.i64.wrap ((s.length : Int) - 1) = ((s.length - 1 : Nat) : Int) := by rw [wrap64 _ (by omega)]; omega
 have e2 : Int.tmod ((s.length - 1 : Nat) : Int) 18 = (((s.length - 1) % 18 : Nat) : Int) := rfl
 have e3 : IntKind.i64.wrap ((((s.length - 1) % 18 : Nat) : Int) + 1) = (((s.length - 1) % 18 + 1 : Nat) : Int) := by rw [wrap64 _ (by omega)]; omega
 have hu := ar1
 have hg : ¬ (4000 : Int) < s.length := by omega
 have hg' : ¬ 4000 < s.length := by omega
 generalize jF 0 s = v at *
 generalize (s.length - 1) % 18 + 1 = fst at *
 generalize (s.length - 1) % 18 = md at *
 generalize s.length - 1 = l1 at *
 refine aJ aed rfl (ad7 ..) ?_
 by_cases hl1 : 1 < s.length
 ·have hl1' : (1 : Int) < s.length := by omega
  have hh : ¬ s[0]? = some 48 := fun h => h2 ⟨hl1, h⟩
  obtain ⟨b, hb⟩ : ∃ b, s[0]? = some b := ⟨s[0], List.getElem?_eq_getElem hpos⟩
  have hb0 : s[0] = b := by simpa using (List.getElem?_eq_some_iff.1 hb).2
  have hbn : ¬ b.toNat = 48 := fun h => hh (by rw [hb]; congr 1; exact UInt8.toNat_inj.1 h)
  have hbn' : ¬ (b.toNat : Int) = 48 := by omega
  simp (disch := omega) [zB, h0, hg, hg', hl1, hl1', hb, hb0, hbn, hbn', ht, hz', hu, e1, e2, e3, hl]
 ·have hl1' : ¬ (1 : Int) < s.length := by omega
  simp (disch := omega) [zB, h0, hg, hg', hl1, hl1', ht, hz', hu, e1, e2, e3, hl]
theorem ZY {s : List UInt8} (h : ¬ yL s) (hs : s.length ≤ 1000000) : L.call mP [.str s] = some (.aZ [.aK, wR 1]) := by
 obtain ⟨r, hr, ht⟩ := YV hs
 refine aJ aed rfl (ad7 ..) ?_
 by_cases h0 : s = []
 ·subst h0
  simp (disch := omega) [zB, bT]
 ·have hpos : 0 < s.length := List.length_pos_iff.2 h0
  by_cases h1 : 4000 < s.length
  ·have h1' : (4000 : Int) < s.length := by omega
   simp (disch := omega) [zB, bT, h0, h1, h1']
  ·by_cases hl1 : 1 < s.length
   ·have hl1' : (1 : Int) < s.length := by omega
    have h1' : ¬ (4000 : Int) < s.length := by omega
    obtain ⟨b, hb⟩ : ∃ b, s[0]? = some b := ⟨s[0], List.getElem?_eq_getElem hpos⟩
    have hb0 : s[0] = b := by simpa using (List.getElem?_eq_some_iff.1 hb).2
    by_cases hh : b.toNat = 48
    ·have hh' : (b.toNat : Int) = 48 := by omega
     simp (disch := omega) [zB, bT, h0, h1, h1', hl1, hl1', hb, hb0, hh, hh']
    ·have hh' : ¬ (b.toNat : Int) = 48 := by omega
     have hr0 : ¬ r = [] := fun h3 => h ⟨h0, by omega, fun h4 => hh (by have := h4.2; rw [hb] at this; simp at this; rw [this]; rfl), hr.1 h3⟩
     simp (disch := omega) [zB, bT, h0, h1, h1', hl1, hl1', hb, hb0, hh, hh', ht, hr0]
   ·have hl1' : ¬ (1 : Int) < s.length := by omega
    have h1' : ¬ (4000 : Int) < s.length := by omega
    have hr0 : ¬ r = [] := fun h3 => h ⟨h0, by omega, fun h4 => hl1 h4.1, hr.1 h3⟩
    simp (disch := omega) [zB, bT, h0, h1, h1', hl1, hl1', ht, hr0]
end Go.Ev.Code
end
section
namespace Go.Ev.Code
open Go Go.Ev
theorem asv {m : Mem} {k : Nat} (h : k ≤ 4294967296) : fZ .and [.int .i64 k, .int .i64 1] m = some (.int .i64 ((k % 2 : Nat) : Int), m) := by
 rw [asT]
 have h1 : (BitVec.ofInt IntKind.i64.bits (k : Int)).toNat = k := by
  show (BitVec.ofInt 64 (k : Int)).toNat = k
  rw [BitVec.toNat_ofInt]
  omega
 have h2 : (BitVec.ofInt IntKind.i64.bits 1).toNat = 1 := by decide
 rw [BitVec.toNat_and, h1, h2, Nat.and_one_is_mod, wrap64 _ (by omega)]
theorem asW {m : Mem} {k : Nat} : rJ false [.int .i64 k, .int .u64 1] m = some (.int .i64 ((k / 2 : Nat) : Int), m) := by
 rw [asV _ _ _ _ (by omega)]
 have : ((k : Int).fdiv (2 ^ (min (Int.toNat 1) IntKind.i64.bits))) = ((k / 2 : Nat) : Int) := by
  show (k : Int).fdiv 2 = _
  rw [Int.fdiv_eq_ediv_of_nonneg _ (by omega)]; omega
 rw [this]
theorem apu : ∀ (k a b : Nat), k ≤ 4294967296 → a ≠ 0 → b ≠ 0 → NB 900000 (a * b ^ k) → NB 900000 b →
  L.loop [1, 5, 6] [5] nH 0 [.int .i64 k, dR a, dR b] [] = some (.exit 0, [dR (a * b ^ k)], []) := by
 intro k
 induction k using Nat.strongRecOn with
 | _ k ih =>
 intro a b hk ha hb hn hbb
 by_cases h0 : k = 0
 ·subst h0
  refine aQ (zD ..) ?_
  simp [wE]
 have hpos : 0 < k := by omega
 have hab : a * b ≤ a * b ^ k := Nat.mul_le_mul_left _ (Nat.le_pow hpos)
 have fa : Fit a := (hn.le (Nat.le_trans (Nat.le_mul_of_pos_right _ (Nat.pos_of_ne_zero hb)) hab)).fit (Nat.le_refl _)
 have fb : Fit b := hbb.fit (Nat.le_refl _)
 have hm1 := EL fa fb
 have hm2 := EL fb fb
 have f1 : ∀ m : Mem, fZ .and [.int .i64 k, .int .i64 1] m = some (.int .i64 ((k % 2 : Nat) : Int), m) := fun m => asv hk
 have f2 : ∀ m : Mem, rJ false [.int .i64 k, .int .u64 1] m = some (.int .i64 ((k / 2 : Nat) : Int), m) := fun m => asW
 have hsq : 1 < k → NB 900000 (b * b) := fun h => by
  refine hn.le ?_
  have : b ^ 2 ≤ b ^ k := Nat.pow_le_pow_right (Nat.pos_of_ne_zero hb) h
  have h2 : b ^ k ≤ a * b ^ k := Nat.le_mul_of_pos_left _ (Nat.pos_of_ne_zero ha)
  rw [Nat.pow_two] at this
  exact Nat.le_trans this h2
 have hstep : ∀ a' b', a' ≠ 0 → b' ≠ 0 → a' * b' ^ (k / 2) = a * b ^ k → NB 900000 b' →
   L.loop [1, 5, 6] [5] nH 0 [.int .i64 ((k / 2 : Nat) : Int), dR a', dR b'] [] = some (.exit 0, [dR (a * b ^ k)], []) := by
  intro a' b' h1 h2 h3 h4
  have := ih (k / 2) (by omega) a' b' (by omega) h1 h2 (by rw [h3]; exact hn) h4
  rw [h3] at this
  exact this
 have hbk : b ^ k = b ^ (k % 2) * (b * b) ^ (k / 2) := by
  rw [← Nat.pow_two, ← Nat.pow_mul, ← Nat.pow_add]; congr 1; omega
 have hpI : (0 : Int) < k := by omega
 by_cases hk1 : 1 < k
 ·have hk1' : (1 : Int) < k := by omega
  have hbb2 : b * b ≠ 0 := Nat.mul_ne_zero hb hb
  by_cases ho : k % 2 = 1
  ·have hnext := hstep (a * b) (b * b) (Nat.mul_ne_zero ha hb) hbb2 (by rw [hbk, ho, Nat.pow_one, Nat.mul_assoc]) (hsq hk1)
   have hoI : ((k % 2 : Nat) : Int) = 1 := by omega
   generalize k % 2 = k2 at *
   generalize k / 2 = kh at *
   refine aQ (zD ..) ?_
   generalize a * b ^ k = r at *
   generalize a * b = ab at *
   generalize b * b = b2 at *
   simp (disch := omega) [wE, hpI, hpos, f1, f2, hk1, hk1', ho, hoI, hm1, hm2, hnext]
  ·have hnext := hstep a (b * b) ha hbb2 (by rw [hbk, show k % 2 = 0 by omega, Nat.pow_zero, Nat.one_mul]) (hsq hk1)
   have hoI : ¬ ((k % 2 : Nat) : Int) = 1 := by omega
   generalize k % 2 = k2 at *
   generalize k / 2 = kh at *
   refine aQ (zD ..) ?_
   generalize a * b ^ k = r at *
   generalize a * b = ab at *
   generalize b * b = b2 at *
   simp (disch := omega) [wE, hpI, hpos, f1, f2, hk1, hk1', ho, hoI, hm1, hm2, hnext]
 ·have hk1e : k = 1 := by omega
  subst hk1e
  have hnext := hstep (a * b) b (Nat.mul_ne_zero ha hb) hb (by simp) hbb
  simp at hnext
  refine aQ (zD ..) ?_
  have f1' := fun m => f1 m
  simp at f1' f2
  rw [Nat.pow_one]
  generalize a * b = ab at *
  simp (disch := omega) [wE, f1', f2, hm1, hnext]
theorem alK {b k : Nat} (hk : k ≤ 4294967296) (hb : b ≠ 0) (hn : NB 900000 (b ^ k)) (hbb : NB 900000 b) : L.call qM [dR b, .int .i64 k] = some (dR (b ^ k)) := by
 have h1 := uK 1 (by decide)
 have h1' : L.call jc [.int .u64 1] = some (dR 1) := h1
 have hl := apu k 1 b hk (by decide) hb (by rw [Nat.one_mul]; exact hn) hbb
 rw [Nat.one_mul] at hl
 generalize b ^ k = r at *
 refine aJ afX rfl (afu ..) ?_
 simp [WV, h1', hl]
end Go.Ev.Code
end
section
namespace Go.Ev.Code
open Go Go.Ev
theorem aiX : TT.fn strings_CutPrefix = none := by kernel_rfl
theorem aiY : TT.jZ strings_CutPrefix = EN := by kernel_rfl
theorem Xt (s p : List UInt8) : L.call strings_CutPrefix [.str s, .str p] = some (if p.isPrefixOf s then .aZ [.str (s.drop p.length), .bool true] else .aZ [.str s, .bool false]) := by
 have hp : TT.jZ strings_CutPrefix [.str s, .str p] [] = some (if p.isPrefixOf s then .aZ [.str (s.drop p.length), .bool true] else .aZ [.str s, .bool false], []) := by
  rw [aiY]
  simp only [EN]
  split <;> rfl
 refine ES aiX hp ?_
 split <;> simp
theorem atl : TT.fn strings_Cut = none := by kernel_rfl
theorem atm : TT.jZ strings_Cut = aif := by kernel_rfl
def lV (c : UInt8) (s : List UInt8) : List UInt8 × List UInt8 × Bool := match cutAt c [] s with
 | some (a, b) => (a, b, true)
 | none => (s, [], false)
theorem amb {s : List UInt8} (h : s.length < 4294967281) (c : UInt8) : L.call strings_Cut [.str s, .str [c]] = some (.aZ [.str (lV c s).1, .str (lV c s).2.1, .bool (lV c s).2.2]) := by
 have hp : TT.jZ strings_Cut [.str s, .str [c]] [] = some (.aZ [.str (lV c s).1, .str (lV c s).2.1, .bool (lV c s).2.2], []) := by
  rw [atm]
  simp only [aif, h, if_true, lV]
  cases hc : cutAt c [] s with
  | none => rfl
  | some ab => rfl
 exact ES atl hp (by simp)
theorem abD {c : UInt8} : ∀ {s acc a b : List UInt8}, cutAt c acc s = some (a, b) → ∃ x, a = acc.reverse ++ x ∧ s = x ++ c :: b ∧ c ∉ x
 | [], acc, a, b, h => by simp [cutAt] at h
 | y :: ys, acc, a, b, h => by
   simp only [cutAt] at h
   split at h
   ·rename_i hy
    simp at h hy
    obtain ⟨rfl, rfl⟩ := h
    exact ⟨[], by simp, by simp [hy], by simp⟩
   ·rename_i hy
    obtain ⟨x, h1, h2, h3⟩ := abD h
    refine ⟨y :: x, by simp [h1], by simp [h2], ?_⟩
    simp at hy
    simp [h3, Ne.symm hy]
theorem am1 {c : UInt8} {s : List UInt8} (h : (lV c s).2.2 = true) : s = (lV c s).1 ++ c :: (lV c s).2.1 ∧ c ∉ (lV c s).1 := by
 unfold lV at *
 cases hc : cutAt c [] s with
 | none => rw [hc] at h; simp at h
 | some ab =>
   obtain ⟨a, b⟩ := ab
   obtain ⟨x, h1, h2, h3⟩ := abD hc
   simp at h1
   subst h1
   exact ⟨h2, h3⟩
theorem Oc {c : UInt8} {s : List UInt8} (h : (lV c s).2.2 = false) : (lV c s).1 = s ∧ (lV c s).2.1 = [] := by
 unfold lV at *
 cases hc : cutAt c [] s with
 | none => simp
 | some ab => obtain ⟨a, b⟩ := ab; rw [hc] at h; simp at h
theorem ahm (c : UInt8) (s : List UInt8) : (lV c s).1.length ≤ s.length ∧ (lV c s).2.1.length ≤ s.length ∧ (lV c s).1.length + (lV c s).2.1.length ≤ s.length := by
 cases h : (lV c s).2.2 with
 | true =>
   have := congrArg List.length (am1 h).1
   simp at this
   omega
 | false => rw [(Oc h).1, (Oc h).2]; simp
theorem akT : TT.fn jy = none := by kernel_rfl
theorem akV : TT.jZ jy = IU := by kernel_rfl
theorem ajj {s : List UInt8} (h : s.length ≤ 1000000) (c : UInt8) (hc : c.toNat < 128) : L.call jy [.str s, .str [c]] = some (.str (strip (fun b => b == c) s)) := by
 have hp : TT.jZ jy [.str s, .str [c]] [] = some (.str (strip (fun b => b == c) s), []) := by
  rw [akV]
  simp only [IU, h, hc, and_self, if_true]
 exact ES akT hp (by simp)
theorem alj {k : Nat} (h : k ≤ 200000) : L.call IG [.int .i64 k] = some (intD ((10 ^ k : Nat) : Int)) := by
 have h1 := uK 10 (by decide)
 have h1' : L.call jc [.int .u64 10] = some (dR 10) := h1
 have hn : NB 900000 (10 ^ k) := by
  refine NB.mono (j := 4 * k + 1) ?_ (by omega)
  unfold NB
  have : 10 ^ k ≤ (2 ^ 4) ^ k := Nat.pow_le_pow_left (by decide) k
  rw [← Nat.pow_mul] at this
  exact Nat.lt_of_le_of_lt this (Nat.pow_lt_pow_right (by decide) (by omega))
 have h2 := alK (b := 10) (k := k) (by omega) (by decide) hn ((show NB 4 10 by unfold NB; decide).mono (by decide))
 generalize 10 ^ k = r at *
 refine aJ ams rfl (ami ..) ?_
 simp [ae2, h1', h2]
theorem acF (s : List UInt8) : jF 0 (strip (fun b => b == 48) s) = jF 0 s := by
 induction s with
 | nil => simp [strip]
 | cons b bs ih =>
   by_cases h : b = 48
   ·subst h
    rw [uP]
    simpa [strip] using ih
   ·simp [strip, h]
theorem aiG (p : UInt8 → Bool) (s : List UInt8) : strip p s <:+ s := by rw [ap1]; exact List.dropWhile_suffix p
theorem anY {s : List UInt8} (h : s.all rH = true) (hl : s.length ≤ 4000) (hne : strip (fun b => b == 48) s ≠ []) : yL (strip (fun b => b == 48) s) := by
 have hsub := aiG (fun b => b == 48) s
 refine ⟨hne, Nat.le_trans hsub.length_le hl, ?_, ?_⟩
 ·rintro ⟨_, h2⟩
  cases hc : strip (fun b => b == 48) s with
  | nil => exact hne hc
  | cons b bs =>
    have := acE _ s hc
    rw [hc] at h2
    simp at h2 this
    exact this h2
 ·rw [List.all_eq_true] at h ⊢
  exact fun x hx => h x (hsub.subset hx)
instance (s : List UInt8) : Decidable (yL s) := inferInstanceAs (Decidable (_ ∧ _))
def qW (s : List UInt8) : Bool × List UInt8 := if [45].isPrefixOf s then (true, s.drop 1) else (false, s)
theorem ae8 (s : List UInt8) : (qW s).2.length ≤ s.length := by unfold qW; split <;> simp
def CP (neg : Bool) (w r : List UInt8) (point : Bool) : Option (Rat × Nat) :=
 if yL w ∧ (point = true → r ≠ [] ∧ r.length ≤ 20 ∧ r.all rH = true) ∧ ¬ (neg = true ∧ jF 0 (w ++ r) = 0) then
  some (Rat.divInt (if neg then -(jF 0 (w ++ r) : Int) else jF 0 (w ++ r)) ((10 ^ r.length : Nat) : Int), r.length) else none
def wJ (s : List UInt8) : Option (Rat × Nat) :=
 if s.length ≤ 60 then CP (qW s).1 (lV 46 (qW s).2).1 (lV 46 (qW s).2).2.1 (lV 46 (qW s).2).2.2 else none
def Fv : Option (Rat × Nat) → D
 | some (q, n) => .aZ [bF q, .int .i64 n, .aF]
 | none => .aZ [.aK, .int .i64 0, wR 1]
theorem ama (s : List UInt8) : L.call strings_CutPrefix [.str s, .str [45]] = some (.aZ [.str (qW s).2, .bool (qW s).1]) := by
 rw [Xt]
 unfold qW
 split <;> rfl
end Go.Ev.Code
end
section
namespace Go.Ev.Code
open Go Go.Ev
theorem aky {s : List UInt8} (h : s.all rH = true) {k : Nat} (hk : 4 * s.length ≤ k) : NB k (jF 0 s) := (an3 (adJ h)).mono hk
theorem akM (k : Nat) : ((10 ^ k : Nat) : Int) ≠ 0 := by have : 0 < 10 ^ k := Nat.pow_pos (by decide); omega
theorem an2 (k : Nat) : IB (4 * k + 1) ((10 ^ k : Nat) : Int) := by
 refine IB.ofNat ?_
 unfold NB
 have : 10 ^ k ≤ (2 ^ 4) ^ k := Nat.pow_le_pow_left (by decide) k
 rw [← Nat.pow_mul] at this
 exact Nat.lt_of_le_of_lt this (Nat.pow_lt_pow_right (by decide) (by omega))
theorem ar5 : L.call mP [.str [48]] = some (.aZ [dR 0, .aF]) := by
 have := zW (s := [48]) (by decide)
 rw [show jF 0 [48] = 0 by simp [uP, Aa]] at this
 exact this
theorem XW {s t w r : List UInt8} {neg point : Bool} (h1 : L.call strings_CutPrefix [.str s, .str [45]] = some (.aZ [.str t, .bool neg]))
  (h2 : L.call strings_Cut [.str t, .str [46]] = some (.aZ [.str w, .str r, .bool point])) (hs : s.length ≤ 60) (hw : w.length ≤ s.length) (hr : r.length ≤ 20)
  (hp : point = false → r = []) (hd : r.all rH = true) (hn : yL w) (hg : point = true → r ≠ []) : L.call uX [.str s] = some (Fv (CP neg w r point)) := by
 have had : (w ++ r).all rH = true := by rw [List.all_append, hn.2.2.2, hd]; rfl
 have hal : (w ++ r).length ≤ 80 := by simp; omega
 obtain ⟨tr, htr, hT⟩ := YV (s := r) (by omega)
 have htr' := htr.2 hd
 subst htr'
 have hG := zW hn
 have hL := ajj (s := w ++ r) (by omega) 48 (by decide)
 have hz := ar5
 have hall : ∃ v, jF 0 (w ++ r) = v ∧ (strip (fun b => b == 48) (w ++ r) = [] → v = 0) ∧ (strip (fun b => b == 48) (w ++ r) ≠ [] → L.call mP [.str (strip (fun b => b == 48) (w ++ r))] = some (.aZ [dR v, .aF])) := by
  refine ⟨_, rfl, fun h => ?_, fun h => ?_⟩
  ·rw [← acF, h, Aa]
  ·rw [zW (anY had (by omega) h), acF]
 obtain ⟨v, hv, hv0, hv1⟩ := hall
 have hvb : NB 320 v := by rw [← hv]; exact aky had (by omega)
 have hib : IB 320 (if neg then -(v : Int) else v) := by
  cases neg
  ·exact IB.ofNat hvb
  ·exact (IB.ofNat hvb).neg
 have hten := alj (k := r.length) (by omega)
 have hnew := uw hib (an2 r.length) (by omega) (by omega) (akM _)
 have hs' : ¬ 60 < s.length := by omega
 have hsI : ¬ (60 : Int) < s.length := by omega
 have hr' : ¬ 20 < r.length := by omega
 have hwr : w.length + r.length ≤ 1099511627776 := by omega
 have hrI : ¬ (20 : Int) < r.length := by omega
 have hcond : (point = true → r ≠ [] ∧ r.length ≤ 20 ∧ r.all rH = true) := fun h => ⟨hg h, hr, hd⟩
 have hpp : CP neg w r point = if ¬ (neg = true ∧ v = 0) then some (Rat.divInt (if neg then -(v : Int) else v) ((10 ^ r.length : Nat) : Int), r.length) else none := by
  unfold CP
  rw [hv]
  by_cases hz : neg = true ∧ v = 0
  ·rw [if_neg (fun h => h.2.2 hz), if_neg (fun h => h hz)]
  ·rw [if_pos ⟨hn, hcond, hz⟩, if_pos hz]
 rw [hpp]
 refine aJ aec rfl (ad6 ..) ?_
 have hpt : point = true ∧ ¬ r = [] ∨ point = false := by
  cases hpp : point
  ·exact .inr rfl
  ·exact .inl ⟨rfl, hg hpp⟩
 generalize hten2 : ((10 ^ r.length : Nat) : Int) = ten at *
 generalize hst : strip (fun b => b == 48) (w ++ r) = st at *
 generalize jF 0 w = nw at *
 by_cases hst0 : st = []
 ·have hvz := hv0 hst0
  subst hst0
  subst hvz
  rcases hpt with ⟨hpt, hrn⟩ | hpt
  ·subst hpt
   cases neg with
   | false =>
     simp at hnew
     simp (disch := omega) [jR, h1, h2, hs', hsI, hwr, hr', hrI, hrn, hT, hG, hz, hL, hten, hnew, Fv]
   | true => simp (disch := omega) [jR, h1, h2, hs', hsI, hwr, hr', hrI, hrn, hT, hG, hz, hL, Fv, bT]
  ·subst hpt
   cases neg with
   | false =>
     simp at hnew
     simp (disch := omega) [jR, h1, h2, hs', hsI, hwr, hr', hrI, hT, hG, hz, hL, hten, hnew, Fv]
   | true => simp (disch := omega) [jR, h1, h2, hs', hsI, hwr, hr', hrI, hT, hG, hz, hL, Fv, bT]
 ·have hvn := hv1 hst0
  rcases hpt with ⟨hpt, hrn⟩ | hpt
  ·subst hpt
   cases neg with
   | false =>
     simp at hnew
     simp (disch := omega) [jR, h1, h2, hs', hsI, hwr, hr', hrI, hrn, hT, hG, hz, hL, hten, hnew, Fv, hst0, hvn]
   | true =>
     simp at hnew
     by_cases hvz : v = 0
     ·subst hvz
      simp (disch := omega) [jR, h1, h2, hs', hsI, hwr, hr', hrI, hrn, hT, hG, hz, hL, Fv, bT, hst0, hvn]
     ·simp (disch := omega) [jR, h1, h2, hs', hsI, hwr, hr', hrI, hrn, hT, hG, hz, hL, hten, hnew, Fv, hst0, hvn, hvz]
  ·subst hpt
   cases neg with
   | false =>
     simp at hnew
     simp (disch := omega) [jR, h1, h2, hs', hsI, hwr, hr', hrI, hT, hG, hz, hL, hten, hnew, Fv, hst0, hvn]
   | true =>
     simp at hnew
     by_cases hvz : v = 0
     ·subst hvz
      simp (disch := omega) [jR, h1, h2, hs', hsI, hwr, hr', hrI, hT, hG, hz, hL, Fv, bT, hst0, hvn]
     ·simp (disch := omega) [jR, h1, h2, hs', hsI, hwr, hr', hrI, hT, hG, hz, hL, hten, hnew, Fv, hst0, hvn, hvz]
set_option maxHeartbeats 1000000 in
theorem aju {s t w r : List UInt8} {neg point : Bool} (h1 : L.call strings_CutPrefix [.str s, .str [45]] = some (.aZ [.str t, .bool neg]))
  (h2 : L.call strings_Cut [.str t, .str [46]] = some (.aZ [.str w, .str r, .bool point])) (hs : s.length ≤ 1000000) (hw : w.length ≤ s.length) (hr : r.length ≤ s.length)
  (hb : 60 < s.length ∨ ¬ yL w ∨ (point = true ∧ (r = [] ∨ 20 < r.length ∨ ¬ r.all rH = true))) : L.call uX [.str s] = some (.aZ [.aK, .int .i64 0, wR 1]) := by
 obtain ⟨tr, htr, hT⟩ := YV (s := r) (by omega)
 have hG : ∃ a b, L.call mP [.str w] = some (.aZ [a, b]) ∧ ((b = .aF ∧ yL w) ∨ (b = wR 1 ∧ ¬ yL w)) := by
  by_cases h : yL w
  ·exact ⟨_, _, zW h, .inl ⟨rfl, h⟩⟩
  ·exact ⟨_, _, ZY h (by omega), .inr ⟨rfl, h⟩⟩
 obtain ⟨a, b, hG, hab⟩ := hG
 refine aJ aec rfl (ad6 ..) ?_
 by_cases h60 : 60 < s.length
 ·have h60' : (60 : Int) < s.length := by omega
  simp (disch := omega) [jR, h1, h2, h60, h60', hG, bT]
 have h60' : ¬ (60 : Int) < s.length := by omega
 by_cases hpt : point = true
 ·subst hpt
  by_cases hr0 : r = []
  ·subst hr0
   simp (disch := omega) [jR, h1, h2, h60, h60', hG, bT]
  by_cases hr2 : 20 < r.length
  ·have hr2' : (20 : Int) < r.length := by omega
   simp (disch := omega) [jR, h1, h2, h60, h60', hr0, hr2, hr2', hG, bT]
  have hr2' : ¬ (20 : Int) < r.length := by omega
  by_cases hrd : r.all rH = true
  ·have hnw : ¬ yL w := by
    rcases hb with h | h | ⟨_, h | h | h⟩
    ·exact absurd h h60
    ·exact h
    ·exact absurd h hr0
    ·exact absurd h hr2
    ·exact absurd hrd h
   rcases hab with ⟨_, h⟩ | ⟨rfl, _⟩
   ·exact absurd h hnw
   have := htr.2 hrd
   subst this
   simp (disch := omega) [jR, h1, h2, h60, h60', hr0, hr2, hr2', hT, hG, bT]
  ·have htn : ¬ tr = [] := fun h => hrd (htr.1 h)
   simp (disch := omega) [jR, h1, h2, h60, h60', hr0, hr2, hr2', hT, htn, hG, bT]
 ·have hpf : point = false := by simpa using hpt
  subst hpf
  have hnw : ¬ yL w := by
   rcases hb with h | h | ⟨h, _⟩
   ·exact absurd h h60
   ·exact h
   ·simp at h
  rcases hab with ⟨_, h⟩ | ⟨rfl, _⟩
  ·exact absurd h hnw
  simp (disch := omega) [jR, h1, h2, h60, h60', hG, bT]
theorem Vy {s : List UInt8} (hs : s.length ≤ 1000000) : L.call uX [.str s] = some (Fv (wJ s)) := by
 have h1 := ama s
 have hl := ae8 s
 have h2 := amb (s := (qW s).2) (by omega) 46
 have hbl := ahm 46 (qW s).2
 have hf := @Oc 46 (qW s).2
 unfold wJ
 generalize (qW s).2 = t at *
 generalize (qW s).1 = neg at *
 generalize (lV 46 t).1 = w at *
 generalize (lV 46 t).2.1 = r at *
 generalize (lV 46 t).2.2 = point at *
 by_cases hb : 60 < s.length ∨ ¬ yL w ∨ (point = true ∧ (r = [] ∨ 20 < r.length ∨ ¬ r.all rH = true))
 ·rw [aju h1 h2 hs (by omega) (by omega) hb]
  by_cases h60 : s.length ≤ 60
  ·have : CP neg w r point = none := by
    unfold CP
    rw [if_neg]
    rintro ⟨q1, q2, q3⟩
    rcases hb with h | h | ⟨h3, h⟩
    ·omega
    ·exact h q1
    ·obtain ⟨a1, a2, a3⟩ := q2 h3
     rcases h with h | h | h
     ·exact a1 h
     ·omega
     ·exact h a3
   rw [if_pos h60, this]; rfl
  ·rw [if_neg h60]; rfl
 ·have g1 : ¬ 60 < s.length := fun h => hb (.inl h)
  have g2 : yL w := Classical.not_not.1 fun h => hb (.inr (.inl h))
  have g3 : point = true → r ≠ [] := fun h h' => hb (.inr (.inr ⟨h, .inl h'⟩))
  have g4 : point = true → r.length ≤ 20 := fun h => Nat.le_of_not_lt fun h' => hb (.inr (.inr ⟨h, .inr (.inl h')⟩))
  have g5 : point = true → r.all rH = true := fun h => Classical.not_not.1 fun h' => hb (.inr (.inr ⟨h, .inr (.inr h')⟩))
  have g6 : point = false → r = [] := fun h => (hf h).2
  rw [if_pos (by omega)]
  cases point with
  | true => exact XW h1 h2 (by omega) (by omega) (g4 rfl) g6 (g5 rfl) g2 g3
  | false =>
    have := g6 rfl
    exact XW h1 h2 (by omega) (by omega) (by rw [this]; simp) g6 (by rw [this]; rfl) g2 g3
end Go.Ev.Code
end
