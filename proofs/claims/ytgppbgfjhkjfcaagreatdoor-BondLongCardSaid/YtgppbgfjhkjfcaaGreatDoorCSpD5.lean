/- A part of the proof of planLone_card, bondLong_card. -/
import Derived.Test.YtgppbgfjhkjfcaaGreatDoorCSpD3
import Derived.Test.YtgppbgfjhkjfcaaGreatDoorCSpD2
set_option linter.unusedVariables false
set_option linter.unusedSimpArgs false
namespace Go.Ev.Code
open Go Go.Ev
theorem XR {a b : Int} (ha : bF a) (hb : bF b) : L.call gG [.int .i64 a, .int .i64 b] = some (.int .i64 (m_ a b)) := by
 have i1 := wG a
 have i2 := wG b
 rw [decide_eq_true ha] at i1
 rw [decide_eq_true hb] at i2
 obtain ⟨y, m, d, hc, hd, ho⟩ := dU ha
 obtain ⟨y', m', d', hc', hd', ho'⟩ := dU hb
 have c1 := Bg hc
 have c2 := Bg hc'
 rw [← hd] at c1
 rw [← hd'] at c2
 unfold jT at c1 c2
 unfold m_
 rw [ho, ho']
 simp only
 have a1 := hc.y1; have a2 := hc.y2; have a3 := hc.m1; have a4 := hc.m2
 have b1 := hc'.y1; have b2 := hc'.y2; have b3 := hc'.m1; have b4 := hc'.m2
 have e1 : IntKind.i64.wrap ((y' : Int) - y) = (y' : Int) - y := wrap64 _ (by omega)
 have e2 : IntKind.i64.wrap (12 * ((y' : Int) - y)) = 12 * ((y' : Int) - y) := wrap64 _ (by omega)
 have e3 : IntKind.i64.wrap (12 * ((y' : Int) - y) + m') = 12 * ((y' : Int) - y) + m' := wrap64 _ (by omega)
 have e4 : IntKind.i64.wrap (12 * ((y' : Int) - y) + m' - m) = 12 * ((y' : Int) - y) + m' - m := wrap64 _ (by omega)
 have e5 : 12 * ((y' : Int) - y) + m' - m = ((y' * 12 + m' : Nat) : Int) - ((y * 12 + m : Nat) : Int) := by omega
 rw [← e5]
 refine aO NP rfl (NK ..) ?_
 simp [CX, i1, i2, c1, c2, e1, e2, e3, e4]
theorem XQ (b : aV) : L.call gB [bQ b] = some (.int .i64 (months b)) := by
 obtain ⟨i, m, f, c, r, n, s, e, x⟩ := b
 unfold months bQ aW
 refine aO NM rfl (NJ ..) ?_
 simp only
 by_cases h1 : f = 1
 ·subst h1; simp [jl, wrap64]
 by_cases h2 : f = 2
 ·subst h2; simp [jl, wrap64]
 by_cases h4 : f = 4
 ·subst h4; simp [jl, wrap64]
 by_cases h12 : f = 12
 ·subst h12; simp [jl, wrap64]
 ·simp [jl, h1, h2, h4, h12]
def mg : Err → D
 | none => .aS [.int .i64 0, .str []]
 | some (c, s) => .aS [.int .i64 c, .str s]
theorem Wq {b : aV} (hs : Bv b = none) {n1 n2 : Bool} {l1 l2 l3 l4 : Nat} {c1 c2 c3 c4 : List D}
  (w1 : L.call dJ [.str b.je, .int .i64 0, .int .i64 30, .bool true] = some (.aS [.agg [.bool n1, .sl l1 c1, .sl l2 c2], .int .i64 0]))
  (w2 : L.call dJ [.str b.jg, .int .i64 0, .int .i64 200, .bool false] = some (.aS [.agg [.bool n2, .sl l3 c3, .sl l4 c4], .int .i64 0])) :
  L.call jr [bQ b] = some (mg (chk b)) := by
 have i1 := wG b.issue
 have i2 := wG b.dD
 have ha := Hq b.issue 360 false
 have hm := XQ b
 have hbt : bF b.issue → bF b.dD → L.call gG [.int .i64 b.issue, .int .i64 b.dD] = some (.int .i64 (m_ b.issue b.dD)) := XR
 have hmc := lG b
 have hbb := @afL b.issue b.dD
 unfold chk xM SI
 rw [hs]
 generalize sG b.issue 360 false = ad at *
 generalize months b = mo at *
 obtain ⟨i, m, f, c, r, n, s, e, x⟩ := b
 unfold bQ aW at *
 simp only at *
 refine aO OJ rfl (OE ..) ?_
 by_cases d1 : bF i
 ·rw [if_neg (fun h => h d1)]
  rw [decide_eq_true d1] at i1
  by_cases d2 : bF m
  ·rw [if_neg (fun h => h d2)]
   rw [decide_eq_true d2] at i2
   by_cases d3 : m ≤ i
   ·rw [if_pos d3]
    cases ad with
    | none => simp [okD] at ha; simp [aU, i1, i2, ha, d3, mg, oP]
    | some a => simp [okD] at ha; simp [aU, i1, i2, ha, d3, mg, oP]
   ·rw [if_neg d3]
    have hbt := hbt d1 d2
    have hbb := hbb d1 d2
    have rest : ∀ (a : Int) (ok : Bool), L.call bY [.int .i64 i, .int .i64 360, .bool false] = some (.aS [.int .i64 a, .bool ok]) → ¬ (ok = true ∧ a < m) →
      bd (aU L (.agg [.int .i64 i, .int .i64 m, .int .i64 f, .str c, .str r, .int .i64 n, .int .i64 s, .bool e, .int .i64 x]) []) fin = some (mg (if mo = 0 then some (5, Ya) else if ¬ (1 ≤ n ∧ n ≤ 4) then some (5, J3) else if s < 0 ∨ 2 < s then some (5, zq) else if x < 0 ∨ 30 < x then some (5, tEx)
       else if 200 < (m_ i m).tdiv mo + 2 then some (5, GH) else none)) := by
     intro a ok ha hno
     have hcase : ok = false ∨ (ok = true ∧ ¬ a < m) := by
      cases ok with
      | false => exact .inl rfl
      | true => exact .inr ⟨rfl, fun h => hno ⟨rfl, h⟩⟩
     by_cases h0 : mo = 0
     ·rw [if_pos h0]
      rcases hcase with rfl | ⟨rfl, hlt⟩
      ·simp [aU, i1, i2, ha, d3, hm, h0, mg, Ya]
      ·simp [aU, i1, i2, ha, d3, hlt, hm, h0, mg, Ya]
     rw [if_neg h0]
     have hq := agf hbb (show mo = 1 ∨ mo = 3 ∨ mo = 6 ∨ mo = 12 by omega)
     by_cases h1 : n < 1
     ·rw [if_pos (by omega)]
      rcases hcase with rfl | ⟨rfl, hlt⟩
      ·simp [aU, i1, i2, ha, d3, hm, h0, w1, w2, h1, mg, J3]
      ·simp [aU, i1, i2, ha, d3, hlt, hm, h0, w1, w2, h1, mg, J3]
     by_cases h1' : 4 < n
     ·rw [if_pos (by omega)]
      rcases hcase with rfl | ⟨rfl, hlt⟩
      ·simp [aU, i1, i2, ha, d3, hm, h0, w1, w2, h1, h1', mg, J3]
      ·simp [aU, i1, i2, ha, d3, hlt, hm, h0, w1, w2, h1, h1', mg, J3]
     rw [if_neg (by omega)]
     by_cases h2 : s < 0
     ·rw [if_pos (.inl h2)]
      rcases hcase with rfl | ⟨rfl, hlt⟩
      ·simp [aU, i1, i2, ha, d3, hm, h0, w1, w2, h1, h1', h2, mg, zq]
      ·simp [aU, i1, i2, ha, d3, hlt, hm, h0, w1, w2, h1, h1', h2, mg, zq]
     by_cases h2' : 2 < s
     ·rw [if_pos (.inr h2')]
      rcases hcase with rfl | ⟨rfl, hlt⟩
      ·simp [aU, i1, i2, ha, d3, hm, h0, w1, w2, h1, h1', h2, h2', mg, zq]
      ·simp [aU, i1, i2, ha, d3, hlt, hm, h0, w1, w2, h1, h1', h2, h2', mg, zq]
     rw [if_neg (by omega)]
     by_cases h3 : x < 0
     ·rw [if_pos (.inl h3)]
      rcases hcase with rfl | ⟨rfl, hlt⟩
      ·simp [aU, i1, i2, ha, d3, hm, h0, w1, w2, h1, h1', h2, h2', h3, mg, tEx]
      ·simp [aU, i1, i2, ha, d3, hlt, hm, h0, w1, w2, h1, h1', h2, h2', h3, mg, tEx]
     by_cases h3' : 30 < x
     ·rw [if_pos (.inr h3')]
      rcases hcase with rfl | ⟨rfl, hlt⟩
      ·simp [aU, i1, i2, ha, d3, hm, h0, w1, w2, h1, h1', h2, h2', h3, h3', mg, tEx]
      ·simp [aU, i1, i2, ha, d3, hlt, hm, h0, w1, w2, h1, h1', h2, h2', h3, h3', mg, tEx]
     rw [if_neg (by omega)]
     have e1 : IntKind.i64.wrap ((m_ i m).tdiv mo) = (m_ i m).tdiv mo := wrap64 _ (by omega)
     have e2 : IntKind.i64.wrap ((m_ i m).tdiv mo + 2) = (m_ i m).tdiv mo + 2 := wrap64 _ (by omega)
     obtain ⟨t, ht⟩ : ∃ t, (m_ i m).tdiv mo = t := ⟨_, rfl⟩
     rw [ht] at e1 e2 hq ⊢
     obtain ⟨pp, hpp⟩ : ∃ pp, t + 2 = pp := ⟨_, rfl⟩
     have e2 : IntKind.i64.wrap (t + 2) = pp := by rw [e2, hpp]
     rw [hpp]
     by_cases h4 : 200 < pp
     ·rw [if_pos h4]
      rcases hcase with rfl | ⟨rfl, hlt⟩
      ·simp [aU, i1, i2, ha, d3, hm, h0, w1, w2, h1, h1', h2, h2', h3, h3', hbt, ht, e1, e2, h4, mg, GH]
      ·simp [aU, i1, i2, ha, d3, hlt, hm, h0, w1, w2, h1, h1', h2, h2', h3, h3', hbt, ht, e1, e2, h4, mg, GH]
     ·rw [if_neg h4]
      rcases hcase with rfl | ⟨rfl, hlt⟩
      ·simp [aU, i1, i2, ha, d3, hm, h0, w1, w2, h1, h1', h2, h2', h3, h3', hbt, ht, e1, e2, h4, mg]
      ·simp [aU, i1, i2, ha, d3, hlt, hm, h0, w1, w2, h1, h1', h2, h2', h3, h3', hbt, ht, e1, e2, h4, mg]
    cases ad with
    | none => exact rest 0 false ha (by simp)
    | some a =>
      by_cases d4 : (a : Int) < m
      ·simp only [if_pos d4]
       simp [okD] at ha
       simp [aU, i1, i2, ha, d3, d4, mg, oP]
      ·simp only [if_neg d4]
       exact rest a true ha (by simpa using d4)
  ·rw [if_pos d2]
   rw [decide_eq_false d2] at i2
   simp [aU, i1, i2, mg, oP]
 ·rw [if_pos d1]
  rw [decide_eq_false d1] at i1
  simp [aU, i1, mg, aed]
structure Long (b : aV) (A : Nat) (k : Int) : Prop where
 i1 : 0 ≤ b.issue
 i2 : b.issue ≤ 97572
 fr : IV b.dW
 cp : b.je = [53]
 rd : b.jg = [49, 48, 48]
 ct : b.count = 4
 st : b.stub = 1
 ex : b.ex = 0
 hA : sG b.issue 360 false = some A
 k1 : -2 ≤ k
 k2 : k ≤ 2
 mt : b.dD = A + k
theorem adB : mi 97572 ≤ 26010 := by decide +kernel
theorem aiT : 26370 < mi 109400 := by decide +kernel
theorem Long.LV {b : aV} {A : Nat} {k : Int} (h : Long b A k) : bF b.issue := ⟨h.i1, by have := h.i2; omega⟩
theorem Long.mi1 {b : aV} {A : Nat} {k : Int} (h : Long b A k) : mi b.issue ≤ 26010 := by
 have h1 := Ua h.LV (b := 97572) (by decide) h.i2
 have := adB
 omega
theorem Long.miA {b : aV} {A : Nat} {k : Int} (h : Long b A k) : (mi A : Int) = mi b.issue + 360 ∧ bF A := ⟨NU h.hA, Ji h.hA⟩
theorem Long.day {b : aV} {A : Nat} {k : Int} (h : Long b A k) : bF b.dD ∧ b.issue < b.dD := by
 obtain ⟨h1, h2⟩ := h.miA
 have h3 := h.mi1
 have h4 := aiT
 have h5 := acS h2 (b := 109400) (by decide) (by omega)
 have h6 := afP h.LV h2 (by omega)
 have := h.k1; have := h.k2; have := h.mt; have := h.i1
 exact ⟨⟨by omega, by omega⟩, by omega⟩
theorem Long.sums {b : aV} {A : Nat} {k : Int} (h : Long b A k) : Bv b = none := by
 unfold Bv
 rw [h.cp, h.rd]
 decide +kernel
theorem Long.over {b : aV} {A : Nat} {k : Int} (h : Long b A k) (hk : 0 < k) : chk b = some (5, oP) := by
 have hd : xM b = some (5, oP) := by
  obtain ⟨h1, h2⟩ := h.day
  unfold xM
  rw [if_neg (by have := h.LV; simpa using this), if_neg (by simpa using h1), if_neg (by omega), h.hA]
  simp only
  rw [if_pos (by have := h.mt; omega)]
 unfold chk
 rw [hd]
theorem Long.within {b : aV} {A : Nat} {k : Int} (h : Long b A k) (hk : k ≤ 0) : chk b = if b.dW = 12 then some (5, GH) else none := by
 obtain ⟨h1, h2⟩ := h.day
 obtain ⟨a1, a2⟩ := h.miA
 have hd : xM b = none := by
  unfold xM
  rw [if_neg (by have := h.LV; simpa using this), if_neg (by simpa using h1), if_neg (by omega), h.hA]
  simp only
  rw [if_neg (by have := h.mt; omega)]
 have hm1 := Ua h1 a2 (by have := h.mt; omega)
 have hm2 : mi A ≤ mi b.dD + 1 := by
  rcases Nat.lt_or_ge (mi b.dD + 1) (mi A) with h3 | h3
  ·have := afP h1 a2 (by omega)
   have := h.mt; have := h.k1
   omega
  ·exact h3
 unfold chk SI
 rw [hd, h.sums, afM]
 simp only
 have hmo : months b ≠ 0 ∧ (b.dW = 12 → months b = 1) ∧ (b.dW ≠ 12 → 3 ≤ months b) := by
  unfold months
  rcases h.fr with h3 | h3 | h3 | h3 <;> rw [h3] <;> decide
 rw [if_neg hmo.1, if_neg (by have := h.ct; omega), if_neg (by have := h.st; omega), if_neg (by have := h.ex; omega)]
 rw [Int.tdiv_eq_ediv_of_nonneg (by omega)]
 have hmc := lG b
 by_cases hf : b.dW = 12
 ·rw [if_pos hf, hmo.2.1 hf, if_pos (by omega)]
 ·rw [if_neg hf]
  have := hmo.2.2 hf
  rw [if_neg]
  rcases hmc with h3 | h3 | h3 | h3 | h3 <;> rw [h3] at this ⊢ <;> omega
end Go.Ev.Code
