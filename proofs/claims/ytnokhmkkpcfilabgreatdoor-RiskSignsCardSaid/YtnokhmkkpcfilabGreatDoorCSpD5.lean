/- A part of the proof of priceFalls_card, riskSigns_card, yieldBack_card, yieldEdge_card, yieldFalls_card. -/
import Derived.Test.YtnokhmkkpcfilabGreatDoorCSpC
import Derived.Test.YtnokhmkkpcfilabGreatDoorCSpD1
set_option linter.unusedVariables false
set_option linter.unusedSimpArgs false
section
namespace Go.Ev.Code
open Go Go.Ev
def ahq : List D → Option (List Nat)
 | [] => some []
 | .int .u64 x :: ds => if 0 ≤ x ∧ x < 18446744073709551616 then (ahq ds).bind fun l => some (x.toNat :: l) else none
 | _ => none
theorem aki : ∀ {cs : List D} {l : List Nat}, ahq cs = some l → cs = l.map aT ∧ Small l
 | [], l, h => by simp [ahq] at h; subst h; exact ⟨rfl, fun x hx => by simp at hx⟩
 | d :: ds, l, h => by
   unfold ahq at h
   split at h <;> try (simp at h; done)
   ·rename_i heq; simp at heq
   ·rename_i x ds' heq
    simp at heq
    obtain ⟨rfl, rfl⟩ := heq
    split at h <;> try (simp at h; done)
    rename_i hx
    rw [Option.bind_eq_some_iff] at h
    obtain ⟨l', hl', h⟩ := h
    simp at h
    subst h
    obtain ⟨q1, q2⟩ := aki hl'
    have hx' : (x.toNat : Int) = x := by omega
    refine ⟨by simp [q1, hx'], fun y hy => ?_⟩
    simp at hy
    rcases hy with rfl | hy
    ·unfold W; omega
    ·exact q2 y hy
def abV : List Nat → Bool
 | [] => true
 | [x] => !(Nat.beq x 0)
 | _ :: y :: ys => abV (y :: ys)
theorem aeI : ∀ {l : List Nat}, abV l = true → ∀ h : l ≠ [], l.getLast h ≠ 0
 | [], _, h => absurd rfl h
 | [x], h, _ => by
   simp only [abV, Bool.not_eq_true'] at h
   intro hx
   simp at hx
   subst hx
   simp at h
 | x :: y :: ys, h, hne => by
   rw [List.getLast_cons (by simp)]
   exact aeI (l := y :: ys) h _
def yw : D → Option Nat
 | .ref [.sl k cs] 0 => (ahq cs).bind fun l => if k = l.length ∧ l.length ≤ 1000 ∧ abV l = true then some (val l) else none
 | _ => none
theorem IE {d : D} {n : Nat} (h : yw d = some n) : d = dR n ∧ NB 64000 n := by
 unfold yw at h
 split at h <;> try (simp at h; done)
 rename_i k cs
 rw [Option.bind_eq_some_iff] at h
 obtain ⟨l, hl, h⟩ := h
 split at h <;> try (simp at h; done)
 rename_i hc
 simp at h
 subst h
 obtain ⟨q1, q2⟩ := aki hl
 have hcan : Canon l := ⟨q2, aeI hc.2.2⟩
 refine ⟨?_, ?_⟩
 ·show D.ref [.sl k cs] 0 = .ref (JI (val l)) 0
  unfold JI
  rw [Yf hcan, q1, hc.1]
 ·have : NB (64 * l.length) (val l) := by
   unfold NB
   have := Nj q2
   rw [qH, ← Nat.pow_mul] at this
   exact this
  exact this.mono (by omega)
def vH : D → Option Int
 | .ref [.bool b, dn] 0 => (yw dn).bind fun n => if b then (if n = 0 then none else some (-(n : Int))) else some (n : Int)
 | _ => none
theorem IC {d : D} {z : Int} (h : vH d = some z) : d = intD z ∧ IB 64000 z := by
 unfold vH at h
 split at h <;> try (simp at h; done)
 rename_i b dn
 rw [Option.bind_eq_some_iff] at h
 obtain ⟨n, hn, h⟩ := h
 obtain ⟨q1, q2⟩ := IE hn
 subst q1
 split at h
 ·rename_i hb
  split at h <;> try (simp at h; done)
  rename_i hn0
  simp at h
  subst h
  subst hb
  refine ⟨?_, (IB.ofNat q2).neg⟩
  show D.ref _ 0 = .ref (P9 _) 0
  unfold P9
  have h1 : -(n : Int) < 0 := by omega
  have h2 : (-(n : Int)).natAbs = n := by omega
  rw [h2, decide_eq_true h1]
 ·rename_i hb
  simp at h hb
  subst h
  subst hb
  refine ⟨?_, IB.ofNat q2⟩
  show D.ref _ 0 = .ref (P9 _) 0
  unfold P9
  have h1 : ¬ (n : Int) < 0 := by omega
  have h2 : ((n : Int)).natAbs = n := by omega
  rw [h2, decide_eq_false h1]
def zL : D → Option Rat
 | .ref [dn, dd] 0 => (vH dn).bind fun z => (vH dd).bind fun e => if h : 0 < e ∧ Nat.gcd z.natAbs e.natAbs = 1 then some ⟨z, e.natAbs, by omega, h.2⟩ else none
 | _ => none
theorem OT {d : D} {q : Rat} (h : zL d = some q) : d = bF q ∧ RB 64000 q := by
 unfold zL at h
 split at h <;> try (simp at h; done)
 rename_i dn dd
 simp only [Option.bind_eq_some_iff] at h
 obtain ⟨z, hz, e, he, h⟩ := h
 obtain ⟨q1, q2⟩ := IC hz
 obtain ⟨q3, q4⟩ := IC he
 split at h <;> try (simp at h; done)
 rename_i hc
 simp at h
 subst h
 refine ⟨?_, q2, q4⟩
 show D.ref _ 0 = .ref (adP _) 0
 unfold adP
 have : ((e.natAbs : Nat) : Int) = e := by omega
 rw [q1, q3]
 simp only [this]
def Good (g : Nat) (p : List D → Option D) : Prop := ∀ args d, p args = some d → L.call g args = some d
def a1 {α : Type} (dec : D → Option α) (f : α → Option D) : List D → Option D
 | [x] => (dec x).bind f
 | _ => none
def a2 {α β : Type} (dec : D → Option α) (dec' : D → Option β) (f : α → β → Option D) : List D → Option D
 | [x, y] => (dec x).bind fun a => (dec' y).bind fun b => f a b
 | _ => none
theorem Lp {α : Type} {dec : D → Option α} {f : α → Option D} {g : Nat} (h : ∀ x a d, dec x = some a → f a = some d → L.call g [x] = some d) : Good g (a1 dec f) := by
 intro args d hd
 unfold a1 at hd
 split at hd <;> try (simp at hd; done)
 rw [Option.bind_eq_some_iff] at hd
 obtain ⟨a, ha, hd⟩ := hd
 exact h _ a d ha hd
theorem QY {α β : Type} {dec : D → Option α} {dec' : D → Option β} {f : α → β → Option D} {g : Nat} (h : ∀ x y a b d, dec x = some a → dec' y = some b → f a b = some d → L.call g [x, y] = some d) : Good g (a2 dec dec' f) := by
 intro args d hd
 unfold a2 at hd
 split at hd <;> try (simp at hd; done)
 simp only [Option.bind_eq_some_iff] at hd
 obtain ⟨a, ha, b, hb, hd⟩ := hd
 exact h _ _ a b d ha hb hd
theorem Za {f : Nat → Nat → Option D} {g : Nat} (h : ∀ a b d, NB 64000 a → NB 64000 b → f a b = some d → L.call g [dR a, dR b] = some d) : Good g (a2 yw yw f) :=
 QY fun x y a b d hx hy hf => by rw [(IE hx).1, (IE hy).1]; exact h a b d (IE hx).2 (IE hy).2 hf
theorem aqd {f : Nat → Option D} {g : Nat} (h : ∀ a d, NB 64000 a → f a = some d → L.call g [dR a] = some d) : Good g (a1 yw f) :=
 Lp fun x a d hx hf => by rw [(IE hx).1]; exact h a d (IE hx).2 hf
theorem Y8 {f : Int → Int → Option D} {g : Nat} (h : ∀ a b d, IB 64000 a → IB 64000 b → f a b = some d → L.call g [intD a, intD b] = some d) : Good g (a2 vH vH f) :=
 QY fun x y a b d hx hy hf => by rw [(IC hx).1, (IC hy).1]; exact h a b d (IC hx).2 (IC hy).2 hf
theorem agC {f : Int → Option D} {g : Nat} (h : ∀ a d, IB 64000 a → f a = some d → L.call g [intD a] = some d) : Good g (a1 vH f) :=
 Lp fun x a d hx hf => by rw [(IC hx).1]; exact h a d (IC hx).2 hf
theorem acf {f : Rat → Rat → Option D} {g : Nat} (h : ∀ a b d, RB 64000 a → RB 64000 b → f a b = some d → L.call g [bF a, bF b] = some d) : Good g (a2 zL zL f) :=
 QY fun x y a b d hx hy hf => by rw [(OT hx).1, (OT hy).1]; exact h a b d (OT hx).2 (OT hy).2 hf
theorem agH {f : Rat → Option D} {g : Nat} (h : ∀ a d, RB 64000 a → f a = some d → L.call g [bF a] = some d) : Good g (a1 zL f) :=
 Lp fun x a d hx hf => by rw [(OT hx).1]; exact h a d (OT hx).2 hf
def alh : D → Option (List UInt8)
 | .str s => if s.length ≤ 1000 then some s else none
 | _ => none
theorem akj {d : D} {s : List UInt8} (h : alh d = some s) : d = .str s ∧ s.length ≤ 1000 := by
 unfold alh at h
 split at h <;> try (simp at h; done)
 split at h <;> try (simp at h; done)
 simp at h
 subst h
 exact ⟨rfl, by assumption⟩
def aoY : D → Option Bool
 | .bool b => some b
 | _ => none
theorem aqZ {d : D} {b : Bool} (h : aoY d = some b) : d = .bool b := by
 unfold aoY at h
 split at h <;> simp at h
 rw [h]
def LC : D → Option Int
 | .int .i64 n => if -9223372036854775808 ≤ n ∧ n ≤ 9223372036854775807 then some n else none
 | _ => none
theorem vG {d : D} {n : Int} (h : LC d = some n) : d = .int .i64 n ∧ (-9223372036854775808 ≤ n ∧ n ≤ 9223372036854775807) := by
 unfold LC at h
 split at h <;> try (simp at h; done)
 split at h <;> try (simp at h; done)
 simp at h
 subst h
 exact ⟨rfl, by assumption⟩
def aoZ : D → Option Nat
 | .int .u64 n => if 0 ≤ n ∧ n < 18446744073709551616 then some n.toNat else none
 | _ => none
theorem akk {d : D} {n : Nat} (h : aoZ d = some n) : d = aT n ∧ n < W := by
 unfold aoZ at h
 split at h <;> try (simp at h; done)
 split at h <;> try (simp at h; done)
 rename_i z hz
 simp at h
 subst h
 refine ⟨?_, by unfold W; omega⟩
 show D.int _ _ = .int _ _
 congr 1; omega
end Go.Ev.Code
end
section
namespace Go.Ev.Code
open Go Go.Ev
theorem apr {n f : Nat} {args : List D} {d : D} (h : (TT.mY n).call f args = some d) : L.call f args = some d := by
 rw [Qk] at h
 obtain ⟨⟨r, m⟩, hr⟩ := FU h
 rw [hr] at h
 exact xw (IQ.2 ⟨n, hr⟩) h
def acs : D := .agg [.int .i64 1, .int .i64 1, .int .i64 1, .int .i64 0, .int .i64 0, .bool false]
theorem alD : L.call H7 [acs] = some (.bool true) := apr (n := 30) (by kernel_rfl)
theorem an_ {n a b : Int} (h1 : a ≤ n) (h2 : n ≤ b) : L.call lG [.int .i64 n, .int .i64 a, .int .i64 b] = some (.bool true) := by
 refine aJ afR rfl (afo ..) ?_
 simp [WS, h1, h2]
theorem alC {y : Nat} (h1 : 1900 ≤ y) (h2 : y ≤ 2199) : L.call CQ [acs, .int .i64 y] = some (.aZ [.int .i64 (fO y), .bool true]) := by
 have hm := alD
 have hd := abE (y := y) (m := 1) (d := 1) h1 h2 (by decide) (by decide) (by decide) (by simp [f_])
 have e : dayOf y 1 1 = fO y := by simp [dayOf, fJ]
 rw [e] at hd
 have hb := abu (y := y) (by omega)
 have hb' : fO y ≤ 109572 := by unfold fO; omega
 have hw := an_ (n := fO y) (a := 0) (b := 109572) (by omega) (by omega)
 unfold zI at hd
 unfold acs at hm ⊢
 generalize fO y = b at *
 refine aJ ak5 rfl (akY ..) ?_
 simp [acw, hm, hd, hw] at *
def Fz : Nat → List Int
 | 0 => []
 | k + 1 => ((fO (1900 + k) : Nat) : Int) :: Fz k
theorem asy {y : Nat} (h1 : 1900 ≤ y) (h2 : y ≤ 2199) : fO y < fO (y + 1) := by unfold fO; omega
theorem aku : ∀ {k : Nat}, k ≤ 300 → ∀ z ∈ Fz k, z < (fO (1900 + k) : Nat)
 | 0, _, z, hz => by simp [Fz] at hz
 | k + 1, hk, z, hz => by
   have := asy (y := 1900 + k) (by omega) (by omega)
   simp only [Fz, List.mem_cons] at hz
   rcases hz with rfl | hz
   ·have e : 1900 + k + 1 = 1900 + (k + 1) := by omega
    rw [e] at this; omega
   ·have h := aku (k := k) (by omega) z hz
    have e : 1900 + k + 1 = 1900 + (k + 1) := by omega
    rw [e] at this; omega
theorem ank {k : Nat} (hk : k < 300) : X_ (Fz k) ((fO (1900 + k) : Nat) : Int) = Fz (k + 1) := by
 have : (Fz k).contains ((fO (1900 + k) : Nat) : Int) = false := by
  rw [← Bool.not_eq_true, List.contains_iff_mem]
  intro h
  have := aku (k := k) (by omega) _ h
  omega
 unfold X_
 rw [this]
 rfl
def KR : D := .sl 1 [.int .i64 1, .int .i64 1, .int .i64 1, .int .i64 0, .int .i64 0, .bool false]
theorem apl (j : Nat) : ∀ k, k + j = 300 →
  L.loop [6, 10, 11, 47, 48, 49] [6, 47, 48, 49] zH 3 [.loc 1 0, .loc 2 0, .int .i64 ((1900 + k : Nat) : Int), KR, .int .i64 1, .int .i64 0] [.mp (Fz k), .live [.lmap 0], .live [.int .i64 1, .int .i64 1, .int .i64 1, .int .i64 0, .int .i64 0, .bool false]] =
    some (.exit 5, [.loc 1 0, KR, .int .i64 1, .int .i64 0], [.mp (Fz 300), .live [.lmap 0], .live [.int .i64 1, .int .i64 1, .int .i64 1, .int .i64 0, .int .i64 0, .bool false]]) := by
 induction j with
 | zero =>
   intro k hk
   have : k = 300 := by omega
   subst this
   refine aQ (Xw ..) ?_
   simp [Qy, KR]
 | succ j ih =>
   intro k hk
   have hd := alC (y := 1900 + k) (by omega) (by omega)
   have hn := ih (k + 1) (by omega)
   have hi := ank (k := k) (by omega)
   have h1 : ((1900 + k : Nat) : Int) ≤ 2199 := by omega
   have h2 : IntKind.i64.wrap (((1900 + k : Nat) : Int) + 1) = ((1900 + (k + 1) : Nat) : Int) := by rw [wrap64 _ (by omega)]; omega
   generalize 1900 + (k + 1) = y' at *
   generalize 1900 + k = y at *
   generalize fO y = b at *
   generalize Fz (k + 1) = js at *
   generalize Fz k = jk at *
   generalize Fz 300 = jz at *
   unfold acs at hd
   refine aQ (Xw ..) ?_
   unfold KR at *
   simp [Qy, OG, h1, h2, hd, hi, hn]
theorem ahl : L.call iD [KR, .func Iw []] = some (.bool false) := apr (n := 40) (by kernel_rfl)
theorem agh : L.call jS [.sl 0 [], .func Iy []] = some (.bool false) := apr (n := 40) (by kernel_rfl)
theorem amK : L.call Dz [KR, .sl 0 []] = some (.aZ [.ref [.qY (Fz 300)] 0, .aF]) := by
 have h1 := ahl
 have h2 := agh
 have h3 := apl 300 0 (by omega)
 refine aJ amq rfl (amg ..) ?_
 generalize Fz 300 = jz at *
 unfold KR at *
 simp [Fz] at h3
 have l1 : L.loop [0, 6, 35, 36, 37] [0, 6] zG 2 [.sl 1 [.int .i64 1, .int .i64 1, .int .i64 1, .int .i64 0, .int .i64 0, .bool false], .loc 1 0, .sl 0 [], .int .i64 0, .int .i64 0] [.mp [], .live [.lmap 0]] = some (.exit 1, [.sl 1 [.int .i64 1, .int .i64 1, .int .i64 1, .int .i64 0, .int .i64 0, .bool false], .loc 1 0], [.mp [], .live [.lmap 0]]) := by
  refine aQ (agT ..) ?_
  simp [YF]
 have l3 : L.loop [6, 47, 48, 49] [6] xu 2 [.loc 1 0, .sl 1 [.int .i64 1, .int .i64 1, .int .i64 1, .int .i64 0, .int .i64 0, .bool false], .int .i64 1, .int .i64 1] [.mp jz, .live [.lmap 0]] = some (.exit 3, [.loc 1 0], [.mp jz, .live [.lmap 0]]) := by
  refine aQ (Xx ..) ?_
  simp [QA]
 have l2 : L.loop [6, 47, 48, 49] [6] xu 2 [.loc 1 0, .sl 1 [.int .i64 1, .int .i64 1, .int .i64 1, .int .i64 0, .int .i64 0, .bool false], .int .i64 1, .int .i64 0] [.mp [], .live [.lmap 0]] = some (.exit 3, [.loc 1 0], [.mp jz, .live [.lmap 0]]) := by
  refine aQ (Xx ..) ?_
  have e1 : IntKind.i64.wrap 1 = 1 := by decide
  simp [QA, h3, e1, l3]
 simp [ae1, h1, h2, Wh, l1, l2]
end Go.Ev.Code
end
section
namespace Go.Ev.Code
open Go Go.Ev
theorem ft {n : Nat} (h : NB 64000 n) : Fit n := h.fit (by decide)
theorem wr {n : Nat} (h : NB 64000 n) : Wri n := h.wri (by decide) (by decide)
def abp : List D → Option D := a1 aoZ fun n => some (dR n)
theorem ajK : Good jc abp := Lp fun x n d hx hf => by
   rw [(akk hx).1, ← Option.some.inj hf]; exact uK n (akk hx).2
def PE : List D → Option D := a1 yw fun n => some (.bool (Nat.beq n 0))
theorem Zo : Good fK PE := aqd fun a d ha hf => by
   rw [← Option.some.inj hf, TR]
   congr 2
   by_cases h : a = 0
   ·subst h; rfl
   ·rw [decide_eq_false h]
    cases hb : Nat.beq a 0 with
    | false => rfl
    | true => exact absurd (Nat.eq_of_beq_eq_true hb) h
def Q9 : List D → Option D := a2 yw yw fun a b => some (.int .i64 (y7 a b))
theorem aax : Good kC Q9 := Za fun a b d ha hb hf => by rw [← Option.some.inj hf]; exact VP (ft ha) (ft hb)
def Q8 : List D → Option D := a2 yw yw fun a b => some (dR (a + b))
theorem aaw : Good ji Q8 := Za fun a b d ha hb hf => by rw [← Option.some.inj hf]; exact VO (ft ha) (ft hb)
def Ri : List D → Option D := a2 yw yw fun a b => if b ≤ a then some (.aZ [dR (a - b), .aF]) else none
theorem aaB : Good mW Ri := Za fun a b d ha hb hf => by
   split at hf <;> try (simp at hf; done)
   rw [← Option.some.inj hf]; exact JJ (ft ha) (ft hb) (by assumption)
def Rh : List D → Option D := a2 yw yw fun a b => some (dR (a * b))
theorem aaA : Good jm Rh := Za fun a b d ha hb hf => by rw [← Option.some.inj hf]; exact EL (ft ha) (ft hb)
def Q_ : List D → Option D := a2 yw yw fun a b => if b ≠ 0 then some (.aZ [dR (a / b), dR (a % b), .aF]) else none
theorem aay : Good jl Q_ := Za fun a b d ha hb hf => by
   split at hf <;> try (simp at hf; done)
   rw [← Option.some.inj hf]; exact EK (ft ha) (ft hb) (by assumption)
def Rf : List D → Option D := a2 yw yw fun a b => some (dR (Nat.gcd a b))
theorem aaz : Good nV Rf := Za fun a b d ha hb hf => by rw [← Option.some.inj hf]; exact VQ (ft ha) (ft hb)
def PD : List D → Option D := a1 yw fun a => some (.str (txt a))
theorem Zn : Good jE PD := aqd fun a d ha hf => by rw [← Option.some.inj hf]; exact Z4 (ft ha) (wr ha)
def ZF : List D → Option D := a1 alh fun s => if yL s then some (.aZ [dR (jF 0 s), .aF]) else some (.aZ [.aK, wR 1])
theorem ahH : Good mP ZF := Lp fun x s d hx hf => by
   obtain ⟨rfl, hs⟩ := akj hx
   split at hf
   ·rw [← Option.some.inj hf]; exact zW (by assumption)
   ·rw [← Option.some.inj hf]; exact ZY (by assumption) (by omega)
def ZG : List D → Option D := a2 aoY yw fun b n => some (intD (if b then -(n : Int) else n))
theorem ahI : Good iJ ZG := QY fun x y b n d hx hy hf => by rw [aqZ hx, (IE hy).1, ← Option.some.inj hf]; exact EM b n
def Rj : List D → Option D := a1 vH fun z => some (dR z.natAbs)
theorem aaC : Good bW Rj := agC fun a d ha hf => by rw [← Option.some.inj hf]; exact JK a
def PG : List D → Option D := a1 vH fun z => some (.int .i64 z.sign)
theorem Zp : Good dI PG := agC fun a d ha hf => by rw [← Option.some.inj hf]; exact Me a
def Ro : List D → Option D := a1 vH fun z => some (intD (-z))
theorem aaG : Good nZ Ro := agC fun a d ha hf => by rw [← Option.some.inj hf]; exact alM a
def Rk : List D → Option D := a2 vH vH fun a b => some (intD (a + b))
theorem aaD : Good iq Rk := Y8 fun a b d ha hb hf => by rw [← Option.some.inj hf]; exact qP ha hb (by decide) (by decide)
def Rq : List D → Option D := a2 vH vH fun a b => some (intD (a - b))
theorem aaH : Good qR Rq := Y8 fun a b d ha hb hf => by rw [← Option.some.inj hf]; exact ab5 ha hb (by decide) (by decide)
def Rl : List D → Option D := a2 vH vH fun a b => some (.int .i64 (a - b).sign)
theorem aaE : Good nY Rl := Y8 fun a b d ha hb hf => by rw [← Option.some.inj hf]; exact VT ha hb (by decide) (by decide)
def Rn : List D → Option D := a2 vH vH fun a b => some (intD (a * b))
theorem aaF : Good bZ Rn := Y8 fun a b d ha hb hf => by rw [← Option.some.inj hf]; exact dL ha hb (by decide) (by decide)
def abq : List D → Option D := a1 LC fun n => some (intD n)
theorem ajL : Good jH abq := Lp fun x n d hx hf => by rw [(vG hx).1, ← Option.some.inj hf]; exact l9 n (vG hx).2
def PI : List D → Option D := a1 vH fun z => some (.str (zx z))
theorem Zq : Good jG PI := agC fun a d ha hf => by rw [← Option.some.inj hf]; exact TU ha (by decide) (by decide)
def ZI : List D → Option D := a2 vH vH fun n d => if d ≠ 0 then some (.aZ [bF (Rat.divInt n d), .aF]) else none
theorem ahK : Good nI ZI := Y8 fun a b d ha hb hf => by
   split at hf <;> try (simp at hf; done)
   rw [← Option.some.inj hf]; exact uw ha hb (by decide) (by decide) (by assumption)
def XL : List D → Option D := a2 vH vH fun n d => if d ≠ 0 then some (bF (Rat.divInt n d)) else none
theorem agm : Good wz XL := Y8 fun a b d ha hb hf => by
   split at hf <;> try (simp at hf; done)
   rw [← Option.some.inj hf]; exact MG ha hb (by decide) (by decide) (by assumption)
def abr : List D → Option D := a2 LC LC fun n d => if d ≠ 0 then some (.aZ [bF (Rat.divInt n d), .aF]) else none
theorem ajM : Good jQ abr := QY fun x y a b d hx hy hf => by
   split at hf <;> try (simp at hf; done)
   rw [(vG hx).1, (vG hy).1, ← Option.some.inj hf]
   exact ru (vG hx).2 (vG hy).2 (by assumption)
def Rz : List D → Option D := a1 zL fun q => some (intD q.num)
theorem aaN : Good dN Rz := agH fun a d ha hf => by rw [← Option.some.inj hf]; exact JV a
def Rw : List D → Option D := a1 zL fun q => some (intD (q.den : Int))
theorem aaK : Good dw Rw := agH fun a d ha hf => by rw [← Option.some.inj hf]; exact xX a
def PL : List D → Option D := a1 zL fun q => some (.int .i64 q.num.sign)
theorem Zt : Good iE PL := agH fun a d ha hf => by rw [← Option.some.inj hf]; exact Bd a
def Rt : List D → Option D := a2 zL zL fun a b => some (bF (a + b))
theorem aaI : Good jq Rt := acf fun a b d ha hb hf => by rw [← Option.some.inj hf]; exact xW ha hb (by decide)
def RD : List D → Option D := a2 zL zL fun a b => some (bF (a - b))
theorem aaO : Good iO RD := acf fun a b d ha hb hf => by rw [← Option.some.inj hf]; exact uy ha hb (by decide)
def Ry : List D → Option D := a2 zL zL fun a b => some (bF (a * b))
theorem aaM : Good gV Ry := acf fun a b d ha hb hf => by rw [← Option.some.inj hf]; exact oK ha hb (by decide)
def Rx : List D → Option D := a2 zL zL fun a b => if b.num = 0 then none else some (.aZ [bF (a / b), .aF])
theorem aaL : Good lH Rx := acf fun a b d ha hb hf => by
   split at hf <;> try (simp at hf; done)
   rename_i h0
   rw [← Option.some.inj hf]; exact Wi ha hb (by decide) (fun h => h0 (by rw [h]; rfl))
def Ru : List D → Option D := a2 zL zL fun a b => some (.int .i64 (tX a b))
theorem aaJ : Good iM Ru := acf fun a b d ha hb hf => by rw [← Option.some.inj hf]; exact uq ha hb (by decide)
def PN : List D → Option D := a1 zL fun q => some (.str (wH q))
theorem Zu : Good gu PN := agH fun a d ha hf => by rw [← Option.some.inj hf]; exact yG ha (by decide) (by decide)
def ZE : List D → Option D := a1 alh fun s => some (Fv (wJ s))
theorem ahG : Good uX ZE := Lp fun x s d hx hf => by
   obtain ⟨rfl, hs⟩ := akj hx
   rw [← Option.some.inj hf]; exact Vy (by omega)
def AZ : D → Option aO
 | .agg [.int .i64 i, .int .i64 m, .int .i64 f, .str c, .str r, .int .i64 n, .int .i64 s, .bool e, .int .i64 x] => if c.length ≤ 1000 ∧ r.length ≤ 1000 then some ⟨i, m, f, c, r, n, s, e, x⟩ else none
 | _ => none
theorem tZ {d : D} {b : aO} (h : AZ d = some b) : d = aS b ∧ b.dX.length ≤ 1000000 ∧ b.dY.length ≤ 1000000 := by
 unfold AZ at h
 split at h <;> try (simp at h; done)
 split at h <;> try (simp at h; done)
 rename_i hl
 simp at h
 subst h
 exact ⟨rfl, by simp only; omega, by simp only; omega⟩
theorem abt {f : aO → Option D} {g : Nat} (h : ∀ b d, b.dX.length ≤ 1000000 → b.dY.length ≤ 1000000 → f b = some d → L.call g [aS b] = some d) : Good g (a1 AZ f) :=
 Lp fun x a d hx hf => by rw [(tZ hx).1]; exact h a d (tZ hx).2.1 (tZ hx).2.2 hf
def Uz : List D → Option D := a1 AZ fun b => some (eX (chk b))
theorem abP : Good lJ Uz := abt fun b d hc hr hf => by rw [← Option.some.inj hf]; exact AA hc hr
def Q5 : List D → Option D := a1 AZ fun b => some (.int .i64 (months b))
theorem aau : Good lF Q5 := abt fun b d hc hr hf => by rw [← Option.some.inj hf]; exact Ky b
def QZ : List D → Option D := a1 AZ fun b => some (bF (PY b))
theorem aat : Good lD QZ := abt fun b d hc hr hf => by rw [← Option.some.inj hf]; exact Dx hc hr
def Q7 : List D → Option D := a1 AZ fun b => some (bF (iW b))
theorem aav : Good nU Q7 := abt fun b d hc hr hf => by rw [← Option.some.inj hf]; exact Dy hc hr
def ZH : List D → Option D := a1 AZ fun b => some (wM (aV b))
theorem ahJ : Good qA ZH := abt fun b d hc hr hf => by rw [← Option.some.inj hf]; exact Ae hc hr
def UC : List D → Option D := a2 AZ LC fun b n => some (aaZ b n)
theorem abR : Good oI UC := QY fun x y b n d hx hy hf => by
 rw [(tZ hx).1, (vG hy).1, ← Option.some.inj hf]; exact Hl (tZ hx).2.1 (tZ hx).2.2 n
def decP : D → Option (Int × Int)
 | .agg [.int .i64 a, .int .i64 b] => some (a, b)
 | _ => none
theorem aq0 {d : D} {p : Int × Int} (h : decP d = some p) : d = pD p := by
 unfold decP at h
 split at h <;> simp at h
 subst h; rfl
def PK : List D → Option D := a2 AZ decP fun b p => some (.bool (regular b p))
theorem Zr : Good kX PK := QY fun x y b p d hx hy hf => by
 rw [(tZ hx).1, aq0 hy, ← Option.some.inj hf]; exact BR (tZ hx).2.1 (tZ hx).2.2 p
def N7 : List D → Option D := a2 LC LC fun a b => if bU a ∧ bU b then some (.int .i64 (Cm a b)) else none
theorem X8 : Good jY N7 := QY fun x y a b d hx hy hf => by
 split at hf <;> try (simp at hf; done)
 rename_i h
 rw [(vG hx).1, (vG hy).1, ← Option.some.inj hf]; exact SV h.1 h.2
def Py : List D → Option D := a1 LC fun n => some (.int .i64 (YS n))
theorem Zm : Good fC Py := Lp fun x n d hx hf => by rw [(vG hx).1, ← Option.some.inj hf]; exact BK n
def TL : List D → Option D
 | [.sl 1 [.int .i64 a, .int .i64 b, .int .i64 c, .int .i64 d, .int .i64 e, .bool false], .sl 0 []] => if a = 1 ∧ b = 1 ∧ c = 1 ∧ d = 0 ∧ e = 0 then some (.aZ [.ref [.qY (Fz 300)] 0, .aF]) else none
 | _ => none
theorem ahF : Good Dz TL := by
 intro args d h
 unfold TL at h
 split at h <;> try (simp at h; done)
 rename_i a b c d' e
 split at h <;> try (simp at h; done)
 rename_i hc
 obtain ⟨rfl, rfl, rfl, rfl, rfl⟩ := hc
 rw [← Option.some.inj h]
 exact amK
def UA : List D → Option D := a1 LC fun n => if bU n then some (.aZ [zI (kL n.toNat).1 (kL n.toNat).2.1 (kL n.toNat).2.2, .aF]) else some (.aZ [zI 0 0 0, wR 4])
theorem abQ : Good gJ UA := Lp fun x n d hx hf => by
 rw [(vG hx).1]
 split at hf
 ·rename_i h
  obtain ⟨y, m, dd, hc, hd, ho⟩ := ig h
  rw [← Option.some.inj hf, ho, hd]
  exact rV hc
 ·rename_i h
  rw [← Option.some.inj hf]; exact UH h
def Ny : List D → Option D
 | [.int .i64 a, .int .i64 n, .bool e] => some (kU (yY a n e))
 | _ => none
theorem adB : Good nC Ny := by
 intro args d h
 unfold Ny at h
 split at h <;> try (simp at h; done)
 rw [← Option.some.inj h]; exact TQ _ _ _
def amA : List (Nat × (List D → Option D)) :=
 [(jc, abp), (fK, PE), (kC, Q9), (ji, Q8), (mW, Ri), (jm, Rh), (jl, Q_), (nV, Rf), (jE, PD), (mP, ZF), (iJ, ZG), (bW, Rj), (dI, PG), (nZ, Ro), (iq, Rk), (qR, Rq), (nY, Rl), (bZ, Rn), (jH, abq), (jG, PI), (nI, ZI), (wz, XL), (jQ, abr), (dN, Rz), (dw, Rw), (iE, PL), (jq, Rt), (iO, RD), (gV, Ry), (lH, Rx), (iM, Ru), (gu, PN), (uX, ZE), (lJ, Uz), (lF, Q5), (lD, QZ), (nU, Q7), (qA, ZH), (oI, UC), (kX, PK), (jY, N7), (fC, Py), (Dz, TL), (gJ, UA), (nC, Ny)]
def Um : List (Nat × (List D → Option D)) → Prop
 | [] => True
 | p :: r => Good p.1 p.2 ∧ Um r
theorem Um.look : ∀ {l : List (Nat × (List D → Option D))} {n : Nat} {p : List D → Option D}, Um l → Hf l n = some p → Good n p
 | [], n, p, _, h => by simp [Hf] at h
 | (i, x) :: r, n, p, ⟨h1, h2⟩, h => by
   simp only [Hf, cond_eq_ite] at h
   split at h
   ·rename_i hb
    simp at h
    subst h
    rw [← Nat.eq_of_beq_eq_true hb]
    exact h1
   ·exact Um.look h2 h
theorem amB : Um amA :=
 ⟨ajK, Zo, aax, aaw, aaB, aaA, aay, aaz, Zn, ahH, ahI, aaC, Zp, aaG, aaD, aaH, aaE, aaF, ajL, Zq, ahK, agm, ajM, aaN, aaK, Zt, aaI, aaO, aaM, aaL, aaJ, Zu, ahG, abP, aau, aat, aav, ahJ, abR, Zr, X8, Zm, ahF, abQ, adB, trivial⟩
def yX : Nat → aA
 | 0 => ⟨fun _ _ _ => none, fun _ _ _ _ _ _ => none, fun _ _ => none⟩
 | n + 1 =>
   ⟨fun f args m => match TT.fn f with
    | some ef => ef.step (yX n) args m
    | none => TT.jZ f args m,
    fun ins outs body base vals m => CW (yX n) ins outs body base vals m,
    fun f args => match (match Hf amA f with
      | some p => p args
      | none => none) with
     | some d => some d
     | none => wu (match TT.fn f with
       | some ef => ef.step (yX n) args []
       | none => TT.jZ f args [])⟩
theorem amC : ∀ n, (yX n).le L
 | 0 => ⟨fun f args m r h => by simp [yX] at h, fun _ _ _ _ _ _ r h => by simp [yX] at h, fun _ _ r h => by simp [yX] at h⟩
 | n + 1 => by
   have ih := amC n
   have hca : ∀ f args m r, (yX (n + 1)).bH f args m = some r → L.bH f args m = some r := by
    intro f args m r h
    simp only [yX] at h
    split at h
    ·rename_i ef he
     exact ahV he (adH SH ih h)
    ·rename_i he
     exact ahX he h
   refine ⟨hca, fun ins outs body base vals m r h => aeK (MR SH ih h), fun f args d h => ?_⟩
   simp only [yX] at h
   split at h
   ·rename_i d' hd
    split at hd
    ·rename_i p hp
     rw [← h]
     exact amB.look hp args d' hd
    ·simp at hd
   ·obtain ⟨r, h1⟩ := FU h
    show wu (L.bH f args []) = some d
    rw [hca f args [] r (by simp only [yX]; exact h1), ← h1, h]
theorem aor (n : Nat) {f : Nat} {args : List D} {d : D} (h : (yX n).call f args = some d) : L.call f args = some d := (amC n).call f args d h
end Go.Ev.Code
end
