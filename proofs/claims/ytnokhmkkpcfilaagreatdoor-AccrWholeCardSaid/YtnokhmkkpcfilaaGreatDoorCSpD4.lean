/- A part of the proof of flowSum_card, flowParts_card, flowEx_card, accrWhole_card, priceZero_card. -/
import Derived.Test.YtnokhmkkpcfilaaGreatDoorCSpC
import Derived.Test.YtnokhmkkpcfilaaGreatDoorCSpD1
set_option linter.unusedVariables false
set_option linter.unusedSimpArgs false
section
namespace Go.Ev.Code
open Go Go.Ev
def agj : List D → Option (List Nat)
 | [] => some []
 | .int .u64 x :: ds => if 0 ≤ x ∧ x < 18446744073709551616 then (agj ds).bind fun l => some (x.toNat :: l) else none
 | _ => none
theorem ajd : ∀ {cs : List D} {l : List Nat}, agj cs = some l → cs = l.map aT ∧ Small l
 | [], l, h => by simp [agj] at h; subst h; exact ⟨rfl, fun x hx => by simp at hx⟩
 | d :: ds, l, h => by
   unfold agj at h
   split at h <;> try (simp at h; done)
   ·rename_i heq; simp at heq
   ·rename_i x ds' heq
    simp at heq
    obtain ⟨rfl, rfl⟩ := heq
    split at h <;> try (simp at h; done)
    rename_i hx
    rw [Option.bind_eq_some_iff] at h
    obtain ⟨l', hl', h⟩ := h
    simp at h
    subst h
    obtain ⟨q1, q2⟩ := ajd hl'
    have hx' : (x.toNat : Int) = x := by omega
    refine ⟨by simp [q1, hx'], fun y hy => ?_⟩
    simp at hy
    rcases hy with rfl | hy
    ·unfold W; omega
    ·exact q2 y hy
def aaF : List Nat → Bool
 | [] => true
 | [x] => !(Nat.beq x 0)
 | _ :: y :: ys => aaF (y :: ys)
theorem adl : ∀ {l : List Nat}, aaF l = true → ∀ h : l ≠ [], l.getLast h ≠ 0
 | [], _, h => absurd rfl h
 | [x], h, _ => by
   simp only [aaF, Bool.not_eq_true'] at h
   intro hx
   simp at hx
   subst hx
   simp at h
 | x :: y :: ys, h, hne => by
   rw [List.getLast_cons (by simp)]
   exact adl (l := y :: ys) h _
def xu : D → Option Nat
 | .ref [.sl k cs] 0 => (agj cs).bind fun l => if k = l.length ∧ l.length ≤ 1000 ∧ aaF l = true then some (val l) else none
 | _ => none
theorem GN {d : D} {n : Nat} (h : xu d = some n) : d = dG n ∧ NB 64000 n := by
 unfold xu at h
 split at h <;> try (simp at h; done)
 rename_i k cs
 rw [Option.bind_eq_some_iff] at h
 obtain ⟨l, hl, h⟩ := h
 split at h <;> try (simp at h; done)
 rename_i hc
 simp at h
 subst h
 obtain ⟨q1, q2⟩ := ajd hl
 have hcan : Canon l := ⟨q2, adl hc.2.2⟩
 refine ⟨?_, ?_⟩
 ·show D.ref [.sl k cs] 0 = .ref (Ir (val l)) 0
  unfold Ir
  rw [WU hcan, q1, hc.1]
 ·have : NB (64 * l.length) (val l) := by
   unfold NB
   have := Lm q2
   rw [pW, ← Nat.pow_mul] at this
   exact this
  exact this.mono (by omega)
def uy : D → Option Int
 | .ref [.bool b, dn] 0 => (xu dn).bind fun n => if b then (if n = 0 then none else some (-(n : Int))) else some (n : Int)
 | _ => none
theorem GL {d : D} {z : Int} (h : uy d = some z) : d = intD z ∧ IB 64000 z := by
 unfold uy at h
 split at h <;> try (simp at h; done)
 rename_i b dn
 rw [Option.bind_eq_some_iff] at h
 obtain ⟨n, hn, h⟩ := h
 obtain ⟨q1, q2⟩ := GN hn
 subst q1
 split at h
 ·rename_i hb
  split at h <;> try (simp at h; done)
  rename_i hn0
  simp at h
  subst h
  subst hb
  refine ⟨?_, (IB.ofNat q2).neg⟩
  show D.ref _ 0 = .ref (OC _) 0
  unfold OC
  have h1 : -(n : Int) < 0 := by omega
  have h2 : (-(n : Int)).natAbs = n := by omega
  rw [h2, decide_eq_true h1]
 ·rename_i hb
  simp at h hb
  subst h
  subst hb
  refine ⟨?_, IB.ofNat q2⟩
  show D.ref _ 0 = .ref (OC _) 0
  unfold OC
  have h1 : ¬ (n : Int) < 0 := by omega
  have h2 : ((n : Int)).natAbs = n := by omega
  rw [h2, decide_eq_false h1]
def yZ : D → Option Rat
 | .ref [dn, dd] 0 => (uy dn).bind fun z => (uy dd).bind fun e => if h : 0 < e ∧ Nat.gcd z.natAbs e.natAbs = 1 then some ⟨z, e.natAbs, by omega, h.2⟩ else none
 | _ => none
theorem Ny {d : D} {q : Rat} (h : yZ d = some q) : d = bZ q ∧ RB 64000 q := by
 unfold yZ at h
 split at h <;> try (simp at h; done)
 rename_i dn dd
 simp only [Option.bind_eq_some_iff] at h
 obtain ⟨z, hz, e, he, h⟩ := h
 obtain ⟨q1, q2⟩ := GL hz
 obtain ⟨q3, q4⟩ := GL he
 split at h <;> try (simp at h; done)
 rename_i hc
 simp at h
 subst h
 refine ⟨?_, q2, q4⟩
 show D.ref _ 0 = .ref (acA _) 0
 unfold acA
 have : ((e.natAbs : Nat) : Int) = e := by omega
 rw [q1, q3]
 simp only [this]
def Good (g : Nat) (p : List D → Option D) : Prop := ∀ args d, p args = some d → L.call g args = some d
def a1 {α : Type} (dec : D → Option α) (f : α → Option D) : List D → Option D
 | [x] => (dec x).bind f
 | _ => none
def a2 {α β : Type} (dec : D → Option α) (dec' : D → Option β) (f : α → β → Option D) : List D → Option D
 | [x, y] => (dec x).bind fun a => (dec' y).bind fun b => f a b
 | _ => none
theorem JV {α : Type} {dec : D → Option α} {f : α → Option D} {g : Nat} (h : ∀ x a d, dec x = some a → f a = some d → L.call g [x] = some d) : Good g (a1 dec f) := by
 intro args d hd
 unfold a1 at hd
 split at hd <;> try (simp at hd; done)
 rw [Option.bind_eq_some_iff] at hd
 obtain ⟨a, ha, hd⟩ := hd
 exact h _ a d ha hd
theorem PI {α β : Type} {dec : D → Option α} {dec' : D → Option β} {f : α → β → Option D} {g : Nat} (h : ∀ x y a b d, dec x = some a → dec' y = some b → f a b = some d → L.call g [x, y] = some d) : Good g (a2 dec dec' f) := by
 intro args d hd
 unfold a2 at hd
 split at hd <;> try (simp at hd; done)
 simp only [Option.bind_eq_some_iff] at hd
 obtain ⟨a, ha, b, hb, hd⟩ := hd
 exact h _ _ a b d ha hb hd
theorem XY {f : Nat → Nat → Option D} {g : Nat} (h : ∀ a b d, NB 64000 a → NB 64000 b → f a b = some d → L.call g [dG a, dG b] = some d) : Good g (a2 xu xu f) :=
 PI fun x y a b d hx hy hf => by rw [(GN hx).1, (GN hy).1]; exact h a b d (GN hx).2 (GN hy).2 hf
theorem ao_ {f : Nat → Option D} {g : Nat} (h : ∀ a d, NB 64000 a → f a = some d → L.call g [dG a] = some d) : Good g (a1 xu f) :=
 JV fun x a d hx hf => by rw [(GN hx).1]; exact h a d (GN hx).2 hf
theorem XV {f : Int → Int → Option D} {g : Nat} (h : ∀ a b d, IB 64000 a → IB 64000 b → f a b = some d → L.call g [intD a, intD b] = some d) : Good g (a2 uy uy f) :=
 PI fun x y a b d hx hy hf => by rw [(GL hx).1, (GL hy).1]; exact h a b d (GL hx).2 (GL hy).2 hf
theorem afo {f : Int → Option D} {g : Nat} (h : ∀ a d, IB 64000 a → f a = some d → L.call g [intD a] = some d) : Good g (a1 uy f) :=
 JV fun x a d hx hf => by rw [(GL hx).1]; exact h a d (GL hx).2 hf
theorem aaW {f : Rat → Rat → Option D} {g : Nat} (h : ∀ a b d, RB 64000 a → RB 64000 b → f a b = some d → L.call g [bZ a, bZ b] = some d) : Good g (a2 yZ yZ f) :=
 PI fun x y a b d hx hy hf => by rw [(Ny hx).1, (Ny hy).1]; exact h a b d (Ny hx).2 (Ny hy).2 hf
theorem aft {f : Rat → Option D} {g : Nat} (h : ∀ a d, RB 64000 a → f a = some d → L.call g [bZ a] = some d) : Good g (a1 yZ f) :=
 JV fun x a d hx hf => by rw [(Ny hx).1]; exact h a d (Ny hx).2 hf
def akf : D → Option (List UInt8)
 | .str s => if s.length ≤ 1000 then some s else none
 | _ => none
theorem aje {d : D} {s : List UInt8} (h : akf d = some s) : d = .str s ∧ s.length ≤ 1000 := by
 unfold akf at h
 split at h <;> try (simp at h; done)
 split at h <;> try (simp at h; done)
 simp at h
 subst h
 exact ⟨rfl, by assumption⟩
def anU : D → Option Bool
 | .bool b => some b
 | _ => none
theorem apV {d : D} {b : Bool} (h : anU d = some b) : d = .bool b := by
 unfold anU at h
 split at h <;> simp at h
 rw [h]
def JX : D → Option Int
 | .int .i64 n => if -9223372036854775808 ≤ n ∧ n ≤ 9223372036854775807 then some n else none
 | _ => none
theorem uw {d : D} {n : Int} (h : JX d = some n) : d = .int .i64 n ∧ (-9223372036854775808 ≤ n ∧ n ≤ 9223372036854775807) := by
 unfold JX at h
 split at h <;> try (simp at h; done)
 split at h <;> try (simp at h; done)
 simp at h
 subst h
 exact ⟨rfl, by assumption⟩
def anV : D → Option Nat
 | .int .u64 n => if 0 ≤ n ∧ n < 18446744073709551616 then some n.toNat else none
 | _ => none
theorem ajf {d : D} {n : Nat} (h : anV d = some n) : d = aT n ∧ n < W := by
 unfold anV at h
 split at h <;> try (simp at h; done)
 split at h <;> try (simp at h; done)
 rename_i z hz
 simp at h
 subst h
 refine ⟨?_, by unfold W; omega⟩
 show D.int _ _ = .int _ _
 congr 1; omega
end Go.Ev.Code
end
section
namespace Go.Ev.Code
open Go Go.Ev
theorem aok {n f : Nat} {args : List D} {d : D} (h : (TT.lW n).call f args = some d) : L.call f args = some d := by
 rw [OU] at h
 obtain ⟨⟨r, m⟩, hr⟩ := Es h
 rw [hr] at h
 exact vY (GY.2 ⟨n, hr⟩) h
def aa5 : D := .agg [.int .i64 1, .int .i64 1, .int .i64 1, .int .i64 0, .int .i64 0, .bool false]
theorem akA : L.call Gi [aa5] = some (.bool true) := aok (n := 30) (by kernel_rfl)
theorem am3 {n a b : Int} (h1 : a ≤ n) (h2 : n ≤ b) : L.call kQ [.int .i64 n, .int .i64 a, .int .i64 b] = some (.bool true) := by
 refine aO aeF rfl (aeb ..) ?_
 simp [U_, h1, h2]
theorem akz {y : Nat} (h1 : 1900 ≤ y) (h2 : y ≤ 2199) : L.call Bo [aa5, .int .i64 y] = some (.aZ [.int .i64 (dO y), .bool true]) := by
 have hm := akA
 have hd := aak (y := y) (m := 1) (d := 1) h1 h2 (by decide) (by decide) (by decide) (by simp [bU])
 have e : dayOf y 1 1 = dO y := by simp [dayOf, dD]
 rw [e] at hd
 have hb := Oq (y := y) (by omega)
 have hb' : dO y ≤ 109572 := by unfold dO; omega
 have hw := am3 (n := dO y) (a := 0) (b := 109572) (by omega) (by omega)
 unfold mF at hd
 unfold aa5 at hm ⊢
 generalize dO y = b at *
 refine aO aj1 rfl (ajU ..) ?_
 simp [aa8, hm, hd, hw] at *
def Ec : Nat → List Int
 | 0 => []
 | k + 1 => ((dO (1900 + k) : Nat) : Int) :: Ec k
theorem arj {y : Nat} (h1 : 1900 ≤ y) (h2 : y ≤ 2199) : dO y < dO (y + 1) := by unfold dO; omega
theorem ajp : ∀ {k : Nat}, k ≤ 300 → ∀ z ∈ Ec k, z < (dO (1900 + k) : Nat)
 | 0, _, z, hz => by simp [Ec] at hz
 | k + 1, hk, z, hz => by
   have := arj (y := 1900 + k) (by omega) (by omega)
   simp only [Ec, List.mem_cons] at hz
   rcases hz with rfl | hz
   ·have e : 1900 + k + 1 = 1900 + (k + 1) := by omega
    rw [e] at this; omega
   ·have h := ajp (k := k) (by omega) z hz
    have e : 1900 + k + 1 = 1900 + (k + 1) := by omega
    rw [e] at this; omega
theorem ame {k : Nat} (hk : k < 300) : WJ (Ec k) ((dO (1900 + k) : Nat) : Int) = Ec (k + 1) := by
 have : (Ec k).contains ((dO (1900 + k) : Nat) : Int) = false := by
  rw [← Bool.not_eq_true, List.contains_iff_mem]
  intro h
  have := ajp (k := k) (by omega) _ h
  omega
 unfold WJ
 rw [this]
 rfl
def JC : D := .sl 1 [.int .i64 1, .int .i64 1, .int .i64 1, .int .i64 0, .int .i64 0, .bool false]
theorem aoh (j : Nat) : ∀ k, k + j = 300 →
  L.loop [6, 10, 11, 47, 48, 49] [6, 47, 48, 49] yU 3 [.loc 1 0, .loc 2 0, .int .i64 ((1900 + k : Nat) : Int), JC, .int .i64 1, .int .i64 0] [.mp (Ec k), .live [.lmap 0], .live [.int .i64 1, .int .i64 1, .int .i64 1, .int .i64 0, .int .i64 0, .bool false]] =
    some (.exit 5, [.loc 1 0, JC, .int .i64 1, .int .i64 0], [.mp (Ec 300), .live [.lmap 0], .live [.int .i64 1, .int .i64 1, .int .i64 1, .int .i64 0, .int .i64 0, .bool false]]) := by
 induction j with
 | zero =>
   intro k hk
   have : k = 300 := by omega
   subst this
   refine aQ (VI ..) ?_
   simp [O5, JC]
 | succ j ih =>
   intro k hk
   have hd := akz (y := 1900 + k) (by omega) (by omega)
   have hn := ih (k + 1) (by omega)
   have hi := ame (k := k) (by omega)
   have h1 : ((1900 + k : Nat) : Int) ≤ 2199 := by omega
   have h2 : IntKind.i64.wrap (((1900 + k : Nat) : Int) + 1) = ((1900 + (k + 1) : Nat) : Int) := by rw [wrap64 _ (by omega)]; omega
   generalize 1900 + (k + 1) = y' at *
   generalize 1900 + k = y at *
   generalize dO y = b at *
   generalize Ec (k + 1) = js at *
   generalize Ec k = jk at *
   generalize Ec 300 = jz at *
   unfold aa5 at hd
   refine aQ (VI ..) ?_
   unfold JC at *
   simp [O5, Nj, h1, h2, hd, hi, hn]
theorem agb : L.call gQ [JC, .func GH []] = some (.bool false) := aok (n := 40) (by kernel_rfl)
theorem ae2 : L.call jB [.sl 0 [], .func GI []] = some (.bool false) := aok (n := 40) (by kernel_rfl)
theorem alH : L.call B_ [JC, .sl 0 []] = some (.aZ [.ref [.qG (Ec 300)] 0, .aF]) := by
 have h1 := agb
 have h2 := ae2
 have h3 := aoh 300 0 (by omega)
 refine aO alo rfl (alf ..) ?_
 generalize Ec 300 = jz at *
 unfold JC at *
 simp [Ec] at h3
 have l1 : L.loop [0, 6, 35, 36, 37] [0, 6] yT 2 [.sl 1 [.int .i64 1, .int .i64 1, .int .i64 1, .int .i64 0, .int .i64 0, .bool false], .loc 1 0, .sl 0 [], .int .i64 0, .int .i64 0] [.mp [], .live [.lmap 0]] = some (.exit 1, [.sl 1 [.int .i64 1, .int .i64 1, .int .i64 1, .int .i64 0, .int .i64 0, .bool false], .loc 1 0], [.mp [], .live [.lmap 0]]) := by
  refine aQ (afF ..) ?_
  simp [Xv]
 have l3 : L.loop [6, 47, 48, 49] [6] vX 2 [.loc 1 0, .sl 1 [.int .i64 1, .int .i64 1, .int .i64 1, .int .i64 0, .int .i64 0, .bool false], .int .i64 1, .int .i64 1] [.mp jz, .live [.lmap 0]] = some (.exit 3, [.loc 1 0], [.mp jz, .live [.lmap 0]]) := by
  refine aQ (VJ ..) ?_
  simp [O6]
 have l2 : L.loop [6, 47, 48, 49] [6] vX 2 [.loc 1 0, .sl 1 [.int .i64 1, .int .i64 1, .int .i64 1, .int .i64 0, .int .i64 0, .bool false], .int .i64 1, .int .i64 0] [.mp [], .live [.lmap 0]] = some (.exit 3, [.loc 1 0], [.mp jz, .live [.lmap 0]]) := by
  refine aQ (VJ ..) ?_
  have e1 : IntKind.i64.wrap 1 = 1 := by decide
  simp [O6, h3, e1, l3]
 simp [adJ, h1, h2, UF, l1, l2]
end Go.Ev.Code
end
section
namespace Go.Ev.Code
open Go Go.Ev
theorem ft {n : Nat} (h : NB 64000 n) : Fit n := h.fit (by decide)
theorem wr {n : Nat} (h : NB 64000 n) : Wri n := h.wri (by decide) (by decide)
def Z4 : List D → Option D := a1 anV fun n => some (dG n)
theorem aiE : Good iD Z4 := JV fun x n d hx hf => by
   rw [(ajf hx).1, ← Option.some.inj hf]; exact tN n (ajf hx).2
def Oh : List D → Option D := a1 xu fun n => some (.bool (Nat.beq n 0))
theorem Ya : Good fC Oh := ao_ fun a d ha hf => by
   rw [← Option.some.inj hf, Rk]
   congr 2
   by_cases h : a = 0
   ·subst h; rfl
   ·rw [decide_eq_false h]
    cases hb : Nat.beq a 0 with
    | false => rfl
    | true => exact absurd (Nat.eq_of_beq_eq_true hb) h
def PS : List D → Option D := a2 xu xu fun a b => some (.int .i64 (yh a b))
theorem Y8 : Good jS PS := XY fun a b d ha hb hf => by rw [← Option.some.inj hf]; exact Um (ft ha) (ft hb)
def PO : List D → Option D := a2 xu xu fun a b => some (dG (a + b))
theorem Y7 : Good iI PO := XY fun a b d ha hb hf => by rw [← Option.some.inj hf]; exact Ul (ft ha) (ft hb)
def PX : List D → Option D := a2 xu xu fun a b => if b ≤ a then some (.aZ [dG (a - b), .aF]) else none
theorem Zb : Good lU PX := XY fun a b d ha hb hf => by
   split at hf <;> try (simp at hf; done)
   rw [← Option.some.inj hf]; exact Iu (ft ha) (ft hb) (by assumption)
def PW : List D → Option D := a2 xu xu fun a b => some (dG (a * b))
theorem Za : Good iK PW := XY fun a b d ha hb hf => by rw [← Option.some.inj hf]; exact DK (ft ha) (ft hb)
def PU : List D → Option D := a2 xu xu fun a b => if b ≠ 0 then some (.aZ [dG (a / b), dG (a % b), .aF]) else none
theorem Y9 : Good iJ PU := XY fun a b d ha hb hf => by
   split at hf <;> try (simp at hf; done)
   rw [← Option.some.inj hf]; exact DJ (ft ha) (ft hb) (by assumption)
def PV : List D → Option D := a2 xu xu fun a b => some (dG (Nat.gcd a b))
theorem Y_ : Good nI PV := XY fun a b d ha hb hf => by rw [← Option.some.inj hf]; exact Un (ft ha) (ft hb)
def Og : List D → Option D := a1 xu fun a => some (.str (txt a))
theorem X_ : Good je Og := ao_ fun a d ha hf => by rw [← Option.some.inj hf]; exact YI (ft ha) (wr ha)
def Yp : List D → Option D := a1 akf fun s => if xO s then some (.aZ [dG (jr 0 s), .aF]) else some (.aZ [.aV, yj 1])
theorem agD : Good lS Yp := JV fun x s d hx hf => by
   obtain ⟨rfl, hs⟩ := aje hx
   split at hf
   ·rw [← Option.some.inj hf]; exact zn (by assumption)
   ·rw [← Option.some.inj hf]; exact YH (by assumption) (by omega)
def Yq : List D → Option D := a2 anU xu fun b n => some (intD (if b then -(n : Int) else n))
theorem agE : Good gW Yq := PI fun x y b n d hx hy hf => by rw [apV hx, (GN hy).1, ← Option.some.inj hf]; exact DN b n
def PY : List D → Option D := a1 uy fun z => some (dG z.natAbs)
theorem Zc : Good bK PY := afo fun a d ha hf => by rw [← Option.some.inj hf]; exact Iw a
def Oi : List D → Option D := a1 uy fun z => some (.int .i64 z.sign)
theorem Yb : Good cZ Oi := afo fun a d ha hf => by rw [← Option.some.inj hf]; exact Kz a
def P7 : List D → Option D := a1 uy fun z => some (intD (-z))
theorem Zg : Good nM P7 := afo fun a d ha hf => by rw [← Option.some.inj hf]; exact akK a
def PZ : List D → Option D := a2 uy uy fun a b => some (intD (a + b))
theorem Zd : Good gu PZ := XV fun a b d ha hb hf => by rw [← Option.some.inj hf]; exact zA ha hb (by decide) (by decide)
def P8 : List D → Option D := a2 uy uy fun a b => some (intD (a - b))
theorem Zh : Good qo P8 := XV fun a b d ha hb hf => by rw [← Option.some.inj hf]; exact aaO ha hb (by decide) (by decide)
def P5 : List D → Option D := a2 uy uy fun a b => some (.int .i64 (a - b).sign)
theorem Ze : Good nK P5 := XV fun a b d ha hb hf => by rw [← Option.some.inj hf]; exact Uo ha hb (by decide) (by decide)
def P6 : List D → Option D := a2 uy uy fun a b => some (intD (a * b))
theorem Zf : Good bM P6 := XV fun a b d ha hb hf => by rw [← Option.some.inj hf]; exact dW ha hb (by decide) (by decide)
def Z5 : List D → Option D := a1 JX fun n => some (intD n)
theorem aiF : Good jg Z5 := JV fun x n d hx hf => by rw [(uw hx).1, ← Option.some.inj hf]; exact wO n (uw hx).2
def Oj : List D → Option D := a1 uy fun z => some (.str (yL z))
theorem Yc : Good jf Oj := afo fun a d ha hf => by rw [← Option.some.inj hf]; exact Rn ha (by decide) (by decide)
def Yt : List D → Option D := a2 uy uy fun n d => if d ≠ 0 then some (.aZ [bZ (Rat.divInt n d), .aF]) else none
theorem agG : Good mZ Yt := XV fun a b d ha hb hf => by
   split at hf <;> try (simp at hf; done)
   rw [← Option.some.inj hf]; exact zD ha hb (by decide) (by decide) (by assumption)
def V_ : List D → Option D := a2 uy uy fun n d => if d ≠ 0 then some (bZ (Rat.divInt n d)) else none
theorem ae_ : Good uS V_ := XV fun a b d ha hb hf => by
   split at hf <;> try (simp at hf; done)
   rw [← Option.some.inj hf]; exact KF ha hb (by decide) (by decide) (by assumption)
def Z7 : List D → Option D := a2 JX JX fun n d => if d ≠ 0 then some (.aZ [bZ (Rat.divInt n d), .aF]) else none
theorem aiG : Good h_ Z7 := PI fun x y a b d hx hy hf => by
   split at hf <;> try (simp at hf; done)
   rw [(uw hx).1, (uw hy).1, ← Option.some.inj hf]
   exact oL (uw hx).2 (uw hy).2 (by assumption)
def Qe : List D → Option D := a1 yZ fun q => some (intD q.num)
theorem Zn : Good dB Qe := aft fun a d ha hf => by rw [← Option.some.inj hf]; exact Nq a
def Qa : List D → Option D := a1 yZ fun q => some (intD (q.den : Int))
theorem Zk : Good bY Qa := aft fun a d ha hf => by rw [← Option.some.inj hf]; exact IK a
def Om : List D → Option D := a1 yZ fun q => some (.int .i64 q.num.sign)
theorem Ye : Good iF Om := aft fun a d ha hf => by rw [← Option.some.inj hf]; exact Et a
def P9 : List D → Option D := a2 yZ yZ fun a b => some (bZ (a + b))
theorem Zi : Good gG P9 := aaW fun a b d ha hb hf => by rw [← Option.some.inj hf]; exact sU ha hb (by decide)
def Qg : List D → Option D := a2 yZ yZ fun a b => some (bZ (a - b))
theorem Zo : Good jq Qg := aaW fun a b d ha hb hf => by rw [← Option.some.inj hf]; exact DV ha hb (by decide)
def Qd : List D → Option D := a2 yZ yZ fun a b => some (bZ (a * b))
theorem Zm : Good gY Qd := aaW fun a b d ha hb hf => by rw [← Option.some.inj hf]; exact wW ha hb (by decide)
def Qc : List D → Option D := a2 yZ yZ fun a b => if b.num = 0 then none else some (.aZ [bZ (a / b), .aF])
theorem Zl : Good lX Qc := aaW fun a b d ha hb hf => by
   split at hf <;> try (simp at hf; done)
   rename_i h0
   rw [← Option.some.inj hf]; exact aa1 ha hb (by decide) (fun h => h0 (by rw [h]; rfl))
def P_ : List D → Option D := a2 yZ yZ fun a b => some (.int .i64 (Ak a b))
theorem Zj : Good gI P_ := aaW fun a b d ha hb hf => by rw [← Option.some.inj hf]; exact wV ha hb (by decide)
def Oo : List D → Option D := a1 yZ fun q => some (.str (xM q))
theorem Yf : Good fG Oo := aft fun a d ha hf => by rw [← Option.some.inj hf]; exact xG ha (by decide) (by decide)
def Yo : List D → Option D := a1 akf fun s => some (Gf (yY s))
theorem agC : Good vJ Yo := JV fun x s d hx hf => by
   obtain ⟨rfl, hs⟩ := aje hx
   rw [← Option.some.inj hf]; exact aan (by omega)
def Ac : D → Option aN
 | .agg [.int .i64 i, .int .i64 m, .int .i64 f, .str c, .str r, .int .i64 n, .int .i64 s, .bool e, .int .i64 x] => if c.length ≤ 1000 ∧ r.length ≤ 1000 then some ⟨i, m, f, c, r, n, s, e, x⟩ else none
 | _ => none
theorem sG {d : D} {b : aN} (h : Ac d = some b) : d = bf b ∧ b.d_.length ≤ 1000000 ∧ b.eH.length ≤ 1000000 := by
 unfold Ac at h
 split at h <;> try (simp at h; done)
 split at h <;> try (simp at h; done)
 rename_i hl
 simp at h
 subst h
 exact ⟨rfl, by simp only; omega, by simp only; omega⟩
theorem Z9 {f : aN → Option D} {g : Nat} (h : ∀ b d, b.d_.length ≤ 1000000 → b.eH.length ≤ 1000000 → f b = some d → L.call g [bf b] = some d) : Good g (a1 Ac f) :=
 JV fun x a d hx hf => by rw [(sG hx).1]; exact h a d (sG hx).2.1 (sG hx).2.2 hf
def Sj : List D → Option D := a1 Ac fun b => some (dK (chk b))
theorem aaz : Good kT Sj := Z9 fun b d hc hr hf => by rw [← Option.some.inj hf]; exact zQ hc hr
def PL : List D → Option D := a1 Ac fun b => some (.int .i64 (months b))
theorem Y5 : Good kN PL := Z9 fun b d hc hr hf => by rw [← Option.some.inj hf]; exact Jk b
def PK : List D → Option D := a1 Ac fun b => some (bZ (En b))
theorem Y4 : Good jR PK := Z9 fun b d hc hr hf => by rw [← Option.some.inj hf]; exact x9 hc hr
def PN : List D → Option D := a1 Ac fun b => some (bZ (iU b))
theorem Y6 : Good lT PN := Z9 fun b d hc hr hf => by rw [← Option.some.inj hf]; exact yc hc hr
def Yr : List D → Option D := a1 Ac fun b => some (qp (aK b))
theorem agF : Good kW Yr := Z9 fun b d hc hr hf => by rw [← Option.some.inj hf]; exact qw hc hr
def Sm : List D → Option D := a2 Ac JX fun b n => some (ZA b n)
theorem aaB : Good nZ Sm := PI fun x y b n d hx hy hf => by
 rw [(sG hx).1, (uw hy).1, ← Option.some.inj hf]; exact FU (sG hx).2.1 (sG hx).2.2 n
def decP : D → Option (Int × Int)
 | .agg [.int .i64 a, .int .i64 b] => some (a, b)
 | _ => none
theorem apW {d : D} {p : Int × Int} (h : decP d = some p) : d = pD p := by
 unfold decP at h
 split at h <;> simp at h
 subst h; rfl
def Ol : List D → Option D := a2 Ac decP fun b p => some (.bool (regular b p))
theorem Yd : Good jh Ol := PI fun x y b p d hx hy hf => by
 rw [(sG hx).1, apW hy, ← Option.some.inj hf]; exact qP (sG hx).2.1 (sG hx).2.2 p
def Me : List D → Option D := a2 JX JX fun a b => if bQ a ∧ bQ b then some (.int .i64 (Aj a b)) else none
theorem WI : Good jK Me := PI fun x y a b d hx hy hf => by
 split at hf <;> try (simp at hf; done)
 rename_i h
 rw [(uw hx).1, (uw hy).1, ← Option.some.inj hf]; exact QK h.1 h.2
def Oe : List D → Option D := a1 JX fun n => some (.int .i64 (XH n))
theorem X9 : Good eu Oe := JV fun x n d hx hf => by rw [(uw hx).1, ← Option.some.inj hf]; exact AO n
def Rh : List D → Option D
 | [.sl 1 [.int .i64 a, .int .i64 b, .int .i64 c, .int .i64 d, .int .i64 e, .bool false], .sl 0 []] => if a = 1 ∧ b = 1 ∧ c = 1 ∧ d = 0 ∧ e = 0 then some (.aZ [.ref [.qG (Ec 300)] 0, .aF]) else none
 | _ => none
theorem agB : Good B_ Rh := by
 intro args d h
 unfold Rh at h
 split at h <;> try (simp at h; done)
 rename_i a b c d' e
 split at h <;> try (simp at h; done)
 rename_i hc
 obtain ⟨rfl, rfl, rfl, rfl, rfl⟩ := hc
 rw [← Option.some.inj h]
 exact alH
def Sl : List D → Option D := a1 JX fun n => if bQ n then some (.aZ [mF (kU n.toNat).1 (kU n.toNat).2.1 (kU n.toNat).2.2, .aF]) else some (.aZ [mF 0 0 0, yj 4])
theorem aaA : Good fM Sl := JV fun x n d hx hf => by
 rw [(uw hx).1]
 split at hf
 ·rename_i h
  obtain ⟨y, m, dd, hc, hd, ho⟩ := gV h
  rw [← Option.some.inj hf, ho, hd]
  exact qZ hc
 ·rename_i h
  rw [← Option.some.inj hf]; exact SA h
def LG : List D → Option D
 | [.int .i64 a, .int .i64 n, .bool e] => some (kF (xk a n e))
 | _ => none
theorem acd : Good mW LG := by
 intro args d h
 unfold LG at h
 split at h <;> try (simp at h; done)
 rw [← Option.some.inj h]; exact Rj _ _ _
def aly : List (Nat × (List D → Option D)) :=
 [(iD, Z4), (fC, Oh), (jS, PS), (iI, PO), (lU, PX), (iK, PW), (iJ, PU), (nI, PV), (je, Og), (lS, Yp), (gW, Yq), (bK, PY), (cZ, Oi), (nM, P7), (gu, PZ), (qo, P8), (nK, P5), (bM, P6), (jg, Z5), (jf, Oj), (mZ, Yt), (uS, V_), (h_, Z7), (dB, Qe), (bY, Qa), (iF, Om), (gG, P9), (jq, Qg), (gY, Qd), (lX, Qc), (gI, P_), (fG, Oo), (vJ, Yo), (kT, Sj), (kN, PL), (jR, PK), (lT, PN), (kW, Yr), (nZ, Sm), (jh, Ol), (jK, Me), (eu, Oe), (B_, Rh), (fM, Sl), (mW, LG)]
def RN : List (Nat × (List D → Option D)) → Prop
 | [] => True
 | p :: r => Good p.1 p.2 ∧ RN r
theorem RN.look : ∀ {l : List (Nat × (List D → Option D))} {n : Nat} {p : List D → Option D}, RN l → FP l n = some p → Good n p
 | [], n, p, _, h => by simp [FP] at h
 | (i, x) :: r, n, p, ⟨h1, h2⟩, h => by
   simp only [FP, cond_eq_ite] at h
   split at h
   ·rename_i hb
    simp at h
    subst h
    rw [← Nat.eq_of_beq_eq_true hb]
    exact h1
   ·exact RN.look h2 h
theorem alz : RN aly :=
 ⟨aiE, Ya, Y8, Y7, Zb, Za, Y9, Y_, X_, agD, agE, Zc, Yb, Zg, Zd, Zh, Ze, Zf, aiF, Yc, agG, ae_, aiG, Zn, Zk, Ye, Zi, Zo, Zm, Zl, Zj, Yf, agC, aaz, Y5, Y4, Y6, agF, aaB, Yd, WI, X9, agB, aaA, acd, trivial⟩
def xX : Nat → aC
 | 0 => ⟨fun _ _ _ => none, fun _ _ _ _ _ _ => none, fun _ _ => none⟩
 | n + 1 =>
   ⟨fun f args m => match TT.fn f with
    | some ef => ef.step (xX n) args m
    | none => TT.jL f args m,
    fun ins outs body base vals m => BA (xX n) ins outs body base vals m,
    fun f args => match (match FP aly f with
      | some p => p args
      | none => none) with
     | some d => some d
     | none => uP (match TT.fn f with
       | some ef => ef.step (xX n) args []
       | none => TT.jL f args [])⟩
theorem alA : ∀ n, (xX n).le L
 | 0 => ⟨fun f args m r h => by simp [xX] at h, fun _ _ _ _ _ _ r h => by simp [xX] at h, fun _ _ r h => by simp [xX] at h⟩
 | n + 1 => by
   have ih := alA n
   have hca : ∀ f args m r, (xX (n + 1)).bF f args m = some r → L.bF f args m = some r := by
    intro f args m r h
    simp only [xX] at h
    split at h
    ·rename_i ef he
     exact agM he (aci QF ih h)
    ·rename_i he
     exact agO he h
   refine ⟨hca, fun ins outs body base vals m r h => ado (W9 QF ih h), fun f args d h => ?_⟩
   simp only [xX] at h
   split at h
   ·rename_i d' hd
    split at hd
    ·rename_i p hp
     rw [← h]
     exact alz.look hp args d' hd
    ·simp at hd
   ·obtain ⟨r, h1⟩ := Es h
    show uP (L.bF f args []) = some d
    rw [hca f args [] r (by simp only [xX]; exact h1), ← h1, h]
theorem anm (n : Nat) {f : Nat} {args : List D} {d : D} (h : (xX n).call f args = some d) : L.call f args = some d := (alA n).call f args d h
end Go.Ev.Code
end
