/- A part of the proof of planStub_card, planEnd_card, planLone_card, bondLong_card. -/
import Derived.Test.YtgppbgfjhkjfcaaGreatDoorBSpC
import Derived.Test.YtgppbgfjhkjfcaaGreatDoorBSpD1
set_option linter.unusedVariables false
set_option linter.unusedSimpArgs false
section
namespace Go.Ev.Code
open Go Go.Ev
def ac9 : List D → Option (List Nat)
 | [] => some []
 | .int .u64 x :: ds => if 0 ≤ x ∧ x < 18446744073709551616 then (ac9 ds).bind fun l => some (x.toNat :: l) else none
 | _ => none
theorem afX : ∀ {cs : List D} {l : List Nat}, ac9 cs = some l → cs = l.map aT ∧ Small l
 | [], l, h => by simp [ac9] at h; subst h; exact ⟨rfl, fun x hx => by simp at hx⟩
 | d :: ds, l, h => by
   unfold ac9 at h
   split at h <;> try (simp at h; done)
   ·rename_i heq; simp at heq
   ·rename_i x ds' heq
    simp at heq
    obtain ⟨rfl, rfl⟩ := heq
    split at h <;> try (simp at h; done)
    rename_i hx
    rw [Option.bind_eq_some_iff] at h
    obtain ⟨l', hl', h⟩ := h
    simp at h
    subst h
    obtain ⟨q1, q2⟩ := afX hl'
    have hx' : (x.toNat : Int) = x := by omega
    refine ⟨by simp [q1, hx'], fun y hy => ?_⟩
    simp at hy
    rcases hy with rfl | hy
    ·unfold W; omega
    ·exact q2 y hy
def XV : List Nat → Bool
 | [] => true
 | [x] => !(Nat.beq x 0)
 | _ :: y :: ys => XV (y :: ys)
theorem aaj : ∀ {l : List Nat}, XV l = true → ∀ h : l ≠ [], l.getLast h ≠ 0
 | [], _, h => absurd rfl h
 | [x], h, _ => by
   simp only [XV, Bool.not_eq_true'] at h
   intro hx
   simp at hx
   subst hx
   simp at h
 | x :: y :: ys, h, hne => by
   rw [List.getLast_cons (by simp)]
   exact aaj (l := y :: ys) h _
def rJ : D → Option Nat
 | .ref [.sl k cs] 0 => (ac9 cs).bind fun l => if k = l.length ∧ l.length ≤ 1000 ∧ XV l = true then some (val l) else none
 | _ => none
theorem Ag {d : D} {n : Nat} (h : rJ d = some n) : d = dN n ∧ NB 64000 n := by
 unfold rJ at h
 split at h <;> try (simp at h; done)
 rename_i k cs
 rw [Option.bind_eq_some_iff] at h
 obtain ⟨l, hl, h⟩ := h
 split at h <;> try (simp at h; done)
 rename_i hc
 simp at h
 subst h
 obtain ⟨q1, q2⟩ := afX hl
 have hcan : Canon l := ⟨q2, aaj hc.2.2⟩
 refine ⟨?_, ?_⟩
 ·show D.ref [.sl k cs] 0 = .ref (A_ (val l)) 0
  unfold A_
  rw [SQ hcan, q1, hc.1]
 ·have : NB (64 * l.length) (val l) := by
   unfold NB
   have := E_ q2
   rw [mQ, ← Nat.pow_mul] at this
   exact this
  exact this.mono (by omega)
def pV : D → Option Int
 | .ref [.bool b, dn] 0 => (rJ dn).bind fun n => if b then (if n = 0 then none else some (-(n : Int))) else some (n : Int)
 | _ => none
theorem Af {d : D} {z : Int} (h : pV d = some z) : d = intD z ∧ IB 64000 z := by
 unfold pV at h
 split at h <;> try (simp at h; done)
 rename_i b dn
 rw [Option.bind_eq_some_iff] at h
 obtain ⟨n, hn, h⟩ := h
 obtain ⟨q1, q2⟩ := Ag hn
 subst q1
 split at h
 ·rename_i hb
  split at h <;> try (simp at h; done)
  rename_i hn0
  simp at h
  subst h
  subst hb
  refine ⟨?_, (IB.ofNat q2).neg⟩
  show D.ref _ 0 = .ref (I_ _) 0
  unfold I_
  have h1 : -(n : Int) < 0 := by omega
  have h2 : (-(n : Int)).natAbs = n := by omega
  rw [h2, decide_eq_true h1]
 ·rename_i hb
  simp at h hb
  subst h
  subst hb
  refine ⟨?_, IB.ofNat q2⟩
  show D.ref _ 0 = .ref (I_ _) 0
  unfold I_
  have h1 : ¬ (n : Int) < 0 := by omega
  have h2 : ((n : Int)).natAbs = n := by omega
  rw [h2, decide_eq_false h1]
def uy : D → Option Rat
 | .ref [dn, dd] 0 => (pV dn).bind fun z => (pV dd).bind fun e => if h : 0 < e ∧ Nat.gcd z.natAbs e.natAbs = 1 then some ⟨z, e.natAbs, by omega, h.2⟩ else none
 | _ => none
theorem Hq {d : D} {q : Rat} (h : uy d = some q) : d = d_ q ∧ RB 64000 q := by
 unfold uy at h
 split at h <;> try (simp at h; done)
 rename_i dn dd
 simp only [Option.bind_eq_some_iff] at h
 obtain ⟨z, hz, e, he, h⟩ := h
 obtain ⟨q1, q2⟩ := Af hz
 obtain ⟨q3, q4⟩ := Af he
 split at h <;> try (simp at h; done)
 rename_i hc
 simp at h
 subst h
 refine ⟨?_, q2, q4⟩
 show D.ref _ 0 = .ref (ZC _) 0
 unfold ZC
 have : ((e.natAbs : Nat) : Int) = e := by omega
 rw [q1, q3]
 simp only [this]
def Good (g : Nat) (p : List D → Option D) : Prop := ∀ args d, p args = some d → L.call g args = some d
def a1 {α : Type} (dec : D → Option α) (f : α → Option D) : List D → Option D
 | [x] => (dec x).bind f
 | _ => none
def a2 {α β : Type} (dec : D → Option α) (dec' : D → Option β) (f : α → β → Option D) : List D → Option D
 | [x, y] => (dec x).bind fun a => (dec' y).bind fun b => f a b
 | _ => none
theorem Ej {α : Type} {dec : D → Option α} {f : α → Option D} {g : Nat} (h : ∀ x a d, dec x = some a → f a = some d → L.call g [x] = some d) : Good g (a1 dec f) := by
 intro args d hd
 unfold a1 at hd
 split at hd <;> try (simp at hd; done)
 rw [Option.bind_eq_some_iff] at hd
 obtain ⟨a, ha, hd⟩ := hd
 exact h _ a d ha hd
theorem Kw {α β : Type} {dec : D → Option α} {dec' : D → Option β} {f : α → β → Option D} {g : Nat} (h : ∀ x y a b d, dec x = some a → dec' y = some b → f a b = some d → L.call g [x, y] = some d) : Good g (a2 dec dec' f) := by
 intro args d hd
 unfold a2 at hd
 split at hd <;> try (simp at hd; done)
 simp only [Option.bind_eq_some_iff] at hd
 obtain ⟨a, ha, b, hb, hd⟩ := hd
 exact h _ _ a b d ha hb hd
theorem Uy {f : Nat → Nat → Option D} {g : Nat} (h : ∀ a b d, NB 64000 a → NB 64000 b → f a b = some d → L.call g [dN a, dN b] = some d) : Good g (a2 rJ rJ f) :=
 Kw fun x y a b d hx hy hf => by rw [(Ag hx).1, (Ag hy).1]; exact h a b d (Ag hx).2 (Ag hy).2 hf
theorem alx {f : Nat → Option D} {g : Nat} (h : ∀ a d, NB 64000 a → f a = some d → L.call g [dN a] = some d) : Good g (a1 rJ f) :=
 Ej fun x a d hx hf => by rw [(Ag hx).1]; exact h a d (Ag hx).2 hf
theorem Uw {f : Int → Int → Option D} {g : Nat} (h : ∀ a b d, IB 64000 a → IB 64000 b → f a b = some d → L.call g [intD a, intD b] = some d) : Good g (a2 pV pV f) :=
 Kw fun x y a b d hx hy hf => by rw [(Af hx).1, (Af hy).1]; exact h a b d (Af hx).2 (Af hy).2 hf
theorem ach {f : Int → Option D} {g : Nat} (h : ∀ a d, IB 64000 a → f a = some d → L.call g [intD a] = some d) : Good g (a1 pV f) :=
 Ej fun x a d hx hf => by rw [(Af hx).1]; exact h a d (Af hx).2 hf
theorem Yi {f : Rat → Rat → Option D} {g : Nat} (h : ∀ a b d, RB 64000 a → RB 64000 b → f a b = some d → L.call g [d_ a, d_ b] = some d) : Good g (a2 uy uy f) :=
 Kw fun x y a b d hx hy hf => by rw [(Hq hx).1, (Hq hy).1]; exact h a b d (Hq hx).2 (Hq hy).2 hf
theorem acn {f : Rat → Option D} {g : Nat} (h : ∀ a d, RB 64000 a → f a = some d → L.call g [d_ a] = some d) : Good g (a1 uy f) :=
 Ej fun x a d hx hf => by rw [(Hq hx).1]; exact h a d (Hq hx).2 hf
def agX : D → Option (List UInt8)
 | .str s => if s.length ≤ 1000 then some s else none
 | _ => none
theorem afY {d : D} {s : List UInt8} (h : agX d = some s) : d = .str s ∧ s.length ≤ 1000 := by
 unfold agX at h
 split at h <;> try (simp at h; done)
 split at h <;> try (simp at h; done)
 simp at h
 subst h
 exact ⟨rfl, by assumption⟩
def akp : D → Option Bool
 | .bool b => some b
 | _ => none
theorem al9 {d : D} {b : Bool} (h : akp d = some b) : d = .bool b := by
 unfold akp at h
 split at h <;> simp at h
 rw [h]
def En : D → Option Int
 | .int .i64 n => if -9223372036854775808 ≤ n ∧ n ≤ 9223372036854775807 then some n else none
 | _ => none
theorem pU {d : D} {n : Int} (h : En d = some n) : d = .int .i64 n ∧ (-9223372036854775808 ≤ n ∧ n ≤ 9223372036854775807) := by
 unfold En at h
 split at h <;> try (simp at h; done)
 split at h <;> try (simp at h; done)
 simp at h
 subst h
 exact ⟨rfl, by assumption⟩
def akq : D → Option Nat
 | .int .u64 n => if 0 ≤ n ∧ n < 18446744073709551616 then some n.toNat else none
 | _ => none
theorem afZ {d : D} {n : Nat} (h : akq d = some n) : d = aT n ∧ n < W := by
 unfold akq at h
 split at h <;> try (simp at h; done)
 split at h <;> try (simp at h; done)
 rename_i z hz
 simp at h
 subst h
 refine ⟨?_, by unfold W; omega⟩
 show D.int _ _ = .int _ _
 congr 1; omega
end Go.Ev.Code
end
section
namespace Go.Ev.Code
open Go Go.Ev
theorem akM {n f : Nat} {args : List D} {d : D} (h : (TT.jT n).call f args = some d) : L.call f args = some d := by
 rw [Jt] at h
 obtain ⟨⟨r, m⟩, hr⟩ := yT h
 rw [hr] at h
 exact ru (Ah.2 ⟨n, hr⟩) h
def Yq : D := .agg [.int .i64 1, .int .i64 1, .int .i64 1, .int .i64 0, .int .i64 0, .bool false]
theorem ahc : L.call I8 [Yq] = some (.bool true) := akM (n := 30) (by kernel_rfl)
theorem ajD {n a b : Int} (h1 : a ≤ n) (h2 : n ≤ b) : L.call kT [.int .i64 n, .int .i64 a, .int .i64 b] = some (.bool true) := by
 refine aX abp rfl (aaW ..) ?_
 simp [Qk, h1, h2]
theorem aha {y : Nat} (h1 : 1900 ≤ y) (h2 : y ≤ 2199) : L.call CY [Yq, .int .i64 y] = some (.bg [.int .i64 (dY y), .bool true]) := by
 have hm := ahc
 have hd := XC (y := y) (m := 1) (d := 1) h1 h2 (by decide) (by decide) (by decide) (by simp [bP])
 have e : dayOf y 1 1 = dY y := by simp [dayOf, dH]
 rw [e] at hd
 have hb := Iz (y := y) (by omega)
 have hb' : dY y ≤ 109572 := by unfold dY; omega
 have hw := ajD (n := dY y) (a := 0) (b := 109572) (by omega) (by omega)
 unfold jS at hd
 unfold Yq at hm ⊢
 generalize dY y = b at *
 refine aX agL rfl (agE ..) ?_
 simp [Yu, hm, hd, hw] at *
def yB : Nat → List Int
 | 0 => []
 | k + 1 => ((dY (1900 + k) : Nat) : Int) :: yB k
theorem ano {y : Nat} (h1 : 1900 ≤ y) (h2 : y ≤ 2199) : dY y < dY (y + 1) := by unfold dY; omega
theorem af_ : ∀ {k : Nat}, k ≤ 300 → ∀ z ∈ yB k, z < (dY (1900 + k) : Nat)
 | 0, _, z, hz => by simp [yB] at hz
 | k + 1, hk, z, hz => by
   have := ano (y := 1900 + k) (by omega) (by omega)
   simp only [yB, List.mem_cons] at hz
   rcases hz with rfl | hz
   ·have e : 1900 + k + 1 = 1900 + (k + 1) := by omega
    rw [e] at this; omega
   ·have h := af_ (k := k) (by omega) z hz
    have e : 1900 + k + 1 = 1900 + (k + 1) := by omega
    rw [e] at this; omega
theorem aiV {k : Nat} (hk : k < 300) : SH (yB k) ((dY (1900 + k) : Nat) : Int) = yB (k + 1) := by
 have : (yB k).contains ((dY (1900 + k) : Nat) : Int) = false := by
  rw [← Bool.not_eq_true, List.contains_iff_mem]
  intro h
  have := af_ (k := k) (by omega) _ h
  omega
 unfold SH
 rw [this]
 rfl
def DZ : D := .sl 1 [.int .i64 1, .int .i64 1, .int .i64 1, .int .i64 0, .int .i64 0, .bool false]
theorem akI (j : Nat) : ∀ k, k + j = 300 →
  L.loop [6, 10, 11, 47, 48, 49] [6, 47, 48, 49] AA 3 [.loc 1 0, .loc 2 0, .int .i64 ((1900 + k : Nat) : Int), DZ, .int .i64 1, .int .i64 0] [.mp (yB k), .live [.lmap 0], .live [.int .i64 1, .int .i64 1, .int .i64 1, .int .i64 0, .int .i64 0, .bool false]] =
    some (.exit 5, [.loc 1 0, DZ, .int .i64 1, .int .i64 0], [.mp (yB 300), .live [.lmap 0], .live [.int .i64 1, .int .i64 1, .int .i64 1, .int .i64 0, .int .i64 0, .bool false]]) := by
 induction j with
 | zero =>
   intro k hk
   have : k = 300 := by omega
   subst this
   refine aU (QY ..) ?_
   simp [JI, DZ]
 | succ j ih =>
   intro k hk
   have hd := aha (y := 1900 + k) (by omega) (by omega)
   have hn := ih (k + 1) (by omega)
   have hi := aiV (k := k) (by omega)
   have h1 : ((1900 + k : Nat) : Int) ≤ 2199 := by omega
   have h2 : IntKind.i64.wrap (((1900 + k : Nat) : Int) + 1) = ((1900 + (k + 1) : Nat) : Int) := by rw [wrap64 _ (by omega)]; omega
   generalize 1900 + (k + 1) = y' at *
   generalize 1900 + k = y at *
   generalize dY y = b at *
   generalize yB (k + 1) = js at *
   generalize yB k = jk at *
   generalize yB 300 = jz at *
   unfold Yq at hd
   refine aU (QY ..) ?_
   unfold DZ at *
   simp [JI, LP, h1, h2, hd, hi, hn]
theorem ac3 : L.call jE [DZ, .func La []] = some (.bool false) := akM (n := 40) (by kernel_rfl)
theorem abP : L.call lX [.sl 0 [], .func Lc []] = some (.bool false) := akM (n := 40) (by kernel_rfl)
theorem aiq : L.call Ho [DZ, .sl 0 []] = some (.bg [.ref [.nI (yB 300)] 0, .aC]) := by
 have h1 := ac3
 have h2 := abP
 have h3 := akI 300 0 (by omega)
 refine aX ah7 rfl (ahZ ..) ?_
 generalize yB 300 = jz at *
 unfold DZ at *
 simp [yB] at h3
 have l1 : L.loop [0, 6, 35, 36, 37] [0, 6] Az 2 [.sl 1 [.int .i64 1, .int .i64 1, .int .i64 1, .int .i64 0, .int .i64 0, .bool false], .loc 1 0, .sl 0 [], .int .i64 0, .int .i64 0] [.mp [], .live [.lmap 0]] = some (.exit 1, [.sl 1 [.int .i64 1, .int .i64 1, .int .i64 1, .int .i64 0, .int .i64 0, .bool false], .loc 1 0], [.mp [], .live [.lmap 0]]) := by
  refine aU (acA ..) ?_
  simp [TS]
 have l3 : L.loop [6, 47, 48, 49] [6] xK 2 [.loc 1 0, .sl 1 [.int .i64 1, .int .i64 1, .int .i64 1, .int .i64 0, .int .i64 0, .bool false], .int .i64 1, .int .i64 1] [.mp jz, .live [.lmap 0]] = some (.exit 3, [.loc 1 0], [.mp jz, .live [.lmap 0]]) := by
  refine aU (QZ ..) ?_
  simp [JJ]
 have l2 : L.loop [6, 47, 48, 49] [6] xK 2 [.loc 1 0, .sl 1 [.int .i64 1, .int .i64 1, .int .i64 1, .int .i64 0, .int .i64 0, .bool false], .int .i64 1, .int .i64 0] [.mp [], .live [.lmap 0]] = some (.exit 3, [.loc 1 0], [.mp jz, .live [.lmap 0]]) := by
  refine aU (QZ ..) ?_
  have e1 : IntKind.i64.wrap 1 = 1 := by decide
  simp [JJ, h3, e1, l3]
 simp [aaA, h1, h2, WW, l1, l2]
end Go.Ev.Code
end
section
namespace Go.Ev.Code
open Go Go.Ev
theorem ft {n : Nat} (h : NB 64000 n) : Fit n := h.fit (by decide)
theorem wr {n : Nat} (h : NB 64000 n) : Wri n := h.wri (by decide) (by decide)
def Xp : List D → Option D := a1 akq fun n => some (dN n)
theorem afl : Good fD Xp := Ej fun x n d hx hf => by
   rw [(afZ hx).1, ← Option.some.inj hf]; exact oZ n (afZ hx).2
def Ip : List D → Option D := a1 rJ fun n => some (.bool (Nat.beq n 0))
theorem U0 : Good dX Ip := alx fun a d ha hf => by
   rw [← Option.some.inj hf, afw]
   congr 2
   by_cases h : a = 0
   ·subst h; rfl
   ·rw [decide_eq_false h]
    cases hb : Nat.beq a 0 with
    | false => rfl
    | true => exact absurd (Nat.eq_of_beq_eq_true hb) h
def KD : List D → Option D := a2 rJ rJ fun a b => some (.int .i64 (sK a b))
theorem V9 : Good jA KD := Uy fun a b d ha hb hf => by rw [← Option.some.inj hf]; exact O8 (ft ha) (ft hb)
def KC : List D → Option D := a2 rJ rJ fun a b => some (dN (a + b))
theorem V8 : Good iw KC := Uy fun a b d ha hb hf => by rw [← Option.some.inj hf]; exact O7 (ft ha) (ft hb)
def KH : List D → Option D := a2 rJ rJ fun a b => if b ≤ a then some (.bg [dN (a - b), .aC]) else none
theorem Wj : Good kU KH := Uy fun a b d ha hb hf => by
   split at hf <;> try (simp at hf; done)
   rw [← Option.some.inj hf]; exact Bd (ft ha) (ft hb) (by assumption)
def KG : List D → Option D := a2 rJ rJ fun a b => some (dN (a * b))
theorem Wi : Good fK KG := Uy fun a b d ha hb hf => by rw [← Option.some.inj hf]; exact xQ (ft ha) (ft hb)
def KE : List D → Option D := a2 rJ rJ fun a b => if b ≠ 0 then some (.bg [dN (a / b), dN (a % b), .aC]) else none
theorem V_ : Good gJ KE := Uy fun a b d ha hb hf => by
   split at hf <;> try (simp at hf; done)
   rw [← Option.some.inj hf]; exact Ba (ft ha) (ft hb) (by assumption)
def KF : List D → Option D := a2 rJ rJ fun a b => some (dN (Nat.gcd a b))
theorem Wh : Good oW KF := Uy fun a b d ha hb hf => by rw [← Option.some.inj hf]; exact X9 (ft ha) (ft hb)
def Io : List D → Option D := a1 rJ fun a => some (.str (txt a))
theorem UZ : Good iQ Io := alx fun a d ha hf => by rw [← Option.some.inj hf]; exact Vw (ft ha) (wr ha)
def Vd : List D → Option D := a1 agX fun s => if uj s then some (.bg [dN (iG 0 s), .aC]) else some (.bg [.aO, wQ 1])
theorem adu : Good jP Vd := Ej fun x s d hx hf => by
   obtain ⟨rfl, hs⟩ := afY hx
   split at hf
   ·rw [← Option.some.inj hf]; exact Bc (by assumption)
   ·rw [← Option.some.inj hf]; exact Vu (by assumption) (by omega)
def Ve : List D → Option D := a2 akp rJ fun b n => some (intD (if b then -(n : Int) else n))
theorem adv : Good eU Ve := Kw fun x y b n d hx hy hf => by rw [al9 hx, (Ag hy).1, ← Option.some.inj hf]; exact ahm b n
def KI : List D → Option D := a1 pV fun z => some (dN z.natAbs)
theorem Wn : Good bf KI := ach fun a d ha hf => by rw [← Option.some.inj hf]; exact ahk a
def Iq : List D → Option D := a1 pV fun z => some (.int .i64 z.sign)
theorem U1 : Good bZ Iq := ach fun a d ha hf => by rw [← Option.some.inj hf]; exact afy a
def KO : List D → Option D := a1 pV fun z => some (intD (-z))
theorem Wu : Good ng KO := ach fun a d ha hf => by rw [← Option.some.inj hf]; exact ahl a
def KJ : List D → Option D := a2 pV pV fun a b => some (intD (a + b))
theorem Wp : Good fM KJ := Uw fun a b d ha hb hf => by rw [← Option.some.inj hf]; exact He ha hb (by decide) (by decide)
def KP : List D → Option D := a2 pV pV fun a b => some (intD (a - b))
theorem Wv : Good rV KP := Uw fun a b d ha hb hf => by rw [← Option.some.inj hf]; exact Ya ha hb (by decide) (by decide)
def KL : List D → Option D := a2 pV pV fun a b => some (.int .i64 (a - b).sign)
theorem Wq : Good m_ KL := Uw fun a b d ha hb hf => by rw [← Option.some.inj hf]; exact O9 ha hb (by decide) (by decide)
def KN : List D → Option D := a2 pV pV fun a b => some (intD (a * b))
theorem Ws : Good bU KN := Uw fun a b d ha hb hf => by rw [← Option.some.inj hf]; exact ni ha hb (by decide) (by decide)
def Xq : List D → Option D := a1 En fun n => some (intD n)
theorem afm : Good gU Xq := Ej fun x n d hx hf => by rw [(pU hx).1, ← Option.some.inj hf]; exact Tf n (pU hx).2
def Ir : List D → Option D := a1 pV fun z => some (.str (GH z))
theorem U2 : Good gZ Ir := ach fun a d ha hf => by rw [← Option.some.inj hf]; exact MS ha (by decide) (by decide)
def Vg : List D → Option D := a2 pV pV fun n d => if d ≠ 0 then some (.bg [d_ (Rat.divInt n d), .aC]) else none
theorem adx : Good kJ Vg := Uw fun a b d ha hb hf => by
   split at hf <;> try (simp at hf; done)
   rw [← Option.some.inj hf]; exact Bl ha hb (by decide) (by decide) (by assumption)
def Rq : List D → Option D := a2 pV pV fun n d => if d ≠ 0 then some (d_ (Rat.divInt n d)) else none
theorem abZ : Good qg Rq := Uw fun a b d ha hb hf => by
   split at hf <;> try (simp at hf; done)
   rw [← Option.some.inj hf]; exact Et ha hb (by decide) (by decide) (by assumption)
def Xr : List D → Option D := a2 En En fun n d => if d ≠ 0 then some (.bg [d_ (Rat.divInt n d), .aC]) else none
theorem afn : Good iD Xr := Kw fun x y a b d hx hy hf => by
   split at hf <;> try (simp at hf; done)
   rw [(pU hx).1, (pU hy).1, ← Option.some.inj hf]
   exact Am (pU hx).2 (pU hy).2 (by assumption)
def KX : List D → Option D := a1 uy fun q => some (intD q.num)
theorem WE : Good b_ KX := acn fun a d ha hf => by rw [← Option.some.inj hf]; exact ahz a
def KT : List D → Option D := a1 uy fun q => some (intD (q.den : Int))
theorem WA : Good bM KT := acn fun a d ha hf => by rw [← Option.some.inj hf]; exact ahx a
def Iw : List D → Option D := a1 uy fun q => some (.int .i64 q.num.sign)
theorem U4 : Good jr Iw := acn fun a d ha hf => by rw [← Option.some.inj hf]; exact Nc a
def KQ : List D → Option D := a2 uy uy fun a b => some (d_ (a + b))
theorem Wx : Good iZ KQ := Yi fun a b d ha hb hf => by rw [← Option.some.inj hf]; exact Bj ha hb (by decide)
def KY : List D → Option D := a2 uy uy fun a b => some (d_ (a - b))
theorem WG : Good nD KY := Yi fun a b d ha hb hf => by rw [← Option.some.inj hf]; exact ahA ha hb (by decide)
def KW : List D → Option D := a2 uy uy fun a b => some (d_ (a * b))
theorem WC : Good iy KW := Yi fun a b d ha hb hf => by rw [← Option.some.inj hf]; exact PI ha hb (by decide)
def KU : List D → Option D := a2 uy uy fun a b => if b.num = 0 then none else some (.bg [d_ (a / b), .aC])
theorem WB : Good o9 KU := Yi fun a b d ha hb hf => by
   split at hf <;> try (simp at hf; done)
   rename_i h0
   rw [← Option.some.inj hf]; exact ahy ha hb (by decide) (fun h => h0 (by rw [h]; rfl))
def KR : List D → Option D := a2 uy uy fun a b => some (.int .i64 (OI a b))
theorem Wy : Good kV KR := Yi fun a b d ha hb hf => by rw [← Option.some.inj hf]; exact PG ha hb (by decide)
def Iy : List D → Option D := a1 uy fun q => some (.str (PV q))
theorem U5 : Good fP Iy := acn fun a d ha hf => by rw [← Option.some.inj hf]; exact yV ha (by decide) (by decide)
def Vb : List D → Option D := a1 agX fun s => some (zG (uw s))
theorem adt : Good vM Vb := Ej fun x s d hx hf => by
   obtain ⟨rfl, hs⟩ := afY hx
   rw [← Option.some.inj hf]; exact XE (by omega)
def vJ : D → Option aW
 | .agg [.int .i64 i, .int .i64 m, .int .i64 f, .str c, .str r, .int .i64 n, .int .i64 s, .bool e, .int .i64 x] => if c.length ≤ 1000 ∧ r.length ≤ 1000 then some ⟨i, m, f, c, r, n, s, e, x⟩ else none
 | _ => none
theorem oN {d : D} {b : aW} (h : vJ d = some b) : d = dB b ∧ b.iM.length ≤ 1000000 ∧ b.iT.length ≤ 1000000 := by
 unfold vJ at h
 split at h <;> try (simp at h; done)
 split at h <;> try (simp at h; done)
 rename_i hl
 simp at h
 subst h
 exact ⟨rfl, by simp only; omega, by simp only; omega⟩
theorem Xt {f : aW → Option D} {g : Nat} (h : ∀ b d, b.iM.length ≤ 1000000 → b.iT.length ≤ 1000000 → f b = some d → L.call g [dB b] = some d) : Good g (a1 vJ f) :=
 Ej fun x a d hx hf => by rw [(oN hx).1]; exact h a d (oN hx).2.1 (oN hx).2.2 hf
def NI : List D → Option D := a1 vJ fun b => some (dU (chk b))
theorem XQ : Good gW NI := Xt fun b d hc hr hf => by rw [← Option.some.inj hf]; exact qO hc hr
def Kz : List D → Option D := a1 vJ fun b => some (.int .i64 (months b))
theorem V6 : Good jy Kz := Xt fun b d hc hr hf => by rw [← Option.some.inj hf]; exact Ce b
def Ky : List D → Option D := a1 vJ fun b => some (d_ (Vl b))
theorem V5 : Good jR Ky := Xt fun b d hc hr hf => by rw [← Option.some.inj hf]; exact Cc hc hr
def KA : List D → Option D := a1 vJ fun b => some (d_ (vw b))
theorem V7 : Good oV KA := Xt fun b d hc hr hf => by rw [← Option.some.inj hf]; exact Ci hc hr
def Vf : List D → Option D := a1 vJ fun b => some (rE (gq b))
theorem adw : Good fV Vf := Xt fun b d hc hr hf => by rw [← Option.some.inj hf]; exact oQ hc hr
def NK : List D → Option D := a2 vJ En fun b n => some (WT b n)
theorem XT : Good ny NK := Kw fun x y b n d hx hy hf => by
 rw [(oN hx).1, (pU hy).1, ← Option.some.inj hf]; exact zo (oN hx).2.1 (oN hx).2.2 n
def decP : D → Option (Int × Int)
 | .agg [.int .i64 a, .int .i64 b] => some (a, b)
 | _ => none
theorem al_ {d : D} {p : Int × Int} (h : decP d = some p) : d = pD p := by
 unfold decP at h
 split at h <;> simp at h
 subst h; rfl
def Iu : List D → Option D := a2 vJ decP fun b p => some (.bool (regular b p))
theorem U3 : Good g_ Iu := Kw fun x y b p d hx hy hf => by
 rw [(oN hx).1, al_ hy, ← Option.some.inj hf]; exact wJ (oN hx).2.1 (oN hx).2.2 p
def GI : List D → Option D := a2 En En fun a b => if bW a ∧ bW b then some (.int .i64 (mD a b)) else none
theorem SG : Good iO GI := Kw fun x y a b d hx hy hf => by
 split at hf <;> try (simp at hf; done)
 rename_i h
 rw [(pU hx).1, (pU hy).1, ← Option.some.inj hf]; exact A8 h.1 h.2
def Il : List D → Option D := a1 En fun n => some (.int .i64 (Uf n))
theorem UY : Good eH Il := Ej fun x n d hx hf => by rw [(pU hx).1, ← Option.some.inj hf]; exact wI n
def Mc : List D → Option D
 | [.sl 1 [.int .i64 a, .int .i64 b, .int .i64 c, .int .i64 d, .int .i64 e, .bool false], .sl 0 []] => if a = 1 ∧ b = 1 ∧ c = 1 ∧ d = 0 ∧ e = 0 then some (.bg [.ref [.nI (yB 300)] 0, .aC]) else none
 | _ => none
theorem ads : Good Ho Mc := by
 intro args d h
 unfold Mc at h
 split at h <;> try (simp at h; done)
 rename_i a b c d' e
 split at h <;> try (simp at h; done)
 rename_i hc
 obtain ⟨rfl, rfl, rfl, rfl, rfl⟩ := hc
 rw [← Option.some.inj h]
 exact aiq
def NJ : List D → Option D := a1 En fun n => if bW n then some (.bg [jS (jq n.toNat).1 (jq n.toNat).2.1 (jq n.toNat).2.2, .aC]) else some (.bg [jS 0 0 0, wQ 4])
theorem XR : Good eG NJ := Ej fun x n d hx hf => by
 rw [(pU hx).1]
 split at hf
 ·rename_i h
  obtain ⟨y, m, dd, hc, hd, ho⟩ := eF h
  rw [← Option.some.inj hf, ho, hd]
  exact n_ hc
 ·rename_i h
  rw [← Option.some.inj hf]; exact NR h
def Fg : List D → Option D
 | [.int .i64 a, .int .i64 n, .bool e] => some (jl (kZ a n e))
 | _ => none
theorem Zo : Good lN Fg := by
 intro args d h
 unfold Fg at h
 split at h <;> try (simp at h; done)
 rw [← Option.some.inj h]; exact MQ _ _ _
def aie : List (Nat × (List D → Option D)) :=
 [(fD, Xp), (dX, Ip), (jA, KD), (iw, KC), (kU, KH), (fK, KG), (gJ, KE), (oW, KF), (iQ, Io), (jP, Vd), (eU, Ve), (bf, KI), (bZ, Iq), (ng, KO), (fM, KJ), (rV, KP), (m_, KL), (bU, KN), (gU, Xq), (gZ, Ir), (kJ, Vg), (qg, Rq), (iD, Xr), (b_, KX), (bM, KT), (jr, Iw), (iZ, KQ), (nD, KY), (iy, KW), (o9, KU), (kV, KR), (fP, Iy), (vM, Vb), (gW, NI), (jy, Kz), (jR, Ky), (oV, KA), (fV, Vf), (ny, NK), (g_, Iu), (iO, GI), (eH, Il), (Ho, Mc), (eG, NJ), (lN, Fg)]
def Nr : List (Nat × (List D → Option D)) → Prop
 | [] => True
 | p :: r => Good p.1 p.2 ∧ Nr r
theorem Nr.look : ∀ {l : List (Nat × (List D → Option D))} {n : Nat} {p : List D → Option D}, Nr l → zn l n = some p → Good n p
 | [], n, p, _, h => by simp [zn] at h
 | (i, x) :: r, n, p, ⟨h1, h2⟩, h => by
   simp only [zn, cond_eq_ite] at h
   split at h
   ·rename_i hb
    simp at h
    subst h
    rw [← Nat.eq_of_beq_eq_true hb]
    exact h1
   ·exact Nr.look h2 h
theorem aif : Nr aie :=
 ⟨afl, U0, V9, V8, Wj, Wi, V_, Wh, UZ, adu, adv, Wn, U1, Wu, Wp, Wv, Wq, Ws, afm, U2, adx, abZ, afn, WE, WA, U4, Wx, WG, WC, WB, Wy, U5, adt, XQ, V6, V5, V7, adw, XT, U3, SG, UY, ads, XR, Zo, trivial⟩
def pR : Nat → aJ
 | 0 => ⟨fun _ _ _ => none, fun _ _ _ _ _ _ => none, fun _ _ => none⟩
 | n + 1 =>
   ⟨fun f args m => match TT.fn f with
    | some ef => ef.step (pR n) args m
    | none => TT.iR f args m,
    fun ins outs body base vals m => xg (pR n) ins outs body base vals m,
    fun f args => match (match zn aie f with
      | some p => p args
      | none => none) with
     | some d => some d
     | none => qc (match TT.fn f with
       | some ef => ef.step (pR n) args []
       | none => TT.iR f args [])⟩
theorem aii : ∀ n, (pR n).le L
 | 0 => ⟨fun f args m r h => by simp [pR] at h, fun _ _ _ _ _ _ r h => by simp [pR] at h, fun _ _ r h => by simp [pR] at h⟩
 | n + 1 => by
   have ih := aii n
   have hca : ∀ f args m r, (pR (n + 1)).aY f args m = some r → L.aY f args m = some r := by
    intro f args m r h
    simp only [pR] at h
    split at h
    ·rename_i ef he
     exact adE he (Zt Ll ih h)
    ·rename_i he
     exact adG he h
   refine ⟨hca, fun ins outs body base vals m r h => aak (Tc Ll ih h), fun f args d h => ?_⟩
   simp only [pR] at h
   split at h
   ·rename_i d' hd
    split at hd
    ·rename_i p hp
     rw [← h]
     exact aif.look hp args d' hd
    ·simp at hd
   ·obtain ⟨r, h1⟩ := yT h
    show qc (L.aY f args []) = some d
    rw [hca f args [] r (by simp only [pR]; exact h1), ← h1, h]
theorem VJ (n : Nat) {f : Nat} {args : List D} {d : D} (h : (pR n).call f args = some d) : L.call f args = some d := (aii n).call f args d h
end Go.Ev.Code
end
