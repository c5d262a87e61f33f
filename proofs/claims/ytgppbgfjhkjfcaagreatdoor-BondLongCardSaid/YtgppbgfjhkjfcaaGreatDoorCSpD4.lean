/- A part of the proof of planLone_card, bondLong_card. -/
import Derived.Test.YtgppbgfjhkjfcaaGreatDoorCSpC
import Derived.Test.YtgppbgfjhkjfcaaGreatDoorCSpD1
set_option linter.unusedVariables false
set_option linter.unusedSimpArgs false
section
namespace Go.Ev.Code
open Go Go.Ev
def acU : List D → Option (List Nat)
 | [] => some []
 | .int .u64 x :: ds => if 0 ≤ x ∧ x < 18446744073709551616 then (acU ds).bind fun l => some (x.toNat :: l) else none
 | _ => none
theorem afQ : ∀ {cs : List D} {l : List Nat}, acU cs = some l → cs = l.map aG ∧ Small l
 | [], l, h => by simp [acU] at h; subst h; exact ⟨rfl, fun x hx => by simp at hx⟩
 | d :: ds, l, h => by
   unfold acU at h
   split at h <;> try (simp at h; done)
   ·rename_i heq; simp at heq
   ·rename_i x ds' heq
    simp at heq
    obtain ⟨rfl, rfl⟩ := heq
    split at h <;> try (simp at h; done)
    rename_i hx
    rw [Option.bind_eq_some_iff] at h
    obtain ⟨l', hl', h⟩ := h
    simp at h
    subst h
    obtain ⟨q1, q2⟩ := afQ hl'
    have hx' : (x.toNat : Int) = x := by omega
    refine ⟨by simp [q1, hx'], fun y hy => ?_⟩
    simp at hy
    rcases hy with rfl | hy
    ·unfold W; omega
    ·exact q2 y hy
def Xv : List Nat → Bool
 | [] => true
 | [x] => !(Nat.beq x 0)
 | _ :: y :: ys => Xv (y :: ys)
theorem ZX : ∀ {l : List Nat}, Xv l = true → ∀ h : l ≠ [], l.getLast h ≠ 0
 | [], _, h => absurd rfl h
 | [x], h, _ => by
   simp only [Xv, Bool.not_eq_true'] at h
   intro hx
   simp at hx
   subst hx
   simp at h
 | x :: y :: ys, h, hne => by
   rw [List.getLast_cons (by simp)]
   exact ZX (l := y :: ys) h _
def uz : D → Option Nat
 | .ref [.sl k cs] 0 => (acU cs).bind fun l => if k = l.length ∧ l.length ≤ 1000 ∧ Xv l = true then some (val l) else none
 | _ => none
theorem Ci {d : D} {n : Nat} (h : uz d = some n) : d = b_ n ∧ NB 64000 n := by
 unfold uz at h
 split at h <;> try (simp at h; done)
 rename_i k cs
 rw [Option.bind_eq_some_iff] at h
 obtain ⟨l, hl, h⟩ := h
 split at h <;> try (simp at h; done)
 rename_i hc
 simp at h
 subst h
 obtain ⟨q1, q2⟩ := afQ hl
 have hcan : Canon l := ⟨q2, ZX hc.2.2⟩
 refine ⟨?_, ?_⟩
 ·show D.ref [.sl k cs] 0 = .ref (Dy (val l)) 0
  unfold Dy
  rw [Sj hcan, q1, hc.1]
 ·have : NB (64 * l.length) (val l) := by
   unfold NB
   have := GI q2
   rw [nK, ← Nat.pow_mul] at this
   exact this
  exact this.mono (by omega)
def qW : D → Option Int
 | .ref [.bool b, dn] 0 => (uz dn).bind fun n => if b then (if n = 0 then none else some (-(n : Int))) else some (n : Int)
 | _ => none
theorem Ce {d : D} {z : Int} (h : qW d = some z) : d = intD z ∧ IB 64000 z := by
 unfold qW at h
 split at h <;> try (simp at h; done)
 rename_i b dn
 rw [Option.bind_eq_some_iff] at h
 obtain ⟨n, hn, h⟩ := h
 obtain ⟨q1, q2⟩ := Ci hn
 subst q1
 split at h
 ·rename_i hb
  split at h <;> try (simp at h; done)
  rename_i hn0
  simp at h
  subst h
  subst hb
  refine ⟨?_, (IB.ofNat q2).neg⟩
  show D.ref _ 0 = .ref (Js _) 0
  unfold Js
  have h1 : -(n : Int) < 0 := by omega
  have h2 : (-(n : Int)).natAbs = n := by omega
  rw [h2, decide_eq_true h1]
 ·rename_i hb
  simp at h hb
  subst h
  subst hb
  refine ⟨?_, IB.ofNat q2⟩
  show D.ref _ 0 = .ref (Js _) 0
  unfold Js
  have h1 : ¬ (n : Int) < 0 := by omega
  have h2 : ((n : Int)).natAbs = n := by omega
  rw [h2, decide_eq_false h1]
def vV : D → Option Rat
 | .ref [dn, dd] 0 => (qW dn).bind fun z => (qW dd).bind fun e => if h : 0 < e ∧ Nat.gcd z.natAbs e.natAbs = 1 then some ⟨z, e.natAbs, by omega, h.2⟩ else none
 | _ => none
theorem Iw {d : D} {q : Rat} (h : vV d = some q) : d = dI q ∧ RB 64000 q := by
 unfold vV at h
 split at h <;> try (simp at h; done)
 rename_i dn dd
 simp only [Option.bind_eq_some_iff] at h
 obtain ⟨z, hz, e, he, h⟩ := h
 obtain ⟨q1, q2⟩ := Ce hz
 obtain ⟨q3, q4⟩ := Ce he
 split at h <;> try (simp at h; done)
 rename_i hc
 simp at h
 subst h
 refine ⟨?_, q2, q4⟩
 show D.ref _ 0 = .ref (Zu _) 0
 unfold Zu
 have : ((e.natAbs : Nat) : Int) = e := by omega
 rw [q1, q3]
 simp only [this]
def Good (g : Nat) (p : List D → Option D) : Prop := ∀ args d, p args = some d → L.call g args = some d
def a1 {α : Type} (dec : D → Option α) (f : α → Option D) : List D → Option D
 | [x] => (dec x).bind f
 | _ => none
def a2 {α β : Type} (dec : D → Option α) (dec' : D → Option β) (f : α → β → Option D) : List D → Option D
 | [x, y] => (dec x).bind fun a => (dec' y).bind fun b => f a b
 | _ => none
theorem Fa {α : Type} {dec : D → Option α} {f : α → Option D} {g : Nat} (h : ∀ x a d, dec x = some a → f a = some d → L.call g [x] = some d) : Good g (a1 dec f) := by
 intro args d hd
 unfold a1 at hd
 split at hd <;> try (simp at hd; done)
 rw [Option.bind_eq_some_iff] at hd
 obtain ⟨a, ha, hd⟩ := hd
 exact h _ a d ha hd
theorem KA {α β : Type} {dec : D → Option α} {dec' : D → Option β} {f : α → β → Option D} {g : Nat} (h : ∀ x y a b d, dec x = some a → dec' y = some b → f a b = some d → L.call g [x, y] = some d) : Good g (a2 dec dec' f) := by
 intro args d hd
 unfold a2 at hd
 split at hd <;> try (simp at hd; done)
 simp only [Option.bind_eq_some_iff] at hd
 obtain ⟨a, ha, b, hb, hd⟩ := hd
 exact h _ _ a b d ha hb hd
theorem Ub {f : Nat → Nat → Option D} {g : Nat} (h : ∀ a b d, NB 64000 a → NB 64000 b → f a b = some d → L.call g [b_ a, b_ b] = some d) : Good g (a2 uz uz f) :=
 KA fun x y a b d hx hy hf => by rw [(Ci hx).1, (Ci hy).1]; exact h a b d (Ci hx).2 (Ci hy).2 hf
theorem ali {f : Nat → Option D} {g : Nat} (h : ∀ a d, NB 64000 a → f a = some d → L.call g [b_ a] = some d) : Good g (a1 uz f) :=
 Fa fun x a d hx hf => by rw [(Ci hx).1]; exact h a d (Ci hx).2 hf
theorem TY {f : Int → Int → Option D} {g : Nat} (h : ∀ a b d, IB 64000 a → IB 64000 b → f a b = some d → L.call g [intD a, intD b] = some d) : Good g (a2 qW qW f) :=
 KA fun x y a b d hx hy hf => by rw [(Ce hx).1, (Ce hy).1]; exact h a b d (Ce hx).2 (Ce hy).2 hf
theorem abY {f : Int → Option D} {g : Nat} (h : ∀ a d, IB 64000 a → f a = some d → L.call g [intD a] = some d) : Good g (a1 qW f) :=
 Fa fun x a d hx hf => by rw [(Ce hx).1]; exact h a d (Ce hx).2 hf
theorem XK {f : Rat → Rat → Option D} {g : Nat} (h : ∀ a b d, RB 64000 a → RB 64000 b → f a b = some d → L.call g [dI a, dI b] = some d) : Good g (a2 vV vV f) :=
 KA fun x y a b d hx hy hf => by rw [(Iw hx).1, (Iw hy).1]; exact h a b d (Iw hx).2 (Iw hy).2 hf
theorem ab2 {f : Rat → Option D} {g : Nat} (h : ∀ a d, RB 64000 a → f a = some d → L.call g [dI a] = some d) : Good g (a1 vV f) :=
 Fa fun x a d hx hf => by rw [(Iw hx).1]; exact h a d (Iw hx).2 hf
def agO : D → Option (List UInt8)
 | .str s => if s.length ≤ 1000 then some s else none
 | _ => none
theorem afR {d : D} {s : List UInt8} (h : agO d = some s) : d = .str s ∧ s.length ≤ 1000 := by
 unfold agO at h
 split at h <;> try (simp at h; done)
 split at h <;> try (simp at h; done)
 simp at h
 subst h
 exact ⟨rfl, by assumption⟩
def ake : D → Option Bool
 | .bool b => some b
 | _ => none
theorem alY {d : D} {b : Bool} (h : ake d = some b) : d = .bool b := by
 unfold ake at h
 split at h <;> simp at h
 rw [h]
def Fe : D → Option Int
 | .int .i64 n => if -9223372036854775808 ≤ n ∧ n ≤ 9223372036854775807 then some n else none
 | _ => none
theorem qV {d : D} {n : Int} (h : Fe d = some n) : d = .int .i64 n ∧ (-9223372036854775808 ≤ n ∧ n ≤ 9223372036854775807) := by
 unfold Fe at h
 split at h <;> try (simp at h; done)
 split at h <;> try (simp at h; done)
 simp at h
 subst h
 exact ⟨rfl, by assumption⟩
def akf : D → Option Nat
 | .int .u64 n => if 0 ≤ n ∧ n < 18446744073709551616 then some n.toNat else none
 | _ => none
theorem afS {d : D} {n : Nat} (h : akf d = some n) : d = aG n ∧ n < W := by
 unfold akf at h
 split at h <;> try (simp at h; done)
 split at h <;> try (simp at h; done)
 rename_i z hz
 simp at h
 subst h
 refine ⟨?_, by unfold W; omega⟩
 show D.int _ _ = .int _ _
 congr 1; omega
end Go.Ev.Code
end
section
namespace Go.Ev.Code
open Go Go.Ev
theorem akA {n f : Nat} {args : List D} {d : D} (h : (TT.jW n).call f args = some d) : L.call f args = some d := by
 rw [JA] at h
 obtain ⟨⟨r, m⟩, hr⟩ := zS h
 rw [hr] at h
 exact tC (CO.2 ⟨n, hr⟩) h
def XT : D := .agg [.int .i64 1, .int .i64 1, .int .i64 1, .int .i64 0, .int .i64 0, .bool false]
theorem ag4 : L.call BI [XT] = some (.bool true) := akA (n := 30) (by kernel_rfl)
theorem ajr {n a b : Int} (h1 : a ≤ n) (h2 : n ≤ b) : L.call jC [.int .i64 n, .int .i64 a, .int .i64 b] = some (.bool true) := by
 refine aO aa7 rfl (aaF ..) ?_
 simp [Qd, h1, h2]
theorem ag3 {y : Nat} (h1 : 1900 ≤ y) (h2 : y ≤ 2199) : L.call x9 [XT, .int .i64 y] = some (.aS [.int .i64 (dG y), .bool true]) := by
 have hm := ag4
 have hd := Xe (y := y) (m := 1) (d := 1) h1 h2 (by decide) (by decide) (by decide) (by simp [bf])
 have e : dayOf y 1 1 = dG y := by simp [dayOf, bU]
 rw [e] at hd
 have hb := Jj (y := y) (by omega)
 have hb' : dG y ≤ 109572 := by unfold dG; omega
 have hw := ajr (n := dG y) (a := 0) (b := 109572) (by omega) (by omega)
 unfold jT at hd
 unfold XT at hm ⊢
 generalize dG y = b at *
 refine aO agC rfl (agv ..) ?_
 simp [XW, hm, hd, hw] at *
def zF : Nat → List Int
 | 0 => []
 | k + 1 => ((dG (1900 + k) : Nat) : Int) :: zF k
theorem anb {y : Nat} (h1 : 1900 ≤ y) (h2 : y ≤ 2199) : dG y < dG (y + 1) := by unfold dG; omega
theorem af0 : ∀ {k : Nat}, k ≤ 300 → ∀ z ∈ zF k, z < (dG (1900 + k) : Nat)
 | 0, _, z, hz => by simp [zF] at hz
 | k + 1, hk, z, hz => by
   have := anb (y := 1900 + k) (by omega) (by omega)
   simp only [zF, List.mem_cons] at hz
   rcases hz with rfl | hz
   ·have e : 1900 + k + 1 = 1900 + (k + 1) := by omega
    rw [e] at this; omega
   ·have h := af0 (k := k) (by omega) z hz
    have e : 1900 + k + 1 = 1900 + (k + 1) := by omega
    rw [e] at this; omega
theorem aiJ {k : Nat} (hk : k < 300) : RJ (zF k) ((dG (1900 + k) : Nat) : Int) = zF (k + 1) := by
 have : (zF k).contains ((dG (1900 + k) : Nat) : Int) = false := by
  rw [← Bool.not_eq_true, List.contains_iff_mem]
  intro h
  have := af0 (k := k) (by omega) _ h
  omega
 unfold RJ
 rw [this]
 rfl
def EN : D := .sl 1 [.int .i64 1, .int .i64 1, .int .i64 1, .int .i64 0, .int .i64 0, .bool false]
theorem akw (j : Nat) : ∀ k, k + j = 300 →
  L.loop [6, 10, 11, 47, 48, 49] [6, 47, 48, 49] vN 3 [.loc 1 0, .loc 2 0, .int .i64 ((1900 + k : Nat) : Int), EN, .int .i64 1, .int .i64 0] [.mp (zF k), .live [.lmap 0], .live [.int .i64 1, .int .i64 1, .int .i64 1, .int .i64 0, .int .i64 0, .bool false]] =
    some (.exit 5, [.loc 1 0, EN, .int .i64 1, .int .i64 0], [.mp (zF 300), .live [.lmap 0], .live [.int .i64 1, .int .i64 1, .int .i64 1, .int .i64 0, .int .i64 0, .bool false]]) := by
 induction j with
 | zero =>
   intro k hk
   have : k = 300 := by omega
   subst this
   refine aJ (QM ..) ?_
   simp [JO, EN]
 | succ j ih =>
   intro k hk
   have hd := ag3 (y := 1900 + k) (by omega) (by omega)
   have hn := ih (k + 1) (by omega)
   have hi := aiJ (k := k) (by omega)
   have h1 : ((1900 + k : Nat) : Int) ≤ 2199 := by omega
   have h2 : IntKind.i64.wrap (((1900 + k : Nat) : Int) + 1) = ((1900 + (k + 1) : Nat) : Int) := by rw [wrap64 _ (by omega)]; omega
   generalize 1900 + (k + 1) = y' at *
   generalize 1900 + k = y at *
   generalize dG y = b at *
   generalize zF (k + 1) = js at *
   generalize zF k = jk at *
   generalize zF 300 = jz at *
   unfold XT at hd
   refine aJ (QM ..) ?_
   unfold EN at *
   simp [JO, Io, h1, h2, hd, hi, hn]
theorem acN : L.call fA [EN, .func B_ []] = some (.bool false) := akA (n := 40) (by kernel_rfl)
theorem abx : L.call iC [.sl 0 [], .func Cb []] = some (.bool false) := akA (n := 40) (by kernel_rfl)
theorem ah' : L.call yN [EN, .sl 0 []] = some (.aS [.ref [.n_ (zF 300)] 0, .aB]) := by
 have h1 := acN
 have h2 := abx
 have h3 := akw 300 0 (by omega)
 refine aO ahU rfl (ahM ..) ?_
 generalize zF 300 = jz at *
 unfold EN at *
 simp [zF] at h3
 have l1 : L.loop [0, 6, 35, 36, 37] [0, 6] vM 2 [.sl 1 [.int .i64 1, .int .i64 1, .int .i64 1, .int .i64 0, .int .i64 0, .bool false], .loc 1 0, .sl 0 [], .int .i64 0, .int .i64 0] [.mp [], .live [.lmap 0]] = some (.exit 1, [.sl 1 [.int .i64 1, .int .i64 1, .int .i64 1, .int .i64 0, .int .i64 0, .bool false], .loc 1 0], [.mp [], .live [.lmap 0]]) := by
  refine aJ (ace ..) ?_
  simp [Tn]
 have l3 : L.loop [6, 47, 48, 49] [6] tq 2 [.loc 1 0, .sl 1 [.int .i64 1, .int .i64 1, .int .i64 1, .int .i64 0, .int .i64 0, .bool false], .int .i64 1, .int .i64 1] [.mp jz, .live [.lmap 0]] = some (.exit 3, [.loc 1 0], [.mp jz, .live [.lmap 0]]) := by
  refine aJ (QN ..) ?_
  simp [JQ]
 have l2 : L.loop [6, 47, 48, 49] [6] tq 2 [.loc 1 0, .sl 1 [.int .i64 1, .int .i64 1, .int .i64 1, .int .i64 0, .int .i64 0, .bool false], .int .i64 1, .int .i64 0] [.mp [], .live [.lmap 0]] = some (.exit 3, [.loc 1 0], [.mp jz, .live [.lmap 0]]) := by
  refine aJ (QN ..) ?_
  have e1 : IntKind.i64.wrap 1 = 1 := by decide
  simp [JQ, h3, e1, l3]
 simp [aaj, h1, h2, PD, l1, l2]
end Go.Ev.Code
end
section
namespace Go.Ev.Code
open Go Go.Ev
theorem ft {n : Nat} (h : NB 64000 n) : Fit n := h.fit (by decide)
theorem wr {n : Nat} (h : NB 64000 n) : Wri n := h.wri (by decide) (by decide)
def WU : List D → Option D := a1 akf fun n => some (b_ n)
theorem afd : Good fK WU := Fa fun x n d hx hf => by
   rw [(afS hx).1, ← Option.some.inj hf]; exact qF n (afS hx).2
def Jc : List D → Option D := a1 uz fun n => some (.bool (Nat.beq n 0))
theorem Uw : Good dR Jc := ali fun a d ha hf => by
   rw [← Option.some.inj hf, afo]
   congr 2
   by_cases h : a = 0
   ·subst h; rfl
   ·rw [decide_eq_false h]
    cases hb : Nat.beq a 0 with
    | false => rfl
    | true => exact absurd (Nat.eq_of_beq_eq_true hb) h
def KG : List D → Option D := a2 uz uz fun a b => some (.int .i64 (uT a b))
theorem VA : Good iR KG := Ub fun a b d ha hb hf => by rw [← Option.some.inj hf]; exact O_ (ft ha) (ft hb)
def KF : List D → Option D := a2 uz uz fun a b => some (b_ (a + b))
theorem Vz : Good fQ KF := Ub fun a b d ha hb hf => by rw [← Option.some.inj hf]; exact O9 (ft ha) (ft hb)
def KL : List D → Option D := a2 uz uz fun a b => if b ≤ a then some (.aS [b_ (a - b), .aB]) else none
theorem VF : Good jU KL := Ub fun a b d ha hb hf => by
   split at hf <;> try (simp at hf; done)
   rw [← Option.some.inj hf]; exact DF (ft ha) (ft hb) (by assumption)
def KJ : List D → Option D := a2 uz uz fun a b => some (b_ (a * b))
theorem VE : Good fV KJ := Ub fun a b d ha hb hf => by rw [← Option.some.inj hf]; exact y9 (ft ha) (ft hb)
def KH : List D → Option D := a2 uz uz fun a b => if b ≠ 0 then some (.aS [b_ (a / b), b_ (a % b), .aB]) else none
theorem VB : Good fU KH := Ub fun a b d ha hb hf => by
   split at hf <;> try (simp at hf; done)
   rw [← Option.some.inj hf]; exact Dz (ft ha) (ft hb) (by assumption)
def KI : List D → Option D := a2 uz uz fun a b => some (b_ (Nat.gcd a b))
theorem VD : Good kV KI := Ub fun a b d ha hb hf => by rw [← Option.some.inj hf]; exact XF (ft ha) (ft hb)
def Jb : List D → Option D := a1 uz fun a => some (.str (txt a))
theorem Uu : Good gQ Jb := ali fun a d ha hf => by rw [← Option.some.inj hf]; exact U7 (ft ha) (wr ha)
def UL : List D → Option D := a1 agO fun s => if vJ s then some (.aS [b_ (iE 0 s), .aB]) else some (.aS [.aK, xZ 1])
theorem ac9 : Good jS UL := Fa fun x s d hx hf => by
   obtain ⟨rfl, hs⟩ := afR hx
   split at hf
   ·rw [← Option.some.inj hf]; exact DC (by assumption)
   ·rw [← Option.some.inj hf]; exact U6 (by assumption) (by omega)
def UM : List D → Option D := a2 ake uz fun b n => some (intD (if b then -(n : Int) else n))
theorem ac_ : Good fG UM := KA fun x y b n d hx hy hf => by rw [alY hx, (Ci hy).1, ← Option.some.inj hf]; exact ahc b n
def KN : List D → Option D := a1 qW fun z => some (b_ z.natAbs)
theorem VG : Good bC KN := abY fun a d ha hf => by rw [← Option.some.inj hf]; exact aha a
def Jd : List D → Option D := a1 qW fun z => some (.int .i64 z.sign)
theorem Ux : Good bT Jd := abY fun a d ha hf => by rw [← Option.some.inj hf]; exact afq a
def KR : List D → Option D := a1 qW fun z => some (intD (-z))
theorem VK : Good kY KR := abY fun a d ha hf => by rw [← Option.some.inj hf]; exact ahb a
def KO : List D → Option D := a2 qW qW fun a b => some (intD (a + b))
theorem VH : Good eX KO := TY fun a b d ha hb hf => by rw [← Option.some.inj hf]; exact Ih ha hb (by decide) (by decide)
def KT : List D → Option D := a2 qW qW fun a b => some (intD (a - b))
theorem VL : Good nV KT := TY fun a b d ha hb hf => by rw [← Option.some.inj hf]; exact XG ha hb (by decide) (by decide)
def KP : List D → Option D := a2 qW qW fun a b => some (.int .i64 (a - b).sign)
theorem VI : Good kX KP := TY fun a b d ha hb hf => by rw [← Option.some.inj hf]; exact Pe ha hb (by decide) (by decide)
def KQ : List D → Option D := a2 qW qW fun a b => some (intD (a * b))
theorem VJ : Good bD KQ := TY fun a b d ha hb hf => by rw [← Option.some.inj hf]; exact nX ha hb (by decide) (by decide)
def WV : List D → Option D := a1 Fe fun n => some (intD n)
theorem afe : Good gV WV := Fa fun x n d hx hf => by rw [(qV hx).1, ← Option.some.inj hf]; exact SB n (qV hx).2
def Je : List D → Option D := a1 qW fun z => some (.str (Hl z))
theorem Uy : Good gU Je := abY fun a d ha hf => by rw [← Option.some.inj hf]; exact MZ ha (by decide) (by decide)
def UO : List D → Option D := a2 qW qW fun n d => if d ≠ 0 then some (.aS [dI (Rat.divInt n d), .aB]) else none
theorem ada : Good lS UO := TY fun a b d ha hb hf => by
   split at hf <;> try (simp at hf; done)
   rw [← Option.some.inj hf]; exact DV ha hb (by decide) (by decide) (by assumption)
def Q_ : List D → Option D := a2 qW qW fun n d => if d ≠ 0 then some (dI (Rat.divInt n d)) else none
theorem abI : Good rH Q_ := TY fun a b d ha hb hf => by
   split at hf <;> try (simp at hf; done)
   rw [← Option.some.inj hf]; exact FU ha hb (by decide) (by decide) (by assumption)
def WW : List D → Option D := a2 Fe Fe fun n d => if d ≠ 0 then some (.aS [dI (Rat.divInt n d), .aB]) else none
theorem aff : Good jq WW := KA fun x y a b d hx hy hf => by
   split at hf <;> try (simp at hf; done)
   rw [(qV hx).1, (qV hy).1, ← Option.some.inj hf]
   exact CU (qV hx).2 (qV hy).2 (by assumption)
def K_ : List D → Option D := a1 vV fun q => some (intD q.num)
theorem VT : Good bZ K_ := ab2 fun a d ha hf => by rw [← Option.some.inj hf]; exact ahl a
def KX : List D → Option D := a1 vV fun q => some (intD (q.den : Int))
theorem VP : Good bJ KX := ab2 fun a d ha hf => by rw [← Option.some.inj hf]; exact ahj a
def Jg : List D → Option D := a1 vV fun q => some (.int .i64 q.num.sign)
theorem UA : Good iL Jg := ab2 fun a d ha hf => by rw [← Option.some.inj hf]; exact Np a
def KU : List D → Option D := a2 vV vV fun a b => some (dI (a + b))
theorem VN : Good iV KU := XK fun a b d ha hb hf => by rw [← Option.some.inj hf]; exact DU ha hb (by decide)
def La : List D → Option D := a2 vV vV fun a b => some (dI (a - b))
theorem VU : Good jD La := XK fun a b d ha hb hf => by rw [← Option.some.inj hf]; exact ahm ha hb (by decide)
def KZ : List D → Option D := a2 vV vV fun a b => some (dI (a * b))
theorem VR : Good fZ KZ := XK fun a b d ha hb hf => by rw [← Option.some.inj hf]; exact PG ha hb (by decide)
def KY : List D → Option D := a2 vV vV fun a b => if b.num = 0 then none else some (.aS [dI (a / b), .aB])
theorem VQ : Good kZ KY := XK fun a b d ha hb hf => by
   split at hf <;> try (simp at hf; done)
   rename_i h0
   rw [← Option.some.inj hf]; exact ahk ha hb (by decide) (fun h => h0 (by rw [h]; rfl))
def KW : List D → Option D := a2 vV vV fun a b => some (.int .i64 (OT a b))
theorem VO : Good jX KW := XK fun a b d ha hb hf => by rw [← Option.some.inj hf]; exact PE ha hb (by decide)
def Jh : List D → Option D := a1 vV fun q => some (.str (PS q))
theorem UC : Good dY Jh := ab2 fun a d ha hf => by rw [← Option.some.inj hf]; exact zT ha (by decide) (by decide)
def UK : List D → Option D := a1 agO fun s => some (BF (vU s))
theorem ac8 : Good sO UK := Fa fun x s d hx hf => by
   obtain ⟨rfl, hs⟩ := afR hx
   rw [← Option.some.inj hf]; exact Xg (by omega)
def xg : D → Option aV
 | .agg [.int .i64 i, .int .i64 m, .int .i64 f, .str c, .str r, .int .i64 n, .int .i64 s, .bool e, .int .i64 x] => if c.length ≤ 1000 ∧ r.length ≤ 1000 then some ⟨i, m, f, c, r, n, s, e, x⟩ else none
 | _ => none
theorem qj {d : D} {b : aV} (h : xg d = some b) : d = bQ b ∧ b.je.length ≤ 1000000 ∧ b.jg.length ≤ 1000000 := by
 unfold xg at h
 split at h <;> try (simp at h; done)
 split at h <;> try (simp at h; done)
 rename_i hl
 simp at h
 subst h
 exact ⟨rfl, by simp only; omega, by simp only; omega⟩
theorem WX {f : aV → Option D} {g : Nat} (h : ∀ b d, b.je.length ≤ 1000000 → b.jg.length ≤ 1000000 → f b = some d → L.call g [bQ b] = some d) : Good g (a1 xg f) :=
 Fa fun x a d hx hf => by rw [(qj hx).1]; exact h a d (qj hx).2.1 (qj hx).2.2 hf
def NQ : List D → Option D := a1 xg fun b => some (dh (chk b))
theorem Xp : Good jd NQ := WX fun b d hc hr hf => by rw [← Option.some.inj hf]; exact sN hc hr
def KD : List D → Option D := a1 xg fun b => some (.int .i64 (months b))
theorem Vx : Good jB KD := WX fun b d hc hr hf => by rw [← Option.some.inj hf]; exact Ew b
def KC : List D → Option D := a1 xg fun b => some (dI (UY b))
theorem Vw : Good jA KC := WX fun b d hc hr hf => by rw [← Option.some.inj hf]; exact Eu hc hr
def KE : List D → Option D := a1 xg fun b => some (dI (wU b))
theorem Vy : Good kU KE := WX fun b d hc hr hf => by rw [← Option.some.inj hf]; exact Ey hc hr
def UN : List D → Option D := a1 xg fun b => some (wC (jm b))
theorem ac' : Good iU UN := WX fun b d hc hr hf => by rw [← Option.some.inj hf]; exact DI hc hr
def NS : List D → Option D := a2 xg Fe fun b n => some (V_ b n)
theorem Xr : Good lI NS := KA fun x y b n d hx hy hf => by
 rw [(qj hx).1, (qV hy).1, ← Option.some.inj hf]; exact Bc (qj hx).2.1 (qj hx).2.2 n
def decP : D → Option (Int × Int)
 | .agg [.int .i64 a, .int .i64 b] => some (a, b)
 | _ => none
theorem alZ {d : D} {p : Int × Int} (h : decP d = some p) : d = pD p := by
 unfold decP at h
 split at h <;> simp at h
 subst h; rfl
def Jf : List D → Option D := a2 xg decP fun b p => some (.bool (regular b p))
theorem Uz : Good gW Jf := KA fun x y b p d hx hy hf => by
 rw [(qj hx).1, alZ hy, ← Option.some.inj hf]; exact L8 (qj hx).2.1 (qj hx).2.2 p
def Ho : List D → Option D := a2 Fe Fe fun a b => if bF a ∧ bF b then some (.int .i64 (m_ a b)) else none
theorem RH : Good gJ Ho := KA fun x y a b d hx hy hf => by
 split at hf <;> try (simp at hf; done)
 rename_i h
 rw [(qV hx).1, (qV hy).1, ← Option.some.inj hf]; exact LY h.1 h.2
def Ja : List D → Option D := a1 Fe fun n => some (.int .i64 (TJ n))
theorem Ut : Good dK Ja := Fa fun x n d hx hf => by rw [(qV hx).1, ← Option.some.inj hf]; exact xK n
def MR : List D → Option D
 | [.sl 1 [.int .i64 a, .int .i64 b, .int .i64 c, .int .i64 d, .int .i64 e, .bool false], .sl 0 []] => if a = 1 ∧ b = 1 ∧ c = 1 ∧ d = 0 ∧ e = 0 then some (.aS [.ref [.n_ (zF 300)] 0, .aB]) else none
 | _ => none
theorem ac7 : Good yN MR := by
 intro args d h
 unfold MR at h
 split at h <;> try (simp at h; done)
 rename_i a b c d' e
 split at h <;> try (simp at h; done)
 rename_i hc
 obtain ⟨rfl, rfl, rfl, rfl, rfl⟩ := hc
 rw [← Option.some.inj h]
 exact ah'
def NR : List D → Option D := a1 Fe fun n => if bF n then some (.aS [jT (jF n.toNat).1 (jF n.toNat).2.1 (jF n.toNat).2.2, .aB]) else some (.aS [jT 0 0 0, xZ 4])
theorem Xq : Good eF NR := Fa fun x n d hx hf => by
 rw [(qV hx).1]
 split at hf
 ·rename_i h
  obtain ⟨y, m, dd, hc, hd, ho⟩ := dU h
  rw [← Option.some.inj hf, ho, hd]
  exact oW hc
 ·rename_i h
  rw [← Option.some.inj hf]; exact NW h
def GU : List D → Option D
 | [.int .i64 a, .int .i64 n, .bool e] => some (jo (sG a n e))
 | _ => none
theorem YT : Good kJ GU := by
 intro args d h
 unfold GU at h
 split at h <;> try (simp at h; done)
 rw [← Option.some.inj h]; exact MW _ _ _
def ah2 : List (Nat × (List D → Option D)) :=
 [(fK, WU), (dR, Jc), (iR, KG), (fQ, KF), (jU, KL), (fV, KJ), (fU, KH), (kV, KI), (gQ, Jb), (jS, UL), (fG, UM), (bC, KN), (bT, Jd), (kY, KR), (eX, KO), (nV, KT), (kX, KP), (bD, KQ), (gV, WV), (gU, Je), (lS, UO), (rH, Q_), (jq, WW), (bZ, K_), (bJ, KX), (iL, Jg), (iV, KU), (jD, La), (fZ, KZ), (kZ, KY), (jX, KW), (dY, Jh), (sO, UK), (jd, NQ), (jB, KD), (jA, KC), (kU, KE), (iU, UN), (lI, NS), (gW, Jf), (gJ, Ho), (dK, Ja), (yN, MR), (eF, NR), (kJ, GU)]
def Ny : List (Nat × (List D → Option D)) → Prop
 | [] => True
 | p :: r => Good p.1 p.2 ∧ Ny r
theorem Ny.look : ∀ {l : List (Nat × (List D → Option D))} {n : Nat} {p : List D → Option D}, Ny l → Ba l n = some p → Good n p
 | [], n, p, _, h => by simp [Ba] at h
 | (i, x) :: r, n, p, ⟨h1, h2⟩, h => by
   simp only [Ba, cond_eq_ite] at h
   split at h
   ·rename_i hb
    simp at h
    subst h
    rw [← Nat.eq_of_beq_eq_true hb]
    exact h1
   ·exact Ny.look h2 h
theorem ah3 : Ny ah2 :=
 ⟨afd, Uw, VA, Vz, VF, VE, VB, VD, Uu, ac9, ac_, VG, Ux, VK, VH, VL, VI, VJ, afe, Uy, ada, abI, aff, VT, VP, UA, VN, VU, VR, VQ, VO, UC, ac8, Xp, Vx, Vw, Vy, ac', Xr, Uz, RH, Ut, ac7, Xq, YT, trivial⟩
def qQ : Nat → aC
 | 0 => ⟨fun _ _ _ => none, fun _ _ _ _ _ _ => none, fun _ _ => none⟩
 | n + 1 =>
   ⟨fun f args m => match TT.fn f with
    | some ef => ef.step (qQ n) args m
    | none => TT.iK f args m,
    fun ins outs body base vals m => yh (qQ n) ins outs body base vals m,
    fun f args => match (match Ba ah2 f with
      | some p => p args
      | none => none) with
     | some d => some d
     | none => rG (match TT.fn f with
       | some ef => ef.step (qQ n) args []
       | none => TT.iK f args [])⟩
theorem ah4 : ∀ n, (qQ n).le L
 | 0 => ⟨fun f args m r h => by simp [qQ] at h, fun _ _ _ _ _ _ r h => by simp [qQ] at h, fun _ _ r h => by simp [qQ] at h⟩
 | n + 1 => by
   have ih := ah4 n
   have hca : ∀ f args m r, (qQ (n + 1)).aY f args m = some r → L.aY f args m = some r := by
    intro f args m r h
    simp only [qQ] at h
    split at h
    ·rename_i ef he
     exact adx he (Zl LP ih h)
    ·rename_i he
     exact adz he h
   refine ⟨hca, fun ins outs body base vals m r h => ZY (Sz LP ih h), fun f args d h => ?_⟩
   simp only [qQ] at h
   split at h
   ·rename_i d' hd
    split at hd
    ·rename_i p hp
     rw [← h]
     exact ah3.look hp args d' hd
    ·simp at hd
   ·obtain ⟨r, h1⟩ := zS h
    show rG (L.aY f args []) = some d
    rw [hca f args [] r (by simp only [qQ]; exact h1), ← h1, h]
theorem Vj (n : Nat) {f : Nat} {args : List D} {d : D} (h : (qQ n).call f args = some d) : L.call f args = some d := (ah4 n).call f args d h
end Go.Ev.Code
end
