/- A part of the proof of planLone_card, bondLong_card. -/
import Derived.Test.YtgppbgfjhkjfcaaGreatDoorCFun
set_option linter.unusedVariables false
set_option linter.unusedSimpArgs false
namespace Go.Ev
structure OB (E : (Nat → Prop) → Prop) : Prop where
 mono : ∀ {p q : Nat → Prop}, (∀ k, p k → q k) → E p → E q
 and : ∀ {p q : Nat → Prop}, E p → E q → E fun k => p k ∧ q k
 all : ∀ {p : Nat → Prop}, (∀ k, p k) → E p
structure OD (E : (Nat → Prop) → Prop) (Os : Nat → aC) (O : aC) : Prop where
 aY : ∀ f args m r, O.aY f args m = some r → E fun k => (Os k).aY f args m = some r
 loop : ∀ ins outs body base vals m r, O.loop ins outs body base vals m = some r → E fun k => (Os k).loop ins outs body base vals m = some r
 call : ∀ f args r, O.call f args = some r → E fun k => (Os k).call f args = some r
section
variable {E : (Nat → Prop) → Prop} {Os : Nat → aC} {O : aC}
theorem Gf (hE : OB E) (hN : OD E Os O) {f : Nat} {args : List D} {d : D} (h : O.call f args = some d) : E fun k => (Os k).call f args = some d := hN.call _ _ _ h
theorem akv (hE : OB E) (hN : OD E Os O) {k : K} {base : Nat} {ds : List D} {m : Mem} {r : D × Mem} (h : k.run O base ds m = some r) : E fun i => k.run (Os i) base ds m = some r := by
 cases k
 case nN f =>
  simp only [K.run, ug, Option.bind_eq_some_iff] at h
  obtain ⟨r1, h1, d, h2, h3⟩ := h
  refine hE.mono (fun k hk => ?_) (Gf hE hN h2)
  simp only [K.run, ug, h1, Option.bind_some, hk, h3]
 case ah f =>
  simp only [K.run, pI, cond_eq_ite] at h
  split at h
  ·rename_i hc
   rw [Option.bind_eq_some_iff] at h
   obtain ⟨d, h2, h3⟩ := h
   refine hE.mono (fun k hk => ?_) (Gf hE hN h2)
   simp only [K.run, pI, hc, cond_true, hk, Option.bind_some, h3]
  ·simp at h
 case aY f => exact hN.aY _ _ _ _ h
 case yO =>
  simp only [K.run, DK] at h
  split at h
  ·rename_i f cap args
   simp only [Option.bind_eq_some_iff] at h
   obtain ⟨r1, h1, d, h2, h3⟩ := h
   refine hE.mono (fun k hk => ?_) (Gf hE hN h2)
   simp only [K.run, DK, h1, Option.bind_some, hk, h3]
  ·simp at h
 case Dw tab =>
  simp only [K.run, FQ] at h
  split at h
  ·rename_i u e args
   rw [Option.bind_eq_some_iff] at h
   obtain ⟨f, hf, h⟩ := h
   simp only [pI, cond_eq_ite] at h
   split at h
   ·rename_i hc
    rw [Option.bind_eq_some_iff] at h
    obtain ⟨d, h2, h3⟩ := h
    refine hE.mono (fun k hk => ?_) (Gf hE hN h2)
    simp only [K.run, FQ, hf, Option.bind_some, pI, hc, cond_true, hk, h3]
   ·simp at h
  ·simp at h
 case VW tab =>
  simp only [K.run, Ik] at h
  split at h
  ·rename_i u e args
   rw [Option.bind_eq_some_iff] at h
   obtain ⟨f, hf, h⟩ := h
   simp only [ug, Option.bind_eq_some_iff] at h
   obtain ⟨r1, h1, d, h2, h3⟩ := h
   refine hE.mono (fun k hk => ?_) (Gf hE hN h2)
   simp only [K.run, Ik, hf, Option.bind_some, ug, h1, hk, h3]
  ·simp at h
 all_goals exact hE.all fun _ => h
theorem amg (hE : OB E) (hN : OD E Os O) {x : EO} {base : Nat} {e : Env} {m : Mem} {r : Env × Mem} (h : x.run O base e m = some r) : E fun i => x.run (Os i) base e m = some r := by
 unfold EO.run at h
 rw [Option.bind_eq_some_iff] at h
 obtain ⟨w, hw, h⟩ := h
 cases w with
 | false => exact hE.all fun k => by unfold EO.run; rw [hw]; exact h
 | true =>
   simp only [cond_true] at h
   rw [Option.bind_eq_some_iff] at h
   obtain ⟨ds, hds, h⟩ := h
   rw [Option.bind_eq_some_iff] at h
   obtain ⟨r1, h1, h2⟩ := h
   refine hE.mono (fun k hk => ?_) (akv hE hN h1)
   unfold EO.run
   rw [hw]
   simp only [Option.bind_some, cond_true, hds, hk, h2]
theorem V8 (hE : OB E) (hN : OD E Os O) {base : Nat} : ∀ {xs : List EO} {e : Env} {m : Mem} {r : Env × Mem}, ou O base xs e m = some r → E fun i => ou (Os i) base xs e m = some r
 | [], e, m, r, h => hE.all fun _ => h
 | x :: xs, e, m, r, h => by
   simp only [ou, Option.bind_eq_some_iff] at h
   obtain ⟨r1, h1, h2⟩ := h
   refine hE.mono (fun k hk => ?_) (hE.and (amg hE hN h1) (V8 hE hN h2))
   simp only [ou, hk.1, Option.bind_some, hk.2]
theorem Z7 (hE : OB E) (hN : OD E Os O) : ∀ (c : EC) {R : Type} (e : Env) (m : Mem) (K : Ex → Env → Mem → Option R) (Kk : Nat → Ex → Env → Mem → Option R) (r : R), c.exec O e m K = some r →
  (∀ x e m r, K x e m = some r → E fun k => Kk k x e m = some r) → E fun k => c.exec (Os k) e m (Kk k) = some r := by
 intro c
 induction c with
 | skip => intro R e m K Kk r h hK; exact hK _ _ _ _ h
 | exit i => intro R e m K Kk r h hK; exact hK _ _ _ _ h
 | ret => intro R e m K Kk r h hK; exact hK _ _ _ _ h
 | region n os =>
   intro R e m K Kk r h hK
   simp only [EC.exec, Option.bind_eq_some_iff] at h
   obtain ⟨r1, h1, h2⟩ := h
   refine hE.mono (fun k hk => ?_) (hE.and (V8 hE hN h1) (hK _ _ _ _ h2))
   simp only [EC.exec, hk.1, Option.bind_some, hk.2]
 | drawn n os =>
   intro R e m K Kk r h hK
   simp only [EC.exec, Option.bind_eq_some_iff] at h
   obtain ⟨r1, h1, h2⟩ := h
   refine hE.mono (fun k hk => ?_) (hE.and (V8 hE hN h1) (hK _ _ _ _ h2))
   simp only [EC.exec, hk.1, Option.bind_some, hk.2]
 | seq x y ihx ihy =>
   intro R e m K Kk r h hK
   refine ihx e m _ _ r h fun x1 e1 m1 r1 h1 => ?_
   cases x1 with
   | normal => exact ihy e1 m1 K Kk r1 h1 hK
   | exit i => exact hK _ _ _ _ h1
   | ret => exact hK _ _ _ _ h1
 | cond o x y ihx ihy =>
   intro R e m K Kk r h hK
   simp only [EC.exec] at h
   split at h
   ·rename_i t ht
    cases t with
    | true =>
      refine hE.mono (fun k hk => ?_) (ihx e m K Kk r (by simpa using h) hK)
      simp only [EC.exec, ht, if_true, hk]
    | false =>
      refine hE.mono (fun k hk => ?_) (ihy e m K Kk r (by simpa using h) hK)
      simp only [EC.exec, ht, Bool.false_eq_true, if_false, hk]
   ·simp at h
 | block i b ih =>
   intro R e m K Kk r h hK
   refine ih e m _ _ r h fun x1 e1 m1 r1 h1 => ?_
   cases x1 with
   | normal => exact hK _ _ _ _ h1
   | ret => exact hK _ _ _ _ h1
   | exit j =>
     simp only [cond_eq_ite] at h1 ⊢
     split at h1
     ·rename_i h2
      simp only [h2, if_true]
      exact hK _ _ _ _ h1
     ·rename_i h2
      rw [Bool.not_eq_true] at h2
      simp only [h2, Bool.false_eq_true, if_false]
      exact hK _ _ _ _ h1
 | loop ins outs b ih =>
   intro R e m K Kk r h hK
   simp only [EC.exec, Option.bind_eq_some_iff] at h
   obtain ⟨r1, h1, h2⟩ := h
   refine hE.mono (fun k hk => ?_) (hE.and (hN.loop _ _ _ _ _ _ _ h1) (hK _ _ _ _ h2))
   simp only [EC.exec, hk.1, Option.bind_some, hk.2]
 | mask keep b ih => intro R e m K Kk r h hK; exact ih _ m K Kk r h hK
 | join keep b ih =>
   intro R e m K Kk r h hK
   simp only [EC.exec, Option.bind_eq_some_iff] at h
   obtain ⟨r1, h1, h2⟩ := h
   refine hE.mono (fun k hk => ?_) (hE.and (ih e m _ (fun _ x e' m' => some (x, mQ e' keep, m')) r1 h1 fun x e m r hr => hE.all fun _ => hr) (hK _ _ _ _ h2))
   simp only [EC.exec, hk.1, Option.bind_some, hk.2]
 | RD ts b ih =>
   intro R e m K Kk r h hK
   simp only [EC.exec, Option.bind_eq_some_iff] at h
   obtain ⟨r1, h1, h2⟩ := h
   refine hE.mono (fun k hk => ?_) (ih _ _ K Kk r h2 hK)
   simp only [EC.exec, h1, Option.bind_some, hk]
theorem Sz (hE : OB E) (hN : OD E Os O) {ins outs : List Nat} {body : EC} {base : Nat} {vals : List D} {m : Mem} {r : Ex × List D × Mem} (h : yh O ins outs body base vals m = some r) :
  E fun k => yh (Os k) ins outs body base vals m = some r := by
 refine Z7 hE hN body _ m _ _ r h fun x e m r h => ?_
 cases x with
 | normal =>
   simp only [Option.bind_eq_some_iff] at h
   obtain ⟨r1, h1, h2⟩ := h
   refine hE.mono (fun k hk => ?_) (hN.loop _ _ _ _ _ _ _ h2)
   simp only [h1, Option.bind_some, hk]
 | exit i => exact hE.all fun _ => h
 | ret => exact hE.all fun _ => h
theorem Zl (hE : OB E) (hN : OD E Os O) {ef : EF} {args : List D} {m : Mem} {r : D × Mem} (h : ef.step O args m = some r) : E fun k => ef.step (Os k) args m = some r := by
 unfold EF.step at h
 cases hb : Nat.beq args.length ef.params.length with
 | false => rw [hb] at h; simp at h
 | true =>
   rw [hb] at h
   simp only [cond_true] at h
   unfold EF.step
   rw [hb]
   exact Z7 hE hN ef.body _ m _ _ r h fun x e m r h => hE.all fun _ => h
end
theorem LP : OB fun p => p 0 := ⟨fun h => h 0, fun h1 h2 => ⟨h1, h2⟩, fun h => h 0⟩
def Evt (p : Nat → Prop) : Prop := ∃ n, ∀ k, n ≤ k → p k
theorem ac4 : OB Evt := ⟨fun h ⟨n, hn⟩ => ⟨n, fun k hk => h k (hn k hk)⟩, fun ⟨n, hn⟩ ⟨n', hn'⟩ => ⟨max n n', fun k hk => ⟨hn k (by omega), hn' k (by omega)⟩⟩, fun h => ⟨0, fun k _ => h k⟩⟩
def aC.le (O O' : aC) : Prop := OD (fun p => p 0) (fun _ => O') O
theorem JA (T : Tab) : ∀ (n f : Nat) (args : List D), (T.jW n).call f args = rG ((T.jW n).aY f args [])
 | 0, _, _ => rfl
 | _ + 1, _, _ => rfl
theorem zS {x : Option (D × Mem)} {d : D} (h : rG x = some d) : ∃ r, x = some r := by
 cases x with
 | none => simp [rG] at h
 | some r => exact ⟨r, rfl⟩
theorem adP (T : Tab) : ∀ n, (T.jW n).le (T.jW (n + 1))
 | 0 => ⟨fun f args m r h => by simp [Tab.jW] at h, fun _ _ _ _ _ _ r h => by simp [Tab.jW] at h, fun _ _ r h => by simp [Tab.jW] at h⟩
 | n + 1 => by
   have ih := adP T n
   have hca : ∀ f args m r, (T.jW (n + 1)).aY f args m = some r → (T.jW (n + 2)).aY f args m = some r := ?_
   ·refine ⟨hca, fun ins outs body base vals m r h => Sz LP ih h, fun f args d h => ?_⟩
    rw [JA] at h ⊢
    obtain ⟨r, hr⟩ := zS h
    rw [hr] at h
    rw [hca _ _ _ _ hr, h]
   intro f args m r h
   show (T.jW (n + 2)).aY f args m = some r
   change (match T.fn f with | some ef => ef.step (T.jW n) args m | none => T.iK f args m) = some r at h
   change (match T.fn f with | some ef => ef.step (T.jW (n + 1)) args m | none => T.iK f args m) = some r
   cases hf : T.fn f with
   | none => rw [hf] at h; exact h
   | some ef => rw [hf] at h; exact Zl LP ih h
theorem BN (T : Tab) {n k : Nat} (h : n ≤ k) : (T.jW n).le (T.jW k) := by
 induction k with
 | zero => have : n = 0 := by omega
           subst this; exact ⟨fun _ _ _ _ h => h, fun _ _ _ _ _ _ _ h => h, fun _ _ _ h => h⟩
 | succ k ih =>
   rcases Nat.lt_or_ge k n with h' | h'
   ·have : n = k + 1 := by omega
    subst this; exact ⟨fun _ _ _ _ h => h, fun _ _ _ _ _ _ _ h => h, fun _ _ _ h => h⟩
   ·have h1 := ih h'
    have h2 := adP T k
    exact ⟨fun f a m r h => h2.aY f a m r (h1.aY f a m r h), fun a b c d e f r h => h2.loop a b c d e f r (h1.loop a b c d e f r h), fun f a r h => h2.call f a r (h1.call f a r h)⟩
open Classical in
noncomputable def Tab.ag6 (T : Tab) (f : Nat) (args : List D) (m : Mem) : Option (D × Mem) := if h : ∃ r, ∃ n, (T.jW n).aY f args m = some r then some h.choose else none
open Classical in
noncomputable def Tab.lim (T : Tab) : aC where
 aY := T.ag6
 call f args := rG (T.ag6 f args [])
 loop ins outs body base vals m := if h : ∃ r, ∃ n, (T.jW n).loop ins outs body base vals m = some r then some h.choose else none
theorem CO {T : Tab} {f : Nat} {args : List D} {m : Mem} {r : D × Mem} : T.lim.aY f args m = some r ↔ ∃ n, (T.jW n).aY f args m = some r := by
 have uniq : ∀ {r r' : D × Mem}, (∃ n, (T.jW n).aY f args m = some r) → (∃ n, (T.jW n).aY f args m = some r') → r = r' := by
  rintro r r' ⟨n, hn⟩ ⟨n', hn'⟩
  have h1 := (BN T (Nat.le_max_left n n')).aY f args m r hn
  have h2 := (BN T (Nat.le_max_right n n')).aY f args m r' hn'
  simp only at h1 h2
  rw [h1] at h2
  exact Option.some.inj h2
 show T.ag6 f args m = some r ↔ _
 unfold Tab.ag6
 constructor
 ·intro h
  split at h
  ·rename_i hx
   simp at h
   rw [← h]
   exact hx.choose_spec
  ·simp at h
 ·intro h
  rw [dif_pos ⟨r, h⟩]
  exact congrArg some (uniq (Exists.choose_spec (p := fun r => ∃ n, (T.jW n).aY f args m = some r) ⟨r, h⟩) h)
theorem ady {T : Tab} {ins outs : List Nat} {body : EC} {base : Nat} {vals : List D} {m : Mem} {r : Ex × List D × Mem} : T.lim.loop ins outs body base vals m = some r ↔ ∃ n, (T.jW n).loop ins outs body base vals m = some r := by
 have uniq : ∀ {r r' : Ex × List D × Mem}, (∃ n, (T.jW n).loop ins outs body base vals m = some r) → (∃ n, (T.jW n).loop ins outs body base vals m = some r') → r = r' := by
  rintro r r' ⟨n, hn⟩ ⟨n', hn'⟩
  have h1 := (BN T (Nat.le_max_left n n')).loop _ _ _ _ _ _ r hn
  have h2 := (BN T (Nat.le_max_right n n')).loop _ _ _ _ _ _ r' hn'
  simp only at h1 h2
  rw [h1] at h2
  exact Option.some.inj h2
 unfold Tab.lim
 simp only
 constructor
 ·intro h
  split at h
  ·rename_i hx
   simp at h
   rw [← h]
   exact hx.choose_spec
  ·simp at h
 ·intro h
  rw [dif_pos ⟨r, h⟩]
  exact congrArg some (uniq (Exists.choose_spec (p := fun r => ∃ n, (T.jW n).loop ins outs body base vals m = some r) ⟨r, h⟩) h)
theorem adM (T : Tab) : OD Evt T.jW T.lim :=
 ⟨fun f args m r h => let ⟨n, hn⟩ := CO.1 h; ⟨n, fun k hk => (BN T hk).aY f args m r hn⟩,
  fun a b c d e f r h => let ⟨n, hn⟩ := ady.1 h; ⟨n, fun k hk => (BN T hk).loop a b c d e f r hn⟩,
  fun f args d h => by
   change rG (T.lim.aY f args []) = some d at h
   obtain ⟨r, hr⟩ := zS h
   rw [hr] at h
   obtain ⟨n, hn⟩ := CO.1 hr
   refine ⟨n, fun k hk => ?_⟩
   show (T.jW k).call f args = some d
   rw [JA, (BN T hk).aY _ _ _ _ hn, h]⟩
theorem adx {T : Tab} {f : Nat} {ef : EF} (hf : T.fn f = some ef) {args : List D} {m : Mem} {r : D × Mem} (h : ef.step T.lim args m = some r) : T.lim.aY f args m = some r := by
 obtain ⟨n, hn⟩ := Zl ac4 (adM T) h
 refine CO.2 ⟨n + 1, ?_⟩
 change (match T.fn f with | some ef => ef.step (T.jW n) args m | none => T.iK f args m) = some r
 rw [hf]
 exact hn n (Nat.le_refl n)
theorem adz {T : Tab} {f : Nat} (hf : T.fn f = none) {args : List D} {m : Mem} {r : D × Mem} (h : T.iK f args m = some r) : T.lim.aY f args m = some r := by
 refine CO.2 ⟨1, ?_⟩
 change (match T.fn f with | some ef => ef.step (T.jW 0) args m | none => T.iK f args m) = some r
 rw [hf]
 exact h
theorem ZY {T : Tab} {ins outs : List Nat} {body : EC} {base : Nat} {vals : List D} {m : Mem} {r : Ex × List D × Mem} (h : yh T.lim ins outs body base vals m = some r) : T.lim.loop ins outs body base vals m = some r := by
 obtain ⟨n, hn⟩ := Sz ac4 (adM T) h
 exact ady.2 ⟨n + 1, hn n (Nat.le_refl n)⟩
structure abV (P : Program) (w0 : World) (T : Tab) : Prop where
 mixed : P.follows .mixedOrders = true
 fns : ∀ f ef, T.fn f = some ef → Hw P f ef = true
 aoe : ∀ f, T.fn f = none → ∀ args m r m', T.iK f args m = some (r, m') → xQ P w0 f args m r m'
theorem aiZ {P : Program} {w0 : World} {T : Tab} (hT : abV P w0 T) : ∀ n, agr P w0 (T.jW n)
 | 0 => ⟨⟨fun f args m r m' h => by simp [Tab.jW] at h, fun _ _ _ h => by simp [Tab.jW] at h⟩, fun _ _ _ _ _ _ _ _ _ _ _ _ _ _ _ h => by simp [Tab.jW] at h⟩
 | n + 1 => by
   have ih := aiZ hT n
   refine ⟨⟨fun f args m r m' h => ?_, fun f args d h => by rw [← JA]; exact h⟩, fun N ins outs body code hc c0 m0 hB0 hi0 vals m x vals' m' h c a hs hst Q hQ => ?_⟩
   ·change (match T.fn f with | some ef => ef.step (T.jW n) args m | none => T.iK f args m) = some (r, m') at h
    cases hf : T.fn f with
    | none => rw [hf] at h; exact hT.aoe f hf _ _ _ _ h
    | some ef => rw [hf] at h; exact an8 hT.mixed ih (hT.fns f ef hf) h
   ·change yh (T.jW n) ins outs body m0.length vals m = some (x, vals', m') at h
    refine CY.round (EC.sound hT.mixed ih body code hc _ m _ _ h c a hs _ fun x1 e1 m1 a1 c1 h1 hs1 hst1 => ?_)
    have leave : ∀ {ts : List Nat} {ds : List D} {m2 : Mem}, gc m0.length (mQ e1 ts) m1 = some (ds, m2) → ∃ c2, c2.w = c1.w ∧ St w0 N c2 (vC ts ds) m2 a1 ∧ Step c0 m0 c2 m2 := by
     intro ts ds m2 hgc
     obtain ⟨c2, hw2, hi2, hs2, hr2⟩ := alf hi0 hs1.inv (hst.trans hst1) (EJ hs1.env ts) hgc
     exact ⟨c2, hw2, ⟨hs1.size, hs1.defers, IL hr2, hi2, hB0.ext hs2.ext⟩, hs2⟩
    cases x1 with
    | normal =>
      simp only [Option.bind_eq_some_iff] at h1
      obtain ⟨⟨ds, m2⟩, hgc, h2⟩ := h1
      obtain ⟨c2, hw2, hs2, hst2⟩ := leave hgc
      show CY P code Q a1 c1.w
      rw [← hw2]
      exact ih.loops N ins outs body code hc c0 m0 hB0 hi0 ds m2 x vals' m' h2 c2 a1 hs2 hst2 Q hQ
    | exit i =>
      simp only [Option.bind_eq_some_iff, Option.some.injEq, Prod.mk.injEq] at h1
      obtain ⟨⟨ds, m2⟩, hgc, rfl, rfl, rfl⟩ := h1
      obtain ⟨c2, hw2, hs2, hst2⟩ := leave hgc
      show Q (.exit i) a1 c1.w
      rw [← hw2]
      exact hQ a1 c2 hs2 hst2
    | ret =>
      simp only [Option.bind_eq_some_iff, Option.some.injEq, Prod.mk.injEq] at h1
      obtain ⟨⟨ds, m2⟩, hgc, rfl, rfl, rfl⟩ := h1
      obtain ⟨c2, hw2, hs2, hst2⟩ := leave hgc
      show Q .ret a1 c1.w
      rw [← hw2]
      exact hQ a1 c2 hs2 hst2
end Go.Ev
