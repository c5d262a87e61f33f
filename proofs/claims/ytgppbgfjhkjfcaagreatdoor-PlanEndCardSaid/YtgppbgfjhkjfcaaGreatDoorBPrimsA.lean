/- A part of the proof of planStub_card, planEnd_card, planLone_card, bondLong_card. -/
import Derived.Test.YtgppbgfjhkjfcaaGreatDoorBErrB
import Derived.Test.YtgppbgfjhkjfcaaGreatDoorBPrimB
import Derived.Test.YtgppbgfjhkjfcaaGreatDoorBTab
set_option linter.unusedVariables false
set_option linter.unusedSimpArgs false
namespace Go.Ev.Code
open Go Go.Ev Go.Proofs Go.RowKit Go.Extern
theorem KZ {w0 : World} {c : Ctx} (hB : Base w0 c) {a : Addr} {v : Value} (h : w0.cell? a = some v) : c.w.cell? a = some v := by
 have hlt : a.block < w0.heap.size := by
  rcases Nat.lt_or_ge a.block w0.heap.size with h1 | h1
  ·exact h1
  ·simp [World.cell?, Array.getElem?_eq_none h1] at h
 have := (hB a.block hlt).2
 rw [← h]
 simp only [World.cell?, this]
theorem aiT {f : Nat} {fn : Func} (h1 : Tryz.prog.funcs[f]? = some fn) (h2 : fn.body.isSome = true) (h3 : (fn.name == "runtime.NumGoroutine") = false) : lY Tryz.prog f := ⟨fn, h1, h2, h3⟩
theorem Tz {P : Program} {w0 : World} {f : Nat} {args : List D} {m : Mem} {r : D} (hfn : lY P f)
  (h : ∀ (c : Ctx) (vs : List Value), Base w0 c → Inv c m → dP c args vs → ∃ v, (∀ c' : Ctx, Rep c' r v) ∧ Calls P f vs.toArray c.w fun e w' => e = .returned v ∧ Below c.w.heap.size c.w w') : wO P w0 f args m r m := by
 refine fun c vs hB hi hr => .inl ⟨hfn, ?_⟩
 obtain ⟨v, hv, hc⟩ := h c vs hB hi hr
 refine hc.mono ?_
 rintro e w' ⟨rfl, hbl⟩
 obtain ⟨h1, h2, h3⟩ := Xu hi hbl
 exact ⟨v, { c with w := w' }, rfl, rfl, hv _, h2, h3⟩
theorem aiC {w0 : World} (hT : ErrAs.jC w0) : gX Tryz.prog w0 mX aci := by
 have hfn : lY Tryz.prog mX := aiT Tryz.func38 (by kernel_rfl) (by kernel_rfl)
 intro args m r m' h
 unfold aci at h
 split at h <;> try (simp at h; done)
 ·simp only [Option.some.injEq, Prod.mk.injEq] at h
  obtain ⟨rfl, rfl⟩ := h
  refine Tz hfn fun c vs hB hi hr => ?_
  obtain ⟨v, rfl, hv⟩ := xZ hr
  have := hv.pX
  subst this
  exact ⟨_, fun c' => qU _ _, ErrAs.code_nil c.w⟩
 ·rename_i t d
  split at h
  ·rename_i ht
   subst ht
   split at h <;> try (simp at h; done)
   rename_i n
   simp only [Option.some.injEq, Prod.mk.injEq] at h
   obtain ⟨rfl, rfl⟩ := h
   refine Tz hfn fun c vs hB hi hr => ?_
   obtain ⟨v, rfl, hv⟩ := xZ hr
   obtain ⟨u, rfl, hu⟩ := hv.fJ
   have := hu.dD
   subst this
   exact ⟨_, fun c' => qU _ _, ErrAs.agU n c.w (KZ hB hT)⟩
  ·split at h <;> try (simp at h; done)
   rename_i ht
   subst ht
   split at h <;> try (simp at h; done)
   rename_i n cs
   simp only [Option.some.injEq, Prod.mk.injEq] at h
   obtain ⟨rfl, rfl⟩ := h
   refine Tz hfn fun c vs hB hi hr => ?_
   obtain ⟨v, rfl, hv⟩ := xZ hr
   obtain ⟨u, rfl, hu⟩ := hv.fJ
   obtain ⟨blk, st, cs', T, fr, g, rfl, hS, hb, hg, hgr⟩ := hu.vW
   have h0 := (hg 0 (by simp)).1
   have hF := hgr 0 (.int .i64 n) rfl
   have hv0 : g 0 = .int .i64 n := (Rep.dF _ _ hF : Rep c (.int .i64 n) (g 0)).dD
   rw [hv0] at h0
   refine ⟨_, fun c' => qU _ _, ErrAs.agT n ⟨blk, st + 0, none⟩ c.w (KZ hB hT) ?_⟩
   simpa [World.cell?, hb] using h0
theorem afM {w0 : World} : gX Tryz.prog w0 nH Zx := by
 intro args m r m' h
 unfold Zx at h
 split at h <;> try (simp at h; done)
 rename_i t k n
 split at h <;> try (simp at h; done)
 rename_i ht
 subst ht
 simp only [Option.some.injEq, Prod.mk.injEq] at h
 obtain ⟨rfl, rfl⟩ := h
 refine Pq fun c vs hi hr => ?_
 obtain ⟨v, rfl, hv⟩ := xZ hr
 obtain ⟨u, rfl, hu⟩ := hv.fJ
 have h10 := @run_callFunc_extern Tryz.prog 172 _ ReflectliteType.typeOf Tryz.func172 (by kernel_rfl) (by kernel_rfl) (by kernel_rfl) (by kernel_rfl)
 refine ⟨.iface 229 (.agg #[.pointer (some ⟨16, 134, none⟩)]), ?_, ?_⟩
 ·exact .iface _ _ _ (.agg _ _ (fun _ => .pointer (some ⟨16, 134, none⟩)) rfl (fun j hj => by
   have : j = 0 := by simp at hj; omega
   subst this; exact ⟨rfl, rfl⟩) (fun j d hd => by
   match j, hd with
   | 0, hd => simp at hd; subst hd; exact .dF _ _ (.raw _ _)))
 ·show (callFunc 172 #[.iface 134 u]).run Tryz.prog c.w = _
  rw [h10]
  have := ErrAs.agv u c.w
  simp [this]
theorem ae0 (w : World) : (ReflectliteType.method (fun t => do Rtype.noPackHeld "Comparable" t; pure (.bool (← typeInfo t).comparable)) #[.agg #[.pointer (some ⟨16, 134, none⟩)]]).run Tryz.prog w = .ok (.bool true) w := by kernel_rfl
theorem Xy {w0 : World} : gX Tryz.prog w0 jm MV := by
 intro args m r m' h
 unfold MV at h
 split at h <;> try (simp at h; done)
 rename_i b t
 split at h <;> try (simp at h; done)
 rename_i ht
 obtain ⟨rfl, rfl⟩ := ht
 simp only [Option.some.injEq, Prod.mk.injEq] at h
 obtain ⟨rfl, rfl⟩ := h
 refine Pq fun c vs hi hr => ?_
 obtain ⟨v, rfl, hv⟩ := xZ hr
 obtain ⟨us, g, rfl, hl, hg, hgr⟩ := hv.BZ
 have h10 := @run_callFunc_extern Tryz.prog 306 _ (ReflectliteType.method (fun t => do Rtype.noPackHeld "Comparable" t; pure (.bool (← typeInfo t).comparable))) Tryz.func306 (by kernel_rfl) (by kernel_rfl) (by kernel_rfl) (by kernel_rfl)
 have h0 := (hg 0 (by simp)).1
 have hv0 : g 0 = .pointer (some ⟨16, 134, none⟩) := (hgr 0 _ rfl).agi
 rw [hv0] at h0
 have hus : us = #[.pointer (some ⟨16, 134, none⟩)] := by
  apply Array.ext'
  have hl' : us.toList.length = 1 := by simpa using hl
  match hu : us.toList, hl' with
  | [x], _ =>
    rw [← Array.getElem?_toList, hu] at h0
    simpa using h0
 subst hus
 refine ⟨.bool true, W9 _, ?_⟩
 show (callFunc 306 #[.agg #[.pointer (some ⟨16, 134, none⟩)]]).run Tryz.prog c.w = _
 rw [h10, ae0]
 rfl
end Go.Ev.Code
