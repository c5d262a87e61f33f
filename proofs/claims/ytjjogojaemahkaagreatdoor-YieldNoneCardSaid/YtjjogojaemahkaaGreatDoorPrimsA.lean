/- A part of the proof of the theorem yieldNone_card. -/
import Derived.Test.YtjjogojaemahkaaGreatDoorErrB
import Derived.Test.YtjjogojaemahkaaGreatDoorPrimB
import Derived.Test.YtjjogojaemahkaaGreatDoorTab
set_option linter.unusedVariables false
set_option linter.unusedSimpArgs false
namespace Go.Ev.Code
open Go Go.Ev Go.Proofs Go.RowKit Go.Extern
theorem base_cell {w0 : World} {c : Ctx} (hB : Base w0 c) {a : Addr} {v : Value} (h : w0.cell? a = some v) : c.w.cell? a = some v := by
  have hlt : a.block < w0.heap.size := by
    rcases Nat.lt_or_ge a.block w0.heap.size with h1 | h1
    · exact h1
    · simp [World.cell?, Array.getElem?_eq_none h1] at h
  have := (hB a.block hlt).2
  rw [← h]
  simp only [World.cell?, this]
theorem fnHere_of {f : Nat} {fn : Func} (h1 : Tryz.prog.funcs[f]? = some fn) (h2 : fn.body.isSome = true) (h3 : (fn.name == "runtime.NumGoroutine") = false) : FnHere Tryz.prog f := ⟨fn, h1, h2, h3⟩
theorem prim_base {P : Program} {w0 : World} {f : Nat} {args : List D} {m : Mem} {r : D} (hfn : FnHere P f)
    (h : ∀ (c : Ctx) (vs : List Value), Base w0 c → Inv c m → RepL c args vs → ∃ v, (∀ c' : Ctx, Rep c' r v) ∧ Calls P f vs.toArray c.w fun e w' => e = .returned v ∧ Below c.w.heap.size c.w w') : CallOk P w0 f args m r m := by
  refine fun c vs hB hi hr => .inl ⟨hfn, ?_⟩
  obtain ⟨v, hv, hc⟩ := h c vs hB hi hr
  refine hc.mono ?_
  rintro e w' ⟨rfl, hbl⟩
  obtain ⟨h1, h2, h3⟩ := below_step hi hbl
  exact ⟨v, { c with w := w' }, rfl, rfl, hv _, h2, h3⟩
theorem code_prim {w0 : World} (hT : ErrAs.TypeVar w0) : PrimOk Tryz.prog w0 fault_Code pCode := by
  have hfn : FnHere Tryz.prog fault_Code := fnHere_of Tryz.func80 (by kernel_rfl) (by kernel_rfl)
  intro args m r m' h
  unfold pCode at h
  split at h <;> try (simp at h; done)
  · simp only [Option.some.injEq, Prod.mk.injEq] at h
    obtain ⟨rfl, rfl⟩ := h
    refine prim_base hfn fun c vs hB hi hr => ?_
    obtain ⟨v, rfl, hv⟩ := repL1 hr
    have := hv.nili_inv
    subst this
    exact ⟨_, fun c' => rep_int _ _, ErrAs.code_nil c.w⟩
  · rename_i t d
    split at h
    · rename_i ht
      subst ht
      split at h <;> try (simp at h; done)
      rename_i n
      simp only [Option.some.injEq, Prod.mk.injEq] at h
      obtain ⟨rfl, rfl⟩ := h
      refine prim_base hfn fun c vs hB hi hr => ?_
      obtain ⟨v, rfl, hv⟩ := repL1 hr
      obtain ⟨u, rfl, hu⟩ := hv.iface_inv
      have := hu.int_inv
      subst this
      exact ⟨_, fun c' => rep_int _ _, ErrAs.code_plain n c.w (base_cell hB hT)⟩
    · split at h <;> try (simp at h; done)
      rename_i ht
      subst ht
      split at h <;> try (simp at h; done)
      rename_i n cs
      simp only [Option.some.injEq, Prod.mk.injEq] at h
      obtain ⟨rfl, rfl⟩ := h
      refine prim_base hfn fun c vs hB hi hr => ?_
      obtain ⟨v, rfl, hv⟩ := repL1 hr
      obtain ⟨u, rfl, hu⟩ := hv.iface_inv
      obtain ⟨blk, st, cs', T, fr, g, rfl, hS, hb, hg, hgr⟩ := hu.ref_inv
      have h0 := (hg 0 (by simp)).1
      have hF := hgr 0 (.int .i64 n) rfl
      have hv0 : g 0 = .int .i64 n := (Rep.fro _ _ hF : Rep c (.int .i64 n) (g 0)).int_inv
      rw [hv0] at h0
      refine ⟨_, fun c' => rep_int _ _, ErrAs.code_fault n ⟨blk, st + 0, none⟩ c.w (base_cell hB hT) ?_⟩
      simpa [World.cell?, hb] using h0
theorem typeOf_prim {w0 : World} : PrimOk Tryz.prog w0 internal_reflectlite_TypeOf pTypeOf := by
  intro args m r m' h
  unfold pTypeOf at h
  split at h <;> try (simp at h; done)
  rename_i t k n
  split at h <;> try (simp at h; done)
  rename_i ht
  subst ht
  simp only [Option.some.injEq, Prod.mk.injEq] at h
  obtain ⟨rfl, rfl⟩ := h
  refine prim_ext fun c vs hi hr => ?_
  obtain ⟨v, rfl, hv⟩ := repL1 hr
  obtain ⟨u, rfl, hu⟩ := hv.iface_inv
  have h10 := @run_callFunc_extern Tryz.prog 245 _ ReflectliteType.typeOf Tryz.func245 (by kernel_rfl) (by kernel_rfl) (by kernel_rfl) (by kernel_rfl)
  refine ⟨.iface 286 (.agg #[.pointer (some ⟨16, 168, none⟩)]), ?_, ?_⟩
  · exact .iface _ _ _ (.agg _ _ (fun _ => .pointer (some ⟨16, 168, none⟩)) rfl (fun j hj => by
      have : j = 0 := by simp at hj; omega
      subst this; exact ⟨rfl, rfl⟩) (fun j d hd => by
      match j, hd with
      | 0, hd => simp at hd; subst hd; exact .fro _ _ (.raw _ _)))
  · show (callFunc 245 #[.iface 168 u]).run Tryz.prog c.w = _
    rw [h10]
    have := ErrAs.typeOfI u c.w
    simp [this]
theorem comparableI (w : World) : (ReflectliteType.method (fun t => do Rtype.noPackHeld "Comparable" t; pure (.bool (← typeInfo t).comparable)) #[.agg #[.pointer (some ⟨16, 168, none⟩)]]).run Tryz.prog w = .ok (.bool true) w := by kernel_rfl
theorem comparable_prim {w0 : World} : PrimOk Tryz.prog w0 internal_reflectlite_rtype_Comparable pComparable := by
  intro args m r m' h
  unfold pComparable at h
  split at h <;> try (simp at h; done)
  rename_i b t
  split at h <;> try (simp at h; done)
  rename_i ht
  obtain ⟨rfl, rfl⟩ := ht
  simp only [Option.some.injEq, Prod.mk.injEq] at h
  obtain ⟨rfl, rfl⟩ := h
  refine prim_ext fun c vs hi hr => ?_
  obtain ⟨v, rfl, hv⟩ := repL1 hr
  obtain ⟨us, g, rfl, hl, hg, hgr⟩ := hv.agg_inv
  have h10 := @run_callFunc_extern Tryz.prog 343 _ (ReflectliteType.method (fun t => do Rtype.noPackHeld "Comparable" t; pure (.bool (← typeInfo t).comparable))) Tryz.func343 (by kernel_rfl) (by kernel_rfl) (by kernel_rfl) (by kernel_rfl)
  have h0 := (hg 0 (by simp)).1
  have hv0 : g 0 = .pointer (some ⟨16, 168, none⟩) := (hgr 0 _ rfl).raw_inv
  rw [hv0] at h0
  have hus : us = #[.pointer (some ⟨16, 168, none⟩)] := by
    apply Array.ext'
    have hl' : us.toList.length = 1 := by simpa using hl
    match hu : us.toList, hl' with
    | [x], _ =>
      rw [← Array.getElem?_toList, hu] at h0
      simpa using h0
  subst hus
  refine ⟨.bool true, rep_bool _, ?_⟩
  show (callFunc 343 #[.agg #[.pointer (some ⟨16, 168, none⟩)]]).run Tryz.prog c.w = _
  rw [h10, comparableI]
  rfl
end Go.Ev.Code
