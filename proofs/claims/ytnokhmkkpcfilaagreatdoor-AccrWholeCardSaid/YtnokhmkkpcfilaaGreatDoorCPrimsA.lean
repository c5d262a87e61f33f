/- A part of the proof of flowSum_card, flowParts_card, flowEx_card, accrWhole_card, priceZero_card. -/
import Derived.Test.YtnokhmkkpcfilaaGreatDoorCErrB
import Derived.Test.YtnokhmkkpcfilaaGreatDoorCPrimB
import Derived.Test.YtnokhmkkpcfilaaGreatDoorCTab
set_option linter.unusedVariables false
set_option linter.unusedSimpArgs false
namespace Go.Ev.Code
open Go Go.Ev Go.Proofs Go.RowKit Go.Extern
theorem Qi {w0 : World} {c : Ctx} (hB : Base w0 c) {a : Addr} {v : Value} (h : w0.cell? a = some v) : c.w.cell? a = some v := by
 have hlt : a.block < w0.heap.size := by
  rcases Nat.lt_or_ge a.block w0.heap.size with h1 | h1
  ·exact h1
  ·simp [World.cell?, Array.getElem?_eq_none h1] at h
 have := (hB a.block hlt).2
 rw [← h]
 simp only [World.cell?, this]
theorem ama {f : Nat} {fn : Func} (h1 : Tryz.prog.funcs[f]? = some fn) (h2 : fn.body.isSome = true) (h3 : (fn.name == "runtime.NumGoroutine") = false) : oU Tryz.prog f := ⟨fn, h1, h2, h3⟩
theorem Xf {P : Program} {w0 : World} {f : Nat} {args : List D} {m : Mem} {r : D} (hfn : oU P f)
  (h : ∀ (c : Ctx) (vs : List Value), Base w0 c → Inv c m → dI c args vs → ∃ v, (∀ c' : Ctx, Rep c' r v) ∧ Calls P f vs.toArray c.w fun e w' => e = .returned v ∧ Below c.w.heap.size c.w w') : AY P w0 f args m r m := by
 refine fun c vs hB hi hr => .inl ⟨hfn, ?_⟩
 obtain ⟨v, hv, hc⟩ := h c vs hB hi hr
 refine hc.mono ?_
 rintro e w' ⟨rfl, hbl⟩
 obtain ⟨h1, h2, h3⟩ := Z_ hi hbl
 exact ⟨v, { c with w := w' }, rfl, rfl, hv _, h2, h3⟩
theorem alV {w0 : World} (hT : ErrAs.kR w0) : iZ Tryz.prog w0 mg afq := by
 have hfn : oU Tryz.prog mg := ama Tryz.func63 (by kernel_rfl) (by kernel_rfl)
 intro args m r m' h
 unfold afq at h
 split at h <;> try (simp at h; done)
 ·simp only [Option.some.injEq, Prod.mk.injEq] at h
  obtain ⟨rfl, rfl⟩ := h
  refine Xf hfn fun c vs hB hi hr => ?_
  obtain ⟨v, rfl, hv⟩ := DW hr
  have := hv.uJ
  subst this
  exact ⟨_, fun c' => vT _ _, ErrAs.code_nil c.w⟩
 ·rename_i t d
  split at h
  ·rename_i ht
   subst ht
   split at h <;> try (simp at h; done)
   rename_i n
   simp only [Option.some.injEq, Prod.mk.injEq] at h
   obtain ⟨rfl, rfl⟩ := h
   refine Xf hfn fun c vs hB hi hr => ?_
   obtain ⟨v, rfl, hv⟩ := DW hr
   obtain ⟨u, rfl, hu⟩ := hv.gq
   have := hu.bW
   subst this
   exact ⟨_, fun c' => vT _ _, ErrAs.akc n c.w (Qi hB hT)⟩
  ·split at h <;> try (simp at h; done)
   rename_i ht
   subst ht
   split at h <;> try (simp at h; done)
   rename_i n cs
   simp only [Option.some.injEq, Prod.mk.injEq] at h
   obtain ⟨rfl, rfl⟩ := h
   refine Xf hfn fun c vs hB hi hr => ?_
   obtain ⟨v, rfl, hv⟩ := DW hr
   obtain ⟨u, rfl, hu⟩ := hv.gq
   obtain ⟨blk, st, cs', T, fr, g, rfl, hS, hb, hg, hgr⟩ := hu.Ag
   have h0 := (hg 0 (by simp)).1
   have hF := hgr 0 (.int .i64 n) rfl
   have hv0 : g 0 = .int .i64 n := (Rep.bV _ _ hF : Rep c (.int .i64 n) (g 0)).bW
   rw [hv0] at h0
   refine ⟨_, fun c' => vT _ _, ErrAs.akb n ⟨blk, st + 0, none⟩ c.w (Qi hB hT) ?_⟩
   simpa [World.cell?, hb] using h0
theorem ai2 {w0 : World} : iZ Tryz.prog w0 gU acp := by
 intro args m r m' h
 unfold acp at h
 split at h <;> try (simp at h; done)
 rename_i t k n
 split at h <;> try (simp at h; done)
 rename_i ht
 subst ht
 simp only [Option.some.injEq, Prod.mk.injEq] at h
 obtain ⟨rfl, rfl⟩ := h
 refine UA fun c vs hi hr => ?_
 obtain ⟨v, rfl, hv⟩ := DW hr
 obtain ⟨u, rfl, hu⟩ := hv.gq
 have h10 := @run_callFunc_extern Tryz.prog 198 _ ReflectliteType.typeOf Tryz.func198 (by kernel_rfl) (by kernel_rfl) (by kernel_rfl) (by kernel_rfl)
 refine ⟨.iface 242 (.agg #[.pointer (some ⟨16, 134, none⟩)]), ?_, ?_⟩
 ·exact .iface _ _ _ (.agg _ _ (fun _ => .pointer (some ⟨16, 134, none⟩)) rfl (fun j hj => by
   have : j = 0 := by simp at hj; omega
   subst this; exact ⟨rfl, rfl⟩) (fun j d hd => by
   match j, hd with
   | 0, hd => simp at hd; subst hd; exact .bV _ _ (.raw _ _)))
 ·show (callFunc 198 #[.iface 134 u]).run Tryz.prog c.w = _
  rw [h10]
  have := ErrAs.ajK u c.w
  simp [this]
theorem aik (w : World) : (ReflectliteType.method (fun t => do Rtype.noPackHeld "Comparable" t; pure (.bool (← typeInfo t).comparable)) #[.agg #[.pointer (some ⟨16, 134, none⟩)]]).run Tryz.prog w = .ok (.bool true) w := by kernel_rfl
theorem aag {w0 : World} : iZ Tryz.prog w0 dR Ro := by
 intro args m r m' h
 unfold Ro at h
 split at h <;> try (simp at h; done)
 rename_i b t
 split at h <;> try (simp at h; done)
 rename_i ht
 obtain ⟨rfl, rfl⟩ := ht
 simp only [Option.some.injEq, Prod.mk.injEq] at h
 obtain ⟨rfl, rfl⟩ := h
 refine UA fun c vs hi hr => ?_
 obtain ⟨v, rfl, hv⟩ := DW hr
 obtain ⟨us, g, rfl, hl, hg, hgr⟩ := hv.Gz
 have h10 := @run_callFunc_extern Tryz.prog 298 _ (ReflectliteType.method (fun t => do Rtype.noPackHeld "Comparable" t; pure (.bool (← typeInfo t).comparable))) Tryz.func298 (by kernel_rfl) (by kernel_rfl) (by kernel_rfl) (by kernel_rfl)
 have h0 := (hg 0 (by simp)).1
 have hv0 : g 0 = .pointer (some ⟨16, 134, none⟩) := (hgr 0 _ rfl).ajx
 rw [hv0] at h0
 have hus : us = #[.pointer (some ⟨16, 134, none⟩)] := by
  apply Array.ext'
  have hl' : us.toList.length = 1 := by simpa using hl
  match hu : us.toList, hl' with
  | [x], _ =>
    rw [← Array.getElem?_toList, hu] at h0
    simpa using h0
 subst hus
 refine ⟨.bool true, ZH _, ?_⟩
 show (callFunc 298 #[.agg #[.pointer (some ⟨16, 134, none⟩)]]).run Tryz.prog c.w = _
 rw [h10, aik]
 rfl
end Go.Ev.Code
