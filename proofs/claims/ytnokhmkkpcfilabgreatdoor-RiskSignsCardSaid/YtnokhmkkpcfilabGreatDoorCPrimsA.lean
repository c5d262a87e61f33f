/- A part of the proof of priceFalls_card, riskSigns_card, yieldBack_card, yieldEdge_card, yieldFalls_card. -/
import Derived.Test.YtnokhmkkpcfilabGreatDoorCErrB
import Derived.Test.YtnokhmkkpcfilabGreatDoorCPrimB
import Derived.Test.YtnokhmkkpcfilabGreatDoorCTab
set_option linter.unusedVariables false
set_option linter.unusedSimpArgs false
namespace Go.Ev.Code
open Go Go.Ev Go.Proofs Go.RowKit Go.Extern
theorem RF {w0 : World} {c : Ctx} (hB : Base w0 c) {a : Addr} {v : Value} (h : w0.cell? a = some v) : c.w.cell? a = some v := by
 have hlt : a.block < w0.heap.size := by
  rcases Nat.lt_or_ge a.block w0.heap.size with h1 | h1
  ·exact h1
  ·simp [World.cell?, Array.getElem?_eq_none h1] at h
 have := (hB a.block hlt).2
 rw [← h]
 simp only [World.cell?, this]
theorem ang {f : Nat} {fn : Func} (h1 : Tryz.prog.funcs[f]? = some fn) (h2 : fn.body.isSome = true) (h3 : (fn.name == "runtime.NumGoroutine") = false) : pX Tryz.prog f := ⟨fn, h1, h2, h3⟩
theorem Yr {P : Program} {w0 : World} {f : Nat} {args : List D} {m : Mem} {r : D} (hfn : pX P f)
  (h : ∀ (c : Ctx) (vs : List Value), Base w0 c → Inv c m → dV c args vs → ∃ v, (∀ c' : Ctx, Rep c' r v) ∧ Calls P f vs.toArray c.w fun e w' => e = .returned v ∧ Below c.w.heap.size c.w w') : BX P w0 f args m r m := by
 refine fun c vs hB hi hr => .inl ⟨hfn, ?_⟩
 obtain ⟨v, hv, hc⟩ := h c vs hB hi hr
 refine hc.mono ?_
 rintro e w' ⟨rfl, hbl⟩
 obtain ⟨h1, h2, h3⟩ := abv hi hbl
 exact ⟨v, { c with w := w' }, rfl, rfl, hv _, h2, h3⟩
theorem amX {w0 : World} (hT : ErrAs.lI w0) : jD Tryz.prog w0 iG agE := by
 have hfn : pX Tryz.prog iG := ang Tryz.func12 (by kernel_rfl) (by kernel_rfl)
 intro args m r m' h
 unfold agE at h
 split at h <;> try (simp at h; done)
 ·simp only [Option.some.injEq, Prod.mk.injEq] at h
  obtain ⟨rfl, rfl⟩ := h
  refine Yr hfn fun c vs hB hi hr => ?_
  obtain ⟨v, rfl, hv⟩ := EW hr
  have := hv.vV
  subst this
  exact ⟨_, fun c' => w_ _ _, ErrAs.code_nil c.w⟩
 ·rename_i t d
  split at h
  ·rename_i ht
   subst ht
   split at h <;> try (simp at h; done)
   rename_i n
   simp only [Option.some.injEq, Prod.mk.injEq] at h
   obtain ⟨rfl, rfl⟩ := h
   refine Yr hfn fun c vs hB hi hr => ?_
   obtain ⟨v, rfl, hv⟩ := EW hr
   obtain ⟨u, rfl, hu⟩ := hv.h_
   have := hu.cO
   subst this
   exact ⟨_, fun c' => w_ _ _, ErrAs.ale n c.w (RF hB hT)⟩
  ·split at h <;> try (simp at h; done)
   rename_i ht
   subst ht
   split at h <;> try (simp at h; done)
   rename_i n cs
   simp only [Option.some.injEq, Prod.mk.injEq] at h
   obtain ⟨rfl, rfl⟩ := h
   refine Yr hfn fun c vs hB hi hr => ?_
   obtain ⟨v, rfl, hv⟩ := EW hr
   obtain ⟨u, rfl, hu⟩ := hv.h_
   obtain ⟨blk, st, cs', T, fr, g, rfl, hS, hb, hg, hgr⟩ := hu.Bg
   have h0 := (hg 0 (by simp)).1
   have hF := hgr 0 (.int .i64 n) rfl
   have hv0 : g 0 = .int .i64 n := (Rep.b_ _ _ hF : Rep c (.int .i64 n) (g 0)).cO
   rw [hv0] at h0
   refine ⟨_, fun c' => w_ _ _, ErrAs.ald n ⟨blk, st + 0, none⟩ c.w (RF hB hT) ?_⟩
   simpa [World.cell?, hb] using h0
theorem aj' {w0 : World} : jD Tryz.prog w0 iI adL := by
 intro args m r m' h
 unfold adL at h
 split at h <;> try (simp at h; done)
 rename_i t k n
 split at h <;> try (simp at h; done)
 rename_i ht
 subst ht
 simp only [Option.some.injEq, Prod.mk.injEq] at h
 obtain ⟨rfl, rfl⟩ := h
 refine V6 fun c vs hi hr => ?_
 obtain ⟨v, rfl, hv⟩ := EW hr
 obtain ⟨u, rfl, hu⟩ := hv.h_
 have h10 := @run_callFunc_extern Tryz.prog 129 _ ReflectliteType.typeOf Tryz.func129 (by kernel_rfl) (by kernel_rfl) (by kernel_rfl) (by kernel_rfl)
 refine ⟨.iface 187 (.agg #[.pointer (some ⟨16, 150, none⟩)]), ?_, ?_⟩
 ·exact .iface _ _ _ (.agg _ _ (fun _ => .pointer (some ⟨16, 150, none⟩)) rfl (fun j hj => by
   have : j = 0 := by simp at hj; omega
   subst this; exact ⟨rfl, rfl⟩) (fun j d hd => by
   match j, hd with
   | 0, hd => simp at hd; subst hd; exact .b_ _ _ (.raw _ _)))
 ·show (callFunc 129 #[.iface 150 u]).run Tryz.prog c.w = _
  rw [h10]
  have := ErrAs.akO u c.w
  simp [this]
theorem ajr (w : World) : (ReflectliteType.method (fun t => do Rtype.noPackHeld "Comparable" t; pure (.bool (← typeInfo t).comparable)) #[.agg #[.pointer (some ⟨16, 150, none⟩)]]).run Tryz.prog w = .ok (.bool true) w := by kernel_rfl
theorem abz {w0 : World} : jD Tryz.prog w0 eP TV := by
 intro args m r m' h
 unfold TV at h
 split at h <;> try (simp at h; done)
 rename_i b t
 split at h <;> try (simp at h; done)
 rename_i ht
 obtain ⟨rfl, rfl⟩ := ht
 simp only [Option.some.injEq, Prod.mk.injEq] at h
 obtain ⟨rfl, rfl⟩ := h
 refine V6 fun c vs hi hr => ?_
 obtain ⟨v, rfl, hv⟩ := EW hr
 obtain ⟨us, g, rfl, hl, hg, hgr⟩ := hv.Ir
 have h10 := @run_callFunc_extern Tryz.prog 288 _ (ReflectliteType.method (fun t => do Rtype.noPackHeld "Comparable" t; pure (.bool (← typeInfo t).comparable))) Tryz.func288 (by kernel_rfl) (by kernel_rfl) (by kernel_rfl) (by kernel_rfl)
 have h0 := (hg 0 (by simp)).1
 have hv0 : g 0 = .pointer (some ⟨16, 150, none⟩) := (hgr 0 _ rfl).akD
 rw [hv0] at h0
 have hus : us = #[.pointer (some ⟨16, 150, none⟩)] := by
  apply Array.ext'
  have hl' : us.toList.length = 1 := by simpa using hl
  match hu : us.toList, hl' with
  | [x], _ =>
    rw [← Array.getElem?_toList, hu] at h0
    simpa using h0
 subst hus
 refine ⟨.bool true, aa4 _, ?_⟩
 show (callFunc 288 #[.agg #[.pointer (some ⟨16, 150, none⟩)]]).run Tryz.prog c.w = _
 rw [h10, ajr]
 rfl
end Go.Ev.Code
