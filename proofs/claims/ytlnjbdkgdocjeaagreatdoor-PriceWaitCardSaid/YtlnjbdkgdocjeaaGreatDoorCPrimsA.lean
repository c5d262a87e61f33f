/- A part of the proof of priceWait_card. -/
import Derived.Test.YtlnjbdkgdocjeaaGreatDoorCErrB
import Derived.Test.YtlnjbdkgdocjeaaGreatDoorCPrimB
set_option linter.unusedVariables false
set_option linter.unusedSimpArgs false
namespace Go.Ev.Code
open Go Go.Ev Go.Proofs Go.RowKit Go.Extern
theorem Rz {w0:World} {c:Ctx} (hB:Base w0 c) {a:Addr} {v:Value} (h:w0.cell? a=some v):c.w.cell? a=some v:=by
 have hlt:a.block<w0.heap.size:=by
  rcases Nat.lt_or_ge a.block w0.heap.size with h1 | h1
  ·exact h1
  ·simp [World.cell?,Array.getElem?_eq_none h1] at h
 have := (hB a.block hlt).2
 rw [← h]
 simp only [World.cell?,this]
theorem aoi {f:Nat} {fn:Func} (h1:Tryz.prog.funcs[f]?=some fn) (h2:fn.body.isSome=true) (h3:(fn.name == "runtime.NumGoroutine")=false):mW Tryz.prog f:=⟨fn,h1,h2,h3⟩
theorem Zr {P:Program} {w0:World} {f:Nat} {args:List D} {m:Mem} {r:D} (hfn:mW P f)
  (h:∀ (c:Ctx) (vs:List Value),Base w0 c→Inv c m→bU c args vs→∃ v,(∀ c':Ctx,Rep c' r v)∧Calls P f vs.toArray c.w fun e w'=>e = .returned v∧Below c.w.heap.size c.w w'):AO P w0 f args m r m:=by
 refine fun c vs hB hi hr => .inl ⟨hfn,?_⟩
 obtain ⟨v,hv,hc⟩:=h c vs hB hi hr
 refine hc.mono ?_
 rintro e w' ⟨rfl,hbl⟩
 obtain ⟨h1,h2,h3⟩:=acU hi hbl
 exact ⟨v,{ c with w:=w' },rfl,rfl,hv _,h2,h3⟩
theorem an4 {w0:World} (hT:ErrAs.jv w0):gQ Tryz.prog w0 qF ahD:=by
 have hfn:mW Tryz.prog qF:=aoi Tryz.func38 (by kernel_rfl) (by kernel_rfl)
 intro args m r m' h
 unfold ahD at h
 split at h <;> try (simp at h; done)
 ·simp only [Option.some.injEq,Prod.mk.injEq] at h
  obtain ⟨rfl,rfl⟩:=h
  refine Zr hfn fun c vs hB hi hr=>?_
  obtain ⟨v,rfl,hv⟩:=Dj hr
  have := hv.sK
  subst this
  exact ⟨_,fun c'=>uz _ _,ErrAs.code_nil c.w⟩
 ·rename_i t d
  split at h
  ·rename_i ht
   subst ht
   split at h <;> try (simp at h; done)
   rename_i n
   simp only [Option.some.injEq,Prod.mk.injEq] at h
   obtain ⟨rfl,rfl⟩:=h
   refine Zr hfn fun c vs hB hi hr=>?_
   obtain ⟨v,rfl,hv⟩:=Dj hr
   obtain ⟨u,rfl,hu⟩:=hv.eG
   have := hu.bg
   subst this
   exact ⟨_,fun c'=>uz _ _,ErrAs.amj n c.w (Rz hB hT)⟩
  ·split at h <;> try (simp at h; done)
   rename_i ht
   subst ht
   split at h <;> try (simp at h; done)
   rename_i n cs
   simp only [Option.some.injEq,Prod.mk.injEq] at h
   obtain ⟨rfl,rfl⟩:=h
   refine Zr hfn fun c vs hB hi hr=>?_
   obtain ⟨v,rfl,hv⟩:=Dj hr
   obtain ⟨u,rfl,hu⟩:=hv.eG
   obtain ⟨blk,st,cs',T,fr,g,rfl,hS,hb,hg,hgr⟩:=hu.zT
   have h0:=(hg 0 (by simp)).1
   have hF:=hgr 0 (.int .i64 n) rfl
   have hv0:g 0 = .int .i64 n:=(Rep.bG _ _ hF:Rep c (.int .i64 n) (g 0)).bg
   rw [hv0] at h0
   refine ⟨_,fun c'=>uz _ _,ErrAs.ami n ⟨blk,st+0,none⟩ c.w (Rz hB hT) ?_⟩
   simpa [World.cell?,hb] using h0
theorem alg {w0:World}:gQ Tryz.prog w0 jM ae4:=by
 intro args m r m' h
 unfold ae4 at h
 split at h <;> try (simp at h; done)
 rename_i t k n
 split at h <;> try (simp at h; done)
 rename_i ht
 subst ht
 simp only [Option.some.injEq,Prod.mk.injEq] at h
 obtain ⟨rfl,rfl⟩:=h
 refine WX fun c vs hi hr=>?_
 obtain ⟨v,rfl,hv⟩:=Dj hr
 obtain ⟨u,rfl,hu⟩:=hv.eG
 have h10 := @run_callFunc_extern Tryz.prog 190 _ ReflectliteType.typeOf Tryz.func190 (by kernel_rfl) (by kernel_rfl) (by kernel_rfl) (by kernel_rfl)
 refine ⟨.iface 247 (.agg #[.pointer (some ⟨16,141,none⟩)]),?_,?_⟩
 ·exact .iface _ _ _ (.agg _ _ (fun _ => .pointer (some ⟨16,141,none⟩)) rfl (fun j hj=>by
   have : j=0:=by simp at hj; omega
   subst this; exact ⟨rfl,rfl⟩) (fun j d hd=>by
   match j,hd with
   | 0,hd=>simp at hd; subst hd; exact .bG _ _ (.raw _ _)))
 ·show (callFunc 190 #[.iface 141 u]).run Tryz.prog c.w=_
  rw [h10]
  have := ErrAs.al0 u c.w
  simp [this]
theorem akt (w:World):(ReflectliteType.method (fun t=>do Rtype.noPackHeld "Comparable" t; pure (.bool (← typeInfo t).comparable)) #[.agg #[.pointer (some ⟨16,141,none⟩)]]).run Tryz.prog w = .ok (.bool true) w:=by kernel_rfl
theorem ac1 {w0:World}:gQ Tryz.prog w0 dS Uh:=by
 intro args m r m' h
 unfold Uh at h
 split at h <;> try (simp at h; done)
 rename_i b t
 split at h <;> try (simp at h; done)
 rename_i ht
 obtain ⟨rfl,rfl⟩:=ht
 simp only [Option.some.injEq,Prod.mk.injEq] at h
 obtain ⟨rfl,rfl⟩:=h
 refine WX fun c vs hi hr=>?_
 obtain ⟨v,rfl,hv⟩:=Dj hr
 obtain ⟨us,g,rfl,hl,hg,hgr⟩:=hv.FM
 have h10 := @run_callFunc_extern Tryz.prog 321 _ (ReflectliteType.method (fun t=>do Rtype.noPackHeld "Comparable" t; pure (.bool (← typeInfo t).comparable))) Tryz.func321 (by kernel_rfl) (by kernel_rfl) (by kernel_rfl) (by kernel_rfl)
 have h0:=(hg 0 (by simp)).1
 have hv0:g 0 = .pointer (some ⟨16,141,none⟩):=(hgr 0 _ rfl).alM
 rw [hv0] at h0
 have hus:us = #[.pointer (some ⟨16,141,none⟩)]:=by
  apply Array.ext'
  have hl':us.toList.length=1:=by simpa using hl
  match hu:us.toList,hl' with
  | [x],_ =>
    rw [← Array.getElem?_toList,hu] at h0
    simpa using h0
 subst hus
 refine ⟨.bool true,acB _,?_⟩
 show (callFunc 321 #[.agg #[.pointer (some ⟨16,141,none⟩)]]).run Tryz.prog c.w=_
 rw [h10,akt]
 rfl
end Go.Ev.Code
