/- Part of accrDay_card. -/
import Derived.Test.YtechakbhjeieaaaGreatDoorCErrB
import Derived.Test.YtechakbhjeieaaaGreatDoorCPrimB
set_option linter.unusedVariables false
set_option linter.unusedSimpArgs false
namespace Go.Ev.Code
open Go Go.Ev Go.Proofs Go.RowKit Go.Extern
theorem TW {w0:World} {c:Ctx} (hB:Base w0 c) {a:Addr} {v:Value} (h:w0.cell? a=some v):c.w.cell? a=some v:=by
 have hlt:a.block<w0.heap.size:=by
  rcases Nat.lt_or_ge a.block w0.heap.size with h1 | h1
  ·exact h1
  ·simp [World.cell?,Array.getElem?_eq_none h1] at h
 have := (hB a.block hlt).2
 rw [← h]
 simp only [World.cell?,this]
theorem apg {f:Nat} {fn:Func} (h1:Tryz.prog.funcs[f]?=some fn) (h2:fn.body.isSome=true) (h3:(fn.name == "runtime.NumGoroutine")=false):sQ Tryz.prog f:=⟨fn,h1,h2,h3⟩
theorem Z7 {P:Program} {w0:World} {f:Nat} {args:List D} {m:Mem} {r:D} (hfn:sQ P f)
  (h:∀ (c:Ctx) (vs:List Value),Base w0 c→Inv c m→dO c args vs→∃ v,(∀ c':Ctx,Rep c' r v)∧Calls P f vs.toArray c.w fun e w'=>e = .returned v∧Below c.w.heap.size c.w w'):Ew P w0 f args m r m:=by
 refine fun c vs hB hi hr => .inl ⟨hfn,?_⟩
 obtain ⟨v,hv,hc⟩:=h c vs hB hi hr
 refine hc.mono ?_
 rintro e w' ⟨rfl,hbl⟩
 obtain ⟨h1,h2,h3⟩:=adk hi hbl
 exact ⟨v,{ c with w:=w' },rfl,rfl,hv _,h2,h3⟩
theorem ao4 {w0:World} (hT:ErrAs.nU w0):jP Tryz.prog w0 zS anM:=by
 have hfn:sQ Tryz.prog zS:=apg Tryz.func49 (by kernel_rfl) (by kernel_rfl)
 intro args m r m' h
 unfold anM at h
 split at h <;> try (simp at h; done)
 ·simp only [Option.some.injEq,Prod.mk.injEq] at h
  obtain ⟨rfl,rfl⟩:=h
  refine Z7 hfn fun c vs hB hi hr=>?_
  obtain ⟨v,rfl,hv⟩:=Gt hr
  have := hv.yA
  subst this
  exact ⟨_,fun c'=>zh _ _,ErrAs.code_nil c.w⟩
 ·rename_i t d
  split at h
  ·rename_i ht
   subst ht
   split at h <;> try (simp at h; done)
   rename_i n
   simp only [Option.some.injEq,Prod.mk.injEq] at h
   obtain ⟨rfl,rfl⟩:=h
   refine Z7 hfn fun c vs hB hi hr=>?_
   obtain ⟨v,rfl,hv⟩:=Gt hr
   obtain ⟨u,rfl,hu⟩:=hv.iF
   have := hu.cO
   subst this
   exact ⟨_,fun c'=>zh _ _,ErrAs.ana n c.w (TW hB hT)⟩
  ·split at h <;> try (simp at h; done)
   rename_i ht
   subst ht
   split at h <;> try (simp at h; done)
   rename_i n cs
   simp only [Option.some.injEq,Prod.mk.injEq] at h
   obtain ⟨rfl,rfl⟩:=h
   refine Z7 hfn fun c vs hB hi hr=>?_
   obtain ⟨v,rfl,hv⟩:=Gt hr
   obtain ⟨u,rfl,hu⟩:=hv.iF
   obtain ⟨blk,st,cs',T,fr,g,rfl,hS,hb,hg,hgr⟩:=hu.D5
   have h0:=(hg 0 (by simp)).1
   have hF:=hgr 0 (.int .i64 n) rfl
   have hv0:g 0 = .int .i64 n:=(Rep.dA _ _ hF:Rep c (.int .i64 n) (g 0)).cO
   rw [hv0] at h0
   refine ⟨_,fun c'=>zh _ _,ErrAs.am' n ⟨blk,st+0,none⟩ c.w (TW hB hT) ?_⟩
   simpa [World.cell?,hb] using h0
theorem alX {w0:World}:jP Tryz.prog w0 iT afh:=by
 intro args m r m' h
 unfold afh at h
 split at h <;> try (simp at h; done)
 rename_i t k n
 split at h <;> try (simp at h; done)
 rename_i ht
 subst ht
 simp only [Option.some.injEq,Prod.mk.injEq] at h
 obtain ⟨rfl,rfl⟩:=h
 refine XL fun c vs hi hr=>?_
 obtain ⟨v,rfl,hv⟩:=Gt hr
 obtain ⟨u,rfl,hu⟩:=hv.iF
 have h10 := @run_callFunc_extern Tryz.prog 192 _ ReflectliteType.typeOf Tryz.func192 (by kernel_rfl) (by kernel_rfl) (by kernel_rfl) (by kernel_rfl)
 refine ⟨.iface 248 (.agg #[.pointer (some ⟨16,141,none⟩)]),?_,?_⟩
 ·exact .iface _ _ _ (.agg _ _ (fun _ => .pointer (some ⟨16,141,none⟩)) rfl (fun j hj=>by
   have : j=0:=by simp at hj; omega
   subst this; exact ⟨rfl,rfl⟩) (fun j d hd=>by
   match j,hd with
   | 0,hd=>simp at hd; subst hd; exact .dA _ _ (.raw _ _)))
 ·show (callFunc 192 #[.iface 141 u]).run Tryz.prog c.w=_
  rw [h10]
  have := ErrAs.amI u c.w
  simp [this]
theorem ak8 (w:World):(ReflectliteType.method (fun t=>do Rtype.noPackHeld "Comparable" t; pure (.bool (← typeInfo t).comparable)) #[.agg #[.pointer (some ⟨16,141,none⟩)]]).run Tryz.prog w = .ok (.bool true) w:=by kernel_rfl
theorem adp {w0:World}:jP Tryz.prog w0 eU Vl:=by
 intro args m r m' h
 unfold Vl at h
 split at h <;> try (simp at h; done)
 rename_i b t
 split at h <;> try (simp at h; done)
 rename_i ht
 obtain ⟨rfl,rfl⟩:=ht
 simp only [Option.some.injEq,Prod.mk.injEq] at h
 obtain ⟨rfl,rfl⟩:=h
 refine XL fun c vs hi hr=>?_
 obtain ⟨v,rfl,hv⟩:=Gt hr
 obtain ⟨us,g,rfl,hl,hg,hgr⟩:=hv.JC
 have h10 := @run_callFunc_extern Tryz.prog 323 _ (ReflectliteType.method (fun t=>do Rtype.noPackHeld "Comparable" t; pure (.bool (← typeInfo t).comparable))) Tryz.func323 (by kernel_rfl) (by kernel_rfl) (by kernel_rfl) (by kernel_rfl)
 have h0:=(hg 0 (by simp)).1
 have hv0:g 0 = .pointer (some ⟨16,141,none⟩):=(hgr 0 _ rfl).amv
 rw [hv0] at h0
 have hus:us = #[.pointer (some ⟨16,141,none⟩)]:=by
  apply Array.ext'
  have hl':us.toList.length=1:=by simpa using hl
  match hu:us.toList,hl' with
  | [x],_ =>
    rw [← Array.getElem?_toList,hu] at h0
    simpa using h0
 subst hus
 refine ⟨.bool true,acZ _,?_⟩
 show (callFunc 323 #[.agg #[.pointer (some ⟨16,141,none⟩)]]).run Tryz.prog c.w=_
 rw [h10,ak8]
 rfl
end Go.Ev.Code
