/- A part of the proof of priceAll_card, yieldAll_card, priceSum_card, flowAll_card, accrAll_card. -/
import Derived.Test.YtfkdcfbleblgoaaGreatDoorCLim
set_option linter.unusedVariables false
set_option linter.unusedSimpArgs false
namespace Go.Ev
open Go.RowKit
section
variable {P:Program} {w0:World}
theorem akT {c:Ctx} {m:Mem} {w':World} (hi:Inv c m) (h:Below c.w.heap.size c.w w'):Ext c { c with w:=w' }∧Inv { c with w:=w' } m∧Step c m { c with w:=w' } m:=by
 have hold:∀ b,b<c.w.heap.size→w'.heap[b]?=c.w.heap[b]?:=fun b hb=>h.block b hb
 obtain ⟨h1,h2⟩:=hi.more c.S w' (fun _ h=>h) (fun _ h => .inl h) (fun b hb=>Nat.lt_of_lt_of_le (hi.lt b hb) h.size) h.size hold ⟨h.os,h.output⟩
 exact ⟨h2.ext,h1,h2⟩
abbrev rX (P:Program) (f:Nat):Prop:=∃ fn,P.funcs[f]?=some fn∧fn.body.isSome=true∧(fn.name == "runtime.NumGoroutine")=false
theorem alP {f:Nat} {args:List D} {m:Mem} {r:D} (hfn:rX P f)
  (h:∀ (c:Ctx) (vs:List Value),Inv c m→dM c args vs→∃ v,(∀ c':Ctx,Rep c' r v)∧Calls P f vs.toArray c.w fun e w'=>e = .returned v∧Below c.w.heap.size c.w w'):IU P w0 f args m r m:=by
 refine fun c vs hB hi hr => .inl ⟨hfn,?_⟩
 obtain ⟨v,hv,hc⟩:=h c vs hi hr
 refine hc.mono ?_
 rintro e w' ⟨rfl,hbl⟩
 obtain ⟨h1,h2,h3⟩:=akT hi hbl
 exact ⟨v,{ c with w:=w' },rfl,rfl,hv _,h2,h3⟩
theorem abg {f:Nat} {args:List D} {m:Mem} {r:D} (hfn:rX P f)
  (h:∀ (c:Ctx) (vs:List Value),Inv c m→dM c args vs→∃ v,Rep c r v∧Calls P f vs.toArray c.w fun e w'=>e = .returned v∧w'=c.w):IU P w0 f args m r m:=by
 refine fun c vs hB hi hr => .inl ⟨hfn,?_⟩
 obtain ⟨v,hv,hc⟩:=h c vs hi hr
 refine hc.mono ?_
 rintro e w' ⟨rfl,rfl⟩
 exact ⟨v,c,rfl,rfl,hv,hi,.refl c m⟩
theorem aeQ {f:Nat} {args:List D} {m:Mem} {r:D}
  (h:∀ (c:Ctx) (vs:List Value),Inv c m→dM c args vs→∃ v,Rep c r v∧(callFunc f vs.toArray).run P c.w = .ok (.value v) c.w):IU P w0 f args m r m:=by
 refine fun c vs hB hi hr => .inr ?_
 obtain ⟨v,hv,hc⟩:=h c vs hi hr
 exact ⟨v,c.w,hc,v,c,rfl,rfl,hv,hi,.refl c m⟩
end
end Go.Ev
