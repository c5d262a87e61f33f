/- A part of the proof of priceFalls_card, riskSigns_card, yieldBack_card, yieldEdge_card, yieldFalls_card. -/
import Derived.Test.YtnokhmkkpcfilabGreatDoorChecked
import Derived.KernelRfl
import Derived.Test.YtnokhmkkpcfilabGreatDoorCFun
import Derived.Test.YtnokhmkkpcfilabGreatDoorCTab
import Derived.Test.YtnokhmkkpcfilabGreatDoorCPrimsF
set_option linter.unusedVariables false
section
set_option maxRecDepth 100000
namespace Go.Ev.Code
open Go Go.Ev Go.Proofs
noncomputable def pY (l : List (Nat × EF)) : Bool := l.all fun p => Oa Tryz.prog p.1 p.2
theorem asM : pY ft0 = true := by kernel_rfl
theorem asN : pY ft1 = true := by kernel_rfl
theorem asO : pY ft2 = true := by kernel_rfl
theorem asP : pY ft3 = true := by kernel_rfl
theorem asQ : pY ft4 = true := by kernel_rfl
theorem N_ {l r : List (Nat × EF)} (h1 : pY l = true) (h2 : pY r = true) : pY (l ++ r) = true := by
 unfold pY at *
 rw [List.all_append, h1, h2]; rfl
theorem asH : pY agB = true := N_ asM (N_ asN (N_ asO (N_ asP (asQ))))
theorem aq9 {f : Nat} {ef : EF} (h : (f, ef) ∈ agB) : Oa Tryz.prog f ef = true := List.all_eq_true.1 asH (f, ef) h
end Go.Ev.Code
end
section
namespace Go.Ev.Code
set_option maxRecDepth 100000
open Go Go.Ev Go.Proofs
structure Vars (w : World) : Prop where
 type : ErrAs.lI w
 max : amd w
 bits : aso w
 pow : Go.Lib.TabIs Tryz.prog w "internal/strconv.uint64pow10" .u64 Go.Lib.pow10Tab
theorem atn {w : World} (h : Vars w) : agy Tryz.prog w TT := by
 refine ⟨ahZ, fun f ef hf => ?_, fun f _ args m r m' hp => ?_⟩
 ·have hf' : Hf agB f = some ef := hf
  have hm := MP hf'
  exact aq9 hm
 ·change YR ahU f args m = some (r, m') at hp
  unfold YR at hp
  split at hp <;> try (simp at hp; done)
  rename_i p hl
  have hm := MP hl
  simp only [ahU, List.mem_cons, Prod.mk.injEq, List.not_mem_nil, or_false] at hm
  rcases hm with ⟨rfl, rfl⟩ | ⟨rfl, rfl⟩ | ⟨rfl, rfl⟩ | ⟨rfl, rfl⟩ | ⟨rfl, rfl⟩ | ⟨rfl, rfl⟩ | ⟨rfl, rfl⟩ | ⟨rfl, rfl⟩ | ⟨rfl, rfl⟩ | ⟨rfl, rfl⟩ | ⟨rfl, rfl⟩ | ⟨rfl, rfl⟩ | ⟨rfl, rfl⟩ | ⟨rfl, rfl⟩ | ⟨rfl, rfl⟩ | ⟨rfl, rfl⟩ | ⟨rfl, rfl⟩ | ⟨rfl, rfl⟩ | ⟨rfl, rfl⟩ | ⟨rfl, rfl⟩
  ·exact apj _ _ _ _ hp
  ·exact aos _ _ _ _ hp
  ·exact ap2 _ _ _ _ hp
  ·exact alE _ _ _ _ hp
  ·exact aj6 h.bits _ _ _ _ hp
  ·exact anh h.pow _ _ _ _ hp
  ·exact aks h.pow _ _ _ _ hp
  ·exact anK _ _ _ _ hp
  ·exact arj _ _ _ _ hp
  ·exact asD h.max _ _ _ _ hp
  ·exact ahn _ _ _ _ hp
  ·exact arZ _ _ _ _ hp
  ·exact aj7 _ _ _ _ hp
  ·exact aps _ _ _ _ hp
  ·exact amX h.type _ _ _ _ hp
  ·exact aoT _ _ _ _ hp
  ·exact aj' _ _ _ _ hp
  ·exact abz _ _ _ _ hp
  ·exact ao4 h.pow _ _ _ _ hp
  ·exact apd _ _ _ _ hp
theorem Qd {w : World} (hV : Vars w) {f : Nat} (hfn : pX Tryz.prog f) {args : List D} {d : D} (h : L.call f args = some d) {vs : List Value} (hr : FL (whole w).S w args vs) :
  Calls Tryz.prog f vs.toArray w fun e w' => ∃ (v : Value) (c' : Ctx), e = .returned v ∧ c'.w = w' ∧ F c'.S w' d v ∧ Grew w w' := by
 have hex : ∃ n, (TT.mY n).call f args = some d := by
  obtain ⟨⟨r, m⟩, hr'⟩ := FU (x := L.bH f args []) h
  obtain ⟨n, hn⟩ := IQ.1 hr'
  refine ⟨n, ?_⟩
  rw [Qk, hn]
  have : wu (L.bH f args []) = some d := h
  rwa [hr'] at this
 obtain ⟨n, hn⟩ := hex
 exact V7 (atn hV) hfn hn hr
end Go.Ev.Code
end
