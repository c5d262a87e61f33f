/- A part of the proof of flowSum_card, flowParts_card, flowEx_card, accrWhole_card, priceZero_card. -/
import Derived.Test.YtnokhmkkpcfilaaGreatDoorChecked
import Derived.KernelRfl
import Derived.Test.YtnokhmkkpcfilaaGreatDoorCFun
import Derived.Test.YtnokhmkkpcfilaaGreatDoorCTab
import Derived.Test.YtnokhmkkpcfilaaGreatDoorCPrimsF
set_option linter.unusedVariables false
section
set_option maxRecDepth 100000
namespace Go.Ev.Code
open Go Go.Ev Go.Proofs
noncomputable def oV (l : List (Nat × EF)) : Bool := l.all fun p => MG Tryz.prog p.1 p.2
theorem arD : oV ft0 = true := by kernel_rfl
theorem arE : oV ft1 = true := by kernel_rfl
theorem arF : oV ft2 = true := by kernel_rfl
theorem arG : oV ft3 = true := by kernel_rfl
theorem arH : oV ft4 = true := by kernel_rfl
theorem MF {l r : List (Nat × EF)} (h1 : oV l = true) (h2 : oV r = true) : oV (l ++ r) = true := by
 unfold oV at *
 rw [List.all_append, h1, h2]; rfl
theorem arv : oV afn = true := MF arD (MF arE (MF arF (MF arG (arH))))
theorem ap5 {f : Nat} {ef : EF} (h : (f, ef) ∈ afn) : MG Tryz.prog f ef = true := List.all_eq_true.1 arv (f, ef) h
end Go.Ev.Code
end
section
namespace Go.Ev.Code
set_option maxRecDepth 100000
open Go Go.Ev Go.Proofs
structure Vars (w : World) : Prop where
 type : ErrAs.kR w
 max : alb w
 bits : ara w
 pow : Go.Lib.TabIs Tryz.prog w "internal/strconv.uint64pow10" .u64 Go.Lib.pow10Tab
theorem asc {w : World} (h : Vars w) : afj Tryz.prog w TT := by
 refine ⟨agQ, fun f ef hf => ?_, fun f _ args m r m' hp => ?_⟩
 ·have hf' : FP afn f = some ef := hf
  have hm := KR hf'
  exact ap5 hm
 ·change XG agL f args m = some (r, m') at hp
  unfold XG at hp
  split at hp <;> try (simp at hp; done)
  rename_i p hl
  have hm := KR hl
  simp only [agL, List.mem_cons, Prod.mk.injEq, List.not_mem_nil, or_false] at hm
  rcases hm with ⟨rfl, rfl⟩ | ⟨rfl, rfl⟩ | ⟨rfl, rfl⟩ | ⟨rfl, rfl⟩ | ⟨rfl, rfl⟩ | ⟨rfl, rfl⟩ | ⟨rfl, rfl⟩ | ⟨rfl, rfl⟩ | ⟨rfl, rfl⟩ | ⟨rfl, rfl⟩ | ⟨rfl, rfl⟩ | ⟨rfl, rfl⟩ | ⟨rfl, rfl⟩ | ⟨rfl, rfl⟩ | ⟨rfl, rfl⟩ | ⟨rfl, rfl⟩ | ⟨rfl, rfl⟩ | ⟨rfl, rfl⟩ | ⟨rfl, rfl⟩ | ⟨rfl, rfl⟩
  ·exact aof _ _ _ _ hp
  ·exact ano _ _ _ _ hp
  ·exact aoU _ _ _ _ hp
  ·exact akC _ _ _ _ hp
  ·exact aiW h.bits _ _ _ _ hp
  ·exact amb h.pow _ _ _ _ hp
  ·exact ajn h.pow _ _ _ _ hp
  ·exact amE _ _ _ _ hp
  ·exact aqb _ _ _ _ hp
  ·exact arp h.max _ _ _ _ hp
  ·exact agf _ _ _ _ hp
  ·exact aqO _ _ _ _ hp
  ·exact aiX _ _ _ _ hp
  ·exact aol _ _ _ _ hp
  ·exact alV h.type _ _ _ _ hp
  ·exact anS _ _ _ _ hp
  ·exact ai2 _ _ _ _ hp
  ·exact aag _ _ _ _ hp
  ·exact an0 h.pow _ _ _ _ hp
  ·exact aoa _ _ _ _ hp
theorem OH {w : World} (hV : Vars w) {f : Nat} (hfn : oU Tryz.prog f) {args : List D} {d : D} (h : L.call f args = some d) {vs : List Value} (hr : FL (whole w).S w args vs) :
  Calls Tryz.prog f vs.toArray w fun e w' => ∃ (v : Value) (c' : Ctx), e = .returned v ∧ c'.w = w' ∧ F c'.S w' d v ∧ Grew w w' := by
 have hex : ∃ n, (TT.lW n).call f args = some d := by
  obtain ⟨⟨r, m⟩, hr'⟩ := Es (x := L.bF f args []) h
  obtain ⟨n, hn⟩ := GY.1 hr'
  refine ⟨n, ?_⟩
  rw [OU, hn]
  have : uP (L.bF f args []) = some d := h
  rwa [hr'] at this
 obtain ⟨n, hn⟩ := hex
 exact UC (asc hV) hfn hn hr
end Go.Ev.Code
end
