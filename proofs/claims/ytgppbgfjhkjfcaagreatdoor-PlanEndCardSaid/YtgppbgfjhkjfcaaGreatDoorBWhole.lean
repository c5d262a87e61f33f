/- A part of the proof of planStub_card, planEnd_card, planLone_card, bondLong_card. -/
import Derived.Test.YtgppbgfjhkjfcaaGreatDoorChecked
import Derived.KernelRfl
import Derived.Test.YtgppbgfjhkjfcaaGreatDoorBFun
import Derived.Test.YtgppbgfjhkjfcaaGreatDoorBTab
import Derived.Test.YtgppbgfjhkjfcaaGreatDoorBPrimsF
set_option linter.unusedVariables false
section
set_option maxRecDepth 100000
namespace Go.Ev.Code
open Go Go.Ev Go.Proofs
noncomputable def lZ (l : List (Nat × EF)) : Bool := l.all fun p => G7 Tryz.prog p.1 p.2
theorem anG : lZ ft0 = true := by kernel_rfl
theorem anH : lZ ft1 = true := by kernel_rfl
theorem anI : lZ ft2 = true := by kernel_rfl
theorem anJ : lZ ft3 = true := by kernel_rfl
theorem anK : lZ ft4 = true := by kernel_rfl
theorem G6 {l r : List (Nat × EF)} (h1 : lZ l = true) (h2 : lZ r = true) : lZ (l ++ r) = true := by
 unfold lZ at *
 rw [List.all_append, h1, h2]; rfl
theorem anA : lZ acg = true := G6 anG (G6 anH (G6 anI (G6 anJ (anK))))
theorem ami {f : Nat} {ef : EF} (h : (f, ef) ∈ acg) : G7 Tryz.prog f ef = true := List.all_eq_true.1 anA (f, ef) h
end Go.Ev.Code
end
section
namespace Go.Ev.Code
set_option maxRecDepth 100000
open Go Go.Ev Go.Proofs
structure Vars (w : World) : Prop where
 type : ErrAs.jC w
 max : ahU w
 bits : anj w
 pow : Go.Lib.TabIs Tryz.prog w "internal/strconv.uint64pow10" .u64 Go.Lib.pow10Tab
theorem aob {w : World} (h : Vars w) : ace Tryz.prog w TT := by
 refine ⟨adK, fun f ef hf => ?_, fun f _ args m r m' hp => ?_⟩
 ·have hf' : zn acg f = some ef := hf
  have hm := EM hf'
  exact ami hm
 ·change Ue adD f args m = some (r, m') at hp
  unfold Ue at hp
  split at hp <;> try (simp at hp; done)
  rename_i p hl
  have hm := EM hl
  simp only [adD, List.mem_cons, Prod.mk.injEq, List.not_mem_nil, or_false] at hm
  rcases hm with ⟨rfl, rfl⟩ | ⟨rfl, rfl⟩ | ⟨rfl, rfl⟩ | ⟨rfl, rfl⟩ | ⟨rfl, rfl⟩ | ⟨rfl, rfl⟩ | ⟨rfl, rfl⟩ | ⟨rfl, rfl⟩ | ⟨rfl, rfl⟩ | ⟨rfl, rfl⟩ | ⟨rfl, rfl⟩ | ⟨rfl, rfl⟩ | ⟨rfl, rfl⟩ | ⟨rfl, rfl⟩ | ⟨rfl, rfl⟩ | ⟨rfl, rfl⟩ | ⟨rfl, rfl⟩ | ⟨rfl, rfl⟩ | ⟨rfl, rfl⟩ | ⟨rfl, rfl⟩
  ·exact akG _ _ _ _ hp
  ·exact ajV _ _ _ _ hp
  ·exact alh _ _ _ _ hp
  ·exact ahd _ _ _ _ hp
  ·exact afG h.bits _ _ _ _ hp
  ·exact aiU h.pow _ _ _ _ hp
  ·exact af9 h.pow _ _ _ _ hp
  ·exact ajg _ _ _ _ hp
  ·exact amo _ _ _ _ hp
  ·exact anu h.max _ _ _ _ hp
  ·exact ac5 _ _ _ _ hp
  ·exact amV _ _ _ _ hp
  ·exact afH _ _ _ _ hp
  ·exact akN _ _ _ _ hp
  ·exact aiC h.type _ _ _ _ hp
  ·exact akn _ _ _ _ hp
  ·exact afM _ _ _ _ hp
  ·exact Xy _ _ _ _ hp
  ·exact akv h.pow _ _ _ _ hp
  ·exact akB _ _ _ _ hp
theorem O1 {w : World} (hV : Vars w) {f : Nat} (hfn : lY Tryz.prog f) {args : List D} {d : D} (h : L.call f args = some d) {vs : List Value} (hr : FL (whole w).S w args vs) :
  Calls Tryz.prog f vs.toArray w fun e w' => ∃ (v : Value) (c' : Ctx), e = .returned v ∧ c'.w = w' ∧ F c'.S w' d v ∧ Grew w w' := by
 have hex : ∃ n, (TT.jT n).call f args = some d := by
  obtain ⟨⟨r, m⟩, hr'⟩ := yT (x := L.aY f args []) h
  obtain ⟨n, hn⟩ := Ah.1 hr'
  refine ⟨n, ?_⟩
  rw [Jt, hn]
  have : qc (L.aY f args []) = some d := h
  rwa [hr'] at this
 obtain ⟨n, hn⟩ := hex
 exact Pv (aob hV) hfn hn hr
end Go.Ev.Code
end
