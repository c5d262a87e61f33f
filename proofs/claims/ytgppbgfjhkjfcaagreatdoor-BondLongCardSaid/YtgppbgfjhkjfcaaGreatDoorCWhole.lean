/- A part of the proof of planLone_card, bondLong_card. -/
import Derived.Test.YtgppbgfjhkjfcaaGreatDoorChecked
import Derived.KernelRfl
import Derived.Test.YtgppbgfjhkjfcaaGreatDoorCFun
import Derived.Test.YtgppbgfjhkjfcaaGreatDoorCTab
import Derived.Test.YtgppbgfjhkjfcaaGreatDoorCPrimsF
set_option linter.unusedVariables false
section
set_option maxRecDepth 100000
namespace Go.Ev.Code
open Go Go.Ev Go.Proofs
noncomputable def mX (l : List (Nat × EF)) : Bool := l.all fun p => Hw Tryz.prog p.1 p.2
theorem ant : mX ft0 = true := by kernel_rfl
theorem anu : mX ft1 = true := by kernel_rfl
theorem anv : mX ft2 = true := by kernel_rfl
theorem anw : mX ft3 = true := by kernel_rfl
theorem anx : mX ft4 = true := by kernel_rfl
theorem Hu {l r : List (Nat × EF)} (h1 : mX l = true) (h2 : mX r = true) : mX (l ++ r) = true := by
 unfold mX at *
 rw [List.all_append, h1, h2]; rfl
theorem anm : mX abX = true := Hu ant (Hu anu (Hu anv (Hu anw (anx))))
theorem al8 {f : Nat} {ef : EF} (h : (f, ef) ∈ abX) : Hw Tryz.prog f ef = true := List.all_eq_true.1 anm (f, ef) h
end Go.Ev.Code
end
section
namespace Go.Ev.Code
set_option maxRecDepth 100000
open Go Go.Ev Go.Proofs
structure Vars (w : World) : Prop where
 type : ErrAs.jE w
 max : ahH w
 bits : am8 w
 pow : Go.Lib.TabIs Tryz.prog w "internal/strconv.uint64pow10" .u64 Go.Lib.pow10Tab
theorem an1 {w : World} (h : Vars w) : abV Tryz.prog w TT := by
 refine ⟨adC, fun f ef hf => ?_, fun f _ args m r m' hp => ?_⟩
 ·have hf' : Ba abX f = some ef := hf
  have hm := F9 hf'
  exact al8 hm
 ·change TI adv f args m = some (r, m') at hp
  unfold TI at hp
  split at hp <;> try (simp at hp; done)
  rename_i p hl
  have hm := F9 hl
  simp only [adv, List.mem_cons, Prod.mk.injEq, List.not_mem_nil, or_false] at hm
  rcases hm with ⟨rfl, rfl⟩ | ⟨rfl, rfl⟩ | ⟨rfl, rfl⟩ | ⟨rfl, rfl⟩ | ⟨rfl, rfl⟩ | ⟨rfl, rfl⟩ | ⟨rfl, rfl⟩ | ⟨rfl, rfl⟩ | ⟨rfl, rfl⟩ | ⟨rfl, rfl⟩ | ⟨rfl, rfl⟩ | ⟨rfl, rfl⟩ | ⟨rfl, rfl⟩ | ⟨rfl, rfl⟩ | ⟨rfl, rfl⟩ | ⟨rfl, rfl⟩ | ⟨rfl, rfl⟩ | ⟨rfl, rfl⟩ | ⟨rfl, rfl⟩ | ⟨rfl, rfl⟩
  ·exact aku _ _ _ _ hp
  ·exact ajJ _ _ _ _ hp
  ·exact ak7 _ _ _ _ hp
  ·exact ag5 _ _ _ _ hp
  ·exact afx h.bits _ _ _ _ hp
  ·exact aiH h.pow _ _ _ _ hp
  ·exact afZ h.pow _ _ _ _ hp
  ·exact ai5 _ _ _ _ hp
  ·exact amd _ _ _ _ hp
  ·exact anh h.max _ _ _ _ hp
  ·exact acP _ _ _ _ hp
  ·exact amK _ _ _ _ hp
  ·exact afy _ _ _ _ hp
  ·exact akB _ _ _ _ hp
  ·exact aip h.type _ _ _ _ hp
  ·exact akc _ _ _ _ hp
  ·exact afD _ _ _ _ hp
  ·exact Xa _ _ _ _ hp
  ·exact akj h.pow _ _ _ _ hp
  ·exact akp _ _ _ _ hp
theorem adw {w : World} (hV : Vars w) {f : Nat} (hfn : mW Tryz.prog f) {args : List D} {d : D} (h : L.call f args = some d) {vs : List Value} (hr : FL (whole w).S w args vs) :
  Calls Tryz.prog f vs.toArray w fun e w' => ∃ (v : Value) (c' : Ctx), e = .returned v ∧ c'.w = w' ∧ F c'.S w' d v ∧ Grew w w' := by
 have hex : ∃ n, (TT.jW n).call f args = some d := by
  obtain ⟨⟨r, m⟩, hr'⟩ := zS (x := L.aY f args []) h
  obtain ⟨n, hn⟩ := CO.1 hr'
  refine ⟨n, ?_⟩
  rw [JA, hn]
  have : rG (L.aY f args []) = some d := h
  rwa [hr'] at this
 obtain ⟨n, hn⟩ := hex
 exact Px (an1 hV) hfn hn hr
end Go.Ev.Code
end
