/- A part of the proof of priceAll_card, yieldAll_card, priceSum_card, flowAll_card, accrAll_card. -/
import Derived.Test.YtfkdcfbleblgoaaGreatDoorCJoin
set_option linter.unusedVariables false
section
set_option maxRecDepth 100000
namespace Go.Ev.Code
open Go Go.Ev Go.Proofs
noncomputable def oD (l:List (Nat×EF)):Bool:=l.all fun p=>XL Tryz.prog p.1 p.2
theorem aDy:oD ft0=true:=by kernel_rfl
theorem aDz:oD ft1=true:=by kernel_rfl
theorem aDA:oD ft2=true:=by kernel_rfl
theorem aDB:oD ft3=true:=by kernel_rfl
theorem aDC:oD ft4=true:=by kernel_rfl
theorem aDD:oD ft5=true:=by kernel_rfl
theorem aDE:oD ft6=true:=by kernel_rfl
theorem J9 {l r:List (Nat×EF)} (h1:oD l=true) (h2:oD r=true):oD (l++r)=true:=by
 unfold oD at *
 rw [List.all_append,h1,h2]; rfl
theorem aDr:oD apV=true:=J9 aDy (J9 aDz (J9 aDA (J9 aDB (J9 aDC (J9 aDD (aDE))))))
theorem aBY {f:Nat} {ef:EF} (h:(f,ef)∈apV):XL Tryz.prog f ef=true:=List.all_eq_true.1 aDr (f,ef) h
end Go.Ev.Code
end
section
namespace Go.Ev.Code
set_option maxRecDepth 100000
open Go Go.Ev Go.Proofs
structure Vars (w:World):Prop where
 type:ErrAs.lJ w
 max:awY w
 bits:aDb w
 pow:Go.Lib.TabIs Tryz.prog w "internal/strconv.uint64pow10" .u64 Go.Lib.pow10Tab
theorem aEa {w:World} (h:Vars w):apQ Tryz.prog w TT:=by
 refine ⟨arG,fun f ef hf=>?_,fun f _ args m r m' hp=>?_⟩
 ·have hf':Oc apV f=some ef:=hf
  have hm:=Vo hf'
  exact aBY hm
 ·change ah2 arw f args m=some (r,m') at hp
  unfold ah2 at hp
  split at hp <;> try (simp at hp; done)
  rename_i p hl
  have hm:=Vo hl
  simp only [arw,List.mem_cons,Prod.mk.injEq,List.not_mem_nil,or_false] at hm
  rcases hm with ⟨rfl,rfl⟩ | ⟨rfl,rfl⟩ | ⟨rfl,rfl⟩ | ⟨rfl,rfl⟩ | ⟨rfl,rfl⟩ | ⟨rfl,rfl⟩ | ⟨rfl,rfl⟩ | ⟨rfl,rfl⟩ | ⟨rfl,rfl⟩ | ⟨rfl,rfl⟩ | ⟨rfl,rfl⟩ | ⟨rfl,rfl⟩ | ⟨rfl,rfl⟩ | ⟨rfl,rfl⟩ | ⟨rfl,rfl⟩ | ⟨rfl,rfl⟩ | ⟨rfl,rfl⟩ | ⟨rfl,rfl⟩ | ⟨rfl,rfl⟩ | ⟨rfl,rfl⟩
  ·exact azX _ _ _ _ hp
  ·exact ay2 _ _ _ _ hp
  ·exact aAH _ _ _ _ hp
  ·exact awc _ _ _ _ hp
  ·exact aus h.bits _ _ _ _ hp
  ·exact axR h.pow _ _ _ _ hp
  ·exact auX h.pow _ _ _ _ hp
  ·exact ayq _ _ _ _ hp
  ·exact aB7 _ _ _ _ hp
  ·exact aDn h.max _ _ _ _ hp
  ·exact aqK _ _ _ _ hp
  ·exact aCP _ _ _ _ hp
  ·exact aut _ _ _ _ hp
  ·exact az5 _ _ _ _ hp
  ·exact axt h.type _ _ _ _ hp
  ·exact azt _ _ _ _ hp
  ·exact auy _ _ _ _ hp
  ·exact ak0 _ _ _ _ hp
  ·exact azD h.pow _ _ _ _ hp
  ·exact azQ _ _ _ _ hp
theorem Ze {w:World} (hV:Vars w) {f:Nat} (hfn:rX Tryz.prog f) {args:List D} {d:D} (h:L.call f args=some d) {vs:List Value} (hr:FL (whole w).S w args vs) :
  Calls Tryz.prog f vs.toArray w fun e w'=>∃ (v:Value) (c':Ctx),e = .returned v∧c'.w=w'∧F c'.S w' d v∧Grew w w':=by
 have hex:∃ n,(TT.nO n).call f args=some d:=by
  obtain ⟨⟨r,m⟩,hr'⟩:=NS (x:=L.bf f args []) h
  obtain ⟨n,hn⟩:=O_.1 hr'
  refine ⟨n,?_⟩
  rw [Zo,hn]
  have : yJ (L.bf f args [])=some d:=h
  rwa [hr'] at this
 obtain ⟨n,hn⟩:=hex
 exact aeR (aEa hV) hfn hn hr
end Go.Ev.Code
end
