/- A part of the proof of riskZero_card, yieldPar_card, pricePar_card. -/
import Derived.Test.YtheeamloonpolaaGreatDoorChecked
import Derived.KernelRfl
import Derived.Test.YtheeamloonpolaaGreatDoorCFun
import Derived.Test.YtheeamloonpolaaGreatDoorCTab
import Derived.Test.YtheeamloonpolaaGreatDoorCPrimsF
set_option linter.unusedVariables false
section
set_option maxRecDepth 100000
namespace Go.Ev.Code
open Go Go.Ev Go.Proofs
noncomputable def qN (l:List (Nat×EF)):Bool:=l.all fun p=>O3 Tryz.prog p.1 p.2
theorem auX:qN ft0=true:=by kernel_rfl
theorem auY:qN ft1=true:=by kernel_rfl
theorem auZ:qN ft2=true:=by kernel_rfl
theorem au0:qN ft3=true:=by kernel_rfl
theorem au1:qN ft4=true:=by kernel_rfl
theorem O1 {l r:List (Nat×EF)} (h1:qN l=true) (h2:qN r=true):qN (l++r)=true:=by
 unfold qN at *
 rw [List.all_append,h1,h2]; rfl
theorem auR:qN ahQ=true:=O1 auX (O1 auY (O1 auZ (O1 au0 (au1))))
theorem ath {f:Nat} {ef:EF} (h:(f,ef)∈ahQ):O3 Tryz.prog f ef=true:=List.all_eq_true.1 auR (f,ef) h
end Go.Ev.Code
end
section
namespace Go.Ev.Code
set_option maxRecDepth 100000
open Go Go.Ev Go.Proofs
structure Vars (w:World):Prop where
 type:ErrAs.lZ w
 max:anW w
 bits:auC w
 pow:Go.Lib.TabIs Tryz.prog w "internal/strconv.uint64pow10" .u64 Go.Lib.pow10Tab
theorem avv {w:World} (h:Vars w):ahL Tryz.prog w TT:=by
 refine ⟨ajl,fun f ef hf=>?_,fun f _ args m r m' hp=>?_⟩
 ·have hf':Hz ahQ f=some ef:=hf
  have hm:=NW hf'
  exact ath hm
 ·change Z4 ajg f args m=some (r,m') at hp
  unfold Z4 at hp
  split at hp <;> try (simp at hp; done)
  rename_i p hl
  have hm:=NW hl
  simp only [ajg,List.mem_cons,Prod.mk.injEq,List.not_mem_nil,or_false] at hm
  rcases hm with ⟨rfl,rfl⟩ | ⟨rfl,rfl⟩ | ⟨rfl,rfl⟩ | ⟨rfl,rfl⟩ | ⟨rfl,rfl⟩ | ⟨rfl,rfl⟩ | ⟨rfl,rfl⟩ | ⟨rfl,rfl⟩ | ⟨rfl,rfl⟩ | ⟨rfl,rfl⟩ | ⟨rfl,rfl⟩ | ⟨rfl,rfl⟩ | ⟨rfl,rfl⟩ | ⟨rfl,rfl⟩ | ⟨rfl,rfl⟩ | ⟨rfl,rfl⟩ | ⟨rfl,rfl⟩ | ⟨rfl,rfl⟩ | ⟨rfl,rfl⟩ | ⟨rfl,rfl⟩
  ·exact aq4 _ _ _ _ hp
  ·exact ap' _ _ _ _ hp
  ·exact arU _ _ _ _ hp
  ·exact anh _ _ _ _ hp
  ·exact alz h.bits _ _ _ _ hp
  ·exact aoR h.pow _ _ _ _ hp
  ·exact al0 h.pow _ _ _ _ hp
  ·exact apq _ _ _ _ hp
  ·exact atq _ _ _ _ hp
  ·exact auN h.max _ _ _ _ hp
  ·exact aiJ _ _ _ _ hp
  ·exact aue _ _ _ _ hp
  ·exact alA _ _ _ _ hp
  ·exact arb _ _ _ _ hp
  ·exact aoA h.type _ _ _ _ hp
  ·exact aqD _ _ _ _ hp
  ·exact alE _ _ _ _ hp
  ·exact acP _ _ _ _ hp
  ·exact aqP h.pow _ _ _ _ hp
  ·exact aqY _ _ _ _ hp
theorem WY {w:World} (hV:Vars w) {f:Nat} (hfn:qM Tryz.prog f) {args:List D} {d:D} (h:L.call f args=some d) {vs:List Value} (hr:FL (whole w).S w args vs) :
  Calls Tryz.prog f vs.toArray w fun e w'=>∃ (v:Value) (c':Ctx),e = .returned v∧c'.w=w'∧F c'.S w' d v∧Grew w w':=by
 have hex:∃ n,(TT.nT n).call f args=some d:=by
  obtain ⟨⟨r,m⟩,hr'⟩:=Gi (x:=L.bJ f args []) h
  obtain ⟨n,hn⟩:=Jc.1 hr'
  refine ⟨n,?_⟩
  rw [Rk,hn]
  have : xu (L.bJ f args [])=some d:=h
  rwa [hr'] at this
 obtain ⟨n,hn⟩:=hex
 exact Xq (avv hV) hfn hn hr
end Go.Ev.Code
end
