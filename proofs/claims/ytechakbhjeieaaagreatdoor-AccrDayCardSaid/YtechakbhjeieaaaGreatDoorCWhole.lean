/- Part of accrDay_card. -/
import Derived.Test.YtechakbhjeieaaaGreatDoorCPrimsF
set_option linter.unusedVariables false
section
set_option maxRecDepth 100000
namespace Go.Ev.Code
open Go Go.Ev Go.Proofs
noncomputable def qV (l:List (Nat×EF)):Bool:=l.all fun p=>PO Tryz.prog p.1 p.2
theorem avS:qV ft0=true:=by kernel_rfl
theorem avT:qV ft1=true:=by kernel_rfl
theorem avU:qV ft2=true:=by kernel_rfl
theorem avV:qV ft3=true:=by kernel_rfl
theorem avW:qV ft4=true:=by kernel_rfl
theorem avX:qV ft5=true:=by kernel_rfl
theorem Kt {l r:List (Nat×EF)} (h1:qV l=true) (h2:qV r=true):qV (l++r)=true:=by
 unfold qV at *
 rw [List.all_append,h1,h2]; rfl
theorem avC:qV aij=true:=Kt avS (Kt avT (Kt avU (Kt avV (Kt avW (avX)))))
theorem atJ {f:Nat} {ef:EF} (h:(f,ef)∈aij):PO Tryz.prog f ef=true:=List.all_eq_true.1 avC (f,ef) h
end Go.Ev.Code
end
section
namespace Go.Ev.Code
set_option maxRecDepth 100000
open Go Go.Ev Go.Proofs
structure Vars (w:World):Prop where
 type:ErrAs.nU w
 max:aop w
 bits:avm w
 pow:Go.Lib.TabIs Tryz.prog w "internal/strconv.uint64pow10" .u64 Go.Lib.pow10Tab
theorem aws {w:World} (h:Vars w):aib Tryz.prog w TT:=by
 refine ⟨ajI,fun f ef hf=>?_,fun f _ args m r m' hp=>?_⟩
 ·have hf':I5 aij f=some ef:=hf
  have hm:=Oz hf'
  exact atJ hm
 ·change aaB ajC f args m=some (r,m') at hp
  unfold aaB at hp
  split at hp <;> try (simp at hp; done)
  rename_i p hl
  have hm:=Oz hl
  simp only [ajC,List.mem_cons,Prod.mk.injEq,List.not_mem_nil,or_false] at hm
  rcases hm with ⟨rfl,rfl⟩ | ⟨rfl,rfl⟩ | ⟨rfl,rfl⟩ | ⟨rfl,rfl⟩ | ⟨rfl,rfl⟩ | ⟨rfl,rfl⟩ | ⟨rfl,rfl⟩ | ⟨rfl,rfl⟩ | ⟨rfl,rfl⟩ | ⟨rfl,rfl⟩ | ⟨rfl,rfl⟩ | ⟨rfl,rfl⟩ | ⟨rfl,rfl⟩ | ⟨rfl,rfl⟩ | ⟨rfl,rfl⟩ | ⟨rfl,rfl⟩ | ⟨rfl,rfl⟩ | ⟨rfl,rfl⟩ | ⟨rfl,rfl⟩ | ⟨rfl,rfl⟩
  ·exact arC _ _ _ _ hp
  ·exact aqx _ _ _ _ hp
  ·exact asu _ _ _ _ hp
  ·exact anD _ _ _ _ hp
  ·exact alR h.bits _ _ _ _ hp
  ·exact aph h.pow _ _ _ _ hp
  ·exact ami h.pow _ _ _ _ hp
  ·exact apS _ _ _ _ hp
  ·exact atS _ _ _ _ hp
  ·exact avx h.max _ _ _ _ hp
  ·exact ai6 _ _ _ _ hp
  ·exact auZ _ _ _ _ hp
  ·exact alS _ _ _ _ hp
  ·exact arJ _ _ _ _ hp
  ·exact ao4 h.type _ _ _ _ hp
  ·exact aqZ _ _ _ _ hp
  ·exact alX _ _ _ _ hp
  ·exact adp _ _ _ _ hp
  ·exact aq8 h.pow _ _ _ _ hp
  ·exact arl _ _ _ _ hp
theorem arx {w:World} (hV:Vars w) {f:Nat} (hfn:sQ Tryz.prog f) {args:List D} {d:D} (h:L.call f args=some d) {vs:List Value} (hr:FL (whole w).S w args vs) :
  Calls Tryz.prog f vs.toArray w fun e w'=>∃ (v:Value) (c':Ctx),e = .returned v∧c'.w=w'∧F c'.S w' d v∧Grew w w':=by
 have hex:∃ n,(TT.o8 n).call f args=some d:=by
  obtain ⟨⟨r,m⟩,hr'⟩:=Hy (x:=L.bK f args []) h
  obtain ⟨n,hn⟩:=JQ.1 hr'
  refine ⟨n,?_⟩
  rw [Rz,hn]
  have : yE (L.bK f args [])=some d:=h
  rwa [hr'] at this
 obtain ⟨n,hn⟩:=hex
 exact XM (aws hV) hfn hn hr
end Go.Ev.Code
end
