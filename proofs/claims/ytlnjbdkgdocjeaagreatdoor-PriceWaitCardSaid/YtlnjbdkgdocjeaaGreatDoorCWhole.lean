/- A part of the proof of priceWait_card. -/
import Derived.Test.YtlnjbdkgdocjeaaGreatDoorCPrimsF
set_option linter.unusedVariables false
section
set_option maxRecDepth 100000
namespace Go.Ev.Code
open Go Go.Ev Go.Proofs
noncomputable def lG (l:List (Nat×EF)):Bool:=l.all fun p=>NV Tryz.prog p.1 p.2
theorem au0:lG ft0=true:=by kernel_rfl
theorem au1:lG ft1=true:=by kernel_rfl
theorem au2:lG ft2=true:=by kernel_rfl
theorem au3:lG ft3=true:=by kernel_rfl
theorem au4:lG ft4=true:=by kernel_rfl
theorem au5:lG ft5=true:=by kernel_rfl
theorem GU {l r:List (Nat×EF)} (h1:lG l=true) (h2:lG r=true):lG (l++r)=true:=by
 unfold lG at *
 rw [List.all_append,h1,h2]; rfl
theorem auJ:lG ahA=true:=GU au0 (GU au1 (GU au2 (GU au3 (GU au4 (au5)))))
theorem asG {f:Nat} {ef:EF} (h:(f,ef)∈ahA):NV Tryz.prog f ef=true:=List.all_eq_true.1 auJ (f,ef) h
end Go.Ev.Code
end
section
namespace Go.Ev.Code
set_option maxRecDepth 100000
open Go Go.Ev Go.Proofs
structure Vars (w:World):Prop where
 type:ErrAs.jv w
 max:anz w
 bits:aus w
 pow:Go.Lib.TabIs Tryz.prog w "internal/strconv.uint64pow10" .u64 Go.Lib.pow10Tab
theorem avz {w:World} (h:Vars w):ahv Tryz.prog w TT:=by
 refine ⟨ai7,fun f ef hf=>?_,fun f _ args m r m' hp=>?_⟩
 ·have hf':EL ahA f=some ef:=hf
  have hm:=KO hf'
  exact asG hm
 ·change ZW aiZ f args m=some (r,m') at hp
  unfold ZW at hp
  split at hp <;> try (simp at hp; done)
  rename_i p hl
  have hm:=KO hl
  simp only [aiZ,List.mem_cons,Prod.mk.injEq,List.not_mem_nil,or_false] at hm
  rcases hm with ⟨rfl,rfl⟩ | ⟨rfl,rfl⟩ | ⟨rfl,rfl⟩ | ⟨rfl,rfl⟩ | ⟨rfl,rfl⟩ | ⟨rfl,rfl⟩ | ⟨rfl,rfl⟩ | ⟨rfl,rfl⟩ | ⟨rfl,rfl⟩ | ⟨rfl,rfl⟩ | ⟨rfl,rfl⟩ | ⟨rfl,rfl⟩ | ⟨rfl,rfl⟩ | ⟨rfl,rfl⟩ | ⟨rfl,rfl⟩ | ⟨rfl,rfl⟩ | ⟨rfl,rfl⟩ | ⟨rfl,rfl⟩ | ⟨rfl,rfl⟩ | ⟨rfl,rfl⟩
  ·exact aqt _ _ _ _ hp
  ·exact apw _ _ _ _ hp
  ·exact arl _ _ _ _ hp
  ·exact amK _ _ _ _ hp
  ·exact ala h.bits _ _ _ _ hp
  ·exact aoj h.pow _ _ _ _ hp
  ·exact alC h.pow _ _ _ _ hp
  ·exact aoS _ _ _ _ hp
  ·exact asN _ _ _ _ hp
  ·exact auF h.max _ _ _ _ hp
  ·exact aik _ _ _ _ hp
  ·exact atW _ _ _ _ hp
  ·exact alb _ _ _ _ hp
  ·exact aqA _ _ _ _ hp
  ·exact an4 h.type _ _ _ _ hp
  ·exact apY _ _ _ _ hp
  ·exact alg _ _ _ _ hp
  ·exact ac1 _ _ _ _ hp
  ·exact ap7 h.pow _ _ _ _ hp
  ·exact aqf _ _ _ _ hp
theorem aqo {w:World} (hV:Vars w) {f:Nat} (hfn:mW Tryz.prog f) {args:List D} {d:D} (h:L.call f args=some d) {vs:List Value} (hr:FL (whole w).S w args vs) :
  Calls Tryz.prog f vs.toArray w fun e w'=>∃ (v:Value) (c':Ctx),e = .returned v∧c'.w=w'∧F c'.S w' d v∧Grew w w':=by
 have hex:∃ n,(TT.jU n).call f args=some d:=by
  obtain ⟨⟨r,m⟩,hr'⟩:=Eu (x:=L.aU f args []) h
  obtain ⟨n,hn⟩:=FX.1 hr'
  refine ⟨n,?_⟩
  rw [P8,hn]
  have : sS (L.aU f args [])=some d:=h
  rwa [hr'] at this
 obtain ⟨n,hn⟩:=hex
 exact WY (avz hV) hfn hn hr
end Go.Ev.Code
end
