/- A part of the proof of priceWait_card. -/
import Derived.Lib.Hide
import Derived.Test.YtlnjbdkgdocjeaaGreatDoorCErrA
set_option linter.unusedVariables false
set_option linter.unusedSimpArgs false
section
namespace Go.Ev.ErrAs
open Go Go.Proofs Go.RowKit Go.Extern.Stop Go.Stop Go.Extern
theorem axa (v:Value) (xT:TypeId) (w:World):(Instr.typeAssert (.iface 130 v) xT 130 true).run Tryz.prog w = .ok (.tuple #[v,.bool true]) w:=by
 simp [Instr.typeAssert,run_underlying (P:=Tryz.prog) (t:=130) Tryz.underlying130]
set_option maxRecDepth 100000 in
theorem aqD (n:Int) (t:Addr) (old:Value) (w:World) (ht0:w.cell? t=some old) (hf0:w.frozen? t=false) :
  Calls Tryz.prog 315 #[.int .i64 n,.iface 130 (.pointer (some t))] w fun ev w'=>ev = .returned (.bool true)∧w'=(w.alloc (.cells #[.int .i64 n,.string ⟨#[]⟩,.nilIface] 132)).setCell t (.pointer (some ⟨w.heap.size,0,none⟩)):=by
 have htl:t.block<w.heap.size:=by
  rcases Nat.lt_or_ge t.block w.heap.size with h | h
  ·exact h
  ·simp [World.cell?,Array.getElem?_eq_none h] at ht0
 have hc1:(w.alloc (.cells #[.int .i64 n,.string ⟨#[]⟩,.nilIface] 132)).cell? t=some old:=by rw [World.cell?_alloc_lt _ _ t htl]; exact ht0
 have hf1:(w.alloc (.cells #[.int .i64 n,.string ⟨#[]⟩,.nilIface] 132)).frozen? t=false:=by rw [World.frozen?_alloc_old _ _ t (Nat.ne_of_lt htl)]; exact hf0
 have hPP:=axa
 go_enter Tryz.func315,Tryz.ntmps315
 go_wp2
 go_ret
 exact ⟨rfl,rfl⟩
theorem aqp (v:Int) (w:World):(Go.method 492 141 (.int .i64 v) "As").run Tryz.prog w = .ok (315,.int .i64 v) w:=by kernel_rfl
theorem avJ (v:Value) (xT:TypeId) (w:World):(Instr.typeAssert (.iface 141 v) xT 252 true).run Tryz.prog w = .ok (.tuple #[.iface 141 v,.bool true]) w :=
 run_typeAssert_hasB Tryz.underlying252 (by kernel_rfl) v xT w
set_option maxHeartbeats 4000000 in
theorem apC (n:Int) (t:Addr) (old:Value) (w:World) (hg:jv w) (ht0:w.cell? t=some old) (hf0:w.frozen? t=false) :
  Calls Tryz.prog 88 #[.iface 141 (.int .i64 n),.iface 130 (.pointer (some t))] w fun ev w'=>ev = .returned (.bool true)∧w'=((((w.alloc (.cells #[.pointer (some t)] 130)).alloc (V3 w)).alloc (V3 w)).alloc (.cells #[.int .i64 n,.string ⟨#[]⟩,.nilIface] 132)).setCell t (.pointer (some ⟨w.heap.size+1+1+1,0,none⟩)):=by
 have h6 := @run_callFunc_extern Tryz.prog 138 _ (fun args=>ReflectliteValue.unpack (args.getD 0 (.tuple #[]))) Tryz.func138 (by kernel_rfl) (by kernel_rfl) (by kernel_rfl) (by kernel_rfl)
 have h7 := @run_callFunc_extern Tryz.prog 139 _ (ReflectliteValue.methodAny (ReflectliteValue.valueError "reflectlite.Value.Type" 0) (fun t _ _ _=>ReflectliteType.toType t)) Tryz.func139 (by kernel_rfl) (by kernel_rfl) (by kernel_rfl) (by kernel_rfl)
 have h8 := @run_callFunc_extern Tryz.prog 140 _ (ReflectliteValue.method (ReflectliteValue.valueError "reflectlite.Value.IsNil" 0) ReflectliteValue.isNil) Tryz.func140 (by kernel_rfl) (by kernel_rfl) (by kernel_rfl) (by kernel_rfl)
 have h27 := @run_callFunc_extern Tryz.prog 305 _ (ReflectliteType.abiMethod fun t=>do pure (.int .u8 (← Rtype.kind t))) Tryz.func305 (by kernel_rfl) (by kernel_rfl) (by kernel_rfl) (by kernel_rfl)
 have h37 := @run_callFunc_extern Tryz.prog 322 _ (ReflectliteType.method ReflectliteType.elem) Tryz.func322 (by kernel_rfl) (by kernel_rfl) (by kernel_rfl) (by kernel_rfl)
 have h38 := @run_callFunc_extern Tryz.prog 323 _ (ReflectliteType.relation "Implements" ReflectliteType.implements_) Tryz.func323 (by kernel_rfl) (by kernel_rfl) (by kernel_rfl) (by kernel_rfl)
 have h10 := @run_callFunc_extern Tryz.prog 190 _ ReflectliteType.typeOf Tryz.func190 (by kernel_rfl) (by kernel_rfl) (by kernel_rfl) (by kernel_rfl)
 have h35 := @run_callFunc_extern Tryz.prog 320 _ (ReflectliteType.relation "AssignableTo" ReflectliteType.assignableTo) Tryz.func320 (by kernel_rfl) (by kernel_rfl) (by kernel_rfl) (by kernel_rfl)
 have tO:=al0
 have mA:=methodAssignableTo
 have aI:=ako
 have f6:=agE
 have f7:=apb
 have mK:=methodKind
 have mE:=methodElem
 have mI:=methodImplements
 have mAs:=aqp
 have hAs:=avJ
 have kPP:=aoo
 have kP:=arD
 have ePP:=an_
 have iP:=aaY
 have n8:=alB ⟨w.heap.size,0,none⟩ t ((w.alloc (.cells #[.pointer (some t)] 130)).alloc (V3 w)) (by simp)
 have hg2:jv ((w.alloc (.cells #[.pointer (some t)] 130)).alloc (V3 w)):=(hg.alloc _).alloc _
 unfold jv at hg2
 have htl:t.block<w.heap.size:=by
  rcases Nat.lt_or_ge t.block w.heap.size with h | h
  ·exact h
  ·simp [World.cell?,Array.getElem?_eq_none h] at ht0
 have hc1:(((w.alloc (.cells #[.pointer (some t)] 130)).alloc (V3 w)).alloc (V3 w)).cell? t=some old:=by
  rw [World.cell?_alloc_lt _ _ t (by simp; omega),World.cell?_alloc_lt _ _ t (by simp; omega),World.cell?_alloc_lt _ _ t htl]; exact ht0
 have hf1:(((w.alloc (.cells #[.pointer (some t)] 130)).alloc (V3 w)).alloc (V3 w)).frozen? t=false:=by
  rw [World.frozen?_alloc_old _ _ t (by simp; omega),World.frozen?_alloc_old _ _ t (by simp; omega),World.frozen?_alloc_old _ _ t (Nat.ne_of_lt htl)]; exact hf0
 go_enter Tryz.func88,Tryz.ntmps88
 go_wp2
 refine wp_loop_rounds 1 ?_
 rw [rounds_succ]
 go_wp2_with (go_at_call 315; refine (aqD n t old _ hc1 hf1).mono ?_; rintro e w' ⟨rfl,rfl⟩)
 go_ret
 exact ⟨rfl,by simp⟩
end Go.Ev.ErrAs
end
section
namespace Go.Ev.ErrAs
open Go Go.Proofs Go.RowKit Go.Extern.Stop Go.Stop Go.Extern
theorem code_nil (w:World):Calls Tryz.prog 38 #[.nilIface] w fun e w'=>e = .returned (.int .i64 0)∧Below w.heap.size w w':=by
 go_enter Tryz.func38,Tryz.ntmps38
 go_wp2
 go_ret
 exact ⟨rfl,(Below.refl _ _).alloc (Nat.le_refl _) _⟩
set_option maxHeartbeats 1000000 in
set_option maxRecDepth 100000 in
theorem amj (n:Int) (w:World) (hg:jv w):Calls Tryz.prog 38 #[.iface 141 (.int .i64 n)] w fun e w'=>e = .returned (.int .i64 n)∧Below w.heap.size w w':=by
 have hgA:jv (w.alloc (.cells #[.pointer none] 128)):=hg.alloc _
 have htA:(w.alloc (.cells #[.pointer none] 128)).cell? ⟨w.heap.size,0,none⟩=some (.pointer none):=by simp
 have hfA:(w.alloc (.cells #[.pointer none] 128)).frozen? ⟨w.heap.size,0,none⟩=false:=by simp
 have HA:=Lib.hid hgA
 clear hgA hg
 go_enter Tryz.func38,Tryz.ntmps38
 go_wp2_with (go_at_call 88; refine (apC n _ (.pointer none) _ HA.out htA hfA).mono ?_; rintro e w' ⟨rfl,rfl⟩)
 go_ret
 refine ⟨rfl,?_⟩
 refine ((((((Below.refl _ _).alloc (Nat.le_refl _) _).alloc (by simp) _).alloc (by simp; omega) _).alloc (by simp; omega) _).alloc (by simp; omega) _)
set_option maxHeartbeats 1000000 in
set_option maxRecDepth 100000 in
theorem ami (n:Int) (e:Addr) (w:World) (hg:jv w) (he:w.cell? e=some (.int .i64 n)):Calls Tryz.prog 38 #[.iface 128 (.pointer (some e))] w fun e w'=>e = .returned (.int .i64 n)∧Below w.heap.size w w':=by
 have hel:e.block<w.heap.size:=by
  rcases Nat.lt_or_ge e.block w.heap.size with h | h
  ·exact h
  ·simp [World.cell?,Array.getElem?_eq_none h] at he
 have hgA:jv (w.alloc (.cells #[.pointer none] 128)):=hg.alloc _
 have htA:(w.alloc (.cells #[.pointer none] 128)).cell? ⟨w.heap.size,0,none⟩=some (.pointer none):=by simp
 have hfA:(w.alloc (.cells #[.pointer none] 128)).frozen? ⟨w.heap.size,0,none⟩=false:=by simp
 have hce:(((((w.alloc (.cells #[.pointer (some e)] 128)).alloc (.cells #[.pointer (some ⟨w.heap.size,0,none⟩)] 130)).alloc (V3 (w.alloc (.cells #[.pointer none] 128)))).alloc (V3 (w.alloc (.cells #[.pointer none] 128)))).alloc (.cells #[.pointer (some e)] 128)).cell? e=some (.int .i64 n):=by
  rw [World.cell?_alloc_lt _ _ e (by simp; omega),World.cell?_alloc_lt _ _ e (by simp; omega),World.cell?_alloc_lt _ _ e (by simp; omega),World.cell?_alloc_lt _ _ e (by simp; omega),World.cell?_alloc_lt _ _ e hel]; exact he
 have HA:=Lib.hid hgA
 clear hgA hg
 go_enter Tryz.func38,Tryz.ntmps38
 go_wp2_with (go_at_call 88; refine (as_hit e _ (.pointer none) _ HA.out htA hfA).mono ?_; rintro e w' ⟨rfl,rfl⟩)
 go_ret
 refine ⟨rfl,?_⟩
 refine ((((((Below.refl _ _).alloc (Nat.le_refl _) _).alloc (by simp) _).alloc (by simp; omega) _).alloc (by simp; omega) _).alloc (by simp; omega) _)
end Go.Ev.ErrAs
end
