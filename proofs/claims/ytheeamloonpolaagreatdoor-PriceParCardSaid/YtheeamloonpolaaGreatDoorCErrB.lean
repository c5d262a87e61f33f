/- A part of the proof of riskZero_card, yieldPar_card, pricePar_card. -/
import Derived.Lib.Hide
import Derived.Test.YtheeamloonpolaaGreatDoorCErrA
set_option linter.unusedVariables false
set_option linter.unusedSimpArgs false
section
namespace Go.Ev.ErrAs
open Go Go.Proofs Go.RowKit Go.Extern.Stop Go.Stop Go.Extern
theorem aw5 (v:Value) (xT:TypeId) (w:World):(Instr.typeAssert (.iface 90 v) xT 90 true).run Tryz.prog w = .ok (.tuple #[v,.bool true]) w:=by
 simp [Instr.typeAssert,run_underlying (P:=Tryz.prog) (t:=90) Tryz.underlying90]
set_option maxRecDepth 100000 in
theorem ard (n:Int) (t:Addr) (old:Value) (w:World) (ht0:w.cell? t=some old) (hf0:w.frozen? t=false) :
  Calls Tryz.prog 287 #[.int .i64 n,.iface 90 (.pointer (some t))] w fun ev w'=>ev = .returned (.bool true)∧w'=(w.alloc (.cells #[.int .i64 n,.string ⟨#[]⟩,.nilIface] 92)).setCell t (.pointer (some ⟨w.heap.size,0,none⟩)):=by
 have htl:t.block<w.heap.size:=by
  rcases Nat.lt_or_ge t.block w.heap.size with h | h
  ·exact h
  ·simp [World.cell?,Array.getElem?_eq_none h] at ht0
 have hc1:(w.alloc (.cells #[.int .i64 n,.string ⟨#[]⟩,.nilIface] 92)).cell? t=some old:=by rw [World.cell?_alloc_lt _ _ t htl]; exact ht0
 have hf1:(w.alloc (.cells #[.int .i64 n,.string ⟨#[]⟩,.nilIface] 92)).frozen? t=false:=by rw [World.frozen?_alloc_old _ _ t (Nat.ne_of_lt htl)]; exact hf0
 have hPP:=aw5
 go_enter Tryz.func287,Tryz.ntmps287
 go_wp2
 go_ret
 exact ⟨rfl,rfl⟩
theorem aq2 (v:Int) (w:World):(Go.method 461 127 (.int .i64 v) "As").run Tryz.prog w = .ok (287,.int .i64 v) w:=by kernel_rfl
theorem avF (v:Value) (xT:TypeId) (w:World):(Instr.typeAssert (.iface 127 v) xT 203 true).run Tryz.prog w = .ok (.tuple #[.iface 127 v,.bool true]) w :=
 run_typeAssert_hasB Tryz.underlying203 (by kernel_rfl) v xT w
set_option maxHeartbeats 4000000 in
theorem aqg (n:Int) (t:Addr) (old:Value) (w:World) (hg:lZ w) (ht0:w.cell? t=some old) (hf0:w.frozen? t=false) :
  Calls Tryz.prog 52 #[.iface 127 (.int .i64 n),.iface 90 (.pointer (some t))] w fun ev w'=>ev = .returned (.bool true)∧w'=((((w.alloc (.cells #[.pointer (some t)] 90)).alloc (V3 w)).alloc (V3 w)).alloc (.cells #[.int .i64 n,.string ⟨#[]⟩,.nilIface] 92)).setCell t (.pointer (some ⟨w.heap.size+1+1+1,0,none⟩)):=by
 have h6 := @run_callFunc_extern Tryz.prog 102 _ (fun args=>ReflectliteValue.unpack (args.getD 0 (.tuple #[]))) Tryz.func102 (by kernel_rfl) (by kernel_rfl) (by kernel_rfl) (by kernel_rfl)
 have h7 := @run_callFunc_extern Tryz.prog 103 _ (ReflectliteValue.methodAny (ReflectliteValue.valueError "reflectlite.Value.Type" 0) (fun t _ _ _=>ReflectliteType.toType t)) Tryz.func103 (by kernel_rfl) (by kernel_rfl) (by kernel_rfl) (by kernel_rfl)
 have h8 := @run_callFunc_extern Tryz.prog 104 _ (ReflectliteValue.method (ReflectliteValue.valueError "reflectlite.Value.IsNil" 0) ReflectliteValue.isNil) Tryz.func104 (by kernel_rfl) (by kernel_rfl) (by kernel_rfl) (by kernel_rfl)
 have h27 := @run_callFunc_extern Tryz.prog 280 _ (ReflectliteType.abiMethod fun t=>do pure (.int .u8 (← Rtype.kind t))) Tryz.func280 (by kernel_rfl) (by kernel_rfl) (by kernel_rfl) (by kernel_rfl)
 have h37 := @run_callFunc_extern Tryz.prog 294 _ (ReflectliteType.method ReflectliteType.elem) Tryz.func294 (by kernel_rfl) (by kernel_rfl) (by kernel_rfl) (by kernel_rfl)
 have h38 := @run_callFunc_extern Tryz.prog 295 _ (ReflectliteType.relation "Implements" ReflectliteType.implements_) Tryz.func295 (by kernel_rfl) (by kernel_rfl) (by kernel_rfl) (by kernel_rfl)
 have h10 := @run_callFunc_extern Tryz.prog 145 _ ReflectliteType.typeOf Tryz.func145 (by kernel_rfl) (by kernel_rfl) (by kernel_rfl) (by kernel_rfl)
 have h35 := @run_callFunc_extern Tryz.prog 292 _ (ReflectliteType.relation "AssignableTo" ReflectliteType.assignableTo) Tryz.func292 (by kernel_rfl) (by kernel_rfl) (by kernel_rfl) (by kernel_rfl)
 have tO:=amr
 have mA:=methodAssignableTo
 have aI:=akL
 have f6:=ags
 have f7:=apO
 have mK:=methodKind
 have mE:=methodElem
 have mI:=methodImplements
 have mAs:=aq2
 have hAs:=avF
 have kPP:=aoZ
 have kP:=ar'
 have ePP:=aoL
 have iP:=aa_
 have n8:=alZ ⟨w.heap.size,0,none⟩ t ((w.alloc (.cells #[.pointer (some t)] 90)).alloc (V3 w)) (by simp)
 have hg2:lZ ((w.alloc (.cells #[.pointer (some t)] 90)).alloc (V3 w)):=(hg.alloc _).alloc _
 unfold lZ at hg2
 have htl:t.block<w.heap.size:=by
  rcases Nat.lt_or_ge t.block w.heap.size with h | h
  ·exact h
  ·simp [World.cell?,Array.getElem?_eq_none h] at ht0
 have hc1:(((w.alloc (.cells #[.pointer (some t)] 90)).alloc (V3 w)).alloc (V3 w)).cell? t=some old:=by
  rw [World.cell?_alloc_lt _ _ t (by simp; omega),World.cell?_alloc_lt _ _ t (by simp; omega),World.cell?_alloc_lt _ _ t htl]; exact ht0
 have hf1:(((w.alloc (.cells #[.pointer (some t)] 90)).alloc (V3 w)).alloc (V3 w)).frozen? t=false:=by
  rw [World.frozen?_alloc_old _ _ t (by simp; omega),World.frozen?_alloc_old _ _ t (by simp; omega),World.frozen?_alloc_old _ _ t (Nat.ne_of_lt htl)]; exact hf0
 go_enter Tryz.func52,Tryz.ntmps52
 go_wp2
 refine wp_loop_rounds 1 ?_
 rw [rounds_succ]
 go_wp2_with (go_at_call 287; refine (ard n t old _ hc1 hf1).mono ?_; rintro e w' ⟨rfl,rfl⟩)
 go_ret
 exact ⟨rfl,by simp⟩
end Go.Ev.ErrAs
end
section
namespace Go.Ev.ErrAs
open Go Go.Proofs Go.RowKit Go.Extern.Stop Go.Stop Go.Extern
theorem code_nil (w:World):Calls Tryz.prog 15 #[.nilIface] w fun e w'=>e = .returned (.int .i64 0)∧Below w.heap.size w w':=by
 go_enter Tryz.func15,Tryz.ntmps15
 go_wp2
 go_ret
 exact ⟨rfl,(Below.refl _ _).alloc (Nat.le_refl _) _⟩
set_option maxHeartbeats 1000000 in
set_option maxRecDepth 100000 in
theorem amU (n:Int) (w:World) (hg:lZ w):Calls Tryz.prog 15 #[.iface 127 (.int .i64 n)] w fun e w'=>e = .returned (.int .i64 n)∧Below w.heap.size w w':=by
 have hgA:lZ (w.alloc (.cells #[.pointer none] 88)):=hg.alloc _
 have htA:(w.alloc (.cells #[.pointer none] 88)).cell? ⟨w.heap.size,0,none⟩=some (.pointer none):=by simp
 have hfA:(w.alloc (.cells #[.pointer none] 88)).frozen? ⟨w.heap.size,0,none⟩=false:=by simp
 have HA:=Lib.hid hgA
 clear hgA hg
 go_enter Tryz.func15,Tryz.ntmps15
 go_wp2_with (go_at_call 52; refine (aqg n _ (.pointer none) _ HA.out htA hfA).mono ?_; rintro e w' ⟨rfl,rfl⟩)
 go_ret
 refine ⟨rfl,?_⟩
 refine ((((((Below.refl _ _).alloc (Nat.le_refl _) _).alloc (by simp) _).alloc (by simp; omega) _).alloc (by simp; omega) _).alloc (by simp; omega) _)
set_option maxHeartbeats 1000000 in
set_option maxRecDepth 100000 in
theorem amT (n:Int) (e:Addr) (w:World) (hg:lZ w) (he:w.cell? e=some (.int .i64 n)):Calls Tryz.prog 15 #[.iface 88 (.pointer (some e))] w fun e w'=>e = .returned (.int .i64 n)∧Below w.heap.size w w':=by
 have hel:e.block<w.heap.size:=by
  rcases Nat.lt_or_ge e.block w.heap.size with h | h
  ·exact h
  ·simp [World.cell?,Array.getElem?_eq_none h] at he
 have hgA:lZ (w.alloc (.cells #[.pointer none] 88)):=hg.alloc _
 have htA:(w.alloc (.cells #[.pointer none] 88)).cell? ⟨w.heap.size,0,none⟩=some (.pointer none):=by simp
 have hfA:(w.alloc (.cells #[.pointer none] 88)).frozen? ⟨w.heap.size,0,none⟩=false:=by simp
 have hce:(((((w.alloc (.cells #[.pointer (some e)] 88)).alloc (.cells #[.pointer (some ⟨w.heap.size,0,none⟩)] 90)).alloc (V3 (w.alloc (.cells #[.pointer none] 88)))).alloc (V3 (w.alloc (.cells #[.pointer none] 88)))).alloc (.cells #[.pointer (some e)] 88)).cell? e=some (.int .i64 n):=by
  rw [World.cell?_alloc_lt _ _ e (by simp; omega),World.cell?_alloc_lt _ _ e (by simp; omega),World.cell?_alloc_lt _ _ e (by simp; omega),World.cell?_alloc_lt _ _ e (by simp; omega),World.cell?_alloc_lt _ _ e hel]; exact he
 have HA:=Lib.hid hgA
 clear hgA hg
 go_enter Tryz.func15,Tryz.ntmps15
 go_wp2_with (go_at_call 52; refine (as_hit e _ (.pointer none) _ HA.out htA hfA).mono ?_; rintro e w' ⟨rfl,rfl⟩)
 go_ret
 refine ⟨rfl,?_⟩
 refine ((((((Below.refl _ _).alloc (Nat.le_refl _) _).alloc (by simp) _).alloc (by simp; omega) _).alloc (by simp; omega) _).alloc (by simp; omega) _)
end Go.Ev.ErrAs
end
