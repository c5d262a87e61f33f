/- A part of the proof of priceFalls_card, riskSigns_card, yieldBack_card, yieldEdge_card, yieldFalls_card. -/
import Derived.Lib.Hide
import Derived.Test.YtnokhmkkpcfilabGreatDoorCErrA
set_option linter.unusedVariables false
set_option linter.unusedSimpArgs false
section
namespace Go.Ev.ErrAs
open Go Go.Proofs Go.RowKit Go.Extern.Stop Go.Stop Go.Extern
theorem au2 (v : Value) (xT : TypeId) (w : World) : (Instr.typeAssert (.iface 71 v) xT 71 true).run Tryz.prog w = .ok (.tuple #[v, .bool true]) w := by
 simp [Instr.typeAssert, run_underlying (P := Tryz.prog) (t := 71) Tryz.underlying71]
set_option maxRecDepth 100000 in
theorem apt (n : Int) (t : Addr) (old : Value) (w : World) (ht0 : w.cell? t = some old) (hf0 : w.frozen? t = false) :
  Calls Tryz.prog 285 #[.int .i64 n, .iface 71 (.pointer (some t))] w fun ev w' => ev = .returned (.bool true) ∧ w' = (w.alloc (.cells #[.int .i64 n, .string ⟨#[]⟩, .nilIface] 73)).setCell t (.pointer (some ⟨w.heap.size, 0, none⟩)) := by
 have htl : t.block < w.heap.size := by
  rcases Nat.lt_or_ge t.block w.heap.size with h | h
  ·exact h
  ·simp [World.cell?, Array.getElem?_eq_none h] at ht0
 have hc1 : (w.alloc (.cells #[.int .i64 n, .string ⟨#[]⟩, .nilIface] 73)).cell? t = some old := by rw [World.cell?_alloc_lt _ _ t htl]; exact ht0
 have hf1 : (w.alloc (.cells #[.int .i64 n, .string ⟨#[]⟩, .nilIface] 73)).frozen? t = false := by rw [World.frozen?_alloc_old _ _ t (Nat.ne_of_lt htl)]; exact hf0
 have hPP := au2
 go_enter Tryz.func285, Tryz.ntmps285
 go_wp2
 go_ret
 exact ⟨rfl, rfl⟩
theorem aph (v : Int) (w : World) : (Go.method 462 150 (.int .i64 v) "As").run Tryz.prog w = .ok (285, .int .i64 v) w := by kernel_rfl
theorem atw (v : Value) (xT : TypeId) (w : World) : (Instr.typeAssert (.iface 150 v) xT 192 true).run Tryz.prog w = .ok (.tuple #[.iface 150 v, .bool true]) w :=
 run_typeAssert_hasB Tryz.underlying192 (by kernel_rfl) v xT w
set_option maxHeartbeats 4000000 in
theorem aoy (n : Int) (t : Addr) (old : Value) (w : World) (hg : lI w) (ht0 : w.cell? t = some old) (hf0 : w.frozen? t = false) :
  Calls Tryz.prog 39 #[.iface 150 (.int .i64 n), .iface 71 (.pointer (some t))] w fun ev w' => ev = .returned (.bool true) ∧ w' = ((((w.alloc (.cells #[.pointer (some t)] 71)).alloc (V3 w)).alloc (V3 w)).alloc (.cells #[.int .i64 n, .string ⟨#[]⟩, .nilIface] 73)).setCell t (.pointer (some ⟨w.heap.size + 1 + 1 + 1, 0, none⟩)) := by
 have h6 := @run_callFunc_extern Tryz.prog 85 _ (fun args => ReflectliteValue.unpack (args.getD 0 (.tuple #[]))) Tryz.func85 (by kernel_rfl) (by kernel_rfl) (by kernel_rfl) (by kernel_rfl)
 have h7 := @run_callFunc_extern Tryz.prog 86 _ (ReflectliteValue.methodAny (ReflectliteValue.valueError "reflectlite.Value.Type" 0) (fun t _ _ _ => ReflectliteType.toType t)) Tryz.func86 (by kernel_rfl) (by kernel_rfl) (by kernel_rfl) (by kernel_rfl)
 have h8 := @run_callFunc_extern Tryz.prog 87 _ (ReflectliteValue.method (ReflectliteValue.valueError "reflectlite.Value.IsNil" 0) ReflectliteValue.isNil) Tryz.func87 (by kernel_rfl) (by kernel_rfl) (by kernel_rfl) (by kernel_rfl)
 have h27 := @run_callFunc_extern Tryz.prog 274 _ (ReflectliteType.abiMethod fun t => do pure (.int .u8 (← Rtype.kind t))) Tryz.func274 (by kernel_rfl) (by kernel_rfl) (by kernel_rfl) (by kernel_rfl)
 have h37 := @run_callFunc_extern Tryz.prog 289 _ (ReflectliteType.method ReflectliteType.elem) Tryz.func289 (by kernel_rfl) (by kernel_rfl) (by kernel_rfl) (by kernel_rfl)
 have h38 := @run_callFunc_extern Tryz.prog 290 _ (ReflectliteType.relation "Implements" ReflectliteType.implements_) Tryz.func290 (by kernel_rfl) (by kernel_rfl) (by kernel_rfl) (by kernel_rfl)
 have h10 := @run_callFunc_extern Tryz.prog 129 _ ReflectliteType.typeOf Tryz.func129 (by kernel_rfl) (by kernel_rfl) (by kernel_rfl) (by kernel_rfl)
 have h35 := @run_callFunc_extern Tryz.prog 287 _ (ReflectliteType.relation "AssignableTo" ReflectliteType.assignableTo) Tryz.func287 (by kernel_rfl) (by kernel_rfl) (by kernel_rfl) (by kernel_rfl)
 have tO := akO
 have mA := methodAssignableTo
 have aI := ajm
 have f6 := aff
 have f7 := an8
 have mK := methodKind
 have mE := methodElem
 have mI := methodImplements
 have mAs := aph
 have hAs := atw
 have kPP := ano
 have kP := aqb
 have ePP := ana
 have iP := ZW
 have n8 := akr ⟨w.heap.size, 0, none⟩ t ((w.alloc (.cells #[.pointer (some t)] 71)).alloc (V3 w)) (by simp)
 have hg2 : lI ((w.alloc (.cells #[.pointer (some t)] 71)).alloc (V3 w)) := (hg.alloc _).alloc _
 unfold lI at hg2
 have htl : t.block < w.heap.size := by
  rcases Nat.lt_or_ge t.block w.heap.size with h | h
  ·exact h
  ·simp [World.cell?, Array.getElem?_eq_none h] at ht0
 have hc1 : (((w.alloc (.cells #[.pointer (some t)] 71)).alloc (V3 w)).alloc (V3 w)).cell? t = some old := by
  rw [World.cell?_alloc_lt _ _ t (by simp; omega), World.cell?_alloc_lt _ _ t (by simp; omega), World.cell?_alloc_lt _ _ t htl]; exact ht0
 have hf1 : (((w.alloc (.cells #[.pointer (some t)] 71)).alloc (V3 w)).alloc (V3 w)).frozen? t = false := by
  rw [World.frozen?_alloc_old _ _ t (by simp; omega), World.frozen?_alloc_old _ _ t (by simp; omega), World.frozen?_alloc_old _ _ t (Nat.ne_of_lt htl)]; exact hf0
 go_enter Tryz.func39, Tryz.ntmps39
 go_wp2
 refine wp_loop_rounds 1 ?_
 rw [rounds_succ]
 go_wp2_with (go_at_call 285; refine (apt n t old _ hc1 hf1).mono ?_; rintro e w' ⟨rfl, rfl⟩)
 go_ret
 exact ⟨rfl, by simp⟩
end Go.Ev.ErrAs
end
section
namespace Go.Ev.ErrAs
open Go Go.Proofs Go.RowKit Go.Extern.Stop Go.Stop Go.Extern
theorem code_nil (w : World) : Calls Tryz.prog 12 #[.nilIface] w fun e w' => e = .returned (.int .i64 0) ∧ Below w.heap.size w w' := by
 go_enter Tryz.func12, Tryz.ntmps12
 go_wp2
 go_ret
 exact ⟨rfl, (Below.refl _ _).alloc (Nat.le_refl _) _⟩
set_option maxHeartbeats 1000000 in
set_option maxRecDepth 100000 in
theorem ale (n : Int) (w : World) (hg : lI w) : Calls Tryz.prog 12 #[.iface 150 (.int .i64 n)] w fun e w' => e = .returned (.int .i64 n) ∧ Below w.heap.size w w' := by
 have hgA : lI (w.alloc (.cells #[.pointer none] 69)) := hg.alloc _
 have htA : (w.alloc (.cells #[.pointer none] 69)).cell? ⟨w.heap.size, 0, none⟩ = some (.pointer none) := by simp
 have hfA : (w.alloc (.cells #[.pointer none] 69)).frozen? ⟨w.heap.size, 0, none⟩ = false := by simp
 have HA := Lib.hid hgA
 clear hgA hg
 go_enter Tryz.func12, Tryz.ntmps12
 go_wp2_with (go_at_call 39; refine (aoy n _ (.pointer none) _ HA.out htA hfA).mono ?_; rintro e w' ⟨rfl, rfl⟩)
 go_ret
 refine ⟨rfl, ?_⟩
 refine ((((((Below.refl _ _).alloc (Nat.le_refl _) _).alloc (by simp) _).alloc (by simp; omega) _).alloc (by simp; omega) _).alloc (by simp; omega) _)
set_option maxHeartbeats 1000000 in
set_option maxRecDepth 100000 in
theorem ald (n : Int) (e : Addr) (w : World) (hg : lI w) (he : w.cell? e = some (.int .i64 n)) : Calls Tryz.prog 12 #[.iface 69 (.pointer (some e))] w fun e w' => e = .returned (.int .i64 n) ∧ Below w.heap.size w w' := by
 have hel : e.block < w.heap.size := by
  rcases Nat.lt_or_ge e.block w.heap.size with h | h
  ·exact h
  ·simp [World.cell?, Array.getElem?_eq_none h] at he
 have hgA : lI (w.alloc (.cells #[.pointer none] 69)) := hg.alloc _
 have htA : (w.alloc (.cells #[.pointer none] 69)).cell? ⟨w.heap.size, 0, none⟩ = some (.pointer none) := by simp
 have hfA : (w.alloc (.cells #[.pointer none] 69)).frozen? ⟨w.heap.size, 0, none⟩ = false := by simp
 have hce : (((((w.alloc (.cells #[.pointer (some e)] 69)).alloc (.cells #[.pointer (some ⟨w.heap.size, 0, none⟩)] 71)).alloc (V3 (w.alloc (.cells #[.pointer none] 69)))).alloc (V3 (w.alloc (.cells #[.pointer none] 69)))).alloc (.cells #[.pointer (some e)] 69)).cell? e = some (.int .i64 n) := by
  rw [World.cell?_alloc_lt _ _ e (by simp; omega), World.cell?_alloc_lt _ _ e (by simp; omega), World.cell?_alloc_lt _ _ e (by simp; omega), World.cell?_alloc_lt _ _ e (by simp; omega), World.cell?_alloc_lt _ _ e hel]; exact he
 have HA := Lib.hid hgA
 clear hgA hg
 go_enter Tryz.func12, Tryz.ntmps12
 go_wp2_with (go_at_call 39; refine (as_hit e _ (.pointer none) _ HA.out htA hfA).mono ?_; rintro e w' ⟨rfl, rfl⟩)
 go_ret
 refine ⟨rfl, ?_⟩
 refine ((((((Below.refl _ _).alloc (Nat.le_refl _) _).alloc (by simp) _).alloc (by simp; omega) _).alloc (by simp; omega) _).alloc (by simp; omega) _)
end Go.Ev.ErrAs
end
