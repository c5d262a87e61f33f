/- A part of the proof of flowSum_card, flowParts_card, flowEx_card, accrWhole_card, priceZero_card. -/
import Derived.Lib.Hide
import Derived.Test.YtnokhmkkpcfilaaGreatDoorCErrA
set_option linter.unusedVariables false
set_option linter.unusedSimpArgs false
section
namespace Go.Ev.ErrAs
open Go Go.Proofs Go.RowKit Go.Extern.Stop Go.Stop Go.Extern
theorem atS (v : Value) (xT : TypeId) (w : World) : (Instr.typeAssert (.iface 148 v) xT 148 true).run Tryz.prog w = .ok (.tuple #[v, .bool true]) w := by
 simp [Instr.typeAssert, run_underlying (P := Tryz.prog) (t := 148) Tryz.underlying148]
set_option maxRecDepth 100000 in
theorem aon (n : Int) (t : Addr) (old : Value) (w : World) (ht0 : w.cell? t = some old) (hf0 : w.frozen? t = false) :
  Calls Tryz.prog 275 #[.int .i64 n, .iface 148 (.pointer (some t))] w fun ev w' => ev = .returned (.bool true) ∧ w' = (w.alloc (.cells #[.int .i64 n, .string ⟨#[]⟩, .nilIface] 145)).setCell t (.pointer (some ⟨w.heap.size, 0, none⟩)) := by
 have htl : t.block < w.heap.size := by
  rcases Nat.lt_or_ge t.block w.heap.size with h | h
  ·exact h
  ·simp [World.cell?, Array.getElem?_eq_none h] at ht0
 have hc1 : (w.alloc (.cells #[.int .i64 n, .string ⟨#[]⟩, .nilIface] 145)).cell? t = some old := by rw [World.cell?_alloc_lt _ _ t htl]; exact ht0
 have hf1 : (w.alloc (.cells #[.int .i64 n, .string ⟨#[]⟩, .nilIface] 145)).frozen? t = false := by rw [World.frozen?_alloc_old _ _ t (Nat.ne_of_lt htl)]; exact hf0
 have hPP := atS
 go_enter Tryz.func275, Tryz.ntmps275
 go_wp2
 go_ret
 exact ⟨rfl, rfl⟩
theorem aoe (v : Int) (w : World) : (Go.method 452 134 (.int .i64 v) "As").run Tryz.prog w = .ok (275, .int .i64 v) w := by kernel_rfl
theorem aso (v : Value) (xT : TypeId) (w : World) : (Instr.typeAssert (.iface 134 v) xT 247 true).run Tryz.prog w = .ok (.tuple #[.iface 134 v, .bool true]) w :=
 run_typeAssert_hasB Tryz.underlying247 (by kernel_rfl) v xT w
set_option maxHeartbeats 4000000 in
theorem anw (n : Int) (t : Addr) (old : Value) (w : World) (hg : kR w) (ht0 : w.cell? t = some old) (hf0 : w.frozen? t = false) :
  Calls Tryz.prog 108 #[.iface 134 (.int .i64 n), .iface 148 (.pointer (some t))] w fun ev w' => ev = .returned (.bool true) ∧ w' = ((((w.alloc (.cells #[.pointer (some t)] 148)).alloc (V3 w)).alloc (V3 w)).alloc (.cells #[.int .i64 n, .string ⟨#[]⟩, .nilIface] 145)).setCell t (.pointer (some ⟨w.heap.size + 1 + 1 + 1, 0, none⟩)) := by
 have h6 := @run_callFunc_extern Tryz.prog 150 _ (fun args => ReflectliteValue.unpack (args.getD 0 (.tuple #[]))) Tryz.func150 (by kernel_rfl) (by kernel_rfl) (by kernel_rfl) (by kernel_rfl)
 have h7 := @run_callFunc_extern Tryz.prog 151 _ (ReflectliteValue.methodAny (ReflectliteValue.valueError "reflectlite.Value.Type" 0) (fun t _ _ _ => ReflectliteType.toType t)) Tryz.func151 (by kernel_rfl) (by kernel_rfl) (by kernel_rfl) (by kernel_rfl)
 have h8 := @run_callFunc_extern Tryz.prog 152 _ (ReflectliteValue.method (ReflectliteValue.valueError "reflectlite.Value.IsNil" 0) ReflectliteValue.isNil) Tryz.func152 (by kernel_rfl) (by kernel_rfl) (by kernel_rfl) (by kernel_rfl)
 have h27 := @run_callFunc_extern Tryz.prog 272 _ (ReflectliteType.abiMethod fun t => do pure (.int .u8 (← Rtype.kind t))) Tryz.func272 (by kernel_rfl) (by kernel_rfl) (by kernel_rfl) (by kernel_rfl)
 have h37 := @run_callFunc_extern Tryz.prog 299 _ (ReflectliteType.method ReflectliteType.elem) Tryz.func299 (by kernel_rfl) (by kernel_rfl) (by kernel_rfl) (by kernel_rfl)
 have h38 := @run_callFunc_extern Tryz.prog 300 _ (ReflectliteType.relation "Implements" ReflectliteType.implements_) Tryz.func300 (by kernel_rfl) (by kernel_rfl) (by kernel_rfl) (by kernel_rfl)
 have h10 := @run_callFunc_extern Tryz.prog 198 _ ReflectliteType.typeOf Tryz.func198 (by kernel_rfl) (by kernel_rfl) (by kernel_rfl) (by kernel_rfl)
 have h35 := @run_callFunc_extern Tryz.prog 297 _ (ReflectliteType.relation "AssignableTo" ReflectliteType.assignableTo) Tryz.func297 (by kernel_rfl) (by kernel_rfl) (by kernel_rfl) (by kernel_rfl)
 have tO := ajK
 have mA := methodAssignableTo
 have aI := aic
 have f6 := ad3
 have f7 := am1
 have mK := methodKind
 have mE := methodElem
 have mI := methodImplements
 have mAs := aoe
 have hAs := aso
 have kPP := amj
 have kP := ao9
 have ePP := al4
 have iP := YF
 have n8 := ajm ⟨w.heap.size, 0, none⟩ t ((w.alloc (.cells #[.pointer (some t)] 148)).alloc (V3 w)) (by simp)
 have hg2 : kR ((w.alloc (.cells #[.pointer (some t)] 148)).alloc (V3 w)) := (hg.alloc _).alloc _
 unfold kR at hg2
 have htl : t.block < w.heap.size := by
  rcases Nat.lt_or_ge t.block w.heap.size with h | h
  ·exact h
  ·simp [World.cell?, Array.getElem?_eq_none h] at ht0
 have hc1 : (((w.alloc (.cells #[.pointer (some t)] 148)).alloc (V3 w)).alloc (V3 w)).cell? t = some old := by
  rw [World.cell?_alloc_lt _ _ t (by simp; omega), World.cell?_alloc_lt _ _ t (by simp; omega), World.cell?_alloc_lt _ _ t htl]; exact ht0
 have hf1 : (((w.alloc (.cells #[.pointer (some t)] 148)).alloc (V3 w)).alloc (V3 w)).frozen? t = false := by
  rw [World.frozen?_alloc_old _ _ t (by simp; omega), World.frozen?_alloc_old _ _ t (by simp; omega), World.frozen?_alloc_old _ _ t (Nat.ne_of_lt htl)]; exact hf0
 go_enter Tryz.func108, Tryz.ntmps108
 go_wp2
 refine wp_loop_rounds 1 ?_
 rw [rounds_succ]
 go_wp2_with (go_at_call 275; refine (aon n t old _ hc1 hf1).mono ?_; rintro e w' ⟨rfl, rfl⟩)
 go_ret
 exact ⟨rfl, by simp⟩
end Go.Ev.ErrAs
end
section
namespace Go.Ev.ErrAs
open Go Go.Proofs Go.RowKit Go.Extern.Stop Go.Stop Go.Extern
theorem code_nil (w : World) : Calls Tryz.prog 63 #[.nilIface] w fun e w' => e = .returned (.int .i64 0) ∧ Below w.heap.size w w' := by
 go_enter Tryz.func63, Tryz.ntmps63
 go_wp2
 go_ret
 exact ⟨rfl, (Below.refl _ _).alloc (Nat.le_refl _) _⟩
set_option maxHeartbeats 1000000 in
set_option maxRecDepth 100000 in
theorem akc (n : Int) (w : World) (hg : kR w) : Calls Tryz.prog 63 #[.iface 134 (.int .i64 n)] w fun e w' => e = .returned (.int .i64 n) ∧ Below w.heap.size w w' := by
 have hgA : kR (w.alloc (.cells #[.pointer none] 143)) := hg.alloc _
 have htA : (w.alloc (.cells #[.pointer none] 143)).cell? ⟨w.heap.size, 0, none⟩ = some (.pointer none) := by simp
 have hfA : (w.alloc (.cells #[.pointer none] 143)).frozen? ⟨w.heap.size, 0, none⟩ = false := by simp
 have HA := Lib.hid hgA
 clear hgA hg
 go_enter Tryz.func63, Tryz.ntmps63
 go_wp2_with (go_at_call 108; refine (anw n _ (.pointer none) _ HA.out htA hfA).mono ?_; rintro e w' ⟨rfl, rfl⟩)
 go_ret
 refine ⟨rfl, ?_⟩
 refine ((((((Below.refl _ _).alloc (Nat.le_refl _) _).alloc (by simp) _).alloc (by simp; omega) _).alloc (by simp; omega) _).alloc (by simp; omega) _)
set_option maxHeartbeats 1000000 in
set_option maxRecDepth 100000 in
theorem akb (n : Int) (e : Addr) (w : World) (hg : kR w) (he : w.cell? e = some (.int .i64 n)) : Calls Tryz.prog 63 #[.iface 143 (.pointer (some e))] w fun e w' => e = .returned (.int .i64 n) ∧ Below w.heap.size w w' := by
 have hel : e.block < w.heap.size := by
  rcases Nat.lt_or_ge e.block w.heap.size with h | h
  ·exact h
  ·simp [World.cell?, Array.getElem?_eq_none h] at he
 have hgA : kR (w.alloc (.cells #[.pointer none] 143)) := hg.alloc _
 have htA : (w.alloc (.cells #[.pointer none] 143)).cell? ⟨w.heap.size, 0, none⟩ = some (.pointer none) := by simp
 have hfA : (w.alloc (.cells #[.pointer none] 143)).frozen? ⟨w.heap.size, 0, none⟩ = false := by simp
 have hce : (((((w.alloc (.cells #[.pointer (some e)] 143)).alloc (.cells #[.pointer (some ⟨w.heap.size, 0, none⟩)] 148)).alloc (V3 (w.alloc (.cells #[.pointer none] 143)))).alloc (V3 (w.alloc (.cells #[.pointer none] 143)))).alloc (.cells #[.pointer (some e)] 143)).cell? e = some (.int .i64 n) := by
  rw [World.cell?_alloc_lt _ _ e (by simp; omega), World.cell?_alloc_lt _ _ e (by simp; omega), World.cell?_alloc_lt _ _ e (by simp; omega), World.cell?_alloc_lt _ _ e (by simp; omega), World.cell?_alloc_lt _ _ e hel]; exact he
 have HA := Lib.hid hgA
 clear hgA hg
 go_enter Tryz.func63, Tryz.ntmps63
 go_wp2_with (go_at_call 108; refine (as_hit e _ (.pointer none) _ HA.out htA hfA).mono ?_; rintro e w' ⟨rfl, rfl⟩)
 go_ret
 refine ⟨rfl, ?_⟩
 refine ((((((Below.refl _ _).alloc (Nat.le_refl _) _).alloc (by simp) _).alloc (by simp; omega) _).alloc (by simp; omega) _).alloc (by simp; omega) _)
end Go.Ev.ErrAs
end
