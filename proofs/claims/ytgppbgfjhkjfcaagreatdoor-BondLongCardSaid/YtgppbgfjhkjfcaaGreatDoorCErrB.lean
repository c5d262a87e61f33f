/- A part of the proof of planLone_card, bondLong_card. -/
import Derived.Lib.Hide
import Derived.Test.YtgppbgfjhkjfcaaGreatDoorCErrA
set_option linter.unusedVariables false
set_option linter.unusedSimpArgs false
section
namespace Go.Ev.ErrAs
open Go Go.Proofs Go.RowKit Go.Extern.Stop Go.Stop Go.Extern
theorem apy (v : Value) (xT : TypeId) (w : World) : (Instr.typeAssert (.iface 121 v) xT 121 true).run Tryz.prog w = .ok (.tuple #[v, .bool true]) w := by
 simp [Instr.typeAssert, run_underlying (P := Tryz.prog) (t := 121) Tryz.underlying121]
set_option maxRecDepth 100000 in
theorem akC (n : Int) (t : Addr) (old : Value) (w : World) (ht0 : w.cell? t = some old) (hf0 : w.frozen? t = false) :
  Calls Tryz.prog 300 #[.int .i64 n, .iface 121 (.pointer (some t))] w fun ev w' => ev = .returned (.bool true) ∧ w' = (w.alloc (.cells #[.int .i64 n, .string ⟨#[]⟩, .nilIface] 119)).setCell t (.pointer (some ⟨w.heap.size, 0, none⟩)) := by
 have htl : t.block < w.heap.size := by
  rcases Nat.lt_or_ge t.block w.heap.size with h | h
  ·exact h
  ·simp [World.cell?, Array.getElem?_eq_none h] at ht0
 have hc1 : (w.alloc (.cells #[.int .i64 n, .string ⟨#[]⟩, .nilIface] 119)).cell? t = some old := by rw [World.cell?_alloc_lt _ _ t htl]; exact ht0
 have hf1 : (w.alloc (.cells #[.int .i64 n, .string ⟨#[]⟩, .nilIface] 119)).frozen? t = false := by rw [World.frozen?_alloc_old _ _ t (Nat.ne_of_lt htl)]; exact hf0
 have hPP := apy
 go_enter Tryz.func300, Tryz.ntmps300
 go_wp2
 go_ret
 exact ⟨rfl, rfl⟩
theorem akt (v : Int) (w : World) : (Go.method 476 134 (.int .i64 v) "As").run Tryz.prog w = .ok (300, .int .i64 v) w := by kernel_rfl
theorem an9 (v : Value) (xT : TypeId) (w : World) : (Instr.typeAssert (.iface 134 v) xT 234 true).run Tryz.prog w = .ok (.tuple #[.iface 134 v, .bool true]) w :=
 run_typeAssert_hasB Tryz.underlying234 (by kernel_rfl) v xT w
set_option maxHeartbeats 4000000 in
theorem ajP (n : Int) (t : Addr) (old : Value) (w : World) (hg : jE w) (ht0 : w.cell? t = some old) (hf0 : w.frozen? t = false) :
  Calls Tryz.prog 85 #[.iface 134 (.int .i64 n), .iface 121 (.pointer (some t))] w fun ev w' => ev = .returned (.bool true) ∧ w' = ((((w.alloc (.cells #[.pointer (some t)] 121)).alloc (V3 w)).alloc (V3 w)).alloc (.cells #[.int .i64 n, .string ⟨#[]⟩, .nilIface] 119)).setCell t (.pointer (some ⟨w.heap.size + 1 + 1 + 1, 0, none⟩)) := by
 have h6 := @run_callFunc_extern Tryz.prog 126 _ (fun args => ReflectliteValue.unpack (args.getD 0 (.tuple #[]))) Tryz.func126 (by kernel_rfl) (by kernel_rfl) (by kernel_rfl) (by kernel_rfl)
 have h7 := @run_callFunc_extern Tryz.prog 127 _ (ReflectliteValue.methodAny (ReflectliteValue.valueError "reflectlite.Value.Type" 0) (fun t _ _ _ => ReflectliteType.toType t)) Tryz.func127 (by kernel_rfl) (by kernel_rfl) (by kernel_rfl) (by kernel_rfl)
 have h8 := @run_callFunc_extern Tryz.prog 128 _ (ReflectliteValue.method (ReflectliteValue.valueError "reflectlite.Value.IsNil" 0) ReflectliteValue.isNil) Tryz.func128 (by kernel_rfl) (by kernel_rfl) (by kernel_rfl) (by kernel_rfl)
 have h27 := @run_callFunc_extern Tryz.prog 290 _ (ReflectliteType.abiMethod fun t => do pure (.int .u8 (← Rtype.kind t))) Tryz.func290 (by kernel_rfl) (by kernel_rfl) (by kernel_rfl) (by kernel_rfl)
 have h37 := @run_callFunc_extern Tryz.prog 307 _ (ReflectliteType.method ReflectliteType.elem) Tryz.func307 (by kernel_rfl) (by kernel_rfl) (by kernel_rfl) (by kernel_rfl)
 have h38 := @run_callFunc_extern Tryz.prog 308 _ (ReflectliteType.relation "Implements" ReflectliteType.implements_) Tryz.func308 (by kernel_rfl) (by kernel_rfl) (by kernel_rfl) (by kernel_rfl)
 have h10 := @run_callFunc_extern Tryz.prog 172 _ ReflectliteType.typeOf Tryz.func172 (by kernel_rfl) (by kernel_rfl) (by kernel_rfl) (by kernel_rfl)
 have h35 := @run_callFunc_extern Tryz.prog 305 _ (ReflectliteType.relation "AssignableTo" ReflectliteType.assignableTo) Tryz.func305 (by kernel_rfl) (by kernel_rfl) (by kernel_rfl) (by kernel_rfl)
 have tO := agk
 have mA := methodAssignableTo
 have aI := aeM
 have f6 := aaw
 have f7 := ajo
 have mK := methodKind
 have mE := methodElem
 have mI := methodImplements
 have mAs := akt
 have hAs := an9
 have kPP := aiM
 have kP := alh
 have ePP := aiv
 have iP := U4
 have n8 := afY ⟨w.heap.size, 0, none⟩ t ((w.alloc (.cells #[.pointer (some t)] 121)).alloc (V3 w)) (by simp)
 have hg2 : jE ((w.alloc (.cells #[.pointer (some t)] 121)).alloc (V3 w)) := (hg.alloc _).alloc _
 unfold jE at hg2
 have htl : t.block < w.heap.size := by
  rcases Nat.lt_or_ge t.block w.heap.size with h | h
  ·exact h
  ·simp [World.cell?, Array.getElem?_eq_none h] at ht0
 have hc1 : (((w.alloc (.cells #[.pointer (some t)] 121)).alloc (V3 w)).alloc (V3 w)).cell? t = some old := by
  rw [World.cell?_alloc_lt _ _ t (by simp; omega), World.cell?_alloc_lt _ _ t (by simp; omega), World.cell?_alloc_lt _ _ t htl]; exact ht0
 have hf1 : (((w.alloc (.cells #[.pointer (some t)] 121)).alloc (V3 w)).alloc (V3 w)).frozen? t = false := by
  rw [World.frozen?_alloc_old _ _ t (by simp; omega), World.frozen?_alloc_old _ _ t (by simp; omega), World.frozen?_alloc_old _ _ t (Nat.ne_of_lt htl)]; exact hf0
 go_enter Tryz.func85, Tryz.ntmps85
 go_wp2
 refine wp_loop_rounds 1 ?_
 rw [rounds_succ]
 go_wp2_with (go_at_call 300; refine (akC n t old _ hc1 hf1).mono ?_; rintro e w' ⟨rfl, rfl⟩)
 go_ret
 exact ⟨rfl, by simp⟩
end Go.Ev.ErrAs
end
section
namespace Go.Ev.ErrAs
open Go Go.Proofs Go.RowKit Go.Extern.Stop Go.Stop Go.Extern
theorem code_nil (w : World) : Calls Tryz.prog 38 #[.nilIface] w fun e w' => e = .returned (.int .i64 0) ∧ Below w.heap.size w w' := by
 go_enter Tryz.func38, Tryz.ntmps38
 go_wp2
 go_ret
 exact ⟨rfl, (Below.refl _ _).alloc (Nat.le_refl _) _⟩
set_option maxHeartbeats 1000000 in
set_option maxRecDepth 100000 in
theorem agL (n : Int) (w : World) (hg : jE w) : Calls Tryz.prog 38 #[.iface 134 (.int .i64 n)] w fun e w' => e = .returned (.int .i64 n) ∧ Below w.heap.size w w' := by
 have hgA : jE (w.alloc (.cells #[.pointer none] 117)) := hg.alloc _
 have htA : (w.alloc (.cells #[.pointer none] 117)).cell? ⟨w.heap.size, 0, none⟩ = some (.pointer none) := by simp
 have hfA : (w.alloc (.cells #[.pointer none] 117)).frozen? ⟨w.heap.size, 0, none⟩ = false := by simp
 have HA := Lib.hid hgA
 clear hgA hg
 go_enter Tryz.func38, Tryz.ntmps38
 go_wp2_with (go_at_call 85; refine (ajP n _ (.pointer none) _ HA.out htA hfA).mono ?_; rintro e w' ⟨rfl, rfl⟩)
 go_ret
 refine ⟨rfl, ?_⟩
 refine ((((((Below.refl _ _).alloc (Nat.le_refl _) _).alloc (by simp) _).alloc (by simp; omega) _).alloc (by simp; omega) _).alloc (by simp; omega) _)
set_option maxHeartbeats 1000000 in
set_option maxRecDepth 100000 in
theorem agK (n : Int) (e : Addr) (w : World) (hg : jE w) (he : w.cell? e = some (.int .i64 n)) : Calls Tryz.prog 38 #[.iface 117 (.pointer (some e))] w fun e w' => e = .returned (.int .i64 n) ∧ Below w.heap.size w w' := by
 have hel : e.block < w.heap.size := by
  rcases Nat.lt_or_ge e.block w.heap.size with h | h
  ·exact h
  ·simp [World.cell?, Array.getElem?_eq_none h] at he
 have hgA : jE (w.alloc (.cells #[.pointer none] 117)) := hg.alloc _
 have htA : (w.alloc (.cells #[.pointer none] 117)).cell? ⟨w.heap.size, 0, none⟩ = some (.pointer none) := by simp
 have hfA : (w.alloc (.cells #[.pointer none] 117)).frozen? ⟨w.heap.size, 0, none⟩ = false := by simp
 have hce : (((((w.alloc (.cells #[.pointer (some e)] 117)).alloc (.cells #[.pointer (some ⟨w.heap.size, 0, none⟩)] 121)).alloc (V3 (w.alloc (.cells #[.pointer none] 117)))).alloc (V3 (w.alloc (.cells #[.pointer none] 117)))).alloc (.cells #[.pointer (some e)] 117)).cell? e = some (.int .i64 n) := by
  rw [World.cell?_alloc_lt _ _ e (by simp; omega), World.cell?_alloc_lt _ _ e (by simp; omega), World.cell?_alloc_lt _ _ e (by simp; omega), World.cell?_alloc_lt _ _ e (by simp; omega), World.cell?_alloc_lt _ _ e hel]; exact he
 have HA := Lib.hid hgA
 clear hgA hg
 go_enter Tryz.func38, Tryz.ntmps38
 go_wp2_with (go_at_call 85; refine (as_hit e _ (.pointer none) _ HA.out htA hfA).mono ?_; rintro e w' ⟨rfl, rfl⟩)
 go_ret
 refine ⟨rfl, ?_⟩
 refine ((((((Below.refl _ _).alloc (Nat.le_refl _) _).alloc (by simp) _).alloc (by simp; omega) _).alloc (by simp; omega) _).alloc (by simp; omega) _)
end Go.Ev.ErrAs
end
