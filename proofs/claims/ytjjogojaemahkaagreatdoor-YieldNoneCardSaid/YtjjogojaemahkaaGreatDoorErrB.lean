/- A part of the proof of the theorem yieldNone_card. -/
import Derived.Lib.Hide
import Derived.Test.YtjjogojaemahkaaGreatDoorErrA
section
set_option linter.unusedVariables false
set_option linter.unusedSimpArgs false
namespace Go.Ev.ErrAs
open Go Go.Proofs Go.RowKit Go.Extern.Stop Go.Stop Go.Extern
theorem isPP (v : Value) (xT : TypeId) (w : World) : (Instr.typeAssert (.iface 190 v) xT 190 true).run Tryz.prog w = .ok (.tuple #[v, .bool true]) w := by
  simp [Instr.typeAssert, run_underlying (P := Tryz.prog) (t := 190) Tryz.underlying190]
set_option maxRecDepth 100000 in
theorem plain_as (n : Int) (t : Addr) (old : Value) (w : World) (ht0 : w.cell? t = some old) (hf0 : w.frozen? t = false) :
    Calls Tryz.prog 337 #[.int .i64 n, .iface 190 (.pointer (some t))] w fun ev w' => ev = .returned (.bool true) ∧ w' = (w.alloc (.cells #[.int .i64 n, .string ⟨#[]⟩, .nilIface] 165)).setCell t (.pointer (some ⟨w.heap.size, 0, none⟩)) := by
  have htl : t.block < w.heap.size := by
    rcases Nat.lt_or_ge t.block w.heap.size with h | h
    · exact h
    · simp [World.cell?, Array.getElem?_eq_none h] at ht0
  have hc1 : (w.alloc (.cells #[.int .i64 n, .string ⟨#[]⟩, .nilIface] 165)).cell? t = some old := by rw [World.cell?_alloc_lt _ _ t htl]; exact ht0
  have hf1 : (w.alloc (.cells #[.int .i64 n, .string ⟨#[]⟩, .nilIface] 165)).frozen? t = false := by rw [World.frozen?_alloc_old _ _ t (Nat.ne_of_lt htl)]; exact hf0
  have hPP := isPP
  go_enter Tryz.func337, Tryz.ntmps337
  go_wp2
  go_ret
  exact ⟨rfl, rfl⟩
theorem methodAs (v : Int) (w : World) : (Go.method 503 168 (.int .i64 v) "As").run Tryz.prog w = .ok (337, .int .i64 v) w := by kernel_rfl
theorem hasAs (v : Value) (xT : TypeId) (w : World) : (Instr.typeAssert (.iface 168 v) xT 291 true).run Tryz.prog w = .ok (.tuple #[.iface 168 v, .bool true]) w :=
  run_typeAssert_hasB Tryz.underlying291 (by kernel_rfl) v xT w
set_option maxHeartbeats 4000000 in
theorem as_plain (n : Int) (t : Addr) (old : Value) (w : World) (hg : TypeVar w) (ht0 : w.cell? t = some old) (hf0 : w.frozen? t = false) :
    Calls Tryz.prog 145 #[.iface 168 (.int .i64 n), .iface 190 (.pointer (some t))] w fun ev w' => ev = .returned (.bool true) ∧ w' = ((((w.alloc (.cells #[.pointer (some t)] 190)).alloc (V3 w)).alloc (V3 w)).alloc (.cells #[.int .i64 n, .string ⟨#[]⟩, .nilIface] 165)).setCell t (.pointer (some ⟨w.heap.size + 1 + 1 + 1, 0, none⟩)) := by
  have h6 := @run_callFunc_extern Tryz.prog 201 _ (fun args => ReflectliteValue.unpack (args.getD 0 (.tuple #[]))) Tryz.func201 (by kernel_rfl) (by kernel_rfl) (by kernel_rfl) (by kernel_rfl)
  have h7 := @run_callFunc_extern Tryz.prog 202 _ (ReflectliteValue.methodAny (ReflectliteValue.valueError "reflectlite.Value.Type" 0) (fun t _ _ _ => ReflectliteType.toType t)) Tryz.func202 (by kernel_rfl) (by kernel_rfl) (by kernel_rfl) (by kernel_rfl)
  have h8 := @run_callFunc_extern Tryz.prog 203 _ (ReflectliteValue.method (ReflectliteValue.valueError "reflectlite.Value.IsNil" 0) ReflectliteValue.isNil) Tryz.func203 (by kernel_rfl) (by kernel_rfl) (by kernel_rfl) (by kernel_rfl)
  have h27 := @run_callFunc_extern Tryz.prog 329 _ (ReflectliteType.abiMethod fun t => do pure (.int .u8 (← Rtype.kind t))) Tryz.func329 (by kernel_rfl) (by kernel_rfl) (by kernel_rfl) (by kernel_rfl)
  have h37 := @run_callFunc_extern Tryz.prog 344 _ (ReflectliteType.method ReflectliteType.elem) Tryz.func344 (by kernel_rfl) (by kernel_rfl) (by kernel_rfl) (by kernel_rfl)
  have h38 := @run_callFunc_extern Tryz.prog 345 _ (ReflectliteType.relation "Implements" ReflectliteType.implements_) Tryz.func345 (by kernel_rfl) (by kernel_rfl) (by kernel_rfl) (by kernel_rfl)
  have h10 := @run_callFunc_extern Tryz.prog 245 _ ReflectliteType.typeOf Tryz.func245 (by kernel_rfl) (by kernel_rfl) (by kernel_rfl) (by kernel_rfl)
  have h35 := @run_callFunc_extern Tryz.prog 342 _ (ReflectliteType.relation "AssignableTo" ReflectliteType.assignableTo) Tryz.func342 (by kernel_rfl) (by kernel_rfl) (by kernel_rfl) (by kernel_rfl)
  have tO := typeOfI
  have mA := methodAssignableTo
  have aI := assignableI
  have f6 := valueOfPP
  have f7 := typePP
  have mK := methodKind
  have mE := methodElem
  have mI := methodImplements
  have mAs := methodAs
  have hAs := hasAs
  have kPP := kindPP
  have kP := kindP
  have ePP := elemPP
  have iP := implementsP
  have n8 := isNilPP ⟨w.heap.size, 0, none⟩ t ((w.alloc (.cells #[.pointer (some t)] 190)).alloc (V3 w)) (by simp)
  have hg2 : TypeVar ((w.alloc (.cells #[.pointer (some t)] 190)).alloc (V3 w)) := (hg.alloc _).alloc _
  unfold TypeVar at hg2
  have htl : t.block < w.heap.size := by
    rcases Nat.lt_or_ge t.block w.heap.size with h | h
    · exact h
    · simp [World.cell?, Array.getElem?_eq_none h] at ht0
  have hc1 : (((w.alloc (.cells #[.pointer (some t)] 190)).alloc (V3 w)).alloc (V3 w)).cell? t = some old := by
    rw [World.cell?_alloc_lt _ _ t (by simp; omega), World.cell?_alloc_lt _ _ t (by simp; omega), World.cell?_alloc_lt _ _ t htl]; exact ht0
  have hf1 : (((w.alloc (.cells #[.pointer (some t)] 190)).alloc (V3 w)).alloc (V3 w)).frozen? t = false := by
    rw [World.frozen?_alloc_old _ _ t (by simp; omega), World.frozen?_alloc_old _ _ t (by simp; omega), World.frozen?_alloc_old _ _ t (Nat.ne_of_lt htl)]; exact hf0
  go_enter Tryz.func145, Tryz.ntmps145
  go_wp2
  refine wp_loop_rounds 1 ?_
  rw [rounds_succ]
  go_wp2_with (go_at_call 337; refine (plain_as n t old _ hc1 hf1).mono ?_; rintro e w' ⟨rfl, rfl⟩)
  go_ret
  exact ⟨rfl, by simp⟩
end Go.Ev.ErrAs
end
section
set_option linter.unusedVariables false
set_option linter.unusedSimpArgs false
namespace Go.Ev.ErrAs
open Go Go.Proofs Go.RowKit Go.Extern.Stop Go.Stop Go.Extern
theorem code_nil (w : World) : Calls Tryz.prog 80 #[.nilIface] w fun e w' => e = .returned (.int .i64 0) ∧ Below w.heap.size w w' := by
  go_enter Tryz.func80, Tryz.ntmps80
  go_wp2
  go_ret
  exact ⟨rfl, (Below.refl _ _).alloc (Nat.le_refl _) _⟩
set_option maxHeartbeats 1000000 in
set_option maxRecDepth 100000 in
theorem code_plain (n : Int) (w : World) (hg : TypeVar w) : Calls Tryz.prog 80 #[.iface 168 (.int .i64 n)] w fun e w' => e = .returned (.int .i64 n) ∧ Below w.heap.size w w' := by
  have hgA : TypeVar (w.alloc (.cells #[.pointer none] 163)) := hg.alloc _
  have htA : (w.alloc (.cells #[.pointer none] 163)).cell? ⟨w.heap.size, 0, none⟩ = some (.pointer none) := by simp
  have hfA : (w.alloc (.cells #[.pointer none] 163)).frozen? ⟨w.heap.size, 0, none⟩ = false := by simp
  have HA := Lib.hid hgA
  clear hgA hg
  go_enter Tryz.func80, Tryz.ntmps80
  go_wp2_with (go_at_call 145; refine (as_plain n _ (.pointer none) _ HA.out htA hfA).mono ?_; rintro e w' ⟨rfl, rfl⟩)
  go_ret
  refine ⟨rfl, ?_⟩
  refine ((((((Below.refl _ _).alloc (Nat.le_refl _) _).alloc (by simp) _).alloc (by simp; omega) _).alloc (by simp; omega) _).alloc (by simp; omega) _)
set_option maxHeartbeats 1000000 in
set_option maxRecDepth 100000 in
theorem code_fault (n : Int) (e : Addr) (w : World) (hg : TypeVar w) (he : w.cell? e = some (.int .i64 n)) : Calls Tryz.prog 80 #[.iface 163 (.pointer (some e))] w fun e w' => e = .returned (.int .i64 n) ∧ Below w.heap.size w w' := by
  have hel : e.block < w.heap.size := by
    rcases Nat.lt_or_ge e.block w.heap.size with h | h
    · exact h
    · simp [World.cell?, Array.getElem?_eq_none h] at he
  have hgA : TypeVar (w.alloc (.cells #[.pointer none] 163)) := hg.alloc _
  have htA : (w.alloc (.cells #[.pointer none] 163)).cell? ⟨w.heap.size, 0, none⟩ = some (.pointer none) := by simp
  have hfA : (w.alloc (.cells #[.pointer none] 163)).frozen? ⟨w.heap.size, 0, none⟩ = false := by simp
  have hce : (((((w.alloc (.cells #[.pointer (some e)] 163)).alloc (.cells #[.pointer (some ⟨w.heap.size, 0, none⟩)] 190)).alloc (V3 (w.alloc (.cells #[.pointer none] 163)))).alloc (V3 (w.alloc (.cells #[.pointer none] 163)))).alloc (.cells #[.pointer (some e)] 163)).cell? e = some (.int .i64 n) := by
    rw [World.cell?_alloc_lt _ _ e (by simp; omega), World.cell?_alloc_lt _ _ e (by simp; omega), World.cell?_alloc_lt _ _ e (by simp; omega), World.cell?_alloc_lt _ _ e (by simp; omega), World.cell?_alloc_lt _ _ e hel]; exact he
  have HA := Lib.hid hgA
  clear hgA hg
  go_enter Tryz.func80, Tryz.ntmps80
  go_wp2_with (go_at_call 145; refine (as_hit e _ (.pointer none) _ HA.out htA hfA).mono ?_; rintro e w' ⟨rfl, rfl⟩)
  go_ret
  refine ⟨rfl, ?_⟩
  refine ((((((Below.refl _ _).alloc (Nat.le_refl _) _).alloc (by simp) _).alloc (by simp; omega) _).alloc (by simp; omega) _).alloc (by simp; omega) _)
end Go.Ev.ErrAs
end
