/- A part of the proof of flowSum_card, flowParts_card, flowEx_card, accrWhole_card, priceZero_card. -/
import Derived.Test.YtnokhmkkpcfilaaGreatDoorChecked
import Derived.WalkKit
import Derived.LaidEql
import Derived.Stop.Asserts
import Derived.RowKitTokens
import Derived.Below
set_option linter.unusedVariables false
set_option linter.unusedSimpArgs false
namespace Go.Ev.ErrAs
open Go Go.Proofs Go.RowKit Go.Extern.Stop Go.Stop Go.Extern
theorem ad3 (t : Addr) (w : World) : (ReflectliteValue.unpack (.iface 148 (.pointer (some t)))).run Tryz.prog w
  = .ok (.agg #[.pointer (some ⟨16, 148, none⟩), .pointer (some ⟨w.heap.size, 0, none⟩), .int .u64 150]) (w.alloc (.cells #[.pointer (some t)] 148)) := by kernel_rfl
theorem am1 (a : Addr) (w : World) : (ReflectliteValue.methodAny (ReflectliteValue.valueError "reflectlite.Value.Type" 0) (fun t _ _ _ => ReflectliteType.toType t) #[.agg #[.pointer (some ⟨16, 148, none⟩), .pointer (some a), .int .u64 150]]).run Tryz.prog w
  = .ok (.iface 242 (.agg #[.pointer (some ⟨16, 148, none⟩)])) w := by kernel_rfl
theorem methodKind (h : Value) (w : World) : (Go.method 452 242 (.agg #[h]) "Kind").run Tryz.prog w = .ok (272, h) w := by kernel_rfl
theorem amj (w : World) : ((ReflectliteType.abiMethod fun t => (fun a : Nat => Value.int IntKind.u8 (a : Int)) <$> Rtype.kind t) #[.pointer (some ⟨16, 148, none⟩)]).run Tryz.prog w = .ok (.int .u8 22) w := by kernel_rfl
theorem ao9 (w : World) : ((ReflectliteType.abiMethod fun t => (fun a : Nat => Value.int IntKind.u8 (a : Int)) <$> Rtype.kind t) #[.pointer (some ⟨16, 143, none⟩)]).run Tryz.prog w = .ok (.int .u8 22) w := by kernel_rfl
theorem rlm (z : Sem Value) (f : TypeId → Addr → Nat → Nat → Sem Value) (v : Value) :
  ReflectliteValue.method z f #[v] = (do match ← ReflectliteValue.parts v with | none => z | some (t, a, fl) => f t a fl (fl % 32)) := rfl
theorem ajt (a : Addr) (w : World) : (ReflectliteValue.parts (.agg #[.pointer (some ⟨16, 148, none⟩), .pointer (some a), .int .u64 150])).run Tryz.prog w = .ok (some (148, a, 150)) w := by kernel_rfl
theorem ajm (a p : Addr) (W : World) (ha : W.cell? a = some (.pointer (some p))) :
  (ReflectliteValue.method (ReflectliteValue.valueError "reflectlite.Value.IsNil" 0) ReflectliteValue.isNil #[.agg #[.pointer (some ⟨16, 148, none⟩), .pointer (some a), .int .u64 150]]).run Tryz.prog W = .ok (.bool false) W := by
 rw [rlm]
 simp only [Sem.run_bind, ajt, Result.andThen]
 simp [ReflectliteValue.isNil, loadVar, isAgg, underlying, Tryz.underlying148, ha, Result.andThen]
theorem methodElem (h : Value) (w : World) : (Go.method 452 242 (.agg #[h]) "Elem").run Tryz.prog w = .ok (299, .agg #[h]) w := by kernel_rfl
theorem methodImplements (h : Value) (w : World) : (Go.method 452 242 (.agg #[h]) "Implements").run Tryz.prog w = .ok (300, .agg #[h]) w := by kernel_rfl
theorem methodAssignableTo (h : Value) (w : World) : (Go.method 452 242 (.agg #[h]) "AssignableTo").run Tryz.prog w = .ok (297, .agg #[h]) w := by kernel_rfl
theorem al4 (w : World) : (ReflectliteType.method ReflectliteType.elem #[.agg #[.pointer (some ⟨16, 148, none⟩)]]).run Tryz.prog w = .ok (.iface 242 (.agg #[.pointer (some ⟨16, 143, none⟩)])) w := by kernel_rfl
theorem YF (w : World) : (ReflectliteType.relation "Implements" ReflectliteType.implements_ #[.agg #[.pointer (some ⟨16, 143, none⟩)], .iface 242 (.agg #[.pointer (some ⟨16, 28, none⟩)])]).run Tryz.prog w = .ok (.bool true) w := by kernel_rfl
theorem aqP (v : Value) (w : World) : (ReflectliteType.typeOf #[.iface 143 v]).run Tryz.prog w = .ok (.iface 242 (.agg #[.pointer (some ⟨16, 143, none⟩)])) w := by kernel_rfl
theorem ajK (v : Value) (w : World) : (ReflectliteType.typeOf #[.iface 134 v]).run Tryz.prog w = .ok (.iface 242 (.agg #[.pointer (some ⟨16, 134, none⟩)])) w := by kernel_rfl
theorem aie (w : World) : (ReflectliteType.relation "AssignableTo" ReflectliteType.assignableTo #[.agg #[.pointer (some ⟨16, 143, none⟩)], .iface 242 (.agg #[.pointer (some ⟨16, 143, none⟩)])]).run Tryz.prog w = .ok (.bool true) w := by kernel_rfl
theorem aic (w : World) : (ReflectliteType.relation "AssignableTo" ReflectliteType.assignableTo #[.agg #[.pointer (some ⟨16, 134, none⟩)], .iface 242 (.agg #[.pointer (some ⟨16, 143, none⟩)])]).run Tryz.prog w = .ok (.bool false) w := by kernel_rfl
theorem ao0 (e : Addr) (w : World) : (ReflectliteValue.unpack (.iface 143 (.pointer (some e)))).run Tryz.prog w
  = .ok (.agg #[.pointer (some ⟨16, 143, none⟩), .pointer (some ⟨w.heap.size, 0, none⟩), .int .u64 150]) (w.alloc (.cells #[.pointer (some e)] 143)) := by kernel_rfl
theorem anY (w : World) : (Rtype.elem? 148).run Tryz.prog w = .ok (some 143) w := by kernel_rfl
theorem mkP (p : Addr) (w : World) : (ReflectliteValue.mk 143 p ReflectliteValue.flagAddr).run Tryz.prog w = .ok (.agg #[.pointer (some ⟨16, 143, none⟩), .pointer (some p), .int .u64 406]) w := by kernel_rfl
theorem elemV (a p : Addr) (W : World) (ha : W.cell? a = some (.pointer (some p))) :
  (ReflectliteValue.method (ReflectliteValue.valueError "reflectlite.Value.Elem" 0) ReflectliteValue.elem #[.agg #[.pointer (some ⟨16, 148, none⟩), .pointer (some a), .int .u64 150]]).run Tryz.prog W
   = .ok (.agg #[.pointer (some ⟨16, 143, none⟩), .pointer (some p), .int .u64 406]) W := by
 rw [rlm]
 simp only [Sem.run_bind, ajt, Result.andThen]
 simp [ReflectliteValue.elem, loadVar, isAgg, underlying, Tryz.underlying148, ha, Result.andThen, anY, mkP]
theorem rls (v x : Value) : ReflectliteValue.set #[v, x] = (do
  let (some (dst, a, fl), some (src, b, _)) := (← ReflectliteValue.parts v, ← ReflectliteValue.parts x)
   | unsupported (.noEntry "extern/(internal/reflectlite.Value).Set.zeroValue")
  if fl / ReflectliteValue.flagAddr % 2 == 0 then unsupported (.noEntry "extern/(internal/reflectlite.Value).Set.unaddressable")
  let val ← loadVar src b
  if ← Rtype.directlyAssignable dst src then storeVar dst a val
  else if ← Rtype.implements dst src then
   if (← Rtype.kind src) == 20 then
    match val with
    | .nilIface => unsupported (.noEntry "extern/reflectlite: a nil value of one interface type handed on as a value of another")
    | _ => storeVar dst a val
   else storeVar dst a (.iface src val)
  else panicString ("reflectlite.Set: value of type " ++ (← Rtype.spelt src) ++ " is not assignable to type " ++ (← Rtype.spelt dst))
  pure (.tuple #[])) := rfl
theorem aqi (a : Addr) (w : World) : (ReflectliteValue.parts (.agg #[.pointer (some ⟨16, 143, none⟩), .pointer (some a), .int .u64 406])).run Tryz.prog w = .ok (some (143, a, 406)) w := by kernel_rfl
theorem arI (a : Addr) (w : World) : (ReflectliteValue.parts (.agg #[.pointer (some ⟨16, 143, none⟩), .pointer (some a), .int .u64 150])).run Tryz.prog w = .ok (some (143, a, 150)) w := by kernel_rfl
theorem ap1 (w : World) : (Rtype.directlyAssignable 143 143).run Tryz.prog w = .ok true w := by kernel_rfl
theorem aub (ta b e : Addr) (old : Value) (W : World) (hb : W.cell? b = some (.pointer (some e))) (ht : W.cell? ta = some old) (hf : W.frozen? ta = false) :
  (ReflectliteValue.set #[.agg #[.pointer (some ⟨16, 143, none⟩), .pointer (some ta), .int .u64 406], .agg #[.pointer (some ⟨16, 143, none⟩), .pointer (some b), .int .u64 150]]).run Tryz.prog W
   = .ok (.tuple #[]) (W.setCell ta (.pointer (some e))) := by
 rw [rls]
 simp only [Sem.run_bind, aqi, arI, Result.andThen]
 simp [ReflectliteValue.flagAddr, loadVar, isAgg, underlying, Tryz.underlying143, hb, Result.andThen, ap1, storeVar, Value.cells, storeCells, Addr.add]
 rw [run_store Tryz.prog W ta _ _ (by rfl)]
 simp [ht, hf]
def kR (w : World) : Prop := w.cell? ⟨0, 0, none⟩ = some (.iface 242 (.agg #[.pointer (some ⟨16, 28, none⟩)]))
theorem kR.alloc {w : World} (h : kR w) (o : Obj) : kR (w.alloc o) := by
 have hlt : 0 < w.heap.size := by
  rcases Nat.lt_or_ge 0 w.heap.size with h1 | h1
  ·exact h1
  ·unfold kR at h
   simp [World.cell?, Array.getElem?_eq_none h1] at h
 unfold kR
 rw [World.cell?_alloc_lt _ _ ⟨0, 0, none⟩ hlt]; exact h
abbrev V3 (w : World) : Obj := .cells #[.pointer (some ⟨16, 148, none⟩), .pointer (some ⟨w.heap.size, 0, none⟩), .int .u64 150] 194
set_option maxHeartbeats 4000000 in
theorem as_hit (e t : Addr) (old : Value) (w : World) (hg : kR w) (ht0 : w.cell? t = some old) (hf0 : w.frozen? t = false) :
  Calls Tryz.prog 108 #[.iface 143 (.pointer (some e)), .iface 148 (.pointer (some t))] w fun ev w' => ev = .returned (.bool true) ∧ w' = ((((w.alloc (.cells #[.pointer (some t)] 148)).alloc (V3 w)).alloc (V3 w)).alloc (.cells #[.pointer (some e)] 143)).setCell t (.pointer (some e)) := by
 have h6 := @run_callFunc_extern Tryz.prog 150 _ (fun args => ReflectliteValue.unpack (args.getD 0 (.tuple #[]))) Tryz.func150 (by kernel_rfl) (by kernel_rfl) (by kernel_rfl) (by kernel_rfl)
 have h7 := @run_callFunc_extern Tryz.prog 151 _ (ReflectliteValue.methodAny (ReflectliteValue.valueError "reflectlite.Value.Type" 0) (fun t _ _ _ => ReflectliteType.toType t)) Tryz.func151 (by kernel_rfl) (by kernel_rfl) (by kernel_rfl) (by kernel_rfl)
 have h8 := @run_callFunc_extern Tryz.prog 152 _ (ReflectliteValue.method (ReflectliteValue.valueError "reflectlite.Value.IsNil" 0) ReflectliteValue.isNil) Tryz.func152 (by kernel_rfl) (by kernel_rfl) (by kernel_rfl) (by kernel_rfl)
 have h27 := @run_callFunc_extern Tryz.prog 272 _ (ReflectliteType.abiMethod fun t => do pure (.int .u8 (← Rtype.kind t))) Tryz.func272 (by kernel_rfl) (by kernel_rfl) (by kernel_rfl) (by kernel_rfl)
 have h37 := @run_callFunc_extern Tryz.prog 299 _ (ReflectliteType.method ReflectliteType.elem) Tryz.func299 (by kernel_rfl) (by kernel_rfl) (by kernel_rfl) (by kernel_rfl)
 have h38 := @run_callFunc_extern Tryz.prog 300 _ (ReflectliteType.relation "Implements" ReflectliteType.implements_) Tryz.func300 (by kernel_rfl) (by kernel_rfl) (by kernel_rfl) (by kernel_rfl)
 have h10 := @run_callFunc_extern Tryz.prog 198 _ ReflectliteType.typeOf Tryz.func198 (by kernel_rfl) (by kernel_rfl) (by kernel_rfl) (by kernel_rfl)
 have h35 := @run_callFunc_extern Tryz.prog 297 _ (ReflectliteType.relation "AssignableTo" ReflectliteType.assignableTo) Tryz.func297 (by kernel_rfl) (by kernel_rfl) (by kernel_rfl) (by kernel_rfl)
 have h11 := @run_callFunc_extern Tryz.prog 199 _ (ReflectliteValue.method (ReflectliteValue.valueError "reflectlite.Value.Elem" 0) ReflectliteValue.elem) Tryz.func199 (by kernel_rfl) (by kernel_rfl) (by kernel_rfl) (by kernel_rfl)
 have h12 := @run_callFunc_extern Tryz.prog 200 _ ReflectliteValue.set Tryz.func200 (by kernel_rfl) (by kernel_rfl) (by kernel_rfl) (by kernel_rfl)
 have tO := aqP
 have mA := methodAssignableTo
 have aP := aie
 have vP := ao0
 have f6 := ad3
 have f7 := am1
 have mK := methodKind
 have mE := methodElem
 have mI := methodImplements
 have kPP := amj
 have kP := ao9
 have ePP := al4
 have iP := YF
 have n8 := ajm ⟨w.heap.size, 0, none⟩ t ((w.alloc (.cells #[.pointer (some t)] 148)).alloc (V3 w)) (by simp)
 have hg2 : kR ((w.alloc (.cells #[.pointer (some t)] 148)).alloc (V3 w)) := (hg.alloc _).alloc _
 unfold kR at hg2
 have htl : t.block < w.heap.size := by
  rcases Nat.lt_or_ge t.block w.heap.size with h | h
  ·exact h
  ·simp [World.cell?, Array.getElem?_eq_none h] at ht0
 have el := elemV ⟨w.heap.size, 0, none⟩ t (((w.alloc (.cells #[.pointer (some t)] 148)).alloc (V3 w)).alloc (V3 w)) (by rw [World.cell?_alloc_lt _ _ ⟨w.heap.size, 0, none⟩ (by simp; omega)]; simp)
 have st := aub t ⟨w.heap.size + 1 + 1 + 1, 0, none⟩ e old ((((w.alloc (.cells #[.pointer (some t)] 148)).alloc (V3 w)).alloc (V3 w)).alloc (.cells #[.pointer (some e)] 143))
  (by rw [World.cell?_alloc_at _ _ _ _ (by simp)]; rfl)
  (by rw [World.cell?_alloc_lt _ _ t (by simp; omega), World.cell?_alloc_lt _ _ t (by simp; omega), World.cell?_alloc_lt _ _ t (by simp; omega), World.cell?_alloc_lt _ _ t htl]; exact ht0)
  (by rw [World.frozen?_alloc_old _ _ t (by simp; omega), World.frozen?_alloc_old _ _ t (by simp; omega), World.frozen?_alloc_old _ _ t (by simp; omega), World.frozen?_alloc_old _ _ t (Nat.ne_of_lt htl)]; exact hf0)
 go_enter Tryz.func108, Tryz.ntmps108
 go_wp2
 refine wp_loop_rounds 1 ?_
 rw [rounds_succ]
 go_wp2
 go_ret
 exact ⟨rfl, rfl⟩
end Go.Ev.ErrAs
