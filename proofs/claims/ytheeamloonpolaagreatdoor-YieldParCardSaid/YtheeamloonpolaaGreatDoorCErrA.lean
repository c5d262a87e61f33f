/- A part of the proof of riskZero_card, yieldPar_card, pricePar_card. -/
import Derived.Test.YtheeamloonpolaaGreatDoorChecked
import Derived.WalkKit
import Derived.LaidEql
import Derived.Stop.Asserts
import Derived.RowKitTokens
import Derived.Below
set_option linter.unusedVariables false
set_option linter.unusedSimpArgs false
namespace Go.Ev.ErrAs
open Go Go.Proofs Go.RowKit Go.Extern.Stop Go.Stop Go.Extern
theorem ags (t:Addr) (w:World):(ReflectliteValue.unpack (.iface 90 (.pointer (some t)))).run Tryz.prog w
  = .ok (.agg #[.pointer (some ⟨16,90,none⟩),.pointer (some ⟨w.heap.size,0,none⟩),.int .u64 150]) (w.alloc (.cells #[.pointer (some t)] 90)):=by kernel_rfl
theorem apO (a:Addr) (w:World):(ReflectliteValue.methodAny (ReflectliteValue.valueError "reflectlite.Value.Type" 0) (fun t _ _ _=>ReflectliteType.toType t) #[.agg #[.pointer (some ⟨16,90,none⟩),.pointer (some a),.int .u64 150]]).run Tryz.prog w
  = .ok (.iface 198 (.agg #[.pointer (some ⟨16,90,none⟩)])) w:=by kernel_rfl
theorem methodKind (h:Value) (w:World):(Go.method 461 198 (.agg #[h]) "Kind").run Tryz.prog w = .ok (280,h) w:=by kernel_rfl
theorem aoZ (w:World):((ReflectliteType.abiMethod fun t=>(fun a:Nat=>Value.int IntKind.u8 (a:Int)) <$> Rtype.kind t) #[.pointer (some ⟨16,90,none⟩)]).run Tryz.prog w = .ok (.int .u8 22) w:=by kernel_rfl
theorem ar' (w:World):((ReflectliteType.abiMethod fun t=>(fun a:Nat=>Value.int IntKind.u8 (a:Int)) <$> Rtype.kind t) #[.pointer (some ⟨16,88,none⟩)]).run Tryz.prog w = .ok (.int .u8 22) w:=by kernel_rfl
theorem rlm (z:Sem Value) (f:TypeId→Addr→Nat→Nat→Sem Value) (v:Value) :
  ReflectliteValue.method z f #[v]=(do match ← ReflectliteValue.parts v with | none=>z | some (t,a,fl)=>f t a fl (fl % 32)):=rfl
theorem al8 (a:Addr) (w:World):(ReflectliteValue.parts (.agg #[.pointer (some ⟨16,90,none⟩),.pointer (some a),.int .u64 150])).run Tryz.prog w = .ok (some (90,a,150)) w:=by kernel_rfl
theorem alZ (a p:Addr) (W:World) (ha:W.cell? a=some (.pointer (some p))) :
  (ReflectliteValue.method (ReflectliteValue.valueError "reflectlite.Value.IsNil" 0) ReflectliteValue.isNil #[.agg #[.pointer (some ⟨16,90,none⟩),.pointer (some a),.int .u64 150]]).run Tryz.prog W = .ok (.bool false) W:=by
 rw [rlm]
 simp only [Sem.run_bind,al8,Result.andThen]
 simp [ReflectliteValue.isNil,loadVar,isAgg,underlying,Tryz.underlying90,ha,Result.andThen]
theorem methodElem (h:Value) (w:World):(Go.method 461 198 (.agg #[h]) "Elem").run Tryz.prog w = .ok (294,.agg #[h]) w:=by kernel_rfl
theorem methodImplements (h:Value) (w:World):(Go.method 461 198 (.agg #[h]) "Implements").run Tryz.prog w = .ok (295,.agg #[h]) w:=by kernel_rfl
theorem methodAssignableTo (h:Value) (w:World):(Go.method 461 198 (.agg #[h]) "AssignableTo").run Tryz.prog w = .ok (292,.agg #[h]) w:=by kernel_rfl
theorem aoL (w:World):(ReflectliteType.method ReflectliteType.elem #[.agg #[.pointer (some ⟨16,90,none⟩)]]).run Tryz.prog w = .ok (.iface 198 (.agg #[.pointer (some ⟨16,88,none⟩)])) w:=by kernel_rfl
theorem aa_ (w:World):(ReflectliteType.relation "Implements" ReflectliteType.implements_ #[.agg #[.pointer (some ⟨16,88,none⟩)],.iface 198 (.agg #[.pointer (some ⟨16,38,none⟩)])]).run Tryz.prog w = .ok (.bool true) w:=by kernel_rfl
theorem auf (v:Value) (w:World):(ReflectliteType.typeOf #[.iface 88 v]).run Tryz.prog w = .ok (.iface 198 (.agg #[.pointer (some ⟨16,88,none⟩)])) w:=by kernel_rfl
theorem amr (v:Value) (w:World):(ReflectliteType.typeOf #[.iface 127 v]).run Tryz.prog w = .ok (.iface 198 (.agg #[.pointer (some ⟨16,127,none⟩)])) w:=by kernel_rfl
theorem akM (w:World):(ReflectliteType.relation "AssignableTo" ReflectliteType.assignableTo #[.agg #[.pointer (some ⟨16,88,none⟩)],.iface 198 (.agg #[.pointer (some ⟨16,88,none⟩)])]).run Tryz.prog w = .ok (.bool true) w:=by kernel_rfl
theorem akL (w:World):(ReflectliteType.relation "AssignableTo" ReflectliteType.assignableTo #[.agg #[.pointer (some ⟨16,127,none⟩)],.iface 198 (.agg #[.pointer (some ⟨16,88,none⟩)])]).run Tryz.prog w = .ok (.bool false) w:=by kernel_rfl
theorem ar1 (e:Addr) (w:World):(ReflectliteValue.unpack (.iface 88 (.pointer (some e)))).run Tryz.prog w
  = .ok (.agg #[.pointer (some ⟨16,88,none⟩),.pointer (some ⟨w.heap.size,0,none⟩),.int .u64 150]) (w.alloc (.cells #[.pointer (some e)] 88)):=by kernel_rfl
theorem aqN (w:World):(Rtype.elem? 90).run Tryz.prog w = .ok (some 88) w:=by kernel_rfl
theorem mkP (p:Addr) (w:World):(ReflectliteValue.mk 88 p ReflectliteValue.flagAddr).run Tryz.prog w = .ok (.agg #[.pointer (some ⟨16,88,none⟩),.pointer (some p),.int .u64 406]) w:=by kernel_rfl
theorem elemV (a p:Addr) (W:World) (ha:W.cell? a=some (.pointer (some p))) :
  (ReflectliteValue.method (ReflectliteValue.valueError "reflectlite.Value.Elem" 0) ReflectliteValue.elem #[.agg #[.pointer (some ⟨16,90,none⟩),.pointer (some a),.int .u64 150]]).run Tryz.prog W
   = .ok (.agg #[.pointer (some ⟨16,88,none⟩),.pointer (some p),.int .u64 406]) W:=by
 rw [rlm]
 simp only [Sem.run_bind,al8,Result.andThen]
 simp [ReflectliteValue.elem,loadVar,isAgg,underlying,Tryz.underlying90,ha,Result.andThen,aqN,mkP]
theorem rls (v x:Value):ReflectliteValue.set #[v,x]=(do
  let (some (dst,a,fl),some (src,b,_)):=(← ReflectliteValue.parts v,← ReflectliteValue.parts x)
   | unsupported (.noEntry "extern/(internal/reflectlite.Value).Set.zeroValue")
  if fl / ReflectliteValue.flagAddr % 2==0 then unsupported (.noEntry "extern/(internal/reflectlite.Value).Set.unaddressable")
  let val ← loadVar src b
  if ← Rtype.directlyAssignable dst src then storeVar dst a val
  else if ← Rtype.implements dst src then
   if (← Rtype.kind src)==20 then
    match val with
    | .nilIface=>unsupported (.noEntry "extern/reflectlite: a nil value of one interface type handed on as a value of another")
    | _=>storeVar dst a val
   else storeVar dst a (.iface src val)
  else panicString ("reflectlite.Set: value of type " ++ (← Rtype.spelt src) ++ " is not assignable to type " ++ (← Rtype.spelt dst))
  pure (.tuple #[])):=rfl
theorem atA (a:Addr) (w:World):(ReflectliteValue.parts (.agg #[.pointer (some ⟨16,88,none⟩),.pointer (some a),.int .u64 406])).run Tryz.prog w = .ok (some (88,a,406)) w:=by kernel_rfl
theorem au2 (a:Addr) (w:World):(ReflectliteValue.parts (.agg #[.pointer (some ⟨16,88,none⟩),.pointer (some a),.int .u64 150])).run Tryz.prog w = .ok (some (88,a,150)) w:=by kernel_rfl
theorem atd (w:World):(Rtype.directlyAssignable 88 88).run Tryz.prog w = .ok true w:=by kernel_rfl
theorem axf (ta b e:Addr) (old:Value) (W:World) (hb:W.cell? b=some (.pointer (some e))) (ht:W.cell? ta=some old) (hf:W.frozen? ta=false) :
  (ReflectliteValue.set #[.agg #[.pointer (some ⟨16,88,none⟩),.pointer (some ta),.int .u64 406],.agg #[.pointer (some ⟨16,88,none⟩),.pointer (some b),.int .u64 150]]).run Tryz.prog W
   = .ok (.tuple #[]) (W.setCell ta (.pointer (some e))):=by
 rw [rls]
 simp only [Sem.run_bind,atA,au2,Result.andThen]
 simp [ReflectliteValue.flagAddr,loadVar,isAgg,underlying,Tryz.underlying88,hb,Result.andThen,atd,storeVar,Value.cells,storeCells,Addr.add]
 rw [run_store Tryz.prog W ta _ _ (by rfl)]
 simp [ht,hf]
def lZ (w:World):Prop:=w.cell? ⟨0,0,none⟩=some (.iface 198 (.agg #[.pointer (some ⟨16,38,none⟩)]))
theorem lZ.alloc {w:World} (h:lZ w) (o:Obj):lZ (w.alloc o):=by
 have hlt:0<w.heap.size:=by
  rcases Nat.lt_or_ge 0 w.heap.size with h1 | h1
  ·exact h1
  ·unfold lZ at h
   simp [World.cell?,Array.getElem?_eq_none h1] at h
 unfold lZ
 rw [World.cell?_alloc_lt _ _ ⟨0,0,none⟩ hlt]; exact h
abbrev V3 (w:World):Obj := .cells #[.pointer (some ⟨16,90,none⟩),.pointer (some ⟨w.heap.size,0,none⟩),.int .u64 150] 146
set_option maxHeartbeats 4000000 in
theorem as_hit (e t:Addr) (old:Value) (w:World) (hg:lZ w) (ht0:w.cell? t=some old) (hf0:w.frozen? t=false) :
  Calls Tryz.prog 52 #[.iface 88 (.pointer (some e)),.iface 90 (.pointer (some t))] w fun ev w'=>ev = .returned (.bool true)∧w'=((((w.alloc (.cells #[.pointer (some t)] 90)).alloc (V3 w)).alloc (V3 w)).alloc (.cells #[.pointer (some e)] 88)).setCell t (.pointer (some e)):=by
 have h6 := @run_callFunc_extern Tryz.prog 102 _ (fun args=>ReflectliteValue.unpack (args.getD 0 (.tuple #[]))) Tryz.func102 (by kernel_rfl) (by kernel_rfl) (by kernel_rfl) (by kernel_rfl)
 have h7 := @run_callFunc_extern Tryz.prog 103 _ (ReflectliteValue.methodAny (ReflectliteValue.valueError "reflectlite.Value.Type" 0) (fun t _ _ _=>ReflectliteType.toType t)) Tryz.func103 (by kernel_rfl) (by kernel_rfl) (by kernel_rfl) (by kernel_rfl)
 have h8 := @run_callFunc_extern Tryz.prog 104 _ (ReflectliteValue.method (ReflectliteValue.valueError "reflectlite.Value.IsNil" 0) ReflectliteValue.isNil) Tryz.func104 (by kernel_rfl) (by kernel_rfl) (by kernel_rfl) (by kernel_rfl)
 have h27 := @run_callFunc_extern Tryz.prog 280 _ (ReflectliteType.abiMethod fun t=>do pure (.int .u8 (← Rtype.kind t))) Tryz.func280 (by kernel_rfl) (by kernel_rfl) (by kernel_rfl) (by kernel_rfl)
 have h37 := @run_callFunc_extern Tryz.prog 294 _ (ReflectliteType.method ReflectliteType.elem) Tryz.func294 (by kernel_rfl) (by kernel_rfl) (by kernel_rfl) (by kernel_rfl)
 have h38 := @run_callFunc_extern Tryz.prog 295 _ (ReflectliteType.relation "Implements" ReflectliteType.implements_) Tryz.func295 (by kernel_rfl) (by kernel_rfl) (by kernel_rfl) (by kernel_rfl)
 have h10 := @run_callFunc_extern Tryz.prog 145 _ ReflectliteType.typeOf Tryz.func145 (by kernel_rfl) (by kernel_rfl) (by kernel_rfl) (by kernel_rfl)
 have h35 := @run_callFunc_extern Tryz.prog 292 _ (ReflectliteType.relation "AssignableTo" ReflectliteType.assignableTo) Tryz.func292 (by kernel_rfl) (by kernel_rfl) (by kernel_rfl) (by kernel_rfl)
 have h11 := @run_callFunc_extern Tryz.prog 146 _ (ReflectliteValue.method (ReflectliteValue.valueError "reflectlite.Value.Elem" 0) ReflectliteValue.elem) Tryz.func146 (by kernel_rfl) (by kernel_rfl) (by kernel_rfl) (by kernel_rfl)
 have h12 := @run_callFunc_extern Tryz.prog 147 _ ReflectliteValue.set Tryz.func147 (by kernel_rfl) (by kernel_rfl) (by kernel_rfl) (by kernel_rfl)
 have tO:=auf
 have mA:=methodAssignableTo
 have aP:=akM
 have vP:=ar1
 have f6:=ags
 have f7:=apO
 have mK:=methodKind
 have mE:=methodElem
 have mI:=methodImplements
 have kPP:=aoZ
 have kP:=ar'
 have ePP:=aoL
 have iP:=aa_
 have n8:=alZ ⟨w.heap.size,0,none⟩ t ((w.alloc (.cells #[.pointer (some t)] 90)).alloc (V3 w)) (by simp)
 have hg2:lZ ((w.alloc (.cells #[.pointer (some t)] 90)).alloc (V3 w)):=(hg.alloc _).alloc _
 unfold lZ at hg2
 have htl:t.block<w.heap.size:=by
  rcases Nat.lt_or_ge t.block w.heap.size with h | h
  ·exact h
  ·simp [World.cell?,Array.getElem?_eq_none h] at ht0
 have el:=elemV ⟨w.heap.size,0,none⟩ t (((w.alloc (.cells #[.pointer (some t)] 90)).alloc (V3 w)).alloc (V3 w)) (by rw [World.cell?_alloc_lt _ _ ⟨w.heap.size,0,none⟩ (by simp; omega)]; simp)
 have st:=axf t ⟨w.heap.size+1+1+1,0,none⟩ e old ((((w.alloc (.cells #[.pointer (some t)] 90)).alloc (V3 w)).alloc (V3 w)).alloc (.cells #[.pointer (some e)] 88))
  (by rw [World.cell?_alloc_at _ _ _ _ (by simp)]; rfl)
  (by rw [World.cell?_alloc_lt _ _ t (by simp; omega),World.cell?_alloc_lt _ _ t (by simp; omega),World.cell?_alloc_lt _ _ t (by simp; omega),World.cell?_alloc_lt _ _ t htl]; exact ht0)
  (by rw [World.frozen?_alloc_old _ _ t (by simp; omega),World.frozen?_alloc_old _ _ t (by simp; omega),World.frozen?_alloc_old _ _ t (by simp; omega),World.frozen?_alloc_old _ _ t (Nat.ne_of_lt htl)]; exact hf0)
 go_enter Tryz.func52,Tryz.ntmps52
 go_wp2
 refine wp_loop_rounds 1 ?_
 rw [rounds_succ]
 go_wp2
 go_ret
 exact ⟨rfl,rfl⟩
end Go.Ev.ErrAs
