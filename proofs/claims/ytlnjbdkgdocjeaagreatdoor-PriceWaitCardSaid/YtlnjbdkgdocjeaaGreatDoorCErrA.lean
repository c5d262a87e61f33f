/- A part of the proof of priceWait_card. -/
import Derived.Test.YtlnjbdkgdocjeaaGreatDoorChecked
import Derived.WalkKit
import Derived.Stop.Asserts
import Derived.RowKitTokens
set_option linter.unusedVariables false
set_option linter.unusedSimpArgs false
namespace Go.Ev.ErrAs
open Go Go.Proofs Go.RowKit Go.Extern.Stop Go.Stop Go.Extern
theorem agE (t:Addr) (w:World):(ReflectliteValue.unpack (.iface 130 (.pointer (some t)))).run Tryz.prog w
  = .ok (.agg #[.pointer (some ⟨16,130,none⟩),.pointer (some ⟨w.heap.size,0,none⟩),.int .u64 150]) (w.alloc (.cells #[.pointer (some t)] 130)):=by kernel_rfl
theorem apb (a:Addr) (w:World):(ReflectliteValue.methodAny (ReflectliteValue.valueError "reflectlite.Value.Type" 0) (fun t _ _ _=>ReflectliteType.toType t) #[.agg #[.pointer (some ⟨16,130,none⟩),.pointer (some a),.int .u64 150]]).run Tryz.prog w
  = .ok (.iface 247 (.agg #[.pointer (some ⟨16,130,none⟩)])) w:=by kernel_rfl
theorem methodKind (h:Value) (w:World):(Go.method 492 247 (.agg #[h]) "Kind").run Tryz.prog w = .ok (305,h) w:=by kernel_rfl
theorem aoo (w:World):((ReflectliteType.abiMethod fun t=>(fun a:Nat=>Value.int IntKind.u8 (a:Int)) <$> Rtype.kind t) #[.pointer (some ⟨16,130,none⟩)]).run Tryz.prog w = .ok (.int .u8 22) w:=by kernel_rfl
theorem arD (w:World):((ReflectliteType.abiMethod fun t=>(fun a:Nat=>Value.int IntKind.u8 (a:Int)) <$> Rtype.kind t) #[.pointer (some ⟨16,128,none⟩)]).run Tryz.prog w = .ok (.int .u8 22) w:=by kernel_rfl
theorem rlm (z:Sem Value) (f:TypeId→Addr→Nat→Nat→Sem Value) (v:Value) :
  ReflectliteValue.method z f #[v]=(do match ← ReflectliteValue.parts v with | none=>z | some (t,a,fl)=>f t a fl (fl % 32)):=rfl
theorem alI (a:Addr) (w:World):(ReflectliteValue.parts (.agg #[.pointer (some ⟨16,130,none⟩),.pointer (some a),.int .u64 150])).run Tryz.prog w = .ok (some (130,a,150)) w:=by kernel_rfl
theorem alB (a p:Addr) (W:World) (ha:W.cell? a=some (.pointer (some p))) :
  (ReflectliteValue.method (ReflectliteValue.valueError "reflectlite.Value.IsNil" 0) ReflectliteValue.isNil #[.agg #[.pointer (some ⟨16,130,none⟩),.pointer (some a),.int .u64 150]]).run Tryz.prog W = .ok (.bool false) W:=by
 rw [rlm]
 simp only [Sem.run_bind,alI,Result.andThen]
 simp [ReflectliteValue.isNil,loadVar,isAgg,underlying,Tryz.underlying130,ha,Result.andThen]
theorem methodElem (h:Value) (w:World):(Go.method 492 247 (.agg #[h]) "Elem").run Tryz.prog w = .ok (322,.agg #[h]) w:=by kernel_rfl
theorem methodImplements (h:Value) (w:World):(Go.method 492 247 (.agg #[h]) "Implements").run Tryz.prog w = .ok (323,.agg #[h]) w:=by kernel_rfl
theorem methodAssignableTo (h:Value) (w:World):(Go.method 492 247 (.agg #[h]) "AssignableTo").run Tryz.prog w = .ok (320,.agg #[h]) w:=by kernel_rfl
theorem an_ (w:World):(ReflectliteType.method ReflectliteType.elem #[.agg #[.pointer (some ⟨16,130,none⟩)]]).run Tryz.prog w = .ok (.iface 247 (.agg #[.pointer (some ⟨16,128,none⟩)])) w:=by kernel_rfl
theorem aaY (w:World):(ReflectliteType.relation "Implements" ReflectliteType.implements_ #[.agg #[.pointer (some ⟨16,128,none⟩)],.iface 247 (.agg #[.pointer (some ⟨16,36,none⟩)])]).run Tryz.prog w = .ok (.bool true) w:=by kernel_rfl
theorem atX (v:Value) (w:World):(ReflectliteType.typeOf #[.iface 128 v]).run Tryz.prog w = .ok (.iface 247 (.agg #[.pointer (some ⟨16,128,none⟩)])) w:=by kernel_rfl
theorem al0 (v:Value) (w:World):(ReflectliteType.typeOf #[.iface 141 v]).run Tryz.prog w = .ok (.iface 247 (.agg #[.pointer (some ⟨16,141,none⟩)])) w:=by kernel_rfl
theorem akp (w:World):(ReflectliteType.relation "AssignableTo" ReflectliteType.assignableTo #[.agg #[.pointer (some ⟨16,128,none⟩)],.iface 247 (.agg #[.pointer (some ⟨16,128,none⟩)])]).run Tryz.prog w = .ok (.bool true) w:=by kernel_rfl
theorem ako (w:World):(ReflectliteType.relation "AssignableTo" ReflectliteType.assignableTo #[.agg #[.pointer (some ⟨16,141,none⟩)],.iface 247 (.agg #[.pointer (some ⟨16,128,none⟩)])]).run Tryz.prog w = .ok (.bool false) w:=by kernel_rfl
theorem arw (e:Addr) (w:World):(ReflectliteValue.unpack (.iface 128 (.pointer (some e)))).run Tryz.prog w
  = .ok (.agg #[.pointer (some ⟨16,128,none⟩),.pointer (some ⟨w.heap.size,0,none⟩),.int .u64 150]) (w.alloc (.cells #[.pointer (some e)] 128)):=by kernel_rfl
theorem ap6 (w:World):(Rtype.elem? 130).run Tryz.prog w = .ok (some 128) w:=by kernel_rfl
theorem mkP (p:Addr) (w:World):(ReflectliteValue.mk 128 p ReflectliteValue.flagAddr).run Tryz.prog w = .ok (.agg #[.pointer (some ⟨16,128,none⟩),.pointer (some p),.int .u64 406]) w:=by kernel_rfl
theorem elemV (a p:Addr) (W:World) (ha:W.cell? a=some (.pointer (some p))) :
  (ReflectliteValue.method (ReflectliteValue.valueError "reflectlite.Value.Elem" 0) ReflectliteValue.elem #[.agg #[.pointer (some ⟨16,130,none⟩),.pointer (some a),.int .u64 150]]).run Tryz.prog W
   = .ok (.agg #[.pointer (some ⟨16,128,none⟩),.pointer (some p),.int .u64 406]) W:=by
 rw [rlm]
 simp only [Sem.run_bind,alI,Result.andThen]
 simp [ReflectliteValue.elem,loadVar,isAgg,underlying,Tryz.underlying130,ha,Result.andThen,ap6,mkP]
theorem rls (v x:Value):ReflectliteValue.set #[v,x]=(do
  let (some (dst,a,fl),some (src,b,_)):=(← ReflectliteValue.parts v,← ReflectliteValue.parts x)
   | unsupported (.noEntry "extern/(internal/reflectlite.Value).Set.zeroValue")
  if fl / ReflectliteValue.flagAddr % 2==0 then unsupported (.noEntry "extern/(internal/reflectlite.Value).Set.unaddressable")
  let val ← loadVar src b
  if ← Rtype.directlyAssignable dst src then storeVar dst a val
  else if ← Rtype.implements dst src then
   if (← Rtype.kind src)==20 then
    match val with
    | .nilIface=>unsupported (.noEntry "extern/reflectlite: a nil value of one interface type handed on as a value of another")
    | _=>storeVar dst a val
   else storeVar dst a (.iface src val)
  else panicString ("reflectlite.Set: value of type " ++ (← Rtype.spelt src) ++ " is not assignable to type " ++ (← Rtype.spelt dst))
  pure (.tuple #[])):=rfl
theorem atq (a:Addr) (w:World):(ReflectliteValue.parts (.agg #[.pointer (some ⟨16,128,none⟩),.pointer (some a),.int .u64 406])).run Tryz.prog w = .ok (some (128,a,406)) w:=by kernel_rfl
theorem au6 (a:Addr) (w:World):(ReflectliteValue.parts (.agg #[.pointer (some ⟨16,128,none⟩),.pointer (some a),.int .u64 150])).run Tryz.prog w = .ok (some (128,a,150)) w:=by kernel_rfl
theorem asC (w:World):(Rtype.directlyAssignable 128 128).run Tryz.prog w = .ok true w:=by kernel_rfl
theorem axm (ta b e:Addr) (old:Value) (W:World) (hb:W.cell? b=some (.pointer (some e))) (ht:W.cell? ta=some old) (hf:W.frozen? ta=false) :
  (ReflectliteValue.set #[.agg #[.pointer (some ⟨16,128,none⟩),.pointer (some ta),.int .u64 406],.agg #[.pointer (some ⟨16,128,none⟩),.pointer (some b),.int .u64 150]]).run Tryz.prog W
   = .ok (.tuple #[]) (W.setCell ta (.pointer (some e))):=by
 rw [rls]
 simp only [Sem.run_bind,atq,au6,Result.andThen]
 simp [ReflectliteValue.flagAddr,loadVar,isAgg,underlying,Tryz.underlying128,hb,Result.andThen,asC,storeVar,Value.cells,storeCells,Addr.add]
 rw [run_store Tryz.prog W ta _ _ (by rfl)]
 simp [ht,hf]
def jv (w:World):Prop:=w.cell? ⟨0,0,none⟩=some (.iface 247 (.agg #[.pointer (some ⟨16,36,none⟩)]))
theorem jv.alloc {w:World} (h:jv w) (o:Obj):jv (w.alloc o):=by
 have hlt:0<w.heap.size:=by
  rcases Nat.lt_or_ge 0 w.heap.size with h1 | h1
  ·exact h1
  ·unfold jv at h
   simp [World.cell?,Array.getElem?_eq_none h1] at h
 unfold jv
 rw [World.cell?_alloc_lt _ _ ⟨0,0,none⟩ hlt]; exact h
abbrev V3 (w:World):Obj := .cells #[.pointer (some ⟨16,130,none⟩),.pointer (some ⟨w.heap.size,0,none⟩),.int .u64 150] 188
set_option maxHeartbeats 4000000 in
theorem as_hit (e t:Addr) (old:Value) (w:World) (hg:jv w) (ht0:w.cell? t=some old) (hf0:w.frozen? t=false) :
  Calls Tryz.prog 88 #[.iface 128 (.pointer (some e)),.iface 130 (.pointer (some t))] w fun ev w'=>ev = .returned (.bool true)∧w'=((((w.alloc (.cells #[.pointer (some t)] 130)).alloc (V3 w)).alloc (V3 w)).alloc (.cells #[.pointer (some e)] 128)).setCell t (.pointer (some e)):=by
 have h6 := @run_callFunc_extern Tryz.prog 138 _ (fun args=>ReflectliteValue.unpack (args.getD 0 (.tuple #[]))) Tryz.func138 (by kernel_rfl) (by kernel_rfl) (by kernel_rfl) (by kernel_rfl)
 have h7 := @run_callFunc_extern Tryz.prog 139 _ (ReflectliteValue.methodAny (ReflectliteValue.valueError "reflectlite.Value.Type" 0) (fun t _ _ _=>ReflectliteType.toType t)) Tryz.func139 (by kernel_rfl) (by kernel_rfl) (by kernel_rfl) (by kernel_rfl)
 have h8 := @run_callFunc_extern Tryz.prog 140 _ (ReflectliteValue.method (ReflectliteValue.valueError "reflectlite.Value.IsNil" 0) ReflectliteValue.isNil) Tryz.func140 (by kernel_rfl) (by kernel_rfl) (by kernel_rfl) (by kernel_rfl)
 have h27 := @run_callFunc_extern Tryz.prog 305 _ (ReflectliteType.abiMethod fun t=>do pure (.int .u8 (← Rtype.kind t))) Tryz.func305 (by kernel_rfl) (by kernel_rfl) (by kernel_rfl) (by kernel_rfl)
 have h37 := @run_callFunc_extern Tryz.prog 322 _ (ReflectliteType.method ReflectliteType.elem) Tryz.func322 (by kernel_rfl) (by kernel_rfl) (by kernel_rfl) (by kernel_rfl)
 have h38 := @run_callFunc_extern Tryz.prog 323 _ (ReflectliteType.relation "Implements" ReflectliteType.implements_) Tryz.func323 (by kernel_rfl) (by kernel_rfl) (by kernel_rfl) (by kernel_rfl)
 have h10 := @run_callFunc_extern Tryz.prog 190 _ ReflectliteType.typeOf Tryz.func190 (by kernel_rfl) (by kernel_rfl) (by kernel_rfl) (by kernel_rfl)
 have h35 := @run_callFunc_extern Tryz.prog 320 _ (ReflectliteType.relation "AssignableTo" ReflectliteType.assignableTo) Tryz.func320 (by kernel_rfl) (by kernel_rfl) (by kernel_rfl) (by kernel_rfl)
 have h11 := @run_callFunc_extern Tryz.prog 191 _ (ReflectliteValue.method (ReflectliteValue.valueError "reflectlite.Value.Elem" 0) ReflectliteValue.elem) Tryz.func191 (by kernel_rfl) (by kernel_rfl) (by kernel_rfl) (by kernel_rfl)
 have h12 := @run_callFunc_extern Tryz.prog 192 _ ReflectliteValue.set Tryz.func192 (by kernel_rfl) (by kernel_rfl) (by kernel_rfl) (by kernel_rfl)
 have tO:=atX
 have mA:=methodAssignableTo
 have aP:=akp
 have vP:=arw
 have f6:=agE
 have f7:=apb
 have mK:=methodKind
 have mE:=methodElem
 have mI:=methodImplements
 have kPP:=aoo
 have kP:=arD
 have ePP:=an_
 have iP:=aaY
 have n8:=alB ⟨w.heap.size,0,none⟩ t ((w.alloc (.cells #[.pointer (some t)] 130)).alloc (V3 w)) (by simp)
 have hg2:jv ((w.alloc (.cells #[.pointer (some t)] 130)).alloc (V3 w)):=(hg.alloc _).alloc _
 unfold jv at hg2
 have htl:t.block<w.heap.size:=by
  rcases Nat.lt_or_ge t.block w.heap.size with h | h
  ·exact h
  ·simp [World.cell?,Array.getElem?_eq_none h] at ht0
 have el:=elemV ⟨w.heap.size,0,none⟩ t (((w.alloc (.cells #[.pointer (some t)] 130)).alloc (V3 w)).alloc (V3 w)) (by rw [World.cell?_alloc_lt _ _ ⟨w.heap.size,0,none⟩ (by simp; omega)]; simp)
 have st:=axm t ⟨w.heap.size+1+1+1,0,none⟩ e old ((((w.alloc (.cells #[.pointer (some t)] 130)).alloc (V3 w)).alloc (V3 w)).alloc (.cells #[.pointer (some e)] 128))
  (by rw [World.cell?_alloc_at _ _ _ _ (by simp)]; rfl)
  (by rw [World.cell?_alloc_lt _ _ t (by simp; omega),World.cell?_alloc_lt _ _ t (by simp; omega),World.cell?_alloc_lt _ _ t (by simp; omega),World.cell?_alloc_lt _ _ t htl]; exact ht0)
  (by rw [World.frozen?_alloc_old _ _ t (by simp; omega),World.frozen?_alloc_old _ _ t (by simp; omega),World.frozen?_alloc_old _ _ t (by simp; omega),World.frozen?_alloc_old _ _ t (Nat.ne_of_lt htl)]; exact hf0)
 go_enter Tryz.func88,Tryz.ntmps88
 go_wp2
 refine wp_loop_rounds 1 ?_
 rw [rounds_succ]
 go_wp2
 go_ret
 exact ⟨rfl,rfl⟩
end Go.Ev.ErrAs
