/- A part of the proof of priceAll_card, yieldAll_card, priceSum_card, flowAll_card, accrAll_card. -/
import Derived.Test.YtfkdcfbleblgoaaGreatDoorChecked
import Derived.WalkKit
import Derived.Stop.Asserts
import Derived.RowKitTokens
import Derived.Lib.Hide
set_option linter.unusedVariables false
set_option linter.unusedSimpArgs false
section
namespace Go.Ev.ErrAs
open Go Go.Proofs Go.RowKit Go.Extern.Stop Go.Stop Go.Extern
theorem aoR (t:Addr) (w:World):(ReflectliteValue.unpack (.iface 159 (.pointer (some t)))).run Tryz.prog w
  = .ok (.agg #[.pointer (some ⟨16,159,none⟩),.pointer (some ⟨w.heap.size,0,none⟩),.int .u64 150]) (w.alloc (.cells #[.pointer (some t)] 159)):=by kernel_rfl
theorem ayJ (a:Addr) (w:World):(ReflectliteValue.methodAny (ReflectliteValue.valueError "reflectlite.Value.Type" 0) (fun t _ _ _=>ReflectliteType.toType t) #[.agg #[.pointer (some ⟨16,159,none⟩),.pointer (some a),.int .u64 150]]).run Tryz.prog w
  = .ok (.iface 287 (.agg #[.pointer (some ⟨16,159,none⟩)])) w:=by kernel_rfl
theorem methodKind (h:Value) (w:World):(Go.method 519 287 (.agg #[h]) "Kind").run Tryz.prog w = .ok (340,h) w:=by kernel_rfl
theorem ax1 (w:World):((ReflectliteType.abiMethod fun t=>(fun a:Nat=>Value.int IntKind.u8 (a:Int)) <$> Rtype.kind t) #[.pointer (some ⟨16,159,none⟩)]).run Tryz.prog w = .ok (.int .u8 22) w:=by kernel_rfl
theorem aAV (w:World):((ReflectliteType.abiMethod fun t=>(fun a:Nat=>Value.int IntKind.u8 (a:Int)) <$> Rtype.kind t) #[.pointer (some ⟨16,157,none⟩)]).run Tryz.prog w = .ok (.int .u8 22) w:=by kernel_rfl
theorem rlm (z:Sem Value) (f:TypeId→Addr→Nat→Nat→Sem Value) (v:Value) :
  ReflectliteValue.method z f #[v]=(do match ← ReflectliteValue.parts v with | none=>z | some (t,a,fl)=>f t a fl (fl % 32)):=rfl
theorem au6 (a:Addr) (w:World):(ReflectliteValue.parts (.agg #[.pointer (some ⟨16,159,none⟩),.pointer (some a),.int .u64 150])).run Tryz.prog w = .ok (some (159,a,150)) w:=by kernel_rfl
theorem auW (a p:Addr) (W:World) (ha:W.cell? a=some (.pointer (some p))) :
  (ReflectliteValue.method (ReflectliteValue.valueError "reflectlite.Value.IsNil" 0) ReflectliteValue.isNil #[.agg #[.pointer (some ⟨16,159,none⟩),.pointer (some a),.int .u64 150]]).run Tryz.prog W = .ok (.bool false) W:=by
 rw [rlm]
 simp only [Sem.run_bind,au6,Result.andThen]
 simp [ReflectliteValue.isNil,loadVar,isAgg,underlying,Tryz.underlying159,ha,Result.andThen]
theorem methodElem (h:Value) (w:World):(Go.method 519 287 (.agg #[h]) "Elem").run Tryz.prog w = .ok (354,.agg #[h]) w:=by kernel_rfl
theorem methodImplements (h:Value) (w:World):(Go.method 519 287 (.agg #[h]) "Implements").run Tryz.prog w = .ok (355,.agg #[h]) w:=by kernel_rfl
theorem methodAssignableTo (h:Value) (w:World):(Go.method 519 287 (.agg #[h]) "AssignableTo").run Tryz.prog w = .ok (352,.agg #[h]) w:=by kernel_rfl
theorem axH (w:World):(ReflectliteType.method ReflectliteType.elem #[.agg #[.pointer (some ⟨16,159,none⟩)]]).run Tryz.prog w = .ok (.iface 287 (.agg #[.pointer (some ⟨16,157,none⟩)])) w:=by kernel_rfl
theorem ai5 (w:World):(ReflectliteType.relation "Implements" ReflectliteType.implements_ #[.agg #[.pointer (some ⟨16,157,none⟩)],.iface 287 (.agg #[.pointer (some ⟨16,28,none⟩)])]).run Tryz.prog w = .ok (.bool true) w:=by kernel_rfl
theorem aCQ (v:Value) (w:World):(ReflectliteType.typeOf #[.iface 157 v]).run Tryz.prog w = .ok (.iface 287 (.agg #[.pointer (some ⟨16,157,none⟩)])) w:=by kernel_rfl
theorem avm (v:Value) (w:World):(ReflectliteType.typeOf #[.iface 194 v]).run Tryz.prog w = .ok (.iface 287 (.agg #[.pointer (some ⟨16,194,none⟩)])) w:=by kernel_rfl
theorem atr (w:World):(ReflectliteType.relation "AssignableTo" ReflectliteType.assignableTo #[.agg #[.pointer (some ⟨16,157,none⟩)],.iface 287 (.agg #[.pointer (some ⟨16,157,none⟩)])]).run Tryz.prog w = .ok (.bool true) w:=by kernel_rfl
theorem atq (w:World):(ReflectliteType.relation "AssignableTo" ReflectliteType.assignableTo #[.agg #[.pointer (some ⟨16,194,none⟩)],.iface 287 (.agg #[.pointer (some ⟨16,157,none⟩)])]).run Tryz.prog w = .ok (.bool false) w:=by kernel_rfl
theorem aAN (e:Addr) (w:World):(ReflectliteValue.unpack (.iface 157 (.pointer (some e)))).run Tryz.prog w
  = .ok (.agg #[.pointer (some ⟨16,157,none⟩),.pointer (some ⟨w.heap.size,0,none⟩),.int .u64 150]) (w.alloc (.cells #[.pointer (some e)] 157)):=by kernel_rfl
theorem azC (w:World):(Rtype.elem? 159).run Tryz.prog w = .ok (some 157) w:=by kernel_rfl
theorem mkP (p:Addr) (w:World):(ReflectliteValue.mk 157 p ReflectliteValue.flagAddr).run Tryz.prog w = .ok (.agg #[.pointer (some ⟨16,157,none⟩),.pointer (some p),.int .u64 406]) w:=by kernel_rfl
theorem elemV (a p:Addr) (W:World) (ha:W.cell? a=some (.pointer (some p))) :
  (ReflectliteValue.method (ReflectliteValue.valueError "reflectlite.Value.Elem" 0) ReflectliteValue.elem #[.agg #[.pointer (some ⟨16,159,none⟩),.pointer (some a),.int .u64 150]]).run Tryz.prog W
   = .ok (.agg #[.pointer (some ⟨16,157,none⟩),.pointer (some p),.int .u64 406]) W:=by
 rw [rlm]
 simp only [Sem.run_bind,au6,Result.andThen]
 simp [ReflectliteValue.elem,loadVar,isAgg,underlying,Tryz.underlying159,ha,Result.andThen,azC,mkP]
theorem rls (v x:Value):ReflectliteValue.set #[v,x]=(do
  let (some (dst,a,fl),some (src,b,_)):=(← ReflectliteValue.parts v,← ReflectliteValue.parts x)
   | unsupported (.noEntry "extern/(internal/reflectlite.Value).Set.zeroValue")
  if fl / ReflectliteValue.flagAddr % 2==0 then unsupported (.noEntry "extern/(internal/reflectlite.Value).Set.unaddressable")
  let val ← loadVar src b
  if ← Rtype.directlyAssignable dst src then storeVar dst a val
  else if ← Rtype.implements dst src then
   if (← Rtype.kind src)==20 then
    match val with
    | .nilIface=>unsupported (.noEntry "extern/reflectlite: a nil value of one interface type handed on as a value of another")
    | _=>storeVar dst a val
   else storeVar dst a (.iface src val)
  else panicString ("reflectlite.Set: value of type " ++ (← Rtype.spelt src) ++ " is not assignable to type " ++ (← Rtype.spelt dst))
  pure (.tuple #[])):=rfl
theorem aCi (a:Addr) (w:World):(ReflectliteValue.parts (.agg #[.pointer (some ⟨16,157,none⟩),.pointer (some a),.int .u64 406])).run Tryz.prog w = .ok (some (157,a,406)) w:=by kernel_rfl
theorem aDF (a:Addr) (w:World):(ReflectliteValue.parts (.agg #[.pointer (some ⟨16,157,none⟩),.pointer (some a),.int .u64 150])).run Tryz.prog w = .ok (some (157,a,150)) w:=by kernel_rfl
theorem aBU (w:World):(Rtype.directlyAssignable 157 157).run Tryz.prog w = .ok true w:=by kernel_rfl
theorem aFY (ta b e:Addr) (old:Value) (W:World) (hb:W.cell? b=some (.pointer (some e))) (ht:W.cell? ta=some old) (hf:W.frozen? ta=false) :
  (ReflectliteValue.set #[.agg #[.pointer (some ⟨16,157,none⟩),.pointer (some ta),.int .u64 406],.agg #[.pointer (some ⟨16,157,none⟩),.pointer (some b),.int .u64 150]]).run Tryz.prog W
   = .ok (.tuple #[]) (W.setCell ta (.pointer (some e))):=by
 rw [rls]
 simp only [Sem.run_bind,aCi,aDF,Result.andThen]
 simp [ReflectliteValue.flagAddr,loadVar,isAgg,underlying,Tryz.underlying157,hb,Result.andThen,aBU,storeVar,Value.cells,storeCells,Addr.add]
 rw [run_store Tryz.prog W ta _ _ (by rfl)]
 simp [ht,hf]
def lJ (w:World):Prop:=w.cell? ⟨0,0,none⟩=some (.iface 287 (.agg #[.pointer (some ⟨16,28,none⟩)]))
theorem lJ.alloc {w:World} (h:lJ w) (o:Obj):lJ (w.alloc o):=by
 have hlt:0<w.heap.size:=by
  rcases Nat.lt_or_ge 0 w.heap.size with h1 | h1
  ·exact h1
  ·unfold lJ at h
   simp [World.cell?,Array.getElem?_eq_none h1] at h
 unfold lJ
 rw [World.cell?_alloc_lt _ _ ⟨0,0,none⟩ hlt]; exact h
abbrev V3 (w:World):Obj := .cells #[.pointer (some ⟨16,159,none⟩),.pointer (some ⟨w.heap.size,0,none⟩),.int .u64 150] 230
set_option maxHeartbeats 4000000 in
theorem as_hit (e t:Addr) (old:Value) (w:World) (hg:lJ w) (ht0:w.cell? t=some old) (hf0:w.frozen? t=false) :
  Calls Tryz.prog 110 #[.iface 157 (.pointer (some e)),.iface 159 (.pointer (some t))] w fun ev w'=>ev = .returned (.bool true)∧w'=((((w.alloc (.cells #[.pointer (some t)] 159)).alloc (V3 w)).alloc (V3 w)).alloc (.cells #[.pointer (some e)] 157)).setCell t (.pointer (some e)):=by
 have h6 := @run_callFunc_extern Tryz.prog 187 _ (fun args=>ReflectliteValue.unpack (args.getD 0 (.tuple #[]))) Tryz.func187 (by kernel_rfl) (by kernel_rfl) (by kernel_rfl) (by kernel_rfl)
 have h7 := @run_callFunc_extern Tryz.prog 188 _ (ReflectliteValue.methodAny (ReflectliteValue.valueError "reflectlite.Value.Type" 0) (fun t _ _ _=>ReflectliteType.toType t)) Tryz.func188 (by kernel_rfl) (by kernel_rfl) (by kernel_rfl) (by kernel_rfl)
 have h8 := @run_callFunc_extern Tryz.prog 189 _ (ReflectliteValue.method (ReflectliteValue.valueError "reflectlite.Value.IsNil" 0) ReflectliteValue.isNil) Tryz.func189 (by kernel_rfl) (by kernel_rfl) (by kernel_rfl) (by kernel_rfl)
 have h27 := @run_callFunc_extern Tryz.prog 340 _ (ReflectliteType.abiMethod fun t=>do pure (.int .u8 (← Rtype.kind t))) Tryz.func340 (by kernel_rfl) (by kernel_rfl) (by kernel_rfl) (by kernel_rfl)
 have h37 := @run_callFunc_extern Tryz.prog 354 _ (ReflectliteType.method ReflectliteType.elem) Tryz.func354 (by kernel_rfl) (by kernel_rfl) (by kernel_rfl) (by kernel_rfl)
 have h38 := @run_callFunc_extern Tryz.prog 355 _ (ReflectliteType.relation "Implements" ReflectliteType.implements_) Tryz.func355 (by kernel_rfl) (by kernel_rfl) (by kernel_rfl) (by kernel_rfl)
 have h10 := @run_callFunc_extern Tryz.prog 237 _ ReflectliteType.typeOf Tryz.func237 (by kernel_rfl) (by kernel_rfl) (by kernel_rfl) (by kernel_rfl)
 have h35 := @run_callFunc_extern Tryz.prog 352 _ (ReflectliteType.relation "AssignableTo" ReflectliteType.assignableTo) Tryz.func352 (by kernel_rfl) (by kernel_rfl) (by kernel_rfl) (by kernel_rfl)
 have h11 := @run_callFunc_extern Tryz.prog 238 _ (ReflectliteValue.method (ReflectliteValue.valueError "reflectlite.Value.Elem" 0) ReflectliteValue.elem) Tryz.func238 (by kernel_rfl) (by kernel_rfl) (by kernel_rfl) (by kernel_rfl)
 have h12 := @run_callFunc_extern Tryz.prog 239 _ ReflectliteValue.set Tryz.func239 (by kernel_rfl) (by kernel_rfl) (by kernel_rfl) (by kernel_rfl)
 have tO:=aCQ
 have mA:=methodAssignableTo
 have aP:=atr
 have vP:=aAN
 have f6:=aoR
 have f7:=ayJ
 have mK:=methodKind
 have mE:=methodElem
 have mI:=methodImplements
 have kPP:=ax1
 have kP:=aAV
 have ePP:=axH
 have iP:=ai5
 have n8:=auW ⟨w.heap.size,0,none⟩ t ((w.alloc (.cells #[.pointer (some t)] 159)).alloc (V3 w)) (by simp)
 have hg2:lJ ((w.alloc (.cells #[.pointer (some t)] 159)).alloc (V3 w)):=(hg.alloc _).alloc _
 unfold lJ at hg2
 have htl:t.block<w.heap.size:=by
  rcases Nat.lt_or_ge t.block w.heap.size with h | h
  ·exact h
  ·simp [World.cell?,Array.getElem?_eq_none h] at ht0
 have el:=elemV ⟨w.heap.size,0,none⟩ t (((w.alloc (.cells #[.pointer (some t)] 159)).alloc (V3 w)).alloc (V3 w)) (by rw [World.cell?_alloc_lt _ _ ⟨w.heap.size,0,none⟩ (by simp; omega)]; simp)
 have st:=aFY t ⟨w.heap.size+1+1+1,0,none⟩ e old ((((w.alloc (.cells #[.pointer (some t)] 159)).alloc (V3 w)).alloc (V3 w)).alloc (.cells #[.pointer (some e)] 157))
  (by rw [World.cell?_alloc_at _ _ _ _ (by simp)]; rfl)
  (by rw [World.cell?_alloc_lt _ _ t (by simp; omega),World.cell?_alloc_lt _ _ t (by simp; omega),World.cell?_alloc_lt _ _ t (by simp; omega),World.cell?_alloc_lt _ _ t htl]; exact ht0)
  (by rw [World.frozen?_alloc_old _ _ t (by simp; omega),World.frozen?_alloc_old _ _ t (by simp; omega),World.frozen?_alloc_old _ _ t (by simp; omega),World.frozen?_alloc_old _ _ t (Nat.ne_of_lt htl)]; exact hf0)
 go_enter Tryz.func110,Tryz.ntmps110
 go_wp2
 refine wp_loop_rounds 1 ?_
 rw [rounds_succ]
 go_wp2
 go_ret
 exact ⟨rfl,rfl⟩
end Go.Ev.ErrAs
end
section
namespace Go.Ev.ErrAs
open Go Go.Proofs Go.RowKit Go.Extern.Stop Go.Stop Go.Extern
theorem aFK (v:Value) (xT:TypeId) (w:World):(Instr.typeAssert (.iface 159 v) xT 159 true).run Tryz.prog w = .ok (.tuple #[v,.bool true]) w:=by
 simp [Instr.typeAssert,run_underlying (P:=Tryz.prog) (t:=159) Tryz.underlying159]
set_option maxRecDepth 100000 in
theorem az6 (n:Int) (t:Addr) (old:Value) (w:World) (ht0:w.cell? t=some old) (hf0:w.frozen? t=false) :
  Calls Tryz.prog 347 #[.int .i64 n,.iface 159 (.pointer (some t))] w fun ev w'=>ev = .returned (.bool true)∧w'=(w.alloc (.cells #[.int .i64 n,.string ⟨#[]⟩,.nilIface] 161)).setCell t (.pointer (some ⟨w.heap.size,0,none⟩)):=by
 have htl:t.block<w.heap.size:=by
  rcases Nat.lt_or_ge t.block w.heap.size with h | h
  ·exact h
  ·simp [World.cell?,Array.getElem?_eq_none h] at ht0
 have hc1:(w.alloc (.cells #[.int .i64 n,.string ⟨#[]⟩,.nilIface] 161)).cell? t=some old:=by rw [World.cell?_alloc_lt _ _ t htl]; exact ht0
 have hf1:(w.alloc (.cells #[.int .i64 n,.string ⟨#[]⟩,.nilIface] 161)).frozen? t=false:=by rw [World.frozen?_alloc_old _ _ t (Nat.ne_of_lt htl)]; exact hf0
 have hPP:=aFK
 go_enter Tryz.func347,Tryz.ntmps347
 go_wp2
 go_ret
 exact ⟨rfl,rfl⟩
theorem azV (v:Int) (w:World):(Go.method 519 194 (.int .i64 v) "As").run Tryz.prog w = .ok (347,.int .i64 v) w:=by kernel_rfl
theorem aEk (v:Value) (xT:TypeId) (w:World):(Instr.typeAssert (.iface 194 v) xT 292 true).run Tryz.prog w = .ok (.tuple #[.iface 194 v,.bool true]) w :=
 run_typeAssert_hasB Tryz.underlying292 (by kernel_rfl) v xT w
set_option maxHeartbeats 4000000 in
theorem ay_ (n:Int) (t:Addr) (old:Value) (w:World) (hg:lJ w) (ht0:w.cell? t=some old) (hf0:w.frozen? t=false) :
  Calls Tryz.prog 110 #[.iface 194 (.int .i64 n),.iface 159 (.pointer (some t))] w fun ev w'=>ev = .returned (.bool true)∧w'=((((w.alloc (.cells #[.pointer (some t)] 159)).alloc (V3 w)).alloc (V3 w)).alloc (.cells #[.int .i64 n,.string ⟨#[]⟩,.nilIface] 161)).setCell t (.pointer (some ⟨w.heap.size+1+1+1,0,none⟩)):=by
 have h6 := @run_callFunc_extern Tryz.prog 187 _ (fun args=>ReflectliteValue.unpack (args.getD 0 (.tuple #[]))) Tryz.func187 (by kernel_rfl) (by kernel_rfl) (by kernel_rfl) (by kernel_rfl)
 have h7 := @run_callFunc_extern Tryz.prog 188 _ (ReflectliteValue.methodAny (ReflectliteValue.valueError "reflectlite.Value.Type" 0) (fun t _ _ _=>ReflectliteType.toType t)) Tryz.func188 (by kernel_rfl) (by kernel_rfl) (by kernel_rfl) (by kernel_rfl)
 have h8 := @run_callFunc_extern Tryz.prog 189 _ (ReflectliteValue.method (ReflectliteValue.valueError "reflectlite.Value.IsNil" 0) ReflectliteValue.isNil) Tryz.func189 (by kernel_rfl) (by kernel_rfl) (by kernel_rfl) (by kernel_rfl)
 have h27 := @run_callFunc_extern Tryz.prog 340 _ (ReflectliteType.abiMethod fun t=>do pure (.int .u8 (← Rtype.kind t))) Tryz.func340 (by kernel_rfl) (by kernel_rfl) (by kernel_rfl) (by kernel_rfl)
 have h37 := @run_callFunc_extern Tryz.prog 354 _ (ReflectliteType.method ReflectliteType.elem) Tryz.func354 (by kernel_rfl) (by kernel_rfl) (by kernel_rfl) (by kernel_rfl)
 have h38 := @run_callFunc_extern Tryz.prog 355 _ (ReflectliteType.relation "Implements" ReflectliteType.implements_) Tryz.func355 (by kernel_rfl) (by kernel_rfl) (by kernel_rfl) (by kernel_rfl)
 have h10 := @run_callFunc_extern Tryz.prog 237 _ ReflectliteType.typeOf Tryz.func237 (by kernel_rfl) (by kernel_rfl) (by kernel_rfl) (by kernel_rfl)
 have h35 := @run_callFunc_extern Tryz.prog 352 _ (ReflectliteType.relation "AssignableTo" ReflectliteType.assignableTo) Tryz.func352 (by kernel_rfl) (by kernel_rfl) (by kernel_rfl) (by kernel_rfl)
 have tO:=avm
 have mA:=methodAssignableTo
 have aI:=atq
 have f6:=aoR
 have f7:=ayJ
 have mK:=methodKind
 have mE:=methodElem
 have mI:=methodImplements
 have mAs:=azV
 have hAs:=aEk
 have kPP:=ax1
 have kP:=aAV
 have ePP:=axH
 have iP:=ai5
 have n8:=auW ⟨w.heap.size,0,none⟩ t ((w.alloc (.cells #[.pointer (some t)] 159)).alloc (V3 w)) (by simp)
 have hg2:lJ ((w.alloc (.cells #[.pointer (some t)] 159)).alloc (V3 w)):=(hg.alloc _).alloc _
 unfold lJ at hg2
 have htl:t.block<w.heap.size:=by
  rcases Nat.lt_or_ge t.block w.heap.size with h | h
  ·exact h
  ·simp [World.cell?,Array.getElem?_eq_none h] at ht0
 have hc1:(((w.alloc (.cells #[.pointer (some t)] 159)).alloc (V3 w)).alloc (V3 w)).cell? t=some old:=by
  rw [World.cell?_alloc_lt _ _ t (by simp; omega),World.cell?_alloc_lt _ _ t (by simp; omega),World.cell?_alloc_lt _ _ t htl]; exact ht0
 have hf1:(((w.alloc (.cells #[.pointer (some t)] 159)).alloc (V3 w)).alloc (V3 w)).frozen? t=false:=by
  rw [World.frozen?_alloc_old _ _ t (by simp; omega),World.frozen?_alloc_old _ _ t (by simp; omega),World.frozen?_alloc_old _ _ t (Nat.ne_of_lt htl)]; exact hf0
 go_enter Tryz.func110,Tryz.ntmps110
 go_wp2
 refine wp_loop_rounds 1 ?_
 rw [rounds_succ]
 go_wp2_with (go_at_call 347; refine (az6 n t old _ hc1 hf1).mono ?_; rintro e w' ⟨rfl,rfl⟩)
 go_ret
 exact ⟨rfl,by simp⟩
end Go.Ev.ErrAs
end
section
namespace Go.Ev.ErrAs
open Go Go.Proofs Go.RowKit Go.Extern.Stop Go.Stop Go.Extern
theorem code_nil (w:World):Calls Tryz.prog 35 #[.nilIface] w fun e w'=>e = .returned (.int .i64 0)∧Below w.heap.size w w':=by
 go_enter Tryz.func35,Tryz.ntmps35
 go_wp2
 go_ret
 exact ⟨rfl,(Below.refl _ _).alloc (Nat.le_refl _) _⟩
set_option maxHeartbeats 1000000 in
set_option maxRecDepth 100000 in
theorem avL (n:Int) (w:World) (hg:lJ w):Calls Tryz.prog 35 #[.iface 194 (.int .i64 n)] w fun e w'=>e = .returned (.int .i64 n)∧Below w.heap.size w w':=by
 have hgA:lJ (w.alloc (.cells #[.pointer none] 157)):=hg.alloc _
 have htA:(w.alloc (.cells #[.pointer none] 157)).cell? ⟨w.heap.size,0,none⟩=some (.pointer none):=by simp
 have hfA:(w.alloc (.cells #[.pointer none] 157)).frozen? ⟨w.heap.size,0,none⟩=false:=by simp
 have HA:=Lib.hid hgA
 clear hgA hg
 go_enter Tryz.func35,Tryz.ntmps35
 go_wp2_with (go_at_call 110; refine (ay_ n _ (.pointer none) _ HA.out htA hfA).mono ?_; rintro e w' ⟨rfl,rfl⟩)
 go_ret
 refine ⟨rfl,?_⟩
 refine ((((((Below.refl _ _).alloc (Nat.le_refl _) _).alloc (by simp) _).alloc (by simp; omega) _).alloc (by simp; omega) _).alloc (by simp; omega) _)
set_option maxHeartbeats 1000000 in
set_option maxRecDepth 100000 in
theorem avK (n:Int) (e:Addr) (w:World) (hg:lJ w) (he:w.cell? e=some (.int .i64 n)):Calls Tryz.prog 35 #[.iface 157 (.pointer (some e))] w fun e w'=>e = .returned (.int .i64 n)∧Below w.heap.size w w':=by
 have hel:e.block<w.heap.size:=by
  rcases Nat.lt_or_ge e.block w.heap.size with h | h
  ·exact h
  ·simp [World.cell?,Array.getElem?_eq_none h] at he
 have hgA:lJ (w.alloc (.cells #[.pointer none] 157)):=hg.alloc _
 have htA:(w.alloc (.cells #[.pointer none] 157)).cell? ⟨w.heap.size,0,none⟩=some (.pointer none):=by simp
 have hfA:(w.alloc (.cells #[.pointer none] 157)).frozen? ⟨w.heap.size,0,none⟩=false:=by simp
 have hce:(((((w.alloc (.cells #[.pointer (some e)] 157)).alloc (.cells #[.pointer (some ⟨w.heap.size,0,none⟩)] 159)).alloc (V3 (w.alloc (.cells #[.pointer none] 157)))).alloc (V3 (w.alloc (.cells #[.pointer none] 157)))).alloc (.cells #[.pointer (some e)] 157)).cell? e=some (.int .i64 n):=by
  rw [World.cell?_alloc_lt _ _ e (by simp; omega),World.cell?_alloc_lt _ _ e (by simp; omega),World.cell?_alloc_lt _ _ e (by simp; omega),World.cell?_alloc_lt _ _ e (by simp; omega),World.cell?_alloc_lt _ _ e hel]; exact he
 have HA:=Lib.hid hgA
 clear hgA hg
 go_enter Tryz.func35,Tryz.ntmps35
 go_wp2_with (go_at_call 110; refine (as_hit e _ (.pointer none) _ HA.out htA hfA).mono ?_; rintro e w' ⟨rfl,rfl⟩)
 go_ret
 refine ⟨rfl,?_⟩
 refine ((((((Below.refl _ _).alloc (Nat.le_refl _) _).alloc (by simp) _).alloc (by simp; omega) _).alloc (by simp; omega) _).alloc (by simp; omega) _)
end Go.Ev.ErrAs
end
