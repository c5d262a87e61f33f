/- A part of the proof of priceWait_card. -/
import Derived.Test.YtlnjbdkgdocjeaaGreatDoorCSndD
set_option linter.unusedVariables false
set_option linter.unusedSimpArgs false
namespace Go.Ev
section
variable {P:Program} {o:Oper} {a:Act} {c:Ctx} {m m':Mem} {ds:List D} {d:D}
theorem J3.nil:J3 #[] []:=⟨fun e h=>by simp at h,fun k h=>by simp at h⟩
theorem findNow_spec (k:Int):∀ (l:List MapEntry) (i:Nat),(∀ e∈l,∃ k',e.key = .int .i64 k') →
  (Instr.findNow (.int .i64) (.int .i64 k) l i=some none∧∀ e∈l,e.key ≠ .int .i64 k) ∨
  ∃ j e,Instr.findNow (.int .i64) (.int .i64 k) l i=some (some (i+j,e.val))∧l[j]?=some e∧e.key = .int .i64 k
 | [],i,_ => .inl ⟨rfl,fun e h=>by simp at h⟩
 | e::es,i,h=>by
   obtain ⟨k',hk'⟩:=h e (by simp)
   by_cases hk:k=k'
   ·subst hk
    refine .inr ⟨0,e,?_,rfl,hk'⟩
    simp [Instr.findNow,hk',Instr.sameNow]
   ·have hs:Instr.findNow (.int .i64) (.int .i64 k) (e::es) i=Instr.findNow (.int .i64) (.int .i64 k) es (i+1):=by
     have : (k==k')=false:=by simpa using hk
     simp [Instr.findNow,hk',Instr.sameNow,this]
    rcases findNow_spec k es (i+1) (fun e he=>h e (by simp [he])) with ⟨h1,h2⟩ | ⟨j,e',h1,h2,h3⟩
    ·refine .inl ⟨by rw [hs,h1],fun e' he'=>?_⟩
     rcases List.mem_cons.1 he' with rfl | he'
     ·rw [hk']; simp; exact fun e=>hk e.symm
     ·exact h2 e' he'
    ·exact .inr ⟨j+1,e',by rw [hs,h1]; congr 3; omega,h2,h3⟩
theorem J3.find {es:Array MapEntry} {ks:List Int} (h:J3 es ks) (k:Int) :
  (Instr.findNow (.int .i64) (.int .i64 k) es.toList 0=some none∧k ∉ ks) ∨
  ∃ (j:Nat) (e:MapEntry),Instr.findNow (.int .i64) (.int .i64 k) es.toList 0=some (some (j,.bool true))∧es[j]?=some e∧e.key = .int .i64 k∧k∈ks:=by
 rcases findNow_spec k es.toList 0 (fun e he=>by obtain ⟨_,k',hk',_⟩:=h.1 e he; exact ⟨k',hk'⟩) with ⟨h1,h2⟩ | ⟨j,e,h1,h2,h3⟩
 ·refine .inl ⟨h1,fun hk=>?_⟩
  obtain ⟨e,he,hke⟩:=h.2 k hk
  exact h2 e he hke
 ·have he:e∈es.toList:=List.mem_of_getElem? h2
  obtain ⟨hv,k',hk',hk2⟩:=h.1 e he
  have : k'=k:=by rw [h3] at hk'; simpa using hk'.symm
  subst this
  refine .inr ⟨j,e,by rw [h1,hv,Nat.zero_add],by simpa using h2,h3,hk2⟩
theorem Tf {w:World} {r:Nat} {es:Array MapEntry} {clk:Nat} (hb:w.heap[r]?=some (.map es clk)) (ob:Obj):(setObj r ob).run P w = .ok () { w with heap:=w.heap.setIfInBounds r ob } :=
 MapKept.run_setObj_map ob hb
theorem asi {j:Nat} {op:Op} {ys:List Operand} (h:aT P (.mkm j) op=some ys):∃ t,op = .makeMap t none∧ys=[]:=by
 simp only [aT] at h; split at h <;> simp at h
 exact ⟨_,rfl,h⟩
theorem atL {base j:Nat} (q:Asked P (.mkm j) o a c m ds) (h:W9 base j ds m=some (d,m')):Sound P o a c m d m':=by
 obtain ⟨ys,hc,hr⟩:=q.chk
 obtain ⟨t,hop,rfl⟩:=asi hc
 unfold W9 at h
 split at h <;> try (simp at h; done)
 split at h <;> simp at h
 rename_i hm
 obtain ⟨rfl,rfl⟩:=h
 obtain ⟨c',hw,hi',hst,hL,hβ⟩:=q.inv.auL hm #[] 0 [] (c.w.alloc (.map #[] 0)) (by simp) (fun b hb=>heap_alloc_old _ _ _ hb) ⟨rfl,rfl⟩ (heap_alloc_last _ _) ⟨J3.nil,MapKept.stamped_empty _,Nat.le_refl _⟩
 refine Sound.sN (c':=c') (v := .map (some c.w.heap.size)) ?_ (by have := Rep.lmap (c:=c') (base+j) hL; rwa [hβ] at this) hi' hst
 simp only [execOp,hop,Instr.makeMap,hw]
 simp
theorem apU {op:Op} {ys:List Operand} (h:aT P .aci op=some ys):∃ t x y z kt et,op = .mapUpdate t x y z∧ys=[x,y,z]∧P.underlying t=some (.map kt et)∧P.underlying kt=some (.int .i64):=by
 simp only [aT] at h; split at h <;> try (simp at h; done)
 split at h <;> try (simp at h; done)
 rw [Option.ite_none_right_eq_some] at h
 obtain ⟨h1,h⟩:=h
 simp at h
 split at h1 <;> try (simp at h1; done)
 exact ⟨_,_,_,_,_,_,rfl,h.symm,by assumption,by assumption⟩
theorem ajJ (k:Int):∀ n,Instr.sameBits n (.int .i64 k) (.int .i64 k)=true
 | 0=>by simp [Instr.sameBits]
 | n+1=>by simp [Instr.sameBits]
theorem run_keyThatStays (k:Int) (w:World):(Instr.keyThatStays (.int .i64 k) (.int .i64 k)).run P w = .ok (.int .i64 k) w:=by
 unfold Instr.keyThatStays
 rw [ajJ,if_pos rfl]
 rfl
theorem aeZ (k:Int):MapKept.IsKey (.int .i64) (.int .i64 k):=(rfl:IntKind.i64 = .i64)
theorem arb (q:Asked P .aci o a c m ds) (h:Oj ds m=some (d,m')):Sound P o a c m d m':=by
 obtain ⟨ys,hc,hr⟩:=q.chk
 obtain ⟨t,x,y,z,kt,et,hop,rfl,ht,hkt⟩:=apU hc
 unfold Oj at h
 split at h <;> try (simp at h; done)
 rename_i b k
 split at h <;> try (simp at h; done)
 rename_i ks hm
 simp only [Option.some.injEq,Prod.mk.injEq] at h
 obtain ⟨rfl,rfl⟩:=h
 obtain ⟨v,u,s,hv,h1,h2,h3⟩:=hr.three
 simp at hv
 obtain ⟨e1,e2,e3⟩:=hv
 obtain ⟨hL,rfl⟩:=h1.PV
 have := h2.bg; subst this
 have := h3.pO; subst this
 obtain ⟨_,hS,es,clk,hb,hk⟩:=q.inv.maps b ks hm
 have hlt:=lt_of_heap hb
 have hput:∀ ob:Obj,({ c.w with heap:=c.w.heap.setIfInBounds (c.β b).1 ob }:World).heap.size=c.w.heap.size∧(∀ k,k≠(c.β b).1→({ c.w with heap:=c.w.heap.setIfInBounds (c.β b).1 ob }:World).heap[k]?=c.w.heap[k]?) ∧
   ({ c.w with heap:=c.w.heap.setIfInBounds (c.β b).1 ob }:World).heap[(c.β b).1]?=some ob:=by
  intro ob
  refine ⟨by simp,fun k hk=>?_,by simp [hlt]⟩
  show (c.w.heap.setIfInBounds (c.β b).1 ob)[k]?=_
  rw [Array.getElem?_setIfInBounds_ne (fun e=>hk e.symm)]
 obtain ⟨hk,hst0,hsz0⟩:=hk
 rcases hk.find k with ⟨hf,hn⟩ | ⟨j,e,hf,hj,hke,hin⟩
 ·have hins:Y2 ks k=k::ks:=by simp [Y2,hn]
  rw [hins]
  obtain ⟨w1,w2,w3⟩:=hput (.map (es.push { key := .int .i64 k,val := .bool true,born:=clk }) (clk+1))
  obtain ⟨hi',hst⟩:=q.inv.writeM hm (k::ks) _ _ _ w1 w2 ⟨rfl,rfl⟩ w3 ⟨⟨fun e he=>by
   simp at he
   rcases he with he | rfl
   ·obtain ⟨q1,k',q2,q3⟩:=hk.1 e (by simpa using he)
    exact ⟨q1,k',q2,by simp [q3]⟩
   ·exact ⟨rfl,k,rfl,by simp⟩,fun k' hk'=>by
   simp at hk'
   rcases hk' with rfl | hk'
   ·exact ⟨_,by simp; exact .inr rfl,rfl⟩
   ·obtain ⟨e,he,hke⟩:=hk.2 k' hk'
    exact ⟨e,by simp; exact .inl (by simpa using he),hke⟩⟩,MapKept.stamped_push hst0 (fun x hx e=>by
   obtain ⟨_,k',hk',hin'⟩:=hk.1 x hx
   rw [e] at hk'
   have : k=k':=by simpa using hk'
   subst this
   exact hn hin'),by simp; exact hsz0⟩
  refine Sound.ae3 (c':={ c with w:=_ }) ?_ hi' hst
  simp only [execOp,hop,e1,e2,e3,Instr.mapUpdate]
  simp [run_underlying ht,MapKept.run_getObj_map hb,MapKept.run_checkKey (P:=P) hkt (aeZ k),MapKept.run_findKey (P:=P) hkt hf,Tf (P:=P) hb]
 ·have hins:Y2 ks k=ks:=by simp [Y2,hin]
  rw [hins]
  obtain ⟨w1,w2,w3⟩:=hput (.map (es.modify j fun e=>{ e with key := .int .i64 k,val := .bool true }) clk)
  obtain ⟨hi',hst⟩:=q.inv.writeM hm ks _ _ _ w1 w2 ⟨rfl,rfl⟩ w3 ⟨(by
   have hget:∀ i:Nat,(es.modify j fun e=>{ e with key := .int .i64 k,val := .bool true })[i]?=if j=i then (es[i]?).map (fun e=>{ e with key := .int .i64 k,val := .bool true }) else es[i]?:=fun i=>by
    rw [Array.getElem?_modify]
   refine ⟨fun e' he'=>?_,fun k' hk'=>?_⟩
   ·obtain ⟨i,hi⟩:=List.mem_iff_getElem?.1 he'
    rw [Array.getElem?_toList,hget] at hi
    split at hi
    ·rw [Option.map_eq_some_iff] at hi
     obtain ⟨e0,_,rfl⟩:=hi
     exact ⟨rfl,k,rfl,hin⟩
    ·exact hk.1 e' (List.mem_of_getElem? (by rw [Array.getElem?_toList]; exact hi))
   ·obtain ⟨e',he',hke'⟩:=hk.2 k' hk'
    obtain ⟨i,hi⟩:=List.mem_iff_getElem?.1 he'
    rw [Array.getElem?_toList] at hi
    by_cases hji:j=i
    ·subst hji
     rw [hj] at hi
     simp at hi
     subst hi
     have : k'=k:=by rw [hke] at hke'; simpa using hke'.symm
     subst this
     refine ⟨{ e with key := .int .i64 k',val := .bool true },List.mem_of_getElem? (i:=j) ?_,rfl⟩
     rw [Array.getElem?_toList,hget,if_pos rfl,hj]
     rfl
    ·refine ⟨e',List.mem_of_getElem? (i:=i) ?_,hke'⟩
     rw [Array.getElem?_toList,hget,if_neg hji]
     exact hi),MapKept.stamped_modify hst0 j _ (fun _ _=>rfl) (fun e' _ he'=>by
   rw [hj] at he'
   obtain rfl:=Option.some.inj he'
   exact hke.symm),by simpa using hsz0⟩
  refine Sound.ae3 (c':={ c with w:=_ }) ?_ hi' hst
  simp only [execOp,hop,e1,e2,e3,Instr.mapUpdate]
  simp [run_underlying ht,MapKept.run_getObj_map hb,MapKept.run_checkKey (P:=P) hkt (aeZ k),MapKept.run_findKey (P:=P) hkt hf,Tf (P:=P) hb,hj,hke,run_keyThatStays]
theorem aem {t:TypeId} {z:D} (h:kV P t [z]=true) (hz:(P.info? t).any (fun i=>match i.zero with | some (.agg _)=>false | some (.tuple _)=>false | _=>true)=true) :
  ∃ v,(∀ w,(zeroValue t).run P w = .ok v w)∧Xu z v=true:=by
 unfold kV at h
 split at h <;> try (simp at h; done)
 rename_i v hv
 rw [Option.bind_eq_some_iff] at hv
 obtain ⟨i,hi,hzv⟩:=hv
 rw [hi] at hz
 simp [hzv] at hz
 obtain ⟨hl,hd⟩:=RS h
 have hcells:v.cells = #[v]:=by
  cases v <;> first | rfl | simp at hz
 rw [hcells] at hd
 obtain ⟨v',hv',hdq⟩:=hd 0 z rfl
 simp at hv'
 subst hv'
 exact ⟨v,fun w=>by simp [zeroValue,typeInfo,hi,hzv],hdq⟩
theorem apQ {op:Op} {ys:List Operand} (h:aT P .Zd op=some ys):∃ t x y kt et,op = .lookup t x y false∧ys=[x,y]∧P.underlying t=some (.map kt et)∧P.underlying kt=some (.int .i64)∧kV P et [.bool false]=true∧(P.info? et).any (fun i=>match i.zero with | some (.agg _)=>false | some (.tuple _)=>false | _=>true)=true:=by
 simp only [aT] at h; split at h <;> try (simp at h; done)
 split at h <;> try (simp at h; done)
 rw [Option.ite_none_right_eq_some] at h
 obtain ⟨⟨h1,h2,h3⟩,h⟩:=h
 simp at h
 split at h1 <;> try (simp at h1; done)
 exact ⟨_,_,_,_,_,rfl,h.symm,by assumption,by assumption,h2,h3⟩
theorem apB {ks:List Int} {es:Array MapEntry} (hk:J3 es ks) (k:Int):∃ r,Instr.findNow (.int .i64) (.int .i64 k) es.toList 0=some r∧((r=none∧ks.contains k=false)∨(∃ j,r=some (j,.bool true)∧ks.contains k=true)):=by
 rcases hk.find k with ⟨hf,hn⟩ | ⟨j,e,hf,_,_,hin⟩
 ·exact ⟨none,hf,.inl ⟨rfl,by simpa using hn⟩⟩
 ·exact ⟨_,hf,.inr ⟨j,rfl,by simpa using hin⟩⟩
theorem aht {t kt et:TypeId} {x:Value} {es:Array MapEntry} {w:World} (ht:P.underlying t=some (.map kt et)) (hkt:P.underlying kt=some (.int .i64)) (hz:∀ w,(zeroValue et).run P w = .ok (.bool false) w) {ks:List Int} (hk:J3 es ks) (k:Int)
  (hx:(x = .map none∧es = #[])∨∃ r clk,x = .map (some r)∧w.heap[r]?=some (.map es clk)):(Instr.lookup t x (.int .i64 k) false).run P w = .ok (.bool (ks.contains k)) w:=by
 obtain ⟨r,hf,hr⟩:=apB hk k
 have hck:∀ e,(Instr.checkKey e 10000 kt (.int .i64 k)).run P w = .ok () w:=fun e=>MapKept.run_checkKey (P:=P) hkt (aeZ k) e 9999
 have hff:(Instr.findKey kt (.int .i64 k) es.toList).run P w = .ok r w:=MapKept.run_findKey (P:=P) hkt hf
 rcases hx with ⟨rfl,rfl⟩ | ⟨b,clk,rfl,hb⟩
 ·unfold Instr.lookup
  rcases hr with ⟨rfl,hc⟩ | ⟨j,rfl,hc⟩ <;> simp only [List.contains_eq_mem] at hc <;> simp [run_underlying ht,hck,hff,hz,hc]
 ·unfold Instr.lookup
  rcases hr with ⟨rfl,hc⟩ | ⟨j,rfl,hc⟩ <;> simp only [List.contains_eq_mem] at hc <;> simp [run_underlying ht,MapKept.run_getObj_map hb,hck,hff,hz,hc]
theorem ant {t:TypeId} (h:kV P t [.bool false]=true) (h2:(P.info? t).any (fun i=>match i.zero with | some (.agg _)=>false | some (.tuple _)=>false | _=>true)=true) (w:World):(zeroValue t).run P w = .ok (.bool false) w:=by
 obtain ⟨v,hv,hd⟩:=aem h h2
 rw [hv w]
 unfold Xu at hd
 split at hd <;> simp_all
theorem aq8 (q:Asked P .Zd o a c m ds) (h:H9 ds m=some (d,m')):Sound P o a c m d m':=by
 obtain ⟨ys,hc,hr⟩:=q.chk
 obtain ⟨t,x,y,kt,et,hop,rfl,ht,hkt,hz,hz2⟩:=apQ hc
 have key:∀ (v:Value) (k:Int) (es:Array MapEntry) (ks:List Int),a.eval x=v→a.eval y = .int .i64 k→J3 es ks→((v = .map none∧es = #[])∨∃ r clk,v = .map (some r)∧c.w.heap[r]?=some (.map es clk)) →
   d = .bool (ks.contains k)→m'=m→Sound P o a c m d m':=by
  intro v k es ks e1 e2 hk hx hd hm
  subst hd hm
  refine Sound.pure q.inv (.bG _ _ (.bool _)) ?_
  simp only [execOp,hop,e1,e2,Sem.run_bind]
  rw [aht ht hkt (ant hz hz2) hk k hx]
  rfl
 unfold H9 at h
 split at h <;> try (simp at h; done)
 ·split at h <;> simp at h
  rename_i ks hm
  obtain ⟨v,u,hv,h1,h2⟩:=hr.two
  simp at hv
  obtain ⟨e1,e2⟩:=hv
  obtain ⟨hL,rfl⟩:=h1.PV
  have := h2.bg; subst this
  obtain ⟨_,hS,es,clk,hb,hk⟩:=q.inv.maps _ ks hm
  exact key _ _ es ks e1 e2 hk.1 (.inr ⟨_,clk,rfl,hb⟩) (by rw [← h.1]; simp) h.2.symm
 ·rename_i ks k
  obtain ⟨v,u,hv,h1,h2⟩:=hr.two
  simp at hv h
  obtain ⟨e1,e2⟩:=hv
  obtain ⟨blk,es,clk,rfl,hS,hb,hk⟩:=h1.ace
  have := h2.bg; subst this
  exact key _ _ es ks e1 e2 hk.1 (.inr ⟨_,clk,rfl,hb⟩) (by rw [← h.1]; simp) h.2.symm
 ·obtain ⟨v,u,hv,h1,h2⟩:=hr.two
  simp at hv h
  obtain ⟨e1,e2⟩:=hv
  have := h1.aqx; subst this
  have := h2.bg; subst this
  exact key _ _ #[] [] e1 e2 J3.nil (.inl ⟨rfl,rfl⟩) (by rw [← h.1]; simp) h.2.symm
theorem JF {d:D} {v:Value} (hr:Rep c d v) (b:Bool):Rep c (.aH [d,.bool b]) (.tuple #[v,.bool b]):=by
 refine .aH _ _ (fun j=>if j=0 then v else .bool b) rfl (fun j hj=>?_) (fun j d' hd=>?_)
 ·match j,hj with
  | 0,_=>rfl
  | 1,_=>rfl
 ·match j,hd with
  | 0,hd=>simp at hd; subst hd; exact hr
  | 1,hd=>simp at hd; subst hd; exact .bG _ _ (.bool b)
theorem apW {t:Nat} {z:D} {op:Op} {ys:List Operand} (h:aT P (.ZQ t z) op=some ys):∃ x xt u,op = .typeAssert x xt t true∧ys=[x]∧P.underlying t=some u∧(∀ ms,u ≠ .interface ms)∧∃ v,(∀ w,(zeroValue t).run P w = .ok v w)∧Xu z v=true:=by
 simp only [aT] at h; split at h <;> try (simp at h; done)
 rw [Option.ite_none_right_eq_some] at h
 obtain ⟨⟨rfl,h1,h2,h3,h4⟩,h⟩:=h
 simp at h
 obtain ⟨u,hu⟩:=Option.isSome_iff_exists.1 h1
 refine ⟨_,_,u,rfl,h.symm,hu,fun ms e=>?_,aem h3 h4⟩
 subst e
 rw [hu] at h2
 simp at h2
theorem ad6 {t xt:TypeId} {u:TypeDesc} {z x:Value} (hu:P.underlying t=some u) (hni:∀ ms,u ≠ .interface ms) (hz:∀ w,(zeroValue t).run P w = .ok z w) (hx:x = .nilIface∨∃ s v,x = .iface s v∧s≠t) (w:World) :
  (Instr.typeAssert x xt t true).run P w = .ok (.tuple #[z,.bool false]) w:=by
 rcases hx with rfl | ⟨s,v,rfl,hne⟩
 ·cases u <;> first | exact absurd rfl (hni _) | simp [Instr.typeAssert,run_underlying hu,hz]
 ·cases u <;> first | exact absurd rfl (hni _) | simp [Instr.typeAssert,run_underlying hu,hz,hne]
theorem ak' {t xt:TypeId} {u:TypeDesc} {v:Value} (hu:P.underlying t=some u) (hni:∀ ms,u ≠ .interface ms) (w:World) :
  (Instr.typeAssert (.iface t v) xt t true).run P w = .ok (.tuple #[v,.bool true]) w:=by
 cases u <;> first | exact absurd rfl (hni _) | simp [Instr.typeAssert,run_underlying hu]
theorem arf {t:Nat} {z:D} (q:Asked P (.ZQ t z) o a c m ds) (h:Kv t z ds m=some (d,m')):Sound P o a c m d m':=by
 obtain ⟨ys,hc,hr⟩:=q.chk
 obtain ⟨x,xt,u,hop,rfl,hu,hni,zv,hz,hdq⟩:=apW hc
 have key:∀ (v r:Value),a.eval x=v→(Instr.typeAssert v xt t true).run P c.w = .ok r c.w→Rep c d r→m'=m→Sound P o a c m d m':=by
  intro v r e1 hrun hrep hm
  subst hm
  refine Sound.pure q.inv hrep ?_
  simp only [execOp,hop,e1,Sem.run_bind]
  rw [hrun]
  rfl
 unfold Kv at h
 split at h <;> try (simp at h; done)
 ·simp at h
  obtain ⟨v,hv,h1⟩:=hr.one
  simp at hv
  have := h1.sK; subst this
  exact key _ _ hv (ad6 hu hni hz (.inl rfl) _) (by rw [← h.1]; exact JF (aae hdq) _) h.2.symm
 ·rename_i s e
  obtain ⟨v,hv,h1⟩:=hr.one
  simp at hv
  obtain ⟨w,rfl,hw⟩:=h1.eG
  cases hb:Nat.beq s t <;> simp [hb] at h
  ·have hne:s≠t:=fun e=>by rw [e,Nat.beq_refl] at hb; simp at hb
   exact key _ _ hv (ad6 hu hni hz (.inr ⟨s,w,rfl,hne⟩) _) (by rw [← h.1]; exact JF (aae hdq) _) h.2.symm
  ·have := Nat.eq_of_beq_eq_true hb
   subst this
   exact key _ _ hv (ak' hu hni _) (by rw [← h.1]; exact JF hw _) h.2.symm
theorem aaX {want:Array (String×TypeId)}:∀ {tab:List (Nat×Bool)} {u:Nat} {b:Bool},hasAll P want tab=true→qH tab u=some b→(P.info? u).map (fun i=>(lacking want i.methods).isEmpty)=some b
 | [],u,b,_,h=>by simp [qH] at h
 | (u',b')::r,u,b,hc,h=>by
   simp only [hasAll,Bool.and_eq_true,beq_iff_eq] at hc
   simp only [qH,cond_eq_ite] at h
   split at h
   ·rename_i e
    have := Nat.eq_of_beq_eq_true e
    subst this
    simp at h
    subst h
    exact hc.1
   ·exact aaX hc.2 h
theorem apX {tab:List (Nat×Bool)} {op:Op} {ys:List Operand} (h:aT P (.UE tab) op=some ys):∃ x xt t want,op = .typeAssert x xt t true∧ys=[x]∧P.underlying t=some (.interface want)∧hasAll P want tab=true∧(P.info? t).map (·.zero)=some (some .nilIface):=by
 simp only [aT] at h; split at h <;> try (simp at h; done)
 split at h <;> try (simp at h; done)
 rw [Option.ite_none_right_eq_some] at h
 obtain ⟨⟨h1,h2⟩,h⟩:=h
 simp at h
 refine ⟨_,_,_,_,rfl,h.symm,by assumption,h1,?_⟩
 rename_i t' _ _ _
 cases hi:P.info? t' with
 | none=>rw [hi] at h2; simp at h2
 | some i =>
   rw [hi] at h2
   simp at h2
   split at h2 <;> simp_all
theorem arh {tab:List (Nat×Bool)} (q:Asked P (.UE tab) o a c m ds) (h:Om tab ds m=some (d,m')):Sound P o a c m d m':=by
 obtain ⟨ys,hc,hr⟩:=q.chk
 obtain ⟨x,xt,t,want,hop,rfl,hu,hall,hz⟩:=apX hc
 have key:∀ (v r:Value),a.eval x=v→(Instr.typeAssert v xt t true).run P c.w = .ok r c.w→Rep c d r→m'=m→Sound P o a c m d m':=by
  intro v r e1 hrun hrep hm
  subst hm
  refine Sound.pure q.inv hrep ?_
  simp only [execOp,hop,e1,Sem.run_bind]
  rw [hrun]
  rfl
 unfold Om at h
 split at h <;> try (simp at h; done)
 ·simp at h
  obtain ⟨v,hv,h1⟩:=hr.one
  simp at hv
  have := h1.sK; subst this
  refine key _ (.tuple #[.nilIface,.bool false]) hv ?_ (by rw [← h.1]; exact JF (.bG _ _ .bH) _) h.2.symm
  obtain ⟨j,hj,hz'⟩:=Option.map_eq_some_iff.1 hz
  simp [Instr.typeAssert,run_underlying hu,zeroValue,typeInfo,hj,hz']
 ·rename_i s e
  obtain ⟨v,hv,h1⟩:=hr.one
  simp at hv
  obtain ⟨w,rfl,hw⟩:=h1.eG
  rw [Option.bind_eq_some_iff] at h
  obtain ⟨b,hb,h⟩:=h
  have hl:=aaX hall hb
  cases b <;> simp at h
  ·exact key _ _ hv (run_typeAssert_lacksB hu hl hz _ _ _) (by rw [← h.1]; exact JF (.bG _ _ .bH) _) h.2.symm
  ·exact key _ _ hv (run_typeAssert_hasB hu hl _ _ _) (by rw [← h.1]; exact JF (.iface _ _ _ hw) _) h.2.symm
theorem asa {n:Bool} {ts:List Nat} {op:Op} {ys:List Operand} (h:aT P (.eqF n ts) op=some ys):∃ t x y u ms,op = .binOp (if n then .neq else .eql) t x y u∧ys=[x,y]∧P.underlying t=some (.interface ms)∧KX P ts=true:=by
 simp only [aT] at h; split at h <;> try (simp at h; done)
 rw [Option.ite_none_right_eq_some] at h
 obtain ⟨⟨rfl,h2,h3⟩,h⟩:=h
 simp at h
 split at h2 <;> try (simp at h2; done)
 exact ⟨_,_,_,_,_,rfl,h.symm,by assumption,h3⟩
theorem Vq:∀ {ts:List Nat} {t:Nat},KX P ts=true→ts.contains t=true→∃ k i,P.underlying t=some (.int k)∧P.info? t=some i∧i.comparable=true
 | [],t,_,h=>by simp at h
 | t'::ts,t,hc,h=>by
   simp only [KX,Bool.and_eq_true] at hc
   obtain ⟨⟨h1,h2⟩,h3⟩:=hc
   simp at h
   rcases h with rfl | h
   ·split at h1
    ·split at h2
     ·exact ⟨_,_,by assumption,by assumption,h2⟩
     ·simp at h2
    ·simp at h1
   ·exact Vq h3 (by simpa using h)
theorem atD {n:Bool} {ts:List Nat} (q:Asked P (.eqF n ts) o a c m ds) (h:acw n ts ds m=some (d,m')):Sound P o a c m d m':=by
 obtain ⟨ys,hc,hr⟩:=q.chk
 obtain ⟨t,ox,oy,u,ms,hop,rfl,hu,hts⟩:=asa hc
 have key:∀ (x y:Value) (r:Bool),a.eval ox=x→a.eval oy=y→(∀ k,(Op.equalIn (k+2) t x y).run P c.w = .ok r c.w) →
   (∀ w,(eqGuard (if n then .neq else .eql) t ox oy x y).run P w = .ok () w)→(∀ b:Bool,binOp (if b then .neq else .eql) t x y=(do pure (.bool ((← Op.equal t x y) != b)))) →
   d = .bool (r != n)→m'=m→Sound P o a c m d m':=by
  intro x y r e1 e2 he hg hx hd hm
  subst hd hm
  refine Sound.pure q.inv (.bG _ _ (.bool _)) ?_
  simp only [execOp,hop,e1,e2]
  have : (Op.equal t x y).run P c.w = .ok r c.w:=he 9998
  rw [Sem.run_bind,Sem.run_bind,hg c.w,Result.andThen_ok,hx n,Sem.run_bind,this]
  rfl
 have tys:∀ (tx ty:Nat) (vx vy:Value),tx≠ty→∀ k,(Op.equalIn (k+2) t (.iface tx vx) (.iface ty vy)).run P c.w = .ok false c.w:=fun tx ty vx vy hne k=>by
  simp [Op.equalIn,run_underlying hu,hne]
 unfold acw at h
 split at h <;> try (simp at h; done)
 ·obtain ⟨v,u',hv,h1,h2⟩:=hr.two
  simp at hv h
  obtain ⟨e1,e2⟩:=hv
  have := h1.sK; subst this
  obtain ⟨_,rfl,_⟩:=h2.eG
  obtain ⟨rfl,rfl⟩:=h
  exact key _ _ false e1 e2 (fun k=>afQ c.w (k+1) hu _ _) (fun w=>by cases n <;> simp [eqGuard]) (fun b=>by cases b <;> simp [binOp]) (by simp) rfl
 ·obtain ⟨v,u',hv,h1,h2⟩:=hr.two
  simp at hv h
  obtain ⟨e1,e2⟩:=hv
  have := h2.sK; subst this
  obtain ⟨_,rfl,_⟩:=h1.eG
  obtain ⟨rfl,rfl⟩:=h
  exact key _ _ false e1 e2 (fun k=>afR c.w (k+1) hu _ _) (fun w=>by cases n <;> simp [eqGuard]) (fun b=>by cases b <;> simp [binOp]) (by simp) rfl
 ·rename_i tx k x ty k' y
  obtain ⟨v,u',hv,h1,h2⟩:=hr.two
  simp at hv
  obtain ⟨e1,e2⟩:=hv
  obtain ⟨vx,rfl,hx⟩:=h1.eG
  obtain ⟨vy,rfl,hy⟩:=h2.eG
  have := hx.bg; subst this
  have := hy.bg; subst this
  cases hb:Nat.beq tx ty <;> simp only [hb,cond_true,cond_false] at h
  ·have hne:tx≠ty:=fun e=>by rw [e,Nat.beq_refl] at hb; simp at hb
   simp at h
   exact key _ _ false e1 e2 (tys _ _ _ _ hne) (fun w=>by cases n <;> simp [eqGuard]) (fun b=>by cases b <;> simp [binOp]) (by rw [← h.1]; simp) h.2.symm
  ·have := Nat.eq_of_beq_eq_true hb
   subst this
   cases hk:(ts.contains tx && k==k') <;> simp only [hk,cond_true,cond_false] at h
   ·simp at h
   ·simp only [Bool.and_eq_true,beq_iff_eq] at hk
    obtain ⟨hk1,rfl⟩:=hk
    obtain ⟨q0,i,hq,hi,hcmp⟩:=Vq hts hk1
    simp only [Option.some.injEq,Prod.mk.injEq] at h
    refine key _ _ (x==y) e1 e2 (fun j=>?_) (fun w=>by cases n <;> simp [eqGuard]) (fun b=>by cases b <;> simp [binOp]) h.1.symm h.2.symm
    simp [Op.equalIn,run_underlying hu,run_underlying hq,typeInfo,hi,hcmp]
 ·rename_i tx dx ty dy _
  obtain ⟨v,u',hv,h1,h2⟩:=hr.two
  simp at hv
  obtain ⟨e1,e2⟩:=hv
  obtain ⟨vx,rfl,hx⟩:=h1.eG
  obtain ⟨vy,rfl,hy⟩:=h2.eG
  cases hb:Nat.beq tx ty <;> simp [hb] at h
  have hne:tx≠ty:=fun e=>by rw [e,Nat.beq_refl] at hb; simp at hb
  exact key _ _ false e1 e2 (tys _ _ _ _ hne) (fun w=>by cases n <;> simp [eqGuard]) (fun b=>by cases b <;> simp [binOp]) (by rw [← h.1]; simp) h.2.symm
end
end Go.Ev
