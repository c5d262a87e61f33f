/- A part of the proof of priceAll_card, yieldAll_card, priceSum_card, flowAll_card, accrAll_card. -/
import Derived.Test.YtfkdcfbleblgoaaGreatDoorCFz
set_option linter.unusedVariables false
set_option linter.unusedSimpArgs false
namespace Go.Ev
section
variable {P:Program} {w0:World}
def Base (w0:World) (c:Ctx):Prop:=∀ b,b<w0.heap.size→c.S b∧c.w.heap[b]?=w0.heap[b]?
theorem Base.ext {w0:World} {c c':Ctx} (h:Base w0 c) (he:Ext c c'):Base w0 c':=fun b hb=>⟨he.S b (h b hb).1,by rw [he.heap b (h b hb).1]; exact (h b hb).2⟩
def U_ (P:Program) (f:Nat) (vs:Array Value) (w:World) (Φ:Ending→World→Prop):Prop :=
 ((∃ fn,P.funcs[f]?=some fn∧fn.body.isSome=true∧(fn.name == "runtime.NumGoroutine")=false)∧Calls P f vs w Φ) ∨
 ∃ v w',(callFunc f vs).run P w = .ok (.value v) w'∧Φ (.returned v) w'
theorem U_.mono {f:Nat} {vs:Array Value} {w:World} {Φ Ψ:Ending→World→Prop} (h:U_ P f vs w Φ) (hi:∀ e w',Φ e w'→Ψ e w'):U_ P f vs w Ψ:=by
 rcases h with ⟨h1,h2⟩ | ⟨v,w',h1,h2⟩
 ·exact .inl ⟨h1,h2.mono hi⟩
 ·exact .inr ⟨v,w',h1,hi _ _ h2⟩
def IU (P:Program) (w0:World) (f:Nat) (args:List D) (m:Mem) (r:D) (m':Mem):Prop :=
 ∀ (c:Ctx) (vs:List Value),Base w0 c→Inv c m→dM c args vs→U_ P f vs.toArray c.w fun e w'=>∃ v c',e = .returned v∧c'.w=w'∧Rep c' r v∧Inv c' m'∧Step c m c' m'
theorem ZE {f:Nat} {fn:Func} (h1:P.funcs[f]?=some fn) (h2:fn.body.isSome=true) (h3:(fn.name == "runtime.NumGoroutine")=false) (args:Array Value) (w:World) :
  (callFunc f args).run P w = .ok (.enter f args) w:=by
 have h3':¬ (fn.name = "runtime.NumGoroutine"):=by simpa using h3
 have h4:fn.body.isNone=false:=by cases hb:fn.body <;> simp_all
 unfold callFunc
 rw [Sem.run_bind]
 simp only [run_program,Result.andThen_ok,h1]
 simp [h3',h4]
theorem Step.outer {c:Ctx} {m m2:Mem} (hi:Inv c m) {L0:Nat→Prop} {β0:Nat→Nat×Nat} {z0:Nat→Nat} {c2:Ctx} (hi2:Inv c2 m2) (h:Step { L:=L0,β:=β0,sz:=z0,S:=c.S,w:=c.w } [] c2 m2) :
  Inv { c with S:=c2.S,w:=c2.w } m∧Step c m { c with S:=c2.S,w:=c2.w } m:=by
 have hnm:∀ b,¬ Nu { L:=L0,β:=β0,sz:=z0,S:=c.S,w:=c.w } [] b:=by
  rintro b (⟨i,cells,h,_⟩ | ⟨i,cells,h,_⟩)
  all_goals simp at h
 have hold:∀ b,b<c.w.heap.size→c2.w.heap[b]?=c.w.heap[b]?:=fun b hb=>h.frame b hb (hnm b)
 have hS:∀ b,c2.S b→c.S b∨c.w.heap.size≤b:=fun b hb=>(h.b_ b hb).imp id (fun h=>h.resolve_right (hnm b))
 exact hi.more _ _ h.ext.S hS hi2.lt h.size hold h.out
theorem Inv.nil {c:Ctx} {m:Mem} (hi:Inv c m):Inv { L:=fun _=>False,β:=c.β,sz:=c.sz,S:=c.S,w:=c.w } [] :=
 ⟨fun i h=>h.elim,hi.lt,fun i cells h=>by simp at h,fun i cells h=>by simp at h,fun i j ci cj h=>by simp at h,fun i cells h=>by simp at h,fun i j ci cj h=>by simp at h⟩
inductive FL (S:Nat→Prop) (w:World):List D→List Value→Prop
 | nil:FL S w [] []
 | cons {d:D} {v:Value} {ds:List D} {vs:List Value} (h:F S w d v) (hs:FL S w ds vs):FL S w (d::ds) (v::vs)
theorem FL.rep {c:Ctx} {ds:List D} {vs:List Value} (h:FL c.S c.w ds vs):dM c ds vs:=by
 induction h with
 | nil=>exact .nil
 | cons h _ ih=>exact .cons (.b_ _ _ h) ih
theorem FL.ayd {c:Ctx} {n:Nat} {ds:List D} {vs:List Value} (h:dM c ds vs) (hc:ds.all (D.clo 0 n)=true):FL c.S c.w ds vs:=by
 induction h with
 | nil=>exact .nil
 | cons h _ ih =>
   simp at hc
   exact .cons (Cm n hc.1 h) (ih (by simpa using hc.2))
theorem agy {O:h_} {f:Nat} {args:List D} {d:D} {c:Ctx} {m:Mem} {vs:List Value} (hO:∀ r m',O.bf f args []=some (r,m')→IU P w0 f args [] r m') (hB:Base w0 c) (hi:Inv c m) (hr:FL c.S c.w args vs) (h:yJ (O.bf f args [])=some d) :
  U_ P f vs.toArray c.w fun e w'=>∃ v c',e = .returned v∧c'.w=w'∧F c'.S c'.w d v∧Inv c' m∧Step c m c' m:=by
 unfold yJ at h
 rw [Option.bind_eq_some_iff] at h
 obtain ⟨⟨r,m1⟩,h1,h⟩:=h
 rw [Option.bind_eq_some_iff] at h
 obtain ⟨⟨d1,m2⟩,h2,h⟩:=h
 simp at h
 subst h
 have hcall:=hO r m1 h1
 refine (hcall { L:=fun _=>False,β:=c.β,sz:=c.sz,S:=c.S,w:=c.w } vs hB hi.nil (FL.rep (c:={ L:=fun _=>False,β:=c.β,sz:=c.sz,S:=c.S,w:=c.w }) hr)).mono ?_
 rintro e w' ⟨v,c1,rfl,rfl,hrep,hi1,hs1⟩
 obtain ⟨c2,hw2,hi2,hs2,hF⟩:=aic FZ r m1 d1 m2 h2 c1 hi1 ⟨v,hrep⟩
 obtain ⟨hi3,hs3⟩:=Step.outer hi hi2 (hs1.trans hs2)
 exact ⟨v,{ c with S:=c2.S,w:=c2.w },rfl,hw2,hF v hrep,hi3,hs3⟩
structure mD (P:Program) (w0:World) (O:h_):Prop where
 a:∀ f args m r m',O.bf f args m=some (r,m')→IU P w0 f args m r m'
 p:∀ f args d,O.call f args=some d→yJ (O.bf f args [])=some d
variable {o:Oper} {a:Act} {c:Ctx} {m m':Mem} {ds:List D} {d:D} {O:h_}
theorem asw {g:Operand} {args:Array Operand} {ts:Array TypeId} {f:Nat} {cap:Array Value} (hop:o.op = .call ⟨.value g,args,ts⟩) (hg:a.eval g = .func (.func f) #[] cap)
  (hfn:∃ fn,P.funcs[f]?=some fn∧fn.body.isSome=true∧(fn.name == "runtime.NumGoroutine")=false) (w:World) :
  (execOp a.eval o).run P w = .ok (.enter f (args.map a.eval++cap)) w:=by
 obtain ⟨fn,h1,h2,h3⟩:=hfn
 simp only [execOp,hop,resolve,hg,Deferred.ofValue,Sem.run_bind,Sem.run_pure,Result.andThen_ok,invoke]
 rw [ZE h1 h2 h3]
 simp
theorem aoz {g:Operand} {args:Array Operand} {ts:Array TypeId} {f:Nat} {cap:Array Value} (hop:o.op = .call ⟨.value g,args,ts⟩) (hg:a.eval g = .func (.func f) #[] cap) {w w':World} {v:Value}
  (hx:(callFunc f (args.map a.eval++cap)).run P w = .ok (.value v) w'):(execOp a.eval o).run P w = .ok (.value v) w':=by
 have h0:(callFunc f (#[]++args.map a.eval++cap)).run P w = .ok (.value v) w':=by simpa using hx
 simp only [execOp,hop,resolve,hg,Deferred.ofValue,Sem.run_bind,Sem.run_pure,Result.andThen_ok,invoke]
 simpa [Result.andThen] using hx
def auH (f:Nat) (op:Op):Option (List Operand):=match op with
 | .call ⟨.value (.func f'),args,_⟩=>if f=f' then some args.toList else none
 | _=>none
theorem ajC {f:Nat} {op:Op} {ys:List Operand} {k:K} (hk:k = .pU f∨k = .aaI f∨k = .bf f) (h:aZ P k op=some ys):∃ args ts,op = .call ⟨.value (.func f),args,ts⟩∧ys=args.toList:=by
 have h':auH f op=some ys:=by rcases hk with rfl | rfl | rfl <;> exact h
 unfold auH at h'
 split at h'
 ·split at h'
  ·rename_i e
   simp at h'
   subst e
   exact ⟨_,_,rfl,h'.symm⟩
  ·simp at h'
 ·simp at h'
theorem ayu {f:Nat} (hO:mD P w0 O) (hB:Base w0 c) (q:Asked P (.bf f) o a c m ds) (h:O.bf f ds m=some (d,m')):Sound P o a c m d m':=by
 obtain ⟨ys,hc,hr⟩:=q.chk
 obtain ⟨args,ts,hop,rfl⟩:=ajC (.inr (.inr rfl)) hc
 have hcall:=hO.a f ds m d m' h
 intro Kn Q hk
 unfold Oper.wp
 have he:(args.map a.eval++(#[]:Array Value))=(args.toList.map a.eval).toArray:=by cases args; simp
 rcases hcall c _ hB q.inv hr with ⟨hfn,hcall⟩ | ⟨v,w',hx,v',c',hv,rfl,h1,h2,h3⟩
 ·rw [asw hop (show a.eval (.func f) = .func (.func f) #[] #[] from rfl) hfn c.w,Oper.upon_enter]
  rw [he]
  refine hcall.mono ?_
  rintro e w' ⟨v,c',rfl,rfl,h1,h2,h3⟩
  exact hk v c' h1 h2 h3
 ·simp at hv
  subst hv
  rw [aoz hop (show a.eval (.func f) = .func (.func f) #[] #[] from rfl) (by rw [he]; exact hx),Oper.upon_value]
  exact hk v c' h1 h2 h3
theorem ae9 {f:Nat} {g:Operand} {args:Array Operand} {ts:Array TypeId} {cap:Array Value} {c1:Ctx} {m1:Mem} {fargs:List D} (hO:mD P w0 O) (hB:Base w0 c) (hop:o.op = .call ⟨.value g,args,ts⟩) (hg:a.eval g = .func (.func f) #[] cap)
  (hw:c1.w=c.w) (hi1:Inv c1 m1) (hs1:Step c m c1 m1) (hF:FL c1.S c1.w fargs (args.toList.map a.eval++cap.toList)) (h:O.call f fargs=some d):Sound P o a c m d m1:=by
 have hcall:=agy (P:=P) (w0:=w0) (fun r m'=>hO.a f fargs [] r m') (hB.ext hs1.ext) hi1 hF (hO.p _ _ _ h)
 intro Kn Q hk
 unfold Oper.wp
 have he:args.map a.eval++cap=(args.toList.map a.eval++cap.toList).toArray:=by cases args; cases cap; simp
 rcases hcall with ⟨hfn,hcall⟩ | ⟨v,w',hx,v',c',hv,rfl,h1,h2,h3⟩
 ·rw [asw hop hg hfn c.w,Oper.upon_enter]
  rw [he]
  rw [← hw]
  refine hcall.mono ?_
  rintro e w' ⟨v,c',rfl,rfl,h1,h2,h3⟩
  exact hk v c' (.b_ _ _ h1) h2 (hs1.trans h3)
 ·simp at hv
  subst hv
  rw [aoz hop hg (by rw [he,← hw]; exact hx),Oper.upon_value]
  exact hk v c' (.b_ _ _ h1) h2 (hs1.trans h3)
theorem ayv {f:Nat} (hO:mD P w0 O) (hB:Base w0 c) (q:Asked P (.aaI f) o a c m ds) (h:uH O f ds m=some (d,m')):Sound P o a c m d m':=by
 obtain ⟨ys,hc,hr⟩:=q.chk
 obtain ⟨args,ts,hop,rfl⟩:=ajC (.inr (.inl rfl)) hc
 unfold uH at h
 rcases hall:ds.all (D.clo 0 FZ) with _ | _
 ·rw [hall] at h; simp at h
 rw [hall,cond_true] at h
 rw [Option.bind_eq_some_iff] at h
 obtain ⟨d1,h1,h⟩:=h
 simp at h
 obtain ⟨rfl,rfl⟩:=h
 exact ae9 hO hB hop (show a.eval (.func f) = .func (.func f) #[] #[] from rfl) rfl q.inv (.refl c m) (by simpa using FL.ayd hr hall) h1
theorem ag_:∀ {ds ds':List D} {vs:List Value} {c c':Ctx},dM c ds vs→ds'.length=ds.length→(∀ (j:Nat) (d':D),ds'[j]?=some d'→∃ d,ds[j]?=some d∧∀ v,Rep c d v→F c'.S c'.w d' v)→FL c'.S c'.w ds' vs
 | [],ds',_,c,c',.nil,hl,h=>by
   simp at hl
   subst hl
   exact .nil
 | d::ds,ds',_,c,c',.cons h1 h2,hl,h=>by
   cases ds' with
   | nil=>simp at hl
   | cons d' ds' =>
     obtain ⟨d0,q1,q2⟩:=h 0 d' rfl
     simp at q1
     subst q1
     exact .cons (q2 _ h1) (ag_ h2 (by simpa using hl) (fun j e he=>by
      obtain ⟨d0,q1,q2⟩:=h (j+1) e (by simpa using he)
      exact ⟨d0,by simpa using q1,q2⟩))
theorem dM.ex {c:Ctx} {ds:List D} {vs:List Value} (h:dM c ds vs):∀ d∈ds,∃ v,Rep c d v:=by
 induction h with
 | nil=>intro d hd; simp at hd
 | cons h _ ih =>
   intro d hd
   simp at hd
   rcases hd with rfl | hd
   ·exact ⟨_,h⟩
   ·exact ih d hd
theorem dM.append {c:Ctx} {ds es:List D} {vs us:List Value} (h:dM c ds vs) (h':dM c es us):dM c (ds++es) (vs++us):=by
 induction h with
 | nil=>exact h'
 | cons h _ ih=>exact .cons h ih
theorem ayw {f:Nat} (hO:mD P w0 O) (hB:Base w0 c) (q:Asked P (.pU f) o a c m ds) (h:yL O f ds m=some (d,m')):Sound P o a c m d m':=by
 obtain ⟨ys,hc,hr⟩:=q.chk
 obtain ⟨args,ts,hop,rfl⟩:=ajC (.inl rfl) hc
 unfold yL at h
 rw [Option.bind_eq_some_iff] at h
 obtain ⟨⟨fargs,m1⟩,h1,h⟩:=h
 rw [Option.bind_eq_some_iff] at h
 obtain ⟨d1,h2,h⟩:=h
 simp at h
 obtain ⟨rfl,rfl⟩:=h
 obtain ⟨c1,hw,hi1,hs1,hl,hF⟩:=QA (aic FZ) ds m fargs m1 h1 c q.inv hr.ex
 exact ae9 hO hB hop (show a.eval (.func f) = .func (.func f) #[] #[] from rfl) hw hi1 hs1 (by simpa using ag_ hr hl hF) h2
theorem Zj {name:String}:∀ {tab:List (Nat×Nat)} {u f:Nat},adb P name tab=true→wX tab u=some f→ada P u name f=true
 | [],u,f,_,h=>by simp [wX] at h
 | (u',f')::r,u,f,hc,h=>by
   simp only [adb,Bool.and_eq_true] at hc
   simp only [wX,cond_eq_ite] at h
   split at h
   ·rename_i e
    have := Nat.eq_of_beq_eq_true e
    subst this
    simp at h
    subst h
    exact hc.1
   ·exact Zj hc.2 h
theorem awD {u f:Nat} {name:String} (h:ada P u name f=true) (v:Value) (k:Nat) (w:World):(method (k+1) u v name).run P w = .ok (f,v) w:=by
 unfold ada at h
 split at h <;> try (simp at h; done)
 rename_i mt hm
 rw [Option.bind_eq_some_iff] at hm
 obtain ⟨i,hi,hm⟩:=hm
 split at h <;> try (simp at h; done)
 rename_i g pr hp hf
 simp only [Bool.and_eq_true] at h
 obtain ⟨h1,h2⟩:=h
 have := Nat.eq_of_beq_eq_true h1
 subst this
 cases hu:P.underlying u with
 | none=>rw [hu] at h2; simp at h2
 | some d =>
   rw [hu] at h2
   cases d
   case pointer e =>
    simp only at h2
    subst h2
    simp [method,typeInfo,hi,hm,hp,hf,follow,receiverAt,run_underlying hu,Place.get]
   all_goals
    simp only [Bool.not_eq_true'] at h2
    subst h2
    simp [method,typeInfo,hi,hm,hp,hf,follow,receiverAt,run_underlying hu,Place.get]
theorem aAi {recv:Operand} {name:String} {args:Array Operand} {ts:Array TypeId} {u f:Nat} {v:Value} (hop:o.op = .call ⟨.invoke recv name,args,ts⟩) (hg:a.eval recv = .iface u v) (hm:ada P u name f=true) (w:World) :
  (execOp a.eval o).run P w=(callFunc f (#[v]++args.map a.eval)).run P w:=by
 have hfuel:∃ k,P.types.size+Made.depth=k+1:=⟨P.types.size+99,rfl⟩
 obtain ⟨k,hk⟩:=hfuel
 simp only [execOp,hop,resolve,hg,Sem.run_bind,Sem.run_pure,Result.andThen_ok,invoke]
 have he:(#[Value.iface u v]++args.map a.eval)[0]?=some (.iface u v):=by rw [Array.getElem?_append_left (by simp)]; rfl
 have hx:(#[Value.iface u v]++args.map a.eval).extract 1 (#[Value.iface u v]++args.map a.eval).size=args.map a.eval:=by
  apply Array.ext'
  simp
  exact List.take_of_length_le (by simp)
 simp only [he,hx,callMethod]
 simp [hk,awD hm v k w]
theorem aoK {u f:Nat} {recv:Operand} {name:String} {args:Array Operand} {ts:Array TypeId} {v:Value} {c1:Ctx} {m1:Mem} {fargs:List D} (hO:mD P w0 O) (hB:Base w0 c) (hop:o.op = .call ⟨.invoke recv name,args,ts⟩) (hg:a.eval recv = .iface u v)
  (hm:ada P u name f=true) (hw:c1.w=c.w) (hi1:Inv c1 m1) (hs1:Step c m c1 m1) (hF:FL c1.S c1.w fargs (v::args.toList.map a.eval)) (h:O.call f fargs=some d):Sound P o a c m d m1:=by
 have hcall:=agy (P:=P) (w0:=w0) (fun r m'=>hO.a f fargs [] r m') (hB.ext hs1.ext) hi1 hF (hO.p _ _ _ h)
 intro Kn Q hk
 unfold Oper.wp
 have he : #[v]++args.map a.eval=(v::args.toList.map a.eval).toArray:=by cases args; simp
 rw [aAi hop hg hm c.w,he]
 rcases hcall with ⟨⟨fn,q1,q2,q3⟩,hcall⟩ | ⟨r,w',hx,v',c',hv,rfl,h1,h2,h3⟩
 ·rw [ZE q1 q2 q3,Oper.upon_enter]
  rw [← hw]
  refine hcall.mono ?_
  rintro e w' ⟨v,c',rfl,rfl,h1,h2,h3⟩
  exact hk v c' (.b_ _ _ h1) h2 (hs1.trans h3)
 ·simp at hv
  subst hv
  rw [← hw,hx,Oper.upon_value]
  exact hk _ c' (.b_ _ _ h1) h2 (hs1.trans h3)
theorem aqD {tab:List (Nat×Nat)} {op:Op} {ys:List Operand} {k:K} (hk:k = .QE tab∨k = .akf tab) (h:aZ P k op=some ys):∃ recv name args ts,op = .call ⟨.invoke recv name,args,ts⟩∧ys=recv::args.toList∧adb P name tab=true:=by
 have h':aZ P (.QE tab) op=some ys:=by rcases hk with rfl | rfl <;> simpa only [aZ] using h
 simp only [aZ] at h'
 split at h' <;> try (simp at h'; done)
 rw [Option.ite_none_right_eq_some] at h'
 obtain ⟨h1,h'⟩:=h'
 simp at h'
 exact ⟨_,_,_,_,rfl,h'.symm,h1⟩
theorem aAs {tab:List (Nat×Nat)} (hO:mD P w0 O) (hB:Base w0 c) (q:Asked P (.QE tab) o a c m ds) (h:Q_ O tab ds m=some (d,m')):Sound P o a c m d m':=by
 obtain ⟨ys,hc,hr⟩:=q.chk
 obtain ⟨recv,name,args,ts,hop,rfl,hall⟩:=aqD (.inl rfl) hc
 unfold Q_ at h
 split at h <;> try (simp at h; done)
 rename_i u e dargs
 rw [Option.bind_eq_some_iff] at h
 obtain ⟨f,hf,h⟩:=h
 unfold uH at h
 rcases hcl:(e::dargs).all (D.clo 0 FZ) with _ | _
 ·rw [hcl] at h; simp at h
 rw [hcl,cond_true,Option.bind_eq_some_iff] at h
 obtain ⟨d1,h1,h⟩:=h
 simp only [Option.some.injEq,Prod.mk.injEq] at h
 obtain ⟨rfl,rfl⟩:=h
 generalize hvs:List.map a.eval (recv::args.toList)=vs at hr
 cases hr with
 | cons hr1 hr2 =>
   simp only [List.map_cons,List.cons.injEq] at hvs
   obtain ⟨e1,rfl⟩:=hvs
   obtain ⟨v,rfl,hv⟩:=hr1.ig
   exact aoK hO hB hop e1 (Zj hall hf) rfl q.inv (.refl c m) (FL.ayd (.cons hv hr2) hcl) h1
theorem aAt {tab:List (Nat×Nat)} (hO:mD P w0 O) (hB:Base w0 c) (q:Asked P (.akf tab) o a c m ds) (h:UQ O tab ds m=some (d,m')):Sound P o a c m d m':=by
 obtain ⟨ys,hc,hr⟩:=q.chk
 obtain ⟨recv,name,args,ts,hop,rfl,hall⟩:=aqD (.inr rfl) hc
 unfold UQ at h
 split at h <;> try (simp at h; done)
 rename_i u e dargs
 rw [Option.bind_eq_some_iff] at h
 obtain ⟨f,hf,h⟩:=h
 unfold yL at h
 rw [Option.bind_eq_some_iff] at h
 obtain ⟨⟨fargs,m1⟩,h1,h⟩:=h
 rw [Option.bind_eq_some_iff] at h
 obtain ⟨d1,h2,h⟩:=h
 simp only [Option.some.injEq,Prod.mk.injEq] at h
 obtain ⟨rfl,rfl⟩:=h
 generalize hvs:List.map a.eval (recv::args.toList)=vs at hr
 cases hr with
 | cons hr1 hr2 =>
   simp only [List.map_cons,List.cons.injEq] at hvs
   obtain ⟨e1,rfl⟩:=hvs
   obtain ⟨v,rfl,hv⟩:=hr1.ig
   have hall2:=dM.cons hv hr2
   obtain ⟨c1,hw,hi1,hs1,hl1,hF⟩:=QA (aic FZ) (e::dargs) m fargs m1 h1 c q.inv hall2.ex
   exact aoK hO hB hop e1 (Zj hall hf) hw hi1 hs1 (ag_ hall2 hl1 hF) h2
theorem ayx (hO:mD P w0 O) (hB:Base w0 c) (q:Asked P .ad9 o a c m ds) (h:NU O ds m=some (d,m')):Sound P o a c m d m':=by
 obtain ⟨ys,hc,hr⟩:=q.chk
 obtain ⟨g,args,ts,hop,rfl⟩:∃ g args ts,o.op = .call ⟨.value g,args,ts⟩∧ys=g::args.toList:=by
  simp only [aZ] at hc; split at hc <;> simp at hc
  exact ⟨_,_,_,by assumption,hc.symm⟩
 unfold NU at h
 split at h <;> try (simp at h; done)
 rename_i f cap dargs
 rw [Option.bind_eq_some_iff] at h
 obtain ⟨⟨fargs,m1⟩,h1,h⟩:=h
 rw [Option.bind_eq_some_iff] at h
 obtain ⟨d1,h2,h⟩:=h
 simp at h
 obtain ⟨rfl,rfl⟩:=h
 simp only [List.map_cons] at hr
 cases hr with
 | cons hr1 hr2 =>
   obtain ⟨vs,g',e1,hl,hg,hr'⟩:=hr1.TQ
   have hcap:dM c cap vs.toList:=by
    have : ∀ (l:List D) (us:List Value),us.length=l.length→(∀ (j:Nat) (d:D),l[j]?=some d→∃ v,us[j]?=some v∧Rep c d v)→dM c l us:=by
     intro l
     induction l with
     | nil=>intro us h1 _; simp at h1; subst h1; exact .nil
     | cons d l ih =>
       intro us h1 h2
       cases us with
       | nil=>simp at h1
       | cons u us =>
         obtain ⟨v,q1,q2⟩:=h2 0 d rfl
         simp at q1
         subst q1
         exact .cons q2 (ih us (by simpa using h1) (fun j e he=>by simpa using h2 (j+1) e (by simpa using he)))
    refine this cap vs.toList (by simpa using hl) (fun j d hd=>?_)
    have hj:j<cap.length:=(List.getElem?_eq_some_iff.1 hd).1
    exact ⟨g' j,by simpa using hg j hj,hr' j d hd⟩
   have hall:=hr2.append hcap
   obtain ⟨c1,hw,hi1,hs1,hl1,hF⟩:=QA (aic FZ) (dargs++cap) m fargs m1 h1 c q.inv hall.ex
   exact ae9 hO hB hop e1 hw hi1 hs1 (ag_ hall hl1 hF) h2
theorem K.sound {k:K} {base:Nat} (hO:mD P w0 O) (hB:Base w0 c) (q:Asked P k o a c m ds) (h:k.run O base ds m=some (d,m')):Sound P o a c m d m':=by
 cases k <;> simp only [K.run] at h
 case mov=>exact aCF q h
 case pick=>exact aAB q h
 case box=>exact aCt q h
 case alloc=>exact ays q h
 case aaZ=>exact aoI q h
 case alv=>exact ayz q h
 case aa0=>exact ahP q h
 case apZ n =>
  refine ahP (n:=n) ⟨q.chk,q.inv⟩ ?_
  unfold VA at h
  split at h
  ·exact h
  ·simp at h
 case UK n =>
  refine ahP (n:=n) ⟨q.chk,q.inv⟩ ?_
  unfold Rh at h
  split at h
  ·split at h
   ·exact h
   ·simp at h
  ·simp at h
 case RZ n =>
  refine aoJ (n:=n) ⟨q.chk,q.inv⟩ ?_
  unfold Pn at h
  split at h
  ·split at h
   ·exact h
   ·simp at h
  ·simp at h
 case store=>exact aoJ q h
 case build=>exact ayt q h
 case bsl=>exact aCu q h
 case abE=>exact aAn q h
 case aeG=>exact ayA q h
 case mF=>exact aAl q h
 case sh=>exact aDP q h
 case Td=>exact aAm q h
 case eqB=>exact aCw q h
 case eqP=>exact aCz q h
 case eqN=>exact aCy q h
 case eqE=>simp at h
 case eqA=>exact aCv q h
 case neg=>exact aCG q h
 case inv=>exact aCD q h
 case not=>exact aCH q h
 case conv=>exact aAo q h
 case b2s=>exact aCs q h
 case eqS=>exact aCA q h
 case akn=>exact aAy q h
 case akm=>exact aAx q h
 case aeD=>exact aAz q h
 case slS=>exact aCJ q h
 case slL=>exact aCI q h
 case ajJ=>exact aAp q h
 case akc=>exact aAq q h
 case aex=>exact ayy q h
 case akd=>exact aAr q h
 case ext=>exact aCB q h
 case fld=>exact aCC q h
 case akk=>exact aAv q h
 case akj=>exact aAu q h
 case mn=>exact aDN q h
 case mx=>exact aDO q h
 case app=>exact aCr q h
 case pU=>exact ayw hO hB q h
 case aaI=>exact ayv hO hB q h
 case bf=>exact ayu hO hB q h
 case ad9=>exact ayx hO hB q h
 case mkm=>exact aCE q h
 case akp=>exact aAA q h
 case ahm=>exact aAw q h
 case ahU=>exact aAC q h
 case acF=>exact aAD q h
 case QE=>exact aAs hO hB q h
 case akf=>exact aAt hO hB q h
 case eqF=>exact aCx q h
 case stop=>simp at h
end
end Go.Ev
