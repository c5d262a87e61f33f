/- A part of the proof of riskZero_card, yieldPar_card, pricePar_card. -/
import Derived.Test.YtheeamloonpolaaGreatDoorCFz
set_option linter.unusedVariables false
set_option linter.unusedSimpArgs false
namespace Go.Ev
section
variable {P:Program} {w0:World}
def Base (w0:World) (c:Ctx):Prop:=∀ b,b<w0.heap.size→c.S b∧c.w.heap[b]?=w0.heap[b]?
theorem Base.ext {w0:World} {c c':Ctx} (h:Base w0 c) (he:Ext c c'):Base w0 c':=fun b hb=>⟨he.S b (h b hb).1,by rw [he.heap b (h b hb).1]; exact (h b hb).2⟩
def NQ (P:Program) (f:Nat) (vs:Array Value) (w:World) (Φ:Ending→World→Prop):Prop :=
 ((∃ fn,P.funcs[f]?=some fn∧fn.body.isSome=true∧(fn.name == "runtime.NumGoroutine")=false)∧Calls P f vs w Φ) ∨
 ∃ v w',(callFunc f vs).run P w = .ok (.value v) w'∧Φ (.returned v) w'
theorem NQ.mono {f:Nat} {vs:Array Value} {w:World} {Φ Ψ:Ending→World→Prop} (h:NQ P f vs w Φ) (hi:∀ e w',Φ e w'→Ψ e w'):NQ P f vs w Ψ:=by
 rcases h with ⟨h1,h2⟩ | ⟨v,w',h1,h2⟩
 ·exact .inl ⟨h1,h2.mono hi⟩
 ·exact .inr ⟨v,w',h1,hi _ _ h2⟩
def Du (P:Program) (w0:World) (f:Nat) (args:List D) (m:Mem) (r:D) (m':Mem):Prop :=
 ∀ (c:Ctx) (vs:List Value),Base w0 c→Inv c m→dS c args vs→NQ P f vs.toArray c.w fun e w'=>∃ v c',e = .returned v∧c'.w=w'∧Rep c' r v∧Inv c' m'∧Step c m c' m'
theorem Rz {f:Nat} {fn:Func} (h1:P.funcs[f]?=some fn) (h2:fn.body.isSome=true) (h3:(fn.name == "runtime.NumGoroutine")=false) (args:Array Value) (w:World) :
  (callFunc f args).run P w = .ok (.enter f args) w:=by
 have h3':¬ (fn.name = "runtime.NumGoroutine"):=by simpa using h3
 have h4:fn.body.isNone=false:=by cases hb:fn.body <;> simp_all
 unfold callFunc
 rw [Sem.run_bind]
 simp only [run_program,Result.andThen_ok,h1]
 simp [h3',h4]
theorem Step.outer {c:Ctx} {m m2:Mem} (hi:Inv c m) {L0:Nat→Prop} {β0:Nat→Nat×Nat} {z0:Nat→Nat} {c2:Ctx} (hi2:Inv c2 m2) (h:Step { L:=L0,β:=β0,sz:=z0,S:=c.S,w:=c.w } [] c2 m2) :
  Inv { c with S:=c2.S,w:=c2.w } m∧Step c m { c with S:=c2.S,w:=c2.w } m:=by
 have hnm:∀ b,¬ F6 { L:=L0,β:=β0,sz:=z0,S:=c.S,w:=c.w } [] b:=by
  rintro b (⟨i,cells,h,_⟩ | ⟨i,cells,h,_⟩)
  all_goals simp at h
 have hold:∀ b,b<c.w.heap.size→c2.w.heap[b]?=c.w.heap[b]?:=fun b hb=>h.frame b hb (hnm b)
 have hS:∀ b,c2.S b→c.S b∨c.w.heap.size≤b:=fun b hb=>(h.dw b hb).imp id (fun h=>h.resolve_right (hnm b))
 exact hi.more _ _ h.ext.S hS hi2.lt h.size hold h.out
theorem Inv.nil {c:Ctx} {m:Mem} (hi:Inv c m):Inv { L:=fun _=>False,β:=c.β,sz:=c.sz,S:=c.S,w:=c.w } [] :=
 ⟨fun i h=>h.elim,hi.lt,fun i cells h=>by simp at h,fun i cells h=>by simp at h,fun i j ci cj h=>by simp at h,fun i cells h=>by simp at h,fun i j ci cj h=>by simp at h⟩
inductive FL (S:Nat→Prop) (w:World):List D→List Value→Prop
 | nil:FL S w [] []
 | cons {d:D} {v:Value} {ds:List D} {vs:List Value} (h:F S w d v) (hs:FL S w ds vs):FL S w (d::ds) (v::vs)
theorem FL.rep {c:Ctx} {ds:List D} {vs:List Value} (h:FL c.S c.w ds vs):dS c ds vs:=by
 induction h with
 | nil=>exact .nil
 | cons h _ ih=>exact .cons (.dw _ _ h) ih
theorem FL.apd {c:Ctx} {n:Nat} {ds:List D} {vs:List Value} (h:dS c ds vs) (hc:ds.all (D.clo 0 n)=true):FL c.S c.w ds vs:=by
 induction h with
 | nil=>exact .nil
 | cons h _ ih =>
   simp at hc
   exact .cons (zG n hc.1 h) (ih (by simpa using hc.2))
theorem YV {O:aC} {f:Nat} {args:List D} {d:D} {c:Ctx} {m:Mem} {vs:List Value} (hO:∀ r m',O.bJ f args []=some (r,m')→Du P w0 f args [] r m') (hB:Base w0 c) (hi:Inv c m) (hr:FL c.S c.w args vs) (h:xu (O.bJ f args [])=some d) :
  NQ P f vs.toArray c.w fun e w'=>∃ v c',e = .returned v∧c'.w=w'∧F c'.S c'.w d v∧Inv c' m∧Step c m c' m:=by
 unfold xu at h
 rw [Option.bind_eq_some_iff] at h
 obtain ⟨⟨r,m1⟩,h1,h⟩:=h
 rw [Option.bind_eq_some_iff] at h
 obtain ⟨⟨d1,m2⟩,h2,h⟩:=h
 simp at h
 subst h
 have hcall:=hO r m1 h1
 refine (hcall { L:=fun _=>False,β:=c.β,sz:=c.sz,S:=c.S,w:=c.w } vs hB hi.nil (FL.rep (c:={ L:=fun _=>False,β:=c.β,sz:=c.sz,S:=c.S,w:=c.w }) hr)).mono ?_
 rintro e w' ⟨v,c1,rfl,rfl,hrep,hi1,hs1⟩
 obtain ⟨c2,hw2,hi2,hs2,hF⟩:=aaj FZ r m1 d1 m2 h2 c1 hi1 ⟨v,hrep⟩
 obtain ⟨hi3,hs3⟩:=Step.outer hi hi2 (hs1.trans hs2)
 exact ⟨v,{ c with S:=c2.S,w:=c2.w },rfl,hw2,hF v hrep,hi3,hs3⟩
structure mQ (P:Program) (w0:World) (O:aC):Prop where
 a:∀ f args m r m',O.bJ f args m=some (r,m')→Du P w0 f args m r m'
 p:∀ f args d,O.call f args=some d→xu (O.bJ f args [])=some d
variable {o:Oper} {a:Act} {c:Ctx} {m m':Mem} {ds:List D} {d:D} {O:aC}
theorem ajT {g:Operand} {args:Array Operand} {ts:Array TypeId} {f:Nat} {cap:Array Value} (hop:o.op = .call ⟨.value g,args,ts⟩) (hg:a.eval g = .func (.func f) #[] cap)
  (hfn:∃ fn,P.funcs[f]?=some fn∧fn.body.isSome=true∧(fn.name == "runtime.NumGoroutine")=false) (w:World) :
  (execOp a.eval o).run P w = .ok (.enter f (args.map a.eval++cap)) w:=by
 obtain ⟨fn,h1,h2,h3⟩:=hfn
 simp only [execOp,hop,resolve,hg,Deferred.ofValue,Sem.run_bind,Sem.run_pure,Result.andThen_ok,invoke]
 rw [Rz h1 h2 h3]
 simp
theorem af9 {g:Operand} {args:Array Operand} {ts:Array TypeId} {f:Nat} {cap:Array Value} (hop:o.op = .call ⟨.value g,args,ts⟩) (hg:a.eval g = .func (.func f) #[] cap) {w w':World} {v:Value}
  (hx:(callFunc f (args.map a.eval++cap)).run P w = .ok (.value v) w'):(execOp a.eval o).run P w = .ok (.value v) w':=by
 have h0:(callFunc f (#[]++args.map a.eval++cap)).run P w = .ok (.value v) w':=by simpa using hx
 simp only [execOp,hop,resolve,hg,Deferred.ofValue,Sem.run_bind,Sem.run_pure,Result.andThen_ok,invoke]
 simpa [Result.andThen] using hx
def alL (f:Nat) (op:Op):Option (List Operand):=match op with
 | .call ⟨.value (.func f'),args,_⟩=>if f=f' then some args.toList else none
 | _=>none
theorem abw {f:Nat} {op:Op} {ys:List Operand} {k:K} (hk:k = .xG f∨k = .ah f∨k = .bJ f) (h:bI P k op=some ys):∃ args ts,op = .call ⟨.value (.func f),args,ts⟩∧ys=args.toList:=by
 have h':alL f op=some ys:=by rcases hk with rfl | rfl | rfl <;> exact h
 unfold alL at h'
 split at h'
 ·split at h'
  ·rename_i e
   simp at h'
   subst e
   exact ⟨_,_,rfl,h'.symm⟩
  ·simp at h'
 ·simp at h'
theorem apu {f:Nat} (hO:mQ P w0 O) (hB:Base w0 c) (q:Asked P (.bJ f) o a c m ds) (h:O.bJ f ds m=some (d,m')):Sound P o a c m d m':=by
 obtain ⟨ys,hc,hr⟩:=q.chk
 obtain ⟨args,ts,hop,rfl⟩:=abw (.inr (.inr rfl)) hc
 have hcall:=hO.a f ds m d m' h
 intro Kn Q hk
 unfold Oper.wp
 have he:(args.map a.eval++(#[]:Array Value))=(args.toList.map a.eval).toArray:=by cases args; simp
 rcases hcall c _ hB q.inv hr with ⟨hfn,hcall⟩ | ⟨v,w',hx,v',c',hv,rfl,h1,h2,h3⟩
 ·rw [ajT hop (show a.eval (.func f) = .func (.func f) #[] #[] from rfl) hfn c.w,Oper.upon_enter]
  rw [he]
  refine hcall.mono ?_
  rintro e w' ⟨v,c',rfl,rfl,h1,h2,h3⟩
  exact hk v c' h1 h2 h3
 ·simp at hv
  subst hv
  rw [af9 hop (show a.eval (.func f) = .func (.func f) #[] #[] from rfl) (by rw [he]; exact hx),Oper.upon_value]
  exact hk v c' h1 h2 h3
theorem XC {f:Nat} {g:Operand} {args:Array Operand} {ts:Array TypeId} {cap:Array Value} {c1:Ctx} {m1:Mem} {fargs:List D} (hO:mQ P w0 O) (hB:Base w0 c) (hop:o.op = .call ⟨.value g,args,ts⟩) (hg:a.eval g = .func (.func f) #[] cap)
  (hw:c1.w=c.w) (hi1:Inv c1 m1) (hs1:Step c m c1 m1) (hF:FL c1.S c1.w fargs (args.toList.map a.eval++cap.toList)) (h:O.call f fargs=some d):Sound P o a c m d m1:=by
 have hcall:=YV (P:=P) (w0:=w0) (fun r m'=>hO.a f fargs [] r m') (hB.ext hs1.ext) hi1 hF (hO.p _ _ _ h)
 intro Kn Q hk
 unfold Oper.wp
 have he:args.map a.eval++cap=(args.toList.map a.eval++cap.toList).toArray:=by cases args; cases cap; simp
 rcases hcall with ⟨hfn,hcall⟩ | ⟨v,w',hx,v',c',hv,rfl,h1,h2,h3⟩
 ·rw [ajT hop hg hfn c.w,Oper.upon_enter]
  rw [he]
  rw [← hw]
  refine hcall.mono ?_
  rintro e w' ⟨v,c',rfl,rfl,h1,h2,h3⟩
  exact hk v c' (.dw _ _ h1) h2 (hs1.trans h3)
 ·simp at hv
  subst hv
  rw [af9 hop hg (by rw [he,← hw]; exact hx),Oper.upon_value]
  exact hk v c' (.dw _ _ h1) h2 (hs1.trans h3)
theorem apv {f:Nat} (hO:mQ P w0 O) (hB:Base w0 c) (q:Asked P (.ah f) o a c m ds) (h:uI O f ds m=some (d,m')):Sound P o a c m d m':=by
 obtain ⟨ys,hc,hr⟩:=q.chk
 obtain ⟨args,ts,hop,rfl⟩:=abw (.inr (.inl rfl)) hc
 unfold uI at h
 rcases hall:ds.all (D.clo 0 FZ) with _ | _
 ·rw [hall] at h; simp at h
 rw [hall,cond_true] at h
 rw [Option.bind_eq_some_iff] at h
 obtain ⟨d1,h1,h⟩:=h
 simp at h
 obtain ⟨rfl,rfl⟩:=h
 exact XC hO hB hop (show a.eval (.func f) = .func (.func f) #[] #[] from rfl) rfl q.inv (.refl c m) (by simpa using FL.apd hr hall) h1
theorem Za:∀ {ds ds':List D} {vs:List Value} {c c':Ctx},dS c ds vs→ds'.length=ds.length→(∀ (j:Nat) (d':D),ds'[j]?=some d'→∃ d,ds[j]?=some d∧∀ v,Rep c d v→F c'.S c'.w d' v)→FL c'.S c'.w ds' vs
 | [],ds',_,c,c',.nil,hl,h=>by
   simp at hl
   subst hl
   exact .nil
 | d::ds,ds',_,c,c',.cons h1 h2,hl,h=>by
   cases ds' with
   | nil=>simp at hl
   | cons d' ds' =>
     obtain ⟨d0,q1,q2⟩:=h 0 d' rfl
     simp at q1
     subst q1
     exact .cons (q2 _ h1) (Za h2 (by simpa using hl) (fun j e he=>by
      obtain ⟨d0,q1,q2⟩:=h (j+1) e (by simpa using he)
      exact ⟨d0,by simpa using q1,q2⟩))
theorem dS.ex {c:Ctx} {ds:List D} {vs:List Value} (h:dS c ds vs):∀ d∈ds,∃ v,Rep c d v:=by
 induction h with
 | nil=>intro d hd; simp at hd
 | cons h _ ih =>
   intro d hd
   simp at hd
   rcases hd with rfl | hd
   ·exact ⟨_,h⟩
   ·exact ih d hd
theorem dS.append {c:Ctx} {ds es:List D} {vs us:List Value} (h:dS c ds vs) (h':dS c es us):dS c (ds++es) (vs++us):=by
 induction h with
 | nil=>exact h'
 | cons h _ ih=>exact .cons h ih
theorem apw {f:Nat} (hO:mQ P w0 O) (hB:Base w0 c) (q:Asked P (.xG f) o a c m ds) (h:yT O f ds m=some (d,m')):Sound P o a c m d m':=by
 obtain ⟨ys,hc,hr⟩:=q.chk
 obtain ⟨args,ts,hop,rfl⟩:=abw (.inl rfl) hc
 unfold yT at h
 rw [Option.bind_eq_some_iff] at h
 obtain ⟨⟨fargs,m1⟩,h1,h⟩:=h
 rw [Option.bind_eq_some_iff] at h
 obtain ⟨d1,h2,h⟩:=h
 simp at h
 obtain ⟨rfl,rfl⟩:=h
 obtain ⟨c1,hw,hi1,hs1,hl,hF⟩:=JL (aaj FZ) ds m fargs m1 h1 c q.inv hr.ex
 exact XC hO hB hop (show a.eval (.func f) = .func (.func f) #[] #[] from rfl) hw hi1 hs1 (by simpa using Za hr hl hF) h2
theorem Rh {name:String}:∀ {tab:List (Nat×Nat)} {u f:Nat},VP P name tab=true→zJ tab u=some f→VO P u name f=true
 | [],u,f,_,h=>by simp [zJ] at h
 | (u',f')::r,u,f,hc,h=>by
   simp only [VP,Bool.and_eq_true] at hc
   simp only [zJ,cond_eq_ite] at h
   split at h
   ·rename_i e
    have := Nat.eq_of_beq_eq_true e
    subst this
    simp at h
    subst h
    exact hc.1
   ·exact Rh hc.2 h
theorem anH {u f:Nat} {name:String} (h:VO P u name f=true) (v:Value) (k:Nat) (w:World):(method (k+1) u v name).run P w = .ok (f,v) w:=by
 unfold VO at h
 split at h <;> try (simp at h; done)
 rename_i mt hm
 rw [Option.bind_eq_some_iff] at hm
 obtain ⟨i,hi,hm⟩:=hm
 split at h <;> try (simp at h; done)
 rename_i g pr hp hf
 simp only [Bool.and_eq_true] at h
 obtain ⟨h1,h2⟩:=h
 have := Nat.eq_of_beq_eq_true h1
 subst this
 cases hu:P.underlying u with
 | none=>rw [hu] at h2; simp at h2
 | some d =>
   rw [hu] at h2
   cases d
   case pointer e =>
    simp only at h2
    subst h2
    simp [method,typeInfo,hi,hm,hp,hf,follow,receiverAt,run_underlying hu,Place.get]
   all_goals
    simp only [Bool.not_eq_true'] at h2
    subst h2
    simp [method,typeInfo,hi,hm,hp,hf,follow,receiverAt,run_underlying hu,Place.get]
theorem arw {recv:Operand} {name:String} {args:Array Operand} {ts:Array TypeId} {u f:Nat} {v:Value} (hop:o.op = .call ⟨.invoke recv name,args,ts⟩) (hg:a.eval recv = .iface u v) (hm:VO P u name f=true) (w:World) :
  (execOp a.eval o).run P w=(callFunc f (#[v]++args.map a.eval)).run P w:=by
 have hfuel:∃ k,P.types.size+Made.depth=k+1:=⟨P.types.size+99,rfl⟩
 obtain ⟨k,hk⟩:=hfuel
 simp only [execOp,hop,resolve,hg,Sem.run_bind,Sem.run_pure,Result.andThen_ok,invoke]
 have he:(#[Value.iface u v]++args.map a.eval)[0]?=some (.iface u v):=by rw [Array.getElem?_append_left (by simp)]; rfl
 have hx:(#[Value.iface u v]++args.map a.eval).extract 1 (#[Value.iface u v]++args.map a.eval).size=args.map a.eval:=by
  apply Array.ext'
  simp
  exact List.take_of_length_le (by simp)
 simp only [he,hx,callMethod]
 simp [hk,anH hm v k w]
theorem agk {u f:Nat} {recv:Operand} {name:String} {args:Array Operand} {ts:Array TypeId} {v:Value} {c1:Ctx} {m1:Mem} {fargs:List D} (hO:mQ P w0 O) (hB:Base w0 c) (hop:o.op = .call ⟨.invoke recv name,args,ts⟩) (hg:a.eval recv = .iface u v)
  (hm:VO P u name f=true) (hw:c1.w=c.w) (hi1:Inv c1 m1) (hs1:Step c m c1 m1) (hF:FL c1.S c1.w fargs (v::args.toList.map a.eval)) (h:O.call f fargs=some d):Sound P o a c m d m1:=by
 have hcall:=YV (P:=P) (w0:=w0) (fun r m'=>hO.a f fargs [] r m') (hB.ext hs1.ext) hi1 hF (hO.p _ _ _ h)
 intro Kn Q hk
 unfold Oper.wp
 have he : #[v]++args.map a.eval=(v::args.toList.map a.eval).toArray:=by cases args; simp
 rw [arw hop hg hm c.w,he]
 rcases hcall with ⟨⟨fn,q1,q2,q3⟩,hcall⟩ | ⟨r,w',hx,v',c',hv,rfl,h1,h2,h3⟩
 ·rw [Rz q1 q2 q3,Oper.upon_enter]
  rw [← hw]
  refine hcall.mono ?_
  rintro e w' ⟨v,c',rfl,rfl,h1,h2,h3⟩
  exact hk v c' (.dw _ _ h1) h2 (hs1.trans h3)
 ·simp at hv
  subst hv
  rw [← hw,hx,Oper.upon_value]
  exact hk _ c' (.dw _ _ h1) h2 (hs1.trans h3)
theorem aiB {tab:List (Nat×Nat)} {op:Op} {ys:List Operand} {k:K} (hk:k = .JO tab∨k = .abY tab) (h:bI P k op=some ys):∃ recv name args ts,op = .call ⟨.invoke recv name,args,ts⟩∧ys=recv::args.toList∧VP P name tab=true:=by
 have h':bI P (.JO tab) op=some ys:=by rcases hk with rfl | rfl <;> simpa only [bI] using h
 simp only [bI] at h'
 split at h' <;> try (simp at h'; done)
 rw [Option.ite_none_right_eq_some] at h'
 obtain ⟨h1,h'⟩:=h'
 simp at h'
 exact ⟨_,_,_,_,rfl,h'.symm,h1⟩
theorem arG {tab:List (Nat×Nat)} (hO:mQ P w0 O) (hB:Base w0 c) (q:Asked P (.JO tab) o a c m ds) (h:ND O tab ds m=some (d,m')):Sound P o a c m d m':=by
 obtain ⟨ys,hc,hr⟩:=q.chk
 obtain ⟨recv,name,args,ts,hop,rfl,hall⟩:=aiB (.inl rfl) hc
 unfold ND at h
 split at h <;> try (simp at h; done)
 rename_i u e dargs
 rw [Option.bind_eq_some_iff] at h
 obtain ⟨f,hf,h⟩:=h
 unfold uI at h
 rcases hcl:(e::dargs).all (D.clo 0 FZ) with _ | _
 ·rw [hcl] at h; simp at h
 rw [hcl,cond_true,Option.bind_eq_some_iff] at h
 obtain ⟨d1,h1,h⟩:=h
 simp only [Option.some.injEq,Prod.mk.injEq] at h
 obtain ⟨rfl,rfl⟩:=h
 generalize hvs:List.map a.eval (recv::args.toList)=vs at hr
 cases hr with
 | cons hr1 hr2 =>
   simp only [List.map_cons,List.cons.injEq] at hvs
   obtain ⟨e1,rfl⟩:=hvs
   obtain ⟨v,rfl,hv⟩:=hr1.iw
   exact agk hO hB hop e1 (Rh hall hf) rfl q.inv (.refl c m) (FL.apd (.cons hv hr2) hcl) h1
theorem arH {tab:List (Nat×Nat)} (hO:mQ P w0 O) (hB:Base w0 c) (q:Asked P (.abY tab) o a c m ds) (h:Pz O tab ds m=some (d,m')):Sound P o a c m d m':=by
 obtain ⟨ys,hc,hr⟩:=q.chk
 obtain ⟨recv,name,args,ts,hop,rfl,hall⟩:=aiB (.inr rfl) hc
 unfold Pz at h
 split at h <;> try (simp at h; done)
 rename_i u e dargs
 rw [Option.bind_eq_some_iff] at h
 obtain ⟨f,hf,h⟩:=h
 unfold yT at h
 rw [Option.bind_eq_some_iff] at h
 obtain ⟨⟨fargs,m1⟩,h1,h⟩:=h
 rw [Option.bind_eq_some_iff] at h
 obtain ⟨d1,h2,h⟩:=h
 simp only [Option.some.injEq,Prod.mk.injEq] at h
 obtain ⟨rfl,rfl⟩:=h
 generalize hvs:List.map a.eval (recv::args.toList)=vs at hr
 cases hr with
 | cons hr1 hr2 =>
   simp only [List.map_cons,List.cons.injEq] at hvs
   obtain ⟨e1,rfl⟩:=hvs
   obtain ⟨v,rfl,hv⟩:=hr1.iw
   have hall2:=dS.cons hv hr2
   obtain ⟨c1,hw,hi1,hs1,hl1,hF⟩:=JL (aaj FZ) (e::dargs) m fargs m1 h1 c q.inv hall2.ex
   exact agk hO hB hop e1 (Rh hall hf) hw hi1 hs1 (Za hall2 hl1 hF) h2
theorem apx (hO:mQ P w0 O) (hB:Base w0 c) (q:Asked P .Es o a c m ds) (h:J4 O ds m=some (d,m')):Sound P o a c m d m':=by
 obtain ⟨ys,hc,hr⟩:=q.chk
 obtain ⟨g,args,ts,hop,rfl⟩:∃ g args ts,o.op = .call ⟨.value g,args,ts⟩∧ys=g::args.toList:=by
  simp only [bI] at hc; split at hc <;> simp at hc
  exact ⟨_,_,_,by assumption,hc.symm⟩
 unfold J4 at h
 split at h <;> try (simp at h; done)
 rename_i f cap dargs
 rw [Option.bind_eq_some_iff] at h
 obtain ⟨⟨fargs,m1⟩,h1,h⟩:=h
 rw [Option.bind_eq_some_iff] at h
 obtain ⟨d1,h2,h⟩:=h
 simp at h
 obtain ⟨rfl,rfl⟩:=h
 simp only [List.map_cons] at hr
 cases hr with
 | cons hr1 hr2 =>
   obtain ⟨vs,g',e1,hl,hg,hr'⟩:=hr1.KU
   have hcap:dS c cap vs.toList:=by
    have : ∀ (l:List D) (us:List Value),us.length=l.length→(∀ (j:Nat) (d:D),l[j]?=some d→∃ v,us[j]?=some v∧Rep c d v)→dS c l us:=by
     intro l
     induction l with
     | nil=>intro us h1 _; simp at h1; subst h1; exact .nil
     | cons d l ih =>
       intro us h1 h2
       cases us with
       | nil=>simp at h1
       | cons u us =>
         obtain ⟨v,q1,q2⟩:=h2 0 d rfl
         simp at q1
         subst q1
         exact .cons q2 (ih us (by simpa using h1) (fun j e he=>by simpa using h2 (j+1) e (by simpa using he)))
    refine this cap vs.toList (by simpa using hl) (fun j d hd=>?_)
    have hj:j<cap.length:=(List.getElem?_eq_some_iff.1 hd).1
    exact ⟨g' j,by simpa using hg j hj,hr' j d hd⟩
   have hall:=hr2.append hcap
   obtain ⟨c1,hw,hi1,hs1,hl1,hF⟩:=JL (aaj FZ) (dargs++cap) m fargs m1 h1 c q.inv hall.ex
   exact XC hO hB hop e1 hw hi1 hs1 (Za hall hl1 hF) h2
theorem K.sound {k:K} {base:Nat} (hO:mQ P w0 O) (hB:Base w0 c) (q:Asked P k o a c m ds) (h:k.run O base ds m=some (d,m')):Sound P o a c m d m':=by
 cases k <;> simp only [K.run] at h
 case aX=>exact atZ q h
 case pick=>exact arP q h
 case box=>exact atL q h
 case alloc=>exact aps q h
 case au=>exact agj q h
 case W9=>exact apA q h
 case aY=>exact apz q h
 case store=>exact apC q h
 case build=>exact apt q h
 case Df=>exact atM q h
 case YU=>exact arB q h
 case oP=>exact apB q h
 case aj=>exact arz q h
 case sh=>exact au' q h
 case eX=>exact arA q h
 case eqB=>exact atO q h
 case xO=>exact atT q h
 case eqN=>exact atS q h
 case eqE=>simp at h
 case eqA=>exact atN q h
 case neg=>exact at1 q h
 case inv=>exact atX q h
 case not=>exact at6 q h
 case conv=>exact arC q h
 case b2s=>exact atK q h
 case eqS=>exact atU q h
 case Xc=>exact arM q h
 case ab1=>exact arL q h
 case Iu=>exact arN q h
 case Wi=>exact aua q h
 case RX=>exact at7 q h
 case aK=>exact arD q h
 case bM=>exact arE q h
 case aal=>exact apy q h
 case Ze=>exact arF q h
 case ext=>exact atV q h
 case fld=>exact atW q h
 case wV=>exact arJ q h
 case b_=>exact arI q h
 case mn=>exact au9 q h
 case mx=>exact au_ q h
 case app=>exact atJ q h
 case xG=>exact apw hO hB q h
 case ah=>exact apv hO hB q h
 case bJ=>exact apu hO hB q h
 case Es=>exact apx hO hB q h
 case mkm=>exact atY q h
 case Zo=>exact arO q h
 case Zn=>exact arK q h
 case ZU=>exact arQ q h
 case Vg=>exact arR q h
 case JO=>exact arG hO hB q h
 case abY=>exact arH hO hB q h
 case eqF=>exact atQ q h
 case stop=>simp at h
end
end Go.Ev
