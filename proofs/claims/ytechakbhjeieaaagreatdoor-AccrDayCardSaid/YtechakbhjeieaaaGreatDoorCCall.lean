/- Part of accrDay_card. -/
import Derived.Test.YtechakbhjeieaaaGreatDoorCFz
set_option linter.unusedVariables false
set_option linter.unusedSimpArgs false
namespace Go.Ev
section
variable {P:Program} {w0:World}
def Base (w0:World) (c:Ctx):Prop:=∀ b,b<w0.heap.size→c.S b∧c.w.heap[b]?=w0.heap[b]?
theorem Base.ext {w0:World} {c c':Ctx} (h:Base w0 c) (he:Ext c c'):Base w0 c':=fun b hb=>⟨he.S b (h b hb).1,by rw [he.heap b (h b hb).1]; exact (h b hb).2⟩
def Og (P:Program) (f:Nat) (vs:Array Value) (w:World) (Φ:Ending→World→Prop):Prop :=
 ((∃ fn,P.funcs[f]?=some fn∧fn.body.isSome=true∧(fn.name == "runtime.NumGoroutine")=false)∧Calls P f vs w Φ) ∨
 ∃ v w',(callFunc f vs).run P w = .ok (.value v) w'∧Φ (.returned v) w'
theorem Og.mono {f:Nat} {vs:Array Value} {w:World} {Φ Ψ:Ending→World→Prop} (h:Og P f vs w Φ) (hi:∀ e w',Φ e w'→Ψ e w'):Og P f vs w Ψ:=by
 rcases h with ⟨h1,h2⟩ | ⟨v,w',h1,h2⟩
 ·exact .inl ⟨h1,h2.mono hi⟩
 ·exact .inr ⟨v,w',h1,hi _ _ h2⟩
def Ew (P:Program) (w0:World) (f:Nat) (args:List D) (m:Mem) (r:D) (m':Mem):Prop :=
 ∀ (c:Ctx) (vs:List Value),Base w0 c→Inv c m→dO c args vs→Og P f vs.toArray c.w fun e w'=>∃ v c',e = .returned v∧c'.w=w'∧Rep c' r v∧Inv c' m'∧Step c m c' m'
theorem R_ {f:Nat} {fn:Func} (h1:P.funcs[f]?=some fn) (h2:fn.body.isSome=true) (h3:(fn.name == "runtime.NumGoroutine")=false) (args:Array Value) (w:World) :
  (callFunc f args).run P w = .ok (.enter f args) w:=by
 have h3':¬ (fn.name = "runtime.NumGoroutine"):=by simpa using h3
 have h4:fn.body.isNone=false:=by cases hb:fn.body <;> simp_all
 unfold callFunc
 rw [Sem.run_bind]
 simp only [run_program,Result.andThen_ok,h1]
 simp [h3',h4]
theorem Step.outer {c:Ctx} {m m2:Mem} (hi:Inv c m) {L0:Nat→Prop} {β0:Nat→Nat×Nat} {z0:Nat→Nat} {c2:Ctx} (hi2:Inv c2 m2) (h:Step { L:=L0,β:=β0,sz:=z0,S:=c.S,w:=c.w } [] c2 m2) :
  Inv { c with S:=c2.S,w:=c2.w } m∧Step c m { c with S:=c2.S,w:=c2.w } m:=by
 have hnm:∀ b,¬ Hg { L:=L0,β:=β0,sz:=z0,S:=c.S,w:=c.w } [] b:=by
  rintro b (⟨i,cells,h,_⟩ | ⟨i,cells,h,_⟩)
  all_goals simp at h
 have hold:∀ b,b<c.w.heap.size→c2.w.heap[b]?=c.w.heap[b]?:=fun b hb=>h.frame b hb (hnm b)
 have hS:∀ b,c2.S b→c.S b∨c.w.heap.size≤b:=fun b hb=>(h.dA b hb).imp id (fun h=>h.resolve_right (hnm b))
 exact hi.more _ _ h.ext.S hS hi2.lt h.size hold h.out
theorem Inv.nil {c:Ctx} {m:Mem} (hi:Inv c m):Inv { L:=fun _=>False,β:=c.β,sz:=c.sz,S:=c.S,w:=c.w } [] :=
 ⟨fun i h=>h.elim,hi.lt,fun i cells h=>by simp at h,fun i cells h=>by simp at h,fun i j ci cj h=>by simp at h,fun i cells h=>by simp at h,fun i j ci cj h=>by simp at h⟩
inductive FL (S:Nat→Prop) (w:World):List D→List Value→Prop
 | nil:FL S w [] []
 | cons {d:D} {v:Value} {ds:List D} {vs:List Value} (h:F S w d v) (hs:FL S w ds vs):FL S w (d::ds) (v::vs)
theorem FL.rep {c:Ctx} {ds:List D} {vs:List Value} (h:FL c.S c.w ds vs):dO c ds vs:=by
 induction h with
 | nil=>exact .nil
 | cons h _ ih=>exact .cons (.dA _ _ h) ih
theorem FL.apI {c:Ctx} {n:Nat} {ds:List D} {vs:List Value} (h:dO c ds vs) (hc:ds.all (D.clo 0 n)=true):FL c.S c.w ds vs:=by
 induction h with
 | nil=>exact .nil
 | cons h _ ih =>
   simp at hc
   exact .cons (AP n hc.1 h) (ih (by simpa using hc.2))
theorem Zn {O:aB} {f:Nat} {args:List D} {d:D} {c:Ctx} {m:Mem} {vs:List Value} (hO:∀ r m',O.bK f args []=some (r,m')→Ew P w0 f args [] r m') (hB:Base w0 c) (hi:Inv c m) (hr:FL c.S c.w args vs) (h:yE (O.bK f args [])=some d) :
  Og P f vs.toArray c.w fun e w'=>∃ v c',e = .returned v∧c'.w=w'∧F c'.S c'.w d v∧Inv c' m∧Step c m c' m:=by
 unfold yE at h
 rw [Option.bind_eq_some_iff] at h
 obtain ⟨⟨r,m1⟩,h1,h⟩:=h
 rw [Option.bind_eq_some_iff] at h
 obtain ⟨⟨d1,m2⟩,h2,h⟩:=h
 simp at h
 subst h
 have hcall:=hO r m1 h1
 refine (hcall { L:=fun _=>False,β:=c.β,sz:=c.sz,S:=c.S,w:=c.w } vs hB hi.nil (FL.rep (c:={ L:=fun _=>False,β:=c.β,sz:=c.sz,S:=c.S,w:=c.w }) hr)).mono ?_
 rintro e w' ⟨v,c1,rfl,rfl,hrep,hi1,hs1⟩
 obtain ⟨c2,hw2,hi2,hs2,hF⟩:=aaQ FZ r m1 d1 m2 h2 c1 hi1 ⟨v,hrep⟩
 obtain ⟨hi3,hs3⟩:=Step.outer hi hi2 (hs1.trans hs2)
 exact ⟨v,{ c with S:=c2.S,w:=c2.w },rfl,hw2,hF v hrep,hi3,hs3⟩
structure oG (P:Program) (w0:World) (O:aB):Prop where
 a:∀ f args m r m',O.bK f args m=some (r,m')→Ew P w0 f args m r m'
 p:∀ f args d,O.call f args=some d→yE (O.bK f args [])=some d
variable {o:Oper} {a:Act} {c:Ctx} {m m':Mem} {ds:List D} {d:D} {O:aB}
theorem akh {g:Operand} {args:Array Operand} {ts:Array TypeId} {f:Nat} {cap:Array Value} (hop:o.op = .call ⟨.value g,args,ts⟩) (hg:a.eval g = .func (.func f) #[] cap)
  (hfn:∃ fn,P.funcs[f]?=some fn∧fn.body.isSome=true∧(fn.name == "runtime.NumGoroutine")=false) (w:World) :
  (execOp a.eval o).run P w = .ok (.enter f (args.map a.eval++cap)) w:=by
 obtain ⟨fn,h1,h2,h3⟩:=hfn
 simp only [execOp,hop,resolve,hg,Deferred.ofValue,Sem.run_bind,Sem.run_pure,Result.andThen_ok,invoke]
 rw [R_ h1 h2 h3]
 simp
theorem agD {g:Operand} {args:Array Operand} {ts:Array TypeId} {f:Nat} {cap:Array Value} (hop:o.op = .call ⟨.value g,args,ts⟩) (hg:a.eval g = .func (.func f) #[] cap) {w w':World} {v:Value}
  (hx:(callFunc f (args.map a.eval++cap)).run P w = .ok (.value v) w'):(execOp a.eval o).run P w = .ok (.value v) w':=by
 have h0:(callFunc f (#[]++args.map a.eval++cap)).run P w = .ok (.value v) w':=by simpa using hx
 simp only [execOp,hop,resolve,hg,Deferred.ofValue,Sem.run_bind,Sem.run_pure,Result.andThen_ok,invoke]
 simpa [Result.andThen] using hx
def al5 (f:Nat) (op:Op):Option (List Operand):=match op with
 | .call ⟨.value (.func f'),args,_⟩=>if f=f' then some args.toList else none
 | _=>none
theorem ab8 {f:Nat} {op:Op} {ys:List Operand} {k:K} (hk:k = .uf f∨k = .ah f∨k = .bK f) (h:bJ P k op=some ys):∃ args ts,op = .call ⟨.value (.func f),args,ts⟩∧ys=args.toList:=by
 have h':al5 f op=some ys:=by rcases hk with rfl | rfl | rfl <;> exact h
 unfold al5 at h'
 split at h'
 ·split at h'
  ·rename_i e
   simp at h'
   subst e
   exact ⟨_,_,rfl,h'.symm⟩
  ·simp at h'
 ·simp at h'
theorem apX {f:Nat} (hO:oG P w0 O) (hB:Base w0 c) (q:Asked P (.bK f) o a c m ds) (h:O.bK f ds m=some (d,m')):Sound P o a c m d m':=by
 obtain ⟨ys,hc,hr⟩:=q.chk
 obtain ⟨args,ts,hop,rfl⟩:=ab8 (.inr (.inr rfl)) hc
 have hcall:=hO.a f ds m d m' h
 intro Kn Q hk
 unfold Oper.wp
 have he:(args.map a.eval++(#[]:Array Value))=(args.toList.map a.eval).toArray:=by cases args; simp
 rcases hcall c _ hB q.inv hr with ⟨hfn,hcall⟩ | ⟨v,w',hx,v',c',hv,rfl,h1,h2,h3⟩
 ·rw [akh hop (show a.eval (.func f) = .func (.func f) #[] #[] from rfl) hfn c.w,Oper.upon_enter]
  rw [he]
  refine hcall.mono ?_
  rintro e w' ⟨v,c',rfl,rfl,h1,h2,h3⟩
  exact hk v c' h1 h2 h3
 ·simp at hv
  subst hv
  rw [agD hop (show a.eval (.func f) = .func (.func f) #[] #[] from rfl) (by rw [he]; exact hx),Oper.upon_value]
  exact hk v c' h1 h2 h3
theorem XW {f:Nat} {g:Operand} {args:Array Operand} {ts:Array TypeId} {cap:Array Value} {c1:Ctx} {m1:Mem} {fargs:List D} (hO:oG P w0 O) (hB:Base w0 c) (hop:o.op = .call ⟨.value g,args,ts⟩) (hg:a.eval g = .func (.func f) #[] cap)
  (hw:c1.w=c.w) (hi1:Inv c1 m1) (hs1:Step c m c1 m1) (hF:FL c1.S c1.w fargs (args.toList.map a.eval++cap.toList)) (h:O.call f fargs=some d):Sound P o a c m d m1:=by
 have hcall:=Zn (P:=P) (w0:=w0) (fun r m'=>hO.a f fargs [] r m') (hB.ext hs1.ext) hi1 hF (hO.p _ _ _ h)
 intro Kn Q hk
 unfold Oper.wp
 have he:args.map a.eval++cap=(args.toList.map a.eval++cap.toList).toArray:=by cases args; cases cap; simp
 rcases hcall with ⟨hfn,hcall⟩ | ⟨v,w',hx,v',c',hv,rfl,h1,h2,h3⟩
 ·rw [akh hop hg hfn c.w,Oper.upon_enter]
  rw [he]
  rw [← hw]
  refine hcall.mono ?_
  rintro e w' ⟨v,c',rfl,rfl,h1,h2,h3⟩
  exact hk v c' (.dA _ _ h1) h2 (hs1.trans h3)
 ·simp at hv
  subst hv
  rw [agD hop hg (by rw [he,← hw]; exact hx),Oper.upon_value]
  exact hk v c' (.dA _ _ h1) h2 (hs1.trans h3)
theorem apY {f:Nat} (hO:oG P w0 O) (hB:Base w0 c) (q:Asked P (.ah f) o a c m ds) (h:vY O f ds m=some (d,m')):Sound P o a c m d m':=by
 obtain ⟨ys,hc,hr⟩:=q.chk
 obtain ⟨args,ts,hop,rfl⟩:=ab8 (.inr (.inl rfl)) hc
 unfold vY at h
 rcases hall:ds.all (D.clo 0 FZ) with _ | _
 ·rw [hall] at h; simp at h
 rw [hall,cond_true] at h
 rw [Option.bind_eq_some_iff] at h
 obtain ⟨d1,h1,h⟩:=h
 simp at h
 obtain ⟨rfl,rfl⟩:=h
 exact XW hO hB hop (show a.eval (.func f) = .func (.func f) #[] #[] from rfl) rfl q.inv (.refl c m) (by simpa using FL.apI hr hall) h1
theorem ZA:∀ {ds ds':List D} {vs:List Value} {c c':Ctx},dO c ds vs→ds'.length=ds.length→(∀ (j:Nat) (d':D),ds'[j]?=some d'→∃ d,ds[j]?=some d∧∀ v,Rep c d v→F c'.S c'.w d' v)→FL c'.S c'.w ds' vs
 | [],ds',_,c,c',.nil,hl,h=>by
   simp at hl
   subst hl
   exact .nil
 | d::ds,ds',_,c,c',.cons h1 h2,hl,h=>by
   cases ds' with
   | nil=>simp at hl
   | cons d' ds' =>
     obtain ⟨d0,q1,q2⟩:=h 0 d' rfl
     simp at q1
     subst q1
     exact .cons (q2 _ h1) (ZA h2 (by simpa using hl) (fun j e he=>by
      obtain ⟨d0,q1,q2⟩:=h (j+1) e (by simpa using he)
      exact ⟨d0,by simpa using q1,q2⟩))
theorem dO.ex {c:Ctx} {ds:List D} {vs:List Value} (h:dO c ds vs):∀ d∈ds,∃ v,Rep c d v:=by
 induction h with
 | nil=>intro d hd; simp at hd
 | cons h _ ih =>
   intro d hd
   simp at hd
   rcases hd with rfl | hd
   ·exact ⟨_,h⟩
   ·exact ih d hd
theorem dO.append {c:Ctx} {ds es:List D} {vs us:List Value} (h:dO c ds vs) (h':dO c es us):dO c (ds++es) (vs++us):=by
 induction h with
 | nil=>exact h'
 | cons h _ ih=>exact .cons h ih
theorem apZ {f:Nat} (hO:oG P w0 O) (hB:Base w0 c) (q:Asked P (.uf f) o a c m ds) (h:zZ O f ds m=some (d,m')):Sound P o a c m d m':=by
 obtain ⟨ys,hc,hr⟩:=q.chk
 obtain ⟨args,ts,hop,rfl⟩:=ab8 (.inl rfl) hc
 unfold zZ at h
 rw [Option.bind_eq_some_iff] at h
 obtain ⟨⟨fargs,m1⟩,h1,h⟩:=h
 rw [Option.bind_eq_some_iff] at h
 obtain ⟨d1,h2,h⟩:=h
 simp at h
 obtain ⟨rfl,rfl⟩:=h
 obtain ⟨c1,hw,hi1,hs1,hl,hF⟩:=KO (aaQ FZ) ds m fargs m1 h1 c q.inv hr.ex
 exact XW hO hB hop (show a.eval (.func f) = .func (.func f) #[] #[] from rfl) hw hi1 hs1 (by simpa using ZA hr hl hF) h2
theorem Rw {name:String}:∀ {tab:List (Nat×Nat)} {u f:Nat},Wu P name tab=true→Bd tab u=some f→Ws P u name f=true
 | [],u,f,_,h=>by simp [Bd] at h
 | (u',f')::r,u,f,hc,h=>by
   simp only [Wu,Bool.and_eq_true] at hc
   simp only [Bd,cond_eq_ite] at h
   split at h
   ·rename_i e
    have := Nat.eq_of_beq_eq_true e
    subst this
    simp at h
    subst h
    exact hc.1
   ·exact Rw hc.2 h
theorem an8 {u f:Nat} {name:String} (h:Ws P u name f=true) (v:Value) (k:Nat) (w:World):(method (k+1) u v name).run P w = .ok (f,v) w:=by
 unfold Ws at h
 split at h <;> try (simp at h; done)
 rename_i mt hm
 rw [Option.bind_eq_some_iff] at hm
 obtain ⟨i,hi,hm⟩:=hm
 split at h <;> try (simp at h; done)
 rename_i g pr hp hf
 simp only [Bool.and_eq_true] at h
 obtain ⟨h1,h2⟩:=h
 have := Nat.eq_of_beq_eq_true h1
 subst this
 cases hu:P.underlying u with
 | none=>rw [hu] at h2; simp at h2
 | some d =>
   rw [hu] at h2
   cases d
   case pointer e =>
    simp only at h2
    subst h2
    simp [method,typeInfo,hi,hm,hp,hf,follow,receiverAt,run_underlying hu,Place.get]
   all_goals
    simp only [Bool.not_eq_true'] at h2
    subst h2
    simp [method,typeInfo,hi,hm,hp,hf,follow,receiverAt,run_underlying hu,Place.get]
theorem ar0 {recv:Operand} {name:String} {args:Array Operand} {ts:Array TypeId} {u f:Nat} {v:Value} (hop:o.op = .call ⟨.invoke recv name,args,ts⟩) (hg:a.eval recv = .iface u v) (hm:Ws P u name f=true) (w:World) :
  (execOp a.eval o).run P w=(callFunc f (#[v]++args.map a.eval)).run P w:=by
 have hfuel:∃ k,P.types.size+Made.depth=k+1:=⟨P.types.size+99,rfl⟩
 obtain ⟨k,hk⟩:=hfuel
 simp only [execOp,hop,resolve,hg,Sem.run_bind,Sem.run_pure,Result.andThen_ok,invoke]
 have he:(#[Value.iface u v]++args.map a.eval)[0]?=some (.iface u v):=by rw [Array.getElem?_append_left (by simp)]; rfl
 have hx:(#[Value.iface u v]++args.map a.eval).extract 1 (#[Value.iface u v]++args.map a.eval).size=args.map a.eval:=by
  apply Array.ext'
  simp
  exact List.take_of_length_le (by simp)
 simp only [he,hx,callMethod]
 simp [hk,an8 hm v k w]
theorem agM {u f:Nat} {recv:Operand} {name:String} {args:Array Operand} {ts:Array TypeId} {v:Value} {c1:Ctx} {m1:Mem} {fargs:List D} (hO:oG P w0 O) (hB:Base w0 c) (hop:o.op = .call ⟨.invoke recv name,args,ts⟩) (hg:a.eval recv = .iface u v)
  (hm:Ws P u name f=true) (hw:c1.w=c.w) (hi1:Inv c1 m1) (hs1:Step c m c1 m1) (hF:FL c1.S c1.w fargs (v::args.toList.map a.eval)) (h:O.call f fargs=some d):Sound P o a c m d m1:=by
 have hcall:=Zn (P:=P) (w0:=w0) (fun r m'=>hO.a f fargs [] r m') (hB.ext hs1.ext) hi1 hF (hO.p _ _ _ h)
 intro Kn Q hk
 unfold Oper.wp
 have he : #[v]++args.map a.eval=(v::args.toList.map a.eval).toArray:=by cases args; simp
 rw [ar0 hop hg hm c.w,he]
 rcases hcall with ⟨⟨fn,q1,q2,q3⟩,hcall⟩ | ⟨r,w',hx,v',c',hv,rfl,h1,h2,h3⟩
 ·rw [R_ q1 q2 q3,Oper.upon_enter]
  rw [← hw]
  refine hcall.mono ?_
  rintro e w' ⟨v,c',rfl,rfl,h1,h2,h3⟩
  exact hk v c' (.dA _ _ h1) h2 (hs1.trans h3)
 ·simp at hv
  subst hv
  rw [← hw,hx,Oper.upon_value]
  exact hk _ c' (.dA _ _ h1) h2 (hs1.trans h3)
theorem aiZ {tab:List (Nat×Nat)} {op:Op} {ys:List Operand} {k:K} (hk:k = .KP tab∨k = .acK tab) (h:bJ P k op=some ys):∃ recv name args ts,op = .call ⟨.invoke recv name,args,ts⟩∧ys=recv::args.toList∧Wu P name tab=true:=by
 have h':bJ P (.KP tab) op=some ys:=by rcases hk with rfl | rfl <;> simpa only [bJ] using h
 simp only [bJ] at h'
 split at h' <;> try (simp at h'; done)
 rw [Option.ite_none_right_eq_some] at h'
 obtain ⟨h1,h'⟩:=h'
 simp at h'
 exact ⟨_,_,_,_,rfl,h'.symm,h1⟩
theorem asa {tab:List (Nat×Nat)} (hO:oG P w0 O) (hB:Base w0 c) (q:Asked P (.KP tab) o a c m ds) (h:NZ O tab ds m=some (d,m')):Sound P o a c m d m':=by
 obtain ⟨ys,hc,hr⟩:=q.chk
 obtain ⟨recv,name,args,ts,hop,rfl,hall⟩:=aiZ (.inl rfl) hc
 unfold NZ at h
 split at h <;> try (simp at h; done)
 rename_i u e dargs
 rw [Option.bind_eq_some_iff] at h
 obtain ⟨f,hf,h⟩:=h
 unfold vY at h
 rcases hcl:(e::dargs).all (D.clo 0 FZ) with _ | _
 ·rw [hcl] at h; simp at h
 rw [hcl,cond_true,Option.bind_eq_some_iff] at h
 obtain ⟨d1,h1,h⟩:=h
 simp only [Option.some.injEq,Prod.mk.injEq] at h
 obtain ⟨rfl,rfl⟩:=h
 generalize hvs:List.map a.eval (recv::args.toList)=vs at hr
 cases hr with
 | cons hr1 hr2 =>
   simp only [List.map_cons,List.cons.injEq] at hvs
   obtain ⟨e1,rfl⟩:=hvs
   obtain ⟨v,rfl,hv⟩:=hr1.iF
   exact agM hO hB hop e1 (Rw hall hf) rfl q.inv (.refl c m) (FL.apI (.cons hv hr2) hcl) h1
theorem asb {tab:List (Nat×Nat)} (hO:oG P w0 O) (hB:Base w0 c) (q:Asked P (.acK tab) o a c m ds) (h:Qg O tab ds m=some (d,m')):Sound P o a c m d m':=by
 obtain ⟨ys,hc,hr⟩:=q.chk
 obtain ⟨recv,name,args,ts,hop,rfl,hall⟩:=aiZ (.inr rfl) hc
 unfold Qg at h
 split at h <;> try (simp at h; done)
 rename_i u e dargs
 rw [Option.bind_eq_some_iff] at h
 obtain ⟨f,hf,h⟩:=h
 unfold zZ at h
 rw [Option.bind_eq_some_iff] at h
 obtain ⟨⟨fargs,m1⟩,h1,h⟩:=h
 rw [Option.bind_eq_some_iff] at h
 obtain ⟨d1,h2,h⟩:=h
 simp only [Option.some.injEq,Prod.mk.injEq] at h
 obtain ⟨rfl,rfl⟩:=h
 generalize hvs:List.map a.eval (recv::args.toList)=vs at hr
 cases hr with
 | cons hr1 hr2 =>
   simp only [List.map_cons,List.cons.injEq] at hvs
   obtain ⟨e1,rfl⟩:=hvs
   obtain ⟨v,rfl,hv⟩:=hr1.iF
   have hall2:=dO.cons hv hr2
   obtain ⟨c1,hw,hi1,hs1,hl1,hF⟩:=KO (aaQ FZ) (e::dargs) m fargs m1 h1 c q.inv hall2.ex
   exact agM hO hB hop e1 (Rw hall hf) hw hi1 hs1 (ZA hall2 hl1 hF) h2
theorem ap0 (hO:oG P w0 O) (hB:Base w0 c) (q:Asked P .FW o a c m ds) (h:K_ O ds m=some (d,m')):Sound P o a c m d m':=by
 obtain ⟨ys,hc,hr⟩:=q.chk
 obtain ⟨g,args,ts,hop,rfl⟩:∃ g args ts,o.op = .call ⟨.value g,args,ts⟩∧ys=g::args.toList:=by
  simp only [bJ] at hc; split at hc <;> simp at hc
  exact ⟨_,_,_,by assumption,hc.symm⟩
 unfold K_ at h
 split at h <;> try (simp at h; done)
 rename_i f cap dargs
 rw [Option.bind_eq_some_iff] at h
 obtain ⟨⟨fargs,m1⟩,h1,h⟩:=h
 rw [Option.bind_eq_some_iff] at h
 obtain ⟨d1,h2,h⟩:=h
 simp at h
 obtain ⟨rfl,rfl⟩:=h
 simp only [List.map_cons] at hr
 cases hr with
 | cons hr1 hr2 =>
   obtain ⟨vs,g',e1,hl,hg,hr'⟩:=hr1.MI
   have hcap:dO c cap vs.toList:=by
    have : ∀ (l:List D) (us:List Value),us.length=l.length→(∀ (j:Nat) (d:D),l[j]?=some d→∃ v,us[j]?=some v∧Rep c d v)→dO c l us:=by
     intro l
     induction l with
     | nil=>intro us h1 _; simp at h1; subst h1; exact .nil
     | cons d l ih =>
       intro us h1 h2
       cases us with
       | nil=>simp at h1
       | cons u us =>
         obtain ⟨v,q1,q2⟩:=h2 0 d rfl
         simp at q1
         subst q1
         exact .cons q2 (ih us (by simpa using h1) (fun j e he=>by simpa using h2 (j+1) e (by simpa using he)))
    refine this cap vs.toList (by simpa using hl) (fun j d hd=>?_)
    have hj:j<cap.length:=(List.getElem?_eq_some_iff.1 hd).1
    exact ⟨g' j,by simpa using hg j hj,hr' j d hd⟩
   have hall:=hr2.append hcap
   obtain ⟨c1,hw,hi1,hs1,hl1,hF⟩:=KO (aaQ FZ) (dargs++cap) m fargs m1 h1 c q.inv hall.ex
   exact XW hO hB hop e1 hw hi1 hs1 (ZA hall hl1 hF) h2
theorem K.sound {k:K} {base:Nat} (hO:oG P w0 O) (hB:Base w0 c) (q:Asked P k o a c m ds) (h:k.run O base ds m=some (d,m')):Sound P o a c m d m':=by
 cases k <;> simp only [K.run] at h
 case aT=>exact auR q h
 case pick=>exact asl q h
 case box=>exact auF q h
 case alloc=>exact apV q h
 case ak=>exact agL q h
 case adO=>exact ap3 q h
 case aU=>exact ap2 q h
 case store=>exact ap5 q h
 case build=>exact apW q h
 case Em=>exact auG q h
 case Zm=>exact ar7 q h
 case qG=>exact ap4 q h
 case aj=>exact ar5 q h
 case sh=>exact av6 q h
 case gq=>exact ar6 q h
 case Zu=>exact auI q h
 case yV=>exact auL q h
 case eqN=>exact auK q h
 case eqE=>simp at h
 case eqA=>exact auH q h
 case neg=>exact auS q h
 case inv=>exact auP q h
 case not=>exact auT q h
 case conv=>exact ar8 q h
 case b2s=>exact auE q h
 case eqS=>exact auM q h
 case Xy=>exact ash q h
 case acM=>exact asg q h
 case G6=>exact asi q h
 case WU=>exact auV q h
 case PL=>exact auU q h
 case aC=>exact ar9 q h
 case bF=>exact ar_ q h
 case aaS=>exact ap1 q h
 case GZ=>exact ar' q h
 case ext=>exact auN q h
 case fld=>exact auO q h
 case qY=>exact ase q h
 case bM=>exact asc q h
 case mn=>exact av4 q h
 case mx=>exact av5 q h
 case app=>exact auD q h
 case uf=>exact apZ hO hB q h
 case ah=>exact apY hO hB q h
 case bK=>exact apX hO hB q h
 case FW=>exact ap0 hO hB q h
 case mkm=>exact auQ q h
 case ZR=>exact asj q h
 case ZQ=>exact asf q h
 case aaw=>exact asn q h
 case VF=>exact aso q h
 case KP=>exact asa hO hB q h
 case acK=>exact asb hO hB q h
 case eqF=>exact auJ q h
 case stop=>simp at h
end
end Go.Ev
