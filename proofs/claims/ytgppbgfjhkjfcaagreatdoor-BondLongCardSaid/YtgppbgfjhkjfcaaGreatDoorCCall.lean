/- A part of the proof of planLone_card, bondLong_card. -/
import Derived.Test.YtgppbgfjhkjfcaaGreatDoorCFz
set_option linter.unusedVariables false
set_option linter.unusedSimpArgs false
namespace Go.Ev
section
variable {P : Program} {w0 : World}
def Base (w0 : World) (c : Ctx) : Prop := ∀ b, b < w0.heap.size → c.S b ∧ c.w.heap[b]? = w0.heap[b]?
theorem Base.ext {w0 : World} {c c' : Ctx} (h : Base w0 c) (he : Ext c c') : Base w0 c' := fun b hb => ⟨he.S b (h b hb).1, by rw [he.heap b (h b hb).1]; exact (h b hb).2⟩
def FW (P : Program) (f : Nat) (vs : Array Value) (w : World) (Φ : Ending → World → Prop) : Prop :=
 ((∃ fn, P.funcs[f]? = some fn ∧ fn.body.isSome = true ∧ (fn.name == "runtime.NumGoroutine") = false) ∧ Calls P f vs w Φ) ∨
 ∃ v w', (callFunc f vs).run P w = .ok (.value v) w' ∧ Φ (.returned v) w'
theorem FW.mono {f : Nat} {vs : Array Value} {w : World} {Φ Ψ : Ending → World → Prop} (h : FW P f vs w Φ) (hi : ∀ e w', Φ e w' → Ψ e w') : FW P f vs w Ψ := by
 rcases h with ⟨h1, h2⟩ | ⟨v, w', h1, h2⟩
 ·exact .inl ⟨h1, h2.mono hi⟩
 ·exact .inr ⟨v, w', h1, hi _ _ h2⟩
def xQ (P : Program) (w0 : World) (f : Nat) (args : List D) (m : Mem) (r : D) (m' : Mem) : Prop :=
 ∀ (c : Ctx) (vs : List Value), Base w0 c → Inv c m → cO c args vs → FW P f vs.toArray c.w fun e w' => ∃ v c', e = .returned v ∧ c'.w = w' ∧ Rep c' r v ∧ Inv c' m' ∧ Step c m c' m'
theorem JK {f : Nat} {fn : Func} (h1 : P.funcs[f]? = some fn) (h2 : fn.body.isSome = true) (h3 : (fn.name == "runtime.NumGoroutine") = false) (args : Array Value) (w : World) :
  (callFunc f args).run P w = .ok (.enter f args) w := by
 have h3' : ¬ (fn.name = "runtime.NumGoroutine") := by simpa using h3
 have h4 : fn.body.isNone = false := by cases hb : fn.body <;> simp_all
 unfold callFunc
 rw [Sem.run_bind]
 simp only [run_program, Result.andThen_ok, h1]
 simp [h3', h4]
theorem Step.outer {c : Ctx} {m m2 : Mem} (hi : Inv c m) {L0 : Nat → Prop} {β0 : Nat → Nat × Nat} {z0 : Nat → Nat} {c2 : Ctx} (hi2 : Inv c2 m2) (h : Step { L := L0, β := β0, sz := z0, S := c.S, w := c.w } [] c2 m2) :
  Inv { c with S := c2.S, w := c2.w } m ∧ Step c m { c with S := c2.S, w := c2.w } m := by
 have hnm : ∀ b, ¬ zJ { L := L0, β := β0, sz := z0, S := c.S, w := c.w } [] b := by
  rintro b (⟨i, cells, h, _⟩ | ⟨i, cells, h, _⟩)
  all_goals simp at h
 have hold : ∀ b, b < c.w.heap.size → c2.w.heap[b]? = c.w.heap[b]? := fun b hb => h.frame b hb (hnm b)
 have hS : ∀ b, c2.S b → c.S b ∨ c.w.heap.size ≤ b := fun b hb => (h.bI b hb).imp id (fun h => h.resolve_right (hnm b))
 exact hi.more _ _ h.ext.S hS hi2.lt h.size hold h.out
theorem Inv.nil {c : Ctx} {m : Mem} (hi : Inv c m) : Inv { L := fun _ => False, β := c.β, sz := c.sz, S := c.S, w := c.w } [] :=
 ⟨fun i h => h.elim, hi.lt, fun i cells h => by simp at h, fun i cells h => by simp at h, fun i j ci cj h => by simp at h, fun i cells h => by simp at h, fun i j ci cj h => by simp at h⟩
inductive FL (S : Nat → Prop) (w : World) : List D → List Value → Prop
 | nil : FL S w [] []
 | cons {d : D} {v : Value} {ds : List D} {vs : List Value} (h : F S w d v) (hs : FL S w ds vs) : FL S w (d :: ds) (v :: vs)
theorem FL.rep {c : Ctx} {ds : List D} {vs : List Value} (h : FL c.S c.w ds vs) : cO c ds vs := by
 induction h with
 | nil => exact .nil
 | cons h _ ih => exact .cons (.bI _ _ h) ih
theorem FL.aiW {c : Ctx} {n : Nat} {ds : List D} {vs : List Value} (h : cO c ds vs) (hc : ds.all (D.clo 0 n) = true) : FL c.S c.w ds vs := by
 induction h with
 | nil => exact .nil
 | cons h _ ih =>
   simp at hc
   exact .cons (uP n hc.1 h) (ih (by simpa using hc.2))
theorem Rh {O : aC} {f : Nat} {args : List D} {d : D} {c : Ctx} {m : Mem} {vs : List Value} (hO : ∀ r m', O.aY f args [] = some (r, m') → xQ P w0 f args [] r m') (hB : Base w0 c) (hi : Inv c m) (hr : FL c.S c.w args vs) (h : rG (O.aY f args []) = some d) :
  FW P f vs.toArray c.w fun e w' => ∃ v c', e = .returned v ∧ c'.w = w' ∧ F c'.S c'.w d v ∧ Inv c' m ∧ Step c m c' m := by
 unfold rG at h
 rw [Option.bind_eq_some_iff] at h
 obtain ⟨⟨r, m1⟩, h1, h⟩ := h
 rw [Option.bind_eq_some_iff] at h
 obtain ⟨⟨d1, m2⟩, h2, h⟩ := h
 simp at h
 subst h
 have hcall := hO r m1 h1
 refine (hcall { L := fun _ => False, β := c.β, sz := c.sz, S := c.S, w := c.w } vs hB hi.nil (FL.rep (c := { L := fun _ => False, β := c.β, sz := c.sz, S := c.S, w := c.w }) hr)).mono ?_
 rintro e w' ⟨v, c1, rfl, rfl, hrep, hi1, hs1⟩
 obtain ⟨c2, hw2, hi2, hs2, hF⟩ := TW FZ r m1 d1 m2 h2 c1 hi1 ⟨v, hrep⟩
 obtain ⟨hi3, hs3⟩ := Step.outer hi hi2 (hs1.trans hs2)
 exact ⟨v, { c with S := c2.S, w := c2.w }, rfl, hw2, hF v hrep, hi3, hs3⟩
structure jK (P : Program) (w0 : World) (O : aC) : Prop where
 a : ∀ f args m r m', O.aY f args m = some (r, m') → xQ P w0 f args m r m'
 p : ∀ f args d, O.call f args = some d → rG (O.aY f args []) = some d
variable {o : Oper} {a : Act} {c : Ctx} {m m' : Mem} {ds : List D} {d : D} {O : aC}
theorem ad5 {g : Operand} {args : Array Operand} {ts : Array TypeId} {f : Nat} {cap : Array Value} (hop : o.op = .call ⟨.value g, args, ts⟩) (hg : a.eval g = .func (.func f) #[] cap)
  (hfn : ∃ fn, P.funcs[f]? = some fn ∧ fn.body.isSome = true ∧ (fn.name == "runtime.NumGoroutine") = false) (w : World) :
  (execOp a.eval o).run P w = .ok (.enter f (args.map a.eval ++ cap)) w := by
 obtain ⟨fn, h1, h2, h3⟩ := hfn
 simp only [execOp, hop, resolve, hg, Deferred.ofValue, Sem.run_bind, Sem.run_pure, Result.andThen_ok, invoke]
 rw [JK h1 h2 h3]
 simp
theorem aah {g : Operand} {args : Array Operand} {ts : Array TypeId} {f : Nat} {cap : Array Value} (hop : o.op = .call ⟨.value g, args, ts⟩) (hg : a.eval g = .func (.func f) #[] cap) {w w' : World} {v : Value}
  (hx : (callFunc f (args.map a.eval ++ cap)).run P w = .ok (.value v) w') : (execOp a.eval o).run P w = .ok (.value v) w' := by
 have h0 : (callFunc f (#[] ++ args.map a.eval ++ cap)).run P w = .ok (.value v) w' := by simpa using hx
 simp only [execOp, hop, resolve, hg, Deferred.ofValue, Sem.run_bind, Sem.run_pure, Result.andThen_ok, invoke]
 simpa [Result.andThen] using hx
def afN (f : Nat) (op : Op) : Option (List Operand) := match op with
 | .call ⟨.value (.func f'), args, _⟩ => if f = f' then some args.toList else none
 | _ => none
theorem Vq {f : Nat} {op : Op} {ys : List Operand} {k : K} (hk : k = .nN f ∨ k = .ah f ∨ k = .aY f) (h : aX P k op = some ys) : ∃ args ts, op = .call ⟨.value (.func f), args, ts⟩ ∧ ys = args.toList := by
 have h' : afN f op = some ys := by rcases hk with rfl | rfl | rfl <;> exact h
 unfold afN at h'
 split at h'
 ·split at h'
  ·rename_i e
   simp at h'
   subst e
   exact ⟨_, _, rfl, h'.symm⟩
  ·simp at h'
 ·simp at h'
theorem ai9 {f : Nat} (hO : jK P w0 O) (hB : Base w0 c) (q : Asked P (.aY f) o a c m ds) (h : O.aY f ds m = some (d, m')) : Sound P o a c m d m' := by
 obtain ⟨ys, hc, hr⟩ := q.chk
 obtain ⟨args, ts, hop, rfl⟩ := Vq (.inr (.inr rfl)) hc
 have hcall := hO.a f ds m d m' h
 intro Kn Q hk
 unfold Oper.wp
 have he : (args.map a.eval ++ (#[] : Array Value)) = (args.toList.map a.eval).toArray := by cases args; simp
 rcases hcall c _ hB q.inv hr with ⟨hfn, hcall⟩ | ⟨v, w', hx, v', c', hv, rfl, h1, h2, h3⟩
 ·rw [ad5 hop (show a.eval (.func f) = .func (.func f) #[] #[] from rfl) hfn c.w, Oper.upon_enter]
  rw [he]
  refine hcall.mono ?_
  rintro e w' ⟨v, c', rfl, rfl, h1, h2, h3⟩
  exact hk v c' h1 h2 h3
 ·simp at hv
  subst hv
  rw [aah hop (show a.eval (.func f) = .func (.func f) #[] #[] from rfl) (by rw [he]; exact hx), Oper.upon_value]
  exact hk v c' h1 h2 h3
theorem PO {f : Nat} {g : Operand} {args : Array Operand} {ts : Array TypeId} {cap : Array Value} {c1 : Ctx} {m1 : Mem} {fargs : List D} (hO : jK P w0 O) (hB : Base w0 c) (hop : o.op = .call ⟨.value g, args, ts⟩) (hg : a.eval g = .func (.func f) #[] cap)
  (hw : c1.w = c.w) (hi1 : Inv c1 m1) (hs1 : Step c m c1 m1) (hF : FL c1.S c1.w fargs (args.toList.map a.eval ++ cap.toList)) (h : O.call f fargs = some d) : Sound P o a c m d m1 := by
 have hcall := Rh (P := P) (w0 := w0) (fun r m' => hO.a f fargs [] r m') (hB.ext hs1.ext) hi1 hF (hO.p _ _ _ h)
 intro Kn Q hk
 unfold Oper.wp
 have he : args.map a.eval ++ cap = (args.toList.map a.eval ++ cap.toList).toArray := by cases args; cases cap; simp
 rcases hcall with ⟨hfn, hcall⟩ | ⟨v, w', hx, v', c', hv, rfl, h1, h2, h3⟩
 ·rw [ad5 hop hg hfn c.w, Oper.upon_enter]
  rw [he]
  rw [← hw]
  refine hcall.mono ?_
  rintro e w' ⟨v, c', rfl, rfl, h1, h2, h3⟩
  exact hk v c' (.bI _ _ h1) h2 (hs1.trans h3)
 ·simp at hv
  subst hv
  rw [aah hop hg (by rw [he, ← hw]; exact hx), Oper.upon_value]
  exact hk v c' (.bI _ _ h1) h2 (hs1.trans h3)
theorem ai_ {f : Nat} (hO : jK P w0 O) (hB : Base w0 c) (q : Asked P (.ah f) o a c m ds) (h : pI O f ds m = some (d, m')) : Sound P o a c m d m' := by
 obtain ⟨ys, hc, hr⟩ := q.chk
 obtain ⟨args, ts, hop, rfl⟩ := Vq (.inr (.inl rfl)) hc
 unfold pI at h
 rcases hall : ds.all (D.clo 0 FZ) with _ | _
 ·rw [hall] at h; simp at h
 rw [hall, cond_true] at h
 rw [Option.bind_eq_some_iff] at h
 obtain ⟨d1, h1, h⟩ := h
 simp at h
 obtain ⟨rfl, rfl⟩ := h
 exact PO hO hB hop (show a.eval (.func f) = .func (.func f) #[] #[] from rfl) rfl q.inv (.refl c m) (by simpa using FL.aiW hr hall) h1
theorem RF : ∀ {ds ds' : List D} {vs : List Value} {c c' : Ctx}, cO c ds vs → ds'.length = ds.length → (∀ (j : Nat) (d' : D), ds'[j]? = some d' → ∃ d, ds[j]? = some d ∧ ∀ v, Rep c d v → F c'.S c'.w d' v) → FL c'.S c'.w ds' vs
 | [], ds', _, c, c', .nil, hl, h => by
   simp at hl
   subst hl
   exact .nil
 | d :: ds, ds', _, c, c', .cons h1 h2, hl, h => by
   cases ds' with
   | nil => simp at hl
   | cons d' ds' =>
     obtain ⟨d0, q1, q2⟩ := h 0 d' rfl
     simp at q1
     subst q1
     exact .cons (q2 _ h1) (RF h2 (by simpa using hl) (fun j e he => by
      obtain ⟨d0, q1, q2⟩ := h (j + 1) e (by simpa using he)
      exact ⟨d0, by simpa using q1, q2⟩))
theorem cO.ex {c : Ctx} {ds : List D} {vs : List Value} (h : cO c ds vs) : ∀ d ∈ ds, ∃ v, Rep c d v := by
 induction h with
 | nil => intro d hd; simp at hd
 | cons h _ ih =>
   intro d hd
   simp at hd
   rcases hd with rfl | hd
   ·exact ⟨_, h⟩
   ·exact ih d hd
theorem cO.append {c : Ctx} {ds es : List D} {vs us : List Value} (h : cO c ds vs) (h' : cO c es us) : cO c (ds ++ es) (vs ++ us) := by
 induction h with
 | nil => exact h'
 | cons h _ ih => exact .cons h ih
theorem ai' {f : Nat} (hO : jK P w0 O) (hB : Base w0 c) (q : Asked P (.nN f) o a c m ds) (h : ug O f ds m = some (d, m')) : Sound P o a c m d m' := by
 obtain ⟨ys, hc, hr⟩ := q.chk
 obtain ⟨args, ts, hop, rfl⟩ := Vq (.inl rfl) hc
 unfold ug at h
 rw [Option.bind_eq_some_iff] at h
 obtain ⟨⟨fargs, m1⟩, h1, h⟩ := h
 rw [Option.bind_eq_some_iff] at h
 obtain ⟨d1, h2, h⟩ := h
 simp at h
 obtain ⟨rfl, rfl⟩ := h
 obtain ⟨c1, hw, hi1, hs1, hl, hF⟩ := Dv (TW FZ) ds m fargs m1 h1 c q.inv hr.ex
 exact PO hO hB hop (show a.eval (.func f) = .func (.func f) #[] #[] from rfl) hw hi1 hs1 (by simpa using RF hr hl hF) h2
theorem Jw {name : String} : ∀ {tab : List (Nat × Nat)} {u f : Nat}, Oc P name tab = true → uQ tab u = some f → Ob P u name f = true
 | [], u, f, _, h => by simp [uQ] at h
 | (u', f') :: r, u, f, hc, h => by
   simp only [Oc, Bool.and_eq_true] at hc
   simp only [uQ, cond_eq_ite] at h
   split at h
   ·rename_i e
    have := Nat.eq_of_beq_eq_true e
    subst this
    simp at h
    subst h
    exact hc.1
   ·exact Jw hc.2 h
theorem aht {u f : Nat} {name : String} (h : Ob P u name f = true) (v : Value) (k : Nat) (w : World) : (method (k + 1) u v name).run P w = .ok (f, v) w := by
 unfold Ob at h
 split at h <;> try (simp at h; done)
 rename_i mt hm
 rw [Option.bind_eq_some_iff] at hm
 obtain ⟨i, hi, hm⟩ := hm
 split at h <;> try (simp at h; done)
 rename_i g pr hp hf
 simp only [Bool.and_eq_true] at h
 obtain ⟨h1, h2⟩ := h
 have := Nat.eq_of_beq_eq_true h1
 subst this
 cases hu : P.underlying u with
 | none => rw [hu] at h2; simp at h2
 | some d =>
   rw [hu] at h2
   cases d
   case pointer e =>
    simp only at h2
    subst h2
    simp [method, typeInfo, hi, hm, hp, hf, follow, receiverAt, run_underlying hu, Place.get]
   all_goals
    simp only [Bool.not_eq_true'] at h2
    subst h2
    simp [method, typeInfo, hi, hm, hp, hf, follow, receiverAt, run_underlying hu, Place.get]
theorem akK {recv : Operand} {name : String} {args : Array Operand} {ts : Array TypeId} {u f : Nat} {v : Value} (hop : o.op = .call ⟨.invoke recv name, args, ts⟩) (hg : a.eval recv = .iface u v) (hm : Ob P u name f = true) (w : World) :
  (execOp a.eval o).run P w = (callFunc f (#[v] ++ args.map a.eval)).run P w := by
 have hfuel : ∃ k, P.types.size + Made.depth = k + 1 := ⟨P.types.size + 99, rfl⟩
 obtain ⟨k, hk⟩ := hfuel
 simp only [execOp, hop, resolve, hg, Sem.run_bind, Sem.run_pure, Result.andThen_ok, invoke]
 have he : (#[Value.iface u v] ++ args.map a.eval)[0]? = some (.iface u v) := by rw [Array.getElem?_append_left (by simp)]; rfl
 have hx : (#[Value.iface u v] ++ args.map a.eval).extract 1 (#[Value.iface u v] ++ args.map a.eval).size = args.map a.eval := by
  apply Array.ext'
  simp
  exact List.take_of_length_le (by simp)
 simp only [he, hx, callMethod]
 simp [hk, aht hm v k w]
theorem aaq {u f : Nat} {recv : Operand} {name : String} {args : Array Operand} {ts : Array TypeId} {v : Value} {c1 : Ctx} {m1 : Mem} {fargs : List D} (hO : jK P w0 O) (hB : Base w0 c) (hop : o.op = .call ⟨.invoke recv name, args, ts⟩) (hg : a.eval recv = .iface u v)
  (hm : Ob P u name f = true) (hw : c1.w = c.w) (hi1 : Inv c1 m1) (hs1 : Step c m c1 m1) (hF : FL c1.S c1.w fargs (v :: args.toList.map a.eval)) (h : O.call f fargs = some d) : Sound P o a c m d m1 := by
 have hcall := Rh (P := P) (w0 := w0) (fun r m' => hO.a f fargs [] r m') (hB.ext hs1.ext) hi1 hF (hO.p _ _ _ h)
 intro Kn Q hk
 unfold Oper.wp
 have he : #[v] ++ args.map a.eval = (v :: args.toList.map a.eval).toArray := by cases args; simp
 rw [akK hop hg hm c.w, he]
 rcases hcall with ⟨⟨fn, q1, q2, q3⟩, hcall⟩ | ⟨r, w', hx, v', c', hv, rfl, h1, h2, h3⟩
 ·rw [JK q1 q2 q3, Oper.upon_enter]
  rw [← hw]
  refine hcall.mono ?_
  rintro e w' ⟨v, c', rfl, rfl, h1, h2, h3⟩
  exact hk v c' (.bI _ _ h1) h2 (hs1.trans h3)
 ·simp at hv
  subst hv
  rw [← hw, hx, Oper.upon_value]
  exact hk _ c' (.bI _ _ h1) h2 (hs1.trans h3)
theorem acH {tab : List (Nat × Nat)} {op : Op} {ys : List Operand} {k : K} (hk : k = .Dw tab ∨ k = .VW tab) (h : aX P k op = some ys) : ∃ recv name args ts, op = .call ⟨.invoke recv name, args, ts⟩ ∧ ys = recv :: args.toList ∧ Oc P name tab = true := by
 have h' : aX P (.Dw tab) op = some ys := by rcases hk with rfl | rfl <;> simpa only [aX] using h
 simp only [aX] at h'
 split at h' <;> try (simp at h'; done)
 rw [Option.ite_none_right_eq_some] at h'
 obtain ⟨h1, h'⟩ := h'
 simp at h'
 exact ⟨_, _, _, _, rfl, h'.symm, h1⟩
theorem akT {tab : List (Nat × Nat)} (hO : jK P w0 O) (hB : Base w0 c) (q : Asked P (.Dw tab) o a c m ds) (h : FQ O tab ds m = some (d, m')) : Sound P o a c m d m' := by
 obtain ⟨ys, hc, hr⟩ := q.chk
 obtain ⟨recv, name, args, ts, hop, rfl, hall⟩ := acH (.inl rfl) hc
 unfold FQ at h
 split at h <;> try (simp at h; done)
 rename_i u e dargs
 rw [Option.bind_eq_some_iff] at h
 obtain ⟨f, hf, h⟩ := h
 unfold pI at h
 rcases hcl : (e :: dargs).all (D.clo 0 FZ) with _ | _
 ·rw [hcl] at h; simp at h
 rw [hcl, cond_true, Option.bind_eq_some_iff] at h
 obtain ⟨d1, h1, h⟩ := h
 simp only [Option.some.injEq, Prod.mk.injEq] at h
 obtain ⟨rfl, rfl⟩ := h
 generalize hvs : List.map a.eval (recv :: args.toList) = vs at hr
 cases hr with
 | cons hr1 hr2 =>
   simp only [List.map_cons, List.cons.injEq] at hvs
   obtain ⟨e1, rfl⟩ := hvs
   obtain ⟨v, rfl, hv⟩ := hr1.eU
   exact aaq hO hB hop e1 (Jw hall hf) rfl q.inv (.refl c m) (FL.aiW (.cons hv hr2) hcl) h1
theorem akU {tab : List (Nat × Nat)} (hO : jK P w0 O) (hB : Base w0 c) (q : Asked P (.VW tab) o a c m ds) (h : Ik O tab ds m = some (d, m')) : Sound P o a c m d m' := by
 obtain ⟨ys, hc, hr⟩ := q.chk
 obtain ⟨recv, name, args, ts, hop, rfl, hall⟩ := acH (.inr rfl) hc
 unfold Ik at h
 split at h <;> try (simp at h; done)
 rename_i u e dargs
 rw [Option.bind_eq_some_iff] at h
 obtain ⟨f, hf, h⟩ := h
 unfold ug at h
 rw [Option.bind_eq_some_iff] at h
 obtain ⟨⟨fargs, m1⟩, h1, h⟩ := h
 rw [Option.bind_eq_some_iff] at h
 obtain ⟨d1, h2, h⟩ := h
 simp only [Option.some.injEq, Prod.mk.injEq] at h
 obtain ⟨rfl, rfl⟩ := h
 generalize hvs : List.map a.eval (recv :: args.toList) = vs at hr
 cases hr with
 | cons hr1 hr2 =>
   simp only [List.map_cons, List.cons.injEq] at hvs
   obtain ⟨e1, rfl⟩ := hvs
   obtain ⟨v, rfl, hv⟩ := hr1.eU
   have hall2 := cO.cons hv hr2
   obtain ⟨c1, hw, hi1, hs1, hl1, hF⟩ := Dv (TW FZ) (e :: dargs) m fargs m1 h1 c q.inv hall2.ex
   exact aaq hO hB hop e1 (Jw hall hf) hw hi1 hs1 (RF hall2 hl1 hF) h2
theorem aja (hO : jK P w0 O) (hB : Base w0 c) (q : Asked P .yO o a c m ds) (h : DK O ds m = some (d, m')) : Sound P o a c m d m' := by
 obtain ⟨ys, hc, hr⟩ := q.chk
 obtain ⟨g, args, ts, hop, rfl⟩ : ∃ g args ts, o.op = .call ⟨.value g, args, ts⟩ ∧ ys = g :: args.toList := by
  simp only [aX] at hc; split at hc <;> simp at hc
  exact ⟨_, _, _, by assumption, hc.symm⟩
 unfold DK at h
 split at h <;> try (simp at h; done)
 rename_i f cap dargs
 rw [Option.bind_eq_some_iff] at h
 obtain ⟨⟨fargs, m1⟩, h1, h⟩ := h
 rw [Option.bind_eq_some_iff] at h
 obtain ⟨d1, h2, h⟩ := h
 simp at h
 obtain ⟨rfl, rfl⟩ := h
 simp only [List.map_cons] at hr
 cases hr with
 | cons hr1 hr2 =>
   obtain ⟨vs, g', e1, hl, hg, hr'⟩ := hr1.ED
   have hcap : cO c cap vs.toList := by
    have : ∀ (l : List D) (us : List Value), us.length = l.length → (∀ (j : Nat) (d : D), l[j]? = some d → ∃ v, us[j]? = some v ∧ Rep c d v) → cO c l us := by
     intro l
     induction l with
     | nil => intro us h1 _; simp at h1; subst h1; exact .nil
     | cons d l ih =>
       intro us h1 h2
       cases us with
       | nil => simp at h1
       | cons u us =>
         obtain ⟨v, q1, q2⟩ := h2 0 d rfl
         simp at q1
         subst q1
         exact .cons q2 (ih us (by simpa using h1) (fun j e he => by simpa using h2 (j + 1) e (by simpa using he)))
    refine this cap vs.toList (by simpa using hl) (fun j d hd => ?_)
    have hj : j < cap.length := (List.getElem?_eq_some_iff.1 hd).1
    exact ⟨g' j, by simpa using hg j hj, hr' j d hd⟩
   have hall := hr2.append hcap
   obtain ⟨c1, hw, hi1, hs1, hl1, hF⟩ := Dv (TW FZ) (dargs ++ cap) m fargs m1 h1 c q.inv hall.ex
   exact PO hO hB hop e1 hw hi1 hs1 (RF hall hl1 hF) h2
theorem K.sound {k : K} {base : Nat} (hO : jK P w0 O) (hB : Base w0 c) (q : Asked P k o a c m ds) (h : k.run O base ds m = some (d, m')) : Sound P o a c m d m' := by
 cases k <;> simp only [K.run] at h
 case aF => exact amE q h
 case pick => exact ak2 q h
 case box => exact ams q h
 case alloc => exact ai7 q h
 case ak => exact aap q h
 case O6 => exact ajd q h
 case aN => exact ajc q h
 case store => exact ajf q h
 case build => exact ai8 q h
 case xW => exact amu q h
 case Vl => exact akO q h
 case kN => exact aje q h
 case aj => exact akM q h
 case sh => exact anG q h
 case dP => exact akN q h
 case U1 => exact amw q h
 case r_ => exact amz q h
 case eqN => exact amy q h
 case eqE => simp at h
 case Xh => exact amv q h
 case neg => exact amF q h
 case inv => exact amC q h
 case not => exact amG q h
 case conv => exact akP q h
 case b2s => exact amr q h
 case eqS => exact amA q h
 case O8 => exact akZ q h
 case V6 => exact akY q h
 case zG => exact ak0 q h
 case Qs => exact amI q h
 case Hr => exact amH q h
 case ay => exact akQ q h
 case aQ => exact akR q h
 case T_ => exact ajb q h
 case zD => exact akS q h
 case ext => exact amB q h
 case mD => exact akW q h
 case aZ => exact akV q h
 case mn => exact anE q h
 case mx => exact anF q h
 case app => exact amq q h
 case nN => exact ai' hO hB q h
 case ah => exact ai_ hO hB q h
 case aY => exact ai9 hO hB q h
 case yO => exact aja hO hB q h
 case Z5 => exact amD q h
 case Sm => exact ak1 q h
 case Sl => exact akX q h
 case TB => exact ak3 q h
 case Nw => exact ak4 q h
 case Dw => exact akT hO hB q h
 case VW => exact akU hO hB q h
 case eqF => exact amx q h
 case stop => simp at h
end
end Go.Ev
