/- A part of the proof of the theorem yieldNone_card. -/
import Derived.Test.YtjjogojaemahkaaGreatDoorLim
set_option linter.unusedVariables false
set_option linter.unusedSimpArgs false
namespace Go.Ev
def bd {α β : Type} (x : Option α) (f : α → Option β) : Option β := x.bind f
def jn {β : Type} (x : Option (Ex × List D × Mem)) (f : Ex × List D × Mem → Option β) : Option β := x.bind f
abbrev hd (l : List D) : D := l.headD .undef
abbrev tl (l : List D) : List D := l.tail
def exM {α : Type} (x : Ex) (n : α) (f : Nat → α) (r : α) : α := match x with
  | .normal => n
  | .exit i => f i
  | .ret => r
def blkX (id : Nat) (x : Ex) : Ex := match x with
  | .exit i => bif Nat.beq i id then .normal else .exit i
  | x => x
def dCond {R : Type} (d : D) (a b : Option R) : Option R := match d with
  | .bool t => if t = true then a else b
  | _ => none
def wantsD (d : D) (b : Bool) : Option Bool := match d with
  | .bool b' => some (b' == b)
  | .tup [] => some false
  | _ => none
def gop (w : Option Bool) (x : RV) (m : Mem) : RV := w.bind fun w => bif w then x else some (.tup [], m)
def runOps2 {R : Type} (O : Orc) (base : Nat) : List EO → Env → Mem → (Env → Mem → Option R) → Option R
  | [], e, m, k => k e m
  | o :: os, e, m, k => match o.guard with
    | none => (evs e o.xs).bind fun ds => (o.k.run O base ds m).bind fun r => runOps2 O base os (setE e o.dst r.1) r.2 k
    | some (t, b) => (look e t).bind fun d => (gop (wantsD d b) ((evs e o.xs).bind fun ds => o.k.run O base ds m) m).bind fun r => runOps2 O base os (setE e o.dst r.1) r.2 k
theorem runOps2_eq {R : Type} (O : Orc) (base : Nat) (k : Env → Mem → Option R) : ∀ (os : List EO) (e : Env) (m : Mem), runOps2 O base os e m k = (runOps O base os e m).bind fun r => k r.1 r.2
  | [], e, m => rfl
  | o :: os, e, m => by
    simp only [runOps2, runOps, EO.run, EO.wants]
    cases hg : o.guard with
    | none => cases evs e o.xs <;> simp [Option.bind_assoc, runOps2_eq O base k os]
    | some tb =>
      obtain ⟨t, b⟩ := tb
      cases hl : look e t with
      | none => simp [hl]
      | some d =>
        cases d <;> simp only [hl, gop, wantsD, Option.bind_some, Option.bind_none]
        case bool b' =>
          cases hb : (b' == b) <;> simp [runOps2_eq O base k os, Option.bind_assoc]
        case tup vs => cases vs <;> simp [runOps2_eq O base k os, Option.bind_assoc]
def place (n : Nat) (m : Mem) : Mem := bif Nat.beq n 0 then m else m ++ List.replicate n .free
theorem place_eq (n : Nat) (m : Mem) : place n m = m ++ List.replicate n .free := by
  unfold place
  cases h : Nat.beq n 0 with
  | false => rfl
  | true => rw [Nat.eq_of_beq_eq_true h]; simp
def EC.exec2 {R : Type} (O : Orc) : EC → Env → Mem → (Ex → Env → Mem → Option R) → Option R
  | .skip, e, m, k => k .normal e m
  | .region n ops, e, m, k => runOps2 O m.length ops e (place n m) fun e' m' => k .normal e' m'
  | .drawn n ops, e, m, k => runOps2 O m.length (ops.map (·.2)) e (place n m) fun e' m' => k .normal e' m'
  | .frz ts c, e, m, k => (fzL (fz FZ) (pickE e ts) m).bind fun r => c.exec2 O (zipE ts r.1 ++ e) r.2 k
  | .seq a b, e, m, k => a.exec2 O e m fun x e' m' => exM x (b.exec2 O e' m' k) (fun i => k (.exit i) e' m') (k .ret e' m')
  | .cond c a b, e, m, k => (c.ev e).bind fun d => dCond d (a.exec2 O e m k) (b.exec2 O e m k)
  | .block id c, e, m, k => c.exec2 O e m fun x e' m' => k (blkX id x) e' m'
  | .loop ins outs body, e, m, k => (O.loop ins outs body m.length (pickE e ins) m).bind fun r => k r.1 (zipE outs r.2.1) r.2.2
  | .exit id, e, m, k => k (.exit id) e m
  | .ret, e, m, k => k .ret e m
  | .mask keep c, e, m, k => c.exec2 O (maskE e keep) m k
  | .join keep c, e, m, k => (c.exec2 O e m fun x e' m' => some (x, pickE e' keep, m')).bind fun r => k r.1 (zipE keep r.2.1) r.2.2
theorem exec2_eq {R : Type} (O : Orc) : ∀ (c : EC) (e : Env) (m : Mem) (k : Ex → Env → Mem → Option R), c.exec2 O e m k = c.exec O e m k := by
  intro c
  induction c generalizing R with
  | skip => intros; rfl
  | region n ops => intro e m k; simp only [EC.exec2, EC.exec, runOps2_eq, place_eq]
  | drawn n ops => intro e m k; simp only [EC.exec2, EC.exec, runOps2_eq, place_eq]
  | frz ts c ih => intro e m k; simp only [EC.exec2, EC.exec, ih]
  | seq a b iha ihb =>
    intro e m k
    simp only [EC.exec2, EC.exec, iha, ihb]
    congr 1
    funext x e' m'
    cases x <;> rfl
  | cond c a b iha ihb =>
    intro e m k
    simp only [EC.exec2, EC.exec, iha, ihb]
    cases c.ev e with
    | none => rfl
    | some d => cases d <;> simp [dCond]
  | block id c ih =>
    intro e m k
    simp only [EC.exec2, EC.exec, ih]
    congr 1
    funext x e' m'
    cases x <;> simp [blkX]
    rename_i i
    cases Nat.beq i id <;> rfl
  | loop => intros; rfl
  | exit => intros; rfl
  | ret => intros; rfl
  | mask keep c ih => intro e m k; simp only [EC.exec2, EC.exec, ih]
  | join keep c ih => intro e m k; simp only [EC.exec2, EC.exec, ih]
def finR (f : EF) (n : Nat) (e : Env) (m : Mem) : RV := (ERs e m f.res).bind fun rs => (gc n rs m).bind fun r => some (tupD r)
def EF.step2 (O : Orc) (f : EF) (args : List D) (m : Mem) : RV :=
  f.body.exec2 O (zipE f.params args) m fun x e m' => exM x (finR f m.length e m') (fun _ => none) (finR f m.length e m')
theorem step2_eq (O : Orc) (f : EF) (args : List D) (m : Mem) (h : Nat.beq args.length f.params.length = true) : f.step2 O args m = f.step O args m := by
  simp only [EF.step2, EF.step, exec2_eq, h, cond_true]
  congr 1
  funext x e m'
  cases x <;> rfl
def loopStep2 (O : Orc) (ins outs : List Nat) (body : EC) (base : Nat) (vals : List D) (m : Mem) : Option (Ex × List D × Mem) :=
  body.exec2 O (zipE ins vals) m fun x e m' =>
    exM x ((gc base (pickE e ins) m').bind fun r => O.loop ins outs body base r.1 r.2) (fun i => (gc base (pickE e outs) m').bind fun r => some (.exit i, r.1, r.2)) ((gc base (pickE e outs) m').bind fun r => some (.ret, r.1, r.2))
theorem loopStep2_eq (O : Orc) (ins outs : List Nat) (body : EC) (base : Nat) (vals : List D) (m : Mem) : loopStep2 O ins outs body base vals m = loopStep O ins outs body base vals m := by
  simp only [loopStep2, loopStep, exec2_eq]
  congr 1
  funext x e m'
  cases x <;> rfl
def fin (r : D × Mem) : Option D := (fz FZ r.1 r.2).bind fun s => some s.1
theorem call_of {T : Tab} {f : Nat} {ef : EF} {args : List D} {d : D} {x : RV} (hf : T.fn f = some ef) (hn : Nat.beq args.length ef.params.length = true) (hs : ef.step2 T.lim args [] = x) (h : x.bind fin = some d) : T.lim.call f args = some d := by
  show pureOf (T.lim.calla f args []) = some d
  unfold pureOf
  rw [Option.bind_eq_some_iff] at h
  obtain ⟨r, hr, h⟩ := h
  rw [lim_fn hf (r := r) (by rw [← step2_eq _ _ _ _ hn, hs, hr])]
  exact h
theorem calla_of {T : Tab} {f : Nat} {ef : EF} {args : List D} {m : Mem} {r : D × Mem} {x : RV} (hf : T.fn f = some ef) (hn : Nat.beq args.length ef.params.length = true) (hs : ef.step2 T.lim args m = x) (h : x = some r) : T.lim.calla f args m = some r :=
  lim_fn hf (by rw [← step2_eq _ _ _ _ hn, hs, h])
theorem round_of {T : Tab} {ins outs : List Nat} {body : EC} {base : Nat} {vals : List D} {m : Mem} {r : Ex × List D × Mem} {x : Option (Ex × List D × Mem)} (hs : loopStep2 T.lim ins outs body base vals m = x) (h : x = some r) : T.lim.loop ins outs body base vals m = some r :=
  lim_round (by rw [← loopStep2_eq, hs, h])
@[congr] theorem bd_congr {α β : Type} {x y : Option α} {f : α → Option β} (h : x = y) : bd x f = bd y f := by rw [h]
@[simp] theorem bd_some {α β : Type} (a : α) (f : α → Option β) : bd (some a) f = f a := by rfl
@[simp] theorem bd_none {α β : Type} (f : α → Option β) : bd none f = none := by rfl
@[congr] theorem jn_congr {β : Type} {x y : Option (Ex × List D × Mem)} {f : Ex × List D × Mem → Option β} (h : x = y) : jn x f = jn y f := by rw [h]
@[simp] theorem jn_some {β : Type} (a : Ex × List D × Mem) (f : Ex × List D × Mem → Option β) : jn (some a) f = f a := by rfl
@[congr] theorem dCond_congr {R : Type} {d d' : D} {a b : Option R} (h : d = d') : dCond d a b = dCond d' a b := by rw [h]
@[simp] theorem dCond_true {R : Type} (a b : Option R) : dCond (.bool true) a b = a := by rfl
@[simp] theorem dCond_false {R : Type} (a b : Option R) : dCond (.bool false) a b = b := by rfl
@[congr] theorem exM_congr {α : Type} {x y : Ex} {n r : α} {f : Nat → α} (h : x = y) : exM x n f r = exM y n f r := by rw [h]
@[simp] theorem exM_normal {α : Type} (n : α) (f : Nat → α) (r : α) : exM .normal n f r = n := by rfl
@[simp] theorem exM_exit {α : Type} (i : Nat) (n : α) (f : Nat → α) (r : α) : exM (.exit i) n f r = f i := by rfl
@[simp] theorem exM_ret {α : Type} (n : α) (f : Nat → α) (r : α) : exM .ret n f r = r := by rfl
@[congr] theorem gop_congr {w w' : Option Bool} {x : RV} {m : Mem} (h : w = w') : gop w x m = gop w' x m := by rw [h]
@[simp] theorem gop_true (x : RV) (m : Mem) : gop (some true) x m = x := by rfl
@[simp] theorem gop_false (x : RV) (m : Mem) : gop (some false) x m = some (.tup [], m) := by rfl
@[simp] theorem wantsD_bool (a b : Bool) : wantsD (.bool a) b = some (a == b) := by rfl
@[simp] theorem wantsD_none (b : Bool) : wantsD (.tup []) b = some false := by rfl
@[simp] theorem blkX_normal (i : Nat) : blkX i .normal = .normal := by rfl
@[simp] theorem blkX_ret (i : Nat) : blkX i .ret = .ret := by rfl
@[simp] theorem blkX_exit (i j : Nat) : blkX i (.exit j) = bif Nat.beq j i then .normal else .exit j := by rfl
end Go.Ev
