/- A part of the proof of planStub_card, planEnd_card, planLone_card, bondLong_card. -/
import Derived.Test.YtgppbgfjhkjfcaaGreatDoorBLim
set_option linter.unusedVariables false
set_option linter.unusedSimpArgs false
namespace Go.Ev
def bd {α β : Type} (x : Option α) (f : α → Option β) : Option β := x.bind f
def jn {β : Type} (x : Option (Ex × List D × Mem)) (f : Ex × List D × Mem → Option β) : Option β := x.bind f
abbrev hd (l : List D) : D := l.headD .undef
abbrev tl (l : List D) : List D := l.tail
def dR {α : Type} (x : Ex) (n : α) (f : Nat → α) (r : α) : α := match x with
 | .normal => n
 | .exit i => f i
 | .ret => r
def dL (id : Nat) (x : Ex) : Ex := match x with
 | .exit i => bif Nat.beq i id then .normal else .exit i
 | x => x
def aH {R : Type} (d : D) (a b : Option R) : Option R := match d with
 | .bool t => if t = true then a else b
 | _ => none
def ay (d : D) (b : Bool) : Option Bool := match d with
 | .bool b' => some (b' == b)
 | .bg [] => some false
 | _ => none
def aG (w : Option Bool) (x : RV) (m : Mem) : RV := w.bind fun w => bif w then x else some (.bg [], m)
def Hw {R : Type} (O : aJ) (base : Nat) : List EO → Env → Mem → (Env → Mem → Option R) → Option R
 | [], e, m, k => k e m
 | o :: os, e, m, k => match o.guard with
   | none => (evs e o.xs).bind fun ds => (o.k.run O base ds m).bind fun r => Hw O base os (r_ e o.dst r.1) r.2 k
   | some (t, b) => (look e t).bind fun d => (aG (ay d b) ((evs e o.xs).bind fun ds => o.k.run O base ds m) m).bind fun r => Hw O base os (r_ e o.dst r.1) r.2 k
theorem Bv {R : Type} (O : aJ) (base : Nat) (k : Env → Mem → Option R) : ∀ (os : List EO) (e : Env) (m : Mem), Hw O base os e m k = (nK O base os e m).bind fun r => k r.1 r.2
 | [], e, m => rfl
 | o :: os, e, m => by
   simp only [Hw, nK, EO.run, EO.wants]
   cases hg : o.guard with
   | none => cases evs e o.xs <;> simp [Option.bind_assoc, Bv O base k os]
   | some tb =>
     obtain ⟨t, b⟩ := tb
     cases hl : look e t with
     | none => simp [hl]
     | some d =>
       cases d <;> simp only [hl, aG, ay, Option.bind_some, Option.bind_none]
       case bool b' =>
        cases hb : (b' == b) <;> simp [Bv O base k os, Option.bind_assoc]
       case bg vs => cases vs <;> simp [Bv O base k os, Option.bind_assoc]
def place (n : Nat) (m : Mem) : Mem := bif Nat.beq n 0 then m else m ++ List.replicate n .free
theorem ad3 (n : Nat) (m : Mem) : place n m = m ++ List.replicate n .free := by
 unfold place
 cases h : Nat.beq n 0 with
 | false => rfl
 | true => rw [Nat.eq_of_beq_eq_true h]; simp
def EC.oO {R : Type} (O : aJ) : EC → Env → Mem → (Ex → Env → Mem → Option R) → Option R
 | .skip, e, m, k => k .normal e m
 | .region n ops, e, m, k => Hw O m.length ops e (place n m) fun e' m' => k .normal e' m'
 | .drawn n ops, e, m, k => Hw O m.length (ops.map (·.2)) e (place n m) fun e' m' => k .normal e' m'
 | .Vq ts c, e, m, k => (jZ (fz FZ) (uP e ts) m).bind fun r => c.oO O (wE ts r.1 ++ e) r.2 k
 | .seq a b, e, m, k => a.oO O e m fun x e' m' => dR x (b.oO O e' m' k) (fun i => k (.exit i) e' m') (k .ret e' m')
 | .cond c a b, e, m, k => (c.ev e).bind fun d => aH d (a.oO O e m k) (b.oO O e m k)
 | .block id c, e, m, k => c.oO O e m fun x e' m' => k (dL id x) e' m'
 | .loop ins outs body, e, m, k => (O.loop ins outs body m.length (uP e ins) m).bind fun r => k r.1 (wE outs r.2.1) r.2.2
 | .exit id, e, m, k => k (.exit id) e m
 | .ret, e, m, k => k .ret e m
 | .mask keep c, e, m, k => c.oO O (Lu e keep) m k
 | .join keep c, e, m, k => (c.oO O e m fun x e' m' => some (x, uP e' keep, m')).bind fun r => k r.1 (wE keep r.2.1) r.2.2
theorem adf {R : Type} (O : aJ) : ∀ (c : EC) (e : Env) (m : Mem) (k : Ex → Env → Mem → Option R), c.oO O e m k = c.exec O e m k := by
 intro c
 induction c generalizing R with
 | skip => intros; rfl
 | region n ops => intro e m k; simp only [EC.oO, EC.exec, Bv, ad3]
 | drawn n ops => intro e m k; simp only [EC.oO, EC.exec, Bv, ad3]
 | Vq ts c ih => intro e m k; simp only [EC.oO, EC.exec, ih]
 | seq a b iha ihb =>
   intro e m k
   simp only [EC.oO, EC.exec, iha, ihb]
   congr 1
   funext x e' m'
   cases x <;> rfl
 | cond c a b iha ihb =>
   intro e m k
   simp only [EC.oO, EC.exec, iha, ihb]
   cases c.ev e with
   | none => rfl
   | some d => cases d <;> simp [aH]
 | block id c ih =>
   intro e m k
   simp only [EC.oO, EC.exec, ih]
   congr 1
   funext x e' m'
   cases x <;> simp [dL]
   rename_i i
   cases Nat.beq i id <;> rfl
 | loop => intros; rfl
 | exit => intros; rfl
 | ret => intros; rfl
 | mask keep c ih => intro e m k; simp only [EC.oO, EC.exec, ih]
 | join keep c ih => intro e m k; simp only [EC.oO, EC.exec, ih]
def anz (f : EF) (n : Nat) (e : Env) (m : Mem) : RV := (Aq e m f.res).bind fun rs => (gc n rs m).bind fun r => some (aN r)
def EF.step2 (O : aJ) (f : EF) (args : List D) (m : Mem) : RV :=
 f.body.oO O (wE f.params args) m fun x e m' => dR x (anz f m.length e m') (fun _ => none) (anz f m.length e m')
theorem aeh (O : aJ) (f : EF) (args : List D) (m : Mem) (h : Nat.beq args.length f.params.length = true) : f.step2 O args m = f.step O args m := by
 simp only [EF.step2, EF.step, adf, h, cond_true]
 congr 1
 funext x e m'
 cases x <;> rfl
def bY (O : aJ) (ins outs : List Nat) (body : EC) (base : Nat) (vals : List D) (m : Mem) : Option (Ex × List D × Mem) :=
 body.oO O (wE ins vals) m fun x e m' =>
  dR x ((gc base (uP e ins) m').bind fun r => O.loop ins outs body base r.1 r.2) (fun i => (gc base (uP e outs) m').bind fun r => some (.exit i, r.1, r.2)) ((gc base (uP e outs) m').bind fun r => some (.ret, r.1, r.2))
theorem adH (O : aJ) (ins outs : List Nat) (body : EC) (base : Nat) (vals : List D) (m : Mem) : bY O ins outs body base vals m = xg O ins outs body base vals m := by
 simp only [bY, xg, adf]
 congr 1
 funext x e m'
 cases x <;> rfl
def fin (r : D × Mem) : Option D := (fz FZ r.1 r.2).bind fun s => some s.1
theorem alP {T : Tab} {f : Nat} {ef : EF} {args : List D} {d : D} {x : RV} (hf : T.fn f = some ef) (hn : Nat.beq args.length ef.params.length = true) (hs : ef.step2 T.lim args [] = x) (h : x.bind fin = some d) : T.lim.call f args = some d := by
 show qc (T.lim.aY f args []) = some d
 unfold qc
 rw [Option.bind_eq_some_iff] at h
 obtain ⟨r, hr, h⟩ := h
 rw [adE hf (r := r) (by rw [← aeh _ _ _ _ hn, hs, hr])]
 exact h
theorem aj3 {T : Tab} {f : Nat} {ef : EF} {args : List D} {m : Mem} {r : D × Mem} {x : RV} (hf : T.fn f = some ef) (hn : Nat.beq args.length ef.params.length = true) (hs : ef.step2 T.lim args m = x) (h : x = some r) : T.lim.aY f args m = some r :=
 adE hf (by rw [← aeh _ _ _ _ hn, hs, h])
theorem akV {T : Tab} {ins outs : List Nat} {body : EC} {base : Nat} {vals : List D} {m : Mem} {r : Ex × List D × Mem} {x : Option (Ex × List D × Mem)} (hs : bY T.lim ins outs body base vals m = x) (h : x = some r) : T.lim.loop ins outs body base vals m = some r :=
 aak (by rw [← adH, hs, h])
@[congr] theorem apk {α β : Type} {x y : Option α} {f : α → Option β} (h : x = y) : bd x f = bd y f := by rw [h]
@[simp] theorem Uk {α β : Type} (a : α) (f : α → Option β) : bd (some a) f = f a := by rfl
@[simp] theorem ap9 {α β : Type} (f : α → Option β) : bd none f = none := by rfl
@[congr] theorem apL {β : Type} {x y : Option (Ex × List D × Mem)} {f : Ex × List D × Mem → Option β} (h : x = y) : jn x f = jn y f := by rw [h]
@[simp] theorem amn {β : Type} (a : Ex × List D × Mem) (f : Ex × List D × Mem → Option β) : jn (some a) f = f a := by rfl
@[congr] theorem an3 {R : Type} {d d' : D} {a b : Option R} (h : d = d') : aH d a b = aH d' a b := by rw [h]
@[simp] theorem aod {R : Type} (a b : Option R) : aH (.bool true) a b = a := by rfl
@[simp] theorem ae1 {R : Type} (a b : Option R) : aH (.bool false) a b = b := by rfl
@[congr] theorem aoF {α : Type} {x y : Ex} {n r : α} {f : Nat → α} (h : x = y) : dR x n f r = dR y n f r := by rw [h]
@[simp] theorem aog {α : Type} (n : α) (f : Nat → α) (r : α) : dR .normal n f r = n := by rfl
@[simp] theorem apz {α : Type} (i : Nat) (n : α) (f : Nat → α) (r : α) : dR (.exit i) n f r = f i := by rfl
@[simp] theorem aqo {α : Type} (n : α) (f : Nat → α) (r : α) : dR .ret n f r = r := by rfl
@[congr] theorem aoR {w w' : Option Bool} {x : RV} {m : Mem} (h : w = w') : aG w x m = aG w' x m := by rw [h]
@[simp] theorem apJ (x : RV) (m : Mem) : aG (some true) x m = x := by rfl
@[simp] theorem aoS (x : RV) (m : Mem) : aG (some false) x m = some (.bg [], m) := by rfl
@[simp] theorem an7 (a b : Bool) : ay (.bool a) b = some (a == b) := by rfl
@[simp] theorem an8 (b : Bool) : ay (.bg []) b = some false := by rfl
@[simp] theorem an2 (i : Nat) : dL i .normal = .normal := by rfl
@[simp] theorem apm (i : Nat) : dL i .ret = .ret := by rfl
@[simp] theorem aoD (i j : Nat) : dL i (.exit j) = bif Nat.beq j i then .normal else .exit j := by rfl
end Go.Ev
