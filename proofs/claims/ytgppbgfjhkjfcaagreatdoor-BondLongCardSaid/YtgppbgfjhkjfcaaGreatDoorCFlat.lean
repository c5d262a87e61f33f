/- A part of the proof of planLone_card, bondLong_card. -/
import Derived.Test.YtgppbgfjhkjfcaaGreatDoorCLim
set_option linter.unusedVariables false
set_option linter.unusedSimpArgs false
section
namespace Go.Ev
def bd {α β : Type} (x : Option α) (f : α → Option β) : Option β := x.bind f
def jn {β : Type} (x : Option (Ex × List D × Mem)) (f : Ex × List D × Mem → Option β) : Option β := x.bind f
abbrev hd (l : List D) : D := l.headD .undef
abbrev tl (l : List D) : List D := l.tail
def P8 {α : Type} (x : Ex) (n : α) (f : Nat → α) (r : α) : α := match x with
 | .normal => n
 | .exit i => f i
 | .ret => r
def Jk (id : Nat) (x : Ex) : Ex := match x with
 | .exit i => bif Nat.beq i id then .normal else .exit i
 | x => x
def Fb {R : Type} (d : D) (a b : Option R) : Option R := match d with
 | .bool t => if t = true then a else b
 | _ => none
def GK (d : D) (b : Bool) : Option Bool := match d with
 | .bool b' => some (b' == b)
 | .aS [] => some false
 | _ => none
def U2 (w : Option Bool) (x : RV) (m : Mem) : RV := w.bind fun w => bif w then x else some (.aS [], m)
def IE {R : Type} (O : aC) (base : Nat) : List EO → Env → Mem → (Env → Mem → Option R) → Option R
 | [], e, m, k => k e m
 | o :: os, e, m, k => match o.guard with
   | none => (evs e o.xs).bind fun ds => (o.k.run O base ds m).bind fun r => IE O base os (rV e o.dst r.1) r.2 k
   | some (t, b) => (look e t).bind fun d => (U2 (GK d b) ((evs e o.xs).bind fun ds => o.k.run O base ds m) m).bind fun r => IE O base os (rV e o.dst r.1) r.2 k
theorem DW {R : Type} (O : aC) (base : Nat) (k : Env → Mem → Option R) : ∀ (os : List EO) (e : Env) (m : Mem), IE O base os e m k = (ou O base os e m).bind fun r => k r.1 r.2
 | [], e, m => rfl
 | o :: os, e, m => by
   simp only [IE, ou, EO.run, EO.wants]
   cases hg : o.guard with
   | none => cases evs e o.xs <;> simp [Option.bind_assoc, DW O base k os]
   | some tb =>
     obtain ⟨t, b⟩ := tb
     cases hl : look e t with
     | none => simp [hl]
     | some d =>
       cases d <;> simp only [hl, U2, GK, Option.bind_some, Option.bind_none]
       case bool b' =>
        cases hb : (b' == b) <;> simp [DW O base k os, Option.bind_assoc]
       case aS vs => cases vs <;> simp [DW O base k os, Option.bind_assoc]
def place (n : Nat) (m : Mem) : Mem := bif Nat.beq n 0 then m else m ++ List.replicate n .free
theorem adV (n : Nat) (m : Mem) : place n m = m ++ List.replicate n .free := by
 unfold place
 cases h : Nat.beq n 0 with
 | false => rfl
 | true => rw [Nat.eq_of_beq_eq_true h]; simp
def EC.ql {R : Type} (O : aC) : EC → Env → Mem → (Ex → Env → Mem → Option R) → Option R
 | .skip, e, m, k => k .normal e m
 | .region n ops, e, m, k => IE O m.length ops e (place n m) fun e' m' => k .normal e' m'
 | .drawn n ops, e, m, k => IE O m.length (ops.map (·.2)) e (place n m) fun e' m' => k .normal e' m'
 | .RD ts c, e, m, k => (kC (fz FZ) (mQ e ts) m).bind fun r => c.ql O (vC ts r.1 ++ e) r.2 k
 | .seq a b, e, m, k => a.ql O e m fun x e' m' => P8 x (b.ql O e' m' k) (fun i => k (.exit i) e' m') (k .ret e' m')
 | .cond c a b, e, m, k => (c.ev e).bind fun d => Fb d (a.ql O e m k) (b.ql O e m k)
 | .block id c, e, m, k => c.ql O e m fun x e' m' => k (Jk id x) e' m'
 | .loop ins outs body, e, m, k => (O.loop ins outs body m.length (mQ e ins) m).bind fun r => k r.1 (vC outs r.2.1) r.2.2
 | .exit id, e, m, k => k (.exit id) e m
 | .ret, e, m, k => k .ret e m
 | .mask keep c, e, m, k => c.ql O (Ie e keep) m k
 | .join keep c, e, m, k => (c.ql O e m fun x e' m' => some (x, mQ e' keep, m')).bind fun r => k r.1 (vC keep r.2.1) r.2.2
theorem acY {R : Type} (O : aC) : ∀ (c : EC) (e : Env) (m : Mem) (k : Ex → Env → Mem → Option R), c.ql O e m k = c.exec O e m k := by
 intro c
 induction c generalizing R with
 | skip => intros; rfl
 | region n ops => intro e m k; simp only [EC.ql, EC.exec, DW, adV]
 | drawn n ops => intro e m k; simp only [EC.ql, EC.exec, DW, adV]
 | RD ts c ih => intro e m k; simp only [EC.ql, EC.exec, ih]
 | seq a b iha ihb =>
   intro e m k
   simp only [EC.ql, EC.exec, iha, ihb]
   congr 1
   funext x e' m'
   cases x <;> rfl
 | cond c a b iha ihb =>
   intro e m k
   simp only [EC.ql, EC.exec, iha, ihb]
   cases c.ev e with
   | none => rfl
   | some d => cases d <;> simp [Fb]
 | block id c ih =>
   intro e m k
   simp only [EC.ql, EC.exec, ih]
   congr 1
   funext x e' m'
   cases x <;> simp [Jk]
   rename_i i
   cases Nat.beq i id <;> rfl
 | loop => intros; rfl
 | exit => intros; rfl
 | ret => intros; rfl
 | mask keep c ih => intro e m k; simp only [EC.ql, EC.exec, ih]
 | join keep c ih => intro e m k; simp only [EC.ql, EC.exec, ih]
def anl (f : EF) (n : Nat) (e : Env) (m : Mem) : RV := (IU e m f.res).bind fun rs => (gc n rs m).bind fun r => some (D9 r)
def EF.step2 (O : aC) (f : EF) (args : List D) (m : Mem) : RV :=
 f.body.ql O (vC f.params args) m fun x e m' => P8 x (anl f m.length e m') (fun _ => none) (anl f m.length e m')
theorem ad_ (O : aC) (f : EF) (args : List D) (m : Mem) (h : Nat.beq args.length f.params.length = true) : f.step2 O args m = f.step O args m := by
 simp only [EF.step2, EF.step, acY, h, cond_true]
 congr 1
 funext x e m'
 cases x <;> rfl
def bg (O : aC) (ins outs : List Nat) (body : EC) (base : Nat) (vals : List D) (m : Mem) : Option (Ex × List D × Mem) :=
 body.ql O (vC ins vals) m fun x e m' =>
  P8 x ((gc base (mQ e ins) m').bind fun r => O.loop ins outs body base r.1 r.2) (fun i => (gc base (mQ e outs) m').bind fun r => some (.exit i, r.1, r.2)) ((gc base (mQ e outs) m').bind fun r => some (.ret, r.1, r.2))
theorem adA (O : aC) (ins outs : List Nat) (body : EC) (base : Nat) (vals : List D) (m : Mem) : bg O ins outs body base vals m = yh O ins outs body base vals m := by
 simp only [bg, yh, acY]
 congr 1
 funext x e m'
 cases x <;> rfl
def fin (r : D × Mem) : Option D := (fz FZ r.1 r.2).bind fun s => some s.1
theorem alE {T : Tab} {f : Nat} {ef : EF} {args : List D} {d : D} {x : RV} (hf : T.fn f = some ef) (hn : Nat.beq args.length ef.params.length = true) (hs : ef.step2 T.lim args [] = x) (h : x.bind fin = some d) : T.lim.call f args = some d := by
 show rG (T.lim.aY f args []) = some d
 unfold rG
 rw [Option.bind_eq_some_iff] at h
 obtain ⟨r, hr, h⟩ := h
 rw [adx hf (r := r) (by rw [← ad_ _ _ _ _ hn, hs, hr])]
 exact h
theorem ajS {T : Tab} {f : Nat} {ef : EF} {args : List D} {m : Mem} {r : D × Mem} {x : RV} (hf : T.fn f = some ef) (hn : Nat.beq args.length ef.params.length = true) (hs : ef.step2 T.lim args m = x) (h : x = some r) : T.lim.aY f args m = some r :=
 adx hf (by rw [← ad_ _ _ _ _ hn, hs, h])
theorem akJ {T : Tab} {ins outs : List Nat} {body : EC} {base : Nat} {vals : List D} {m : Mem} {r : Ex × List D × Mem} {x : Option (Ex × List D × Mem)} (hs : bg T.lim ins outs body base vals m = x) (h : x = some r) : T.lim.loop ins outs body base vals m = some r :=
 ZY (by rw [← adA, hs, h])
@[congr] theorem ao6 {α β : Type} {x y : Option α} {f : α → Option β} (h : x = y) : bd x f = bd y f := by rw [h]
@[simp] theorem TN {α β : Type} (a : α) (f : α → Option β) : bd (some a) f = f a := by rfl
@[simp] theorem apX {α β : Type} (f : α → Option β) : bd none f = none := by rfl
@[congr] theorem apz {β : Type} {x y : Option (Ex × List D × Mem)} {f : Ex × List D × Mem → Option β} (h : x = y) : jn x f = jn y f := by rw [h]
@[simp] theorem amc {β : Type} (a : Ex × List D × Mem) (f : Ex × List D × Mem → Option β) : jn (some a) f = f a := by rfl
@[congr] theorem anR {R : Type} {d d' : D} {a b : Option R} (h : d = d') : Fb d a b = Fb d' a b := by rw [h]
@[simp] theorem an3 {R : Type} (a b : Option R) : Fb (.bool true) a b = a := by rfl
@[simp] theorem aeT {R : Type} (a b : Option R) : Fb (.bool false) a b = b := by rfl
@[congr] theorem aos {α : Type} {x y : Ex} {n r : α} {f : Nat → α} (h : x = y) : P8 x n f r = P8 y n f r := by rw [h]
@[simp] theorem an6 {α : Type} (n : α) (f : Nat → α) (r : α) : P8 .normal n f r = n := by rfl
@[simp] theorem apm {α : Type} (i : Nat) (n : α) (f : Nat → α) (r : α) : P8 (.exit i) n f r = f i := by rfl
@[simp] theorem aqc {α : Type} (n : α) (f : Nat → α) (r : α) : P8 .ret n f r = r := by rfl
@[congr] theorem aoE {w w' : Option Bool} {x : RV} {m : Mem} (h : w = w') : U2 w x m = U2 w' x m := by rw [h]
@[simp] theorem apx (x : RV) (m : Mem) : U2 (some true) x m = x := by rfl
@[simp] theorem aoF (x : RV) (m : Mem) : U2 (some false) x m = some (.aS [], m) := by rfl
@[simp] theorem anV (a b : Bool) : GK (.bool a) b = some (a == b) := by rfl
@[simp] theorem anW (b : Bool) : GK (.aS []) b = some false := by rfl
@[simp] theorem anQ (i : Nat) : Jk i .normal = .normal := by rfl
@[simp] theorem ao9 (i : Nat) : Jk i .ret = .ret := by rfl
@[simp] theorem aoq (i j : Nat) : Jk i (.exit j) = bif Nat.beq j i then .normal else .exit j := by rfl
end Go.Ev
end
section
namespace Go.Ev
def oLoop (O : aC) (ins outs : List Nat) (body : EC) (base : Nat) (vals : List D) (m : Mem) : Option (Ex × List D × Mem) := O.loop ins outs body base vals m
def oCalla (O : aC) (f : Nat) (ds : List D) (m : Mem) : RV := O.aY f ds m
def runG (O : aC) (base : Nat) (k : K) (ds : List D) (m : Mem) : RV := match k with
 | .aY f => oCalla O f ds m
 | k => k.run O base ds m
theorem runG_eq (O : aC) (base : Nat) (k : K) (ds : List D) (m : Mem) : runG O base k ds m = k.run O base ds m := by cases k <;> rfl
def runK {R : Type} (O : aC) (base : Nat) (k : K) (ds : List D) (m : Mem) (f : D → Mem → Option R) : Option R := match k, ds with
 | .aF, [d] => f d m
 | k, ds => bd (runG O base k ds m) fun r => f r.1 r.2
theorem runK_eq {R : Type} (O : aC) (base : Nat) (k : K) (ds : List D) (m : Mem) (f : D → Mem → Option R) : runK O base k ds m f = (k.run O base ds m).bind fun r => f r.1 r.2 := by
 unfold runK
 split
 ·rfl
 ·rw [runG_eq]; rfl
def Uf {R : Type} (O : aC) (base : Nat) : List EO → Env → Mem → (Env → Mem → Option R) → Option R
 | [], e, m, k => k e m
 | o :: os, e, m, k => match o.guard with
   | none => (evs e o.xs).bind fun ds => runK O base o.k ds m fun d m' => Uf O base os (rV e o.dst d) m' k
   | some (t, b) => (look e t).bind fun d => bd (U2 (GK d b) ((evs e o.xs).bind fun ds => runG O base o.k ds m) m) fun r => Uf O base os (rV e o.dst r.1) r.2 k
theorem runOps3_eq {R : Type} (O : aC) (base : Nat) (k : Env → Mem → Option R) : ∀ (os : List EO) (e : Env) (m : Mem), Uf O base os e m k = IE O base os e m k
 | [], e, m => rfl
 | o :: os, e, m => by
   simp only [Uf, IE]
   cases hg : o.guard with
   | none => simp only [runK_eq, runOps3_eq O base k os]
   | some tb => simp only [bd, runG_eq, runOps3_eq O base k os]
inductive SX where
 | n
 | e (i : Nat)
 | r
 | dyn (x : Ex)
def SX.ex : SX → Ex
 | .n => .normal
 | .e i => .exit i
 | .r => .ret
 | .dyn x => x
def exS {α : Type} (x : SX) (n : α) (f g : Nat → α) (r : α) : α := match x with
 | .n => n
 | .e i => f i
 | .r => r
 | .dyn x => P8 x n g r
def ao8 (id : Nat) : SX → SX
 | .e i => bif Nat.beq i id then .n else .e i
 | .dyn x => .dyn (Jk id x)
 | x => x
theorem exS_eq {α : Type} (x : SX) (n : α) {f g h : Nat → α} (r : α) (h1 : ∀ i, f i = h i) (h2 : ∀ i, g i = h i) : exS x n f g r = P8 x.ex n h r := by
 obtain rfl : f = h := funext h1
 obtain rfl : g = f := funext h2
 cases x <;> rfl
theorem blkS_eq (id : Nat) (x : SX) : (ao8 id x).ex = Jk id x.ex := by
 cases x with
 | e i => simp only [ao8, SX.ex, Jk]; cases Nat.beq i id <;> rfl
 | _ => rfl
def hdI (l : List D) : D := l.headD .undef
def tlI (l : List D) : List D := l.tail
def ahD : List Nat → List D → Env
 | [], _ => []
 | t :: ts, ds => (t, hdI ds) :: ahD ts (tlI ds)
theorem zipD_eq : ∀ (ts : List Nat) (ds : List D), ahD ts ds = vC ts ds
 | [], _ => rfl
 | t :: ts, ds => by simp only [ahD, vC, zipD_eq ts, hdI, tlI]
def zipA : List Nat → List D → Env → Env
 | [], _, e => e
 | t :: ts, ds, e => (t, hdI ds) :: zipA ts (tlI ds) e
theorem zipA_eq (e : Env) : ∀ (ts : List Nat) (ds : List D), zipA ts ds e = vC ts ds ++ e
 | [], _ => rfl
 | t :: ts, ds => by simp only [zipA, vC, zipA_eq e ts, hdI, tlI, List.cons_append]
def EC.Fg {R : Type} (O : aC) : EC → Env → Mem → (SX → Env → Mem → Option R) → Option R
 | .skip, e, m, k => k .n e m
 | .region n ops, e, m, k => Uf O m.length ops e (place n m) fun e' m' => k .n e' m'
 | .drawn n ops, e, m, k => Uf O m.length (ops.map (·.2)) e (place n m) fun e' m' => k .n e' m'
 | .RD ts c, e, m, k => bd (kC (fz FZ) (mQ e ts) m) fun r => c.Fg O (zipA ts r.1 e) r.2 k
 | .seq a b, e, m, k => a.Fg O e m fun x e' m' => exS x (b.Fg O e' m' k) (fun i => k (.e i) e' m') (fun i => k (.dyn (.exit i)) e' m') (k .r e' m')
 | .cond c a b, e, m, k => (c.ev e).bind fun d => Fb d (a.Fg O e m k) (b.Fg O e m k)
 | .block id c, e, m, k => c.Fg O e m fun x e' m' => k (ao8 id x) e' m'
 | .loop ins outs body, e, m, k => jn (oLoop O ins outs body m.length (mQ e ins) m) fun r => k (.dyn r.1) (ahD outs r.2.1) r.2.2
 | .exit id, e, m, k => k (.e id) e m
 | .ret, e, m, k => k .r e m
 | .mask keep c, e, m, k => c.Fg O (Ie e keep) m k
 | .join keep c, e, m, k => jn (c.Fg O e m fun x e' m' => some (x.ex, mQ e' keep, m')) fun r => k (.dyn r.1) (ahD keep r.2.1) r.2.2
theorem exec3_eq {R : Type} (O : aC) : ∀ (c : EC) (e : Env) (m : Mem) (k : SX → Env → Mem → Option R) (k2 : Ex → Env → Mem → Option R), (∀ x e m, k x e m = k2 x.ex e m) → c.Fg O e m k = c.ql O e m k2 := by
 intro c
 induction c generalizing R with
 | skip => intro e m k k2 h; exact h _ _ _
 | region n ops => intro e m k k2 h; simp only [EC.Fg, EC.ql, runOps3_eq, h, SX.ex]
 | drawn n ops => intro e m k k2 h; simp only [EC.Fg, EC.ql, runOps3_eq, h, SX.ex]
 | RD ts c ih => intro e m k k2 h; simp only [EC.Fg, EC.ql, ih _ _ k k2 h, bd, zipA_eq]
 | seq a b iha ihb =>
   intro e m k k2 h
   simp only [EC.Fg, EC.ql]
   refine iha e m _ _ fun x e' m' => ?_
   rw [exS_eq (h := fun i => k2 (.exit i) e' m') x _ _ (fun i => h _ _ _) (fun i => h _ _ _), ihb e' m' k k2 h, h]
   rfl
 | cond c a b iha ihb => intro e m k k2 h; simp only [EC.Fg, EC.ql, iha _ _ k k2 h, ihb _ _ k k2 h]
 | block id c ih =>
   intro e m k k2 h
   simp only [EC.Fg, EC.ql]
   exact ih e m _ _ fun x e' m' => by rw [h, blkS_eq]
 | loop => intro e m k k2 h; simp only [EC.Fg, EC.ql, jn, oLoop, h, SX.ex, zipD_eq]
 | exit => intro e m k k2 h; exact h _ _ _
 | ret => intro e m k k2 h; exact h _ _ _
 | mask keep c ih => intro e m k k2 h; simp only [EC.Fg, EC.ql, ih _ _ k k2 h]
 | join keep c ih =>
   intro e m k k2 h
   simp only [EC.Fg, EC.ql]
   rw [ih e m (fun x e' m' => some (x.ex, mQ e' keep, m')) (fun x e' m' => some (x, mQ e' keep, m')) (fun x e m => rfl)]
   simp only [jn, h, SX.ex, zipD_eq]
def keyOf : ER → Nat
 | .tmp t => t
 | .cell t _ _ => t
def aln (e : Env) : List ER → Option (List D)
 | [] => some []
 | .tmp t :: rs => match look e t, aln e rs with
   | some d, some ds => some (d :: ds)
   | _, _ => none
 | .cell .. :: _ => none
def ad4 (e : Env) : List ER → Env
 | [] => []
 | .tmp t :: rs => match look e t with
   | some d => (t, d) :: ad4 e rs
   | none => ad4 e rs
 | .cell t .. :: rs => match look e t with
   | some d => (t, d) :: ad4 e rs
   | none => ad4 e rs
def am_ (e : Env) : List ER → Bool
 | [] => true
 | r :: rs => (look e (keyOf r)).isSome && am_ e rs
theorem allE_none (e : Env) (m : Mem) : ∀ (rs : List ER), am_ e rs = false → IU e m rs = none
 | [], h => by simp [am_] at h
 | r :: rs, h => by
   simp only [am_, Bool.and_eq_false_iff] at h
   rcases h with h | h
   ·have : r.get e m = none := by
     cases hl : look e (keyOf r) with
     | some d => rw [hl] at h; simp at h
     | none => cases r <;> simp only [ER.get, keyOf] at hl ⊢ <;> rw [hl] <;> rfl
    simp only [IU, this, Option.bind_none]
   ·simp only [IU, allE_none e m rs h, Option.bind_none]
    cases r.get e m <;> rfl
def ald (f : EF) (n : Nat) (e : Env) (m : Mem) : RV := match aln e f.res with
 | some rs => bd (gc n rs m) fun r => some (D9 r)
 | none => bif am_ e f.res then bd (IU (ad4 e f.res) m f.res) fun rs => bd (gc n rs m) fun r => some (D9 r) else none
theorem tmpsE_eq (e : Env) (m : Mem) : ∀ (rs : List ER) (ds : List D), aln e rs = some ds → IU e m rs = some ds
 | [], ds, h => h
 | .tmp t :: rs, ds, h => by
   simp only [aln] at h
   split at h
   ·rename_i d ds' h1 h2
    simp only [IU, ER.get, h1, tmpsE_eq e m rs _ h2, Option.bind_some]
    exact h
   ·simp at h
 | .cell t a n :: _, ds, h => by simp [aln] at h
theorem look_resE (e : Env) : ∀ (rs : List ER) (r : ER), r ∈ rs → look (ad4 e rs) (keyOf r) = look e (keyOf r)
 | [], r, h => by simp at h
 | x :: rs, r, h => by
   have ih := fun h => look_resE e rs r h
   have hx : ad4 e (x :: rs) = match look e (keyOf x) with
    | some d => (keyOf x, d) :: ad4 e rs
    | none => ad4 e rs := by cases x <;> rfl
   rw [hx]
   by_cases hk : keyOf r = keyOf x
   ·rw [hk]
    cases hl : look e (keyOf x) with
    | some d => simp [look]
    | none =>
      simp only
      by_cases hm : r ∈ rs
      ·rw [← hk, ih hm, hk, hl]
      ·have : ∀ l : List ER, look (ad4 e l) (keyOf x) = none := by
        intro l
        induction l with
        | nil => rfl
        | cons y ys ih2 =>
          have hy : ad4 e (y :: ys) = match look e (keyOf y) with
           | some d => (keyOf y, d) :: ad4 e ys
           | none => ad4 e ys := by cases y <;> rfl
          rw [hy]
          cases hly : look e (keyOf y) with
          | none => exact ih2
          | some d =>
            simp only [look]
            have hne : Nat.beq (keyOf y) (keyOf x) = false := by
             cases hb : Nat.beq (keyOf y) (keyOf x) with
             | false => rfl
             | true =>
               rw [Nat.eq_of_beq_eq_true hb, hl] at hly
               simp at hly
            rw [hne]
            exact ih2
       exact this rs
   ·have hm : r ∈ rs := by
     rcases List.mem_cons.1 h with h | h
     ·exact absurd (by rw [h]) hk
     ·exact h
    cases look e (keyOf x) with
    | none => exact ih hm
    | some d =>
      simp only [look]
      have hne : Nat.beq (keyOf x) (keyOf r) = false := by
       cases hb : Nat.beq (keyOf x) (keyOf r) with
       | false => rfl
       | true => exact absurd (Nat.eq_of_beq_eq_true hb).symm hk
      rw [hne]
      exact ih hm
theorem ERs_congr {e e' : Env} (m : Mem) : ∀ (rs : List ER), (∀ r ∈ rs, look e' (keyOf r) = look e (keyOf r)) → IU e' m rs = IU e m rs
 | [], _ => rfl
 | r :: rs, h => by
   have h1 : r.get e' m = r.get e m := by
    have := h r (by simp)
    cases r <;> simp only [ER.get, keyOf] at this ⊢ <;> rw [this]
   simp only [IU, h1, ERs_congr m rs (fun x hx => h x (by simp [hx]))]
theorem finR3_eq (f : EF) (n : Nat) (e : Env) (m : Mem) : ald f n e m = anl f n e m := by
 unfold ald anl
 split
 ·rename_i rs h
  rw [tmpsE_eq e m _ _ h]; rfl
 ·cases ha : am_ e f.res with
  | true => rw [ERs_congr m f.res (fun r hr => look_resE e f.res r hr)]; rfl
  | false => rw [allE_none e m _ ha]; rfl
def EF.step3 (O : aC) (f : EF) (args : List D) (m : Mem) : RV :=
 f.body.Fg O (vC f.params args) m fun x e m' => exS x (ald f m.length e m') (fun _ => none) (fun _ => none) (ald f m.length e m')
theorem step3_eq (O : aC) (f : EF) (args : List D) (m : Mem) : f.step2 O args m = f.step3 O args m := by
 refine (exec3_eq O _ _ _ _ _ fun x e m' => ?_).symm
 rw [exS_eq (h := fun _ => none) x _ _ (fun _ => rfl) (fun _ => rfl), finR3_eq]
def bG (O : aC) (ins outs : List Nat) (body code : EC) (base : Nat) (vals : List D) (m : Mem) : Option (Ex × List D × Mem) :=
 code.Fg O (vC ins vals) m fun x e m' =>
  exS x (bd (gc base (mQ e ins) m') fun r => oLoop O ins outs body base r.1 r.2) (fun i => bd (gc base (mQ e outs) m') fun r => some (.exit i, r.1, r.2)) (fun i => bd (gc base (mQ e outs) m') fun r => some (.exit i, r.1, r.2)) (bd (gc base (mQ e outs) m') fun r => some (.ret, r.1, r.2))
theorem loopStep3_eq (O : aC) (ins outs : List Nat) (body : EC) (base : Nat) (vals : List D) (m : Mem) : bg O ins outs body base vals m = bG O ins outs body body base vals m := by
 refine (exec3_eq O _ _ _ _ _ fun x e m' => ?_).symm
 exact exS_eq x _ _ (fun _ => rfl) (fun _ => rfl)
theorem au (n : Nat) : Int.ofNat (no_index (OfNat.ofNat n)) = OfNat.ofNat n := rfl
theorem aA (a b : List Slot) : List.append a b = a ++ b := rfl
theorem oLoop_ (O : aC) (ins outs : List Nat) (body : EC) (base : Nat) (vals : List D) (m : Mem) : oLoop O ins outs body base vals m = O.loop ins outs body base vals m := rfl
theorem oCalla_ (O : aC) (f : Nat) (ds : List D) (m : Mem) : oCalla O f ds m = O.aY f ds m := rfl
attribute [simp] hdI tlI
end Go.Ev
end
