/- A part of the proof of flowSum_card, flowParts_card, flowEx_card, accrWhole_card, priceZero_card. -/
import Derived.Test.YtnokhmkkpcfilaaGreatDoorCLim
set_option linter.unusedVariables false
set_option linter.unusedSimpArgs false
section
namespace Go.Ev
def bd {α β : Type} (x : Option α) (f : α → Option β) : Option β := x.bind f
def jn {β : Type} (x : Option (Ex × List D × Mem)) (f : Ex × List D × Mem → Option β) : Option β := x.bind f
abbrev hd (l : List D) : D := l.headD .undef
abbrev tl (l : List D) : List D := l.tail
def SB {α : Type} (x : Ex) (n : α) (f : Nat → α) (r : α) : α := match x with
 | .normal => n
 | .exit i => f i
 | .ret => r
def Jj (id : Nat) (x : Ex) : Ex := match x with
 | .exit i => bif Nat.beq i id then .normal else .exit i
 | x => x
def JW {R : Type} (d : D) (a b : Option R) : Option R := match d with
 | .bool t => if t = true then a else b
 | _ => none
def Lp (d : D) (b : Bool) : Option Bool := match d with
 | .bool b' => some (b' == b)
 | .aZ [] => some false
 | _ => none
def YD (w : Option Bool) (x : RV) (m : Mem) : RV := w.bind fun w => bif w then x else some (.aZ [], m)
def G6 {R : Type} (O : aC) (base : Nat) : List EO → Env → Mem → (Env → Mem → Option R) → Option R
 | [], e, m, k => k e m
 | o :: os, e, m, k => match o.guard with
   | none => (evs e o.xs).bind fun ds => (o.k.run O base ds m).bind fun r => G6 O base os (uY e o.dst r.1) r.2 k
   | some (t, b) => (look e t).bind fun d => (YD (Lp d b) ((evs e o.xs).bind fun ds => o.k.run O base ds m) m).bind fun r => G6 O base os (uY e o.dst r.1) r.2 k
theorem IL {R : Type} (O : aC) (base : Nat) (k : Env → Mem → Option R) : ∀ (os : List EO) (e : Env) (m : Mem), G6 O base os e m k = (qI O base os e m).bind fun r => k r.1 r.2
 | [], e, m => rfl
 | o :: os, e, m => by
   simp only [G6, qI, EO.run, EO.wants]
   cases hg : o.guard with
   | none => cases evs e o.xs <;> simp [Option.bind_assoc, IL O base k os]
   | some tb =>
     obtain ⟨t, b⟩ := tb
     cases hl : look e t with
     | none => simp [hl]
     | some d =>
       cases d <;> simp only [hl, YD, Lp, Option.bind_some, Option.bind_none]
       case bool b' =>
        cases hb : (b' == b) <;> simp [IL O base k os, Option.bind_assoc]
       case aZ vs => cases vs <;> simp [IL O base k os, Option.bind_assoc]
def place (n : Nat) (m : Mem) : Mem := bif Nat.beq n 0 then m else m ++ List.replicate n .free
theorem ahc (n : Nat) (m : Mem) : place n m = m ++ List.replicate n .free := by
 unfold place
 cases h : Nat.beq n 0 with
 | false => rfl
 | true => rw [Nat.eq_of_beq_eq_true h]; simp
def EC.ku {R : Type} (O : aC) : EC → Env → Mem → (Ex → Env → Mem → Option R) → Option R
 | .skip, e, m, k => k .normal e m
 | .region n ops, e, m, k => G6 O m.length ops e (place n m) fun e' m' => k .normal e' m'
 | .drawn n ops, e, m, k => G6 O m.length (ops.map (·.2)) e (place n m) fun e' m' => k .normal e' m'
 | .U4 ts c, e, m, k => (jV (fz FZ) (nD e ts) m).bind fun r => c.ku O (sZ ts r.1 ++ e) r.2 k
 | .seq a b, e, m, k => a.ku O e m fun x e' m' => SB x (b.ku O e' m' k) (fun i => k (.exit i) e' m') (k .ret e' m')
 | .cond c a b, e, m, k => (c.ev e).bind fun d => JW d (a.ku O e m k) (b.ku O e m k)
 | .block id c, e, m, k => c.ku O e m fun x e' m' => k (Jj id x) e' m'
 | .loop ins outs body, e, m, k => (O.loop ins outs body m.length (nD e ins) m).bind fun r => k r.1 (sZ outs r.2.1) r.2.2
 | .exit id, e, m, k => k (.exit id) e m
 | .ret, e, m, k => k .ret e m
 | .mask keep c, e, m, k => c.ku O (MZ e keep) m k
 | .join keep c, e, m, k => (c.ku O e m fun x e' m' => some (x, nD e' keep, m')).bind fun r => k r.1 (sZ keep r.2.1) r.2.2
theorem agq {R : Type} (O : aC) : ∀ (c : EC) (e : Env) (m : Mem) (k : Ex → Env → Mem → Option R), c.ku O e m k = c.exec O e m k := by
 intro c
 induction c generalizing R with
 | skip => intros; rfl
 | region n ops => intro e m k; simp only [EC.ku, EC.exec, IL, ahc]
 | drawn n ops => intro e m k; simp only [EC.ku, EC.exec, IL, ahc]
 | U4 ts c ih => intro e m k; simp only [EC.ku, EC.exec, ih]
 | seq a b iha ihb =>
   intro e m k
   simp only [EC.ku, EC.exec, iha, ihb]
   congr 1
   funext x e' m'
   cases x <;> rfl
 | cond c a b iha ihb =>
   intro e m k
   simp only [EC.ku, EC.exec, iha, ihb]
   cases c.ev e with
   | none => rfl
   | some d => cases d <;> simp [JW]
 | block id c ih =>
   intro e m k
   simp only [EC.ku, EC.exec, ih]
   congr 1
   funext x e' m'
   cases x <;> simp [Jj]
   rename_i i
   cases Nat.beq i id <;> rfl
 | loop => intros; rfl
 | exit => intros; rfl
 | ret => intros; rfl
 | mask keep c ih => intro e m k; simp only [EC.ku, EC.exec, ih]
 | join keep c ih => intro e m k; simp only [EC.ku, EC.exec, ih]
def akq (f : EF) (n : Nat) (e : Env) (m : Mem) : RV := (AZ e m f.res).bind fun rs => (gc n rs m).bind fun r => some (I7 r)
def EF.step2 (O : aC) (f : EF) (args : List D) (m : Mem) : RV :=
 f.body.ku O (sZ f.params args) m fun x e m' => SB x (akq f m.length e m') (fun _ => none) (akq f m.length e m')
theorem ahw (O : aC) (f : EF) (args : List D) (m : Mem) (h : Nat.beq args.length f.params.length = true) : f.step2 O args m = f.step O args m := by
 simp only [EF.step2, EF.step, agq, h, cond_true]
 congr 1
 funext x e m'
 cases x <;> rfl
def bC (O : aC) (ins outs : List Nat) (body : EC) (base : Nat) (vals : List D) (m : Mem) : Option (Ex × List D × Mem) :=
 body.ku O (sZ ins vals) m fun x e m' =>
  SB x ((gc base (nD e ins) m').bind fun r => O.loop ins outs body base r.1 r.2) (fun i => (gc base (nD e outs) m').bind fun r => some (.exit i, r.1, r.2)) ((gc base (nD e outs) m').bind fun r => some (.ret, r.1, r.2))
theorem agP (O : aC) (ins outs : List Nat) (body : EC) (base : Nat) (vals : List D) (m : Mem) : bC O ins outs body base vals m = BA O ins outs body base vals m := by
 simp only [bC, BA, agq]
 congr 1
 funext x e m'
 cases x <;> rfl
def fin (r : D × Mem) : Option D := (fz FZ r.1 r.2).bind fun s => some s.1
theorem apz {T : Tab} {f : Nat} {ef : EF} {args : List D} {d : D} {x : RV} (hf : T.fn f = some ef) (hn : Nat.beq args.length ef.params.length = true) (hs : ef.step2 T.lim args [] = x) (h : x.bind fin = some d) : T.lim.call f args = some d := by
 show uP (T.lim.bF f args []) = some d
 unfold uP
 rw [Option.bind_eq_some_iff] at h
 obtain ⟨r, hr, h⟩ := h
 rw [agM hf (r := r) (by rw [← ahw _ _ _ _ hn, hs, hr])]
 exact h
theorem anA {T : Tab} {f : Nat} {ef : EF} {args : List D} {m : Mem} {r : D × Mem} {x : RV} (hf : T.fn f = some ef) (hn : Nat.beq args.length ef.params.length = true) (hs : ef.step2 T.lim args m = x) (h : x = some r) : T.lim.bF f args m = some r :=
 agM hf (by rw [← ahw _ _ _ _ hn, hs, h])
theorem aov {T : Tab} {ins outs : List Nat} {body : EC} {base : Nat} {vals : List D} {m : Mem} {r : Ex × List D × Mem} {x : Option (Ex × List D × Mem)} (hs : bC T.lim ins outs body base vals m = x) (h : x = some r) : T.lim.loop ins outs body base vals m = some r :=
 ado (by rw [← agP, hs, h])
@[congr] theorem atp {α β : Type} {x y : Option α} {f : α → Option β} (h : x = y) : bd x f = bd y f := by rw [h]
@[simp] theorem XL {α β : Type} (a : α) (f : α → Option β) : bd (some a) f = f a := by rfl
@[simp] theorem auo {α β : Type} (f : α → Option β) : bd none f = none := by rfl
@[congr] theorem atT {β : Type} {x y : Option (Ex × List D × Mem)} {f : Ex × List D × Mem → Option β} (h : x = y) : jn x f = jn y f := by rw [h]
@[simp] theorem aqa {β : Type} (a : Ex × List D × Mem) (f : Ex × List D × Mem → Option β) : jn (some a) f = f a := by rfl
@[congr] theorem ar4 {R : Type} {d d' : D} {a b : Option R} (h : d = d') : JW d a b = JW d' a b := by rw [h]
@[simp] theorem asg {R : Type} (a b : Option R) : JW (.bool true) a b = a := by rfl
@[simp] theorem ail {R : Type} (a b : Option R) : JW (.bool false) a b = b := by rfl
@[congr] theorem asM {α : Type} {x y : Ex} {n r : α} {f : Nat → α} (h : x = y) : SB x n f r = SB y n f r := by rw [h]
@[simp] theorem asj {α : Type} (n : α) (f : Nat → α) (r : α) : SB .normal n f r = n := by rfl
@[simp] theorem atE {α : Type} (i : Nat) (n : α) (f : Nat → α) (r : α) : SB (.exit i) n f r = f i := by rfl
@[simp] theorem auG {α : Type} (n : α) (f : Nat → α) (r : α) : SB .ret n f r = r := by rfl
@[congr] theorem asY {w w' : Option Bool} {x : RV} {m : Mem} (h : w = w') : YD w x m = YD w' x m := by rw [h]
@[simp] theorem atQ (x : RV) (m : Mem) : YD (some true) x m = x := by rfl
@[simp] theorem asZ (x : RV) (m : Mem) : YD (some false) x m = some (.aZ [], m) := by rfl
@[simp] theorem ar8 (a b : Bool) : Lp (.bool a) b = some (a == b) := by rfl
@[simp] theorem ar9 (b : Bool) : Lp (.aZ []) b = some false := by rfl
@[simp] theorem ar2 (i : Nat) : Jj i .normal = .normal := by rfl
@[simp] theorem atr (i : Nat) : Jj i .ret = .ret := by rfl
@[simp] theorem asK (i j : Nat) : Jj i (.exit j) = bif Nat.beq j i then .normal else .exit j := by rfl
end Go.Ev
end
section
namespace Go.Ev
def Us (O : aC) (ins outs : List Nat) (body : EC) (base : Nat) (vals : List D) (m : Mem) : Option (Ex × List D × Mem) := O.loop ins outs body base vals m
def Xa (O : aC) (f : Nat) (ds : List D) (m : Mem) : RV := O.bF f ds m
def aow (O : aC) (base : Nat) (k : K) (ds : List D) (m : Mem) : RV := match k with
 | .bF f => Xa O f ds m
 | k => k.run O base ds m
theorem ajB (O : aC) (base : Nat) (k : K) (ds : List D) (m : Mem) : aow O base k ds m = k.run O base ds m := by cases k <;> rfl
def runK {R : Type} (O : aC) (base : Nat) (k : K) (ds : List D) (m : Mem) (f : D → Mem → Option R) : Option R := match k, ds with
 | .aW, [d] => f d m
 | k, ds => bd (aow O base k ds m) fun r => f r.1 r.2
theorem aqn {R : Type} (O : aC) (base : Nat) (k : K) (ds : List D) (m : Mem) (f : D → Mem → Option R) : runK O base k ds m f = (k.run O base ds m).bind fun r => f r.1 r.2 := by
 unfold runK
 split
 ·rfl
 ·rw [ajB]; rfl
def NH {R : Type} (O : aC) (base : Nat) : List EO → Env → Mem → (Env → Mem → Option R) → Option R
 | [], e, m, k => k e m
 | o :: os, e, m, k => match o.guard with
   | none => (evs e o.xs).bind fun ds => runK O base o.k ds m fun d m' => NH O base os (uY e o.dst d) m' k
   | some (t, b) => (look e t).bind fun d => bd (YD (Lp d b) ((evs e o.xs).bind fun ds => aow O base o.k ds m) m) fun r => NH O base os (uY e o.dst r.1) r.2 k
theorem Ns {R : Type} (O : aC) (base : Nat) (k : Env → Mem → Option R) : ∀ (os : List EO) (e : Env) (m : Mem), NH O base os e m k = G6 O base os e m k
 | [], e, m => rfl
 | o :: os, e, m => by
   simp only [NH, G6]
   cases hg : o.guard with
   | none => simp only [aqn, Ns O base k os]
   | some tb => simp only [bd, ajB, Ns O base k os]
inductive SX where
 | n
 | e (i : Nat)
 | r
 | dyn (x : Ex)
def SX.ex : SX → Ex
 | .n => .normal
 | .e i => .exit i
 | .r => .ret
 | .dyn x => x
def exS {α : Type} (x : SX) (n : α) (f g : Nat → α) (r : α) : α := match x with
 | .n => n
 | .e i => f i
 | .r => r
 | .dyn x => SB x n g r
def anx (id : Nat) : SX → SX
 | .e i => bif Nat.beq i id then .n else .e i
 | .dyn x => .dyn (Jj id x)
 | x => x
theorem agp {α : Type} (x : SX) (n : α) {f g h : Nat → α} (r : α) (h1 : ∀ i, f i = h i) (h2 : ∀ i, g i = h i) : exS x n f g r = SB x.ex n h r := by
 obtain rfl : f = h := funext h1
 obtain rfl : g = f := funext h2
 cases x <;> rfl
theorem apy (id : Nat) (x : SX) : (anx id x).ex = Jj id x.ex := by
 cases x with
 | e i => simp only [anx, SX.ex, Jj]; cases Nat.beq i id <;> rfl
 | _ => rfl
def hdI (l : List D) : D := l.headD .undef
def tlI (l : List D) : List D := l.tail
def ahL : List Nat → List D → Env
 | [], _ => []
 | t :: ts, ds => (t, hdI ds) :: ahL ts (tlI ds)
theorem acG : ∀ (ts : List Nat) (ds : List D), ahL ts ds = sZ ts ds
 | [], _ => rfl
 | t :: ts, ds => by simp only [ahL, sZ, acG ts, hdI, tlI]
def ak8 : List Nat → List D → Env → Env
 | [], _, e => e
 | t :: ts, ds, e => (t, hdI ds) :: ak8 ts (tlI ds) e
theorem ajM (e : Env) : ∀ (ts : List Nat) (ds : List D), ak8 ts ds e = sZ ts ds ++ e
 | [], _ => rfl
 | t :: ts, ds => by simp only [ak8, sZ, ajM e ts, hdI, tlI, List.cons_append]
def EC.qM {R : Type} (O : aC) : EC → Env → Mem → (SX → Env → Mem → Option R) → Option R
 | .skip, e, m, k => k .n e m
 | .region n ops, e, m, k => NH O m.length ops e (place n m) fun e' m' => k .n e' m'
 | .drawn n ops, e, m, k => NH O m.length (ops.map (·.2)) e (place n m) fun e' m' => k .n e' m'
 | .U4 ts c, e, m, k => bd (jV (fz FZ) (nD e ts) m) fun r => c.qM O (ak8 ts r.1 e) r.2 k
 | .seq a b, e, m, k => a.qM O e m fun x e' m' => exS x (b.qM O e' m' k) (fun i => k (.e i) e' m') (fun i => k (.dyn (.exit i)) e' m') (k .r e' m')
 | .cond c a b, e, m, k => (c.ev e).bind fun d => JW d (a.qM O e m k) (b.qM O e m k)
 | .block id c, e, m, k => c.qM O e m fun x e' m' => k (anx id x) e' m'
 | .loop ins outs body, e, m, k => jn (Us O ins outs body m.length (nD e ins) m) fun r => k (.dyn r.1) (ahL outs r.2.1) r.2.2
 | .exit id, e, m, k => k (.e id) e m
 | .ret, e, m, k => k .r e m
 | .mask keep c, e, m, k => c.qM O (MZ e keep) m k
 | .join keep c, e, m, k => jn (c.qM O e m fun x e' m' => some (x.ex, nD e' keep, m')) fun r => k (.dyn r.1) (ahL keep r.2.1) r.2.2
theorem agr {R : Type} (O : aC) : ∀ (c : EC) (e : Env) (m : Mem) (k : SX → Env → Mem → Option R) (k2 : Ex → Env → Mem → Option R), (∀ x e m, k x e m = k2 x.ex e m) → c.qM O e m k = c.ku O e m k2 := by
 intro c
 induction c generalizing R with
 | skip => intro e m k k2 h; exact h _ _ _
 | region n ops => intro e m k k2 h; simp only [EC.qM, EC.ku, Ns, h, SX.ex]
 | drawn n ops => intro e m k k2 h; simp only [EC.qM, EC.ku, Ns, h, SX.ex]
 | U4 ts c ih => intro e m k k2 h; simp only [EC.qM, EC.ku, ih _ _ k k2 h, bd, ajM]
 | seq a b iha ihb =>
   intro e m k k2 h
   simp only [EC.qM, EC.ku]
   refine iha e m _ _ fun x e' m' => ?_
   rw [agp (h := fun i => k2 (.exit i) e' m') x _ _ (fun i => h _ _ _) (fun i => h _ _ _), ihb e' m' k k2 h, h]
   rfl
 | cond c a b iha ihb => intro e m k k2 h; simp only [EC.qM, EC.ku, iha _ _ k k2 h, ihb _ _ k k2 h]
 | block id c ih =>
   intro e m k k2 h
   simp only [EC.qM, EC.ku]
   exact ih e m _ _ fun x e' m' => by rw [h, apy]
 | loop => intro e m k k2 h; simp only [EC.qM, EC.ku, jn, Us, h, SX.ex, acG]
 | exit => intro e m k k2 h; exact h _ _ _
 | ret => intro e m k k2 h; exact h _ _ _
 | mask keep c ih => intro e m k k2 h; simp only [EC.qM, EC.ku, ih _ _ k k2 h]
 | join keep c ih =>
   intro e m k k2 h
   simp only [EC.qM, EC.ku]
   rw [ih e m (fun x e' m' => some (x.ex, nD e' keep, m')) (fun x e' m' => some (x, nD e' keep, m')) (fun x e m => rfl)]
   simp only [jn, h, SX.ex, acG]
def keyOf : ER → Nat
 | .tmp t => t
 | .cell t _ _ => t
def abj (e : Env) : List ER → Option (List D)
 | [] => some []
 | .tmp t :: rs => match look e t, abj e rs with
   | some d, some ds => some (d :: ds)
   | _, _ => none
 | .cell .. :: _ => none
def JB (e : Env) : List ER → Env
 | [] => []
 | .tmp t :: rs => match look e t with
   | some d => (t, d) :: JB e rs
   | none => JB e rs
 | .cell t .. :: rs => match look e t with
   | some d => (t, d) :: JB e rs
   | none => JB e rs
def abU (e : Env) : List ER → Bool
 | [] => true
 | r :: rs => (look e (keyOf r)).isSome && abU e rs
theorem acZ (e : Env) (m : Mem) : ∀ (rs : List ER), abU e rs = false → AZ e m rs = none
 | [], h => by simp [abU] at h
 | r :: rs, h => by
   simp only [abU, Bool.and_eq_false_iff] at h
   rcases h with h | h
   ·have : r.get e m = none := by
     cases hl : look e (keyOf r) with
     | some d => rw [hl] at h; simp at h
     | none => cases r <;> simp only [ER.get, keyOf] at hl ⊢ <;> rw [hl] <;> rfl
    simp only [AZ, this, Option.bind_none]
   ·simp only [AZ, acZ e m rs h, Option.bind_none]
    cases r.get e m <;> rfl
def afm (f : EF) (n : Nat) (e : Env) (m : Mem) : RV := match abj e f.res with
 | some rs => bd (gc n rs m) fun r => some (I7 r)
 | none => bif abU e f.res then bd (AZ (JB e f.res) m f.res) fun rs => bd (gc n rs m) fun r => some (I7 r) else none
theorem ahB (e : Env) (m : Mem) : ∀ (rs : List ER) (ds : List D), abj e rs = some ds → AZ e m rs = some ds
 | [], ds, h => h
 | .tmp t :: rs, ds, h => by
   simp only [abj] at h
   split at h
   ·rename_i d ds' h1 h2
    simp only [AZ, ER.get, h1, ahB e m rs _ h2, Option.bind_some]
    exact h
   ·simp at h
 | .cell t a n :: _, ds, h => by simp [abj] at h
theorem adp (e : Env) : ∀ (rs : List ER) (r : ER), r ∈ rs → look (JB e rs) (keyOf r) = look e (keyOf r)
 | [], r, h => by simp at h
 | x :: rs, r, h => by
   have ih := fun h => adp e rs r h
   have hx : JB e (x :: rs) = match look e (keyOf x) with
    | some d => (keyOf x, d) :: JB e rs
    | none => JB e rs := by cases x <;> rfl
   rw [hx]
   by_cases hk : keyOf r = keyOf x
   ·rw [hk]
    cases hl : look e (keyOf x) with
    | some d => simp [look]
    | none =>
      simp only
      by_cases hm : r ∈ rs
      ·rw [← hk, ih hm, hk, hl]
      ·have : ∀ l : List ER, look (JB e l) (keyOf x) = none := by
        intro l
        induction l with
        | nil => rfl
        | cons y ys ih2 =>
          have hy : JB e (y :: ys) = match look e (keyOf y) with
           | some d => (keyOf y, d) :: JB e ys
           | none => JB e ys := by cases y <;> rfl
          rw [hy]
          cases hly : look e (keyOf y) with
          | none => exact ih2
          | some d =>
            simp only [look]
            have hne : Nat.beq (keyOf y) (keyOf x) = false := by
             cases hb : Nat.beq (keyOf y) (keyOf x) with
             | false => rfl
             | true =>
               rw [Nat.eq_of_beq_eq_true hb, hl] at hly
               simp at hly
            rw [hne]
            exact ih2
       exact this rs
   ·have hm : r ∈ rs := by
     rcases List.mem_cons.1 h with h | h
     ·exact absurd (by rw [h]) hk
     ·exact h
    cases look e (keyOf x) with
    | none => exact ih hm
    | some d =>
      simp only [look]
      have hne : Nat.beq (keyOf x) (keyOf r) = false := by
       cases hb : Nat.beq (keyOf x) (keyOf r) with
       | false => rfl
       | true => exact absurd (Nat.eq_of_beq_eq_true hb).symm hk
      rw [hne]
      exact ih hm
theorem acH {e e' : Env} (m : Mem) : ∀ (rs : List ER), (∀ r ∈ rs, look e' (keyOf r) = look e (keyOf r)) → AZ e' m rs = AZ e m rs
 | [], _ => rfl
 | r :: rs, h => by
   have h1 : r.get e' m = r.get e m := by
    have := h r (by simp)
    cases r <;> simp only [ER.get, keyOf] at this ⊢ <;> rw [this]
   simp only [AZ, h1, acH m rs (fun x hx => h x (by simp [hx]))]
theorem an1 (f : EF) (n : Nat) (e : Env) (m : Mem) : afm f n e m = akq f n e m := by
 unfold afm akq
 split
 ·rename_i rs h
  rw [ahB e m _ _ h]; rfl
 ·cases ha : abU e f.res with
  | true => rw [acH m f.res (fun r hr => adp e f.res r hr)]; rfl
  | false => rw [acZ e m _ ha]; rfl
def EF.step3 (O : aC) (f : EF) (args : List D) (m : Mem) : RV :=
 f.body.qM O (sZ f.params args) m fun x e m' => exS x (afm f m.length e m') (fun _ => none) (fun _ => none) (afm f m.length e m')
theorem aJ (O : aC) (f : EF) (args : List D) (m : Mem) : f.step2 O args m = f.step3 O args m := by
 refine (agr O _ _ _ _ _ fun x e m' => ?_).symm
 rw [agp (h := fun _ => none) x _ _ (fun _ => rfl) (fun _ => rfl), an1]
def bG (O : aC) (ins outs : List Nat) (body code : EC) (base : Nat) (vals : List D) (m : Mem) : Option (Ex × List D × Mem) :=
 code.qM O (sZ ins vals) m fun x e m' =>
  exS x (bd (gc base (nD e ins) m') fun r => Us O ins outs body base r.1 r.2) (fun i => bd (gc base (nD e outs) m') fun r => some (.exit i, r.1, r.2)) (fun i => bd (gc base (nD e outs) m') fun r => some (.exit i, r.1, r.2)) (bd (gc base (nD e outs) m') fun r => some (.ret, r.1, r.2))
theorem aY (O : aC) (ins outs : List Nat) (body : EC) (base : Nat) (vals : List D) (m : Mem) : bC O ins outs body base vals m = bG O ins outs body body base vals m := by
 refine (agr O _ _ _ _ _ fun x e m' => ?_).symm
 exact agp x _ _ (fun _ => rfl) (fun _ => rfl)
theorem ak (n : Nat) : Int.ofNat (no_index (OfNat.ofNat n)) = OfNat.ofNat n := rfl
theorem ay (a b : List Slot) : List.append a b = a ++ b := rfl
theorem aH (O : aC) (ins outs : List Nat) (body : EC) (base : Nat) (vals : List D) (m : Mem) : Us O ins outs body base vals m = O.loop ins outs body base vals m := rfl
theorem aA (O : aC) (f : Nat) (ds : List D) (m : Mem) : Xa O f ds m = O.bF f ds m := rfl
attribute [simp] hdI tlI
end Go.Ev
end
