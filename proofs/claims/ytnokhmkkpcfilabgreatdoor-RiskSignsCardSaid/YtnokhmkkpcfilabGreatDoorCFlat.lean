/- A part of the proof of priceFalls_card, riskSigns_card, yieldBack_card, yieldEdge_card, yieldFalls_card. -/
import Derived.Test.YtnokhmkkpcfilabGreatDoorCLim
set_option linter.unusedVariables false
set_option linter.unusedSimpArgs false
section
namespace Go.Ev
def bd {α β : Type} (x : Option α) (f : α → Option β) : Option β := x.bind f
def jn {β : Type} (x : Option (Ex × List D × Mem)) (f : Ex × List D × Mem → Option β) : Option β := x.bind f
abbrev hd (l : List D) : D := l.headD .undef
abbrev tl (l : List D) : List D := l.tail
def UL {α : Type} (x : Ex) (n : α) (f : Nat → α) (r : α) : α := match x with
 | .normal => n
 | .exit i => f i
 | .ret => r
def Kw (id : Nat) (x : Ex) : Ex := match x with
 | .exit i => bif Nat.beq i id then .normal else .exit i
 | x => x
def Lu {R : Type} (d : D) (a b : Option R) : Option R := match d with
 | .bool t => if t = true then a else b
 | _ => none
def Nl (d : D) (b : Bool) : Option Bool := match d with
 | .bool b' => some (b' == b)
 | .aZ [] => some false
 | _ => none
def ZT (w : Option Bool) (x : RV) (m : Mem) : RV := w.bind fun w => bif w then x else some (.aZ [], m)
def IX {R : Type} (O : aA) (base : Nat) : List EO → Env → Mem → (Env → Mem → Option R) → Option R
 | [], e, m, k => k e m
 | o :: os, e, m, k => match o.guard with
   | none => (evs e o.xs).bind fun ds => (o.k.run O base ds m).bind fun r => IX O base os (wG e o.dst r.1) r.2 k
   | some (t, b) => (look e t).bind fun d => (ZT (Nl d b) ((evs e o.xs).bind fun ds => o.k.run O base ds m) m).bind fun r => IX O base os (wG e o.dst r.1) r.2 k
theorem JW {R : Type} (O : aA) (base : Nat) (k : Env → Mem → Option R) : ∀ (os : List EO) (e : Env) (m : Mem), IX O base os e m k = (rC O base os e m).bind fun r => k r.1 r.2
 | [], e, m => rfl
 | o :: os, e, m => by
   simp only [IX, rC, EO.run, EO.wants]
   cases hg : o.guard with
   | none => cases evs e o.xs <;> simp [Option.bind_assoc, JW O base k os]
   | some tb =>
     obtain ⟨t, b⟩ := tb
     cases hl : look e t with
     | none => simp [hl]
     | some d =>
       cases d <;> simp only [hl, ZT, Nl, Option.bind_some, Option.bind_none]
       case bool b' =>
        cases hb : (b' == b) <;> simp [JW O base k os, Option.bind_assoc]
       case aZ vs => cases vs <;> simp [JW O base k os, Option.bind_assoc]
def place (n : Nat) (m : Mem) : Mem := bif Nat.beq n 0 then m else m ++ List.replicate n .free
theorem aio (n : Nat) (m : Mem) : place n m = m ++ List.replicate n .free := by
 unfold place
 cases h : Nat.beq n 0 with
 | false => rfl
 | true => rw [Nat.eq_of_beq_eq_true h]; simp
def EC.kM {R : Type} (O : aA) : EC → Env → Mem → (Ex → Env → Mem → Option R) → Option R
 | .skip, e, m, k => k .normal e m
 | .region n ops, e, m, k => IX O m.length ops e (place n m) fun e' m' => k .normal e' m'
 | .drawn n ops, e, m, k => IX O m.length (ops.map (·.2)) e (place n m) fun e' m' => k .normal e' m'
 | .WJ ts c, e, m, k => (jV (fz FZ) (nS e ts) m).bind fun r => c.kM O (uD ts r.1 ++ e) r.2 k
 | .seq a b, e, m, k => a.kM O e m fun x e' m' => UL x (b.kM O e' m' k) (fun i => k (.exit i) e' m') (k .ret e' m')
 | .cond c a b, e, m, k => (c.ev e).bind fun d => Lu d (a.kM O e m k) (b.kM O e m k)
 | .block id c, e, m, k => c.kM O e m fun x e' m' => k (Kw id x) e' m'
 | .loop ins outs body, e, m, k => (O.loop ins outs body m.length (nS e ins) m).bind fun r => k r.1 (uD outs r.2.1) r.2.2
 | .exit id, e, m, k => k (.exit id) e m
 | .ret, e, m, k => k .ret e m
 | .mask keep c, e, m, k => c.kM O (Ox e keep) m k
 | .join keep c, e, m, k => (c.kM O e m fun x e' m' => some (x, nS e' keep, m')).bind fun r => k r.1 (uD keep r.2.1) r.2.2
theorem ahy {R : Type} (O : aA) : ∀ (c : EC) (e : Env) (m : Mem) (k : Ex → Env → Mem → Option R), c.kM O e m k = c.exec O e m k := by
 intro c
 induction c generalizing R with
 | skip => intros; rfl
 | region n ops => intro e m k; simp only [EC.kM, EC.exec, JW, aio]
 | drawn n ops => intro e m k; simp only [EC.kM, EC.exec, JW, aio]
 | WJ ts c ih => intro e m k; simp only [EC.kM, EC.exec, ih]
 | seq a b iha ihb =>
   intro e m k
   simp only [EC.kM, EC.exec, iha, ihb]
   congr 1
   funext x e' m'
   cases x <;> rfl
 | cond c a b iha ihb =>
   intro e m k
   simp only [EC.kM, EC.exec, iha, ihb]
   cases c.ev e with
   | none => rfl
   | some d => cases d <;> simp [Lu]
 | block id c ih =>
   intro e m k
   simp only [EC.kM, EC.exec, ih]
   congr 1
   funext x e' m'
   cases x <;> simp [Kw]
   rename_i i
   cases Nat.beq i id <;> rfl
 | loop => intros; rfl
 | exit => intros; rfl
 | ret => intros; rfl
 | mask keep c ih => intro e m k; simp only [EC.kM, EC.exec, ih]
 | join keep c ih => intro e m k; simp only [EC.kM, EC.exec, ih]
def alu (f : EF) (n : Nat) (e : Env) (m : Mem) : RV := (BZ e m f.res).bind fun rs => (gc n rs m).bind fun r => some (J9 r)
def EF.step2 (O : aA) (f : EF) (args : List D) (m : Mem) : RV :=
 f.body.kM O (uD f.params args) m fun x e m' => UL x (alu f m.length e m') (fun _ => none) (alu f m.length e m')
theorem aiE (O : aA) (f : EF) (args : List D) (m : Mem) (h : Nat.beq args.length f.params.length = true) : f.step2 O args m = f.step O args m := by
 simp only [EF.step2, EF.step, ahy, h, cond_true]
 congr 1
 funext x e m'
 cases x <;> rfl
def bC (O : aA) (ins outs : List Nat) (body : EC) (base : Nat) (vals : List D) (m : Mem) : Option (Ex × List D × Mem) :=
 body.kM O (uD ins vals) m fun x e m' =>
  UL x ((gc base (nS e ins) m').bind fun r => O.loop ins outs body base r.1 r.2) (fun i => (gc base (nS e outs) m').bind fun r => some (.exit i, r.1, r.2)) ((gc base (nS e outs) m').bind fun r => some (.ret, r.1, r.2))
theorem ahY (O : aA) (ins outs : List Nat) (body : EC) (base : Nat) (vals : List D) (m : Mem) : bC O ins outs body base vals m = CW O ins outs body base vals m := by
 simp only [bC, CW, ahy]
 congr 1
 funext x e m'
 cases x <;> rfl
def fin (r : D × Mem) : Option D := (fz FZ r.1 r.2).bind fun s => some s.1
theorem aqC {T : Tab} {f : Nat} {ef : EF} {args : List D} {d : D} {x : RV} (hf : T.fn f = some ef) (hn : Nat.beq args.length ef.params.length = true) (hs : ef.step2 T.lim args [] = x) (h : x.bind fin = some d) : T.lim.call f args = some d := by
 show wu (T.lim.bH f args []) = some d
 unfold wu
 rw [Option.bind_eq_some_iff] at h
 obtain ⟨r, hr, h⟩ := h
 rw [ahV hf (r := r) (by rw [← aiE _ _ _ _ hn, hs, hr])]
 exact h
theorem aoB {T : Tab} {f : Nat} {ef : EF} {args : List D} {m : Mem} {r : D × Mem} {x : RV} (hf : T.fn f = some ef) (hn : Nat.beq args.length ef.params.length = true) (hs : ef.step2 T.lim args m = x) (h : x = some r) : T.lim.bH f args m = some r :=
 ahV hf (by rw [← aiE _ _ _ _ hn, hs, h])
theorem apB {T : Tab} {ins outs : List Nat} {body : EC} {base : Nat} {vals : List D} {m : Mem} {r : Ex × List D × Mem} {x : Option (Ex × List D × Mem)} (hs : bC T.lim ins outs body base vals m = x) (h : x = some r) : T.lim.loop ins outs body base vals m = some r :=
 aeK (by rw [← ahY, hs, h])
@[congr] theorem auD {α β : Type} {x y : Option α} {f : α → Option β} (h : x = y) : bd x f = bd y f := by rw [h]
@[simp] theorem YX {α β : Type} (a : α) (f : α → Option β) : bd (some a) f = f a := by rfl
@[simp] theorem avp {α β : Type} (f : α → Option β) : bd none f = none := by rfl
@[congr] theorem au3 {β : Type} {x y : Option (Ex × List D × Mem)} {f : Ex × List D × Mem → Option β} (h : x = y) : jn x f = jn y f := by rw [h]
@[simp] theorem ari {β : Type} (a : Ex × List D × Mem) (f : Ex × List D × Mem → Option β) : jn (some a) f = f a := by rfl
@[congr] theorem atc {R : Type} {d d' : D} {a b : Option R} (h : d = d') : Lu d a b = Lu d' a b := by rw [h]
@[simp] theorem atp {R : Type} (a b : Option R) : Lu (.bool true) a b = a := by rfl
@[simp] theorem ajs {R : Type} (a b : Option R) : Lu (.bool false) a b = b := by rfl
@[congr] theorem atV {α : Type} {x y : Ex} {n r : α} {f : Nat → α} (h : x = y) : UL x n f r = UL y n f r := by rw [h]
@[simp] theorem att {α : Type} (n : α) (f : Nat → α) (r : α) : UL .normal n f r = n := by rfl
@[simp] theorem auR {α : Type} (i : Nat) (n : α) (f : Nat → α) (r : α) : UL (.exit i) n f r = f i := by rfl
@[simp] theorem avH {α : Type} (n : α) (f : Nat → α) (r : α) : UL .ret n f r = r := by rfl
@[congr] theorem aud {w w' : Option Bool} {x : RV} {m : Mem} (h : w = w') : ZT w x m = ZT w' x m := by rw [h]
@[simp] theorem au1 (x : RV) (m : Mem) : ZT (some true) x m = x := by rfl
@[simp] theorem aue (x : RV) (m : Mem) : ZT (some false) x m = some (.aZ [], m) := by rfl
@[simp] theorem atg (a b : Bool) : Nl (.bool a) b = some (a == b) := by rfl
@[simp] theorem ath (b : Bool) : Nl (.aZ []) b = some false := by rfl
@[simp] theorem atb (i : Nat) : Kw i .normal = .normal := by rfl
@[simp] theorem auF (i : Nat) : Kw i .ret = .ret := by rfl
@[simp] theorem atT (i j : Nat) : Kw i (.exit j) = bif Nat.beq j i then .normal else .exit j := by rfl
end Go.Ev
end
section
namespace Go.Ev
def VU (O : aA) (ins outs : List Nat) (body : EC) (base : Nat) (vals : List D) (m : Mem) : Option (Ex × List D × Mem) := O.loop ins outs body base vals m
def Ym (O : aA) (f : Nat) (ds : List D) (m : Mem) : RV := O.bH f ds m
def apE (O : aA) (base : Nat) (k : K) (ds : List D) (m : Mem) : RV := match k with
 | .bH f => Ym O f ds m
 | k => k.run O base ds m
theorem akH (O : aA) (base : Nat) (k : K) (ds : List D) (m : Mem) : apE O base k ds m = k.run O base ds m := by cases k <;> rfl
def runK {R : Type} (O : aA) (base : Nat) (k : K) (ds : List D) (m : Mem) (f : D → Mem → Option R) : Option R := match k, ds with
 | .aX, [d] => f d m
 | k, ds => bd (apE O base k ds m) fun r => f r.1 r.2
theorem arz {R : Type} (O : aA) (base : Nat) (k : K) (ds : List D) (m : Mem) (f : D → Mem → Option R) : runK O base k ds m f = (k.run O base ds m).bind fun r => f r.1 r.2 := by
 unfold runK
 split
 ·rfl
 ·rw [akH]; rfl
def OZ {R : Type} (O : aA) (base : Nat) : List EO → Env → Mem → (Env → Mem → Option R) → Option R
 | [], e, m, k => k e m
 | o :: os, e, m, k => match o.guard with
   | none => (evs e o.xs).bind fun ds => runK O base o.k ds m fun d m' => OZ O base os (wG e o.dst d) m' k
   | some (t, b) => (look e t).bind fun d => bd (ZT (Nl d b) ((evs e o.xs).bind fun ds => apE O base o.k ds m) m) fun r => OZ O base os (wG e o.dst r.1) r.2 k
theorem OM {R : Type} (O : aA) (base : Nat) (k : Env → Mem → Option R) : ∀ (os : List EO) (e : Env) (m : Mem), OZ O base os e m k = IX O base os e m k
 | [], e, m => rfl
 | o :: os, e, m => by
   simp only [OZ, IX]
   cases hg : o.guard with
   | none => simp only [arz, OM O base k os]
   | some tb => simp only [bd, akH, OM O base k os]
inductive SX where
 | n
 | e (i : Nat)
 | r
 | dyn (x : Ex)
def SX.ex : SX → Ex
 | .n => .normal
 | .e i => .exit i
 | .r => .ret
 | .dyn x => x
def exS {α : Type} (x : SX) (n : α) (f g : Nat → α) (r : α) : α := match x with
 | .n => n
 | .e i => f i
 | .r => r
 | .dyn x => UL x n g r
def aoz (id : Nat) : SX → SX
 | .e i => bif Nat.beq i id then .n else .e i
 | .dyn x => .dyn (Kw id x)
 | x => x
theorem ahx {α : Type} (x : SX) (n : α) {f g h : Nat → α} (r : α) (h1 : ∀ i, f i = h i) (h2 : ∀ i, g i = h i) : exS x n f g r = UL x.ex n h r := by
 obtain rfl : f = h := funext h1
 obtain rfl : g = f := funext h2
 cases x <;> rfl
theorem aqB (id : Nat) (x : SX) : (aoz id x).ex = Kw id x.ex := by
 cases x with
 | e i => simp only [aoz, SX.ex, Kw]; cases Nat.beq i id <;> rfl
 | _ => rfl
def ZV (l : List D) : D := l.headD .undef
def tlI (l : List D) : List D := l.tail
def aiV : List Nat → List D → Env
 | [], _ => []
 | t :: ts, ds => (t, ZV ds) :: aiV ts (tlI ds)
theorem ad1 : ∀ (ts : List Nat) (ds : List D), aiV ts ds = uD ts ds
 | [], _ => rfl
 | t :: ts, ds => by simp only [aiV, uD, ad1 ts, ZV, tlI]
def al9 : List Nat → List D → Env → Env
 | [], _, e => e
 | t :: ts, ds, e => (t, ZV ds) :: al9 ts (tlI ds) e
theorem akQ (e : Env) : ∀ (ts : List Nat) (ds : List D), al9 ts ds e = uD ts ds ++ e
 | [], _ => rfl
 | t :: ts, ds => by simp only [al9, uD, akQ e ts, ZV, tlI, List.cons_append]
def EC.rF {R : Type} (O : aA) : EC → Env → Mem → (SX → Env → Mem → Option R) → Option R
 | .skip, e, m, k => k .n e m
 | .region n ops, e, m, k => OZ O m.length ops e (place n m) fun e' m' => k .n e' m'
 | .drawn n ops, e, m, k => OZ O m.length (ops.map (·.2)) e (place n m) fun e' m' => k .n e' m'
 | .WJ ts c, e, m, k => bd (jV (fz FZ) (nS e ts) m) fun r => c.rF O (al9 ts r.1 e) r.2 k
 | .seq a b, e, m, k => a.rF O e m fun x e' m' => exS x (b.rF O e' m' k) (fun i => k (.e i) e' m') (fun i => k (.dyn (.exit i)) e' m') (k .r e' m')
 | .cond c a b, e, m, k => (c.ev e).bind fun d => Lu d (a.rF O e m k) (b.rF O e m k)
 | .block id c, e, m, k => c.rF O e m fun x e' m' => k (aoz id x) e' m'
 | .loop ins outs body, e, m, k => jn (VU O ins outs body m.length (nS e ins) m) fun r => k (.dyn r.1) (aiV outs r.2.1) r.2.2
 | .exit id, e, m, k => k (.e id) e m
 | .ret, e, m, k => k .r e m
 | .mask keep c, e, m, k => c.rF O (Ox e keep) m k
 | .join keep c, e, m, k => jn (c.rF O e m fun x e' m' => some (x.ex, nS e' keep, m')) fun r => k (.dyn r.1) (aiV keep r.2.1) r.2.2
theorem ahz {R : Type} (O : aA) : ∀ (c : EC) (e : Env) (m : Mem) (k : SX → Env → Mem → Option R) (k2 : Ex → Env → Mem → Option R), (∀ x e m, k x e m = k2 x.ex e m) → c.rF O e m k = c.kM O e m k2 := by
 intro c
 induction c generalizing R with
 | skip => intro e m k k2 h; exact h _ _ _
 | region n ops => intro e m k k2 h; simp only [EC.rF, EC.kM, OM, h, SX.ex]
 | drawn n ops => intro e m k k2 h; simp only [EC.rF, EC.kM, OM, h, SX.ex]
 | WJ ts c ih => intro e m k k2 h; simp only [EC.rF, EC.kM, ih _ _ k k2 h, bd, akQ]
 | seq a b iha ihb =>
   intro e m k k2 h
   simp only [EC.rF, EC.kM]
   refine iha e m _ _ fun x e' m' => ?_
   rw [ahx (h := fun i => k2 (.exit i) e' m') x _ _ (fun i => h _ _ _) (fun i => h _ _ _), ihb e' m' k k2 h, h]
   rfl
 | cond c a b iha ihb => intro e m k k2 h; simp only [EC.rF, EC.kM, iha _ _ k k2 h, ihb _ _ k k2 h]
 | block id c ih =>
   intro e m k k2 h
   simp only [EC.rF, EC.kM]
   exact ih e m _ _ fun x e' m' => by rw [h, aqB]
 | loop => intro e m k k2 h; simp only [EC.rF, EC.kM, jn, VU, h, SX.ex, ad1]
 | exit => intro e m k k2 h; exact h _ _ _
 | ret => intro e m k k2 h; exact h _ _ _
 | mask keep c ih => intro e m k k2 h; simp only [EC.rF, EC.kM, ih _ _ k k2 h]
 | join keep c ih =>
   intro e m k k2 h
   simp only [EC.rF, EC.kM]
   rw [ih e m (fun x e' m' => some (x.ex, nS e' keep, m')) (fun x e' m' => some (x, nS e' keep, m')) (fun x e m => rfl)]
   simp only [jn, h, SX.ex, ad1]
def keyOf : ER → Nat
 | .tmp t => t
 | .cell t _ _ => t
def acH (e : Env) : List ER → Option (List D)
 | [] => some []
 | .tmp t :: rs => match look e t, acH e rs with
   | some d, some ds => some (d :: ds)
   | _, _ => none
 | .cell .. :: _ => none
def KP (e : Env) : List ER → Env
 | [] => []
 | .tmp t :: rs => match look e t with
   | some d => (t, d) :: KP e rs
   | none => KP e rs
 | .cell t .. :: rs => match look e t with
   | some d => (t, d) :: KP e rs
   | none => KP e rs
def adi (e : Env) : List ER → Bool
 | [] => true
 | r :: rs => (look e (keyOf r)).isSome && adi e rs
theorem aek (e : Env) (m : Mem) : ∀ (rs : List ER), adi e rs = false → BZ e m rs = none
 | [], h => by simp [adi] at h
 | r :: rs, h => by
   simp only [adi, Bool.and_eq_false_iff] at h
   rcases h with h | h
   ·have : r.get e m = none := by
     cases hl : look e (keyOf r) with
     | some d => rw [hl] at h; simp at h
     | none => cases r <;> simp only [ER.get, keyOf] at hl ⊢ <;> rw [hl] <;> rfl
    simp only [BZ, this, Option.bind_none]
   ·simp only [BZ, aek e m rs h, Option.bind_none]
    cases r.get e m <;> rfl
def agA (f : EF) (n : Nat) (e : Env) (m : Mem) : RV := match acH e f.res with
 | some rs => bd (gc n rs m) fun r => some (J9 r)
 | none => bif adi e f.res then bd (BZ (KP e f.res) m f.res) fun rs => bd (gc n rs m) fun r => some (J9 r) else none
theorem aiJ (e : Env) (m : Mem) : ∀ (rs : List ER) (ds : List D), acH e rs = some ds → BZ e m rs = some ds
 | [], ds, h => h
 | .tmp t :: rs, ds, h => by
   simp only [acH] at h
   split at h
   ·rename_i d ds' h1 h2
    simp only [BZ, ER.get, h1, aiJ e m rs _ h2, Option.bind_some]
    exact h
   ·simp at h
 | .cell t a n :: _, ds, h => by simp [acH] at h
theorem aeL (e : Env) : ∀ (rs : List ER) (r : ER), r ∈ rs → look (KP e rs) (keyOf r) = look e (keyOf r)
 | [], r, h => by simp at h
 | x :: rs, r, h => by
   have ih := fun h => aeL e rs r h
   have hx : KP e (x :: rs) = match look e (keyOf x) with
    | some d => (keyOf x, d) :: KP e rs
    | none => KP e rs := by cases x <;> rfl
   rw [hx]
   by_cases hk : keyOf r = keyOf x
   ·rw [hk]
    cases hl : look e (keyOf x) with
    | some d => simp [look]
    | none =>
      simp only
      by_cases hm : r ∈ rs
      ·rw [← hk, ih hm, hk, hl]
      ·have : ∀ l : List ER, look (KP e l) (keyOf x) = none := by
        intro l
        induction l with
        | nil => rfl
        | cons y ys ih2 =>
          have hy : KP e (y :: ys) = match look e (keyOf y) with
           | some d => (keyOf y, d) :: KP e ys
           | none => KP e ys := by cases y <;> rfl
          rw [hy]
          cases hly : look e (keyOf y) with
          | none => exact ih2
          | some d =>
            simp only [look]
            have hne : Nat.beq (keyOf y) (keyOf x) = false := by
             cases hb : Nat.beq (keyOf y) (keyOf x) with
             | false => rfl
             | true =>
               rw [Nat.eq_of_beq_eq_true hb, hl] at hly
               simp at hly
            rw [hne]
            exact ih2
       exact this rs
   ·have hm : r ∈ rs := by
     rcases List.mem_cons.1 h with h | h
     ·exact absurd (by rw [h]) hk
     ·exact h
    cases look e (keyOf x) with
    | none => exact ih hm
    | some d =>
      simp only [look]
      have hne : Nat.beq (keyOf x) (keyOf r) = false := by
       cases hb : Nat.beq (keyOf x) (keyOf r) with
       | false => rfl
       | true => exact absurd (Nat.eq_of_beq_eq_true hb).symm hk
      rw [hne]
      exact ih hm
theorem ad2 {e e' : Env} (m : Mem) : ∀ (rs : List ER), (∀ r ∈ rs, look e' (keyOf r) = look e (keyOf r)) → BZ e' m rs = BZ e m rs
 | [], _ => rfl
 | r :: rs, h => by
   have h1 : r.get e' m = r.get e m := by
    have := h r (by simp)
    cases r <;> simp only [ER.get, keyOf] at this ⊢ <;> rw [this]
   simp only [BZ, h1, ad2 m rs (fun x hx => h x (by simp [hx]))]
theorem ao5 (f : EF) (n : Nat) (e : Env) (m : Mem) : agA f n e m = alu f n e m := by
 unfold agA alu
 split
 ·rename_i rs h
  rw [aiJ e m _ _ h]; rfl
 ·cases ha : adi e f.res with
  | true => rw [ad2 m f.res (fun r hr => aeL e f.res r hr)]; rfl
  | false => rw [aek e m _ ha]; rfl
def EF.step3 (O : aA) (f : EF) (args : List D) (m : Mem) : RV :=
 f.body.rF O (uD f.params args) m fun x e m' => exS x (agA f m.length e m') (fun _ => none) (fun _ => none) (agA f m.length e m')
theorem aH (O : aA) (f : EF) (args : List D) (m : Mem) : f.step2 O args m = f.step3 O args m := by
 refine (ahz O _ _ _ _ _ fun x e m' => ?_).symm
 rw [ahx (h := fun _ => none) x _ _ (fun _ => rfl) (fun _ => rfl), ao5]
def bI (O : aA) (ins outs : List Nat) (body code : EC) (base : Nat) (vals : List D) (m : Mem) : Option (Ex × List D × Mem) :=
 code.rF O (uD ins vals) m fun x e m' =>
  exS x (bd (gc base (nS e ins) m') fun r => VU O ins outs body base r.1 r.2) (fun i => bd (gc base (nS e outs) m') fun r => some (.exit i, r.1, r.2)) (fun i => bd (gc base (nS e outs) m') fun r => some (.exit i, r.1, r.2)) (bd (gc base (nS e outs) m') fun r => some (.ret, r.1, r.2))
theorem aY (O : aA) (ins outs : List Nat) (body : EC) (base : Nat) (vals : List D) (m : Mem) : bC O ins outs body base vals m = bI O ins outs body body base vals m := by
 refine (ahz O _ _ _ _ _ fun x e m' => ?_).symm
 exact ahx x _ _ (fun _ => rfl) (fun _ => rfl)
theorem ak (n : Nat) : Int.ofNat (no_index (OfNat.ofNat n)) = OfNat.ofNat n := rfl
theorem au (a b : List Slot) : List.append a b = a ++ b := rfl
theorem aG (O : aA) (ins outs : List Nat) (body : EC) (base : Nat) (vals : List D) (m : Mem) : VU O ins outs body base vals m = O.loop ins outs body base vals m := rfl
theorem ay (O : aA) (f : Nat) (ds : List D) (m : Mem) : Ym O f ds m = O.bH f ds m := rfl
attribute [simp] ZV tlI
end Go.Ev
end
