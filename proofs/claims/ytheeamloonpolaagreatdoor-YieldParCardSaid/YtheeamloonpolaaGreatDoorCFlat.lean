/- A part of the proof of riskZero_card, yieldPar_card, pricePar_card. -/
import Derived.Test.YtheeamloonpolaaGreatDoorCLim
set_option linter.unusedVariables false
set_option linter.unusedSimpArgs false
section
namespace Go.Ev
def bd {α β:Type} (x:Option α) (f:α→Option β):Option β:=x.bind f
def jn {β:Type} (x:Option (Ex×List D×Mem)) (f:Ex×List D×Mem→Option β):Option β:=x.bind f
abbrev hd (l:List D):D:=l.headD .undef
abbrev tl (l:List D):List D:=l.tail
def VH {α:Type} (x:Ex) (n:α) (f:Nat→α) (r:α):α:=match x with
 | .normal=>n
 | .exit i=>f i
 | .ret=>r
def KO (id:Nat) (x:Ex):Ex:=match x with
 | .exit i=>bif Nat.beq i id then .normal else .exit i
 | x=>x
def MQ {R:Type} (d:D) (a b:Option R):Option R:=match d with
 | .bool t=>if t=true then a else b
 | _=>none
def Oj (d:D) (b:Bool):Option Bool:=match d with
 | .bool b'=>some (b'==b)
 | .aZ []=>some false
 | _=>none
def gop (w:Option Bool) (x:RV) (m:Mem):RV:=w.bind fun w=>bif w then x else some (.aZ [],m)
def Jf {R:Type} (O:aC) (base:Nat):List EO→Env→Mem→(Env→Mem→Option R)→Option R
 | [],e,m,k=>k e m
 | o::os,e,m,k=>match o.guard with
   | none=>(evs e o.xs).bind fun ds=>(o.k.run O base ds m).bind fun r=>Jf O base os (xE e o.dst r.1) r.2 k
   | some (t,b)=>(look e t).bind fun d=>(gop (Oj d b) ((evs e o.xs).bind fun ds=>o.k.run O base ds m) m).bind fun r=>Jf O base os (xE e o.dst r.1) r.2 k
theorem Ko {R:Type} (O:aC) (base:Nat) (k:Env→Mem→Option R):∀ (os:List EO) (e:Env) (m:Mem),Jf O base os e m k=(sQ O base os e m).bind fun r=>k r.1 r.2
 | [],e,m=>rfl
 | o::os,e,m=>by
   simp only [Jf,sQ,EO.run,EO.wants]
   cases hg:o.guard with
   | none=>cases evs e o.xs <;> simp [Option.bind_assoc,Ko O base k os]
   | some tb =>
     obtain ⟨t,b⟩:=tb
     cases hl:look e t with
     | none=>simp [hl]
     | some d =>
       cases d <;> simp only [hl,gop,Oj,Option.bind_some,Option.bind_none]
       case bool b' =>
        cases hb:(b'==b) <;> simp [Ko O base k os,Option.bind_assoc]
       case aZ vs=>cases vs <;> simp [Ko O base k os,Option.bind_assoc]
def place (n:Nat) (m:Mem):Mem:=bif Nat.beq n 0 then m else m++List.replicate n .free
theorem ajI (n:Nat) (m:Mem):place n m=m++List.replicate n .free:=by
 unfold place
 cases h:Nat.beq n 0 with
 | false=>rfl
 | true=>rw [Nat.eq_of_beq_eq_true h]; simp
def EC.lq {R:Type} (O:aC):EC→Env→Mem→(Ex→Env→Mem→Option R)→Option R
 | .skip,e,m,k=>k .normal e m
 | .region n ops,e,m,k=>Jf O m.length ops e (place n m) fun e' m'=>k .normal e' m'
 | .drawn n ops,e,m,k=>Jf O m.length (ops.map (·.2)) e (place n m) fun e' m'=>k .normal e' m'
 | .XP ts c,e,m,k=>(jE (fz FZ) (oQ e ts) m).bind fun r=>c.lq O (vJ ts r.1++e) r.2 k
 | .seq a b,e,m,k=>a.lq O e m fun x e' m'=>VH x (b.lq O e' m' k) (fun i=>k (.exit i) e' m') (k .ret e' m')
 | .cond c a b,e,m,k=>(c.ev e).bind fun d=>MQ d (a.lq O e m k) (b.lq O e m k)
 | .block id c,e,m,k=>c.lq O e m fun x e' m'=>k (KO id x) e' m'
 | .loop ins outs body,e,m,k=>(O.loop ins outs body m.length (oQ e ins) m).bind fun r=>k r.1 (vJ outs r.2.1) r.2.2
 | .exit id,e,m,k=>k (.exit id) e m
 | .ret,e,m,k=>k .ret e m
 | .mask keep c,e,m,k=>c.lq O (Po e keep) m k
 | .join keep c,e,m,k=>(c.lq O e m fun x e' m'=>some (x,oQ e' keep,m')).bind fun r=>k r.1 (vJ keep r.2.1) r.2.2
theorem aiU {R:Type} (O:aC):∀ (c:EC) (e:Env) (m:Mem) (k:Ex→Env→Mem→Option R),c.lq O e m k=c.exec O e m k:=by
 intro c
 induction c generalizing R with
 | skip=>intros; rfl
 | region n ops=>intro e m k; simp only [EC.lq,EC.exec,Ko,ajI]
 | drawn n ops=>intro e m k; simp only [EC.lq,EC.exec,Ko,ajI]
 | XP ts c ih=>intro e m k; simp only [EC.lq,EC.exec,ih]
 | seq a b iha ihb =>
   intro e m k
   simp only [EC.lq,EC.exec,iha,ihb]
   congr 1
   funext x e' m'
   cases x <;> rfl
 | cond c a b iha ihb =>
   intro e m k
   simp only [EC.lq,EC.exec,iha,ihb]
   cases c.ev e with
   | none=>rfl
   | some d=>cases d <;> simp [MQ]
 | block id c ih =>
   intro e m k
   simp only [EC.lq,EC.exec,ih]
   congr 1
   funext x e' m'
   cases x <;> simp [KO]
   rename_i i
   cases Nat.beq i id <;> rfl
 | loop=>intros; rfl
 | exit=>intros; rfl
 | ret=>intros; rfl
 | mask keep c ih=>intro e m k; simp only [EC.lq,EC.exec,ih]
 | join keep c ih=>intro e m k; simp only [EC.lq,EC.exec,ih]
def am9 (f:EF) (n:Nat) (e:Env) (m:Mem):RV:=(Dv e m f.res).bind fun rs=>(gc n rs m).bind fun r=>some (KC r)
def EF.step2 (O:aC) (f:EF) (args:List D) (m:Mem):RV :=
 f.body.lq O (vJ f.params args) m fun x e m'=>VH x (am9 f m.length e m') (fun _=>none) (am9 f m.length e m')
theorem ajY (O:aC) (f:EF) (args:List D) (m:Mem) (h:Nat.beq args.length f.params.length=true):f.step2 O args m=f.step O args m:=by
 simp only [EF.step2,EF.step,aiU,h,cond_true]
 congr 1
 funext x e m'
 cases x <;> rfl
def bg (O:aC) (ins outs:List Nat) (body:EC) (base:Nat) (vals:List D) (m:Mem):Option (Ex×List D×Mem) :=
 body.lq O (vJ ins vals) m fun x e m' =>
  VH x ((gc base (oQ e ins) m').bind fun r=>O.loop ins outs body base r.1 r.2) (fun i=>(gc base (oQ e outs) m').bind fun r=>some (.exit i,r.1,r.2)) ((gc base (oQ e outs) m').bind fun r=>some (.ret,r.1,r.2))
theorem ajk (O:aC) (ins outs:List Nat) (body:EC) (base:Nat) (vals:List D) (m:Mem):bg O ins outs body base vals m=DW O ins outs body base vals m:=by
 simp only [bg,DW,aiU]
 congr 1
 funext x e m'
 cases x <;> rfl
def fin (r:D×Mem):Option D:=(fz FZ r.1 r.2).bind fun s=>some s.1
theorem asH {T:Tab} {f:Nat} {ef:EF} {args:List D} {d:D} {x:RV} (hf:T.fn f=some ef) (hn:Nat.beq args.length ef.params.length=true) (hs:ef.step2 T.lim args []=x) (h:x.bind fin=some d):T.lim.call f args=some d:=by
 show xu (T.lim.bJ f args [])=some d
 unfold xu
 rw [Option.bind_eq_some_iff] at h
 obtain ⟨r,hr,h⟩:=h
 rw [ajh hf (r:=r) (by rw [← ajY _ _ _ _ hn,hs,hr])]
 exact h
theorem aqj {T:Tab} {f:Nat} {ef:EF} {args:List D} {m:Mem} {r:D×Mem} {x:RV} (hf:T.fn f=some ef) (hn:Nat.beq args.length ef.params.length=true) (hs:ef.step2 T.lim args m=x) (h:x=some r):T.lim.bJ f args m=some r :=
 ajh hf (by rw [← ajY _ _ _ _ hn,hs,h])
theorem aro {T:Tab} {ins outs:List Nat} {body:EC} {base:Nat} {vals:List D} {m:Mem} {r:Ex×List D×Mem} {x:Option (Ex×List D×Mem)} (hs:bg T.lim ins outs body base vals m=x) (h:x=some r):T.lim.loop ins outs body base vals m=some r :=
 afO (by rw [← ajk,hs,h])
@[congr] theorem awG {α β:Type} {x y:Option α} {f:α→Option β} (h:x=y):bd x f=bd y f:=by rw [h]
@[simp] theorem aac {α β:Type} (a:α) (f:α→Option β):bd (some a) f=f a:=by rfl
@[simp] theorem axt {α β:Type} (f:α→Option β):bd none f=none:=by rfl
@[congr] theorem aw6 {β:Type} {x y:Option (Ex×List D×Mem)} {f:Ex×List D×Mem→Option β} (h:x=y):jn x f=jn y f:=by rw [h]
@[simp] theorem atp {β:Type} (a:Ex×List D×Mem) (f:Ex×List D×Mem→Option β):jn (some a) f=f a:=by rfl
@[congr] theorem avl {R:Type} {d d':D} {a b:Option R} (h:d=d'):MQ d a b=MQ d' a b:=by rw [h]
@[simp] theorem avx {R:Type} (a b:Option R):MQ (.bool true) a b=a:=by rfl
@[simp] theorem akR {R:Type} (a b:Option R):MQ (.bool false) a b=b:=by rfl
@[congr] theorem av3 {α:Type} {x y:Ex} {n r:α} {f:Nat→α} (h:x=y):VH x n f r=VH y n f r:=by rw [h]
@[simp] theorem avA {α:Type} (n:α) (f:Nat→α) (r:α):VH .normal n f r=n:=by rfl
@[simp] theorem awU {α:Type} (i:Nat) (n:α) (f:Nat→α) (r:α):VH (.exit i) n f r=f i:=by rfl
@[simp] theorem axK {α:Type} (n:α) (f:Nat→α) (r:α):VH .ret n f r=r:=by rfl
@[congr] theorem awe {w w':Option Bool} {x:RV} {m:Mem} (h:w=w'):gop w x m=gop w' x m:=by rw [h]
@[simp] theorem aw4 (x:RV) (m:Mem):gop (some true) x m=x:=by rfl
@[simp] theorem awf (x:RV) (m:Mem):gop (some false) x m=some (.aZ [],m):=by rfl
@[simp] theorem avp (a b:Bool):Oj (.bool a) b=some (a==b):=by rfl
@[simp] theorem avq (b:Bool):Oj (.aZ []) b=some false:=by rfl
@[simp] theorem avk (i:Nat):KO i .normal = .normal:=by rfl
@[simp] theorem awI (i:Nat):KO i .ret = .ret:=by rfl
@[simp] theorem av1 (i j:Nat):KO i (.exit j)=bif Nat.beq j i then .normal else .exit j:=by rfl
end Go.Ev
end
section
namespace Go.Ev
def Xi (O:aC) (ins outs:List Nat) (body:EC) (base:Nat) (vals:List D) (m:Mem):Option (Ex×List D×Mem):=O.loop ins outs body base vals m
def Zu (O:aC) (f:Nat) (ds:List D) (m:Mem):RV:=O.bJ f ds m
def arv (O:aC) (base:Nat) (k:K) (ds:List D) (m:Mem):RV:=match k with
 | .bJ f=>Zu O f ds m
 | k=>k.run O base ds m
theorem amj (O:aC) (base:Nat) (k:K) (ds:List D) (m:Mem):arv O base k ds m=k.run O base ds m:=by cases k <;> rfl
def runK {R:Type} (O:aC) (base:Nat) (k:K) (ds:List D) (m:Mem) (f:D→Mem→Option R):Option R:=match k,ds with
 | .aX,[d]=>f d m
 | k,ds=>bd (arv O base k ds m) fun r=>f r.1 r.2
theorem atE {R:Type} (O:aC) (base:Nat) (k:K) (ds:List D) (m:Mem) (f:D→Mem→Option R):runK O base k ds m f=(k.run O base ds m).bind fun r=>f r.1 r.2:=by
 unfold runK
 split
 ·rfl
 ·rw [amj]; rfl
def P5 {R:Type} (O:aC) (base:Nat):List EO→Env→Mem→(Env→Mem→Option R)→Option R
 | [],e,m,k=>k e m
 | o::os,e,m,k=>match o.guard with
   | none=>(evs e o.xs).bind fun ds=>runK O base o.k ds m fun d m'=>P5 O base os (xE e o.dst d) m' k
   | some (t,b)=>(look e t).bind fun d=>bd (gop (Oj d b) ((evs e o.xs).bind fun ds=>arv O base o.k ds m) m) fun r=>P5 O base os (xE e o.dst r.1) r.2 k
theorem PL {R:Type} (O:aC) (base:Nat) (k:Env→Mem→Option R):∀ (os:List EO) (e:Env) (m:Mem),P5 O base os e m k=Jf O base os e m k
 | [],e,m=>rfl
 | o::os,e,m=>by
   simp only [P5,Jf]
   cases hg:o.guard with
   | none=>simp only [atE,PL O base k os]
   | some tb=>simp only [bd,amj,PL O base k os]
inductive SX where
 | n
 | e (i:Nat)
 | r
 | dyn (x:Ex)
def SX.ex:SX→Ex
 | .n => .normal
 | .e i => .exit i
 | .r => .ret
 | .dyn x=>x
def exS {α:Type} (x:SX) (n:α) (f g:Nat→α) (r:α):α:=match x with
 | .n=>n
 | .e i=>f i
 | .r=>r
 | .dyn x=>VH x n g r
def aqh (id:Nat):SX→SX
 | .e i=>bif Nat.beq i id then .n else .e i
 | .dyn x => .dyn (KO id x)
 | x=>x
theorem aiT {α:Type} (x:SX) (n:α) {f g h:Nat→α} (r:α) (h1:∀ i,f i=h i) (h2:∀ i,g i=h i):exS x n f g r=VH x.ex n h r:=by
 obtain rfl:f=h:=funext h1
 obtain rfl:g=f:=funext h2
 cases x <;> rfl
theorem asG (id:Nat) (x:SX):(aqh id x).ex=KO id x.ex:=by
 cases x with
 | e i=>simp only [aqh,SX.ex,KO]; cases Nat.beq i id <;> rfl
 | _=>rfl
def hdI (l:List D):D:=l.headD .undef
def tlI (l:List D):List D:=l.tail
def aki:List Nat→List D→Env
 | [],_=>[]
 | t::ts,ds=>(t,hdI ds)::aki ts (tlI ds)
theorem ae9:∀ (ts:List Nat) (ds:List D),aki ts ds=vJ ts ds
 | [],_=>rfl
 | t::ts,ds=>by simp only [aki,vJ,ae9 ts,hdI,tlI]
def anR:List Nat→List D→Env→Env
 | [],_,e=>e
 | t::ts,ds,e=>(t,hdI ds)::anR ts (tlI ds) e
theorem amu (e:Env):∀ (ts:List Nat) (ds:List D),anR ts ds e=vJ ts ds++e
 | [],_=>rfl
 | t::ts,ds=>by simp only [anR,vJ,amu e ts,hdI,tlI,List.cons_append]
def EC.sW {R:Type} (O:aC):EC→Env→Mem→(SX→Env→Mem→Option R)→Option R
 | .skip,e,m,k=>k .n e m
 | .region n ops,e,m,k=>P5 O m.length ops e (place n m) fun e' m'=>k .n e' m'
 | .drawn n ops,e,m,k=>P5 O m.length (ops.map (·.2)) e (place n m) fun e' m'=>k .n e' m'
 | .XP ts c,e,m,k=>bd (jE (fz FZ) (oQ e ts) m) fun r=>c.sW O (anR ts r.1 e) r.2 k
 | .seq a b,e,m,k=>a.sW O e m fun x e' m'=>exS x (b.sW O e' m' k) (fun i=>k (.e i) e' m') (fun i=>k (.dyn (.exit i)) e' m') (k .r e' m')
 | .cond c a b,e,m,k=>(c.ev e).bind fun d=>MQ d (a.sW O e m k) (b.sW O e m k)
 | .block id c,e,m,k=>c.sW O e m fun x e' m'=>k (aqh id x) e' m'
 | .loop ins outs body,e,m,k=>jn (Xi O ins outs body m.length (oQ e ins) m) fun r=>k (.dyn r.1) (aki outs r.2.1) r.2.2
 | .exit id,e,m,k=>k (.e id) e m
 | .ret,e,m,k=>k .r e m
 | .mask keep c,e,m,k=>c.sW O (Po e keep) m k
 | .join keep c,e,m,k=>jn (c.sW O e m fun x e' m'=>some (x.ex,oQ e' keep,m')) fun r=>k (.dyn r.1) (aki keep r.2.1) r.2.2
theorem aiV {R:Type} (O:aC):∀ (c:EC) (e:Env) (m:Mem) (k:SX→Env→Mem→Option R) (k2:Ex→Env→Mem→Option R),(∀ x e m,k x e m=k2 x.ex e m)→c.sW O e m k=c.lq O e m k2:=by
 intro c
 induction c generalizing R with
 | skip=>intro e m k k2 h; exact h _ _ _
 | region n ops=>intro e m k k2 h; simp only [EC.sW,EC.lq,PL,h,SX.ex]
 | drawn n ops=>intro e m k k2 h; simp only [EC.sW,EC.lq,PL,h,SX.ex]
 | XP ts c ih=>intro e m k k2 h; simp only [EC.sW,EC.lq,ih _ _ k k2 h,bd,amu]
 | seq a b iha ihb =>
   intro e m k k2 h
   simp only [EC.sW,EC.lq]
   refine iha e m _ _ fun x e' m'=>?_
   rw [aiT (h:=fun i=>k2 (.exit i) e' m') x _ _ (fun i=>h _ _ _) (fun i=>h _ _ _),ihb e' m' k k2 h,h]
   rfl
 | cond c a b iha ihb=>intro e m k k2 h; simp only [EC.sW,EC.lq,iha _ _ k k2 h,ihb _ _ k k2 h]
 | block id c ih =>
   intro e m k k2 h
   simp only [EC.sW,EC.lq]
   exact ih e m _ _ fun x e' m'=>by rw [h,asG]
 | loop=>intro e m k k2 h; simp only [EC.sW,EC.lq,jn,Xi,h,SX.ex,ae9]
 | exit=>intro e m k k2 h; exact h _ _ _
 | ret=>intro e m k k2 h; exact h _ _ _
 | mask keep c ih=>intro e m k k2 h; simp only [EC.sW,EC.lq,ih _ _ k k2 h]
 | join keep c ih =>
   intro e m k k2 h
   simp only [EC.sW,EC.lq]
   rw [ih e m (fun x e' m'=>some (x.ex,oQ e' keep,m')) (fun x e' m'=>some (x,oQ e' keep,m')) (fun x e m=>rfl)]
   simp only [jn,h,SX.ex,ae9]
def keyOf:ER→Nat
 | .tmp t=>t
 | .cell t _ _=>t
def adU (e:Env):List ER→Option (List D)
 | []=>some []
 | .tmp t::rs=>match look e t,adU e rs with
   | some d,some ds=>some (d::ds)
   | _,_=>none
 | .cell .. :: _=>none
def L8 (e:Env):List ER→Env
 | []=>[]
 | .tmp t::rs=>match look e t with
   | some d=>(t,d)::L8 e rs
   | none=>L8 e rs
 | .cell t .. :: rs=>match look e t with
   | some d=>(t,d)::L8 e rs
   | none=>L8 e rs
def aeu (e:Env):List ER→Bool
 | []=>true
 | r::rs=>(look e (keyOf r)).isSome && aeu e rs
theorem afp (e:Env) (m:Mem):∀ (rs:List ER),aeu e rs=false→Dv e m rs=none
 | [],h=>by simp [aeu] at h
 | r::rs,h=>by
   simp only [aeu,Bool.and_eq_false_iff] at h
   rcases h with h | h
   ·have : r.get e m=none:=by
     cases hl:look e (keyOf r) with
     | some d=>rw [hl] at h; simp at h
     | none=>cases r <;> simp only [ER.get,keyOf] at hl ⊢ <;> rw [hl] <;> rfl
    simp only [Dv,this,Option.bind_none]
   ·simp only [Dv,afp e m rs h,Option.bind_none]
    cases r.get e m <;> rfl
def ahP (f:EF) (n:Nat) (e:Env) (m:Mem):RV:=match adU e f.res with
 | some rs=>bd (gc n rs m) fun r=>some (KC r)
 | none=>bif aeu e f.res then bd (Dv (L8 e f.res) m f.res) fun rs=>bd (gc n rs m) fun r=>some (KC r) else none
theorem aj3 (e:Env) (m:Mem):∀ (rs:List ER) (ds:List D),adU e rs=some ds→Dv e m rs=some ds
 | [],ds,h=>h
 | .tmp t::rs,ds,h=>by
   simp only [adU] at h
   split at h
   ·rename_i d ds' h1 h2
    simp only [Dv,ER.get,h1,aj3 e m rs _ h2,Option.bind_some]
    exact h
   ·simp at h
 | .cell t a n::_,ds,h=>by simp [adU] at h
theorem afS (e:Env):∀ (rs:List ER) (r:ER),r∈rs→look (L8 e rs) (keyOf r)=look e (keyOf r)
 | [],r,h=>by simp at h
 | x::rs,r,h=>by
   have ih:=fun h=>afS e rs r h
   have hx:L8 e (x::rs)=match look e (keyOf x) with
    | some d=>(keyOf x,d)::L8 e rs
    | none=>L8 e rs:=by cases x <;> rfl
   rw [hx]
   by_cases hk:keyOf r=keyOf x
   ·rw [hk]
    cases hl:look e (keyOf x) with
    | some d=>simp [look]
    | none =>
      simp only
      by_cases hm:r∈rs
      ·rw [← hk,ih hm,hk,hl]
      ·have : ∀ l:List ER,look (L8 e l) (keyOf x)=none:=by
        intro l
        induction l with
        | nil=>rfl
        | cons y ys ih2 =>
          have hy:L8 e (y::ys)=match look e (keyOf y) with
           | some d=>(keyOf y,d)::L8 e ys
           | none=>L8 e ys:=by cases y <;> rfl
          rw [hy]
          cases hly:look e (keyOf y) with
          | none=>exact ih2
          | some d =>
            simp only [look]
            have hne:Nat.beq (keyOf y) (keyOf x)=false:=by
             cases hb:Nat.beq (keyOf y) (keyOf x) with
             | false=>rfl
             | true =>
               rw [Nat.eq_of_beq_eq_true hb,hl] at hly
               simp at hly
            rw [hne]
            exact ih2
       exact this rs
   ·have hm:r∈rs:=by
     rcases List.mem_cons.1 h with h | h
     ·exact absurd (by rw [h]) hk
     ·exact h
    cases look e (keyOf x) with
    | none=>exact ih hm
    | some d =>
      simp only [look]
      have hne:Nat.beq (keyOf x) (keyOf r)=false:=by
       cases hb:Nat.beq (keyOf x) (keyOf r) with
       | false=>rfl
       | true=>exact absurd (Nat.eq_of_beq_eq_true hb).symm hk
      rw [hne]
      exact ih hm
theorem ae_ {e e':Env} (m:Mem):∀ (rs:List ER),(∀ r∈rs,look e' (keyOf r)=look e (keyOf r))→Dv e' m rs=Dv e m rs
 | [],_=>rfl
 | r::rs,h=>by
   have h1:r.get e' m=r.get e m:=by
    have := h r (by simp)
    cases r <;> simp only [ER.get,keyOf] at this ⊢ <;> rw [this]
   simp only [Dv,h1,ae_ m rs (fun x hx=>h x (by simp [hx]))]
theorem aqQ (f:EF) (n:Nat) (e:Env) (m:Mem):ahP f n e m=am9 f n e m:=by
 unfold ahP am9
 split
 ·rename_i rs h
  rw [aj3 e m _ _ h]; rfl
 ·cases ha:aeu e f.res with
  | true=>rw [ae_ m f.res (fun r hr=>afS e f.res r hr)]; rfl
  | false=>rw [afp e m _ ha]; rfl
def EF.step3 (O:aC) (f:EF) (args:List D) (m:Mem):RV :=
 f.body.sW O (vJ f.params args) m fun x e m'=>exS x (ahP f m.length e m') (fun _=>none) (fun _=>none) (ahP f m.length e m')
theorem aJ (O:aC) (f:EF) (args:List D) (m:Mem):f.step2 O args m=f.step3 O args m:=by
 refine (aiV O _ _ _ _ _ fun x e m'=>?_).symm
 rw [aiT (h:=fun _=>none) x _ _ (fun _=>rfl) (fun _=>rfl),aqQ]
def bD (O:aC) (ins outs:List Nat) (body code:EC) (base:Nat) (vals:List D) (m:Mem):Option (Ex×List D×Mem) :=
 code.sW O (vJ ins vals) m fun x e m' =>
  exS x (bd (gc base (oQ e ins) m') fun r=>Xi O ins outs body base r.1 r.2) (fun i=>bd (gc base (oQ e outs) m') fun r=>some (.exit i,r.1,r.2)) (fun i=>bd (gc base (oQ e outs) m') fun r=>some (.exit i,r.1,r.2)) (bd (gc base (oQ e outs) m') fun r=>some (.ret,r.1,r.2))
theorem aW (O:aC) (ins outs:List Nat) (body:EC) (base:Nat) (vals:List D) (m:Mem):bg O ins outs body base vals m=bD O ins outs body body base vals m:=by
 refine (aiV O _ _ _ _ _ fun x e m'=>?_).symm
 exact aiT x _ _ (fun _=>rfl) (fun _=>rfl)
theorem ak (n:Nat):Int.ofNat (no_index (OfNat.ofNat n))=OfNat.ofNat n:=rfl
theorem ay (a b:List Slot):List.append a b=a++b:=rfl
theorem aF (O:aC) (ins outs:List Nat) (body:EC) (base:Nat) (vals:List D) (m:Mem):Xi O ins outs body base vals m=O.loop ins outs body base vals m:=rfl
theorem aA (O:aC) (f:Nat) (ds:List D) (m:Mem):Zu O f ds m=O.bJ f ds m:=rfl
attribute [simp] hdI tlI
end Go.Ev
end
