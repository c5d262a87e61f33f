/- A part of the proof of priceAll_card, yieldAll_card, priceSum_card, flowAll_card, accrAll_card. -/
import Derived.Test.YtfkdcfbleblgoaaGreatDoorCLim
set_option linter.unusedVariables false
set_option linter.unusedSimpArgs false
section
namespace Go.Ev
def bd {α β:Type} (x:Option α) (f:α→Option β):Option β:=x.bind f
def jn {β:Type} (x:Option (Ex×List D×Mem)) (f:Ex×List D×Mem→Option β):Option β:=x.bind f
abbrev hd (l:List D):D:=l.headD .undef
abbrev tl (l:List D):List D:=l.tail
def exM {α:Type} (x:Ex) (n:α) (f:Nat→α) (r:α):α:=match x with
 | .normal=>n
 | .exit i=>f i
 | .ret=>r
def Qg (id:Nat) (x:Ex):Ex:=match x with
 | .exit i=>bif Nat.beq i id then .normal else .exit i
 | x=>x
def Qo {R:Type} (d:D) (a b:Option R):Option R:=match d with
 | .bool t=>if t=true then a else b
 | _=>none
def Si (d:D) (b:Bool):Option Bool:=match d with
 | .bool b'=>some (b'==b)
 | .aG []=>some false
 | _=>none
def gop (w:Option Bool) (x:RV) (m:Mem):RV:=w.bind fun w=>bif w then x else some (.aG [],m)
def PG {R:Type} (O:h_) (base:Nat):List EO→Env→Mem→(Env→Mem→Option R)→Option R
 | [],e,m,k=>k e m
 | o::os,e,m,k=>match o.guard with
   | none=>(evs e o.xs).bind fun ds=>(o.k.run O base ds m).bind fun r=>PG O base os (yZ e o.dst r.1) r.2 k
   | some (t,b)=>(look e t).bind fun d=>(gop (Si d b) ((evs e o.xs).bind fun ds=>o.k.run O base ds m) m).bind fun r=>PG O base os (yZ e o.dst r.1) r.2 k
theorem Rz {R:Type} (O:h_) (base:Nat) (k:Env→Mem→Option R):∀ (os:List EO) (e:Env) (m:Mem),PG O base os e m k=(uV O base os e m).bind fun r=>k r.1 r.2
 | [],e,m=>rfl
 | o::os,e,m=>by
   simp only [PG,uV,EO.run,EO.wants]
   cases hg:o.guard with
   | none=>cases evs e o.xs <;> simp [Option.bind_assoc,Rz O base k os]
   | some tb =>
     obtain ⟨t,b⟩:=tb
     cases hl:look e t with
     | none=>simp [hl]
     | some d =>
       cases d <;> simp only [hl,gop,Si,Option.bind_some,Option.bind_none]
       case bool b' =>
        cases hb:(b'==b) <;> simp [Rz O base k os,Option.bind_assoc]
       case aG vs=>cases vs <;> simp [Rz O base k os,Option.bind_assoc]
def place (n:Nat) (m:Mem):Mem:=bif Nat.beq n 0 then m else m++List.replicate n .free
theorem ar' (n:Nat) (m:Mem):place n m=m++List.replicate n .free:=by
 unfold place
 cases h:Nat.beq n 0 with
 | false=>rfl
 | true=>rw [Nat.eq_of_beq_eq_true h]; simp
def EC.kR {R:Type} (O:h_):EC→Env→Mem→(Ex→Env→Mem→Option R)→Option R
 | .skip,e,m,k=>k .normal e m
 | .region n ops,e,m,k=>PG O m.length ops e (place n m) fun e' m'=>k .normal e' m'
 | .drawn n ops,e,m,k=>PG O m.length (ops.map (·.2)) e (place n m) fun e' m'=>k .normal e' m'
 | .frz ts c,e,m,k=>(jd (fz FZ) (o_ e ts) m).bind fun r=>c.kR O (xA ts r.1++e) r.2 k
 | .seq a b,e,m,k=>a.kR O e m fun x e' m'=>exM x (b.kR O e' m' k) (fun i=>k (.exit i) e' m') (k .ret e' m')
 | .cond c a b,e,m,k=>(c.ev e).bind fun d=>Qo d (a.kR O e m k) (b.kR O e m k)
 | .block id c,e,m,k=>c.kR O e m fun x e' m'=>k (Qg id x) e' m'
 | .loop ins outs body,e,m,k=>(O.loop ins outs body m.length (o_ e ins) m).bind fun r=>k r.1 (xA outs r.2.1) r.2.2
 | .exit id,e,m,k=>k (.exit id) e m
 | .ret,e,m,k=>k .ret e m
 | .mask keep c,e,m,k=>c.kR O (XT e keep) m k
 | .join keep c,e,m,k=>(c.kR O e m fun x e' m'=>some (x,o_ e' keep,m')).bind fun r=>k r.1 (xA keep r.2.1) r.2.2
theorem aqZ {R:Type} (O:h_):∀ (c:EC) (e:Env) (m:Mem) (k:Ex→Env→Mem→Option R),c.kR O e m k=c.exec O e m k:=by
 intro c
 induction c generalizing R with
 | skip=>intros; rfl
 | region n ops=>intro e m k; simp only [EC.kR,EC.exec,Rz,ar']
 | drawn n ops=>intro e m k; simp only [EC.kR,EC.exec,Rz,ar']
 | frz ts c ih=>intro e m k; simp only [EC.kR,EC.exec,ih]
 | seq a b iha ihb =>
   intro e m k
   simp only [EC.kR,EC.exec,iha,ihb]
   congr 1
   funext x e' m'
   cases x <;> rfl
 | cond c a b iha ihb =>
   intro e m k
   simp only [EC.kR,EC.exec,iha,ihb]
   cases c.ev e with
   | none=>rfl
   | some d=>cases d <;> simp [Qo]
 | block id c ih =>
   intro e m k
   simp only [EC.kR,EC.exec,ih]
   congr 1
   funext x e' m'
   cases x <;> simp [Qg]
   rename_i i
   cases Nat.beq i id <;> rfl
 | loop=>intros; rfl
 | exit=>intros; rfl
 | ret=>intros; rfl
 | mask keep c ih=>intro e m k; simp only [EC.kR,EC.exec,ih]
 | join keep c ih=>intro e m k; simp only [EC.kR,EC.exec,ih]
def avY (f:EF) (n:Nat) (e:Env) (m:Mem):RV:=(Ir e m f.res).bind fun rs=>(gc n rs m).bind fun r=>some (OY r)
def EF.step2 (O:h_) (f:EF) (args:List D) (m:Mem):RV :=
 f.body.kR O (xA f.params args) m fun x e m'=>exM x (avY f m.length e m') (fun _=>none) (avY f m.length e m')
theorem asH (O:h_) (f:EF) (args:List D) (m:Mem) (h:Nat.beq args.length f.params.length=true):f.step2 O args m=f.step O args m:=by
 simp only [EF.step2,EF.step,aqZ,h,cond_true]
 congr 1
 funext x e m'
 cases x <;> rfl
def aH (O:h_) (ins outs:List Nat) (body:EC) (base:Nat) (vals:List D) (m:Mem):Option (Ex×List D×Mem) :=
 body.kR O (xA ins vals) m fun x e m' =>
  exM x ((gc base (o_ e ins) m').bind fun r=>O.loop ins outs body base r.1 r.2) (fun i=>(gc base (o_ e outs) m').bind fun r=>some (.exit i,r.1,r.2)) ((gc base (o_ e outs) m').bind fun r=>some (.ret,r.1,r.2))
theorem arC (O:h_) (ins outs:List Nat) (body:EC) (base:Nat) (vals:List D) (m:Mem):aH O ins outs body base vals m=Jy O ins outs body base vals m:=by
 simp only [aH,Jy,aqZ]
 congr 1
 funext x e m'
 cases x <;> rfl
def fin (r:D×Mem):Option D:=(fz FZ r.1 r.2).bind fun s=>some s.1
theorem aBq {T:Tab} {f:Nat} {ef:EF} {args:List D} {d:D} {x:RV} (hf:T.fn f=some ef) (hn:Nat.beq args.length ef.params.length=true) (hs:ef.step2 T.lim args []=x) (h:x.bind fin=some d):T.lim.call f args=some d:=by
 show yJ (T.lim.bf f args [])=some d
 unfold yJ
 rw [Option.bind_eq_some_iff] at h
 obtain ⟨r,hr,h⟩:=h
 rw [arz hf (r:=r) (by rw [← asH _ _ _ _ hn,hs,hr])]
 exact h
theorem azb {T:Tab} {f:Nat} {ef:EF} {args:List D} {m:Mem} {r:D×Mem} {x:RV} (hf:T.fn f=some ef) (hn:Nat.beq args.length ef.params.length=true) (hs:ef.step2 T.lim args m=x) (h:x=some r):T.lim.bf f args m=some r :=
 arz hf (by rw [← asH _ _ _ _ hn,hs,h])
theorem aAe {T:Tab} {ins outs:List Nat} {body:EC} {base:Nat} {vals:List D} {m:Mem} {r:Ex×List D×Mem} {x:Option (Ex×List D×Mem)} (hs:aH T.lim ins outs body base vals m=x) (h:x=some r):T.lim.loop ins outs body base vals m=some r :=
 aoe (by rw [← arC,hs,h])
@[congr] theorem aFj {α β:Type} {x y:Option α} {f:α→Option β} (h:x=y):bd x f=bd y f:=by rw [h]
@[simp] theorem ah8 {α β:Type} (a:α) (f:α→Option β):bd (some a) f=f a:=by rfl
@[simp] theorem aGa {α β:Type} (f:α→Option β):bd none f=none:=by rfl
@[congr] theorem aFL {β:Type} {x y:Option (Ex×List D×Mem)} {f:Ex×List D×Mem→Option β} (h:x=y):jn x f=jn y f:=by rw [h]
@[simp] theorem aB6 {β:Type} (a:Ex×List D×Mem) (f:Ex×List D×Mem→Option β):jn (some a) f=f a:=by rfl
@[congr] theorem aD2 {R:Type} {d d':D} {a b:Option R} (h:d=d'):Qo d a b=Qo d' a b:=by rw [h]
@[simp] theorem aEc {R:Type} (a b:Option R):Qo (.bool true) a b=a:=by rfl
@[simp] theorem aty {R:Type} (a b:Option R):Qo (.bool false) a b=b:=by rfl
@[congr] theorem aEI {α:Type} {x y:Ex} {n r:α} {f:Nat→α} (h:x=y):exM x n f r=exM y n f r:=by rw [h]
@[simp] theorem aEf {α:Type} (n:α) (f:Nat→α) (r:α):exM .normal n f r=n:=by rfl
@[simp] theorem aFy {α:Type} (i:Nat) (n:α) (f:Nat→α) (r:α):exM (.exit i) n f r=f i:=by rfl
@[simp] theorem aGq {α:Type} (n:α) (f:Nat→α) (r:α):exM .ret n f r=r:=by rfl
@[congr] theorem aEV {w w':Option Bool} {x:RV} {m:Mem} (h:w=w'):gop w x m=gop w' x m:=by rw [h]
@[simp] theorem aFI (x:RV) (m:Mem):gop (some true) x m=x:=by rfl
@[simp] theorem aEW (x:RV) (m:Mem):gop (some false) x m=some (.aG [],m):=by rfl
@[simp] theorem aD6 (a b:Bool):Si (.bool a) b=some (a==b):=by rfl
@[simp] theorem aD7 (b:Bool):Si (.aG []) b=some false:=by rfl
@[simp] theorem aD1 (i:Nat):Qg i .normal = .normal:=by rfl
@[simp] theorem aFl (i:Nat):Qg i .ret = .ret:=by rfl
@[simp] theorem aEG (i j:Nat):Qg i (.exit j)=bif Nat.beq j i then .normal else .exit j:=by rfl
end Go.Ev
end
section
namespace Go.Ev
abbrev bT:Type:=Option (Ex×List D×Mem)
def aa9 (O:h_) (ins outs:List Nat) (body:EC) (base:Nat) (vals:List D) (m:Mem):Option (Ex×List D×Mem):=O.loop ins outs body base vals m
def adl (O:h_) (f:Nat) (ds:List D) (m:Mem):RV:=O.bf f ds m
def aAh (O:h_) (base:Nat) (k:K) (ds:List D) (m:Mem):RV:=match k with
 | .bf f=>adl O f ds m
 | k=>k.run O base ds m
theorem ave (O:h_) (base:Nat) (k:K) (ds:List D) (m:Mem):aAh O base k ds m=k.run O base ds m:=by cases k <;> rfl
def runK {R:Type} (O:h_) (base:Nat) (k:K) (ds:List D) (m:Mem) (f:D→Mem→Option R):Option R:=match k,ds with
 | .mov,[d]=>f d m
 | k,ds=>bd (aAh O base k ds m) fun r=>f r.1 r.2
theorem aCo {R:Type} (O:h_) (base:Nat) (k:K) (ds:List D) (m:Mem) (f:D→Mem→Option R):runK O base k ds m f=(k.run O base ds m).bind fun r=>f r.1 r.2:=by
 unfold runK
 split
 ·rfl
 ·rw [ave]; rfl
def Yg {R:Type} (O:h_) (base:Nat):List EO→Env→Mem→(Env→Mem→Option R)→Option R
 | [],e,m,k=>k e m
 | o::os,e,m,k=>match o.guard with
   | none=>(evs e o.xs).bind fun ds=>runK O base o.k ds m fun d m'=>Yg O base os (yZ e o.dst d) m' k
   | some (t,b)=>(look e t).bind fun d=>bd (gop (Si d b) ((evs e o.xs).bind fun ds=>aAh O base o.k ds m) m) fun r=>Yg O base os (yZ e o.dst r.1) r.2 k
theorem X9 {R:Type} (O:h_) (base:Nat) (k:Env→Mem→Option R):∀ (os:List EO) (e:Env) (m:Mem),Yg O base os e m k=PG O base os e m k
 | [],e,m=>rfl
 | o::os,e,m=>by
   simp only [Yg,PG]
   cases hg:o.guard with
   | none=>simp only [aCo,X9 O base k os]
   | some tb=>simp only [bd,ave,X9 O base k os]
inductive SX where
 | n
 | e (i:Nat)
 | r
 | dyn (x:Ex)
def SX.ex:SX→Ex
 | .n => .normal
 | .e i => .exit i
 | .r => .ret
 | .dyn x=>x
def exS {α:Type} (x:SX) (n:α) (f g:Nat→α) (r:α):α:=match x with
 | .n=>n
 | .e i=>f i
 | .r=>r
 | .dyn x=>exM x n g r
def ay' (id:Nat):SX→SX
 | .e i=>bif Nat.beq i id then .n else .e i
 | .dyn x => .dyn (Qg id x)
 | x=>x
theorem aqY {α:Type} (x:SX) (n:α) {f g h:Nat→α} (r:α) (h1:∀ i,f i=h i) (h2:∀ i,g i=h i):exS x n f g r=exM x.ex n h r:=by
 obtain rfl:f=h:=funext h1
 obtain rfl:g=f:=funext h2
 cases x <;> rfl
theorem aBp (id:Nat) (x:SX):(ay' id x).ex=Qg id x.ex:=by
 cases x with
 | e i=>simp only [ay',SX.ex,Qg]; cases Nat.beq i id <;> rfl
 | _=>rfl
def hdI (l:List D):D:=l.headD .undef
def tlI (l:List D):List D:=l.tail
def as4:List Nat→List D→Env
 | [],_=>[]
 | t::ts,ds=>(t,hdI ds)::as4 ts (tlI ds)
theorem anw:∀ (ts:List Nat) (ds:List D),as4 ts ds=xA ts ds
 | [],_=>rfl
 | t::ts,ds=>by simp only [as4,xA,anw ts,hdI,tlI]
def awT:List Nat→List D→Env→Env
 | [],_,e=>e
 | t::ts,ds,e=>(t,hdI ds)::awT ts (tlI ds) e
theorem avo (e:Env):∀ (ts:List Nat) (ds:List D),awT ts ds e=xA ts ds++e
 | [],_=>rfl
 | t::ts,ds=>by simp only [awT,xA,avo e ts,hdI,tlI,List.cons_append]
def EC.uZ {R:Type} (O:h_):EC→Env→Mem→(SX→Env→Mem→Option R)→Option R
 | .skip,e,m,k=>k .n e m
 | .region n ops,e,m,k=>Yg O m.length ops e (place n m) fun e' m'=>k .n e' m'
 | .drawn n ops,e,m,k=>Yg O m.length (ops.map (·.2)) e (place n m) fun e' m'=>k .n e' m'
 | .frz ts c,e,m,k=>bd (jd (fz FZ) (o_ e ts) m) fun r=>c.uZ O (awT ts r.1 e) r.2 k
 | .seq a b,e,m,k=>a.uZ O e m fun x e' m'=>exS x (b.uZ O e' m' k) (fun i=>k (.e i) e' m') (fun i=>k (.dyn (.exit i)) e' m') (k .r e' m')
 | .cond c a b,e,m,k=>(c.ev e).bind fun d=>Qo d (a.uZ O e m k) (b.uZ O e m k)
 | .block id c,e,m,k=>c.uZ O e m fun x e' m'=>k (ay' id x) e' m'
 | .loop ins outs body,e,m,k=>jn (aa9 O ins outs body m.length (o_ e ins) m) fun r=>k (.dyn r.1) (as4 outs r.2.1) r.2.2
 | .exit id,e,m,k=>k (.e id) e m
 | .ret,e,m,k=>k .r e m
 | .mask keep c,e,m,k=>c.uZ O (XT e keep) m k
 | .join keep c,e,m,k=>jn (c.uZ O e m fun x e' m'=>some (x.ex,o_ e' keep,m')) fun r=>k (.dyn r.1) (as4 keep r.2.1) r.2.2
theorem aq0 {R:Type} (O:h_):∀ (c:EC) (e:Env) (m:Mem) (k:SX→Env→Mem→Option R) (k2:Ex→Env→Mem→Option R),(∀ x e m,k x e m=k2 x.ex e m)→c.uZ O e m k=c.kR O e m k2:=by
 intro c
 induction c generalizing R with
 | skip=>intro e m k k2 h; exact h _ _ _
 | region n ops=>intro e m k k2 h; simp only [EC.uZ,EC.kR,X9,h,SX.ex]
 | drawn n ops=>intro e m k k2 h; simp only [EC.uZ,EC.kR,X9,h,SX.ex]
 | frz ts c ih=>intro e m k k2 h; simp only [EC.uZ,EC.kR,ih _ _ k k2 h,bd,avo]
 | seq a b iha ihb =>
   intro e m k k2 h
   simp only [EC.uZ,EC.kR]
   refine iha e m _ _ fun x e' m'=>?_
   rw [aqY (h:=fun i=>k2 (.exit i) e' m') x _ _ (fun i=>h _ _ _) (fun i=>h _ _ _),ihb e' m' k k2 h,h]
   rfl
 | cond c a b iha ihb=>intro e m k k2 h; simp only [EC.uZ,EC.kR,iha _ _ k k2 h,ihb _ _ k k2 h]
 | block id c ih =>
   intro e m k k2 h
   simp only [EC.uZ,EC.kR]
   exact ih e m _ _ fun x e' m'=>by rw [h,aBp]
 | loop=>intro e m k k2 h; simp only [EC.uZ,EC.kR,jn,aa9,h,SX.ex,anw]
 | exit=>intro e m k k2 h; exact h _ _ _
 | ret=>intro e m k k2 h; exact h _ _ _
 | mask keep c ih=>intro e m k k2 h; simp only [EC.uZ,EC.kR,ih _ _ k k2 h]
 | join keep c ih =>
   intro e m k k2 h
   simp only [EC.uZ,EC.kR]
   rw [ih e m (fun x e' m'=>some (x.ex,o_ e' keep,m')) (fun x e' m'=>some (x,o_ e' keep,m')) (fun x e m=>rfl)]
   simp only [jn,h,SX.ex,anw]
def keyOf:ER→Nat
 | .tmp t=>t
 | .cell t _ _=>t
def amg (e:Env):List ER→Option (List D)
 | []=>some []
 | .tmp t::rs=>match look e t,amg e rs with
   | some d,some ds=>some (d::ds)
   | _,_=>none
 | .cell .. :: _=>none
def Ue (e:Env):List ER→Env
 | []=>[]
 | .tmp t::rs=>match look e t with
   | some d=>(t,d)::Ue e rs
   | none=>Ue e rs
 | .cell t .. :: rs=>match look e t with
   | some d=>(t,d)::Ue e rs
   | none=>Ue e rs
def amB (e:Env):List ER→Bool
 | []=>true
 | r::rs=>(look e (keyOf r)).isSome && amB e rs
theorem anJ (e:Env) (m:Mem):∀ (rs:List ER),amB e rs=false→Ir e m rs=none
 | [],h=>by simp [amB] at h
 | r::rs,h=>by
   simp only [amB,Bool.and_eq_false_iff] at h
   rcases h with h | h
   ·have : r.get e m=none:=by
     cases hl:look e (keyOf r) with
     | some d=>rw [hl] at h; simp at h
     | none=>cases r <;> simp only [ER.get,keyOf] at hl ⊢ <;> rw [hl] <;> rfl
    simp only [Ir,this,Option.bind_none]
   ·simp only [Ir,anJ e m rs h,Option.bind_none]
    cases r.get e m <;> rfl
def apU (f:EF) (n:Nat) (e:Env) (m:Mem):RV:=match amg e f.res with
 | some rs=>bd (gc n rs m) fun r=>some (OY r)
 | none=>bif amB e f.res then bd (Ir (Ue e f.res) m f.res) fun rs=>bd (gc n rs m) fun r=>some (OY r) else none
theorem asN (e:Env) (m:Mem):∀ (rs:List ER) (ds:List D),amg e rs=some ds→Ir e m rs=some ds
 | [],ds,h=>h
 | .tmp t::rs,ds,h=>by
   simp only [amg] at h
   split at h
   ·rename_i d ds' h1 h2
    simp only [Ir,ER.get,h1,asN e m rs _ h2,Option.bind_some]
    exact h
   ·simp at h
 | .cell t a n::_,ds,h=>by simp [amg] at h
theorem aoi (e:Env):∀ (rs:List ER) (r:ER),r∈rs→look (Ue e rs) (keyOf r)=look e (keyOf r)
 | [],r,h=>by simp at h
 | x::rs,r,h=>by
   have ih:=fun h=>aoi e rs r h
   have hx:Ue e (x::rs)=match look e (keyOf x) with
    | some d=>(keyOf x,d)::Ue e rs
    | none=>Ue e rs:=by cases x <;> rfl
   rw [hx]
   by_cases hk:keyOf r=keyOf x
   ·rw [hk]
    cases hl:look e (keyOf x) with
    | some d=>simp [look]
    | none =>
      simp only
      by_cases hm:r∈rs
      ·rw [← hk,ih hm,hk,hl]
      ·have : ∀ l:List ER,look (Ue e l) (keyOf x)=none:=by
        intro l
        induction l with
        | nil=>rfl
        | cons y ys ih2 =>
          have hy:Ue e (y::ys)=match look e (keyOf y) with
           | some d=>(keyOf y,d)::Ue e ys
           | none=>Ue e ys:=by cases y <;> rfl
          rw [hy]
          cases hly:look e (keyOf y) with
          | none=>exact ih2
          | some d =>
            simp only [look]
            have hne:Nat.beq (keyOf y) (keyOf x)=false:=by
             cases hb:Nat.beq (keyOf y) (keyOf x) with
             | false=>rfl
             | true =>
               rw [Nat.eq_of_beq_eq_true hb,hl] at hly
               simp at hly
            rw [hne]
            exact ih2
       exact this rs
   ·have hm:r∈rs:=by
     rcases List.mem_cons.1 h with h | h
     ·exact absurd (by rw [h]) hk
     ·exact h
    cases look e (keyOf x) with
    | none=>exact ih hm
    | some d =>
      simp only [look]
      have hne:Nat.beq (keyOf x) (keyOf r)=false:=by
       cases hb:Nat.beq (keyOf x) (keyOf r) with
       | false=>rfl
       | true=>exact absurd (Nat.eq_of_beq_eq_true hb).symm hk
      rw [hne]
      exact ih hm
theorem anx {e e':Env} (m:Mem):∀ (rs:List ER),(∀ r∈rs,look e' (keyOf r)=look e (keyOf r))→Ir e' m rs=Ir e m rs
 | [],_=>rfl
 | r::rs,h=>by
   have h1:r.get e' m=r.get e m:=by
    have := h r (by simp)
    cases r <;> simp only [ER.get,keyOf] at this ⊢ <;> rw [this]
   simp only [Ir,h1,anx m rs (fun x hx=>h x (by simp [hx]))]
theorem azE (f:EF) (n:Nat) (e:Env) (m:Mem):apU f n e m=avY f n e m:=by
 unfold apU avY
 split
 ·rename_i rs h
  rw [asN e m _ _ h]; rfl
 ·cases ha:amB e f.res with
  | true=>rw [anx m f.res (fun r hr=>aoi e f.res r hr)]; rfl
  | false=>rw [anJ e m _ ha]; rfl
def EF.step3 (O:h_) (f:EF) (args:List D) (m:Mem):RV :=
 f.body.uZ O (xA f.params args) m fun x e m'=>exS x (apU f m.length e m') (fun _=>none) (fun _=>none) (apU f m.length e m')
theorem aAE (O:h_) (f:EF) (args:List D) (m:Mem):f.step2 O args m=f.step3 O args m:=by
 refine (aq0 O _ _ _ _ _ fun x e m'=>?_).symm
 rw [aqY (h:=fun _=>none) x _ _ (fun _=>rfl) (fun _=>rfl),azE]
def aK (O:h_) (ins outs:List Nat) (body code:EC) (base:Nat) (vals:List D) (m:Mem):Option (Ex×List D×Mem) :=
 code.uZ O (xA ins vals) m fun x e m' =>
  exS x (bd (gc base (o_ e ins) m') fun r=>aa9 O ins outs body base r.1 r.2) (fun i=>bd (gc base (o_ e outs) m') fun r=>some (.exit i,r.1,r.2)) (fun i=>bd (gc base (o_ e outs) m') fun r=>some (.exit i,r.1,r.2)) (bd (gc base (o_ e outs) m') fun r=>some (.ret,r.1,r.2))
theorem arD (O:h_) (ins outs:List Nat) (body:EC) (base:Nat) (vals:List D) (m:Mem):aH O ins outs body base vals m=aK O ins outs body body base vals m:=by
 refine (aq0 O _ _ _ _ _ fun x e m'=>?_).symm
 exact aqY x _ _ (fun _=>rfl) (fun _=>rfl)
theorem ayc (n:Nat):Int.ofNat (no_index (OfNat.ofNat n))=OfNat.ofNat n:=rfl
theorem aBo (a b:List Slot):List.append a b=a++b:=rfl
theorem aDx (O:h_) (ins outs:List Nat) (body:EC) (base:Nat) (vals:List D) (m:Mem):aa9 O ins outs body base vals m=O.loop ins outs body base vals m:=rfl
theorem aCd (O:h_) (f:Nat) (ds:List D) (m:Mem):adl O f ds m=O.bf f ds m:=rfl
attribute [simp] hdI tlI
@[simp] abbrev fl {α:Type} (X:α) {a:α} (h:X=a:=by as_aux_lemma=>(conv=>{lhs; reduce; try dsimp only [ayc,aBo,aDx,aCd]})):α:=a
theorem st {f:EF} {O:h_} {args:List D} {m:Mem} {a:RV} (h:f.step3 O args m=a:=by kernel_rfl):f.step2 O args m=a:=(aAE ..).trans h
theorem fE {O:h_} {ins outs:List Nat} {body:EC} {base:Nat} {vals:List D} {m:Mem} {a:bT} (h:aK O ins outs body body base vals m=a:=by kernel_rfl):aH O ins outs body base vals m=a:=(arD ..).trans h
end Go.Ev
end
