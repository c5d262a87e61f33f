/- Part of accrDay_card. -/
import Derived.Test.YtechakbhjeieaaaGreatDoorCLim
set_option linter.unusedVariables false
set_option linter.unusedSimpArgs false
section
namespace Go.Ev
def bd {α β:Type} (x:Option α) (f:α→Option β):Option β:=x.bind f
def jn {β:Type} (x:Option (Ex×List D×Mem)) (f:Ex×List D×Mem→Option β):Option β:=x.bind f
abbrev hd (l:List D):D:=l.headD .undef
abbrev tl (l:List D):List D:=l.tail
def Wi {α:Type} (x:Ex) (n:α) (f:Nat→α) (r:α):α:=match x with
 | .normal=>n
 | .exit i=>f i
 | .ret=>r
def MB (id:Nat) (x:Ex):Ex:=match x with
 | .exit i=>bif Nat.beq i id then .normal else .exit i
 | x=>x
def Nq {R:Type} (d:D) (a b:Option R):Option R:=match d with
 | .bool t=>if t=true then a else b
 | _=>none
def OW (d:D) (b:Bool):Option Bool:=match d with
 | .bool b'=>some (b'==b)
 | .bg []=>some false
 | _=>none
def gop (w:Option Bool) (x:RV) (m:Mem):RV:=w.bind fun w=>bif w then x else some (.bg [],m)
def JU {R:Type} (O:aB) (base:Nat):List EO→Env→Mem→(Env→Mem→Option R)→Option R
 | [],e,m,k=>k e m
 | o::os,e,m,k=>match o.guard with
   | none=>(evs e o.xs).bind fun ds=>(o.k.run O base ds m).bind fun r=>JU O base os (yJ e o.dst r.1) r.2 k
   | some (t,b)=>(look e t).bind fun d=>(gop (OW d b) ((evs e o.xs).bind fun ds=>o.k.run O base ds m) m).bind fun r=>JU O base os (yJ e o.dst r.1) r.2 k
theorem Ls {R:Type} (O:aB) (base:Nat) (k:Env→Mem→Option R):∀ (os:List EO) (e:Env) (m:Mem),JU O base os e m k=(uP O base os e m).bind fun r=>k r.1 r.2
 | [],e,m=>rfl
 | o::os,e,m=>by
   simp only [JU,uP,EO.run,EO.wants]
   cases hg:o.guard with
   | none=>cases evs e o.xs <;> simp [Option.bind_assoc,Ls O base k os]
   | some tb =>
     obtain ⟨t,b⟩:=tb
     cases hl:look e t with
     | none=>simp [hl]
     | some d =>
       cases d <;> simp only [hl,gop,OW,Option.bind_some,Option.bind_none]
       case bool b' =>
        cases hb:(b'==b) <;> simp [Ls O base k os,Option.bind_assoc]
       case bg vs=>cases vs <;> simp [Ls O base k os,Option.bind_assoc]
def place (n:Nat) (m:Mem):Mem:=bif Nat.beq n 0 then m else m++List.replicate n .free
theorem aj1 (n:Nat) (m:Mem):place n m=m++List.replicate n .free:=by
 unfold place
 cases h:Nat.beq n 0 with
 | false=>rfl
 | true=>rw [Nat.eq_of_beq_eq_true h]; simp
def EC.lS {R:Type} (O:aB):EC→Env→Mem→(Ex→Env→Mem→Option R)→Option R
 | .skip,e,m,k=>k .normal e m
 | .region n ops,e,m,k=>JU O m.length ops e (place n m) fun e' m'=>k .normal e' m'
 | .drawn n ops,e,m,k=>JU O m.length (ops.map (·.2)) e (place n m) fun e' m'=>k .normal e' m'
 | .Yd ts c,e,m,k=>(lG (fz FZ) (qH e ts) m).bind fun r=>c.lS O (wX ts r.1++e) r.2 k
 | .seq a b,e,m,k=>a.lS O e m fun x e' m'=>Wi x (b.lS O e' m' k) (fun i=>k (.exit i) e' m') (k .ret e' m')
 | .cond c a b,e,m,k=>(c.ev e).bind fun d=>Nq d (a.lS O e m k) (b.lS O e m k)
 | .block id c,e,m,k=>c.lS O e m fun x e' m'=>k (MB id x) e' m'
 | .loop ins outs body,e,m,k=>(O.loop ins outs body m.length (qH e ins) m).bind fun r=>k r.1 (wX outs r.2.1) r.2.2
 | .exit id,e,m,k=>k (.exit id) e m
 | .ret,e,m,k=>k .ret e m
 | .mask keep c,e,m,k=>c.lS O (P_ e keep) m k
 | .join keep c,e,m,k=>(c.lS O e m fun x e' m'=>some (x,qH e' keep,m')).bind fun r=>k r.1 (wX keep r.2.1) r.2.2
theorem ajc {R:Type} (O:aB):∀ (c:EC) (e:Env) (m:Mem) (k:Ex→Env→Mem→Option R),c.lS O e m k=c.exec O e m k:=by
 intro c
 induction c generalizing R with
 | skip=>intros; rfl
 | region n ops=>intro e m k; simp only [EC.lS,EC.exec,Ls,aj1]
 | drawn n ops=>intro e m k; simp only [EC.lS,EC.exec,Ls,aj1]
 | Yd ts c ih=>intro e m k; simp only [EC.lS,EC.exec,ih]
 | seq a b iha ihb =>
   intro e m k
   simp only [EC.lS,EC.exec,iha,ihb]
   congr 1
   funext x e' m'
   cases x <;> rfl
 | cond c a b iha ihb =>
   intro e m k
   simp only [EC.lS,EC.exec,iha,ihb]
   cases c.ev e with
   | none=>rfl
   | some d=>cases d <;> simp [Nq]
 | block id c ih =>
   intro e m k
   simp only [EC.lS,EC.exec,ih]
   congr 1
   funext x e' m'
   cases x <;> simp [MB]
   rename_i i
   cases Nat.beq i id <;> rfl
 | loop=>intros; rfl
 | exit=>intros; rfl
 | ret=>intros; rfl
 | mask keep c ih=>intro e m k; simp only [EC.lS,EC.exec,ih]
 | join keep c ih=>intro e m k; simp only [EC.lS,EC.exec,ih]
def anp (f:EF) (n:Nat) (e:Env) (m:Mem):RV:=(Ez e m f.res).bind fun rs=>(gc n rs m).bind fun r=>some (LQ r)
def EF.step2 (O:aB) (f:EF) (args:List D) (m:Mem):RV :=
 f.body.lS O (wX f.params args) m fun x e m'=>Wi x (anp f m.length e m') (fun _=>none) (anp f m.length e m')
theorem akn (O:aB) (f:EF) (args:List D) (m:Mem) (h:Nat.beq args.length f.params.length=true):f.step2 O args m=f.step O args m:=by
 simp only [EF.step2,EF.step,ajc,h,cond_true]
 congr 1
 funext x e m'
 cases x <;> rfl
def bC (O:aB) (ins outs:List Nat) (body:EC) (base:Nat) (vals:List D) (m:Mem):Option (Ex×List D×Mem) :=
 body.lS O (wX ins vals) m fun x e m' =>
  Wi x ((gc base (qH e ins) m').bind fun r=>O.loop ins outs body base r.1 r.2) (fun i=>(gc base (qH e outs) m').bind fun r=>some (.exit i,r.1,r.2)) ((gc base (qH e outs) m').bind fun r=>some (.ret,r.1,r.2))
theorem ajH (O:aB) (ins outs:List Nat) (body:EC) (base:Nat) (vals:List D) (m:Mem):bC O ins outs body base vals m=EY O ins outs body base vals m:=by
 simp only [bC,EY,ajc]
 congr 1
 funext x e m'
 cases x <;> rfl
def fin (r:D×Mem):Option D:=(fz FZ r.1 r.2).bind fun s=>some s.1
theorem ata {T:Tab} {f:Nat} {ef:EF} {args:List D} {d:D} {x:RV} (hf:T.fn f=some ef) (hn:Nat.beq args.length ef.params.length=true) (hs:ef.step2 T.lim args []=x) (h:x.bind fin=some d):T.lim.call f args=some d:=by
 show yE (T.lim.bK f args [])=some d
 unfold yE
 rw [Option.bind_eq_some_iff] at h
 obtain ⟨r,hr,h⟩:=h
 rw [ajE hf (r:=r) (by rw [← akn _ _ _ _ hn,hs,hr])]
 exact h
theorem aqH {T:Tab} {f:Nat} {ef:EF} {args:List D} {m:Mem} {r:D×Mem} {x:RV} (hf:T.fn f=some ef) (hn:Nat.beq args.length ef.params.length=true) (hs:ef.step2 T.lim args m=x) (h:x=some r):T.lim.bK f args m=some r :=
 ajE hf (by rw [← akn _ _ _ _ hn,hs,h])
theorem arT {T:Tab} {ins outs:List Nat} {body:EC} {base:Nat} {vals:List D} {m:Mem} {r:Ex×List D×Mem} {x:Option (Ex×List D×Mem)} (hs:bC T.lim ins outs body base vals m=x) (h:x=some r):T.lim.loop ins outs body base vals m=some r :=
 agk (by rw [← ajH,hs,h])
@[congr] theorem axB {α β:Type} {x y:Option α} {f:α→Option β} (h:x=y):bd x f=bd y f:=by rw [h]
@[simp] theorem aaK {α β:Type} (a:α) (f:α→Option β):bd (some a) f=f a:=by rfl
@[simp] theorem ayo {α β:Type} (f:α→Option β):bd none f=none:=by rfl
@[congr] theorem ax1 {β:Type} {x y:Option (Ex×List D×Mem)} {f:Ex×List D×Mem→Option β} (h:x=y):jn x f=jn y f:=by rw [h]
@[simp] theorem atQ {β:Type} (a:Ex×List D×Mem) (f:Ex×List D×Mem→Option β):jn (some a) f=f a:=by rfl
@[congr] theorem awi {R:Type} {d d':D} {a b:Option R} (h:d=d'):Nq d a b=Nq d' a b:=by rw [h]
@[simp] theorem awu {R:Type} (a b:Option R):Nq (.bool true) a b=a:=by rfl
@[simp] theorem ak9 {R:Type} (a b:Option R):Nq (.bool false) a b=b:=by rfl
@[congr] theorem aw0 {α:Type} {x y:Ex} {n r:α} {f:Nat→α} (h:x=y):Wi x n f r=Wi y n f r:=by rw [h]
@[simp] theorem awx {α:Type} (n:α) (f:Nat→α) (r:α):Wi .normal n f r=n:=by rfl
@[simp] theorem axP {α:Type} (i:Nat) (n:α) (f:Nat→α) (r:α):Wi (.exit i) n f r=f i:=by rfl
@[simp] theorem ayF {α:Type} (n:α) (f:Nat→α) (r:α):Wi .ret n f r=r:=by rfl
@[congr] theorem axa {w w':Option Bool} {x:RV} {m:Mem} (h:w=w'):gop w x m=gop w' x m:=by rw [h]
@[simp] theorem axZ (x:RV) (m:Mem):gop (some true) x m=x:=by rfl
@[simp] theorem axb (x:RV) (m:Mem):gop (some false) x m=some (.bg [],m):=by rfl
@[simp] theorem awm (a b:Bool):OW (.bool a) b=some (a==b):=by rfl
@[simp] theorem awn (b:Bool):OW (.bg []) b=some false:=by rfl
@[simp] theorem awh (i:Nat):MB i .normal = .normal:=by rfl
@[simp] theorem axD (i:Nat):MB i .ret = .ret:=by rfl
@[simp] theorem awY (i j:Nat):MB i (.exit j)=bif Nat.beq j i then .normal else .exit j:=by rfl
end Go.Ev
end
section
namespace Go.Ev
abbrev LoopV:Type:=Option (Ex×List D×Mem)
def XC (O:aB) (ins outs:List Nat) (body:EC) (base:Nat) (vals:List D) (m:Mem):Option (Ex×List D×Mem):=O.loop ins outs body base vals m
def ZX (O:aB) (f:Nat) (ds:List D) (m:Mem):RV:=O.bK f ds m
def arZ (O:aB) (base:Nat) (k:K) (ds:List D) (m:Mem):RV:=match k with
 | .bK f=>ZX O f ds m
 | k=>k.run O base ds m
theorem amz (O:aB) (base:Nat) (k:K) (ds:List D) (m:Mem):arZ O base k ds m=k.run O base ds m:=by cases k <;> rfl
def runK {R:Type} (O:aB) (base:Nat) (k:K) (ds:List D) (m:Mem) (f:D→Mem→Option R):Option R:=match k,ds with
 | .aT,[d]=>f d m
 | k,ds=>bd (arZ O base k ds m) fun r=>f r.1 r.2
theorem auB {R:Type} (O:aB) (base:Nat) (k:K) (ds:List D) (m:Mem) (f:D→Mem→Option R):runK O base k ds m f=(k.run O base ds m).bind fun r=>f r.1 r.2:=by
 unfold runK
 split
 ·rfl
 ·rw [amz]; rfl
def Qz {R:Type} (O:aB) (base:Nat):List EO→Env→Mem→(Env→Mem→Option R)→Option R
 | [],e,m,k=>k e m
 | o::os,e,m,k=>match o.guard with
   | none=>(evs e o.xs).bind fun ds=>runK O base o.k ds m fun d m'=>Qz O base os (yJ e o.dst d) m' k
   | some (t,b)=>(look e t).bind fun d=>bd (gop (OW d b) ((evs e o.xs).bind fun ds=>arZ O base o.k ds m) m) fun r=>Qz O base os (yJ e o.dst r.1) r.2 k
theorem Qn {R:Type} (O:aB) (base:Nat) (k:Env→Mem→Option R):∀ (os:List EO) (e:Env) (m:Mem),Qz O base os e m k=JU O base os e m k
 | [],e,m=>rfl
 | o::os,e,m=>by
   simp only [Qz,JU]
   cases hg:o.guard with
   | none=>simp only [auB,Qn O base k os]
   | some tb=>simp only [bd,amz,Qn O base k os]
inductive SX where
 | n
 | e (i:Nat)
 | r
 | dyn (x:Ex)
def SX.ex:SX→Ex
 | .n => .normal
 | .e i => .exit i
 | .r => .ret
 | .dyn x=>x
def exS {α:Type} (x:SX) (n:α) (f g:Nat→α) (r:α):α:=match x with
 | .n=>n
 | .e i=>f i
 | .r=>r
 | .dyn x=>Wi x n g r
def aqE (id:Nat):SX→SX
 | .e i=>bif Nat.beq i id then .n else .e i
 | .dyn x => .dyn (MB id x)
 | x=>x
theorem ajb {α:Type} (x:SX) (n:α) {f g h:Nat→α} (r:α) (h1:∀ i,f i=h i) (h2:∀ i,g i=h i):exS x n f g r=Wi x.ex n h r:=by
 obtain rfl:f=h:=funext h1
 obtain rfl:g=f:=funext h2
 cases x <;> rfl
theorem as9 (id:Nat) (x:SX):(aqE id x).ex=MB id x.ex:=by
 cases x with
 | e i=>simp only [aqE,SX.ex,MB]; cases Nat.beq i id <;> rfl
 | _=>rfl
def hdI (l:List D):D:=l.headD .undef
def tlI (l:List D):List D:=l.tail
def akC:List Nat→List D→Env
 | [],_=>[]
 | t::ts,ds=>(t,hdI ds)::akC ts (tlI ds)
theorem afA:∀ (ts:List Nat) (ds:List D),akC ts ds=wX ts ds
 | [],_=>rfl
 | t::ts,ds=>by simp only [akC,wX,afA ts,hdI,tlI]
def aol:List Nat→List D→Env→Env
 | [],_,e=>e
 | t::ts,ds,e=>(t,hdI ds)::aol ts (tlI ds) e
theorem amK (e:Env):∀ (ts:List Nat) (ds:List D),aol ts ds e=wX ts ds++e
 | [],_=>rfl
 | t::ts,ds=>by simp only [aol,wX,amK e ts,hdI,tlI,List.cons_append]
def EC.uT {R:Type} (O:aB):EC→Env→Mem→(SX→Env→Mem→Option R)→Option R
 | .skip,e,m,k=>k .n e m
 | .region n ops,e,m,k=>Qz O m.length ops e (place n m) fun e' m'=>k .n e' m'
 | .drawn n ops,e,m,k=>Qz O m.length (ops.map (·.2)) e (place n m) fun e' m'=>k .n e' m'
 | .Yd ts c,e,m,k=>bd (lG (fz FZ) (qH e ts) m) fun r=>c.uT O (aol ts r.1 e) r.2 k
 | .seq a b,e,m,k=>a.uT O e m fun x e' m'=>exS x (b.uT O e' m' k) (fun i=>k (.e i) e' m') (fun i=>k (.dyn (.exit i)) e' m') (k .r e' m')
 | .cond c a b,e,m,k=>(c.ev e).bind fun d=>Nq d (a.uT O e m k) (b.uT O e m k)
 | .block id c,e,m,k=>c.uT O e m fun x e' m'=>k (aqE id x) e' m'
 | .loop ins outs body,e,m,k=>jn (XC O ins outs body m.length (qH e ins) m) fun r=>k (.dyn r.1) (akC outs r.2.1) r.2.2
 | .exit id,e,m,k=>k (.e id) e m
 | .ret,e,m,k=>k .r e m
 | .mask keep c,e,m,k=>c.uT O (P_ e keep) m k
 | .join keep c,e,m,k=>jn (c.uT O e m fun x e' m'=>some (x.ex,qH e' keep,m')) fun r=>k (.dyn r.1) (akC keep r.2.1) r.2.2
theorem ajd {R:Type} (O:aB):∀ (c:EC) (e:Env) (m:Mem) (k:SX→Env→Mem→Option R) (k2:Ex→Env→Mem→Option R),(∀ x e m,k x e m=k2 x.ex e m)→c.uT O e m k=c.lS O e m k2:=by
 intro c
 induction c generalizing R with
 | skip=>intro e m k k2 h; exact h _ _ _
 | region n ops=>intro e m k k2 h; simp only [EC.uT,EC.lS,Qn,h,SX.ex]
 | drawn n ops=>intro e m k k2 h; simp only [EC.uT,EC.lS,Qn,h,SX.ex]
 | Yd ts c ih=>intro e m k k2 h; simp only [EC.uT,EC.lS,ih _ _ k k2 h,bd,amK]
 | seq a b iha ihb =>
   intro e m k k2 h
   simp only [EC.uT,EC.lS]
   refine iha e m _ _ fun x e' m'=>?_
   rw [ajb (h:=fun i=>k2 (.exit i) e' m') x _ _ (fun i=>h _ _ _) (fun i=>h _ _ _),ihb e' m' k k2 h,h]
   rfl
 | cond c a b iha ihb=>intro e m k k2 h; simp only [EC.uT,EC.lS,iha _ _ k k2 h,ihb _ _ k k2 h]
 | block id c ih =>
   intro e m k k2 h
   simp only [EC.uT,EC.lS]
   exact ih e m _ _ fun x e' m'=>by rw [h,as9]
 | loop=>intro e m k k2 h; simp only [EC.uT,EC.lS,jn,XC,h,SX.ex,afA]
 | exit=>intro e m k k2 h; exact h _ _ _
 | ret=>intro e m k k2 h; exact h _ _ _
 | mask keep c ih=>intro e m k k2 h; simp only [EC.uT,EC.lS,ih _ _ k k2 h]
 | join keep c ih =>
   intro e m k k2 h
   simp only [EC.uT,EC.lS]
   rw [ih e m (fun x e' m'=>some (x.ex,qH e' keep,m')) (fun x e' m'=>some (x,qH e' keep,m')) (fun x e m=>rfl)]
   simp only [jn,h,SX.ex,afA]
def keyOf:ER→Nat
 | .tmp t=>t
 | .cell t _ _=>t
def aev (e:Env):List ER→Option (List D)
 | []=>some []
 | .tmp t::rs=>match look e t,aev e rs with
   | some d,some ds=>some (d::ds)
   | _,_=>none
 | .cell .. :: _=>none
def MQ (e:Env):List ER→Env
 | []=>[]
 | .tmp t::rs=>match look e t with
   | some d=>(t,d)::MQ e rs
   | none=>MQ e rs
 | .cell t .. :: rs=>match look e t with
   | some d=>(t,d)::MQ e rs
   | none=>MQ e rs
def aeW (e:Env):List ER→Bool
 | []=>true
 | r::rs=>(look e (keyOf r)).isSome && aeW e rs
theorem afQ (e:Env) (m:Mem):∀ (rs:List ER),aeW e rs=false→Ez e m rs=none
 | [],h=>by simp [aeW] at h
 | r::rs,h=>by
   simp only [aeW,Bool.and_eq_false_iff] at h
   rcases h with h | h
   ·have : r.get e m=none:=by
     cases hl:look e (keyOf r) with
     | some d=>rw [hl] at h; simp at h
     | none=>cases r <;> simp only [ER.get,keyOf] at hl ⊢ <;> rw [hl] <;> rfl
    simp only [Ez,this,Option.bind_none]
   ·simp only [Ez,afQ e m rs h,Option.bind_none]
    cases r.get e m <;> rfl
def aii (f:EF) (n:Nat) (e:Env) (m:Mem):RV:=match aev e f.res with
 | some rs=>bd (gc n rs m) fun r=>some (LQ r)
 | none=>bif aeW e f.res then bd (Ez (MQ e f.res) m f.res) fun rs=>bd (gc n rs m) fun r=>some (LQ r) else none
theorem aks (e:Env) (m:Mem):∀ (rs:List ER) (ds:List D),aev e rs=some ds→Ez e m rs=some ds
 | [],ds,h=>h
 | .tmp t::rs,ds,h=>by
   simp only [aev] at h
   split at h
   ·rename_i d ds' h1 h2
    simp only [Ez,ER.get,h1,aks e m rs _ h2,Option.bind_some]
    exact h
   ·simp at h
 | .cell t a n::_,ds,h=>by simp [aev] at h
theorem agl (e:Env):∀ (rs:List ER) (r:ER),r∈rs→look (MQ e rs) (keyOf r)=look e (keyOf r)
 | [],r,h=>by simp at h
 | x::rs,r,h=>by
   have ih:=fun h=>agl e rs r h
   have hx:MQ e (x::rs)=match look e (keyOf x) with
    | some d=>(keyOf x,d)::MQ e rs
    | none=>MQ e rs:=by cases x <;> rfl
   rw [hx]
   by_cases hk:keyOf r=keyOf x
   ·rw [hk]
    cases hl:look e (keyOf x) with
    | some d=>simp [look]
    | none =>
      simp only
      by_cases hm:r∈rs
      ·rw [← hk,ih hm,hk,hl]
      ·have : ∀ l:List ER,look (MQ e l) (keyOf x)=none:=by
        intro l
        induction l with
        | nil=>rfl
        | cons y ys ih2 =>
          have hy:MQ e (y::ys)=match look e (keyOf y) with
           | some d=>(keyOf y,d)::MQ e ys
           | none=>MQ e ys:=by cases y <;> rfl
          rw [hy]
          cases hly:look e (keyOf y) with
          | none=>exact ih2
          | some d =>
            simp only [look]
            have hne:Nat.beq (keyOf y) (keyOf x)=false:=by
             cases hb:Nat.beq (keyOf y) (keyOf x) with
             | false=>rfl
             | true =>
               rw [Nat.eq_of_beq_eq_true hb,hl] at hly
               simp at hly
            rw [hne]
            exact ih2
       exact this rs
   ·have hm:r∈rs:=by
     rcases List.mem_cons.1 h with h | h
     ·exact absurd (by rw [h]) hk
     ·exact h
    cases look e (keyOf x) with
    | none=>exact ih hm
    | some d =>
      simp only [look]
      have hne:Nat.beq (keyOf x) (keyOf r)=false:=by
       cases hb:Nat.beq (keyOf x) (keyOf r) with
       | false=>rfl
       | true=>exact absurd (Nat.eq_of_beq_eq_true hb).symm hk
      rw [hne]
      exact ih hm
theorem afB {e e':Env} (m:Mem):∀ (rs:List ER),(∀ r∈rs,look e' (keyOf r)=look e (keyOf r))→Ez e' m rs=Ez e m rs
 | [],_=>rfl
 | r::rs,h=>by
   have h1:r.get e' m=r.get e m:=by
    have := h r (by simp)
    cases r <;> simp only [ER.get,keyOf] at this ⊢ <;> rw [this]
   simp only [Ez,h1,afB m rs (fun x hx=>h x (by simp [hx]))]
theorem aq9 (f:EF) (n:Nat) (e:Env) (m:Mem):aii f n e m=anp f n e m:=by
 unfold aii anp
 split
 ·rename_i rs h
  rw [aks e m _ _ h]; rfl
 ·cases ha:aeW e f.res with
  | true=>rw [afB m f.res (fun r hr=>agl e f.res r hr)]; rfl
  | false=>rw [afQ e m _ ha]; rfl
def EF.step3 (O:aB) (f:EF) (args:List D) (m:Mem):RV :=
 f.body.uT O (wX f.params args) m fun x e m'=>exS x (aii f m.length e m') (fun _=>none) (fun _=>none) (aii f m.length e m')
theorem aG (O:aB) (f:EF) (args:List D) (m:Mem):f.step2 O args m=f.step3 O args m:=by
 refine (ajd O _ _ _ _ _ fun x e m'=>?_).symm
 rw [ajb (h:=fun _=>none) x _ _ (fun _=>rfl) (fun _=>rfl),aq9]
def bD (O:aB) (ins outs:List Nat) (body code:EC) (base:Nat) (vals:List D) (m:Mem):Option (Ex×List D×Mem) :=
 code.uT O (wX ins vals) m fun x e m' =>
  exS x (bd (gc base (qH e ins) m') fun r=>XC O ins outs body base r.1 r.2) (fun i=>bd (gc base (qH e outs) m') fun r=>some (.exit i,r.1,r.2)) (fun i=>bd (gc base (qH e outs) m') fun r=>some (.exit i,r.1,r.2)) (bd (gc base (qH e outs) m') fun r=>some (.ret,r.1,r.2))
theorem aV (O:aB) (ins outs:List Nat) (body:EC) (base:Nat) (vals:List D) (m:Mem):bC O ins outs body base vals m=bD O ins outs body body base vals m:=by
 refine (ajd O _ _ _ _ _ fun x e m'=>?_).symm
 exact ajb x _ _ (fun _=>rfl) (fun _=>rfl)
theorem au (n:Nat):Int.ofNat (no_index (OfNat.ofNat n))=OfNat.ofNat n:=rfl
theorem ay (a b:List Slot):List.append a b=a++b:=rfl
theorem aF (O:aB) (ins outs:List Nat) (body:EC) (base:Nat) (vals:List D) (m:Mem):XC O ins outs body base vals m=O.loop ins outs body base vals m:=rfl
theorem aA (O:aB) (f:Nat) (ds:List D) (m:Mem):ZX O f ds m=O.bK f ds m:=rfl
attribute [simp] hdI tlI
end Go.Ev
end
