/- A part of the proof of priceWait_card. -/
import Derived.Test.YtlnjbdkgdocjeaaGreatDoorCLim
set_option linter.unusedVariables false
set_option linter.unusedSimpArgs false
section
namespace Go.Ev
def bd {α β:Type} (x:Option α) (f:α→Option β):Option β:=x.bind f
def jn {β:Type} (x:Option (Ex×List D×Mem)) (f:Ex×List D×Mem→Option β):Option β:=x.bind f
abbrev hd (l:List D):D:=l.headD .undef
abbrev tl (l:List D):List D:=l.tail
def U5 {α:Type} (x:Ex) (n:α) (f:Nat→α) (r:α):α:=match x with
 | .normal=>n
 | .exit i=>f i
 | .ret=>r
def Jb (id:Nat) (x:Ex):Ex:=match x with
 | .exit i=>bif Nat.beq i id then .normal else .exit i
 | x=>x
def J5 {R:Type} (d:D) (a b:Option R):Option R:=match d with
 | .bool t=>if t=true then a else b
 | _=>none
def LH (d:D) (b:Bool):Option Bool:=match d with
 | .bool b'=>some (b'==b)
 | .aH []=>some false
 | _=>none
def gop (w:Option Bool) (x:RV) (m:Mem):RV:=w.bind fun w=>bif w then x else some (.aH [],m)
def Gj {R:Type} (O:eP) (base:Nat):List EO→Env→Mem→(Env→Mem→Option R)→Option R
 | [],e,m,k=>k e m
 | o::os,e,m,k=>match o.guard with
   | none=>(evs e o.xs).bind fun ds=>(o.k.run O base ds m).bind fun r=>Gj O base os (tC e o.dst r.1) r.2 k
   | some (t,b)=>(look e t).bind fun d=>(gop (LH d b) ((evs e o.xs).bind fun ds=>o.k.run O base ds m) m).bind fun r=>Gj O base os (tC e o.dst r.1) r.2 k
theorem Iq {R:Type} (O:eP) (base:Nat) (k:Env→Mem→Option R):∀ (os:List EO) (e:Env) (m:Mem),Gj O base os e m k=(oN O base os e m).bind fun r=>k r.1 r.2
 | [],e,m=>rfl
 | o::os,e,m=>by
   simp only [Gj,oN,EO.run,EO.wants]
   cases hg:o.guard with
   | none=>cases evs e o.xs <;> simp [Option.bind_assoc,Iq O base k os]
   | some tb =>
     obtain ⟨t,b⟩:=tb
     cases hl:look e t with
     | none=>simp [hl]
     | some d =>
       cases d <;> simp only [hl,gop,LH,Option.bind_some,Option.bind_none]
       case bool b' =>
        cases hb:(b'==b) <;> simp [Iq O base k os,Option.bind_assoc]
       case aH vs=>cases vs <;> simp [Iq O base k os,Option.bind_assoc]
def place (n:Nat) (m:Mem):Mem:=bif Nat.beq n 0 then m else m++List.replicate n .free
theorem ajp (n:Nat) (m:Mem):place n m=m++List.replicate n .free:=by
 unfold place
 cases h:Nat.beq n 0 with
 | false=>rfl
 | true=>rw [Nat.eq_of_beq_eq_true h]; simp
def EC.iW {R:Type} (O:eP):EC→Env→Mem→(Ex→Env→Mem→Option R)→Option R
 | .skip,e,m,k=>k .normal e m
 | .region n ops,e,m,k=>Gj O m.length ops e (place n m) fun e' m'=>k .normal e' m'
 | .drawn n ops,e,m,k=>Gj O m.length (ops.map (·.2)) e (place n m) fun e' m'=>k .normal e' m'
 | .frz ts c,e,m,k=>(iO (fz FZ) (kY e ts) m).bind fun r=>c.iW O (qM ts r.1++e) r.2 k
 | .seq a b,e,m,k=>a.iW O e m fun x e' m'=>U5 x (b.iW O e' m' k) (fun i=>k (.exit i) e' m') (k .ret e' m')
 | .cond c a b,e,m,k=>(c.ev e).bind fun d=>J5 d (a.iW O e m k) (b.iW O e m k)
 | .block id c,e,m,k=>c.iW O e m fun x e' m'=>k (Jb id x) e' m'
 | .loop ins outs body,e,m,k=>(O.loop ins outs body m.length (kY e ins) m).bind fun r=>k r.1 (qM outs r.2.1) r.2.2
 | .exit id,e,m,k=>k (.exit id) e m
 | .ret,e,m,k=>k .ret e m
 | .mask keep c,e,m,k=>c.iW O (N9 e keep) m k
 | .join keep c,e,m,k=>(c.iW O e m fun x e' m'=>some (x,kY e' keep,m')).bind fun r=>k r.1 (qM keep r.2.1) r.2.2
theorem aiy {R:Type} (O:eP):∀ (c:EC) (e:Env) (m:Mem) (k:Ex→Env→Mem→Option R),c.iW O e m k=c.exec O e m k:=by
 intro c
 induction c generalizing R with
 | skip=>intros; rfl
 | region n ops=>intro e m k; simp only [EC.iW,EC.exec,Iq,ajp]
 | drawn n ops=>intro e m k; simp only [EC.iW,EC.exec,Iq,ajp]
 | frz ts c ih=>intro e m k; simp only [EC.iW,EC.exec,ih]
 | seq a b iha ihb =>
   intro e m k
   simp only [EC.iW,EC.exec,iha,ihb]
   congr 1
   funext x e' m'
   cases x <;> rfl
 | cond c a b iha ihb =>
   intro e m k
   simp only [EC.iW,EC.exec,iha,ihb]
   cases c.ev e with
   | none=>rfl
   | some d=>cases d <;> simp [J5]
 | block id c ih =>
   intro e m k
   simp only [EC.iW,EC.exec,ih]
   congr 1
   funext x e' m'
   cases x <;> simp [Jb]
   rename_i i
   cases Nat.beq i id <;> rfl
 | loop=>intros; rfl
 | exit=>intros; rfl
 | ret=>intros; rfl
 | mask keep c ih=>intro e m k; simp only [EC.iW,EC.exec,ih]
 | join keep c ih=>intro e m k; simp only [EC.iW,EC.exec,ih]
def amy (f:EF) (n:Nat) (e:Env) (m:Mem):RV:=(AQ e m f.res).bind fun rs=>(gc n rs m).bind fun r=>some (IK r)
def EF.step2 (O:eP) (f:EF) (args:List D) (m:Mem):RV :=
 f.body.iW O (qM f.params args) m fun x e m'=>U5 x (amy f m.length e m') (fun _=>none) (amy f m.length e m')
theorem ajO (O:eP) (f:EF) (args:List D) (m:Mem) (h:Nat.beq args.length f.params.length=true):f.step2 O args m=f.step O args m:=by
 simp only [EF.step2,EF.step,aiy,h,cond_true]
 congr 1
 funext x e m'
 cases x <;> rfl
def aJ (O:eP) (ins outs:List Nat) (body:EC) (base:Nat) (vals:List D) (m:Mem):Option (Ex×List D×Mem) :=
 body.iW O (qM ins vals) m fun x e m' =>
  U5 x ((gc base (kY e ins) m').bind fun r=>O.loop ins outs body base r.1 r.2) (fun i=>(gc base (kY e outs) m').bind fun r=>some (.exit i,r.1,r.2)) ((gc base (kY e outs) m').bind fun r=>some (.ret,r.1,r.2))
theorem ai4 (O:eP) (ins outs:List Nat) (body:EC) (base:Nat) (vals:List D) (m:Mem):aJ O ins outs body base vals m=BG O ins outs body base vals m:=by
 simp only [aJ,BG,aiy]
 congr 1
 funext x e m'
 cases x <;> rfl
def fin (r:D×Mem):Option D:=(fz FZ r.1 r.2).bind fun s=>some s.1
theorem ar6 {T:Tab} {f:Nat} {ef:EF} {args:List D} {d:D} {x:RV} (hf:T.fn f=some ef) (hn:Nat.beq args.length ef.params.length=true) (hs:ef.step2 T.lim args []=x) (h:x.bind fin=some d):T.lim.call f args=some d:=by
 show sS (T.lim.aU f args [])=some d
 unfold sS
 rw [Option.bind_eq_some_iff] at h
 obtain ⟨r,hr,h⟩:=h
 rw [ai1 hf (r:=r) (by rw [← ajO _ _ _ _ hn,hs,hr])]
 exact h
theorem apG {T:Tab} {f:Nat} {ef:EF} {args:List D} {m:Mem} {r:D×Mem} {x:RV} (hf:T.fn f=some ef) (hn:Nat.beq args.length ef.params.length=true) (hs:ef.step2 T.lim args m=x) (h:x=some r):T.lim.aU f args m=some r :=
 ai1 hf (by rw [← ajO _ _ _ _ hn,hs,h])
theorem aqM {T:Tab} {ins outs:List Nat} {body:EC} {base:Nat} {vals:List D} {m:Mem} {r:Ex×List D×Mem} {x:Option (Ex×List D×Mem)} (hs:aJ T.lim ins outs body base vals m=x) (h:x=some r):T.lim.loop ins outs body base vals m=some r :=
 af5 (by rw [← ai4,hs,h])
@[congr] theorem awM {α β:Type} {x y:Option α} {f:α→Option β} (h:x=y):bd x f=bd y f:=by rw [h]
@[simp] theorem Z_ {α β:Type} (a:α) (f:α→Option β):bd (some a) f=f a:=by rfl
@[simp] theorem axB {α β:Type} (f:α→Option β):bd none f=none:=by rfl
@[congr] theorem axb {β:Type} {x y:Option (Ex×List D×Mem)} {f:Ex×List D×Mem→Option β} (h:x=y):jn x f=jn y f:=by rw [h]
@[simp] theorem asM {β:Type} (a:Ex×List D×Mem) (f:Ex×List D×Mem→Option β):jn (some a) f=f a:=by rfl
@[congr] theorem avp {R:Type} {d d':D} {a b:Option R} (h:d=d'):J5 d a b=J5 d' a b:=by rw [h]
@[simp] theorem avC {R:Type} (a b:Option R):J5 (.bool true) a b=a:=by rfl
@[simp] theorem aku {R:Type} (a b:Option R):J5 (.bool false) a b=b:=by rfl
@[congr] theorem av7 {α:Type} {x y:Ex} {n r:α} {f:Nat→α} (h:x=y):U5 x n f r=U5 y n f r:=by rw [h]
@[simp] theorem avF {α:Type} (n:α) (f:Nat→α) (r:α):U5 .normal n f r=n:=by rfl
@[simp] theorem aw0 {α:Type} (i:Nat) (n:α) (f:Nat→α) (r:α):U5 (.exit i) n f r=f i:=by rfl
@[simp] theorem axS {α:Type} (n:α) (f:Nat→α) (r:α):U5 .ret n f r=r:=by rfl
@[congr] theorem awj {w w':Option Bool} {x:RV} {m:Mem} (h:w=w'):gop w x m=gop w' x m:=by rw [h]
@[simp] theorem aw_ (x:RV) (m:Mem):gop (some true) x m=x:=by rfl
@[simp] theorem awk (x:RV) (m:Mem):gop (some false) x m=some (.aH [],m):=by rfl
@[simp] theorem avt (a b:Bool):LH (.bool a) b=some (a==b):=by rfl
@[simp] theorem avu (b:Bool):LH (.aH []) b=some false:=by rfl
@[simp] theorem avo (i:Nat):Jb i .normal = .normal:=by rfl
@[simp] theorem awO (i:Nat):Jb i .ret = .ret:=by rfl
@[simp] theorem av5 (i j:Nat):Jb i (.exit j)=bif Nat.beq j i then .normal else .exit j:=by rfl
end Go.Ev
end
section
namespace Go.Ev
abbrev bI:Type:=Option (Ex×List D×Mem)
def WO (O:eP) (ins outs:List Nat) (body:EC) (base:Nat) (vals:List D) (m:Mem):Option (Ex×List D×Mem):=O.loop ins outs body base vals m
def Zn (O:eP) (f:Nat) (ds:List D) (m:Mem):RV:=O.aU f ds m
def aqS (O:eP) (base:Nat) (k:K) (ds:List D) (m:Mem):RV:=match k with
 | .aU f=>Zn O f ds m
 | k=>k.run O base ds m
theorem alQ (O:eP) (base:Nat) (k:K) (ds:List D) (m:Mem):aqS O base k ds m=k.run O base ds m:=by cases k <;> rfl
def runK {R:Type} (O:eP) (base:Nat) (k:K) (ds:List D) (m:Mem) (f:D→Mem→Option R):Option R:=match k,ds with
 | .mov,[d]=>f d m
 | k,ds=>bd (aqS O base k ds m) fun r=>f r.1 r.2
theorem atv {R:Type} (O:eP) (base:Nat) (k:K) (ds:List D) (m:Mem) (f:D→Mem→Option R):runK O base k ds m f=(k.run O base ds m).bind fun r=>f r.1 r.2:=by
 unfold runK
 split
 ·rfl
 ·rw [alQ]; rfl
def OE {R:Type} (O:eP) (base:Nat):List EO→Env→Mem→(Env→Mem→Option R)→Option R
 | [],e,m,k=>k e m
 | o::os,e,m,k=>match o.guard with
   | none=>(evs e o.xs).bind fun ds=>runK O base o.k ds m fun d m'=>OE O base os (tC e o.dst d) m' k
   | some (t,b)=>(look e t).bind fun d=>bd (gop (LH d b) ((evs e o.xs).bind fun ds=>aqS O base o.k ds m) m) fun r=>OE O base os (tC e o.dst r.1) r.2 k
theorem Oq {R:Type} (O:eP) (base:Nat) (k:Env→Mem→Option R):∀ (os:List EO) (e:Env) (m:Mem),OE O base os e m k=Gj O base os e m k
 | [],e,m=>rfl
 | o::os,e,m=>by
   simp only [OE,Gj]
   cases hg:o.guard with
   | none=>simp only [atv,Oq O base k os]
   | some tb=>simp only [bd,alQ,Oq O base k os]
inductive SX where
 | n
 | e (i:Nat)
 | r
 | dyn (x:Ex)
def SX.ex:SX→Ex
 | .n => .normal
 | .e i => .exit i
 | .r => .ret
 | .dyn x=>x
def exS {α:Type} (x:SX) (n:α) (f g:Nat→α) (r:α):α:=match x with
 | .n=>n
 | .e i=>f i
 | .r=>r
 | .dyn x=>U5 x n g r
def apD (id:Nat):SX→SX
 | .e i=>bif Nat.beq i id then .n else .e i
 | .dyn x => .dyn (Jb id x)
 | x=>x
theorem aix {α:Type} (x:SX) (n:α) {f g h:Nat→α} (r:α) (h1:∀ i,f i=h i) (h2:∀ i,g i=h i):exS x n f g r=U5 x.ex n h r:=by
 obtain rfl:f=h:=funext h1
 obtain rfl:g=f:=funext h2
 cases x <;> rfl
theorem ar5 (id:Nat) (x:SX):(apD id x).ex=Jb id x.ex:=by
 cases x with
 | e i=>simp only [apD,SX.ex,Jb]; cases Nat.beq i id <;> rfl
 | _=>rfl
def hdI (l:List D):D:=l.headD .undef
def tlI (l:List D):List D:=l.tail
def aj7:List Nat→List D→Env
 | [],_=>[]
 | t::ts,ds=>(t,hdI ds)::aj7 ts (tlI ds)
theorem afo:∀ (ts:List Nat) (ds:List D),aj7 ts ds=qM ts ds
 | [],_=>rfl
 | t::ts,ds=>by simp only [aj7,qM,afo ts,hdI,tlI]
def anu:List Nat→List D→Env→Env
 | [],_,e=>e
 | t::ts,ds,e=>(t,hdI ds)::anu ts (tlI ds) e
theorem al2 (e:Env):∀ (ts:List Nat) (ds:List D),anu ts ds e=qM ts ds++e
 | [],_=>rfl
 | t::ts,ds=>by simp only [anu,qM,al2 e ts,hdI,tlI,List.cons_append]
def EC.oQ {R:Type} (O:eP):EC→Env→Mem→(SX→Env→Mem→Option R)→Option R
 | .skip,e,m,k=>k .n e m
 | .region n ops,e,m,k=>OE O m.length ops e (place n m) fun e' m'=>k .n e' m'
 | .drawn n ops,e,m,k=>OE O m.length (ops.map (·.2)) e (place n m) fun e' m'=>k .n e' m'
 | .frz ts c,e,m,k=>bd (iO (fz FZ) (kY e ts) m) fun r=>c.oQ O (anu ts r.1 e) r.2 k
 | .seq a b,e,m,k=>a.oQ O e m fun x e' m'=>exS x (b.oQ O e' m' k) (fun i=>k (.e i) e' m') (fun i=>k (.dyn (.exit i)) e' m') (k .r e' m')
 | .cond c a b,e,m,k=>(c.ev e).bind fun d=>J5 d (a.oQ O e m k) (b.oQ O e m k)
 | .block id c,e,m,k=>c.oQ O e m fun x e' m'=>k (apD id x) e' m'
 | .loop ins outs body,e,m,k=>jn (WO O ins outs body m.length (kY e ins) m) fun r=>k (.dyn r.1) (aj7 outs r.2.1) r.2.2
 | .exit id,e,m,k=>k (.e id) e m
 | .ret,e,m,k=>k .r e m
 | .mask keep c,e,m,k=>c.oQ O (N9 e keep) m k
 | .join keep c,e,m,k=>jn (c.oQ O e m fun x e' m'=>some (x.ex,kY e' keep,m')) fun r=>k (.dyn r.1) (aj7 keep r.2.1) r.2.2
theorem aiz {R:Type} (O:eP):∀ (c:EC) (e:Env) (m:Mem) (k:SX→Env→Mem→Option R) (k2:Ex→Env→Mem→Option R),(∀ x e m,k x e m=k2 x.ex e m)→c.oQ O e m k=c.iW O e m k2:=by
 intro c
 induction c generalizing R with
 | skip=>intro e m k k2 h; exact h _ _ _
 | region n ops=>intro e m k k2 h; simp only [EC.oQ,EC.iW,Oq,h,SX.ex]
 | drawn n ops=>intro e m k k2 h; simp only [EC.oQ,EC.iW,Oq,h,SX.ex]
 | frz ts c ih=>intro e m k k2 h; simp only [EC.oQ,EC.iW,ih _ _ k k2 h,bd,al2]
 | seq a b iha ihb =>
   intro e m k k2 h
   simp only [EC.oQ,EC.iW]
   refine iha e m _ _ fun x e' m'=>?_
   rw [aix (h:=fun i=>k2 (.exit i) e' m') x _ _ (fun i=>h _ _ _) (fun i=>h _ _ _),ihb e' m' k k2 h,h]
   rfl
 | cond c a b iha ihb=>intro e m k k2 h; simp only [EC.oQ,EC.iW,iha _ _ k k2 h,ihb _ _ k k2 h]
 | block id c ih =>
   intro e m k k2 h
   simp only [EC.oQ,EC.iW]
   exact ih e m _ _ fun x e' m'=>by rw [h,ar5]
 | loop=>intro e m k k2 h; simp only [EC.oQ,EC.iW,jn,WO,h,SX.ex,afo]
 | exit=>intro e m k k2 h; exact h _ _ _
 | ret=>intro e m k k2 h; exact h _ _ _
 | mask keep c ih=>intro e m k k2 h; simp only [EC.oQ,EC.iW,ih _ _ k k2 h]
 | join keep c ih =>
   intro e m k k2 h
   simp only [EC.oQ,EC.iW]
   rw [ih e m (fun x e' m'=>some (x.ex,kY e' keep,m')) (fun x e' m'=>some (x,kY e' keep,m')) (fun x e m=>rfl)]
   simp only [jn,h,SX.ex,afo]
def keyOf:ER→Nat
 | .tmp t=>t
 | .cell t _ _=>t
def aej (e:Env):List ER→Option (List D)
 | []=>some []
 | .tmp t::rs=>match look e t,aej e rs with
   | some d,some ds=>some (d::ds)
   | _,_=>none
 | .cell .. :: _=>none
def JG (e:Env):List ER→Env
 | []=>[]
 | .tmp t::rs=>match look e t with
   | some d=>(t,d)::JG e rs
   | none=>JG e rs
 | .cell t .. :: rs=>match look e t with
   | some d=>(t,d)::JG e rs
   | none=>JG e rs
def aeD (e:Env):List ER→Bool
 | []=>true
 | r::rs=>(look e (keyOf r)).isSome && aeD e rs
theorem afB (e:Env) (m:Mem):∀ (rs:List ER),aeD e rs=false→AQ e m rs=none
 | [],h=>by simp [aeD] at h
 | r::rs,h=>by
   simp only [aeD,Bool.and_eq_false_iff] at h
   rcases h with h | h
   ·have : r.get e m=none:=by
     cases hl:look e (keyOf r) with
     | some d=>rw [hl] at h; simp at h
     | none=>cases r <;> simp only [ER.get,keyOf] at hl ⊢ <;> rw [hl] <;> rfl
    simp only [AQ,this,Option.bind_none]
   ·simp only [AQ,afB e m rs h,Option.bind_none]
    cases r.get e m <;> rfl
def ahz (f:EF) (n:Nat) (e:Env) (m:Mem):RV:=match aej e f.res with
 | some rs=>bd (gc n rs m) fun r=>some (IK r)
 | none=>bif aeD e f.res then bd (AQ (JG e f.res) m f.res) fun rs=>bd (gc n rs m) fun r=>some (IK r) else none
theorem ajT (e:Env) (m:Mem):∀ (rs:List ER) (ds:List D),aej e rs=some ds→AQ e m rs=some ds
 | [],ds,h=>h
 | .tmp t::rs,ds,h=>by
   simp only [aej] at h
   split at h
   ·rename_i d ds' h1 h2
    simp only [AQ,ER.get,h1,ajT e m rs _ h2,Option.bind_some]
    exact h
   ·simp at h
 | .cell t a n::_,ds,h=>by simp [aej] at h
theorem af6 (e:Env):∀ (rs:List ER) (r:ER),r∈rs→look (JG e rs) (keyOf r)=look e (keyOf r)
 | [],r,h=>by simp at h
 | x::rs,r,h=>by
   have ih:=fun h=>af6 e rs r h
   have hx:JG e (x::rs)=match look e (keyOf x) with
    | some d=>(keyOf x,d)::JG e rs
    | none=>JG e rs:=by cases x <;> rfl
   rw [hx]
   by_cases hk:keyOf r=keyOf x
   ·rw [hk]
    cases hl:look e (keyOf x) with
    | some d=>simp [look]
    | none =>
      simp only
      by_cases hm:r∈rs
      ·rw [← hk,ih hm,hk,hl]
      ·have : ∀ l:List ER,look (JG e l) (keyOf x)=none:=by
        intro l
        induction l with
        | nil=>rfl
        | cons y ys ih2 =>
          have hy:JG e (y::ys)=match look e (keyOf y) with
           | some d=>(keyOf y,d)::JG e ys
           | none=>JG e ys:=by cases y <;> rfl
          rw [hy]
          cases hly:look e (keyOf y) with
          | none=>exact ih2
          | some d =>
            simp only [look]
            have hne:Nat.beq (keyOf y) (keyOf x)=false:=by
             cases hb:Nat.beq (keyOf y) (keyOf x) with
             | false=>rfl
             | true =>
               rw [Nat.eq_of_beq_eq_true hb,hl] at hly
               simp at hly
            rw [hne]
            exact ih2
       exact this rs
   ·have hm:r∈rs:=by
     rcases List.mem_cons.1 h with h | h
     ·exact absurd (by rw [h]) hk
     ·exact h
    cases look e (keyOf x) with
    | none=>exact ih hm
    | some d =>
      simp only [look]
      have hne:Nat.beq (keyOf x) (keyOf r)=false:=by
       cases hb:Nat.beq (keyOf x) (keyOf r) with
       | false=>rfl
       | true=>exact absurd (Nat.eq_of_beq_eq_true hb).symm hk
      rw [hne]
      exact ih hm
theorem afp {e e':Env} (m:Mem):∀ (rs:List ER),(∀ r∈rs,look e' (keyOf r)=look e (keyOf r))→AQ e' m rs=AQ e m rs
 | [],_=>rfl
 | r::rs,h=>by
   have h1:r.get e' m=r.get e m:=by
    have := h r (by simp)
    cases r <;> simp only [ER.get,keyOf] at this ⊢ <;> rw [this]
   simp only [AQ,h1,afp m rs (fun x hx=>h x (by simp [hx]))]
theorem ap8 (f:EF) (n:Nat) (e:Env) (m:Mem):ahz f n e m=amy f n e m:=by
 unfold ahz amy
 split
 ·rename_i rs h
  rw [ajT e m _ _ h]; rfl
 ·cases ha:aeD e f.res with
  | true=>rw [afp m f.res (fun r hr=>af6 e f.res r hr)]; rfl
  | false=>rw [afB e m _ ha]; rfl
def EF.step3 (O:eP) (f:EF) (args:List D) (m:Mem):RV :=
 f.body.oQ O (qM f.params args) m fun x e m'=>exS x (ahz f m.length e m') (fun _=>none) (fun _=>none) (ahz f m.length e m')
theorem ari (O:eP) (f:EF) (args:List D) (m:Mem):f.step2 O args m=f.step3 O args m:=by
 refine (aiz O _ _ _ _ _ fun x e m'=>?_).symm
 rw [aix (h:=fun _=>none) x _ _ (fun _=>rfl) (fun _=>rfl),ap8]
def aO (O:eP) (ins outs:List Nat) (body code:EC) (base:Nat) (vals:List D) (m:Mem):Option (Ex×List D×Mem) :=
 code.oQ O (qM ins vals) m fun x e m' =>
  exS x (bd (gc base (kY e ins) m') fun r=>WO O ins outs body base r.1 r.2) (fun i=>bd (gc base (kY e outs) m') fun r=>some (.exit i,r.1,r.2)) (fun i=>bd (gc base (kY e outs) m') fun r=>some (.exit i,r.1,r.2)) (bd (gc base (kY e outs) m') fun r=>some (.ret,r.1,r.2))
theorem ai5 (O:eP) (ins outs:List Nat) (body:EC) (base:Nat) (vals:List D) (m:Mem):aJ O ins outs body base vals m=aO O ins outs body body base vals m:=by
 refine (aiz O _ _ _ _ _ fun x e m'=>?_).symm
 exact aix x _ _ (fun _=>rfl) (fun _=>rfl)
theorem aoG (n:Nat):Int.ofNat (no_index (OfNat.ofNat n))=OfNat.ofNat n:=rfl
theorem ar2 (a b:List Slot):List.append a b=a++b:=rfl
theorem auZ (O:eP) (ins outs:List Nat) (body:EC) (base:Nat) (vals:List D) (m:Mem):WO O ins outs body base vals m=O.loop ins outs body base vals m:=rfl
theorem atl (O:eP) (f:Nat) (ds:List D) (m:Mem):Zn O f ds m=O.aU f ds m:=rfl
attribute [simp] hdI tlI
@[simp] abbrev fl {α:Type} (X:α) {a:α} (h:X=a:=by as_aux_lemma=>(conv=>{lhs; reduce; try dsimp only [aoG,ar2,auZ,atl]})):α:=a
theorem st {f:EF} {O:eP} {args:List D} {m:Mem} {a:RV} (h:f.step3 O args m=a:=by kernel_rfl):f.step2 O args m=a:=(ari ..).trans h
theorem eH {O:eP} {ins outs:List Nat} {body:EC} {base:Nat} {vals:List D} {m:Mem} {a:bI} (h:aO O ins outs body body base vals m=a:=by kernel_rfl):aJ O ins outs body base vals m=a:=(ai5 ..).trans h
end Go.Ev
end
