/- A part of the proof of priceWait_card. -/
import Derived.Test.YtlnjbdkgdocjeaaGreatDoorCCall
set_option linter.unusedVariables false
set_option linter.unusedSimpArgs false
section
namespace Go.Ev
def abu (ops:Array Oper) (g g':Option (Nat×Bool)):Bool :=
 match g,g' with
 | none,none=>true
 | some (t,b),some (j,b')=>(b==b') && (match (ops[j]?).bind (·.dst) with | some t'=>Nat.beq t t' | none=>false)
 | _,_=>false
def acZ (N:Nat) (d d':Option Nat):Bool :=
 match d,d' with
 | none,none=>true
 | some t,some t'=>Nat.beq t t' && Nat.blt t N
 | _,_=>false
def ac0 (P:Program) (N:Nat) (ops:Array Oper) (x:EO) (o:Oper):Bool :=
 (match aT P x.k o.op with | some ys=>aeF x.xs ys | none=>false) && acZ N x.dst o.dst && abu ops x.guard o.guard
structure St (w0:World) (N:Nat) (c:Ctx) (e:Env) (m:Mem) (a:Act):Prop where
 size:N≤a.tmps.size
 defers:a.defers=[]
 env:vw c e a
 inv:Inv c m
 base:Base w0 c
section
variable {P:Program} {w0:World} {N:Nat} {ops:Array Oper} {O:eP}
theorem akr {d d':Option Nat} (h:acZ N d d'=true):d=d'∧∀ t,d=some t→t<N:=by
 unfold acZ at h
 split at h
 ·exact ⟨rfl,by simp⟩
 ·simp only [Bool.and_eq_true,Nat.blt_eq] at h
  have := Nat.eq_of_beq_eq_true h.1
  exact ⟨by rw [this],fun t ht=>by simp at ht; omega⟩
 ·simp at h
theorem vw.put {c:Ctx} {e:Env} {a:Act} (he:vw c e a) {dst:Option Nat} {d:D} {v:Value} (hd:∀ t,dst=some t→t<a.tmps.size) (hr:Rep c d v):vw c (tC e dst d) (a.put dst v):=by
 cases dst with
 | none=>exact he
 | some t =>
   intro x d' hx
   simp only [tC,look] at hx
   have hlt:=hd t rfl
   by_cases htx:t=x
   ·subst htx
    simp at hx
    subst hx
    simpa [Act.put,hlt] using hr
   ·have : Nat.beq t x=false:=by
     cases hb:Nat.beq t x with
     | false=>rfl
     | true=>exact absurd (Nat.eq_of_beq_eq_true hb) htx
    simp [this] at hx
    have := he x d' hx
    simpa [Act.put,Array.getElem?_setIfInBounds_ne htx] using this
theorem St.put {c c':Ctx} {e:Env} {m m':Mem} {a:Act} (hs:St w0 N c e m a) {dst dst':Option Nat} (hd:acZ N dst dst'=true) {d:D} {v:Value} (hr:Rep c' d v) (hi:Inv c' m') (hst:Ext c c') :
  St w0 N c' (tC e dst d) m' (a.put dst' v):=by
 obtain ⟨rfl,hlt⟩:=akr hd
 refine ⟨?_,?_,(hs.env.mono hst).put (fun t ht=>Nat.lt_of_lt_of_le (hlt t ht) hs.size) hr,hi,hs.base.ext hst⟩
 ·cases dst <;> simpa [Act.put] using hs.size
 ·cases dst <;> simpa [Act.put] using hs.defers
theorem aj3 {tmps:Array Value} {j t:Nat} {b:Bool} (h:(ops[j]?).bind (·.dst)=some t) (ht:tmps.getD t undef = .bool b):yielded ops tmps j=some b:=by
 unfold yielded
 rw [h]
 rw [Array.getD_eq_getD_getElem?] at ht
 cases hg:tmps[t]? with
 | none=>rw [hg] at ht; simp [Go.undef] at ht
 | some v=>rw [hg] at ht; simp at ht; subst ht; simp [hg]
theorem aj6 {tmps:Array Value} {j t:Nat} {vs:Array Value} (h:(ops[j]?).bind (·.dst)=some t) (ht:tmps.getD t undef = .tuple vs):yielded ops tmps j=none:=by
 unfold yielded
 rw [h]
 rw [Array.getD_eq_getD_getElem?] at ht
 cases hg:tmps[t]? with
 | none=>simp [hg]
 | some v=>rw [hg] at ht; simp at ht; subst ht; simp [hg]
theorem arx {c:Ctx} {e:Env} {a:Act} (he:vw c e a) {x:EO} {o:Oper} (hc:abu ops x.guard o.guard=true) {b:Bool} (h:x.wants e=some b):Region.wanted o (yielded ops a.tmps)=b:=by
 unfold EO.wants at h
 unfold Region.wanted
 unfold abu at hc
 split at hc
 ·rename_i h1 h2
  rw [h1] at h
  rw [h2]
  simpa using h
 ·rename_i t b1 j b2 h1 h2
  rw [h1] at h
  rw [h2]
  simp only [Bool.and_eq_true,beq_iff_eq] at hc
  obtain ⟨rfl,hc⟩:=hc
  split at hc
  ·rename_i t' ht'
   have := Nat.eq_of_beq_eq_true hc
   subst this
   simp only at h ⊢
   cases hl:look e t with
   | none=>rw [hl] at h; simp at h
   | some d =>
     have hr:=he t d hl
     rw [hl] at h
     split at h
     ·rename_i b' e1
      simp at e1 h
      subst e1
      rw [aj3 ht' hr.pO,← h]
      cases b' <;> cases b1 <;> rfl
     ·rename_i e1
      simp at e1 h
      subst e1
      obtain ⟨vs,_,h1,_⟩:=hr.OG
      rw [aj6 ht' h1,h]
      rfl
     ·simp at h
  ·simp at hc
 ·simp at hc
theorem EO.sound (hO:jH P w0 O) {x:EO} {i:Nat} {o:Oper} (ho:ops[i]?=some o) (hc:ac0 P N ops x o=true) {c:Ctx} {e e':Env} {m m':Mem} {a:Act} (hs:St w0 N c e m a) {base:Nat} (h:x.run O base e m=some (e',m'))
  {Kn:Act→World→Prop} {Q:Exit→Act→World→Prop} (hk:∀ a' c',St w0 N c' e' m' a'→Step c m c' m'→Kn a' c'.w):wpOp P ops Q i Kn a c.w:=by
 simp only [ac0,Bool.and_eq_true] at hc
 obtain ⟨⟨hc1,hc2⟩,hc3⟩:=hc
 unfold EO.run at h
 rw [Option.bind_eq_some_iff] at h
 obtain ⟨b,hw,h⟩:=h
 have hw':=arx hs.env hc3 hw
 unfold wpOp
 simp only [ho,hw']
 cases b with
 | false =>
   simp at h
   obtain ⟨rfl,rfl⟩:=h
   simp only [Bool.false_eq_true,if_false]
   exact hk _ c (hs.put hc2 .alY hs.inv (.refl c)) (.refl c m)
 | true =>
   simp only [cond_true] at h
   rw [Option.bind_eq_some_iff] at h
   obtain ⟨ds,hds,h⟩:=h
   rw [Option.bind_eq_some_iff] at h
   obtain ⟨⟨d,m1⟩,hrun,h⟩:=h
   simp at h
   obtain ⟨rfl,rfl⟩:=h
   split at hc1
   ·rename_i ys hys
    simp only [if_true]
    refine .inl (K.sound hO hs.base ⟨⟨ys,hys,alv hs.env hc1 hds⟩,hs.inv⟩ hrun Kn Q fun v c' h1 h2 h3=>hk _ c' (hs.put hc2 h1 h2 h3.ext) h3)
   ·simp at hc1
def lG (P:Program) (N:Nat) (ops:Array Oper):List EO→List Oper→Bool
 | [],[]=>true
 | x::xs,o::os=>ac0 P N ops x o && lG P N ops xs os
 | _,_=>false
theorem af9 (hO:jH P w0 O) {base:Nat} {Q:Exit→Act→World→Prop} {e':Env} {m':Mem}:∀ (xs:List EO) (os:List Oper) (k:Nat) (hk:∀ j o,os[j]?=some o→ops[k+j]?=some o) (hc:lG P N ops xs os=true)
  (c:Ctx) (e:Env) (m:Mem) (a:Act) (hs:St w0 N c e m a) (h:oN O base xs e m=some (e',m')) (hq:∀ a' c',St w0 N c' e' m' a'→Step c m c' m'→Q .normal a' c'.w),wpOps P ops Q (List.range' k os.length) a c.w
 | [],[],k,hk,hc,c,e,m,a,hs,h,hq=>by
   simp [oN] at h
   obtain ⟨rfl,rfl⟩:=h
   exact hq a c hs (.refl c m)
 | [],_::_,k,hk,hc,c,e,m,a,hs,h,hq=>by simp [lG] at hc
 | _::_,[],k,hk,hc,c,e,m,a,hs,h,hq=>by simp [lG] at hc
 | x::xs,o::os,k,hk,hc,c,e,m,a,hs,h,hq=>by
   simp only [lG,Bool.and_eq_true] at hc
   simp only [oN,Option.bind_eq_some_iff] at h
   obtain ⟨⟨e1,m1⟩,h1,h2⟩:=h
   simp only [List.length_cons,List.range'_succ]
   rw [wpOps_cons]
   refine EO.sound hO (by simpa using hk 0 o rfl) hc.1 hs h1 fun a1 c1 hs1 hst1=>?_
   exact af9 hO xs os (k+1) (fun j o' hj=>by rw [show k+1+j=k+(j+1) by omega]; exact hk (j+1) o' (by simpa using hj)) hc.2 c1 e1 m1 a1 hs1 h2
    fun a2 c2 hs2 hst2=>hq a2 c2 hs2 (hst1.trans hst2)
theorem ajF (hO:jH P w0 O) {id:Nat} {xs:List EO} (hc:lG P N ops xs ops.toList=true) {c:Ctx} {e e':Env} {m m':Mem} {a:Act} (hs:St w0 N c e m a) {base:Nat} (h:oN O base xs e m=some (e',m')) {Q:Exit→Act→World→Prop}
  (hq:∀ a' c',St w0 N c' e' m' a'→Step c m c' m'→Q .normal a' c'.w):(Code.region id ops false).wp P Q a c.w:=by
 refine wp_region ?_
 have := af9 (ops:=ops) hO xs ops.toList 0 (fun j o hj=>by simpa using hj) hc c e m a hs h hq
 rw [List.range_eq_range']
 simpa using this
end
end Go.Ev
end
section
namespace Go.Ev
inductive Cl where
 | p | r | a | w
 deriving DecidableEq,Inhabited
def K.cl:K→Cl
 | .Sm | .Sr _ | .Zd => .r
 | .b2s => .w
 | .alloc .. | .box .. | .VR .. | .WG .. | .mkm _ => .a
 | .store _ | .app .. | .nM _ | .aU _ | .VT | .aci | .ab9 _ => .w
 | _ => .p
def Aq (m m2:Mem):Prop:=∀ (i:Nat) (s:Slot),m[i]?=some s→s ≠ .free→m2[i]?=some s
theorem Aq.refl (m:Mem):Aq m m:=fun _ _ h _=>h
theorem Aq.trans {m m2 m3:Mem} (h:Aq m m2) (h':Aq m2 m3):Aq m m3:=fun i s hs hn=>h' i s (h i s hs hn) hn
theorem afA {m m2:Mem} (h:Aq m m2) {d:D} {r:List D×Nat} (ha:U2 m d=some r):U2 m2 d=some r:=by
 cases d <;> simp only [U2] at ha ⊢ <;> try (simp at ha; done)
 case ref=>exact ha
 case loc b off =>
  cases hm:m[b]? with
  | none=>rw [hm] at ha; simp at ha
  | some s =>
    rw [hm] at ha
    have hn:s ≠ .free:=by rintro rfl; simp at ha
    rw [h b s hm hn]
    exact ha
section
variable {O:eP} {base:Nat} {ds:List D} {m m':Mem} {d:D}
theorem K.arH {k:K} (hk:k.cl = .p) (h:k.run O base ds m=some (d,m')):m'=m∧∀ m2,k.run O base ds m2=some (d,m2):=by
 cases k <;> simp only [K.cl] at hk <;> try (cases hk; done)
 all_goals simp only [K.run] at h ⊢
 all_goals try (simp at h; done)
 case acf=>simp at h; obtain ⟨rfl,rfl⟩:=h; exact ⟨rfl,fun _=>rfl⟩
 case mov=>unfold Zz at *; split at h <;> simp_all
 case pick=>unfold Ol at *; split at h <;> simp_all
 case adv=>unfold KZ at *; split at h <;> simp_all [Option.bind_eq_some_iff] <;> (try grind)
 case build=>unfold KY at *; simp_all [Option.bind_eq_some_iff]; grind
 case bsl=>unfold Zu at *; rw [cond_eq_ite] at h; simp only [cond_eq_ite]; split at h <;> simp_all [Option.bind_eq_some_iff] <;> (try grind)
 case WL=>unfold H_ at *; split at h <;> simp_all
 case pK=>unfold dV at *; split at h <;> (try simp only [cond_eq_ite] at *) <;> simp_all [Option.bind_eq_some_iff] <;> (try grind)
 case sh=>unfold oV at *; split at h <;> simp_all [Option.bind_eq_some_iff] <;> (try grind)
 case Ja=>unfold Dh at *; split at h <;> simp_all [Option.bind_eq_some_iff] <;> (try grind)
 case eqB=>unfold Zw at *; split at h <;> simp_all
 case eqP=>unfold Uo at *; split at h <;> simp_all
 case eqN=>unfold Un at *; split at h <;> (try simp only [cond_eq_ite] at *) <;> simp_all
 case eqS=>unfold acy at *; split at h <;> simp_all
 case eqA=>unfold Zv at *; split at h <;> simp_all [Option.bind_eq_some_iff] <;> (try grind)
 case neg=>unfold ZA at *; split at h <;> simp_all
 case inv=>unfold acz at *; split at h <;> simp_all [Option.bind_eq_some_iff] <;> (try grind)
 case not=>unfold ZB at *; split at h <;> simp_all
 case conv=>unfold SV at *; split at h <;> simp_all
 case acg=>unfold S9 at *; split at h <;> simp_all
 case slS=>unfold ZC at *; split at h <;> simp_all [Option.bind_eq_some_iff] <;> (try grind)
 case slL=>unfold Qh at *; split at h <;> (try simp only [cond_eq_ite] at *) <;> simp_all [Option.bind_eq_some_iff] <;> (try grind)
 case abD=>unfold Oe at *; split at h <;> simp_all
 case ab6=>unfold EP at *; split at h <;> simp_all
 case Wv=>unfold BO at *; split at h <;> simp_all
 case ab7=>unfold Og at *; split at h <;> simp_all [Option.bind_eq_some_iff] <;> (try grind)
 case fld=>unfold Zy at *; split at h <;> simp_all [Option.bind_eq_some_iff] <;> (try grind)
 case ext=>unfold Zx at *; split at h <;> simp_all [Option.bind_eq_some_iff] <;> (try grind)
 case acd=>unfold SY at *; split at h <;> simp_all
 case ab_=>unfold H7 at *; split at h <;> simp_all
 case mn=>unfold rMn at *; split at h <;> simp_all
 case mx=>unfold rMx at *; split at h <;> simp_all
 case RJ=>unfold qh at *; rw [cond_eq_ite] at h; simp only [cond_eq_ite]; split at h <;> simp_all [Option.bind_eq_some_iff] <;> (try grind)
 case ZQ=>unfold Kv at *; split at h <;> (try simp only [cond_eq_ite] at *) <;> simp_all <;> (try split at h) <;> simp_all
 case UE =>
  unfold Om at *
  split at h <;> (try simp_all; done)
  ·rw [Option.bind_eq_some_iff] at h
   obtain ⟨b,hb,h⟩:=h
   cases b <;> simp at h <;> simp [hb,h]
 case eqF =>
  unfold acw at *
  split at h <;> (try simp_all; done)
  all_goals
   simp only [cond_eq_ite] at *
   repeat' split at h
   all_goals simp_all
 case Hg =>
  unfold Ku at *
  split at h <;> (try simp_all; done)
  rw [Option.bind_eq_some_iff] at h
  obtain ⟨f,hf,h⟩:=h
  simp only [hf,Option.bind_some]
  unfold qh at *
  rw [cond_eq_ite] at h
  simp only [cond_eq_ite]
  split at h <;> simp_all [Option.bind_eq_some_iff] <;> (try grind)
theorem K.anc {k:K} (hk:k.cl = .r) (h:k.run O base ds m=some (d,m')):m'=m∧∀ m2,Aq m m2→k.run O base ds m2=some (d,m2):=by
 cases k <;> simp only [K.cl] at hk <;> try (cases hk; done)
 all_goals simp only [K.run] at h ⊢
 case Sm =>
  unfold zn at *
  split at h
  ·simp [Option.bind_eq_some_iff] at h
   obtain ⟨cs,off,h1,x,h2,rfl,rfl⟩:=h
   refine ⟨rfl,fun m2 ha=>?_⟩
   simp [afA ha h1,h2]
  ·simp at h
 case Sr =>
  unfold H8 at *
  split at h
  ·simp [Option.bind_eq_some_iff] at h
   obtain ⟨cs,off,h1,x,h2,rfl,rfl⟩:=h
   refine ⟨rfl,fun m2 ha=>?_⟩
   simp [afA ha h1,h2]
  ·simp at h
 case Zd =>
  unfold H9 at *
  split at h <;> try (simp at h; done)
  ·rename_i b k
   split at h <;> simp at h
   rename_i ks hm
   obtain ⟨rfl,rfl⟩:=h
   refine ⟨rfl,fun m2 ha=>?_⟩
   have := ha _ _ hm (by simp)
   simp [this]
  ·simp only [Option.some.injEq,Prod.mk.injEq] at h; obtain ⟨rfl,rfl⟩:=h; exact ⟨rfl,fun m2 _=>rfl⟩
  ·simp only [Option.some.injEq,Prod.mk.injEq] at h; obtain ⟨rfl,rfl⟩:=h; exact ⟨rfl,fun m2 _=>rfl⟩
theorem N_ {base j:Nat} {cs:List D} {d0:D} (h:t_ base j cs d0 m=some (d,m')):Aq m m':=by
 unfold t_ at h
 split at h
 ·rename_i hm
  simp at h
  obtain ⟨rfl,rfl⟩:=h
  intro i s hs hn
  rw [List.getElem?_set]
  split
  ·rename_i e
   subst e
   rw [hm] at hs
   exact absurd (Option.some.inj hs).symm hn
  ·exact hs
 ·simp at h
theorem K.av2 {k:K} (hk:k.cl = .a) (h:k.run O base ds m=some (d,m')):Aq m m':=by
 cases k <;> simp only [K.cl] at hk <;> try (cases hk; done)
 all_goals simp only [K.run] at h
 case alloc=>unfold Ew at h; split at h; exact N_ h; simp at h
 case box=>unfold Zt at h; split at h; (simp [Option.bind_eq_some_iff] at h; obtain ⟨x,_,h⟩:=h; exact N_ h); simp at h
 case VR=>unfold SS at h; simp [Option.bind_eq_some_iff] at h; obtain ⟨x,_,h⟩:=h; exact N_ h
 case WG=>unfold Oi at h; split at h; (split at h; exact N_ h; simp at h); simp at h
 case mkm =>
  unfold W9 at h
  split at h <;> try (simp at h; done)
  split at h <;> simp at h
  rename_i hm
  obtain ⟨rfl,rfl⟩:=h
  intro i s hs hn
  rw [List.getElem?_set]
  split
  ·rename_i e
   subst e
   rw [hm] at hs
   exact absurd (Option.some.inj hs).symm hn
  ·exact hs
end
def EO.reads (x:EO):List Nat:=(match x.guard with | some (t,_)=>[t] | none=>[])++x.xs.filterMap fun | .t n=>some n | .k _=>none
def ai6:Cl→Cl→Bool
 | .p,_ | _,.p=>false
 | .r,.r | .r,.a=>false
 | _,_=>true
def apart:K→K→Bool
 | .alloc j _,.alloc i _ => !Nat.beq j i
 | _,_=>false
def dep (x y:EO):Bool :=
 (match x.dst with | some t=>y.reads.contains t || (y.dst==some t) | none=>false) || (match y.dst with | some t=>x.reads.contains t | none=>false) || (ai6 x.k.cl y.k.cl && !apart x.k y.k)
def maskAt:List (Nat×EO×Nat)→Nat→Nat
 | [],_=>0
 | (i,_,m)::ds,k=>bif Nat.beq i k then m else maskAt ds k
def PX (done:List (Nat×EO×Nat)):List Edge→Nat
 | []=>0
 | e::es=>(bif Region.binds .any e then 2^e.on ||| maskAt done e.on else 0) ||| PX done es
def ahx (P:Program) (N:Nat) (ops:Array Oper):List (Nat×EO)→List (Nat×EO×Nat)→Bool
 | [],_=>true
 | (i,x)::xs,done=>match ops[i]? with
   | none=>false
   | some o=>ac0 P N ops x o && !(done.any fun y=>Nat.beq y.1 i) && o.after.toList.all (fun e => !Region.binds .any e || done.any fun y=>Nat.beq y.1 e.on) &&
     done.all (fun y => !dep y.2.1 x || (PX done o.after.toList).testBit y.1) && ahx P N ops xs ((i,x,PX done o.after.toList)::done)
def abt (P:Program) (N:Nat) (ops:Array Oper) (xs:List (Nat×EO)):Bool:=(List.range ops.size).all (fun i=>xs.any fun y=>Nat.beq y.1 i) && Nat.ble xs.length ops.size && ahx P N ops xs []
def Good (ops:Array Oper) (l:Array Bool):Prop:=l.size=ops.size∧∀ (i:Nat) (o:Oper),ops[i]?=some o→l.getD i false=true→∀ e∈o.after,Region.binds .any e=true→l.getD e.on false=true
def Before (ops:Array Oper) (j i:Nat):Prop:=∀ (l:Array Bool) (o:Oper),Good ops l→ops[i]?=some o→(∀ e∈o.after,Region.binds .any e=true→l.getD e.on false=true)→l.getD j false=true
section
variable {P:Program} {N:Nat} {ops:Array Oper}
theorem aoA {done:List (Nat×EO×Nat)} (hd:∀ y∈done,∀ j,y.2.2.testBit j=true→Before ops j y.1) {k j:Nat} (h:(maskAt done k).testBit j=true):Before ops j k:=by
 induction done with
 | nil=>simp [maskAt] at h
 | cons y done ih =>
   obtain ⟨i,x,m⟩:=y
   simp only [maskAt,cond_eq_ite] at h
   split at h
   ·rename_i e
    have := Nat.eq_of_beq_eq_true e
    subst this
    exact hd _ (List.mem_cons_self) j h
   ·exact ih (fun y hy=>hd y (List.mem_cons_of_mem _ hy)) h
theorem af7 {done:List (Nat×EO×Nat)} {j:Nat}:∀ {es:List Edge},(PX done es).testBit j=true→∃ e∈es,Region.binds .any e=true∧(j=e.on∨(maskAt done e.on).testBit j=true)
 | [],h=>by simp [PX] at h
 | e::es,h=>by
   simp only [PX,Nat.testBit_or,Bool.or_eq_true] at h
   rcases h with h | h
   ·rw [cond_eq_ite] at h
    split at h
    ·rename_i hb
     refine ⟨e,List.mem_cons_self,hb,?_⟩
     rw [Nat.testBit_or,Bool.or_eq_true] at h
     rcases h with h | h
     ·rw [Nat.testBit_two_pow] at h
      exact .inl (by simpa using h:e.on=j).symm
     ·exact .inr h
    ·simp at h
   ·obtain ⟨e',h1,h2,h3⟩:=af7 h
    exact ⟨e',List.mem_cons_of_mem _ h1,h2,h3⟩
structure Checked (P:Program) (N:Nat) (ops:Array Oper) (xs:List (Nat×EO)):Prop where
 each:∀ y∈xs,∃ o,ops[y.1]?=some o∧ac0 P N ops y.2 o=true
 pairs:xs.Pairwise fun y x=>y.1≠x.1∧(dep y.2 x.2=true→Before ops y.1 x.1)
theorem ah_:∀ (xs:List (Nat×EO)) (done:List (Nat×EO×Nat)),ahx P N ops xs done=true→(∀ y∈done,∀ j,y.2.2.testBit j=true→Before ops j y.1) →
  Checked P N ops xs∧(∀ y∈done,∀ x∈xs,y.1≠x.1∧(dep y.2.1 x.2=true→Before ops y.1 x.1)) ∧
  (∀ l:Array Bool,l.size=ops.size→Region.ready .any ops l=[]→(∀ y∈done,l.getD y.1 false=true)→∀ x∈xs,l.getD x.1 false=true)
 | [],done,_,_=>⟨⟨fun y hy=>by simp at hy,.nil⟩,fun y _ x hx=>by simp at hx,fun l _ _ _ x hx=>by simp at hx⟩
 | (i,x)::xs,done,h,hd=>by
   simp only [ahx] at h
   split at h
   ·simp at h
   ·rename_i o ho
    simp only [Bool.and_eq_true,Bool.not_eq_true',List.any_eq_false,List.all_eq_true,Bool.or_eq_true,List.any_eq_true] at h
    obtain ⟨⟨⟨⟨h1,h2⟩,h3⟩,h4⟩,h5⟩:=h
    have hnew:∀ j,(PX done o.after.toList).testBit j=true→Before ops j i:=by
     intro j hj l o' hg ho' hall
     rw [ho] at ho'
     cases ho'
     obtain ⟨e,he,hb,hj⟩:=af7 hj
     have hl:=hall e (by simpa using he) hb
     rcases hj with rfl | hj
     ·exact hl
     ·have hlt:e.on<ops.size:=by
       rcases Nat.lt_or_ge e.on ops.size with h | h
       ·exact h
       ·rw [← hg.1] at h
        simp [Array.getElem?_eq_none h] at hl
      exact aoA hd hj l ops[e.on] hg (by simp [hlt]) (hg.2 e.on _ (by simp [hlt]) hl)
    obtain ⟨q1,q2,q3⟩:=ah_ xs _ h5 (fun y hy=>by
     rcases List.mem_cons.1 hy with rfl | hy
     ·exact hnew
     ·exact hd y hy)
    refine ⟨⟨fun y hy=>?_,List.pairwise_cons.2 ⟨fun y hy=>?_,q1.pairs⟩⟩,fun y hy z hz=>?_,fun l hl hr hall z hz=>?_⟩
    ·rcases List.mem_cons.1 hy with rfl | hy
     ·exact ⟨o,ho,h1⟩
     ·exact q1.each y hy
    ·exact q2 _ List.mem_cons_self y hy
    ·rcases List.mem_cons.1 hz with rfl | hz
     ·refine ⟨fun e=>?_,fun hdep=>?_⟩
      ·have := h2 y hy
       rw [e] at this
       simp at this
      ·have := h4 y hy
       rw [hdep] at this
       exact hnew y.1 (by simpa using this)
     ·exact q2 y (List.mem_cons_of_mem _ hy) z hz
    ·have hi:l.getD i false=true:=by
      cases hli:l.getD i false with
      | true=>rfl
      | false =>
        exfalso
        have hlt:i<ops.size:=(Array.getElem?_eq_some_iff.1 ho).1
        have hmem:i∈Region.ready .any ops l:=mem_ready.2 ⟨by
         have : i<l.size:=by omega
         simp [this] at hli ⊢
         exact hli,o,ho,fun e he hb=>by
         rcases h3 e (by simpa using he) with h6 | ⟨y,hy,h6⟩
         ·rw [hb] at h6; simp at h6
         ·rw [← Nat.eq_of_beq_eq_true h6]
          exact hall _ hy⟩
        rw [hr] at hmem
        simp at hmem
     rcases List.mem_cons.1 hz with rfl | hz
     ·exact hi
     ·exact q3 l hl hr (fun y hy=>by
       rcases List.mem_cons.1 hy with rfl | hy
       ·exact hi
       ·exact hall y hy) z hz
end
end Go.Ev
end
section
namespace Go.Ev
structure Tr where
 i:Nat
 x:EO
 d:D
 m:Mem
def One (O:eP) (base:Nat) (x:EO) (e:Env) (m:Mem) (d:D) (m1:Mem):Prop :=
 (x.wants e=some false∧d = .aH []∧m1=m)∨(x.wants e=some true∧∃ ds,evs e x.xs=some ds∧x.k.run O base ds m=some (d,m1))
inductive nU (O:eP) (base:Nat):Env→Mem→List Tr→Env→Mem→Prop
 | nil (e:Env) (m:Mem):nU O base e m [] e m
 | cons {i:Nat} {x:EO} {d:D} {m1:Mem} {e:Env} {m:Mem} {ts:List Tr} {e':Env} {m':Mem} (h:One O base x e m d m1) (hs:nU O base (tC e x.dst d) m1 ts e' m'):nU O base e m (⟨i,x,d,m1⟩::ts) e' m'
def K.acts (k:K):Bool:=match k.cl with | .a | .w=>true | _=>false
def g_ (l:Nat→Bool):List Tr→Env→Env
 | [],e=>e
 | t::ts,e=>g_ l ts (bif l t.i then tC e t.x.dst t.d else e)
def K.isA (k:K):Bool:=match k with | .alloc .. => true | _=>false
def Tr.upd (base:Nat) (t:Tr) (m:Mem):Mem:=match t.x.k with
 | .alloc j z=>(match t.d with | .loc _ _=>m.set (base+j) (.live z) | _=>m)
 | _=>t.m
def dB (base:Nat) (l:Nat→Bool):List Tr→Mem→Mem
 | [],m=>m
 | t::ts,m=>dB base l ts (bif l t.i && t.x.k.acts then t.upd base m else m)
section
variable {O:eP} {base:Nat}
theorem ZT:∀ (xs:List (Nat×EO)) (e:Env) (m:Mem) (e':Env) (m':Mem),oN O base (xs.map (·.2)) e m=some (e',m')→∃ ts,nU O base e m ts e' m'∧ts.map (fun t=>(t.i,t.x))=xs
 | [],e,m,e',m',h=>by
   simp [oN] at h
   obtain ⟨rfl,rfl⟩:=h
   exact ⟨[],.nil _ _,rfl⟩
 | (i,x)::xs,e,m,e',m',h=>by
   simp only [List.map_cons,oN,Option.bind_eq_some_iff] at h
   obtain ⟨⟨e1,m1⟩,h1,h2⟩:=h
   unfold EO.run at h1
   rw [Option.bind_eq_some_iff] at h1
   obtain ⟨w,hw,h1⟩:=h1
   cases w with
   | false =>
     simp at h1
     obtain ⟨rfl,rfl⟩:=h1
     obtain ⟨ts,ht,hm⟩:=ZT xs _ _ _ _ h2
     exact ⟨⟨i,x,_,_⟩::ts,.cons (.inl ⟨hw,rfl,rfl⟩) ht,by simp [hm]⟩
   | true =>
     simp only [cond_true] at h1
     rw [Option.bind_eq_some_iff] at h1
     obtain ⟨ds,hds,h1⟩:=h1
     rw [Option.bind_eq_some_iff] at h1
     obtain ⟨⟨d,m2⟩,hrun,h1⟩:=h1
     simp at h1
     obtain ⟨rfl,rfl⟩:=h1
     obtain ⟨ts,ht,hm⟩:=ZT xs _ _ _ _ h2
     exact ⟨⟨i,x,_,_⟩::ts,.cons (.inr ⟨hw,ds,hds,hrun⟩) ht,by simp [hm]⟩
theorem nU.split {e':Env} {m':Mem} {t:Tr} {t2:List Tr}:∀ {t1:List Tr} {e:Env} {m:Mem},nU O base e m (t1++t::t2) e' m' →
  ∃ ek mk,nU O base e m t1 ek mk∧One O base t.x ek mk t.d t.m∧nU O base (tC ek t.x.dst t.d) t.m t2 e' m'
 | [],e,m,h=>by
   cases h with
   | cons h hs=>exact ⟨e,m,.nil _ _,h,hs⟩
 | s::t1,e,m,h=>by
   cases h with
   | cons h hs =>
     obtain ⟨ek,mk,h1,h2,h3⟩:=nU.split hs
     exact ⟨ek,mk,.cons h h1,h2,h3⟩
theorem One.quiet {x:EO} {e:Env} {m m1:Mem} {d:D} (h:One O base x e m d m1) (hk:x.k.acts=false):m1=m:=by
 rcases h with ⟨_,_,h⟩ | ⟨_,ds,_,h⟩
 ·exact h
 ·unfold K.acts at hk
  cases hc:x.k.cl <;> rw [hc] at hk <;> simp at hk
  ·exact (K.arH hc h).1
  ·exact (K.anc hc h).1
theorem One.up {x:EO} {e:Env} {m m1:Mem} {d:D} (h:One O base x e m d m1) (hk:x.k.cl ≠ .w):Aq m m1:=by
 cases hc:x.k.cl with
 | p=>rw [h.quiet (by simp [K.acts,hc])]; exact .refl _
 | r=>rw [h.quiet (by simp [K.acts,hc])]; exact .refl _
 | w=>exact absurd hc hk
 | a =>
   rcases h with ⟨_,_,rfl⟩ | ⟨_,ds,_,h⟩
   ·exact .refl _
   ·exact K.av2 hc h
theorem Ui (l:Nat→Bool):∀ (a b:List Tr) (e:Env),g_ l (a++b) e=g_ l b (g_ l a e)
 | [],_,_=>rfl
 | t::a,b,e=>by simp only [List.cons_append,g_]; exact Ui l a b _
theorem Uj (l:Nat→Bool):∀ (a b:List Tr) (m:Mem),dB base l (a++b) m=dB base l b (dB base l a m)
 | [],_,_=>rfl
 | t::a,b,m=>by simp only [List.cons_append,dB]; exact Uj l a b _
theorem One.alloc {x:EO} {e:Env} {m m1:Mem} {d:D} (h:One O base x e m d m1) {j:Nat} {z:List D} (hk:x.k = .alloc j z) :
  (d = .aH []∧m1=m)∨(m[base+j]?=some .free∧d = .loc (base+j) 0∧m1=m.set (base+j) (.live z)):=by
 rcases h with ⟨_,h1,h2⟩ | ⟨_,ds,_,h⟩
 ·exact .inl ⟨h1,h2⟩
 ·rw [hk] at h
  simp only [K.run,Ew] at h
  split at h
  ·unfold t_ at h
   split at h
   ·rename_i hm
    simp at h
    exact .inr ⟨hm,h.1.symm,h.2.symm⟩
   ·simp at h
  ·simp at h
theorem ave {i:Nat} {x:EO} {e:Env} {m m1:Mem} {d:D} (h:One O base x e m d m1):Tr.upd base ⟨i,x,d,m1⟩ m=m1:=by
 unfold Tr.upd
 split
 ·rename_i j z hk
  rcases h.alloc hk with ⟨rfl,rfl⟩ | ⟨_,rfl,rfl⟩ <;> rfl
 ·rfl
theorem VE {t:Tr} (h:t.x.k.isA=false) (m:Mem):t.upd base m=t.m:=by
 unfold Tr.upd
 split
 ·rename_i j z hk; rw [hk] at h; simp [K.isA] at h
 ·rfl
theorem Jw {k:K} (h:k.isA=true):∃ j z,k = .alloc j z:=by
 cases k <;> simp [K.isA] at h
 exact ⟨_,_,rfl⟩
def Gq (pm m:Mem):Prop:=∀ i:Nat,pm[i]?=m[i]?∨pm[i]?=some .free
theorem Gq.refl (m:Mem):Gq m m:=fun _ => .inl rfl
theorem Gq.free {pm m:Mem} (h:Gq pm m) {k:Nat} (hk:m[k]?=some .free):pm[k]?=some .free:=by
 rcases h k with h | h
 ·rw [h,hk]
 ·exact h
theorem Gq.set {pm m:Mem} (h:Gq pm m) {k:Nat} (hk:m[k]?=some .free) (s:Slot):Gq (pm.set k s) (m.set k s):=by
 intro i
 have h1:=(List.getElem?_eq_some_iff.1 hk).1
 have h2:=(List.getElem?_eq_some_iff.1 (h.free hk)).1
 by_cases e:k=i
 ·subst e
  left
  rw [List.getElem?_set_self h1,List.getElem?_set_self h2]
 ·rw [List.getElem?_set_ne e,List.getElem?_set_ne e]
  exact h i
theorem Gq.late {pm m:Mem} (h:Gq pm m) {k:Nat} (hk:m[k]?=some .free) (s:Slot):Gq pm (m.set k s):=by
 intro i
 by_cases e:k=i
 ·subst e
  exact .inr (h.free hk)
 ·rw [List.getElem?_set_ne e]
  exact h i
theorem agb (l:Nat→Bool) {e':Env} {m':Mem}:∀ {ts:List Tr} {e:Env} {m pm:Mem},nU O base e m ts e' m'→(∀ s∈ts,s.x.k.acts=true→s.x.k.isA=false→l s.i=true)→Gq pm m→Gq (dB base l ts pm) m'
 | [],e,m,pm,h,_,hp=>by cases h; exact hp
 | s::ts,e,m,pm,h,hl,hp=>by
   cases h with
   | cons h hs =>
     rename_i i x d m1
     have hl':∀ s∈ts,s.x.k.acts=true→s.x.k.isA=false→l s.i=true:=fun s hs=>hl s (List.mem_cons_of_mem _ hs)
     simp only [dB]
     refine agb l hs hl' ?_
     cases ha:x.k.acts with
     | false =>
       rw [h.quiet ha]
       simp only [Bool.and_false,cond_false]
       exact hp
     | true =>
       cases hA:x.k.isA with
       | false =>
         have := hl _ List.mem_cons_self ha hA
         simp only at this
         simp only [this,Bool.and_true,cond_true]
         rw [VE (t:=⟨i,x,d,m1⟩) hA]
         exact .refl _
       | true =>
         obtain ⟨j,z,hk⟩:=Jw hA
         rcases h.alloc hk with ⟨rfl,rfl⟩ | ⟨hf,rfl,rfl⟩
         ·have : Tr.upd base ⟨i,x,.aH [],m1⟩ pm=pm:=by simp [Tr.upd,hk]
          rw [this]
          cases l i <;> exact hp
         ·cases hli:l i with
          | true =>
            simp only [Bool.and_true,cond_true,Tr.upd,hk]
            exact hp.set hf _
          | false =>
            simp only [Bool.and_true,cond_false]
            exact hp.late hf _
theorem WV (l:Nat→Bool) {j:Nat}:∀ (ts:List Tr) (m:Mem),(∀ s∈ts,s.x.k.acts=true→l s.i=true→∃ i z,s.x.k = .alloc i z∧j≠i) →
  (dB base l ts m)[base+j]?=m[base+j]?∧∀ v,dB base l ts (m.set (base+j) v)=(dB base l ts m).set (base+j) v
 | [],m,_=>⟨rfl,fun _=>rfl⟩
 | s::ts,m,h=>by
   have h':∀ s∈ts,s.x.k.acts=true→l s.i=true→∃ i z,s.x.k = .alloc i z∧j≠i:=fun s hs=>h s (List.mem_cons_of_mem _ hs)
   simp only [dB]
   cases ha:s.x.k.acts with
   | false =>
     simp only [Bool.and_false,cond_false]
     exact WV l ts m h'
   | true =>
     cases hl:l s.i with
     | false =>
       simp only [Bool.false_and,cond_false]
       exact WV l ts m h'
     | true =>
       simp only [Bool.true_and,cond_true]
       obtain ⟨i,z,hk,hne⟩:=h s List.mem_cons_self ha hl
       have hu:∀ m,s.upd base m=m∨s.upd base m=m.set (base+i) (.live z):=by
        intro m
        unfold Tr.upd
        rw [hk]
        simp only
        split
        ·exact .inr rfl
        ·exact .inl rfl
       have hu2:(∀ m,s.upd base m=m)∨(∀ m,s.upd base m=m.set (base+i) (.live z)):=by
        unfold Tr.upd
        rw [hk]
        simp only
        split
        ·exact .inr fun _=>rfl
        ·exact .inl fun _=>rfl
       obtain ⟨q1,q2⟩:=WV l ts (s.upd base m) h'
       rcases hu2 with hu2 | hu2
       ·rw [hu2] at q1 q2
        refine ⟨by rw [hu2]; exact q1,fun v=>?_⟩
        rw [hu2,hu2]
        exact q2 v
       ·rw [hu2] at q1 q2
        refine ⟨?_,fun v=>?_⟩
        ·rw [hu2,q1,List.getElem?_set_ne (by omega)]
        ·rw [hu2,hu2,List.set_comm _ _ (by omega)]
         exact q2 v
theorem lI {e:Env} {dst:Option Nat} {d:D} {t:Nat} (h:dst≠some t):look (tC e dst d) t=look e t:=by
 cases dst with
 | none=>rfl
 | some x =>
   simp only [tC,look]
   have : Nat.beq x t=false:=by
    cases hb:Nat.beq x t with
    | false=>rfl
    | true=>exact absurd (by rw [Nat.eq_of_beq_eq_true hb]) h
   simp [this]
theorem wX {e:Env} {d:D} {t:Nat}:look (tC e (some t) d) t=some d:=by
 simp [tC,look]
theorem adw {e e2:Env} {dst:Option Nat} {d:D} {t:Nat} (h:look e t=look e2 t):look (tC e dst d) t=look (tC e2 dst d) t:=by
 by_cases hd:dst=some t
 ·subst hd
  rw [wX,wX]
 ·rw [lI hd,lI hd,h]
theorem U_ (l:Nat→Bool) (t:Nat):∀ (ts:List Tr) (e:Env),(∀ s∈ts,s.x.dst=some t→l s.i=false)→look (g_ l ts e) t=look e t
 | [],_,_=>rfl
 | s::ts,e,h=>by
   simp only [g_]
   rw [U_ l t ts _ (fun s hs=>h s (List.mem_cons_of_mem _ hs))]
   cases hl:l s.i with
   | false=>rfl
   | true =>
     simp only [cond_true]
     exact lI fun hd=>by
      have := h s List.mem_cons_self hd
      rw [hl] at this
      simp at this
theorem Xv (l:Nat→Bool) (t:Nat) {e':Env} {m':Mem}:∀ {ts:List Tr} {e e2:Env} {m:Mem},nU O base e m ts e' m'→(∀ s∈ts,s.x.dst=some t→l s.i=true)→look e2 t=look e t→look (g_ l ts e2) t=look e' t
 | [],e,e2,m,h,_,he=>by cases h; exact he
 | s::ts,e,e2,m,h,hl,he=>by
   cases h with
   | cons h hs =>
     simp only [g_]
     refine Xv l t hs (fun s hs=>hl s (List.mem_cons_of_mem _ hs)) ?_
     rename_i i x d m1
     cases hli:l i with
     | true=>simp only [cond_true]; exact adw he
     | false =>
       simp only [cond_false]
       rw [he,lI]
       intro hd
       have := hl _ List.mem_cons_self hd
       simp only at this
       rw [hli] at this
       simp at this
theorem Xw (l:Nat→Bool) {dst:Option Nat} {d:D} (t:Nat):∀ (ts:List Tr) (e e2:Env),(∀ s∈ts,∀ y,dst=some y→s.x.dst=some y→l s.i=false)→look e2 t=look (tC e dst d) t→look (g_ l ts e2) t=look (tC (g_ l ts e) dst d) t
 | [],e,e2,_,he=>he
 | s::ts,e,e2,hn,he=>by
   simp only [g_]
   refine Xw l t ts _ _ (fun s hs=>hn s (List.mem_cons_of_mem _ hs)) ?_
   cases hl:l s.i with
   | false=>exact he
   | true =>
     simp only [cond_true]
     by_cases hd:s.x.dst=some t
     ·have : dst≠some t:=fun h=>by
       have := hn s List.mem_cons_self t h hd
       rw [hl] at this
       simp at this
      rw [hd,wX,lI this,wX]
     ·rw [lI hd,he]
      by_cases hd':dst=some t
      ·rw [hd',wX,wX]
      ·rw [lI hd',lI hd',lI hd]
theorem SG (l:Nat→Bool):∀ (ts:List Tr) (m:Mem),(∀ s∈ts,s.x.k.acts=true→l s.i=false)→dB base l ts m=m
 | [],_,_=>rfl
 | s::ts,m,h=>by
   simp only [dB]
   have : (l s.i && s.x.k.acts)=false:=by
    cases ha:s.x.k.acts with
    | false=>simp
    | true=>simp [h s List.mem_cons_self ha]
   rw [this]
   exact SG l ts m fun s hs=>h s (List.mem_cons_of_mem _ hs)
theorem JD (l:Nat→Bool) {e':Env} {m':Mem}:∀ {ts:List Tr} {e:Env} {m:Mem},nU O base e m ts e' m'→(∀ s∈ts,s.x.k.acts=true→l s.i=true)→dB base l ts m=m'
 | [],e,m,h,_=>by cases h; rfl
 | s::ts,e,m,h,hl=>by
   cases h with
   | cons h hs =>
     rename_i i x d m1
     simp only [dB]
     have hr:∀ s∈ts,s.x.k.acts=true→l s.i=true:=fun s hs=>hl s (List.mem_cons_of_mem _ hs)
     cases ha:x.k.acts with
     | false =>
       simp only [Bool.and_false,cond_false]
       rw [h.quiet ha] at hs
       exact JD l hs hr
     | true =>
       have := hl _ List.mem_cons_self ha
       simp only at this
       rw [this,ave h]
       exact JD l hs hr
theorem Dc (l:Nat→Bool) {e':Env} {m':Mem}:∀ {ts:List Tr} {e:Env} {m pm:Mem},nU O base e m ts e' m'→Gq pm m→(pm=m∨∀ s∈ts,s.x.k.acts=true→s.x.k.isA=false→l s.i=false)→(∀ s∈ts,s.x.k.cl = .w→l s.i=false) →
  ts.Pairwise (fun y x=>y.x.k.acts=true→x.x.k.acts=true→(y.x.k.isA && x.x.k.isA)=false→l x.i=true→l y.i=true)→Aq pm (dB base l ts pm)
 | [],e,m,pm,_,_,_,_,_ => .refl _
 | s::ts,e,m,pm,h,hL,hf,hw,hp=>by
   cases h with
   | cons h hs =>
     rename_i i x d m1
     have hw':∀ s∈ts,s.x.k.cl = .w→l s.i=false:=fun s hs=>hw s (List.mem_cons_of_mem _ hs)
     have hf':(∀ s∈(⟨i,x,d,m1⟩::ts:List Tr),s.x.k.acts=true→s.x.k.isA=false→l s.i=false)→∀ s∈ts,s.x.k.acts=true→s.x.k.isA=false→l s.i=false:=fun h s hs=>h s (List.mem_cons_of_mem _ hs)
     rw [List.pairwise_cons] at hp
     simp only [dB]
     cases ha:x.k.acts with
     | false =>
       simp only [Bool.and_false,cond_false]
       rw [h.quiet ha] at hs
       exact Dc l hs hL (hf.imp id hf') hw' hp.2
     | true =>
       cases hA:x.k.isA with
       | true =>
         obtain ⟨j,z,hk⟩:=Jw hA
         cases hli:l i with
         | false =>
           simp only [Bool.and_true,cond_false]
           have hn:∀ s∈ts,s.x.k.acts=true→s.x.k.isA=false→l s.i=false:=fun s hs' ha' hA'=>by
            cases hls:l s.i with
            | false=>rfl
            | true =>
              have := hp.1 s hs' ha ha' (by simp [hA']) hls
              simp only at this
              rw [hli] at this
              simp at this
           refine Dc l hs ?_ (.inr hn) hw' hp.2
           rcases h.alloc hk with ⟨rfl,rfl⟩ | ⟨hfr,rfl,rfl⟩
           ·exact hL
           ·exact hL.late hfr _
         | true =>
           simp only [Bool.and_true,cond_true]
           rcases h.alloc hk with ⟨rfl,rfl⟩ | ⟨hfr,rfl,rfl⟩
           ·have : Tr.upd base ⟨i,x,.aH [],m1⟩ pm=pm:=by simp [Tr.upd,hk]
            rw [this]
            exact Dc l hs hL (hf.imp id hf') hw' hp.2
           ·have : Tr.upd base ⟨i,x,.loc (base+j) 0,m.set (base+j) (.live z)⟩ pm=pm.set (base+j) (.live z):=by simp [Tr.upd,hk]
            rw [this]
            refine Aq.trans (fun i s hi hn=>?_) (Dc l hs (hL.set hfr _) (hf.imp (fun e=>by rw [e]) hf') hw' hp.2)
            rw [List.getElem?_set]
            split
            ·rename_i e1
             subst e1
             rw [hL.free hfr] at hi
             exact absurd (Option.some.inj hi).symm hn
            ·exact hi
       | false =>
         cases hli:l i with
         | true =>
           simp only [Bool.and_true,cond_true]
           rw [VE (t:=⟨i,x,d,m1⟩) hA]
           rcases hf with rfl | hf
           ·refine (h.up fun hc=>?_).trans (Dc l hs (.refl _) (.inl rfl) hw' hp.2)
            have := hw _ List.mem_cons_self hc
            simp only at this
            rw [hli] at this
            simp at this
           ·have := hf _ List.mem_cons_self ha hA
            simp only at this
            rw [hli] at this
            simp at this
         | false =>
           simp only [Bool.and_true,cond_false]
           rw [SG l ts pm fun s hs' ha'=>by
            cases hls:l s.i with
            | false=>rfl
            | true =>
              have := hp.1 s hs' ha ha' (by simp [hA]) hls
              simp only at this
              rw [hli] at this
              simp at this]
           exact .refl _
end
end Go.Ev
end
section
namespace Go.Ev
theorem afS {e e2:Env}:∀ {xs:List Dp},(∀ t∈xs.filterMap (fun | .t n=>some n | .k _=>none),look e t=look e2 t)→evs e xs=evs e2 xs
 | [],_=>rfl
 | x::xs,h=>by
   have ih:evs e xs=evs e2 xs:=afS fun t ht=>h t (by
    cases x <;> simp only [List.filterMap_cons] <;> first | exact List.mem_cons_of_mem _ ht | exact ht)
   cases x with
   | t n =>
     have : look e n=look e2 n:=h n (by simp)
     simp only [evs,Dp.ev,this,ih]
   | k d=>simp only [evs,Dp.ev,ih]
theorem alh {e e2:Env} {x:EO} (h:∀ t∈x.reads,look e t=look e2 t):x.wants e=x.wants e2:=by
 unfold EO.wants
 cases hg:x.guard with
 | none=>rfl
 | some g =>
   obtain ⟨t,b⟩:=g
   have : look e t=look e2 t:=h t (by simp [EO.reads,hg])
   simp only [this]
theorem WS {l l':Nat→Bool}:∀ {ts:List Tr} {e:Env},(∀ s∈ts,l s.i=l' s.i)→g_ l ts e=g_ l' ts e
 | [],_,_=>rfl
 | s::ts,e,h=>by
   simp only [g_,h s List.mem_cons_self]
   exact WS fun s hs=>h s (List.mem_cons_of_mem _ hs)
theorem WU {base:Nat} {l l':Nat→Bool}:∀ {ts:List Tr} {m:Mem},(∀ s∈ts,l s.i=l' s.i)→dB base l ts m=dB base l' ts m
 | [],_,_=>rfl
 | s::ts,e,h=>by
   simp only [dB,h s List.mem_cons_self]
   exact WU fun s hs=>h s (List.mem_cons_of_mem _ hs)
theorem vw.congr {c:Ctx} {e e2:Env} {a:Act} (h:vw c e a) (he:∀ t,look e2 t=look e t):vw c e2 a:=fun t d hd=>h t d (by rw [← he]; exact hd)
theorem ap4 {x y:EO} {t:Nat} (h:x.dst=some t) (hr:t∈y.reads):dep x y=true:=by
 simp [dep,h,hr]
theorem an6 {x y:EO} {t:Nat} (h:y.dst=some t) (hr:t∈x.reads):dep x y=true:=by
 simp [dep,h,hr]
theorem asy {x y:EO} {t:Nat} (h:x.dst=some t) (hr:y.dst=some t):dep x y=true:=by
 simp [dep,h,hr]
theorem FT {x y:EO} (h:ai6 x.k.cl y.k.cl=true) (ha:apart x.k y.k=false):dep x y=true:=by
 simp [dep,h,ha]
theorem AY {a b:K} (h:(a.isA && b.isA)=false):apart a b=false:=by
 cases a <;> cases b <;> first | rfl | simp [K.isA] at h
section
variable {P:Program} {w0:World} {N:Nat} {ops:Array Oper} {O:eP} {base:Nat}
def un (xs:List (Nat×EO)) (l:Array Bool):Nat:=(xs.filter fun y => !l.getD y.1 true).length
theorem alx {f f':Nat→Bool} {i:Nat} (hf:∀ k,f' k=if k=i then true else f k) (hi:f i=false):∀ (xs:List (Nat×EO)),
  (xs.filter fun y => !f' y.1).length≤(xs.filter fun y => !f y.1).length∧((∃ y∈xs,y.1=i)→(xs.filter fun y => !f' y.1).length<(xs.filter fun y => !f y.1).length)
 | []=>⟨Nat.le_refl _,fun ⟨y,h,_⟩=>by simp at h⟩
 | y::xs=>by
   obtain ⟨h1,h2⟩:=alx hf hi xs
   rw [List.filter_cons,List.filter_cons,hf y.1]
   by_cases hy:y.1=i
   ·rw [if_pos hy,hy,hi]
    simp only [Bool.not_true,Bool.not_false,if_true,Bool.false_eq_true,if_false,List.length_cons]
    exact ⟨by omega,fun _=>by omega⟩
   ·rw [if_neg hy]
    have h3:(∃ z∈y::xs,z.1=i)→∃ z∈xs,z.1=i:=by
     rintro ⟨z,hz,e⟩
     rcases List.mem_cons.1 hz with rfl | hz
     ·exact absurd e hy
     ·exact ⟨z,hz,e⟩
    cases f y.1
    ·simp only [Bool.not_false,if_true,List.length_cons]
     exact ⟨by omega,fun h=>by have := h2 (h3 h); omega⟩
    ·simp only [Bool.not_true,Bool.false_eq_true,if_false]
     exact ⟨h1,fun h=>h2 (h3 h)⟩
theorem arK {i:Nat} {l:Array Bool} (hi:l.getD i true=false) (xs:List (Nat×EO)) (hx:∃ y∈xs,y.1=i):un xs (l.setIfInBounds i true)<un xs l:=by
 have hlt:i<l.size:=by
  rcases Nat.lt_or_ge i l.size with h | h
  ·exact h
  ·simp [Array.getElem?_eq_none h] at hi
 refine (alx (f:=fun k=>l.getD k true) (f':=fun k=>(l.setIfInBounds i true).getD k true) (i:=i) (fun k=>?_) hi xs).2 hx
 by_cases hk:k=i
 ·subst hk; simp [hlt]
 ·rw [getD_set_ne true (Ne.symm hk),if_neg hk]
theorem Good.step {l:Array Bool} (hg:Good ops l) {i:Nat} (hi:i∈Region.ready .any ops l):Good ops (l.setIfInBounds i true):=by
 obtain ⟨h0,o,ho,hall⟩:=mem_ready.1 hi
 refine ⟨by simpa using hg.1,fun j o' ho' hl e he hb=>getD_set_true ?_⟩
 by_cases hij:i=j
 ·subst hij
  rw [ho] at ho'
  cases ho'
  exact hall e he hb
 ·rw [getD_set_ne false hij] at hl
  exact hg.2 j o' ho' hl e he hb
theorem an9 (hO:jH P w0 O) {xs:List (Nat×EO)} (hc:Checked P N ops xs) {e0 e':Env} {m0 m':Mem} {ts:List Tr} (ht:nU O base e0 m0 ts e' m') (hx:ts.map (fun t=>(t.i,t.x))=xs)
  {l:Array Bool} (hg:Good ops l) {i:Nat} (hi:i∈Region.ready .any ops l) (hix:∃ y∈xs,y.1=i) {c:Ctx} {a:Act}
  (hs:St w0 N c (g_ (fun k=>l.getD k false) ts e0) (dB base (fun k=>l.getD k false) ts m0) a) {Kn:Act→World→Prop} {Q:Exit→Act→World→Prop}
  (hk:∀ a' c',St w0 N c' (g_ (fun k=>(l.setIfInBounds i true).getD k false) ts e0) (dB base (fun k=>(l.setIfInBounds i true).getD k false) ts m0) a' →
   Step c (dB base (fun k=>l.getD k false) ts m0) c' (dB base (fun k=>(l.setIfInBounds i true).getD k false) ts m0)→Kn a' c'.w):wpOp P ops Q i Kn a c.w:=by
 obtain ⟨h0,o,ho,hall⟩:=mem_ready.1 hi
 obtain ⟨⟨i',x⟩,hmem,e1⟩:=hix
 simp only at e1
 subst e1
 obtain ⟨o',ho',hchk⟩:=hc.each _ hmem
 simp only at ho' hchk
 rw [ho] at ho'
 cases ho'
 obtain ⟨s,hsmem,hse⟩:=List.mem_map.1 (hx ▸ hmem)
 obtain ⟨t1,t2,rfl⟩:=List.append_of_mem hsmem
 obtain ⟨si,sx,d,m1⟩:=s
 simp only [Prod.mk.injEq] at hse
 obtain ⟨rfl,rfl⟩:=hse
 obtain ⟨ek,mk,q1,q2,q3⟩:=ht.split
 simp only at q2 q3
 have hpw:=hc.pairs
 rw [← hx,List.pairwise_map,List.pairwise_append,List.pairwise_cons] at hpw
 obtain ⟨_,⟨hb2,hp2⟩,hb1⟩:=hpw
 have hsz:=hg.1
 have hlt:si<l.size:=by rw [hsz]; exact (Array.getElem?_eq_some_iff.1 ho).1
 have hl0:l.getD si false=false:=by
  simp [hlt] at h0 ⊢
  exact h0
 have B1:∀ y∈t1,dep y.x sx=true→l.getD y.i false=true:=fun y hy hd=>(hb1 y hy _ List.mem_cons_self).2 hd l o hg ho hall
 have N1:∀ y∈t1,y.i≠si:=fun y hy=>(hb1 y hy _ List.mem_cons_self).1
 have opOf:∀ k,l.getD k false=true→∃ o,ops[k]?=some o:=fun k hk=>by
  have : k<ops.size:=by
   rcases Nat.lt_or_ge k ops.size with h | h
   ·exact h
   ·rw [← hsz] at h
    simp [Array.getElem?_eq_none h] at hk
  exact ⟨ops[k],by simp [this]⟩
 have B2:∀ y∈t2,dep sx y.x=true→l.getD y.i false=false:=fun y hy hd=>by
  cases hl:l.getD y.i false with
  | false=>rfl
  | true =>
    obtain ⟨oy,hoy⟩:=opOf _ hl
    have := (hb2 y hy).2 hd l oy hg hoy (hg.2 _ _ hoy hl)
    rw [hl0] at this
    cases this
 have N2:∀ y∈t2,y.i≠si:=fun y hy=>Ne.symm (hb2 y hy).1
 have acl:∀ {a b:K},a.acts=true→b.acts=true→ai6 a.cl b.cl=true:=fun {a b} ha hb=>by
  unfold K.acts at ha hb
  cases h1:a.cl <;> rw [h1] at ha <;> simp at ha <;> cases h2:b.cl <;> rw [h2] at hb <;> simp at hb <;> rfl
 have P2:t2.Pairwise (fun y x=>y.x.k.acts=true→x.x.k.acts=true→(y.x.k.isA && x.x.k.isA)=false→l.getD x.i false=true→l.getD y.i false=true):=by
  refine hp2.imp fun {y x} h ha hb hn hl=>?_
  obtain ⟨ox,hox⟩:=opOf _ hl
  exact h.2 (FT (acl ha hb) (AY hn)) l ox hg hox (hg.2 _ _ hox hl)
 let lf:Nat→Bool:=fun k=>l.getD k false
 let lf':Nat→Bool:=fun k=>(l.setIfInBounds si true).getD k false
 have hlf':∀ k,k≠si→lf' k=lf k:=fun k hk=>getD_set_ne false (Ne.symm hk)
 have hlfi:lf' si=true:=by simp [lf',hlt]
 have hE:g_ lf (t1++⟨si,sx,d,m1⟩::t2) e0=g_ lf t2 (g_ lf t1 e0):=by
  rw [Ui]
  simp only [g_]
  rw [show lf si=false from hl0]
  rfl
 have hM:dB base lf (t1++⟨si,sx,d,m1⟩::t2) m0=dB base lf t2 (dB base lf t1 m0):=by
  rw [Uj]
  simp only [dB]
  rw [show lf si=false from hl0]
  rfl
 have hE':g_ lf' (t1++⟨si,sx,d,m1⟩::t2) e0=g_ lf t2 (tC (g_ lf t1 e0) sx.dst d):=by
  rw [Ui]
  simp only [g_]
  rw [hlfi,WS (l:=lf') (l':=lf) fun s hs=>hlf' _ (N1 s hs),WS (l:=lf') (l':=lf) fun s hs=>hlf' _ (N2 s hs)]
  rfl
 have hM':dB base lf' (t1++⟨si,sx,d,m1⟩::t2) m0=dB base lf t2 (bif sx.k.acts then Tr.upd base ⟨si,sx,d,m1⟩ (dB base lf t1 m0) else dB base lf t1 m0):=by
  rw [Uj]
  simp only [dB]
  rw [hlfi,WU (l:=lf') (l':=lf) fun s hs=>hlf' _ (N1 s hs),WU (l:=lf') (l':=lf) fun s hs=>hlf' _ (N2 s hs)]
  simp
 have hread:∀ t∈sx.reads,look (g_ lf t2 (g_ lf t1 e0)) t=look ek t:=by
  intro t ht
  rw [U_ lf t t2 _ fun y hy hd=>B2 y hy (an6 hd ht)]
  exact Xv lf t q1 (fun y hy hd=>B1 y hy (ap4 hd ht)) rfl
 have hrun:sx.run O base (g_ lf t2 (g_ lf t1 e0)) (dB base lf t2 (dB base lf t1 m0))=some (tC (g_ lf t2 (g_ lf t1 e0)) sx.dst d,dB base lf t2 (bif sx.k.acts then Tr.upd base ⟨si,sx,d,m1⟩ (dB base lf t1 m0) else dB base lf t1 m0)):=by
  have hA:sx.k.acts=true→sx.k.isA=false→dB base lf t2 (dB base lf t1 m0)=mk∧dB base lf t2 m1=m1:=fun ha hn=>by
   rw [JD lf q1 fun y hy hya=>B1 y hy (FT (acl hya ha) (AY (by simp [hn])))]
   exact ⟨SG lf t2 _ fun y hy hya=>B2 y hy (FT (acl ha hya) (AY (by simp [hn]))),SG lf t2 _ fun y hy hya=>B2 y hy (FT (acl ha hya) (AY (by simp [hn])))⟩
  have hB:∀ {j:Nat} {z:List D},sx.k = .alloc j z→(mk[base+j]?=some .free→(dB base lf t2 (dB base lf t1 m0))[base+j]?=some .free)∧∀ v,dB base lf t2 ((dB base lf t1 m0).set (base+j) v)=(dB base lf t2 (dB base lf t1 m0)).set (base+j) v:=by
   intro j z hk
   have ha:sx.k.acts=true:=by rw [hk]; rfl
   have hL:Gq (dB base lf t1 m0) mk:=agb lf q1 (fun y hy hya hyn=>B1 y hy (FT (acl hya ha) (AY (by simp [hyn])))) (.refl _)
   obtain ⟨p1,p2⟩:=WV (base:=base) lf (j:=j) t2 (dB base lf t1 m0) fun y hy hya hyl=>by
    have hd:dep sx y.x=false:=by
     cases hd:dep sx y.x with
     | false=>rfl
     | true =>
       have := B2 y hy hd
       rw [show l.getD y.i false=true from hyl] at this
       cases this
    have hap:apart sx.k y.x.k=true:=by
     cases h:apart sx.k y.x.k with
     | true=>rfl
     | false=>rw [FT (acl ha hya) h] at hd; cases hd
    rw [hk] at hap
    cases hyk:y.x.k <;> rw [hyk] at hap <;> simp only [apart] at hap <;> try (cases hap; done)
    refine ⟨_,_,rfl,fun e=>?_⟩
    subst e
    rw [Nat.beq_refl] at hap
    cases hap
   exact ⟨fun hf=>by rw [p1]; exact hL.free hf,p2⟩
  unfold EO.run
  rw [alh hread]
  rcases q2 with ⟨hw,rfl,rfl⟩ | ⟨hw,ds,hds,hr⟩
  ·rw [hw]
   simp only [Option.bind_some,cond_false]
   cases ha:sx.k.acts with
   | false=>rfl
   | true =>
     simp only [cond_true]
     cases hn:sx.k.isA with
     | false=>rw [VE (t:=⟨si,sx,.aH [],m1⟩) hn,(hA ha hn).1,(hA ha hn).2]
     | true =>
       obtain ⟨j,z,hka⟩:=Jw hn
       have : Tr.upd base ⟨si,sx,.aH [],m1⟩ (dB base lf t1 m0)=dB base lf t1 m0:=by simp [Tr.upd,hka]
       rw [this]
  ·rw [hw]
   simp only [Option.bind_some,cond_true]
   rw [afS (e2:=ek) fun t ht=>hread t (by simp only [EO.reads]; exact List.mem_append_right _ ht),hds]
   simp only [Option.bind_some]
   cases hcl:sx.k.cl with
   | p =>
     have ha:sx.k.acts=false:=by simp [K.acts,hcl]
     rw [(K.arH hcl hr).2,ha]
     rfl
   | r =>
     have ha:sx.k.acts=false:=by simp [K.acts,hcl]
     have nA:sx.k.isA=false:=by
      cases hn:sx.k.isA with
      | false=>rfl
      | true=>obtain ⟨j,z,hka⟩:=Jw hn; rw [hka] at hcl; cases hcl
     have h1:dB base lf t1 m0=mk:=JD lf q1 fun y hy hya=>B1 y hy (FT (by
      unfold K.acts at hya
      cases h1:y.x.k.cl <;> rw [h1] at hya <;> simp at hya <;> rw [hcl] <;> rfl) (AY (by rw [nA]; simp)))
     have h2:Aq mk (dB base lf t2 mk):=by
      have q3':nU O base (tC ek sx.dst d) mk t2 e' m':=by
       have : m1=mk:=(K.anc hcl hr).1
       rw [this] at q3
       exact q3
      exact Dc lf q3' (.refl _) (.inl rfl) (fun y hy hyw=>B2 y hy (FT (by rw [hcl,hyw]; rfl) (AY (by rw [nA]; simp)))) P2
     rw [h1,(K.anc hcl hr).2 _ h2,ha]
     simp only [Option.bind_some,cond_false,h1]
   | a =>
     have ha:sx.k.acts=true:=by simp [K.acts,hcl]
     cases hn:sx.k.isA with
     | false =>
       rw [(hA ha hn).1,hr,ha]
       simp only [Option.bind_some,cond_true,VE (t:=⟨si,sx,d,m1⟩) hn,(hA ha hn).2]
     | true =>
       obtain ⟨j,z,hka⟩:=Jw hn
       rw [ha]
       rw [hka] at hr ⊢
       simp only [K.run,Ew] at hr ⊢
       split at hr <;> try (simp at hr; done)
       unfold t_ at hr
       split at hr <;> try (simp at hr; done)
       rename_i hm
       simp only [Option.some.injEq,Prod.mk.injEq] at hr
       obtain ⟨rfl,rfl⟩:=hr
       have hu:Tr.upd base ⟨si,sx,.loc (base+j) 0,mk.set (base+j) (.live z)⟩ (dB base lf t1 m0)=(dB base lf t1 m0).set (base+j) (.live z):=by simp [Tr.upd,hka]
       simp only [t_,(hB hka).1 hm,cond_true,hu,(hB hka).2,Option.bind_some]
   | w =>
     have ha:sx.k.acts=true:=by simp [K.acts,hcl]
     have hn:sx.k.isA=false:=by
      cases hn:sx.k.isA with
      | false=>rfl
      | true=>obtain ⟨j,z,hka⟩:=Jw hn; rw [hka] at hcl; cases hcl
     rw [(hA ha hn).1,hr,ha]
     simp only [Option.bind_some,cond_true,VE (t:=⟨si,sx,d,m1⟩) hn,(hA ha hn).2]
 have hs':St w0 N c (g_ lf t2 (g_ lf t1 e0)) (dB base lf t2 (dB base lf t1 m0)) a:=by rw [← hE,← hM]; exact hs
 refine EO.sound hO ho hchk hs' hrun fun a' c' hst hstep=>hk a' c' ?_ ?_
 ·refine ⟨hst.size,hst.defers,?_,?_,hst.base⟩
  ·refine hst.env.congr fun t=>?_
   show look (g_ lf' (t1++⟨si,sx,d,m1⟩::t2) e0) t=_
   rw [hE']
   exact Xw lf t t2 _ _ (fun y hy z hz hyz=>B2 y hy (asy hz hyz)) rfl
  ·show Inv c' (dB base lf' (t1++⟨si,sx,d,m1⟩::t2) m0)
   rw [hM']
   exact hst.inv
 ·show Step c (dB base lf (t1++⟨si,sx,d,m1⟩::t2) m0) c' (dB base lf' (t1++⟨si,sx,d,m1⟩::t2) m0)
  rw [hM,hM']
  exact hstep
theorem af' {l:Nat→Bool} {e':Env} {m':Mem}:∀ {ts:List Tr} {e:Env} {m:Mem},nU O base e m ts e' m'→(∀ s∈ts,l s.i=true)→g_ l ts e=e'
 | [],e,m,h,_=>by cases h; rfl
 | s::ts,e,m,h,hl=>by
   cases h with
   | cons h hs =>
     have := hl _ List.mem_cons_self
     simp only at this
     simp only [g_,this,cond_true]
     exact af' hs fun s hs=>hl s (List.mem_cons_of_mem _ hs)
theorem ZI (n i:Nat):(Array.replicate n false).getD i false=false:=by
 rw [Array.getD_eq_getD_getElem?,Array.getElem?_replicate]
 split <;> rfl
theorem adL:∀ (n:Nat) (ts:List Tr) (e:Env),g_ (fun k=>(Array.replicate n false).getD k false) ts e=e
 | n,[],e=>rfl
 | n,s::ts,e=>by
   simp only [g_]
   have : (Array.replicate n false).getD s.i false=false:=ZI n s.i
   rw [this]
   exact adL n ts e
theorem WW:∀ (n:Nat) (ts:List Tr) (m:Mem),dB base (fun k=>(Array.replicate n false).getD k false) ts m=m
 | n,[],e=>rfl
 | n,s::ts,e=>by
   simp only [dB]
   have : (Array.replicate n false).getD s.i false=false:=ZI n s.i
   rw [this]
   exact WW n ts e
theorem an8 (hO:jH P w0 O) {xs:List (Nat×EO)} (hc:Checked P N ops xs) (hall:∀ i,i<ops.size→∃ y∈xs,y.1=i)
  (hfin:∀ l:Array Bool,l.size=ops.size→Region.ready .any ops l=[]→∀ x∈xs,l.getD x.1 false=true)
  {e0 e':Env} {m0 m':Mem} {ts:List Tr} (ht:nU O base e0 m0 ts e' m') (hx:ts.map (fun t=>(t.i,t.x))=xs) {c0:Ctx} {Q:Exit→Act→World→Prop}
  (hq:∀ a' c',St w0 N c' e' m' a'→Step c0 m0 c' m'→Q .normal a' c'.w) :
  ∀ (fuel:Nat) (l:Array Bool) (a:Act) (c:Ctx),Good ops l→un xs l≤fuel→St w0 N c (g_ (fun k=>l.getD k false) ts e0) (dB base (fun k=>l.getD k false) ts m0) a →
    Step c0 m0 c (dB base (fun k=>l.getD k false) ts m0)→wpAny P .any ops Q fuel l a c.w:=by
 have done:∀ (l:Array Bool) (a:Act) (c:Ctx),Good ops l→Region.ready .any ops l=[]→St w0 N c (g_ (fun k=>l.getD k false) ts e0) (dB base (fun k=>l.getD k false) ts m0) a →
   Step c0 m0 c (dB base (fun k=>l.getD k false) ts m0)→Q .normal a c.w:=by
  intro l a c hg hr hs hst
  have hl:∀ s∈ts,l.getD s.i false=true:=fun s hs=>hfin l hg.1 hr (s.i,s.x) (by rw [← hx]; exact List.mem_map.2 ⟨s,hs,rfl⟩)
  rw [af' ht hl,JD _ ht fun s hs _=>hl s hs] at hs
  rw [JD _ ht fun s hs _=>hl s hs] at hst
  exact hq a c hs hst
 intro fuel
 induction fuel with
 | zero =>
   intro l a c hg hu hs hst
   have hr:Region.ready .any ops l=[]:=by
    cases hr:Region.ready .any ops l with
    | nil=>rfl
    | cons i is =>
      have hi:i∈Region.ready .any ops l:=by rw [hr]; exact List.mem_cons_self
      obtain ⟨h0,o,ho,_⟩:=mem_ready.1 hi
      have := arK h0 xs (hall i (Array.getElem?_eq_some_iff.1 ho).1)
      omega
   exact ⟨hr,done l a c hg hr hs hst⟩
 | succ fuel ih =>
   intro l a c hg hu hs hst
   refine ⟨fun hr=>done l a c hg hr hs hst,fun i hi=>?_⟩
   obtain ⟨h0,o,ho,_⟩:=mem_ready.1 hi
   have hlt:=arK h0 xs (hall i (Array.getElem?_eq_some_iff.1 ho).1)
   exact an9 hO hc ht hx hg hi (hall i (Array.getElem?_eq_some_iff.1 ho).1) hs fun a' c' hs' hst'=>ih _ a' c' (hg.step hi) (by omega) hs' (hst.trans hst')
theorem ajE (hm:P.follows .mixedOrders=true) (hO:jH P w0 O) {id:Nat} {xs:List (Nat×EO)} (hc:abt P N ops xs=true) {c:Ctx} {e e':Env} {m m':Mem} {a:Act} (hs:St w0 N c e m a)
  (h:oN O base (xs.map (·.2)) e m=some (e',m')) {Q:Exit→Act→World→Prop} (hq:∀ a' c',St w0 N c' e' m' a'→Step c m c' m'→Q .normal a' c'.w):(Code.region id ops true).wp P Q a c.w:=by
 simp only [abt,Bool.and_eq_true] at hc
 obtain ⟨h1,_,h3⟩:Checked P N ops xs∧_:=ah_ xs [] hc.2 (fun y hy=>by simp at hy)
 obtain ⟨ts,ht,hx⟩:=ZT xs e m e' m' h
 let c1:Ctx:={ c with w:={ c.w with drawn:=c.w.drawn+1 } }
 have hst:Step c m c1 m:=Step.world _ (Nat.le_refl _) (fun _ _=>rfl) ⟨rfl,rfl⟩ hs.inv
 refine wp_region_any hm ?_
 have hgood:Good ops (Array.replicate ops.size false):=⟨by simp,fun i o _ hl=>by rw [ZI] at hl; cases hl⟩
 refine an8 (c0:=c) hO h1 (fun i hi=>?_) (fun l hl hr=>h3 l hl hr (fun y hy=>by simp at hy)) ht hx hq ops.size _ a c1 hgood ?_ ?_ ?_
 ·have := List.all_eq_true.1 hc.1.1 i (List.mem_range.2 hi)
  obtain ⟨y,hy,e⟩:=List.any_eq_true.1 this
  exact ⟨y,hy,Nat.eq_of_beq_eq_true e⟩
 ·exact Nat.le_trans (List.length_filter_le _ _) (Nat.le_of_ble_eq_true hc.1.2)
 ·rw [adL,WW]
  exact ⟨hs.size,hs.defers,hs.env.mono hst.ext,Inv.world _ (Nat.le_refl _) (fun _ _=>rfl) hs.inv,hs.base.ext hst.ext⟩
 ·rw [WW]
  exact hst
end
end Go.Ev
end
