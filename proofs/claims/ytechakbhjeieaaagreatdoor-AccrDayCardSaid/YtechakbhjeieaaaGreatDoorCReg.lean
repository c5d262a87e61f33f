/- Part of accrDay_card. -/
import Derived.Test.YtechakbhjeieaaaGreatDoorCCall
set_option linter.unusedVariables false
set_option linter.unusedSimpArgs false
section
namespace Go.Ev
def ab7 (ops:Array Oper) (g g':Option (Nat×Bool)):Bool :=
 match g,g' with
 | none,none=>true
 | some (t,b),some (j,b')=>(b==b') && (match (ops[j]?).bind (·.dst) with | some t'=>Nat.beq t t' | none=>false)
 | _,_=>false
def adn (N:Nat) (d d':Option Nat):Bool :=
 match d,d' with
 | none,none=>true
 | some t,some t'=>Nat.beq t t' && Nat.blt t N
 | _,_=>false
def ado (P:Program) (N:Nat) (ops:Array Oper) (x:EO) (o:Oper):Bool :=
 (match bJ P x.k o.op with | some ys=>aeY x.xs ys | none=>false) && adn N x.dst o.dst && ab7 ops x.guard o.guard
structure St (w0:World) (N:Nat) (c:Ctx) (e:Env) (m:Mem) (a:Act):Prop where
 size:N≤a.tmps.size
 defers:a.defers=[]
 env:Ah c e a
 inv:Inv c m
 base:Base w0 c
section
variable {P:Program} {w0:World} {N:Nat} {ops:Array Oper} {O:aB}
theorem ak6 {d d':Option Nat} (h:adn N d d'=true):d=d'∧∀ t,d=some t→t<N:=by
 unfold adn at h
 split at h
 ·exact ⟨rfl,by simp⟩
 ·simp only [Bool.and_eq_true,Nat.blt_eq] at h
  have := Nat.eq_of_beq_eq_true h.1
  exact ⟨by rw [this],fun t ht=>by simp at ht; omega⟩
 ·simp at h
theorem Ah.put {c:Ctx} {e:Env} {a:Act} (he:Ah c e a) {dst:Option Nat} {d:D} {v:Value} (hd:∀ t,dst=some t→t<a.tmps.size) (hr:Rep c d v):Ah c (yJ e dst d) (a.put dst v):=by
 cases dst with
 | none=>exact he
 | some t =>
   intro x d' hx
   simp only [yJ,look] at hx
   have hlt:=hd t rfl
   by_cases htx:t=x
   ·subst htx
    simp at hx
    subst hx
    simpa [Act.put,hlt] using hr
   ·have : Nat.beq t x=false:=by
     cases hb:Nat.beq t x with
     | false=>rfl
     | true=>exact absurd (Nat.eq_of_beq_eq_true hb) htx
    simp [this] at hx
    have := he x d' hx
    simpa [Act.put,Array.getElem?_setIfInBounds_ne htx] using this
theorem St.put {c c':Ctx} {e:Env} {m m':Mem} {a:Act} (hs:St w0 N c e m a) {dst dst':Option Nat} (hd:adn N dst dst'=true) {d:D} {v:Value} (hr:Rep c' d v) (hi:Inv c' m') (hst:Ext c c') :
  St w0 N c' (yJ e dst d) m' (a.put dst' v):=by
 obtain ⟨rfl,hlt⟩:=ak6 hd
 refine ⟨?_,?_,(hs.env.mono hst).put (fun t ht=>Nat.lt_of_lt_of_le (hlt t ht) hs.size) hr,hi,hs.base.ext hst⟩
 ·cases dst <;> simpa [Act.put] using hs.size
 ·cases dst <;> simpa [Act.put] using hs.defers
theorem akA {tmps:Array Value} {j t:Nat} {b:Bool} (h:(ops[j]?).bind (·.dst)=some t) (ht:tmps.getD t undef = .bool b):yielded ops tmps j=some b:=by
 unfold yielded
 rw [h]
 rw [Array.getD_eq_getD_getElem?] at ht
 cases hg:tmps[t]? with
 | none=>rw [hg] at ht; simp [Go.undef] at ht
 | some v=>rw [hg] at ht; simp at ht; subst ht; simp [hg]
theorem akB {tmps:Array Value} {j t:Nat} {vs:Array Value} (h:(ops[j]?).bind (·.dst)=some t) (ht:tmps.getD t undef = .tuple vs):yielded ops tmps j=none:=by
 unfold yielded
 rw [h]
 rw [Array.getD_eq_getD_getElem?] at ht
 cases hg:tmps[t]? with
 | none=>simp [hg]
 | some v=>rw [hg] at ht; simp at ht; subst ht; simp [hg]
theorem asB {c:Ctx} {e:Env} {a:Act} (he:Ah c e a) {x:EO} {o:Oper} (hc:ab7 ops x.guard o.guard=true) {b:Bool} (h:x.wants e=some b):Region.wanted o (yielded ops a.tmps)=b:=by
 unfold EO.wants at h
 unfold Region.wanted
 unfold ab7 at hc
 split at hc
 ·rename_i h1 h2
  rw [h1] at h
  rw [h2]
  simpa using h
 ·rename_i t b1 j b2 h1 h2
  rw [h1] at h
  rw [h2]
  simp only [Bool.and_eq_true,beq_iff_eq] at hc
  obtain ⟨rfl,hc⟩:=hc
  split at hc
  ·rename_i t' ht'
   have := Nat.eq_of_beq_eq_true hc
   subst this
   simp only at h ⊢
   cases hl:look e t with
   | none=>rw [hl] at h; simp at h
   | some d =>
     have hr:=he t d hl
     rw [hl] at h
     split at h
     ·rename_i b' e1
      simp at e1 h
      subst e1
      rw [akA ht' hr.vI,← h]
      cases b' <;> cases b1 <;> rfl
     ·rename_i e1
      simp at e1 h
      subst e1
      obtain ⟨vs,_,h1,_⟩:=hr.QA
      rw [akB ht' h1,h]
      rfl
     ·simp at h
  ·simp at hc
 ·simp at hc
theorem EO.sound (hO:oG P w0 O) {x:EO} {i:Nat} {o:Oper} (ho:ops[i]?=some o) (hc:ado P N ops x o=true) {c:Ctx} {e e':Env} {m m':Mem} {a:Act} (hs:St w0 N c e m a) {base:Nat} (h:x.run O base e m=some (e',m'))
  {Kn:Act→World→Prop} {Q:Exit→Act→World→Prop} (hk:∀ a' c',St w0 N c' e' m' a'→Step c m c' m'→Kn a' c'.w):wpOp P ops Q i Kn a c.w:=by
 simp only [ado,Bool.and_eq_true] at hc
 obtain ⟨⟨hc1,hc2⟩,hc3⟩:=hc
 unfold EO.run at h
 rw [Option.bind_eq_some_iff] at h
 obtain ⟨b,hw,h⟩:=h
 have hw':=asB hs.env hc3 hw
 unfold wpOp
 simp only [ho,hw']
 cases b with
 | false =>
   simp at h
   obtain ⟨rfl,rfl⟩:=h
   simp only [Bool.false_eq_true,if_false]
   exact hk _ c (hs.put hc2 .amG hs.inv (.refl c)) (.refl c m)
 | true =>
   simp only [cond_true] at h
   rw [Option.bind_eq_some_iff] at h
   obtain ⟨ds,hds,h⟩:=h
   rw [Option.bind_eq_some_iff] at h
   obtain ⟨⟨d,m1⟩,hrun,h⟩:=h
   simp at h
   obtain ⟨rfl,rfl⟩:=h
   split at hc1
   ·rename_i ys hys
    simp only [if_true]
    refine .inl (K.sound hO hs.base ⟨⟨ys,hys,amb hs.env hc1 hds⟩,hs.inv⟩ hrun Kn Q fun v c' h1 h2 h3=>hk _ c' (hs.put hc2 h1 h2 h3.ext) h3)
   ·simp at hc1
def qV (P:Program) (N:Nat) (ops:Array Oper):List EO→List Oper→Bool
 | [],[]=>true
 | x::xs,o::os=>ado P N ops x o && qV P N ops xs os
 | _,_=>false
theorem agq (hO:oG P w0 O) {base:Nat} {Q:Exit→Act→World→Prop} {e':Env} {m':Mem}:∀ (xs:List EO) (os:List Oper) (k:Nat) (hk:∀ j o,os[j]?=some o→ops[k+j]?=some o) (hc:qV P N ops xs os=true)
  (c:Ctx) (e:Env) (m:Mem) (a:Act) (hs:St w0 N c e m a) (h:uP O base xs e m=some (e',m')) (hq:∀ a' c',St w0 N c' e' m' a'→Step c m c' m'→Q .normal a' c'.w),wpOps P ops Q (List.range' k os.length) a c.w
 | [],[],k,hk,hc,c,e,m,a,hs,h,hq=>by
   simp [uP] at h
   obtain ⟨rfl,rfl⟩:=h
   exact hq a c hs (.refl c m)
 | [],_::_,k,hk,hc,c,e,m,a,hs,h,hq=>by simp [qV] at hc
 | _::_,[],k,hk,hc,c,e,m,a,hs,h,hq=>by simp [qV] at hc
 | x::xs,o::os,k,hk,hc,c,e,m,a,hs,h,hq=>by
   simp only [qV,Bool.and_eq_true] at hc
   simp only [uP,Option.bind_eq_some_iff] at h
   obtain ⟨⟨e1,m1⟩,h1,h2⟩:=h
   simp only [List.length_cons,List.range'_succ]
   rw [wpOps_cons]
   refine EO.sound hO (by simpa using hk 0 o rfl) hc.1 hs h1 fun a1 c1 hs1 hst1=>?_
   exact agq hO xs os (k+1) (fun j o' hj=>by rw [show k+1+j=k+(j+1) by omega]; exact hk (j+1) o' (by simpa using hj)) hc.2 c1 e1 m1 a1 hs1 h2
    fun a2 c2 hs2 hst2=>hq a2 c2 hs2 (hst1.trans hst2)
theorem akg (hO:oG P w0 O) {id:Nat} {xs:List EO} (hc:qV P N ops xs ops.toList=true) {c:Ctx} {e e':Env} {m m':Mem} {a:Act} (hs:St w0 N c e m a) {base:Nat} (h:uP O base xs e m=some (e',m')) {Q:Exit→Act→World→Prop}
  (hq:∀ a' c',St w0 N c' e' m' a'→Step c m c' m'→Q .normal a' c'.w):(Code.region id ops false).wp P Q a c.w:=by
 refine wp_region ?_
 have := agq (ops:=ops) hO xs ops.toList 0 (fun j o hj=>by simpa using hj) hc c e m a hs h hq
 rw [List.range_eq_range']
 simpa using this
end
end Go.Ev
end
section
namespace Go.Ev
inductive Cl where
 | p | r | a | w
 deriving DecidableEq,Inhabited
def K.cl:K→Cl
 | .ak | .aU _ | .ZQ => .r
 | .b2s => .w
 | .alloc .. | .box .. | .Zm .. | .G6 .. | .mkm _ => .a
 | .store _ | .app .. | .uf _ | .bK _ | .FW | .ZR | .acK _ => .w
 | _ => .p
def FM (m m2:Mem):Prop:=∀ (i:Nat) (s:Slot),m[i]?=some s→s ≠ .free→m2[i]?=some s
theorem FM.refl (m:Mem):FM m m:=fun _ _ h _=>h
theorem FM.trans {m m2 m3:Mem} (h:FM m m2) (h':FM m2 m3):FM m m3:=fun i s hs hn=>h' i s (h i s hs hn) hn
theorem afP {m m2:Mem} (h:FM m m2) {d:D} {r:List D×Nat} (ha:V9 m d=some r):V9 m2 d=some r:=by
 cases d <;> simp only [V9] at ha ⊢ <;> try (simp at ha; done)
 case ref=>exact ha
 case loc b off =>
  cases hm:m[b]? with
  | none=>rw [hm] at ha; simp at ha
  | some s =>
    rw [hm] at ha
    have hn:s ≠ .free:=by rintro rfl; simp at ha
    rw [h b s hm hn]
    exact ha
section
variable {O:aB} {base:Nat} {ds:List D} {m m':Mem} {d:D}
theorem K.asK {k:K} (hk:k.cl = .p) (h:k.run O base ds m=some (d,m')):m'=m∧∀ m2,k.run O base ds m2=some (d,m2):=by
 cases k <;> simp only [K.cl] at hk <;> try (cases hk; done)
 all_goals simp only [K.run] at h ⊢
 all_goals try (simp at h; done)
 case acM=>simp at h; obtain ⟨rfl,rfl⟩:=h; exact ⟨rfl,fun _=>rfl⟩
 case aT=>unfold aaf at *; split at h <;> simp_all
 case pick=>unfold Qj at *; split at h <;> simp_all
 case adO=>unfold OH at *; split at h <;> simp_all [Option.bind_eq_some_iff] <;> (try grind)
 case build=>unfold OG at *; simp_all [Option.bind_eq_some_iff]; grind
 case Em=>unfold Z9 at *; rw [cond_eq_ite] at h; simp only [cond_eq_ite]; split at h <;> simp_all [Option.bind_eq_some_iff] <;> (try grind)
 case qG=>unfold Le at *; split at h <;> simp_all
 case aj=>unfold gI at *; split at h <;> (try simp only [cond_eq_ite] at *) <;> simp_all [Option.bind_eq_some_iff] <;> (try grind)
 case sh=>unfold vg at *; split at h <;> simp_all [Option.bind_eq_some_iff] <;> (try grind)
 case gq=>unfold Gs at *; split at h <;> simp_all [Option.bind_eq_some_iff] <;> (try grind)
 case Zu=>unfold aac at *; split at h <;> simp_all
 case yV=>unfold Vs at *; split at h <;> simp_all
 case eqN=>unfold Vr at *; split at h <;> (try simp only [cond_eq_ite] at *) <;> simp_all
 case eqS=>unfold acV at *; split at h <;> simp_all
 case eqA=>unfold Z_ at *; split at h <;> simp_all [Option.bind_eq_some_iff] <;> (try grind)
 case neg=>unfold aag at *; split at h <;> simp_all
 case inv=>unfold acW at *; split at h <;> simp_all [Option.bind_eq_some_iff] <;> (try grind)
 case not=>unfold aah at *; split at h <;> simp_all
 case conv=>unfold UN at *; split at h <;> simp_all
 case Xy=>unfold UQ at *; split at h <;> simp_all
 case WU=>unfold aai at *; split at h <;> simp_all [Option.bind_eq_some_iff] <;> (try grind)
 case PL=>unfold RP at *; split at h <;> (try simp only [cond_eq_ite] at *) <;> simp_all [Option.bind_eq_some_iff] <;> (try grind)
 case aC=>unfold Qd at *; split at h <;> simp_all
 case bF=>unfold I9 at *; split at h <;> simp_all
 case aaS=>unfold Fj at *; split at h <;> simp_all
 case GZ=>unfold Qe at *; split at h <;> simp_all [Option.bind_eq_some_iff] <;> (try grind)
 case fld=>unfold aae at *; split at h <;> simp_all [Option.bind_eq_some_iff] <;> (try grind)
 case ext=>unfold aad at *; split at h <;> simp_all [Option.bind_eq_some_iff] <;> (try grind)
 case qY=>unfold UO at *; split at h <;> simp_all
 case bM=>unfold La at *; split at h <;> simp_all
 case mn=>unfold rMn at *; split at h <;> simp_all
 case mx=>unfold rMx at *; split at h <;> simp_all
 case ah=>unfold vY at *; rw [cond_eq_ite] at h; simp only [cond_eq_ite]; split at h <;> simp_all [Option.bind_eq_some_iff] <;> (try grind)
 case aaw=>unfold N8 at *; split at h <;> (try simp only [cond_eq_ite] at *) <;> simp_all <;> (try split at h) <;> simp_all
 case VF =>
  unfold Qk at *
  split at h <;> (try simp_all; done)
  ·rw [Option.bind_eq_some_iff] at h
   obtain ⟨b,hb,h⟩:=h
   cases b <;> simp at h <;> simp [hb,h]
 case eqF =>
  unfold acU at *
  split at h <;> (try simp_all; done)
  all_goals
   simp only [cond_eq_ite] at *
   repeat' split at h
   all_goals simp_all
 case KP =>
  unfold NZ at *
  split at h <;> (try simp_all; done)
  rw [Option.bind_eq_some_iff] at h
  obtain ⟨f,hf,h⟩:=h
  simp only [hf,Option.bind_some]
  unfold vY at *
  rw [cond_eq_ite] at h
  simp only [cond_eq_ite]
  split at h <;> simp_all [Option.bind_eq_some_iff] <;> (try grind)
theorem K.an9 {k:K} (hk:k.cl = .r) (h:k.run O base ds m=some (d,m')):m'=m∧∀ m2,FM m m2→k.run O base ds m2=some (d,m2):=by
 cases k <;> simp only [K.cl] at hk <;> try (cases hk; done)
 all_goals simp only [K.run] at h ⊢
 case ak =>
  unfold DC at *
  split at h
  ·simp [Option.bind_eq_some_iff] at h
   obtain ⟨cs,off,h1,x,h2,rfl,rfl⟩:=h
   refine ⟨rfl,fun m2 ha=>?_⟩
   simp [afP ha h1,h2]
  ·simp at h
 case aU =>
  unfold Lc at *
  split at h
  ·simp [Option.bind_eq_some_iff] at h
   obtain ⟨cs,off,h1,x,h2,rfl,rfl⟩:=h
   refine ⟨rfl,fun m2 ha=>?_⟩
   simp [afP ha h1,h2]
  ·simp at h
 case ZQ =>
  unfold Ld at *
  split at h <;> try (simp at h; done)
  ·rename_i b k
   split at h <;> simp at h
   rename_i ks hm
   obtain ⟨rfl,rfl⟩:=h
   refine ⟨rfl,fun m2 ha=>?_⟩
   have := ha _ _ hm (by simp)
   simp [this]
  ·simp only [Option.some.injEq,Prod.mk.injEq] at h; obtain ⟨rfl,rfl⟩:=h; exact ⟨rfl,fun m2 _=>rfl⟩
  ·simp only [Option.some.injEq,Prod.mk.injEq] at h; obtain ⟨rfl,rfl⟩:=h; exact ⟨rfl,fun m2 _=>rfl⟩
theorem Qa {base j:Nat} {cs:List D} {d0:D} (h:CX base j cs d0 m=some (d,m')):FM m m':=by
 unfold CX at h
 split at h
 ·rename_i hm
  simp at h
  obtain ⟨rfl,rfl⟩:=h
  intro i s hs hn
  rw [List.getElem?_set]
  split
  ·rename_i e
   subst e
   rw [hm] at hs
   exact absurd (Option.some.inj hs).symm hn
  ·exact hs
 ·simp at h
theorem K.awV {k:K} (hk:k.cl = .a) (h:k.run O base ds m=some (d,m')):FM m m':=by
 cases k <;> simp only [K.cl] at hk <;> try (cases hk; done)
 all_goals simp only [K.run] at h
 case alloc=>unfold OE at h; split at h; exact Qa h; simp at h
 case box=>unfold Z8 at h; split at h; (simp [Option.bind_eq_some_iff] at h; obtain ⟨x,_,h⟩:=h; exact Qa h); simp at h
 case Zm=>unfold UM at h; simp [Option.bind_eq_some_iff] at h; obtain ⟨x,_,h⟩:=h; exact Qa h
 case G6=>unfold Qh at h; split at h; (split at h; exact Qa h; simp at h); simp at h
 case mkm =>
  unfold XQ at h
  split at h <;> try (simp at h; done)
  split at h <;> simp at h
  rename_i hm
  obtain ⟨rfl,rfl⟩:=h
  intro i s hs hn
  rw [List.getElem?_set]
  split
  ·rename_i e
   subst e
   rw [hm] at hs
   exact absurd (Option.some.inj hs).symm hn
  ·exact hs
end
def EO.reads (x:EO):List Nat:=(match x.guard with | some (t,_)=>[t] | none=>[])++x.xs.filterMap fun | .t n=>some n | .k _=>none
def adR:Cl→Cl→Bool
 | .p,_ | _,.p=>false
 | .r,.r | .r,.a=>false
 | _,_=>true
def dep (x y:EO):Bool :=
 (match x.dst with | some t=>y.reads.contains t || (y.dst==some t) | none=>false) || (match y.dst with | some t=>x.reads.contains t | none=>false) || adR x.k.cl y.k.cl
def maskAt:List (Nat×EO×Nat)→Nat→Nat
 | [],_=>0
 | (i,_,m)::ds,k=>bif Nat.beq i k then m else maskAt ds k
def Ru (done:List (Nat×EO×Nat)):List Edge→Nat
 | []=>0
 | e::es=>(bif Region.binds .any e then 2^e.on ||| maskAt done e.on else 0) ||| Ru done es
def aie (P:Program) (N:Nat) (ops:Array Oper):List (Nat×EO)→List (Nat×EO×Nat)→Bool
 | [],_=>true
 | (i,x)::xs,done=>match ops[i]? with
   | none=>false
   | some o=>ado P N ops x o && !(done.any fun y=>Nat.beq y.1 i) && o.after.toList.all (fun e => !Region.binds .any e || done.any fun y=>Nat.beq y.1 e.on) &&
     done.all (fun y => !dep y.2.1 x || (Ru done o.after.toList).testBit y.1) && aie P N ops xs ((i,x,Ru done o.after.toList)::done)
def ab6 (P:Program) (N:Nat) (ops:Array Oper) (xs:List (Nat×EO)):Bool:=(List.range ops.size).all (fun i=>xs.any fun y=>Nat.beq y.1 i) && Nat.ble xs.length ops.size && aie P N ops xs []
def Good (ops:Array Oper) (l:Array Bool):Prop:=l.size=ops.size∧∀ (i:Nat) (o:Oper),ops[i]?=some o→l.getD i false=true→∀ e∈o.after,Region.binds .any e=true→l.getD e.on false=true
def Before (ops:Array Oper) (j i:Nat):Prop:=∀ (l:Array Bool) (o:Oper),Good ops l→ops[i]?=some o→(∀ e∈o.after,Region.binds .any e=true→l.getD e.on false=true)→l.getD j false=true
section
variable {P:Program} {N:Nat} {ops:Array Oper}
theorem apC {done:List (Nat×EO×Nat)} (hd:∀ y∈done,∀ j,y.2.2.testBit j=true→Before ops j y.1) {k j:Nat} (h:(maskAt done k).testBit j=true):Before ops j k:=by
 induction done with
 | nil=>simp [maskAt] at h
 | cons y done ih =>
   obtain ⟨i,x,m⟩:=y
   simp only [maskAt,cond_eq_ite] at h
   split at h
   ·rename_i e
    have := Nat.eq_of_beq_eq_true e
    subst this
    exact hd _ (List.mem_cons_self) j h
   ·exact ih (fun y hy=>hd y (List.mem_cons_of_mem _ hy)) h
theorem agm {done:List (Nat×EO×Nat)} {j:Nat}:∀ {es:List Edge},(Ru done es).testBit j=true→∃ e∈es,Region.binds .any e=true∧(j=e.on∨(maskAt done e.on).testBit j=true)
 | [],h=>by simp [Ru] at h
 | e::es,h=>by
   simp only [Ru,Nat.testBit_or,Bool.or_eq_true] at h
   rcases h with h | h
   ·rw [cond_eq_ite] at h
    split at h
    ·rename_i hb
     refine ⟨e,List.mem_cons_self,hb,?_⟩
     rw [Nat.testBit_or,Bool.or_eq_true] at h
     rcases h with h | h
     ·rw [Nat.testBit_two_pow] at h
      exact .inl (by simpa using h:e.on=j).symm
     ·exact .inr h
    ·simp at h
   ·obtain ⟨e',h1,h2,h3⟩:=agm h
    exact ⟨e',List.mem_cons_of_mem _ h1,h2,h3⟩
structure Checked (P:Program) (N:Nat) (ops:Array Oper) (xs:List (Nat×EO)):Prop where
 each:∀ y∈xs,∃ o,ops[y.1]?=some o∧ado P N ops y.2 o=true
 pairs:xs.Pairwise fun y x=>y.1≠x.1∧(dep y.2 x.2=true→Before ops y.1 x.1)
theorem aiW:∀ (xs:List (Nat×EO)) (done:List (Nat×EO×Nat)),aie P N ops xs done=true→(∀ y∈done,∀ j,y.2.2.testBit j=true→Before ops j y.1) →
  Checked P N ops xs∧(∀ y∈done,∀ x∈xs,y.1≠x.1∧(dep y.2.1 x.2=true→Before ops y.1 x.1)) ∧
  (∀ l:Array Bool,l.size=ops.size→Region.ready .any ops l=[]→(∀ y∈done,l.getD y.1 false=true)→∀ x∈xs,l.getD x.1 false=true)
 | [],done,_,_=>⟨⟨fun y hy=>by simp at hy,.nil⟩,fun y _ x hx=>by simp at hx,fun l _ _ _ x hx=>by simp at hx⟩
 | (i,x)::xs,done,h,hd=>by
   simp only [aie] at h
   split at h
   ·simp at h
   ·rename_i o ho
    simp only [Bool.and_eq_true,Bool.not_eq_true',List.any_eq_false,List.all_eq_true,Bool.or_eq_true,List.any_eq_true] at h
    obtain ⟨⟨⟨⟨h1,h2⟩,h3⟩,h4⟩,h5⟩:=h
    have hnew:∀ j,(Ru done o.after.toList).testBit j=true→Before ops j i:=by
     intro j hj l o' hg ho' hall
     rw [ho] at ho'
     cases ho'
     obtain ⟨e,he,hb,hj⟩:=agm hj
     have hl:=hall e (by simpa using he) hb
     rcases hj with rfl | hj
     ·exact hl
     ·have hlt:e.on<ops.size:=by
       rcases Nat.lt_or_ge e.on ops.size with h | h
       ·exact h
       ·rw [← hg.1] at h
        simp [Array.getElem?_eq_none h] at hl
      exact apC hd hj l ops[e.on] hg (by simp [hlt]) (hg.2 e.on _ (by simp [hlt]) hl)
    obtain ⟨q1,q2,q3⟩:=aiW xs _ h5 (fun y hy=>by
     rcases List.mem_cons.1 hy with rfl | hy
     ·exact hnew
     ·exact hd y hy)
    refine ⟨⟨fun y hy=>?_,List.pairwise_cons.2 ⟨fun y hy=>?_,q1.pairs⟩⟩,fun y hy z hz=>?_,fun l hl hr hall z hz=>?_⟩
    ·rcases List.mem_cons.1 hy with rfl | hy
     ·exact ⟨o,ho,h1⟩
     ·exact q1.each y hy
    ·exact q2 _ List.mem_cons_self y hy
    ·rcases List.mem_cons.1 hz with rfl | hz
     ·refine ⟨fun e=>?_,fun hdep=>?_⟩
      ·have := h2 y hy
       rw [e] at this
       simp at this
      ·have := h4 y hy
       rw [hdep] at this
       exact hnew y.1 (by simpa using this)
     ·exact q2 y (List.mem_cons_of_mem _ hy) z hz
    ·have hi:l.getD i false=true:=by
      cases hli:l.getD i false with
      | true=>rfl
      | false =>
        exfalso
        have hlt:i<ops.size:=(Array.getElem?_eq_some_iff.1 ho).1
        have hmem:i∈Region.ready .any ops l:=mem_ready.2 ⟨by
         have : i<l.size:=by omega
         simp [this] at hli ⊢
         exact hli,o,ho,fun e he hb=>by
         rcases h3 e (by simpa using he) with h6 | ⟨y,hy,h6⟩
         ·rw [hb] at h6; simp at h6
         ·rw [← Nat.eq_of_beq_eq_true h6]
          exact hall _ hy⟩
        rw [hr] at hmem
        simp at hmem
     rcases List.mem_cons.1 hz with rfl | hz
     ·exact hi
     ·exact q3 l hl hr (fun y hy=>by
       rcases List.mem_cons.1 hy with rfl | hy
       ·exact hi
       ·exact hall y hy) z hz
end
end Go.Ev
end
section
namespace Go.Ev
structure Tr where
 i:Nat
 x:EO
 d:D
 m:Mem
def One (O:aB) (base:Nat) (x:EO) (e:Env) (m:Mem) (d:D) (m1:Mem):Prop :=
 (x.wants e=some false∧d = .bg []∧m1=m)∨(x.wants e=some true∧∃ ds,evs e x.xs=some ds∧x.k.run O base ds m=some (d,m1))
inductive vX (O:aB) (base:Nat):Env→Mem→List Tr→Env→Mem→Prop
 | nil (e:Env) (m:Mem):vX O base e m [] e m
 | cons {i:Nat} {x:EO} {d:D} {m1:Mem} {e:Env} {m:Mem} {ts:List Tr} {e':Env} {m':Mem} (h:One O base x e m d m1) (hs:vX O base (yJ e x.dst d) m1 ts e' m'):vX O base e m (⟨i,x,d,m1⟩::ts) e' m'
def K.acts (k:K):Bool:=match k.cl with | .a | .w=>true | _=>false
def ku (l:Nat→Bool):List Tr→Env→Env
 | [],e=>e
 | t::ts,e=>ku l ts (bif l t.i then yJ e t.x.dst t.d else e)
def iV (l:Nat→Bool):List Tr→Mem→Mem
 | [],m=>m
 | t::ts,m=>iV l ts (bif l t.i && t.x.k.acts then t.m else m)
section
variable {O:aB} {base:Nat}
theorem aay:∀ (xs:List (Nat×EO)) (e:Env) (m:Mem) (e':Env) (m':Mem),uP O base (xs.map (·.2)) e m=some (e',m')→∃ ts,vX O base e m ts e' m'∧ts.map (fun t=>(t.i,t.x))=xs
 | [],e,m,e',m',h=>by
   simp [uP] at h
   obtain ⟨rfl,rfl⟩:=h
   exact ⟨[],.nil _ _,rfl⟩
 | (i,x)::xs,e,m,e',m',h=>by
   simp only [List.map_cons,uP,Option.bind_eq_some_iff] at h
   obtain ⟨⟨e1,m1⟩,h1,h2⟩:=h
   unfold EO.run at h1
   rw [Option.bind_eq_some_iff] at h1
   obtain ⟨w,hw,h1⟩:=h1
   cases w with
   | false =>
     simp at h1
     obtain ⟨rfl,rfl⟩:=h1
     obtain ⟨ts,ht,hm⟩:=aay xs _ _ _ _ h2
     exact ⟨⟨i,x,_,_⟩::ts,.cons (.inl ⟨hw,rfl,rfl⟩) ht,by simp [hm]⟩
   | true =>
     simp only [cond_true] at h1
     rw [Option.bind_eq_some_iff] at h1
     obtain ⟨ds,hds,h1⟩:=h1
     rw [Option.bind_eq_some_iff] at h1
     obtain ⟨⟨d,m2⟩,hrun,h1⟩:=h1
     simp at h1
     obtain ⟨rfl,rfl⟩:=h1
     obtain ⟨ts,ht,hm⟩:=aay xs _ _ _ _ h2
     exact ⟨⟨i,x,_,_⟩::ts,.cons (.inr ⟨hw,ds,hds,hrun⟩) ht,by simp [hm]⟩
theorem vX.split {e':Env} {m':Mem} {t:Tr} {t2:List Tr}:∀ {t1:List Tr} {e:Env} {m:Mem},vX O base e m (t1++t::t2) e' m' →
  ∃ ek mk,vX O base e m t1 ek mk∧One O base t.x ek mk t.d t.m∧vX O base (yJ ek t.x.dst t.d) t.m t2 e' m'
 | [],e,m,h=>by
   cases h with
   | cons h hs=>exact ⟨e,m,.nil _ _,h,hs⟩
 | s::t1,e,m,h=>by
   cases h with
   | cons h hs =>
     obtain ⟨ek,mk,h1,h2,h3⟩:=vX.split hs
     exact ⟨ek,mk,.cons h h1,h2,h3⟩
theorem One.quiet {x:EO} {e:Env} {m m1:Mem} {d:D} (h:One O base x e m d m1) (hk:x.k.acts=false):m1=m:=by
 rcases h with ⟨_,_,h⟩ | ⟨_,ds,_,h⟩
 ·exact h
 ·unfold K.acts at hk
  cases hc:x.k.cl <;> rw [hc] at hk <;> simp at hk
  ·exact (K.asK hc h).1
  ·exact (K.an9 hc h).1
theorem One.up {x:EO} {e:Env} {m m1:Mem} {d:D} (h:One O base x e m d m1) (hk:x.k.cl ≠ .w):FM m m1:=by
 cases hc:x.k.cl with
 | p=>rw [h.quiet (by simp [K.acts,hc])]; exact .refl _
 | r=>rw [h.quiet (by simp [K.acts,hc])]; exact .refl _
 | w=>exact absurd hc hk
 | a =>
   rcases h with ⟨_,_,rfl⟩ | ⟨_,ds,_,h⟩
   ·exact .refl _
   ·exact K.awV hc h
theorem Vm (l:Nat→Bool):∀ (a b:List Tr) (e:Env),ku l (a++b) e=ku l b (ku l a e)
 | [],_,_=>rfl
 | t::a,b,e=>by simp only [List.cons_append,ku]; exact Vm l a b _
theorem Vo (l:Nat→Bool):∀ (a b:List Tr) (m:Mem),iV l (a++b) m=iV l b (iV l a m)
 | [],_,_=>rfl
 | t::a,b,m=>by simp only [List.cons_append,iV]; exact Vo l a b _
theorem ru {e:Env} {dst:Option Nat} {d:D} {t:Nat} (h:dst≠some t):look (yJ e dst d) t=look e t:=by
 cases dst with
 | none=>rfl
 | some x =>
   simp only [yJ,look]
   have : Nat.beq x t=false:=by
    cases hb:Nat.beq x t with
    | false=>rfl
    | true=>exact absurd (by rw [Nat.eq_of_beq_eq_true hb]) h
   simp [this]
theorem BF {e:Env} {d:D} {t:Nat}:look (yJ e (some t) d) t=some d:=by
 simp [yJ,look]
theorem adP {e e2:Env} {dst:Option Nat} {d:D} {t:Nat} (h:look e t=look e2 t):look (yJ e dst d) t=look (yJ e2 dst d) t:=by
 by_cases hd:dst=some t
 ·subst hd
  rw [BF,BF]
 ·rw [ru hd,ru hd,h]
theorem Wq (l:Nat→Bool) (t:Nat):∀ (ts:List Tr) (e:Env),(∀ s∈ts,s.x.dst=some t→l s.i=false)→look (ku l ts e) t=look e t
 | [],_,_=>rfl
 | s::ts,e,h=>by
   simp only [ku]
   rw [Wq l t ts _ (fun s hs=>h s (List.mem_cons_of_mem _ hs))]
   cases hl:l s.i with
   | false=>rfl
   | true =>
     simp only [cond_true]
     exact ru fun hd=>by
      have := h s List.mem_cons_self hd
      rw [hl] at this
      simp at this
theorem Ye (l:Nat→Bool) (t:Nat) {e':Env} {m':Mem}:∀ {ts:List Tr} {e e2:Env} {m:Mem},vX O base e m ts e' m'→(∀ s∈ts,s.x.dst=some t→l s.i=true)→look e2 t=look e t→look (ku l ts e2) t=look e' t
 | [],e,e2,m,h,_,he=>by cases h; exact he
 | s::ts,e,e2,m,h,hl,he=>by
   cases h with
   | cons h hs =>
     simp only [ku]
     refine Ye l t hs (fun s hs=>hl s (List.mem_cons_of_mem _ hs)) ?_
     rename_i i x d m1
     cases hli:l i with
     | true=>simp only [cond_true]; exact adP he
     | false =>
       simp only [cond_false]
       rw [he,ru]
       intro hd
       have := hl _ List.mem_cons_self hd
       simp only at this
       rw [hli] at this
       simp at this
theorem Yf (l:Nat→Bool) {dst:Option Nat} {d:D} (t:Nat):∀ (ts:List Tr) (e e2:Env),(∀ s∈ts,∀ y,dst=some y→s.x.dst=some y→l s.i=false)→look e2 t=look (yJ e dst d) t→look (ku l ts e2) t=look (yJ (ku l ts e) dst d) t
 | [],e,e2,_,he=>he
 | s::ts,e,e2,hn,he=>by
   simp only [ku]
   refine Yf l t ts _ _ (fun s hs=>hn s (List.mem_cons_of_mem _ hs)) ?_
   cases hl:l s.i with
   | false=>exact he
   | true =>
     simp only [cond_true]
     by_cases hd:s.x.dst=some t
     ·have : dst≠some t:=fun h=>by
       have := hn s List.mem_cons_self t h hd
       rw [hl] at this
       simp at this
      rw [hd,BF,ru this,BF]
     ·rw [ru hd,he]
      by_cases hd':dst=some t
      ·rw [hd',BF,BF]
      ·rw [ru hd',ru hd',ru hd]
theorem UF (l:Nat→Bool):∀ (ts:List Tr) (m:Mem),(∀ s∈ts,s.x.k.acts=true→l s.i=false)→iV l ts m=m
 | [],_,_=>rfl
 | s::ts,m,h=>by
   simp only [iV]
   have : (l s.i && s.x.k.acts)=false:=by
    cases ha:s.x.k.acts with
    | false=>simp
    | true=>simp [h s List.mem_cons_self ha]
   rw [this]
   exact UF l ts m fun s hs=>h s (List.mem_cons_of_mem _ hs)
theorem MO (l:Nat→Bool) {e':Env} {m':Mem}:∀ {ts:List Tr} {e:Env} {m:Mem},vX O base e m ts e' m'→(∀ s∈ts,s.x.k.acts=true→l s.i=true)→iV l ts m=m'
 | [],e,m,h,_=>by cases h; rfl
 | s::ts,e,m,h,hl=>by
   cases h with
   | cons h hs =>
     rename_i i x d m1
     simp only [iV]
     have hr:∀ s∈ts,s.x.k.acts=true→l s.i=true:=fun s hs=>hl s (List.mem_cons_of_mem _ hs)
     cases ha:x.k.acts with
     | false =>
       simp only [Bool.and_false,cond_false]
       rw [h.quiet ha] at hs
       exact MO l hs hr
     | true =>
       have := hl _ List.mem_cons_self ha
       simp only at this
       rw [this]
       exact MO l hs hr
theorem XI (l:Nat→Bool) {e':Env} {m':Mem}:∀ {ts:List Tr} {e:Env} {m:Mem},vX O base e m ts e' m'→(∀ s∈ts,s.x.k.cl = .w→l s.i=false) →
  ts.Pairwise (fun y x=>y.x.k.acts=true→x.x.k.acts=true→l x.i=true→l y.i=true)→FM m (iV l ts m)
 | [],e,m,_,_,_ => .refl _
 | s::ts,e,m,h,hw,hp=>by
   cases h with
   | cons h hs =>
     rename_i i x d m1
     have hw':∀ s∈ts,s.x.k.cl = .w→l s.i=false:=fun s hs=>hw s (List.mem_cons_of_mem _ hs)
     rw [List.pairwise_cons] at hp
     simp only [iV]
     cases ha:x.k.acts with
     | false =>
       simp only [Bool.and_false,cond_false]
       rw [h.quiet ha] at hs
       exact XI l hs hw' hp.2
     | true =>
       cases hli:l i with
       | true =>
         simp only [Bool.and_true,cond_true]
         refine (h.up fun hc=>?_).trans (XI l hs hw' hp.2)
         have := hw _ List.mem_cons_self hc
         simp only at this
         rw [hli] at this
         simp at this
       | false =>
         simp only [Bool.and_true,cond_false]
         rw [UF l ts m fun s hs' ha'=>by
          cases hls:l s.i with
          | false=>rfl
          | true =>
            have := hp.1 s hs' ha ha' hls
            simp only at this
            rw [hli] at this
            simp at this]
         exact .refl _
end
end Go.Ev
end
section
namespace Go.Ev
theorem af9 {e e2:Env}:∀ {xs:List BN},(∀ t∈xs.filterMap (fun | .t n=>some n | .k _=>none),look e t=look e2 t)→evs e xs=evs e2 xs
 | [],_=>rfl
 | x::xs,h=>by
   have ih:evs e xs=evs e2 xs:=af9 fun t ht=>h t (by
    cases x <;> simp only [List.filterMap_cons] <;> first | exact List.mem_cons_of_mem _ ht | exact ht)
   cases x with
   | t n =>
     have : look e n=look e2 n:=h n (by simp)
     simp only [evs,BN.ev,this,ih]
   | k d=>simp only [evs,BN.ev,ih]
theorem alY {e e2:Env} {x:EO} (h:∀ t∈x.reads,look e t=look e2 t):x.wants e=x.wants e2:=by
 unfold EO.wants
 cases hg:x.guard with
 | none=>rfl
 | some g =>
   obtain ⟨t,b⟩:=g
   have : look e t=look e2 t:=h t (by simp [EO.reads,hg])
   simp only [this]
theorem XG {l l':Nat→Bool}:∀ {ts:List Tr} {e:Env},(∀ s∈ts,l s.i=l' s.i)→ku l ts e=ku l' ts e
 | [],_,_=>rfl
 | s::ts,e,h=>by
   simp only [ku,h s List.mem_cons_self]
   exact XG fun s hs=>h s (List.mem_cons_of_mem _ hs)
theorem XJ {l l':Nat→Bool}:∀ {ts:List Tr} {m:Mem},(∀ s∈ts,l s.i=l' s.i)→iV l ts m=iV l' ts m
 | [],_,_=>rfl
 | s::ts,e,h=>by
   simp only [iV,h s List.mem_cons_self]
   exact XJ fun s hs=>h s (List.mem_cons_of_mem _ hs)
theorem Ah.congr {c:Ctx} {e e2:Env} {a:Act} (h:Ah c e a) (he:∀ t,look e2 t=look e t):Ah c e2 a:=fun t d hd=>h t d (by rw [← he]; exact hd)
theorem aq5 {x y:EO} {t:Nat} (h:x.dst=some t) (hr:t∈y.reads):dep x y=true:=by
 simp [dep,h,hr]
theorem ao6 {x y:EO} {t:Nat} (h:y.dst=some t) (hr:t∈x.reads):dep x y=true:=by
 simp [dep,h,hr]
theorem atA {x y:EO} {t:Nat} (h:x.dst=some t) (hr:y.dst=some t):dep x y=true:=by
 simp [dep,h,hr]
theorem Qr {x y:EO} (h:adR x.k.cl y.k.cl=true):dep x y=true:=by
 simp [dep,h]
section
variable {P:Program} {w0:World} {N:Nat} {ops:Array Oper} {O:aB} {base:Nat}
def un (xs:List (Nat×EO)) (l:Array Bool):Nat:=(xs.filter fun y => !l.getD y.1 true).length
theorem amc {f f':Nat→Bool} {i:Nat} (hf:∀ k,f' k=if k=i then true else f k) (hi:f i=false):∀ (xs:List (Nat×EO)),
  (xs.filter fun y => !f' y.1).length≤(xs.filter fun y => !f y.1).length∧((∃ y∈xs,y.1=i)→(xs.filter fun y => !f' y.1).length<(xs.filter fun y => !f y.1).length)
 | []=>⟨Nat.le_refl _,fun ⟨y,h,_⟩=>by simp at h⟩
 | y::xs=>by
   obtain ⟨h1,h2⟩:=amc hf hi xs
   rw [List.filter_cons,List.filter_cons,hf y.1]
   by_cases hy:y.1=i
   ·rw [if_pos hy,hy,hi]
    simp only [Bool.not_true,Bool.not_false,if_true,Bool.false_eq_true,if_false,List.length_cons]
    exact ⟨by omega,fun _=>by omega⟩
   ·rw [if_neg hy]
    have h3:(∃ z∈y::xs,z.1=i)→∃ z∈xs,z.1=i:=by
     rintro ⟨z,hz,e⟩
     rcases List.mem_cons.1 hz with rfl | hz
     ·exact absurd e hy
     ·exact ⟨z,hz,e⟩
    cases f y.1
    ·simp only [Bool.not_false,if_true,List.length_cons]
     exact ⟨by omega,fun h=>by have := h2 (h3 h); omega⟩
    ·simp only [Bool.not_true,Bool.false_eq_true,if_false]
     exact ⟨h1,fun h=>h2 (h3 h)⟩
theorem asN {i:Nat} {l:Array Bool} (hi:l.getD i true=false) (xs:List (Nat×EO)) (hx:∃ y∈xs,y.1=i):un xs (l.setIfInBounds i true)<un xs l:=by
 have hlt:i<l.size:=by
  rcases Nat.lt_or_ge i l.size with h | h
  ·exact h
  ·simp [Array.getElem?_eq_none h] at hi
 refine (amc (f:=fun k=>l.getD k true) (f':=fun k=>(l.setIfInBounds i true).getD k true) (i:=i) (fun k=>?_) hi xs).2 hx
 by_cases hk:k=i
 ·subst hk; simp [hlt]
 ·rw [getD_set_ne true (Ne.symm hk),if_neg hk]
theorem Good.step {l:Array Bool} (hg:Good ops l) {i:Nat} (hi:i∈Region.ready .any ops l):Good ops (l.setIfInBounds i true):=by
 obtain ⟨h0,o,ho,hall⟩:=mem_ready.1 hi
 refine ⟨by simpa using hg.1,fun j o' ho' hl e he hb=>getD_set_true ?_⟩
 by_cases hij:i=j
 ·subst hij
  rw [ho] at ho'
  cases ho'
  exact hall e he hb
 ·rw [getD_set_ne false hij] at hl
  exact hg.2 j o' ho' hl e he hb
theorem ao9 (hO:oG P w0 O) {xs:List (Nat×EO)} (hc:Checked P N ops xs) {e0 e':Env} {m0 m':Mem} {ts:List Tr} (ht:vX O base e0 m0 ts e' m') (hx:ts.map (fun t=>(t.i,t.x))=xs)
  {l:Array Bool} (hg:Good ops l) {i:Nat} (hi:i∈Region.ready .any ops l) (hix:∃ y∈xs,y.1=i) {c:Ctx} {a:Act}
  (hs:St w0 N c (ku (fun k=>l.getD k false) ts e0) (iV (fun k=>l.getD k false) ts m0) a) {Kn:Act→World→Prop} {Q:Exit→Act→World→Prop}
  (hk:∀ a' c',St w0 N c' (ku (fun k=>(l.setIfInBounds i true).getD k false) ts e0) (iV (fun k=>(l.setIfInBounds i true).getD k false) ts m0) a' →
   Step c (iV (fun k=>l.getD k false) ts m0) c' (iV (fun k=>(l.setIfInBounds i true).getD k false) ts m0)→Kn a' c'.w):wpOp P ops Q i Kn a c.w:=by
 obtain ⟨h0,o,ho,hall⟩:=mem_ready.1 hi
 obtain ⟨⟨i',x⟩,hmem,e1⟩:=hix
 simp only at e1
 subst e1
 obtain ⟨o',ho',hchk⟩:=hc.each _ hmem
 simp only at ho' hchk
 rw [ho] at ho'
 cases ho'
 obtain ⟨s,hsmem,hse⟩:=List.mem_map.1 (hx ▸ hmem)
 obtain ⟨t1,t2,rfl⟩:=List.append_of_mem hsmem
 obtain ⟨si,sx,d,m1⟩:=s
 simp only [Prod.mk.injEq] at hse
 obtain ⟨rfl,rfl⟩:=hse
 obtain ⟨ek,mk,q1,q2,q3⟩:=ht.split
 simp only at q2 q3
 have hpw:=hc.pairs
 rw [← hx,List.pairwise_map,List.pairwise_append,List.pairwise_cons] at hpw
 obtain ⟨_,⟨hb2,hp2⟩,hb1⟩:=hpw
 have hsz:=hg.1
 have hlt:si<l.size:=by rw [hsz]; exact (Array.getElem?_eq_some_iff.1 ho).1
 have hl0:l.getD si false=false:=by
  simp [hlt] at h0 ⊢
  exact h0
 have B1:∀ y∈t1,dep y.x sx=true→l.getD y.i false=true:=fun y hy hd=>(hb1 y hy _ List.mem_cons_self).2 hd l o hg ho hall
 have N1:∀ y∈t1,y.i≠si:=fun y hy=>(hb1 y hy _ List.mem_cons_self).1
 have opOf:∀ k,l.getD k false=true→∃ o,ops[k]?=some o:=fun k hk=>by
  have : k<ops.size:=by
   rcases Nat.lt_or_ge k ops.size with h | h
   ·exact h
   ·rw [← hsz] at h
    simp [Array.getElem?_eq_none h] at hk
  exact ⟨ops[k],by simp [this]⟩
 have B2:∀ y∈t2,dep sx y.x=true→l.getD y.i false=false:=fun y hy hd=>by
  cases hl:l.getD y.i false with
  | false=>rfl
  | true =>
    obtain ⟨oy,hoy⟩:=opOf _ hl
    have := (hb2 y hy).2 hd l oy hg hoy (hg.2 _ _ hoy hl)
    rw [hl0] at this
    cases this
 have N2:∀ y∈t2,y.i≠si:=fun y hy=>Ne.symm (hb2 y hy).1
 have P2:t2.Pairwise (fun y x=>y.x.k.acts=true→x.x.k.acts=true→l.getD x.i false=true→l.getD y.i false=true):=by
  refine hp2.imp fun {y x} h ha hb hl=>?_
  obtain ⟨ox,hox⟩:=opOf _ hl
  refine h.2 (Qr ?_) l ox hg hox (hg.2 _ _ hox hl)
  unfold K.acts at ha hb
  cases h1:y.x.k.cl <;> rw [h1] at ha <;> simp at ha <;> cases h2:x.x.k.cl <;> rw [h2] at hb <;> simp at hb <;> rfl
 let lf:Nat→Bool:=fun k=>l.getD k false
 let lf':Nat→Bool:=fun k=>(l.setIfInBounds si true).getD k false
 have hlf':∀ k,k≠si→lf' k=lf k:=fun k hk=>getD_set_ne false (Ne.symm hk)
 have hlfi:lf' si=true:=by simp [lf',hlt]
 have hE:ku lf (t1++⟨si,sx,d,m1⟩::t2) e0=ku lf t2 (ku lf t1 e0):=by
  rw [Vm]
  simp only [ku]
  rw [show lf si=false from hl0]
  rfl
 have hM:iV lf (t1++⟨si,sx,d,m1⟩::t2) m0=iV lf t2 (iV lf t1 m0):=by
  rw [Vo]
  simp only [iV]
  rw [show lf si=false from hl0]
  rfl
 have hE':ku lf' (t1++⟨si,sx,d,m1⟩::t2) e0=ku lf t2 (yJ (ku lf t1 e0) sx.dst d):=by
  rw [Vm]
  simp only [ku]
  rw [hlfi,XG (l:=lf') (l':=lf) fun s hs=>hlf' _ (N1 s hs),XG (l:=lf') (l':=lf) fun s hs=>hlf' _ (N2 s hs)]
  rfl
 have hM':iV lf' (t1++⟨si,sx,d,m1⟩::t2) m0=iV lf t2 (bif sx.k.acts then m1 else iV lf t1 m0):=by
  rw [Vo]
  simp only [iV]
  rw [hlfi,XJ (l:=lf') (l':=lf) fun s hs=>hlf' _ (N1 s hs),XJ (l:=lf') (l':=lf) fun s hs=>hlf' _ (N2 s hs)]
  simp
 have hread:∀ t∈sx.reads,look (ku lf t2 (ku lf t1 e0)) t=look ek t:=by
  intro t ht
  rw [Wq lf t t2 _ fun y hy hd=>B2 y hy (ao6 hd ht)]
  exact Ye lf t q1 (fun y hy hd=>B1 y hy (aq5 hd ht)) rfl
 have hrun:sx.run O base (ku lf t2 (ku lf t1 e0)) (iV lf t2 (iV lf t1 m0))=some (yJ (ku lf t2 (ku lf t1 e0)) sx.dst d,iV lf t2 (bif sx.k.acts then m1 else iV lf t1 m0)):=by
  have hA:sx.k.acts=true→iV lf t2 (iV lf t1 m0)=mk∧iV lf t2 m1=m1:=fun ha=>by
   have hc':∀ y:Tr,y.x.k.acts=true→adR y.x.k.cl sx.k.cl=true∧adR sx.k.cl y.x.k.cl=true:=fun y hy=>by
    unfold K.acts at ha hy
    cases h1:y.x.k.cl <;> rw [h1] at hy <;> simp at hy <;> cases h2:sx.k.cl <;> rw [h2] at ha <;> simp at ha <;> exact ⟨rfl,rfl⟩
   rw [MO lf q1 fun y hy hya=>B1 y hy (Qr (hc' y hya).1)]
   exact ⟨UF lf t2 _ fun y hy hya=>B2 y hy (Qr (hc' y hya).2),UF lf t2 _ fun y hy hya=>B2 y hy (Qr (hc' y hya).2)⟩
  unfold EO.run
  rw [alY hread]
  rcases q2 with ⟨hw,rfl,rfl⟩ | ⟨hw,ds,hds,hr⟩
  ·rw [hw]
   simp only [Option.bind_some,cond_false]
   cases ha:sx.k.acts with
   | false=>rfl
   | true=>simp only [cond_true]; rw [(hA ha).1,(hA ha).2]
  ·rw [hw]
   simp only [Option.bind_some,cond_true]
   rw [af9 (e2:=ek) fun t ht=>hread t (by simp only [EO.reads]; exact List.mem_append_right _ ht),hds]
   simp only [Option.bind_some]
   cases hcl:sx.k.cl with
   | p =>
     have ha:sx.k.acts=false:=by simp [K.acts,hcl]
     rw [(K.asK hcl hr).2,ha]
     rfl
   | r =>
     have ha:sx.k.acts=false:=by simp [K.acts,hcl]
     have h1:iV lf t1 m0=mk:=MO lf q1 fun y hy hya=>B1 y hy (Qr (by
      unfold K.acts at hya
      cases h1:y.x.k.cl <;> rw [h1] at hya <;> simp at hya <;> rw [hcl] <;> rfl))
     have h2:FM mk (iV lf t2 mk):=by
      have q3':vX O base (yJ ek sx.dst d) mk t2 e' m':=by
       have : m1=mk:=(K.an9 hcl hr).1
       rw [this] at q3
       exact q3
      exact XI lf q3' (fun y hy hyw=>B2 y hy (Qr (by rw [hcl,hyw]; rfl))) P2
     rw [h1,(K.an9 hcl hr).2 _ h2,ha]
     simp only [Option.bind_some,cond_false,h1]
   | a =>
     have ha:sx.k.acts=true:=by simp [K.acts,hcl]
     rw [(hA ha).1,hr,ha]
     simp only [Option.bind_some,cond_true,(hA ha).2]
   | w =>
     have ha:sx.k.acts=true:=by simp [K.acts,hcl]
     rw [(hA ha).1,hr,ha]
     simp only [Option.bind_some,cond_true,(hA ha).2]
 have hs':St w0 N c (ku lf t2 (ku lf t1 e0)) (iV lf t2 (iV lf t1 m0)) a:=by rw [← hE,← hM]; exact hs
 refine EO.sound hO ho hchk hs' hrun fun a' c' hst hstep=>hk a' c' ?_ ?_
 ·refine ⟨hst.size,hst.defers,?_,?_,hst.base⟩
  ·refine hst.env.congr fun t=>?_
   show look (ku lf' (t1++⟨si,sx,d,m1⟩::t2) e0) t=_
   rw [hE']
   exact Yf lf t t2 _ _ (fun y hy z hz hyz=>B2 y hy (atA hz hyz)) rfl
  ·show Inv c' (iV lf' (t1++⟨si,sx,d,m1⟩::t2) m0)
   rw [hM']
   exact hst.inv
 ·show Step c (iV lf (t1++⟨si,sx,d,m1⟩::t2) m0) c' (iV lf' (t1++⟨si,sx,d,m1⟩::t2) m0)
  rw [hM,hM']
  exact hstep
theorem ags {l:Nat→Bool} {e':Env} {m':Mem}:∀ {ts:List Tr} {e:Env} {m:Mem},vX O base e m ts e' m'→(∀ s∈ts,l s.i=true)→ku l ts e=e'
 | [],e,m,h,_=>by cases h; rfl
 | s::ts,e,m,h,hl=>by
   cases h with
   | cons h hs =>
     have := hl _ List.mem_cons_self
     simp only at this
     simp only [ku,this,cond_true]
     exact ags hs fun s hs=>hl s (List.mem_cons_of_mem _ hs)
theorem aan (n i:Nat):(Array.replicate n false).getD i false=false:=by
 rw [Array.getD_eq_getD_getElem?,Array.getElem?_replicate]
 split <;> rfl
theorem ad4:∀ (n:Nat) (ts:List Tr) (e:Env),ku (fun k=>(Array.replicate n false).getD k false) ts e=e
 | n,[],e=>rfl
 | n,s::ts,e=>by
   simp only [ku]
   have : (Array.replicate n false).getD s.i false=false:=aan n s.i
   rw [this]
   exact ad4 n ts e
theorem XK:∀ (n:Nat) (ts:List Tr) (m:Mem),iV (fun k=>(Array.replicate n false).getD k false) ts m=m
 | n,[],e=>rfl
 | n,s::ts,e=>by
   simp only [iV]
   have : (Array.replicate n false).getD s.i false=false:=aan n s.i
   rw [this]
   exact XK n ts e
theorem ao8 (hO:oG P w0 O) {xs:List (Nat×EO)} (hc:Checked P N ops xs) (hall:∀ i,i<ops.size→∃ y∈xs,y.1=i)
  (hfin:∀ l:Array Bool,l.size=ops.size→Region.ready .any ops l=[]→∀ x∈xs,l.getD x.1 false=true)
  {e0 e':Env} {m0 m':Mem} {ts:List Tr} (ht:vX O base e0 m0 ts e' m') (hx:ts.map (fun t=>(t.i,t.x))=xs) {c0:Ctx} {Q:Exit→Act→World→Prop}
  (hq:∀ a' c',St w0 N c' e' m' a'→Step c0 m0 c' m'→Q .normal a' c'.w) :
  ∀ (fuel:Nat) (l:Array Bool) (a:Act) (c:Ctx),Good ops l→un xs l≤fuel→St w0 N c (ku (fun k=>l.getD k false) ts e0) (iV (fun k=>l.getD k false) ts m0) a →
    Step c0 m0 c (iV (fun k=>l.getD k false) ts m0)→wpAny P .any ops Q fuel l a c.w:=by
 have done:∀ (l:Array Bool) (a:Act) (c:Ctx),Good ops l→Region.ready .any ops l=[]→St w0 N c (ku (fun k=>l.getD k false) ts e0) (iV (fun k=>l.getD k false) ts m0) a →
   Step c0 m0 c (iV (fun k=>l.getD k false) ts m0)→Q .normal a c.w:=by
  intro l a c hg hr hs hst
  have hl:∀ s∈ts,l.getD s.i false=true:=fun s hs=>hfin l hg.1 hr (s.i,s.x) (by rw [← hx]; exact List.mem_map.2 ⟨s,hs,rfl⟩)
  rw [ags ht hl,MO _ ht fun s hs _=>hl s hs] at hs
  rw [MO _ ht fun s hs _=>hl s hs] at hst
  exact hq a c hs hst
 intro fuel
 induction fuel with
 | zero =>
   intro l a c hg hu hs hst
   have hr:Region.ready .any ops l=[]:=by
    cases hr:Region.ready .any ops l with
    | nil=>rfl
    | cons i is =>
      have hi:i∈Region.ready .any ops l:=by rw [hr]; exact List.mem_cons_self
      obtain ⟨h0,o,ho,_⟩:=mem_ready.1 hi
      have := asN h0 xs (hall i (Array.getElem?_eq_some_iff.1 ho).1)
      omega
   exact ⟨hr,done l a c hg hr hs hst⟩
 | succ fuel ih =>
   intro l a c hg hu hs hst
   refine ⟨fun hr=>done l a c hg hr hs hst,fun i hi=>?_⟩
   obtain ⟨h0,o,ho,_⟩:=mem_ready.1 hi
   have hlt:=asN h0 xs (hall i (Array.getElem?_eq_some_iff.1 ho).1)
   exact ao9 hO hc ht hx hg hi (hall i (Array.getElem?_eq_some_iff.1 ho).1) hs fun a' c' hs' hst'=>ih _ a' c' (hg.step hi) (by omega) hs' (hst.trans hst')
theorem akf (hm:P.follows .mixedOrders=true) (hO:oG P w0 O) {id:Nat} {xs:List (Nat×EO)} (hc:ab6 P N ops xs=true) {c:Ctx} {e e':Env} {m m':Mem} {a:Act} (hs:St w0 N c e m a)
  (h:uP O base (xs.map (·.2)) e m=some (e',m')) {Q:Exit→Act→World→Prop} (hq:∀ a' c',St w0 N c' e' m' a'→Step c m c' m'→Q .normal a' c'.w):(Code.region id ops true).wp P Q a c.w:=by
 simp only [ab6,Bool.and_eq_true] at hc
 obtain ⟨h1,_,h3⟩:Checked P N ops xs∧_:=aiW xs [] hc.2 (fun y hy=>by simp at hy)
 obtain ⟨ts,ht,hx⟩:=aay xs e m e' m' h
 let c1:Ctx:={ c with w:={ c.w with drawn:=c.w.drawn+1 } }
 have hst:Step c m c1 m:=Step.world _ (Nat.le_refl _) (fun _ _=>rfl) ⟨rfl,rfl⟩ hs.inv
 refine wp_region_any hm ?_
 have hgood:Good ops (Array.replicate ops.size false):=⟨by simp,fun i o _ hl=>by rw [aan] at hl; cases hl⟩
 refine ao8 (c0:=c) hO h1 (fun i hi=>?_) (fun l hl hr=>h3 l hl hr (fun y hy=>by simp at hy)) ht hx hq ops.size _ a c1 hgood ?_ ?_ ?_
 ·have := List.all_eq_true.1 hc.1.1 i (List.mem_range.2 hi)
  obtain ⟨y,hy,e⟩:=List.any_eq_true.1 this
  exact ⟨y,hy,Nat.eq_of_beq_eq_true e⟩
 ·exact Nat.le_trans (List.length_filter_le _ _) (Nat.le_of_ble_eq_true hc.1.2)
 ·rw [ad4,XK]
  exact ⟨hs.size,hs.defers,hs.env.mono hst.ext,Inv.world _ (Nat.le_refl _) (fun _ _=>rfl) hs.inv,hs.base.ext hst.ext⟩
 ·rw [XK]
  exact hst
end
end Go.Ev
end
