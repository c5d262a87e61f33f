/- A part of the proof of priceAll_card, yieldAll_card, priceSum_card, flowAll_card, accrAll_card. -/
import Derived.Test.YtfkdcfbleblgoaaGreatDoorCCall
set_option linter.unusedVariables false
set_option linter.unusedSimpArgs false
section
namespace Go.Ev
def ajB (ops:Array Oper) (g g':Option (Nat×Bool)):Bool :=
 match g,g' with
 | none,none=>true
 | some (t,b),some (j,b')=>(b==b') && (match (ops[j]?).bind (·.dst) with | some t'=>Nat.beq t t' | none=>false)
 | _,_=>false
def akY (N:Nat) (d d':Option Nat):Bool :=
 match d,d' with
 | none,none=>true
 | some t,some t'=>Nat.beq t t' && Nat.blt t N
 | _,_=>false
def akZ (P:Program) (N:Nat) (ops:Array Oper) (x:EO) (o:Oper):Bool :=
 (match aZ P x.k o.op with | some ys=>amC x.xs ys | none=>false) && akY N x.dst o.dst && ajB ops x.guard o.guard
structure St (w0:World) (N:Nat) (c:Ctx) (e:Env) (m:Mem) (a:Act):Prop where
 size:N≤a.tmps.size
 defers:a.defers=[]
 env:Bh c e a
 inv:Inv c m
 base:Base w0 c
section
variable {P:Program} {w0:World} {N:Nat} {ops:Array Oper} {O:h_}
theorem atu {d d':Option Nat} (h:akY N d d'=true):d=d'∧∀ t,d=some t→t<N:=by
 unfold akY at h
 split at h
 ·exact ⟨rfl,by simp⟩
 ·simp only [Bool.and_eq_true,Nat.blt_eq] at h
  have := Nat.eq_of_beq_eq_true h.1
  exact ⟨by rw [this],fun t ht=>by simp at ht; omega⟩
 ·simp at h
theorem Bh.put {c:Ctx} {e:Env} {a:Act} (he:Bh c e a) {dst:Option Nat} {d:D} {v:Value} (hd:∀ t,dst=some t→t<a.tmps.size) (hr:Rep c d v):Bh c (yZ e dst d) (a.put dst v):=by
 cases dst with
 | none=>exact he
 | some t =>
   intro x d' hx
   simp only [yZ,look] at hx
   have hlt:=hd t rfl
   by_cases htx:t=x
   ·subst htx
    simp at hx
    subst hx
    simpa [Act.put,hlt] using hr
   ·have : Nat.beq t x=false:=by
     cases hb:Nat.beq t x with
     | false=>rfl
     | true=>exact absurd (Nat.eq_of_beq_eq_true hb) htx
    simp [this] at hx
    have := he x d' hx
    simpa [Act.put,Array.getElem?_setIfInBounds_ne htx] using this
theorem St.put {c c':Ctx} {e:Env} {m m':Mem} {a:Act} (hs:St w0 N c e m a) {dst dst':Option Nat} (hd:akY N dst dst'=true) {d:D} {v:Value} (hr:Rep c' d v) (hi:Inv c' m') (hst:Ext c c') :
  St w0 N c' (yZ e dst d) m' (a.put dst' v):=by
 obtain ⟨rfl,hlt⟩:=atu hd
 refine ⟨?_,?_,(hs.env.mono hst).put (fun t ht=>Nat.lt_of_lt_of_le (hlt t ht) hs.size) hr,hi,hs.base.ext hst⟩
 ·cases dst <;> simpa [Act.put] using hs.size
 ·cases dst <;> simpa [Act.put] using hs.defers
theorem as1 {tmps:Array Value} {j t:Nat} {b:Bool} (h:(ops[j]?).bind (·.dst)=some t) (ht:tmps.getD t undef = .bool b):yielded ops tmps j=some b:=by
 unfold yielded
 rw [h]
 rw [Array.getD_eq_getD_getElem?] at ht
 cases hg:tmps[t]? with
 | none=>rw [hg] at ht; simp [Go.undef] at ht
 | some v=>rw [hg] at ht; simp at ht; subst ht; simp [hg]
theorem as2 {tmps:Array Value} {j t:Nat} {vs:Array Value} (h:(ops[j]?).bind (·.dst)=some t) (ht:tmps.getD t undef = .tuple vs):yielded ops tmps j=none:=by
 unfold yielded
 rw [h]
 rw [Array.getD_eq_getD_getElem?] at ht
 cases hg:tmps[t]? with
 | none=>simp [hg]
 | some v=>rw [hg] at ht; simp at ht; subst ht; simp [hg]
theorem aAO {c:Ctx} {e:Env} {a:Act} (he:Bh c e a) {x:EO} {o:Oper} (hc:ajB ops x.guard o.guard=true) {b:Bool} (h:x.wants e=some b):Region.wanted o (yielded ops a.tmps)=b:=by
 unfold EO.wants at h
 unfold Region.wanted
 unfold ajB at hc
 split at hc
 ·rename_i h1 h2
  rw [h1] at h
  rw [h2]
  simpa using h
 ·rename_i t b1 j b2 h1 h2
  rw [h1] at h
  rw [h2]
  simp only [Bool.and_eq_true,beq_iff_eq] at hc
  obtain ⟨rfl,hc⟩:=hc
  split at hc
  ·rename_i t' ht'
   have := Nat.eq_of_beq_eq_true hc
   subst this
   simp only at h ⊢
   cases hl:look e t with
   | none=>rw [hl] at h; simp at h
   | some d =>
     have hr:=he t d hl
     rw [hl] at h
     split at h
     ·rename_i b' e1
      simp at e1 h
      subst e1
      rw [as1 ht' hr.mG,← h]
      cases b' <;> cases b1 <;> rfl
     ·rename_i e1
      simp at e1 h
      subst e1
      obtain ⟨vs,_,h1,_⟩:=hr.Yh
      rw [as2 ht' h1,h]
      rfl
     ·simp at h
  ·simp at hc
 ·simp at hc
theorem EO.sound (hO:mD P w0 O) {x:EO} {i:Nat} {o:Oper} (ho:ops[i]?=some o) (hc:akZ P N ops x o=true) {c:Ctx} {e e':Env} {m m':Mem} {a:Act} (hs:St w0 N c e m a) {base:Nat} (h:x.run O base e m=some (e',m'))
  {Kn:Act→World→Prop} {Q:Exit→Act→World→Prop} (hk:∀ a' c',St w0 N c' e' m' a'→Step c m c' m'→Kn a' c'.w):wpOp P ops Q i Kn a c.w:=by
 simp only [akZ,Bool.and_eq_true] at hc
 obtain ⟨⟨hc1,hc2⟩,hc3⟩:=hc
 unfold EO.run at h
 rw [Option.bind_eq_some_iff] at h
 obtain ⟨b,hw,h⟩:=h
 have hw':=aAO hs.env hc3 hw
 unfold wpOp
 simp only [ho,hw']
 cases b with
 | false =>
   simp at h
   obtain ⟨rfl,rfl⟩:=h
   simp only [Bool.false_eq_true,if_false]
   exact hk _ c (hs.put hc2 .avl hs.inv (.refl c)) (.refl c m)
 | true =>
   simp only [cond_true] at h
   rw [Option.bind_eq_some_iff] at h
   obtain ⟨ds,hds,h⟩:=h
   rw [Option.bind_eq_some_iff] at h
   obtain ⟨⟨d,m1⟩,hrun,h⟩:=h
   simp at h
   obtain ⟨rfl,rfl⟩:=h
   split at hc1
   ·rename_i ys hys
    simp only [if_true]
    refine .inl (K.sound hO hs.base ⟨⟨ys,hys,auP hs.env hc1 hds⟩,hs.inv⟩ hrun Kn Q fun v c' h1 h2 h3=>hk _ c' (hs.put hc2 h1 h2 h3.ext) h3)
   ·simp at hc1
def oD (P:Program) (N:Nat) (ops:Array Oper):List EO→List Oper→Bool
 | [],[]=>true
 | x::xs,o::os=>akZ P N ops x o && oD P N ops xs os
 | _,_=>false
theorem aol (hO:mD P w0 O) {base:Nat} {Q:Exit→Act→World→Prop} {e':Env} {m':Mem}:∀ (xs:List EO) (os:List Oper) (k:Nat) (hk:∀ j o,os[j]?=some o→ops[k+j]?=some o) (hc:oD P N ops xs os=true)
  (c:Ctx) (e:Env) (m:Mem) (a:Act) (hs:St w0 N c e m a) (h:uV O base xs e m=some (e',m')) (hq:∀ a' c',St w0 N c' e' m' a'→Step c m c' m'→Q .normal a' c'.w),wpOps P ops Q (List.range' k os.length) a c.w
 | [],[],k,hk,hc,c,e,m,a,hs,h,hq=>by
   simp [uV] at h
   obtain ⟨rfl,rfl⟩:=h
   exact hq a c hs (.refl c m)
 | [],_::_,k,hk,hc,c,e,m,a,hs,h,hq=>by simp [oD] at hc
 | _::_,[],k,hk,hc,c,e,m,a,hs,h,hq=>by simp [oD] at hc
 | x::xs,o::os,k,hk,hc,c,e,m,a,hs,h,hq=>by
   simp only [oD,Bool.and_eq_true] at hc
   simp only [uV,Option.bind_eq_some_iff] at h
   obtain ⟨⟨e1,m1⟩,h1,h2⟩:=h
   simp only [List.length_cons,List.range'_succ]
   rw [wpOps_cons]
   refine EO.sound hO (by simpa using hk 0 o rfl) hc.1 hs h1 fun a1 c1 hs1 hst1=>?_
   exact aol hO xs os (k+1) (fun j o' hj=>by rw [show k+1+j=k+(j+1) by omega]; exact hk (j+1) o' (by simpa using hj)) hc.2 c1 e1 m1 a1 hs1 h2
    fun a2 c2 hs2 hst2=>hq a2 c2 hs2 (hst1.trans hst2)
theorem asv (hO:mD P w0 O) {id:Nat} {xs:List EO} (hc:oD P N ops xs ops.toList=true) {c:Ctx} {e e':Env} {m m':Mem} {a:Act} (hs:St w0 N c e m a) {base:Nat} (h:uV O base xs e m=some (e',m')) {Q:Exit→Act→World→Prop}
  (hq:∀ a' c',St w0 N c' e' m' a'→Step c m c' m'→Q .normal a' c'.w):(Code.region id ops false).wp P Q a c.w:=by
 refine wp_region ?_
 have := aol (ops:=ops) hO xs ops.toList 0 (fun j o hj=>by simpa using hj) hc c e m a hs h hq
 rw [List.range_eq_range']
 simpa using this
end
end Go.Ev
end
section
namespace Go.Ev
inductive Cl where
 | p | r | a | w
 deriving DecidableEq,Inhabited
def K.cl:K→Cl
 | .aaZ | .aa0 _ | .UK _ | .ahm => .r
 | .b2s => .w
 | .alloc .. | .box .. | .abE .. | .aeD .. | .mkm _ => .a
 | .store _ | .RZ _ | .app .. | .pU _ | .bf _ | .ad9 | .akp | .akf _ => .w
 | _ => .p
def wM (m m2:Mem):Prop:=∀ (i:Nat) (s:Slot),m[i]?=some s→s ≠ .free→m2[i]?=some s
theorem wM.refl (m:Mem):wM m m:=fun _ _ h _=>h
theorem wM.trans {m m2 m3:Mem} (h:wM m m2) (h':wM m2 m3):wM m m3:=fun i s hs hn=>h' i s (h i s hs hn) hn
theorem agw {m m2:Mem} (h:wM m m2) {d:D} {r:List D×Nat} (ha:YF m d=some r):YF m2 d=some r:=by
 cases d <;> simp only [YF] at ha ⊢ <;> try (simp at ha; done)
 case ref=>exact ha
 case loc b off =>
  cases hm:m[b]? with
  | none=>rw [hm] at ha; simp at ha
  | some s =>
    rw [hm] at ha
    have hn:s ≠ .free:=by rintro rfl; simp at ha
    rw [h b s hm hn]
    exact ha
section
variable {O:h_} {base:Nat} {ds:List D} {m m':Mem} {d:D}
theorem K.aAZ {k:K} (hk:k.cl = .p) (h:k.run O base ds m=some (d,m')):m'=m∧∀ m2,k.run O base ds m2=some (d,m2):=by
 cases k <;> simp only [K.cl] at hk <;> try (cases hk; done)
 all_goals simp only [K.run] at h ⊢
 all_goals try (simp at h; done)
 case akm=>simp at h; obtain ⟨rfl,rfl⟩:=h; exact ⟨rfl,fun _=>rfl⟩
 case mov=>unfold aeY at *; split at h <;> simp_all
 case pick=>unfold UY at *; split at h <;> simp_all
 case alv=>unfold Rf at *; split at h <;> simp_all [Option.bind_eq_some_iff] <;> (try grind)
 case apZ=>unfold VA at *; split at h <;> simp_all [Option.bind_eq_some_iff] <;> (try grind)
 case build=>unfold Q9 at *; simp_all [Option.bind_eq_some_iff]; grind
 case bsl=>unfold aeT at *; rw [cond_eq_ite] at h; simp only [cond_eq_ite]; split at h <;> simp_all [Option.bind_eq_some_iff] <;> (try grind)
 case aeG=>unfold NV at *; split at h <;> simp_all
 case mF=>unfold eX at *; split at h <;> (try simp only [cond_eq_ite] at *) <;> simp_all [Option.bind_eq_some_iff] <;> (try grind)
 case sh=>unfold tV at *; split at h <;> simp_all [Option.bind_eq_some_iff] <;> (try grind)
 case Td=>unfold IG at *; split at h <;> simp_all [Option.bind_eq_some_iff] <;> (try grind)
 case eqB=>unfold aeV at *; split at h <;> simp_all
 case eqP=>unfold Zv at *; split at h <;> simp_all
 case eqN=>unfold Zu at *; split at h <;> (try simp only [cond_eq_ite] at *) <;> simp_all
 case eqS=>unfold ahC at *; split at h <;> simp_all
 case eqA=>unfold aeU at *; split at h <;> simp_all [Option.bind_eq_some_iff] <;> (try grind)
 case neg=>unfold aeZ at *; split at h <;> simp_all
 case inv=>unfold ahD at *; split at h <;> simp_all [Option.bind_eq_some_iff] <;> (try grind)
 case not=>unfold ae0 at *; split at h <;> simp_all
 case conv=>unfold X5 at *; split at h <;> simp_all
 case akn=>unfold X7 at *; split at h <;> simp_all
 case slS=>unfold ae1 at *; split at h <;> simp_all [Option.bind_eq_some_iff] <;> (try grind)
 case slL=>unfold Xh at *; split at h <;> (try simp only [cond_eq_ite] at *) <;> simp_all [Option.bind_eq_some_iff] <;> (try grind)
 case ajJ=>unfold UN at *; split at h <;> simp_all
 case akc=>unfold LC at *; split at h <;> simp_all
 case aex=>unfold Gy at *; split at h <;> simp_all
 case akd=>unfold UO at *; split at h <;> simp_all [Option.bind_eq_some_iff] <;> (try grind)
 case fld=>unfold aeX at *; split at h <;> simp_all [Option.bind_eq_some_iff] <;> (try grind)
 case ext=>unfold aeW at *; split at h <;> simp_all [Option.bind_eq_some_iff] <;> (try grind)
 case akk=>unfold X6 at *; split at h <;> simp_all
 case akj=>unfold Oi at *; split at h <;> simp_all
 case mn=>unfold rMn at *; split at h <;> simp_all
 case mx=>unfold rMx at *; split at h <;> simp_all
 case aaI=>unfold uH at *; rw [cond_eq_ite] at h; simp only [cond_eq_ite]; split at h <;> simp_all [Option.bind_eq_some_iff] <;> (try grind)
 case ahU=>unfold Ri at *; split at h <;> (try simp only [cond_eq_ite] at *) <;> simp_all <;> (try split at h) <;> simp_all
 case acF =>
  unfold UZ at *
  split at h <;> (try simp_all; done)
  ·rw [Option.bind_eq_some_iff] at h
   obtain ⟨b,hb,h⟩:=h
   cases b <;> simp at h <;> simp [hb,h]
 case eqF =>
  unfold ahB at *
  split at h <;> (try simp_all; done)
  all_goals
   simp only [cond_eq_ite] at *
   repeat' split at h
   all_goals simp_all
 case QE =>
  unfold Q_ at *
  split at h <;> (try simp_all; done)
  rw [Option.bind_eq_some_iff] at h
  obtain ⟨f,hf,h⟩:=h
  simp only [hf,Option.bind_some]
  unfold uH at *
  rw [cond_eq_ite] at h
  simp only [cond_eq_ite]
  split at h <;> simp_all [Option.bind_eq_some_iff] <;> (try grind)
theorem K.awE {k:K} (hk:k.cl = .r) (h:k.run O base ds m=some (d,m')):m'=m∧∀ m2,wM m m2→k.run O base ds m2=some (d,m2):=by
 cases k <;> simp only [K.cl] at hk <;> try (cases hk; done)
 all_goals simp only [K.run] at h ⊢
 case aaZ =>
  unfold DY at *
  split at h
  ·simp [Option.bind_eq_some_iff] at h
   obtain ⟨cs,off,h1,x,h2,rfl,rfl⟩:=h
   refine ⟨rfl,fun m2 ha=>?_⟩
   simp [agw ha h1,h2]
  ·simp at h
 case aa0 =>
  unfold Ap at *
  split at h
  ·simp [Option.bind_eq_some_iff] at h
   obtain ⟨cs,off,h1,x,h2,rfl,rfl⟩:=h
   refine ⟨rfl,fun m2 ha=>?_⟩
   simp [agw ha h1,h2]
  ·simp at h
 case UK =>
  unfold Rh at *
  split at h <;> try (simp at h; done)
  split at h <;> try (simp at h; done)
  rename_i hb
  unfold Ap at *
  simp [Option.bind_eq_some_iff] at h
  obtain ⟨cs,off,h1,x,h2,rfl,rfl⟩:=h
  refine ⟨rfl,fun m2 ha=>?_⟩
  simp [hb,agw ha h1,h2]
 case ahm =>
  unfold Oj at *
  split at h <;> try (simp at h; done)
  ·rename_i b k
   split at h <;> simp at h
   rename_i ks hm
   obtain ⟨rfl,rfl⟩:=h
   refine ⟨rfl,fun m2 ha=>?_⟩
   have := ha _ _ hm (by simp)
   simp [this]
  ·simp only [Option.some.injEq,Prod.mk.injEq] at h; obtain ⟨rfl,rfl⟩:=h; exact ⟨rfl,fun m2 _=>rfl⟩
  ·simp only [Option.some.injEq,Prod.mk.injEq] at h; obtain ⟨rfl,rfl⟩:=h; exact ⟨rfl,fun m2 _=>rfl⟩
theorem XV {base j:Nat} {cs:List D} {d0:D} (h:zD base j cs d0 m=some (d,m')):wM m m':=by
 unfold zD at h
 split at h
 ·rename_i hm
  simp at h
  obtain ⟨rfl,rfl⟩:=h
  intro i s hs hn
  rw [List.getElem?_set]
  split
  ·rename_i e
   subst e
   rw [hm] at hs
   exact absurd (Option.some.inj hs).symm hn
  ·exact hs
 ·simp at h
theorem K.aEC {k:K} (hk:k.cl = .a) (h:k.run O base ds m=some (d,m')):wM m m':=by
 cases k <;> simp only [K.cl] at hk <;> try (cases hk; done)
 all_goals simp only [K.run] at h
 case alloc=>unfold JG at h; split at h; exact XV h; simp at h
 case box=>unfold aeS at h; split at h; (simp [Option.bind_eq_some_iff] at h; obtain ⟨x,_,h⟩:=h; exact XV h); simp at h
 case abE=>unfold X4 at h; simp [Option.bind_eq_some_iff] at h; obtain ⟨x,_,h⟩:=h; exact XV h
 case aeD=>unfold UR at h; split at h; (split at h; exact XV h; simp at h); simp at h
 case mkm =>
  unfold acj at h
  split at h <;> try (simp at h; done)
  split at h <;> simp at h
  rename_i hm
  obtain ⟨rfl,rfl⟩:=h
  intro i s hs hn
  rw [List.getElem?_set]
  split
  ·rename_i e
   subst e
   rw [hm] at hs
   exact absurd (Option.some.inj hs).symm hn
  ·exact hs
end
def EO.reads (x:EO):List Nat:=(match x.guard with | some (t,_)=>[t] | none=>[])++x.xs.filterMap fun | .t n=>some n | .k _=>none
def arE:Cl→Cl→Bool
 | .p,_ | _,.p=>false
 | .r,.r | .r,.a=>false
 | _,_=>true
def apart:K→K→Bool
 | .alloc j _,.alloc i _ => !Nat.beq j i
 | .UK _,.RZ _=>true
 | _,_=>false
def K.isL (k:K):Bool:=match k with | .UK _=>true | _=>false
def K.isN (k:K):Bool:=match k with | .RZ _=>true | _=>false
def IQ (base:Nat) (m m2:Mem):Prop:=∀ (i:Nat) (s:Slot),i<base→m[i]?=some s→s ≠ .free→m2[i]?=some s
theorem wM.lt {base:Nat} {m m2:Mem} (h:wM m m2):IQ base m m2:=fun i s _ hs hn=>h i s hs hn
theorem IQ.trans {base:Nat} {m m2 m3:Mem} (h:IQ base m m2) (h':IQ base m2 m3):IQ base m m3:=fun i s hb hs hn=>h' i s hb (h i s hb hs hn) hn
theorem K.aED {O:h_} {base:Nat} {ds:List D} {m m':Mem} {d:D} {k:K} (hk:k.isL=true) (h:k.run O base ds m=some (d,m')):m'=m∧∀ m2,IQ base m m2→k.run O base ds m2=some (d,m2):=by
 cases k <;> simp only [K.isL] at hk <;> try (cases hk; done)
 simp only [K.run] at h ⊢
 unfold Rh at *
 split at h <;> try (simp at h; done)
 split at h <;> try (simp at h; done)
 rename_i b off hb
 unfold Ap at *
 simp only [Option.bind_eq_some_iff] at h
 obtain ⟨⟨cs,off'⟩,h1,x,h2,h3⟩:=h
 simp only [Option.some.injEq,Prod.mk.injEq] at h3
 obtain ⟨rfl,rfl⟩:=h3
 refine ⟨rfl,fun m2 ha=>?_⟩
 have h4:YF m2 (.loc b off)=some (cs,off'):=by
  simp only [YF] at h1 ⊢
  cases hm:m[b]? with
  | none=>rw [hm] at h1; simp at h1
  | some s =>
    rw [hm] at h1
    have hn:s ≠ .free:=by rintro rfl; simp at h1
    rw [ha b s hb hm hn]
    exact h1
 simp only [hb,if_true,h4,Option.bind_some,h2]
def dep (x y:EO):Bool :=
 (match x.dst with | some t=>y.reads.contains t || (y.dst==some t) | none=>false) || (match y.dst with | some t=>x.reads.contains t | none=>false) || (arE x.k.cl y.k.cl && !apart x.k y.k)
def maskAt:List (Nat×EO×Nat)→Nat→Nat
 | [],_=>0
 | (i,_,m)::ds,k=>bif Nat.beq i k then m else maskAt ds k
def Zi (done:List (Nat×EO×Nat)):List Edge→Nat
 | []=>0
 | e::es=>(bif Region.binds .any e then 2^e.on ||| maskAt done e.on else 0) ||| Zi done es
def apS (P:Program) (N:Nat) (ops:Array Oper):List (Nat×EO)→List (Nat×EO×Nat)→Bool
 | [],_=>true
 | (i,x)::xs,done=>match ops[i]? with
   | none=>false
   | some o=>akZ P N ops x o && !(done.any fun y=>Nat.beq y.1 i) && o.after.toList.all (fun e => !Region.binds .any e || done.any fun y=>Nat.beq y.1 e.on) &&
     done.all (fun y => !dep y.2.1 x || (Zi done o.after.toList).testBit y.1) && apS P N ops xs ((i,x,Zi done o.after.toList)::done)
def ajA (P:Program) (N:Nat) (ops:Array Oper) (xs:List (Nat×EO)):Bool:=(List.range ops.size).all (fun i=>xs.any fun y=>Nat.beq y.1 i) && Nat.ble xs.length ops.size && apS P N ops xs []
def Good (ops:Array Oper) (l:Array Bool):Prop:=l.size=ops.size∧∀ (i:Nat) (o:Oper),ops[i]?=some o→l.getD i false=true→∀ e∈o.after,Region.binds .any e=true→l.getD e.on false=true
def Before (ops:Array Oper) (j i:Nat):Prop:=∀ (l:Array Bool) (o:Oper),Good ops l→ops[i]?=some o→(∀ e∈o.after,Region.binds .any e=true→l.getD e.on false=true)→l.getD j false=true
section
variable {P:Program} {N:Nat} {ops:Array Oper}
theorem ax9 {done:List (Nat×EO×Nat)} (hd:∀ y∈done,∀ j,y.2.2.testBit j=true→Before ops j y.1) {k j:Nat} (h:(maskAt done k).testBit j=true):Before ops j k:=by
 induction done with
 | nil=>simp [maskAt] at h
 | cons y done ih =>
   obtain ⟨i,x,m⟩:=y
   simp only [maskAt,cond_eq_ite] at h
   split at h
   ·rename_i e
    have := Nat.eq_of_beq_eq_true e
    subst this
    exact hd _ (List.mem_cons_self) j h
   ·exact ih (fun y hy=>hd y (List.mem_cons_of_mem _ hy)) h
theorem aoj {done:List (Nat×EO×Nat)} {j:Nat}:∀ {es:List Edge},(Zi done es).testBit j=true→∃ e∈es,Region.binds .any e=true∧(j=e.on∨(maskAt done e.on).testBit j=true)
 | [],h=>by simp [Zi] at h
 | e::es,h=>by
   simp only [Zi,Nat.testBit_or,Bool.or_eq_true] at h
   rcases h with h | h
   ·rw [cond_eq_ite] at h
    split at h
    ·rename_i hb
     refine ⟨e,List.mem_cons_self,hb,?_⟩
     rw [Nat.testBit_or,Bool.or_eq_true] at h
     rcases h with h | h
     ·rw [Nat.testBit_two_pow] at h
      exact .inl (by simpa using h:e.on=j).symm
     ·exact .inr h
    ·simp at h
   ·obtain ⟨e',h1,h2,h3⟩:=aoj h
    exact ⟨e',List.mem_cons_of_mem _ h1,h2,h3⟩
structure Checked (P:Program) (N:Nat) (ops:Array Oper) (xs:List (Nat×EO)):Prop where
 each:∀ y∈xs,∃ o,ops[y.1]?=some o∧akZ P N ops y.2 o=true
 pairs:xs.Pairwise fun y x=>y.1≠x.1∧(dep y.2 x.2=true→Before ops y.1 x.1)
theorem aqA:∀ (xs:List (Nat×EO)) (done:List (Nat×EO×Nat)),apS P N ops xs done=true→(∀ y∈done,∀ j,y.2.2.testBit j=true→Before ops j y.1) →
  Checked P N ops xs∧(∀ y∈done,∀ x∈xs,y.1≠x.1∧(dep y.2.1 x.2=true→Before ops y.1 x.1)) ∧
  (∀ l:Array Bool,l.size=ops.size→Region.ready .any ops l=[]→(∀ y∈done,l.getD y.1 false=true)→∀ x∈xs,l.getD x.1 false=true)
 | [],done,_,_=>⟨⟨fun y hy=>by simp at hy,.nil⟩,fun y _ x hx=>by simp at hx,fun l _ _ _ x hx=>by simp at hx⟩
 | (i,x)::xs,done,h,hd=>by
   simp only [apS] at h
   split at h
   ·simp at h
   ·rename_i o ho
    simp only [Bool.and_eq_true,Bool.not_eq_true',List.any_eq_false,List.all_eq_true,Bool.or_eq_true,List.any_eq_true] at h
    obtain ⟨⟨⟨⟨h1,h2⟩,h3⟩,h4⟩,h5⟩:=h
    have hnew:∀ j,(Zi done o.after.toList).testBit j=true→Before ops j i:=by
     intro j hj l o' hg ho' hall
     rw [ho] at ho'
     cases ho'
     obtain ⟨e,he,hb,hj⟩:=aoj hj
     have hl:=hall e (by simpa using he) hb
     rcases hj with rfl | hj
     ·exact hl
     ·have hlt:e.on<ops.size:=by
       rcases Nat.lt_or_ge e.on ops.size with h | h
       ·exact h
       ·rw [← hg.1] at h
        simp [Array.getElem?_eq_none h] at hl
      exact ax9 hd hj l ops[e.on] hg (by simp [hlt]) (hg.2 e.on _ (by simp [hlt]) hl)
    obtain ⟨q1,q2,q3⟩:=aqA xs _ h5 (fun y hy=>by
     rcases List.mem_cons.1 hy with rfl | hy
     ·exact hnew
     ·exact hd y hy)
    refine ⟨⟨fun y hy=>?_,List.pairwise_cons.2 ⟨fun y hy=>?_,q1.pairs⟩⟩,fun y hy z hz=>?_,fun l hl hr hall z hz=>?_⟩
    ·rcases List.mem_cons.1 hy with rfl | hy
     ·exact ⟨o,ho,h1⟩
     ·exact q1.each y hy
    ·exact q2 _ List.mem_cons_self y hy
    ·rcases List.mem_cons.1 hz with rfl | hz
     ·refine ⟨fun e=>?_,fun hdep=>?_⟩
      ·have := h2 y hy
       rw [e] at this
       simp at this
      ·have := h4 y hy
       rw [hdep] at this
       exact hnew y.1 (by simpa using this)
     ·exact q2 y (List.mem_cons_of_mem _ hy) z hz
    ·have hi:l.getD i false=true:=by
      cases hli:l.getD i false with
      | true=>rfl
      | false =>
        exfalso
        have hlt:i<ops.size:=(Array.getElem?_eq_some_iff.1 ho).1
        have hmem:i∈Region.ready .any ops l:=mem_ready.2 ⟨by
         have : i<l.size:=by omega
         simp [this] at hli ⊢
         exact hli,o,ho,fun e he hb=>by
         rcases h3 e (by simpa using he) with h6 | ⟨y,hy,h6⟩
         ·rw [hb] at h6; simp at h6
         ·rw [← Nat.eq_of_beq_eq_true h6]
          exact hall _ hy⟩
        rw [hr] at hmem
        simp at hmem
     rcases List.mem_cons.1 hz with rfl | hz
     ·exact hi
     ·exact q3 l hl hr (fun y hy=>by
       rcases List.mem_cons.1 hy with rfl | hy
       ·exact hi
       ·exact hall y hy) z hz
end
end Go.Ev
end
section
namespace Go.Ev
structure Tr where
 i:Nat
 x:EO
 d:D
 m:Mem
def One (O:h_) (base:Nat) (x:EO) (e:Env) (m:Mem) (d:D) (m1:Mem):Prop :=
 (x.wants e=some false∧d = .aG []∧m1=m)∨(x.wants e=some true∧∃ ds,evs e x.xs=some ds∧x.k.run O base ds m=some (d,m1))
inductive r_ (O:h_) (base:Nat):Env→Mem→List Tr→Env→Mem→Prop
 | nil (e:Env) (m:Mem):r_ O base e m [] e m
 | cons {i:Nat} {x:EO} {d:D} {m1:Mem} {e:Env} {m:Mem} {ts:List Tr} {e':Env} {m':Mem} (h:One O base x e m d m1) (hs:r_ O base (yZ e x.dst d) m1 ts e' m'):r_ O base e m (⟨i,x,d,m1⟩::ts) e' m'
def K.acts (k:K):Bool:=match k.cl with | .a | .w=>true | _=>false
def jL (l:Nat→Bool):List Tr→Env→Env
 | [],e=>e
 | t::ts,e=>jL l ts (bif l t.i then yZ e t.x.dst t.d else e)
def K.isA (k:K):Bool:=match k with | .alloc .. => true | _=>false
def Tr.upd (base:Nat) (t:Tr) (m:Mem):Mem:=match t.x.k with
 | .alloc j z=>(match t.d with | .loc _ _=>m.set (base+j) (.live z) | _=>m)
 | _=>t.m
def dQ (base:Nat) (l:Nat→Bool):List Tr→Mem→Mem
 | [],m=>m
 | t::ts,m=>dQ base l ts (bif l t.i && t.x.k.acts then t.upd base m else m)
section
variable {O:h_} {base:Nat}
theorem ahX:∀ (xs:List (Nat×EO)) (e:Env) (m:Mem) (e':Env) (m':Mem),uV O base (xs.map (·.2)) e m=some (e',m')→∃ ts,r_ O base e m ts e' m'∧ts.map (fun t=>(t.i,t.x))=xs
 | [],e,m,e',m',h=>by
   simp [uV] at h
   obtain ⟨rfl,rfl⟩:=h
   exact ⟨[],.nil _ _,rfl⟩
 | (i,x)::xs,e,m,e',m',h=>by
   simp only [List.map_cons,uV,Option.bind_eq_some_iff] at h
   obtain ⟨⟨e1,m1⟩,h1,h2⟩:=h
   unfold EO.run at h1
   rw [Option.bind_eq_some_iff] at h1
   obtain ⟨w,hw,h1⟩:=h1
   cases w with
   | false =>
     simp at h1
     obtain ⟨rfl,rfl⟩:=h1
     obtain ⟨ts,ht,hm⟩:=ahX xs _ _ _ _ h2
     exact ⟨⟨i,x,_,_⟩::ts,.cons (.inl ⟨hw,rfl,rfl⟩) ht,by simp [hm]⟩
   | true =>
     simp only [cond_true] at h1
     rw [Option.bind_eq_some_iff] at h1
     obtain ⟨ds,hds,h1⟩:=h1
     rw [Option.bind_eq_some_iff] at h1
     obtain ⟨⟨d,m2⟩,hrun,h1⟩:=h1
     simp at h1
     obtain ⟨rfl,rfl⟩:=h1
     obtain ⟨ts,ht,hm⟩:=ahX xs _ _ _ _ h2
     exact ⟨⟨i,x,_,_⟩::ts,.cons (.inr ⟨hw,ds,hds,hrun⟩) ht,by simp [hm]⟩
theorem r_.split {e':Env} {m':Mem} {t:Tr} {t2:List Tr}:∀ {t1:List Tr} {e:Env} {m:Mem},r_ O base e m (t1++t::t2) e' m' →
  ∃ ek mk,r_ O base e m t1 ek mk∧One O base t.x ek mk t.d t.m∧r_ O base (yZ ek t.x.dst t.d) t.m t2 e' m'
 | [],e,m,h=>by
   cases h with
   | cons h hs=>exact ⟨e,m,.nil _ _,h,hs⟩
 | s::t1,e,m,h=>by
   cases h with
   | cons h hs =>
     obtain ⟨ek,mk,h1,h2,h3⟩:=r_.split hs
     exact ⟨ek,mk,.cons h h1,h2,h3⟩
theorem One.quiet {x:EO} {e:Env} {m m1:Mem} {d:D} (h:One O base x e m d m1) (hk:x.k.acts=false):m1=m:=by
 rcases h with ⟨_,_,h⟩ | ⟨_,ds,_,h⟩
 ·exact h
 ·unfold K.acts at hk
  cases hc:x.k.cl <;> rw [hc] at hk <;> simp at hk
  ·exact (K.aAZ hc h).1
  ·exact (K.awE hc h).1
theorem One.up {x:EO} {e:Env} {m m1:Mem} {d:D} (h:One O base x e m d m1) (hk:x.k.cl ≠ .w):wM m m1:=by
 cases hc:x.k.cl with
 | p=>rw [h.quiet (by simp [K.acts,hc])]; exact .refl _
 | r=>rw [h.quiet (by simp [K.acts,hc])]; exact .refl _
 | w=>exact absurd hc hk
 | a =>
   rcases h with ⟨_,_,rfl⟩ | ⟨_,ds,_,h⟩
   ·exact .refl _
   ·exact K.aEC hc h
theorem ace (l:Nat→Bool):∀ (a b:List Tr) (e:Env),jL l (a++b) e=jL l b (jL l a e)
 | [],_,_=>rfl
 | t::a,b,e=>by simp only [List.cons_append,jL]; exact ace l a b _
theorem acf (l:Nat→Bool):∀ (a b:List Tr) (m:Mem),dQ base l (a++b) m=dQ base l b (dQ base l a m)
 | [],_,_=>rfl
 | t::a,b,m=>by simp only [List.cons_append,dQ]; exact acf l a b _
theorem One.alloc {x:EO} {e:Env} {m m1:Mem} {d:D} (h:One O base x e m d m1) {j:Nat} {z:List D} (hk:x.k = .alloc j z) :
  (d = .aG []∧m1=m)∨(m[base+j]?=some .free∧d = .loc (base+j) 0∧m1=m.set (base+j) (.live z)):=by
 rcases h with ⟨_,h1,h2⟩ | ⟨_,ds,_,h⟩
 ·exact .inl ⟨h1,h2⟩
 ·rw [hk] at h
  simp only [K.run,JG] at h
  split at h
  ·unfold zD at h
   split at h
   ·rename_i hm
    simp at h
    exact .inr ⟨hm,h.1.symm,h.2.symm⟩
   ·simp at h
  ·simp at h
theorem aDR {i:Nat} {x:EO} {e:Env} {m m1:Mem} {d:D} (h:One O base x e m d m1):Tr.upd base ⟨i,x,d,m1⟩ m=m1:=by
 unfold Tr.upd
 split
 ·rename_i j z hk
  rcases h.alloc hk with ⟨rfl,rfl⟩ | ⟨_,rfl,rfl⟩ <;> rfl
 ·rfl
theorem Yi {t:Tr} (h:t.x.k.isA=false) (m:Mem):t.upd base m=t.m:=by
 unfold Tr.upd
 split
 ·rename_i j z hk; rw [hk] at h; simp [K.isA] at h
 ·rfl
theorem OE {k:K} (h:k.isA=true):∃ j z,k = .alloc j z:=by
 cases k <;> simp [K.isA] at h
 exact ⟨_,_,rfl⟩
def Ov (pm m:Mem):Prop:=∀ i:Nat,pm[i]?=m[i]?∨pm[i]?=some .free
theorem Ov.refl (m:Mem):Ov m m:=fun _ => .inl rfl
theorem Ov.free {pm m:Mem} (h:Ov pm m) {k:Nat} (hk:m[k]?=some .free):pm[k]?=some .free:=by
 rcases h k with h | h
 ·rw [h,hk]
 ·exact h
theorem Ov.set {pm m:Mem} (h:Ov pm m) {k:Nat} (hk:m[k]?=some .free) (s:Slot):Ov (pm.set k s) (m.set k s):=by
 intro i
 have h1:=(List.getElem?_eq_some_iff.1 hk).1
 have h2:=(List.getElem?_eq_some_iff.1 (h.free hk)).1
 by_cases e:k=i
 ·subst e
  left
  rw [List.getElem?_set_self h1,List.getElem?_set_self h2]
 ·rw [List.getElem?_set_ne e,List.getElem?_set_ne e]
  exact h i
theorem Ov.late {pm m:Mem} (h:Ov pm m) {k:Nat} (hk:m[k]?=some .free) (s:Slot):Ov pm (m.set k s):=by
 intro i
 by_cases e:k=i
 ·subst e
  exact .inr (h.free hk)
 ·rw [List.getElem?_set_ne e]
  exact h i
theorem aoq (l:Nat→Bool) {e':Env} {m':Mem}:∀ {ts:List Tr} {e:Env} {m pm:Mem},r_ O base e m ts e' m'→(∀ s∈ts,s.x.k.acts=true→s.x.k.isA=false→l s.i=true)→Ov pm m→Ov (dQ base l ts pm) m'
 | [],e,m,pm,h,_,hp=>by cases h; exact hp
 | s::ts,e,m,pm,h,hl,hp=>by
   cases h with
   | cons h hs =>
     rename_i i x d m1
     have hl':∀ s∈ts,s.x.k.acts=true→s.x.k.isA=false→l s.i=true:=fun s hs=>hl s (List.mem_cons_of_mem _ hs)
     simp only [dQ]
     refine aoq l hs hl' ?_
     cases ha:x.k.acts with
     | false =>
       rw [h.quiet ha]
       simp only [Bool.and_false,cond_false]
       exact hp
     | true =>
       cases hA:x.k.isA with
       | false =>
         have := hl _ List.mem_cons_self ha hA
         simp only at this
         simp only [this,Bool.and_true,cond_true]
         rw [Yi (t:=⟨i,x,d,m1⟩) hA]
         exact .refl _
       | true =>
         obtain ⟨j,z,hk⟩:=OE hA
         rcases h.alloc hk with ⟨rfl,rfl⟩ | ⟨hf,rfl,rfl⟩
         ·have : Tr.upd base ⟨i,x,.aG [],m1⟩ pm=pm:=by simp [Tr.upd,hk]
          rw [this]
          cases l i <;> exact hp
         ·cases hli:l i with
          | true =>
            simp only [Bool.and_true,cond_true,Tr.upd,hk]
            exact hp.set hf _
          | false =>
            simp only [Bool.and_true,cond_false]
            exact hp.late hf _
theorem aeO (l:Nat→Bool) {j:Nat}:∀ (ts:List Tr) (m:Mem),(∀ s∈ts,s.x.k.acts=true→l s.i=true→∃ i z,s.x.k = .alloc i z∧j≠i) →
  (dQ base l ts m)[base+j]?=m[base+j]?∧∀ v,dQ base l ts (m.set (base+j) v)=(dQ base l ts m).set (base+j) v
 | [],m,_=>⟨rfl,fun _=>rfl⟩
 | s::ts,m,h=>by
   have h':∀ s∈ts,s.x.k.acts=true→l s.i=true→∃ i z,s.x.k = .alloc i z∧j≠i:=fun s hs=>h s (List.mem_cons_of_mem _ hs)
   simp only [dQ]
   cases ha:s.x.k.acts with
   | false =>
     simp only [Bool.and_false,cond_false]
     exact aeO l ts m h'
   | true =>
     cases hl:l s.i with
     | false =>
       simp only [Bool.false_and,cond_false]
       exact aeO l ts m h'
     | true =>
       simp only [Bool.true_and,cond_true]
       obtain ⟨i,z,hk,hne⟩:=h s List.mem_cons_self ha hl
       have hu:∀ m,s.upd base m=m∨s.upd base m=m.set (base+i) (.live z):=by
        intro m
        unfold Tr.upd
        rw [hk]
        simp only
        split
        ·exact .inr rfl
        ·exact .inl rfl
       have hu2:(∀ m,s.upd base m=m)∨(∀ m,s.upd base m=m.set (base+i) (.live z)):=by
        unfold Tr.upd
        rw [hk]
        simp only
        split
        ·exact .inr fun _=>rfl
        ·exact .inl fun _=>rfl
       obtain ⟨q1,q2⟩:=aeO l ts (s.upd base m) h'
       rcases hu2 with hu2 | hu2
       ·rw [hu2] at q1 q2
        refine ⟨by rw [hu2]; exact q1,fun v=>?_⟩
        rw [hu2,hu2]
        exact q2 v
       ·rw [hu2] at q1 q2
        refine ⟨?_,fun v=>?_⟩
        ·rw [hu2,q1,List.getElem?_set_ne (by omega)]
        ·rw [hu2,hu2,List.set_comm _ _ (by omega)]
         exact q2 v
theorem pW {e:Env} {dst:Option Nat} {d:D} {t:Nat} (h:dst≠some t):look (yZ e dst d) t=look e t:=by
 cases dst with
 | none=>rfl
 | some x =>
   simp only [yZ,look]
   have : Nat.beq x t=false:=by
    cases hb:Nat.beq x t with
    | false=>rfl
    | true=>exact absurd (by rw [Nat.eq_of_beq_eq_true hb]) h
   simp [this]
theorem DF {e:Env} {d:D} {t:Nat}:look (yZ e (some t) d) t=some d:=by
 simp [yZ,look]
theorem alx {e e2:Env} {dst:Option Nat} {d:D} {t:Nat} (h:look e t=look e2 t):look (yZ e dst d) t=look (yZ e2 dst d) t:=by
 by_cases hd:dst=some t
 ·subst hd
  rw [DF,DF]
 ·rw [pW hd,pW hd,h]
theorem ac' (l:Nat→Bool) (t:Nat):∀ (ts:List Tr) (e:Env),(∀ s∈ts,s.x.dst=some t→l s.i=false)→look (jL l ts e) t=look e t
 | [],_,_=>rfl
 | s::ts,e,h=>by
   simp only [jL]
   rw [ac' l t ts _ (fun s hs=>h s (List.mem_cons_of_mem _ hs))]
   cases hl:l s.i with
   | false=>rfl
   | true =>
     simp only [cond_true]
     exact pW fun hd=>by
      have := h s List.mem_cons_self hd
      rw [hl] at this
      simp at this
theorem afo (l:Nat→Bool) (t:Nat) {e':Env} {m':Mem}:∀ {ts:List Tr} {e e2:Env} {m:Mem},r_ O base e m ts e' m'→(∀ s∈ts,s.x.dst=some t→l s.i=true)→look e2 t=look e t→look (jL l ts e2) t=look e' t
 | [],e,e2,m,h,_,he=>by cases h; exact he
 | s::ts,e,e2,m,h,hl,he=>by
   cases h with
   | cons h hs =>
     simp only [jL]
     refine afo l t hs (fun s hs=>hl s (List.mem_cons_of_mem _ hs)) ?_
     rename_i i x d m1
     cases hli:l i with
     | true=>simp only [cond_true]; exact alx he
     | false =>
       simp only [cond_false]
       rw [he,pW]
       intro hd
       have := hl _ List.mem_cons_self hd
       simp only at this
       rw [hli] at this
       simp at this
theorem afp (l:Nat→Bool) {dst:Option Nat} {d:D} (t:Nat):∀ (ts:List Tr) (e e2:Env),(∀ s∈ts,∀ y,dst=some y→s.x.dst=some y→l s.i=false)→look e2 t=look (yZ e dst d) t→look (jL l ts e2) t=look (yZ (jL l ts e) dst d) t
 | [],e,e2,_,he=>he
 | s::ts,e,e2,hn,he=>by
   simp only [jL]
   refine afp l t ts _ _ (fun s hs=>hn s (List.mem_cons_of_mem _ hs)) ?_
   cases hl:l s.i with
   | false=>exact he
   | true =>
     simp only [cond_true]
     by_cases hd:s.x.dst=some t
     ·have : dst≠some t:=fun h=>by
       have := hn s List.mem_cons_self t h hd
       rw [hl] at this
       simp at this
      rw [hd,DF,pW this,DF]
     ·rw [pW hd,he]
      by_cases hd':dst=some t
      ·rw [hd',DF,DF]
      ·rw [pW hd',pW hd',pW hd]
theorem Vy (l:Nat→Bool):∀ (ts:List Tr) (m:Mem),(∀ s∈ts,s.x.k.acts=true→l s.i=false)→dQ base l ts m=m
 | [],_,_=>rfl
 | s::ts,m,h=>by
   simp only [dQ]
   have : (l s.i && s.x.k.acts)=false:=by
    cases ha:s.x.k.acts with
    | false=>simp
    | true=>simp [h s List.mem_cons_self ha]
   rw [this]
   exact Vy l ts m fun s hs=>h s (List.mem_cons_of_mem _ hs)
theorem Ua (l:Nat→Bool) {e':Env} {m':Mem}:∀ {ts:List Tr} {e:Env} {m:Mem},r_ O base e m ts e' m'→(∀ s∈ts,s.x.k.acts=true→l s.i=true)→dQ base l ts m=m'
 | [],e,m,h,_=>by cases h; rfl
 | s::ts,e,m,h,hl=>by
   cases h with
   | cons h hs =>
     rename_i i x d m1
     simp only [dQ]
     have hr:∀ s∈ts,s.x.k.acts=true→l s.i=true:=fun s hs=>hl s (List.mem_cons_of_mem _ hs)
     cases ha:x.k.acts with
     | false =>
       simp only [Bool.and_false,cond_false]
       rw [h.quiet ha] at hs
       exact Ua l hs hr
     | true =>
       have := hl _ List.mem_cons_self ha
       simp only at this
       rw [this,aDR h]
       exact Ua l hs hr
theorem Lp (l:Nat→Bool) {e':Env} {m':Mem}:∀ {ts:List Tr} {e:Env} {m pm:Mem},r_ O base e m ts e' m'→Ov pm m→(pm=m∨∀ s∈ts,s.x.k.acts=true→s.x.k.isA=false→l s.i=false)→(∀ s∈ts,s.x.k.cl = .w→l s.i=false) →
  ts.Pairwise (fun y x=>y.x.k.acts=true→x.x.k.acts=true→(y.x.k.isA && x.x.k.isA)=false→l x.i=true→l y.i=true)→wM pm (dQ base l ts pm)
 | [],e,m,pm,_,_,_,_,_ => .refl _
 | s::ts,e,m,pm,h,hL,hf,hw,hp=>by
   cases h with
   | cons h hs =>
     rename_i i x d m1
     have hw':∀ s∈ts,s.x.k.cl = .w→l s.i=false:=fun s hs=>hw s (List.mem_cons_of_mem _ hs)
     have hf':(∀ s∈(⟨i,x,d,m1⟩::ts:List Tr),s.x.k.acts=true→s.x.k.isA=false→l s.i=false)→∀ s∈ts,s.x.k.acts=true→s.x.k.isA=false→l s.i=false:=fun h s hs=>h s (List.mem_cons_of_mem _ hs)
     rw [List.pairwise_cons] at hp
     simp only [dQ]
     cases ha:x.k.acts with
     | false =>
       simp only [Bool.and_false,cond_false]
       rw [h.quiet ha] at hs
       exact Lp l hs hL (hf.imp id hf') hw' hp.2
     | true =>
       cases hA:x.k.isA with
       | true =>
         obtain ⟨j,z,hk⟩:=OE hA
         cases hli:l i with
         | false =>
           simp only [Bool.and_true,cond_false]
           have hn:∀ s∈ts,s.x.k.acts=true→s.x.k.isA=false→l s.i=false:=fun s hs' ha' hA'=>by
            cases hls:l s.i with
            | false=>rfl
            | true =>
              have := hp.1 s hs' ha ha' (by simp [hA']) hls
              simp only at this
              rw [hli] at this
              simp at this
           refine Lp l hs ?_ (.inr hn) hw' hp.2
           rcases h.alloc hk with ⟨rfl,rfl⟩ | ⟨hfr,rfl,rfl⟩
           ·exact hL
           ·exact hL.late hfr _
         | true =>
           simp only [Bool.and_true,cond_true]
           rcases h.alloc hk with ⟨rfl,rfl⟩ | ⟨hfr,rfl,rfl⟩
           ·have : Tr.upd base ⟨i,x,.aG [],m1⟩ pm=pm:=by simp [Tr.upd,hk]
            rw [this]
            exact Lp l hs hL (hf.imp id hf') hw' hp.2
           ·have : Tr.upd base ⟨i,x,.loc (base+j) 0,m.set (base+j) (.live z)⟩ pm=pm.set (base+j) (.live z):=by simp [Tr.upd,hk]
            rw [this]
            refine wM.trans (fun i s hi hn=>?_) (Lp l hs (hL.set hfr _) (hf.imp (fun e=>by rw [e]) hf') hw' hp.2)
            rw [List.getElem?_set]
            split
            ·rename_i e1
             subst e1
             rw [hL.free hfr] at hi
             exact absurd (Option.some.inj hi).symm hn
            ·exact hi
       | false =>
         cases hli:l i with
         | true =>
           simp only [Bool.and_true,cond_true]
           rw [Yi (t:=⟨i,x,d,m1⟩) hA]
           rcases hf with rfl | hf
           ·refine (h.up fun hc=>?_).trans (Lp l hs (.refl _) (.inl rfl) hw' hp.2)
            have := hw _ List.mem_cons_self hc
            simp only at this
            rw [hli] at this
            simp at this
           ·have := hf _ List.mem_cons_self ha hA
            simp only at this
            rw [hli] at this
            simp at this
         | false =>
           simp only [Bool.and_true,cond_false]
           rw [Vy l ts pm fun s hs' ha'=>by
            cases hls:l s.i with
            | false=>rfl
            | true =>
              have := hp.1 s hs' ha ha' (by simp [hA]) hls
              simp only at this
              rw [hli] at this
              simp at this]
           exact .refl _
theorem One.upN {x:EO} {e:Env} {m m1:Mem} {d:D} (h:One O base x e m d m1) (hk:x.k.isN=true):IQ base m m1:=by
 rcases h with ⟨_,_,rfl⟩ | ⟨_,ds,_,h⟩
 ·exact (wM.refl _).lt
 ·cases hx:x.k <;> rw [hx] at hk <;> simp only [K.isN] at hk <;> try (cases hk; done)
  rw [hx] at h
  simp only [K.run] at h
  unfold Pn at h
  split at h <;> try (simp at h; done)
  split at h <;> try (simp at h; done)
  rename_i b off d0 hb
  unfold yM at h
  simp only [Option.bind_eq_some_iff] at h
  obtain ⟨cs,_,h⟩:=h
  split at h <;> try (simp at h; done)
  split at h <;> try (simp at h; done)
  simp only [Option.some.injEq,Prod.mk.injEq] at h
  obtain ⟨_,rfl⟩:=h
  intro i s hi hs _
  rw [List.getElem?_set_ne (by omega)]
  exact hs
theorem G9 (l:Nat→Bool) {e':Env} {m':Mem}:∀ {ts:List Tr} {e:Env} {m pm:Mem},r_ O base e m ts e' m'→Ov pm m→(pm=m∨∀ s∈ts,s.x.k.acts=true→s.x.k.isA=false→l s.i=false)→(∀ s∈ts,s.x.k.cl = .w→s.x.k.isN=false→l s.i=false) →
  ts.Pairwise (fun y x=>y.x.k.acts=true→x.x.k.acts=true→(y.x.k.isA && x.x.k.isA)=false→l x.i=true→l y.i=true)→IQ base pm (dQ base l ts pm)
 | [],e,m,pm,_,_,_,_,_=>(wM.refl _).lt
 | s::ts,e,m,pm,h,hL,hf,hw,hp=>by
   cases h with
   | cons h hs =>
     rename_i i x d m1
     have hw':∀ s∈ts,s.x.k.cl = .w→s.x.k.isN=false→l s.i=false:=fun s hs=>hw s (List.mem_cons_of_mem _ hs)
     have hf':(∀ s∈(⟨i,x,d,m1⟩::ts:List Tr),s.x.k.acts=true→s.x.k.isA=false→l s.i=false)→∀ s∈ts,s.x.k.acts=true→s.x.k.isA=false→l s.i=false:=fun h s hs=>h s (List.mem_cons_of_mem _ hs)
     rw [List.pairwise_cons] at hp
     simp only [dQ]
     cases ha:x.k.acts with
     | false =>
       simp only [Bool.and_false,cond_false]
       rw [h.quiet ha] at hs
       exact G9 l hs hL (hf.imp id hf') hw' hp.2
     | true =>
       cases hA:x.k.isA with
       | true =>
         obtain ⟨j,z,hk⟩:=OE hA
         cases hli:l i with
         | false =>
           simp only [Bool.and_true,cond_false]
           have hn:∀ s∈ts,s.x.k.acts=true→s.x.k.isA=false→l s.i=false:=fun s hs' ha' hA'=>by
            cases hls:l s.i with
            | false=>rfl
            | true =>
              have := hp.1 s hs' ha ha' (by simp [hA']) hls
              simp only at this
              rw [hli] at this
              simp at this
           refine G9 l hs ?_ (.inr hn) hw' hp.2
           rcases h.alloc hk with ⟨rfl,rfl⟩ | ⟨hfr,rfl,rfl⟩
           ·exact hL
           ·exact hL.late hfr _
         | true =>
           simp only [Bool.and_true,cond_true]
           rcases h.alloc hk with ⟨rfl,rfl⟩ | ⟨hfr,rfl,rfl⟩
           ·have : Tr.upd base ⟨i,x,.aG [],m1⟩ pm=pm:=by simp [Tr.upd,hk]
            rw [this]
            exact G9 l hs hL (hf.imp id hf') hw' hp.2
           ·have : Tr.upd base ⟨i,x,.loc (base+j) 0,m.set (base+j) (.live z)⟩ pm=pm.set (base+j) (.live z):=by simp [Tr.upd,hk]
            rw [this]
            refine IQ.trans (fun i s hb hi hn=>?_) (G9 l hs (hL.set hfr _) (hf.imp (fun e=>by rw [e]) hf') hw' hp.2)
            rw [List.getElem?_set_ne (by omega)]
            exact hi
       | false =>
         cases hli:l i with
         | true =>
           simp only [Bool.and_true,cond_true]
           rw [Yi (t:=⟨i,x,d,m1⟩) hA]
           rcases hf with rfl | hf
           ·refine IQ.trans ?_ (G9 l hs (.refl _) (.inl rfl) hw' hp.2)
            cases hN:x.k.isN with
            | true=>exact h.upN hN
            | false =>
              refine (h.up fun hc=>?_).lt
              have := hw _ List.mem_cons_self hc hN
              simp only at this
              rw [hli] at this
              simp at this
           ·have := hf _ List.mem_cons_self ha hA
            simp only at this
            rw [hli] at this
            simp at this
         | false =>
           simp only [Bool.and_true,cond_false]
           rw [Vy l ts pm fun s hs' ha'=>by
            cases hls:l s.i with
            | false=>rfl
            | true =>
              have := hp.1 s hs' ha ha' (by simp [hA]) hls
              simp only at this
              rw [hli] at this
              simp at this]
           exact (wM.refl _).lt
end
end Go.Ev
end
section
namespace Go.Ev
theorem an2 {e e2:Env}:∀ {xs:List LV},(∀ t∈xs.filterMap (fun | .t n=>some n | .k _=>none),look e t=look e2 t)→evs e xs=evs e2 xs
 | [],_=>rfl
 | x::xs,h=>by
   have ih:evs e xs=evs e2 xs:=an2 fun t ht=>h t (by
    cases x <;> simp only [List.filterMap_cons] <;> first | exact List.mem_cons_of_mem _ ht | exact ht)
   cases x with
   | t n =>
     have : look e n=look e2 n:=h n (by simp)
     simp only [evs,LV.ev,this,ih]
   | k d=>simp only [evs,LV.ev,ih]
theorem auz {e e2:Env} {x:EO} (h:∀ t∈x.reads,look e t=look e2 t):x.wants e=x.wants e2:=by
 unfold EO.wants
 cases hg:x.guard with
 | none=>rfl
 | some g =>
   obtain ⟨t,b⟩:=g
   have : look e t=look e2 t:=h t (by simp [EO.reads,hg])
   simp only [this]
theorem aeK {l l':Nat→Bool}:∀ {ts:List Tr} {e:Env},(∀ s∈ts,l s.i=l' s.i)→jL l ts e=jL l' ts e
 | [],_,_=>rfl
 | s::ts,e,h=>by
   simp only [jL,h s List.mem_cons_self]
   exact aeK fun s hs=>h s (List.mem_cons_of_mem _ hs)
theorem aeN {base:Nat} {l l':Nat→Bool}:∀ {ts:List Tr} {m:Mem},(∀ s∈ts,l s.i=l' s.i)→dQ base l ts m=dQ base l' ts m
 | [],_,_=>rfl
 | s::ts,e,h=>by
   simp only [dQ,h s List.mem_cons_self]
   exact aeN fun s hs=>h s (List.mem_cons_of_mem _ hs)
theorem Bh.congr {c:Ctx} {e e2:Env} {a:Act} (h:Bh c e a) (he:∀ t,look e2 t=look e t):Bh c e2 a:=fun t d hd=>h t d (by rw [← he]; exact hd)
theorem azz {x y:EO} {t:Nat} (h:x.dst=some t) (hr:t∈y.reads):dep x y=true:=by
 simp [dep,h,hr]
theorem axz {x y:EO} {t:Nat} (h:y.dst=some t) (hr:t∈x.reads):dep x y=true:=by
 simp [dep,h,hr]
theorem aBQ {x y:EO} {t:Nat} (h:x.dst=some t) (hr:y.dst=some t):dep x y=true:=by
 simp [dep,h,hr]
theorem Kr {x y:EO} (h:arE x.k.cl y.k.cl=true) (ha:apart x.k y.k=false):dep x y=true:=by
 simp [dep,h,ha]
theorem I4 {a b:K} (h:(a.isA && b.isA)=false) (h2:a.isL=false):apart a b=false:=by
 cases a <;> first | (simp [K.isL] at h2; done) | (cases b <;> first | rfl | (simp [K.isA] at h; done))
theorem TR {k:K} (h:k.acts=true):k.isL=false:=by
 cases k <;> first | rfl | (simp [K.acts,K.cl] at h)
section
variable {P:Program} {w0:World} {N:Nat} {ops:Array Oper} {O:h_} {base:Nat}
def un (xs:List (Nat×EO)) (l:Array Bool):Nat:=(xs.filter fun y => !l.getD y.1 true).length
theorem auQ {f f':Nat→Bool} {i:Nat} (hf:∀ k,f' k=if k=i then true else f k) (hi:f i=false):∀ (xs:List (Nat×EO)),
  (xs.filter fun y => !f' y.1).length≤(xs.filter fun y => !f y.1).length∧((∃ y∈xs,y.1=i)→(xs.filter fun y => !f' y.1).length<(xs.filter fun y => !f y.1).length)
 | []=>⟨Nat.le_refl _,fun ⟨y,h,_⟩=>by simp at h⟩
 | y::xs=>by
   obtain ⟨h1,h2⟩:=auQ hf hi xs
   rw [List.filter_cons,List.filter_cons,hf y.1]
   by_cases hy:y.1=i
   ·rw [if_pos hy,hy,hi]
    simp only [Bool.not_true,Bool.not_false,if_true,Bool.false_eq_true,if_false,List.length_cons]
    exact ⟨by omega,fun _=>by omega⟩
   ·rw [if_neg hy]
    have h3:(∃ z∈y::xs,z.1=i)→∃ z∈xs,z.1=i:=by
     rintro ⟨z,hz,e⟩
     rcases List.mem_cons.1 hz with rfl | hz
     ·exact absurd e hy
     ·exact ⟨z,hz,e⟩
    cases f y.1
    ·simp only [Bool.not_false,if_true,List.length_cons]
     exact ⟨by omega,fun h=>by have := h2 (h3 h); omega⟩
    ·simp only [Bool.not_true,Bool.false_eq_true,if_false]
     exact ⟨h1,fun h=>h2 (h3 h)⟩
theorem aA3 {i:Nat} {l:Array Bool} (hi:l.getD i true=false) (xs:List (Nat×EO)) (hx:∃ y∈xs,y.1=i):un xs (l.setIfInBounds i true)<un xs l:=by
 have hlt:i<l.size:=by
  rcases Nat.lt_or_ge i l.size with h | h
  ·exact h
  ·simp [Array.getElem?_eq_none h] at hi
 refine (auQ (f:=fun k=>l.getD k true) (f':=fun k=>(l.setIfInBounds i true).getD k true) (i:=i) (fun k=>?_) hi xs).2 hx
 by_cases hk:k=i
 ·subst hk; simp [hlt]
 ·rw [getD_set_ne true (Ne.symm hk),if_neg hk]
theorem Good.step {l:Array Bool} (hg:Good ops l) {i:Nat} (hi:i∈Region.ready .any ops l):Good ops (l.setIfInBounds i true):=by
 obtain ⟨h0,o,ho,hall⟩:=mem_ready.1 hi
 refine ⟨by simpa using hg.1,fun j o' ho' hl e he hb=>getD_set_true ?_⟩
 by_cases hij:i=j
 ·subst hij
  rw [ho] at ho'
  cases ho'
  exact hall e he hb
 ·rw [getD_set_ne false hij] at hl
  exact hg.2 j o' ho' hl e he hb
theorem axF (hO:mD P w0 O) {xs:List (Nat×EO)} (hc:Checked P N ops xs) {e0 e':Env} {m0 m':Mem} {ts:List Tr} (ht:r_ O base e0 m0 ts e' m') (hx:ts.map (fun t=>(t.i,t.x))=xs)
  {l:Array Bool} (hg:Good ops l) {i:Nat} (hi:i∈Region.ready .any ops l) (hix:∃ y∈xs,y.1=i) {c:Ctx} {a:Act}
  (hs:St w0 N c (jL (fun k=>l.getD k false) ts e0) (dQ base (fun k=>l.getD k false) ts m0) a) {Kn:Act→World→Prop} {Q:Exit→Act→World→Prop}
  (hk:∀ a' c',St w0 N c' (jL (fun k=>(l.setIfInBounds i true).getD k false) ts e0) (dQ base (fun k=>(l.setIfInBounds i true).getD k false) ts m0) a' →
   Step c (dQ base (fun k=>l.getD k false) ts m0) c' (dQ base (fun k=>(l.setIfInBounds i true).getD k false) ts m0)→Kn a' c'.w):wpOp P ops Q i Kn a c.w:=by
 obtain ⟨h0,o,ho,hall⟩:=mem_ready.1 hi
 obtain ⟨⟨i',x⟩,hmem,e1⟩:=hix
 simp only at e1
 subst e1
 obtain ⟨o',ho',hchk⟩:=hc.each _ hmem
 simp only at ho' hchk
 rw [ho] at ho'
 cases ho'
 obtain ⟨s,hsmem,hse⟩:=List.mem_map.1 (hx ▸ hmem)
 obtain ⟨t1,t2,rfl⟩:=List.append_of_mem hsmem
 obtain ⟨si,sx,d,m1⟩:=s
 simp only [Prod.mk.injEq] at hse
 obtain ⟨rfl,rfl⟩:=hse
 obtain ⟨ek,mk,q1,q2,q3⟩:=ht.split
 simp only at q2 q3
 have hpw:=hc.pairs
 rw [← hx,List.pairwise_map,List.pairwise_append,List.pairwise_cons] at hpw
 obtain ⟨_,⟨hb2,hp2⟩,hb1⟩:=hpw
 have hsz:=hg.1
 have hlt:si<l.size:=by rw [hsz]; exact (Array.getElem?_eq_some_iff.1 ho).1
 have hl0:l.getD si false=false:=by
  simp [hlt] at h0 ⊢
  exact h0
 have B1:∀ y∈t1,dep y.x sx=true→l.getD y.i false=true:=fun y hy hd=>(hb1 y hy _ List.mem_cons_self).2 hd l o hg ho hall
 have N1:∀ y∈t1,y.i≠si:=fun y hy=>(hb1 y hy _ List.mem_cons_self).1
 have opOf:∀ k,l.getD k false=true→∃ o,ops[k]?=some o:=fun k hk=>by
  have : k<ops.size:=by
   rcases Nat.lt_or_ge k ops.size with h | h
   ·exact h
   ·rw [← hsz] at h
    simp [Array.getElem?_eq_none h] at hk
  exact ⟨ops[k],by simp [this]⟩
 have B2:∀ y∈t2,dep sx y.x=true→l.getD y.i false=false:=fun y hy hd=>by
  cases hl:l.getD y.i false with
  | false=>rfl
  | true =>
    obtain ⟨oy,hoy⟩:=opOf _ hl
    have := (hb2 y hy).2 hd l oy hg hoy (hg.2 _ _ hoy hl)
    rw [hl0] at this
    cases this
 have N2:∀ y∈t2,y.i≠si:=fun y hy=>Ne.symm (hb2 y hy).1
 have acl:∀ {a b:K},a.acts=true→b.acts=true→arE a.cl b.cl=true:=fun {a b} ha hb=>by
  unfold K.acts at ha hb
  cases h1:a.cl <;> rw [h1] at ha <;> simp at ha <;> cases h2:b.cl <;> rw [h2] at hb <;> simp at hb <;> rfl
 have P2:t2.Pairwise (fun y x=>y.x.k.acts=true→x.x.k.acts=true→(y.x.k.isA && x.x.k.isA)=false→l.getD x.i false=true→l.getD y.i false=true):=by
  refine hp2.imp fun {y x} h ha hb hn hl=>?_
  obtain ⟨ox,hox⟩:=opOf _ hl
  exact h.2 (Kr (acl ha hb) (I4 hn (TR ha))) l ox hg hox (hg.2 _ _ hox hl)
 let lf:Nat→Bool:=fun k=>l.getD k false
 let lf':Nat→Bool:=fun k=>(l.setIfInBounds si true).getD k false
 have hlf':∀ k,k≠si→lf' k=lf k:=fun k hk=>getD_set_ne false (Ne.symm hk)
 have hlfi:lf' si=true:=by simp [lf',hlt]
 have hE:jL lf (t1++⟨si,sx,d,m1⟩::t2) e0=jL lf t2 (jL lf t1 e0):=by
  rw [ace]
  simp only [jL]
  rw [show lf si=false from hl0]
  rfl
 have hM:dQ base lf (t1++⟨si,sx,d,m1⟩::t2) m0=dQ base lf t2 (dQ base lf t1 m0):=by
  rw [acf]
  simp only [dQ]
  rw [show lf si=false from hl0]
  rfl
 have hE':jL lf' (t1++⟨si,sx,d,m1⟩::t2) e0=jL lf t2 (yZ (jL lf t1 e0) sx.dst d):=by
  rw [ace]
  simp only [jL]
  rw [hlfi,aeK (l:=lf') (l':=lf) fun s hs=>hlf' _ (N1 s hs),aeK (l:=lf') (l':=lf) fun s hs=>hlf' _ (N2 s hs)]
  rfl
 have hM':dQ base lf' (t1++⟨si,sx,d,m1⟩::t2) m0=dQ base lf t2 (bif sx.k.acts then Tr.upd base ⟨si,sx,d,m1⟩ (dQ base lf t1 m0) else dQ base lf t1 m0):=by
  rw [acf]
  simp only [dQ]
  rw [hlfi,aeN (l:=lf') (l':=lf) fun s hs=>hlf' _ (N1 s hs),aeN (l:=lf') (l':=lf) fun s hs=>hlf' _ (N2 s hs)]
  simp
 have hread:∀ t∈sx.reads,look (jL lf t2 (jL lf t1 e0)) t=look ek t:=by
  intro t ht
  rw [ac' lf t t2 _ fun y hy hd=>B2 y hy (axz hd ht)]
  exact afo lf t q1 (fun y hy hd=>B1 y hy (azz hd ht)) rfl
 have hrun:sx.run O base (jL lf t2 (jL lf t1 e0)) (dQ base lf t2 (dQ base lf t1 m0))=some (yZ (jL lf t2 (jL lf t1 e0)) sx.dst d,dQ base lf t2 (bif sx.k.acts then Tr.upd base ⟨si,sx,d,m1⟩ (dQ base lf t1 m0) else dQ base lf t1 m0)):=by
  have hA:sx.k.acts=true→sx.k.isA=false→dQ base lf t2 (dQ base lf t1 m0)=mk∧dQ base lf t2 m1=m1:=fun ha hn=>by
   rw [Ua lf q1 fun y hy hya=>B1 y hy (Kr (acl hya ha) (I4 (by simp [hn]) (TR hya)))]
   exact ⟨Vy lf t2 _ fun y hy hya=>B2 y hy (Kr (acl ha hya) (I4 (by simp [hn]) (TR ha))),Vy lf t2 _ fun y hy hya=>B2 y hy (Kr (acl ha hya) (I4 (by simp [hn]) (TR ha)))⟩
  have hB:∀ {j:Nat} {z:List D},sx.k = .alloc j z→(mk[base+j]?=some .free→(dQ base lf t2 (dQ base lf t1 m0))[base+j]?=some .free)∧∀ v,dQ base lf t2 ((dQ base lf t1 m0).set (base+j) v)=(dQ base lf t2 (dQ base lf t1 m0)).set (base+j) v:=by
   intro j z hk
   have ha:sx.k.acts=true:=by rw [hk]; rfl
   have hL:Ov (dQ base lf t1 m0) mk:=aoq lf q1 (fun y hy hya hyn=>B1 y hy (Kr (acl hya ha) (I4 (by simp [hyn]) (TR hya)))) (.refl _)
   obtain ⟨p1,p2⟩:=aeO (base:=base) lf (j:=j) t2 (dQ base lf t1 m0) fun y hy hya hyl=>by
    have hd:dep sx y.x=false:=by
     cases hd:dep sx y.x with
     | false=>rfl
     | true =>
       have := B2 y hy hd
       rw [show l.getD y.i false=true from hyl] at this
       cases this
    have hap:apart sx.k y.x.k=true:=by
     cases h:apart sx.k y.x.k with
     | true=>rfl
     | false=>rw [Kr (acl ha hya) h] at hd; cases hd
    rw [hk] at hap
    cases hyk:y.x.k <;> rw [hyk] at hap <;> simp only [apart] at hap <;> try (cases hap; done)
    refine ⟨_,_,rfl,fun e=>?_⟩
    subst e
    rw [Nat.beq_refl] at hap
    cases hap
   exact ⟨fun hf=>by rw [p1]; exact hL.free hf,p2⟩
  unfold EO.run
  rw [auz hread]
  rcases q2 with ⟨hw,rfl,rfl⟩ | ⟨hw,ds,hds,hr⟩
  ·rw [hw]
   simp only [Option.bind_some,cond_false]
   cases ha:sx.k.acts with
   | false=>rfl
   | true =>
     simp only [cond_true]
     cases hn:sx.k.isA with
     | false=>rw [Yi (t:=⟨si,sx,.aG [],m1⟩) hn,(hA ha hn).1,(hA ha hn).2]
     | true =>
       obtain ⟨j,z,hka⟩:=OE hn
       have : Tr.upd base ⟨si,sx,.aG [],m1⟩ (dQ base lf t1 m0)=dQ base lf t1 m0:=by simp [Tr.upd,hka]
       rw [this]
  ·rw [hw]
   simp only [Option.bind_some,cond_true]
   rw [an2 (e2:=ek) fun t ht=>hread t (by simp only [EO.reads]; exact List.mem_append_right _ ht),hds]
   simp only [Option.bind_some]
   cases hcl:sx.k.cl with
   | p =>
     have ha:sx.k.acts=false:=by simp [K.acts,hcl]
     rw [(K.aAZ hcl hr).2,ha]
     rfl
   | r =>
     have ha:sx.k.acts=false:=by simp [K.acts,hcl]
     have nA:sx.k.isA=false:=by
      cases hn:sx.k.isA with
      | false=>rfl
      | true=>obtain ⟨j,z,hka⟩:=OE hn; rw [hka] at hcl; cases hcl
     have h1:dQ base lf t1 m0=mk:=Ua lf q1 fun y hy hya=>B1 y hy (Kr (by
      unfold K.acts at hya
      cases h1:y.x.k.cl <;> rw [h1] at hya <;> simp at hya <;> rw [hcl] <;> rfl) (I4 (by rw [nA]; simp) (TR hya)))
     have q3':r_ O base (yZ ek sx.dst d) mk t2 e' m':=by
      have : m1=mk:=(K.awE hcl hr).1
      rw [this] at q3
      exact q3
     cases hL:sx.k.isL with
     | false =>
       have h2:wM mk (dQ base lf t2 mk):=Lp lf q3' (.refl _) (.inl rfl) (fun y hy hyw=>B2 y hy (Kr (by rw [hcl,hyw]; rfl) (I4 (by rw [nA]; simp) hL))) P2
       rw [h1,(K.awE hcl hr).2 _ h2,ha]
       simp only [Option.bind_some,cond_false,h1]
     | true =>
       have h2:IQ base mk (dQ base lf t2 mk):=G9 lf q3' (.refl _) (.inl rfl) (fun y hy hyw hyn=>B2 y hy (Kr (by rw [hcl,hyw]; rfl) (by
        revert hL hyn
        generalize sx.k=k1
        generalize y.x.k=k2
        intro h3 h4
        cases k1 <;> simp only [K.isL] at h3 <;> try (cases h3; done)
        cases k2 <;> first | rfl | (simp only [K.isN] at h4; cases h4)))) P2
       rw [h1,(K.aED hL hr).2 _ h2,ha]
       simp only [Option.bind_some,cond_false,h1]
   | a =>
     have ha:sx.k.acts=true:=by simp [K.acts,hcl]
     cases hn:sx.k.isA with
     | false =>
       rw [(hA ha hn).1,hr,ha]
       simp only [Option.bind_some,cond_true,Yi (t:=⟨si,sx,d,m1⟩) hn,(hA ha hn).2]
     | true =>
       obtain ⟨j,z,hka⟩:=OE hn
       rw [ha]
       rw [hka] at hr ⊢
       simp only [K.run,JG] at hr ⊢
       split at hr <;> try (simp at hr; done)
       unfold zD at hr
       split at hr <;> try (simp at hr; done)
       rename_i hm
       simp only [Option.some.injEq,Prod.mk.injEq] at hr
       obtain ⟨rfl,rfl⟩:=hr
       have hu:Tr.upd base ⟨si,sx,.loc (base+j) 0,mk.set (base+j) (.live z)⟩ (dQ base lf t1 m0)=(dQ base lf t1 m0).set (base+j) (.live z):=by simp [Tr.upd,hka]
       simp only [zD,(hB hka).1 hm,cond_true,hu,(hB hka).2,Option.bind_some]
   | w =>
     have ha:sx.k.acts=true:=by simp [K.acts,hcl]
     have hn:sx.k.isA=false:=by
      cases hn:sx.k.isA with
      | false=>rfl
      | true=>obtain ⟨j,z,hka⟩:=OE hn; rw [hka] at hcl; cases hcl
     rw [(hA ha hn).1,hr,ha]
     simp only [Option.bind_some,cond_true,Yi (t:=⟨si,sx,d,m1⟩) hn,(hA ha hn).2]
 have hs':St w0 N c (jL lf t2 (jL lf t1 e0)) (dQ base lf t2 (dQ base lf t1 m0)) a:=by rw [← hE,← hM]; exact hs
 refine EO.sound hO ho hchk hs' hrun fun a' c' hst hstep=>hk a' c' ?_ ?_
 ·refine ⟨hst.size,hst.defers,?_,?_,hst.base⟩
  ·refine hst.env.congr fun t=>?_
   show look (jL lf' (t1++⟨si,sx,d,m1⟩::t2) e0) t=_
   rw [hE']
   exact afp lf t t2 _ _ (fun y hy z hz hyz=>B2 y hy (aBQ hz hyz)) rfl
  ·show Inv c' (dQ base lf' (t1++⟨si,sx,d,m1⟩::t2) m0)
   rw [hM']
   exact hst.inv
 ·show Step c (dQ base lf (t1++⟨si,sx,d,m1⟩::t2) m0) c' (dQ base lf' (t1++⟨si,sx,d,m1⟩::t2) m0)
  rw [hM,hM']
  exact hstep
theorem aoo {l:Nat→Bool} {e':Env} {m':Mem}:∀ {ts:List Tr} {e:Env} {m:Mem},r_ O base e m ts e' m'→(∀ s∈ts,l s.i=true)→jL l ts e=e'
 | [],e,m,h,_=>by cases h; rfl
 | s::ts,e,m,h,hl=>by
   cases h with
   | cons h hs =>
     have := hl _ List.mem_cons_self
     simp only at this
     simp only [jL,this,cond_true]
     exact aoo hs fun s hs=>hl s (List.mem_cons_of_mem _ hs)
theorem ahI (n i:Nat):(Array.replicate n false).getD i false=false:=by
 rw [Array.getD_eq_getD_getElem?,Array.getElem?_replicate]
 split <;> rfl
theorem alJ:∀ (n:Nat) (ts:List Tr) (e:Env),jL (fun k=>(Array.replicate n false).getD k false) ts e=e
 | n,[],e=>rfl
 | n,s::ts,e=>by
   simp only [jL]
   have : (Array.replicate n false).getD s.i false=false:=ahI n s.i
   rw [this]
   exact alJ n ts e
theorem aeP:∀ (n:Nat) (ts:List Tr) (m:Mem),dQ base (fun k=>(Array.replicate n false).getD k false) ts m=m
 | n,[],e=>rfl
 | n,s::ts,e=>by
   simp only [dQ]
   have : (Array.replicate n false).getD s.i false=false:=ahI n s.i
   rw [this]
   exact aeP n ts e
theorem axE (hO:mD P w0 O) {xs:List (Nat×EO)} (hc:Checked P N ops xs) (hall:∀ i,i<ops.size→∃ y∈xs,y.1=i)
  (hfin:∀ l:Array Bool,l.size=ops.size→Region.ready .any ops l=[]→∀ x∈xs,l.getD x.1 false=true)
  {e0 e':Env} {m0 m':Mem} {ts:List Tr} (ht:r_ O base e0 m0 ts e' m') (hx:ts.map (fun t=>(t.i,t.x))=xs) {c0:Ctx} {Q:Exit→Act→World→Prop}
  (hq:∀ a' c',St w0 N c' e' m' a'→Step c0 m0 c' m'→Q .normal a' c'.w) :
  ∀ (fuel:Nat) (l:Array Bool) (a:Act) (c:Ctx),Good ops l→un xs l≤fuel→St w0 N c (jL (fun k=>l.getD k false) ts e0) (dQ base (fun k=>l.getD k false) ts m0) a →
    Step c0 m0 c (dQ base (fun k=>l.getD k false) ts m0)→wpAny P .any ops Q fuel l a c.w:=by
 have done:∀ (l:Array Bool) (a:Act) (c:Ctx),Good ops l→Region.ready .any ops l=[]→St w0 N c (jL (fun k=>l.getD k false) ts e0) (dQ base (fun k=>l.getD k false) ts m0) a →
   Step c0 m0 c (dQ base (fun k=>l.getD k false) ts m0)→Q .normal a c.w:=by
  intro l a c hg hr hs hst
  have hl:∀ s∈ts,l.getD s.i false=true:=fun s hs=>hfin l hg.1 hr (s.i,s.x) (by rw [← hx]; exact List.mem_map.2 ⟨s,hs,rfl⟩)
  rw [aoo ht hl,Ua _ ht fun s hs _=>hl s hs] at hs
  rw [Ua _ ht fun s hs _=>hl s hs] at hst
  exact hq a c hs hst
 intro fuel
 induction fuel with
 | zero =>
   intro l a c hg hu hs hst
   have hr:Region.ready .any ops l=[]:=by
    cases hr:Region.ready .any ops l with
    | nil=>rfl
    | cons i is =>
      have hi:i∈Region.ready .any ops l:=by rw [hr]; exact List.mem_cons_self
      obtain ⟨h0,o,ho,_⟩:=mem_ready.1 hi
      have := aA3 h0 xs (hall i (Array.getElem?_eq_some_iff.1 ho).1)
      omega
   exact ⟨hr,done l a c hg hr hs hst⟩
 | succ fuel ih =>
   intro l a c hg hu hs hst
   refine ⟨fun hr=>done l a c hg hr hs hst,fun i hi=>?_⟩
   obtain ⟨h0,o,ho,_⟩:=mem_ready.1 hi
   have hlt:=aA3 h0 xs (hall i (Array.getElem?_eq_some_iff.1 ho).1)
   exact axF hO hc ht hx hg hi (hall i (Array.getElem?_eq_some_iff.1 ho).1) hs fun a' c' hs' hst'=>ih _ a' c' (hg.step hi) (by omega) hs' (hst.trans hst')
theorem asu (hm:P.follows .mixedOrders=true) (hO:mD P w0 O) {id:Nat} {xs:List (Nat×EO)} (hc:ajA P N ops xs=true) {c:Ctx} {e e':Env} {m m':Mem} {a:Act} (hs:St w0 N c e m a)
  (h:uV O base (xs.map (·.2)) e m=some (e',m')) {Q:Exit→Act→World→Prop} (hq:∀ a' c',St w0 N c' e' m' a'→Step c m c' m'→Q .normal a' c'.w):(Code.region id ops true).wp P Q a c.w:=by
 simp only [ajA,Bool.and_eq_true] at hc
 obtain ⟨h1,_,h3⟩:Checked P N ops xs∧_:=aqA xs [] hc.2 (fun y hy=>by simp at hy)
 obtain ⟨ts,ht,hx⟩:=ahX xs e m e' m' h
 let c1:Ctx:={ c with w:={ c.w with drawn:=c.w.drawn+1 } }
 have hst:Step c m c1 m:=Step.world _ (Nat.le_refl _) (fun _ _=>rfl) ⟨rfl,rfl⟩ hs.inv
 refine wp_region_any hm ?_
 have hgood:Good ops (Array.replicate ops.size false):=⟨by simp,fun i o _ hl=>by rw [ahI] at hl; cases hl⟩
 refine axE (c0:=c) hO h1 (fun i hi=>?_) (fun l hl hr=>h3 l hl hr (fun y hy=>by simp at hy)) ht hx hq ops.size _ a c1 hgood ?_ ?_ ?_
 ·have := List.all_eq_true.1 hc.1.1 i (List.mem_range.2 hi)
  obtain ⟨y,hy,e⟩:=List.any_eq_true.1 this
  exact ⟨y,hy,Nat.eq_of_beq_eq_true e⟩
 ·exact Nat.le_trans (List.length_filter_le _ _) (Nat.le_of_ble_eq_true hc.1.2)
 ·rw [alJ,aeP]
  exact ⟨hs.size,hs.defers,hs.env.mono hst.ext,Inv.world _ (Nat.le_refl _) (fun _ _=>rfl) hs.inv,hs.base.ext hst.ext⟩
 ·rw [aeP]
  exact hst
end
end Go.Ev
end
