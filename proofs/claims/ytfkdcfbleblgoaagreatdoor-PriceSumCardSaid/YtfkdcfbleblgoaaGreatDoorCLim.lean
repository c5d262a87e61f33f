/- A part of the proof of priceAll_card, yieldAll_card, priceSum_card, flowAll_card, accrAll_card. -/
import Derived.Test.YtfkdcfbleblgoaaGreatDoorCFun
set_option linter.unusedVariables false
set_option linter.unusedSimpArgs false
namespace Go.Ev
structure adQ (E:(Nat→Prop)→Prop):Prop where
 mono:∀ {p q:Nat→Prop},(∀ k,p k→q k)→E p→E q
 and:∀ {p q:Nat→Prop},E p→E q→E fun k=>p k∧q k
 all:∀ {p:Nat→Prop},(∀ k,p k)→E p
structure adS (E:(Nat→Prop)→Prop) (Os:Nat→h_) (O:h_):Prop where
 bf:∀ f args m r,O.bf f args m=some r→E fun k=>(Os k).bf f args m=some r
 loop:∀ ins outs body base vals m r,O.loop ins outs body base vals m=some r→E fun k=>(Os k).loop ins outs body base vals m=some r
 call:∀ f args r,O.call f args=some r→E fun k=>(Os k).call f args=some r
section
variable {E:(Nat→Prop)→Prop} {Os:Nat→h_} {O:h_}
theorem Vs (hE:adQ E) (hN:adS E Os O) {f:Nat} {args:List D} {d:D} (h:O.call f args=some d):E fun k=>(Os k).call f args=some d:=hN.call _ _ _ h
theorem azZ (hE:adQ E) (hN:adS E Os O) {k:K} {base:Nat} {ds:List D} {m:Mem} {r:D×Mem} (h:k.run O base ds m=some r):E fun i=>k.run (Os i) base ds m=some r:=by
 cases k
 case pU f =>
  simp only [K.run,yL,Option.bind_eq_some_iff] at h
  obtain ⟨r1,h1,d,h2,h3⟩:=h
  refine hE.mono (fun k hk=>?_) (Vs hE hN h2)
  simp only [K.run,yL,h1,Option.bind_some,hk,h3]
 case aaI f =>
  simp only [K.run,uH,cond_eq_ite] at h
  split at h
  ·rename_i hc
   rw [Option.bind_eq_some_iff] at h
   obtain ⟨d,h2,h3⟩:=h
   refine hE.mono (fun k hk=>?_) (Vs hE hN h2)
   simp only [K.run,uH,hc,cond_true,hk,Option.bind_some,h3]
  ·simp at h
 case bf f=>exact hN.bf _ _ _ _ h
 case ad9 =>
  simp only [K.run,NU] at h
  split at h
  ·rename_i f cap args
   simp only [Option.bind_eq_some_iff] at h
   obtain ⟨r1,h1,d,h2,h3⟩:=h
   refine hE.mono (fun k hk=>?_) (Vs hE hN h2)
   simp only [K.run,NU,h1,Option.bind_some,hk,h3]
  ·simp at h
 case QE tab =>
  simp only [K.run,Q_] at h
  split at h
  ·rename_i u e args
   rw [Option.bind_eq_some_iff] at h
   obtain ⟨f,hf,h⟩:=h
   simp only [uH,cond_eq_ite] at h
   split at h
   ·rename_i hc
    rw [Option.bind_eq_some_iff] at h
    obtain ⟨d,h2,h3⟩:=h
    refine hE.mono (fun k hk=>?_) (Vs hE hN h2)
    simp only [K.run,Q_,hf,Option.bind_some,uH,hc,cond_true,hk,h3]
   ·simp at h
  ·simp at h
 case akf tab =>
  simp only [K.run,UQ] at h
  split at h
  ·rename_i u e args
   rw [Option.bind_eq_some_iff] at h
   obtain ⟨f,hf,h⟩:=h
   simp only [yL,Option.bind_eq_some_iff] at h
   obtain ⟨r1,h1,d,h2,h3⟩:=h
   refine hE.mono (fun k hk=>?_) (Vs hE hN h2)
   simp only [K.run,UQ,hf,Option.bind_some,yL,h1,hk,h3]
  ·simp at h
 all_goals exact hE.all fun _=>h
theorem aCb (hE:adQ E) (hN:adS E Os O) {x:EO} {base:Nat} {e:Env} {m:Mem} {r:Env×Mem} (h:x.run O base e m=some r):E fun i=>x.run (Os i) base e m=some r:=by
 unfold EO.run at h
 rw [Option.bind_eq_some_iff] at h
 obtain ⟨w,hw,h⟩:=h
 cases w with
 | false=>exact hE.all fun k=>by unfold EO.run; rw [hw]; exact h
 | true =>
   simp only [cond_true] at h
   rw [Option.bind_eq_some_iff] at h
   obtain ⟨ds,hds,h⟩:=h
   rw [Option.bind_eq_some_iff] at h
   obtain ⟨r1,h1,h2⟩:=h
   refine hE.mono (fun k hk=>?_) (azZ hE hN h1)
   unfold EO.run
   rw [hw]
   simp only [Option.bind_some,cond_true,hds,hk,h2]
theorem akq (hE:adQ E) (hN:adS E Os O) {base:Nat}:∀ {xs:List EO} {e:Env} {m:Mem} {r:Env×Mem},uV O base xs e m=some r→E fun i=>uV (Os i) base xs e m=some r
 | [],e,m,r,h=>hE.all fun _=>h
 | x::xs,e,m,r,h=>by
   simp only [uV,Option.bind_eq_some_iff] at h
   obtain ⟨r1,h1,h2⟩:=h
   refine hE.mono (fun k hk=>?_) (hE.and (aCb hE hN h1) (akq hE hN h2))
   simp only [uV,hk.1,Option.bind_some,hk.2]
theorem aok (hE:adQ E) (hN:adS E Os O):∀ (c:EC) {R:Type} (e:Env) (m:Mem) (K:Ex→Env→Mem→Option R) (Kk:Nat→Ex→Env→Mem→Option R) (r:R),c.exec O e m K=some r →
  (∀ x e m r,K x e m=some r→E fun k=>Kk k x e m=some r)→E fun k=>c.exec (Os k) e m (Kk k)=some r:=by
 intro c
 induction c with
 | skip=>intro R e m K Kk r h hK; exact hK _ _ _ _ h
 | exit i=>intro R e m K Kk r h hK; exact hK _ _ _ _ h
 | ret=>intro R e m K Kk r h hK; exact hK _ _ _ _ h
 | region n os =>
   intro R e m K Kk r h hK
   simp only [EC.exec,Option.bind_eq_some_iff] at h
   obtain ⟨r1,h1,h2⟩:=h
   refine hE.mono (fun k hk=>?_) (hE.and (akq hE hN h1) (hK _ _ _ _ h2))
   simp only [EC.exec,hk.1,Option.bind_some,hk.2]
 | drawn n os =>
   intro R e m K Kk r h hK
   simp only [EC.exec,Option.bind_eq_some_iff] at h
   obtain ⟨r1,h1,h2⟩:=h
   refine hE.mono (fun k hk=>?_) (hE.and (akq hE hN h1) (hK _ _ _ _ h2))
   simp only [EC.exec,hk.1,Option.bind_some,hk.2]
 | seq x y ihx ihy =>
   intro R e m K Kk r h hK
   refine ihx e m _ _ r h fun x1 e1 m1 r1 h1=>?_
   cases x1 with
   | normal=>exact ihy e1 m1 K Kk r1 h1 hK
   | exit i=>exact hK _ _ _ _ h1
   | ret=>exact hK _ _ _ _ h1
 | cond o x y ihx ihy =>
   intro R e m K Kk r h hK
   simp only [EC.exec] at h
   split at h
   ·rename_i t ht
    cases t with
    | true =>
      refine hE.mono (fun k hk=>?_) (ihx e m K Kk r (by simpa using h) hK)
      simp only [EC.exec,ht,if_true,hk]
    | false =>
      refine hE.mono (fun k hk=>?_) (ihy e m K Kk r (by simpa using h) hK)
      simp only [EC.exec,ht,Bool.false_eq_true,if_false,hk]
   ·simp at h
 | block i b ih =>
   intro R e m K Kk r h hK
   refine ih e m _ _ r h fun x1 e1 m1 r1 h1=>?_
   cases x1 with
   | normal=>exact hK _ _ _ _ h1
   | ret=>exact hK _ _ _ _ h1
   | exit j =>
     simp only [cond_eq_ite] at h1 ⊢
     split at h1
     ·rename_i h2
      simp only [h2,if_true]
      exact hK _ _ _ _ h1
     ·rename_i h2
      rw [Bool.not_eq_true] at h2
      simp only [h2,Bool.false_eq_true,if_false]
      exact hK _ _ _ _ h1
 | loop ins outs b ih =>
   intro R e m K Kk r h hK
   simp only [EC.exec,Option.bind_eq_some_iff] at h
   obtain ⟨r1,h1,h2⟩:=h
   refine hE.mono (fun k hk=>?_) (hE.and (hN.loop _ _ _ _ _ _ _ h1) (hK _ _ _ _ h2))
   simp only [EC.exec,hk.1,Option.bind_some,hk.2]
 | mask keep b ih=>intro R e m K Kk r h hK; exact ih _ m K Kk r h hK
 | join keep b ih =>
   intro R e m K Kk r h hK
   simp only [EC.exec,Option.bind_eq_some_iff] at h
   obtain ⟨r1,h1,h2⟩:=h
   refine hE.mono (fun k hk=>?_) (hE.and (ih e m _ (fun _ x e' m'=>some (x,o_ e' keep,m')) r1 h1 fun x e m r hr=>hE.all fun _=>hr) (hK _ _ _ _ h2))
   simp only [EC.exec,hk.1,Option.bind_some,hk.2]
 | frz ts b ih =>
   intro R e m K Kk r h hK
   simp only [EC.exec,Option.bind_eq_some_iff] at h
   obtain ⟨r1,h1,h2⟩:=h
   refine hE.mono (fun k hk=>?_) (ih _ _ K Kk r h2 hK)
   simp only [EC.exec,h1,Option.bind_some,hk]
theorem Vt (hE:adQ E) (hN:adS E Os O) {ins outs:List Nat} {body:EC} {base:Nat} {vals:List D} {m:Mem} {r:Ex×List D×Mem} (h:Jy O ins outs body base vals m=some r) :
  E fun k=>Jy (Os k) ins outs body base vals m=some r:=by
 refine aok hE hN body _ m _ _ r h fun x e m r h=>?_
 cases x with
 | normal =>
   simp only [Option.bind_eq_some_iff] at h
   obtain ⟨r1,h1,h2⟩:=h
   refine hE.mono (fun k hk=>?_) (hN.loop _ _ _ _ _ _ _ h2)
   simp only [h1,Option.bind_some,hk]
 | exit i=>exact hE.all fun _=>h
 | ret=>exact hE.all fun _=>h
theorem am0 (hE:adQ E) (hN:adS E Os O) {ef:EF} {args:List D} {m:Mem} {r:D×Mem} (h:ef.step O args m=some r):E fun k=>ef.step (Os k) args m=some r:=by
 unfold EF.step at h
 cases hb:Nat.beq args.length ef.params.length with
 | false=>rw [hb] at h; simp at h
 | true =>
   rw [hb] at h
   simp only [cond_true] at h
   unfold EF.step
   rw [hb]
   exact aok hE hN ef.body _ m _ _ r h fun x e m r h=>hE.all fun _=>h
end
theorem aaS:adQ fun p=>p 0:=⟨fun h=>h 0,fun h1 h2=>⟨h1,h2⟩,fun h=>h 0⟩
def Evt (p:Nat→Prop):Prop:=∃ n,∀ k,n≤k→p k
theorem aq3:adQ Evt:=⟨fun h ⟨n,hn⟩=>⟨n,fun k hk=>h k (hn k hk)⟩,fun ⟨n,hn⟩ ⟨n',hn'⟩=>⟨max n n',fun k hk=>⟨hn k (by omega),hn' k (by omega)⟩⟩,fun h=>⟨0,fun k _=>h k⟩⟩
def h_.le (O O':h_):Prop:=adS (fun p=>p 0) (fun _=>O') O
theorem Zo (T:Tab):∀ (n f:Nat) (args:List D),(T.nO n).call f args=yJ ((T.nO n).bf f args [])
 | 0,_,_=>rfl
 | _+1,_,_=>rfl
theorem NS {x:Option (D×Mem)} {d:D} (h:yJ x=some d):∃ r,x=some r:=by
 cases x with
 | none=>simp [yJ] at h
 | some r=>exact ⟨r,rfl⟩
theorem ar1 (T:Tab):∀ n,(T.nO n).le (T.nO (n+1))
 | 0=>⟨fun f args m r h=>by simp [Tab.nO] at h,fun _ _ _ _ _ _ r h=>by simp [Tab.nO] at h,fun _ _ r h=>by simp [Tab.nO] at h⟩
 | n+1=>by
   have ih:=ar1 T n
   have hca:∀ f args m r,(T.nO (n+1)).bf f args m=some r→(T.nO (n+2)).bf f args m=some r:=?_
   ·refine ⟨hca,fun ins outs body base vals m r h=>Vt aaS ih h,fun f args d h=>?_⟩
    rw [Zo] at h ⊢
    obtain ⟨r,hr⟩:=NS h
    rw [hr] at h
    rw [hca _ _ _ _ hr,h]
   intro f args m r h
   show (T.nO (n+2)).bf f args m=some r
   change (match T.fn f with | some ef=>ef.step (T.nO n) args m | none=>T.ku f args m)=some r at h
   change (match T.fn f with | some ef=>ef.step (T.nO (n+1)) args m | none=>T.ku f args m)=some r
   cases hf:T.fn f with
   | none=>rw [hf] at h; exact h
   | some ef=>rw [hf] at h; exact am0 aaS ih h
theorem OM (T:Tab) {n k:Nat} (h:n≤k):(T.nO n).le (T.nO k):=by
 induction k with
 | zero=>have : n=0:=by omega
         subst this; exact ⟨fun _ _ _ _ h=>h,fun _ _ _ _ _ _ _ h=>h,fun _ _ _ h=>h⟩
 | succ k ih =>
   rcases Nat.lt_or_ge k n with h' | h'
   ·have : n=k+1:=by omega
    subst this; exact ⟨fun _ _ _ _ h=>h,fun _ _ _ _ _ _ _ h=>h,fun _ _ _ h=>h⟩
   ·have h1:=ih h'
    have h2:=ar1 T k
    exact ⟨fun f a m r h=>h2.bf f a m r (h1.bf f a m r h),fun a b c d e f r h=>h2.loop a b c d e f r (h1.loop a b c d e f r h),fun f a r h=>h2.call f a r (h1.call f a r h)⟩
open Classical in
noncomputable def Tab.awd (T:Tab) (f:Nat) (args:List D) (m:Mem):Option (D×Mem):=if h:∃ r,∃ n,(T.nO n).bf f args m=some r then some h.choose else none
open Classical in
noncomputable def Tab.lim (T:Tab):h_ where
 bf:=T.awd
 call f args:=yJ (T.awd f args [])
 loop ins outs body base vals m:=if h:∃ r,∃ n,(T.nO n).loop ins outs body base vals m=some r then some h.choose else none
theorem O_ {T:Tab} {f:Nat} {args:List D} {m:Mem} {r:D×Mem}:T.lim.bf f args m=some r↔∃ n,(T.nO n).bf f args m=some r:=by
 have uniq:∀ {r r':D×Mem},(∃ n,(T.nO n).bf f args m=some r)→(∃ n,(T.nO n).bf f args m=some r')→r=r':=by
  rintro r r' ⟨n,hn⟩ ⟨n',hn'⟩
  have h1:=(OM T (Nat.le_max_left n n')).bf f args m r hn
  have h2:=(OM T (Nat.le_max_right n n')).bf f args m r' hn'
  simp only at h1 h2
  rw [h1] at h2
  exact Option.some.inj h2
 show T.awd f args m=some r↔_
 unfold Tab.awd
 constructor
 ·intro h
  split at h
  ·rename_i hx
   simp at h
   rw [← h]
   exact hx.choose_spec
  ·simp at h
 ·intro h
  rw [dif_pos ⟨r,h⟩]
  exact congrArg some (uniq (Exists.choose_spec (p:=fun r=>∃ n,(T.nO n).bf f args m=some r) ⟨r,h⟩) h)
theorem arA {T:Tab} {ins outs:List Nat} {body:EC} {base:Nat} {vals:List D} {m:Mem} {r:Ex×List D×Mem}:T.lim.loop ins outs body base vals m=some r↔∃ n,(T.nO n).loop ins outs body base vals m=some r:=by
 have uniq:∀ {r r':Ex×List D×Mem},(∃ n,(T.nO n).loop ins outs body base vals m=some r)→(∃ n,(T.nO n).loop ins outs body base vals m=some r')→r=r':=by
  rintro r r' ⟨n,hn⟩ ⟨n',hn'⟩
  have h1:=(OM T (Nat.le_max_left n n')).loop _ _ _ _ _ _ r hn
  have h2:=(OM T (Nat.le_max_right n n')).loop _ _ _ _ _ _ r' hn'
  simp only at h1 h2
  rw [h1] at h2
  exact Option.some.inj h2
 unfold Tab.lim
 simp only
 constructor
 ·intro h
  split at h
  ·rename_i hx
   simp at h
   rw [← h]
   exact hx.choose_spec
  ·simp at h
 ·intro h
  rw [dif_pos ⟨r,h⟩]
  exact congrArg some (uniq (Exists.choose_spec (p:=fun r=>∃ n,(T.nO n).loop ins outs body base vals m=some r) ⟨r,h⟩) h)
theorem arR (T:Tab):adS Evt T.nO T.lim :=
 ⟨fun f args m r h=>let ⟨n,hn⟩:=O_.1 h; ⟨n,fun k hk=>(OM T hk).bf f args m r hn⟩,
  fun a b c d e f r h=>let ⟨n,hn⟩:=arA.1 h; ⟨n,fun k hk=>(OM T hk).loop a b c d e f r hn⟩,
  fun f args d h=>by
   change yJ (T.lim.bf f args [])=some d at h
   obtain ⟨r,hr⟩:=NS h
   rw [hr] at h
   obtain ⟨n,hn⟩:=O_.1 hr
   refine ⟨n,fun k hk=>?_⟩
   show (T.nO k).call f args=some d
   rw [Zo,(OM T hk).bf _ _ _ _ hn,h]⟩
theorem arz {T:Tab} {f:Nat} {ef:EF} (hf:T.fn f=some ef) {args:List D} {m:Mem} {r:D×Mem} (h:ef.step T.lim args m=some r):T.lim.bf f args m=some r:=by
 obtain ⟨n,hn⟩:=am0 aq3 (arR T) h
 refine O_.2 ⟨n+1,?_⟩
 change (match T.fn f with | some ef=>ef.step (T.nO n) args m | none=>T.ku f args m)=some r
 rw [hf]
 exact hn n (Nat.le_refl n)
theorem arB {T:Tab} {f:Nat} (hf:T.fn f=none) {args:List D} {m:Mem} {r:D×Mem} (h:T.ku f args m=some r):T.lim.bf f args m=some r:=by
 refine O_.2 ⟨1,?_⟩
 change (match T.fn f with | some ef=>ef.step (T.nO 0) args m | none=>T.ku f args m)=some r
 rw [hf]
 exact h
theorem aoe {T:Tab} {ins outs:List Nat} {body:EC} {base:Nat} {vals:List D} {m:Mem} {r:Ex×List D×Mem} (h:Jy T.lim ins outs body base vals m=some r):T.lim.loop ins outs body base vals m=some r:=by
 obtain ⟨n,hn⟩:=Vt aq3 (arR T) h
 exact arA.2 ⟨n+1,hn n (Nat.le_refl n)⟩
structure apQ (P:Program) (w0:World) (T:Tab):Prop where
 mixed:P.follows .mixedOrders=true
 fns:∀ f ef,T.fn f=some ef→XL P f ef=true
 aEt:∀ f,T.fn f=none→∀ args m r m',T.ku f args m=some (r,m')→IU P w0 f args m r m'
theorem ayg {P:Program} {w0:World} {T:Tab} (hT:apQ P w0 T):∀ n,avs P w0 (T.nO n)
 | 0=>⟨⟨fun f args m r m' h=>by simp [Tab.nO] at h,fun _ _ _ h=>by simp [Tab.nO] at h⟩,fun _ _ _ _ _ _ _ _ _ _ _ _ _ _ _ h=>by simp [Tab.nO] at h⟩
 | n+1=>by
   have ih:=ayg hT n
   refine ⟨⟨fun f args m r m' h=>?_,fun f args d h=>by rw [← Zo]; exact h⟩,fun N ins outs body code hc c0 m0 hB0 hi0 vals m x vals' m' h c a hs hst Q hQ=>?_⟩
   ·change (match T.fn f with | some ef=>ef.step (T.nO n) args m | none=>T.ku f args m)=some (r,m') at h
    cases hf:T.fn f with
    | none=>rw [hf] at h; exact hT.aEt f hf _ _ _ _ h
    | some ef=>rw [hf] at h; exact aEi hT.mixed ih (hT.fns f ef hf) h
   ·change Jy (T.nO n) ins outs body m0.length vals m=some (x,vals',m') at h
    refine PS.round (EC.sound hT.mixed ih body code hc _ m _ _ h c a hs _ fun x1 e1 m1 a1 c1 h1 hs1 hst1=>?_)
    have leave:∀ {ts:List Nat} {ds:List D} {m2:Mem},gc m0.length (o_ e1 ts) m1=some (ds,m2)→∃ c2,c2.w=c1.w∧St w0 N c2 (xA ts ds) m2 a1∧Step c0 m0 c2 m2:=by
     intro ts ds m2 hgc
     obtain ⟨c2,hw2,hi2,hs2,hr2⟩:=aAS hi0 hs1.inv (hst.trans hst1) (TY hs1.env ts) hgc
     exact ⟨c2,hw2,⟨hs1.size,hs1.defers,Yj hr2,hi2,hB0.ext hs2.ext⟩,hs2⟩
    cases x1 with
    | normal =>
      simp only [Option.bind_eq_some_iff] at h1
      obtain ⟨⟨ds,m2⟩,hgc,h2⟩:=h1
      obtain ⟨c2,hw2,hs2,hst2⟩:=leave hgc
      show PS P code Q a1 c1.w
      rw [← hw2]
      exact ih.loops N ins outs body code hc c0 m0 hB0 hi0 ds m2 x vals' m' h2 c2 a1 hs2 hst2 Q hQ
    | exit i =>
      simp only [Option.bind_eq_some_iff,Option.some.injEq,Prod.mk.injEq] at h1
      obtain ⟨⟨ds,m2⟩,hgc,rfl,rfl,rfl⟩:=h1
      obtain ⟨c2,hw2,hs2,hst2⟩:=leave hgc
      show Q (.exit i) a1 c1.w
      rw [← hw2]
      exact hQ a1 c2 hs2 hst2
    | ret =>
      simp only [Option.bind_eq_some_iff,Option.some.injEq,Prod.mk.injEq] at h1
      obtain ⟨⟨ds,m2⟩,hgc,rfl,rfl,rfl⟩:=h1
      obtain ⟨c2,hw2,hs2,hst2⟩:=leave hgc
      show Q .ret a1 c1.w
      rw [← hw2]
      exact hQ a1 c2 hs2 hst2
end Go.Ev
