/- A part of the proof of priceWait_card. -/
import Derived.Test.YtlnjbdkgdocjeaaGreatDoorCFun
set_option linter.unusedVariables false
set_option linter.unusedSimpArgs false
namespace Go.Ev
structure VH (E:(Nat→Prop)→Prop):Prop where
 mono:∀ {p q:Nat→Prop},(∀ k,p k→q k)→E p→E q
 and:∀ {p q:Nat→Prop},E p→E q→E fun k=>p k∧q k
 all:∀ {p:Nat→Prop},(∀ k,p k)→E p
structure VJ (E:(Nat→Prop)→Prop) (Os:Nat→eP) (O:eP):Prop where
 aU:∀ f args m r,O.aU f args m=some r→E fun k=>(Os k).aU f args m=some r
 loop:∀ ins outs body base vals m r,O.loop ins outs body base vals m=some r→E fun k=>(Os k).loop ins outs body base vals m=some r
 call:∀ f args r,O.call f args=some r→E fun k=>(Os k).call f args=some r
section
variable {E:(Nat→Prop)→Prop} {Os:Nat→eP} {O:eP}
theorem KU (hE:VH E) (hN:VJ E Os O) {f:Nat} {args:List D} {d:D} (h:O.call f args=some d):E fun k=>(Os k).call f args=some d:=hN.call _ _ _ h
theorem aqv (hE:VH E) (hN:VJ E Os O) {k:K} {base:Nat} {ds:List D} {m:Mem} {r:D×Mem} (h:k.run O base ds m=some r):E fun i=>k.run (Os i) base ds m=some r:=by
 cases k
 case nM f =>
  simp only [K.run,uN,Option.bind_eq_some_iff] at h
  obtain ⟨r1,h1,d,h2,h3⟩:=h
  refine hE.mono (fun k hk=>?_) (KU hE hN h2)
  simp only [K.run,uN,h1,Option.bind_some,hk,h3]
 case RJ f =>
  simp only [K.run,qh,cond_eq_ite] at h
  split at h
  ·rename_i hc
   rw [Option.bind_eq_some_iff] at h
   obtain ⟨d,h2,h3⟩:=h
   refine hE.mono (fun k hk=>?_) (KU hE hN h2)
   simp only [K.run,qh,hc,cond_true,hk,Option.bind_some,h3]
  ·simp at h
 case aU f=>exact hN.aU _ _ _ _ h
 case VT =>
  simp only [K.run,H6] at h
  split at h
  ·rename_i f cap args
   simp only [Option.bind_eq_some_iff] at h
   obtain ⟨r1,h1,d,h2,h3⟩:=h
   refine hE.mono (fun k hk=>?_) (KU hE hN h2)
   simp only [K.run,H6,h1,Option.bind_some,hk,h3]
  ·simp at h
 case Hg tab =>
  simp only [K.run,Ku] at h
  split at h
  ·rename_i u e args
   rw [Option.bind_eq_some_iff] at h
   obtain ⟨f,hf,h⟩:=h
   simp only [qh,cond_eq_ite] at h
   split at h
   ·rename_i hc
    rw [Option.bind_eq_some_iff] at h
    obtain ⟨d,h2,h3⟩:=h
    refine hE.mono (fun k hk=>?_) (KU hE hN h2)
    simp only [K.run,Ku,hf,Option.bind_some,qh,hc,cond_true,hk,h3]
   ·simp at h
  ·simp at h
 case ab9 tab =>
  simp only [K.run,Oh] at h
  split at h
  ·rename_i u e args
   rw [Option.bind_eq_some_iff] at h
   obtain ⟨f,hf,h⟩:=h
   simp only [uN,Option.bind_eq_some_iff] at h
   obtain ⟨r1,h1,d,h2,h3⟩:=h
   refine hE.mono (fun k hk=>?_) (KU hE hN h2)
   simp only [K.run,Oh,hf,Option.bind_some,uN,h1,hk,h3]
  ·simp at h
 all_goals exact hE.all fun _=>h
theorem atj (hE:VH E) (hN:VJ E Os O) {x:EO} {base:Nat} {e:Env} {m:Mem} {r:Env×Mem} (h:x.run O base e m=some r):E fun i=>x.run (Os i) base e m=some r:=by
 unfold EO.run at h
 rw [Option.bind_eq_some_iff] at h
 obtain ⟨w,hw,h⟩:=h
 cases w with
 | false=>exact hE.all fun k=>by unfold EO.run; rw [hw]; exact h
 | true =>
   simp only [cond_true] at h
   rw [Option.bind_eq_some_iff] at h
   obtain ⟨ds,hds,h⟩:=h
   rw [Option.bind_eq_some_iff] at h
   obtain ⟨r1,h1,h2⟩:=h
   refine hE.mono (fun k hk=>?_) (aqv hE hN h1)
   unfold EO.run
   rw [hw]
   simp only [Option.bind_some,cond_true,hds,hk,h2]
theorem acj (hE:VH E) (hN:VJ E Os O) {base:Nat}:∀ {xs:List EO} {e:Env} {m:Mem} {r:Env×Mem},oN O base xs e m=some r→E fun i=>oN (Os i) base xs e m=some r
 | [],e,m,r,h=>hE.all fun _=>h
 | x::xs,e,m,r,h=>by
   simp only [oN,Option.bind_eq_some_iff] at h
   obtain ⟨r1,h1,h2⟩:=h
   refine hE.mono (fun k hk=>?_) (hE.and (atj hE hN h1) (acj hE hN h2))
   simp only [oN,hk.1,Option.bind_some,hk.2]
theorem af8 (hE:VH E) (hN:VJ E Os O):∀ (c:EC) {R:Type} (e:Env) (m:Mem) (K:Ex→Env→Mem→Option R) (Kk:Nat→Ex→Env→Mem→Option R) (r:R),c.exec O e m K=some r →
  (∀ x e m r,K x e m=some r→E fun k=>Kk k x e m=some r)→E fun k=>c.exec (Os k) e m (Kk k)=some r:=by
 intro c
 induction c with
 | skip=>intro R e m K Kk r h hK; exact hK _ _ _ _ h
 | exit i=>intro R e m K Kk r h hK; exact hK _ _ _ _ h
 | ret=>intro R e m K Kk r h hK; exact hK _ _ _ _ h
 | region n os =>
   intro R e m K Kk r h hK
   simp only [EC.exec,Option.bind_eq_some_iff] at h
   obtain ⟨r1,h1,h2⟩:=h
   refine hE.mono (fun k hk=>?_) (hE.and (acj hE hN h1) (hK _ _ _ _ h2))
   simp only [EC.exec,hk.1,Option.bind_some,hk.2]
 | drawn n os =>
   intro R e m K Kk r h hK
   simp only [EC.exec,Option.bind_eq_some_iff] at h
   obtain ⟨r1,h1,h2⟩:=h
   refine hE.mono (fun k hk=>?_) (hE.and (acj hE hN h1) (hK _ _ _ _ h2))
   simp only [EC.exec,hk.1,Option.bind_some,hk.2]
 | seq x y ihx ihy =>
   intro R e m K Kk r h hK
   refine ihx e m _ _ r h fun x1 e1 m1 r1 h1=>?_
   cases x1 with
   | normal=>exact ihy e1 m1 K Kk r1 h1 hK
   | exit i=>exact hK _ _ _ _ h1
   | ret=>exact hK _ _ _ _ h1
 | cond o x y ihx ihy =>
   intro R e m K Kk r h hK
   simp only [EC.exec] at h
   split at h
   ·rename_i t ht
    cases t with
    | true =>
      refine hE.mono (fun k hk=>?_) (ihx e m K Kk r (by simpa using h) hK)
      simp only [EC.exec,ht,if_true,hk]
    | false =>
      refine hE.mono (fun k hk=>?_) (ihy e m K Kk r (by simpa using h) hK)
      simp only [EC.exec,ht,Bool.false_eq_true,if_false,hk]
   ·simp at h
 | block i b ih =>
   intro R e m K Kk r h hK
   refine ih e m _ _ r h fun x1 e1 m1 r1 h1=>?_
   cases x1 with
   | normal=>exact hK _ _ _ _ h1
   | ret=>exact hK _ _ _ _ h1
   | exit j =>
     simp only [cond_eq_ite] at h1 ⊢
     split at h1
     ·rename_i h2
      simp only [h2,if_true]
      exact hK _ _ _ _ h1
     ·rename_i h2
      rw [Bool.not_eq_true] at h2
      simp only [h2,Bool.false_eq_true,if_false]
      exact hK _ _ _ _ h1
 | loop ins outs b ih =>
   intro R e m K Kk r h hK
   simp only [EC.exec,Option.bind_eq_some_iff] at h
   obtain ⟨r1,h1,h2⟩:=h
   refine hE.mono (fun k hk=>?_) (hE.and (hN.loop _ _ _ _ _ _ _ h1) (hK _ _ _ _ h2))
   simp only [EC.exec,hk.1,Option.bind_some,hk.2]
 | mask keep b ih=>intro R e m K Kk r h hK; exact ih _ m K Kk r h hK
 | join keep b ih =>
   intro R e m K Kk r h hK
   simp only [EC.exec,Option.bind_eq_some_iff] at h
   obtain ⟨r1,h1,h2⟩:=h
   refine hE.mono (fun k hk=>?_) (hE.and (ih e m _ (fun _ x e' m'=>some (x,kY e' keep,m')) r1 h1 fun x e m r hr=>hE.all fun _=>hr) (hK _ _ _ _ h2))
   simp only [EC.exec,hk.1,Option.bind_some,hk.2]
 | frz ts b ih =>
   intro R e m K Kk r h hK
   simp only [EC.exec,Option.bind_eq_some_iff] at h
   obtain ⟨r1,h1,h2⟩:=h
   refine hE.mono (fun k hk=>?_) (ih _ _ K Kk r h2 hK)
   simp only [EC.exec,h1,Option.bind_some,hk]
theorem Zk (hE:VH E) (hN:VJ E Os O) {ins outs:List Nat} {body:EC} {base:Nat} {vals:List D} {m:Mem} {r:Ex×List D×Mem} (h:BG O ins outs body base vals m=some r) :
  E fun k=>BG (Os k) ins outs body base vals m=some r:=by
 refine af8 hE hN body _ m _ _ r h fun x e m r h=>?_
 cases x with
 | normal =>
   simp only [Option.bind_eq_some_iff] at h
   obtain ⟨r1,h1,h2⟩:=h
   refine hE.mono (fun k hk=>?_) (hN.loop _ _ _ _ _ _ _ h2)
   simp only [h1,Option.bind_some,hk]
 | exit i=>exact hE.all fun _=>h
 | ret=>exact hE.all fun _=>h
theorem ae0 (hE:VH E) (hN:VJ E Os O) {ef:EF} {args:List D} {m:Mem} {r:D×Mem} (h:ef.step O args m=some r):E fun k=>ef.step (Os k) args m=some r:=by
 unfold EF.step at h
 cases hb:Nat.beq args.length ef.params.length with
 | false=>rw [hb] at h; simp at h
 | true =>
   rw [hb] at h
   simp only [cond_true] at h
   unfold EF.step
   rw [hb]
   exact af8 hE hN ef.body _ m _ _ r h fun x e m r h=>hE.all fun _=>h
end
theorem RY:VH fun p=>p 0:=⟨fun h=>h 0,fun h1 h2=>⟨h1,h2⟩,fun h=>h 0⟩
def Evt (p:Nat→Prop):Prop:=∃ n,∀ k,n≤k→p k
theorem aiE:VH Evt:=⟨fun h ⟨n,hn⟩=>⟨n,fun k hk=>h k (hn k hk)⟩,fun ⟨n,hn⟩ ⟨n',hn'⟩=>⟨max n n',fun k hk=>⟨hn k (by omega),hn' k (by omega)⟩⟩,fun h=>⟨0,fun k _=>h k⟩⟩
def eP.le (O O':eP):Prop:=VJ (fun p=>p 0) (fun _=>O') O
theorem P8 (T:Tab):∀ (n f:Nat) (args:List D),(T.jU n).call f args=sS ((T.jU n).aU f args [])
 | 0,_,_=>rfl
 | _+1,_,_=>rfl
theorem Eu {x:Option (D×Mem)} {d:D} (h:sS x=some d):∃ r,x=some r:=by
 cases x with
 | none=>simp [sS] at h
 | some r=>exact ⟨r,rfl⟩
theorem ajk (T:Tab):∀ n,(T.jU n).le (T.jU (n+1))
 | 0=>⟨fun f args m r h=>by simp [Tab.jU] at h,fun _ _ _ _ _ _ r h=>by simp [Tab.jU] at h,fun _ _ r h=>by simp [Tab.jU] at h⟩
 | n+1=>by
   have ih:=ajk T n
   have hca:∀ f args m r,(T.jU (n+1)).aU f args m=some r→(T.jU (n+2)).aU f args m=some r:=?_
   ·refine ⟨hca,fun ins outs body base vals m r h=>Zk RY ih h,fun f args d h=>?_⟩
    rw [P8] at h ⊢
    obtain ⟨r,hr⟩:=Eu h
    rw [hr] at h
    rw [hca _ _ _ _ hr,h]
   intro f args m r h
   show (T.jU (n+2)).aU f args m=some r
   change (match T.fn f with | some ef=>ef.step (T.jU n) args m | none=>T.iI f args m)=some r at h
   change (match T.fn f with | some ef=>ef.step (T.jU (n+1)) args m | none=>T.iI f args m)=some r
   cases hf:T.fn f with
   | none=>rw [hf] at h; exact h
   | some ef=>rw [hf] at h; exact ae0 RY ih h
theorem Fp (T:Tab) {n k:Nat} (h:n≤k):(T.jU n).le (T.jU k):=by
 induction k with
 | zero=>have : n=0:=by omega
         subst this; exact ⟨fun _ _ _ _ h=>h,fun _ _ _ _ _ _ _ h=>h,fun _ _ _ h=>h⟩
 | succ k ih =>
   rcases Nat.lt_or_ge k n with h' | h'
   ·have : n=k+1:=by omega
    subst this; exact ⟨fun _ _ _ _ h=>h,fun _ _ _ _ _ _ _ h=>h,fun _ _ _ h=>h⟩
   ·have h1:=ih h'
    have h2:=ajk T k
    exact ⟨fun f a m r h=>h2.aU f a m r (h1.aU f a m r h),fun a b c d e f r h=>h2.loop a b c d e f r (h1.loop a b c d e f r h),fun f a r h=>h2.call f a r (h1.call f a r h)⟩
open Classical in
noncomputable def Tab.amM (T:Tab) (f:Nat) (args:List D) (m:Mem):Option (D×Mem):=if h:∃ r,∃ n,(T.jU n).aU f args m=some r then some h.choose else none
open Classical in
noncomputable def Tab.lim (T:Tab):eP where
 aU:=T.amM
 call f args:=sS (T.amM f args [])
 loop ins outs body base vals m:=if h:∃ r,∃ n,(T.jU n).loop ins outs body base vals m=some r then some h.choose else none
theorem FX {T:Tab} {f:Nat} {args:List D} {m:Mem} {r:D×Mem}:T.lim.aU f args m=some r↔∃ n,(T.jU n).aU f args m=some r:=by
 have uniq:∀ {r r':D×Mem},(∃ n,(T.jU n).aU f args m=some r)→(∃ n,(T.jU n).aU f args m=some r')→r=r':=by
  rintro r r' ⟨n,hn⟩ ⟨n',hn'⟩
  have h1:=(Fp T (Nat.le_max_left n n')).aU f args m r hn
  have h2:=(Fp T (Nat.le_max_right n n')).aU f args m r' hn'
  simp only at h1 h2
  rw [h1] at h2
  exact Option.some.inj h2
 show T.amM f args m=some r↔_
 unfold Tab.amM
 constructor
 ·intro h
  split at h
  ·rename_i hx
   simp at h
   rw [← h]
   exact hx.choose_spec
  ·simp at h
 ·intro h
  rw [dif_pos ⟨r,h⟩]
  exact congrArg some (uniq (Exists.choose_spec (p:=fun r=>∃ n,(T.jU n).aU f args m=some r) ⟨r,h⟩) h)
theorem ai2 {T:Tab} {ins outs:List Nat} {body:EC} {base:Nat} {vals:List D} {m:Mem} {r:Ex×List D×Mem}:T.lim.loop ins outs body base vals m=some r↔∃ n,(T.jU n).loop ins outs body base vals m=some r:=by
 have uniq:∀ {r r':Ex×List D×Mem},(∃ n,(T.jU n).loop ins outs body base vals m=some r)→(∃ n,(T.jU n).loop ins outs body base vals m=some r')→r=r':=by
  rintro r r' ⟨n,hn⟩ ⟨n',hn'⟩
  have h1:=(Fp T (Nat.le_max_left n n')).loop _ _ _ _ _ _ r hn
  have h2:=(Fp T (Nat.le_max_right n n')).loop _ _ _ _ _ _ r' hn'
  simp only at h1 h2
  rw [h1] at h2
  exact Option.some.inj h2
 unfold Tab.lim
 simp only
 constructor
 ·intro h
  split at h
  ·rename_i hx
   simp at h
   rw [← h]
   exact hx.choose_spec
  ·simp at h
 ·intro h
  rw [dif_pos ⟨r,h⟩]
  exact congrArg some (uniq (Exists.choose_spec (p:=fun r=>∃ n,(T.jU n).loop ins outs body base vals m=some r) ⟨r,h⟩) h)
theorem ajg (T:Tab):VJ Evt T.jU T.lim :=
 ⟨fun f args m r h=>let ⟨n,hn⟩:=FX.1 h; ⟨n,fun k hk=>(Fp T hk).aU f args m r hn⟩,
  fun a b c d e f r h=>let ⟨n,hn⟩:=ai2.1 h; ⟨n,fun k hk=>(Fp T hk).loop a b c d e f r hn⟩,
  fun f args d h=>by
   change sS (T.lim.aU f args [])=some d at h
   obtain ⟨r,hr⟩:=Eu h
   rw [hr] at h
   obtain ⟨n,hn⟩:=FX.1 hr
   refine ⟨n,fun k hk=>?_⟩
   show (T.jU k).call f args=some d
   rw [P8,(Fp T hk).aU _ _ _ _ hn,h]⟩
theorem ai1 {T:Tab} {f:Nat} {ef:EF} (hf:T.fn f=some ef) {args:List D} {m:Mem} {r:D×Mem} (h:ef.step T.lim args m=some r):T.lim.aU f args m=some r:=by
 obtain ⟨n,hn⟩:=ae0 aiE (ajg T) h
 refine FX.2 ⟨n+1,?_⟩
 change (match T.fn f with | some ef=>ef.step (T.jU n) args m | none=>T.iI f args m)=some r
 rw [hf]
 exact hn n (Nat.le_refl n)
theorem ai3 {T:Tab} {f:Nat} (hf:T.fn f=none) {args:List D} {m:Mem} {r:D×Mem} (h:T.iI f args m=some r):T.lim.aU f args m=some r:=by
 refine FX.2 ⟨1,?_⟩
 change (match T.fn f with | some ef=>ef.step (T.jU 0) args m | none=>T.iI f args m)=some r
 rw [hf]
 exact h
theorem af5 {T:Tab} {ins outs:List Nat} {body:EC} {base:Nat} {vals:List D} {m:Mem} {r:Ex×List D×Mem} (h:BG T.lim ins outs body base vals m=some r):T.lim.loop ins outs body base vals m=some r:=by
 obtain ⟨n,hn⟩:=Zk aiE (ajg T) h
 exact ai2.2 ⟨n+1,hn n (Nat.le_refl n)⟩
structure ahv (P:Program) (w0:World) (T:Tab):Prop where
 mixed:P.follows .mixedOrders=true
 fns:∀ f ef,T.fn f=some ef→NV P f ef=true
 avS:∀ f,T.fn f=none→∀ args m r m',T.iI f args m=some (r,m')→AO P w0 f args m r m'
theorem aoK {P:Program} {w0:World} {T:Tab} (hT:ahv P w0 T):∀ n,al6 P w0 (T.jU n)
 | 0=>⟨⟨fun f args m r m' h=>by simp [Tab.jU] at h,fun _ _ _ h=>by simp [Tab.jU] at h⟩,fun _ _ _ _ _ _ _ _ _ _ _ _ _ _ _ h=>by simp [Tab.jU] at h⟩
 | n+1=>by
   have ih:=aoK hT n
   refine ⟨⟨fun f args m r m' h=>?_,fun f args d h=>by rw [← P8]; exact h⟩,fun N ins outs body code hc c0 m0 hB0 hi0 vals m x vals' m' h c a hs hst Q hQ=>?_⟩
   ·change (match T.fn f with | some ef=>ef.step (T.jU n) args m | none=>T.iI f args m)=some (r,m') at h
    cases hf:T.fn f with
    | none=>rw [hf] at h; exact hT.avS f hf _ _ _ _ h
    | some ef=>rw [hf] at h; exact avI hT.mixed ih (hT.fns f ef hf) h
   ·change BG (T.jU n) ins outs body m0.length vals m=some (x,vals',m') at h
    refine Gs.round (EC.sound hT.mixed ih body code hc _ m _ _ h c a hs _ fun x1 e1 m1 a1 c1 h1 hs1 hst1=>?_)
    have leave:∀ {ts:List Nat} {ds:List D} {m2:Mem},gc m0.length (kY e1 ts) m1=some (ds,m2)→∃ c2,c2.w=c1.w∧St w0 N c2 (qM ts ds) m2 a1∧Step c0 m0 c2 m2:=by
     intro ts ds m2 hgc
     obtain ⟨c2,hw2,hi2,hs2,hr2⟩:=arB hi0 hs1.inv (hst.trans hst1) (JC hs1.env ts) hgc
     exact ⟨c2,hw2,⟨hs1.size,hs1.defers,OI hr2,hi2,hB0.ext hs2.ext⟩,hs2⟩
    cases x1 with
    | normal =>
      simp only [Option.bind_eq_some_iff] at h1
      obtain ⟨⟨ds,m2⟩,hgc,h2⟩:=h1
      obtain ⟨c2,hw2,hs2,hst2⟩:=leave hgc
      show Gs P code Q a1 c1.w
      rw [← hw2]
      exact ih.loops N ins outs body code hc c0 m0 hB0 hi0 ds m2 x vals' m' h2 c2 a1 hs2 hst2 Q hQ
    | exit i =>
      simp only [Option.bind_eq_some_iff,Option.some.injEq,Prod.mk.injEq] at h1
      obtain ⟨⟨ds,m2⟩,hgc,rfl,rfl,rfl⟩:=h1
      obtain ⟨c2,hw2,hs2,hst2⟩:=leave hgc
      show Q (.exit i) a1 c1.w
      rw [← hw2]
      exact hQ a1 c2 hs2 hst2
    | ret =>
      simp only [Option.bind_eq_some_iff,Option.some.injEq,Prod.mk.injEq] at h1
      obtain ⟨⟨ds,m2⟩,hgc,rfl,rfl,rfl⟩:=h1
      obtain ⟨c2,hw2,hs2,hst2⟩:=leave hgc
      show Q .ret a1 c1.w
      rw [← hw2]
      exact hQ a1 c2 hs2 hst2
end Go.Ev
