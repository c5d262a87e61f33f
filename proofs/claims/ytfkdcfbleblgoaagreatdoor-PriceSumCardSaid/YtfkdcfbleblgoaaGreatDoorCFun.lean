/- A part of the proof of priceAll_card, yieldAll_card, priceSum_card, flowAll_card, accrAll_card. -/
import Derived.Test.YtfkdcfbleblgoaaGreatDoorCReg
set_option linter.unusedVariables false
set_option linter.unusedSimpArgs false
section
namespace Go.Ev
def Ex.to:Ex→Exit
 | .normal => .normal
 | .exit i => .exit i
 | .ret => .ret
def EC.chk (P:Program) (N:Nat):EC→Code→Bool
 | .skip,c=>match c with | .skip=>true | _=>false
 | .region _ os,c=>match c with | .region _ ops false=>oD P N ops os ops.toList | _=>false
 | .drawn _ os,c=>match c with | .region _ ops true=>ajA P N ops os | _=>false
 | .seq a b,c=>match c with | .seq x y=>a.chk P N x && b.chk P N y | _=>false
 | .cond o a b,c=>match c with | .cond o' x y=>o.chk o' && a.chk P N x && b.chk P N y | _=>false
 | .block i b,c=>match c with | .block j x=>Nat.beq i j && b.chk P N x | _=>false
 | .loop _ _ b,c=>match c with | .loop x=>b.chk P N x | _=>false
 | .exit i,c=>match c with | .exit j=>Nat.beq i j | _=>false
 | .ret,c=>match c with | .ret=>true | _=>false
 | .mask _ b,c=>b.chk P N c
 | .join _ b,c=>b.chk P N c
 | .frz _ b,c=>b.chk P N c
def PS (P:Program) (c:Code) (Q:Exit→Act→World→Prop) (a:Act) (w:World):Prop :=
 ∀ (b:Frame) (k:List Item) (cs:List Frame),∃ e a' w',Q e a' w'∧Arrives P (lone (b.at a (.code c :: .inLoop c::k)) cs w) b k cs e a' w'
theorem PS.wp {P:Program} {c:Code} {Q:Exit→Act→World→Prop} {a:Act} {w:World} (h:PS P c Q a w):(Code.loop c).wp P Q a w:=fun b k cs =>
 let ⟨e,a',w',q,r⟩:=h b k cs
 ⟨e,a',w',q,.of_steps (.one step_loop) r⟩
theorem PS.round {P:Program} {c:Code} {Q:Exit→Act→World→Prop} {a:Act} {w:World} (h:c.wp P (Exit.then (PS P c Q) Q) a w):PS P c Q a w:=by
 intro b k cs
 obtain ⟨e,a₁,w₁,hq,harr⟩:=h b (.inLoop c::k) cs
 cases e with
 | normal =>
   obtain ⟨e₂,a₂,w₂,hq₂,harr₂⟩:=hq b k cs
   exact ⟨e₂,a₂,w₂,hq₂,.of_steps (Steps.trans harr (.one step_inLoop)) harr₂⟩
 | exit id=>exact ⟨_,a₁,w₁,hq,.pass (x := .inLoop c) rfl (fun _ _ => .inl (by simp)) harr⟩
 | goto l=>exact ⟨_,a₁,w₁,hq,.pass (x := .inLoop c) rfl (fun _ _ => .inl (by simp)) harr⟩
 | ret=>exact ⟨_,a₁,w₁,hq,.pass (x := .inLoop c) rfl (fun _ _ => .inl (by simp)) harr⟩
 | panic ch=>exact ⟨_,a₁,w₁,hq,.pass (x := .inLoop c) rfl (fun _ _ => .inl (by simp)) harr⟩
 | outgrown=>exact ⟨_,a₁,w₁,hq,.pass (x := .inLoop c) rfl (fun _ _ => .inl (by simp)) harr⟩
structure avs (P:Program) (w0:World) (O:h_):Prop where
 calls:mD P w0 O
 loops:∀ (N:Nat) (ins outs:List Nat) (body:EC) (code:Code),body.chk P N code=true→∀ (c0:Ctx) (m0:Mem),Base w0 c0→Inv c0 m0→∀ (vals:List D) (m:Mem) (x:Ex) (vals':List D) (m':Mem),O.loop ins outs body m0.length vals m=some (x,vals',m') →
  ∀ (c:Ctx) (a:Act),St w0 N c (xA ins vals) m a→Step c0 m0 c m→∀ Q:Exit→Act→World→Prop,(∀ a' c',St w0 N c' (xA outs vals') m' a'→Step c0 m0 c' m'→Q x.to a' c'.w)→PS P code Q a c.w
section
variable {P:Program} {w0:World} {N:Nat} {O:h_}
theorem aeB {e:Env} {t:Nat} {d:D}:∀ {ks:List Nat},look (XT e ks) t=some d→look e t=some d
 | [],h=>by simp [XT,look] at h
 | k::ks,h=>by
   unfold XT at h
   split at h
   ·rename_i d' hd'
    simp only [look,cond_eq_ite] at h
    split at h
    ·rename_i e1
     rw [← Nat.eq_of_beq_eq_true e1,hd',h]
    ·exact aeB h
   ·exact aeB h
theorem Bh.getD {c:Ctx} {e:Env} {a:Act} (h:Bh c e a) (t:Nat):Rep c ((look e t).getD .undef) (a.tmps.getD t Go.undef):=by
 cases hl:look e t with
 | none=>exact .undef _
 | some d=>exact h t d hl
theorem TY {c:Ctx} {e:Env} {a:Act} (h:Bh c e a):∀ ks:List Nat,dM c (o_ e ks) (ks.map fun t=>a.tmps.getD t Go.undef)
 | [] => .nil
 | k::ks => .cons (h.getD k) (TY h ks)
theorem Yj {c:Ctx} {a:Act}:∀ {ks:List Nat} {ds:List D},dM c ds (ks.map fun t=>a.tmps.getD t Go.undef)→Bh c (xA ks ds) a
 | [],ds,_=>fun t d h=>by simp [xA,look] at h
 | k::ks,ds,h=>by
   cases h with
   | cons h1 h2 =>
     intro t d ht
     simp only [xA,look,cond_eq_ite] at ht
     split at ht
     ·rename_i e1
      rw [← Nat.eq_of_beq_eq_true e1]
      simp at ht
      subst ht
      exact h1
     ·exact Yj h2 t d ht
theorem Bh.append {c:Ctx} {e e2:Env} {a:Act} (h:Bh c e a) (h2:Bh c e2 a):Bh c (e2++e) a:=by
 intro t d ht
 induction e2 with
 | nil=>exact h t d ht
 | cons y e2 ih =>
   obtain ⟨k,d'⟩:=y
   simp only [List.cons_append,look,cond_eq_ite] at ht
   split at ht
   ·rename_i e1
    refine h2 t d ?_
    simp only [look,cond_eq_ite,e1,if_true]
    exact ht
   ·rename_i e1
    have hf:∀ t',Nat.beq k t'=false→∀ d,look e2 t'=some d→Rep c d (a.tmps.getD t' Go.undef):=fun t' hk d hd=>h2 t' d (by simp only [look,hk]; exact hd)
    have key:∀ (l:Env),(∀ d,look l t=some d→Rep c d (a.tmps.getD t Go.undef))→∀ d,look (l++e) t=some d→Rep c d (a.tmps.getD t Go.undef):=by
     intro l
     induction l with
     | nil=>exact fun _ d hd=>h t d hd
     | cons z l ihl =>
       intro hl d hd
       simp only [List.cons_append,look,cond_eq_ite] at hd
       split at hd
       ·rename_i e2
        exact hl d (by simp only [look,cond_eq_ite,e2,if_true]; exact hd)
       ·rename_i e2
        exact ihl (fun d hd'=>hl d (by simp only [look,cond_eq_ite]; rw [if_neg e2]; exact hd')) d hd
    exact key e2 (fun d hd=>hf t (Bool.eq_false_iff.2 e1) d hd) d ht
theorem St.grow {c:Ctx} {e:Env} {m:Mem} {a:Act} (hs:St w0 N c e m a) (n:Nat):St w0 N c e (m++List.replicate n .free) a:=⟨hs.size,hs.defers,hs.env,Inv.grow n hs.inv,hs.base⟩
theorem EC.sound {R:Type} (hm:P.follows .mixedOrders=true) (hO:avs P w0 O):∀ (c:EC) (code:Code),c.chk P N code=true→∀ (e:Env) (m:Mem) (K:Ex→Env→Mem→Option R) (r:R),c.exec O e m K=some r →
  ∀ (cx:Ctx) (a:Act),St w0 N cx e m a→∀ Q:Exit→Act→World→Prop,(∀ x e' m' a' c',K x e' m'=some r→St w0 N c' e' m' a'→Step cx m c' m'→Q x.to a' c'.w)→code.wp P Q a cx.w:=by
 intro c
 induction c generalizing R with
 | skip =>
   intro code hc e m K r h cx a hs Q hQ
   simp only [EC.chk] at hc
   split at hc <;> simp at hc
   exact wp_skip (hQ .normal e m a cx h hs (.refl cx m))
 | region n os =>
   intro code hc e m K r h cx a hs Q hQ
   simp only [EC.chk] at hc
   split at hc <;> try (simp at hc; done)
   simp only [EC.exec,Option.bind_eq_some_iff] at h
   obtain ⟨⟨e1,m1⟩,h1,h2⟩:=h
   exact asv hO.calls hc (hs.grow n) h1 fun a' c' hs' hst=>hQ .normal e1 m1 a' c' h2 hs' ((Step.grow cx m n).trans hst)
 | drawn n os =>
   intro code hc e m K r h cx a hs Q hQ
   simp only [EC.chk] at hc
   split at hc <;> try (simp at hc; done)
   simp only [EC.exec,Option.bind_eq_some_iff] at h
   obtain ⟨⟨e1,m1⟩,h1,h2⟩:=h
   exact asu hm hO.calls hc (hs.grow n) h1 fun a' c' hs' hst=>hQ .normal e1 m1 a' c' h2 hs' ((Step.grow cx m n).trans hst)
 | seq x y ihx ihy =>
   intro code hc e m K r h cx a hs Q hQ
   simp only [EC.chk] at hc
   split at hc <;> try (simp at hc; done)
   simp only [Bool.and_eq_true] at hc
   refine wp_seq (ihx _ hc.1 e m _ r h cx a hs _ fun x1 e1 m1 a1 c1 h1 hs1 hst1=>?_)
   cases x1 with
   | normal=>exact ihy _ hc.2 e1 m1 K r h1 c1 a1 hs1 Q fun x2 e2 m2 a2 c2 h2 hs2 hst2=>hQ x2 e2 m2 a2 c2 h2 hs2 (hst1.trans hst2)
   | exit i=>exact hQ (.exit i) e1 m1 a1 c1 h1 hs1 hst1
   | ret=>exact hQ .ret e1 m1 a1 c1 h1 hs1 hst1
 | cond o x y ihx ihy =>
   intro code hc e m K r h cx a hs Q hQ
   simp only [EC.chk] at hc
   split at hc <;> try (simp at hc; done)
   simp only [Bool.and_eq_true] at hc
   simp only [EC.exec] at h
   split at h
   ·rename_i t ht
    have := (LV.rep hs.env hc.1.1 ht).mG
    cases t with
    | true=>exact wp_cond_true this (ihx _ hc.1.2 e m K r (by simpa using h) cx a hs Q hQ)
    | false=>exact wp_cond_false this (ihy _ hc.2 e m K r (by simpa using h) cx a hs Q hQ)
   ·simp at h
 | block i b ih =>
   intro code hc e m K r h cx a hs Q hQ
   simp only [EC.chk] at hc
   split at hc <;> try (simp at hc; done)
   rename_i j x
   simp only [Bool.and_eq_true] at hc
   have := Nat.eq_of_beq_eq_true hc.1
   subst this
   refine wp_block (ih _ hc.2 e m _ r h cx a hs _ fun x1 e1 m1 a1 c1 h1 hs1 hst1=>?_)
   cases x1 with
   | normal=>exact hQ .normal e1 m1 a1 c1 h1 hs1 hst1
   | ret=>exact hQ .ret e1 m1 a1 c1 h1 hs1 hst1
   | exit k =>
     simp only [cond_eq_ite] at h1
     simp only [Ex.to,Exit.inBlock]
     split at h1
     ·rename_i e1
      rw [if_pos (Nat.eq_of_beq_eq_true e1)]
      exact hQ .normal _ m1 a1 c1 h1 hs1 hst1
     ·rename_i e1
      rw [if_neg (fun e2=>e1 (by rw [e2]; exact Nat.beq_refl i))]
      exact hQ (.exit k) _ m1 a1 c1 h1 hs1 hst1
 | loop ins outs b ih =>
   intro code hc e m K r h cx a hs Q hQ
   simp only [EC.chk] at hc
   split at hc <;> try (simp at hc; done)
   simp only [EC.exec,Option.bind_eq_some_iff] at h
   obtain ⟨⟨x,vals',m'⟩,h1,h2⟩:=h
   refine PS.wp (hO.loops N ins outs b _ hc cx m hs.base hs.inv _ m x vals' m' h1 cx a ⟨hs.size,hs.defers,Yj (TY hs.env ins),hs.inv,hs.base⟩ (.refl cx m) Q fun a' c' hs' hst'=>?_)
   exact hQ x _ m' a' c' h2 hs' hst'
 | exit i =>
   intro code hc e m K r h cx a hs Q hQ
   simp only [EC.chk] at hc
   split at hc <;> try (simp at hc; done)
   have := Nat.eq_of_beq_eq_true hc
   subst this
   exact wp_exit (hQ (.exit i) e m a cx h hs (.refl cx m))
 | ret =>
   intro code hc e m K r h cx a hs Q hQ
   simp only [EC.chk] at hc
   split at hc <;> simp at hc
   exact wp_ret (hQ .ret e m a cx h hs (.refl cx m))
 | mask keep b ih =>
   intro code hc e m K r h cx a hs Q hQ
   exact ih code hc (XT e keep) m K r h cx a ⟨hs.size,hs.defers,fun t d hd=>hs.env t d (aeB hd),hs.inv,hs.base⟩ Q hQ
 | join keep b ih =>
   intro code hc e m K r h cx a hs Q hQ
   simp only [EC.exec,Option.bind_eq_some_iff] at h
   obtain ⟨⟨x,vals,m1⟩,h1,h2⟩:=h
   refine ih code hc e m _ _ h1 cx a hs Q fun x1 e1 m2 a1 c1 h3 hs1 hst1=>?_
   simp only [Option.some.injEq,Prod.mk.injEq] at h3
   obtain ⟨rfl,rfl,rfl⟩:=h3
   exact hQ x1 _ m2 a1 c1 h2 ⟨hs1.size,hs1.defers,Yj (TY hs1.env keep),hs1.inv,hs1.base⟩ hst1
 | frz ts b ih =>
   intro code hc e m K r h cx a hs Q hQ
   simp only [EC.exec,Option.bind_eq_some_iff] at h
   obtain ⟨⟨ds,m1⟩,h1,h2⟩:=h
   obtain ⟨c1,hw,hi1,hs1,hl,hF⟩:=QA (aic FZ) _ m ds m1 h1 cx hs.inv (TY hs.env ts).ex
   have hrep:dM c1 ds (ts.map fun t=>a.tmps.getD t Go.undef):=(ag_ (TY hs.env ts) hl hF).rep
   rw [← hw]
   exact ih code hc _ m1 K r h2 c1 a ⟨hs.size,hs.defers,(hs.env.mono hs1.ext).append (Yj hrep),hi1,hs.base.ext hs1.ext⟩ Q fun x e' m' a' c' h3 hs3 hst3=>hQ x e' m' a' c' h3 hs3 (hs1.trans hst3)
end
end Go.Ev
end
section
namespace Go.Ev
def avH (P:Program):ER→ResultVar→Bool
 | .tmp t,.tmp t'=>Nat.beq t t'
 | .cell t agg n,.cell t' T=>Nat.beq t t' && (ZR P T==some agg) && (!agg || pG P T==some n)
 | _,_=>false
def YK (P:Program):List ER→List ResultVar→Bool
 | [],[]=>true
 | x::xs,y::ys=>avH P x y && YK P xs ys
 | _,_=>false
def XL (P:Program) (f:Nat) (ef:EF):Bool :=
 match P.funcs[f]? with
 | some fn=>match fn.body with
   | some code => !(fn.name == "runtime.NumGoroutine") && ef.body.chk P fn.ntmps code && YK P ef.res fn.results.toList && (ef.params==List.range ef.params.length)
   | none=>false
 | none=>false
section
variable {P:Program} {w0:World} {N:Nat} {O:h_}
def adC (tmps:Array Value):ResultVar→Sem Value
 | .tmp t=>pure (tmps.getD t undef)
 | .cell a t=>do loadVar t (← asAddr (tmps.getD a undef))
theorem aEe {x:ER} {y:ResultVar} (hc:avH P x y=true) {c:Ctx} {e:Env} {m:Mem} {a:Act} (hs:St w0 N c e m a) {d:D} (h:x.get e m=some d) :
  ∃ v,(adC a.tmps y).run P c.w = .ok v c.w∧Rep c d v:=by
 unfold avH at hc
 split at hc
 ·have := Nat.eq_of_beq_eq_true hc
  subst this
  exact ⟨_,rfl,hs.env _ d h⟩
 ·rename_i t agg n t' T
  simp only [Bool.and_eq_true,beq_iff_eq] at hc
  obtain ⟨⟨h1,h2⟩,h3⟩:=hc
  have := Nat.eq_of_beq_eq_true h1
  subst this
  simp only [ER.get,Option.bind_eq_some_iff] at h
  obtain ⟨da,hda,⟨cells,off⟩,hadr,h⟩:=h
  have hr:=hs.env _ da hda
  obtain ⟨blk,st,cs,T',fr,hv,hb,hcells⟩:=amA hs.inv hr hadr
  cases agg with
  | false =>
    simp only [cond_false] at h
    obtain ⟨v',hv',hrep,hone⟩:=hcells off d h
    refine ⟨v',?_,hrep⟩
    have : c.w.cell? ⟨blk,st+off,none⟩=some v':=by simp [World.cell?,hb,hv']
    simp [adC,hv,asAddr,loadVar,ZT h2,this]
  | true =>
    simp only [cond_true,Option.bind_eq_some_iff] at h
    obtain ⟨ds',hds',h⟩:=h
    simp at h
    subst h
    simp at h3
    obtain ⟨hle,hlen,hget⟩:=Gm hds'
    obtain ⟨vs,hrun,hvl,_,hvr⟩:=wK (P:=P) (c:=c) (w:=c.w) (blk:=blk) (o:=st+off) (n:=n) (ds:=ds') hb hlen (fun j d' hd'=>by
     have hj:j<n:=by rw [← hlen]; exact (List.getElem?_eq_some_iff.1 hd').1
     obtain ⟨v',q1,q2,q3⟩:=hcells (off+j) d' (by rw [← hget j hj]; exact hd')
     exact ⟨v',by rw [Nat.add_assoc]; exact q1,q2,q3⟩)
    refine ⟨.agg vs.toArray,?_,.agg ds' vs.toArray (fun j=>vs.getD j undef) (by simp [hvl,hlen]) (fun j hj=>?_) (fun j d' hd'=>?_)⟩
    ·simp [adC,hv,asAddr,loadVar,ZT h2,oz h3,hrun]
    ·obtain ⟨v',q1,q2,q3⟩:=hvr j ds'[j] (List.getElem?_eq_getElem hj)
     simp [List.getD,q1,q3]
    ·obtain ⟨v',q1,q2,q3⟩:=hvr j d' hd'
     simp [List.getD,q1,q2]
 ·simp at hc
theorem axI {c:Ctx} {e:Env} {m:Mem} {a:Act} (hs:St w0 N c e m a):∀ {xs:List ER} {ys:List ResultVar} {ds:List D},YK P xs ys=true→Ir e m xs=some ds →
  ∃ vs,(ys.mapM (adC a.tmps)).run P c.w = .ok vs c.w∧dM c ds vs
 | [],[],ds,_,h=>by simp [Ir] at h; subst h; exact ⟨[],rfl,.nil⟩
 | [],_::_,_,hc,_=>by simp [YK] at hc
 | _::_,[],_,hc,_=>by simp [YK] at hc
 | x::xs,y::ys,ds,hc,h=>by
   simp only [YK,Bool.and_eq_true] at hc
   simp only [Ir,Option.bind_eq_some_iff] at h
   obtain ⟨d,hd,ds',hds,h⟩:=h
   simp at h
   subst h
   obtain ⟨v,hv,hr⟩:=aEe hc.1 hs hd
   obtain ⟨vs,hvs,hrs⟩:=axI hs hc.2 hds
   refine ⟨v::vs,?_,.cons hr hrs⟩
   simp [List.mapM_cons,hv,hvs]
theorem awv (fn:Func) (tmps:Array Value):results fn tmps=(do
  let vs ← fn.results.mapM (adC tmps)
  pure (if h:vs.size=1 then vs[0] else .tuple vs)):=by
 unfold results
 congr 1
theorem aww {fn:Func} {c:Ctx} {e:Env} {m:Mem} {a:Act} (hs:St w0 N c e m a) {xs:List ER} {ds:List D} (hc:YK P xs fn.results.toList=true) (h:Ir e m xs=some ds) :
  ∃ v vs,(results fn a.tmps).run P c.w = .ok v c.w∧dM c ds vs∧((∃ u,vs=[u]∧v=u)∨(vs.length≠1∧v = .tuple vs.toArray)):=by
 obtain ⟨vs,hvs,hrs⟩:=axI hs hc h
 have hm:(fn.results.mapM (adC a.tmps)).run P c.w = .ok vs.toArray c.w:=by
  rw [Array.mapM_eq_mapM_toList,map_eq_pure_bind]
  simp [hvs]
 rw [awv]
 simp only [Sem.run_bind,hm,Result.andThen_ok,Sem.run_pure]
 match vs with
 | []=>exact ⟨_,[],rfl,hrs,.inr ⟨by simp,rfl⟩⟩
 | [u]=>exact ⟨_,[u],rfl,hrs,.inl ⟨u,rfl,rfl⟩⟩
 | u::u2::us=>exact ⟨_,_,rfl,hrs,.inr ⟨by simp,rfl⟩⟩
theorem dM.fn {c:Ctx} {ds:List D} {vs:List Value} (h:dM c ds vs):∃ g:Nat→Value,vs.length=ds.length∧(∀ j,j<ds.length→vs.toArray[j]?=some (g j))∧∀ (j:Nat) (d:D),ds[j]?=some d→Rep c d (g j):=by
 refine ⟨fun j=>vs.getD j undef,h.length.symm,fun j hj=>?_,fun j d hd=>?_⟩
 ·rw [h.length] at hj
  simp [hj]
 ·obtain ⟨v,h1,h2⟩:=h.get j d hd
  simpa [h1] using h2
theorem aEi (hm:P.follows .mixedOrders=true) (hO:avs P w0 O) {f:Nat} {ef:EF} (hc:XL P f ef=true) {args:List D} {m m':Mem} {r:D} (h:ef.step O args m=some (r,m')):IU P w0 f args m r m':=by
 unfold XL at hc
 split at hc <;> try (simp at hc; done)
 rename_i fn hfn
 split at hc <;> try (simp at hc; done)
 rename_i code hcode
 simp only [Bool.and_eq_true,Bool.not_eq_true',beq_iff_eq] at hc
 obtain ⟨⟨⟨hn,hb⟩,hr⟩,hp⟩:=hc
 refine fun c vs hB hi hrep => .inl ⟨⟨fn,hfn,by rw [hcode]; rfl,hn⟩,?_⟩
 refine calls_of_wp hfn hcode ?_
 unfold EF.step at h
 rw [cond_eq_ite] at h
 split at h <;> try (simp at h; done)
 rename_i hlen
 have hlen:=Nat.eq_of_beq_eq_true hlen
 have hst:St w0 fn.ntmps c (xA ef.params args) m { tmps:=vs.toArray++Array.replicate (fn.ntmps-vs.toArray.size) undef,defers:=[] }:=by
  refine ⟨by simp; omega,rfl,Yj ?_,hi,hB⟩
  rw [hp]
  have hl:=hrep.length
  have : (List.range ef.params.length).map (fun t=>(vs.toArray++Array.replicate (fn.ntmps-vs.toArray.size) undef).getD t Go.undef)=vs:=by
   apply List.ext_getElem
   ·simp; omega
   ·intro i h1 h2
    simp [Array.getElem?_append,h2]
  rw [this]
  exact hrep
 refine EC.sound hm hO ef.body code hb _ m _ _ h c _ hst _ fun x e m1 a1 c1 h1 hs1 hst1=>?_
 have hfin:((Ir e m1 ef.res).bind fun rs=>(gc m.length rs m1).bind fun r=>some (OY r))=some (r,m')→a1.defers=[]∧∃ v,(results fn a1.tmps).run P c1.w = .ok v c1.w∧∃ v' c',Ending.returned v = .returned v'∧c'.w=c1.w∧Rep c' r v'∧Inv c' m'∧Step c m c' m':=by
  intro h2
  simp only [Option.bind_eq_some_iff] at h2
  obtain ⟨rs,hrs,⟨rs',m2⟩,hgc,h2⟩:=h2
  obtain ⟨v,us,hv,hus,hcase⟩:=aww hs1 hr hrs
  obtain ⟨c2,hw2,hi2,hs2,hr2⟩:=aAS hi hs1.inv hst1 hus hgc
  refine ⟨hs1.defers,v,hv,v,c2,rfl,hw2,?_⟩
  rcases hcase with ⟨u,rfl,rfl⟩ | ⟨hne,rfl⟩
  ·cases hr2 with
   | cons h3 h4 =>
     cases h4
     simp [OY] at h2
     obtain ⟨rfl,rfl⟩:=h2
     exact ⟨h3,hi2,hs2⟩
  ·have hl:=hr2.length
   obtain ⟨g,q1,q2,q3⟩:=hr2.fn
   match rs',hl,h2 with
   | [],hl,h2 =>
     simp [OY] at h2
     obtain ⟨rfl,rfl⟩:=h2
     exact ⟨.aG [] _ g (by simpa using q1) q2 q3,hi2,hs2⟩
   | [d],hl,h2=>exact absurd hl.symm hne
   | d::d2::ds,hl,h2 =>
     simp [OY] at h2
     obtain ⟨rfl,rfl⟩:=h2
     exact ⟨.aG _ _ g (by simpa using q1) q2 q3,hi2,hs2⟩
 cases x with
 | exit i=>simp at h1
 | normal =>
   obtain ⟨q1,v,q2,v',c',q3,q4⟩:=hfin h1
   exact ⟨q1,v,q2,v',c',q3,q4⟩
 | ret =>
   obtain ⟨q1,v,q2,v',c',q3,q4⟩:=hfin h1
   exact ⟨q1,v,q2,v',c',q3,q4⟩
end
end Go.Ev
end
