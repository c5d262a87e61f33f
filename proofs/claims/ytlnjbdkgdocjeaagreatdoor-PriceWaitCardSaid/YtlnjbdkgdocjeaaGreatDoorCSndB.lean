/- A part of the proof of priceWait_card. -/
import Derived.Lib.Strings
import Derived.Test.YtlnjbdkgdocjeaaGreatDoorCSndA
set_option linter.unusedVariables false
set_option linter.unusedSimpArgs false
namespace Go.Ev
section
variable {P:Program} {o:Oper} {a:Act} {c:Ctx} {m m':Mem} {ds:List D} {d:D}
theorem asD (w:World) (n:Nat) {t:TypeId} (hu:P.underlying t=some .bool) (x y:Bool):(Op.equalIn (n+1) t (.bool x) (.bool y)).run P w = .ok (x==y) w:=by
 simp [Op.equalIn,run_underlying hu]
theorem auI (w:World) (n:Nat) {t e:TypeId} (hu:P.underlying t=some (.pointer e)) (p r:Option Addr) (h:p=none∨r=none) :
  (Op.equalIn (n+1) t (.pointer p) (.pointer r)).run P w = .ok (p.isNone && r.isNone) w:=by
 rcases p with _ | p <;> rcases r with _ | r <;> simp at h <;> simp [Op.equalIn,run_underlying hu]
theorem asE (w:World) (n:Nat) {t:TypeId} {ms:Array (String×TypeId)} (hu:P.underlying t=some (.interface ms)):(Op.equalIn (n+1) t .nilIface .nilIface).run P w = .ok true w:=by
 simp [Op.equalIn,run_underlying hu]
theorem afQ (w:World) (n:Nat) {t:TypeId} {ms:Array (String×TypeId)} (hu:P.underlying t=some (.interface ms)) (u:TypeId) (v:Value):(Op.equalIn (n+1) t .nilIface (.iface u v)).run P w = .ok false w:=by
 simp [Op.equalIn,run_underlying hu]
theorem afR (w:World) (n:Nat) {t:TypeId} {ms:Array (String×TypeId)} (hu:P.underlying t=some (.interface ms)) (u:TypeId) (v:Value):(Op.equalIn (n+1) t (.iface u v) .nilIface).run P w = .ok false w:=by
 simp [Op.equalIn,run_underlying hu]
theorem aap {t:TypeId} {x y:Value} {r:Bool} {ox oy:Operand} {n:Bool} (w:World) (he:∀ k,(Op.equalIn (k+1) t x y).run P w = .ok r w)
  (hb:(∀ (w:World) ,(eqGuard (if n then .neq else .eql) t ox oy x y).run P w = .ok () w))
  (hx:∀ b:Bool,binOp (if b then .neq else .eql) t x y=(do pure (.bool ((← Op.equal t x y) != b)))) :
  (do eqGuard (if n then .neq else .eql) t ox oy x y; binOp (if n then .neq else .eql) t x y:Sem Value).run P w = .ok (.bool (r != n)) w:=by
 rw [Sem.run_bind,hb w,Result.andThen_ok,hx n,Sem.run_bind]
 have : (Op.equal t x y).run P w = .ok r w:=he 9999
 rw [this]
 rfl
theorem avc {l:Bool} (q:Asked P (.sh l) o a c m ds) (h:oV l ds m=some (d,m')):Sound P o a c m d m':=by
 obtain ⟨ys,hc,hr⟩:=q.chk
 unfold oV at h
 split at h <;> try (simp at h; done)
 rename_i k x k' y
 obtain ⟨t,ox,oy,u,hop,rfl⟩:=auD hc
 obtain ⟨v,u',hv,h1,h2⟩:=hr.two
 simp at hv
 obtain ⟨e1,e2⟩:=hv
 have := h1.bg; subst this
 have := h2.bg; subst this
 rw [Option.bind_eq_some_iff] at h
 obtain ⟨d',hd',h⟩:=h
 simp at h
 obtain ⟨rfl,rfl⟩:=h
 unfold shI at hd'
 split at hd'
 ·simp at hd'
 rename_i hy
 have hy':¬ y<0:=hy
 cases l <;> simp at hd' <;> subst hd' <;>
  exact Sound.pure q.inv (.bG _ _ (.int _ _)) (by simp [execOp,hop,e1,e2,eqGuard,binOp,Op.shift,hy'])
theorem aqY {b:BinOp} (q:Asked P (.Ja b) o a c m ds) (h:Dh b ds m=some (d,m')):Sound P o a c m d m':=by
 obtain ⟨ys,hc,hr⟩:=q.chk
 unfold Dh at h
 split at h <;> try (simp at h; done)
 rename_i x y
 obtain ⟨t,ox,oy,u,hop,rfl⟩:=apI hc
 obtain ⟨v,u',hv,h1,h2⟩:=hr.two
 simp at hv
 obtain ⟨e1,e2⟩:=hv
 have := h1.gu; subst this
 have := h2.gu; subst this
 rw [Option.bind_eq_some_iff] at h
 obtain ⟨d',hd',h⟩:=h
 simp at h
 obtain ⟨rfl,rfl⟩:=h
 have hg:∀ w,(eqGuard b t ox oy (.string ⟨x.toArray⟩) (.string ⟨y.toArray⟩)).run P w = .ok () w:=fun w=>by
  cases b <;> simp [eqGuard]
 have key:∃ v,Rep c d' v∧∀ w,(binOp b t (.string ⟨x.toArray⟩) (.string ⟨y.toArray⟩)).run P w = .ok v w:=by
  cases b <;> simp [Ev.Ja] at hd'
  case add =>
   obtain ⟨hl,rfl⟩:=hd'
   refine ⟨_,.bG _ _ (.str _),fun w=>?_⟩
   have e:=run_string_add_sum (P:=P) w ⟨x.toArray⟩ ⟨y.toArray⟩ (by simp [ByteArray.size]; unfold maxStr at hl; omega)
   rw [binOp_string_add,e,ByteArray.mk_append_mk]
  all_goals (subst hd'; exact ⟨_,.bG _ _ (.bool _),fun w=>by simp [binOp,Op.stringOp]⟩)
 obtain ⟨v,hv,hrun⟩:=key
 exact Sound.pure q.inv hv (by simp [execOp,hop,e1,e2,hg,hrun])
theorem atC {n:Bool} (q:Asked P (.eqB n) o a c m ds) (h:Zw n ds m=some (d,m')):Sound P o a c m d m':=by
 obtain ⟨ys,hc,hr⟩:=q.chk
 unfold Zw at h
 split at h <;> try (simp at h; done)
 rename_i x y
 obtain ⟨t,ox,oy,u,hop,rfl,hu⟩:=ar' hc
 obtain ⟨v,u',hv,h1,h2⟩:=hr.two
 simp at hv
 obtain ⟨e1,e2⟩:=hv
 have := h1.pO; subst this
 have := h2.pO; subst this
 simp at h
 obtain ⟨rfl,rfl⟩:=h
 refine Sound.pure q.inv (.bG _ _ (.bool _)) ?_
 have := aap (P:=P) (ox:=ox) (oy:=oy) (n:=n) c.w (fun k=>asD c.w k hu x y) (fun w=>by cases n <;> simp [eqGuard]) (fun b=>by cases b <;> simp [binOp])
 simp only [execOp,hop,e1,e2]
 rw [Sem.run_bind,this]
 rfl
theorem atG {n:Bool} (q:Asked P (.eqP n) o a c m ds) (h:Uo n ds m=some (d,m')):Sound P o a c m d m':=by
 obtain ⟨ys,hc,hr⟩:=q.chk
 obtain ⟨t,ox,oy,u,e,hop,rfl,hu⟩:=asc hc
 have key:∀ (p r:Option Addr),(a.eval ox = .pointer p)→(a.eval oy = .pointer r)→(p=none∨r=none)→d = .bool ((p.isNone && r.isNone) != n)→m'=m→Sound P o a c m d m':=by
  intro p r e1 e2 hpr hd hm
  subst hd hm
  refine Sound.pure q.inv (.bG _ _ (.bool _)) ?_
  have := aap (P:=P) (ox:=ox) (oy:=oy) (n:=n) c.w (fun k=>auI c.w k hu p r hpr) (fun w=>by cases n <;> simp [eqGuard])
   (fun b=>by rcases p with _ | p <;> rcases r with _ | r <;> simp at hpr <;> cases b <;> simp [binOp])
  simp only [execOp,hop,e1,e2]
  rw [Sem.run_bind,this]
  rfl
 unfold Uo at h
 split at h <;> try (simp at h; done)
 all_goals
  obtain ⟨v,u',hv,h1,h2⟩:=hr.two
  simp at hv
  obtain ⟨e1,e2⟩:=hv
  simp at h
  obtain ⟨rfl,rfl⟩:=h
 ·have := h1.yD; subst this
  have := h2.yD; subst this
  exact key _ _ e1 e2 (.inl rfl) (by simp) rfl
 ·have := h1.yD; subst this
  obtain ⟨_,rfl⟩:=h2.rP
  exact key _ _ e1 e2 (.inl rfl) (by simp) rfl
 ·have := h1.yD; subst this
  obtain ⟨_,_,_,_,_,_,rfl,_⟩:=h2.zT
  exact key _ _ e1 e2 (.inl rfl) (by simp) rfl
 ·have := h2.yD; subst this
  obtain ⟨_,rfl⟩:=h1.rP
  exact key _ _ e1 e2 (.inr rfl) (by simp) rfl
 ·have := h2.yD; subst this
  obtain ⟨_,_,_,_,_,_,rfl,_⟩:=h1.zT
  exact key _ _ e1 e2 (.inr rfl) (by simp) rfl
theorem atE {n cc:Bool} (q:Asked P (.eqN n cc) o a c m ds) (h:Un n cc ds m=some (d,m')):Sound P o a c m d m':=by
 obtain ⟨ys,hc,hr⟩:=q.chk
 obtain ⟨t,ox,oy,u,ms,hop,rfl,hu,hcc⟩:=asb hc
 have isc:∀ x,isK x=true→(∃ v,x = .const v):=fun x hx=>by cases x <;> simp [isK] at hx; exact ⟨_,rfl⟩
 have key:∀ (x y:Value) (r:Bool),a.eval ox=x→a.eval oy=y→(∀ k,(Op.equalIn (k+1) t x y).run P c.w = .ok r c.w) →
   (∀ w,(eqGuard (if n then .neq else .eql) t ox oy x y).run P w = .ok () w)→(∀ b:Bool,binOp (if b then .neq else .eql) t x y=(do pure (.bool ((← Op.equal t x y) != b)))) →
   d = .bool (r != n)→m'=m→Sound P o a c m d m':=by
  intro x y r e1 e2 he hg hx hd hm
  subst hd hm
  refine Sound.pure q.inv (.bG _ _ (.bool _)) ?_
  have := aap (P:=P) (ox:=ox) (oy:=oy) (n:=n) c.w he hg hx
  simp only [execOp,hop,e1,e2]
  rw [Sem.run_bind,this]
  rfl
 unfold Un at h
 split at h <;> try (simp at h; done)
 ·obtain ⟨v,u',hv,h1,h2⟩:=hr.two
  simp at hv
  obtain ⟨e1,e2⟩:=hv
  have := h1.sK; subst this
  have := h2.sK; subst this
  cases cc <;> simp at h
  obtain ⟨rfl,rfl⟩:=h
  simp at hcc
  refine key _ _ true e1 e2 (fun k=>asE c.w k hu) (fun w=>?_) (fun b=>by cases b <;> simp [binOp]) (by simp) rfl
  rcases hcc with hk | hk <;> obtain ⟨kv,rfl⟩:=isc _ hk <;> cases n <;> simp [eqGuard]
 ·obtain ⟨v,u',hv,h1,h2⟩:=hr.two
  simp at hv
  obtain ⟨e1,e2⟩:=hv
  have := h1.sK; subst this
  obtain ⟨_,rfl,_⟩:=h2.eG
  simp at h
  obtain ⟨rfl,rfl⟩:=h
  exact key _ _ false e1 e2 (fun k=>afQ c.w k hu _ _) (fun w=>by cases n <;> simp [eqGuard]) (fun b=>by cases b <;> simp [binOp]) (by simp) rfl
 ·obtain ⟨v,u',hv,h1,h2⟩:=hr.two
  simp at hv
  obtain ⟨e1,e2⟩:=hv
  have := h2.sK; subst this
  obtain ⟨_,rfl,_⟩:=h1.eG
  simp at h
  obtain ⟨rfl,rfl⟩:=h
  exact key _ _ false e1 e2 (fun k=>afR c.w k hu _ _) (fun w=>by cases n <;> simp [eqGuard]) (fun b=>by cases b <;> simp [binOp]) (by simp) rfl
theorem atN (q:Asked P .neg o a c m ds) (h:ZA ds m=some (d,m')):Sound P o a c m d m':=by
 obtain ⟨ys,hc,hr⟩:=q.chk
 obtain ⟨t,x,hop,rfl⟩:=asl hc
 unfold ZA at h
 split at h <;> try (simp at h; done)
 obtain ⟨v,hv,h1⟩:=hr.one
 simp at hv h
 have := h1.bg; subst this
 obtain ⟨rfl,rfl⟩:=h
 exact Sound.pure q.inv (.bG _ _ (.int _ _)) (by simp [execOp,hop,hv,Op.unary,Op.intArith])
theorem atK {m m':Mem} (q:Asked P .inv o a c m ds) (h:acz ds m=some (d,m')):Sound P o a c m d m':=by
 obtain ⟨ys,hc,hr⟩:=q.chk
 obtain ⟨t,x,hop,rfl⟩:=ash hc
 unfold acz at h
 split at h <;> try (simp at h; done)
 obtain ⟨v,hv,h1⟩:=hr.one
 simp [Ev.pK] at hv h
 have := h1.bg; subst this
 obtain ⟨rfl,rfl⟩:=h
 exact Sound.pure q.inv (.bG _ _ (.int _ _)) (by simp [execOp,hop,hv,Op.unary,Op.intBits])
theorem atO (q:Asked P .not o a c m ds) (h:ZB ds m=some (d,m')):Sound P o a c m d m':=by
 obtain ⟨ys,hc,hr⟩:=q.chk
 obtain ⟨t,x,hop,rfl⟩:=asn hc
 unfold ZB at h
 split at h <;> try (simp at h; done)
 obtain ⟨v,hv,h1⟩:=hr.one
 simp at hv h
 have := h1.pO; subst this
 obtain ⟨rfl,rfl⟩:=h
 exact Sound.pure q.inv (.bG _ _ (.bool _)) (by simp [execOp,hop,hv,Op.unary])
theorem aq0 {k:IntKind} (q:Asked P (.conv k) o a c m ds) (h:SV k ds m=some (d,m')):Sound P o a c m d m':=by
 obtain ⟨ys,hc,hr⟩:=q.chk
 obtain ⟨s,t,x,u,hop,rfl,hu,ht⟩:=apK hc
 unfold SV at h
 split at h <;> try (simp at h; done)
 obtain ⟨v,hv,h1⟩:=hr.one
 simp at hv h
 have := h1.bg; subst this
 obtain ⟨rfl,rfl⟩:=h
 refine Sound.pure q.inv (.bG _ _ (.int _ _)) ?_
 cases u <;> simp [execOp,hop,hv,convert,run_underlying hu,run_underlying ht,Conv.intToInt]
theorem aq_ {t:Nat} (q:Asked P (.acg t) o a c m ds) (h:S9 t ds m=some (d,m')):Sound P o a c m d m':=by
 obtain ⟨ys,hc,hr⟩:=q.chk
 obtain ⟨x,td,hop,rfl,hu,hni⟩:=apS hc
 unfold S9 at h
 split at h <;> try (simp at h; done)
 obtain ⟨v,hv,h1⟩:=hr.one
 simp at hv h
 obtain ⟨rfl,rfl⟩:=h
 refine Sound.pure q.inv (.iface _ _ _ h1) ?_
 cases td <;> first
  | exact absurd rfl (hni _)
  | simp [execOp,hop,hv,Instr.makeInterface,run_underlying hu]
theorem aq9 {f:Nat} (q:Asked P (.acf f) o a c m ds) (h:some (D.func f ds,m)=some (d,m')):Sound P o a c m d m':=by
 obtain ⟨ys,hc,hr⟩:=q.chk
 obtain ⟨cap,hop,rfl⟩:=apR hc
 simp at h
 obtain ⟨rfl,rfl⟩:=h
 have hl:ds.length=cap.size:=by have := hr.length; simpa using this
 refine Sound.pure q.inv (.func f ds (cap.map a.eval) (fun j=>(cap.map a.eval).getD j undef) (by simp [hl]) (fun j hj=>?_) (fun j d' hd'=>?_)) ?_
 ·have hj':j<cap.size:=by omega
  simp [hj']
 ·obtain ⟨v,hv,h1⟩:=hr.get j d' hd'
  have hj':j<cap.size:=by rw [← hl]; exact (List.getElem?_eq_some_iff.1 hd').1
  simp [hj'] at hv ⊢
  rw [hv]
  exact h1
 ·simp [execOp,hop,Instr.makeFunc]
theorem atI {i:Nat} (q:Asked P (.ext i) o a c m ds) (h:Zx i ds m=some (d,m')):Sound P o a c m d m':=by
 obtain ⟨ys,hc,hr⟩:=q.chk
 obtain ⟨x,hop,rfl⟩:=asf hc
 unfold Zx at h
 split at h <;> try (simp at h; done)
 rename_i tds
 rw [Option.bind_eq_some_iff] at h
 obtain ⟨d',hd',h⟩:=h
 simp at h
 obtain ⟨rfl,rfl⟩:=h
 obtain ⟨v,hv,h1⟩:=hr.one
 simp at hv
 obtain ⟨vs,g,rfl,hl,hg,hr'⟩:=h1.OG
 have hi:i<tds.length:=(List.getElem?_eq_some_iff.1 hd').1
 exact Sound.pure q.inv (hr' i d' hd') (by simp [execOp,hop,hv,Instr.extract,hg i hi])
theorem aq1 {off:Nat} (q:Asked P (.abD off) o a c m ds) (h:Oe off ds m=some (d,m')):Sound P o a c m d m':=by
 obtain ⟨ys,hc,hr⟩:=q.chk
 obtain ⟨t,x,f,fs,fd,s,hop,rfl,hu,hf,hoff,hs,hpos⟩:=apL hc
 have hne:s≠0:=by omega
 cases hinfo:P.info? fd.type with
 | none=>simp [hinfo] at hs
 | some inf =>
   simp [hinfo] at hs
   have hsz:inf.size≠0:=by omega
   have run:∀ (blk o':Nat) (w:World),(Instr.fieldAt t (.pointer (some ⟨blk,o',none⟩)) f).run P w = .ok (.pointer (some ⟨blk,o'+off,none⟩)) w:=by
    intro blk o' w
    simp [Instr.fieldAt,run_underlying hu,hf,Instr.sureAddr,fieldPlace,sizeOf,typeInfo,hinfo,hsz,Addr.add_lit,hoff]
   unfold Oe at h
   split at h <;> simp at h <;> obtain ⟨rfl,rfl⟩:=h <;> obtain ⟨v,hv,h1⟩:=hr.one <;> simp at hv
   ·obtain ⟨hL,rfl⟩:=h1.rP
    rename_i b o'
    refine Sound.pure q.inv (v := .pointer (some ⟨(c.β b).1,(c.β b).2+(o'+off),none⟩)) (.loc b (o'+off) hL) ?_
    simp [execOp,hop,hv,run,Nat.add_assoc]
   ·obtain ⟨blk,st,cs,T,fr,g,rfl,hS,hb,hg,hF⟩:=h1.zT
    rename_i cells o'
    refine Sound.pure q.inv (v := .pointer (some ⟨blk,st+(o'+off),none⟩)) (.bG _ _ (.ref _ _ blk st cs T fr g hS hb hg hF)) ?_
    simp [execOp,hop,hv,run,Nat.add_assoc]
end
end Go.Ev
