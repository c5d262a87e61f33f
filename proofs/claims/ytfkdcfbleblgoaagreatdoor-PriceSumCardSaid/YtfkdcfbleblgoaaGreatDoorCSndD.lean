/- A part of the proof of priceAll_card, yieldAll_card, priceSum_card, flowAll_card, accrAll_card. -/
import Derived.Test.YtfkdcfbleblgoaaGreatDoorCSndC
set_option linter.unusedVariables false
set_option linter.unusedSimpArgs false
section
namespace Go.Ev
section
variable {P:Program} {o:Oper} {a:Act} {c:Ctx} {m m':Mem} {ds:List D} {d:D}
theorem atH {t:TypeId} {k:Nat} (h:aqU P t k=true):(P.underlying t=some .bool∧k=0)∨(∃ q,P.underlying t=some (.int q)∧k=1)∨(P.underlying t=some .string∧k=2):=by
 unfold aqU at h
 split at h <;> try (simp at h; done)
 ·exact .inl ⟨by assumption,Nat.eq_of_beq_eq_true h⟩
 ·exact .inr (.inl ⟨_,by assumption,Nat.eq_of_beq_eq_true h⟩)
 ·exact .inr (.inr ⟨by assumption,Nat.eq_of_beq_eq_true h⟩)
theorem aqT {ks:List Nat} {x y:List D} {r:Bool} (h:dU (0::ks) x y=some r):∃ a x' b y' rr,x = .bool a::x'∧y = .bool b::y'∧dU ks x' y'=some rr∧r=(a==b && rr):=by
 rcases x with _ | ⟨x0,x'⟩
 ·simp [dU] at h
 cases x0 <;> try (simp [dU] at h; done)
 rcases y with _ | ⟨y0,y'⟩
 ·simp [dU] at h
 cases y0 <;> try (simp [dU] at h; done)
 simp only [dU] at h
 rw [Option.bind_eq_some_iff] at h
 obtain ⟨rr,hrr,h⟩:=h
 simp at h
 exact ⟨_,_,_,_,rr,rfl,rfl,hrr,h.symm⟩
theorem atG {ks:List Nat} {x y:List D} {r:Bool} (h:dU (2::ks) x y=some r):∃ a x' b y' rr,x = .str a::x'∧y = .str b::y'∧dU ks x' y'=some rr∧r=(a==b && rr):=by
 rcases x with _ | ⟨x0,x'⟩
 ·simp [dU] at h
 cases x0 <;> try (simp [dU] at h; done)
 rcases y with _ | ⟨y0,y'⟩
 ·simp [dU] at h
 cases y0 <;> try (simp [dU] at h; done)
 simp only [dU] at h
 rw [Option.bind_eq_some_iff] at h
 obtain ⟨rr,hrr,h⟩:=h
 simp at h
 exact ⟨_,_,_,_,rr,rfl,rfl,hrr,h.symm⟩
theorem atE {ks:List Nat} {x y:List D} {r:Bool} (h:dU (1::ks) x y=some r):∃ k a x' b y' rr,x = .int k a::x'∧y = .int k b::y'∧dU ks x' y'=some rr∧r=(a==b && rr):=by
 rcases x with _ | ⟨x0,x'⟩
 ·simp [dU] at h
 cases x0 <;> try (simp [dU] at h; done)
 rcases y with _ | ⟨y0,y'⟩
 ·simp [dU] at h
 cases y0 <;> try (simp [dU] at h; done)
 simp only [dU] at h
 rename_i k a k' b
 cases hk:(k==k') <;> simp [hk] at h
 have hk:k=k':=by simpa using hk
 subst hk
 rw [Option.bind_eq_some_iff] at h
 obtain ⟨rr,hrr,h⟩:=h
 simp at h
 exact ⟨_,_,_,_,_,rr,rfl,rfl,hrr,h.symm⟩
theorem agH (n:Nat) (xs ys:Array Value) (X Y:List D) (hx:zh c 0 X xs) (hy:zh c 0 Y ys):∀ (fs:List Field) (ks:List Nat) (i:Nat) (x y:List D) (r:Bool),eqFields P fs ks i=true→X.drop i=x→Y.drop i=y→dU ks x y=some r →
  ∀ w,(Op.eqFields (n+1) xs ys fs).run P w = .ok r w
 | [],ks,i,x,y,r,hf,hX,hY,he,w=>by
   cases ks <;> simp [eqFields] at hf
   cases x <;> cases y <;> simp [dU] at he
   subst he
   rfl
 | f::fs,[],i,x,y,r,hf,hX,hY,he,w=>by simp [eqFields] at hf
 | f::fs,k::ks,i,x,y,r,hf,hX,hY,he,w=>by
   simp only [eqFields,Bool.and_eq_true] at hf
   obtain ⟨⟨⟨h1,h2⟩,h3⟩,h4⟩:=hf
   have h1:f.offset=i:=Nat.eq_of_beq_eq_true h1
   have h2:f.name ≠ "_" := by simpa using h2
   have h3:=atH h3
   have hagg:∀ w,(isAgg f.type).run P w = .ok false w:=fun w=>by
    unfold isAgg
    rcases h3 with ⟨hu,_⟩ | ⟨q,hu,_⟩ | ⟨hu,_⟩ <;> (rw [Sem.run_bind,run_underlying hu]; rfl)
   have key:∀ (x0 y0:D) (x' y':List D),x=x0::x'→y=y0::y'→∃ vx vy,Rep c x0 vx∧Rep c y0 vy∧∀ (b rr:Bool),dU ks x' y'=some rr→(∀ w,(Op.equalIn (n+1) f.type vx vy).run P w = .ok b w)→r=(b && rr) →
     (Op.eqFields (n+1) xs ys (f::fs)).run P w = .ok r w:=by
    intro x0 y0 x' y' ex ey
    rw [ex] at hX
    rw [ey] at hY
    have gx:X[i]?=some x0:=by rw [← List.head?_drop,hX]; rfl
    have gy:Y[i]?=some y0:=by rw [← List.head?_drop,hY]; rfl
    have dx:X.drop (i+1)=x':=by rw [← List.tail_drop,hX]; rfl
    have dy:Y.drop (i+1)=y':=by rw [← List.tail_drop,hY]; rfl
    obtain ⟨vx,qx,rx,_⟩:=hx i x0 gx
    obtain ⟨vy,qy,ry,_⟩:=hy i y0 gy
    rw [Nat.zero_add] at qx qy
    have px:∀ w,(part f.type xs f.offset).run P w = .ok vx w:=fun w=>by simp [part,hagg,h1,qx]
    have py:∀ w,(part f.type ys f.offset).run P w = .ok vy w:=fun w=>by simp [part,hagg,h1,qy]
    refine ⟨vx,vy,rx,ry,fun b rr hrr hb hr=>?_⟩
    have ih:=agH n xs ys X Y hx hy fs ks (i+1) x' y' rr h4 dx dy hrr w
    simp only [Op.eqFields,if_pos h2,Sem.run_bind,px,py,hb,Result.andThen_ok]
    cases b
    ·subst hr; rfl
    ·simp only [Bool.true_and] at hr
     subst hr
     simpa using ih
   rcases h3 with ⟨hu,rfl⟩ | ⟨q,hu,rfl⟩ | ⟨hu,rfl⟩
   ·obtain ⟨p,x',u,y',rr,rfl,rfl,hrr,hr⟩:=aqT he
    obtain ⟨vx,vy,rx,ry,hk⟩:=key _ _ _ _ rfl rfl
    have e1:=rx.mG
    have e2:=ry.mG
    exact hk (p==u) rr hrr (fun w=>by rw [e1,e2]; exact run_equalIn_bool w n f.type p u hu) hr
   ·obtain ⟨k,p,x',u,y',rr,rfl,rfl,hrr,hr⟩:=atE he
    obtain ⟨vx,vy,rx,ry,hk⟩:=key _ _ _ _ rfl rfl
    have e1:=rx.cu
    have e2:=ry.cu
    exact hk (p==u) rr hrr (fun w=>by rw [e1,e2]; exact run_equalIn_int w n f.type k q p u hu) hr
   ·obtain ⟨p,x',u,y',rr,rfl,rfl,hrr,hr⟩:=atG he
    obtain ⟨vx,vy,rx,ry,hk⟩:=key _ _ _ _ rfl rfl
    have e1:=rx.jv
    have e2:=ry.jv
    exact hk (p==u) rr hrr (fun w=>by rw [e1,e2]; simpa using run_equalIn_string (P:=P) w n f.type ⟨p.toArray⟩ ⟨u.toArray⟩ hu) hr
theorem aBu {n:Bool} {ks:List Nat} {op:Op} {ys:List Operand} (h:aZ P (.eqA n ks) op=some ys):∃ t x y u fs,op = .binOp (if n then .neq else .eql) t x y u∧ys=[x,y]∧P.underlying t=some (.struct fs) ∧
  eqFields P fs.toList ks 0=true∧P.eqGuardType P.depth t=false∧P.stoodInHeld t=false:=by
 simp only [aZ] at h; split at h <;> try (simp at h; done)
 split at h <;> simp at h
 obtain ⟨⟨rfl,h1,h2,h3⟩,h⟩:=h
 exact ⟨_,_,_,_,_,rfl,h.symm,by assumption,h1,h2,h3⟩
theorem aqr {X:List D} {v:Value} (h:Rep c (.agg X) v):∃ xs,v = .agg xs∧zh c 0 X xs:=by
 obtain ⟨vs,g,rfl,hl,hg,hr⟩:=h.O4
 refine ⟨vs,rfl,fun j d hd=>?_⟩
 have hj:j<X.length:=(List.getElem?_eq_some_iff.1 hd).1
 exact ⟨g j,by rw [Nat.zero_add]; exact (hg j hj).1,hr j d hd,(hg j hj).2⟩
theorem aCv {n:Bool} {ks:List Nat} (q:Asked P (.eqA n ks) o a c m ds) (h:aeU n ks ds m=some (d,m')):Sound P o a c m d m':=by
 obtain ⟨ys,hc,hr⟩:=q.chk
 obtain ⟨t,ox,oy,u,fs,hop,rfl,hu,hf,hg,hst⟩:=aBu hc
 unfold aeU at h
 split at h <;> try (simp at h; done)
 rename_i X Y
 rw [Option.bind_eq_some_iff] at h
 obtain ⟨r,hr',h⟩:=h
 simp at h
 obtain ⟨rfl,rfl⟩:=h
 obtain ⟨v,u',hv,h1,h2⟩:=hr.two
 simp at hv
 obtain ⟨e1,e2⟩:=hv
 obtain ⟨xs,rfl,hx⟩:=aqr h1
 obtain ⟨ys,rfl,hy⟩:=aqr h2
 have hfs:P.fieldsOf t=fs:=by simp [Program.fieldsOf,hu]
 have hrun:∀ k,(Op.equalIn (k+2) t (.agg xs) (.agg ys)).run P c.w = .ok r c.w:=fun k=>by
  rw [run_equalIn_struct c.w (k+1) t xs ys (by rw [hfs]; exact hu) hst,hfs]
  exact agH k xs ys X Y hx hy fs.toList ks 0 X Y r hf (by simp) (by simp) hr' c.w
 have hbin:∀ b:Bool,binOp (if b then .neq else .eql) t (.agg xs) (.agg ys)=(do pure (.bool ((← Op.equal t (.agg xs) (.agg ys)) != b))):=fun b=>by cases b <;> simp [binOp]
 refine Sound.pure q.inv (.b_ _ _ (.bool _)) ?_
 have hgd:=run_eqGuard_agg (P:=P) c.w (if n then .neq else .eql) t ox oy xs ys hg
 simp only [execOp,hop,e1,e2]
 rw [Sem.run_bind,Sem.run_bind,hgd,Result.andThen_ok,hbin,Sem.run_bind]
 have : (Op.equal t (.agg xs) (.agg ys)).run P c.w = .ok r c.w:=hrun 9998
 rw [this]
 rfl
end
end Go.Ev
end
section
namespace Go.Ev
section
variable {P:Program} {o:Oper} {a:Act} {c:Ctx} {m m':Mem} {ds:List D} {d:D}
theorem aBz {n:Bool} {op:Op} {ys:List Operand} (h:aZ P (.eqS n) op=some ys):∃ t x y u e,op = .binOp (if n then .neq else .eql) t x y u∧ys=[x,y]∧P.underlying t=some (.slice e):=by
 simp only [aZ] at h; split at h <;> simp at h
 obtain ⟨⟨rfl,h2⟩,rfl⟩:=h
 split at h2 <;> try (simp at h2; done)
 exact ⟨_,_,_,_,_,rfl,rfl,by assumption⟩
theorem aEd (w:World) (n:Nat) {t e:TypeId} (hu:P.underlying t=some (.slice e)) (x y:Value) (r:Bool)
  (h:(∃ p l c q l' c',x = .slice p l c∧y = .slice q l' c'∧((p=none∧r=q.isNone)∨(q=none∧r=p.isNone)))):(Op.equalIn (n+1) t x y).run P w = .ok r w:=by
 obtain ⟨p,l,c,q,l',c',rfl,rfl,h⟩:=h
 rcases h with ⟨rfl,rfl⟩ | ⟨rfl,rfl⟩
 ·rcases q with _ | q <;> simp [Op.equalIn,run_underlying hu]
 ·rcases p with _ | p <;> simp [Op.equalIn,run_underlying hu]
theorem aCA {n:Bool} (q:Asked P (.eqS n) o a c m ds) (h:ahC n ds m=some (d,m')):Sound P o a c m d m':=by
 obtain ⟨ys,hc,hr⟩:=q.chk
 obtain ⟨t,ox,oy,u,e,hop,rfl,hu⟩:=aBz hc
 have key:∀ (x y:Value) (r:Bool),a.eval ox=x→a.eval oy=y→(∃ p l c q l' c',x = .slice p l c∧y = .slice q l' c'∧((p=none∧r=q.isNone)∨(q=none∧r=p.isNone)))→d = .bool (r != n)→m'=m→Sound P o a c m d m':=by
  intro x y r e1 e2 hxy hd hm
  subst hd hm
  refine Sound.pure q.inv (.b_ _ _ (.bool _)) ?_
  have := ais (P:=P) (ox:=ox) (oy:=oy) (n:=n) c.w (fun k=>aEd c.w k hu x y r hxy) (fun w=>by obtain ⟨p,l,cc,qq,l',c',rfl,rfl,_⟩:=hxy; cases n <;> simp [eqGuard])
   (fun b=>by obtain ⟨p,l,cc,qq,l',c',rfl,rfl,_⟩:=hxy; cases b <;> simp [binOp])
  simp only [execOp,hop,e1,e2]
  rw [Sem.run_bind,this]
  rfl
 unfold ahC at h
 split at h <;> try (simp at h; done)
 all_goals
  obtain ⟨v,u',hv,h1,h2⟩:=hr.two
  simp at hv
  obtain ⟨e1,e2⟩:=hv
  simp at h
  obtain ⟨rfl,rfl⟩:=h
 ·have := h1.sW; subst this
  have := h2.sW; subst this
  exact key _ _ true e1 e2 ⟨_,_,_,_,_,_,rfl,rfl,.inl ⟨rfl,rfl⟩⟩ (by simp) rfl
 ·have := h2.sW; subst this
  obtain ⟨h0,_⟩ | ⟨_,_,_,_,_,_,_,rfl,_⟩:=h1.GH
  ·simp at h0
  exact key _ _ false e1 e2 ⟨_,_,_,_,_,_,rfl,rfl,.inr ⟨rfl,rfl⟩⟩ (by simp) rfl
 ·have := h1.sW; subst this
  obtain ⟨h0,_⟩ | ⟨_,_,_,_,_,_,_,rfl,_⟩:=h2.GH
  ·simp at h0
  exact key _ _ false e1 e2 ⟨_,_,_,_,_,_,rfl,rfl,.inl ⟨rfl,rfl⟩⟩ (by simp) rfl
 ·have := h2.sW; subst this
  obtain ⟨_,_,_,rfl,_⟩:=h1.DI
  exact key _ _ false e1 e2 ⟨_,_,_,_,_,_,rfl,rfl,.inr ⟨rfl,rfl⟩⟩ (by simp) rfl
 ·have := h1.sW; subst this
  obtain ⟨_,_,_,rfl,_⟩:=h2.DI
  exact key _ _ false e1 e2 ⟨_,_,_,_,_,_,rfl,rfl,.inl ⟨rfl,rfl⟩⟩ (by simp) rfl
theorem aBs {op:Op} {ys:List Operand} (h:aZ P .b2s op=some ys):∃ s t x e,op = .convert s t x∧ys=[x]∧P.underlying s=some (.slice e)∧P.underlying e=some (.int .u8)∧P.underlying t=some .string:=by
 simp only [aZ] at h
 split at h <;> try (simp at h; done)
 rw [Option.bind_eq_some_iff] at h
 obtain ⟨e,he,h⟩:=h
 rw [Option.ite_none_right_eq_some] at h
 obtain ⟨⟨h1,h2⟩,h⟩:=h
 simp at h
 subst h
 split at h1 <;> try (simp at h1; done)
 split at h2 <;> try (simp at h2; done)
 refine ⟨_,_,_,e,rfl,rfl,?_,by assumption,by assumption⟩
 unfold JV at he
 split at he <;> simp at he
 subst he
 assumption
theorem aiW {c:Ctx}:∀ {cs:List D} {bs:List UInt8} {vs:List Value},bytesOf cs=some bs→vs.length=cs.length→(∀ (j:Nat) (d':D),cs[j]?=some d'→∃ v',vs[j]?=some v'∧Rep c d' v'∧v'.oneCell'=true) →
  vs=bs.map fun b => .int .u8 b.toNat
 | [],bs,vs,h,hl,_=>by
   simp [bytesOf] at h
   subst h
   simpa using hl
 | d::cs,bs,vs,h,hl,hr=>by
   have key:∃ n,d = .int .u8 n∧0≤n∧n<256∧∃ bs',bytesOf cs=some bs'∧bs=UInt8.ofNat n.toNat::bs':=by
    unfold bytesOf at h
    split at h
    ·rename_i e1; simp at e1
    ·rename_i n ds' e1
     simp at e1
     obtain ⟨rfl,rfl⟩:=e1
     rw [Option.ite_none_right_eq_some] at h
     obtain ⟨hn,h⟩:=h
     rw [Option.bind_eq_some_iff] at h
     obtain ⟨bs',hbs,h⟩:=h
     simp at h
     exact ⟨n,rfl,hn.1,hn.2,bs',hbs,h.symm⟩
    ·simp at h
   obtain ⟨n,rfl,hn0,hn1,bs',hbs,rfl⟩:=key
   cases vs with
   | nil=>simp at hl
   | cons v vs =>
     obtain ⟨v',h1,h2,_⟩:=hr 0 _ rfl
     simp at h1
     subst h1
     have := h2.cu
     subst this
     have ih:=aiW hbs (by simpa using hl) (fun j d' hd=>by simpa using hr (j+1) d' (by simpa using hd))
     rw [ih]
     simp
     omega
theorem foldl_push:∀ (bs:List UInt8) (s:ByteArray),bs.foldl (fun b a=>b.push a) s=⟨s.data++bs.toArray⟩
 | [],s=>by simp
 | b::bs,s=>by
   rw [List.foldl_cons,foldl_push bs]
   simp [ByteArray.push]
theorem aCs (q:Asked P .b2s o a c m ds) (h:ahA ds m=some (d,m')):Sound P o a c m d m':=by
 obtain ⟨ys,hc,hr⟩:=q.chk
 obtain ⟨s,t,x,e,hop,rfl,hs,he,ht⟩:=aBs hc
 unfold ahA at h
 split at h <;> try (simp at h; done)
 rw [Option.bind_eq_some_iff] at h
 obtain ⟨⟨cells,off,len⟩,hslc,h⟩:=h
 rw [Option.bind_eq_some_iff] at h
 obtain ⟨cs',htk,h⟩:=h
 rw [Option.bind_eq_some_iff] at h
 obtain ⟨bs,hbs,h⟩:=h
 simp at h
 obtain ⟨rfl,rfl⟩:=h
 obtain ⟨v,hv,h1⟩:=hr.one
 simp at hv
 simp only at htk
 obtain ⟨hle,hlen,hget⟩:=Gm htk
 refine Sound.pure q.inv (.b_ _ _ (.str _)) ?_
 rcases avg q.inv h1 hslc with ⟨rfl,rfl,rfl,rfl⟩ | ⟨ad,cap,blk,st,cs,T,fr,rfl,hcap,had,hb,hcells⟩
 ·have : cs'=[]:=by simpa using hlen
  subst this
  simp [bytesOf] at hbs
  subst hbs
  simp only [execOp,hop,hv]
  simp [convert,run_underlying hs,run_underlying ht,run_underlying he,Conv.bytesToString]
  rfl
 ·by_cases h0:len=0
  ·subst h0
   have : cs'=[]:=by simpa using hlen
   subst this
   simp [bytesOf] at hbs
   subst hbs
   simp only [execOp,hop,hv]
   have hl0:(loadCells ad 0).run P c.w = .ok #[] c.w:=by simpa using run_loadCells (P:=P) (w:=c.w) ad 0 (fun _=>undef) (fun j hj=>by omega)
   simp [convert,run_underlying hs,run_underlying ht,run_underlying he,Conv.bytesToString,hl0]
   rfl
  ·have had:ad=⟨blk,st+off,none⟩:=had.resolve_left (by omega)
   subst had
   obtain ⟨vs,hrun,hvl,_,hvr⟩:=wK (P:=P) (c:=c) (w:=c.w) (blk:=blk) (o:=st+off) (n:=len) (ds:=cs') hb hlen (fun j d' hd'=>by
    have hj:j<len:=by rw [← hlen]; exact (List.getElem?_eq_some_iff.1 hd').1
    obtain ⟨v',q1,q2,q3⟩:=hcells (off+j) d' (by rw [← hget j hj]; exact hd')
    exact ⟨v',by rw [Nat.add_assoc]; exact q1,q2,q3⟩)
   have := aiW hbs (by omega) hvr
   subst this
   simp only [execOp,hop,hv]
   simp [convert,run_underlying hs,run_underlying ht,run_underlying he,Conv.bytesToString,hrun]
   rw [foldl_push]
   simp [ByteArray.empty,ByteArray.emptyWithCapacity]
   rfl
end
end Go.Ev
end
section
namespace Go.Ev
section
variable {P:Program} {o:Oper} {a:Act} {c:Ctx} {m m':Mem} {ds:List D} {d:D}
theorem Uw.nil:Uw #[] []:=⟨fun e h=>by simp at h,fun k h=>by simp at h⟩
theorem findNow_spec (k:Int):∀ (l:List MapEntry) (i:Nat),(∀ e∈l,∃ k',e.key = .int .i64 k') →
  (Instr.findNow (.int .i64) (.int .i64 k) l i=some none∧∀ e∈l,e.key ≠ .int .i64 k) ∨
  ∃ j e,Instr.findNow (.int .i64) (.int .i64 k) l i=some (some (i+j,e.val))∧l[j]?=some e∧e.key = .int .i64 k
 | [],i,_ => .inl ⟨rfl,fun e h=>by simp at h⟩
 | e::es,i,h=>by
   obtain ⟨k',hk'⟩:=h e (by simp)
   by_cases hk:k=k'
   ·subst hk
    refine .inr ⟨0,e,?_,rfl,hk'⟩
    simp [Instr.findNow,hk',Instr.sameNow]
   ·have hs:Instr.findNow (.int .i64) (.int .i64 k) (e::es) i=Instr.findNow (.int .i64) (.int .i64 k) es (i+1):=by
     have : (k==k')=false:=by simpa using hk
     simp [Instr.findNow,hk',Instr.sameNow,this]
    rcases findNow_spec k es (i+1) (fun e he=>h e (by simp [he])) with ⟨h1,h2⟩ | ⟨j,e',h1,h2,h3⟩
    ·refine .inl ⟨by rw [hs,h1],fun e' he'=>?_⟩
     rcases List.mem_cons.1 he' with rfl | he'
     ·rw [hk']; simp; exact fun e=>hk e.symm
     ·exact h2 e' he'
    ·exact .inr ⟨j+1,e',by rw [hs,h1]; congr 3; omega,h2,h3⟩
theorem Uw.find {es:Array MapEntry} {ks:List Int} (h:Uw es ks) (k:Int) :
  (Instr.findNow (.int .i64) (.int .i64 k) es.toList 0=some none∧k ∉ ks) ∨
  ∃ (j:Nat) (e:MapEntry),Instr.findNow (.int .i64) (.int .i64 k) es.toList 0=some (some (j,.bool true))∧es[j]?=some e∧e.key = .int .i64 k∧k∈ks:=by
 rcases findNow_spec k es.toList 0 (fun e he=>by obtain ⟨_,k',hk',_⟩:=h.1 e he; exact ⟨k',hk'⟩) with ⟨h1,h2⟩ | ⟨j,e,h1,h2,h3⟩
 ·refine .inl ⟨h1,fun hk=>?_⟩
  obtain ⟨e,he,hke⟩:=h.2 k hk
  exact h2 e he hke
 ·have he:e∈es.toList:=List.mem_of_getElem? h2
  obtain ⟨hv,k',hk',hk2⟩:=h.1 e he
  have : k'=k:=by rw [h3] at hk'; simpa using hk'.symm
  subst this
  refine .inr ⟨j,e,by rw [h1,hv,Nat.zero_add],by simpa using h2,h3,hk2⟩
theorem abp {w:World} {r:Nat} {es:Array MapEntry} {clk:Nat} (hb:w.heap[r]?=some (.map es clk)) (ob:Obj):(setObj r ob).run P w = .ok () { w with heap:=w.heap.setIfInBounds r ob } :=
 MapKept.run_setObj_map ob hb
theorem aBD {j:Nat} {op:Op} {ys:List Operand} (h:aZ P (.mkm j) op=some ys):∃ t,op = .makeMap t none∧ys=[]:=by
 simp only [aZ] at h; split at h <;> simp at h
 exact ⟨_,rfl,h⟩
theorem aCE {base j:Nat} (q:Asked P (.mkm j) o a c m ds) (h:acj base j ds m=some (d,m')):Sound P o a c m d m':=by
 obtain ⟨ys,hc,hr⟩:=q.chk
 obtain ⟨t,hop,rfl⟩:=aBD hc
 unfold acj at h
 split at h <;> try (simp at h; done)
 split at h <;> simp at h
 rename_i hm
 obtain ⟨rfl,rfl⟩:=h
 obtain ⟨c',hw,hi',hst,hL,hβ⟩:=q.inv.aDs hm #[] 0 [] (c.w.alloc (.map #[] 0)) (by simp) (fun b hb=>heap_alloc_old _ _ _ hb) ⟨rfl,rfl⟩ (heap_alloc_last _ _) ⟨Uw.nil,MapKept.stamped_empty _,Nat.le_refl _⟩
 refine Sound.yH (c':=c') (v := .map (some c.w.heap.size)) ?_ (by have := Rep.lmap (c:=c') (base+j) hL; rwa [hβ] at this) hi' hst
 simp only [execOp,hop,Instr.makeMap,hw]
 simp
theorem azp {op:Op} {ys:List Operand} (h:aZ P .akp op=some ys):∃ t x y z kt et,op = .mapUpdate t x y z∧ys=[x,y,z]∧P.underlying t=some (.map kt et)∧P.underlying kt=some (.int .i64):=by
 simp only [aZ] at h; split at h <;> try (simp at h; done)
 split at h <;> try (simp at h; done)
 rw [Option.ite_none_right_eq_some] at h
 obtain ⟨h1,h⟩:=h
 simp at h
 split at h1 <;> try (simp at h1; done)
 exact ⟨_,_,_,_,_,_,rfl,h.symm,by assumption,by assumption⟩
theorem asA (k:Int):∀ n,Instr.sameBits n (.int .i64 k) (.int .i64 k)=true
 | 0=>by simp [Instr.sameBits]
 | n+1=>by simp [Instr.sameBits]
theorem run_keyThatStays (k:Int) (w:World):(Instr.keyThatStays (.int .i64 k) (.int .i64 k)).run P w = .ok (.int .i64 k) w:=by
 unfold Instr.keyThatStays
 rw [asA,if_pos rfl]
 rfl
theorem amX (k:Int):MapKept.IsKey (.int .i64) (.int .i64 k):=(rfl:IntKind.i64 = .i64)
theorem aAA (q:Asked P .akp o a c m ds) (h:UU ds m=some (d,m')):Sound P o a c m d m':=by
 obtain ⟨ys,hc,hr⟩:=q.chk
 obtain ⟨t,x,y,z,kt,et,hop,rfl,ht,hkt⟩:=azp hc
 unfold UU at h
 split at h <;> try (simp at h; done)
 rename_i b k
 split at h <;> try (simp at h; done)
 rename_i ks hm
 simp only [Option.some.injEq,Prod.mk.injEq] at h
 obtain ⟨rfl,rfl⟩:=h
 obtain ⟨v,u,s,hv,h1,h2,h3⟩:=hr.three
 simp at hv
 obtain ⟨e1,e2,e3⟩:=hv
 obtain ⟨hL,rfl⟩:=h1.Zg
 have := h2.cu; subst this
 have := h3.mG; subst this
 obtain ⟨_,hS,es,clk,hb,hk⟩:=q.inv.maps b ks hm
 have hlt:=lt_of_heap hb
 have hput:∀ ob:Obj,({ c.w with heap:=c.w.heap.setIfInBounds (c.β b).1 ob }:World).heap.size=c.w.heap.size∧(∀ k,k≠(c.β b).1→({ c.w with heap:=c.w.heap.setIfInBounds (c.β b).1 ob }:World).heap[k]?=c.w.heap[k]?) ∧
   ({ c.w with heap:=c.w.heap.setIfInBounds (c.β b).1 ob }:World).heap[(c.β b).1]?=some ob:=by
  intro ob
  refine ⟨by simp,fun k hk=>?_,by simp [hlt]⟩
  show (c.w.heap.setIfInBounds (c.β b).1 ob)[k]?=_
  rw [Array.getElem?_setIfInBounds_ne (fun e=>hk e.symm)]
 obtain ⟨hk,hst0,hsz0⟩:=hk
 rcases hk.find k with ⟨hf,hn⟩ | ⟨j,e,hf,hj,hke,hin⟩
 ·have hins:ahd ks k=k::ks:=by simp [ahd,hn]
  rw [hins]
  obtain ⟨w1,w2,w3⟩:=hput (.map (es.push { key := .int .i64 k,val := .bool true,born:=clk }) (clk+1))
  obtain ⟨hi',hst⟩:=q.inv.writeM hm (k::ks) _ _ _ w1 w2 ⟨rfl,rfl⟩ w3 ⟨⟨fun e he=>by
   simp at he
   rcases he with he | rfl
   ·obtain ⟨q1,k',q2,q3⟩:=hk.1 e (by simpa using he)
    exact ⟨q1,k',q2,by simp [q3]⟩
   ·exact ⟨rfl,k,rfl,by simp⟩,fun k' hk'=>by
   simp at hk'
   rcases hk' with rfl | hk'
   ·exact ⟨_,by simp; exact .inr rfl,rfl⟩
   ·obtain ⟨e,he,hke⟩:=hk.2 k' hk'
    exact ⟨e,by simp; exact .inl (by simpa using he),hke⟩⟩,MapKept.stamped_push hst0 (fun x hx e=>by
   obtain ⟨_,k',hk',hin'⟩:=hk.1 x hx
   rw [e] at hk'
   have : k=k':=by simpa using hk'
   subst this
   exact hn hin'),by simp; exact hsz0⟩
  refine Sound.am2 (c':={ c with w:=_ }) ?_ hi' hst
  simp only [execOp,hop,e1,e2,e3,Instr.mapUpdate]
  simp [run_underlying ht,MapKept.run_getObj_map hb,MapKept.run_checkKey (P:=P) hkt (amX k),MapKept.run_findKey (P:=P) hkt hf,abp (P:=P) hb]
 ·have hins:ahd ks k=ks:=by simp [ahd,hin]
  rw [hins]
  obtain ⟨w1,w2,w3⟩:=hput (.map (es.modify j fun e=>{ e with key := .int .i64 k,val := .bool true }) clk)
  obtain ⟨hi',hst⟩:=q.inv.writeM hm ks _ _ _ w1 w2 ⟨rfl,rfl⟩ w3 ⟨(by
   have hget:∀ i:Nat,(es.modify j fun e=>{ e with key := .int .i64 k,val := .bool true })[i]?=if j=i then (es[i]?).map (fun e=>{ e with key := .int .i64 k,val := .bool true }) else es[i]?:=fun i=>by
    rw [Array.getElem?_modify]
   refine ⟨fun e' he'=>?_,fun k' hk'=>?_⟩
   ·obtain ⟨i,hi⟩:=List.mem_iff_getElem?.1 he'
    rw [Array.getElem?_toList,hget] at hi
    split at hi
    ·rw [Option.map_eq_some_iff] at hi
     obtain ⟨e0,_,rfl⟩:=hi
     exact ⟨rfl,k,rfl,hin⟩
    ·exact hk.1 e' (List.mem_of_getElem? (by rw [Array.getElem?_toList]; exact hi))
   ·obtain ⟨e',he',hke'⟩:=hk.2 k' hk'
    obtain ⟨i,hi⟩:=List.mem_iff_getElem?.1 he'
    rw [Array.getElem?_toList] at hi
    by_cases hji:j=i
    ·subst hji
     rw [hj] at hi
     simp at hi
     subst hi
     have : k'=k:=by rw [hke] at hke'; simpa using hke'.symm
     subst this
     refine ⟨{ e with key := .int .i64 k',val := .bool true },List.mem_of_getElem? (i:=j) ?_,rfl⟩
     rw [Array.getElem?_toList,hget,if_pos rfl,hj]
     rfl
    ·refine ⟨e',List.mem_of_getElem? (i:=i) ?_,hke'⟩
     rw [Array.getElem?_toList,hget,if_neg hji]
     exact hi),MapKept.stamped_modify hst0 j _ (fun _ _=>rfl) (fun e' _ he'=>by
   rw [hj] at he'
   obtain rfl:=Option.some.inj he'
   exact hke.symm),by simpa using hsz0⟩
  refine Sound.am2 (c':={ c with w:=_ }) ?_ hi' hst
  simp only [execOp,hop,e1,e2,e3,Instr.mapUpdate]
  simp [run_underlying ht,MapKept.run_getObj_map hb,MapKept.run_checkKey (P:=P) hkt (amX k),MapKept.run_findKey (P:=P) hkt hf,abp (P:=P) hb,hj,hke,run_keyThatStays]
theorem amk {t:TypeId} {z:D} (h:oV P t [z]=true) (hz:(P.info? t).any (fun i=>match i.zero with | some (.agg _)=>false | some (.tuple _)=>false | _=>true)=true) :
  ∃ v,(∀ w,(zeroValue t).run P w = .ok v w)∧deq z v=true:=by
 unfold oV at h
 split at h <;> try (simp at h; done)
 rename_i v hv
 rw [Option.bind_eq_some_iff] at hv
 obtain ⟨i,hi,hzv⟩:=hv
 rw [hi] at hz
 simp [hzv] at hz
 obtain ⟨hl,hd⟩:=aaN h
 have hcells:v.cells = #[v]:=by
  cases v <;> first | rfl | simp at hz
 rw [hcells] at hd
 obtain ⟨v',hv',hdq⟩:=hd 0 z rfl
 simp at hv'
 subst hv'
 exact ⟨v,fun w=>by simp [zeroValue,typeInfo,hi,hzv],hdq⟩
theorem azl {op:Op} {ys:List Operand} (h:aZ P .ahm op=some ys):∃ t x y kt et,op = .lookup t x y false∧ys=[x,y]∧P.underlying t=some (.map kt et)∧P.underlying kt=some (.int .i64)∧oV P et [.bool false]=true∧(P.info? et).any (fun i=>match i.zero with | some (.agg _)=>false | some (.tuple _)=>false | _=>true)=true:=by
 simp only [aZ] at h; split at h <;> try (simp at h; done)
 split at h <;> try (simp at h; done)
 rw [Option.ite_none_right_eq_some] at h
 obtain ⟨⟨h1,h2,h3⟩,h⟩:=h
 simp at h
 split at h1 <;> try (simp at h1; done)
 exact ⟨_,_,_,_,_,rfl,h.symm,by assumption,by assumption,h2,h3⟩
theorem ay9 {ks:List Int} {es:Array MapEntry} (hk:Uw es ks) (k:Int):∃ r,Instr.findNow (.int .i64) (.int .i64 k) es.toList 0=some r∧((r=none∧ks.contains k=false)∨(∃ j,r=some (j,.bool true)∧ks.contains k=true)):=by
 rcases hk.find k with ⟨hf,hn⟩ | ⟨j,e,hf,_,_,hin⟩
 ·exact ⟨none,hf,.inl ⟨rfl,by simpa using hn⟩⟩
 ·exact ⟨_,hf,.inr ⟨j,rfl,by simpa using hin⟩⟩
theorem apM {t kt et:TypeId} {x:Value} {es:Array MapEntry} {w:World} (ht:P.underlying t=some (.map kt et)) (hkt:P.underlying kt=some (.int .i64)) (hz:∀ w,(zeroValue et).run P w = .ok (.bool false) w) {ks:List Int} (hk:Uw es ks) (k:Int)
  (hx:(x = .map none∧es = #[])∨∃ r clk,x = .map (some r)∧w.heap[r]?=some (.map es clk)):(Instr.lookup t x (.int .i64 k) false).run P w = .ok (.bool (ks.contains k)) w:=by
 obtain ⟨r,hf,hr⟩:=ay9 hk k
 have hck:∀ e,(Instr.checkKey e 10000 kt (.int .i64 k)).run P w = .ok () w:=fun e=>MapKept.run_checkKey (P:=P) hkt (amX k) e 9999
 have hff:(Instr.findKey kt (.int .i64 k) es.toList).run P w = .ok r w:=MapKept.run_findKey (P:=P) hkt hf
 rcases hx with ⟨rfl,rfl⟩ | ⟨b,clk,rfl,hb⟩
 ·unfold Instr.lookup
  rcases hr with ⟨rfl,hc⟩ | ⟨j,rfl,hc⟩ <;> simp only [List.contains_eq_mem] at hc <;> simp [run_underlying ht,hck,hff,hz,hc]
 ·unfold Instr.lookup
  rcases hr with ⟨rfl,hc⟩ | ⟨j,rfl,hc⟩ <;> simp only [List.contains_eq_mem] at hc <;> simp [run_underlying ht,MapKept.run_getObj_map hb,hck,hff,hz,hc]
theorem awS {t:TypeId} (h:oV P t [.bool false]=true) (h2:(P.info? t).any (fun i=>match i.zero with | some (.agg _)=>false | some (.tuple _)=>false | _=>true)=true) (w:World):(zeroValue t).run P w = .ok (.bool false) w:=by
 obtain ⟨v,hv,hd⟩:=amk h h2
 rw [hv w]
 unfold deq at hd
 split at hd <;> simp_all
theorem aAw (q:Asked P .ahm o a c m ds) (h:Oj ds m=some (d,m')):Sound P o a c m d m':=by
 obtain ⟨ys,hc,hr⟩:=q.chk
 obtain ⟨t,x,y,kt,et,hop,rfl,ht,hkt,hz,hz2⟩:=azl hc
 have key:∀ (v:Value) (k:Int) (es:Array MapEntry) (ks:List Int),a.eval x=v→a.eval y = .int .i64 k→Uw es ks→((v = .map none∧es = #[])∨∃ r clk,v = .map (some r)∧c.w.heap[r]?=some (.map es clk)) →
   d = .bool (ks.contains k)→m'=m→Sound P o a c m d m':=by
  intro v k es ks e1 e2 hk hx hd hm
  subst hd hm
  refine Sound.pure q.inv (.b_ _ _ (.bool _)) ?_
  simp only [execOp,hop,e1,e2,Sem.run_bind]
  rw [apM ht hkt (awS hz hz2) hk k hx]
  rfl
 unfold Oj at h
 split at h <;> try (simp at h; done)
 ·split at h <;> simp at h
  rename_i ks hm
  obtain ⟨v,u,hv,h1,h2⟩:=hr.two
  simp at hv
  obtain ⟨e1,e2⟩:=hv
  obtain ⟨hL,rfl⟩:=h1.Zg
  have := h2.cu; subst this
  obtain ⟨_,hS,es,clk,hb,hk⟩:=q.inv.maps _ ks hm
  exact key _ _ es ks e1 e2 hk.1 (.inr ⟨_,clk,rfl,hb⟩) (by rw [← h.1]; simp) h.2.symm
 ·rename_i ks k
  obtain ⟨v,u,hv,h1,h2⟩:=hr.two
  simp at hv h
  obtain ⟨e1,e2⟩:=hv
  obtain ⟨blk,es,clk,rfl,hS,hb,hk⟩:=h1.akl
  have := h2.cu; subst this
  exact key _ _ es ks e1 e2 hk.1 (.inr ⟨_,clk,rfl,hb⟩) (by rw [← h.1]; simp) h.2.symm
 ·obtain ⟨v,u,hv,h1,h2⟩:=hr.two
  simp at hv h
  obtain ⟨e1,e2⟩:=hv
  have := h1.az2; subst this
  have := h2.cu; subst this
  exact key _ _ #[] [] e1 e2 Uw.nil (.inl ⟨rfl,rfl⟩) (by rw [← h.1]; simp) h.2.symm
theorem Ud {d:D} {v:Value} (hr:Rep c d v) (b:Bool):Rep c (.aG [d,.bool b]) (.tuple #[v,.bool b]):=by
 refine .aG _ _ (fun j=>if j=0 then v else .bool b) rfl (fun j hj=>?_) (fun j d' hd=>?_)
 ·match j,hj with
  | 0,_=>rfl
  | 1,_=>rfl
 ·match j,hd with
  | 0,hd=>simp at hd; subst hd; exact hr
  | 1,hd=>simp at hd; subst hd; exact .b_ _ _ (.bool b)
theorem azr {t:Nat} {z:D} {op:Op} {ys:List Operand} (h:aZ P (.ahU t z) op=some ys):∃ x xt u,op = .typeAssert x xt t true∧ys=[x]∧P.underlying t=some u∧(∀ ms,u ≠ .interface ms)∧∃ v,(∀ w,(zeroValue t).run P w = .ok v w)∧deq z v=true:=by
 simp only [aZ] at h; split at h <;> try (simp at h; done)
 rw [Option.ite_none_right_eq_some] at h
 obtain ⟨⟨rfl,h1,h2,h3,h4⟩,h⟩:=h
 simp at h
 obtain ⟨u,hu⟩:=Option.isSome_iff_exists.1 h1
 refine ⟨_,_,u,rfl,h.symm,hu,fun ms e=>?_,amk h3 h4⟩
 subst e
 rw [hu] at h2
 simp at h2
theorem al2 {t xt:TypeId} {u:TypeDesc} {z x:Value} (hu:P.underlying t=some u) (hni:∀ ms,u ≠ .interface ms) (hz:∀ w,(zeroValue t).run P w = .ok z w) (hx:x = .nilIface∨∃ s v,x = .iface s v∧s≠t) (w:World) :
  (Instr.typeAssert x xt t true).run P w = .ok (.tuple #[z,.bool false]) w:=by
 rcases hx with rfl | ⟨s,v,rfl,hne⟩
 ·cases u <;> first | exact absurd rfl (hni _) | simp [Instr.typeAssert,run_underlying hu,hz]
 ·cases u <;> first | exact absurd rfl (hni _) | simp [Instr.typeAssert,run_underlying hu,hz,hne]
theorem aur {t xt:TypeId} {u:TypeDesc} {v:Value} (hu:P.underlying t=some u) (hni:∀ ms,u ≠ .interface ms) (w:World) :
  (Instr.typeAssert (.iface t v) xt t true).run P w = .ok (.tuple #[v,.bool true]) w:=by
 cases u <;> first | exact absurd rfl (hni _) | simp [Instr.typeAssert,run_underlying hu]
theorem aAC {t:Nat} {z:D} (q:Asked P (.ahU t z) o a c m ds) (h:Ri t z ds m=some (d,m')):Sound P o a c m d m':=by
 obtain ⟨ys,hc,hr⟩:=q.chk
 obtain ⟨x,xt,u,hop,rfl,hu,hni,zv,hz,hdq⟩:=azr hc
 have key:∀ (v r:Value),a.eval x=v→(Instr.typeAssert v xt t true).run P c.w = .ok r c.w→Rep c d r→m'=m→Sound P o a c m d m':=by
  intro v r e1 hrun hrep hm
  subst hm
  refine Sound.pure q.inv hrep ?_
  simp only [execOp,hop,e1,Sem.run_bind]
  rw [hrun]
  rfl
 unfold Ri at h
 split at h <;> try (simp at h; done)
 ·simp at h
  obtain ⟨v,hv,h1⟩:=hr.one
  simp at hv
  have := h1.yG; subst this
  exact key _ _ hv (al2 hu hni hz (.inl rfl) _) (by rw [← h.1]; exact Ud (ah_ hdq) _) h.2.symm
 ·rename_i s e
  obtain ⟨v,hv,h1⟩:=hr.one
  simp at hv
  obtain ⟨w,rfl,hw⟩:=h1.ig
  cases hb:Nat.beq s t <;> simp [hb] at h
  ·have hne:s≠t:=fun e=>by rw [e,Nat.beq_refl] at hb; simp at hb
   exact key _ _ hv (al2 hu hni hz (.inr ⟨s,w,rfl,hne⟩) _) (by rw [← h.1]; exact Ud (ah_ hdq) _) h.2.symm
  ·have := Nat.eq_of_beq_eq_true hb
   subst this
   exact key _ _ hv (aur hu hni _) (by rw [← h.1]; exact Ud hw _) h.2.symm
theorem ai4 {want:Array (String×TypeId)}:∀ {tab:List (Nat×Bool)} {u:Nat} {b:Bool},hasAll P want tab=true→wX tab u=some b→(P.info? u).map (fun i=>(lacking want i.methods).isEmpty)=some b
 | [],u,b,_,h=>by simp [wX] at h
 | (u',b')::r,u,b,hc,h=>by
   simp only [hasAll,Bool.and_eq_true,beq_iff_eq] at hc
   simp only [wX,cond_eq_ite] at h
   split at h
   ·rename_i e
    have := Nat.eq_of_beq_eq_true e
    subst this
    simp at h
    subst h
    exact hc.1
   ·exact ai4 hc.2 h
theorem azs {tab:List (Nat×Bool)} {op:Op} {ys:List Operand} (h:aZ P (.acF tab) op=some ys):∃ x xt t want,op = .typeAssert x xt t true∧ys=[x]∧P.underlying t=some (.interface want)∧hasAll P want tab=true∧(P.info? t).map (·.zero)=some (some .nilIface):=by
 simp only [aZ] at h; split at h <;> try (simp at h; done)
 split at h <;> try (simp at h; done)
 rw [Option.ite_none_right_eq_some] at h
 obtain ⟨⟨h1,h2⟩,h⟩:=h
 simp at h
 refine ⟨_,_,_,_,rfl,h.symm,by assumption,h1,?_⟩
 rename_i t' _ _ _
 cases hi:P.info? t' with
 | none=>rw [hi] at h2; simp at h2
 | some i =>
   rw [hi] at h2
   simp at h2
   split at h2 <;> simp_all
theorem aAD {tab:List (Nat×Bool)} (q:Asked P (.acF tab) o a c m ds) (h:UZ tab ds m=some (d,m')):Sound P o a c m d m':=by
 obtain ⟨ys,hc,hr⟩:=q.chk
 obtain ⟨x,xt,t,want,hop,rfl,hu,hall,hz⟩:=azs hc
 have key:∀ (v r:Value),a.eval x=v→(Instr.typeAssert v xt t true).run P c.w = .ok r c.w→Rep c d r→m'=m→Sound P o a c m d m':=by
  intro v r e1 hrun hrep hm
  subst hm
  refine Sound.pure q.inv hrep ?_
  simp only [execOp,hop,e1,Sem.run_bind]
  rw [hrun]
  rfl
 unfold UZ at h
 split at h <;> try (simp at h; done)
 ·simp at h
  obtain ⟨v,hv,h1⟩:=hr.one
  simp at hv
  have := h1.yG; subst this
  refine key _ (.tuple #[.nilIface,.bool false]) hv ?_ (by rw [← h.1]; exact Ud (.b_ _ _ .bQ) _) h.2.symm
  obtain ⟨j,hj,hz'⟩:=Option.map_eq_some_iff.1 hz
  simp [Instr.typeAssert,run_underlying hu,zeroValue,typeInfo,hj,hz']
 ·rename_i s e
  obtain ⟨v,hv,h1⟩:=hr.one
  simp at hv
  obtain ⟨w,rfl,hw⟩:=h1.ig
  rw [Option.bind_eq_some_iff] at h
  obtain ⟨b,hb,h⟩:=h
  have hl:=ai4 hall hb
  cases b <;> simp at h
  ·exact key _ _ hv (run_typeAssert_lacksB hu hl hz _ _ _) (by rw [← h.1]; exact Ud (.b_ _ _ .bQ) _) h.2.symm
  ·exact key _ _ hv (run_typeAssert_hasB hu hl _ _ _) (by rw [← h.1]; exact Ud (.iface _ _ _ hw) _) h.2.symm
theorem aBw {n:Bool} {ts:List Nat} {op:Op} {ys:List Operand} (h:aZ P (.eqF n ts) op=some ys):∃ t x y u ms,op = .binOp (if n then .neq else .eql) t x y u∧ys=[x,y]∧P.underlying t=some (.interface ms)∧Vx P ts=true:=by
 simp only [aZ] at h; split at h <;> try (simp at h; done)
 rw [Option.ite_none_right_eq_some] at h
 obtain ⟨⟨rfl,h2,h3⟩,h⟩:=h
 simp at h
 split at h2 <;> try (simp at h2; done)
 exact ⟨_,_,_,_,_,rfl,h.symm,by assumption,h3⟩
theorem adu:∀ {ts:List Nat} {t:Nat},Vx P ts=true→ts.contains t=true→∃ k i,P.underlying t=some (.int k)∧P.info? t=some i∧i.comparable=true
 | [],t,_,h=>by simp at h
 | t'::ts,t,hc,h=>by
   simp only [Vx,Bool.and_eq_true] at hc
   obtain ⟨⟨h1,h2⟩,h3⟩:=hc
   simp at h
   rcases h with rfl | h
   ·split at h1
    ·split at h2
     ·exact ⟨_,_,by assumption,by assumption,h2⟩
     ·simp at h2
    ·simp at h1
   ·exact adu h3 (by simpa using h)
theorem aCx {n:Bool} {ts:List Nat} (q:Asked P (.eqF n ts) o a c m ds) (h:ahB n ts ds m=some (d,m')):Sound P o a c m d m':=by
 obtain ⟨ys,hc,hr⟩:=q.chk
 obtain ⟨t,ox,oy,u,ms,hop,rfl,hu,hts⟩:=aBw hc
 have key:∀ (x y:Value) (r:Bool),a.eval ox=x→a.eval oy=y→(∀ k,(Op.equalIn (k+2) t x y).run P c.w = .ok r c.w) →
   (∀ w,(eqGuard (if n then .neq else .eql) t ox oy x y).run P w = .ok () w)→(∀ b:Bool,binOp (if b then .neq else .eql) t x y=(do pure (.bool ((← Op.equal t x y) != b)))) →
   d = .bool (r != n)→m'=m→Sound P o a c m d m':=by
  intro x y r e1 e2 he hg hx hd hm
  subst hd hm
  refine Sound.pure q.inv (.b_ _ _ (.bool _)) ?_
  simp only [execOp,hop,e1,e2]
  have : (Op.equal t x y).run P c.w = .ok r c.w:=he 9998
  rw [Sem.run_bind,Sem.run_bind,hg c.w,Result.andThen_ok,hx n,Sem.run_bind,this]
  rfl
 have tys:∀ (tx ty:Nat) (vx vy:Value),tx≠ty→∀ k,(Op.equalIn (k+2) t (.iface tx vx) (.iface ty vy)).run P c.w = .ok false c.w:=fun tx ty vx vy hne k=>by
  simp [Op.equalIn,run_underlying hu,hne]
 unfold ahB at h
 split at h <;> try (simp at h; done)
 ·obtain ⟨v,u',hv,h1,h2⟩:=hr.two
  simp at hv h
  obtain ⟨e1,e2⟩:=hv
  have := h1.yG; subst this
  obtain ⟨_,rfl,_⟩:=h2.ig
  obtain ⟨rfl,rfl⟩:=h
  exact key _ _ false e1 e2 (fun k=>an0 c.w (k+1) hu _ _) (fun w=>by cases n <;> simp [eqGuard]) (fun b=>by cases b <;> simp [binOp]) (by simp) rfl
 ·obtain ⟨v,u',hv,h1,h2⟩:=hr.two
  simp at hv h
  obtain ⟨e1,e2⟩:=hv
  have := h2.yG; subst this
  obtain ⟨_,rfl,_⟩:=h1.ig
  obtain ⟨rfl,rfl⟩:=h
  exact key _ _ false e1 e2 (fun k=>an1 c.w (k+1) hu _ _) (fun w=>by cases n <;> simp [eqGuard]) (fun b=>by cases b <;> simp [binOp]) (by simp) rfl
 ·rename_i tx k x ty k' y
  obtain ⟨v,u',hv,h1,h2⟩:=hr.two
  simp at hv
  obtain ⟨e1,e2⟩:=hv
  obtain ⟨vx,rfl,hx⟩:=h1.ig
  obtain ⟨vy,rfl,hy⟩:=h2.ig
  have := hx.cu; subst this
  have := hy.cu; subst this
  cases hb:Nat.beq tx ty <;> simp only [hb,cond_true,cond_false] at h
  ·have hne:tx≠ty:=fun e=>by rw [e,Nat.beq_refl] at hb; simp at hb
   simp at h
   exact key _ _ false e1 e2 (tys _ _ _ _ hne) (fun w=>by cases n <;> simp [eqGuard]) (fun b=>by cases b <;> simp [binOp]) (by rw [← h.1]; simp) h.2.symm
  ·have := Nat.eq_of_beq_eq_true hb
   subst this
   cases hk:(ts.contains tx && k==k') <;> simp only [hk,cond_true,cond_false] at h
   ·simp at h
   ·simp only [Bool.and_eq_true,beq_iff_eq] at hk
    obtain ⟨hk1,rfl⟩:=hk
    obtain ⟨q0,i,hq,hi,hcmp⟩:=adu hts hk1
    simp only [Option.some.injEq,Prod.mk.injEq] at h
    refine key _ _ (x==y) e1 e2 (fun j=>?_) (fun w=>by cases n <;> simp [eqGuard]) (fun b=>by cases b <;> simp [binOp]) h.1.symm h.2.symm
    simp [Op.equalIn,run_underlying hu,run_underlying hq,typeInfo,hi,hcmp]
 ·rename_i tx dx ty dy _
  obtain ⟨v,u',hv,h1,h2⟩:=hr.two
  simp at hv
  obtain ⟨e1,e2⟩:=hv
  obtain ⟨vx,rfl,hx⟩:=h1.ig
  obtain ⟨vy,rfl,hy⟩:=h2.ig
  cases hb:Nat.beq tx ty <;> simp [hb] at h
  have hne:tx≠ty:=fun e=>by rw [e,Nat.beq_refl] at hb; simp at hb
  exact key _ _ false e1 e2 (tys _ _ _ _ hne) (fun w=>by cases n <;> simp [eqGuard]) (fun b=>by cases b <;> simp [binOp]) (by rw [← h.1]; simp) h.2.symm
end
end Go.Ev
end
