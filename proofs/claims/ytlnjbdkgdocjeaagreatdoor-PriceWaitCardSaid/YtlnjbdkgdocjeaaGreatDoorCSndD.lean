/- A part of the proof of priceWait_card. -/
import Derived.Test.YtlnjbdkgdocjeaaGreatDoorCSndC
set_option linter.unusedVariables false
set_option linter.unusedSimpArgs false
section
namespace Go.Ev
section
variable {P:Program} {o:Oper} {a:Act} {c:Ctx} {m m':Mem} {ds:List D} {d:D}
theorem akz {t:TypeId} {k:Nat} (h:ait P t k=true):(P.underlying t=some .bool∧k=0)∨(∃ q,P.underlying t=some (.int q)∧k=1)∨(P.underlying t=some .string∧k=2):=by
 unfold ait at h
 split at h <;> try (simp at h; done)
 ·exact .inl ⟨by assumption,Nat.eq_of_beq_eq_true h⟩
 ·exact .inr (.inl ⟨_,by assumption,Nat.eq_of_beq_eq_true h⟩)
 ·exact .inr (.inr ⟨by assumption,Nat.eq_of_beq_eq_true h⟩)
theorem ais {ks:List Nat} {x y:List D} {r:Bool} (h:dD (0::ks) x y=some r):∃ a x' b y' rr,x = .bool a::x'∧y = .bool b::y'∧dD ks x' y'=some rr∧r=(a==b && rr):=by
 rcases x with _ | ⟨x0,x'⟩
 ·simp [dD] at h
 cases x0 <;> try (simp [dD] at h; done)
 rcases y with _ | ⟨y0,y'⟩
 ·simp [dD] at h
 cases y0 <;> try (simp [dD] at h; done)
 simp only [dD] at h
 rw [Option.bind_eq_some_iff] at h
 obtain ⟨rr,hrr,h⟩:=h
 simp at h
 exact ⟨_,_,_,_,rr,rfl,rfl,hrr,h.symm⟩
theorem aky {ks:List Nat} {x y:List D} {r:Bool} (h:dD (2::ks) x y=some r):∃ a x' b y' rr,x = .str a::x'∧y = .str b::y'∧dD ks x' y'=some rr∧r=(a==b && rr):=by
 rcases x with _ | ⟨x0,x'⟩
 ·simp [dD] at h
 cases x0 <;> try (simp [dD] at h; done)
 rcases y with _ | ⟨y0,y'⟩
 ·simp [dD] at h
 cases y0 <;> try (simp [dD] at h; done)
 simp only [dD] at h
 rw [Option.bind_eq_some_iff] at h
 obtain ⟨rr,hrr,h⟩:=h
 simp at h
 exact ⟨_,_,_,_,rr,rfl,rfl,hrr,h.symm⟩
theorem akx {ks:List Nat} {x y:List D} {r:Bool} (h:dD (1::ks) x y=some r):∃ k a x' b y' rr,x = .int k a::x'∧y = .int k b::y'∧dD ks x' y'=some rr∧r=(a==b && rr):=by
 rcases x with _ | ⟨x0,x'⟩
 ·simp [dD] at h
 cases x0 <;> try (simp [dD] at h; done)
 rcases y with _ | ⟨y0,y'⟩
 ·simp [dD] at h
 cases y0 <;> try (simp [dD] at h; done)
 simp only [dD] at h
 rename_i k a k' b
 cases hk:(k==k') <;> simp [hk] at h
 have hk:k=k':=by simpa using hk
 subst hk
 rw [Option.bind_eq_some_iff] at h
 obtain ⟨rr,hrr,h⟩:=h
 simp at h
 exact ⟨_,_,_,_,_,rr,rfl,rfl,hrr,h.symm⟩
theorem YC (n:Nat) (xs ys:Array Value) (X Y:List D) (hx:tX c 0 X xs) (hy:tX c 0 Y ys):∀ (fs:List Field) (ks:List Nat) (i:Nat) (x y:List D) (r:Bool),eqFields P fs ks i=true→X.drop i=x→Y.drop i=y→dD ks x y=some r →
  ∀ w,(Op.eqFields (n+1) xs ys fs).run P w = .ok r w
 | [],ks,i,x,y,r,hf,hX,hY,he,w=>by
   cases ks <;> simp [eqFields] at hf
   cases x <;> cases y <;> simp [dD] at he
   subst he
   rfl
 | f::fs,[],i,x,y,r,hf,hX,hY,he,w=>by simp [eqFields] at hf
 | f::fs,k::ks,i,x,y,r,hf,hX,hY,he,w=>by
   simp only [eqFields,Bool.and_eq_true] at hf
   obtain ⟨⟨⟨h1,h2⟩,h3⟩,h4⟩:=hf
   have h1:f.offset=i:=Nat.eq_of_beq_eq_true h1
   have h2:f.name ≠ "_" := by simpa using h2
   have h3:=akz h3
   have hagg:∀ w,(isAgg f.type).run P w = .ok false w:=fun w=>by
    unfold isAgg
    rcases h3 with ⟨hu,_⟩ | ⟨q,hu,_⟩ | ⟨hu,_⟩ <;> (rw [Sem.run_bind,run_underlying hu]; rfl)
   have key:∀ (x0 y0:D) (x' y':List D),x=x0::x'→y=y0::y'→∃ vx vy,Rep c x0 vx∧Rep c y0 vy∧∀ (b rr:Bool),dD ks x' y'=some rr→(∀ w,(Op.equalIn (n+1) f.type vx vy).run P w = .ok b w)→r=(b && rr) →
     (Op.eqFields (n+1) xs ys (f::fs)).run P w = .ok r w:=by
    intro x0 y0 x' y' ex ey
    rw [ex] at hX
    rw [ey] at hY
    have gx:X[i]?=some x0:=by rw [← List.head?_drop,hX]; rfl
    have gy:Y[i]?=some y0:=by rw [← List.head?_drop,hY]; rfl
    have dx:X.drop (i+1)=x':=by rw [← List.tail_drop,hX]; rfl
    have dy:Y.drop (i+1)=y':=by rw [← List.tail_drop,hY]; rfl
    obtain ⟨vx,qx,rx,_⟩:=hx i x0 gx
    obtain ⟨vy,qy,ry,_⟩:=hy i y0 gy
    rw [Nat.zero_add] at qx qy
    have px:∀ w,(part f.type xs f.offset).run P w = .ok vx w:=fun w=>by simp [part,hagg,h1,qx]
    have py:∀ w,(part f.type ys f.offset).run P w = .ok vy w:=fun w=>by simp [part,hagg,h1,qy]
    refine ⟨vx,vy,rx,ry,fun b rr hrr hb hr=>?_⟩
    have ih:=YC n xs ys X Y hx hy fs ks (i+1) x' y' rr h4 dx dy hrr w
    simp only [Op.eqFields,if_pos h2,Sem.run_bind,px,py,hb,Result.andThen_ok]
    cases b
    ·subst hr; rfl
    ·simp only [Bool.true_and] at hr
     subst hr
     simpa using ih
   rcases h3 with ⟨hu,rfl⟩ | ⟨q,hu,rfl⟩ | ⟨hu,rfl⟩
   ·obtain ⟨p,x',u,y',rr,rfl,rfl,hrr,hr⟩:=ais he
    obtain ⟨vx,vy,rx,ry,hk⟩:=key _ _ _ _ rfl rfl
    have e1:=rx.pO
    have e2:=ry.pO
    exact hk (p==u) rr hrr (fun w=>by rw [e1,e2]; exact run_equalIn_bool w n f.type p u hu) hr
   ·obtain ⟨k,p,x',u,y',rr,rfl,rfl,hrr,hr⟩:=akx he
    obtain ⟨vx,vy,rx,ry,hk⟩:=key _ _ _ _ rfl rfl
    have e1:=rx.bg
    have e2:=ry.bg
    exact hk (p==u) rr hrr (fun w=>by rw [e1,e2]; exact run_equalIn_int w n f.type k q p u hu) hr
   ·obtain ⟨p,x',u,y',rr,rfl,rfl,hrr,hr⟩:=aky he
    obtain ⟨vx,vy,rx,ry,hk⟩:=key _ _ _ _ rfl rfl
    have e1:=rx.gu
    have e2:=ry.gu
    exact hk (p==u) rr hrr (fun w=>by rw [e1,e2]; simpa using run_equalIn_string (P:=P) w n f.type ⟨p.toArray⟩ ⟨u.toArray⟩ hu) hr
theorem ar_ {n:Bool} {ks:List Nat} {op:Op} {ys:List Operand} (h:aT P (.eqA n ks) op=some ys):∃ t x y u fs,op = .binOp (if n then .neq else .eql) t x y u∧ys=[x,y]∧P.underlying t=some (.struct fs) ∧
  eqFields P fs.toList ks 0=true∧P.eqGuardType P.depth t=false∧P.stoodInHeld t=false:=by
 simp only [aT] at h; split at h <;> try (simp at h; done)
 split at h <;> simp at h
 obtain ⟨⟨rfl,h1,h2,h3⟩,h⟩:=h
 exact ⟨_,_,_,_,_,rfl,h.symm,by assumption,h1,h2,h3⟩
theorem ah1 {X:List D} {v:Value} (h:Rep c (.agg X) v):∃ xs,v = .agg xs∧tX c 0 X xs:=by
 obtain ⟨vs,g,rfl,hl,hg,hr⟩:=h.FM
 refine ⟨vs,rfl,fun j d hd=>?_⟩
 have hj:j<X.length:=(List.getElem?_eq_some_iff.1 hd).1
 exact ⟨g j,by rw [Nat.zero_add]; exact (hg j hj).1,hr j d hd,(hg j hj).2⟩
theorem atB {n:Bool} {ks:List Nat} (q:Asked P (.eqA n ks) o a c m ds) (h:Zv n ks ds m=some (d,m')):Sound P o a c m d m':=by
 obtain ⟨ys,hc,hr⟩:=q.chk
 obtain ⟨t,ox,oy,u,fs,hop,rfl,hu,hf,hg,hst⟩:=ar_ hc
 unfold Zv at h
 split at h <;> try (simp at h; done)
 rename_i X Y
 rw [Option.bind_eq_some_iff] at h
 obtain ⟨r,hr',h⟩:=h
 simp at h
 obtain ⟨rfl,rfl⟩:=h
 obtain ⟨v,u',hv,h1,h2⟩:=hr.two
 simp at hv
 obtain ⟨e1,e2⟩:=hv
 obtain ⟨xs,rfl,hx⟩:=ah1 h1
 obtain ⟨ys,rfl,hy⟩:=ah1 h2
 have hfs:P.fieldsOf t=fs:=by simp [Program.fieldsOf,hu]
 have hrun:∀ k,(Op.equalIn (k+2) t (.agg xs) (.agg ys)).run P c.w = .ok r c.w:=fun k=>by
  rw [run_equalIn_struct c.w (k+1) t xs ys (by rw [hfs]; exact hu) hst,hfs]
  exact YC k xs ys X Y hx hy fs.toList ks 0 X Y r hf (by simp) (by simp) hr' c.w
 have hbin:∀ b:Bool,binOp (if b then .neq else .eql) t (.agg xs) (.agg ys)=(do pure (.bool ((← Op.equal t (.agg xs) (.agg ys)) != b))):=fun b=>by cases b <;> simp [binOp]
 refine Sound.pure q.inv (.bG _ _ (.bool _)) ?_
 have hgd:=run_eqGuard_agg (P:=P) c.w (if n then .neq else .eql) t ox oy xs ys hg
 simp only [execOp,hop,e1,e2]
 rw [Sem.run_bind,Sem.run_bind,hgd,Result.andThen_ok,hbin,Sem.run_bind]
 have : (Op.equal t (.agg xs) (.agg ys)).run P c.w = .ok r c.w:=hrun 9998
 rw [this]
 rfl
end
end Go.Ev
end
section
namespace Go.Ev
section
variable {P:Program} {o:Oper} {a:Act} {c:Ctx} {m m':Mem} {ds:List D} {d:D}
theorem ase {n:Bool} {op:Op} {ys:List Operand} (h:aT P (.eqS n) op=some ys):∃ t x y u e,op = .binOp (if n then .neq else .eql) t x y u∧ys=[x,y]∧P.underlying t=some (.slice e):=by
 simp only [aT] at h; split at h <;> simp at h
 obtain ⟨⟨rfl,h2⟩,rfl⟩:=h
 split at h2 <;> try (simp at h2; done)
 exact ⟨_,_,_,_,_,rfl,rfl,by assumption⟩
theorem avD (w:World) (n:Nat) {t e:TypeId} (hu:P.underlying t=some (.slice e)) (x y:Value) (r:Bool)
  (h:(∃ p l c q l' c',x = .slice p l c∧y = .slice q l' c'∧((p=none∧r=q.isNone)∨(q=none∧r=p.isNone)))):(Op.equalIn (n+1) t x y).run P w = .ok r w:=by
 obtain ⟨p,l,c,q,l',c',rfl,rfl,h⟩:=h
 rcases h with ⟨rfl,rfl⟩ | ⟨rfl,rfl⟩
 ·rcases q with _ | q <;> simp [Op.equalIn,run_underlying hu]
 ·rcases p with _ | p <;> simp [Op.equalIn,run_underlying hu]
theorem atH {n:Bool} (q:Asked P (.eqS n) o a c m ds) (h:acy n ds m=some (d,m')):Sound P o a c m d m':=by
 obtain ⟨ys,hc,hr⟩:=q.chk
 obtain ⟨t,ox,oy,u,e,hop,rfl,hu⟩:=ase hc
 have key:∀ (x y:Value) (r:Bool),a.eval ox=x→a.eval oy=y→(∃ p l c q l' c',x = .slice p l c∧y = .slice q l' c'∧((p=none∧r=q.isNone)∨(q=none∧r=p.isNone)))→d = .bool (r != n)→m'=m→Sound P o a c m d m':=by
  intro x y r e1 e2 hxy hd hm
  subst hd hm
  refine Sound.pure q.inv (.bG _ _ (.bool _)) ?_
  have := aap (P:=P) (ox:=ox) (oy:=oy) (n:=n) c.w (fun k=>avD c.w k hu x y r hxy) (fun w=>by obtain ⟨p,l,cc,qq,l',c',rfl,rfl,_⟩:=hxy; cases n <;> simp [eqGuard])
   (fun b=>by obtain ⟨p,l,cc,qq,l',c',rfl,rfl,_⟩:=hxy; cases b <;> simp [binOp])
  simp only [execOp,hop,e1,e2]
  rw [Sem.run_bind,this]
  rfl
 unfold acy at h
 split at h <;> try (simp at h; done)
 all_goals
  obtain ⟨v,u',hv,h1,h2⟩:=hr.two
  simp at hv
  obtain ⟨e1,e2⟩:=hv
  simp at h
  obtain ⟨rfl,rfl⟩:=h
 ·have := h1.nG; subst this
  have := h2.nG; subst this
  exact key _ _ true e1 e2 ⟨_,_,_,_,_,_,rfl,rfl,.inl ⟨rfl,rfl⟩⟩ (by simp) rfl
 ·have := h2.nG; subst this
  obtain ⟨h0,_⟩ | ⟨_,_,_,_,_,_,_,rfl,_⟩:=h1.zu
  ·simp at h0
  exact key _ _ false e1 e2 ⟨_,_,_,_,_,_,rfl,rfl,.inr ⟨rfl,rfl⟩⟩ (by simp) rfl
 ·have := h1.nG; subst this
  obtain ⟨h0,_⟩ | ⟨_,_,_,_,_,_,_,rfl,_⟩:=h2.zu
  ·simp at h0
  exact key _ _ false e1 e2 ⟨_,_,_,_,_,_,rfl,rfl,.inl ⟨rfl,rfl⟩⟩ (by simp) rfl
 ·have := h2.nG; subst this
  obtain ⟨_,_,_,rfl,_⟩:=h1.wY
  exact key _ _ false e1 e2 ⟨_,_,_,_,_,_,rfl,rfl,.inr ⟨rfl,rfl⟩⟩ (by simp) rfl
 ·have := h1.nG; subst this
  obtain ⟨_,_,_,rfl,_⟩:=h2.wY
  exact key _ _ false e1 e2 ⟨_,_,_,_,_,_,rfl,rfl,.inl ⟨rfl,rfl⟩⟩ (by simp) rfl
theorem ar8 {op:Op} {ys:List Operand} (h:aT P .b2s op=some ys):∃ s t x e,op = .convert s t x∧ys=[x]∧P.underlying s=some (.slice e)∧P.underlying e=some (.int .u8)∧P.underlying t=some .string:=by
 simp only [aT] at h
 split at h <;> try (simp at h; done)
 rw [Option.bind_eq_some_iff] at h
 obtain ⟨e,he,h⟩:=h
 rw [Option.ite_none_right_eq_some] at h
 obtain ⟨⟨h1,h2⟩,h⟩:=h
 simp at h
 subst h
 split at h1 <;> try (simp at h1; done)
 split at h2 <;> try (simp at h2; done)
 refine ⟨_,_,_,e,rfl,rfl,?_,by assumption,by assumption⟩
 unfold Cj at he
 split at he <;> simp at he
 subst he
 assumption
theorem aaO {c:Ctx}:∀ {cs:List D} {bs:List UInt8} {vs:List Value},bytesOf cs=some bs→vs.length=cs.length→(∀ (j:Nat) (d':D),cs[j]?=some d'→∃ v',vs[j]?=some v'∧Rep c d' v'∧v'.oneCell'=true) →
  vs=bs.map fun b => .int .u8 b.toNat
 | [],bs,vs,h,hl,_=>by
   simp [bytesOf] at h
   subst h
   simpa using hl
 | d::cs,bs,vs,h,hl,hr=>by
   have key:∃ n,d = .int .u8 n∧0≤n∧n<256∧∃ bs',bytesOf cs=some bs'∧bs=UInt8.ofNat n.toNat::bs':=by
    unfold bytesOf at h
    split at h
    ·rename_i e1; simp at e1
    ·rename_i n ds' e1
     simp at e1
     obtain ⟨rfl,rfl⟩:=e1
     rw [Option.ite_none_right_eq_some] at h
     obtain ⟨hn,h⟩:=h
     rw [Option.bind_eq_some_iff] at h
     obtain ⟨bs',hbs,h⟩:=h
     simp at h
     exact ⟨n,rfl,hn.1,hn.2,bs',hbs,h.symm⟩
    ·simp at h
   obtain ⟨n,rfl,hn0,hn1,bs',hbs,rfl⟩:=key
   cases vs with
   | nil=>simp at hl
   | cons v vs =>
     obtain ⟨v',h1,h2,_⟩:=hr 0 _ rfl
     simp at h1
     subst h1
     have := h2.bg
     subst this
     have ih:=aaO hbs (by simpa using hl) (fun j d' hd=>by simpa using hr (j+1) d' (by simpa using hd))
     rw [ih]
     simp
     omega
theorem foldl_push:∀ (bs:List UInt8) (s:ByteArray),bs.foldl (fun b a=>b.push a) s=⟨s.data++bs.toArray⟩
 | [],s=>by simp
 | b::bs,s=>by
   rw [List.foldl_cons,foldl_push bs]
   simp [ByteArray.push]
theorem aty (q:Asked P .b2s o a c m ds) (h:acv ds m=some (d,m')):Sound P o a c m d m':=by
 obtain ⟨ys,hc,hr⟩:=q.chk
 obtain ⟨s,t,x,e,hop,rfl,hs,he,ht⟩:=ar8 hc
 unfold acv at h
 split at h <;> try (simp at h; done)
 rw [Option.bind_eq_some_iff] at h
 obtain ⟨⟨cells,off,len⟩,hslc,h⟩:=h
 rw [Option.bind_eq_some_iff] at h
 obtain ⟨cs',htk,h⟩:=h
 rw [Option.bind_eq_some_iff] at h
 obtain ⟨bs,hbs,h⟩:=h
 simp at h
 obtain ⟨rfl,rfl⟩:=h
 obtain ⟨v,hv,h1⟩:=hr.one
 simp at hv
 simp only at htk
 obtain ⟨hle,hlen,hget⟩:=y5 htk
 refine Sound.pure q.inv (.bG _ _ (.str _)) ?_
 rcases alT q.inv h1 hslc with ⟨rfl,rfl,rfl,rfl⟩ | ⟨ad,cap,blk,st,cs,T,fr,rfl,hcap,had,hb,hcells⟩
 ·have : cs'=[]:=by simpa using hlen
  subst this
  simp [bytesOf] at hbs
  subst hbs
  simp only [execOp,hop,hv]
  simp [convert,run_underlying hs,run_underlying ht,run_underlying he,Conv.bytesToString]
  rfl
 ·by_cases h0:len=0
  ·subst h0
   have : cs'=[]:=by simpa using hlen
   subst this
   simp [bytesOf] at hbs
   subst hbs
   simp only [execOp,hop,hv]
   have hl0:(loadCells ad 0).run P c.w = .ok #[] c.w:=by simpa using run_loadCells (P:=P) (w:=c.w) ad 0 (fun _=>undef) (fun j hj=>by omega)
   simp [convert,run_underlying hs,run_underlying ht,run_underlying he,Conv.bytesToString,hl0]
   rfl
  ·have had:ad=⟨blk,st+off,none⟩:=had.resolve_left (by omega)
   subst had
   obtain ⟨vs,hrun,hvl,_,hvr⟩:=qp (P:=P) (c:=c) (w:=c.w) (blk:=blk) (o:=st+off) (n:=len) (ds:=cs') hb hlen (fun j d' hd'=>by
    have hj:j<len:=by rw [← hlen]; exact (List.getElem?_eq_some_iff.1 hd').1
    obtain ⟨v',q1,q2,q3⟩:=hcells (off+j) d' (by rw [← hget j hj]; exact hd')
    exact ⟨v',by rw [Nat.add_assoc]; exact q1,q2,q3⟩)
   have := aaO hbs (by omega) hvr
   subst this
   simp only [execOp,hop,hv]
   simp [convert,run_underlying hs,run_underlying ht,run_underlying he,Conv.bytesToString,hrun]
   rw [foldl_push]
   simp [ByteArray.empty,ByteArray.emptyWithCapacity]
   rfl
end
end Go.Ev
end
