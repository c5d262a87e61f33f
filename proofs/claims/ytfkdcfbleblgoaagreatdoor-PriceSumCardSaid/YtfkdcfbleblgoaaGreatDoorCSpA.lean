/- A part of the proof of priceAll_card, yieldAll_card, priceSum_card, flowAll_card, accrAll_card. -/
import Derived.Test.YtfkdcfbleblgoaaGreatDoorCSim
import Derived.Test.YtfkdcfbleblgoaaGreatDoorCTab
import Derived.Test.YtfkdcfbleblgoaaGreatDoorCFlatA
set_option linter.unusedVariables false
set_option linter.unusedSimpArgs false
section
namespace Go.Ev.Code
open Go Go.Ev
theorem aj {f:Nat} {ef:EF} {args:List D} {d:D} {x:RV} (hs:ef.step2 L args []=x) (h:bd x fin=some d) (hf:TT.fn f=some ef:=by kernel_rfl) (hn:Nat.beq args.length ef.params.length=true:=by rfl):L.call f args=some d :=
 aBq hf hn hs h
theorem oC {f:Nat} {ef:EF} {args:List D} {m:Mem} {r:D×Mem} {x:RV} (hs:ef.step2 L args m=x) (h:x=some r) (hf:TT.fn f=some ef:=by kernel_rfl) (hn:Nat.beq args.length ef.params.length=true:=by rfl):L.bf f args m=some r :=
 azb hf hn hs h
theorem au {ins outs:List Nat} {body:EC} {base:Nat} {vals:List D} {m:Mem} {r:Ex×List D×Mem} {x:Option (Ex×List D×Mem)} (hs:aH L ins outs body base vals m=x) (h:x=some r):L.loop ins outs body base vals m=some r :=
 aAe hs h
theorem zW {f:Nat} {args:List D} {d d':D} {m:Mem} (h:L.bf f args []=some (d,m)) (hf:fin (d,m)=some d'):L.call f args=some d':=by
 show yJ (L.bf f args [])=some d'
 rw [h]
 exact hf
theorem aio {f:Nat} {args:List D} {m m':Mem} {d:D} (hf:TT.fn f=none) (h:TT.ku f args m=some (d,m')):L.bf f args m=some (d,m'):=arB hf h
theorem Ls {f:Nat} {args:List D} {m':Mem} {d d':D} (hf:TT.fn f=none) (h:TT.ku f args []=some (d,m')) (hd:fin (d,m')=some d'):L.call f args=some d':=zW (aio hf h) hd
theorem anh {α:Type} {P:List α→Prop} (h0:P []) (h1:∀ l x,P l→P (l++[x])) (l:List α):P l:=by
 have : ∀ r:List α,P r.reverse:=by
  intro r
  induction r with
  | nil=>exact h0
  | cons x xs ih=>rw [List.reverse_cons]; exact h1 _ _ ih
 have h:=this l.reverse
 rwa [List.reverse_reverse] at h
def val:List Nat→Nat
 | []=>0
 | x::xs=>x+W*val xs
def ND:Nat→Nat→List Nat
 | 0,_=>[]
 | f+1,n=>if n=0 then [] else n % W::ND f (n / W)
def limbs (n:Nat):List Nat:=ND (n.log2 / 64+1) n
def Small (l:List Nat):Prop:=∀ x∈l,x<W
def Canon (l:List Nat):Prop:=Small l∧∀ h:l≠[],l.getLast h≠0
theorem jC:0<W:=by decide
theorem tY:W=2^64:=by decide
@[simp] theorem ant:val []=0:=rfl
@[simp] theorem JX (x:Nat) (xs:List Nat):val (x::xs)=x+W*val xs:=rfl
theorem val_append (l r:List Nat):val (l++r)=val l+W^l.length*val r:=by
 induction l with
 | nil=>simp
 | cons x xs ih =>
   simp only [List.cons_append,JX,ih,List.length_cons,Nat.pow_succ,Nat.mul_add]
   have : W*(W^xs.length*val r)=W^xs.length*W*val r:=by rw [← Nat.mul_assoc,Nat.mul_comm W]
   omega
theorem Small.cons {x:Nat} {xs:List Nat} (h:Small (x::xs)):x<W∧Small xs:=⟨h x (by simp),fun y hy=>h y (by simp [hy])⟩
theorem V6 {l:List Nat} (h:Small l):val l<W^l.length:=by
 induction l with
 | nil=>simp
 | cons x xs ih =>
   have h1:=h.cons
   have h2:=ih h1.2
   simp only [JX,List.length_cons,Nat.pow_succ]
   have : W*(val xs+1)≤W*W^xs.length:=Nat.mul_le_mul_left _ h2
   rw [Nat.mul_comm (W^xs.length)]
   rw [Nat.mul_add] at this
   omega
theorem aeA:∀ (f n:Nat),n<W^f→val (ND f n)=n
 | 0,n,h=>by simp at h; simp [ND,h]
 | f+1,n,h=>by
   unfold ND
   split
   ·simp_all
   ·have : n / W<W^f:=by rw [Nat.div_lt_iff_lt_mul jC]; rw [Nat.pow_succ] at h; exact h
    rw [JX,aeA f _ this]
    exact Nat.mod_add_div n W
theorem ahg:∀ (f n:Nat),n<W^f→Canon (ND f n)
 | 0,n,h=>⟨fun x hx=>by simp [ND] at hx,fun h=>by simp [ND] at h⟩
 | f+1,n,h=>by
   unfold ND
   split
   ·exact ⟨fun x hx=>by simp at hx,fun h=>by simp at h⟩
   ·rename_i h0
    have hd:n / W<W^f:=by rw [Nat.div_lt_iff_lt_mul jC]; rw [Nat.pow_succ] at h; exact h
    have ih:=ahg f _ hd
    have hv:=aeA f _ hd
    refine ⟨fun x hx=>?_,fun hne=>?_⟩
    ·rcases List.mem_cons.1 hx with rfl | hx
     ·exact Nat.mod_lt _ jC
     ·exact ih.1 x hx
    ·revert hne ih hv
     generalize ND f (n / W)=l
     intro ih hv hne
     cases l with
     | nil =>
       simp at hv
       simp only [List.getLast_singleton]
       intro h1
       have := Nat.mod_add_div n W
       rw [h1,← hv] at this
       simp at this
       exact h0 this.symm
     | cons y ys =>
       rw [List.getLast_cons (by simp)]
       exact ih.2 (by simp)
theorem alu (n:Nat):n<W^(n.log2 / 64+1):=by
 have h:n<2^(n.log2+1):=Nat.lt_log2_self
 refine Nat.lt_of_lt_of_le h ?_
 rw [tY,← Nat.pow_mul]
 exact Nat.pow_le_pow_right (by decide) (by omega)
@[simp] theorem dL (n:Nat):val (limbs n)=n:=aeA _ _ (alu n)
theorem bP (n:Nat):Canon (limbs n):=ahg _ _ (alu n)
theorem ad_ {x:Nat} {xs:List Nat} (h:Canon (x::xs)):Canon xs:=by
 refine ⟨h.1.cons.2,fun hne=>?_⟩
 have := h.2 (by simp)
 rwa [List.getLast_cons hne] at this
theorem akX {l:List Nat} (h:Canon l) (hv:val l=0):l=[]:=by
 induction l with
 | nil=>rfl
 | cons x xs ih =>
   have hx:x=0:=by simp only [JX] at hv; omega
   have hxs:val xs=0:=by
    simp only [JX] at hv
    have h2:W*val xs=0:=by omega
    rcases Nat.mul_eq_zero.1 h2 with h | h
    ·exact absurd h (by decide)
    ·exact h
   have := ih (ad_ h) hxs
   subst this
   have h2:=h.2 (by simp)
   simp at h2
   exact absurd hx h2
theorem aqz {l r:List Nat} (hl:Canon l) (hr:Canon r) (h:val l=val r):l=r:=by
 induction l generalizing r with
 | nil=>exact (akX hr h.symm).symm
 | cons x xs ih =>
   cases r with
   | nil=>exact akX hl h
   | cons y ys =>
     simp at h
     have h1:=hl.1.cons.1
     have h2:=hr.1.cons.1
     have e:x=y:=by
      have h3:(x+W*val xs) % W=x:=by rw [Nat.add_mul_mod_self_left]; exact Nat.mod_eq_of_lt h1
      have h4:(y+W*val ys) % W=y:=by rw [Nat.add_mul_mod_self_left]; exact Nat.mod_eq_of_lt h2
      rw [h,h4] at h3
      exact h3.symm
     subst e
     have e2:val xs=val ys:=Nat.eq_of_mul_eq_mul_left jC (by omega)
     rw [ih (ad_ hl) (ad_ hr) e2]
theorem ahj {l:List Nat} (h:Canon l):limbs (val l)=l:=aqz (bP _) h (dL _)
theorem ajz {l:List Nat} (h:Canon l) (hne:l≠[]):W^(l.length-1)≤val l:=by
 have e:=List.dropLast_concat_getLast hne
 have h1:=h.2 hne
 rw [← e,val_append]
 simp only [List.length_append,List.length_dropLast,List.length_cons,List.length_nil,JX,ant]
 have : 1≤l.getLast hne:=by omega
 calc W^(l.length-1+(0+1)-1)=W^(l.length-1)*1:=by simp
  _≤W^(l.length-1)*(l.getLast hne+W*0):=Nat.mul_le_mul_left _ (by omega)
  _≤_:=by omega
theorem YJ {l r:List Nat} (hl:Small l) (hr:Canon r) (h:l.length<r.length):val l<val r:=by
 have h1:=V6 hl
 have h2:=ajz hr (by intro e; simp [e] at h)
 exact Nat.lt_of_lt_of_le h1 (Nat.le_trans (Nat.pow_le_pow_right jC (by omega)) h2)
theorem ahh {n k:Nat} (h:n<W^k):(limbs n).length≤k:=by
 rcases Nat.lt_or_ge k (limbs n).length with h1 | h1
 ·have h2:=ajz (bP n) (by intro e; simp [e] at h1)
  rw [dL] at h2
  have : W^k≤W^((limbs n).length-1):=Nat.pow_le_pow_right jC (by omega)
  omega
 ·exact h1
@[simp] theorem aEn:limbs 0=[]:=by decide
theorem OG {n:Nat} (h:n≠0):limbs n≠[]:=fun e=>h (by rw [← dL n,e]; rfl)
theorem ahi {n:Nat}:n<W^(limbs n).length:=by
 have := V6 (bP n).1
 rwa [dL] at this
@[simp] abbrev aQ (l:List Nat):D := .sl l.length (l.map ak)
def QU (n:Nat):List D:=[aQ (limbs n)]
abbrev dI (n:Nat):D := .ref (QU n) 0
def uw (m:Mem) (x:D) (l:List Nat):Prop :=
 x=aQ l∨∃ (b off:Nat) (pre post:List D),x = .aO b off l.length 1∧m[b]?=some (.live (pre++(l.map ak++post)))∧off=pre.length
abbrev Cl (m:Mem):Prop:=m.all (Us m.length)=true
theorem uw.sl (m:Mem) (l:List Nat):uw m (aQ l) l := .inl rfl
theorem uw.len {m:Mem} {x:D} {l:List Nat} (h:uw m x l):Oi [x] m=some (.int .i64 l.length,m):=by
 rcases h with rfl | ⟨b,off,pre,post,rfl,_⟩ <;> rfl
theorem uw.read {m:Mem} {x:D} {l:List Nat} (h:uw m x l) (k:IntKind) {i:Int} {v:Nat} (h0:0≤i) (hi:l[i.toNat]?=some v):∃ p,LC 1 [x,.int k i] m=some (p,m)∧DY [p] m=some (.int .u64 v,m):=by
 have hlt:i<l.length:=by
  have := (List.getElem?_eq_some_iff.1 hi).1
  omega
 rcases h with rfl | ⟨b,off,pre,post,rfl,hb,rfl⟩
 ·refine ⟨.ref (l.map ak) (i.toNat*1),az_ _ _ _ _ _ ⟨h0,hlt⟩,?_⟩
  simp [bd,hi,ak]
 ·refine ⟨.loc b (pre.length+i.toNat*1),ayo _ _ _ _ _ _ _ ⟨h0,hlt⟩,?_⟩
  have : i.toNat<(l.map ak).length:=by simp; omega
  have h3:¬ pre.length+i.toNat<pre.length:=by omega
  obtain ⟨h4,h5⟩:=List.getElem?_eq_some_iff.1 hi
  simp [bd,hb,List.getElem?_append,hi,ak,h3,h4,h5]
theorem uw.fH {m:Mem} {x:D} {l:List Nat} (h:uw m x l) {base:Nat} (hb:base=m.length) (ds:List D) (got:List Nat) (acc:Mem):fH base m (x::ds) got acc=bd (Ev.fH base m ds got acc) fun r=>some (x::r.1,r.2):=by
 rcases h with rfl | ⟨b,off,pre,post,rfl,hm,rfl⟩
 ·simp
 ·have := (List.getElem?_eq_some_iff.1 hm).1
  rw [aB2,if_pos (by omega)]
theorem Cl.nil:Cl []:=rfl
@[simp] theorem auJ (b n:Nat) (l:List Nat):l.all (D.clo b (n+1) ∘ ak)=true:=by
  simp
theorem lD (o:List Nat) (n:Nat) (h:o.length≤n):(o.map ak).take n=o.map ak:=List.take_of_length_le (by simpa using h)
theorem lW {α:Type} {c:Prop} [Decidable c] (h:c) (a b:Option α):(if c then a else b)=a:=if_pos h
@[simp] theorem adM (o:List Nat) (i s:Nat):(o.map ak).set i (D.int .u64 s)=(o.set i s).map ak:=by rw [List.map_set]
@[simp] theorem aGr (f:D→Mem→Option (D×Mem)) (a b:List D) (m:Mem):jd f (a++b) m=bd (jd f a m) fun r=>bd (jd f b r.2) fun s=>some (r.1++s.1,s.2):=by
  induction a generalizing m with
  | nil=>simp only [List.nil_append,aB1,ah8]; cases h:jd f b m <;> simp
  | cons x xs ih =>
    simp only [List.cons_append,azH,ih]
    cases h:f x m with
    | none=>simp
    | some r =>
      simp only [ah8]
      cases h2:jd f xs r.2 with
      | none=>simp
      | some r2=>simp only [ah8]; cases h3:jd f b r2.2 <;> simp
@[simp] theorem auS (n:Nat) (l:List Nat) (m:Mem):jd (fz (n+1)) (l.map ak) m=some (l.map ak,m):=by
  induction l with
  | nil=>rfl
  | cons x xs ih=>simp [ih]
end Go.Ev.Code
end
section
namespace Go.Ev.Code
open Go Go.Ev
def maxL:Nat:=4294967290
@[simp] theorem aDv (n:Nat):L.call vU [dI n]=some (aQ (limbs n)):=by
  refine aj (Z9 ..) ?_
  simp [RH,QU]
@[simp] theorem aCX:L.call vU [.iy]=some (aQ []):=by
  refine aj (Z9 ..) ?_
  simp [RH,QU]
@[simp] theorem Zh (l:List Nat) (x:Nat):(l++[x]).map ak=l.map ak++[.int .u64 x]:=by simp [ak]
def abx (x:Nat) (t:List Nat):List Nat:=if t=[]∧x=0 then [] else x::t
def gq:List Nat→List Nat
 | []=>[]
 | x::xs=>abx x (gq xs)
theorem R_ (l:List Nat):gq (l++[0])=gq l:=by
 induction l with
 | nil=>rfl
 | cons x xs ih=>simp [gq,ih]
theorem ae_ {x:Nat} (l:List Nat) (h:x≠0):gq (l++[x])=l++[x]:=by
 induction l with
 | nil=>simp [gq,abx,h]
 | cons y ys ih=>simp [gq,abx,ih]
theorem ayE (l:List Nat):val (gq l)=val l:=by
 induction l with
 | nil=>rfl
 | cons x xs ih =>
   simp only [gq,JX,← ih,abx]
   split
   ·rename_i h; rw [h.1,h.2]; rfl
   ·rfl
theorem auu {l:List Nat} (h:Small l):Canon (gq l):=by
 induction l with
 | nil=>exact ⟨h,fun h=>by simp [gq] at h⟩
 | cons x xs ih =>
   have h1:=h.cons
   have h2:=ih h1.2
   simp only [gq]
   revert h2
   generalize gq xs=t
   intro h2
   unfold abx
   split
   ·exact ⟨fun y hy=>by simp at hy,fun h=>by simp at h⟩
   ·rename_i hn
    refine ⟨fun y hy=>?_,fun _=>?_⟩
    ·rcases List.mem_cons.1 hy with rfl | hy
     ·exact h1.1
     ·exact h2.1 y hy
    ·cases t with
     | nil=>simpa using hn
     | cons y ys=>rw [List.getLast_cons (by simp)]; exact h2.2 (by simp)
theorem U9 {l:List Nat} (h:Small l):gq l=limbs (val l):=by
 rw [← ayE l,ahj (auu h)]
theorem aAK {l:List Nat} (h:Canon l):gq l=l:=by
 rw [U9 h.1,ahj h]
theorem ax8 (l:List Nat) (hl:l.length≤maxL):L.loop [0] [0] xC 0 [aQ l] []=some (.exit 0,[aQ (gq l)],[]):=by
 unfold maxL at hl
 revert hl
 refine anh (P:=fun l=>l.length≤4294967290→L.loop [0] [0] xC 0 [aQ l] []=some (.exit 0,[aQ (gq l)],[])) ?_ ?_ l
 ·intro hl
  refine au (N_ ..) ?_
  simp [vX,gq]
 ·intro l x ih hl
  have hl':l.length≤4294967289:=by simp at hl; omega
  refine au (N_ ..) ?_
  have e1:(0:Int)<(l.length:Int)+1:=by omega
  have e2:(l.map ak++[ak x])[l.length]?=some (ak x):=by
   rw [List.getElem?_append_right (by simp)]; simp
  have e3:(l.map ak++[ak x]).take l.length=l.map ak:=List.take_left' (by simp)
  by_cases hx:x=0
  ·have ht:gq (l++[x])=gq l:=by subst hx; exact R_ l
   simp (disch:=omega) [vX,e1,e2,e3,wrap64,ht,ih (by omega),eq_true hx]
  ·simp (disch:=omega) [vX,e1,e2,e3,wrap64,ae_ _ hx,hx]
theorem kH (l:List Nat) (hs:Small l) (hl:l.length≤maxL):L.call mO [aQ l]=some (dI (val l)):=by
 refine aj (akN ..) ?_
 simp [ae7,ax8 l hl,U9 hs,QU]
theorem ru (n:Nat) (h:n<W):L.call Jz [.int .u64 n]=some (dI n):=by
 refine aj (ayW ..) ?_
 have := kH [n] (fun x hx=>by simp at hx; omega) (by simp [maxL])
 simp [ak] at this
 simp [asy,f_,this]
@[simp] theorem UL (n:Nat):L.call uD [dI n]=some (.bool (decide (n=0))):=by
  refine aj (amq ..) ?_
  have : ((limbs n).length:Int)=0↔n=0:=by
   constructor
   ·intro h
    have : limbs n=[]:=List.eq_nil_of_length_eq_zero (by omega)
    rw [← dL n,this]; rfl
   ·rintro rfl; simp
  simp [adH,← this]
def fM (a b:Nat):Int:=if a<b then -1 else if a=b then 0 else 1
theorem jr {l:List Nat} {k:Nat} {u:Nat} (h:l[k]?=some u):val (l.take (k+1))=val (l.take k)+W^k*u:=by
 obtain ⟨hk,rfl⟩:=List.getElem?_eq_some_iff.1 h
 rw [List.take_succ_eq_append_getElem hk,val_append]
 simp [Nat.min_eq_left (Nat.le_of_lt hk)]
theorem Small.take {l:List Nat} (h:Small l) (k:Nat):Small (l.take k):=fun x hx=>h x (List.mem_of_mem_take hx)
theorem Small.get {l:List Nat} (h:Small l) {k u:Nat} (hk:l[k]?=some u):u<W:=h u (List.mem_of_getElem? hk)
theorem nV {l:List Nat} (h:Small l) {k:Nat}:val (l.take k)<W^k:=by
 refine Nat.lt_of_lt_of_le (V6 (h.take k)) (Nat.pow_le_pow_right jC ?_)
 simp; omega
theorem alz {p a b u v:Nat} (ha:a<p) (h:u<v):a+p*u<b+p*v:=by
 have : p*(u+1)≤p*v:=Nat.mul_le_mul_left _ h
 rw [Nat.mul_add] at this
 omega
def MC (a b:Nat) (m:Mem):Ex×List D×Mem:=if a<b then (.ret,[.int .i64 (-1)],m) else if a=b then (.exit 0,[.undef],m) else (.ret,[.int .i64 1],m)
theorem agz {m:Mem} (hc:Cl m) {x y:D} {la lb:List Nat} (hx:uw m x la) (hy:uw m y lb) (sa:Small la) (sb:Small lb) (hlen:la.length=lb.length) (hL:la.length≤maxL) :
  ∀ k:Nat,k≤la.length→L.loop [0,1,5] [4] DR m.length [x,y,.int .i64 ((k:Int)-1)] m=some (MC (val (la.take k)) (val (lb.take k)) m)
 | 0,_=>by
   refine au (Yq ..) ?_
   simp [yX,hc,MC]
 | k+1,hk=>by
   unfold maxL at hL
   obtain ⟨u,hu⟩:∃ u,la[k]?=some u:=⟨la[k],List.getElem?_eq_getElem hk⟩
   obtain ⟨v,hv⟩:∃ v,lb[k]?=some v:=⟨lb[k],List.getElem?_eq_getElem (by omega)⟩
   obtain ⟨p,p1,p2⟩:=hx.read .i64 (i:=(k:Int)) (by omega) (by simpa using hu)
   obtain ⟨q,q1,q2⟩:=hy.read .i64 (i:=(k:Int)) (by omega) (by simpa using hv)
   have ih:=agz hc hx hy sa sb hlen (by unfold maxL; omega) k (by omega)
   have e0:((k+1:Nat):Int)-1=k:=by omega
   have e1:(0:Int)≤k:=by omega
   have e2:IntKind.i64.wrap ((k:Int)-1)=(k:Int)-1:=wrap64 _ (by omega)
   have a1:=jr hu
   have b1:=jr hv
   have a2:=nV sa (k:=k)
   have b2:=nV sb (k:=k)
   rw [e0]
   refine au (Yq ..) ?_
   rcases Nat.lt_trichotomy u v with h | h | h
   ·have : val (la.take (k+1))<val (lb.take (k+1)):=by rw [a1,b1]; exact alz a2 h
    simp [yX,p1,p2,q1,q2,h,e1,hc,MC,this]
   ·subst h
    have h1:MC (val (la.take (k+1))) (val (lb.take (k+1))) m=MC (val (la.take k)) (val (lb.take k)) m:=by
     unfold MC
     rw [a1,b1]
     simp
    simp [yX,p1,p2,q1,q2,e1,e2,hc,hx.fH rfl,hy.fH rfl,ih,h1]
   ·have h1:val (lb.take (k+1))<val (la.take (k+1)):=by rw [a1,b1]; exact alz b2 h
    have h2:¬ u<v:=by omega
    have h3:¬ val (la.take (k+1))<val (lb.take (k+1)):=by omega
    have h4:¬ val (la.take (k+1))=val (lb.take (k+1)):=by omega
    simp [yX,p1,p2,q1,q2,h,h2,e1,hc,MC,h3,h4]
theorem aiY {m:Mem} (hc:Cl m) {x y:D} {la lb:List Nat} (hx:uw m x la) (hy:uw m y lb) (ca:Canon la) (cb:Canon lb) (ha:la.length≤maxL) (hb:lb.length≤maxL) :
  L.bf GX [x,y] m=some (.int .i64 (fM (val la) (val lb)),m):=by
 refine oC (ao8 ..) ?_
 by_cases hl:la.length=lb.length
 ·have hloop:=agz hc hx hy ca.1 cb.1 hl ha la.length (Nat.le_refl _)
  have e2:IntKind.i64.wrap ((lb.length:Int)-1)=(lb.length:Int)-1:=wrap64 _ (by unfold maxL at hb; omega)
  rw [List.take_of_length_le (Nat.le_refl _),List.take_of_length_le (by omega)] at hloop
  rw [hl] at hloop
  simp only [Xp,fl,hx.len,hy.len,ah8,aFR,hl,decide_true,Bool.not_true,aty,aFW,e2,hloop,aB6]
  unfold MC fM
  by_cases h1:val la<val lb
  ·simp [h1,hc]
  ·by_cases h2:val la=val lb
   ·simp [h2,hc]
   ·simp [h1,h2,hc]
 ·have hl':¬ (la.length:Int)=lb.length:=by omega
  unfold maxL at ha hb
  have e1:IntKind.i64.wrap ((la.length:Int)-lb.length)=(la.length:Int)-lb.length:=wrap64 _ (by omega)
  have e2:min (max ((la.length:Int)-lb.length) (-1)) 1=fM (val la) (val lb):=by
   unfold fM
   rcases Nat.lt_or_ge la.length lb.length with h | h
   ·rw [if_pos (YJ ca.1 cb h)]; omega
   ·have := YJ cb.1 ca (by omega)
    rw [if_neg (by omega),if_neg (by omega)]; omega
  simp [Xp,hx.len,hy.len,hl',e1,e2,hc]
theorem TS {la lb:List Nat} (ca:Canon la) (cb:Canon lb) (ha:la.length≤maxL) (hb:lb.length≤maxL):L.call GX [aQ la,aQ lb]=some (.int .i64 (fM (val la) (val lb))) :=
 zW (aiY Cl.nil (uw.sl _ _) (uw.sl _ _) ca cb ha hb) (by simp)
def Fit (n:Nat):Prop:=(limbs n).length≤1000000000
theorem Fit.le {n:Nat} (h:Fit n):(limbs n).length≤maxL:=by unfold Fit at h; unfold maxL; omega
theorem XU {a b:Nat} (ha:Fit a) (hb:Fit b):L.call BL [dI a,dI b]=some (.int .i64 (fM a b)):=by
 refine aj (ao2 ..) ?_
 have := TS (bP a) (bP b) ha.le hb.le
 simp at this
 simp [afz,this]
end Go.Ev.Code
end
section
namespace Go.Ev.Code
open Go Go.Ev
theorem aC8:TT.fn bits_LeadingZeros64=none:=by kernel_rfl
theorem aC':TT.ku bits_LeadingZeros64=TV:=by kernel_rfl
theorem LU {n:Nat} (h:n<W):u64 (n:Int):=by unfold u64; unfold W at h; omega
theorem dJ (x:Int) (h:0≤x∧x<18446744073709551616):IntKind.u64.wrap x=x:=by
 simp [IntKind.wrap,IntKind.signed,IntKind.bits] <;> omega
theorem orU {m:Mem} {a b:Nat} (ha:a<W) (hb:b<W):eX .or [.int .u64 a,.int .u64 b] m=some (.int .u64 ((a ||| b:Nat):Int),m):=by
 rw [rOr]
 have hor:a ||| b<2^64:=Nat.or_lt_two_pow ha hb
 have e:(BitVec.ofInt IntKind.u64.bits (a:Int) ||| BitVec.ofInt IntKind.u64.bits (b:Int)).toNat=a ||| b:=by
  rw [BitVec.toNat_or]
  have h1:∀ c:Nat,c<W→(BitVec.ofInt IntKind.u64.bits (c:Int)).toNat=c:=fun c hc=>by
   rw [BitVec.ofInt_natCast,BitVec.toNat_ofNat]
   exact Nat.mod_eq_of_lt hc
  rw [h1 a ha,h1 b hb]
 rw [e,dJ _ ⟨by omega,by have : (2:Nat)^64=18446744073709551616:=by decide
                         omega⟩]
theorem aFi {m:Mem} {a b:Nat} (ha:a<W) (hb:b<W):eX .and [.int .u64 a,.int .u64 b] m=some (.int .u64 ((a &&& b:Nat):Int),m):=by
 rw [aDI]
 have hor:a &&& b≤a:=Nat.and_le_left
 have e:(BitVec.ofInt IntKind.u64.bits (a:Int) &&& BitVec.ofInt IntKind.u64.bits (b:Int)).toNat=a &&& b:=by
  rw [BitVec.toNat_and]
  have h1:∀ c:Nat,c<W→(BitVec.ofInt IntKind.u64.bits (c:Int)).toNat=c:=fun c hc=>by
   rw [BitVec.ofInt_natCast,BitVec.toNat_ofNat]
   exact Nat.mod_eq_of_lt hc
  rw [h1 a ha,h1 b hb]
 unfold W at ha
 rw [e,dJ _ (by omega)]
theorem acE {m:Mem} {k:IntKind} {a s:Nat} (hs:s≤64):tV true [.int .u64 a,.int k s] m=some (.int .u64 ((a*2^s % W:Nat):Int),m):=by
 rw [aFT _ _ _ _ (by omega)]
 have : min (s:Int).toNat IntKind.u64.bits=s:=by simp [IntKind.bits]; omega
 rw [this]
 congr 3
theorem ae8 {m:Mem} {k:IntKind} {a s:Nat} (hs:s≤64):tV false [.int .u64 a,.int k s] m=some (.int .u64 ((a / 2^s:Nat):Int),m):=by
 rw [aDK _ _ _ _ (by omega)]
 have : min (s:Int).toNat IntKind.u64.bits=s:=by simp [IntKind.bits]; omega
 rw [this,Int.fdiv_eq_ediv_of_nonneg _ (by have : (0:Int)<2^s:=Int.pow_pos (by decide); omega)]
 rfl
theorem ar0 {i a b:Nat} (h:b<2^i):2^i*a ||| b=2^i*a+b:=(Nat.two_pow_add_eq_or_of_lt h a).symm
theorem avf {x s:Nat} (hs:s≤64):x*2^s % W=2^s*(x % 2^(64-s)):=by
 have : W=2^s*2^(64-s):=by rw [← Nat.pow_add,tY]; congr 1; omega
 rw [this,Nat.mul_comm x,Nat.mul_mod_mul_left]
theorem au0 {x:Nat} (hx:x<W) (h0:x≠0):∃ s:Nat,s<64∧L.call bits_LeadingZeros64 [ak x]=some (.int .i64 s)∧2^63≤x*2^s∧x*2^s<W:=by
 have h1:x.log2<64:=by
  have h2:2^x.log2≤x:=Nat.log2_self_le h0
  rw [tY] at hx
  rcases Nat.lt_or_ge x.log2 64 with h | h
  ·exact h
  ·have := Nat.pow_le_pow_right (n:=2) (by decide) h; omega
 have hp:TT.ku bits_LeadingZeros64 [ak x] []=some (.int .i64 ((64-(x.log2+1):Nat):Int),[]):=by
  rw [aC']; simp [TV,LU hx,width,h0]
 refine ⟨64-(x.log2+1),by omega,Ls aC8 hp (by simp),?_,?_⟩
 ·have h2:2^x.log2≤x:=Nat.log2_self_le h0
  have h3:2^63=2^x.log2*2^(64-(x.log2+1)):=by rw [← Nat.pow_add,show x.log2+(64-(x.log2+1))=63 by omega]
  rw [h3]; exact Nat.mul_le_mul_right _ h2
 ·have h2:x<2^(x.log2+1):=Nat.lt_log2_self
  have h3:W=2^(x.log2+1)*2^(64-(x.log2+1)):=by rw [← Nat.pow_add,tY,show x.log2+1+(64-(x.log2+1))=64 by omega]
  rw [h3]
  exact Nat.mul_lt_mul_of_pos_right h2 (Nat.two_pow_pos _)
end Go.Ev.Code
end
section
namespace Go.Ev.Code
open Go Go.Ev
theorem amI (n1 n0 u d q r:Nat) (h:q*n1+r=u):(4294967296*r+d<q*n0)↔(u*4294967296+d<q*(n1*4294967296+n0)):=by
 have e:q*(n1*4294967296+n0)=(q*n1)*4294967296+q*n0:=by rw [Nat.mul_add,Nat.mul_assoc]
 rw [e]
 generalize q*n1=a at *
 generalize q*n0=b at *
 omega
theorem am8 {N y q:Nat} (hy:0<y):N<q*y↔N / y<q:=by
 rw [Nat.div_lt_iff_lt_mul hy]
theorem aqO {n1 n0 u d q r:Nat} (h:q*n1+r=u) (h1:0<n1) (h0:n0<4294967296) (hu:u<n1*4294967296+n0) (hr:4294967296≤r):q≤(u*4294967296+d) / (n1*4294967296+n0):=by
 have hy:0<n1*4294967296+n0:=by omega
 rcases Nat.lt_or_ge ((u*4294967296+d) / (n1*4294967296+n0)) q with hq | hq
 ·exfalso
  have h2:=(amI n1 n0 u d q r h).2 ((am8 hy).2 hq)
  rcases Nat.lt_or_ge q 4294967296 with hqB | hqB
  ·have h3:q*n0≤4294967296*4294967296:=Nat.mul_le_mul (by omega) (by omega)
   have h4:4294967296*4294967296≤4294967296*r:=Nat.mul_le_mul_left _ hr
   omega
  ·have h3:4294967296*n1≤q*n1:=Nat.mul_le_mul_right _ hqB
   omega
 ·exact hq
theorem aBT {u y d B:Nat} (hu:u<y) (hd:d<B):u*B+d<B*y:=by
 have h2:(u+1)*B≤y*B:=Nat.mul_le_mul_right _ hu
 rw [Nat.mul_comm B y]
 rw [Nat.add_mul] at h2
 omega
theorem aaO {n1 n0 u d:Nat} (h1:0<n1) (hd:d<4294967296) (hu:u<n1*4294967296+n0):(u*4294967296+d) / (n1*4294967296+n0)<4294967296:=by
 have hy:0<n1*4294967296+n0:=by omega
 exact (Nat.div_lt_iff_lt_mul hy).2 (aBT hu hd)
theorem anU {n1 n0 u d:Nat} (h1:0<n1) (hd:d<4294967296):(u*4294967296+d) / (n1*4294967296+n0)≤u / n1:=by
 have hy:0<n1*4294967296+n0:=by omega
 rcases Nat.lt_or_ge (u / n1) ((u*4294967296+d) / (n1*4294967296+n0)) with h | h
 ·exfalso
  have h2:(u / n1+1)*(n1*4294967296+n0)≤u*4294967296+d:=by
   have := (Nat.le_div_iff_mul_le hy).1 h
   exact this
  have h3:u<(u / n1+1)*n1:=by
   have := Nat.div_add_mod u n1
   have := Nat.mod_lt u h1
   rw [Nat.add_mul,Nat.mul_comm]; omega
  have e:(u / n1+1)*(n1*4294967296+n0)=((u / n1+1)*n1)*4294967296+(u / n1+1)*n0:=by rw [Nat.mul_add,Nat.mul_assoc]
  rw [e] at h2
  generalize (u / n1+1)*n1=a at *
  generalize (u / n1+1)*n0=b at *
  omega
 ·exact h
theorem anW {y s n1 n0 u d e:Nat} (hn1:0<n1) (hn1B:n1<4294967296) (hn0:n0<4294967296) (hd:d<4294967296) (hu:u<n1*4294967296+n0) (huW:u<W) (base:Nat) :
  ∀ (k q r:Nat),q=(u*4294967296+d) / (n1*4294967296+n0)+k→q*n1+r=u→r<4294967296 →
  L.loop [2,8,9,10,11,13,14,15,16] [2,8,9,10,11,13,14,15] zI 0 [ak y,ak s,ak n1,ak n0,ak u,ak d,ak e,ak q,ak r] [] =
    some (.exit 0,[ak y,ak s,ak n1,ak n0,ak u,ak d,ak e,ak ((u*4294967296+d) / (n1*4294967296+n0))],[])
 | k,q,r,hq,hqr,hr=>by
   have hy:0<n1*4294967296+n0:=by omega
   have hsm:=aaO (n0:=n0) hn1 hd hu
   have hqW:q<W:=by
    have : q≤u:=by
     have : q*1≤q*n1:=Nat.mul_le_mul_left _ hn1
     omega
    omega
   have hit:=amI n1 n0 u d q r hqr
   rw [am8 hy] at hit
   have hla:∀ q' r',q'*n1+r'=u→4294967296≤r'→q'≤(u*4294967296+d) / (n1*4294967296+n0):=fun q' r' h h'=>aqO h hn1 hn0 hu h'
   generalize hQ:(u*4294967296+d) / (n1*4294967296+n0)=Q at *
   have hstep:0<k→(q-1)*n1+(r+n1)=u:=fun hk=>by
    have : q=(q-1)+1:=by omega
    rw [this,Nat.add_mul] at hqr
    omega
   unfold W at hqW huW
   refine au (akJ ..) ?_
   have e1:0<k→IntKind.u64.wrap ((q:Int)-1)=((q-1:Nat):Int):=fun hk=>by rw [dJ _ (by omega)]; omega
   have e2:IntKind.u64.wrap ((r:Int)+n1)=(r:Int)+n1:=dJ _ (by omega)
   have fin1:0<k→(4294967296:Int)≤(r:Int)+n1→q-1=Q:=fun hk hb=>by
    have := hla (q-1) (r+n1) (hstep hk) (by omega)
    omega
   have fin2:0<k→¬ (4294967296:Int)≤(r:Int)+n1→L.loop [2,8,9,10,11,13,14,15,16] [2,8,9,10,11,13,14,15] zI 0 [.int .u64 y,.int .u64 s,.int .u64 n1,.int .u64 n0,.int .u64 u,.int .u64 d,.int .u64 e,.int .u64 ((q-1:Nat):Int),.int .u64 ((r:Int)+n1)] [] =
     some (.exit 0,[.int .u64 y,.int .u64 s,.int .u64 n1,.int .u64 n0,.int .u64 u,.int .u64 d,.int .u64 e,.int .u64 Q],[]):=fun hk hb=>by
    have ih:=anW (y:=y) (s:=s) (e:=e) hn1 hn1B hn0 hd hu (by unfold W; exact huW) base (k-1) (q-1) (r+n1) (by rw [hQ]; omega) (hstep hk) (by omega)
    rw [hQ] at ih
    simpa [ak] using ih
   by_cases hqB:4294967296≤q
   ·have hk:0<k:=by omega
    have c1:(4294967296:Int)≤q:=by omega
    by_cases hb:(4294967296:Int)≤(r:Int)+n1
    ·simp [vH,c1,e1 hk,e2,hb,fin1 hk hb]
    ·simp [vH,c1,e1 hk,e2,hb,fin2 hk hb]
   ·have c1:¬ (4294967296:Int)≤q:=by omega
    have hqn:q*n0≤4294967295*4294967295:=Nat.mul_le_mul (by omega) (by omega)
    have m1:IntKind.u64.wrap ((q:Int)*n0)=((q*n0:Nat):Int):=by
     rw [← Int.natCast_mul,dJ _ (by omega)]
    have m2:IntKind.u64.wrap (4294967296*(r:Int))=((4294967296*r:Nat):Int):=by rw [dJ _ (by omega)]; omega
    have m3:IntKind.u64.wrap (((4294967296*r:Nat):Int)+d)=((4294967296*r+d:Nat):Int):=by rw [dJ _ (by omega)]; omega
    generalize q*n0=qn at *
    generalize 4294967296*r+d=rd at *
    generalize 4294967296*r=rb at *
    by_cases hk:0<k
    ·have c2:(rd:Int)<qn:=by have := hit.2 (by omega); omega
     by_cases hb:(4294967296:Int)≤(r:Int)+n1
     ·simp [vH,c1,m1,m2,m3,c2,e1 hk,e2,hb,fin1 hk hb]
     ·simp [vH,c1,m1,m2,m3,c2,e1 hk,e2,hb,fin2 hk hb]
    ·have c2:¬ (rd:Int)<qn:=fun h=>by have := hit.1 (by omega); omega
     have hqQ:q=Q:=by omega
     rw [← hqQ]
     simp [vH,c1,m1,m2,m3,c2]
 termination_by k=>k
theorem anX {y s n1 n0 u d e:Nat} (hn1:0<n1) (hn1B:n1<4294967296) (hn0:n0<4294967296) (hd:d<4294967296) (hu:u<n1*4294967296+n0) (huW:u<W) (base:Nat) :
  ∀ (k q r:Nat),q=(u*4294967296+d) / (n1*4294967296+n0)+k→q*n1+r=u→r<4294967296 →
  L.loop [2,8,9,10,14,15,16,17,18] [2,8,14,15,17,18] zJ 0 [ak y,ak s,ak n1,ak n0,ak d,ak e,ak r,ak u,ak q] [] =
    some (.exit 2,[ak y,ak s,ak d,ak e,ak u,ak ((u*4294967296+d) / (n1*4294967296+n0))],[])
 | k,q,r,hq,hqr,hr=>by
   have hy:0<n1*4294967296+n0:=by omega
   have hsm:=aaO (n0:=n0) hn1 hd hu
   have hqW:q<W:=by
    have : q≤u:=by
     have : q*1≤q*n1:=Nat.mul_le_mul_left _ hn1
     omega
    omega
   have hit:=amI n1 n0 u d q r hqr
   rw [am8 hy] at hit
   have hla:∀ q' r',q'*n1+r'=u→4294967296≤r'→q'≤(u*4294967296+d) / (n1*4294967296+n0):=fun q' r' h h'=>aqO h hn1 hn0 hu h'
   generalize hQ:(u*4294967296+d) / (n1*4294967296+n0)=Q at *
   have hstep:0<k→(q-1)*n1+(r+n1)=u:=fun hk=>by
    have : q=(q-1)+1:=by omega
    rw [this,Nat.add_mul] at hqr
    omega
   unfold W at hqW huW
   refine au (akK ..) ?_
   have e1:0<k→IntKind.u64.wrap ((q:Int)-1)=((q-1:Nat):Int):=fun hk=>by rw [dJ _ (by omega)]; omega
   have e2:IntKind.u64.wrap ((r:Int)+n1)=(r:Int)+n1:=dJ _ (by omega)
   have fin1:0<k→(4294967296:Int)≤(r:Int)+n1→q-1=Q:=fun hk hb=>by
    have := hla (q-1) (r+n1) (hstep hk) (by omega)
    omega
   have fin2:0<k→¬ (4294967296:Int)≤(r:Int)+n1→L.loop [2,8,9,10,14,15,16,17,18] [2,8,14,15,17,18] zJ 0 [.int .u64 y,.int .u64 s,.int .u64 n1,.int .u64 n0,.int .u64 d,.int .u64 e,.int .u64 ((r:Int)+n1),.int .u64 u,.int .u64 ((q-1:Nat):Int)] [] =
     some (.exit 2,[.int .u64 y,.int .u64 s,.int .u64 d,.int .u64 e,.int .u64 u,.int .u64 Q],[]):=fun hk hb=>by
    have ih:=anX (y:=y) (s:=s) (e:=e) hn1 hn1B hn0 hd hu (by unfold W; exact huW) base (k-1) (q-1) (r+n1) (by rw [hQ]; omega) (hstep hk) (by omega)
    rw [hQ] at ih
    simpa [ak] using ih
   by_cases hqB:4294967296≤q
   ·have hk:0<k:=by omega
    have c1:(4294967296:Int)≤q:=by omega
    by_cases hb:(4294967296:Int)≤(r:Int)+n1
    ·simp [vI,c1,e1 hk,e2,hb,fin1 hk hb]
    ·simp [vI,c1,e1 hk,e2,hb,fin2 hk hb]
   ·have c1:¬ (4294967296:Int)≤q:=by omega
    have hqn:q*n0≤4294967295*4294967295:=Nat.mul_le_mul (by omega) (by omega)
    have m1:IntKind.u64.wrap ((q:Int)*n0)=((q*n0:Nat):Int):=by
     rw [← Int.natCast_mul,dJ _ (by omega)]
    have m2:IntKind.u64.wrap (4294967296*(r:Int))=((4294967296*r:Nat):Int):=by rw [dJ _ (by omega)]; omega
    have m3:IntKind.u64.wrap (((4294967296*r:Nat):Int)+d)=((4294967296*r+d:Nat):Int):=by rw [dJ _ (by omega)]; omega
    generalize q*n0=qn at *
    generalize 4294967296*r+d=rd at *
    generalize 4294967296*r=rb at *
    by_cases hk:0<k
    ·have c2:(rd:Int)<qn:=by have := hit.2 (by omega); omega
     by_cases hb:(4294967296:Int)≤(r:Int)+n1
     ·simp [vI,c1,m1,m2,m3,c2,e1 hk,e2,hb,fin1 hk hb]
     ·simp [vI,c1,m1,m2,m3,c2,e1 hk,e2,hb,fin2 hk hb]
    ·have c2:¬ (rd:Int)<qn:=fun h=>by have := hit.1 (by omega); omega
     have hqQ:q=Q:=by omega
     rw [← hqQ]
     simp [vI,c1,m1,m2,m3,c2]
 termination_by k=>k
theorem ay8 (x:Nat):x &&& 4294967295=x % 4294967296:=by
 have := Nat.and_two_pow_sub_one_eq_mod x 32
 simpa using this
theorem aoS {a b c r:Nat} (h:(a:Int)+b-c=r) (hr:r<W):IntKind.u64.wrap (IntKind.u64.wrap (IntKind.u64.wrap (a:Int)+b)-IntKind.u64.wrap (c:Int))=r:=by
 unfold W at hr
 have hw:∀ x:Int,IntKind.u64.wrap x=x % 18446744073709551616:=fun x=>by simp [IntKind.wrap,IntKind.signed,IntKind.bits]
 simp only [hw]
 omega
theorem axD {B N1 d0 y q1 r1 q0 r0:Nat} (h1:N1=q1*y+r1) (h0:r1*B+d0=q0*y+r0) (hr0:r0<y) (hy:0<y) :
  (N1*B+d0) / y=q1*B+q0∧(N1*B+d0) % y=r0:=by
 have e:N1*B+d0=r0+y*(q1*B+q0):=by
  have h2:y*(q1*B+q0)=(q1*y)*B+q0*y:=by rw [Nat.mul_add,Nat.mul_comm y q0,Nat.mul_comm q1 y,Nat.mul_assoc]
  rw [h2,h1,Nat.add_mul]
  omega
 rw [e]
 exact ⟨by rw [Nat.add_mul_div_left _ _ hy,Nat.div_eq_of_lt hr0]; omega,by rw [Nat.add_mul_mod_self_left,Nat.mod_eq_of_lt hr0]⟩
theorem ayP {h l y:Nat} (hl:l<W) (hy:y<W) (hh:h<y):L.call Qe [ak h,ak l,ak y]=some (.aG [ak ((h*W+l) / y),ak ((h*W+l) % y)]):=by
 refine aj (aqb ..) ?_
 have hy0:(y:Int)≠0:=by omega
 have hyn:y≠0:=by omega
 have hle:¬ (y:Int)≤h:=by omega
 by_cases h0:h=0
 ·subst h0
  have e1:((l:Int).tdiv y)=((l / y:Nat):Int):=rfl
  have e2:((l:Int).tmod y)=((l % y:Nat):Int):=rfl
  have e3:IntKind.u64.wrap ((l / y:Nat):Int)=((l / y:Nat):Int):=dJ _ (by have := Nat.div_le_self l y; unfold W at hl; generalize l / y=z at *; omega)
  have hle':¬ (y:Int)≤0:=by omega
  generalize hq:l / y=q at *
  generalize hr:l % y=r at *
  simp [ZF,hy0,hyn,hle',aDJ,aFS,e1,e2,e3,hq,hr]
 ·obtain ⟨s,hs,hlead,hlo,hhi⟩:=au0 hy (by omega)
  have hh0:(h:Int)≠0:=by omega
  have hK:0<2^s:=Nat.two_pow_pos _
  have hM:0<2^(64-s):=Nat.two_pow_pos _
  have hKM:W=2^s*2^(64-s):=by rw [← Nat.pow_add,tY]; congr 1; omega
  have hhK:h*2^s<y*2^s:=Nat.mul_lt_mul_of_pos_right hh hK
  have hhK1:h*2^s+2^s≤y*2^s:=by
   have : (h+1)*2^s≤y*2^s:=Nat.mul_le_mul_right _ hh
   rw [Nat.add_mul,Nat.one_mul] at this; exact this
  have hlM:l / 2^(64-s)<2^s:=by rw [Nat.div_lt_iff_lt_mul hM,← hKM]; exact hl
  have hX:l*2^s=(l / 2^(64-s))*W+l*2^s % W:=by
   have h1:=Nat.div_add_mod (l*2^s) W
   have h2:l*2^s / W=l / 2^(64-s):=by
    rw [hKM,Nat.mul_comm (2^s),Nat.mul_div_mul_right _ _ hK]
   rw [h2,Nat.mul_comm W] at h1
   exact h1.symm
  have hXW:l*2^s % W<W:=Nat.mod_lt _ jC
  have f13:∀ m:Mem,tV true [.int .u64 y,.int .u64 s] m=some (.int .u64 ((y*2^s:Nat):Int),m):=fun m=>by rw [acE (by omega),Nat.mod_eq_of_lt hhi]
  have f16:∀ m:Mem,tV true [.int .u64 h,.int .u64 s] m=some (.int .u64 ((h*2^s:Nat):Int),m):=fun m=>by rw [acE (by omega),Nat.mod_eq_of_lt (by omega)]
  have f17:IntKind.u64.wrap (64-(s:Int))=((64-s:Nat):Int):=by rw [dJ _ (by omega)]; omega
  have f18:∀ m:Mem,tV false [.int .u64 l,.int .u64 ((64-s:Nat):Int)] m=some (.int .u64 ((l / 2^(64-s):Nat):Int),m):=fun m=>ae8 (by omega)
  have f19:∀ m:Mem,eX .or [.int .u64 ((h*2^s:Nat):Int),.int .u64 ((l / 2^(64-s):Nat):Int)] m=some (.int .u64 ((h*2^s+l / 2^(64-s):Nat):Int),m):=fun m=>by
   rw [orU (by omega) (by omega),Nat.mul_comm h,ar0 hlM]
  have f20:∀ m:Mem,tV true [.int .u64 l,.int .u64 s] m=some (.int .u64 ((l*2^s % W:Nat):Int),m):=fun m=>acE (by omega)
  have f43:∀ (R:Nat) (m:Mem),tV false [.int .u64 R,.int .u64 s] m=some (.int .u64 ((R / 2^s:Nat):Int),m):=fun R m=>ae8 (by omega)
  have sh32:∀ (a:Nat) (m:Mem),tV false [.int .u64 a,.int .u64 32] m=some (.int .u64 ((a / 4294967296:Nat):Int),m):=fun a m=>by
   have := ae8 (m:=m) (k := .u64) (a:=a) (s:=32) (by decide)
   simpa using this
  have mask:∀ (a:Nat) (m:Mem),a<W→eX .and [.int .u64 a,.int .u64 4294967295] m=some (.int .u64 ((a % 4294967296:Nat):Int),m):=fun a m ha=>by
   have := aFi (m:=m) (a:=a) (b:=4294967295) ha (by decide)
   rw [ay8] at this
   simpa using this
  have f14:=sh32 (y*2^s)
  have f15:=fun m=>mask (y*2^s) m hhi
  have f21:=sh32 (l*2^s % W)
  have f22:=fun m=>mask (l*2^s % W) m hXW
  have hfin1:(h*W+l)*2^s=(h*2^s+l / 2^(64-s))*W+l*2^s % W:=by
   have e1:(h*W+l)*2^s=h*2^s*W+l*2^s:=by rw [Nat.add_mul,Nat.mul_right_comm]
   rw [e1,Nat.add_mul]
   generalize l*2^s % W=X at *
   generalize h*2^s*W=a at *
   generalize l / 2^(64-s)*W=b at *
   omega
  have hfq:((h*W+l)*2^s) / (y*2^s)=(h*W+l) / y:=Nat.mul_div_mul_right _ _ hK
  have hfr:((h*W+l)*2^s) % (y*2^s) / 2^s=(h*W+l) % y:=by rw [Nat.mul_mod_mul_right,Nat.mul_div_cancel _ hK]
  have hqW:(h*W+l) / y<W:=by
   rw [Nat.div_lt_iff_lt_mul (by omega)]
   have : (h+1)*W≤y*W:=Nat.mul_le_mul_right _ hh
   rw [Nat.add_mul,Nat.mul_comm y W] at this
   omega
  rw [hfin1] at hfq hfr
  clear hfin1 hX hKM sh32 mask hM hhK
  generalize h*2^s=hk at *
  generalize hY:y*2^s=Y at *
  generalize l*2^s % W=X at *
  generalize l / 2^(64-s)=lm at *
  generalize 64-s=t at *
  have hUY:hk+lm<Y:=by omega
  clear hlM
  generalize hU:hk+lm=U at *
  have h63:(2:Nat)^63=9223372036854775808:=by decide
  have hYd:=Nat.div_add_mod Y 4294967296
  have hXd:=Nat.div_add_mod X 4294967296
  have b1:X / 4294967296<4294967296:=by unfold W at hXW; omega
  have b2:X % 4294967296<4294967296:=Nat.mod_lt _ (by decide)
  have b3:Y / 4294967296<4294967296:=by unfold W at hhi; omega
  have b4:Y % 4294967296<4294967296:=Nat.mod_lt _ (by decide)
  have b5:0<Y / 4294967296:=by omega
  have hYe:(Y / 4294967296)*4294967296+Y % 4294967296=Y:=by omega
  have hXe:X=X / 4294967296*4294967296+X % 4294967296:=by omega
  generalize Y / 4294967296=n1 at *
  generalize Y % 4294967296=n0 at *
  generalize X / 4294967296=d1 at *
  generalize X % 4294967296=d0 at *
  have hY0:0<Y:=by omega
  have UW:U<W:=by omega
  have guess:∀ u:Nat,u<W→IntKind.u64.wrap ((u:Int) / n1)=((u / n1:Nat):Int)∧IntKind.u64.wrap (((u / n1:Nat):Int)*n1)=((u / n1*n1:Nat):Int)∧IntKind.u64.wrap ((u:Int)-((u / n1*n1:Nat):Int))=((u % n1:Nat):Int)∧u / n1*n1+u % n1=u∧u % n1<4294967296:=fun u hu=>by
   have e1:(u:Int) / n1=((u / n1:Nat):Int):=rfl
   have h1:=Nat.div_add_mod u n1
   have h2:=Nat.mod_lt u b5
   have h3:=Nat.div_le_self u n1
   rw [Nat.mul_comm] at h1
   unfold W at hu
   rw [e1,← Int.natCast_mul]
   generalize u / n1*n1=p at *
   generalize u / n1=q at *
   generalize u % n1=r at *
   exact ⟨dJ _ (by omega),dJ _ (by omega),by rw [dJ _ (by omega)]; omega,h1,by omega⟩
  obtain ⟨k1,k2,k3,k4,k5⟩:=guess U UW
  have hs1:=aaO (n0:=n0) b5 b1 (by rw [hYe]; exact hUY)
  have hl1:=anW (y:=Y) (s:=s) (e:=d0) b5 b3 b4 b1 (by rw [hYe]; exact hUY) UW 0 (U / n1-(U*4294967296+d1) / (n1*4294967296+n0)) (U / n1) (U % n1) (by have := anU (n0:=n0) (u:=U) b5 b1; omega) k4 k5
  rw [hYe] at hl1 hs1
  have hdm1:=Nat.div_add_mod (U*4294967296+d1) Y
  have hml1:=Nat.mod_lt (U*4294967296+d1) hY0
  generalize (U*4294967296+d1) / Y=Q1 at *
  generalize (U*4294967296+d1) % Y=R1 at *
  have R1W:R1<W:=by omega
  obtain ⟨j1,j2,j3,j4,j5⟩:=guess R1 R1W
  have hs0:=aaO (n0:=n0) b5 b2 (by rw [hYe]; exact hml1)
  have hl2:=anX (y:=Y) (s:=s) (e:=Q1) b5 b3 b4 b2 (by rw [hYe]; exact hml1) R1W 0 (R1 / n1-(R1*4294967296+d0) / (n1*4294967296+n0)) (R1 / n1) (R1 % n1) (by have := anU (n0:=n0) (u:=R1) b5 b2; omega) j4 j5
  rw [hYe] at hl2 hs0
  have hdm0:=Nat.div_add_mod (R1*4294967296+d0) Y
  have hml0:=Nat.mod_lt (R1*4294967296+d0) hY0
  generalize (R1*4294967296+d0) / Y=Q0 at *
  generalize (R1*4294967296+d0) % Y=R0 at *
  have R0W:R0<W:=by omega
  have w1:IntKind.u64.wrap (IntKind.u64.wrap (IntKind.u64.wrap ((U:Int)*4294967296)+d1)-IntKind.u64.wrap ((Q1:Int)*Y))=R1:=by
   have := aoS (a:=U*4294967296) (b:=d1) (c:=Q1*Y) (r:=R1) (by rw [Nat.mul_comm Q1 Y]; omega) R1W
   simpa using this
  have w0:IntKind.u64.wrap (IntKind.u64.wrap (IntKind.u64.wrap ((R1:Int)*4294967296)+d0)-IntKind.u64.wrap ((Q0:Int)*Y))=R0:=by
   have := aoS (a:=R1*4294967296) (b:=d0) (c:=Q0*Y) (r:=R0) (by rw [Nat.mul_comm Q0 Y]; omega) R0W
   simpa using this
  have wq1:IntKind.u64.wrap ((Q1:Int)*4294967296)=((Q1*4294967296:Nat):Int):=by rw [dJ _ (by omega)]; omega
  have wq0:IntKind.u64.wrap (((Q1*4294967296:Nat):Int)+Q0)=((Q1*4294967296+Q0:Nat):Int):=by rw [dJ _ (by omega)]; omega
  obtain ⟨hd,hm⟩:=axD (B:=4294967296) (N1:=U*4294967296+d1) (d0:=d0) (y:=Y) (q1:=Q1) (r1:=R1) (q0:=Q0) (r0:=R0) (by rw [Nat.mul_comm Q1 Y]; exact hdm1.symm) (by rw [Nat.mul_comm Q0 Y]; exact hdm0.symm) hml0 hY0
  have hWB:W=4294967296*4294967296:=by decide +kernel
  have hN:(U*4294967296+d1)*4294967296+d0=U*W+X:=by rw [hWB,hXe,Nat.add_mul,Nat.mul_assoc,Nat.add_assoc]
  rw [hN] at hd hm
  rw [hd] at hfq
  rw [hm] at hfr
  have hn1:(n1:Int)≠0:=by omega
  have hn1':n1≠0:=by omega
  have hconv:IntKind.u64.wrap (s:Int)=s:=dJ _ (by omega)
  rw [← hfq,← hfr]
  clear hfq hfr hd hm hN hdm0 hdm1 guess
  generalize U / n1*n1=p1 at *
  generalize U / n1=g1 at *
  generalize U % n1=m1 at *
  generalize R1 / n1*n1=p0 at *
  generalize R1 / n1=g0 at *
  generalize R1 % n1=m0 at *
  obtain ⟨Qb,hQb⟩:∃ x,x=Q1*4294967296:=⟨_,rfl⟩
  rw [← hQb] at wq1 wq0 ⊢
  obtain ⟨Qt,hQt⟩:∃ x,x=Qb+Q0:=⟨_,rfl⟩
  rw [← hQt] at wq0 ⊢
  simp only [ak] at hl1 hl2 hlead
  simp [ZF,hy0,hyn,hle,h0,hh0,hlead,hconv,f13,f14,f15,f16,f17,f18,f19,f20,f21,f22,aDJ,hn1,hn1',k1,k2,k3,hl1,w1,j1,j2,j3,hl2,w0,wq1,wq0,f43]
theorem ap7 {h l y:Nat} (hl:l<W) (hy:y<W) (hh:h<y):∃ q r,L.call Qe [ak h,ak l,ak y]=some (.aG [ak q,ak r])∧q<W∧r<y∧r+y*q=h*W+l:=by
 refine ⟨(h*W+l) / y,(h*W+l) % y,ayP hl hy hh,?_,Nat.mod_lt _ (by omega),Nat.mod_add_div _ _⟩
 rw [Nat.div_lt_iff_lt_mul (by omega)]
 have : (h+1)*W≤y*W:=Nat.mul_le_mul_right _ hh
 rw [Nat.add_mul] at this
 rw [Nat.mul_comm W y]
 omega
end Go.Ev.Code
end
section
namespace Go.Ev.Code
open Go Go.Ev
theorem aA7:TT.fn bits_Add64=none:=by kernel_rfl
theorem aA_:TT.fn bits_Sub64=none:=by kernel_rfl
theorem aA8:TT.fn bits_Mul64=none:=by kernel_rfl
theorem aA':TT.fn bits_TrailingZeros64=none:=by kernel_rfl
theorem aBa:TT.ku bits_Add64=adn:=by kernel_rfl
theorem aBe:TT.ku bits_Sub64=adq:=by kernel_rfl
theorem aBb:TT.ku bits_Mul64=adp:=by kernel_rfl
theorem aBf:TT.ku bits_TrailingZeros64=Vw:=by kernel_rfl
theorem aiL {x y c:Nat} (hx:x<W) (hy:y<W) (hc:c≤1) (m:Mem):L.bf bits_Add64 [ak x,ak y,ak c] m=some (.aG [ak ((x+y+c) % W),ak ((x+y+c) / W)],m):=by
 refine aio aA7 ?_
 rw [aBa]
 have h:(0:Int)≤c∧(c:Int)≤1:=by omega
 simp [adn,LU hx,LU hy,h]
theorem ayO {x y c:Nat} (hx:x<W) (hy:y<W) (hc:c≤1):L.call bits_Add64 [ak x,ak y,ak c]=some (.aG [ak ((x+y+c) % W),ak ((x+y+c) / W)]) :=
 zW (aiL hx hy hc []) (by simp)
theorem S9 {x y c:Nat} (hx:x<W) (hy:y<W) (hc:c≤1):∃ s d,L.call bits_Add64 [ak x,ak y,ak c]=some (.aG [ak s,ak d])∧(∀ m,L.bf bits_Add64 [ak x,ak y,ak c] m=some (.aG [ak s,ak d],m))∧s<W∧d≤1∧s+W*d=x+y+c:=by
 refine ⟨_,_,ayO hx hy hc,aiL hx hy hc,Nat.mod_lt _ jC,?_,Nat.mod_add_div _ _⟩
 have : (x+y+c) / W<2:=by rw [Nat.div_lt_iff_lt_mul jC]; omega
 omega
theorem aiP {x y c:Nat} (hx:x<W) (hy:y<W) (hc:c≤1) (m:Mem):L.bf bits_Sub64 [ak x,ak y,ak c] m=some (.aG [ak ((x+W-y-c) % W),ak (if x<y+c then 1 else 0)],m):=by
 refine aio aA_ ?_
 rw [aBe]
 have h:(0:Int)≤c∧(c:Int)≤1:=by omega
 simp [adq,LU hx,LU hy,h]
theorem ayZ {x y c:Nat} (hx:x<W) (hy:y<W) (hc:c≤1):L.call bits_Sub64 [ak x,ak y,ak c]=some (.aG [ak ((x+W-y-c) % W),ak (if x<y+c then 1 else 0)]) :=
 zW (aiP hx hy hc []) (by simp)
theorem ad1 {x y c:Nat} (hx:x<W) (hy:y<W) (hc:c≤1):∃ s d,L.call bits_Sub64 [ak x,ak y,ak c]=some (.aG [ak s,ak d])∧(∀ m,L.bf bits_Sub64 [ak x,ak y,ak c] m=some (.aG [ak s,ak d],m))∧s<W∧d≤1∧s+y+c=x+W*d:=by
 refine ⟨_,_,ayZ hx hy hc,aiP hx hy hc,Nat.mod_lt _ jC,by split <;> omega,?_⟩
 split
 ·rw [Nat.mod_eq_of_lt (by omega)]; omega
 ·have : x+W-y-c=(x-y-c)+W:=by omega
  rw [this,Nat.add_mod_right,Nat.mod_eq_of_lt (by omega)]; omega
theorem aiM {x y:Nat} (hx:x<W) (hy:y<W) (m:Mem):L.bf bits_Mul64 [ak x,ak y] m=some (.aG [ak (x*y / W),ak (x*y % W)],m):=by
 refine aio aA8 ?_
 rw [aBb]
 simp [adp,LU hx,LU hy]
theorem ayR {x y:Nat} (hx:x<W) (hy:y<W):L.call bits_Mul64 [ak x,ak y]=some (.aG [ak (x*y / W),ak (x*y % W)]) :=
 zW (aiM hx hy []) (by simp)
theorem adR {x y:Nat} (hx:x<W) (hy:y<W):∃ h l,L.call bits_Mul64 [ak x,ak y]=some (.aG [ak h,ak l])∧(∀ m,L.bf bits_Mul64 [ak x,ak y] m=some (.aG [ak h,ak l],m))∧h<W∧l<W∧l+W*h=x*y:=by
 refine ⟨_,_,ayR hx hy,aiM hx hy,?_,Nat.mod_lt _ jC,Nat.mod_add_div _ _⟩
 rw [Nat.div_lt_iff_lt_mul jC]
 exact Nat.mul_lt_mul'' hx hy
theorem asB {α:Type} (A:List α) (z v:α) (B:List α) {n:Nat} (h:n=A.length):(A++z::B).set n v=A++v::B:=by
 subst h; simp
theorem Small.snoc {l:List Nat} (h:Small l) {x:Nat} (hx:x<W):Small (l++[x]):=fun y hy=>by
 rcases List.mem_append.1 hy with hy | hy
 ·exact h y hy
 ·simp at hy; omega
theorem t_ {l:List Nat} (h:Small l) (i:Nat):l.getD i 0<W:=by
 rw [List.getD_eq_getElem?_getD]
 cases hl:l[i]? with
 | none=>exact jC
 | some x=>exact h.get hl
theorem kD (l:List Nat) (i:Nat):val (l.take (i+1))=val (l.take i)+W^i*l.getD i 0:=by
 rw [List.getD_eq_getElem?_getD]
 cases hl:l[i]? with
 | none =>
   have : l.length≤i:=List.getElem?_eq_none_iff.1 hl
   rw [List.take_of_length_le (by omega),List.take_of_length_le this]; simp
 | some x=>exact jr hl
theorem asU (l:List Nat) (x:Nat):val (l++[x])=val l+W^l.length*x:=by rw [val_append]; simp
theorem aqp {la lb:List Nat} (sa:Small la) (sb:Small lb) (hlen:lb.length≤la.length) (hL:la.length≤4000000000) :
  ∀ (k i:Nat) (r:List Nat) (c:Nat),i+k=la.length→r.length=i→Small r→c≤1→val r+W^i*c=val (la.take i)+val (lb.take i) →
  ∃ r' c',r'.length=la.length∧Small r'∧c'≤1∧val r'+W^la.length*c'=val la+val lb ∧
    L.loop [5,6,7,8,27,28] [5,7,8] xY 1 [aQ la,aQ lb,.aO 0 0 (la.length+1) 1,ak c,.int .i64 la.length,.int .i64 i] [.live (r.map ak++ak 0::List.replicate k (ak 0))] =
      some (.exit 0,[aQ la,.aO 0 0 (la.length+1) 1,ak c'],[.live (r'.map ak++[ak 0])])
 | 0,i,r,c,hk,hr,sr,hc,hv=>by
   have : i=la.length:=by omega
   subst this
   rw [List.take_of_length_le (Nat.le_refl _),List.take_of_length_le hlen] at hv
   refine ⟨r,c,hr,sr,hc,hv,au (Ym ..) ?_⟩
   simp [FW,hr]
 | k+1,i,r,c,hk,hr,sr,hc,hv=>by
   have hi:i<la.length:=by omega
   have h1:la[i]=la.getD i 0:=by simp [List.getD,hi]
   have hx:=t_ sa i
   have hy:=t_ sb i
   have e1:IntKind.i64.wrap ((i:Int)+1)=((i+1:Nat):Int):=by rw [wrap64 _ (by omega)]; omega
   have ta:=kD la i
   have tb:=kD lb i
   generalize la.getD i 0=x at *
   have hy':lb.length≤i→lb.getD i 0=0:=fun h=>by simp [List.getD,List.getElem?_eq_none_iff.2 h]
   have h2:∀ h:i<lb.length,lb[i]=lb.getD i 0:=fun h=>by simp [List.getD,h]
   generalize lb.getD i 0=y at *
   obtain ⟨s,d,hadd,-,hs,hd,hsd⟩:=S9 hx hy hc
   obtain ⟨r',c',g1,g2,g3,g4,g5⟩:=aqp sa sb hlen hL k (i+1) (r++[s]) d (by omega) (by simp [hr]) (sr.snoc hs) hd (by
    rw [asU,hr,ta,tb,Nat.pow_succ,Nat.mul_assoc]
    have : W^i*s+W^i*(W*d)=W^i*x+W^i*y+W^i*c:=by
     rw [← Nat.mul_add,hsd,Nat.mul_add,Nat.mul_add]
    omega)
   refine ⟨r',c',g1,g2,g3,g4,au (Ym ..) ?_⟩
   have hset:=asB (r.map ak) (ak 0) (ak s) (List.replicate (k+1) (ak 0)) (n:=i) (by simp [hr])
   have hle:i+1≤r.length+(k+1+1):=by omega
   have hla:(i:Int)<(la.length:Int)+1:=by omega
   have hli:(i:Int)<la.length:=by omega
   simp [List.replicate_succ] at g5 hset
   by_cases hlt:i<lb.length
   ·simp (disch:=omega) [FW,hi,hli,hlt,h1,h2 hlt,hadd,hset,hle,hla,e1,g5,List.replicate_succ]
   ·have y0:=hy' (by omega)
    subst y0
    have hadd0:L.call bits_Add64 [ak x,.int .u64 0,ak c]=_:=hadd
    simp (disch:=omega) [FW,hi,hli,hlt,h1,hadd0,hset,hle,hla,e1,g5,List.replicate_succ]
theorem QV {a b:Nat} (ha:Fit a) (hb:Fit b):L.call BK [dI a,dI b]=some (dI (a+b)):=by
 have main:∀ {a b:Nat},Fit a→Fit b→(limbs b).length≤(limbs a).length→∃ r c,r.length=(limbs a).length∧Small r∧c≤1∧L.loop [5,6,7,8,27,28] [5,7,8] xY 1 [aQ (limbs a),aQ (limbs b),.aO 0 0 ((limbs a).length+1) 1,ak 0,.int .i64 (limbs a).length,.int .i64 0] [.live (List.replicate ((limbs a).length+1) (ak 0))] =
    some (.exit 0,[aQ (limbs a),.aO 0 0 ((limbs a).length+1) 1,ak c],[.live (r.map ak++[ak 0])])∧L.call mO [aQ (r++[c])]=some (dI (a+b)):=by
  intro a b ha hb hlen
  unfold Fit at ha hb
  obtain ⟨r,c,h1,h2,h3,h4,h5⟩:=aqp (bP a).1 (bP b).1 hlen (by omega) (limbs a).length 0 [] 0 (by omega) rfl (fun x hx=>by simp at hx) (by omega) (by simp)
  have e:val (r++[c])=a+b:=by rw [asU,h1,h4,dL,dL]
  refine ⟨r,c,h1,h2,h3,h5,?_⟩
  rw [← e]
  exact kH _ (h2.snoc (by unfold W; omega)) (by simp [maxL]; omega)
 refine aj (ao1 ..) ?_
 have z0:∀ n:Nat,(((n:Int)+1).toNat)=n+1:=fun n=>by omega
 by_cases hlt:(limbs a).length<(limbs b).length
 ·obtain ⟨r,c,h1,h2,h3,h5,h6⟩:=main hb ha (by omega)
  rw [Nat.add_comm] at h6
  unfold Fit at ha hb
  have e1:IntKind.i64.wrap (((limbs b).length:Int)+1)=(limbs b).length+1:=wrap64 _ (by omega)
  have e2:(r.map ak++[D.int .u64 0]).set (limbs b).length (D.int .u64 c)=r.map ak++[D.int .u64 c]:=asB _ _ _ _ (by simp [h1])
  have e3:List.take ((limbs b).length+1) (r.map ak++[D.int .u64 c])=r.map ak++[D.int .u64 c]:=List.take_of_length_le (by simp [h1])
  simp [List.replicate_succ] at h5
  simp [h1] at h6
  simp (disch:=omega) [Xo,hlt,e1,f_,z0,List.replicate_succ,h5,h1,e2,e3,h6,zK]
 ·obtain ⟨r,c,h1,h2,h3,h5,h6⟩:=main ha hb (by omega)
  unfold Fit at ha hb
  have e1:IntKind.i64.wrap (((limbs a).length:Int)+1)=(limbs a).length+1:=wrap64 _ (by omega)
  have e2:(r.map ak++[D.int .u64 0]).set (limbs a).length (D.int .u64 c)=r.map ak++[D.int .u64 c]:=asB _ _ _ _ (by simp [h1])
  have e3:List.take ((limbs a).length+1) (r.map ak++[D.int .u64 c])=r.map ak++[D.int .u64 c]:=List.take_of_length_le (by simp [h1])
  simp [List.replicate_succ] at h5
  simp [h1] at h6
  simp (disch:=omega) [Xo,hlt,e1,f_,z0,List.replicate_succ,h5,h1,e2,e3,h6,zK]
end Go.Ev.Code
end
section
namespace Go.Ev.Code
open Go Go.Ev
theorem tN {o:List Nat} {j z:Nat} (v:Nat) (h:o[j]?=some z):val (o.set j v)+W^j*z=val o+W^j*v:=by
 induction o generalizing j with
 | nil=>simp at h
 | cons x xs ih =>
   cases j with
   | zero=>simp at h; subst h; simp; omega
   | succ j =>
     simp at h
     have := ih h
     simp only [List.set_cons_succ,JX,Nat.pow_succ]
     have e:W*(val (xs.set j v)+W^j*z)=W*(val xs+W^j*v):=by rw [this]
     rw [Nat.mul_add,Nat.mul_add,← Nat.mul_assoc,← Nat.mul_assoc,Nat.mul_comm W (W^j)] at e
     omega
theorem Small.set {o:List Nat} (h:Small o) {v:Nat} (hv:v<W) (j:Nat):Small (o.set j v):=fun x hx=>by
 rcases List.mem_or_eq_of_mem_set hx with h1 | h1
 ·exact h x h1
 ·omega
theorem Ec (n:Nat):val (List.replicate n 0)=0:=by
 induction n with
 | zero=>rfl
 | succ n ih=>simp [List.replicate_succ,ih]
theorem xQ (n:Nat):Small (List.replicate n 0):=fun x hx=>by
 have := List.eq_of_mem_replicate hx
 rw [this]; exact jC
theorem aa1 (n:Nat):(List.replicate n 0).map ak=List.replicate n (D.int .u64 0):=by simp
theorem asK {la lb:List Nat} (sa:Small la) (sb:Small lb) (hL:la.length≤4000000000) :
  ∀ (k i:Nat) (o:List Nat) (c:Nat),i+k=la.length→o.length=la.length→Small o→c≤1→(∀ j,i≤j→j<la.length→o[j]?=some 0)→val o+val (lb.take i)=val (la.take i)+W^i*c →
  ∃ o' c',o'.length=la.length∧Small o'∧c'≤1∧val o'+val (lb.take la.length)=val la+W^la.length*c' ∧
    L.loop [6,7,8,9,25,26] [8] DN 1 [aQ la,aQ lb,.aO 0 0 la.length 1,ak c,.int .i64 la.length,.int .i64 i] [.live (o.map ak)]=some (.exit 0,[.aO 0 0 la.length 1],[.live (o'.map ak)])
 | 0,i,o,c,hk,hr,sr,hc,hz,hv=>by
   have : i=la.length:=by omega
   subst this
   rw [List.take_of_length_le (Nat.le_refl la.length)] at hv
   refine ⟨o,c,hr,sr,hc,hv,au (Yp ..) ?_⟩
   simp [FX,hr]
 | k+1,i,o,c,hk,hr,sr,hc,hz,hv=>by
   have hi:i<la.length:=by omega
   have h1:la[i]=la.getD i 0:=by simp [List.getD,hi]
   have hx:=t_ sa i
   have hy:=t_ sb i
   have e1:IntKind.i64.wrap ((i:Int)+1)=((i+1:Nat):Int):=by rw [wrap64 _ (by omega)]; omega
   have ta:=kD la i
   have tb:=kD lb i
   generalize la.getD i 0=x at *
   have hy':lb.length≤i→lb.getD i 0=0:=fun h=>by simp [List.getD,List.getElem?_eq_none_iff.2 h]
   have h2:∀ h:i<lb.length,lb[i]=lb.getD i 0:=fun h=>by simp [List.getD,h]
   generalize lb.getD i 0=y at *
   obtain ⟨s,d,hsub,-,hs,hd,hsd⟩:=ad1 hx hy hc
   have hset:=tN s (hz i (Nat.le_refl _) hi)
   obtain ⟨o',c',g1,g2,g3,g4,g5⟩:=asK sa sb hL k (i+1) (o.set i s) d (by omega) (by simp [hr]) (sr.set hs i) hd
    (fun j h1 h2=>by rw [List.getElem?_set_ne (by omega)]; exact hz j (by omega) h2) (by
    rw [ta,tb,Nat.pow_succ,Nat.mul_assoc]
    have : W^i*s+W^i*y+W^i*c=W^i*x+W^i*(W*d):=by
     rw [← Nat.mul_add,← Nat.mul_add,← Nat.mul_add,hsd]
    omega)
   refine ⟨o',c',g1,g2,g3,g4,au (Yp ..) ?_⟩
   have hli:(i:Int)<la.length:=by omega
   simp [-List.map_set] at g5
   by_cases hlt:i<lb.length
   ·simp (disch:=omega) [-List.map_set,lW,FX,hi,hli,hlt,h1,h2 hlt,hsub,hr,e1,g5]
   ·have y0:=hy' (by omega)
    subst y0
    have hsub0:L.call bits_Sub64 [ak x,.int .u64 0,ak c]=_:=hsub
    simp (disch:=omega) [-List.map_set,lW,FX,hi,hli,hlt,h1,hsub0,hr,e1,g5]
theorem bM (n:Int) (h:n≠0):L.call OB [.int .i64 n]=some (.iface lF (.int .i64 n)):=by
 refine aj (avv ..) ?_
 simp [al4,h]
abbrev BD (n:Int):D := .iface lF (.int .i64 n)
theorem Dp {a b:Nat}:fM a b<0↔a<b:=by unfold fM; split <;> (try split) <;> omega
theorem QW {a b:Nat} (ha:Fit a) (hb:Fit b) (h:b≤a):L.call BO [dI a,dI b]=some (.aG [dI (a-b),.bQ]):=by
 have hcmp:=TS (bP a) (bP b) ha.le hb.le
 have hc0:¬ fM a b<0:=by rw [Dp]; omega
 unfold Fit at ha hb
 have hle:(limbs b).length≤(limbs a).length:=by
  rcases Nat.lt_or_ge (limbs a).length (limbs b).length with h1 | h1
  ·have := YJ (bP a).1 (bP b) h1
   simp at this; omega
  ·exact h1
 obtain ⟨o,c,h1,h2,h3,h4,h5⟩:=asK (bP a).1 (bP b).1 (by omega) (limbs a).length 0 (List.replicate (limbs a).length 0) 0 (by omega) (by simp) (xQ _) (by omega)
  (fun j h1 h2=>by simp [h2]) (by simp [Ec])
 rw [List.take_of_length_le hle,dL,dL] at h4
 have hlt:=V6 h2
 have hbl:b<W^(limbs a).length:=by
  have := V6 (bP b).1
  rw [dL] at this
  exact Nat.lt_of_lt_of_le this (Nat.pow_le_pow_right jC hle)
 have hc:c=0:=by
  rcases Nat.lt_or_ge c 1 with h | h
  ·omega
  ·have : c=1:=by omega
   subst this
   rw [h1] at hlt
   omega
 subst hc
 have hm:=kH o h2 (by unfold maxL; omega)
 have e:val o=a-b:=by omega
 rw [e] at hm
 refine aj (ao7 ..) ?_
 simp [h1] at h5 hm hcmp
 simp (disch:=omega) [-List.map_set,lW,lD,afC,hcmp,hc0,f_,h5,hm,h1]
theorem ayb {la lb:List Nat} {i x N:Nat} (sb:Small lb) (hx:x<W) (hN:i+lb.length<N) (hN2:N≤4000000000) :
  ∀ (j k:Nat) (o:List Nat) (c:Nat),k+j=lb.length→o.length=N→Small o→c<W →
  ∃ o' c',o'.length=N∧Small o'∧c'<W∧val o'+W^(i+lb.length)*c'+W^i*(x*val (lb.take k))=val o+W^(i+k)*c+W^i*(x*val lb)∧(∀ n,i+lb.length≤n→o'[n]?=o[n]?) ∧
    L.loop [6,7,8,9,10,26,27,28,33,34,35] [6,7,8,10,26,27,28] DK 1
      [aQ lb,.aO 0 0 N 1,.int .i64 i,ak x,ak c,aQ la,.int .i64 la.length,.int .i64 i,aQ lb,.int .i64 lb.length,.int .i64 k] [.live (o.map ak)] =
      some (.exit 2,[aQ lb,.aO 0 0 N 1,.int .i64 i,ak c',aQ la,.int .i64 la.length,.int .i64 i],[.live (o'.map ak)])
 | 0,k,o,c,hk,hr,sr,hc=>by
   have : k=lb.length:=by omega
   subst this
   refine ⟨o,c,hr,sr,hc,by rw [List.take_of_length_le (Nat.le_refl _)],fun _ _=>rfl,au (Yn ..) ?_⟩
   simp [OV]
 | j+1,k,o,c,hk,hr,sr,hc=>by
   have hkl:k<lb.length:=by omega
   obtain ⟨y,hy0⟩:∃ y,lb[k]?=some y:=⟨lb[k],List.getElem?_eq_getElem hkl⟩
   obtain ⟨z,hz0⟩:∃ z,o[i+k]?=some z:=⟨o[i+k],List.getElem?_eq_getElem (by omega)⟩
   have hy:=sb.get hy0
   have hz:=sr.get hz0
   have hy1:lb[k]=y:=by simpa using (List.getElem?_eq_some_iff.1 hy0).2
   have hio:i+k<o.length:=by omega
   have hz1:o[i+k]=z:=by simpa using (List.getElem?_eq_some_iff.1 hz0).2
   have tb:=jr hy0
   obtain ⟨h,l,hmul,-,hh,hl,hhl⟩:=adR hx hy
   obtain ⟨s1,d1,ha1,-,hs1,hd1,hsd1⟩:=S9 hl hz (Nat.zero_le 1)
   obtain ⟨s2,d2,ha2,-,hs2,hd2,hsd2⟩:=S9 hs1 hc (Nat.zero_le 1)
   have hsum:s2+W*(h+d1+d2)=x*y+z+c:=by rw [Nat.mul_add,Nat.mul_add]; omega
   have hxy:x*y≤(W-1)*(W-1):=Nat.mul_le_mul (by omega) (by omega)
   have hcar:h+d1+d2<W:=by
    rcases Nat.lt_or_ge (h+d1+d2) W with h0 | h0
    ·exact h0
    ·have h2:W*W≤W*(h+d1+d2):=Nat.mul_le_mul_left _ h0
     have h3:(W-1)*(W-1)+(W-1)+(W-1)+1=W*W:=by decide
     omega
   have ha1':L.call bits_Add64 [ak l,ak z,.int .u64 0]=_:=ha1
   have ha2':L.call bits_Add64 [ak s1,ak c,.int .u64 0]=_:=ha2
   have e1:IntKind.i64.wrap ((k:Int)+1)=((k+1:Nat):Int):=by rw [wrap64 _ (by omega)]; omega
   have e2:IntKind.i64.wrap ((i:Int)+k)=((i+k:Nat):Int):=by rw [wrap64 _ (by omega)]; omega
   have hcar2:h+d1+d2<18446744073709551616:=hcar
   have e3:IntKind.u64.wrap ((h:Int)+d1)=((h+d1:Nat):Int):=by rw [dJ _ (by omega)]; omega
   have e4:IntKind.u64.wrap ((h:Int)+d1+d2)=((h+d1+d2:Nat):Int):=by rw [dJ _ (by omega)]; omega
   have hset:=tN s2 hz0
   obtain ⟨o',c',g1,g2,g3,g4,g5,g6⟩:=ayb (la:=la) sb hx hN hN2 j (k+1) (o.set (i+k) s2) (h+d1+d2) (by omega) (by simp [hr]) (sr.set hs2 _) hcar
   refine ⟨o',c',g1,g2,g3,?_,fun n hn=>by rw [g5 n hn,List.getElem?_set_ne (by omega)],au (Yn ..) ?_⟩
   ·rw [tb] at g4
    have p1:W^(i+(k+1))*(h+d1+d2)=W^(i+k)*(W*(h+d1+d2)):=by rw [← Nat.add_assoc,Nat.pow_succ,Nat.mul_assoc]
    have p2:W^(i+k)*s2+W^(i+k)*(W*(h+d1+d2))=W^(i+k)*(x*y)+W^(i+k)*z+W^(i+k)*c:=by
     rw [← Nat.mul_add,hsum,Nat.mul_add,Nat.mul_add]
    have p3:W^i*(x*(val (lb.take k)+W^k*y))=W^i*(x*val (lb.take k))+W^(i+k)*(x*y):=by
     rw [Nat.mul_add,Nat.mul_add,Nat.pow_add,Nat.mul_left_comm x,Nat.mul_assoc]
    rw [p3] at g4
    rw [p1] at g4
    omega
   ·have hli:(i:Int)+k<N:=by omega
    have hkl':(k:Int)<lb.length:=by omega
    have hz2:∀ p:i+k<o.length,o[i+k]=z:=fun _=>hz1
    simp [-List.map_set] at g6
    have q1:((i:Int)+(k:Int)).toNat=i+k:=by omega
    simp (disch:=omega) [-List.map_set,lW,OV,hkl,hkl',hy1,hmul,e1,e2,e3,e4,ha1',ha2',hr,hz2,hli,g6,q1]
theorem au2 {la lb:List Nat} {N:Nat} (sa:Small la) (sb:Small lb) (hN:la.length+lb.length=N) (hN2:N≤4000000000) :
  ∀ (j i:Nat) (o:List Nat),i+j=la.length→o.length=N→Small o→val o=val (la.take i)*val lb→(∀ n,i+lb.length≤n→n<N→o[n]?=some 0) →
  ∃ o',o'.length=N∧Small o'∧val o'=val la*val lb ∧
    L.loop [6,7,26,27,28] [7] DL 1 [aQ lb,.aO 0 0 N 1,aQ la,.int .i64 la.length,.int .i64 i] [.live (o.map ak)]=some (.exit 0,[.aO 0 0 N 1],[.live (o'.map ak)])
 | 0,i,o,hi,hr,sr,hv,hz=>by
   have : i=la.length:=by omega
   subst this
   refine ⟨o,hr,sr,by rw [hv,List.take_of_length_le (Nat.le_refl _)],au (Yo ..) ?_⟩
   simp [OW]
 | j+1,i,o,hi,hr,sr,hv,hz=>by
   have hil:i<la.length:=by omega
   obtain ⟨x,hx0⟩:∃ x,la[i]?=some x:=⟨la[i],List.getElem?_eq_getElem hil⟩
   have hx:=sa.get hx0
   have hx1:la[i]=x:=by simpa using (List.getElem?_eq_some_iff.1 hx0).2
   have ta:=jr hx0
   obtain ⟨o1,c1,g1,g2,g3,g4,g5,g6⟩:=ayb (la:=la) (i:=i) sb hx (by omega) hN2 lb.length 0 o 0 (by omega) hr sr jC
   have hz1:o1[i+lb.length]?=some 0:=by rw [g5 _ (Nat.le_refl _)]; exact hz _ (Nat.le_refl _) (by omega)
   have hset:=tN c1 hz1
   obtain ⟨o',p1,p2,p3,p4⟩:=au2 sa sb hN hN2 j (i+1) (o1.set (i+lb.length) c1) (by omega) (by simp [g1]) (g2.set g3 _) (by
    rw [ta,Nat.add_mul,← hv,Nat.mul_assoc]
    simp at g4 hset
    omega) (fun n hn hn2=>by rw [List.getElem?_set_ne (by omega),g5 n (by omega)]; exact hz n (by omega) hn2)
   refine ⟨o',p1,p2,p3,au (Yo ..) ?_⟩
   have e1:IntKind.i64.wrap ((i:Int)+1)=((i+1:Nat):Int):=by rw [wrap64 _ (by omega)]; omega
   have e2:IntKind.i64.wrap ((i:Int)+lb.length)=((i+lb.length:Nat):Int):=by rw [wrap64 _ (by omega)]; omega
   have q1:((i:Int)+(lb.length:Int)).toNat=i+lb.length:=by omega
   simp [-List.map_set] at g6 p4
   simp (disch:=omega) [-List.map_set,lW,OW,hil,hx1,g6,e1,e2,q1,g1,p4]
theorem Ld {a b:Nat} (ha:Fit a) (hb:Fit b):L.call ug [dI a,dI b]=some (dI (a*b)):=by
 unfold Fit at ha hb
 obtain ⟨o,h1,h2,h3,h4⟩:=au2 (bP a).1 (bP b).1 rfl (by omega) (limbs a).length 0 (List.replicate ((limbs a).length+(limbs b).length) 0) (by omega) (by simp) (xQ _) (by simp [Ec])
  (fun j h1 h2=>by simp [h2])
 rw [dL,dL] at h3
 have hm:=kH o h2 (by unfold maxL; omega)
 rw [h3] at hm
 have e1:IntKind.i64.wrap (((limbs a).length:Int)+(limbs b).length)=(((limbs a).length+(limbs b).length:Nat):Int):=by rw [wrap64 _ (by omega)]; omega
 have q1:((((limbs a).length:Int)+(limbs b).length)).toNat=(limbs a).length+(limbs b).length:=by omega
 refine aj (ao5 ..) ?_
 simp [h1] at h4 hm
 simp (disch:=omega) [-List.map_set,lW,lD,afA,f_,e1,q1,h4,hm,h1]
theorem al_ {la:List Nat} {d:Nat} (sa:Small la) (hd:d<W) (hL:la.length≤4000000000) :
  ∀ (i:Nat) (q:List Nat) (r:Nat),i≤la.length→q.length=la.length→Small q→r<d→(∀ j,j<i→q[j]?=some 0)→val q*d+W^i*r+val (la.take i)=val la →
  ∃ q' r',q'.length=la.length∧Small q'∧r'<d∧val q'*d+r'=val la ∧
    L.loop [0,1,6,7,8] [6,7] JB 1 [aQ la,ak d,.aO 0 0 la.length 1,ak r,.int .i64 ((i:Int)-1)] [.live (q.map ak)]=some (.exit 0,[.aO 0 0 la.length 1,ak r'],[.live (q'.map ak)])
 | 0,q,r,hi,hq,sq,hr,hz,hv=>by
   refine ⟨q,r,hq,sq,hr,by simpa using hv,au (acN ..) ?_⟩
   simp [Um]
 | i+1,q,r,hi,hq,sq,hr,hz,hv=>by
   have hil:i<la.length:=by omega
   obtain ⟨x,hx0⟩:∃ x,la[i]?=some x:=⟨la[i],List.getElem?_eq_getElem hil⟩
   have hx:=sa.get hx0
   have hx1:la[i]=x:=by simpa using (List.getElem?_eq_some_iff.1 hx0).2
   have ta:=jr hx0
   obtain ⟨s,t,hdiv,hs,ht,hst⟩:=ap7 hx hd hr
   have hset:=tN s (hz i (by omega))
   obtain ⟨q',r',g1,g2,g3,g4,g5⟩:=al_ sa hd hL i (q.set i s) t (by omega) (by simp [hq]) (sq.set hs i) ht (fun j hj=>by rw [List.getElem?_set_ne (by omega)]; exact hz j (by omega)) (by
    rw [ta] at hv
    have e1:val (q.set i s)*d=val q*d+W^i*(s*d):=by
     rw [← Nat.mul_assoc,← Nat.add_mul]; congr 1
    have e2:W^i*(s*d)+W^i*t=W^(i+1)*r+W^i*x:=by
     rw [← Nat.mul_add,Nat.pow_succ,Nat.mul_assoc,← Nat.mul_add]; congr 1
     rw [Nat.mul_comm s d,Nat.mul_comm W r]; omega
    omega)
   have e0:((i+1:Nat):Int)-1=i:=by omega
   rw [e0]
   refine ⟨q',r',g1,g2,g3,g4,au (acN ..) ?_⟩
   have e1:IntKind.i64.wrap ((i:Int)-1)=(i:Int)-1:=wrap64 _ (by omega)
   have hli:(i:Int)<la.length:=by omega
   simp [-List.map_set] at g5
   simp (disch:=omega) [-List.map_set,lW,Um,hil,hli,hx1,hdiv,hq,e1,g5]
theorem ahs {la:List Nat} {d:Nat} (sa:Small la) (hd:d<W) (h0:0<d) (hL:la.length≤4000000000):∃ q,q.length=la.length∧Small q∧val q=val la / d∧L.call Pg [aQ la,ak d]=some (.aG [aQ q,ak (val la % d)]):=by
 obtain ⟨q,r,g1,g2,g3,g4,g5⟩:=al_ sa hd hL la.length (List.replicate la.length 0) 0 (Nat.le_refl _) (by simp) (xQ _) h0 (fun j hj=>by simp [hj]) (by simp [Ec,List.take_of_length_le])
 have e1:val la / d=val q:=by rw [← g4,Nat.add_comm,Nat.add_mul_div_right _ _ h0,Nat.div_eq_of_lt g3]; omega
 have e2:val la % d=r:=by rw [← g4,Nat.add_comm,Nat.add_mul_mod_self_right,Nat.mod_eq_of_lt g3]
 refine ⟨q,g1,g2,e1.symm,?_⟩
 rw [e2]
 refine aj (ath ..) ?_
 have e3:IntKind.i64.wrap ((la.length:Int)-1)=(la.length:Int)-1:=wrap64 _ (by omega)
 simp [-List.map_set] at g5
 simp (disch:=omega) [-List.map_set,lW,lD,ajp,f_,e3,g5,g1]
end Go.Ev.Code
end
section
namespace Go.Ev.Code
open Go Go.Ev
theorem aoH {x s:Nat} (hs:s<64):x*2^s=x*2^s % W+W*(x / 2 / 2^(63-s)):=by
 have e:x / 2 / 2^(63-s)=x*2^s / W:=by
  have : W=2^(64-s)*2^s:=by rw [← Nat.pow_add,tY]; congr 1; omega
  rw [this,Nat.mul_div_mul_right _ _ (Nat.two_pow_pos s),Nat.div_div_eq_div_mul]
  congr 1
  rw [← Nat.pow_succ']; congr 1; omega
 rw [e]
 exact (Nat.mod_add_div _ _).symm
theorem ayr {x s:Nat} (hx:x<W) (hs:s<64):x / 2 / 2^(63-s)<2^s:=by
 rw [Nat.div_div_eq_div_mul,← Nat.pow_succ',Nat.div_lt_iff_lt_mul (Nat.two_pow_pos _),← Nat.pow_add]
 have : s+(63-s+1)=64:=by omega
 rw [this]; exact hx
theorem ayf {x s c:Nat} (hs:s<64) (hc:c<2^s):c ||| x*2^s % W=c+x*2^s % W∧c+x*2^s % W<W:=by
 rw [avf (Nat.le_of_lt hs)]
 constructor
 ·rw [Nat.or_comm,ar0 hc]; omega
 ·have h1:x % 2^(64-s)<2^(64-s):=Nat.mod_lt _ (Nat.two_pow_pos _)
  have h2:2^s*(x % 2^(64-s)+1)≤2^s*2^(64-s):=Nat.mul_le_mul_left _ h1
  have h3:2^s*2^(64-s)=W:=by rw [← Nat.pow_add,tY]; congr 1; omega
  rw [Nat.mul_add] at h2
  omega
theorem alr {la:List Nat} {s:Nat} (sa:Small la) (hs:s<64) (hL:la.length≤2000000000) :
  ∀ (j i:Nat) (o:List Nat) (c:Nat),i+j=la.length→o.length=la.length+1→Small o→c<2^s→o[i]?=some c→(∀ n,i<n→n<o.length→o[n]?=some 0)→val o=val (la.take i)*2^s →
  ∃ o',o'.length=la.length+1∧Small o'∧val o'=val la*2^s ∧
    L.loop [1,5,12,13,14] [5] GY 1 [.int .i64 s,.aO 0 0 (la.length+1) 1,aQ la,.int .i64 la.length,.int .i64 i] [.live (o.map ak)]=some (.exit 0,[.aO 0 0 (la.length+1) 1],[.live (o'.map ak)])
 | 0,i,o,c,hi,hr,sr,hc,h0,hz,hv=>by
   have : i=la.length:=by omega
   subst this
   refine ⟨o,hr,sr,by rw [hv,List.take_of_length_le (Nat.le_refl _)],au (N9 ..) ?_⟩
   simp [Gz]
 | j+1,i,o,c,hi,hr,sr,hc,h0,hz,hv=>by
   have hil:i<la.length:=by omega
   obtain ⟨x,hx0⟩:∃ x,la[i]?=some x:=⟨la[i],List.getElem?_eq_getElem hil⟩
   have hx:=sa.get hx0
   have hx1:la[i]=x:=by simpa using (List.getElem?_eq_some_iff.1 hx0).2
   have ta:=jr hx0
   have hio:i<o.length:=by omega
   have h01:∀ p:i<o.length,o[i]=c:=fun p=>by simpa using (List.getElem?_eq_some_iff.1 h0).2
   have hsp:=aoH (x:=x) hs
   obtain ⟨ho1,ho2⟩:=ayf (x:=x) hs hc
   have hlt:=ayr hx hs
   have hcW:c<W:=sr.get h0
   generalize hy:x*2^s % W=y at *
   generalize hd:x / 2 / 2^(63-s)=d at *
   generalize hcy:c+y=cy at *
   have hdW:d<W:=by
    have : 2^s≤W:=by rw [tY]; exact Nat.pow_le_pow_right (by decide) (by omega)
    omega
   have hyW:y<W:=by rw [← hy]; exact Nat.mod_lt _ jC
   have s1:=tN cy h0
   have hz1:(o.set i cy)[i+1]?=some 0:=by rw [List.getElem?_set_ne (by omega)]; exact hz _ (by omega) (by omega)
   have s2:=tN d hz1
   obtain ⟨o',g1,g2,g3,g4⟩:=alr sa hs hL j (i+1) ((o.set i cy).set (i+1) d) d (by omega) (by simp [hr]) ((sr.set ho2 _).set hdW _) hlt (List.getElem?_set_self (by simp; omega))
    (fun n h1 h2=>by rw [List.getElem?_set_ne (by omega),List.getElem?_set_ne (by omega)]; exact hz n (by omega) (by simpa using h2)) (by
    rw [ta,Nat.add_mul,Nat.mul_assoc,hsp,← hv,Nat.mul_add,← Nat.mul_assoc,← Nat.pow_succ,Nat.succ_eq_add_one]
    have : W^i*cy=W^i*c+W^i*y:=by rw [← Nat.mul_add,hcy]
    omega)
   refine ⟨o',g1,g2,g3,au (N9 ..) ?_⟩
   have e1:IntKind.i64.wrap ((i:Int)+1)=((i+1:Nat):Int):=by rw [wrap64 _ (by omega)]; omega
   have e2:IntKind.i64.wrap (63-(s:Int))=((63-s:Nat):Int):=by rw [wrap64 _ (by omega)]; omega
   have q1:((i:Int)+1).toNat=i+1:=by omega
   have hli:(i:Int)<(la.length:Int)+1:=by omega
   have hl2:(i:Int)+1<(la.length:Int)+1:=by omega
   have f1:∀ m:Mem,tV true [.int .u64 x,.int .i64 s] m=some (.int .u64 (y:Int),m):=fun m=>by rw [acE (by omega),hy]
   have f2:∀ m:Mem,eX .or [.int .u64 c,.int .u64 y] m=some (.int .u64 (cy:Int),m):=fun m=>by rw [orU hcW hyW,ho1]
   obtain ⟨x2,hx2⟩:∃ x2,x / 2^1=x2:=⟨_,rfl⟩
   have f3:∀ m:Mem,tV false [.int .u64 x,.int .u64 1] m=some (.int .u64 (x2:Int),m):=fun m=>by
    have := ae8 (m:=m) (k := .u64) (a:=x) (s:=1) (by omega)
    rw [hx2] at this; exact this
   have f4:∀ m:Mem,tV false [.int .u64 x2,.int .i64 ((63-s:Nat):Int)] m=some (.int .u64 (d:Int),m):=fun m=>by
    rw [ae8 (by omega),← hx2,← hd]
   generalize hv63:63-s=v63 at *
   simp [-List.map_set] at g4
   simp (disch:=omega) [-List.map_set,lW,Gz,hil,hli,hl2,hx1,h01,hr,e1,e2,q1,f1,f2,f3,f4,g4]
theorem arN {la:List Nat} {s:Nat} (sa:Small la) (hs:s<64) (hL:la.length≤2000000000) :
  ∃ o,o.length=la.length+1∧Small o∧val o=val la*2^s∧L.bf OJ [aQ la,.int .i64 s] []=some (.aO 0 0 (la.length+1) 1,[.live (o.map ak)]):=by
 obtain ⟨o,g1,g2,g3,g4⟩:=alr sa hs hL la.length 0 (List.replicate (la.length+1) 0) 0 (by omega) (by simp) (xQ _) (Nat.two_pow_pos _) (by simp) (fun n h1 h2=>by rw [List.getElem?_replicate,if_pos (by simpa using h2)]) (by simp [Ec])
 refine ⟨o,g1,g2,g3,oC (akM ..) ?_⟩
 have e1:IntKind.i64.wrap ((la.length:Int)+1)=((la.length+1:Nat):Int):=by rw [wrap64 _ (by omega)]; omega
 have q1:((la.length:Int)+1).toNat=la.length+1:=by omega
 rw [aa1] at g4
 simp [-List.map_set] at g4
 simp (disch:=omega) [-List.map_set,lW,ae6,f_,e1,q1,g4]
theorem als {la:List Nat} {s:Nat} (sa:Small la) (hs:s<64) (hL:la.length≤2000000000) {pu:List Nat} :
  ∀ (j i:Nat) (o:List Nat) (c:Nat),i+j=la.length→o.length=la.length+1→Small o→c<2^s→o[i]?=some c→(∀ n,i<n→n<o.length→o[n]?=some 0)→val o=val (la.take i)*2^s →
  ∃ o',o'.length=la.length+1∧Small o'∧val o'=val la*2^s ∧
    L.loop [1,5,12,13,14] [5] GY 2 [.int .i64 s,.aO 1 0 (la.length+1) 1,aQ la,.int .i64 la.length,.int .i64 i] [.live (pu.map ak),.live (o.map ak)]=some (.exit 0,[.aO 1 0 (la.length+1) 1],[.live (pu.map ak),.live (o'.map ak)])
 | 0,i,o,c,hi,hr,sr,hc,h0,hz,hv=>by
   have : i=la.length:=by omega
   subst this
   refine ⟨o,hr,sr,by rw [hv,List.take_of_length_le (Nat.le_refl _)],au (N9 ..) ?_⟩
   simp [Gz]
 | j+1,i,o,c,hi,hr,sr,hc,h0,hz,hv=>by
   have hil:i<la.length:=by omega
   obtain ⟨x,hx0⟩:∃ x,la[i]?=some x:=⟨la[i],List.getElem?_eq_getElem hil⟩
   have hx:=sa.get hx0
   have hx1:la[i]=x:=by simpa using (List.getElem?_eq_some_iff.1 hx0).2
   have ta:=jr hx0
   have hio:i<o.length:=by omega
   have h01:∀ p:i<o.length,o[i]=c:=fun p=>by simpa using (List.getElem?_eq_some_iff.1 h0).2
   have hsp:=aoH (x:=x) hs
   obtain ⟨ho1,ho2⟩:=ayf (x:=x) hs hc
   have hlt:=ayr hx hs
   have hcW:c<W:=sr.get h0
   generalize hy:x*2^s % W=y at *
   generalize hd:x / 2 / 2^(63-s)=d at *
   generalize hcy:c+y=cy at *
   have hdW:d<W:=by
    have : 2^s≤W:=by rw [tY]; exact Nat.pow_le_pow_right (by decide) (by omega)
    omega
   have hyW:y<W:=by rw [← hy]; exact Nat.mod_lt _ jC
   have s1:=tN cy h0
   have hz1:(o.set i cy)[i+1]?=some 0:=by rw [List.getElem?_set_ne (by omega)]; exact hz _ (by omega) (by omega)
   have s2:=tN d hz1
   obtain ⟨o',g1,g2,g3,g4⟩:=als sa hs hL (pu:=pu) j (i+1) ((o.set i cy).set (i+1) d) d (by omega) (by simp [hr]) ((sr.set ho2 _).set hdW _) hlt (List.getElem?_set_self (by simp; omega))
    (fun n h1 h2=>by rw [List.getElem?_set_ne (by omega),List.getElem?_set_ne (by omega)]; exact hz n (by omega) (by simpa using h2)) (by
    rw [ta,Nat.add_mul,Nat.mul_assoc,hsp,← hv,Nat.mul_add,← Nat.mul_assoc,← Nat.pow_succ,Nat.succ_eq_add_one]
    have : W^i*cy=W^i*c+W^i*y:=by rw [← Nat.mul_add,hcy]
    omega)
   refine ⟨o',g1,g2,g3,au (N9 ..) ?_⟩
   have e1:IntKind.i64.wrap ((i:Int)+1)=((i+1:Nat):Int):=by rw [wrap64 _ (by omega)]; omega
   have e2:IntKind.i64.wrap (63-(s:Int))=((63-s:Nat):Int):=by rw [wrap64 _ (by omega)]; omega
   have q1:((i:Int)+1).toNat=i+1:=by omega
   have hli:(i:Int)<(la.length:Int)+1:=by omega
   have hl2:(i:Int)+1<(la.length:Int)+1:=by omega
   have f1:∀ m:Mem,tV true [.int .u64 x,.int .i64 s] m=some (.int .u64 (y:Int),m):=fun m=>by rw [acE (by omega),hy]
   have f2:∀ m:Mem,eX .or [.int .u64 c,.int .u64 y] m=some (.int .u64 (cy:Int),m):=fun m=>by rw [orU hcW hyW,ho1]
   obtain ⟨x2,hx2⟩:∃ x2,x / 2^1=x2:=⟨_,rfl⟩
   have f3:∀ m:Mem,tV false [.int .u64 x,.int .u64 1] m=some (.int .u64 (x2:Int),m):=fun m=>by
    have := ae8 (m:=m) (k := .u64) (a:=x) (s:=1) (by omega)
    rw [hx2] at this; exact this
   have f4:∀ m:Mem,tV false [.int .u64 x2,.int .i64 ((63-s:Nat):Int)] m=some (.int .u64 (d:Int),m):=fun m=>by
    rw [ae8 (by omega),← hx2,← hd]
   generalize hv63:63-s=v63 at *
   simp [-List.map_set] at g4
   simp (disch:=omega) [-List.map_set,lW,Gz,hil,hli,hl2,hx1,h01,hr,e1,e2,q1,f1,f2,f3,f4,g4]
theorem arO {la:List Nat} {s:Nat} (sa:Small la) (hs:s<64) (hL:la.length≤2000000000) {pu:List Nat} :
  ∃ o,o.length=la.length+1∧Small o∧val o=val la*2^s∧L.bf OJ [aQ la,.int .i64 s] [.live (pu.map ak)]=some (.aO 1 0 (la.length+1) 1,[.live (pu.map ak),.live (o.map ak)]):=by
 obtain ⟨o,g1,g2,g3,g4⟩:=als sa hs hL (pu:=pu) la.length 0 (List.replicate (la.length+1) 0) 0 (by omega) (by simp) (xQ _) (Nat.two_pow_pos _) (by simp) (fun n h1 h2=>by rw [List.getElem?_replicate,if_pos (by simpa using h2)]) (by simp [Ec])
 refine ⟨o,g1,g2,g3,oC (akM ..) ?_⟩
 have e1:IntKind.i64.wrap ((la.length:Int)+1)=((la.length+1:Nat):Int):=by rw [wrap64 _ (by omega)]; omega
 have q1:((la.length:Int)+1).toNat=la.length+1:=by omega
 rw [aa1] at g4
 simp [-List.map_set] at g4
 simp (disch:=omega) [-List.map_set,lW,ae6,f_,e1,q1,g4]
end Go.Ev.Code
end
section
namespace Go.Ev.Code
open Go Go.Ev
theorem av7 {m:Mem} (hc:Cl m) {x:D} {ul:List Nat} (hx:uw m x ul) {n top nx u2 T Q:Nat} (hn:2≤n) (hnl:n<4000000000) (h2:ul[n-2]?=some u2) (ht:top<W) (hnx:nx<W)
  (hu2:u2<W) (H:∀ q,T*W+u2<q*(top*W+nx)→Q<q) :
  ∀ (q rest:Nat),q<W→rest<W→Q≤q→q*top+rest=T→∃ q',q'<W∧Q≤q' ∧
    L.loop [0,5,6,7,8,9] [4] DT m.length [x,ak top,ak nx,.int .i64 n,ak q,ak rest] m=some (.ret,[ak q'],m):=by
 intro q
 have e1:IntKind.i64.wrap ((n:Int)-2)=((n-2:Nat):Int):=by rw [wrap64 _ (by omega)]; omega
 obtain ⟨p,p1,p2⟩:=hx.read .i64 (i:=((n-2:Nat):Int)) (by omega) (by simpa using h2)
 generalize hn2:n-2=n2 at *
 induction q with
 | zero =>
   intro rest hq hr hQ hT
   obtain ⟨h,l,hm,-,hh,hl,hhl⟩:=adR hq hnx
   have hh0:h=0∧l=0:=by
    simp at hhl
    have := hhl.2
    unfold W at this
    omega
   obtain ⟨rfl,rfl⟩:=hh0
   have hm0:L.call bits_Mul64 [.int .u64 0,ak nx]=some (.aG [.int .u64 0,.int .u64 0]):=hm
   refine ⟨0,hq,hQ,au (JZ ..) ?_⟩
   by_cases hr0:0<rest
   ·simp [lQ,hm0,hr0,hc]
   ·have : rest=0:=by omega
    subst this
    have : (0:Int)≤u2:=by omega
    simp [lQ,hm0,hc,e1,p1,p2,this]
 | succ q ih =>
   intro rest hq hr hQ hT
   obtain ⟨h,l,hm,-,hh,hl,hhl⟩:=adR hq hnx
   obtain ⟨s,d,ha,-,hs,hd,hsd⟩:=S9 hr ht (Nat.zero_le 1)
   have ha':L.call bits_Add64 [ak rest,ak top,.int .u64 0]=_:=ha
   have hqm:IntKind.u64.wrap (((q+1:Nat):Int)-1)=(q:Int):=by
    unfold W at hq
    rw [dJ _ (by omega)]; omega
   by_cases c1:h<rest
   ·refine ⟨q+1,hq,hQ,au (JZ ..) ?_⟩
    generalize q+1=q1 at *
    simp [lQ,hm,c1,hc]
   ·by_cases c2:h=rest∧l≤u2
    ·obtain ⟨rfl,c2⟩:=c2
     refine ⟨q+1,hq,hQ,au (JZ ..) ?_⟩
     generalize q+1=q1 at *
     simp [lQ,hm,hc,e1,p1,p2,c2]
    ·have hgt:rest*W+u2<(q+1)*nx:=by
      rw [← hhl]
      by_cases c3:h=rest
      ·subst c3
       rw [Nat.mul_comm]
       omega
      ·have : W*(rest+1)≤W*h:=Nat.mul_le_mul_left _ (by omega)
       rw [Nat.mul_add] at this
       rw [Nat.mul_comm rest]
       omega
     have hQ':Q<q+1:=H _ (by
      rw [← hT,Nat.mul_add,Nat.add_mul,← Nat.mul_assoc]
      omega)
     have step:∃ q',q'<W∧Q≤q'∧(if d=0 then L.loop [0,5,6,7,8,9] [4] DT m.length [x,ak top,ak nx,.int .i64 n,ak q,ak s] m else some (.ret,[ak q],m))=some (.ret,[ak q'],m):=by
      by_cases hd0:d=0
      ·subst hd0
       simp only [if_true]
       exact ih s (by omega) hs (by omega) (by rw [← hT,Nat.add_mul]; omega)
      ·rw [if_neg hd0]
       exact ⟨q,by omega,by omega,rfl⟩
     obtain ⟨q',g1,g2,g3⟩:=step
     refine ⟨q',g1,g2,au (JZ ..) ?_⟩
     generalize q+1=q1 at *
     by_cases hd0:d=0
     ·subst hd0
      simp at g3
      by_cases c3:h=rest
      ·subst c3
       have c4:¬ l≤u2:=fun hle=>c2 ⟨rfl,hle⟩
       simp [lQ,hm,hc,e1,p1,p2,c4,hqm,ha',hx.fH rfl,g3]
      ·have c3':¬ (h:Int)=rest:=by omega
       simp [lQ,hm,hc,c1,c3',hqm,ha',hx.fH rfl,g3]
     ·rw [if_neg hd0] at g3
      by_cases c3:h=rest
      ·subst c3
       have c4:¬ l≤u2:=fun hle=>c2 ⟨rfl,hle⟩
       simp [lQ,hm,hc,e1,p1,p2,c4,hqm,ha',hd0]
       simpa using g3
      ·have c3':¬ (h:Int)=rest:=by omega
       simp [lQ,hm,hc,c1,c3',hqm,ha',hd0]
       simpa using g3
theorem arM {m:Mem} (hc:Cl m) {x y:D} {ul vl:List Nat} (hx:uw m x ul) (hy:uw m y vl) (su:Small ul) (sv:Small vl) (hlen:ul.length=vl.length+1) (hn:2≤vl.length) (hL:vl.length<2000000000)
  (hlt:val ul<W*val vl):∃ q,q<W∧val ul / val vl≤q∧L.bf Vq [x,y] m=some (ak q,m):=by
 have hV:0<val vl:=by
  rcases Nat.eq_zero_or_pos (val vl) with h | h
  ·rw [h] at hlt; omega
  ·exact h
 have hQW:val ul / val vl<W:=by rw [Nat.div_lt_iff_lt_mul hV]; exact hlt
 obtain ⟨n,hn0⟩:∃ n,vl.length=n+2:=⟨vl.length-2,by omega⟩
 obtain ⟨top,ht0⟩:∃ t,vl[n+1]?=some t:=⟨vl[n+1],List.getElem?_eq_getElem (by omega)⟩
 obtain ⟨nx,hnx0⟩:∃ t,vl[n]?=some t:=⟨vl[n],List.getElem?_eq_getElem (by omega)⟩
 obtain ⟨u0,hu0⟩:∃ t,ul[n+2]?=some t:=⟨ul[n+2],List.getElem?_eq_getElem (by omega)⟩
 obtain ⟨u1,hu1⟩:∃ t,ul[n+1]?=some t:=⟨ul[n+1],List.getElem?_eq_getElem (by omega)⟩
 obtain ⟨u2,hu2⟩:∃ t,ul[n]?=some t:=⟨ul[n],List.getElem?_eq_getElem (by omega)⟩
 obtain ⟨p1,a1,b1⟩:=hy.read .i64 (i:=((n+1:Nat):Int)) (by omega) (by rw [Int.toNat_natCast]; exact ht0)
 obtain ⟨p2,a2,b2⟩:=hy.read .i64 (i:=((n:Nat):Int)) (by omega) (by rw [Int.toNat_natCast]; exact hnx0)
 obtain ⟨p3,a3,b3⟩:=hx.read .i64 (i:=((n+2:Nat):Int)) (by omega) (by rw [Int.toNat_natCast]; exact hu0)
 obtain ⟨p4,a4,b4⟩:=hx.read .i64 (i:=((n+1:Nat):Int)) (by omega) (by rw [Int.toNat_natCast]; exact hu1)
 have l1:=hy.len
 have l2:=hx.len
 rw [hn0] at l1
 rw [hlen,hn0] at l2
 have e1:IntKind.i64.wrap (((n+2:Nat):Int)-1)=((n+1:Nat):Int):=by rw [wrap64 _ (by omega)]; omega
 have e2:IntKind.i64.wrap (((n+2:Nat):Int)-2)=((n:Nat):Int):=by rw [wrap64 _ (by omega)]; omega
 have e3:IntKind.i64.wrap (((n+2+1:Nat):Int)-1)=((n+2:Nat):Int):=by rw [wrap64 _ (by omega)]; omega
 by_cases c1:top≤u0
 ·refine ⟨W-1,by decide,by omega,oC (aiO ..) ?_⟩
  generalize n+2+1=n3 at *
  generalize n+2=n2 at *
  generalize n+1=n1 at *
  simp [acB,l1,l2,e1,e2,e3,a1,b1,a2,b2,a3,b3,c1,hc]
  decide
 ·have htW:=sv.get ht0
  have hu1W:=su.get hu1
  obtain ⟨q,r,hd,hq,hr,hqr⟩:=ap7 hu1W htW (Nat.lt_of_not_le c1)
  have vv:val vl=val (vl.take n)+W^n*(top*W+nx):=by
   have h1:=jr hnx0
   have h2:=jr ht0
   rw [List.take_of_length_le (by omega)] at h2
   rw [h2,h1,Nat.mul_add,Nat.pow_succ,Nat.mul_assoc,Nat.mul_comm top W]; omega
  have uu:val ul=val (ul.take n)+W^n*((u0*W+u1)*W+u2):=by
   have h1:=jr hu2
   have h2:=jr hu1
   have h3:=jr hu0
   rw [List.take_of_length_le (by omega)] at h3
   have q1:W^(n+2)=W^n*W*W:=by rw [Nat.pow_succ,Nat.pow_succ]
   have q2:W^(n+1)=W^n*W:=Nat.pow_succ ..
   rw [h3,h2,h1,q1,q2]
   have q3:W^n*((u0*W+u1)*W+u2)=W^n*u2+W^n*W*u1+W^n*W*W*u0:=by grind
   omega
  have H:∀ q,(u0*W+u1)*W+u2<q*(top*W+nx)→val ul / val vl<q:=fun q h=>by
   rw [Nat.div_lt_iff_lt_mul hV,uu,vv]
   have h1:=nV su (k:=n)
   have h2:W^n*((u0*W+u1)*W+u2+1)≤W^n*(q*(top*W+nx)):=Nat.mul_le_mul_left _ h
   generalize (u0*W+u1)*W+u2=A at *
   generalize top*W+nx=B at *
   rw [Nat.mul_left_comm,Nat.mul_add] at h2
   rw [Nat.mul_add]
   omega
  have hQ0:val ul / val vl≤q:=by
   have := H (q+1) (by
    have h3:(u0*W+u1)+1≤(q+1)*top:=by rw [← hqr,Nat.add_mul,Nat.mul_comm top q]; omega
    have h4:=Nat.mul_le_mul_right W h3
    have h5:=su.get hu2
    rw [Nat.mul_add,← Nat.mul_assoc]
    rw [Nat.add_mul (u0*W+u1)] at h4
    omega)
   omega
  obtain ⟨q',g1,g2,g3⟩:=av7 hc hx (n:=n+2) (by omega) (by omega) (by simpa using hu2) htW (sv.get hnx0) (su.get hu2) H q r hq (Nat.lt_trans hr htW) hQ0 (by rw [← hqr,Nat.mul_comm top q]; omega)
  refine ⟨q',g1,g2,oC (aiO ..) ?_⟩
  generalize n+2+1=n3 at *
  generalize n+2=n2 at *
  have e4:IntKind.i64.wrap ((n2:Int)-1)=((n+1:Nat):Int):=e1
  generalize n+1=n1 at *
  simp [acB,l1,l2,e1,e2,e3,a1,b1,a2,b2,a3,b3,a4,b4,c1,hc,hd,g3]
end Go.Ev.Code
end
section
namespace Go.Ev.Code
open Go Go.Ev
abbrev M3 (u v q:List Nat):Mem:=[.live (u.map ak),.live (v.map ak),.live (q.map ak)]
theorem ame {v qs:List Nat} {j n q N:Nat} (sv:Small v) (hv:v.length=n+1) (hq:q<W) (hN:j+n<N) (hN2:N≤4000000000) :
  ∀ (i k:Nat) (u:List Nat) (c b:Nat),k+i=n→u.length=N→Small u→c<W→b≤1 →
  ∃ u' c' b',u'.length=N∧Small u'∧c'<W∧b'≤1∧val u'+W^j*(q*val (v.take n))+W^(j+k)*(c+b)=val u+W^j*(q*val (v.take k))+W^(j+n)*(c'+b')∧(∀ i,i<j∨j+n≤i→u'[i]?=u[i]?) ∧
    L.loop [0,1,2,7,8,14,15,16] [0,1,7,8] JC 3 [.aO 0 j (n+1) 1,.aO 1 0 n 1,ak q,ak c,ak b,.aO 1 0 n 1,.int .i64 n,.int .i64 k] (M3 u v qs) =
      some (.exit 0,[.aO 0 j (n+1) 1,.aO 1 0 n 1,ak c',ak b'],M3 u' v qs)
 | 0,k,u,c,b,hk,hu,su,hc,hb=>by
   have : k=n:=by omega
   subst this
   refine ⟨u,c,b,hu,su,hc,hb,by omega,fun _ _=>rfl,au (acO ..) ?_⟩
   simp [Un]
 | i+1,k,u,c,b,hk,hu,su,hc,hb=>by
   have hkn:k<n:=by omega
   obtain ⟨y,hy0⟩:∃ y,v[k]?=some y:=⟨v[k],List.getElem?_eq_getElem (by omega)⟩
   obtain ⟨z,hz0⟩:∃ z,u[j+k]?=some z:=⟨u[j+k],List.getElem?_eq_getElem (by omega)⟩
   have hy:=sv.get hy0
   have hz:=su.get hz0
   have hy1:∀ p:k<v.length,v[k]=y:=fun p=>by simpa using (List.getElem?_eq_some_iff.1 hy0).2
   have hz1:∀ p:j+k<u.length,u[j+k]=z:=fun p=>by simpa using (List.getElem?_eq_some_iff.1 hz0).2
   have tv:=jr hy0
   obtain ⟨h,l,hmul,-,hh,hl,hhl⟩:=adR hq hy
   obtain ⟨s1,d1,ha1,-,hs1,hd1,hsd1⟩:=S9 hl hc (Nat.zero_le 1)
   obtain ⟨s2,d2,ha2,-,hs2,hd2,hsd2⟩:=ad1 hz hs1 hb
   have ha1':L.call bits_Add64 [ak l,ak c,.int .u64 0]=_:=ha1
   have hsum:s1+W*(h+d1)=q*y+c:=by rw [Nat.mul_add]; omega
   have hcar:h+d1<W:=by
    have hqy:q*y≤(W-1)*(W-1):=Nat.mul_le_mul (by omega) (by omega)
    rcases Nat.lt_or_ge (h+d1) W with h0 | h0
    ·exact h0
    ·have h2:W*W≤W*(h+d1):=Nat.mul_le_mul_left _ h0
     have h3:(W-1)*(W-1)+(W-1)+(W-1)+1=W*W:=by decide
     omega
   have hcar2:h+d1<18446744073709551616:=hcar
   have e1:IntKind.i64.wrap ((k:Int)+1)=((k+1:Nat):Int):=by rw [wrap64 _ (by omega)]; omega
   have e3:IntKind.u64.wrap ((h:Int)+d1)=((h+d1:Nat):Int):=by rw [dJ _ (by omega)]; omega
   have hset:=tN s2 hz0
   obtain ⟨u',c',b',g1,g2,g3,g4,g5,g6,g7⟩:=ame (qs:=qs) sv hv hq hN hN2 i (k+1) (u.set (j+k) s2) (h+d1) d2 (by omega) (by simp [hu]) (su.set hs2 _) hcar hd2
   refine ⟨u',c',b',g1,g2,g3,g4,?_,fun i hi=>by rw [g6 i (by omega),List.getElem?_set_ne (by omega)],au (acO ..) ?_⟩
   ·rw [tv] at g5
    have p1:W^(j+(k+1))*(h+d1+d2)=W^(j+k)*(W*(h+d1+d2)):=by rw [← Nat.add_assoc,Nat.pow_succ,Nat.mul_assoc]
    have p0:s2+q*y+c+b=z+W*(h+d1+d2):=by rw [Nat.mul_add W (h+d1)]; omega
    have p2:W^(j+k)*s2+W^(j+k)*(q*y)+W^(j+k)*(c+b)=W^(j+k)*z+W^(j+k)*(W*(h+d1+d2)):=by
     rw [← Nat.mul_add,← Nat.mul_add,← Nat.mul_add,← p0]; congr 1; omega
    have p3:W^j*(q*(val (v.take k)+W^k*y))=W^j*(q*val (v.take k))+W^(j+k)*(q*y):=by
     rw [Nat.mul_add,Nat.mul_add,Nat.pow_add,Nat.mul_left_comm q,Nat.mul_assoc]
    rw [p3,p1] at g5
    omega
   ·simp [-List.map_set] at g7
    simp (disch:=omega) [-List.map_set,lW,Un,hkn,hy1,hz1,hmul,ha1',ha2,e1,e3,hu,hv,g7]
theorem arQ {v qs u:List Nat} {j n q N:Nat} (sv:Small v) (hv:v.length=n+1) (hq:q<W) (hN:j+n<N) (hN2:N≤4000000000) (hu:u.length=N) (su:Small u) :
  ∃ u' d,u'.length=N∧Small u'∧d≤1∧val u'+W^j*(q*val (v.take n))=val u+W^(j+n+1)*d∧(∀ i,i<j∨j+n<i→u'[i]?=u[i]?) ∧
    L.bf Vr [.aO 0 j (n+1) 1,.aO 1 0 n 1,ak q] (M3 u v qs)=some (.bool (decide (d=1)),M3 u' v qs):=by
 obtain ⟨u1,c,b,g1,g2,g3,g4,g5,g6,g7⟩:=ame (qs:=qs) sv hv hq hN hN2 n 0 u 0 0 (by omega) hu su jC (by omega)
 obtain ⟨z,hz0⟩:∃ z,u1[j+n]?=some z:=⟨u1[j+n],List.getElem?_eq_getElem (by omega)⟩
 have hz:=g2.get hz0
 have hz1:∀ p:j+n<u1.length,u1[j+n]=z:=fun p=>by simpa using (List.getElem?_eq_some_iff.1 hz0).2
 obtain ⟨s,d,hs,-,hsW,hd,hsd⟩:=ad1 hz g3 g4
 have hset:=tN s hz0
 refine ⟨u1.set (j+n) s,d,by simp [g1],g2.set hsW _,hd,?_,fun i hi=>by rw [List.getElem?_set_ne (by omega),g6 i (by omega)],oC (ati ..) ?_⟩
 ·simp at g5
  have p1:W^(j+n+1)*d=W^(j+n)*(W*d):=by rw [Nat.pow_succ,Nat.mul_assoc]
  have p2:W^(j+n)*s+W^(j+n)*(c+b)=W^(j+n)*z+W^(j+n)*(W*d):=by
   rw [← Nat.mul_add,← Nat.mul_add,← hsd]; congr 1; omega
  omega
 ·simp [-List.map_set] at g7
  by_cases hd1:d=1
  ·subst hd1
   simp (disch:=omega) [-List.map_set,lW,acC,g7,hz1,hs,g1,hu]
  ·have : d=0:=by omega
   subst this
   simp (disch:=omega) [-List.map_set,lW,acC,g7,hz1,hs,g1,hu]
theorem alh {v qs:List Nat} {j n N:Nat} (sv:Small v) (hv:v.length=n+1) (hN:j+n<N) (hN2:N≤4000000000) :
  ∀ (i k:Nat) (u:List Nat) (c:Nat),k+i=n→u.length=N→Small u→c≤1 →
  ∃ u' c',u'.length=N∧Small u'∧c'≤1∧val u'+W^(j+n)*c'+W^j*val (v.take k)=val u+W^(j+k)*c+W^j*val (v.take n)∧(∀ i,i<j∨j+n≤i→u'[i]?=u[i]?) ∧
    L.loop [0,1,4,7,8,9] [0,1,4] JA 3 [.aO 0 j (n+1) 1,.aO 1 0 n 1,ak c,.aO 1 0 n 1,.int .i64 n,.int .i64 k] (M3 u v qs) =
      some (.exit 0,[.aO 0 j (n+1) 1,.aO 1 0 n 1,ak c'],M3 u' v qs)
 | 0,k,u,c,hk,hu,su,hc=>by
   have : k=n:=by omega
   subst this
   refine ⟨u,c,hu,su,hc,by omega,fun _ _=>rfl,au (acM ..) ?_⟩
   simp [Ul]
 | i+1,k,u,c,hk,hu,su,hc=>by
   have hkn:k<n:=by omega
   obtain ⟨y,hy0⟩:∃ y,v[k]?=some y:=⟨v[k],List.getElem?_eq_getElem (by omega)⟩
   obtain ⟨z,hz0⟩:∃ z,u[j+k]?=some z:=⟨u[j+k],List.getElem?_eq_getElem (by omega)⟩
   have hy:=sv.get hy0
   have hz:=su.get hz0
   have hy1:∀ p:k<v.length,v[k]=y:=fun p=>by simpa using (List.getElem?_eq_some_iff.1 hy0).2
   have hz1:∀ p:j+k<u.length,u[j+k]=z:=fun p=>by simpa using (List.getElem?_eq_some_iff.1 hz0).2
   have tv:=jr hy0
   obtain ⟨s,d,ha,-,hs,hd,hsd⟩:=S9 hz hy hc
   have e1:IntKind.i64.wrap ((k:Int)+1)=((k+1:Nat):Int):=by rw [wrap64 _ (by omega)]; omega
   have hset:=tN s hz0
   obtain ⟨u',c',g1,g2,g3,g5,g6,g7⟩:=alh (qs:=qs) sv hv hN hN2 i (k+1) (u.set (j+k) s) d (by omega) (by simp [hu]) (su.set hs _) hd
   refine ⟨u',c',g1,g2,g3,?_,fun i hi=>by rw [g6 i (by omega),List.getElem?_set_ne (by omega)],au (acM ..) ?_⟩
   ·rw [tv] at g5
    have p1:W^(j+(k+1))*d=W^(j+k)*(W*d):=by rw [← Nat.add_assoc,Nat.pow_succ,Nat.mul_assoc]
    have p2:W^(j+k)*s+W^(j+k)*(W*d)=W^(j+k)*z+W^(j+k)*y+W^(j+k)*c:=by
     rw [← Nat.mul_add,← Nat.mul_add,← Nat.mul_add,hsd]
    have p3:W^j*(val (v.take k)+W^k*y)=W^j*val (v.take k)+W^(j+k)*y:=by
     rw [Nat.mul_add,Nat.pow_add,Nat.mul_assoc]
    rw [p3,p1] at g5
    omega
   ·simp [-List.map_set] at g7
    simp (disch:=omega) [-List.map_set,lW,Ul,hkn,hy1,hz1,ha,e1,hu,hv,g7]
theorem arL {v qs u:List Nat} {j n N:Nat} (sv:Small v) (hv:v.length=n+1) (hN:j+n<N) (hN2:N≤4000000000) (hu:u.length=N) (su:Small u) :
  ∃ u' d,u'.length=N∧Small u'∧d≤1∧val u'+W^(j+n+1)*d=val u+W^j*val (v.take n)∧(∀ i,i<j∨j+n<i→u'[i]?=u[i]?) ∧
    L.bf Vp [.aO 0 j (n+1) 1,.aO 1 0 n 1] (M3 u v qs)=some (.aG [],M3 u' v qs):=by
 obtain ⟨u1,c,g1,g2,g3,g5,g6,g7⟩:=alh (qs:=qs) sv hv hN hN2 n 0 u 0 (by omega) hu su (by omega)
 obtain ⟨z,hz0⟩:∃ z,u1[j+n]?=some z:=⟨u1[j+n],List.getElem?_eq_getElem (by omega)⟩
 have hz:=g2.get hz0
 have hz1:∀ p:j+n<u1.length,u1[j+n]=z:=fun p=>by simpa using (List.getElem?_eq_some_iff.1 hz0).2
 obtain ⟨s,hs⟩:∃ s,s=(z+c) % W:=⟨_,rfl⟩
 have hsW:s<W:=by rw [hs]; exact Nat.mod_lt _ jC
 have hsd:s+W*((z+c) / W)=z+c:=by rw [hs]; exact Nat.mod_add_div _ _
 have hd:(z+c) / W≤1:=by
  have : (z+c) / W<2:=by rw [Nat.div_lt_iff_lt_mul jC]; omega
  omega
 have hw:IntKind.u64.wrap ((z:Int)+c)=(s:Int):=by
  rw [hs]; simp [IntKind.wrap,IntKind.signed,IntKind.bits,W]
 generalize (z+c) / W=d at *
 have hset:=tN s hz0
 refine ⟨u1.set (j+n) s,d,by simp [g1],g2.set hsW _,hd,?_,fun i hi=>by rw [List.getElem?_set_ne (by omega),g6 i (by omega)],oC (atg ..) ?_⟩
 ·simp at g5
  have p1:W^(j+n+1)*d=W^(j+n)*(W*d):=by rw [Nat.pow_succ,Nat.mul_assoc]
  have p2:W^(j+n)*s+W^(j+n)*(W*d)=W^(j+n)*z+W^(j+n)*c:=by
   rw [← Nat.mul_add,← Nat.mul_add,hsd]
  omega
 ·simp [-List.map_set] at g7
  simp (disch:=omega) [-List.map_set,lW,ajo,g7,hz1,hw,g1,hu]
end Go.Ev.Code
end
