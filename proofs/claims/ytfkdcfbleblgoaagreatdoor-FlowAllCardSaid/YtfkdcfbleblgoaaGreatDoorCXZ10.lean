/- A part of the proof of accrAll_card, flowAll_card, priceAll_card, yieldAll_card. -/
import Derived.Test.YtfkdcfbleblgoaaGreatDoorCSpD3
set_option linter.unusedVariables false
set_option linter.unusedSimpArgs false
section
namespace Go.Ev.Code
open Go Go.Ev
theorem aBN {a b:Int} (ha:aU a) (hb:aU b) (h:mi a+2≤mi b):a+28<b:=by
 obtain ⟨y,m,d,hc,rfl,_⟩:=eu ha
 obtain ⟨y',m',d',hc',rfl,_⟩:=eu hb
 rw [Gx hc,Gx hc'] at h
 have a1:=hc.y1; have a2:=hc.m1; have a3:=hc.m2; have a4:=hc'.y2; have a5:=hc'.m1; have a6:=hc'.m2
 have hm1:1≤(y*12+m) % 12+1∧(y*12+m) % 12+1≤12:=by omega
 have hy1:1900≤(y*12+m) / 12∧(y*12+m) / 12≤2199:=by omega
 have hs:(y*12+m) / 12*12+((y*12+m) % 12+1)=y*12+m+1:=by omega
 generalize (y*12+m) % 12+1=m1 at *
 generalize (y*12+m) / 12=y1 at *
 have hp:=OI (y:=y1) hm1.1 hm1.2
 have c1:Dc y1 m1 1:=⟨hy1.1,hy1.2,hm1.1,hm1.2,by omega,by omega⟩
 have c2:Dc y1 m1 28:=⟨hy1.1,hy1.2,hm1.1,hm1.2,by omega,by omega⟩
 have h1:=Ql hc c1 (by omega)
 have h2:=Ql c2 hc' (by omega)
 have h3:dayOf y1 m1 28=dayOf y1 m1 1+27:=by unfold dayOf; omega
 omega
end Go.Ev.Code
end
section
namespace Go.Ev.Code
open Go Go.Ev
theorem uy (e:Er) (c:Int):L.call CQ [fD e,.int .i64 c]=some (.bool (decide (gW e=c))):=by
 have h:=ag4 e
 have hcl:=ac6 e 0
 generalize gW e=z at *
 generalize fD e=d at *
 refine aj (afQ ..) ?_
 by_cases hc:z=c <;> simp [SI,h,hc,hcl]
end Go.Ev.Code
end
section
namespace Go.Ev.Code
open Go Go.Ev
def T9:Nat:=1000000000
def bH:List Nat→Nat
 | []=>0
 | x::xs=>x+T9*bH xs
def UJ:Nat→Nat→List Nat
 | 0,_=>[]
 | f+1,n=>if n=0 then [] else n % T9::UJ f (n / T9)
def ah (n:Nat):List Nat:=UJ (n.log2 / 29+1) n
def dG (l:List Nat):Prop:=∀ x∈l,x<T9
def IV (l:List Nat):Prop:=dG l∧∀ h:l≠[],l.getLast h≠0
theorem rZ:0<T9:=by decide
@[simp] theorem asQ:bH []=0:=rfl
@[simp] theorem ni (x:Nat) (xs:List Nat):bH (x::xs)=x+T9*bH xs:=rfl
theorem Ht (l r:List Nat):bH (l++r)=bH l+T9^l.length*bH r:=by
 induction l with
 | nil=>simp
 | cons x xs ih =>
   simp only [List.cons_append,ni,ih,List.length_cons,Nat.pow_succ,Nat.mul_add]
   have : T9*(T9^xs.length*bH r)=T9^xs.length*T9*bH r:=by rw [← Nat.mul_assoc,Nat.mul_comm T9]
   omega
theorem dG.cons {x:Nat} {xs:List Nat} (h:dG (x::xs)):x<T9∧dG xs:=⟨h x (by simp),fun y hy=>h y (by simp [hy])⟩
theorem ait {l:List Nat} (h:dG l):bH l<T9^l.length:=by
 induction l with
 | nil=>simp
 | cons x xs ih =>
   have h1:=h.cons
   have h2:=ih h1.2
   simp only [ni,List.length_cons,Nat.pow_succ]
   have : T9*(bH xs+1)≤T9*T9^xs.length:=Nat.mul_le_mul_left _ h2
   rw [Nat.mul_comm (T9^xs.length)]
   rw [Nat.mul_add] at this
   omega
theorem ahf:∀ (f n:Nat),n<T9^f→bH (UJ f n)=n
 | 0,n,h=>by simp at h; simp [UJ,h]
 | f+1,n,h=>by
   unfold UJ
   split
   ·simp_all
   ·have : n / T9<T9^f:=by rw [Nat.div_lt_iff_lt_mul rZ]; rw [Nat.pow_succ] at h; exact h
    rw [ni,ahf f _ this]
    exact Nat.mod_add_div n T9
theorem ai6:∀ (f n:Nat),n<T9^f→IV (UJ f n)
 | 0,n,h=>⟨fun x hx=>by simp [UJ] at hx,fun h=>by simp [UJ] at h⟩
 | f+1,n,h=>by
   unfold UJ
   split
   ·exact ⟨fun x hx=>by simp at hx,fun h=>by simp at h⟩
   ·rename_i h0
    have hd:n / T9<T9^f:=by rw [Nat.div_lt_iff_lt_mul rZ]; rw [Nat.pow_succ] at h; exact h
    have ih:=ai6 f _ hd
    have hv:=ahf f _ hd
    refine ⟨fun x hx=>?_,fun hne=>?_⟩
    ·rcases List.mem_cons.1 hx with rfl | hx
     ·exact Nat.mod_lt _ rZ
     ·exact ih.1 x hx
    ·revert hne ih hv
     generalize UJ f (n / T9)=l
     intro ih hv hne
     cases l with
     | nil =>
       simp at hv
       simp only [List.getLast_singleton]
       intro h1
       have := Nat.mod_add_div n T9
       rw [h1,← hv] at this
       simp at this
       exact h0 this.symm
     | cons y ys =>
       rw [List.getLast_cons (by simp)]
       exact ih.2 (by simp)
theorem aod (n:Nat):n<T9^(n.log2 / 29+1):=by
 have h:n<2^(n.log2+1):=Nat.lt_log2_self
 have h1:(2^29)^(n.log2 / 29+1)≤T9^(n.log2 / 29+1):=Nat.pow_le_pow_left (by decide) _
 refine Nat.lt_of_lt_of_le h (Nat.le_trans ?_ h1)
 rw [← Nat.pow_mul]
 exact Nat.pow_le_pow_right (by decide) (by omega)
@[simp] theorem iV (n:Nat):bH (ah n)=n:=ahf _ _ (aod n)
theorem iL (n:Nat):IV (ah n):=ai6 _ _ (aod n)
theorem abG {x:Nat} {xs:List Nat} (h:IV (x::xs)):IV xs:=by
 refine ⟨h.1.cons.2,fun hne=>?_⟩
 have := h.2 (by simp)
 rwa [List.getLast_cons hne] at this
theorem aiX {l:List Nat} (h:IV l) (hv:bH l=0):l=[]:=by
 induction l with
 | nil=>rfl
 | cons x xs ih =>
   have hx:x=0:=by simp only [ni] at hv; omega
   have hxs:bH xs=0:=by
    simp only [ni] at hv
    have h2:T9*bH xs=0:=by omega
    rcases Nat.mul_eq_zero.1 h2 with h | h
    ·exact absurd h (by decide)
    ·exact h
   have := ih (abG h) hxs
   subst this
   have h2:=h.2 (by simp)
   simp at h2
   exact absurd hx h2
theorem afi {l r:List Nat} (hl:IV l) (hr:IV r) (h:bH l=bH r):l=r:=by
 induction l generalizing r with
 | nil=>exact (aiX hr h.symm).symm
 | cons x xs ih =>
   cases r with
   | nil=>exact aiX hl h
   | cons y ys =>
     simp at h
     have h1:=hl.1.cons.1
     have h2:=hr.1.cons.1
     have e:x=y:=by
      have h3:(x+T9*bH xs) % T9=x:=by rw [Nat.add_mul_mod_self_left]; exact Nat.mod_eq_of_lt h1
      have h4:(y+T9*bH ys) % T9=y:=by rw [Nat.add_mul_mod_self_left]; exact Nat.mod_eq_of_lt h2
      rw [h,h4] at h3
      exact h3.symm
     subst e
     have e2:bH xs=bH ys:=Nat.eq_of_mul_eq_mul_left rZ (by omega)
     rw [ih (abG hl) (abG hr) e2]
theorem arx {l:List Nat} (h:IV l):ah (bH l)=l:=afi (iL _) h (iV _)
theorem aaJ {l:List Nat} (h:IV l) (hne:l≠[]):T9^(l.length-1)≤bH l:=by
 have e:=List.dropLast_concat_getLast hne
 have h1:=h.2 hne
 rw [← e,Ht]
 simp only [List.length_append,List.length_dropLast,List.length_cons,List.length_nil,ni,asQ]
 have : 1≤l.getLast hne:=by omega
 calc T9^(l.length-1+(0+1)-1)=T9^(l.length-1)*1:=by simp
  _≤T9^(l.length-1)*(l.getLast hne+T9*0):=Nat.mul_le_mul_left _ (by omega)
  _≤_:=by omega
theorem aaK {l r:List Nat} (hl:dG l) (hr:IV r) (h:l.length<r.length):bH l<bH r:=by
 have h1:=ait hl
 have h2:=aaJ hr (by intro e; simp [e] at h)
 exact Nat.lt_of_lt_of_le h1 (Nat.le_trans (Nat.pow_le_pow_right rZ (by omega)) h2)
theorem aez {n k:Nat} (h:n<T9^k):(ah n).length≤k:=by
 rcases Nat.lt_or_ge k (ah n).length with h1 | h1
 ·have h2:=aaJ (iL n) (by intro e; simp [e] at h1)
  rw [iV] at h2
  have : T9^k≤T9^((ah n).length-1):=Nat.pow_le_pow_right rZ (by omega)
  omega
 ·exact h1
@[simp] theorem oI:ah 0=[]:=by decide
theorem amZ {n:Nat} (h:n≠0):ah n≠[]:=fun e=>h (by rw [← iV n,e]; rfl)
theorem awK (l:List Nat):bH (gq l)=bH l:=by
 induction l with
 | nil=>rfl
 | cons x xs ih =>
   simp only [gq,ni,← ih,abx]
   split
   ·rename_i h; rw [h.1,h.2]; rfl
   ·rfl
theorem asP {l:List Nat} (h:dG l):IV (gq l):=by
 induction l with
 | nil=>exact ⟨h,fun h=>by simp [gq] at h⟩
 | cons x xs ih =>
   have h1:=h.cons
   have h2:=ih h1.2
   simp only [gq]
   revert h2
   generalize gq xs=t
   intro h2
   unfold abx
   split
   ·exact ⟨fun y hy=>by simp at hy,fun h=>by simp at h⟩
   ·rename_i hn
    refine ⟨fun y hy=>?_,fun _=>?_⟩
    ·rcases List.mem_cons.1 hy with rfl | hy
     ·exact h1.1
     ·exact h2.1 y hy
    ·cases t with
     | nil=>simpa using hn
     | cons y ys=>rw [List.getLast_cons (by simp)]; exact h2.2 (by simp)
theorem awJ {l:List Nat} (h:dG l):gq l=ah (bH l):=by
 rw [← awK l,arx (asP h)]
theorem Bg {l:List Nat} {k:Nat} {u:Nat} (h:l[k]?=some u):bH (l.take (k+1))=bH (l.take k)+T9^k*u:=by
 obtain ⟨hk,rfl⟩:=List.getElem?_eq_some_iff.1 h
 rw [List.take_succ_eq_append_getElem hk,Ht]
 simp [Nat.min_eq_left (Nat.le_of_lt hk)]
theorem dG.take {l:List Nat} (h:dG l) (k:Nat):dG (l.take k):=fun x hx=>h x (List.mem_of_mem_take hx)
theorem dG.get {l:List Nat} (h:dG l) {k u:Nat} (hk:l[k]?=some u):u<T9:=h u (List.mem_of_getElem? hk)
theorem JW {l:List Nat} (h:dG l) {k:Nat}:bH (l.take k)<T9^k:=by
 refine Nat.lt_of_lt_of_le (ait (h.take k)) (Nat.pow_le_pow_right rZ ?_)
 simp; omega
theorem dG.snoc {l:List Nat} (h:dG l) {x:Nat} (hx:x<T9):dG (l++[x]):=fun y hy=>by
 rcases List.mem_append.1 hy with hy | hy
 ·exact h y hy
 ·simp at hy; omega
theorem UF {l:List Nat} (h:dG l) (i:Nat):l.getD i 0<T9:=by
 rw [List.getD_eq_getElem?_getD]
 cases hl:l[i]? with
 | none=>exact rZ
 | some x=>exact h.get hl
theorem adN (l:List Nat) (i:Nat):bH (l.take (i+1))=bH (l.take i)+T9^i*l.getD i 0:=by
 rw [List.getD_eq_getElem?_getD]
 cases hl:l[i]? with
 | none =>
   have : l.length≤i:=List.getElem?_eq_none_iff.1 hl
   rw [List.take_of_length_le (by omega),List.take_of_length_le this]; simp
 | some x=>exact Bg hl
theorem aby (l:List Nat) (x:Nat):bH (l++[x])=bH l+T9^l.length*x:=by rw [Ht]; simp
theorem Uu {o:List Nat} {j z:Nat} (v:Nat) (h:o[j]?=some z):bH (o.set j v)+T9^j*z=bH o+T9^j*v:=by
 induction o generalizing j with
 | nil=>simp at h
 | cons x xs ih =>
   cases j with
   | zero=>simp at h; subst h; simp; omega
   | succ j =>
     simp at h
     have := ih h
     simp only [List.set_cons_succ,ni,Nat.pow_succ]
     have e:T9*(bH (xs.set j v)+T9^j*z)=T9*(bH xs+T9^j*v):=by rw [this]
     rw [Nat.mul_add,Nat.mul_add,← Nat.mul_assoc,← Nat.mul_assoc,Nat.mul_comm T9 (T9^j)] at e
     omega
theorem dG.set {o:List Nat} (h:dG o) {v:Nat} (hv:v<T9) (j:Nat):dG (o.set j v):=fun x hx=>by
 rcases List.mem_or_eq_of_mem_set hx with h1 | h1
 ·exact h x h1
 ·omega
theorem awM (n:Nat):bH (List.replicate n 0)=0:=by
 induction n with
 | zero=>rfl
 | succ n ih=>simp [List.replicate_succ,ih]
theorem asG (n:Nat):dG (List.replicate n 0):=fun x hx=>by
 have := List.eq_of_mem_replicate hx
 rw [this]; exact rZ
theorem aaY {n:Nat} (h:n≠0):ah n=n % T9::ah (n / T9):=by
 refine afi (iL n) ⟨fun x hx=>?_,fun hne=>?_⟩ ?_
 ·rcases List.mem_cons.1 hx with rfl | hx
  ·exact Nat.mod_lt _ rZ
  ·exact (iL (n / T9)).1 x hx
 ·by_cases h0:n / T9=0
  ·have e:ah (n / T9)=[]:=by rw [h0]; exact oI
   have h2:=Nat.mod_add_div n T9
   rw [h0] at h2
   simp only [e,List.getLast_singleton]
   omega
  ·rw [List.getLast_cons (amZ h0)]
   exact (iL (n / T9)).2 _
 ·rw [iV,ni,iV]
  exact (Nat.mod_add_div n T9).symm
abbrev n9 (n:Nat):D:=aQ (ah n)
theorem azY {n:Nat} (h:n<1000000000):n9 n=nD n:=by
 unfold nD
 by_cases h0:n=0
 ·subst h0
  rw [if_pos rfl]
  show aQ (ah 0)=_
  rw [oI]
  rfl
 ·have e:n / T9=0:=Nat.div_eq_of_lt h
  have e2:n % T9=n:=Nat.mod_eq_of_lt h
  rw [if_neg h0]
  show aQ (ah n)=_
  rw [aaY h0,e,e2,oI]
  rfl
def nK (n:Nat):Prop:=(ah n).length≤1000000000
theorem NB.iH {k n:Nat} (h:NB k n) (hk:k≤20000000):nK n:=by
 have h1:n<T9^(k / 29+1):=by
  have h2:(2^29)^(k / 29+1)≤T9^(k / 29+1):=Nat.pow_le_pow_left (by decide) _
  refine Nat.lt_of_lt_of_le (Nat.lt_of_lt_of_le h ?_) h2
  rw [← Nat.pow_mul]
  exact Nat.pow_le_pow_right (by decide) (by omega)
 have := aez h1
 unfold nK
 omega
end Go.Ev.Code
end
section
namespace Go.Ev.Code
open Go Go.Ev
theorem awI (l:List Nat) (hl:l.length≤maxL):L.loop [0] [0] nI 0 [aQ l] []=some (.exit 0,[aQ (gq l)],[]):=by
 unfold maxL at hl
 revert hl
 refine anh (P:=fun l=>l.length≤4294967290→L.loop [0] [0] nI 0 [aQ l] []=some (.exit 0,[aQ (gq l)],[])) ?_ ?_ l
 ·intro hl
  refine au (O1 ..) ?_
  simp [vM,gq]
 ·intro l x ih hl
  have hl':l.length≤4294967289:=by simp at hl; omega
  refine au (O1 ..) ?_
  have e1:(0:Int)<(l.length:Int)+1:=by omega
  have e2:(l.map ak++[ak x])[l.length]?=some (ak x):=by
   rw [List.getElem?_append_right (by simp)]; simp
  have e3:(l.map ak++[ak x]).take l.length=l.map ak:=List.take_left' (by simp)
  by_cases hx:x=0
  ·have ht:gq (l++[x])=gq l:=by subst hx; exact R_ l
   simp (disch:=omega) [vM,e1,e2,e3,wrap64,ht,ih (by omega),eq_true hx]
  ·simp (disch:=omega) [vM,e1,e2,e3,wrap64,ae_ _ hx,hx]
theorem D6 (l:List Nat) (hs:dG l) (hl:l.length≤maxL):L.call iI [aQ l]=some (n9 (bH l)):=by
 refine aj (agq ..) ?_
 simp [V4,awI l hl,awJ hs]
theorem arY:∀ (f x:Nat) (acc:List Nat),x<T9^f→x<18446744073709551616→acc≠[]→acc.length+f≤1000 →
  L.loop [0,3] [3] jf 0 [ak x,.aO 0 0 acc.length 1] [.live (acc.map ak)]=some (.exit 0,[.aO 0 0 (acc++ah x).length 1],[.live ((acc++ah x).map ak)])
 | 0,x,acc,h,_,hne,_=>by
   have hx:x=0:=by simp at h; exact h
   subst hx
   rw [oI,List.append_nil]
   refine au (jV ..) ?_
   simp [jg]
 | f+1,x,acc,h,hx64,hne,hl=>by
   by_cases hx:x=0
   ·subst hx
    rw [oI,List.append_nil]
    refine au (jV ..) ?_
    simp [jg]
   ·obtain ⟨q,hq⟩:∃ q,q=x / T9:=⟨_,rfl⟩
    obtain ⟨r,hr⟩:∃ r,r=x % T9:=⟨_,rfl⟩
    have hd:q<T9^f:=by rw [hq,Nat.div_lt_iff_lt_mul rZ]; rw [Nat.pow_succ] at h; exact h
    have hle:q≤x:=by rw [hq]; exact Nat.div_le_self _ _
    have ih:=arY f q (acc++[r]) hd (by omega) (by simp) (by simp; omega)
    have hst:=aaY hx
    rw [← hq,← hr] at hst
    rw [List.append_assoc,List.singleton_append,← hst] at ih
    have hpos:(0:Int)<(x:Int):=by omega
    have hpos':0<x:=by omega
    have e1:Int.tmod (x:Int) 1000000000=(r:Int):=by rw [hr]; exact tK x 1000000000
    have e2:Int.tdiv (x:Int) 1000000000=(q:Int):=by rw [hq]; exact Cj x 1000000000
    have e3:IntKind.u64.wrap (q:Int)=(q:Int):=by
     clear e1 e2 hq hr
     exact dJ _ (by omega)
    have hlen:acc.length+1≤4294967296:=by omega
    have htk:(acc.map ak).take acc.length=acc.map ak:=lD _ _ (Nat.le_refl _)
    rw [Zh,List.length_append,List.length_singleton] at ih
    simp only [ak] at ih ⊢
    clear hst hq hr
    generalize acc++ah x=res at *
    generalize (x:Int)=xz at *
    refine au (jV ..) ?_
    simp [jg,hpos,hpos',e1,e2,e3,f_,hlen,htk,ih]
theorem jF {x:Nat} (h:x<18446744073709551616):L.call mY [.int .u64 x]=some (n9 x):=by
 by_cases h0:x=0
 ·subst h0
  have := aji (x:=0) (by omega)
  rw [← azY (by omega)] at this
  exact this
 ·obtain ⟨q,hq⟩:∃ q,q=x / T9:=⟨_,rfl⟩
  obtain ⟨r,hr⟩:∃ r,r=x % T9:=⟨_,rfl⟩
  have hx3:x<T9^3:=Nat.lt_of_lt_of_le h (by decide)
  have hd:q<T9^2:=by rw [hq,Nat.div_lt_iff_lt_mul rZ]; exact hx3
  have hle:q≤x:=by rw [hq]; exact Nat.div_le_self _ _
  have ih:=arY 2 q [r] hd (by omega) (by simp) (by simp)
  have hst:=aaY h0
  rw [← hq,← hr] at hst
  rw [List.singleton_append,← hst] at ih
  have hpos:(0:Int)<(x:Int):=by omega
  have hpos':0<x:=by omega
  have e1:Int.tmod (x:Int) 1000000000=(r:Int):=by rw [hr]; exact tK x 1000000000
  have e2:Int.tdiv (x:Int) 1000000000=(q:Int):=by rw [hq]; exact Cj x 1000000000
  have e3:IntKind.u64.wrap (q:Int)=(q:Int):=by
   clear e1 e2 hq hr
   exact dJ _ (by omega)
  simp only [List.map_cons,List.map_nil,List.length_singleton,ak] at ih
  clear hst hq hr
  have hl:L.loop [0,3] [3] jf 0 [.int .u64 x,.dh] []=some (.exit 0,[.aO 0 0 (ah x).length 1],[.live ((ah x).map ak)]):=by
   generalize ah x=res at *
   generalize (x:Int)=xz at *
   refine au (jV ..) ?_
   simp [jg,hpos,hpos',e1,e2,e3,f_,ih]
  have htk:=lD (ah x) (ah x).length (Nat.le_refl _)
  refine aj (MB ..) ?_
  simp [C_,hl,htk]
theorem anR {la lb:List Nat} (sa:dG la) (sb:dG lb) (hlen:la.length=lb.length) (hL:la.length≤maxL) :
  ∀ k:Nat,k≤la.length→L.loop [0,1,5] [4] uM 0 [aQ la,aQ lb,.int .i64 ((k:Int)-1)] []=some (MC (bH (la.take k)) (bH (lb.take k)) [])
 | 0,_=>by
   refine au (P5 ..) ?_
   simp [qK,MC]
 | k+1,hk=>by
   unfold maxL at hL
   obtain ⟨u,hu⟩:∃ u,la[k]?=some u:=⟨la[k],List.getElem?_eq_getElem hk⟩
   obtain ⟨v,hv⟩:∃ v,lb[k]?=some v:=⟨lb[k],List.getElem?_eq_getElem (by omega)⟩
   obtain ⟨p,p1,p2⟩:=(uw.sl [] la).read .i64 (i:=(k:Int)) (by omega) (by simpa using hu)
   obtain ⟨q,q1,q2⟩:=(uw.sl [] lb).read .i64 (i:=(k:Int)) (by omega) (by simpa using hv)
   have ih:=anR sa sb hlen (by unfold maxL; omega) k (by omega)
   have e0:((k+1:Nat):Int)-1=k:=by omega
   have e1:(0:Int)≤k:=by omega
   have e2:IntKind.i64.wrap ((k:Int)-1)=(k:Int)-1:=wrap64 _ (by omega)
   have a1:=Bg hu
   have b1:=Bg hv
   have a2:=JW sa (k:=k)
   have b2:=JW sb (k:=k)
   rw [e0]
   refine au (P5 ..) ?_
   rcases Nat.lt_trichotomy u v with h | h | h
   ·have : bH (la.take (k+1))<bH (lb.take (k+1)):=by rw [a1,b1]; exact alz a2 h
    have hI:(u:Int)<v:=by omega
    simp only [qK,fl]
    simp [p1,p2,q1,q2,h,hI,e1,MC,this]
   ·subst h
    have h1:MC (bH (la.take (k+1))) (bH (lb.take (k+1))) []=MC (bH (la.take k)) (bH (lb.take k)) []:=by
     unfold MC
     rw [a1,b1]
     simp
    simp only [qK,fl]
    simp [p1,p2,q1,q2,e1,e2,ih,h1]
   ·have h1:bH (lb.take (k+1))<bH (la.take (k+1)):=by rw [a1,b1]; exact alz b2 h
    have h2:¬ u<v:=by omega
    have h2I:¬ (u:Int)<v:=by omega
    have hI:(v:Int)<u:=by omega
    have h3:¬ bH (la.take (k+1))<bH (lb.take (k+1)):=by omega
    have h4:¬ bH (la.take (k+1))=bH (lb.take (k+1)):=by omega
    simp only [qK,fl]
    simp [p1,p2,q1,q2,h,hI,h2,h2I,e1,MC,h3,h4]
theorem U2 {a b:Nat} (ha:nK a) (hb:nK b):L.call qF [n9 a,n9 b]=some (.int .i64 (fM a b)):=by
 unfold nK at ha hb
 show L.call qF [aQ (ah a),aQ (ah b)]=_
 have ca:=iL a
 have cb:=iL b
 have va:=iV a
 have vb:=iV b
 generalize ah a=la at *
 generalize ah b=lb at *
 rw [← va,← vb]
 refine aj (aiz ..) ?_
 by_cases hl:la.length=lb.length
 ·have hloop:=anR ca.1 cb.1 hl (by unfold maxL; omega) la.length (Nat.le_refl _)
  have e2:IntKind.i64.wrap ((lb.length:Int)-1)=(lb.length:Int)-1:=wrap64 _ (by omega)
  rw [List.take_of_length_le (Nat.le_refl _),List.take_of_length_le (by omega)] at hloop
  unfold MC at hloop
  unfold fM
  have e3:(la.length:Int)=lb.length:=by omega
  simp only [aQ,hl] at hloop
  by_cases h1:bH la<bH lb
  ·rw [if_pos h1] at hloop
   simp [qV,hl,e2,hloop,h1]
  ·by_cases h2:bH la=bH lb
   ·rw [if_neg h1,if_pos h2] at hloop
    simp [qV,hl,e2,hloop,h1,h2]
   ·rw [if_neg h1,if_neg h2] at hloop
    simp [qV,hl,e2,hloop,h1,h2]
 ·have hl':¬ (la.length:Int)=lb.length:=by omega
  unfold fM
  rcases Nat.lt_or_ge la.length lb.length with h | h
  ·have hI:(la.length:Int)<lb.length:=by omega
   rw [if_pos (aaK ca.1 cb h)]
   simp [qV,hl,hl',h,hI]
  ·have hv:=aaK cb.1 ca (by omega)
   have hI:¬ (la.length:Int)<lb.length:=by omega
   have hN:¬ la.length<lb.length:=by omega
   rw [if_neg (by omega),if_neg (by omega)]
   simp [qV,hl,hl',hN,hI]
theorem axg {l:List Nat} (h:dG l) (hv:l=[]∨T9^(l.length-1)≤bH l):ah (bH l)=l:=by
 refine arx ⟨h,fun hne=>?_⟩
 intro h0
 rcases hv with hv | hv
 ·exact hne hv
 ·have e:=List.dropLast_concat_getLast hne
  have hs:dG l.dropLast:=fun x hx=>h x (List.dropLast_subset l hx)
  have h1:=ait hs
  have h2:bH l=bH l.dropLast:=by
   conv=>lhs; rw [← e]
   rw [Ht,h0]
   simp
  rw [List.length_dropLast] at h1
  omega
end Go.Ev.Code
end
section
namespace Go.Ev.Code
open Go Go.Ev
theorem aaV {l:List Nat} {i:Nat} (h:¬ i<l.length):l.getD i 0=0:=by simp [List.getD,List.getElem?_eq_none_iff.2 (by omega:l.length≤i)]
theorem anI {la lb r:List Nat} {i:Nat} (h1:la.length≤i) (h2:lb.length≤i) :
  L.loop [0,1,5,6,7] [5] je 0 [aQ la,aQ lb,.aO 0 0 i 1,ak 0,.int .i64 i] [.live (r.map ak)]=some (.exit 0,[.aO 0 0 i 1],[.live (r.map ak)]):=by
 have i1:¬ (i:Int)<la.length:=by omega
 have i2:¬ (i:Int)<lb.length:=by omega
 have i3:¬ i<la.length:=by omega
 have i4:¬ i<lb.length:=by omega
 refine au (fU ..) ?_
 simp [fF,i1,i2,i3,i4]
theorem anH {la lb r:List Nat} {i c:Nat} {R:Ex×List D×Mem} (sa:dG la) (sb:dG lb) (hi:i<la.length∨i<lb.length∨c=1) (hc:c≤1) (hr:r.length=i) (hn:i≤2000000000)
  (h:L.loop [0,1,5,6,7] [5] je 0 [aQ la,aQ lb,.aO 0 0 (i+1) 1,ak ((c+la.getD i 0+lb.getD i 0) / T9),.int .i64 ((i+1:Nat):Int)] [.live ((r++[(c+la.getD i 0+lb.getD i 0) % T9]).map ak)]=some R)
  (x:D) (m:Mem) (hx:x = .aO 0 0 i 1∧m=[.live (r.map ak)]∨x = .dh∧m=[]∧r=[]) :
  L.loop [0,1,5,6,7] [5] je 0 [aQ la,aQ lb,x,ak c,.int .i64 i] m=some R:=by
 have bx:=UF sa i
 have by':=UF sb i
 have e1:IntKind.i64.wrap ((i:Int)+1)=((i+1:Nat):Int):=by rw [wrap64 _ (by omega)]; omega
 have gx:∀ h:i<la.length,la[i]=la.getD i 0:=fun h=>by simp [List.getD,h]
 have gy:∀ h:i<lb.length,lb[i]=lb.getD i 0:=fun h=>by simp [List.getD,h]
 have zx:¬ i<la.length→la.getD i 0=0:=aaV
 have zy:¬ i<lb.length→lb.getD i 0=0:=aaV
 generalize la.getD i 0=u at *
 generalize lb.getD i 0=v at *
 have hu:u<1000000000:=bx
 have hv:v<1000000000:=by'
 have e2:IntKind.u64.wrap ((c:Int)+u)=((c+u:Nat):Int):=by rw [dJ _ (by omega)]; omega
 have e3:IntKind.u64.wrap (((c+u:Nat):Int)+v)=((c+u+v:Nat):Int):=by rw [dJ _ (by omega)]; omega
 have e3':IntKind.u64.wrap ((c:Int)+u+v)=((c+u+v:Nat):Int):=by rw [dJ _ (by omega)]; omega
 have e4:IntKind.u64.wrap ((c:Int)+v)=((c+v:Nat):Int):=by rw [dJ _ (by omega)]; omega
 obtain ⟨S,hS⟩:∃ S,S=c+u+v:=⟨_,rfl⟩
 obtain ⟨Q,hQ⟩:∃ Q,Q=S / T9:=⟨_,rfl⟩
 obtain ⟨M,hM⟩:∃ M,M=S % T9:=⟨_,rfl⟩
 have hQle:Q≤S:=by rw [hQ]; exact Nat.div_le_self _ _
 rw [← hS] at h e3 e3'
 rw [← hQ,← hM] at h
 have e5:Int.tmod (S:Int) 1000000000=(M:Int):=by rw [hM]; exact tK _ 1000000000
 have e6:Int.tdiv (S:Int) 1000000000=(Q:Int):=by rw [hQ]; exact Cj _ 1000000000
 have e7:IntKind.u64.wrap (Q:Int)=(Q:Int):=by
  clear e5 e6 hQ hM e1 e2 e3 e3' e4
  exact dJ _ (by omega)
 have hlen:i+1≤4294967296:=by omega
 have htk:=lD r i (by omega)
 rw [Zh] at h
 simp only [ak] at h ⊢
 obtain ⟨i1,hi1⟩:∃ i1,i1=i+1:=⟨_,rfl⟩
 rw [← hi1] at h e1 hlen
 by_cases la1:i<la.length
 ·have laI:(i:Int)<la.length:=by omega
  have g1:=gx la1
  by_cases lb1:i<lb.length
  ·have lbI:(i:Int)<lb.length:=by omega
   have g2:=gy lb1
   rcases hx with ⟨rfl,rfl⟩ | ⟨rfl,rfl,rfl⟩
   ·refine au (fU ..) ?_
    simp [fF,la1,laI,lb1,lbI,g1,g2,e1,e2,e3,e3',e5,e6,e7,f_,hlen,htk,← hi1,h,hr]
   ·have hi0:i=0:=by simpa using hr.symm
    subst hi0
    obtain rfl:i1=1:=hi1
    simp at h
    refine au (fU ..) ?_
    simp [fF,la1,laI,lb1,lbI,g1,g2,e1,e2,e3,e3',e5,e6,e7,f_,hlen,h,wrap64]
  ·have lbI:¬ (i:Int)<lb.length:=by omega
   have v0:=zy lb1
   subst v0
   have hS0:S=c+u:=by omega
   rw [← hS0] at e2
   rcases hx with ⟨rfl,rfl⟩ | ⟨rfl,rfl,rfl⟩
   ·refine au (fU ..) ?_
    simp [fF,la1,laI,lb1,lbI,g1,e1,e2,e5,e6,e7,f_,hlen,htk,← hi1,h,hr]
   ·have hi0:i=0:=by simpa using hr.symm
    subst hi0
    obtain rfl:i1=1:=hi1
    simp at h
    refine au (fU ..) ?_
    simp [fF,la1,laI,lb1,lbI,g1,e1,e2,e5,e6,e7,f_,hlen,h,wrap64]
 ·have laI:¬ (i:Int)<la.length:=by omega
  have u0:=zx la1
  subst u0
  by_cases lb1:i<lb.length
  ·have lbI:(i:Int)<lb.length:=by omega
   have g2:=gy lb1
   have hS0:S=c+v:=by omega
   rw [← hS0] at e4
   rcases hx with ⟨rfl,rfl⟩ | ⟨rfl,rfl,rfl⟩
   ·refine au (fU ..) ?_
    simp [fF,la1,laI,lb1,lbI,g2,e1,e4,e5,e6,e7,f_,hlen,htk,← hi1,h,hr]
   ·have hi0:i=0:=by simpa using hr.symm
    subst hi0
    obtain rfl:i1=1:=hi1
    simp at h
    refine au (fU ..) ?_
    simp [fF,la1,laI,lb1,lbI,g2,e1,e4,e5,e6,e7,f_,hlen,h,wrap64]
  ·have lbI:¬ (i:Int)<lb.length:=by omega
   have v0:=zy lb1
   subst v0
   have hc1:c=1:=by omega
   have hS0:S=1:=by omega
   subst hc1
   have hQ0:Q=0:=by rw [hQ,hS0]; decide
   have hM0:M=1:=by rw [hM,hS0]; decide
   clear e2 e3 e3' e4 e5 e6 e7 hQ hM hQle
   subst hQ0
   subst hM0
   have e5:Int.tmod 1 1000000000=1:=by decide
   have e6:Int.tdiv 1 1000000000=0:=by decide
   have e7:IntKind.u64.wrap 0=0:=by decide
   rcases hx with ⟨rfl,rfl⟩ | ⟨rfl,rfl,rfl⟩
   ·refine au (fU ..) ?_
    simp at h
    simp [fF,la1,laI,lb1,lbI,e1,e5,e6,e7,f_,hlen,htk,← hi1,h,hr]
   ·have hi0:i=0:=by simpa using hr.symm
    subst hi0
    obtain rfl:i1=1:=hi1
    simp at h
    refine au (fU ..) ?_
    simp [fF,la1,laI,lb1,lbI,e1,e5,e6,e7,f_,hlen,h,wrap64]
theorem anG {la lb:List Nat} (sa:dG la) (sb:dG lb) (hL:la.length≤1000000000) (hL2:lb.length≤1000000000):∀ (k i:Nat) (r:List Nat) (c:Nat),i+k=max la.length lb.length→r.length=i→dG r→c≤1→bH r+T9^i*c=bH (la.take i)+bH (lb.take i)→(1≤i∨1≤k) →
  ∃ r',dG r'∧bH r'=bH la+bH lb∧(r'.length=max la.length lb.length∨r'.length=max la.length lb.length+1∧T9^max la.length lb.length≤bH r') ∧
    ∀ (x:D) (m:Mem),(x = .aO 0 0 i 1∧m=[.live (r.map ak)]∨x = .dh∧m=[]∧r=[]) →
    L.loop [0,1,5,6,7] [5] je 0 [aQ la,aQ lb,x,ak c,.int .i64 i] m=some (.exit 0,[.aO 0 0 r'.length 1],[.live (r'.map ak)])
 | 0,i,r,c,hk,hr,sr,hc,hv,h1=>by
   have hi:i=max la.length lb.length:=by omega
   rw [List.take_of_length_le (by omega),List.take_of_length_le (by omega)] at hv
   rcases Nat.eq_zero_or_pos c with h0 | h0
   ·subst h0
    refine ⟨r,sr,by simpa using hv,.inl (by omega),fun x m hx=>?_⟩
    rcases hx with ⟨rfl,rfl⟩ | ⟨rfl,rfl,rfl⟩
    ·rw [hr]
     exact anI (by omega) (by omega)
    ·simp at hr; omega
   ·have hc1:c=1:=by omega
    subst hc1
    have z1:la.getD i 0=0:=aaV (by omega)
    have z2:lb.getD i 0=0:=aaV (by omega)
    have hs:=anI (la:=la) (lb:=lb) (r:=r++[1]) (i:=i+1) (by omega) (by omega)
    refine ⟨r++[1],sr.snoc (by decide),by rw [aby,hr]; exact hv,.inr ⟨by simp; omega,?_⟩,fun x m hx=>?_⟩
    ·rw [aby,hr,hi,Nat.mul_one]
     exact Nat.le_add_left _ _
    ·refine anH (r:=r) (i:=i) (c:=1) sa sb (.inr (.inr rfl)) (by omega) hr (by omega) ?_ x m hx
     rw [z1,z2]
     rw [show (1+0+0) / T9=0 by decide,show (1+0+0) % T9=1 by decide,List.length_append,hr,List.length_singleton]
     exact hs
 | k+1,i,r,c,hk,hr,sr,hc,hv,h1=>by
   have hi:i<la.length∨i<lb.length:=by omega
   have bx:=UF sa i
   have by':=UF sb i
   have hu:la.getD i 0<1000000000:=bx
   have hvv:lb.getD i 0<1000000000:=by'
   have ta:=adN la i
   have tb:=adN lb i
   have hdm:=Nat.mod_add_div (c+la.getD i 0+lb.getD i 0) T9
   have hml:=Nat.mod_lt (c+la.getD i 0+lb.getD i 0) rZ
   have hq:(c+la.getD i 0+lb.getD i 0) / T9≤1:=by
    have : (c+la.getD i 0+lb.getD i 0) / T9<2:=by
     rw [Nat.div_lt_iff_lt_mul rZ]
     show _<2*1000000000
     omega
    omega
   obtain ⟨r',g1,g2,g3,g4⟩:=anG sa sb hL hL2 k (i+1) (r++[(c+la.getD i 0+lb.getD i 0) % T9]) ((c+la.getD i 0+lb.getD i 0) / T9) (by omega) (by simp [hr]) (sr.snoc hml) hq (by
    rw [aby,hr,ta,tb,Nat.pow_succ,Nat.mul_assoc]
    generalize la.getD i 0=x at *
    generalize lb.getD i 0=y at *
    have : T9^i*((c+x+y) % T9)+T9^i*(T9*((c+x+y) / T9))=T9^i*x+T9^i*y+T9^i*c:=by
     rw [← Nat.mul_add,hdm,Nat.mul_add,Nat.mul_add]
     omega
    omega) (.inl (by omega))
   refine ⟨r',g1,g2,g3,fun x m hx=>?_⟩
   refine anH (r:=r) (i:=i) (c:=c) sa sb (by omega) hc hr (by omega) ?_ x m hx
   exact g4 _ _ (.inl ⟨rfl,rfl⟩)
theorem acp {a b:Nat} (ha:nK a) (hb:nK b):L.call qE [n9 a,n9 b]=some (n9 (a+b)):=by
 unfold nK at ha hb
 have ca:=iL a
 have cb:=iL b
 by_cases h0:max (ah a).length (ah b).length=0
 ·have ea:ah a=[]:=List.eq_nil_of_length_eq_zero (by omega)
  have eb:ah b=[]:=List.eq_nil_of_length_eq_zero (by omega)
  have va:a=0:=by rw [← iV a,ea]; rfl
  have vb:b=0:=by rw [← iV b,eb]; rfl
  subst va
  subst vb
  show L.call qE [aQ (ah 0),aQ (ah 0)]=some (aQ (ah 0))
  rw [oI]
  have hl:L.loop [0,1,5,6,7] [5] je 0 [aQ [],aQ [],.dh,.int .u64 0,.int .i64 0] []=some (.exit 0,[.dh],[]):=by
   refine au (fU ..) ?_
   simp [fF]
  simp at hl
  refine aj (XA ..) ?_
  simp [Nq,hl]
 ·obtain ⟨r',g1,g2,g3,g4⟩:=anG ca.1 cb.1 ha hb (max (ah a).length (ah b).length) 0 [] 0 (by omega) rfl (fun x hx=>by simp at hx) (by omega) (by simp) (.inr (by omega))
  have hl:=g4 .dh [] (.inr ⟨rfl,rfl,rfl⟩)
  have hv:bH r'=a+b:=by rw [g2,iV,iV]
  have hcan:ah (a+b)=r':=by
   rw [← hv]
   refine axg g1 (.inr ?_)
   rcases g3 with g3 | ⟨g3,g5⟩
   ·rw [g3,g2]
    rcases Nat.le_total (ah b).length (ah a).length with h | h
    ·rw [Nat.max_eq_left h]
     exact Nat.le_trans (aaJ ca (by intro e; rw [e] at h0 h; simp at h; rw [h] at h0; simp at h0)) (Nat.le_add_right _ _)
    ·rw [Nat.max_eq_right h]
     exact Nat.le_trans (aaJ cb (by intro e; rw [e] at h0 h; simp at h; rw [h] at h0; simp at h0)) (Nat.le_add_left _ _)
   ·rw [g3,Nat.add_sub_cancel]
    exact g5
  show L.call qE [aQ (ah a),aQ (ah b)]=some (aQ (ah (a+b)))
  rw [hcan]
  simp only [ak] at hl
  have htk:=lD r' r'.length (Nat.le_refl _)
  generalize ah a=la at *
  generalize ah b=lb at *
  simp at hl
  refine aj (XA ..) ?_
  simp [Nq,hl,htk]
end Go.Ev.Code
end
section
namespace Go.Ev.Code
open Go Go.Ev
theorem au1 {la lb:List Nat} {i x N:Nat} (sb:dG lb) (hx:x<T9) (hxl:la[i]?=some x) (hN:i+lb.length<N) (hN2:N≤2000000000) :
  ∀ (j k:Nat) (o:List Nat) (c:Nat),k+j=lb.length→o.length=N→dG o→c<T9→o[i+lb.length]?=some 0 →
  ∃ o',o'.length=N∧dG o'∧bH o'+T9^i*(x*bH (lb.take k))=bH o+T9^(i+k)*c+T9^i*(x*bH lb)∧(∀ n,i+lb.length<n→o'[n]?=o[n]?) ∧
    L.loop [0,1,5,6,7,8] [0,1,5,6] oN 1 [aQ la,aQ lb,.aO 0 0 N 1,.int .i64 i,ak c,.int .i64 k] [.live (o.map ak)] =
      some (.exit 2,[aQ la,aQ lb,.aO 0 0 N 1,.int .i64 i],[.live (o'.map ak)])
 | 0,k,o,c,hk,hr,sr,hc,hz=>by
   have hkb:k=lb.length:=by omega
   subst hkb
   have hstop:∀ (n:Nat) (q:List Nat),lb.length≤n→L.loop [0,1,5,6,7,8] [0,1,5,6] oN 1 [aQ la,aQ lb,.aO 0 0 N 1,.int .i64 i,ak 0,.int .i64 n] [.live (q.map ak)] =
     some (.exit 2,[aQ la,aQ lb,.aO 0 0 N 1,.int .i64 i],[.live (q.map ak)]):=by
    intro n q hn
    have h1:¬ (n:Int)<lb.length:=by omega
    have h2:¬ n<lb.length:=by omega
    refine au (Ee ..) ?_
    simp [xk,h1,h2]
   rcases Nat.eq_zero_or_pos c with h0 | h0
   ·subst h0
    exact ⟨o,hr,sr,by rw [List.take_of_length_le (Nat.le_refl _)]; simp,fun _ _=>rfl,hstop _ _ (Nat.le_refl _)⟩
   ·have hset:=Uu c hz
    have hcT:c<1000000000:=hc
    have hs:=hstop (lb.length+1) (o.set (i+lb.length) c) (by omega)
    refine ⟨o.set (i+lb.length) c,by simp [hr],sr.set hc _,by rw [List.take_of_length_le (Nat.le_refl _)]; simp at hset; omega,fun n hn=>List.getElem?_set_ne (by omega),?_⟩
    have e1:IntKind.i64.wrap ((lb.length:Int)+1)=((lb.length+1:Nat):Int):=by rw [wrap64 _ (by omega)]; omega
    have e2:IntKind.i64.wrap ((i:Int)+lb.length)=((i+lb.length:Nat):Int):=by rw [wrap64 _ (by omega)]; omega
    have e3:IntKind.u64.wrap (c:Int)=(c:Int):=dJ _ (by omega)
    have e4:Int.tmod (c:Int) 1000000000=(c:Int):=by rw [Int.tmod_eq_emod_of_nonneg (by omega)]; omega
    have e5:Int.tdiv (c:Int) 1000000000=0:=by rw [Int.tdiv_eq_ediv_of_nonneg (by omega)]; omega
    have e6:IntKind.u64.wrap 0=0:=by decide
    have hcp:(0:Int)<(c:Int):=by omega
    have hl:(i:Int)+lb.length<N:=by omega
    have hz1:∀ p:i+lb.length<o.length,o[i+lb.length]=0:=fun p=>by simpa using (List.getElem?_eq_some_iff.1 hz).2
    have q1:((i:Int)+(lb.length:Int)).toNat=i+lb.length:=by omega
    simp [-List.map_set] at hs
    refine au (Ee ..) ?_
    simp (disch:=omega) [-List.map_set,lW,xk,e1,e2,e3,e4,e5,e6,h0,hcp,hl,hr,hz1,q1,hs]
 | j+1,k,o,c,hk,hr,sr,hc,hz=>by
   have hkl:k<lb.length:=by omega
   obtain ⟨y,hy0⟩:∃ y,lb[k]?=some y:=⟨lb[k],List.getElem?_eq_getElem hkl⟩
   obtain ⟨z,hz0⟩:∃ z,o[i+k]?=some z:=⟨o[i+k],List.getElem?_eq_getElem (by omega)⟩
   have hy:=sb.get hy0
   have hzz:=sr.get hz0
   have hyT:y<1000000000:=hy
   have hzT:z<1000000000:=hzz
   have hxT:x<1000000000:=hx
   have hcT:c<1000000000:=hc
   have hil:i<la.length:=(List.getElem?_eq_some_iff.1 hxl).1
   have hx1:la[i]=x:=by simpa using (List.getElem?_eq_some_iff.1 hxl).2
   have hy1:lb[k]=y:=by simpa using (List.getElem?_eq_some_iff.1 hy0).2
   have hio:i+k<o.length:=by omega
   have hz1:o[i+k]=z:=by simpa using (List.getElem?_eq_some_iff.1 hz0).2
   have tb:=Bg hy0
   have hxy:x*y≤999999999*999999999:=Nat.mul_le_mul (by omega) (by omega)
   obtain ⟨p,hp⟩:∃ p,p=x*y:=⟨_,rfl⟩
   rw [← hp] at hxy
   obtain ⟨s,hs⟩:∃ s,s=z+c+p:=⟨_,rfl⟩
   obtain ⟨Q,hQ⟩:∃ Q,Q=s / T9:=⟨_,rfl⟩
   obtain ⟨M,hM⟩:∃ M,M=s % T9:=⟨_,rfl⟩
   have hdm:=Nat.mod_add_div s T9
   have hml:=Nat.mod_lt s rZ
   have hq:s / T9<T9:=by
    rw [Nat.div_lt_iff_lt_mul rZ]
    show s<1000000000*1000000000
    omega
   have e6:Int.tmod (s:Int) 1000000000=(M:Int):=by rw [hM]; exact tK _ 1000000000
   have e7:Int.tdiv (s:Int) 1000000000=(Q:Int):=by rw [hQ]; exact Cj _ 1000000000
   rw [← hM,← hQ] at hdm
   rw [← hM] at hml
   rw [← hQ] at hq
   have e8:IntKind.u64.wrap (Q:Int)=(Q:Int):=by
    have hq2:Q<1000000000:=hq
    clear e6 e7 hdm hQ hM
    exact dJ _ (by omega)
   clear hQ hM
   have e1:IntKind.i64.wrap ((k:Int)+1)=((k+1:Nat):Int):=by rw [wrap64 _ (by omega)]; omega
   have e2:IntKind.i64.wrap ((i:Int)+k)=((i+k:Nat):Int):=by rw [wrap64 _ (by omega)]; omega
   have e3:IntKind.u64.wrap ((z:Int)+c)=((z+c:Nat):Int):=by rw [dJ _ (by omega)]; omega
   have hpI:(x:Int)*y=(p:Int):=by rw [hp]; simp
   have e4:IntKind.u64.wrap ((x:Int)*y)=(p:Int):=by
    rw [hpI]
    exact dJ _ (by omega)
   have e5:IntKind.u64.wrap (((z+c:Nat):Int)+p)=(s:Int):=by rw [dJ _ (by omega)]; omega
   have e5':IntKind.u64.wrap ((z:Int)+c+p)=(s:Int):=by rw [dJ _ (by omega)]; omega
   have hset:=Uu M hz0
   obtain ⟨o',g1,g2,g4,g5,g6⟩:=au1 (la:=la) sb hx hxl hN hN2 j (k+1) (o.set (i+k) M) Q (by omega) (by simp [hr]) (sr.set hml _) hq (by rw [List.getElem?_set_ne (by omega)]; exact hz)
   refine ⟨o',g1,g2,?_,fun n hn=>by rw [g5 n hn,List.getElem?_set_ne (by omega)],au (Ee ..) ?_⟩
   ·rw [tb] at g4
    have p1:T9^(i+(k+1))*Q=T9^(i+k)*(T9*Q):=by rw [← Nat.add_assoc,Nat.pow_succ,Nat.mul_assoc]
    have p2:T9^(i+k)*M+T9^(i+k)*(T9*Q)=T9^(i+k)*p+T9^(i+k)*z+T9^(i+k)*c:=by
     rw [← Nat.mul_add,hdm,hs,Nat.mul_add,Nat.mul_add]
     omega
    have p3:T9^i*(x*(bH (lb.take k)+T9^k*y))=T9^i*(x*bH (lb.take k))+T9^(i+k)*p:=by
     rw [Nat.mul_add,Nat.mul_add,Nat.pow_add,Nat.mul_left_comm x,Nat.mul_assoc,hp]
    rw [p3] at g4
    rw [p1] at g4
    omega
   ·have hli:(i:Int)+k<N:=by omega
    have hkl':(k:Int)<lb.length:=by omega
    have hil':(i:Int)<la.length:=by omega
    have hz2:∀ p:i+k<o.length,o[i+k]=z:=fun _=>hz1
    simp [-List.map_set] at g6
    have q1:((i:Int)+(k:Int)).toNat=i+k:=by omega
    simp (disch:=omega) [-List.map_set,lW,xk,hkl,hkl',hil,hil',hx1,hy1,e1,e2,e3,e4,e5,e5',e6,e7,e8,hr,hz2,hli,g6,q1]
theorem arK {la lb:List Nat} {N:Nat} (sa:dG la) (sb:dG lb) (hN:la.length+lb.length=N) (hN2:N≤2000000000) :
  ∀ (j i:Nat) (o:List Nat),i+j=la.length→o.length=N→dG o→bH o=bH (la.take i)*bH lb→(∀ n,i+lb.length≤n→n<N→o[n]?=some 0) →
  ∃ o',o'.length=N∧dG o'∧bH o'=bH la*bH lb ∧
    L.loop [0,1,5,6] [5] uP 1 [aQ la,aQ lb,.aO 0 0 N 1,.int .i64 i] [.live (o.map ak)]=some (.exit 0,[.aO 0 0 N 1],[.live (o'.map ak)])
 | 0,i,o,hi,hr,sr,hv,hz=>by
   have : i=la.length:=by omega
   subst this
   refine ⟨o,hr,sr,by rw [hv,List.take_of_length_le (Nat.le_refl _)],au (P8 ..) ?_⟩
   simp [F9]
 | j+1,i,o,hi,hr,sr,hv,hz=>by
   have hil:i<la.length:=by omega
   obtain ⟨x,hx0⟩:∃ x,la[i]?=some x:=⟨la[i],List.getElem?_eq_getElem hil⟩
   have hx:=sa.get hx0
   have ta:=Bg hx0
   obtain ⟨o1,g1,g2,g4,g5,g6⟩:=au1 (la:=la) (i:=i) (x:=x) (N:=N) sb hx hx0 (by omega) hN2 lb.length 0 o 0 (by omega) hr sr rZ (hz _ (Nat.le_refl _) (by omega))
   obtain ⟨o',p1,p2,p3,p4⟩:=arK sa sb hN hN2 j (i+1) o1 (by omega) g1 g2 (by
    rw [ta,Nat.add_mul,← hv,Nat.mul_assoc]
    simp at g4
    omega) (fun n hn hn2=>by rw [g5 n (by omega)]; exact hz n (by omega) hn2)
   refine ⟨o',p1,p2,p3,au (P8 ..) ?_⟩
   have e1:IntKind.i64.wrap ((i:Int)+1)=((i+1:Nat):Int):=by rw [wrap64 _ (by omega)]; omega
   have hil':(i:Int)<la.length:=by omega
   simp [-List.map_set] at g6 p4
   simp (disch:=omega) [-List.map_set,lW,F9,hil,hil',g6,e1,p4]
theorem uj {a b:Nat} (ha:nK a) (hb:nK b):L.call mX [n9 a,n9 b]=some (n9 (a*b)):=by
 unfold nK at ha hb
 show L.call mX [aQ (ah a),aQ (ah b)]=some (aQ (ah (a*b)))
 have ca:=iL a
 have cb:=iL b
 have va:=iV a
 have vb:=iV b
 by_cases hea:ah a=[]
 ·have : a=0:=by rw [← va,hea]; rfl
  rw [this,Nat.zero_mul,oI]
  generalize ah b=lb at *
  refine aj (Me ..) ?_
  simp [C9]
 by_cases heb:ah b=[]
 ·have : b=0:=by rw [← vb,heb]; rfl
  rw [this,Nat.mul_zero,oI]
  generalize ah a=la at *
  have hl:¬ (la.length:Int)=0:=by have := List.length_pos_iff.2 hea; omega
  refine aj (Me ..) ?_
  simp [C9,hl,hea]
 generalize ah a=la at *
 generalize ah b=lb at *
 have l1:=List.length_pos_iff.2 hea
 have l2:=List.length_pos_iff.2 heb
 obtain ⟨o,h1,h2,h3,h4⟩:=arK ca.1 cb.1 rfl (by omega) la.length 0 (List.replicate (la.length+lb.length) 0) (by omega) (by simp) (asG _) (by simp [awM])
  (fun j h1 h2=>by simp [h2])
 rw [va,vb] at h3
 have hm:=D6 o h2 (by unfold maxL; omega)
 rw [h3] at hm
 have e1:IntKind.i64.wrap ((la.length:Int)+lb.length)=((la.length+lb.length:Nat):Int):=by rw [wrap64 _ (by omega)]; omega
 have q1:(((la.length:Int)+lb.length)).toNat=la.length+lb.length:=by omega
 have n1:¬ (la.length:Int)=0:=by omega
 have n2:¬ (lb.length:Int)=0:=by omega
 simp only [n9,aQ] at hm ⊢
 generalize (ah (a*b)).length=NR at *
 generalize (ah (a*b)).map ak=lR at *
 refine aj (Me ..) ?_
 simp [h1] at h4 hm
 simp (disch:=omega) [-List.map_set,lW,lD,C9,f_,n1,n2,hea,heb,e1,q1,h4,hm,h1]
theorem aor {a k:Nat} {K:Nat} (hb:∀ i,i≤k→NB K (a^i)) (ha:NB K a) (hK:K≤10000000) (hk:k≤1000000):∀ (j i:Nat),i+j=k →
  L.loop [0,1,5,6] [5] uQ 0 [n9 a,.int .i64 k,n9 (a^i),.int .i64 i] []=some (.exit 0,[n9 (a^k)],[])
 | 0,i,h=>by
   have : i=k:=by omega
   subst this
   refine au (P9 ..) ?_
   simp [Gf]
 | j+1,i,h=>by
   have ih:=aor hb ha hK hk j (i+1) (by omega)
   have hm:=uj ((hb i (by omega)).iH (by omega)) (ha.iH (by omega))
   rw [Nat.pow_succ] at ih
   have hik:(i:Int)<k:=by omega
   have hikn:i<k:=by omega
   have e1:IntKind.i64.wrap ((i:Int)+1)=((i+1:Nat):Int):=by rw [wrap64 _ (by omega)]; omega
   generalize a^i*a=p at *
   generalize a^i=q at *
   generalize a^k=r at *
   refine au (P9 ..) ?_
   simp at ih hm
   simp [Gf,hik,hikn,hm,e1,ih]
theorem aun {a k:Nat} {K:Nat} (hb:∀ i,i≤k→NB K (a^i)) (ha:NB K a) (hK:K≤10000000) (hk:k≤1000000):L.call AQ [n9 a,.int .i64 k]=some (n9 (a^k)):=by
 have h:=aor hb ha hK hk k 0 (by omega)
 have h1:=jF (x:=1) (by omega)
 rw [Nat.pow_zero] at h
 generalize a^k=r at *
 simp at h h1
 refine aj (aiB ..) ?_
 simp [XH,h1,h]
end Go.Ev.Code
end
section
namespace Go.Ev.Code
open Go Go.Ev
theorem aD0 {l:List Nat} (h:∀ (m x:Nat),l[m]?=some x→x=0):bH l=0:=by
 induction l with
 | nil=>rfl
 | cons x xs ih =>
   have h0:=h 0 x rfl
   have := ih (fun m y hy=>h (m+1) y (by simpa using hy))
   rw [ni,h0,this]
   simp
theorem axM (o:List Nat):∀ (n k:Nat),k+n=o.length→(∃ j z,(∀ m,m<j→o[k+m]?=some 0)∧o[k+j]?=some z∧z≠0)∨(∀ (m x:Nat),(o.drop k)[m]?=some x→x=0)
 | 0,k,h => .inr fun m x hx=>by
   rw [List.getElem?_drop,List.getElem?_eq_none_iff.2 (by omega)] at hx
   simp at hx
 | n+1,k,h=>by
   obtain ⟨z,hz⟩:∃ z,o[k]?=some z:=⟨o[k],List.getElem?_eq_getElem (by omega)⟩
   by_cases h0:z=0
   ·subst h0
    rcases axM o n (k+1) (by omega) with ⟨j,y,h1,h2,h3⟩ | h1
    ·refine .inl ⟨j+1,y,fun m hm=>?_,by rw [show k+(j+1)=k+1+j by omega]; exact h2,h3⟩
     cases m with
     | zero=>exact hz
     | succ m=>rw [show k+(m+1)=k+1+m by omega]; exact h1 m (by omega)
    ·refine .inr fun m x hx=>?_
     rw [List.getElem?_drop] at hx
     cases m with
     | zero=>rw [Nat.add_zero,hz] at hx; exact (Option.some.inj hx).symm
     | succ m =>
       refine h1 m x ?_
       rw [List.getElem?_drop,show k+1+m=k+(m+1) by omega]
       exact hx
   ·exact .inl ⟨0,z,fun m hm=>by omega,hz,h0⟩
theorem anO {lb:List Nat} {N:Nat} {i:Int} (hN2:N≤2000000000):∀ (j k:Nat) (o:List Nat) (z:Nat),o.length=N→dG o→(∀ m,m<j→o[k+m]?=some 0)→o[k+j]?=some z→z≠0 →
  ∃ o',o'.length=N∧dG o'∧o'[k+j]?=some z∧bH o'+T9^k=bH o+T9^(k+j) ∧
    L.loop [1,5,6,7] [1,5,6,7] uT 1 [aQ lb,.aO 0 0 N 1,.int .i64 i,.int .i64 k] [.live (o.map ak)]=some (.exit 2,[aQ lb,.aO 0 0 N 1,.int .i64 i,.int .i64 ((k+j:Nat):Int)],[.live (o'.map ak)])
 | 0,k,o,z,hr,sr,h0,hz,hne=>by
   refine ⟨o,hr,sr,hz,rfl,?_⟩
   have hk:k<o.length:=(List.getElem?_eq_some_iff.1 hz).1
   have hkI:(k:Int)<N:=by omega
   have hz1:∀ p:k<o.length,o[k]=z:=fun p=>by simpa using (List.getElem?_eq_some_iff.1 hz).2
   refine au (Qa ..) ?_
   simp (disch:=omega) [lW,Gh,hr,hkI,hz1,hne]
 | j+1,k,o,z,hr,sr,h0,hz,hne=>by
   have hz0:=h0 0 (by omega)
   rw [Nat.add_zero] at hz0
   have hk:k<o.length:=(List.getElem?_eq_some_iff.1 hz0).1
   have hkI:(k:Int)<N:=by omega
   have hz1:∀ p:k<o.length,o[k]=0:=fun p=>by simpa using (List.getElem?_eq_some_iff.1 hz0).2
   have hset:=Uu 999999999 hz0
   obtain ⟨o',g1,g2,g3,g4,g5⟩:=anO (lb:=lb) (i:=i) hN2 j (k+1) (o.set k 999999999) z (by simp [hr]) (sr.set (by decide) _) (fun m hm=>by
    rw [List.getElem?_set_ne (by omega),show k+1+m=k+(m+1) by omega]; exact h0 (m+1) (by omega)) (by rw [List.getElem?_set_ne (by omega),show k+1+j=k+(j+1) by omega]; exact hz) hne
   rw [show k+1+j=k+(j+1) by omega] at g3 g4 g5
   refine ⟨o',g1,g2,g3,?_,au (Qa ..) ?_⟩
   ·have e:T9^(k+1)=T9^k*999999999+T9^k:=by rw [Nat.pow_succ,← Nat.mul_succ]; rfl
    simp at hset
    omega
   ·have e1:IntKind.i64.wrap ((k:Int)+1)=((k+1:Nat):Int):=by rw [wrap64 _ (by omega)]; omega
    have hset2:(o.map ak).set k (.int .u64 999999999)=(o.set k 999999999).map ak:=adM o k 999999999
    simp [-List.map_set] at g5
    simp (disch:=omega) [-List.map_set,lW,Gh,hr,hkI,hz1,e1,hset2,g5]
theorem ahQ {lb:List Nat} {N A:Nat} (sb:dG lb) (hN2:N≤2000000000) (hlb:lb.length≤N) (hA:bH lb≤A):∀ (j i:Nat) (o:List Nat),i+j=lb.length→o.length=N→dG o→bH o+bH (lb.take i)=A →
  ∃ o',o'.length=N∧dG o'∧bH o'+bH lb=A ∧
    L.loop [1,5,6] [5] oQ 1 [aQ lb,.aO 0 0 N 1,.int .i64 i] [.live (o.map ak)]=some (.exit 0,[.aO 0 0 N 1],[.live (o'.map ak)])
 | 0,i,o,hi,hr,sr,hv=>by
   have : i=lb.length:=by omega
   subst this
   rw [List.take_of_length_le (Nat.le_refl _)] at hv
   refine ⟨o,hr,sr,hv,au (wQ ..) ?_⟩
   simp [qO]
 | j+1,i,o,hi,hr,sr,hv=>by
   have hil:i<lb.length:=by omega
   have hio:i<o.length:=by omega
   obtain ⟨y,hy0⟩:∃ y,lb[i]?=some y:=⟨lb[i],List.getElem?_eq_getElem hil⟩
   obtain ⟨x,hx0⟩:∃ x,o[i]?=some x:=⟨o[i],List.getElem?_eq_getElem hio⟩
   have hyT:y<1000000000:=sb.get hy0
   have hxT:x<1000000000:=sr.get hx0
   have hy1:lb[i]=y:=by simpa using (List.getElem?_eq_some_iff.1 hy0).2
   have hx1:∀ p:i<o.length,o[i]=x:=fun p=>by simpa using (List.getElem?_eq_some_iff.1 hx0).2
   have tb:=Bg hy0
   have hilI:(i:Int)<lb.length:=by omega
   have hiN:(i:Int)<N:=by omega
   have e1:IntKind.i64.wrap ((i:Int)+1)=((i+1:Nat):Int):=by rw [wrap64 _ (by omega)]; omega
   by_cases hge:y≤x
   ·have hset:=Uu (x-y) hx0
    have hmul:T9^i*(x-y)+T9^i*y=T9^i*x:=by rw [← Nat.mul_add]; congr 1; omega
    obtain ⟨o',g1,g2,g3,g4⟩:=ahQ sb hN2 hlb hA j (i+1) (o.set i (x-y)) (by omega) (by simp [hr]) (sr.set (by show x-y<1000000000; omega) _) (by rw [tb]; omega)
    refine ⟨o',g1,g2,g3,au (wQ ..) ?_⟩
    have hgeI:(y:Int)≤x:=by omega
    have e2:IntKind.u64.wrap ((x:Int)-y)=((x-y:Nat):Int):=by rw [dJ _ (by omega)]; omega
    have hset2:=adM o i (x-y)
    simp [-List.map_set] at g4
    simp (disch:=omega) [-List.map_set,lW,qO,hil,hilI,hr,hiN,hx1,hy1,hge,hgeI,e1,e2,hset2,g4]
   ·have hlt:x+1≤y:=by omega
    obtain ⟨x1,hx1e⟩:∃ x1,x1=x+(1000000000-y):=⟨_,rfl⟩
    have hx1T:x1<T9:=by show x1<1000000000; omega
    have hset:=Uu x1 hx0
    have hmul:T9^i*x1+T9^i*y=T9^i*x+T9^(i+1):=by
     rw [Nat.pow_succ,← Nat.mul_add,← Nat.mul_add]
     congr 1
     show x1+y=x+1000000000
     omega
    have hex:∃ j z,(∀ m,m<j→o[i+1+m]?=some 0)∧o[i+1+j]?=some z∧z≠0:=by
     rcases axM o (N-(i+1)) (i+1) (by omega) with h | h
     ·exact h
     ·exfalso
      have h1:=aD0 h
      have h2:bH o=bH (o.take (i+1)):=by
       conv=>lhs; rw [← List.take_append_drop (i+1) o]
       rw [Ht,h1]; simp
      have h3:=Bg hx0
      have h4:=JW sr (k:=i)
      have h5:T9^i*(x+1)≤T9^i*y:=Nat.mul_le_mul_left _ hlt
      rw [Nat.mul_add] at h5
      have h6:bH (lb.take (i+1))≤bH lb:=by
       conv=>rhs; rw [← List.take_append_drop (i+1) lb]
       rw [Ht]
       exact Nat.le_add_right _ _
      omega
    obtain ⟨q,z,z1,z2,z3⟩:=hex
    obtain ⟨o1,b1,b2,b3,b4,b5⟩:=anO (lb:=lb) (i:=(i:Int)) hN2 q (i+1) (o.set i x1) z (by simp [hr]) (sr.set hx1T _) (fun m hm=>by rw [List.getElem?_set_ne (by omega)]; exact z1 m hm) (by rw [List.getElem?_set_ne (by omega)]; exact z2) z3
    have hsz:=Uu (z-1) b3
    have hzT:z<T9:=b2.get b3
    have hzm:T9^(i+1+q)*(z-1)+T9^(i+1+q)=T9^(i+1+q)*z:=by rw [← Nat.mul_succ]; congr 1; omega
    obtain ⟨o',g1,g2,g3,g4⟩:=ahQ sb hN2 hlb hA j (i+1) (o1.set (i+1+q) (z-1)) (by omega) (by simp [b1]) (b2.set (by omega) _) (by rw [tb]; omega)
    refine ⟨o',g1,g2,g3,au (wQ ..) ?_⟩
    have hgeI:¬ (y:Int)≤x:=by omega
    have hgn:¬ y≤x:=by omega
    have e2:IntKind.u64.wrap (1000000000-(y:Int))=((1000000000-y:Nat):Int):=by rw [dJ _ (by omega)]; omega
    have e3:IntKind.u64.wrap ((x:Int)+((1000000000-y:Nat):Int))=(x1:Int):=by rw [dJ _ (by omega)]; omega
    have hzl:z<1000000000:=hzT
    have e4:IntKind.u64.wrap ((z:Int)-1)=((z-1:Nat):Int):=by rw [dJ _ (by omega)]; omega
    have hk:i+1+q<o1.length:=(List.getElem?_eq_some_iff.1 b3).1
    have hz1:∀ p:i+1+q<o1.length,o1[i+1+q]=z:=fun p=>by simpa using (List.getElem?_eq_some_iff.1 b3).2
    obtain ⟨k,hkq⟩:∃ k,k=i+1+q:=⟨_,rfl⟩
    rw [← hkq] at b5 g4 hk hz1 b3
    have hkI:(k:Int)<N:=by omega
    have hkN:k<N:=by omega
    have hset2:=adM o i x1
    have hset3:=adM o1 k (z-1)
    obtain ⟨i1,hi1⟩:∃ i1,i1=i+1:=⟨_,rfl⟩
    rw [← hi1] at b5 e1 g4
    simp [-List.map_set] at g4 b5
    simp (disch:=omega) [-List.map_set,lW,qO,hil,hilI,hr,hiN,hx1,hy1,hgn,hgeI,e1,e2,e3,e4,hset2,hset3,b5,b1,hkI,hkN,hz1,g4]
theorem acu {a b:Nat} (ha:nK a) (hb:nK b) (hle:b≤a):L.call vG [n9 a,n9 b]=some (n9 (a-b)):=by
 unfold nK at ha hb
 show L.call vG [aQ (ah a),aQ (ah b)]=some (aQ (ah (a-b)))
 have ca:=iL a
 have cb:=iL b
 have va:=iV a
 have vb:=iV b
 by_cases hea:ah a=[]
 ·have h0:a=0:=by rw [← va,hea]; rfl
  have h1:b=0:=by omega
  rw [h0,h1,Nat.sub_self,oI]
  have hl:L.loop [1,5,6] [5] oQ 1 [aQ [],.dh,.int .i64 0] [.free]=some (.exit 0,[.dh],[.free]):=by
   refine au (wQ ..) ?_
   simp [qO]
  have hm:=D6 [] (fun x hx=>by simp at hx) (by simp [maxL])
  rw [show bH []=0 from rfl] at hm
  simp only [n9,oI] at hm
  simp at hl hm
  refine aj (XC ..) ?_
  simp [Ns,hl,hm]
 generalize ah a=la at *
 generalize ah b=lb at *
 have l1:=List.length_pos_iff.2 hea
 have hlen:lb.length≤la.length:=by
  rcases Nat.lt_or_ge la.length lb.length with h | h
  ·have := aaK ca.1 cb h
   omega
  ·exact h
 obtain ⟨o,g1,g2,g3,g4⟩:=ahQ cb.1 (N:=la.length) (A:=a) (by omega) hlen (by omega) lb.length 0 la (by omega) rfl ca.1 (by simp [va])
 have hv:bH o=a-b:=by omega
 have hm:=D6 o g2 (by unfold maxL; omega)
 rw [hv] at hm
 have hn:¬ (la.length:Int)=0:=by omega
 have hmax:la.length≤4294967296:=by omega
 have htk:=lD la la.length (Nat.le_refl _)
 have htk2:=lD o la.length (by omega)
 simp only [n9,aQ] at hm ⊢
 generalize (ah (a-b)).length=NR at *
 generalize (ah (a-b)).map ak=lR at *
 refine aj (XC ..) ?_
 simp [g1] at g4 hm
 simp (disch:=omega) [-List.map_set,lW,lD,Ns,hn,hea,hmax,htk,htk2,g4,hm,g1]
end Go.Ev.Code
end
section
namespace Go.Ev.Code
open Go Go.Ev
def iC (z:Int):List D:=[.bool (decide (z<0)),n9 z.natAbs]
abbrev lV (z:Int):D := .agg (iC z)
def qC (n:Int) (d:Nat):List D:=[.bool (decide (n<0)),n9 n.natAbs,n9 d]
abbrev cO (n:Int) (d:Nat):D := .agg (qC n d)
theorem aaX (a:Nat):(ah a).length=0↔a=0:=by
 constructor
 ·intro h
  have : ah a=[]:=List.eq_nil_of_length_eq_zero h
  rw [← iV a,this]; rfl
 ·rintro rfl; rw [oI]; rfl
theorem He (neg:Bool) (a:Nat):L.call iE [.bool neg,n9 a]=some (lV (if neg then -(a:Int) else a)):=by
 have h0:=aaX a
 cases neg with
 | false =>
   have e1:decide ((a:Int)<0)=false:=decide_eq_false (by omega)
   have e2:(a:Int).natAbs=a:=by simp
   simp only [Bool.false_eq_true,if_false]
   unfold lV iC
   rw [e1,e2]
   simp only [n9,aQ]
   generalize (ah a).length=N at *
   generalize (ah a).map ak=l at *
   refine aj (Md ..) ?_
   simp [CZ,aS]
 | true =>
   have e2:(-(a:Int)).natAbs=a:=by simp
   simp only [if_true]
   unfold lV iC
   rw [e2]
   simp only [n9,aQ]
   by_cases ha:a=0
   ·have e1:decide (-(a:Int)<0)=false:=decide_eq_false (by omega)
    have hN:=h0.2 ha
    rw [e1]
    generalize (ah a).length=N at *
    generalize (ah a).map ak=l at *
    subst hN
    refine aj (Md ..) ?_
    simp [CZ,aS]
   ·have e1:decide (-(a:Int)<0)=true:=decide_eq_true (by omega)
    have hN:(ah a).length≠0:=fun h=>ha (h0.1 h)
    rw [e1]
    generalize (ah a).length=N at *
    generalize (ah a).map ak=l at *
    have hp:(0:Int)<N:=by omega
    have hp':0<N:=by omega
    refine aj (Md ..) ?_
    simp [CZ,aS,hp,hp']
theorem acs {x:Int} (h : -9223372036854775808≤x∧x≤9223372036854775807):L.call yj [.int .i64 x]=some (lV x):=by
 have ho:=jF (x:=x.natAbs) (by omega)
 unfold lV iC
 by_cases hn:x<0
 ·have e0:decide (x<0)=true:=decide_eq_true hn
  have e1:IntKind.i64.wrap (x+1)=x+1:=wrap64 _ (by omega)
  have e2:IntKind.i64.wrap (-(x+1)) = -(x+1):=wrap64 _ (by omega)
  have e2':IntKind.i64.wrap (0-(x+1)) = -(x+1):=by rw [wrap64 _ (by omega)]; omega
  have e3:IntKind.u64.wrap (-(x+1)) = -(x+1):=dJ _ (by omega)
  have e4:IntKind.u64.wrap (-(x+1)+1)=(x.natAbs:Int):=by rw [dJ _ (by omega)]; omega
  rw [e0]
  simp only [n9,aQ] at *
  generalize (ah x.natAbs).length=N at *
  generalize (ah x.natAbs).map ak=l at *
  generalize (x.natAbs:Int)=ax at *
  generalize hy:x+1=y at *
  generalize hz : -y=z at *
  refine aj (Eh ..) ?_
  simp [yY,hn,hy,e1,e2,e2',hz,e3,e4,ho,aS]
 ·have e0:decide (x<0)=false:=decide_eq_false hn
  have e1:IntKind.u64.wrap x=(x.natAbs:Int):=by rw [dJ _ (by omega)]; omega
  rw [e0]
  simp only [n9,aQ] at *
  generalize (ah x.natAbs).length=N at *
  generalize (ah x.natAbs).map ak=l at *
  generalize (x.natAbs:Int)=ax at *
  refine aj (Eh ..) ?_
  simp [yY,hn,e1,ho,aS]
theorem ahE {x y:Int} (hx:nK x.natAbs) (hy:nK y.natAbs):L.call FK [lV x,lV y]=some (lV (x+y)):=by
 have hA:=acp hx hy
 have hC:=U2 hx hy
 have key:∀ (b:Bool) (z:Nat),(if b then -(z:Int) else z)=x+y→L.call iE [.bool b,n9 z]=some (lV (x+y)):=fun b z h=>by rw [← h]; exact He b z
 by_cases hs:decide (x<0)=decide (y<0)
 ·have hI:=key (decide (x<0)) (x.natAbs+y.natAbs) (by
   by_cases h:x<0
   ·rw [decide_eq_true h]; have : y<0:=by rw [decide_eq_true h] at hs; exact of_decide_eq_true hs.symm
    simp; omega
   ·rw [decide_eq_false h]; have : ¬ y<0:=by rw [decide_eq_false h] at hs; exact of_decide_eq_false hs.symm
    simp; omega)
  unfold lV iC at *
  rw [← hs] at *
  simp only [n9,aQ] at *
  generalize decide (x<0)=sx at *
  generalize decide (x+y<0)=sz at *
  generalize (ah x.natAbs).length=N1 at *
  generalize (ah x.natAbs).map ak=l1 at *
  generalize (ah y.natAbs).length=N2 at *
  generalize (ah y.natAbs).map ak=l2 at *
  generalize (ah (x.natAbs+y.natAbs)).length=N3 at *
  generalize (ah (x.natAbs+y.natAbs)).map ak=l3 at *
  generalize (ah (x+y).natAbs).length=N4 at *
  generalize (ah (x+y).natAbs).map ak=l4 at *
  refine aj (IY ..) ?_
  simp [A_,hA,hI,aS]
 ·have hs2:(decide (x<0)==decide (y<0))=false:=by simpa using hs
  by_cases hge:y.natAbs≤x.natAbs
  ·have hS:=acu hx hy hge
   have hcI:¬ fM x.natAbs y.natAbs<0:=by rw [Dp]; omega
   have hI:=key (decide (x<0)) (x.natAbs-y.natAbs) (by
    by_cases h:x<0
    ·rw [decide_eq_true h] at hs ⊢; have : ¬ y<0:=fun h2=>hs (decide_eq_true h2).symm
     simp; omega
    ·rw [decide_eq_false h] at hs ⊢; have : y<0:=Classical.byContradiction fun h2=>hs (decide_eq_false h2).symm
     simp; omega)
   generalize fM x.natAbs y.natAbs=cc at *
   have hcI2:0≤cc:=by omega
   unfold lV iC at *
   simp only [n9,aQ] at *
   generalize decide (x<0)=sx at *
   generalize decide (y<0)=sy at *
   generalize decide (x+y<0)=sz at *
   generalize (ah (x.natAbs-y.natAbs)).length=N3 at *
   generalize (ah (x.natAbs-y.natAbs)).map ak=l3 at *
   generalize (ah x.natAbs).length=N1 at *
   generalize (ah x.natAbs).map ak=l1 at *
   generalize (ah y.natAbs).length=N2 at *
   generalize (ah y.natAbs).map ak=l2 at *
   generalize (ah (x+y).natAbs).length=N4 at *
   generalize (ah (x+y).natAbs).map ak=l4 at *
   refine aj (IY ..) ?_
   simp [A_,hs,hs2,hC,hcI,hcI2,hS,hI,aS]
  ·have hS:=acu hy hx (by omega)
   have hcI:fM x.natAbs y.natAbs<0:=by rw [Dp]; omega
   have hI:=key (decide (y<0)) (y.natAbs-x.natAbs) (by
    by_cases h:y<0
    ·rw [decide_eq_true h] at hs ⊢; have : ¬ x<0:=fun h2=>hs (decide_eq_true h2)
     simp; omega
    ·rw [decide_eq_false h] at hs ⊢; have : x<0:=Classical.byContradiction fun h2=>hs (decide_eq_false h2)
     simp; omega)
   generalize fM x.natAbs y.natAbs=cc at *
   have hcI2:¬ 0≤cc:=by omega
   unfold lV iC at *
   simp only [n9,aQ] at *
   generalize decide (x<0)=sx at *
   generalize decide (y<0)=sy at *
   generalize decide (x+y<0)=sz at *
   generalize (ah (y.natAbs-x.natAbs)).length=N3 at *
   generalize (ah (y.natAbs-x.natAbs)).map ak=l3 at *
   generalize (ah x.natAbs).length=N1 at *
   generalize (ah x.natAbs).map ak=l1 at *
   generalize (ah y.natAbs).length=N2 at *
   generalize (ah y.natAbs).map ak=l2 at *
   generalize (ah (x+y).natAbs).length=N4 at *
   generalize (ah (x+y).natAbs).map ak=l4 at *
   refine aj (IY ..) ?_
   simp [A_,hs,hs2,hC,hcI,hcI2,hS,hI,aS]
theorem afv (x:Int):L.call CU [lV x]=some (lV (-x)):=by
 have hI:L.call iE [.bool (!decide (x<0)),n9 x.natAbs]=some (lV (-x)):=by
  rw [He]
  congr 2
  by_cases h:x<0
  ·rw [decide_eq_true h]; simp; omega
  ·rw [decide_eq_false h]; simp; omega
 unfold lV iC at *
 simp only [n9,aQ] at *
 generalize decide (x<0)=sx at *
 generalize decide (-x<0)=sz at *
 generalize (ah x.natAbs).length=N1 at *
 generalize (ah x.natAbs).map ak=l1 at *
 generalize (ah (-x).natAbs).length=N4 at *
 generalize (ah (-x).natAbs).map ak=l4 at *
 refine aj (afR ..) ?_
 simp [SK,hI,aS]
theorem ane {sx sy:Bool} {a b:Nat} (ha:nK a) (hb:nK b):L.call qR [.agg [.bool sx,n9 a],.agg [.bool sy,n9 b]]=some (lV (if sx != sy then -((a*b:Nat):Int) else ((a*b:Nat):Int))):=by
 have hM:=uj ha hb
 have hI:=He (sx != sy) (a*b)
 generalize (if (sx != sy)=true then -((a*b:Nat):Int) else ((a*b:Nat):Int))=z at *
 unfold lV iC at *
 simp only [n9,aQ] at *
 generalize decide (z<0)=sz at *
 generalize (ah (a*b)).length=N3 at *
 generalize (ah (a*b)).map ak=l3 at *
 generalize (ah a).length=N1 at *
 generalize (ah a).map ak=l1 at *
 generalize (ah b).length=N2 at *
 generalize (ah b).map ak=l2 at *
 generalize (ah z.natAbs).length=N4 at *
 generalize (ah z.natAbs).map ak=l4 at *
 refine aj (afV ..) ?_
 cases sx <;> cases sy <;> (simp at hI; simp [SS,hM,hI,aS])
theorem zQ {x y:Int} (hx:nK x.natAbs) (hy:nK y.natAbs):L.call qR [lV x,lV y]=some (lV (x*y)):=by
 have h:=ane (sx:=decide (x<0)) (sy:=decide (y<0)) hx hy
 have e:(if (decide (x<0) != decide (y<0))=true then -((x.natAbs*y.natAbs:Nat):Int) else ((x.natAbs*y.natAbs:Nat):Int))=x*y:=by
  rw [Int.natCast_mul]
  by_cases h1:x<0
  ·have ex:(x.natAbs:Int) = -x:=by omega
   by_cases h2:y<0
   ·have ey:(y.natAbs:Int) = -y:=by omega
    rw [decide_eq_true h1,decide_eq_true h2,ex,ey]; simp [Int.neg_mul,Int.mul_neg]
   ·have ey:(y.natAbs:Int)=y:=by omega
    rw [decide_eq_true h1,decide_eq_false h2,ex,ey]; simp [Int.neg_mul,Int.mul_neg]
  ·have ex:(x.natAbs:Int)=x:=by omega
   by_cases h2:y<0
   ·have ey:(y.natAbs:Int) = -y:=by omega
    rw [decide_eq_false h1,decide_eq_true h2,ex,ey]; simp [Int.neg_mul,Int.mul_neg]
   ·have ey:(y.natAbs:Int)=y:=by omega
    rw [decide_eq_false h1,decide_eq_false h2,ex,ey]; simp [Int.neg_mul,Int.mul_neg]
 rw [e] at h
 exact h
theorem auU (d:Nat):lV (d:Int) = .agg [.bool false,n9 d]:=by
 unfold lV iC
 rw [decide_eq_false (by omega)]
 simp
def wo (z:Int):Int:=if z=0 then 0 else if z<0 then -1 else 1
theorem asi {x y:Int} (hx:nK x.natAbs) (hy:nK y.natAbs):L.call FH [lV x,lV y]=some (.int .i64 (wo (x-y))):=by
 have hM:=afv y
 have hP:=ahE (x:=x) (y := -y) hx (by rw [Int.natAbs_neg]; exact hy)
 rw [← Int.sub_eq_add_neg] at hP
 have h0:=aaX (x-y).natAbs
 unfold wo
 generalize hz:x-y=z at *
 unfold lV iC at *
 simp only [n9,aQ] at *
 generalize (ah x.natAbs).length=N1 at *
 generalize (ah x.natAbs).map ak=l1 at *
 generalize (ah y.natAbs).length=N2 at *
 generalize (ah y.natAbs).map ak=l2 at *
 generalize (ah (-y).natAbs).length=N3 at *
 generalize (ah (-y).natAbs).map ak=l3 at *
 generalize decide (x<0)=sx at *
 generalize decide (y<0)=sy at *
 generalize decide (-y<0)=sm at *
 generalize (ah z.natAbs).length=N4 at *
 generalize (ah z.natAbs).map ak=l4 at *
 refine aj (agk ..) ?_
 by_cases hz0:z=0
 ·have hN:N4=0:=h0.2 (by omega)
  subst hN
  rw [if_pos hz0]
  simp [A8,hM,hP,aS]
 ·have hN:N4≠0:=fun h=>hz0 (by have := h0.1 h; omega)
  have hNI:¬ (N4:Int)=0:=by omega
  rw [if_neg hz0]
  by_cases hn:z<0
  ·rw [if_pos hn]
   rw [decide_eq_true hn] at hP
   simp [A8,hM,hP,hN,hNI,aS]
  ·rw [if_neg hn]
   rw [decide_eq_false hn] at hP
   simp [A8,hM,hP,hN,hNI,aS]
end Go.Ev.Code
end
section
namespace Go.Ev.Code
open Go Go.Ev
def QB (k:Nat) (n:Int) (d:Nat):Prop:=IB k n∧NB k d
theorem QB.mono {j k:Nat} {n:Int} {d:Nat} (h:QB j n d) (hk:j≤k):QB k n d:=⟨h.1.mono hk,h.2.mono hk⟩
theorem QB.sum {j k:Nat} {n1 n2:Int} {d1 d2:Nat} (a:QB j n1 d1) (b:QB k n2 d2):QB (j+k+1) (n1*d2+n2*d1) (d1*d2) :=
 ⟨((a.1.mul (IB.ofNat b.2)).add (b.1.mul (IB.ofNat a.2))).mono (by omega),(a.2.mul b.2).mono (by omega)⟩
theorem QB.neg {k:Nat} {n:Int} {d:Nat} (a:QB k n d):QB k (-n) d:=⟨a.1.neg,a.2⟩
theorem QB.prod {j k:Nat} {n1 n2:Int} {d1 d2:Nat} (a:QB j n1 d1) (b:QB k n2 d2):QB (j+k) (n1*n2) (d1*d2):=⟨a.1.mul b.1,a.2.mul b.2⟩
theorem IB.iH {k:Nat} {z:Int} (h:IB k z) (hk:k≤20000000):nK z.natAbs:=NB.iH h hk
theorem Hf {j k:Nat} {n1 n2:Int} {d1 d2:Nat} (a:QB j n1 d1) (b:QB k n2 d2) (hk:j+k≤10000000):L.call mZ [cO n1 d1,cO n2 d2]=some (cO (n1*d2+n2*d1) (d1*d2)):=by
 have t1:=zQ (x:=n1) (y:=(d2:Int)) (a.1.iH (by omega)) ((IB.ofNat b.2).iH (by omega))
 have t2:=zQ (x:=n2) (y:=(d1:Int)) (b.1.iH (by omega)) ((IB.ofNat a.2).iH (by omega))
 have pl:=ahE (x:=n1*d2) (y:=n2*d1) ((a.1.mul (IB.ofNat b.2)).iH (by omega)) ((b.1.mul (IB.ofNat a.2)).iH (by omega))
 have ml:=uj (a.2.iH (by omega)) (b.2.iH (by omega))
 rw [auU] at t1 t2
 generalize n1*(d2:Int)+n2*(d1:Int)=S at *
 generalize n1*(d2:Int)=p1 at *
 generalize n2*(d1:Int)=p2 at *
 generalize d1*d2=dd at *
 unfold cO qC
 unfold lV iC at *
 simp only [n9,aQ] at *
 generalize decide (S<0)=b0 at *
 generalize decide (p1<0)=b1 at *
 generalize decide (p2<0)=b2 at *
 generalize decide (n1<0)=b3 at *
 generalize decide (n2<0)=b4 at *
 generalize (ah S.natAbs).length=N0 at *
 generalize (ah S.natAbs).map ak=l0 at *
 generalize (ah p1.natAbs).length=N1 at *
 generalize (ah p1.natAbs).map ak=l1 at *
 generalize (ah p2.natAbs).length=N2 at *
 generalize (ah p2.natAbs).map ak=l2 at *
 generalize (ah n1.natAbs).length=N3 at *
 generalize (ah n1.natAbs).map ak=l3 at *
 generalize (ah n2.natAbs).length=N4 at *
 generalize (ah n2.natAbs).map ak=l4 at *
 generalize (ah d1).length=N5 at *
 generalize (ah d1).map ak=l5 at *
 generalize (ah d2).length=N6 at *
 generalize (ah d2).map ak=l6 at *
 generalize (ah dd).length=N7 at *
 generalize (ah dd).map ak=l7 at *
 refine aj (aiC ..) ?_
 simp [XI,t1,t2,pl,ml,aS]
theorem nS {j k:Nat} {n1 n2:Int} {d1 d2:Nat} (a:QB j n1 d1) (b:QB k n2 d2) (hk:j+k≤10000000):L.call kZ [cO n1 d1,cO n2 d2]=some (cO (n1*n2) (d1*d2)):=by
 have t1:=zQ (x:=n1) (y:=n2) (a.1.iH (by omega)) (b.1.iH (by omega))
 have ml:=uj (a.2.iH (by omega)) (b.2.iH (by omega))
 generalize n1*n2=S at *
 generalize d1*d2=dd at *
 unfold cO qC at *
 unfold lV iC at *
 simp only [n9,aQ] at *
 generalize decide (S<0)=b0 at *
 generalize decide (n1<0)=b3 at *
 generalize decide (n2<0)=b4 at *
 generalize (ah S.natAbs).length=N0 at *
 generalize (ah S.natAbs).map ak=l0 at *
 generalize (ah n1.natAbs).length=N3 at *
 generalize (ah n1.natAbs).map ak=l3 at *
 generalize (ah n2.natAbs).length=N4 at *
 generalize (ah n2.natAbs).map ak=l4 at *
 generalize (ah d1).length=N5 at *
 generalize (ah d1).map ak=l5 at *
 generalize (ah d2).length=N6 at *
 generalize (ah d2).map ak=l6 at *
 generalize (ah dd).length=N7 at *
 generalize (ah dd).map ak=l7 at *
 refine aj (agn ..) ?_
 simp [VY,t1,ml,aS]
theorem zO {j k:Nat} {n1 n2:Int} {d1 d2:Nat} (a:QB j n1 d1) (b:QB k n2 d2) (hk:j+k≤10000000):L.call wG [cO n1 d1,cO n2 d2]=some (.int .i64 (wo (n1*d2-n2*d1))):=by
 have t1:=zQ (x:=n1) (y:=(d2:Int)) (a.1.iH (by omega)) ((IB.ofNat b.2).iH (by omega))
 have t2:=zQ (x:=n2) (y:=(d1:Int)) (b.1.iH (by omega)) ((IB.ofNat a.2).iH (by omega))
 have cm:=asi (x:=n1*d2) (y:=n2*d1) ((a.1.mul (IB.ofNat b.2)).iH (by omega)) ((b.1.mul (IB.ofNat a.2)).iH (by omega))
 rw [auU] at t1 t2
 generalize wo (n1*(d2:Int)-n2*(d1:Int))=S at *
 generalize n1*(d2:Int)=p1 at *
 generalize n2*(d1:Int)=p2 at *
 unfold cO qC
 unfold lV iC at *
 simp only [n9,aQ] at *
 generalize decide (p1<0)=b1 at *
 generalize decide (p2<0)=b2 at *
 generalize decide (n1<0)=b3 at *
 generalize decide (n2<0)=b4 at *
 generalize (ah p1.natAbs).length=N1 at *
 generalize (ah p1.natAbs).map ak=l1 at *
 generalize (ah p2.natAbs).length=N2 at *
 generalize (ah p2.natAbs).map ak=l2 at *
 generalize (ah n1.natAbs).length=N3 at *
 generalize (ah n1.natAbs).map ak=l3 at *
 generalize (ah n2.natAbs).length=N4 at *
 generalize (ah n2.natAbs).map ak=l4 at *
 generalize (ah d1).length=N5 at *
 generalize (ah d1).map ak=l5 at *
 generalize (ah d2).length=N6 at *
 generalize (ah d2).map ak=l6 at *
 refine aj (afS ..) ?_
 simp [SL,t1,t2,cm]
theorem D5 {n d:Int} (hn : -9223372036854775808≤n∧n≤9223372036854775807) (hd:0<d∧d≤9223372036854775807):L.call tJ [.int .i64 n,.int .i64 d]=some (cO n d.natAbs):=by
 have h1:=acs hn
 have h2:=acs (x:=d) (by omega)
 have hI:L.call iE [.bool (decide (n<0)),n9 n.natAbs]=some (lV n):=by
  rw [He]
  congr 2
  by_cases h:n<0
  ·rw [decide_eq_true h]; simp; omega
  ·rw [decide_eq_false h]; simp; omega
 have hd0:decide (d<0)=false:=decide_eq_false (by omega)
 unfold cO qC
 unfold lV iC at *
 rw [hd0] at h2
 simp only [n9,aQ] at *
 generalize decide (n<0)=b3 at *
 generalize (ah n.natAbs).length=N3 at *
 generalize (ah n.natAbs).map ak=l3 at *
 generalize (ah d.natAbs).length=N4 at *
 generalize (ah d.natAbs).map ak=l4 at *
 refine aj (agm ..) ?_
 cases b3 <;> simp [VX,h1,h2,hI,aS]
theorem nY {n:Int} (hn : -9223372036854775808≤n∧n≤9223372036854775807):L.call qU [.int .i64 n]=some (cO n 1):=by
 have h1:=acs hn
 have h2:=jF (x:=1) (by omega)
 rw [show ((1:Nat):Int)=1 from rfl] at h2
 unfold cO qC
 unfold lV iC at *
 simp only [n9,aQ] at *
 generalize decide (n<0)=b3 at *
 generalize (ah n.natAbs).length=N3 at *
 generalize (ah n.natAbs).map ak=l3 at *
 generalize (ah 1).length=N4 at *
 generalize (ah 1).map ak=l4 at *
 refine aj (afW ..) ?_
 simp [SV,h1,h2,aS]
end Go.Ev.Code
end
