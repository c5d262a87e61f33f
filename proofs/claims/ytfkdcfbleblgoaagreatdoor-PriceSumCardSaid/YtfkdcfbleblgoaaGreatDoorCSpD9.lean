/- A part of the proof of priceAll_card, yieldAll_card, priceSum_card, flowAll_card, accrAll_card. -/
import Derived.Test.YtfkdcfbleblgoaaGreatDoorCSpD8
set_option linter.unusedVariables false
set_option linter.unusedSimpArgs false
section
namespace Go.Ev.Code
open Go Go.Ev
def md (k d:Nat):Nat:=dayOf ((k-1) / 12) ((k-1) % 12+1) d
theorem ahk {k d:Nat} (h1:22801≤k) (h2:k≤26400) (d1:1≤d) (d2:d≤28):Dc ((k-1) / 12) ((k-1) % 12+1) d:=by
 have hm1:1≤(k-1) % 12+1∧(k-1) % 12+1≤12:=by omega
 have hp:=OI (y:=(k-1) / 12) hm1.1 hm1.2
 exact ⟨by omega,by omega,hm1.1,hm1.2,d1,by omega⟩
theorem aly {k d:Nat} (h1:22801≤k) (h2:k≤26400) (d1:1≤d) (d2:d≤28):mi (md k d:Nat)=k:=by
 have := Gx (ahk h1 h2 d1 d2)
 unfold md
 rw [this]
 omega
theorem ahl {k d:Nat} (h1:22801≤k) (h2:k≤26400) (d1:1≤d) (d2:d≤28):aU (md k d:Nat):=by
 have := (ahk h1 h2 d1 d2).le
 unfold md
 exact ⟨by omega,by omega⟩
theorem aEs {k l d:Nat} (h1:22801≤k) (h2:l≤26400) (d1:1≤d) (d2:d≤28) (h:k<l):md k d<md l d:=by
 have := YO (ahl h1 (by omega) d1 d2) (ahl (k:=l) (by omega) h2 d1 d2) (by rw [aly h1 (by omega) d1 d2,aly (by omega) h2 d1 d2]; exact h)
 omega
theorem ax_ {k d:Nat} (h1:22801≤k) (h2:k≤26400) (d1:1≤d) (d2:d≤28):d30 (md k d:Nat)=30*(k:Int)+d:=by
 have hc:=ahk h1 h2 d1 d2
 unfold d30
 rw [aly h1 h2 d1 d2]
 unfold md
 rw [show ((dayOf ((k-1) / 12) ((k-1) % 12+1) d:Nat):Int).toNat=dayOf ((k-1) / 12) ((k-1) % 12+1) d by omega,aea hc]
 simp only
 omega
theorem aBi {k l d:Nat} {n:Int} (h1:22801≤k) (h2:k≤26400) (d1:1≤d) (d2:d≤28) (hn:(l:Int)=k+n) (h3:22801≤l) (h4:l≤26400):pF (md k d:Nat) n false=some (md l d):=by
 have hc:=ahk h1 h2 d1 d2
 have hl:=ahk h3 h4 d1 d2
 unfold pF
 rw [if_pos (ahl h1 h2 d1 d2)]
 unfold md
 rw [show ((dayOf ((k-1) / 12) ((k-1) % 12+1) d:Nat):Int).toNat=dayOf ((k-1) / 12) ((k-1) % 12+1) d by omega,aea hc]
 unfold Qd
 rw [if_pos (by omega)]
 simp only
 have e1:((((k-1) / 12*12+((k-1) % 12+1)-1:Nat):Int)+n) / 12=(((l-1) / 12:Nat):Int):=by omega
 have e2:((((k-1) / 12*12+((k-1) % 12+1)-1:Nat):Int)+n) % 12=(((l-1) % 12:Nat):Int):=by omega
 have hd:=hl.d2
 rw [e1,e2,Int.toNat_natCast,Int.toNat_natCast,if_neg (by simp),Nat.min_eq_left hd]
 unfold uf
 rw [if_pos ⟨hl.y1,hl.y2⟩]
structure lH (b:aA) (N mo S d:Nat):Prop where
 s1:22801≤S
 s2:S+N*mo≤26400
 d1:1≤d
 d2:d≤28
 is:b.issue=(md S d:Nat)
 mt:b.bU=(md (S+N*mo) d:Nat)
 N1:1≤N
 NM:N*mo≤120
 mo0:months b=mo
 mo1:1≤mo
 mo2:mo≤12
 sums:Bf b=none
 c1:1≤b.count
 c2:b.count≤4
 st:b.stub=0
 en:b.ends=false
 ex:b.ex=0
theorem lH.aEq {b:aA} {N mo S d:Nat} (h:lH b N mo S d) {i:Nat} (hi:i≤N):anch b i=some (md (S+(N-i)*mo) d):=by
 have hs1:=h.s1; have hs2:=h.s2
 have hle:i*mo≤N*mo:=Nat.mul_le_mul_right _ hi
 unfold anch
 rw [h.mo0,h.en,h.mt,Nat.sub_mul]
 have e : -(i:Int)*(mo:Int) = -((i*mo:Nat):Int):=by rw [Int.neg_mul]; simp
 rw [e]
 generalize i*mo=z at *
 generalize N*mo=Z at *
 exact aBi (by omega) (by omega) h.d1 h.d2 (by omega) (by omega) (by omega)
theorem lH.apR {b:aA} {N mo S d:Nat} (h:lH b N mo S d):anch b N=some (md S d):=by
 have := h.aEq (Nat.le_refl N)
 rw [Nat.sub_self,Nat.zero_mul,Nat.add_zero] at this
 exact this
theorem lH.aDt {b:aA} {N mo S d:Nat} (h:lH b N mo S d):aU b.issue:=by
 have hs1:=h.s1; have hs2:=h.s2
 rw [h.is]; exact ahl h.s1 (by omega) h.d1 h.d2
theorem lH.mday {b:aA} {N mo S d:Nat} (h:lH b N mo S d):aU b.bU:=by
 have hs1:=h.s1; have hs2:=h.s2
 rw [h.mt]; exact ahl (by omega) (by omega) h.d1 h.d2
theorem lH.miI {b:aA} {N mo S d:Nat} (h:lH b N mo S d):mi b.issue=S:=by
 have hs1:=h.s1; have hs2:=h.s2
 rw [h.is]; exact aly h.s1 (by omega) h.d1 h.d2
theorem lH.miM {b:aA} {N mo S d:Nat} (h:lH b N mo S d):mi b.bU=S+N*mo:=by
 have hs1:=h.s1; have hs2:=h.s2
 rw [h.mt]; exact aly (by omega) (by omega) h.d1 h.d2
theorem lH.pos {b:aA} {N mo S d:Nat} (h:lH b N mo S d):1≤N*mo:=Nat.mul_le_mul h.N1 h.mo1
theorem lH.zn {b:aA} {N mo S d:Nat} (h:lH b N mo S d):chk b=none:=by
 have hi:=h.miI
 have hm:=h.miM
 have hp:=h.pos
 have hlt:b.issue<b.bU:=YO h.aDt h.mday (by omega)
 have hd:Em b=none:=by
  unfold Em
  rw [if_neg (by have := h.aDt; simpa using this),if_neg (by have := h.mday; simpa using this),if_neg (by omega)]
  split
  ·rename_i e he
   have h1:=O3 he
   have h3:=YO h.mday (S_ he) (by have := h.NM; omega)
   rw [if_neg (by omega)]
  ·rfl
 have hm1:=h.mo1
 have hpe:aeL b≤200:=by
  unfold aeL
  rw [auG,h.mo0,hi,hm]
  have hNM:=h.NM
  generalize N*mo=Z at *
  rw [Int.tdiv_eq_ediv_of_nonneg (by omega)]
  have e:((S+Z:Nat):Int)-(S:Int)=Z:=by omega
  rw [e]
  have : (Z:Int) / (mo:Int)≤Z:=Int.ediv_le_self _ (by omega)
  omega
 unfold chk
 rw [hd,h.mo0,h.sums]
 simp only
 rw [if_neg (by omega),if_neg (by have := h.c1; have := h.c2; omega),if_neg (by have := h.st; omega),if_neg (by have := h.ex; omega),if_neg (by omega)]
theorem lH.kEq {b:aA} {N mo S d:Nat} (h:lH b N mo S d):bI b=N:=by
 have hm1:=h.mo1
 obtain ⟨k1,k2,k3⟩:=QF (b:=b) (by rw [h.mo0]; omega)
 have g1:∀ i,i<N→Goes b i:=fun i hi=>by
  refine ⟨_,h.aEq (by omega),?_⟩
  rw [h.is]
  have hs1:=h.s1; have hs2:=h.s2
  have e1:(N-i)*mo≤N*mo:=Nat.mul_le_mul_right _ (by omega)
  have e2:1*mo≤(N-i)*mo:=Nat.mul_le_mul_right _ (by omega)
  have := aEs (k:=S) (l:=S+(N-i)*mo) (d:=d) hs1 (by omega) h.d1 h.d2 (by omega)
  omega
 have g2:¬ Goes b N:=by
  rintro ⟨a,ha,hlt⟩
  obtain rfl:=Option.some.inj (h.apR.symm.trans ha)
  rw [h.is] at hlt
  omega
 rcases Nat.lt_trichotomy (bI b) N with hl | hl | hl
 ·exact absurd (g1 _ hl) k2
 ·exact hl
 ·exact absurd (k1 _ hl) g2
theorem lH.plan {b:aA} {N mo S d:Nat} (h:lH b N mo S d):aF b=(none,dR b):=by
 have hh:QD b=true:=by
  unfold QD
  rw [h.kEq,h.apR]
  simp [h.is]
 unfold aF
 rw [h.zn]
 simp only
 rw [hh,if_pos rfl]
theorem lH.awo {b:aA} {N mo S d:Nat} (h:lH b N mo S d):(aF b).1=none:=by rw [h.plan]
theorem lH.len {b:aA} {N mo S d:Nat} (h:lH b N mo S d):(aF b).2.length=N:=by rw [h.plan]; simp only; rw [uh,h.kEq]
theorem lH.per {b:aA} {N mo S d:Nat} (h:lH b N mo S d) {i:Nat} (hi:i<N):(aF b).2[i]?=some (((md (S+i*mo) d:Nat):Int),((md (S+(i+1)*mo) d:Nat):Int))∧regular b (((md (S+i*mo) d:Nat):Int),((md (S+(i+1)*mo) d:Nat):Int))=true:=by
 have r0:=zN (b:=b) (i:=i) (by rw [h.kEq]; exact hi)
 have a1:=h.aEq (i:=N-i) (by omega)
 have a2:=h.aEq (i:=N-1-i) (by omega)
 rw [show N-(N-i)=i by omega] at a1
 rw [show N-(N-1-i)=i+1 by omega] at a2
 rw [h.plan]
 constructor
 ·rw [h.kEq,a1,a2] at r0
  rw [r0]
  by_cases h0:i=0
  ·subst h0
   rw [if_pos rfl,h.is]
   simp
  ·rw [if_neg h0]
   rfl
 ·refine Zz h.zn (k:=N-1-i) (by rw [h.kEq]; omega) a2 ⟨_,?_,rfl⟩
  rw [show N-1-i+1=N-i by omega]
  exact a1
theorem lH.mem {b:aA} {N mo S d:Nat} (h:lH b N mo S d) {p:Int×Int} (hp:p∈(aF b).2):regular b p=true:=by
 obtain ⟨i,hi⟩:=List.getElem?_of_mem hp
 have hlt:i<N:=by rw [← h.len]; exact (List.getElem?_eq_some_iff.1 hi).1
 obtain ⟨h1,h2⟩:=h.per hlt
 rw [h1] at hi
 rw [← Option.some.inj hi]
 exact h2
theorem lH.flow {b:aA} {N mo S d:Nat} (h:lH b N mo S d):aW b=(none,fK (fP b) (fJ b) (aF b).2):=by
 have hne:=(dP h.awo).2.ne
 unfold aW
 rw [h.awo]
 simp only
 cases hps:(aF b).2 with
 | nil=>exact absurd hps hne
 | cons p r =>
   have hreg:=h.mem (p:=p) (by rw [hps]; simp)
   have : oq b p = .ok (fP b):=by
    unfold oq
    rw [if_pos hreg]
   simp only
   rw [this]
   simp only
   congr 1
   cases r with
   | nil=>rfl
   | cons q r=>rfl
theorem lH.aEh {b:aA} {N mo S d:Nat} (h:lH b N mo S d):(aW b).1=none:=by rw [h.flow]
def awt (e r:Rat):Nat→List Rat
 | 0=>[]
 | 1=>[e+r]
 | n+2=>e::awt e r (n+1)
theorem ajj (e r:Rat):∀ l:List (Int×Int),(fK e r l).map Prod.snd=awt e r l.length
 | []=>rfl
 | [_]=>rfl
 | _::q::l=>by
   have := ajj e r (q::l)
   simp only [fK,List.map_cons,List.length_cons] at this ⊢
   rw [this]
   rfl
theorem awj {b:aA} (h:(aW b).1=none) {p:Int×Int} (hp:p∈(aF b).2):kF b p p.1 p.1=0:=by
 have h0:=(gY h).1
 have hchk:=dK h0
 have hf:=dZ (bV hchk).2.1
 obtain ⟨d1,d2,d3⟩:=gU h0 hp
 have hx:=vV h hp (Int.le_refl p.1) (Int.le_refl p.1) (by omega:p.1≤p.2)
 unfold jW at hx
 by_cases hc:b.count=4
 ·rw [if_pos hc] at hx
  cases hq:nP b p with
  | none=>rw [hq] at hx; simp at hx
  | some l =>
    rw [hq] at hx
    simp only at hx
    rw [if_neg (by omega)] at hx
    rw [← Except.ok.inj hx]
    have hok:=(Lu hchk d2 hq).1
    have : ∀ (l:List (Int×Int)) (s:Rat),(∀ q∈l,QOk q)→sumF b.bG p.1 p.1 s l=s:=by
     intro l
     induction l with
     | nil=>intro s _; rfl
     | cons q r ih =>
       intro s hl
       simp only [sumF]
       rw [ih _ (fun z hz=>hl z (by simp [hz]))]
       have hlt:=(hl q (by simp)).lt
       have e:max (min p.1 q.2-max p.1 q.1) 0=0:=by omega
       unfold yK
       rw [e,divInt_zero]
       exact Rat.add_zero s
    rw [this l _ hok]
    exact divInt_zero 1
 ·rw [if_neg hc,if_neg (by omega)] at hx
  rw [← Except.ok.inj hx]
  unfold Oe
  rw [anT]
  exact divInt_zero _
theorem lH.at {b:aA} {N mo S d:Nat} (h:lH b N mo S d) {i:Nat} (hi:i<N) :
  (leftB b (md (S+i*mo) d:Nat)).1=none∧aV b (md (S+i*mo) d:Nat)=(((md (S+i*mo) d:Nat):Int),((md (S+(i+1)*mo) d:Nat):Int)) ∧
  Sz (aF b).2 (md (S+i*mo) d:Nat)=i∧dD b (md (S+i*mo) d:Nat)=awt (fP b) (fJ b) (N-i) ∧
  (dF b (md (S+i*mo) d:Nat)≠0∧dB b (md (S+i*mo) d:Nat)=1∧sS b (md (S+i*mo) d:Nat)=0):=by
 obtain ⟨g1,g2⟩:=h.per hi
 have hmem:=List.mem_of_getElem? g1
 have h0:=h.awo
 have hf:=h.aEh
 have hchk:=h.zn
 obtain ⟨d1,d2,d3⟩:=gU h0 hmem
 obtain ⟨e1,e2,e3⟩:=ail h0 hmem (s:=(md (S+i*mo) d:Nat)) (Int.le_refl _) d3
 have hl:=K_ hf e2 e3
 obtain ⟨k,k1,k2,k3,k4⟩:=x9 h0 e2 e3
 have hki:k=i:=by
  rcases Nat.lt_trichotomy k i with hlt | heq | hlt
  ·obtain ⟨z,rfl⟩:∃ z,i=k+z+1:=⟨i-k-1,by omega⟩
   have := NP h0 z k k2 g1
   simp only at this
   omega
  ·exact heq
  ·obtain ⟨z,rfl⟩:∃ z,k=i+z+1:=⟨k-i-1,by omega⟩
   have := NP h0 z i g1 k2
   simp only at this d3
   omega
 subst hki
 have hex:O7 b (md (S+k*mo) d:Nat)=false:=by unfold O7; rw [h.ex]; simp
 have hs:=awj hf hmem
 refine ⟨hl,e1,k1,?_,?_,?_,?_⟩
 ·unfold dD
  rw [hex,if_neg (by decide),k1,Int.toNat_natCast,h.flow]
  simp only
  rw [alX _ _ _ _ (by rw [h.len]; exact hi),ajj,List.length_drop,h.len]
 ·unfold dF
  rw [e1]
  simp only
  have hx:=vV hf hmem (x:=((md (S+k*mo) d:Nat):Int)) (y:=((md (S+(k+1)*mo) d:Nat):Int)) (Int.le_refl _) (by omega) (Int.le_refl _)
  by_cases hc:b.count=4
  ·have := awk hchk d1 d2 d3 g2 hc hx
   rw [this]
   have hfr:=dZ (bV hchk).2.1
   rcases hfr with hz | hz | hz | hz <;> rw [hz] <;> decide +kernel
  ·unfold jW at hx
   rw [if_neg hc,if_neg (by simp only; omega)] at hx
   rw [← Except.ok.inj hx]
   unfold Oe
   have hpos:0<d_ b.count ((md (S+k*mo) d:Nat):Int) ((md (S+(k+1)*mo) d:Nat):Int):=by
    have hs1:=h.s1; have hs2:=h.s2; have hm1:=h.mo1
    have u1:(k+1)*mo≤N*mo:=Nat.mul_le_mul_right _ (by omega)
    have u2:(k+1)*mo=k*mo+mo:=by rw [Nat.add_mul,Nat.one_mul]
    unfold d_
    split
    ·rw [Vf,ax_ (by omega) (by omega) h.d1 h.d2,ax_ (by omega) (by omega) h.d1 h.d2]
     omega
    ·simp only at d3; omega
   have hD:(0:Int)<(if b.count=3 then 365 else 360):=by split <;> omega
   generalize (if b.count=3 then (365:Int) else 360)=D at *
   generalize d_ b.count _ _=z at *
   intro hz
   rw [Rat.divInt_eq_div] at hz
   have hz0:(z:Rat)≠0:=fun h=>by have := Rat.intCast_eq_zero_iff.1 h; omega
   have hD0:(D:Rat)≠0:=fun h=>by have := Rat.intCast_eq_zero_iff.1 h; omega
   generalize (z:Rat)=zr at *
   generalize (D:Rat)=dr at *
   grind
 ·unfold dB
  rw [e1,if_pos g2]
  unfold wY
  rw [e1]
  simp only at hs ⊢
  rw [hs,Rat.div_def,Rat.zero_mul]
  grind
 ·rw [aBh h0 hmem (Int.le_refl _) d3 h.ex]
  unfold QC
  split
  ·simp only
   rw [Int.sub_self,divInt_zero,Rat.mul_zero]
  ·rw [hs,Rat.mul_zero]
end Go.Ev.Code
end
