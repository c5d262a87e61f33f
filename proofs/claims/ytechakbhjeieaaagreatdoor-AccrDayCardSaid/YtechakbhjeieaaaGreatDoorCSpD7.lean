/- Part of accrDay_card. -/
import Derived.Test.YtechakbhjeieaaaGreatDoorCSpD6
set_option linter.unusedVariables false
set_option linter.unusedSimpArgs false
namespace Go.Ev.Code
open Go Go.Ev
def md (k d:Nat):Nat:=dayOf ((k-1) / 12) ((k-1) % 12+1) d
theorem ZO {k d:Nat} (h1:22801≤k) (h2:k≤26400) (d1:1≤d) (d2:d≤28):zk ((k-1) / 12) ((k-1) % 12+1) d:=by
 have hm1:1≤(k-1) % 12+1∧(k-1) % 12+1≤12:=by omega
 have hp:=CU (y:=(k-1) / 12) hm1.1 hm1.2
 exact ⟨by omega,by omega,hm1.1,hm1.2,d1,by omega⟩
theorem adQ {k d:Nat} (h1:22801≤k) (h2:k≤26400) (d1:1≤d) (d2:d≤28):mi (md k d:Nat)=k:=by
 have := zT (ZO h1 h2 d1 d2)
 unfold md
 rw [this]
 omega
theorem ZP {k d:Nat} (h1:22801≤k) (h2:k≤26400) (d1:1≤d) (d2:d≤28):bn (md k d:Nat):=by
 have := (ZO h1 h2 d1 d2).le
 unfold md
 exact ⟨by omega,by omega⟩
theorem awL {k l d:Nat} (h1:22801≤k) (h2:l≤26400) (d1:1≤d) (d2:d≤28) (h:k<l):md k d<md l d:=by
 have := Oq (ZP h1 (by omega) d1 d2) (ZP (k:=l) (by omega) h2 d1 d2) (by rw [adQ h1 (by omega) d1 d2,adQ (by omega) h2 d1 d2]; exact h)
 omega
theorem apD {k d:Nat} (h1:22801≤k) (h2:k≤26400) (d1:1≤d) (d2:d≤28):d30 (md k d:Nat)=30*(k:Int)+d:=by
 have hc:=ZO h1 h2 d1 d2
 unfold d30
 rw [adQ h1 h2 d1 d2]
 unfold md
 rw [show ((dayOf ((k-1) / 12) ((k-1) % 12+1) d:Nat):Int).toNat=dayOf ((k-1) / 12) ((k-1) % 12+1) d by omega,Xi hc]
 simp only
 omega
theorem as6 {k l d:Nat} {n:Int} (h1:22801≤k) (h2:k≤26400) (d1:1≤d) (d2:d≤28) (hn:(l:Int)=k+n) (h3:22801≤l) (h4:l≤26400):r_ (md k d:Nat) n false=some (md l d):=by
 have hc:=ZO h1 h2 d1 d2
 have hl:=ZO h3 h4 d1 d2
 unfold r_
 rw [if_pos (ZP h1 h2 d1 d2)]
 unfold md
 rw [show ((dayOf ((k-1) / 12) ((k-1) % 12+1) d:Nat):Int).toNat=dayOf ((k-1) / 12) ((k-1) % 12+1) d by omega,Xi hc]
 unfold Kr
 rw [if_pos (by omega)]
 simp only
 have e1:((((k-1) / 12*12+((k-1) % 12+1)-1:Nat):Int)+n) / 12=(((l-1) / 12:Nat):Int):=by omega
 have e2:((((k-1) / 12*12+((k-1) % 12+1)-1:Nat):Int)+n) % 12=(((l-1) % 12:Nat):Int):=by omega
 have hd:=hl.d2
 rw [e1,e2,Int.toNat_natCast,Int.toNat_natCast,if_neg (by simp),Nat.min_eq_left hd]
 unfold uo
 rw [if_pos ⟨hl.y1,hl.y2⟩]
structure lZ (b:aQ) (N mo S d:Nat):Prop where
 s1:22801≤S
 s2:S+N*mo≤26400
 d1:1≤d
 d2:d≤28
 is:b.issue=(md S d:Nat)
 mt:b.b_=(md (S+N*mo) d:Nat)
 N1:1≤N
 NM:N*mo≤120
 mo0:months b=mo
 mo1:1≤mo
 mo2:mo≤12
 sums:Ag b=none
 c1:1≤b.count
 c2:b.count≤4
 st:b.stub=0
 en:b.ends=false
 ex:b.ex=0
theorem lZ.N2 {b:aQ} {N mo S d:Nat} (h:lZ b N mo S d):N≤120:=by
 have h1:N*1≤N*mo:=Nat.mul_le_mul_left _ h.mo1
 have := h.NM
 omega
theorem lZ.aEq {b:aQ} {N mo S d:Nat} (h:lZ b N mo S d) {i:Nat} (hi:i≤N):anch b i=some (md (S+(N-i)*mo) d):=by
 have hs1:=h.s1; have hs2:=h.s2
 have hle:i*mo≤N*mo:=Nat.mul_le_mul_right _ hi
 unfold anch
 rw [h.mo0,h.en,h.mt,Nat.sub_mul]
 have e : -(i:Int)*(mo:Int) = -((i*mo:Nat):Int):=by rw [Int.neg_mul]; simp
 rw [e]
 generalize i*mo=z at *
 generalize N*mo=Z at *
 exact as6 (by omega) (by omega) h.d1 h.d2 (by omega) (by omega) (by omega)
theorem lZ.aic {b:aQ} {N mo S d:Nat} (h:lZ b N mo S d):anch b N=some (md S d):=by
 have := h.aEq (Nat.le_refl N)
 rw [Nat.sub_self,Nat.zero_mul,Nat.add_zero] at this
 exact this
theorem lZ.avF {b:aQ} {N mo S d:Nat} (h:lZ b N mo S d):bn b.issue:=by
 have hs1:=h.s1; have hs2:=h.s2
 rw [h.is]; exact ZP h.s1 (by omega) h.d1 h.d2
theorem lZ.mday {b:aQ} {N mo S d:Nat} (h:lZ b N mo S d):bn b.b_:=by
 have hs1:=h.s1; have hs2:=h.s2
 rw [h.mt]; exact ZP (by omega) (by omega) h.d1 h.d2
theorem lZ.miI {b:aQ} {N mo S d:Nat} (h:lZ b N mo S d):mi b.issue=S:=by
 have hs1:=h.s1; have hs2:=h.s2
 rw [h.is]; exact adQ h.s1 (by omega) h.d1 h.d2
theorem lZ.miM {b:aQ} {N mo S d:Nat} (h:lZ b N mo S d):mi b.b_=S+N*mo:=by
 have hs1:=h.s1; have hs2:=h.s2
 rw [h.mt]; exact adQ (by omega) (by omega) h.d1 h.d2
theorem lZ.pos {b:aQ} {N mo S d:Nat} (h:lZ b N mo S d):1≤N*mo:=Nat.mul_le_mul h.N1 h.mo1
theorem lZ.Vd {b:aQ} {N mo S d:Nat} (h:lZ b N mo S d):chk b=none:=by
 have hi:=h.miI
 have hm:=h.miM
 have hp:=h.pos
 have hlt:b.issue<b.b_:=Oq h.avF h.mday (by omega)
 have hd:zu b=none:=by
  unfold zu
  rw [if_neg (by have := h.avF; simpa using this),if_neg (by have := h.mday; simpa using this),if_neg (by omega)]
  split
  ·rename_i e he
   have h1:=DR he
   have h3:=Oq h.mday (EL he) (by have := h.NM; omega)
   rw [if_neg (by omega)]
  ·rfl
 have hm1:=h.mo1
 have hpe:RG b≤200:=by
  unfold RG
  rw [aeX,h.mo0,hi,hm]
  have hNM:=h.NM
  generalize N*mo=Z at *
  rw [Int.tdiv_eq_ediv_of_nonneg (by omega)]
  have e:((S+Z:Nat):Int)-(S:Int)=Z:=by omega
  rw [e]
  have : (Z:Int) / (mo:Int)≤Z:=Int.ediv_le_self _ (by omega)
  omega
 unfold chk
 rw [hd,h.mo0,h.sums]
 simp only
 rw [if_neg (by omega),if_neg (by have := h.c1; have := h.c2; omega),if_neg (by have := h.st; omega),if_neg (by have := h.ex; omega),if_neg (by omega)]
theorem lZ.kEq {b:aQ} {N mo S d:Nat} (h:lZ b N mo S d):bT b=N:=by
 have hm1:=h.mo1
 obtain ⟨k1,k2,k3⟩:=Ht (b:=b) (by rw [h.mo0]; omega)
 have g1:∀ i,i<N→Goes b i:=fun i hi=>by
  refine ⟨_,h.aEq (by omega),?_⟩
  rw [h.is]
  have hs1:=h.s1; have hs2:=h.s2
  have e1:(N-i)*mo≤N*mo:=Nat.mul_le_mul_right _ (by omega)
  have e2:1*mo≤(N-i)*mo:=Nat.mul_le_mul_right _ (by omega)
  have := awL (k:=S) (l:=S+(N-i)*mo) (d:=d) hs1 (by omega) h.d1 h.d2 (by omega)
  omega
 have g2:¬ Goes b N:=by
  rintro ⟨a,ha,hlt⟩
  obtain rfl:=Option.some.inj (h.aic.symm.trans ha)
  rw [h.is] at hlt
  omega
 rcases Nat.lt_trichotomy (bT b) N with hl | hl | hl
 ·exact absurd (g1 _ hl) k2
 ·exact hl
 ·exact absurd (k1 _ hl) g2
theorem lZ.plan {b:aQ} {N mo S d:Nat} (h:lZ b N mo S d):aZ b=(none,dW b):=by
 have hh:MJ b=true:=by
  unfold MJ
  rw [h.kEq,h.aic]
  simp [h.is]
 unfold aZ
 rw [h.Vd]
 simp only
 rw [hh,if_pos rfl]
theorem lZ.anS {b:aQ} {N mo S d:Nat} (h:lZ b N mo S d):(aZ b).1=none:=by rw [h.plan]
theorem lZ.len {b:aQ} {N mo S d:Nat} (h:lZ b N mo S d):(aZ b).2.length=N:=by rw [h.plan]; simp only; rw [uG,h.kEq]
theorem lZ.per {b:aQ} {N mo S d:Nat} (h:lZ b N mo S d) {i:Nat} (hi:i<N):(aZ b).2[i]?=some (((md (S+i*mo) d:Nat):Int),((md (S+(i+1)*mo) d:Nat):Int))∧regular b (((md (S+i*mo) d:Nat):Int),((md (S+(i+1)*mo) d:Nat):Int))=true:=by
 have r0:=y9 (b:=b) (i:=i) (by rw [h.kEq]; exact hi)
 have a1:=h.aEq (i:=N-i) (by omega)
 have a2:=h.aEq (i:=N-1-i) (by omega)
 rw [show N-(N-i)=i by omega] at a1
 rw [show N-(N-1-i)=i+1 by omega] at a2
 rw [h.plan]
 constructor
 ·rw [h.kEq,a1,a2] at r0
  rw [r0]
  by_cases h0:i=0
  ·subst h0
   rw [if_pos rfl,h.is]
   simp
  ·rw [if_neg h0]
   rfl
 ·refine RU h.Vd (k:=N-1-i) (by rw [h.kEq]; omega) a2 ⟨_,?_,rfl⟩
  rw [show N-1-i+1=N-i by omega]
  exact a1
theorem lZ.mem {b:aQ} {N mo S d:Nat} (h:lZ b N mo S d) {p:Int×Int} (hp:p∈(aZ b).2):regular b p=true:=by
 obtain ⟨i,hi⟩:=List.getElem?_of_mem hp
 have hlt:i<N:=by rw [← h.len]; exact (List.getElem?_eq_some_iff.1 hi).1
 obtain ⟨h1,h2⟩:=h.per hlt
 rw [h1] at hi
 rw [← Option.some.inj hi]
 exact h2
theorem lZ.flow {b:aQ} {N mo S d:Nat} (h:lZ b N mo S d):dP b=(none,pJ (jV b) (mO b) (aZ b).2):=by
 have hne:=(iD h.anS).2.ne
 unfold dP
 rw [h.anS]
 simp only
 cases hps:(aZ b).2 with
 | nil=>exact absurd hps hne
 | cons p r =>
   have hreg:=h.mem (p:=p) (by rw [hps]; simp)
   have : sD b p = .ok (jV b):=by
    unfold sD
    rw [if_pos hreg]
   simp only
   rw [this]
   simp only
   congr 1
   cases r with
   | nil=>rfl
   | cons q r=>rfl
theorem lZ.awz {b:aQ} {N mo S d:Nat} (h:lZ b N mo S d):(dP b).1=none:=by rw [h.flow]
def an0 (e r:Rat):Nat→List Rat
 | 0=>[]
 | 1=>[e+r]
 | n+2=>e::an0 e r (n+1)
theorem abR (e r:Rat):∀ l:List (Int×Int),(pJ e r l).map Prod.snd=an0 e r l.length
 | []=>rfl
 | [_]=>rfl
 | _::q::l=>by
   have := abR e r (q::l)
   simp only [pJ,List.map_cons,List.length_cons] at this ⊢
   rw [this]
   rfl
theorem ad2 {b:aQ} (h:(dP b).1=none) {p:Int×Int} (hp:p∈(aZ b).2):KW b p p.1 p.1=0:=by
 have h0:=(tq h).1
 have hchk:=mJ h0
 have hf:=nP (dX hchk).2.1
 obtain ⟨d1,d2,d3⟩:=kC h0 hp
 have hx:=RF h hp (Int.le_refl p.1) (Int.le_refl p.1) (by omega:p.1≤p.2)
 unfold nY at hx
 by_cases hc:b.count=4
 ·rw [if_pos hc] at hx
  cases hq:sF b p with
  | none=>rw [hq] at hx; simp at hx
  | some l =>
    rw [hq] at hx
    simp only at hx
    rw [if_neg (by omega)] at hx
    rw [← Except.ok.inj hx]
    have hok:=(Gq hchk d2 hq).1
    have : ∀ (l:List (Int×Int)) (s:Rat),(∀ q∈l,QOk q)→sumF b.d_ p.1 p.1 s l=s:=by
     intro l
     induction l with
     | nil=>intro s _; rfl
     | cons q r ih =>
       intro s hl
       simp only [sumF]
       rw [ih _ (fun z hz=>hl z (by simp [hz]))]
       have hlt:=(hl q (by simp)).lt
       have e:max (min p.1 q.2-max p.1 q.1) 0=0:=by omega
       unfold yF
       rw [e,divInt_zero]
       exact Rat.add_zero s
    rw [this l _ hok]
    exact divInt_zero 1
 ·rw [if_neg hc,if_neg (by omega)] at hx
  rw [← Except.ok.inj hx]
  unfold I7
  rw [af0]
  exact divInt_zero _
theorem lZ.at {b:aQ} {N mo S d:Nat} (h:lZ b N mo S d) {i:Nat} (hi:i<N) :
  (leftB b (md (S+i*mo) d:Nat)).1=none∧iZ b (md (S+i*mo) d:Nat)=(((md (S+i*mo) d:Nat):Int),((md (S+(i+1)*mo) d:Nat):Int)) ∧
  V_ (aZ b).2 (md (S+i*mo) d:Nat)=i∧avp b (md (S+i*mo) d:Nat)=an0 (jV b) (mO b) (N-i) ∧
  (aaD b (md (S+i*mo) d:Nat)≠0∧asO b (md (S+i*mo) d:Nat)=1∧B_ b (md (S+i*mo) d:Nat)=0):=by
 obtain ⟨g1,g2⟩:=h.per hi
 have hmem:=List.mem_of_getElem? g1
 have h0:=h.anS
 have hf:=h.awz
 have hchk:=h.Vd
 obtain ⟨d1,d2,d3⟩:=kC h0 hmem
 obtain ⟨e1,e2,e3⟩:=Qw h0 hmem (s:=(md (S+i*mo) d:Nat)) (Int.le_refl _) d3
 have hl:=Xt hf e2 e3
 obtain ⟨k,k1,k2,k3,k4⟩:=Qx h0 e2 e3
 have hki:k=i:=by
  rcases Nat.lt_trichotomy k i with hlt | heq | hlt
  ·obtain ⟨z,rfl⟩:∃ z,i=k+z+1:=⟨i-k-1,by omega⟩
   have := RI h0 z k k2 g1
   simp only at this
   omega
  ·exact heq
  ·obtain ⟨z,rfl⟩:∃ z,k=i+z+1:=⟨k-i-1,by omega⟩
   have := RI h0 z i g1 k2
   simp only at this d3
   omega
 subst hki
 have hex:Ox b (md (S+k*mo) d:Nat)=false:=by unfold Ox; rw [h.ex]; simp
 have hs:=ad2 hf hmem
 refine ⟨hl,e1,k1,?_,?_,?_,?_⟩
 ·unfold avp
  rw [hex,if_neg (by decide),k1,Int.toNat_natCast,h.flow]
  simp only
  rw [aee _ _ _ _ (by rw [h.len]; exact hi),abR,List.length_drop,h.len]
 ·unfold aaD
  rw [e1]
  simp only
  have hx:=RF hf hmem (x:=((md (S+k*mo) d:Nat):Int)) (y:=((md (S+(k+1)*mo) d:Nat):Int)) (Int.le_refl _) (by omega) (Int.le_refl _)
  by_cases hc:b.count=4
  ·have := anN hchk d1 d2 d3 g2 hc hx
   rw [this]
   have hfr:=nP (dX hchk).2.1
   rcases hfr with hz | hz | hz | hz <;> rw [hz] <;> decide +kernel
  ·unfold nY at hx
   rw [if_neg hc,if_neg (by simp only; omega)] at hx
   rw [← Except.ok.inj hx]
   unfold I7
   have hpos:0<eG b.count ((md (S+k*mo) d:Nat):Int) ((md (S+(k+1)*mo) d:Nat):Int):=by
    have hs1:=h.s1; have hs2:=h.s2; have hm1:=h.mo1
    have u1:(k+1)*mo≤N*mo:=Nat.mul_le_mul_right _ (by omega)
    have u2:(k+1)*mo=k*mo+mo:=by rw [Nat.add_mul,Nat.one_mul]
    unfold eG
    split
    ·rw [Ot,apD (by omega) (by omega) h.d1 h.d2,apD (by omega) (by omega) h.d1 h.d2]
     omega
    ·simp only at d3; omega
   have hD:(0:Int)<(if b.count=3 then 365 else 360):=by split <;> omega
   generalize (if b.count=3 then (365:Int) else 360)=D at *
   generalize eG b.count _ _=z at *
   intro hz
   rw [Rat.divInt_eq_div] at hz
   have hz0:(z:Rat)≠0:=fun h=>by have := Rat.intCast_eq_zero_iff.1 h; omega
   have hD0:(D:Rat)≠0:=fun h=>by have := Rat.intCast_eq_zero_iff.1 h; omega
   generalize (z:Rat)=zr at *
   generalize (D:Rat)=dr at *
   grind
 ·unfold asO
  rw [e1,if_pos g2]
  unfold anO
  rw [e1]
  simp only at hs ⊢
  rw [hs,Rat.div_def,Rat.zero_mul]
  grind
 ·rw [as5 h0 hmem (Int.le_refl _) d3 h.ex]
  unfold yT
  split
  ·simp only
   rw [Int.sub_self,divInt_zero,Rat.mul_zero]
  ·rw [hs,Rat.mul_zero]
end Go.Ev.Code
