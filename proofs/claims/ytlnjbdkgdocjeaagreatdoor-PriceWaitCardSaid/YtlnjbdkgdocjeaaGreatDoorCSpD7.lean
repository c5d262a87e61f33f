/- A part of the proof of priceWait_card. -/
import Derived.Test.YtlnjbdkgdocjeaaGreatDoorCSpD6
set_option linter.unusedVariables false
set_option linter.unusedSimpArgs false
namespace Go.Ev.Code
open Go Go.Ev
def md (k d:Nat):Nat:=dayOf ((k-1) / 12) ((k-1) % 12+1) d
theorem Zb {k d:Nat} (h1:22801≤k) (h2:k≤26400) (d1:1≤d) (d2:d≤28):uF ((k-1) / 12) ((k-1) % 12+1) d:=by
 have hm1:1≤(k-1) % 12+1∧(k-1) % 12+1≤12:=by omega
 have hp:=yC (y:=(k-1) / 12) hm1.1 hm1.2
 exact ⟨by omega,by omega,hm1.1,hm1.2,d1,by omega⟩
theorem adx {k d:Nat} (h1:22801≤k) (h2:k≤26400) (d1:1≤d) (d2:d≤28):mi (md k d:Nat)=k:=by
 have := uJ (Zb h1 h2 d1 d2)
 unfold md
 rw [this]
 omega
theorem Zc {k d:Nat} (h1:22801≤k) (h2:k≤26400) (d1:1≤d) (d2:d≤28):aK (md k d:Nat):=by
 have := (Zb h1 h2 d1 d2).le
 unfold md
 exact ⟨by omega,by omega⟩
theorem avR {k l d:Nat} (h1:22801≤k) (h2:l≤26400) (d1:1≤d) (d2:d≤28) (h:k<l):md k d<md l d:=by
 have := KI (Zc h1 (by omega) d1 d2) (Zc (k:=l) (by omega) h2 d1 d2) (by rw [adx h1 (by omega) d1 d2,adx (by omega) h2 d1 d2]; exact h)
 omega
theorem aoB {k d:Nat} (h1:22801≤k) (h2:k≤26400) (d1:1≤d) (d2:d≤28):d30 (md k d:Nat)=30*(k:Int)+d:=by
 have hc:=Zb h1 h2 d1 d2
 unfold d30
 rw [adx h1 h2 d1 d2]
 unfold md
 rw [show ((dayOf ((k-1) / 12) ((k-1) % 12+1) d:Nat):Int).toNat=dayOf ((k-1) / 12) ((k-1) % 12+1) d by omega,VW hc]
 simp only
 omega
theorem ar0 {k l d:Nat} {n:Int} (h1:22801≤k) (h2:k≤26400) (d1:1≤d) (d2:d≤28) (hn:(l:Int)=k+n) (h3:22801≤l) (h4:l≤26400):mF (md k d:Nat) n false=some (md l d):=by
 have hc:=Zb h1 h2 d1 d2
 have hl:=Zb h3 h4 d1 d2
 unfold mF
 rw [if_pos (Zc h1 h2 d1 d2)]
 unfold md
 rw [show ((dayOf ((k-1) / 12) ((k-1) % 12+1) d:Nat):Int).toNat=dayOf ((k-1) / 12) ((k-1) % 12+1) d by omega,VW hc]
 unfold GK
 rw [if_pos (by omega)]
 simp only
 have e1:((((k-1) / 12*12+((k-1) % 12+1)-1:Nat):Int)+n) / 12=(((l-1) / 12:Nat):Int):=by omega
 have e2:((((k-1) / 12*12+((k-1) % 12+1)-1:Nat):Int)+n) % 12=(((l-1) % 12:Nat):Int):=by omega
 have hd:=hl.d2
 rw [e1,e2,Int.toNat_natCast,Int.toNat_natCast,if_neg (by simp),Nat.min_eq_left hd]
 unfold nO
 rw [if_pos ⟨hl.y1,hl.y2⟩]
theorem ars (n:Nat):Ce ((n:Int):Rat)=txt n:=by
 unfold Ce
 rw [Rat.den_intCast,if_pos rfl,Rat.num_intCast]
 unfold JY
 rw [if_neg (by omega)]
 simp
structure iZ (b:ay) (N mo S d:Nat):Prop where
 s1:22801≤S
 s2:S+N*mo≤26400
 d1:1≤d
 d2:d≤28
 is:b.issue=(md S d:Nat)
 mt:b.bf=(md (S+N*mo) d:Nat)
 N1:1≤N
 NM:N*mo≤120
 mo0:months b=mo
 mo1:1≤mo
 mo2:mo≤12
 sums:vk b=none
 c1:1≤b.count
 c2:b.count≤4
 st:b.stub=0
 en:b.ends=false
 ex:b.ex=0
theorem iZ.N2 {b:ay} {N mo S d:Nat} (h:iZ b N mo S d):N≤120:=by
 have h1:N*1≤N*mo:=Nat.mul_le_mul_left _ h.mo1
 have := h.NM
 omega
theorem iZ.aEq {b:ay} {N mo S d:Nat} (h:iZ b N mo S d) {i:Nat} (hi:i≤N):anch b i=some (md (S+(N-i)*mo) d):=by
 have hs1:=h.s1; have hs2:=h.s2
 have hle:i*mo≤N*mo:=Nat.mul_le_mul_right _ hi
 unfold anch
 rw [h.mo0,h.en,h.mt,Nat.sub_mul]
 have e : -(i:Int)*(mo:Int) = -((i*mo:Nat):Int):=by rw [Int.neg_mul]; simp
 rw [e]
 generalize i*mo=z at *
 generalize N*mo=Z at *
 exact ar0 (by omega) (by omega) h.d1 h.d2 (by omega) (by omega) (by omega)
theorem iZ.ahw {b:ay} {N mo S d:Nat} (h:iZ b N mo S d):anch b N=some (md S d):=by
 have := h.aEq (Nat.le_refl N)
 rw [Nat.sub_self,Nat.zero_mul,Nat.add_zero] at this
 exact this
theorem iZ.auM {b:ay} {N mo S d:Nat} (h:iZ b N mo S d):aK b.issue:=by
 have hs1:=h.s1; have hs2:=h.s2
 rw [h.is]; exact Zc h.s1 (by omega) h.d1 h.d2
theorem iZ.mday {b:ay} {N mo S d:Nat} (h:iZ b N mo S d):aK b.bf:=by
 have hs1:=h.s1; have hs2:=h.s2
 rw [h.mt]; exact Zc (by omega) (by omega) h.d1 h.d2
theorem iZ.miI {b:ay} {N mo S d:Nat} (h:iZ b N mo S d):mi b.issue=S:=by
 have hs1:=h.s1; have hs2:=h.s2
 rw [h.is]; exact adx h.s1 (by omega) h.d1 h.d2
theorem iZ.miM {b:ay} {N mo S d:Nat} (h:iZ b N mo S d):mi b.bf=S+N*mo:=by
 have hs1:=h.s1; have hs2:=h.s2
 rw [h.mt]; exact adx (by omega) (by omega) h.d1 h.d2
theorem iZ.pos {b:ay} {N mo S d:Nat} (h:iZ b N mo S d):1≤N*mo:=Nat.mul_le_mul h.N1 h.mo1
theorem iZ.TJ {b:ay} {N mo S d:Nat} (h:iZ b N mo S d):chk b=none:=by
 have hi:=h.miI
 have hm:=h.miM
 have hp:=h.pos
 have hlt:b.issue<b.bf:=KI h.auM h.mday (by omega)
 have hd:uI b=none:=by
  unfold uI
  rw [if_neg (by have := h.auM; simpa using this),if_neg (by have := h.mday; simpa using this),if_neg (by omega)]
  split
  ·rename_i e he
   have h1:=zB he
   have h3:=KI h.mday (AX he) (by have := h.NM; omega)
   rw [if_neg (by omega)]
  ·rfl
 have hm1:=h.mo1
 have hpe:P_ b≤200:=by
  unfold P_
  rw [aeE,h.mo0,hi,hm]
  have hNM:=h.NM
  generalize N*mo=Z at *
  rw [Int.tdiv_eq_ediv_of_nonneg (by omega)]
  have e:((S+Z:Nat):Int)-(S:Int)=Z:=by omega
  rw [e]
  have : (Z:Int) / (mo:Int)≤Z:=Int.ediv_le_self _ (by omega)
  omega
 unfold chk
 rw [hd,h.mo0,h.sums]
 simp only
 rw [if_neg (by omega),if_neg (by have := h.c1; have := h.c2; omega),if_neg (by have := h.st; omega),if_neg (by have := h.ex; omega),if_neg (by omega)]
theorem iZ.kEq {b:ay} {N mo S d:Nat} (h:iZ b N mo S d):aX b=N:=by
 have hm1:=h.mo1
 obtain ⟨k1,k2,k3⟩:=Ej (b:=b) (by rw [h.mo0]; omega)
 have g1:∀ i,i<N→Goes b i:=fun i hi=>by
  refine ⟨_,h.aEq (by omega),?_⟩
  rw [h.is]
  have hs1:=h.s1; have hs2:=h.s2
  have e1:(N-i)*mo≤N*mo:=Nat.mul_le_mul_right _ (by omega)
  have e2:1*mo≤(N-i)*mo:=Nat.mul_le_mul_right _ (by omega)
  have := avR (k:=S) (l:=S+(N-i)*mo) (d:=d) hs1 (by omega) h.d1 h.d2 (by omega)
  omega
 have g2:¬ Goes b N:=by
  rintro ⟨a,ha,hlt⟩
  obtain rfl:=Option.some.inj (h.ahw.symm.trans ha)
  rw [h.is] at hlt
  omega
 rcases Nat.lt_trichotomy (aX b) N with hl | hl | hl
 ·exact absurd (g1 _ hl) k2
 ·exact hl
 ·exact absurd (k1 _ hl) g2
theorem iZ.plan {b:ay} {N mo S d:Nat} (h:iZ b N mo S d):aF b=(none,dw b):=by
 have hh:Jv b=true:=by
  unfold Jv
  rw [h.kEq,h.ahw]
  simp [h.is]
 unfold aF
 rw [h.TJ]
 simp only
 rw [hh,if_pos rfl]
theorem iZ.amY {b:ay} {N mo S d:Nat} (h:iZ b N mo S d):(aF b).1=none:=by rw [h.plan]
theorem iZ.len {b:ay} {N mo S d:Nat} (h:iZ b N mo S d):(aF b).2.length=N:=by rw [h.plan]; simp only; rw [nP,h.kEq]
theorem iZ.per {b:ay} {N mo S d:Nat} (h:iZ b N mo S d) {i:Nat} (hi:i<N):(aF b).2[i]?=some (((md (S+i*mo) d:Nat):Int),((md (S+(i+1)*mo) d:Nat):Int))∧regular b (((md (S+i*mo) d:Nat):Int),((md (S+(i+1)*mo) d:Nat):Int))=true:=by
 have r0:=uw (b:=b) (i:=i) (by rw [h.kEq]; exact hi)
 have a1:=h.aEq (i:=N-i) (by omega)
 have a2:=h.aEq (i:=N-1-i) (by omega)
 rw [show N-(N-i)=i by omega] at a1
 rw [show N-(N-1-i)=i+1 by omega] at a2
 rw [h.plan]
 constructor
 ·rw [h.kEq,a1,a2] at r0
  rw [r0]
  by_cases h0:i=0
  ·subst h0
   rw [if_pos rfl,h.is]
   simp
  ·rw [if_neg h0]
   rfl
 ·refine Ql h.TJ (k:=N-1-i) (by rw [h.kEq]; omega) a2 ⟨_,?_,rfl⟩
  rw [show N-1-i+1=N-i by omega]
  exact a1
theorem iZ.mem {b:ay} {N mo S d:Nat} (h:iZ b N mo S d) {p:Int×Int} (hp:p∈(aF b).2):regular b p=true:=by
 obtain ⟨i,hi⟩:=List.getElem?_of_mem hp
 have hlt:i<N:=by rw [← h.len]; exact (List.getElem?_eq_some_iff.1 hi).1
 obtain ⟨h1,h2⟩:=h.per hlt
 rw [h1] at hi
 rw [← Option.some.inj hi]
 exact h2
theorem iZ.flow {b:ay} {N mo S d:Nat} (h:iZ b N mo S d):dG b=(none,kC (ig b) (jg b) (aF b).2):=by
 have hne:=(eF h.amY).2.ne
 unfold dG
 rw [h.amY]
 simp only
 cases hps:(aF b).2 with
 | nil=>exact absurd hps hne
 | cons p r =>
   have hreg:=h.mem (p:=p) (by rw [hps]; simp)
   have : oz b p = .ok (ig b):=by
    unfold oz
    rw [if_pos hreg]
   simp only
   rw [this]
   simp only
   congr 1
   cases r with
   | nil=>rfl
   | cons q r=>rfl
theorem iZ.avH {b:ay} {N mo S d:Nat} (h:iZ b N mo S d):(dG b).1=none:=by rw [h.flow]
def am5 (e r:Rat):Nat→List Rat
 | 0=>[]
 | 1=>[e+r]
 | n+2=>e::am5 e r (n+1)
theorem abd (e r:Rat):∀ l:List (Int×Int),(kC e r l).map Prod.snd=am5 e r l.length
 | []=>rfl
 | [_]=>rfl
 | _::q::l=>by
   have := abd e r (q::l)
   simp only [kC,List.map_cons,List.length_cons] at this ⊢
   rw [this]
   rfl
theorem adK {b:ay} (h:(dG b).1=none) {p:Int×Int} (hp:p∈(aF b).2):qI b p p.1 p.1=0:=by
 have h0:=(yA h).1
 have hchk:=jO h0
 have hf:=fV (bW hchk).2.1
 obtain ⟨d1,d2,d3⟩:=kM h0 hp
 have hx:=JB h hp (Int.le_refl p.1) (Int.le_refl p.1) (by omega:p.1≤p.2)
 unfold jy at hx
 by_cases hc:b.count=4
 ·rw [if_pos hc] at hx
  cases hq:mJ b p with
  | none=>rw [hq] at hx; simp at hx
  | some l =>
    rw [hq] at hx
    simp only at hx
    rw [if_neg (by omega)] at hx
    rw [← Except.ok.inj hx]
    have hok:=(OD hchk d2 hq).1
    have : ∀ (l:List (Int×Int)) (s:Rat),(∀ q∈l,QOk q)→sumF b.bK p.1 p.1 s l=s:=by
     intro l
     induction l with
     | nil=>intro s _; rfl
     | cons q r ih =>
       intro s hl
       simp only [sumF]
       rw [ih _ (fun z hz=>hl z (by simp [hz]))]
       have hlt:=(hl q (by simp)).lt
       have e:max (min p.1 q.2-max p.1 q.1) 0=0:=by omega
       unfold sU
       rw [e,divInt_zero]
       exact Rat.add_zero s
    rw [this l _ hok]
    exact divInt_zero 1
 ·rw [if_neg hc,if_neg (by omega)] at hx
  rw [← Except.ok.inj hx]
  unfold EM
  rw [afL]
  exact divInt_zero _
theorem iZ.at {b:ay} {N mo S d:Nat} (h:iZ b N mo S d) {i:Nat} (hi:i<N) :
  (leftB b (md (S+i*mo) d:Nat)).1=none∧bZ b (md (S+i*mo) d:Nat)=(((md (S+i*mo) d:Nat):Int),((md (S+(i+1)*mo) d:Nat):Int)) ∧
  O9 (aF b).2 (md (S+i*mo) d:Nat)=i∧auv b (md (S+i*mo) d:Nat)=am5 (ig b) (jg b) (N-i) ∧
  (b_ b (md (S+i*mo) d:Nat)≠0∧pI b (md (S+i*mo) d:Nat)=1∧apu b (md (S+i*mo) d:Nat)=0):=by
 obtain ⟨g1,g2⟩:=h.per hi
 have hmem:=List.mem_of_getElem? g1
 have h0:=h.amY
 have hf:=h.avH
 have hchk:=h.TJ
 obtain ⟨d1,d2,d3⟩:=kM h0 hmem
 obtain ⟨e1,e2,e3⟩:=OB h0 hmem (s:=(md (S+i*mo) d:Nat)) (Int.le_refl _) d3
 have hl:=Wy hf e2 e3
 obtain ⟨k,k1,k2,k3,k4⟩:=Vp h0 e2 e3
 have hki:k=i:=by
  rcases Nat.lt_trichotomy k i with hlt | heq | hlt
  ·obtain ⟨z,rfl⟩:∃ z,i=k+z+1:=⟨i-k-1,by omega⟩
   have := Qa h0 z k k2 g1
   simp only at this
   omega
  ·exact heq
  ·obtain ⟨z,rfl⟩:∃ z,k=i+z+1:=⟨k-i-1,by omega⟩
   have := Qa h0 z i g1 k2
   simp only at this d3
   omega
 subst hki
 have hex:exB b (md (S+k*mo) d:Nat)=false:=by unfold exB; rw [h.ex]; simp
 have hs:=adK hf hmem
 refine ⟨hl,e1,k1,?_,?_,?_,?_⟩
 ·unfold auv
  rw [hex,if_neg (by decide),k1,Int.toNat_natCast,h.flow]
  simp only
  rw [ad3 _ _ _ _ (by rw [h.len]; exact hi),abd,List.length_drop,h.len]
 ·unfold b_
  rw [e1]
  simp only
  have hx:=JB hf hmem (x:=((md (S+k*mo) d:Nat):Int)) (y:=((md (S+(k+1)*mo) d:Nat):Int)) (Int.le_refl _) (by omega) (Int.le_refl _)
  by_cases hc:b.count=4
  ·have := amU hchk d1 d2 d3 g2 hc hx
   rw [this]
   have hfr:=fV (bW hchk).2.1
   rcases hfr with hz | hz | hz | hz <;> rw [hz] <;> decide +kernel
  ·unfold jy at hx
   rw [if_neg hc,if_neg (by simp only; omega)] at hx
   rw [← Except.ok.inj hx]
   unfold EM
   have hpos:0<dH b.count ((md (S+k*mo) d:Nat):Int) ((md (S+(k+1)*mo) d:Nat):Int):=by
    have hs1:=h.s1; have hs2:=h.s2; have hm1:=h.mo1
    have u1:(k+1)*mo≤N*mo:=Nat.mul_le_mul_right _ (by omega)
    have u2:(k+1)*mo=k*mo+mo:=by rw [Nat.add_mul,Nat.one_mul]
    unfold dH
    split
    ·rw [KJ,aoB (by omega) (by omega) h.d1 h.d2,aoB (by omega) (by omega) h.d1 h.d2]
     omega
    ·simp only at d3; omega
   have hD:(0:Int)<(if b.count=3 then 365 else 360):=by split <;> omega
   generalize (if b.count=3 then (365:Int) else 360)=D at *
   generalize dH b.count _ _=z at *
   intro hz
   rw [Rat.divInt_eq_div] at hz
   have hz0:(z:Rat)≠0:=fun h=>by have := Rat.intCast_eq_zero_iff.1 h; omega
   have hD0:(D:Rat)≠0:=fun h=>by have := Rat.intCast_eq_zero_iff.1 h; omega
   generalize (z:Rat)=zr at *
   generalize (D:Rat)=dr at *
   grind
 ·unfold pI
  rw [e1,if_pos g2]
  unfold ku
  rw [e1]
  simp only at hs ⊢
  rw [hs,Rat.div_def,Rat.zero_mul]
  grind
 ·rw [arZ h0 hmem (Int.le_refl _) d3 h.ex]
  unfold ahB
  split
  ·simp only
   rw [Int.sub_self,divInt_zero,Rat.mul_zero]
  ·rw [hs,Rat.mul_zero]
end Go.Ev.Code
