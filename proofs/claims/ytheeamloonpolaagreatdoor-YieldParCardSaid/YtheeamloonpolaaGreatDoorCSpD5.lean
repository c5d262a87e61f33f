/- A part of the proof of riskZero_card, yieldPar_card, pricePar_card. -/
import Derived.Test.YtheeamloonpolaaGreatDoorCSpD4
import Derived.Test.YtheeamloonpolaaGreatDoorCSpD3
import Derived.Test.YtheeamloonpolaaGreatDoorCSpD1
set_option linter.unusedVariables false
set_option linter.unusedSimpArgs false
section
namespace Go.Ev.Code
open Go Go.Ev
def md (k d:Nat):Nat:=dayOf ((k-1) / 12) ((k-1) % 12+1) d
theorem Zl {k d:Nat} (h1:22801≤k) (h2:k≤26400) (d1:1≤d) (d2:d≤28):rD ((k-1) / 12) ((k-1) % 12+1) d:=by
 have hm1:1≤(k-1) % 12+1∧(k-1) % 12+1≤12:=by omega
 have hp:=A_ (y:=(k-1) / 12) hm1.1 hm1.2
 exact ⟨by omega,by omega,hm1.1,hm1.2,d1,by omega⟩
theorem adh {k d:Nat} (h1:22801≤k) (h2:k≤26400) (d1:1≤d) (d2:d≤28):mi (md k d:Nat)=k:=by
 have := uH (Zl h1 h2 d1 d2)
 unfold md
 rw [this]
 omega
theorem Zm {k d:Nat} (h1:22801≤k) (h2:k≤26400) (d1:1≤d) (d2:d≤28):bG (md k d:Nat):=by
 have := (Zl h1 h2 d1 d2).le
 unfold md
 exact ⟨by omega,by omega⟩
theorem ahT {y m d:Nat} (h:rD y m d):md (y*12+m) d=dayOf y m d:=by
 have h1:=h.m1; have h2:=h.m2
 have e1:(y*12+m-1) / 12=y:=by omega
 have e2:(y*12+m-1) % 12+1=m:=by omega
 unfold md
 rw [e1,e2]
theorem avM {k l d:Nat} (h1:22801≤k) (h2:l≤26400) (d1:1≤d) (d2:d≤28) (h:k<l):md k d<md l d:=by
 have := NR (Zm h1 (by omega) d1 d2) (Zm (k:=l) (by omega) h2 d1 d2) (by rw [adh h1 (by omega) d1 d2,adh (by omega) h2 d1 d2]; exact h)
 omega
theorem ao8 {k d:Nat} (h1:22801≤k) (h2:k≤26400) (d1:1≤d) (d2:d≤28):d30 (md k d:Nat)=30*(k:Int)+d:=by
 have hc:=Zl h1 h2 d1 d2
 unfold d30
 rw [adh h1 h2 d1 d2]
 unfold md
 rw [show ((dayOf ((k-1) / 12) ((k-1) % 12+1) d:Nat):Int).toNat=dayOf ((k-1) / 12) ((k-1) % 12+1) d by omega,WM hc]
 simp only
 omega
theorem aer {k l d:Nat} {n:Int} (h1:22801≤k) (h2:k≤26400) (d1:1≤d) (d2:d≤28) (hn:(l:Int)=k+n) (h3:22801≤l) (h4:l≤26400):nO (md k d:Nat) n false=some (md l d):=by
 have hc:=Zl h1 h2 d1 d2
 have hl:=Zl h3 h4 d1 d2
 unfold nO
 rw [if_pos (Zm h1 h2 d1 d2)]
 unfold md
 rw [show ((dayOf ((k-1) / 12) ((k-1) % 12+1) d:Nat):Int).toNat=dayOf ((k-1) / 12) ((k-1) % 12+1) d by omega,WM hc]
 unfold Jq
 rw [if_pos (by omega)]
 simp only
 have e1:((((k-1) / 12*12+((k-1) % 12+1)-1:Nat):Int)+n) / 12=(((l-1) / 12:Nat):Int):=by omega
 have e2:((((k-1) / 12*12+((k-1) % 12+1)-1:Nat):Int)+n) % 12=(((l-1) % 12:Nat):Int):=by omega
 have hd:=hl.d2
 rw [e1,e2,Int.toNat_natCast,Int.toNat_natCast,if_neg (by simp),Nat.min_eq_left hd]
 unfold rO
 rw [if_pos ⟨hl.y1,hl.y2⟩]
theorem aj7 (n:Nat):sU ((n:Int):Rat)=txt n:=by
 unfold sU
 rw [Rat.den_intCast,if_pos rfl,Rat.num_intCast]
 unfold zD
 rw [if_neg (by omega)]
 simp
structure iJ (b:aH) (N mo S d:Nat):Prop where
 s1:22801≤S
 s2:S+N*mo≤26400
 d1:1≤d
 d2:d≤28
 is:b.issue=(md S d:Nat)
 mt:b.cZ=(md (S+N*mo) d:Nat)
 N1:1≤N
 NM:N*mo≤120
 mo0:months b=mo
 mo1:1≤mo
 mo2:mo≤12
 sums:xM b=none
 c1:1≤b.count
 c2:b.count≤4
 st:b.stub=0
 en:b.ends=false
 ex:b.ex=0
theorem iJ.N2 {b:aH} {N mo S d:Nat} (h:iJ b N mo S d):N≤120:=by
 have h1:N*1≤N*mo:=Nat.mul_le_mul_left _ h.mo1
 have := h.NM
 omega
theorem iJ.aEq {b:aH} {N mo S d:Nat} (h:iJ b N mo S d) {i:Nat} (hi:i≤N):anch b i=some (md (S+(N-i)*mo) d):=by
 have hs1:=h.s1; have hs2:=h.s2
 have hle:i*mo≤N*mo:=Nat.mul_le_mul_right _ hi
 unfold anch
 rw [h.mo0,h.en,h.mt,Nat.sub_mul]
 have e : -(i:Int)*(mo:Int) = -((i*mo:Nat):Int):=by rw [Int.neg_mul]; simp
 rw [e]
 generalize i*mo=z at *
 generalize N*mo=Z at *
 exact aer (by omega) (by omega) h.d1 h.d2 (by omega) (by omega) (by omega)
theorem iJ.ahM {b:aH} {N mo S d:Nat} (h:iJ b N mo S d):anch b N=some (md S d):=by
 have := h.aEq (Nat.le_refl N)
 rw [Nat.sub_self,Nat.zero_mul,Nat.add_zero] at this
 exact this
theorem iJ.auT {b:aH} {N mo S d:Nat} (h:iJ b N mo S d):bG b.issue:=by
 have hs1:=h.s1; have hs2:=h.s2
 rw [h.is]; exact Zm h.s1 (by omega) h.d1 h.d2
theorem iJ.mday {b:aH} {N mo S d:Nat} (h:iJ b N mo S d):bG b.cZ:=by
 have hs1:=h.s1; have hs2:=h.s2
 rw [h.mt]; exact Zm (by omega) (by omega) h.d1 h.d2
theorem iJ.miI {b:aH} {N mo S d:Nat} (h:iJ b N mo S d):mi b.issue=S:=by
 have hs1:=h.s1; have hs2:=h.s2
 rw [h.is]; exact adh h.s1 (by omega) h.d1 h.d2
theorem iJ.miM {b:aH} {N mo S d:Nat} (h:iJ b N mo S d):mi b.cZ=S+N*mo:=by
 have hs1:=h.s1; have hs2:=h.s2
 rw [h.mt]; exact adh (by omega) (by omega) h.d1 h.d2
theorem iJ.pos {b:aH} {N mo S d:Nat} (h:iJ b N mo S d):1≤N*mo:=Nat.mul_le_mul h.N1 h.mo1
theorem iJ.lJ {b:aH} {N mo S d:Nat} (h:iJ b N mo S d):chk b=none:=by
 have hi:=h.miI
 have hm:=h.miM
 have hp:=h.pos
 have hlt:b.issue<b.cZ:=NR h.auT h.mday (by omega)
 have hd:Di b=none:=by
  unfold Di
  rw [if_neg (by have := h.auT; simpa using this),if_neg (by have := h.mday; simpa using this),if_neg (by omega)]
  split
  ·rename_i e he
   have h1:=BZ he
   have h3:=NR h.mday (Dy he) (by have := h.NM; omega)
   rw [if_neg (by omega)]
  ·rfl
 have hm1:=h.mo1
 have hpe:U2 b≤200:=by
  unfold U2
  rw [aew,h.mo0,hi,hm]
  have hNM:=h.NM
  generalize N*mo=Z at *
  rw [Int.tdiv_eq_ediv_of_nonneg (by omega)]
  have e:((S+Z:Nat):Int)-(S:Int)=Z:=by omega
  rw [e]
  have : (Z:Int) / (mo:Int)≤Z:=Int.ediv_le_self _ (by omega)
  omega
 unfold chk
 rw [hd,h.mo0,h.sums]
 simp only
 rw [if_neg (by omega),if_neg (by have := h.c1; have := h.c2; omega),if_neg (by have := h.st; omega),if_neg (by have := h.ex; omega),if_neg (by omega)]
theorem iJ.kEq {b:aH} {N mo S d:Nat} (h:iJ b N mo S d):bQ b=N:=by
 have hm1:=h.mo1
 obtain ⟨k1,k2,k3⟩:=Gf (b:=b) (by rw [h.mo0]; omega)
 have g1:∀ i,i<N→Goes b i:=fun i hi=>by
  refine ⟨_,h.aEq (by omega),?_⟩
  rw [h.is]
  have hs1:=h.s1; have hs2:=h.s2
  have e1:(N-i)*mo≤N*mo:=Nat.mul_le_mul_right _ (by omega)
  have e2:1*mo≤(N-i)*mo:=Nat.mul_le_mul_right _ (by omega)
  have := avM (k:=S) (l:=S+(N-i)*mo) (d:=d) hs1 (by omega) h.d1 h.d2 (by omega)
  omega
 have g2:¬ Goes b N:=by
  rintro ⟨a,ha,hlt⟩
  obtain rfl:=Option.some.inj (h.ahM.symm.trans ha)
  rw [h.is] at hlt
  omega
 rcases Nat.lt_trichotomy (bQ b) N with hl | hl | hl
 ·exact absurd (g1 _ hl) k2
 ·exact hl
 ·exact absurd (k1 _ hl) g2
theorem iJ.plan {b:aH} {N mo S d:Nat} (h:iJ b N mo S d):aS b=(none,dR b):=by
 have hh:FV b=true:=by
  unfold FV
  rw [h.kEq,h.ahM]
  simp [h.is]
 unfold aS
 rw [h.lJ]
 simp only
 rw [hh,if_pos rfl]
theorem iJ.ahX {b:aH} {N mo S d:Nat} (h:iJ b N mo S d):(aS b).1=none:=by rw [h.plan]
theorem iJ.len {b:aH} {N mo S d:Nat} (h:iJ b N mo S d):(aS b).2.length=N:=by rw [h.plan]; simp only; rw [r_,h.kEq]
theorem iJ.per {b:aH} {N mo S d:Nat} (h:iJ b N mo S d) {i:Nat} (hi:i<N):(aS b).2[i]?=some (((md (S+i*mo) d:Nat):Int),((md (S+(i+1)*mo) d:Nat):Int))∧regular b (((md (S+i*mo) d:Nat):Int),((md (S+(i+1)*mo) d:Nat):Int))=true:=by
 have r0:=yw (b:=b) (i:=i) (by rw [h.kEq]; exact hi)
 have a1:=h.aEq (i:=N-i) (by omega)
 have a2:=h.aEq (i:=N-1-i) (by omega)
 rw [show N-(N-i)=i by omega] at a1
 rw [show N-(N-1-i)=i+1 by omega] at a2
 rw [h.plan]
 constructor
 ·rw [h.kEq,a1,a2] at r0
  rw [r0]
  by_cases h0:i=0
  ·subst h0
   rw [if_pos rfl,h.is]
   simp
  ·rw [if_neg h0]
   rfl
 ·refine Rw h.lJ (k:=N-1-i) (by rw [h.kEq]; omega) a2 ⟨_,?_,rfl⟩
  rw [show N-1-i+1=N-i by omega]
  exact a1
theorem iJ.mem {b:aH} {N mo S d:Nat} (h:iJ b N mo S d) {p:Int×Int} (hp:p∈(aS b).2):regular b p=true:=by
 obtain ⟨i,hi⟩:=List.getElem?_of_mem hp
 have hlt:i<N:=by rw [← h.len]; exact (List.getElem?_eq_some_iff.1 hi).1
 obtain ⟨h1,h2⟩:=h.per hlt
 rw [h1] at hi
 rw [← Option.some.inj hi]
 exact h2
theorem iJ.flow {b:aH} {N mo S d:Nat} (h:iJ b N mo S d):bH b=(none,ig (fF b) (fZ b) (aS b).2):=by
 have hne:=(fO h.ahX).2.ne
 unfold bH
 rw [h.ahX]
 simp only
 cases hps:(aS b).2 with
 | nil=>exact absurd hps hne
 | cons p r =>
   have hreg:=h.mem (p:=p) (by rw [hps]; simp)
   have : xW b p = .ok (fF b):=by
    unfold xW
    rw [if_pos hreg]
   simp only
   rw [this]
   simp only
   congr 1
   cases r with
   | nil=>rfl
   | cons q r=>rfl
theorem iJ.avD {b:aH} {N mo S d:Nat} (h:iJ b N mo S d):(bH b).1=none:=by rw [h.flow]
def zL (e r:Rat):Nat→List Rat
 | 0=>[]
 | 1=>[e+r]
 | n+2=>e::zL e r (n+1)
theorem abf (e r:Rat):∀ l:List (Int×Int),(ig e r l).map Prod.snd=zL e r l.length
 | []=>rfl
 | [_]=>rfl
 | _::q::l=>by
   have := abf e r (q::l)
   simp only [ig,List.map_cons,List.length_cons] at this ⊢
   rw [this]
   rfl
theorem anq {b:aH} (h:(bH b).1=none) {p:Int×Int} (hp:p∈(aS b).2):ni b p p.1 p.1=0:=by
 have h0:=(jD h).1
 have hchk:=gZ h0
 have hf:=eG (dH hchk).2.1
 obtain ⟨d1,d2,d3⟩:=kU h0 hp
 have hx:=D7 h hp (Int.le_refl p.1) (Int.le_refl p.1) (by omega:p.1≤p.2)
 unfold og at hx
 by_cases hc:b.count=4
 ·rw [if_pos hc] at hx
  cases hq:vF b p with
  | none=>rw [hq] at hx; simp at hx
  | some l =>
    rw [hq] at hx
    simp only at hx
    rw [if_neg (by omega)] at hx
    rw [← Except.ok.inj hx]
    have hok:=(E5 hchk d2 hq).1
    have : ∀ (l:List (Int×Int)) (s:Rat),(∀ q∈l,QOk q)→sumF b.dA p.1 p.1 s l=s:=by
     intro l
     induction l with
     | nil=>intro s _; rfl
     | cons q r ih =>
       intro s hl
       simp only [sumF]
       rw [ih _ (fun z hz=>hl z (by simp [hz]))]
       have hlt:=(hl q (by simp)).lt
       have e:max (min p.1 q.2-max p.1 q.1) 0=0:=by omega
       unfold CU
       rw [e,divInt_zero]
       exact Rat.add_zero s
    rw [this l _ hok]
    exact divInt_zero 1
 ·rw [if_neg hc,if_neg (by omega)] at hx
  rw [← Except.ok.inj hx]
  unfold JY
  rw [afu]
  exact divInt_zero _
theorem iJ.at {b:aH} {N mo S d:Nat} (h:iJ b N mo S d) {i:Nat} (hi:i<N) :
  (leftB b (md (S+i*mo) d:Nat)).1=none∧fM b (md (S+i*mo) d:Nat)=(((md (S+i*mo) d:Nat):Int),((md (S+(i+1)*mo) d:Nat):Int)) ∧
  TF (aS b).2 (md (S+i*mo) d:Nat)=i∧bZ b (md (S+i*mo) d:Nat)=zL (fF b) (fZ b) (N-i) ∧
  (fB b (md (S+i*mo) d:Nat)≠0∧dN b (md (S+i*mo) d:Nat)=1∧Ox b (md (S+i*mo) d:Nat)=0):=by
 obtain ⟨g1,g2⟩:=h.per hi
 have hmem:=List.mem_of_getElem? g1
 have h0:=h.ahX
 have hf:=h.avD
 have hchk:=h.lJ
 obtain ⟨d1,d2,d3⟩:=kU h0 hmem
 obtain ⟨e1,e2,e3⟩:=aao h0 hmem (s:=(md (S+i*mo) d:Nat)) (Int.le_refl _) d3
 have hl:=JR hf e2 e3
 obtain ⟨k,k1,k2,k3,k4⟩:=Ce h0 e2 e3
 have hki:k=i:=by
  rcases Nat.lt_trichotomy k i with hlt | heq | hlt
  ·obtain ⟨z,rfl⟩:∃ z,i=k+z+1:=⟨i-k-1,by omega⟩
   have := Ro h0 z k k2 g1
   simp only at this
   omega
  ·exact heq
  ·obtain ⟨z,rfl⟩:∃ z,k=i+z+1:=⟨k-i-1,by omega⟩
   have := Ro h0 z i g1 k2
   simp only at this d3
   omega
 subst hki
 have hex:Y8 b (md (S+k*mo) d:Nat)=false:=by unfold Y8; rw [h.ex]; simp
 have hs:=anq hf hmem
 refine ⟨hl,e1,k1,?_,?_,?_,?_⟩
 ·unfold bZ
  rw [hex,if_neg (by decide),k1,Int.toNat_natCast,h.flow]
  simp only
  rw [adE _ _ _ _ (by rw [h.len]; exact hi),abf,List.length_drop,h.len]
 ·unfold fB
  rw [e1]
  simp only
  have hx:=D7 hf hmem (x:=((md (S+k*mo) d:Nat):Int)) (y:=((md (S+(k+1)*mo) d:Nat):Int)) (Int.le_refl _) (by omega) (Int.le_refl _)
  by_cases hc:b.count=4
  ·have := anr hchk d1 d2 d3 g2 hc hx
   rw [this]
   have hfr:=eG (dH hchk).2.1
   rcases hfr with hz | hz | hz | hz <;> rw [hz] <;> decide +kernel
  ·unfold og at hx
   rw [if_neg hc,if_neg (by simp only; omega)] at hx
   rw [← Except.ok.inj hx]
   unfold JY
   have hpos:0<iR b.count ((md (S+k*mo) d:Nat):Int) ((md (S+(k+1)*mo) d:Nat):Int):=by
    have hs1:=h.s1; have hs2:=h.s2; have hm1:=h.mo1
    have u1:(k+1)*mo≤N*mo:=Nat.mul_le_mul_right _ (by omega)
    have u2:(k+1)*mo=k*mo+mo:=by rw [Nat.add_mul,Nat.one_mul]
    unfold iR
    split
    ·rw [NS,ao8 (by omega) (by omega) h.d1 h.d2,ao8 (by omega) (by omega) h.d1 h.d2]
     omega
    ·simp only at d3; omega
   have hD:(0:Int)<(if b.count=3 then 365 else 360):=by split <;> omega
   generalize (if b.count=3 then (365:Int) else 360)=D at *
   generalize iR b.count _ _=z at *
   intro hz
   rw [Rat.divInt_eq_div] at hz
   have hz0:(z:Rat)≠0:=fun h=>by have := Rat.intCast_eq_zero_iff.1 h; omega
   have hD0:(D:Rat)≠0:=fun h=>by have := Rat.intCast_eq_zero_iff.1 h; omega
   generalize (z:Rat)=zr at *
   generalize (D:Rat)=dr at *
   grind
 ·unfold dN
  rw [e1,if_pos g2]
  unfold zK
  rw [e1]
  simp only at hs ⊢
  rw [hs,Rat.div_def,Rat.zero_mul]
  grind
 ·rw [asB h0 hmem (Int.le_refl _) d3 h.ex]
  unfold JM
  split
  ·simp only
   rw [Int.sub_self,divInt_zero,Rat.mul_zero]
  ·rw [hs,Rat.mul_zero]
end Go.Ev.Code
end
section
namespace Go.Ev.Code
open Go Go.Ev
theorem anG {n d:Int} (hn : -9223372036854775808≤n∧n≤9223372036854775807) (hd : -9223372036854775808≤d∧d≤9223372036854775807) (h0:d≠0):L.call L9 [.int .i64 n,.int .i64 d]=some (cO (Rat.divInt n d)):=by
 have h:=wo hn hd h0
 refine aN aod rfl (an6 ..) ?_
 simp [agf,h]
theorem ari {b:aH} {s k:Int} {pl:Nat} {pc:List D} {all:List (Int×Rat)} (hq:∀ p∈all,RB 13000 p.2) (hn:all.length≤100000):∀ (rest pfx:List (Int×Rat)),all=pfx++rest→pfx≠[] →
  L.loop [1,2,5,9,10,34,35,36] [1,2,5,9,10] nJ 1 [.int .i64 s,.loc 0 0,.sl pl pc,.int .i64 k,.bf 1 0 pfx.length 1,.sl all.length (dL all),.int .i64 all.length,.int .i64 pfx.length] [.live (aQ b),.live (eP (pfx.map Prod.snd))] =
    some (.exit 0,[.int .i64 s,.loc 0 0,.sl pl pc,.int .i64 k,.bf 1 0 all.length 1],[.live (aQ b),.live (eP (all.map Prod.snd))]):=by
 have hbc:=fun n=>iq b n
 intro rest
 induction rest with
 | nil =>
   intro pfx hal hne
   rw [List.append_nil] at hal
   subst hal
   have hrc:=fun n=>PZ (all.map Prod.snd) n 11
   generalize eP (all.map Prod.snd)=rc at *
   generalize dL all=fc at *
   generalize aQ b=B at *
   generalize all.length=N at *
   refine aO (FT ..) ?_
   simp [zO,hbc,hrc]
 | cons p r ih =>
   intro pfx hal hne
   have hpos:0<pfx.length:=List.length_pos_iff.2 hne
   have hgi:all[pfx.length]?=some p:=by rw [hal]; simp
   obtain ⟨g1,g2,g3⟩:=KT hgi
   have g4:=QL hgi
   have hlt:pfx.length<all.length:=by rw [hal]; simp
   have hget:=NH (hq p (by rw [hal]; simp))
   have hn2:=ih (pfx++[p]) (by rw [hal]; simp) (by simp)
   rw [List.map_append,ami,show eP ([p].map Prod.snd)=[cO p.2] from rfl,List.length_append,List.length_singleton,show ((pfx.length+1:Nat):Int)=(pfx.length:Int)+1 by omega] at hn2
   have hrc:=fun n=>PZ (pfx.map Prod.snd) n 11
   have hfz:∀ m,jE (fz 11) (eP (pfx.map Prod.snd)) m=some (eP (pfx.map Prod.snd),m):=fun m=>Ob _ 10 m
   have hrl:(eP (pfx.map Prod.snd)).length=pfx.length:=by rw [Fe,List.length_map]
   have e1:IntKind.i64.wrap ((pfx.length:Int)+1)=(pfx.length:Int)+1:=wrap64 _ (by omega)
   have hlen:pfx.length+1≤4294967296:=by omega
   have htk:(eP (pfx.map Prod.snd)).take pfx.length=eP (pfx.map Prod.snd):=List.take_of_length_le (by omega)
   obtain ⟨pd,q⟩:=p
   simp only at *
   generalize eP (pfx.map Prod.snd)=rc at *
   generalize eP (all.map Prod.snd)=ra at *
   generalize dL all=fc at *
   generalize aQ b=B at *
   generalize all.length=N at *
   generalize pfx.length=P at *
   generalize sU q=tq at *
   have hltI:(P:Int)<N:=by omega
   refine aO (FT ..) ?_
   simp [zO,hlt,hltI,g1,g2,g3,g4,hget,e1,hbc,hrc,hrl,htk,hlen,aay,hn2,kM]
theorem atD {b:aH} {s k:Int} {pl:Nat} {pc:List D} {all:List (Int×Rat)} (hq:∀ p∈all,RB 13000 p.2) (hn:all.length≤100000) (hne:all≠[]) :
  L.loop [1,2,5,9,10,34,35,36] [1,2,5,9,10] nJ 1 [.int .i64 s,.loc 0 0,.sl pl pc,.int .i64 k,.cu,.sl all.length (dL all),.int .i64 all.length,.int .i64 0] [.live (aQ b)] =
    some (.exit 0,[.int .i64 s,.loc 0 0,.sl pl pc,.int .i64 k,.bf 1 0 all.length 1],[.live (aQ b),.live (eP (all.map Prod.snd))]):=by
 have hbc:=fun n=>iq b n
 match all,hne with
 | p::r,_ =>
   have hgi:(p::r)[0]?=some p:=rfl
   obtain ⟨g1,g2,g3⟩:=KT hgi
   have g4:=QL hgi
   have hget:=NH (hq p (by simp))
   have hn2:=ari (b:=b) (s:=s) (k:=k) (pl:=pl) (pc:=pc) hq hn r [p] rfl (by simp)
   rw [show eP ([p].map Prod.snd)=[cO p.2] from rfl,List.length_singleton] at hn2
   obtain ⟨pd,q⟩:=p
   simp only [Nat.zero_mul,Nat.zero_add,List.drop_zero] at *
   have hlt:0<((pd,q)::r).length:=by simp
   generalize eP (((pd,q)::r).map Prod.snd)=ra at *
   generalize dL ((pd,q)::r)=fc at *
   generalize aQ b=B at *
   generalize ((pd,q)::r).length=N at *
   generalize sU q=tq at *
   have hltI:(0:Int)<N:=by omega
   refine aO (FT ..) ?_
   simp at hn2
   have e1:IntKind.i64.wrap (1:Int)=1:=wrap64 _ (by omega)
   simp [zO,hlt,hltI,g1,g2,g3,g4,hget,hbc,aay,hn2,kM,e1]
theorem adG {b:aH} (hc:b.dX.length≤1000000) (hr:b.dV.length≤1000000) {s:Int} (he:(leftB b s).1=none):L.call xA [aT b,.int .i64 s]=some (pU (bZ b s)):=by
 have hbc:=fun n=>iq b n
 have hbl:=sH b
 have hbd:=sG b 0 10
 have hpl:=yR hc hr
 obtain ⟨f0,h2,h3,h4⟩:=jh he
 obtain ⟨d1,d2,d3,d4,d5,d6⟩:=zu he
 obtain ⟨k,k1,k2,k3,k4⟩:=Ce h2 h3 h4
 have hplen:=(fO h2).2.len
 have hg:=um k2
 have hklt:k<(aS b).2.length:=(List.getElem?_eq_some_iff.1 k2).1
 have hfl:=ac2 hc hr
 have hflen:=Ui f0
 have hrb:=abz f0
 have hex:=WG hc hr s
 unfold exD at hex
 rw [he] at hex
 have hpay:=ac3 f0 hc hr d6
 have hpB:=PY f0 d6
 unfold Dp VK at hfl
 rw [f0] at hfl
 simp only [jf] at hfl
 unfold bZ
 rw [k1,Int.toNat_natCast]
 have hat:=Xl (ps:=(aS b).2) (by omega) s
 rw [k1] at hat
 unfold vw at hpl
 rw [h2] at hpl
 simp only [eY] at hpl
 have hdr:=QK ((bH b).2.take k) ((bH b).2.drop k)
 rw [List.take_append_drop] at hdr
 have htl:((bH b).2.take k).length=k:=by rw [List.length_take]; omega
 rw [htl] at hdr
 have hrl:=zY ((bH b).2.drop k)
 have hll:((bH b).2.drop k).length=(aS b).2.length-k:=by rw [List.length_drop,hflen]
 have hflc:=zY (bH b).2
 have hrb2:∀ p∈(bH b).2.drop k,RB 1500 p.2:=fun p hp=>hrb p (List.mem_of_mem_drop hp)
 have hcl:=zX (bH b).2 0 11
 have hcl3:=gX (aS b).2 0 11
 have hne:(bH b).2.drop k≠[]:=by
  intro h
  rw [h] at hll
  simp at hll
  omega
 have h13:∀ p∈(bH b).2.drop k,RB 13000 p.2:=fun p hp=>(hrb2 p hp).mono (Nat.le_of_ble_eq_true rfl)
 have hloop:=atD (b:=b) (s:=s) (k:=k) (pl:=(aS b).2.length) (pc:=bK (aS b).2) h13 (by omega) hne
 unfold f_ at hpl hat
 rw [hflen] at hfl hflc
 generalize (bH b).2.drop k=rest at *
 rw [hll] at hloop hrl
 have htk2:(dL rest).take (((aS b).2.length-k)*2)=dL rest:=List.take_of_length_le (by omega)
 unfold pD at *
 generalize fM b s=p at *
 obtain ⟨p1,p2⟩:=p
 simp only at *
 obtain ⟨g1,g2,g3,g4⟩:=hg
 have hbn:lG true false (aS b).2.length [.int .i64 (k:Int)]=some (k,(aS b).2.length):=by
  have : (k:Int)≤((aS b).2.length:Int):=by omega
  simp [lG,bnd,this]
 have hb3:k*2+((aS b).2.length-k)*2≤(dL (bH b).2).length:=by omega
 have hrqz:∀ l m,jE (fz 11) (eP l) m=some (eP l,m):=fun l m=>Ob l 10 m
 have hrqc:∀ l n,(eP l).all (D.clo n 12)=true:=fun l n=>PZ l n 11
 have hrql:=Fe (rest.map Prod.snd)
 rw [List.length_map,hll] at hrql
 have htk3:(eP (rest.map Prod.snd)).take ((aS b).2.length-k)=eP (rest.map Prod.snd):=List.take_of_length_le (by omega)
 have hkI:(k:Int)<((aS b).2.length:Int):=by omega
 have hNk:0<(aS b).2.length-k:=by omega
 generalize hfc:dL (bH b).2=fc at *
 generalize hNN:(aS b).2.length=N at *
 generalize hNNk:N-k=Nk at *
 generalize bK (aS b).2=pc at *
 generalize dL rest=fr at *
 cases hxb:Y8 b s with
 | false =>
   rw [hxb] at hex
   rw [if_neg (by decide)]
   unfold pU
   rw [List.length_map,hll]
   have hc1:=fun n=>hrqc (rest.map Prod.snd) n
   have hz1:=fun m=>Ob (rest.map Prod.snd) 10 m
   generalize eP (rest.map Prod.snd)=rq at *
   unfold aT at *
   generalize aQ b=B at *
   have htk:B.take 9=B:=List.take_of_length_le (by omega)
   refine aN Vx rfl (Vt ..) ?_
   simp [MK,hpl,hat,hcl3,hbc,hbl,hbd,htk,hfl,hbn,hdr,hb3,htk2,hNNk,hloop,hex,hz1,hc1,htk3,hrql]
 | true =>
   rw [hxb] at hex
   rw [if_pos rfl]
   match rest,hne with
   | x::r,_ =>
     have hsub:=Bv (hrb2 x (by simp)) hpB (Nat.le_of_ble_eq_true rfl)
     simp only [List.map_cons,ac9]
     simp only [List.map_cons] at *
     unfold pU
     have hl4:((x.2-oV b (p1,p2))::r.map Prod.snd).length=Nk:=by simp at hll ⊢; exact hll
     have hl5:=Fe ((x.2-oV b (p1,p2))::r.map Prod.snd)
     have htk5:(eP ((x.2-oV b (p1,p2))::r.map Prod.snd)).take Nk=eP ((x.2-oV b (p1,p2))::r.map Prod.snd):=List.take_of_length_le (by omega)
     rw [hl4] at hl5
     rw [hl4]
     have hc1:=fun n=>hrqc (r.map Prod.snd) n
     have hz1:=fun m=>Ob (r.map Prod.snd) 10 m
     have hcons:∀ q l,eP (q::l)=cO q::eP l:=fun q l=>rfl
     simp only [hcons] at *
     simp only [List.length_cons] at hl5 hrql
     generalize eP (r.map Prod.snd)=rq at *
     generalize x.2-oV b (p1,p2)=v2 at *
     generalize oV b (p1,p2)=pv at *
     generalize x.2=xv at *
     have hNkI:(0:Int)<(Nk:Int):=by omega
     have hNkl:Nk≤rq.length+1:=by omega
     unfold aT at *
     generalize aQ b=B at *
     have htk:B.take 9=B:=List.take_of_length_le (by omega)
     refine aN Vx rfl (Vt ..) ?_
     simp [MK,hpl,hat,hcl3,hbc,hbl,hbd,htk,hfl,hbn,hdr,hb3,htk2,hNNk,hloop,hex,hz1,hc1,htk5,hNkl,hsub,hpay,hklt,hkI,g1,g2,g3,g4,hNk,hNkI,kM]
end Go.Ev.Code
end
section
namespace Go.Ev.Code
open Go Go.Ev
def lt (n d:Int):List Int→Int
 | []=>0
 | a::t=>(lt n d t+(hs n d t).1)*d
theorem anj {n d:Int} {q k:Nat} (hn:IB q n) (hd:IB q d):∀ {l:List Int},(∀ a∈l,IB k a)→IB (k+(q+3)*l.length+3) (lt n d l)
 | [],_=>by unfold IB NB lt; simp; exact Nat.two_pow_pos _
 | a::t,h=>by
   have ih:=anj (k:=k) hn hd (l:=t) (fun x hx=>h x (by simp [hx]))
   have h2:=(Uk (k:=k) hn hd (l:=t) (fun x hx=>h x (by simp [hx]))).1
   have e:(q+3)*(t.length+1)=(q+3)*t.length+q+3:=by rw [Nat.mul_add]; omega
   have e3:(q+2)*t.length≤(q+3)*t.length:=Nat.mul_le_mul_right _ (by omega)
   simp only [lt,List.length_cons]
   refine ((ih.add h2).mul hd).mono ?_
   rw [e]
   generalize (q+3)*t.length=X at *
   generalize (q+2)*t.length=Y at *
   omega
theorem ars {K:Nat} {all:List Rat} {n d:Int} (hn:all.length≤100000):∀ (rest pfx:List Rat) (a j:Nat),all=pfx++rest→(∀ r∈rest,RB K r)→NB j a→0<a→j+K*rest.length+K≤900000 →
  L.loop [0,1,2,8,21,22,23] [0,1,2,8] ru 0 [pU all,intD n,intD d,intD (a:Int),pU all,.int .i64 all.length,.int .i64 pfx.length] []=some (.exit 0,[pU all,intD n,intD d,intD ((dJ a rest:Nat):Int)],[]):=by
 intro rest
 induction rest with
 | nil =>
   intro pfx a j hal _ _ _ _
   rw [List.append_nil] at hal
   subst hal
   unfold pU
   simp only [dJ]
   generalize eP all=rc at *
   generalize all.length=N at *
   generalize (a:Int)=az at *
   refine aO (Qn ..) ?_
   simp [IL]
 | cons r t ih =>
   intro pfx a j hal hall ha h0 hK
   have hr:=hall r (by simp)
   have hjK:j+K*t.length+K+K≤900000:=by rw [List.length_cons,Nat.mul_add] at hK; omega
   have hjK2:j≤900000:=by omega
   have hK2:K≤900000:=by omega
   have hd0:(r.den:Int)≠0:=F9 r
   have hq:NB K (r.den / Nat.gcd a r.den):=hr.2.le (Nat.div_le_self _ _)
   have h3:=vG (IB.ofNat ha) hr.den hjK2 hK2 hd0
   have h4:=yU (Rat.divInt (a:Int) (r.den:Int))
   have hde:(Rat.divInt (a:Int) (r.den:Int)).den=r.den / Nat.gcd a r.den:=by
    rw [Rat.den_divInt,if_neg hd0]
    have e1:((r.den:Int)).natAbs=r.den:=by simp
    have e2:Int.gcd (r.den:Int) (a:Int)=Nat.gcd a r.den:=by
     rw [Int.gcd_comm]; rfl
    rw [e1,e2]
   rw [hde] at h4
   have h6:=dM (IB.ofNat ha) (IB.ofNat hq) hjK2 hK2
   rw [← Int.natCast_mul] at h6
   have hden:=yU r
   have hpos2:0<a*(r.den / Nat.gcd a r.den):=Q8 (l:=[r]) h0
   have hn2:=ih (pfx++[r]) (a*(r.den / Nat.gcd a r.den)) (j+K) (by rw [hal]; simp) (fun x hx=>hall x (by simp [hx])) (ha.mul hq) hpos2 (by omega)
   rw [List.length_append,List.length_singleton,show ((pfx.length+1:Nat):Int)=(pfx.length:Int)+1 by omega] at hn2
   have hlt:pfx.length<all.length:=by rw [hal]; simp
   have hget:(eP all)[pfx.length]?=some (cO r):=aas (by rw [hal]; simp)
   have e1:IntKind.i64.wrap ((pfx.length:Int)+1)=(pfx.length:Int)+1:=wrap64 _ (by omega)
   simp only [dJ]
   unfold pU at *
   generalize (dJ (a*(r.den / Nat.gcd a r.den)) t)=res at *
   generalize ((a*(r.den / Nat.gcd a r.den):Nat):Int)=a2 at *
   generalize ((r.den / Nat.gcd a r.den:Nat):Int)=qz at *
   generalize Rat.divInt (a:Int) (r.den:Int)=dq at *
   generalize (r.den:Int)=dz at *
   generalize (a:Int)=az at *
   generalize eP all=rc at *
   generalize all.length=N at *
   generalize pfx.length=P at *
   have hltI:(P:Int)<N:=by omega
   refine aO (Qn ..) ?_
   simp [IL,hlt,hltI,hget,hden,h3,h4,h6,e1,hn2]
theorem aru {n d:Int} {q K j A:Nat} (hn:IB q n) (hd:IB q d) {l:List Rat} (hA:NB j A) (hall:∀ r∈l,RB K r) (hK:K+j+(q+3)*l.length+4+q≤900000) (hlen:l.length≤100000):∀ (c:Nat),c<l.length →
  L.loop [0,1,2,8,13,14,15,16] [13,14] kS 0 [pU l,intD n,intD d,intD (A:Int),intD (lt n d ((bn A l).drop (c+1))),intD (hs n d ((bn A l).drop (c+1))).1,intD (hs n d ((bn A l).drop (c+1))).2,.int .i64 c] [] =
    some (.exit 2,[intD (lt n d (bn A l)),intD (hs n d (bn A l)).1],[]):=by
 have hnl:(bn A l).length=l.length:=by simp [bn]
 have hab:=Xg hA hall
 have hstop:∀ s p:Int,∀ z:Int,L.loop [0,1,2,8,13,14,15,16] [13,14] kS 0 [pU l,intD n,intD d,intD (A:Int),intD z,intD s,intD p,.int .i64 (-1)] []=some (.exit 2,[intD z,intD s],[]):=by
  intro s p z
  unfold pU
  generalize eP l=rc at *
  generalize l.length=N at *
  generalize (A:Int)=az at *
  refine aO (Qo ..) ?_
  simp [IQ]
 have hb:∀ t:List Int,(∀ a∈t,IB (K+j) a)→t.length≤l.length→IB (K+j+(q+2)*l.length+2) (hs n d t).1∧IB (q*l.length+1) (hs n d t).2∧IB (K+j+(q+3)*l.length+3) (lt n d t):=by
  intro t ht hl
  have h1:=Uk (k:=K+j) hn hd (l:=t) ht
  have h2:=anj (k:=K+j) hn hd (l:=t) ht
  have e1:(q+2)*t.length≤(q+2)*l.length:=Nat.mul_le_mul_left _ hl
  have e2:q*t.length≤q*l.length:=Nat.mul_le_mul_left _ hl
  have e3:(q+3)*t.length≤(q+3)*l.length:=Nat.mul_le_mul_left _ hl
  exact ⟨h1.1.mono (by omega),h1.2.mono (by omega),h2.mono (by omega)⟩
 have e3:q*l.length≤(q+3)*l.length:=Nat.mul_le_mul_right _ (by omega)
 have e4:(q+2)*l.length≤(q+3)*l.length:=Nat.mul_le_mul_right _ (by omega)
 have hstep:∀ (c:Nat) (r:Rat),c<l.length→l[c]?=some r→∀ res,
   L.loop [0,1,2,8,13,14,15,16] [13,14] kS 0 [pU l,intD n,intD d,intD (A:Int),intD ((lt n d ((bn A l).drop (c+1))+(hs n d ((bn A l).drop (c+1))).1)*d),intD ((hs n d ((bn A l).drop (c+1))).1*d+r.num*((A / r.den:Nat):Int)*(hs n d ((bn A l).drop (c+1))).2),intD ((hs n d ((bn A l).drop (c+1))).2*n),.int .i64 ((c:Int)-1)] []=some res →
   L.loop [0,1,2,8,13,14,15,16] [13,14] kS 0 [pU l,intD n,intD d,intD (A:Int),intD (lt n d ((bn A l).drop (c+1))),intD (hs n d ((bn A l).drop (c+1))).1,intD (hs n d ((bn A l).drop (c+1))).2,.int .i64 c] []=some res:=by
  intro c r hc hget res hres
  have hr:=hall r (List.mem_of_getElem? hget)
  have hbd:=hb ((bn A l).drop (c+1)) (fun x hx=>hab x (List.mem_of_mem_drop hx)) (by rw [List.length_drop]; omega)
  have hqb:NB j (A / r.den):=hA.le (Nat.div_le_self _ _)
  have d1:=Pv hA hr.2 (by omega) (by omega) r.den_nz
  have m0:=rV hbd.2.2 hbd.1 (by omega) (by omega)
  have m1:=dM (hbd.2.2.add hbd.1) hd (by omega) (by omega)
  have m2:=dM hbd.1 hd (by omega) (by omega)
  have m3:=dM hr.num (IB.ofNat hqb) (by omega) (by omega)
  have m4:=dM (hr.num.mul (IB.ofNat hqb)) hbd.2.1 (by omega) (by omega)
  have m5:=rV (hbd.1.mul hd) ((hr.num.mul (IB.ofNat hqb)).mul hbd.2.1) (by omega) (by omega)
  have m6:=dM hbd.2.1 hn (by omega) (by omega)
  have hg:=aas hget
  have hden:=yU r
  have hnum:=J9 r
  have e1:IntKind.i64.wrap ((c:Int)-1)=(c:Int)-1:=wrap64 _ (by omega)
  unfold pU at *
  generalize hs n d ((bn A l).drop (c+1))=S at *
  generalize lt n d ((bn A l).drop (c+1))=T at *
  generalize (T+S.1)*d=t2 at *
  generalize T+S.1=t1 at *
  generalize S.1*d+r.num*((A / r.den:Nat):Int)*S.2=s2 at *
  generalize S.1*d=s1 at *
  generalize r.num*((A / r.den:Nat):Int)*S.2=s3 at *
  generalize r.num*((A / r.den:Nat):Int)=s4 at *
  generalize S.2*n=p2 at *
  generalize ((A / r.den:Nat):Int)=qz at *
  generalize ((A % r.den:Nat):Int)=rz at *
  generalize (r.den:Int)=dz at *
  generalize (A:Int)=az at *
  generalize eP l=rc at *
  generalize l.length=N at *
  have hcI:(c:Int)<N:=by omega
  refine aO (Qo ..) ?_
  simp [IQ,hc,hcI,hg,hden,hnum,d1,m0,m1,m2,m3,m4,m5,m6,e1,hres]
 have hcons:∀ (c:Nat) (r:Rat),l[c]?=some r→(bn A l).drop c=(r.num*((A / r.den:Nat):Int))::(bn A l).drop (c+1):=by
  intro c r hg
  have h1:(bn A l)[c]?=some (r.num*((A / r.den:Nat):Int)):=by simp [bn,hg]
  have hlt:c<(bn A l).length:=(List.getElem?_eq_some_iff.1 h1).1
  rw [List.drop_eq_getElem_cons hlt]
  rw [List.getElem?_eq_getElem hlt] at h1
  rw [Option.some.inj h1]
 intro c
 induction c with
 | zero =>
   intro hc
   have hget:=List.getElem?_eq_getElem (l:=l) (i:=0) hc
   refine hstep 0 _ hc hget _ ?_
   have h0:=hcons 0 _ hget
   rw [List.drop_zero] at h0
   rw [show ((0:Nat):Int)-1 = -1 from rfl,hstop]
   rw [h0]
   simp only [lt,hs,List.drop_succ_cons,List.drop_zero,Nat.zero_add,List.drop_one,List.tail_cons]
 | succ c ih =>
   intro hc
   have hget:=List.getElem?_eq_getElem (l:=l) (i:=c+1) hc
   refine hstep (c+1) _ hc hget _ ?_
   have hi:=ih (by omega)
   rw [hcons (c+1) _ hget] at hi
   simp only [hs,lt] at hi
   rw [show ((c+1:Nat):Int)-1=(c:Int) by omega]
   exact hi
theorem ae3 {K q j:Nat} {l:List Rat} (hne:l≠[]) (hn:l.length≤100000) (hall:∀ r∈l,RB K r) {n d:Int} (hn2:IB q n) (hd:IB q d) (hA:NB j (dJ 1 l)) (hK:K+j+(q+3)*l.length+4+q≤900000) (hK2:1+K*l.length+K≤900000) :
  L.call zy [pU l,intD n,intD d]=some (.aZ [intD (lt n d (bn (dJ 1 l) l)),intD (hs n d (bn (dJ 1 l) l)).1]):=by
 have h1:NB 1 1:=by unfold NB; decide
 have hl1:=ars (n:=n) (d:=d) hn l [] 1 1 rfl hall h1 (by omega) hK2
 have hpos:0<l.length:=List.length_pos_iff.2 hne
 obtain ⟨c,hc⟩:∃ c,l.length=c+1:=⟨l.length-1,by omega⟩
 have hl2:=aru hn2 hd hA hall hK hn c (by omega)
 have hnl:(bn (dJ 1 l) l).length=l.length:=by simp [bn]
 have hdr:(bn (dJ 1 l) l).drop (c+1)=[]:=List.drop_eq_nil_of_le (by omega)
 rw [hdr] at hl2
 simp only [hs,lt] at hl2
 have o0:=ng 0 (by omega)
 have o1:=ng 1 (by omega)
 have e1:IntKind.i64.wrap ((l.length:Int)-1)=(c:Int):=by rw [wrap64 _ (by omega)]; omega
 simp only [List.length_nil] at hl1
 rw [show ((1:Nat):Int)=1 from rfl] at hl1
 generalize (hs n d (bn (dJ 1 l) l)).1=r at *
 generalize lt n d (bn (dJ 1 l) l)=v at *
 generalize ((dJ 1 l:Nat):Int)=az at *
 unfold pU at *
 generalize eP l=rc at *
 generalize l.length=N at *
 generalize hz0:intD 0=zero at *
 generalize hz1:intD 1=one at *
 subst hz0 hz1
 simp at hl1
 refine aN ahp rfl (agY ..) ?_
 simp [Yf,o0,o1,e1,hl1,hl2]
end Go.Ev.Code
end
section
namespace Go.Ev.Code
open Go Go.Ev
def Ny (b:aH) (s y:Int):Int:=lt (bC b+y) (bC b) (bn (dJ 1 (bZ b s)) (bZ b s))
def Vf (b:aH) (s y:Int):Int:=(hs (bC b+y) (bC b) (bn (dJ 1 (bZ b s)) (bZ b s))).1
def am2 (b:aH) (s y:Int):Rat:=(Rat.divInt (Ny b s y) (Vf b s y)+dN b s)*Rat.divInt 1 b.dA
def aiP (b:aH) (s y:Int):Except Er Rat:=match mO b s y with
 | .error e => .error e
 | .ok _=>if Vf b s y=0 then .error (some (3,none)) else .ok (am2 b s y)
theorem aoG {b:aH} {s y:Int} {q:Rat} (h:mO b s y = .ok q):(leftB b s).1=none∧fB b s≠0 ∧ -2000000≤y∧y≤100000000∧q=jW b s y:=by
 have hl:=aa4 h
 unfold mO at h
 rw [hl] at h
 simp only at h
 split at h
 ·simp at h
 ·rename_i h1
  split at h
  ·simp at h
  ·rename_i h2
   refine ⟨hl,fun h0=>h2 (.inl h0),by omega,by omega,?_⟩
   exact (Except.ok.inj h).symm
theorem ach {b:aH} (hc:b.dX.length≤1000000) (hr:b.dV.length≤1000000) (s:Int) {y:Int} (hy : -9223372036854775808≤y∧y≤9223372036854775807) :
  L.call oq [aT b,.int .i64 s,.int .i64 y]=some (zx (aiP b s y))∧(∀ q,aiP b s y = .ok q→RB 30000 q):=by
 obtain ⟨hd,hdB⟩:=wJ hc hr s hy
 unfold aiP
 cases he:mO b s y with
 | error e =>
   refine ⟨?_,fun q h=>by simp at h⟩
   rw [he] at hd
   simp only [zx] at *
   have hne:=aa5 he
   obtain ⟨i,m,fq,c,rd,n,st,en,ex⟩:=b
   unfold aT aQ at *
   simp only at *
   rcases e with _ | ⟨c,_ | t⟩
   ·exact absurd rfl hne
   ·simp only [jf] at *
    refine aN C_ rfl (CZ ..) ?_
    simp [y8,hd]
   ·simp only [jf,gu] at *
    refine aN C_ rfl (CZ ..) ?_
    simp [y8,hd]
 | ok q =>
   rw [he] at hd
   obtain ⟨hl,h0,hy1,hy2,_⟩:=aoG he
   have hwt:=XU hc hr s
   unfold ah0 at hwt
   rw [hl] at hwt
   simp only at hwt
   rw [if_neg h0] at hwt
   have hf:=eG (dH (gZ (jh hl).2.1)).2.1
   obtain ⟨gB,nB,yB,g0,n0⟩:=Ja hf (y:=y) (by omega) (by omega)
   have hwB:=aj' hl h0
   obtain ⟨hall,hlen,hne⟩:=aev hl
   have hA:=al3 hl
   have ham:=adG hc hr hl
   obtain ⟨W,hW⟩:∃ W:Nat,W=700:=⟨_,rfl⟩
   obtain ⟨K,hK⟩:∃ K:Nat,K=2200:=⟨_,rfl⟩
   obtain ⟨J,hJ⟩:∃ J:Nat,J=3100:=⟨_,rfl⟩
   rw [← hW] at hwB
   rw [← hK] at hall
   rw [← hJ] at hA
   have hKl:K*(bZ b s).length≤440000:=by rw [hK]; omega
   have hsum:=ae3 hne (by omega) hall nB gB hA (by omega) (by omega)
   have hab:=Xg hA hall
   have hnl:(bn (dJ 1 (bZ b s)) (bZ b s)).length=(bZ b s).length:=by simp [bn]
   have sB:=(Uk nB gB hab).1
   have tB:=anj nB gB hab
   rw [hnl] at sB tB
   have hsz:(hs (bC b+y) (bC b) (bn (dJ 1 (bZ b s)) (bZ b s))).1=Vf b s y:=rfl
   have hlz:lt (bC b+y) (bC b) (bn (dJ 1 (bZ b s)) (bZ b s))=Ny b s y:=rfl
   rw [hsz,hlz] at hsum
   rw [hsz] at sB
   rw [hlz] at tB
   have hgz:100000000*b.dA=bC b:=rfl
   have o1:=ng 100000000 (by omega)
   have o2:=ng b.dA (by rcases hf with h | h | h | h <;> omega)
   have o3:=ng y hy
   have m1:=dM (a:=100000000) (b:=b.dA) (gG (by omega)) (gG (by rcases hf with h | h | h | h <;> omega)) (by omega) (by omega)
   rw [hgz] at m1
   have m2:=rV gB yB (by omega) (by omega)
   simp only [zx] at hd
   by_cases hz:Vf b s y=0
   ·rw [if_pos hz]
    refine ⟨?_,fun q h=>by simp at h⟩
    rw [hz] at hsum
    have hbad:=abe (Ny b s y)
    simp only [zx,jf]
    generalize Ny b s y=lz at *
    generalize bC b+y=ny at *
    generalize bC b=gz at *
    generalize dN b s=w at *
    unfold pU at *
    generalize eP (bZ b s)=rc at *
    generalize (bZ b s).length=N at *
    obtain ⟨i,m,fq,c,rd,n,st,en,ex⟩:=b
    unfold aT aQ at *
    simp only at *
    refine aN C_ rfl (CZ ..) ?_
    simp [y8,hd,hwt,o1,o2,o3,m1,m2,ham,hsum,hbad]
   ·rw [if_neg hz]
    have hnew:=vG tB sB (by omega) (by omega) hz
    have dB:RB 14000 (Rat.divInt (Ny b s y) (Vf b s y)):=jX (tB.mono (by omega)) (sB.mono (by omega)) hz
    have hadd:=Bo dB hwB (by omega)
    have hof:=anG (n:=1) (d:=b.dA) (by omega) (by rcases hf with h | h | h | h <;> omega) (by rcases hf with h | h | h | h <;> omega)
    have hmul:=yV (dB.add hwB) (ac' hf) (by omega)
    refine ⟨?_,fun q h=>by
     have h2:=Except.ok.inj h
     rw [← h2]
     exact ((dB.add hwB).mul (ac' hf)).mono (by omega)⟩
    have hdv:(Rat.divInt (Ny b s y) (Vf b s y)+dN b s)*Rat.divInt 1 b.dA=am2 b s y:=rfl
    rw [hdv] at hmul
    simp only [zx]
    generalize am2 b s y=dv at *
    generalize Rat.divInt (Ny b s y) (Vf b s y)+dN b s=v1 at *
    generalize Rat.divInt (Ny b s y) (Vf b s y)=v0 at *
    generalize Rat.divInt 1 b.dA=fr at *
    generalize Ny b s y=lz at *
    generalize Vf b s y=sz at *
    generalize bC b+y=ny at *
    generalize bC b=gz at *
    generalize dN b s=w at *
    unfold pU at *
    generalize eP (bZ b s)=rc at *
    generalize (bZ b s).length=N at *
    obtain ⟨i,m,fq,c,rd,n,st,en,ex⟩:=b
    unfold aT aQ at *
    simp only at *
    refine aN C_ rfl (CZ ..) ?_
    simp [y8,hd,hwt,o1,o2,o3,m1,m2,ham,hsum,hnew,hadd,hof,hmul]
end Go.Ev.Code
end
section
namespace Go.Ev.Code
open Go Go.Ev
theorem afX:∀ (k:Nat) {x:Nat},x<10^k→mX (k+1) x=48::mX k x
 | 0,x,h=>by
   obtain rfl:x=0:=by omega
   rfl
 | k+1,x,h=>by
   have h1:x / 10<10^k:=by rw [Nat.pow_succ] at h; omega
   have := afX k h1
   show mX (k+1) (x / 10)++[dg (x % 10)]=48::(mX k (x / 10)++[dg (x % 10)])
   rw [this]; rfl
theorem ajE:∀ (k:Nat) {x:Nat},10^k≤x→x<10^(k+1)→mX (k+1) x=txt x
 | 0,x,h,h2=>by
   have h3:x<10:=h2
   rw [nY h3]
   show []++[dg (x % 10)]=[dg x]
   rw [Nat.mod_eq_of_lt h3]; rfl
 | k+1,x,h,h2=>by
   have h1:10^k≤x / 10:=by rw [Nat.pow_succ] at h; omega
   have h3:x / 10<10^(k+1):=by rw [Nat.pow_succ] at h2; omega
   have h4:10≤x:=by
    have : 0<10^k:=Nat.pow_pos (by decide)
    omega
   rw [Ai h4,← ajE k h1 h3]; rfl
theorem aq8 {l:D} (hl:∃ n cs,l = .sl n cs) (z:Int):∀ (j:Nat) (x:Nat) (acc:List UInt8),j≤9→x<1000000000→acc.length+j≤100000 →
  L.loop [0,3,4,5,6] [0,3,4] jO 0 [l,.str acc,.int .i64 z,.int .u64 x,.int .i64 (9-j:Int)] []=some (.exit 2,[l,.str (mX j x++acc),.int .i64 z],[]):=by
 obtain ⟨n,cs,rfl⟩:=hl
 intro j
 induction j with
 | zero =>
   intro x acc _ _ _
   refine aO (Fv ..) ?_
   simp [xZ,mX]
 | succ j ih =>
   intro x acc hj hx hacc
   have hn:=ih (x / 10) (dg (x % 10)::acc) (by omega) (by omega) (by simp; omega)
   have hal:1+acc.length≤1099511627776:=by omega
   have e1:Int.tmod (x:Int) 10=((x % 10:Nat):Int):=Ee x 10
   have e2:IntKind.u64.wrap (48+((x % 10:Nat):Int))=48+((x % 10:Nat):Int):=lF _ (by omega)
   have e3:IntKind.u8.wrap (48+((x % 10:Nat):Int))=48+((x % 10:Nat):Int):=by
    have : x % 10<10:=Nat.mod_lt _ (by omega)
    simp [IntKind.wrap,IntKind.signed,IntKind.bits]; omega
   have e4:Int.tdiv (x:Int) 10=((x / 10:Nat):Int):=MN x 10
   have e5:IntKind.u64.wrap ((x / 10:Nat):Int)=((x / 10:Nat):Int):=lF _ (by omega)
   have e6:IntKind.i64.wrap (9-((j+1:Nat):Int)+1)=9-(j:Int):=by rw [wrap64 _ (by omega)]; omega
   have hlt:9-((j+1:Nat):Int)<9:=by omega
   have hp:mX (j+1) x++acc=mX j (x / 10)++dg (x % 10)::acc:=by
    show (mX j (x / 10)++[dg (x % 10)])++acc=_
    simp
   rw [hp]
   have hb:UInt8.ofNat (48+((x % 10:Nat):Int)).toNat=dg (x % 10):=by
    unfold dg
    congr 1
   have hbs:bytesOf [.int .u8 (48+((x % 10:Nat):Int))]=some [dg (x % 10)]:=by
    have h1:x % 10<10:=Nat.mod_lt _ (by omega)
    rw [← hb]
    simp [bytesOf]
    omega
   clear hp ih hb
   generalize mX j (x / 10)++dg (x % 10)::acc=res at *
   generalize dg (x % 10)=dx at *
   generalize ((x % 10:Nat):Int)=r at *
   generalize ((x / 10:Nat):Int)=q at *
   generalize (x:Int)=xz at *
   generalize ((j+1:Nat):Int)=j1 at *
   generalize (j:Int)=jz at *
   refine aO (Fv ..) ?_
   have hz:zeros 1 [.int .u8 0]=[.int .u8 0]:=rfl
   simp [xZ,hlt,e1,e2,e3,e4,e5,e6,hbs,hn,hz,hal]
theorem aq9:∀ (k:Nat) {x:Nat},1≤x→x<10^k→k≤9→L.loop [3] [3] iI 0 [.str (mX k x)] []=some (.exit 4,[.str (txt x)],[]):=by
 have hlen:∀ k x,(mX k x).length=k:=by
  intro k
  induction k with
  | zero=>intro x; rfl
  | succ k ih=>intro x; show (mX k (x / 10)++[dg (x % 10)]).length=_; simp [ih]
 intro k
 induction k with
 | zero=>intro x h1 h2; simp at h2; omega
 | succ k ih =>
   intro x h1 h2 h3
   by_cases hx:x<10^k
   ·have hn:=ih h1 hx (by omega)
    rw [afX k hx]
    have hk:1≤k:=by
     rcases Nat.eq_zero_or_pos k with h | h
     ·subst h; simp at hx; omega
     ·exact h
    have hl:=hlen k x
    generalize mX k x=pd at *
    have hlt:(1:Int)<(pd.length:Int)+1:=by omega
    have hpos:0<pd.length:=by omega
    have hbn:lG true false (pd.length+1) [.int .i64 1]=some (1,pd.length+1):=by
     have : (1:Int)≤(pd.length:Int)+1:=by omega
     simp [lG,bnd,this]
    refine aO (xR ..) ?_
    simp [mP,hlt,hpos,hbn,hn]
   ·rw [ajE k (by omega) h2]
    obtain ⟨d,r,e,d1,d2⟩:=aco x h1
    rw [e]
    have hd:¬ (dg d).toNat=48:=by
     unfold dg
     simp
     omega
    have hdI:¬ ((dg d).toNat:Int)=48:=by omega
    generalize dg d=b at *
    refine aO (xR ..) ?_
    by_cases hr:r=[]
    ·subst hr
     simp [mP]
    ·have hpos:0<r.length:=List.length_pos_iff.2 hr
     have hlt:(1:Int)<(r.length:Int)+1:=by omega
     simp [mP,hlt,hpos,hd,hdI]
def nD (x:Nat):D:=if x=0 then .sl 0 [] else .sl 1 [.int .u64 x]
theorem VZ {x:Nat} (h:x<1000000000):L.call jd [nD x]=some (.str (txt x)):=by
 unfold nD
 by_cases h0:x=0
 ·rw [if_pos h0]
  subst h0
  have l2:L.loop [0,3,4] [3] gV 0 [.sl 0 [],.str [],.int .i64 0] []=some (.exit 0,[.str []],[]):=by
   refine aO (xQ ..) ?_
   simp [qL]
  have l3:L.loop [3] [3] iI 0 [.str []] []=some (.exit 4,[.str []],[]):=by
   refine aO (xR ..) ?_
   simp [mP]
  have e:txt 0=[48]:=by rw [nY (by omega)]; rfl
  rw [e]
  refine aN Jo rfl (Jj ..) ?_
  simp [BF,l2,l3]
 ·rw [if_neg h0]
  have l1:=aq8 (l := .sl 1 [.int .u64 x]) ⟨_,_,rfl⟩ 0 9 x [] (by omega) h (by simp)
  have l3:=aq9 9 (x:=x) (by omega) (by omega) (by omega)
  rw [List.append_nil] at l1
  have hne:txt x≠[]:=by
   intro h
   have := CB x
   rw [h] at this
   simp at this
  generalize txt x=tx at *
  generalize mX 9 x=pd at *
  generalize (x:Int)=xz at *
  simp at l1
  have l2b:L.loop [0,3,4] [3] gV 0 [.sl 1 [.int .u64 xz],.str pd,.int .i64 1] []=some (.exit 0,[.str pd],[]):=by
   refine aO (xQ ..) ?_
   simp [qL]
  have e1:IntKind.i64.wrap (1:Int)=1:=by decide
  have l2:L.loop [0,3,4] [3] gV 0 [.sl 1 [.int .u64 xz],.str [],.int .i64 0] []=some (.exit 0,[.str pd],[]):=by
   refine aO (xQ ..) ?_
   simp [qL,l1,e1,l2b]
  refine aN Jo rfl (Jj ..) ?_
  simp [BF,l2,l3,hne]
theorem als {x:Nat} (h:x<1000000000):L.call nI [.int .u64 x]=some (nD x):=by
 have hz:zeros 1 [.int .u64 0]=[.int .u64 0]:=rfl
 unfold nD
 by_cases h0:x=0
 ·rw [if_pos h0]
  subst h0
  have l:L.loop [0,3] [3] je 0 [.int .u64 0,.cu] []=some (.exit 0,[.cu],[]):=by
   refine aO (Au ..) ?_
   simp [vH]
  refine aN OX rfl (OW ..) ?_
  simp [F5,l]
 ·rw [if_neg h0]
  have hpos:(0:Int)<(x:Int):=by omega
  have hposN:0<x:=by omega
  have e1:Int.tmod (x:Int) 1000000000=(x:Int):=by rw [Int.tmod_eq_emod_of_nonneg (by omega)]; omega
  have e2:Int.tdiv (x:Int) 1000000000=0:=by rw [Int.tdiv_eq_ediv_of_nonneg (by omega)]; omega
  have e3:IntKind.u64.wrap 0=0:=by decide
  have l2:L.loop [0,3] [3] je 0 [.int .u64 0,.bf 0 0 1 1] [.live [.int .u64 x]]=some (.exit 0,[.bf 0 0 1 1],[.live [.int .u64 x]]):=by
   refine aO (Au ..) ?_
   simp [vH]
  generalize (x:Int)=xz at *
  have l:L.loop [0,3] [3] je 0 [.int .u64 xz,.cu] []=some (.exit 0,[.bf 0 0 1 1],[.live [.int .u64 xz]]):=by
   refine aO (Au ..) ?_
   simp [vH,hpos,hz,e1,e2,e3,l2]
  refine aN OX rfl (OW ..) ?_
  simp [F5,l]
theorem E_ {x:Nat} (h:x<1000000000):L.call iQ [.int .i64 x]=some (.agg [.bool false,nD x]):=by
 have ho:=als h
 have e1:IntKind.u64.wrap (x:Int)=x:=lF _ (by omega)
 have hn:¬ (x:Int)<0:=by omega
 unfold nD at *
 by_cases h0:x=0
 ·rw [if_pos h0] at *
  generalize (x:Int)=xz at *
  refine aN Qr rfl (Ql ..) ?_
  simp [IJ,hn,e1,ho,CS]
 ·rw [if_neg h0] at *
  generalize (x:Int)=xz at *
  refine aN Qr rfl (Ql ..) ?_
  simp [IJ,hn,e1,ho,CS]
end Go.Ev.Code
end
section
namespace Go.Ev.Code
open Go Go.Ev
end Go.Ev.Code
end
