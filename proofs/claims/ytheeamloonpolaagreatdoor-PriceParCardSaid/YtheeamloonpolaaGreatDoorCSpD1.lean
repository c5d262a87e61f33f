/- A part of the proof of riskZero_card, yieldPar_card, pricePar_card. -/
import Derived.Test.YtheeamloonpolaaGreatDoorCSpC
set_option linter.unusedVariables false
set_option linter.unusedSimpArgs false
section
namespace Go.Ev.Code
open Go Go.Ev
def leap (y:Nat):Bool:=decide (y % 4=0∧(y % 100≠0∨y % 400=0))
def bP (y m:Nat):Nat:=match m with
 | 2=>if leap y then 29 else 28
 | 4 | 6 | 9 | 11=>30
 | 1 | 3 | 5 | 7 | 8 | 10 | 12=>31
 | _=>0
def dU (y:Nat):Nat:=365*(y-1900)+((y-1) / 4-(y-1) / 100+(y-1) / 400)-460
theorem MN (a b:Nat):Int.tdiv (a:Int) (b:Int)=((a / b:Nat):Int):=rfl
theorem Ee (a b:Nat):Int.tmod (a:Int) (b:Int)=((a % b:Nat):Int):=rfl
theorem Eu {y:Nat} (h1:1900≤y) (h2:y≤1000000):L.call rJ [.int .i64 y]=some (.int .i64 (dU y)):=by
 have e1:IntKind.i64.wrap ((y:Int)-1)=((y-1:Nat):Int):=by rw [wrap64 _ (by omega)]; omega
 have e2:IntKind.i64.wrap ((y:Int)-1900)=((y-1900:Nat):Int):=by rw [wrap64 _ (by omega)]; omega
 have q1:=MN (y-1) 4
 have q2:=MN (y-1) 100
 have q3:=MN (y-1) 400
 simp at q1 q2 q3
 have hb:dU y=365*(y-1900)+((y-1) / 4-(y-1) / 100+(y-1) / 400)-460:=rfl
 refine aN ag3 rfl (agA ..) ?_
 simp (disch:=omega) [XW,e1,e2,q1,q2,q3,wrap64]
 omega
theorem aiK {y:Nat} (h:y≤1000000):L.call DI [.int .i64 y]=some (.bool (leap y)):=by
 have q1:=Ee y 4
 have q2:=Ee y 100
 have q3:=Ee y 400
 simp at q1 q2 q3
 refine aN akA rfl (akp ..) ?_
 unfold leap
 by_cases h4:y % 4=0
 ·by_cases h100:y % 100=0
  ·by_cases h400:y % 400=0
   ·simp (disch:=omega) [Gl,q1,q2,q3,h4,h100,h400]
    have : (y:Int) % 4=0:=by omega
    have : (y:Int) % 100=0:=by omega
    have : (y:Int) % 400=0:=by omega
    simp [*]
   ·have : (y:Int) % 4=0:=by omega
    have : (y:Int) % 100=0:=by omega
    have : ¬ (y:Int) % 400=0:=by omega
    simp (disch:=omega) [Gl,q1,q2,q3, *]
  ·have : (y:Int) % 4=0:=by omega
   have : ¬ (y:Int) % 100=0:=by omega
   simp (disch:=omega) [Gl,q1,q2,q3, *]
 ·have : ¬ (y:Int) % 4=0:=by omega
  simp (disch:=omega) [Gl,q1,q2,q3, *]
end Go.Ev.Code
end
section
namespace Go.Ev.Code
open Go Go.Ev
theorem qR {y m:Nat} (h:y≤1000000) (h1:1≤m) (h2:m≤12):L.call jg [.int .i64 y,.int .i64 m]=some (.int .i64 (bP y m)):=by
 have hl:=aiK h
 refine aN ag2 rfl (agz ..) ?_
 have : m=1∨m=2∨m=3∨m=4∨m=5∨m=6∨m=7∨m=8∨m=9∨m=10∨m=11∨m=12:=by omega
 rcases this with rfl | rfl | rfl | rfl | rfl | rfl | rfl | rfl | rfl | rfl | rfl | rfl
 case inr.inl =>
  cases hy:leap y <;> rw [hy] at hl <;> simp [OE,bP,hl,hy]
 all_goals simp [OE,bP]
theorem WO (n:Int):L.call IZ [.int .i64 n]=some (.bool (decide (0≤n∧n≤109572))):=by
 refine aN an9 rfl (an0 ..) ?_
 by_cases h:0≤n
 ·by_cases h':n≤109572 <;> simp [ZN,h,h']
 ·simp [ZN,h]
def Z5 (n:Int):Int:=if 0≤n∧n≤109572 then (n+1) % 7 else -1
theorem Dh (n:Int):L.call fD [.int .i64 n]=some (.int .i64 (Z5 n)):=by
 have h:=WO n
 refine aN aee rfl (ad2 ..) ?_
 unfold Z5
 by_cases hn:0≤n∧n≤109572
 ·rw [decide_eq_true hn] at h
  have e:Int.tmod (n+1) 7=(n+1) % 7:=Int.tmod_eq_emod_of_nonneg (by omega)
  simp (disch:=omega) [Md,h,wrap64,hn,e]
 ·rw [decide_eq_false hn] at h
  simp [Md,h,hn]
def dF (y:Nat):Nat→Nat
 | 0=>0
 | k+1=>dF y k+bP y (k+1)
theorem wI (y m:Nat):bP y m≤31:=by unfold bP; split <;> (try split) <;> omega
theorem Y0 (y k:Nat):dF y k≤31*k:=by
 induction k with
 | zero=>simp [dF]
 | succ k ih=>have := wI y (k+1); simp only [dF]; omega
theorem QC {y:Nat} (h:y≤2200):dU y≤109573:=by unfold dU; omega
def mV (y m d:Nat):D := .agg [.int .i64 y,.int .i64 m,.int .i64 d]
theorem atx {y m d A:Nat} (hy:y≤2200) (hm:m≤12) (hA:A≤1000000):∀ (j k:Nat),k+j=m→1≤k →
  L.loop [1,4,5] [4] AO 1 [.loc 0 0,.int .i64 ((A+dF y (k-1):Nat):Int),.int .i64 k] [.live [.int .i64 y,.int .i64 m,.int .i64 d]] =
    some (.exit 0,[.int .i64 ((A+dF y (m-1):Nat):Int)],[.live [.int .i64 y,.int .i64 m,.int .i64 d]]):=by
 intro j
 induction j with
 | zero =>
   intro k hk h1
   have : k=m:=by omega
   subst this
   generalize A+dF y (k-1)=B
   refine aO (YC ..) ?_
   simp [RP]
 | succ j ih =>
   intro k hk h1
   have hl:=qR (y:=y) (m:=k) (by omega) h1 (by omega)
   have hn:=ih (k+1) (by omega) (by omega)
   have hc:A+dF y (k+1-1)=A+dF y (k-1)+bP y k:=by
    rw [Nat.add_sub_cancel]
    obtain ⟨q,rfl⟩:∃ q,k=q+1:=⟨k-1,by omega⟩
    simp only [dF,Nat.add_sub_cancel]; omega
   rw [hc] at hn
   have hb:=Y0 y (k-1)
   have hb2:=wI y k
   have hlt:k<m:=by omega
   have hBl:A+dF y (k-1)≤1000372:=by omega
   generalize A+dF y (k-1)=B at *
   generalize A+dF y (m-1)=C at *
   generalize bP y k=l at *
   have e1:IntKind.i64.wrap ((B:Int)+l)=((B+l:Nat):Int):=by rw [wrap64 _ (by omega)]; omega
   have e2:IntKind.i64.wrap ((k:Int)+1)=((k+1:Nat):Int):=by rw [wrap64 _ (by omega)]; omega
   generalize B+l=B2 at *
   generalize k+1=k2 at *
   refine aO (YC ..) ?_
   simp (disch:=omega) [RP,hl,hlt,e1,e2,hn]
def dayOf (y m d:Nat):Nat:=dU y+dF y (m-1)+d-1
theorem acV {y m d:Nat} (h1:1900≤y) (h2:y≤2199) (hm:1≤m) (hm2:m≤12) (hd:1≤d) (hd2:d≤bP y m) :
  L.call wE [mV y m d]=some (.aZ [.int .i64 (dayOf y m d),.aG]):=by
 have hl:=qR (y:=y) (m:=m) (by omega) hm hm2
 have hb:=Eu h1 (by omega)
 have hlp:=atx (y:=y) (m:=m) (d:=d) (A:=dU y+d-1) (by omega) hm2 (by have := QC (y:=y) (by omega); have := wI y m; omega) (m-1) 1 (by omega) (by omega)
 simp only [Nat.sub_self,dF,Nat.add_zero] at hlp
 have hbb:=QC (y:=y) (by omega)
 have hml:=wI y m
 have hC:dU y+d-1+dF y (m-1)=dayOf y m d:=by unfold dayOf; omega
 rw [hC,show ((1:Nat):Int)=1 from rfl] at hlp
 have g1:¬ (y:Int)<1900:=by omega
 have g2:¬ (2199:Int)<y:=by omega
 have g3:¬ (d:Int)<1:=by omega
 generalize bP y m=l at *
 have g4:¬ (l:Int)<d:=by omega
 have g5:¬ l<d:=by omega
 have g6:¬ 2199<y:=by omega
 generalize dayOf y m d=r at *
 generalize dU y=b at *
 have e1:IntKind.i64.wrap ((b:Int)+d)=((b+d:Nat):Int):=by rw [wrap64 _ (by omega)]; omega
 have e2:IntKind.i64.wrap (((b+d:Nat):Int)-1)=((b+d-1:Nat):Int):=by rw [wrap64 _ (by omega)]; omega
 generalize b+d-1=b1 at *
 generalize b+d=b2 at *
 refine aN afh rfl (afa ..) ?_
 unfold mV
 simp (disch:=omega) [UE,hl,hb,g1,g2,g3,g4,g5,g6,e1,e2,hlp]
end Go.Ev.Code
end
section
namespace Go.Ev.Code
open Go Go.Ev
theorem aq1 (y:Nat):leap y=true↔(y % 4=0∧(y % 100≠0∨y % 400=0)):=by unfold leap; simp
theorem ahO (y:Nat):dF y 12=if leap y then 366 else 365:=by
 cases h:leap y <;> simp [dF,bP,h]
theorem ajP {z k:Nat} (hk:0<k):(z+1) / k=z / k+(if (z+1) % k=0 then 1 else 0):=by
 rw [Nat.succ_div]
 by_cases h:(z+1) % k=0
 ·rw [if_pos h,if_pos (Nat.dvd_of_mod_eq_zero h)]
 ·rw [if_neg h,if_neg (fun hd=>h (Nat.mod_eq_zero_of_dvd hd))]
theorem Aw {y:Nat} (h:1900≤y):dU (y+1)=dU y+dF y 12:=by
 rw [ahO]
 have hl:=aq1 y
 obtain ⟨z,rfl⟩:∃ z,y=z+1:=⟨y-1,by omega⟩
 by_cases hz:z=1899
 ·subst hz; decide
 have hz2:1900≤z:=by omega
 unfold dU
 have h4:=ajP (z:=z) (k:=4) (by decide)
 have h100:=ajP (z:=z) (k:=100) (by decide)
 have h400:=ajP (z:=z) (k:=400) (by decide)
 have b1:z / 100≤z / 4:=Nat.div_le_div_left (by decide) (by decide)
 have b2:474≤z / 4:=by omega
 have b3:(z+1) / 100≤(z+1) / 4:=Nat.div_le_div_left (by decide) (by decide)
 have b4:455≤z / 4-z / 100:=by omega
 have i1:(z+1) % 400=0→(z+1) % 100=0:=fun h=>by omega
 have i2:(z+1) % 100=0→(z+1) % 4=0:=fun h=>by omega
 rw [Nat.add_sub_cancel,Nat.add_sub_cancel]
 generalize (z+1) % 4=r4 at *
 generalize (z+1) % 100=r100 at *
 generalize (z+1) % 400=r400 at *
 generalize (z+1) / 4=p4 at *
 generalize (z+1) / 100=p100 at *
 generalize (z+1) / 400=p400 at *
 generalize z / 4=s4 at *
 generalize z / 100=s100 at *
 generalize z / 400=s400 at *
 by_cases c4:r4=0
 ·rw [if_pos c4] at h4
  by_cases c100:r100=0
  ·rw [if_pos c100] at h100
   by_cases c400:r400=0
   ·rw [if_pos c400] at h400
    rw [if_pos (hl.2 ⟨c4,.inr c400⟩)]; omega
   ·rw [if_neg c400] at h400
    rw [if_neg (fun h=>by rcases (hl.1 h).2 with h | h <;> contradiction)]; omega
  ·rw [if_neg c100] at h100
   have c400:¬ r400=0:=fun h=>c100 (i1 h)
   rw [if_neg c400] at h400
   rw [if_pos (hl.2 ⟨c4,.inl c100⟩)]; omega
 ·have c100:¬ r100=0:=fun h=>c4 (i2 h)
  have c400:¬ r400=0:=fun h=>c100 (i1 h)
  rw [if_neg c4] at h4
  rw [if_neg c100] at h100
  rw [if_neg c400] at h400
  rw [if_neg (fun h=>c4 (hl.1 h).1)]; omega
theorem QI (y:Nat) {j k:Nat} (h:j≤k):dF y j≤dF y k:=by
 induction k with
 | zero=>have : j=0:=by omega
         rw [this]; exact Nat.le_refl _
 | succ k ih =>
   rcases Nat.lt_or_ge k j with h1 | h1
   ·have : j=k+1:=by omega
    rw [this]; exact Nat.le_refl _
   ·have := ih h1; simp only [dF]; omega
theorem KN {x y:Nat} (h:1900≤x) (hxy:x≤y):dU x≤dU y:=by
 induction y with
 | zero=>omega
 | succ y ih =>
   rcases Nat.lt_or_ge y x with h1 | h1
   ·have : x=y+1:=by omega
    rw [this]; exact Nat.le_refl _
   ·have := ih h1; rw [Aw (by omega)]; omega
structure rD (y m d:Nat):Prop where
 y1:1900≤y
 y2:y≤2199
 m1:1≤m
 m2:m≤12
 d1:1≤d
 d2:d≤bP y m
theorem rD.lo {y m d:Nat} (h:rD y m d):dU y≤dayOf y m d:=by have := h.d1; unfold dayOf; omega
theorem rD.hi {y m d:Nat} (h:rD y m d):dayOf y m d<dU (y+1):=by
 have h1:=h.d1
 have h2:=h.d2
 have h3:=h.m1
 have h5:=h.m2
 rw [Aw h.y1]
 have h4:=QI y h5
 have h6:dF y m=dF y (m-1)+bP y m:=by
  obtain ⟨q,rfl⟩:∃ q,m=q+1:=⟨m-1,by omega⟩
  simp only [dF,Nat.add_sub_cancel]
 unfold dayOf; omega
theorem rD.le {y m d:Nat} (h:rD y m d):dayOf y m d≤109572:=by
 have h1:=h.hi
 have h2:=h.y1
 have h3:=h.y2
 have := KN (x:=y+1) (y:=2200) (by omega) (by omega)
 have h4:dU 2200=109573:=by decide
 omega
theorem alK {y:Nat} (h:1900≤y):dU y≤366*(y-1900):=by
 unfold dU; omega
theorem aoy {day y:Nat} (hd:day≤109572) (hy1:dU y≤day) (hy2:day<dU (y+1)) (hy3:y≤2199):∀ (j x:Nat),x+j=y→1900≤x →
  L.loop [0,2,4] [0,2,4] t_ 2 [.int .i64 day,.loc 0 0,.loc 1 0] [.live [.int .i64 0,.int .i64 0,.int .i64 0],.live [.int .i64 x,.int .i64 1,.int .i64 0]] =
    some (.exit 0,[.int .i64 day,.loc 0 0,.loc 1 0],[.live [.int .i64 0,.int .i64 0,.int .i64 0],.live [.int .i64 y,.int .i64 1,.int .i64 0]]):=by
 intro j
 induction j with
 | zero =>
   intro x hx h1
   have : x=y:=by omega
   subst this
   have hb:=Eu (y:=x+1) (by omega) (by omega)
   have e1:IntKind.i64.wrap ((x:Int)+1)=((x+1:Nat):Int):=by rw [wrap64 _ (by omega)]; omega
   generalize dU (x+1)=b at *
   generalize x+1=x2 at *
   have g:¬ b≤day:=by omega
   have g':¬ (b:Int)≤day:=by omega
   refine aO (SA ..) ?_
   simp (disch:=omega) [Kr,e1,hb,g,g']
 | succ j ih =>
   intro x hx h1
   have hb:=Eu (y:=x+1) (by omega) (by omega)
   have hn:=ih (x+1) (by omega) (by omega)
   have hmo:=KN (x:=x+1) (y:=y) (by omega) (by omega)
   have e1:IntKind.i64.wrap ((x:Int)+1)=((x+1:Nat):Int):=by rw [wrap64 _ (by omega)]; omega
   generalize dU (x+1)=b at *
   generalize x+1=x2 at *
   have g:b≤day:=by omega
   have g':(b:Int)≤day:=by omega
   refine aO (SA ..) ?_
   simp (disch:=omega) [Kr,e1,hb,g,g',hn]
theorem aoz {y m d:Nat} (h:rD y m d):∀ (j k:Nat),k+j=m→1≤k →
  L.loop [2,4,5] [2,4,5] uf 2 [.loc 0 0,.loc 1 0,.int .i64 ((dF y (m-1)+(d-1)-dF y (k-1):Nat):Int)] [.live [.int .i64 0,.int .i64 0,.int .i64 0],.live [.int .i64 y,.int .i64 k,.int .i64 0]] =
    some (.exit 2,[.loc 0 0,.loc 1 0,.int .i64 ((d-1:Nat):Int)],[.live [.int .i64 0,.int .i64 0,.int .i64 0],.live [.int .i64 y,.int .i64 m,.int .i64 0]]):=by
 have h1:=h.d1
 have h2:=h.d2
 have h3:=h.m2
 have h4:=h.y2
 have h5:=wI y m
 intro j
 induction j with
 | zero =>
   intro k hk hk1
   have : k=m:=by omega
   subst this
   have hl:=qR (y:=y) (m:=k) (by omega) hk1 h3
   rw [show dF y (k-1)+(d-1)-dF y (k-1)=d-1 by omega]
   generalize bP y k=l at *
   have g:¬ (l:Int)≤((d-1:Nat):Int):=by omega
   have g':¬ l≤d-1:=by omega
   generalize d-1=d1 at *
   refine aO (SB ..) ?_
   simp (disch:=omega) [Kt,hl,g,g']
 | succ j ih =>
   intro k hk hk1
   have hl:=qR (y:=y) (m:=k) (by omega) hk1 (by omega)
   have hn:=ih (k+1) (by omega) (by omega)
   have hc:dF y (k+1-1)=dF y (k-1)+bP y k:=by
    rw [Nat.add_sub_cancel]
    obtain ⟨q,rfl⟩:∃ q,k=q+1:=⟨k-1,by omega⟩
    simp only [dF,Nat.add_sub_cancel]
   have hmo:=QI y (j:=k) (k:=m-1) (by omega)
   rw [Nat.add_sub_cancel] at hc hn
   rw [hc] at hmo hn
   have hub:=Y0 y (m-1)
   have hub2:dF y (m-1)+(d-1)≤1000:=by omega
   have hmo2:dF y (k-1)+bP y k≤dF y (m-1)+(d-1):=by omega
   generalize dF y (m-1)+(d-1)=T at *
   generalize bP y k=l at *
   generalize dF y (k-1)=c at *
   have g:l≤T-c:=by omega
   have g':(l:Int)≤((T-c:Nat):Int):=by omega
   have e1:IntKind.i64.wrap (((T-c:Nat):Int)-l)=((T-(c+l):Nat):Int):=by rw [wrap64 _ (by omega)]; omega
   have e2:IntKind.i64.wrap ((k:Int)+1)=((k+1:Nat):Int):=by rw [wrap64 _ (by omega)]; omega
   generalize T-(c+l)=r2 at *
   generalize T-c=r1 at *
   generalize k+1=k2 at *
   refine aO (SB ..) ?_
   simp (disch:=omega) [Kt,hl,g,g',e1,e2,hn]
theorem ug {y m d:Nat} (h:rD y m d):L.call gU [.int .i64 (dayOf y m d)]=some (.aZ [mV y m d,.aG]):=by
 have hle:=h.le
 have hlo:=h.lo
 have hhi:=h.hi
 have hd1:=h.d1
 have hd2:=h.d2
 have hml:=wI y m
 have hy:=h.y2
 have hm2:=h.m2
 have hb:=Eu h.y1 (by omega)
 have h366:=alK (y:=y+1) (by have := h.y1; omega)
 have l1:=aoy hle hlo hhi h.y2 (y-(1900+dayOf y m d / 366)) (1900+dayOf y m d / 366) (by omega) (by omega)
 have l2:=aoz h (m-1) 1 (by have := h.m1; omega) (by omega)
 have his:=WO (dayOf y m d)
 rw [decide_eq_true (by omega)] at his
 have hT:dayOf y m d-dU y=dF y (m-1)+(d-1):=by unfold dayOf; omega
 simp only [Nat.sub_self,dF,Nat.sub_zero] at l2
 rw [← hT,show ((1:Nat):Int)=1 from rfl] at l2
 have hbb:=QC (y:=y) (by omega)
 have q1:=MN (dayOf y m d) 366
 simp at q1
 generalize dayOf y m d=day at *
 have e1:IntKind.i64.wrap ((day:Int) / 366)=((day / 366:Nat):Int):=by rw [wrap64 _ (by omega)]; omega
 have e2:IntKind.i64.wrap (1900+((day / 366:Nat):Int))=((1900+day / 366:Nat):Int):=by rw [wrap64 _ (by omega)]; omega
 have e2':IntKind.i64.wrap (1900+(day:Int) / 366)=((1900+day / 366:Nat):Int):=by rw [wrap64 _ (by omega)]; omega
 generalize 1900+day / 366=x at *
 generalize dU y=b at *
 have e3:IntKind.i64.wrap ((day:Int)-b)=((day-b:Nat):Int):=by rw [wrap64 _ (by omega)]; omega
 generalize day-b=r at *
 have e4:IntKind.i64.wrap (((d-1:Nat):Int)+1)=(d:Int):=by rw [wrap64 _ (by omega)]; omega
 generalize d-1=dd at *
 refine aN YL rfl (YB ..) ?_
 unfold mV
 simp (disch:=omega) [RN,his,q1,e1,e2,e2',l1,hb,e3,l2,e4]
theorem VF {n:Int} (h:¬ (0≤n∧n≤109572)):L.call gU [.int .i64 n]=some (.aZ [mV 0 0 0,zU 4]):=by
 have his:=WO n
 rw [decide_eq_false h] at his
 refine aN YL rfl (YB ..) ?_
 unfold mV
 simp (disch:=omega) [RN,his,bT]
theorem auM {day:Nat} (h:day≤109572):∃ y m d,rD y m d∧dayOf y m d=day:=by
 have hy:∃ y,1900≤y∧dU y≤day∧day<dU (y+1):=by
  have : ∀ k,day<dU (1900+k)→∃ y,1900≤y∧dU y≤day∧day<dU (y+1):=by
   intro k
   induction k with
   | zero=>intro h1; have : dU 1900=0:=by decide
           rw [Nat.add_zero,this] at h1; omega
   | succ k ih =>
     intro h1
     rcases Nat.lt_or_ge day (dU (1900+k)) with h2 | h2
     ·exact ih h2
     ·exact ⟨1900+k,by omega,h2,h1⟩
  exact this 300 (by have : dU (1900+300)=109573:=by decide
                     omega)
 obtain ⟨y,h1,h2,h3⟩:=hy
 have hm:∃ m,1≤m∧m≤12∧dF y (m-1)≤day-dU y∧day-dU y<dF y m:=by
  have : ∀ k,k≤12→day-dU y<dF y k→∃ m,1≤m∧m≤12∧dF y (m-1)≤day-dU y∧day-dU y<dF y m:=by
   intro k
   induction k with
   | zero=>intro _ h1; simp [dF] at h1
   | succ k ih =>
     intro hk h1
     rcases Nat.lt_or_ge (day-dU y) (dF y k) with h2 | h2
     ·exact ih (by omega) h2
     ·exact ⟨k+1,by omega,hk,by rw [Nat.add_sub_cancel]; exact h2,h1⟩
  rw [Aw h1] at h3
  exact this 12 (by omega) (by omega)
 obtain ⟨m,m1,m2,m3,m4⟩:=hm
 have h6:dF y m=dF y (m-1)+bP y m:=by
  obtain ⟨q,rfl⟩:∃ q,m=q+1:=⟨m-1,by omega⟩
  simp only [dF,Nat.add_sub_cancel]
 have hy2:y≤2199:=by
  rcases Nat.lt_or_ge 2199 y with hh | hh
  ·have := KN (x:=2200) (y:=y) (by omega) hh
   have h4:dU 2200=109573:=by decide
   omega
  ·exact hh
 refine ⟨y,m,day-dU y-dF y (m-1)+1,⟨h1,hy2,m1,m2,by omega,by omega⟩,?_⟩
 unfold dayOf; omega
end Go.Ev.Code
end
section
namespace Go.Ev.Code
open Go Go.Ev
theorem akS {y m d:Nat} (h:¬ (1900≤y∧y≤2199)) (hy:y≤1000000) (h1:1≤m) (h2:m≤12) (hd:1≤d):L.call wE [mV y m d]=some (.aZ [.int .i64 0,zU 4]):=by
 refine aN afh rfl (afa ..) ?_
 unfold mV
 by_cases g1:y<1900
 ·have g1':(y:Int)<1900:=by omega
  simp (disch:=omega) [UE,g1,g1',bT]
 ·have g1':¬ (y:Int)<1900:=by omega
  have g2:2199<y:=by omega
  have g2':(2199:Int)<y:=by omega
  simp (disch:=omega) [UE,g1,g1',g2,g2',bT]
theorem A_ {y m:Nat} (h1:1≤m) (h2:m≤12):28≤bP y m:=by
 have : m=1∨m=2∨m=3∨m=4∨m=5∨m=6∨m=7∨m=8∨m=9∨m=10∨m=11∨m=12:=by omega
 rcases this with rfl | rfl | rfl | rfl | rfl | rfl | rfl | rfl | rfl | rfl | rfl | rfl <;> simp only [bP] <;> (try split) <;> omega
def lM:Option Nat→D
 | some n => .aZ [.int .i64 n,.aG]
 | none => .aZ [.int .i64 0,zU 4]
def rO (y m d:Nat):Option Nat:=if 1900≤y∧y≤2199 then some (dayOf y m d) else none
theorem acW {y m d:Nat} (hy:y≤1000000) (h1:1≤m) (h2:m≤12) (hd:1≤d) (hd2:d≤bP y m):L.call wE [mV y m d]=some (lM (rO y m d)):=by
 unfold rO
 split
 ·rename_i h; exact acV h.1 h.2 h1 h2 hd hd2
 ·rename_i h; exact akS h hy h1 h2 hd
theorem ajo {y m:Nat} (hy:y≤1000000) (h1:1≤m) (h2:m≤12):L.call Am [.int .i64 y,.int .i64 m]=some (lM (rO y m (bP y m))):=by
 have hl:=qR hy h1 h2
 have hp:=A_ (y:=y) h1 h2
 have h:=acW hy h1 h2 (d:=bP y m) (by omega) (Nat.le_refl _)
 unfold mV at h
 generalize hr:rO y m (bP y m)=r at *
 generalize bP y m=l at *
 refine aN akC rfl (akr ..) ?_
 cases r <;> simp [U_,hl,h,lM] at h ⊢ <;> simp [U_,hl,h,lM]
theorem ahy {y m d:Nat} (h:rD y m d):L.call vk [.int .i64 (dayOf y m d)]=some (.bool (decide (d=bP y m))):=by
 have hc:=ug h
 have hl:=qR (y:=y) (m:=m) (by have := h.y2; omega) h.m1 h.m2
 unfold mV at hc
 generalize dayOf y m d=day at *
 generalize bP y m=l at *
 refine aN ain rfl (aib ..) ?_
 have : ((d:Int)=l)↔d=l:=by omega
 by_cases hdl:d=l <;> simp [ZO,hc,hl,hdl,this]
def Jq (y m d:Nat) (n:Int) (e:Bool):Option Nat :=
 if -3600≤n∧n≤3600 then
  (let a:=((y*12+m-1:Nat):Int)+n
   let y':=(a / 12).toNat
   let m':=(a % 12).toNat+1
   rO y' m' (if e=true∧d=bP y m then bP y' m' else min d (bP y' m')))
 else none
set_option maxHeartbeats 1000000 in
theorem ajn {y m d:Nat} (h:rD y m d) (n:Int) (e:Bool):L.call oI [.int .i64 (dayOf y m d),.int .i64 n,.bool e]=some (lM (Jq y m d n e)):=by
 have hc:=ug h
 have hla:=ahy h
 unfold mV at hc
 have h1:=h.y1
 have h2:=h.y2
 have h3:=h.m1
 have h4:=h.m2
 have h5:=h.d1
 have h6:=h.d2
 by_cases hn : -3600≤n∧n≤3600
 ·obtain ⟨a,ha⟩:∃ a:Nat,((y*12+m-1:Nat):Int)+n=a:=⟨(((y*12+m-1:Nat):Int)+n).toNat,by omega⟩
  have ha2:a≤1000000:=by omega
  have e1:IntKind.i64.wrap ((y:Int)*12)=((y*12:Nat):Int):=by rw [wrap64 _ (by omega)]; omega
  have e2:IntKind.i64.wrap (((y*12:Nat):Int)+m)=((y*12+m:Nat):Int):=by rw [wrap64 _ (by omega)]; omega
  have e3:IntKind.i64.wrap (((y*12+m:Nat):Int)-1)=((y*12+m-1:Nat):Int):=by rw [wrap64 _ (by omega)]; omega
  have e4:IntKind.i64.wrap (((y*12+m-1:Nat):Int)+n)=(a:Int):=by rw [ha,wrap64 _ (by omega)]
  have q1:=MN a 12
  have q2:=Ee a 12
  simp at q1 q2
  have e5:IntKind.i64.wrap ((a:Int) / 12)=((a / 12:Nat):Int):=by rw [wrap64 _ (by omega)]; omega
  have e6:IntKind.i64.wrap ((a:Int) % 12+1)=((a % 12+1:Nat):Int):=by rw [wrap64 _ (by omega)]; omega
  have hA:Jq y m d n e=rO (a / 12) (a % 12+1) (if e=true∧d=bP y m then bP (a / 12) (a % 12+1) else min d (bP (a / 12) (a % 12+1))):=by
   unfold Jq
   rw [if_pos hn]
   simp only [ha]
   have : ((a:Int) / 12).toNat=a / 12:=by omega
   have : ((a:Int) % 12).toNat=a % 12:=by omega
   simp only [*]
  rw [hA]
  have hy':a / 12≤1000000:=by omega
  have hm':1≤a % 12+1∧a % 12+1≤12:=by omega
  have hEnd:=ajo hy' hm'.1 hm'.2
  have hLen:=qR hy' hm'.1 hm'.2
  have hp:=A_ (y:=a / 12) hm'.1 hm'.2
  have hmk:=acW hy' hm'.1 hm'.2 (d:=min d (bP (a / 12) (a % 12+1))) (by omega) (by omega)
  unfold mV at hmk
  have hmin:min (d:Int) (bP (a / 12) (a % 12+1))=((min d (bP (a / 12) (a % 12+1)):Nat):Int):=by omega
  have hg1:¬ n < -3600:=by omega
  have hg2:¬ 3600<n:=by omega
  generalize y*12+m-1=b1 at *
  generalize y*12+m=b2 at *
  generalize y*12=b3 at *
  generalize a % 12+1=m' at *
  generalize a / 12=y' at *
  generalize dayOf y m d=day at *
  generalize bP y m=lm at *
  generalize hl':bP y' m'=l' at *
  by_cases hE:e=true∧d=lm
  ·obtain ⟨rfl,hdl⟩:=hE
   rw [if_pos ⟨rfl,hdl⟩]
   rw [decide_eq_true hdl] at hla
   generalize rO y' m' l'=r at *
   cases r with
   | none =>
     simp [lM] at hEnd
     refine aN BX rfl (BU ..) ?_
     simp (config:={maxSteps:=1000000}) [pG,hc,hg1,hg2,e1,e2,e3,e4,q1,q2,e5,e6,hla,hEnd,lM]
   | some r =>
     simp [lM] at hEnd
     refine aN BX rfl (BU ..) ?_
     simp (config:={maxSteps:=1000000}) [pG,hc,hg1,hg2,e1,e2,e3,e4,q1,q2,e5,e6,hla,hEnd,lM]
  ·rw [if_neg hE]
   generalize min d l'=dm at *
   have hla':e=true→L.call vk [.int .i64 day]=some (.bool false):=fun he=>by
    rw [hla,decide_eq_false (fun h=>hE ⟨he,h⟩)]
   generalize rO y' m' dm=r at *
   cases r with
   | none =>
     simp [lM] at hmk
     refine aN BX rfl (BU ..) ?_
     cases e with
     | false=>simp (config:={maxSteps:=1000000}) [pG,hc,hg1,hg2,e1,e2,e3,e4,q1,q2,e5,e6,hLen,hmin,hmk,lM]
     | true=>simp (config:={maxSteps:=1000000}) [pG,hc,hg1,hg2,e1,e2,e3,e4,q1,q2,e5,e6,hla' rfl,hLen,hmin,hmk,lM]
   | some r =>
     simp [lM] at hmk
     refine aN BX rfl (BU ..) ?_
     cases e with
     | false=>simp (config:={maxSteps:=1000000}) [pG,hc,hg1,hg2,e1,e2,e3,e4,q1,q2,e5,e6,hLen,hmin,hmk,lM]
     | true=>simp (config:={maxSteps:=1000000}) [pG,hc,hg1,hg2,e1,e2,e3,e4,q1,q2,e5,e6,hla' rfl,hLen,hmin,hmk,lM]
 ·have hA:Jq y m d n e=none:=by unfold Jq; rw [if_neg hn]
  rw [hA]
  generalize dayOf y m d=day at *
  refine aN BX rfl (BU ..) ?_
  by_cases hg1:n < -3600
  ·simp (config:={maxSteps:=1000000}) [pG,hc,hg1,bT,lM]
  ·have hg2:3600<n:=by omega
   simp (config:={maxSteps:=1000000}) [pG,hc,hg1,hg2,bT,lM]
theorem ahx {day:Int} (h:¬ (0≤day∧day≤109572)) (n:Int) (e:Bool):L.call oI [.int .i64 day,.int .i64 n,.bool e]=some (.aZ [.int .i64 0,zU 4]):=by
 have hc:=VF h
 unfold mV at hc
 refine aN BX rfl (BU ..) ?_
 simp at hc
 simp (config:={maxSteps:=1000000}) [pG,hc]
theorem ab2 {y m d y' m' d':Nat} (h:rD y m d) (h':rD y' m' d'):L.call kG [.int .i64 (dayOf y m d),.int .i64 (dayOf y' m' d')]=some (.int .i64 (((y'*12+m':Nat):Int)-((y*12+m:Nat):Int))):=by
 have hc:=ug h
 have hc':=ug h'
 unfold mV at hc hc'
 have h1:=h.y1
 have h2:=h.y2
 have h3:=h.m2
 have h1':=h'.y1
 have h2':=h'.y2
 have h3':=h'.m2
 generalize dayOf y m d=day at *
 generalize dayOf y' m' d'=day' at *
 have hr:((y'*12+m':Nat):Int)-((y*12+m:Nat):Int)=((y':Int)-y)*12+m'-m:=by omega
 rw [hr]
 have e1:IntKind.i64.wrap ((y':Int)-y)=(y':Int)-y:=wrap64 _ (by omega)
 have e2:IntKind.i64.wrap (((y':Int)-y)*12)=((y':Int)-y)*12:=wrap64 _ (by omega)
 have e3:IntKind.i64.wrap (((y':Int)-y)*12+m')=((y':Int)-y)*12+m':=wrap64 _ (by omega)
 have e4:IntKind.i64.wrap (((y':Int)-y)*12+m'-m)=((y':Int)-y)*12+m'-m:=wrap64 _ (by omega)
 generalize hk4:((y':Int)-y)*12+m'-m=k4 at *
 rw [← hk4]
 refine aN acD rfl (acz ..) ?_
 simp [UF,hc,hc',e1,e2,e3]
 rw [hk4]; exact e4
end Go.Ev.Code
end
section
namespace Go.Ev.Code
open Go Go.Ev
def aiE:Nat→Nat→Nat→Nat
 | 0,y,_=>y
 | f+1,y,day=>if dU (y+1)≤day then aiE f (y+1) day else y
def aiC:Nat→Nat→Nat→Nat→Nat×Nat
 | 0,_,m,r=>(m,r)
 | f+1,y,m,r=>if bP y m≤r then aiC f y (m+1) (r-bP y m) else (m,r)
def lg (day:Nat):Nat×Nat×Nat :=
 let y:=aiE 300 (1900+day / 366) day
 let r:=aiC 12 y 1 (day-dU y)
 (y,r.1,r.2+1)
theorem as3 {day y:Nat} (h1:dU y≤day) (h2:day<dU (y+1)):∀ (f x:Nat),x≤y→y<x+f→1900≤x→aiE f x day=y:=by
 intro f
 induction f with
 | zero=>intro x hx hf; omega
 | succ f ih =>
   intro x hx hf h19
   simp only [aiE]
   rcases Nat.lt_or_ge x y with h | h
   ·have := KN (x:=x+1) (y:=y) (by omega) h
    rw [if_pos (by omega)]
    exact ih (x+1) h (by omega) (by omega)
   ·have : x=y:=by omega
    subst this
    rw [if_neg (by omega)]
theorem as2 {y m d:Nat} (hd:d<bP y m):∀ (f k:Nat),1≤k→k≤m→m<k+f→aiC f y k (dF y (m-1)+d-dF y (k-1))=(m,d):=by
 intro f
 induction f with
 | zero=>intro k h1 h2 h3; omega
 | succ f ih =>
   intro k h1 h2 h3
   simp only [aiC]
   rcases Nat.lt_or_ge k m with h | h
   ·have hc:dF y (k-1)+bP y k=dF y k:=by
     obtain ⟨q,rfl⟩:∃ q,k=q+1:=⟨k-1,by omega⟩
     simp only [dF,Nat.add_sub_cancel]
    have hm:=QI y (j:=k) (k:=m-1) (by omega)
    have := ih (k+1) (by omega) (by omega) (by omega)
    rw [Nat.add_sub_cancel,← hc,← Nat.sub_sub] at this
    rw [if_pos (by omega)]
    exact this
   ·have : k=m:=by omega
    subst this
    rw [show dF y (k-1)+d-dF y (k-1)=d by omega,if_neg (by omega)]
theorem WM {y m d:Nat} (h:rD y m d):lg (dayOf y m d)=(y,m,d):=by
 have h1:=h.y1
 have h2:=h.y2
 have hd1:=h.d1
 have hd2:=h.d2
 have hm1:=h.m1
 have hm2:=h.m2
 have h366:=alK (y:=y+1) (by omega)
 have hhi:=h.hi
 unfold lg
 have hy:aiE 300 (1900+dayOf y m d / 366) (dayOf y m d)=y:=as3 h.lo h.hi 300 _ (by omega) (by omega) (by omega)
 rw [hy]
 have hr:dayOf y m d-dU y=dF y (m-1)+(d-1):=by unfold dayOf; omega
 have hm:aiC 12 y 1 (dayOf y m d-dU y)=(m,d-1):=by
  rw [hr]
  have := as2 (y:=y) (m:=m) (d:=d-1) (by omega) 12 1 (by omega) hm1 (by omega)
  simpa [dF] using this
 simp only [hm]
 rw [show d-1+1=d by omega]
abbrev bG (n:Int):Prop:=0≤n∧n≤109572
theorem eH {n:Int} (h:bG n):∃ y m d,rD y m d∧n=(dayOf y m d:Nat)∧lg n.toNat=(y,m,d):=by
 obtain ⟨y,m,d,hc,hd⟩:=auM (day:=n.toNat) (by omega)
 refine ⟨y,m,d,hc,by omega,?_⟩
 rw [← hd,WM hc]
def nO (day n:Int) (e:Bool):Option Nat:=if bG day then Jq (lg day.toNat).1 (lg day.toNat).2.1 (lg day.toNat).2.2 n e else none
theorem UR (day n:Int) (e:Bool):L.call oI [.int .i64 day,.int .i64 n,.bool e]=some (lM (nO day n e)):=by
 unfold nO
 by_cases h:bG day
 ·obtain ⟨y,m,d,hc,hd,ho⟩:=eH h
  rw [if_pos h,ho]
  rw [hd]
  exact ajn hc n e
 ·rw [if_neg h]
  exact ahx h n e
def CP (a b:Int):Int:=(((lg b.toNat).1*12+(lg b.toNat).2.1:Nat):Int)-(((lg a.toNat).1*12+(lg a.toNat).2.1:Nat):Int)
theorem Uo {a b:Int} (ha:bG a) (hb:bG b):L.call kG [.int .i64 a,.int .i64 b]=some (.int .i64 (CP a b)):=by
 obtain ⟨y,m,d,hc,hd,ho⟩:=eH ha
 obtain ⟨y',m',d',hc',hd',ho'⟩:=eH hb
 unfold CP
 rw [ho,ho',hd,hd']
 exact ab2 hc hc'
theorem ajm {y m d n:Nat} (h1:1≤m) (h2:m≤12) (hd:1≤d) (hd2:d≤bP y m) (h:rO y m d=some n):rD y m d∧n=dayOf y m d:=by
 unfold rO at h
 split at h <;> simp at h
 rename_i hy
 exact ⟨⟨hy.1,hy.2,h1,h2,hd,hd2⟩,h.symm⟩
theorem Dy {day n:Int} {e:Bool} {r:Nat} (h:nO day n e=some r):bG r:=by
 unfold nO at h
 split at h <;> try (simp at h; done)
 rename_i hd
 obtain ⟨y,m,d,hc,hd,ho⟩:=eH hd
 rw [ho] at h
 unfold Jq at h
 split at h <;> try (simp at h; done)
 simp only at h
 have hm:=h
 have h12:1≤((((y*12+m-1:Nat):Int)+n) % 12).toNat+1∧((((y*12+m-1:Nat):Int)+n) % 12).toNat+1≤12:=by omega
 generalize ((((y*12+m-1:Nat):Int)+n) % 12).toNat+1=m' at *
 generalize ((((y*12+m-1:Nat):Int)+n) / 12).toNat=y' at *
 have hp:=A_ (y:=y') h12.1 h12.2
 have hd1:=hc.d1
 obtain ⟨q1,q2⟩:=ajm h12.1 h12.2 (by split <;> omega) (by split <;> omega) hm
 have := q1.le
 rw [← q2] at this
 constructor <;> omega
end Go.Ev.Code
end
section
namespace Go.Ev.Code
open Go Go.Ev
def gu (c:Int) (s:List UInt8):D := .iface jQ (.ref [.int .i64 c,.str s,.aG] 0)
theorem zW {c:Int} (h:c≠0) (s:List UInt8):L.call gY [.int .i64 c,.str s]=some (gu c s):=by
 refine aN akB rfl (akq ..) ?_
 unfold gu
 simp [abh,h]
def apH:List UInt8:=[105,115,115,117,101]
def P7:List UInt8:=[109,97,116,117,114,101]
def P6:List UInt8:=[99,111,117,112,111,110]
def P8:List UInt8:=[114,101,100,101,101,109]
def ash:List UInt8:=[102,114,101,113]
def apF:List UInt8:=[99,111,117,110,116]
def PU:List UInt8:=[115,116,117,98]
def tEx:List UInt8:=[101,120]
def apG:List UInt8:=[102,108,111,119,115]
structure aH where
 issue:Int
 cZ:Int
 dA:Int
 dX:List UInt8
 dV:List UInt8
 count:Int
 stub:Int
 ends:Bool
 ex:Int
def aQ (b:aH):List D:=[.int .i64 b.issue,.int .i64 b.cZ,.int .i64 b.dA,.str b.dX,.str b.dV,.int .i64 b.count,.int .i64 b.stub,.bool b.ends,.int .i64 b.ex]
abbrev aT (b:aH):D := .agg (aQ b)
def months (b:aH):Int:=if b.dA=1 then 12 else if b.dA=2 then 6 else if b.dA=4 then 3 else if b.dA=12 then 1 else 0
theorem KP (b:aH):L.call lX [aT b]=some (.int .i64 (months b)):=by
 obtain ⟨i,m,f,c,r,n,s,e,x⟩:=b
 unfold months aT aQ
 refine aN ag0 rfl (agx ..) ?_
 simp only
 by_cases h1:f=1
 ·subst h1; simp [yA,wrap64]
 by_cases h2:f=2
 ·subst h2; simp [yA,wrap64]
 by_cases h4:f=4
 ·subst h4; simp [yA,wrap64]
 by_cases h12:f=12
 ·subst h12; simp [yA,wrap64]
 ·simp [yA,h1,h2,h4,h12]
abbrev Err:=Option (Int×List UInt8)
def eY:Err→D
 | none => .aG
 | some (c,s)=>gu c s
def Di (b:aH):Err :=
 if ¬ bG b.issue then some (4,apH) else if ¬ bG b.cZ then some (4,P7) else if b.cZ≤b.issue then some (5,P7) else
  match nO b.issue 360 false with
  | some e=>if (e:Int)<b.cZ then some (5,P7) else none
  | none=>none
theorem acr {n:Int}:Z5 n<0↔¬ bG n:=by
 unfold Z5
 split
 ·rename_i h; constructor
  ·intro h1; omega
  ·intro h1; exact absurd h h1
 ·rename_i h; simp [h]
theorem aix (b:aH):L.call DC [aT b]=some (eY (Di b)):=by
 obtain ⟨i,m,f,c,r,n,s,e,x⟩:=b
 have w1:=Dh i
 have w2:=Dh m
 have n1 := @acr i
 have n2 := @acr m
 have ha:=UR i 360 false
 have f1:=fun s=>zW (c:=4) (by decide) s
 have f2:=fun s=>zW (c:=5) (by decide) s
 unfold Di aT aQ
 simp only
 generalize Z5 i=wi at *
 generalize Z5 m=wm at *
 refine aN akx rfl (akm ..) ?_
 by_cases h1:bG i
 ·have g1:¬ wi<0:=fun h=>(n1.1 h) h1
  by_cases h2:bG m
  ·have g2:¬ wm<0:=fun h=>(n2.1 h) h2
   by_cases h3:m≤i
   ·rw [if_neg (fun h=>h h1),if_neg (fun h=>h h2),if_pos h3]
    simp [zA,w1,w2,g1,g2,h3,f2,eY,P7,gu]
   ·rw [if_neg (fun h=>h h1),if_neg (fun h=>h h2),if_neg h3]
    generalize nO i 360 false=r at *
    cases r with
    | none=>simp [lM] at ha; simp [zA,w1,w2,g1,g2,h3,ha,eY]
    | some e =>
      simp [lM] at ha
      by_cases h4:(e:Int)<m
      ·simp [zA,w1,w2,g1,g2,h3,ha,h4,f2,eY,P7,gu]
      ·simp [zA,w1,w2,g1,g2,h3,ha,h4,eY]
  ·have g2:wm<0:=n2.2 h2
   rw [if_neg (fun h=>h h1),if_pos h2]
   simp [zA,w1,w2,g1,g2,f1,eY,P7,gu]
 ·have g1:wi<0:=n1.2 h1
  rw [if_pos h1]
  simp [zA,w1,g1,f1,eY,apH,gu]
end Go.Ev.Code
end
section
namespace Go.Ev.Code
open Go Go.Ev
theorem O0 {n:Int} (h : -9223372036854775808≤n∧n≤9223372036854775807):L.call sV [.int .i64 n]=some (cO (Rat.divInt n 1)):=by
 have := wo h (d:=1) (by omega) (by omega)
 refine aN an7 rfl (anY ..) ?_
 simp [af_,this]
def XE:Option (Rat×Nat)→D
 | some (q,n) => .aZ [cO q,.bool (decide (n≤6)),.aG]
 | none => .aZ [.aV,.bool true,zU 1]
theorem Gs {s:List UInt8} (h:s.length≤1000000):L.call rH [.str s]=some (XE (qB s)):=by
 have hg:=WR h
 generalize qB s=r at *
 refine aN aij rfl (ah9 ..) ?_
 cases r with
 | none=>simp [FU] at hg; simp [RF,hg,XE]
 | some qn =>
   obtain ⟨q,n⟩:=qn
   simp [FU] at hg
   have : ((n:Int)≤6)↔n≤6:=by omega
   simp [RF,hg,XE,this]
theorem WQ {s:List UInt8} {q:Rat} {n:Nat} (h:qB s=some (q,n)):RB 400 q∧n≤20:=by
 unfold qB at h
 split at h <;> try (simp at h; done)
 rename_i hs
 unfold DK at h
 split at h <;> try (simp at h; done)
 rename_i hc
 simp at h
 obtain ⟨rfl,rfl⟩:=h
 obtain ⟨h1,h2,h3⟩:=hc
 have hl:=agi s
 have hb:=aiI 46 (sF s).2
 have hf := @O4 46 (sF s).2
 generalize (mW 46 (sF s).2).1=w at *
 generalize (mW 46 (sF s).2).2.1=r at *
 generalize (mW 46 (sF s).2).2.2=p at *
 have hr:r.length≤20∧r.all tJ=true:=by
  cases p with
  | true=>exact (h2 rfl).2
  | false=>rw [(hf rfl).2]; simp
 have had:(w++r).all tJ=true:=by rw [List.all_append,h1.2.2.2,hr.2]; rfl
 have hv:NB 400 (jG 0 (w++r)):=al6 had (by simp; omega)
 refine ⟨jX ?_ ((apI r.length).mono (by omega)) (amo _),hr.1⟩
 split
 ·exact (IB.ofNat hv).neg
 ·exact IB.ofNat hv
theorem aiF {a b:Rat}:0<xU a b↔b<a:=by
 unfold xU
 split
 ·rename_i h
  constructor
  ·intro h1; omega
  ·intro h1; exact absurd h1 (Rat.not_lt.2 (Rat.le_of_lt h))
 ·split
  ·rename_i h1 h2
   subst h2
   constructor
   ·intro h; omega
   ·intro h; exact absurd h h1
  ·rename_i h1 h2
   refine ⟨fun _=>?_,fun _=>by omega⟩
   exact Rat.lt_of_le_of_ne (Rat.not_lt.1 h1) (Ne.symm h2)
def q30:Rat:=Rat.divInt 30 1
def ab8:Rat:=Rat.divInt 200 1
theorem anX {n:Int} {k:Nat} (h:IB k n) (hk:1≤k):RB k (Rat.divInt n 1):=jX h ((show IB 1 1 by unfold IB NB; decide).mono hk) (by decide)
def xM (b:aH):Err:=match qB b.dX with
 | none=>some (1,P6)
 | some (q,n)=>if ¬ n≤6∨q.num<0∨q30<q then some (5,P6) else match qB b.dV with
   | none=>some (1,P8)
   | some (r,k)=>if ¬ k≤6∨r.num≤0∨ab8<r then some (5,P8) else none
theorem atH {z:Int}:z.sign≤0↔z≤0:=by
 rcases Int.lt_trichotomy z 0 with h | h | h
 ·rw [Int.sign_eq_neg_one_of_neg h]; omega
 ·subst h; simp
 ·rw [Int.sign_eq_one_of_pos h]; omega
theorem aiy {b:aH} (hc:b.dX.length≤1000000) (hr:b.dV.length≤1000000):L.call DF [aT b]=some (eY (xM b)):=by
 obtain ⟨i,m,f,c,r,n,s,e,x⟩:=b
 simp only at hc hr
 have v1:=Gs hc
 have v2:=Gs hr
 have f1:=fun s=>zW (c:=1) (by decide) s
 have f2:=fun s=>zW (c:=5) (by decide) s
 have o1:=O0 (n:=30) (by omega)
 have o2:=O0 (n:=200) (by omega)
 have b1:RB 400 q30:=(anX (k:=10) (by unfold IB NB; decide) (by decide)).mono (by decide)
 have b2:RB 400 ab8:=(anX (k:=10) (by unfold IB NB; decide) (by decide)).mono (by decide)
 change L.call sV [.int .i64 30]=some (cO q30) at o1
 change L.call sV [.int .i64 200]=some (cO ab8) at o2
 have d1 := @WQ c
 have d2 := @WQ r
 unfold xM aT aQ
 simp only
 generalize qB c=dc at *
 generalize qB r=dr at *
 refine aN aky rfl (akn ..) ?_
 cases dc with
 | none=>simp [XE] at v1; simp [o_,v1,f1,eY,gu,P6]
 | some qn =>
   obtain ⟨q,k⟩:=qn
   simp [XE] at v1
   have cq:=Bq (d1 rfl).1 b1 (by omega)
   have sq:=U8 q
   have pq := @aiF q q30
   have nq := @sign_neg q.num
   simp only
   generalize xU q q30=cm at *
   generalize q.num.sign=sg at *
   by_cases h1:k≤6
   ·by_cases h2:q.num<0
    ·rw [if_pos (.inr (.inl h2))]
     have g2:=nq.2 h2
     simp [o_,v1,f2,h1,sq,g2,eY,gu,P6]
    ·have g2:¬ sg<0:=fun h=>h2 (nq.1 h)
     by_cases h3:q30<q
     ·rw [if_pos (.inr (.inr h3))]
      have g3:=pq.2 h3
      simp [o_,v1,f2,h1,sq,g2,o1,cq,g3,eY,gu,P6]
     ·have g3:¬ 0<cm:=fun h=>h3 (pq.1 h)
      rw [if_neg (fun h=>by rcases h with h | h | h <;> contradiction)]
      cases dr with
      | none =>
        simp [XE] at v2
        simp [o_,v1,v2,f1,h1,sq,g2,o1,cq,g3,eY,gu,P8]
      | some rn =>
        obtain ⟨r',k'⟩:=rn
        simp [XE] at v2
        have cr:=Bq (d2 rfl).1 b2 (by omega)
        have sr:=U8 r'
        have pr := @aiF r' ab8
        have nr := @atH r'.num
        simp only
        generalize xU r' ab8=cm' at *
        generalize r'.num.sign=sg' at *
        by_cases h4:k'≤6
        ·by_cases h5:r'.num≤0
         ·rw [if_pos (.inr (.inl h5))]
          have g5:=nr.2 h5
          simp [o_,v1,v2,f2,h1,sq,g2,o1,cq,g3,h4,sr,g5,eY,gu,P8]
         ·have g5:¬ sg'≤0:=fun h=>h5 (nr.1 h)
          by_cases h6:ab8<r'
          ·rw [if_pos (.inr (.inr h6))]
           have g6:=pr.2 h6
           simp [o_,v1,v2,f2,h1,sq,g2,o1,cq,g3,h4,sr,g5,o2,cr,g6,eY,gu,P8]
          ·have g6:¬ 0<cm':=fun h=>h6 (pr.1 h)
           rw [if_neg (fun h=>by rcases h with h | h | h <;> contradiction)]
           simp [o_,v1,v2,f2,h1,sq,g2,o1,cq,g3,h4,sr,g5,o2,cr,g6,eY]
        ·rw [if_pos (.inl h4)]
         simp [o_,v1,v2,f2,h1,sq,g2,o1,cq,g3,h4,eY,gu,P8]
   ·rw [if_pos (.inl h1)]
    simp [o_,v1,f2,h1,eY,gu,P6]
end Go.Ev.Code
end
section
namespace Go.Ev.Code
open Go Go.Ev
theorem QF (n:Int):L.call yG [.int .i64 n]=some (.bool (decide (1≤n∧n≤4))):=by
 refine aN akz rfl (ako ..) ?_
 by_cases h:1≤n
 ·by_cases h':n≤4 <;> simp [U9,h,h']
 ·simp [U9,h]
def U2 (b:aH):Int:=(CP b.issue b.cZ).tdiv (months b)+2
def chk (b:aH):Err:=match Di b with
 | some e=>some e
 | none=>if months b=0 then some (5,ash) else match xM b with
   | some e=>some e
   | none=>if ¬ (1≤b.count∧b.count≤4) then some (5,apF) else if b.stub<0∨2<b.stub then some (5,PU) else if b.ex<0∨30<b.ex then some (5,tEx)
     else if 200<U2 b then some (5,apG) else none
theorem Jr {b:aH} (h:Di b=none):bG b.issue∧bG b.cZ∧b.issue<b.cZ:=by
 unfold Di at h
 split at h <;> try (simp at h; done)
 split at h <;> try (simp at h; done)
 split at h <;> try (simp at h; done)
 exact ⟨by rename_i a _ _; exact Classical.not_not.1 a,by rename_i _ a _; exact Classical.not_not.1 a,by omega⟩
theorem aiD {n:Int} (h:bG n):1900≤(lg n.toNat).1∧(lg n.toNat).1≤2199∧1≤(lg n.toNat).2.1∧(lg n.toNat).2.1≤12:=by
 obtain ⟨y,m,d,hc,hd,ho⟩:=eH h
 rw [ho]
 exact ⟨hc.y1,hc.y2,hc.m1,hc.m2⟩
theorem asF {a b:Int} (ha:bG a) (hb:bG b) : -4000≤CP a b∧CP a b≤4000:=by
 have h1:=aiD ha
 have h2:=aiD hb
 unfold CP
 omega
theorem sN (b:aH):months b=0∨months b=1∨months b=3∨months b=6∨months b=12:=by
 unfold months
 split
 ·omega
 ·split
  ·omega
  ·split
   ·omega
   ·split <;> omega
theorem aud {a m:Int} (ha : -4000≤a∧a≤4000) (hm:m=1∨m=3∨m=6∨m=12) : -4000≤a.tdiv m∧a.tdiv m≤4000:=by
 rcases Int.le_total 0 a with h | h
 ·rw [Int.tdiv_eq_ediv_of_nonneg h]
  rcases hm with rfl | rfl | rfl | rfl <;> omega
 ·obtain ⟨k,rfl⟩:∃ k:Int,a = -k:=⟨-a,by omega⟩
  rw [Int.neg_tdiv,Int.tdiv_eq_ediv_of_nonneg (by omega)]
  rcases hm with rfl | rfl | rfl | rfl <;> omega
theorem BM {b:aH} (hc:b.dX.length≤1000000) (hr:b.dV.length≤1000000):L.call mg [aT b]=some (eY (chk b)):=by
 have c1:=aix b
 have c2:=KP b
 have c3:=aiy hc hr
 have c4:=QF b.count
 have c5:bG b.issue→bG b.cZ→L.call kG [.int .i64 b.issue,.int .i64 b.cZ]=some (.int .i64 (CP b.issue b.cZ)):=Uo
 have n1 := @Jr b
 have f2:=fun s=>zW (c:=5) (by decide) s
 have hmc:=sN b
 have hbb := @asF b.issue b.cZ
 unfold chk U2
 generalize Di b=de at *
 generalize xM b=se at *
 generalize months b=mo at *
 obtain ⟨i,m,f,c,r,n,s,e,x⟩:=b
 unfold aT aQ at *
 simp only at *
 refine aN aii rfl (ah8 ..) ?_
 cases de with
 | some er=>obtain ⟨ec,es⟩:=er; simp [eY,gu] at c1; simp [lU,c1,eY,gu]
 | none =>
   obtain ⟨d1,d2,d3⟩:=n1 rfl
   have c5:=c5 d1 d2
   have hbb:=hbb d1 d2
   simp [eY] at c1
   by_cases h0:mo=0
   ·simp [lU,c1,c2,h0,f2,eY,gu,ash]
   ·have hq:=aud hbb (show mo=1∨mo=3∨mo=6∨mo=12 by omega)
    simp only [if_neg h0]
    cases se with
    | some er=>obtain ⟨ec,es⟩:=er; simp [eY,gu] at c3; simp [lU,c1,c2,h0,c3,eY,gu]
    | none =>
      simp [eY] at c3
      simp only
      by_cases h1:1≤n∧n≤4
      ·rw [if_neg (fun h=>h h1)]
       rw [decide_eq_true h1] at c4
       by_cases h2:s<0
       ·rw [if_pos (.inl h2)]
        simp [lU,c1,c2,h0,c3,c4,h2,f2,eY,gu,PU]
       by_cases h2':2<s
       ·rw [if_pos (.inr h2')]
        simp [lU,c1,c2,h0,c3,c4,h2,h2',f2,eY,gu,PU]
       rw [if_neg (fun h=>by rcases h with h | h <;> contradiction)]
       by_cases h3:x<0
       ·rw [if_pos (.inl h3)]
        simp [lU,c1,c2,h0,c3,c4,h2,h2',h3,f2,eY,gu,tEx]
       by_cases h3':30<x
       ·rw [if_pos (.inr h3')]
        simp [lU,c1,c2,h0,c3,c4,h2,h2',h3,h3',f2,eY,gu,tEx]
       rw [if_neg (fun h=>by rcases h with h | h <;> contradiction)]
       have e1:IntKind.i64.wrap ((CP i m).tdiv mo)=(CP i m).tdiv mo:=wrap64 _ (by omega)
       have e2:IntKind.i64.wrap ((CP i m).tdiv mo+2)=(CP i m).tdiv mo+2:=wrap64 _ (by omega)
       obtain ⟨t,ht⟩:∃ t,(CP i m).tdiv mo=t:=⟨_,rfl⟩
       rw [ht] at e1 e2 hq ⊢
       obtain ⟨pp,hpp⟩:∃ pp,t+2=pp:=⟨_,rfl⟩
       have e2:IntKind.i64.wrap (t+2)=pp:=by rw [e2,hpp]
       rw [hpp]
       by_cases h4:200<pp
       ·simp [lU,c1,c2,h0,c3,c4,h2,h2',h3,h3',c5,ht,e1,e2,h4,f2,eY,gu,apG]
       ·simp [lU,c1,c2,h0,c3,c4,h2,h2',h3,h3',c5,ht,e1,e2,h4,eY]
      ·rw [if_pos h1]
       rw [decide_eq_false h1] at c4
       simp [lU,c1,c2,h0,c3,c4,f2,eY,gu,apF]
def q0:Rat:=Rat.divInt 0 1
def qh (b:aH):Rat:=match chk b with
 | some _=>q0
 | none=>match qB b.dX with | some (q,_)=>q | none=>q0
def fZ (b:aH):Rat:=match chk b with
 | some _=>q0
 | none=>match qB b.dV with | some (q,_)=>q | none=>q0
theorem dH {b:aH} (h:chk b=none):Di b=none∧months b≠0∧xM b=none:=by
 unfold chk at h
 split at h <;> try (simp at h; done)
 rename_i hd
 split at h <;> try (simp at h; done)
 rename_i hm
 split at h <;> try (simp at h; done)
 rename_i hs
 exact ⟨hd,hm,hs⟩
theorem PS {b:aH} (h:xM b=none):∃ q n r k,qB b.dX=some (q,n)∧qB b.dV=some (r,k)∧n≤6∧0≤q.num∧¬ q30<q∧k≤6∧0<r.num∧¬ ab8<r:=by
 unfold xM at h
 split at h <;> try (simp at h; done)
 rename_i q n hq
 split at h <;> try (simp at h; done)
 rename_i h1
 split at h <;> try (simp at h; done)
 rename_i r k hr
 split at h <;> try (simp at h; done)
 rename_i h2
 refine ⟨q,n,r,k,hq,hr,?_,?_,?_,?_,?_,?_⟩
 ·exact Classical.not_not.1 fun h=>h1 (.inl h)
 ·exact Int.not_lt.1 fun h=>h1 (.inr (.inl h))
 ·exact fun h=>h1 (.inr (.inr h))
 ·exact Classical.not_not.1 fun h=>h2 (.inl h)
 ·exact Int.not_le.1 fun h=>h2 (.inr (.inl h))
 ·exact fun h=>h2 (.inr (.inr h))
theorem En {b:aH} (hc:b.dX.length≤1000000) (hr:b.dV.length≤1000000):L.call lW [aT b]=some (cO (qh b)):=by
 have c1:=BM hc hr
 have v1:=Gs hc
 have o1:=O0 (n:=0) (by omega)
 change L.call sV [.int .i64 0]=some (cO q0) at o1
 have hs := @dH b
 have hss := @PS b
 unfold qh
 generalize chk b=ck at *
 obtain ⟨i,m,f,c,r,n,s,e,x⟩:=b
 unfold aT aQ at *
 simp only at *
 refine aN agZ rfl (agw ..) ?_
 cases ck with
 | some er=>obtain ⟨ec,es⟩:=er; simp [eY,gu] at c1; simp [OC,c1,o1]
 | none =>
   obtain ⟨q,n,r,k,h1,_⟩:=hss (hs rfl).2.2
   rw [h1] at v1
   simp [XE] at v1
   simp [eY] at c1
   rw [h1]
   simp [OC,c1,v1]
theorem Eo {b:aH} (hc:b.dX.length≤1000000) (hr:b.dV.length≤1000000):L.call oW [aT b]=some (cO (fZ b)):=by
 have c1:=BM hc hr
 have v1:=Gs hr
 have o1:=O0 (n:=0) (by omega)
 change L.call sV [.int .i64 0]=some (cO q0) at o1
 have hs := @dH b
 have hss := @PS b
 unfold fZ
 generalize chk b=ck at *
 obtain ⟨i,m,f,c,r,n,s,e,x⟩:=b
 unfold aT aQ at *
 simp only at *
 refine aN ag1 rfl (agy ..) ?_
 cases ck with
 | some er=>obtain ⟨ec,es⟩:=er; simp [eY,gu] at c1; simp [OD,c1,o1]
 | none =>
   obtain ⟨q,n,r,k,_,h1,_⟩:=hss (hs rfl).2.2
   rw [h1] at v1
   simp [XE] at v1
   simp [eY] at c1
   rw [h1]
   simp [OD,c1,v1]
end Go.Ev.Code
end
section
namespace Go.Ev.Code
open Go Go.Ev
def anch (b:aH) (k:Nat):Option Nat:=nO b.cZ (-(k:Int)*months b) b.ends
def zS:Option Nat→D
 | some d => .int .i64 d
 | none => .int .i64 0
theorem Ad (b:aH) {k:Nat} (hk:k≤100000):L.call rY [aT b,.int .i64 k]=some (.aZ [zS (anch b k),.bool (anch b k).isSome]):=by
 have hm:=KP b
 have ha:=UR b.cZ (-(k:Int)*months b) b.ends
 have hmc:=sN b
 have e1:IntKind.i64.wrap (0-(k:Int)) = -(k:Int):=by rw [wrap64 _ (by omega)]; omega
 have e2:IntKind.i64.wrap (-(k:Int)*months b) = -(k:Int)*months b:=by
  refine wrap64 _ ?_
  rcases hmc with h | h | h | h | h <;> rw [h] <;> omega
 unfold anch
 generalize hx : -(k:Int)*months b=x at *
 generalize hr:nO b.cZ x b.ends=r at *
 generalize months b=mo at *
 obtain ⟨i,m,f,c,rd,n,s,e,ex⟩:=b
 unfold aT aQ at *
 simp only at *
 refine aN ahi rfl (agR ..) ?_
 have e1':IntKind.i64.wrap (-(k:Int)) = -(k:Int):=by rw [wrap64 _ (by omega)]
 have e2':IntKind.i64.wrap (-((k:Int)*mo))=x:=by rw [← e2,← hx,Int.neg_mul]
 have hx' : -((k:Int)*mo)=x:=by rw [← hx,Int.neg_mul]
 cases r with
 | none=>simp [lM] at ha; simp [OQ,hm,e1,e1',e2,e2',hx,hx',ha,zS]
 | some d=>simp [lM] at ha; simp [OQ,hm,e1,e1',e2,e2',hx,hx',ha,zS]
def ints (l:List Nat):List D:=l.map fun (n:Nat)=>D.int .i64 n
theorem wU (l:List Nat):(ints l).length=l.length:=by simp [ints]
theorem abX (l:List Nat) (d:Nat):ints (l++[d])=ints l++[.int .i64 d]:=by simp [ints]
theorem zl (l:List Nat) (b n:Nat):(ints l).all (D.clo b (n+1))=true:=by
 rw [List.all_eq_true]
 intro d hd
 simp only [ints,List.mem_map] at hd
 obtain ⟨x,_,rfl⟩:=hd
 rfl
def eu (b:aH) (k:Nat):List Nat:=(List.range k).map fun i=>(anch b i).getD 0
theorem pI (b:aH) (k:Nat):(eu b k).length=k:=by simp [eu]
theorem TD (b:aH) (k:Nat):eu b (k+1)=eu b k++[(anch b k).getD 0]:=by simp [eu,List.range_succ]
def Goes (b:aH) (k:Nat):Prop:=∃ d,anch b k=some d∧b.issue<(d:Int)
theorem aiv {b:aH} {K:Nat} (hK:K≤90000) (hgo:∀ i,i<K→Goes b i) (hst:¬ Goes b K):∀ (j k:Nat),k+j=K→1≤k →
  L.loop [1,5,6] [2,3,4] nG 2 [.loc 1 0,.bf 2 0 k 1,.int .i64 k] [.live (aQ b),.live (aQ b),.live (ints (eu b k))] =
    some (.ret,[.bf 2 0 K 1,zS (anch b K),.bool (anch b K).isSome],[.live (aQ b),.live (aQ b),.live (ints (eu b K))]):=by
 intro j
 induction j with
 | zero =>
   intro k hk h1
   have hkK:k=K:=by omega
   subst hkK
   have ha:=Ad b (k:=k) (by omega)
   have hcl:=zl (eu b k) 2 11
   have hl:(ints (eu b k)).length=k:=by rw [wU,pI]
   unfold Goes at hst
   generalize ints (eu b k)=l at *
   generalize hr:anch b k=r at *
   obtain ⟨i,m,f,c,rd,n,s,e,ex⟩:=b
   unfold aT aQ at *
   simp only at *
   refine aO (FN ..) ?_
   cases r with
   | none=>simp [zS] at ha; simp [uS,ha,zS,hcl]
   | some d =>
     have g:(d:Int)≤i:=by
      by_cases h:i<(d:Int)
      ·exact absurd ⟨d,rfl,h⟩ hst
      ·omega
     simp [zS] at ha; simp [uS,ha,zS,g,hcl]
 | succ j ih =>
   intro k hk h1
   have hn:=ih (k+1) (by omega) (by omega)
   have ha:=Ad b (k:=k) (by omega)
   obtain ⟨d,hd,hdi⟩:=hgo k (by omega)
   rw [TD,hd,Option.getD_some,abX] at hn
   rw [hd] at ha
   have hcl:=zl (eu b k) 2 11
   have hl:(ints (eu b k)).length=k:=by rw [wU,pI]
   generalize ints (eu b k)=l at *
   generalize (anch b K).isSome=zb at *
   generalize zS (anch b K)=zd at *
   generalize ints (eu b K)=lK at *
   have htk:l.take k=l:=List.take_of_length_le (by omega)
   have hlen:k+1≤4294967296:=by omega
   have e1:IntKind.i64.wrap ((k:Int)+1)=((k+1:Nat):Int):=by rw [wrap64 _ (by omega)]; omega
   obtain ⟨i,m,f,c,rd,n,s,e,ex⟩:=b
   unfold aT aQ at *
   simp only at *
   simp [zS] at ha hn
   have g:¬ (d:Int)≤i:=by omega
   refine aO (FN ..) ?_
   simp [uS,ha,g,hcl,htk,hl,hlen,e1,qP,hn]
theorem amQ {b:aH} {K:Nat} (hK:K≤90000) (h1:1≤K) (hgo:∀ i,i<K→Goes b i) (hst:¬ Goes b K) :
  L.bJ xg [aT b] [.live (aQ b)]=some (.aZ [.bf 1 0 K 1,zS (anch b K),.bool (anch b K).isSome],[.live (aQ b),.live (ints (eu b K))]):=by
 have hl:L.loop [1,5,6] [2,3,4] nG 2 [.loc 1 0,.cu,.int .i64 0] [.live (aQ b),.live (aQ b)] =
   some (.ret,[.bf 2 0 K 1,zS (anch b K),.bool (anch b K).isSome],[.live (aQ b),.live (aQ b),.live (ints (eu b K))]):=by
  have hn:=aiv hK hgo hst (K-1) 1 (by omega) (by omega)
  have ha:=Ad b (k:=0) (by omega)
  obtain ⟨d,hd,hdi⟩:=hgo 0 (by omega)
  rw [show eu b 1=[(anch b 0).getD 0] by simp [eu],hd,Option.getD_some,show ((1:Nat):Int)=1 from rfl] at hn
  rw [hd] at ha
  generalize (anch b K).isSome=zb at *
  generalize zS (anch b K)=zd at *
  generalize ints (eu b K)=lK at *
  obtain ⟨i,m,f,c,rd,n,s,e,ex⟩:=b
  unfold aT aQ at *
  simp only at *
  simp [zS,ints] at ha hn
  have g:¬ (d:Int)≤i:=by omega
  refine aO (FN ..) ?_
  simp [uS,ha,g,qP,wrap64,hn]
 have hcl:=zl (eu b K) 1 11
 have hz:zS (anch b K) = .int .i64 ((anch b K).getD 0:Nat):=by cases anch b K <;> rfl
 rw [hz] at hl ⊢
 generalize (anch b K).isSome=zb at *
 generalize (anch b K).getD 0=zd at *
 have hlen:(ints (eu b K)).length=K:=by rw [wU,pI]
 generalize ints (eu b K)=lK at *
 obtain ⟨i,m,f,c,rd,n,s,e,ex⟩:=b
 unfold aT aQ at *
 simp only at *
 refine oH ael rfl (ad9 ..) ?_
 simp [V8,hl,hcl]
end Go.Ev.Code
end
section
namespace Go.Ev.Code
open Go Go.Ev
def ac5 (b:aH) (k:Nat):Bool:=match anch b k with
 | some d=>decide (b.issue<(d:Int))
 | none=>false
theorem afK (b:aH) (k:Nat):ac5 b k=true↔Goes b k:=by
 unfold ac5 Goes
 cases anch b k with
 | none=>simp
 | some d=>simp
def Pn (b:aH):Nat→Nat→Nat
 | 0,k=>k
 | f+1,k=>if ac5 b k=true then Pn b f (k+1) else k
def bQ (b:aH):Nat:=Pn b 3601 0
theorem ai1 (b:aH):∀ (f k:Nat),(∀ i,i<k→Goes b i)→¬ Goes b (k+f)→(∀ i,i<Pn b f k→Goes b i)∧¬ Goes b (Pn b f k)∧Pn b f k≤k+f
 | 0,k,h1,h2=>⟨h1,h2,Nat.le_refl _⟩
 | f+1,k,h1,h2=>by
   simp only [Pn]
   split
   ·rename_i hg
    have hg:=(afK b k).1 hg
    have := ai1 b f (k+1) (fun i hi=>by
     rcases Nat.lt_or_ge i k with h | h
     ·exact h1 i h
     ·have : i=k:=by omega
      rw [this]; exact hg) (by rw [show k+1+f=k+(f+1) by omega]; exact h2)
    exact ⟨this.1,this.2.1,by omega⟩
   ·rename_i hg
    exact ⟨h1,fun h=>hg ((afK b k).2 h),by omega⟩
theorem air {y m d:Nat} {n:Int} {e:Bool} (h:¬ (-3600≤n∧n≤3600)):Jq y m d n e=none:=by unfold Jq; rw [if_neg h]
theorem aqd (b:aH) (hm:months b≠0):¬ Goes b 3601:=by
 rintro ⟨d,hd,_⟩
 have hc:=sN b
 unfold anch nO at hd
 split at hd
 ·rw [air (by rcases hc with h | h | h | h | h <;> rw [h] <;> omega)] at hd
  simp at hd
 ·simp at hd
theorem Gf {b:aH} (hm:months b≠0):(∀ i,i<bQ b→Goes b i)∧¬ Goes b (bQ b)∧bQ b≤3601:=by
 have := ai1 b 3601 0 (fun i hi=>absurd hi (by omega)) (by rw [Nat.zero_add]; exact aqd b hm)
 exact ⟨this.1,this.2.1,Nat.le_trans this.2.2 (by decide)⟩
theorem aoj {day:Int} (h:bG day) (e:Bool):nO day 0 e=some day.toNat:=by
 obtain ⟨y,m,d,hc,hd,ho⟩:=eH h
 unfold nO
 rw [if_pos h,ho]
 have h1:=hc.y1
 have h2:=hc.y2
 have h3:=hc.m1
 have h4:=hc.m2
 have h5:=hc.d2
 unfold Jq
 rw [if_pos (by omega)]
 have e1:((((y*12+m-1:Nat):Int)+0) / 12).toNat=y:=by omega
 have e2:((((y*12+m-1:Nat):Int)+0) % 12).toNat+1=m:=by omega
 simp only [e1,e2]
 unfold rO
 rw [if_pos ⟨h1,h2⟩]
 congr 1
 have : (if e=true∧d=bP y m then bP y m else min d (bP y m))=d:=by split <;> omega
 rw [this,hd]; omega
theorem TB {b:aH} (h:bG b.cZ):anch b 0=some b.cZ.toNat:=by
 unfold anch
 rw [show (-((0:Nat):Int)*months b)=0 by simp]
 exact aoj h _
theorem Jb {b:aH} (h:chk b=none):1≤bQ b:=by
 obtain ⟨h1,h2,h3⟩:=dH h
 obtain ⟨d1,d2,d3⟩:=Jr h1
 obtain ⟨k1,k2,k3⟩:=Gf h2
 rcases Nat.eq_zero_or_pos (bQ b) with h0 | h0
 ·rw [h0] at k2
  exact absurd ⟨_,TB d2,by omega⟩ k2
 ·exact h0
def dZ:Int→List Nat→List (Int×Int)
 | _,[]=>[]
 | f,d::ds=>(f,(d:Int))::dZ d ds
def bK:List (Int×Int)→List D
 | []=>[]
 | (a,b)::ps => .int .i64 a :: .int .i64 b::bK ps
theorem ab6 (l r:List (Int×Int)):bK (l++r)=bK l++bK r:=by
 induction l with
 | nil=>rfl
 | cons x xs ih=>obtain ⟨a,b⟩:=x; simp [bK,ih]
theorem Bj (l:List (Int×Int)):(bK l).length=l.length*2:=by
 induction l with
 | nil=>rfl
 | cons x xs ih=>obtain ⟨a,b⟩:=x; simp [bK,ih]; omega
theorem gX (l:List (Int×Int)) (b n:Nat):(bK l).all (D.clo b (n+1))=true:=by
 induction l with
 | nil=>rfl
 | cons x xs ih=>obtain ⟨p,q⟩:=x; simp [bK]; simpa using ih
theorem Xb (f:Int) (l:List Nat):(dZ f l).length=l.length:=by
 induction l generalizing f with
 | nil=>rfl
 | cons x xs ih=>simp [dZ,ih]
theorem oO (a b:D):zeros 1 [a,b]=[a,b]:=by rfl
theorem ajx {b:aH} {days:List Nat} {nx:Int} {is:Bool} (hd:days.length≤90000):∀ (rest pre:List Nat) (acc:List (Int×Int)) (fr:Int),days=pre++rest→acc≠[]→acc.length=pre.length →
  L.loop [1,6,7,8,9,27,28,29] [1,6,7,8] yQ 2 [.loc 0 0,.int .i64 nx,.bool is,.bf 2 0 acc.length 2,.int .i64 fr,.bf 1 0 days.length 1,.int .i64 days.length,.int .i64 pre.length]
    [.live (aQ b),.live (ints days),.live (bK acc)] =
    some (.exit 0,[.loc 0 0,.int .i64 nx,.bool is,.bf 2 0 days.length 2],[.live (aQ b),.live (ints days),.live (bK (acc++dZ fr rest))]):=by
 have hcl:=zl days 2 11
 have hbc:(aQ b).all (D.clo 2 12)=true:=by obtain ⟨i,m,f,c,rd,n,s,e,ex⟩:=b; simp [aQ]
 intro rest
 induction rest with
 | nil =>
   intro pre acc fr hdd hne hal
   have hpl:pre.length=days.length:=by rw [hdd]; simp
   rw [hal,hpl]
   have hpc:=gX acc 2 11
   simp only [dZ,List.append_nil]
   generalize aQ b=B at *
   generalize bK acc=pc at *
   generalize hid:ints days=id at *
   generalize days.length=K at *
   refine aO (Qi ..) ?_
   simp [Kw,hcl,hbc,hpc]
 | cons d rest ih =>
   intro pre acc fr hdd hne hal
   have hn:=ih (pre++[d]) (acc++[(fr,(d:Int))]) d (by rw [hdd]; simp) (by simp) (by simp [hal])
   have hmk:acc++dZ fr (d::rest)=acc++[(fr,(d:Int))]++dZ d rest:=by simp [dZ]
   rw [← hmk] at hn
   have hlt:pre.length<days.length:=by rw [hdd]; simp
   have hget:(ints days)[pre.length]?=some (.int .i64 d):=by
    rw [hdd]; simp [ints]
   have hpc:=gX acc 2 11
   rw [ab6] at hn
   have hpl:=Bj acc
   rw [show bK [(fr,(d:Int))]=[.int .i64 fr,.int .i64 d] from rfl] at hn
   have htk:(bK acc).take (acc.length*2)=bK acc:=List.take_of_length_le (by omega)
   have hil:(ints days).length=days.length:=wU days
   have e1:IntKind.i64.wrap ((pre.length:Int)+1)=((pre.length+1:Nat):Int):=by rw [wrap64 _ (by omega)]; omega
   have hlen:acc.length+1≤4294967296:=by omega
   rw [List.length_append,List.length_append] at hn
   simp only [List.length_singleton] at hn
   generalize bK (acc++dZ fr (d::rest))=pz at *
   generalize aQ b=B at *
   generalize bK acc=pc at *
   generalize ints days=id at *
   generalize days.length=K at *
   generalize hA:acc.length=A at *
   generalize pre.length=P at *
   have hltI:(P:Int)<K:=by omega
   simp at hn
   refine aO (Qi ..) ?_
   simp [Kw,hcl,hbc,hpc,hlt,hltI,hget,oO,htk,e1,hlen,hpl,hn]
end Go.Ev.Code
end
section
namespace Go.Ev.Code
open Go Go.Ev
def dR (b:aH):List (Int×Int):=dZ b.issue (eu b (bQ b)).reverse
def FV (b:aH):Bool:=match anch b (bQ b) with
 | some d=>decide ((d:Int)=b.issue)
 | none=>false
def aS (b:aH):Err×List (Int×Int):=match chk b with
 | some e=>(some e,[])
 | none=>if FV b=true then (none,dR b) else if b.stub=0 then (some (5,PU),[]) else if b.stub=2 then
   (match dR b with
    | _::q::r=>(none,(b.issue,q.2)::r)
    | ps=>(none,ps))
   else (none,dR b)
def f_ (ps:List (Int×Int)):D := .sl ps.length (bK ps)
def vw (r:Err×List (Int×Int)):D := .aZ [f_ r.2,eY r.1]
theorem r_ (b:aH):(dR b).length=bQ b:=by unfold dR; rw [Xb,List.length_reverse,pI]
theorem Ii (l:List (Int×Int)) (n:Nat) (m:Mem):jE (fz (n+1)) (bK l) m=some (bK l,m):=by
 induction l with
 | nil=>rfl
 | cons x xs ih=>obtain ⟨a,b⟩:=x; simp [bK,ih]
theorem anw {b:aH} {days:List Nat} {nx:Int} {is:Bool} (hd:days.length≤90000) (hne:days≠[]) :
  L.loop [1,6,7,8,9,27,28,29] [1,6,7,8] yQ 2 [.loc 0 0,.int .i64 nx,.bool is,.cu,.int .i64 b.issue,.bf 1 0 days.length 1,.int .i64 days.length,.int .i64 0]
    [.live (aQ b),.live (ints days)] =
    some (.exit 0,[.loc 0 0,.int .i64 nx,.bool is,.bf 2 0 days.length 2],[.live (aQ b),.live (ints days),.live (bK (dZ b.issue days))]):=by
 obtain ⟨d,rest,rfl⟩:∃ d rest,days=d::rest:=List.exists_cons_of_ne_nil hne
 have hn:=ajx (b:=b) (nx:=nx) (is:=is) hd rest [d] [(b.issue,(d:Int))] d rfl (by simp) rfl
 have hcl:=zl (d::rest) 2 11
 have hbc:(aQ b).all (D.clo 2 12)=true:=by obtain ⟨i,m,f,c,rd,n,s,e,ex⟩:=b; simp [aQ]
 rw [show [(b.issue,(d:Int))]++dZ d rest=dZ b.issue (d::rest) from rfl,show bK [(b.issue,(d:Int))]=[.int .i64 b.issue,.int .i64 d] from rfl] at hn
 have hget:(ints (d::rest))[0]?=some (.int .i64 d):=by simp [ints]
 have hil:=wU (d::rest)
 have hlt:0<(d::rest).length:=by simp
 generalize bK (dZ b.issue (d::rest))=pz at *
 generalize aQ b=B at *
 generalize ints (d::rest)=id at *
 generalize (d::rest).length=K at *
 simp at hn
 have hltI:(0:Int)<K:=by omega
 refine aO (Qi ..) ?_
 simp [Kw,hcl,hbc,hlt,hltI,hget,oO,wrap64,hn]
theorem yR {b:aH} (hc:b.dX.length≤1000000) (hr:b.dV.length≤1000000):L.call nN [aT b]=some (vw (aS b)):=by
 have hck:=BM hc hr
 by_cases hchk:chk b=none
 ·obtain ⟨k1,k2,k3⟩:=Gf (dH hchk).2.1
  have kp:=Jb hchk
  have han:=amQ (by omega) kp k1 k2
  have hlen:=pI b (bQ b)
  have hrev:=arl (pre:=[.live (aQ b)]) (l:=ints (eu b (bQ b))) (by obtain ⟨i,m,f,c,rd,n,s,e,ex⟩:=b; simp [aQ]) (by rw [wU,hlen]; omega)
   (fun d hd=>by
    simp only [ints,List.mem_map] at hd
    obtain ⟨x,_,rfl⟩:=hd
    exact ⟨rfl,rfl⟩)
  rw [wU,hlen,show (ints (eu b (bQ b))).reverse=ints (eu b (bQ b)).reverse by simp [ints]] at hrev
  have hz:zS (anch b (bQ b)) = .int .i64 ((anch b (bQ b)).getD 0:Nat):=by cases anch b (bQ b) <;> rfl
  rw [hz] at han
  have hlp:=anw (b:=b) (days:=(eu b (bQ b)).reverse) (nx:=((anch b (bQ b)).getD 0:Nat)) (is:=(anch b (bQ b)).isSome) (by rw [List.length_reverse,hlen]; omega) (by
   intro h
   have := congrArg List.length h
   rw [List.length_reverse,hlen] at this
   simp at this; omega)
  rw [List.length_reverse,hlen] at hlp
  have hpl:=Bj (dR b)
  have hrl:=r_ b
  rw [hrl] at hpl
  have hit:FV b=((anch b (bQ b)).isSome && decide ((((anch b (bQ b)).getD 0:Nat):Int)=b.issue)):=by
   unfold FV
   cases anch b (bQ b) <;> simp
  have htk:(bK (dR b)).take (bQ b*2)=bK (dR b):=List.take_of_length_le (by omega)
  have hfz:∀ m,jE (fz 10) (bK (dR b)) m=some (bK (dR b),m):=fun m=>Ii (dR b) 9 m
  have hpc:=gX (dR b) 0 11
  unfold aS
  rw [hchk]
  simp only
  rw [hit]
  unfold dR at *
  generalize (anch b (bQ b)).isSome=is at *
  generalize (anch b (bQ b)).getD 0=nx at *
  generalize ints (eu b (bQ b)).reverse=rv at *
  generalize ints (eu b (bQ b))=iv at *
  have f2:L.call gY [.int .i64 5,.str [115,116,117,98]]=some (gu 5 PU):=zW (c:=5) (by decide) PU
  rw [hchk] at hck
  simp [eY] at hck
  generalize hps:dZ b.issue (eu b (bQ b)).reverse=ps at *
  generalize hk:bQ b=K at *
  obtain ⟨i,m,f,c,rd,n,s,e,ex⟩:=b
  unfold aT aQ at *
  simp only at *
  simp at hrev
  refine aN afl rfl (afe ..) ?_
  by_cases hh:(is && decide ((nx:Int)=i))=true
  ·rw [if_pos hh]
   simp only [Bool.and_eq_true,decide_eq_true_eq] at hh
   obtain ⟨rfl,hh⟩:=hh
   rw [hh] at han hlp
   simp [sS,hck,han,hrev,hlp,hpc,hfz,hpl,htk,vw,f_,hrl,eY]
  ·rw [if_neg hh]
   by_cases hs0:s=0
   ·subst hs0
    rw [if_pos rfl]
    cases is with
    | false=>simp [sS,hck,han,hrev,hlp,f2,vw,f_,eY,gu,PU,bK]
    | true =>
      have hh:¬ (nx:Int)=i:=by simpa using hh
      simp [sS,hck,han,hrev,hlp,hh,f2,vw,f_,eY,gu,PU,bK]
   ·rw [if_neg hs0]
    have hh2:is=false∨(is=true∧¬ (nx:Int)=i):=by
     cases is with
     | false=>exact .inl rfl
     | true=>exact .inr ⟨rfl,by simpa using hh⟩
    by_cases hs2:s=2
    ·subst hs2
     rw [if_pos rfl]
     by_cases hK1:1<K
     ·obtain ⟨p,q,r,rfl⟩:∃ p q r,ps=p::q::r:=by
       cases ps with
       | nil=>simp at hrl; omega
       | cons p t=>cases t with
         | nil=>simp at hrl; omega
         | cons q r=>exact ⟨p,q,r,rfl⟩
      obtain ⟨p1,p2⟩:=p
      obtain ⟨q1,q2⟩:=q
      have hK1':(1:Int)<K:=by omega
      have hrK:r.length+1+1=K:=by simpa using hrl
      have hKr:K-1=r.length+1:=by omega
      have hrl2:=Bj r
      have hfz2:∀ m,jE (fz 10) (bK r) m=some (bK r,m):=fun m=>Ii r 9 m
      have hbn:lG true false K [.int .i64 1]=some (1,K):=by
       have h1K:(1:Int)≤K:=by omega
       have h1K':1≤K:=by omega
       simp [lG,bnd,h1K,h1K']
      have hpc2:=gX r 0 11
      have htk2:(bK r).take (r.length*2)=bK r:=List.take_of_length_le (by omega)
      have hb1:2+(r.length+1)*2≤(bK r).length+1+1+1+1:=by omega
      have hb2:(r.length+1)*2=r.length*2+1+1:=by omega
      have hb3:2+(r.length*2+1+1)≤r.length*2+1+1+1+1:=by omega
      simp only [bK] at hlp
      rcases hh2 with rfl | ⟨rfl,hh2⟩
      ·simp [sS,hck,han,hrev,hlp,hK1,hK1',hbn,hKr,hrl2,hfz2,hpc2,htk2,hb1,hb2,hb3,vw,f_,bK,eY]
      ·simp [sS,hck,han,hrev,hlp,hh2,hK1,hK1',hbn,hKr,hrl2,hfz2,hpc2,htk2,hb1,hb2,hb3,vw,f_,bK,eY]
     ·have hK1':¬ (1:Int)<K:=by omega
      have hcase:(match ps with | _::q::r=>((none:Err),(i,q.2)::r) | ps=>(none,ps))=(none,ps):=by
       match ps,hrl with
       | [],_=>rfl
       | [_],_=>rfl
       | _::_::_,hrl=>simp at hrl; omega
      rw [hcase]
      rcases hh2 with rfl | ⟨rfl,hh2⟩
      ·simp [sS,hck,han,hrev,hlp,hK1,hK1',hpc,hfz,hpl,htk,vw,f_,hrl,eY]
      ·simp [sS,hck,han,hrev,hlp,hh2,hK1,hK1',hpc,hfz,hpl,htk,vw,f_,hrl,eY]
    ·rw [if_neg hs2]
     rcases hh2 with rfl | ⟨rfl,hh2⟩
     ·simp [sS,hck,han,hrev,hlp,hs0,hs2,hpc,hfz,hpl,htk,vw,f_,hrl,eY]
     ·simp [sS,hck,han,hrev,hlp,hh2,hs0,hs2,hpc,hfz,hpl,htk,vw,f_,hrl,eY]
 ·cases hce:chk b with
  | none=>exact absurd hce hchk
  | some er =>
    unfold aS
    rw [hce] at hck ⊢
    obtain ⟨ec,es⟩:=er
    simp only [vw,f_,bK,List.length_nil]
    obtain ⟨i,m,f,c,rd,n,s,e,ex⟩:=b
    unfold aT aQ at *
    simp only at *
    simp [eY,gu] at hck
    refine aN afl rfl (afe ..) ?_
    simp [sS,hck,eY,gu]
end Go.Ev.Code
end
section
namespace Go.Ev.Code
open Go Go.Ev
def yO (b:aH) (day:Int):Nat→Nat→Option Nat
 | 0,_=>none
 | f+1,k=>match anch b k with
   | some a=>if (a:Int)<day then none else if (a:Int)=day then some k else yO b day f (k+1)
   | none=>none
def JZ (b:aH) (day:Int):Option Nat:=yO b day 3602 0
def FX:Option Nat→List D
 | some k=>[.int .i64 k,.bool true]
 | none=>[.int .i64 0,.bool false]
theorem aol (b:aH) (hm:months b≠0):anch b 3601=none:=by
 have hc:=sN b
 unfold anch nO
 split
 ·rw [air (by rcases hc with h | h | h | h | h <;> rw [h] <;> omega)]
 ·rfl
theorem ant {b:aH} (hm:months b≠0) {day:Int}:∀ (f k:Nat),k+f=3602 →
  L.loop [1,2,6] [4,5] qo 1 [.int .i64 day,.loc 0 0,.int .i64 k] [.live (aQ b)]=some (.ret,FX (yO b day f k),[.live (aQ b)])∨f=0:=by
 intro f
 induction f with
 | zero=>intro k hk; exact .inr rfl
 | succ f ih =>
   intro k hk
   left
   have ha:=Ad b (k:=k) (by omega)
   have hn:=ih (k+1) (by omega)
   have hlast:f=0→anch b k=none:=fun h=>by
    have : k=3601:=by omega
    rw [this]; exact aol b hm
   simp only [yO]
   have e1:IntKind.i64.wrap ((k:Int)+1)=((k+1:Nat):Int):=by rw [wrap64 _ (by omega)]; omega
   generalize anch b k=r at *
   generalize yO b day f (k+1)=r2 at *
   obtain ⟨i,m,fq,c,rd,n,s,e,ex⟩:=b
   unfold aT aQ at *
   simp only at *
   refine aO (acC ..) ?_
   cases r with
   | none=>simp [zS] at ha; simp [tX,ha,FX]
   | some a =>
     simp [zS] at ha
     simp only
     by_cases h1:(a:Int)<day
     ·simp [tX,ha,h1,FX]
     ·by_cases h2:(a:Int)=day
      ·subst h2
       simp [tX,ha,FX]
      ·rcases hn with hn | hn
       ·cases r2 with
        | none=>simp [FX] at hn; simp [tX,ha,h1,h2,e1,hn,FX]
        | some k2=>simp [FX] at hn; simp [tX,ha,h1,h2,e1,hn,FX]
       ·have := hlast hn; simp at this
theorem ahA {b:aH} (hm:months b≠0) (day:Int):L.call Bl [aT b,.int .i64 day]=some (.aZ (FX (JZ b day))):=by
 have hl:=(ant hm (day:=day) 3602 0 rfl).resolve_right (by decide)
 change L.loop [1,2,6] [4,5] qo 1 [.int .i64 day,.loc 0 0,.int .i64 0] [.live (aQ b)]=some (.ret,FX (JZ b day),[.live (aQ b)]) at hl
 generalize JZ b day=r at *
 obtain ⟨i,m,fq,c,rd,n,s,e,ex⟩:=b
 unfold aT aQ at *
 simp only at *
 refine aN aip rfl (aie ..) ?_
 cases r with
 | none=>simp [FX] at hl; simp [RS,hl,FX]
 | some k=>simp [FX] at hl; simp [RS,hl,FX]
theorem U3 {b:aH} {day:Int}:∀ {f k j:Nat},yO b day f k=some j→j<k+f∧anch b j=some day.toNat∧0≤day
 | 0,k,j,h=>by simp [yO] at h
 | f+1,k,j,h=>by
   simp only [yO] at h
   split at h <;> try (simp at h; done)
   rename_i a ha
   split at h <;> try (simp at h; done)
   split at h
   ·rename_i h2
    simp at h
    subst h
    refine ⟨by omega,?_,by omega⟩
    rw [ha]; congr 1; omega
   ·have := U3 h
    exact ⟨by omega,this.2⟩
def quasi (b:aH) (day:Int):Option Nat:=match JZ b day with
 | some k=>if day≤b.issue then none else anch b (k+1)
 | none=>none
def ab9 (b:aH) (day:Int):D:=match chk b with
 | some e => .aZ [.int .i64 0,eY (some e)]
 | none=>lM (quasi b day)
theorem HY {b:aH} (hc:b.dX.length≤1000000) (hr:b.dV.length≤1000000) (day:Int):L.call pO [aT b,.int .i64 day]=some (ab9 b day):=by
 have hck:=BM hc hr
 by_cases hchk:chk b=none
 ·have hm:=(dH hchk).2.1
  have hp:=ahA hm day
  have hps:=fun {j} => @U3 b day 3602 0 j
  have han:=fun k (hk:k≤100000)=>Ad b (k:=k) hk
  unfold ab9 quasi
  rw [hchk] at hck ⊢
  simp only
  unfold JZ at *
  generalize yO b day 3602 0=r at *
  simp [eY] at hck
  cases r with
  | none =>
    obtain ⟨i,m,fq,c,rd,n,s,e,ex⟩:=b
    unfold aT aQ at *
    simp only at *
    simp [FX] at hp
    refine aN Qp rfl (Qj ..) ?_
    simp [Ae,hck,hp,bT,lM]
  | some k =>
    have hk:=(hps rfl).1
    have ha:=han (k+1) (by omega)
    have e1:IntKind.i64.wrap ((k:Int)+1)=((k+1:Nat):Int):=by rw [wrap64 _ (by omega)]; omega
    show L.call pO [aT b,.int .i64 day]=some (lM (if day≤b.issue then none else anch b (k+1)))
    generalize anch b (k+1)=r2 at *
    obtain ⟨i,m,fq,c,rd,n,s,e,ex⟩:=b
    unfold aT aQ at *
    simp only at *
    simp [FX] at hp
    refine aN Qp rfl (Qj ..) ?_
    by_cases hd:day≤i
    ·simp [Ae,hck,hp,hd,bT,lM]
    ·cases r2 with
     | none=>simp [zS] at ha; simp [Ae,hck,hp,hd,e1,ha,bT,lM]
     | some a=>simp [zS] at ha; simp [Ae,hck,hp,hd,e1,ha,lM]
 ·cases hce:chk b with
  | none=>exact absurd hce hchk
  | some er =>
    obtain ⟨ec,es⟩:=er
    unfold ab9
    rw [hce] at hck ⊢
    obtain ⟨i,m,fq,c,rd,n,s,e,ex⟩:=b
    unfold aT aQ at *
    simp only at *
    simp [eY,gu] at hck
    refine aN Qp rfl (Qj ..) ?_
    simp [Ae,hck,eY,gu]
def pD (p:Int×Int):D := .agg [.int .i64 p.1,.int .i64 p.2]
def regular (b:aH) (p:Int×Int):Bool:=match chk b with
 | some _=>false
 | none=>match quasi b p.2 with
   | some a=>decide ((a:Int)=p.1)
   | none=>false
theorem Dq {b:aH} (hc:b.dX.length≤1000000) (hr:b.dV.length≤1000000) (p:Int×Int):L.call lN [aT b,pD p]=some (.bool (regular b p)):=by
 have hq:=HY hc hr p.2
 obtain ⟨p1,p2⟩:=p
 unfold regular pD
 unfold ab9 at hq
 simp only at hq ⊢
 generalize chk b=ck at *
 generalize quasi b p2=q at *
 obtain ⟨i,m,fq,c,rd,n,s,e,ex⟩:=b
 unfold aT aQ at *
 refine aN aek rfl (ad8 ..) ?_
 cases ck with
 | some er=>obtain ⟨ec,es⟩:=er; simp [eY,gu] at hq; simp [Fh,hq]
 | none =>
   cases q with
   | none=>simp [lM] at hq; simp [Fh,hq]
   | some a=>simp [lM] at hq; simp [Fh,hq]
end Go.Ev.Code
end
section
namespace Go.Ev.Code
open Go Go.Ev
theorem AB {y m d y' m' d':Nat} (h:rD y m d) (h':rD y' m' d') (hlt:y*12+m<y'*12+m'):dayOf y m d<dayOf y' m' d':=by
 have a1:=h.m1
 have a2:=h.m2
 have a3:=h'.m1
 have a4:=h'.m2
 have a5:=h.d1
 have a6:=h.d2
 have a7:=h'.d1
 have a8:=h.y1
 rcases Nat.lt_or_ge y y' with hy | hy
 ·have h1:=h.hi
  have h2:=h'.lo
  have h3:=KN (x:=y+1) (y:=y') (by omega) hy
  omega
 ·have hyy:y=y':=by omega
  subst hyy
  have hm:m<m':=by omega
  have h4:dF y m=dF y (m-1)+bP y m:=by
   obtain ⟨q,rfl⟩:∃ q,m=q+1:=⟨m-1,by omega⟩
   simp only [dF,Nat.add_sub_cancel]
  have h5:=QI y (j:=m) (k:=m'-1) (by omega)
  unfold dayOf
  omega
theorem WH {day n:Int} {e:Bool} {r:Nat} (h:nO day n e=some r):∃ y m d,rD y m d∧r=dayOf y m d ∧
  ((y*12+m:Nat):Int)=(((lg day.toNat).1*12+(lg day.toNat).2.1:Nat):Int)+n:=by
 unfold nO at h
 split at h <;> try (simp at h; done)
 rename_i hd
 obtain ⟨y,m,d,hc,hd,ho⟩:=eH hd
 rw [ho] at h ⊢
 unfold Jq at h
 split at h <;> try (simp at h; done)
 simp only at h ⊢
 have h1:=hc.y1
 have h3:=hc.m1
 have h12:1≤((((y*12+m-1:Nat):Int)+n) % 12).toNat+1∧((((y*12+m-1:Nat):Int)+n) % 12).toNat+1≤12:=by omega
 have hsum:(((((((y*12+m-1:Nat):Int)+n) / 12).toNat*12+(((((y*12+m-1:Nat):Int)+n) % 12).toNat+1):Nat)):Int)=((y*12+m:Nat):Int)+n:=by omega
 generalize ((((y*12+m-1:Nat):Int)+n) % 12).toNat+1=m' at *
 generalize ((((y*12+m-1:Nat):Int)+n) / 12).toNat=y' at *
 have hp:=A_ (y:=y') h12.1 h12.2
 have hd1:=hc.d1
 obtain ⟨q1,q2⟩:=ajm h12.1 h12.2 (by split <;> omega) (by split <;> omega) h
 exact ⟨_,_,_,q1,q2,hsum⟩
theorem Z_ {b:aH} (hm:months b≠0) {j k a c:Nat} (hjk:j<k) (hj:anch b j=some a) (hk:anch b k=some c):c<a:=by
 obtain ⟨y,m,d,h1,h2,h3⟩:=WH hj
 obtain ⟨y',m',d',h1',h2',h3'⟩:=WH hk
 rw [h2,h2']
 refine AB h1' h1 ?_
 have hc:=sN b
 rcases hc with h | h | h | h | h
 ·exact absurd h hm
 all_goals (rw [h] at h3 h3'; omega)
theorem WJ {b:aH} {k a:Nat} (h:anch b k=some a):bG a:=Dy h
theorem ads {b:aH} (hm:months b≠0) {k a:Nat} (hk:anch b k=some a) (hall:∀ i,i<k→(anch b i).isSome=true) (hk2:k<3602):JZ b a=some k:=by
 unfold JZ
 have : ∀ f i,i≤k→k<i+f→yO b a f i=some k:=by
  intro f
  induction f with
  | zero=>intro i h1 h2; omega
  | succ f ih =>
    intro i h1 h2
    simp only [yO]
    rcases Nat.lt_or_ge i k with h | h
    ·obtain ⟨c,hc⟩:=Option.isSome_iff_exists.1 (hall i h)
     have := Z_ hm h hc hk
     rw [hc]
     simp only
     rw [if_neg (by omega),if_neg (by omega)]
     exact ih (i+1) h (by omega)
    ·have : i=k:=by omega
     subst this
     rw [hk]
     simp
 exact this 3602 0 (by omega) (by omega)
theorem Rw {b:aH} (hchk:chk b=none) {k a:Nat} (hk:k<bQ b) (h1:anch b k=some a) {p:Int} (h2:∃ c,anch b (k+1)=some c∧(c:Int)=p):regular b (p,(a:Int))=true:=by
 have hm:=(dH hchk).2.1
 obtain ⟨g1,g2,g3⟩:=Gf hm
 obtain ⟨c,hc,hcp⟩:=h2
 have hpl:=ads hm h1 (fun i hi=>by
  obtain ⟨d,hd,_⟩:=g1 i (by omega)
  rw [hd]; rfl) (by omega)
 obtain ⟨d,hd,hdi⟩:=g1 k hk
 rw [h1] at hd
 simp at hd
 subst hd
 unfold regular quasi
 rw [hchk]
 simp only [hpl]
 rw [if_neg (by omega),hc]
 simp [hcp]
theorem aoY {b:aH} (hchk:chk b=none):bQ b≤199:=by
 obtain ⟨q1,hm,_⟩:=dH hchk
 obtain ⟨d1,d2,d3⟩:=Jr q1
 obtain ⟨g1,g2,g3⟩:=Gf hm
 have kp:=Jb hchk
 have hper:U2 b≤200:=by
  have h:=hchk
  unfold chk at h
  split at h <;> try (simp at h; done)
  split at h <;> try (simp at h; done)
  split at h <;> try (simp at h; done)
  split at h <;> try (simp at h; done)
  split at h <;> try (simp at h; done)
  split at h <;> try (simp at h; done)
  split at h <;> try (simp at h; done)
  omega
 obtain ⟨d,hd,hdi⟩:=g1 (bQ b-1) (by omega)
 obtain ⟨y,m,dd,h1,h2,h3⟩:=WH hd
 obtain ⟨yi,mi,di,hci,hdi2,hoi⟩:=eH d1
 have hge:yi*12+mi≤y*12+m:=by
  rcases Nat.lt_or_ge (y*12+m) (yi*12+mi) with h | h
  ·have := AB h1 hci h
   omega
  ·exact h
 have hb:CP b.issue b.cZ=((bQ b-1:Nat):Int)*months b+(((y*12+m:Nat):Int)-((yi*12+mi:Nat):Int)):=by
  unfold CP
  rw [hoi]
  simp only
  rw [Int.neg_mul] at h3
  omega
 have hnn:((bQ b-1:Nat):Int)*months b≤CP b.issue b.cZ:=by omega
 unfold U2 at hper
 generalize CP b.issue b.cZ=bw at *
 have hc:=sN b
 rcases hc with h | h | h | h | h
 ·exact absurd h hm
 all_goals
  rw [h] at hper hnn
  rw [Int.tdiv_eq_ediv_of_nonneg (by omega)] at hper
  omega
end Go.Ev.Code
end
