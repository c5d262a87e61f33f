/- A part of the proof of priceAll_card, yieldAll_card, priceSum_card, flowAll_card, accrAll_card. -/
import Derived.Test.YtfkdcfbleblgoaaGreatDoorCSpC
set_option linter.unusedVariables false
set_option linter.unusedSimpArgs false
section
namespace Go.Ev.Code
open Go Go.Ev
def leap (y:Nat):Bool:=decide (y % 4=0∧(y % 100≠0∨y % 400=0))
def bW (y m:Nat):Nat:=match m with
 | 2=>if leap y then 29 else 28
 | 4 | 6 | 9 | 11=>30
 | 1 | 3 | 5 | 7 | 8 | 10 | 12=>31
 | _=>0
def dN (y:Nat):Nat:=365*(y-1900)+((y-1) / 4-(y-1) / 100+(y-1) / 400)-460
theorem Cj (a b:Nat):Int.tdiv (a:Int) (b:Int)=((a / b:Nat):Int):=rfl
theorem tK (a b:Nat):Int.tmod (a:Int) (b:Int)=((a % b:Nat):Int):=rfl
theorem Ko {y:Nat} (h1:1900≤y) (h2:y≤1000000):L.call UA [.int .i64 y]=some (.int .i64 (dN y)):=by
 have e1:IntKind.i64.wrap ((y:Int)-1)=((y-1:Nat):Int):=by rw [wrap64 _ (by omega)]; omega
 have e2:IntKind.i64.wrap ((y:Int)-1900)=((y-1900:Nat):Int):=by rw [wrap64 _ (by omega)]; omega
 have q1:=Cj (y-1) 4
 have q2:=Cj (y-1) 100
 have q3:=Cj (y-1) 400
 simp at q1 q2 q3
 have hb:dN y=365*(y-1900)+((y-1) / 4-(y-1) / 100+(y-1) / 400)-460:=rfl
 refine aj (aoZ ..) ?_
 simp (disch:=omega) [afx,e1,e2,q1,q2,q3,wrap64]
 omega
theorem aqL {y:Nat} (h:y≤1000000):L.call aaM [.int .i64 y]=some (.bool (leap y)):=by
 have q1:=tK y 4
 have q2:=tK y 100
 have q3:=tK y 400
 simp at q1 q2 q3
 refine aj (atb ..) ?_
 unfold leap
 by_cases h4:y % 4=0
 ·by_cases h100:y % 100=0
  ·by_cases h400:y % 400=0
   ·simp (disch:=omega) [NY,q1,q2,q3,h4,h100,h400]
    have : (y:Int) % 4=0:=by omega
    have : (y:Int) % 100=0:=by omega
    have : (y:Int) % 400=0:=by omega
    simp [*]
   ·have : (y:Int) % 4=0:=by omega
    have : (y:Int) % 100=0:=by omega
    have : ¬ (y:Int) % 400=0:=by omega
    simp (disch:=omega) [NY,q1,q2,q3, *]
  ·have : (y:Int) % 4=0:=by omega
   have : ¬ (y:Int) % 100=0:=by omega
   simp (disch:=omega) [NY,q1,q2,q3, *]
 ·have : ¬ (y:Int) % 4=0:=by omega
  simp (disch:=omega) [NY,q1,q2,q3, *]
end Go.Ev.Code
end
section
namespace Go.Ev.Code
open Go Go.Ev
theorem sV {y m:Nat} (h:y≤1000000) (h1:1≤m) (h2:m≤12):L.call Uz [.int .i64 y,.int .i64 m]=some (.int .i64 (bW y m)):=by
 have hl:=aqL h
 refine aj (aoY ..) ?_
 have : m=1∨m=2∨m=3∨m=4∨m=5∨m=6∨m=7∨m=8∨m=9∨m=10∨m=11∨m=12:=by omega
 rcases this with rfl | rfl | rfl | rfl | rfl | rfl | rfl | rfl | rfl | rfl | rfl | rfl
 case inr.inl =>
  cases hy:leap y <;> rw [hy] at hl <;> simp [Xn,bW,hl,hy]
 all_goals simp [Xn,bW]
theorem aec (n:Int):L.call ac3 [.int .i64 n]=some (.bool (decide (0≤n∧n≤109572))):=by
 refine aj (aw2 ..) ?_
 by_cases h:0≤n
 ·by_cases h':n≤109572 <;> simp [ahK,h,h']
 ·simp [ahK,h]
def ah3 (n:Int):Int:=if 0≤n∧n≤109572 then (n+1) % 7 else -1
theorem IC (n:Int):L.call yx [.int .i64 n]=some (.int .i64 (ah3 n)):=by
 have h:=aec n
 refine aj (amm ..) ?_
 unfold ah3
 by_cases hn:0≤n∧n≤109572
 ·rw [decide_eq_true hn] at h
  have e:Int.tmod (n+1) 7=(n+1) % 7:=Int.tmod_eq_emod_of_nonneg (by omega)
  simp (disch:=omega) [Uh,h,wrap64,hn,e]
 ·rw [decide_eq_false hn] at h
  simp [Uh,h,hn]
def dH (y:Nat):Nat→Nat
 | 0=>0
 | k+1=>dH y k+bW y (k+1)
theorem xX (y m:Nat):bW y m≤31:=by unfold bW; split <;> (try split) <;> omega
theorem agA (y k:Nat):dH y k≤31*k:=by
 induction k with
 | zero=>simp [dH]
 | succ k ih=>have := xX y (k+1); simp only [dH]; omega
theorem YH {y:Nat} (h:y≤2200):dN y≤109573:=by unfold dN; omega
def mJ (y m d:Nat):D := .agg [.int .i64 y,.int .i64 m,.int .i64 d]
theorem aCf {y m d A:Nat} (hy:y≤2200) (hm:m≤12) (hA:A≤1000000):∀ (j k:Nat),k+j=m→1≤k →
  L.loop [1,4,5] [4] Qp 1 [.loc 0 0,.int .i64 ((A+dH y (k-1):Nat):Int),.int .i64 k] [.live [.int .i64 y,.int .i64 m,.int .i64 d]] =
    some (.exit 0,[.int .i64 ((A+dH y (m-1):Nat):Int)],[.live [.int .i64 y,.int .i64 m,.int .i64 d]]):=by
 intro j
 induction j with
 | zero =>
   intro k hk h1
   have : k=m:=by omega
   subst this
   generalize A+dH y (k-1)=B
   refine au (agc ..) ?_
   simp [ZM]
 | succ j ih =>
   intro k hk h1
   have hl:=sV (y:=y) (m:=k) (by omega) h1 (by omega)
   have hn:=ih (k+1) (by omega) (by omega)
   have hc:A+dH y (k+1-1)=A+dH y (k-1)+bW y k:=by
    rw [Nat.add_sub_cancel]
    obtain ⟨q,rfl⟩:∃ q,k=q+1:=⟨k-1,by omega⟩
    simp only [dH,Nat.add_sub_cancel]; omega
   rw [hc] at hn
   have hb:=agA y (k-1)
   have hb2:=xX y k
   have hlt:k<m:=by omega
   have hBl:A+dH y (k-1)≤1000372:=by omega
   generalize A+dH y (k-1)=B at *
   generalize A+dH y (m-1)=C at *
   generalize bW y k=l at *
   have e1:IntKind.i64.wrap ((B:Int)+l)=((B+l:Nat):Int):=by rw [wrap64 _ (by omega)]; omega
   have e2:IntKind.i64.wrap ((k:Int)+1)=((k+1:Nat):Int):=by rw [wrap64 _ (by omega)]; omega
   generalize B+l=B2 at *
   generalize k+1=k2 at *
   refine au (agc ..) ?_
   simp (disch:=omega) [ZM,hl,hlt,e1,e2,hn]
def dayOf (y m d:Nat):Nat:=dN y+dH y (m-1)+d-1
theorem ak7 {y m d:Nat} (h1:1900≤y) (h2:y≤2199) (hm:1≤m) (hm2:m≤12) (hd:1≤d) (hd2:d≤bW y m) :
  L.call Tm [mJ y m d]=some (.aG [.int .i64 (dayOf y m d),.bQ]):=by
 have hl:=sV (y:=y) (m:=m) (by omega) hm hm2
 have hb:=Ko h1 (by omega)
 have hlp:=aCf (y:=y) (m:=m) (d:=d) (A:=dN y+d-1) (by omega) hm2 (by have := YH (y:=y) (by omega); have := xX y m; omega) (m-1) 1 (by omega) (by omega)
 simp only [Nat.sub_self,dH,Nat.add_zero] at hlp
 have hbb:=YH (y:=y) (by omega)
 have hml:=xX y m
 have hC:dN y+d-1+dH y (m-1)=dayOf y m d:=by unfold dayOf; omega
 rw [hC,show ((1:Nat):Int)=1 from rfl] at hlp
 have g1:¬ (y:Int)<1900:=by omega
 have g2:¬ (2199:Int)<y:=by omega
 have g3:¬ (d:Int)<1:=by omega
 generalize bW y m=l at *
 have g4:¬ (l:Int)<d:=by omega
 have g5:¬ l<d:=by omega
 have g6:¬ 2199<y:=by omega
 generalize dayOf y m d=r at *
 generalize dN y=b at *
 have e1:IntKind.i64.wrap ((b:Int)+d)=((b+d:Nat):Int):=by rw [wrap64 _ (by omega)]; omega
 have e2:IntKind.i64.wrap (((b+d:Nat):Int)-1)=((b+d-1:Nat):Int):=by rw [wrap64 _ (by omega)]; omega
 generalize b+d-1=b1 at *
 generalize b+d=b2 at *
 refine aj (anz ..) ?_
 unfold mJ
 simp (disch:=omega) [abq,hl,hb,g1,g2,g3,g4,g5,g6,e1,e2,hlp]
end Go.Ev.Code
end
section
namespace Go.Ev.Code
open Go Go.Ev
theorem azU (y:Nat):leap y=true↔(y % 4=0∧(y % 100≠0∨y % 400=0)):=by unfold leap; simp
theorem apT (y:Nat):dH y 12=if leap y then 366 else 365:=by
 cases h:leap y <;> simp [dH,bW,h]
theorem ash {z k:Nat} (hk:0<k):(z+1) / k=z / k+(if (z+1) % k=0 then 1 else 0):=by
 rw [Nat.succ_div]
 by_cases h:(z+1) % k=0
 ·rw [if_pos h,if_pos (Nat.dvd_of_mod_eq_zero h)]
 ·rw [if_neg h,if_neg (fun hd=>h (Nat.mod_eq_zero_of_dvd hd))]
theorem I5 {y:Nat} (h:1900≤y):dN (y+1)=dN y+dH y 12:=by
 rw [apT]
 have hl:=azU y
 obtain ⟨z,rfl⟩:∃ z,y=z+1:=⟨y-1,by omega⟩
 by_cases hz:z=1899
 ·subst hz; decide
 have hz2:1900≤z:=by omega
 unfold dN
 have h4:=ash (z:=z) (k:=4) (by decide)
 have h100:=ash (z:=z) (k:=100) (by decide)
 have h400:=ash (z:=z) (k:=400) (by decide)
 have b1:z / 100≤z / 4:=Nat.div_le_div_left (by decide) (by decide)
 have b2:474≤z / 4:=by omega
 have b3:(z+1) / 100≤(z+1) / 4:=Nat.div_le_div_left (by decide) (by decide)
 have b4:455≤z / 4-z / 100:=by omega
 have i1:(z+1) % 400=0→(z+1) % 100=0:=fun h=>by omega
 have i2:(z+1) % 100=0→(z+1) % 4=0:=fun h=>by omega
 rw [Nat.add_sub_cancel,Nat.add_sub_cancel]
 generalize (z+1) % 4=r4 at *
 generalize (z+1) % 100=r100 at *
 generalize (z+1) % 400=r400 at *
 generalize (z+1) / 4=p4 at *
 generalize (z+1) / 100=p100 at *
 generalize (z+1) / 400=p400 at *
 generalize z / 4=s4 at *
 generalize z / 100=s100 at *
 generalize z / 400=s400 at *
 by_cases c4:r4=0
 ·rw [if_pos c4] at h4
  by_cases c100:r100=0
  ·rw [if_pos c100] at h100
   by_cases c400:r400=0
   ·rw [if_pos c400] at h400
    rw [if_pos (hl.2 ⟨c4,.inr c400⟩)]; omega
   ·rw [if_neg c400] at h400
    rw [if_neg (fun h=>by rcases (hl.1 h).2 with h | h <;> contradiction)]; omega
  ·rw [if_neg c100] at h100
   have c400:¬ r400=0:=fun h=>c100 (i1 h)
   rw [if_neg c400] at h400
   rw [if_pos (hl.2 ⟨c4,.inl c100⟩)]; omega
 ·have c100:¬ r100=0:=fun h=>c4 (i2 h)
  have c400:¬ r400=0:=fun h=>c100 (i1 h)
  rw [if_neg c4] at h4
  rw [if_neg c100] at h100
  rw [if_neg c400] at h400
  rw [if_neg (fun h=>c4 (hl.1 h).1)]; omega
theorem YN (y:Nat) {j k:Nat} (h:j≤k):dH y j≤dH y k:=by
 induction k with
 | zero=>have : j=0:=by omega
         rw [this]; exact Nat.le_refl _
 | succ k ih =>
   rcases Nat.lt_or_ge k j with h1 | h1
   ·have : j=k+1:=by omega
    rw [this]; exact Nat.le_refl _
   ·have := ih h1; simp only [dH]; omega
theorem Tc {x y:Nat} (h:1900≤x) (hxy:x≤y):dN x≤dN y:=by
 induction y with
 | zero=>omega
 | succ y ih =>
   rcases Nat.lt_or_ge y x with h1 | h1
   ·have : x=y+1:=by omega
    rw [this]; exact Nat.le_refl _
   ·have := ih h1; rw [I5 (by omega)]; omega
structure Dc (y m d:Nat):Prop where
 y1:1900≤y
 y2:y≤2199
 m1:1≤m
 m2:m≤12
 d1:1≤d
 d2:d≤bW y m
theorem Dc.lo {y m d:Nat} (h:Dc y m d):dN y≤dayOf y m d:=by have := h.d1; unfold dayOf; omega
theorem Dc.hi {y m d:Nat} (h:Dc y m d):dayOf y m d<dN (y+1):=by
 have h1:=h.d1
 have h2:=h.d2
 have h3:=h.m1
 have h5:=h.m2
 rw [I5 h.y1]
 have h4:=YN y h5
 have h6:dH y m=dH y (m-1)+bW y m:=by
  obtain ⟨q,rfl⟩:∃ q,m=q+1:=⟨m-1,by omega⟩
  simp only [dH,Nat.add_sub_cancel]
 unfold dayOf; omega
theorem Dc.le {y m d:Nat} (h:Dc y m d):dayOf y m d≤109572:=by
 have h1:=h.hi
 have h2:=h.y1
 have h3:=h.y2
 have := Tc (x:=y+1) (y:=2200) (by omega) (by omega)
 have h4:dN 2200=109573:=by decide
 omega
theorem auE {y:Nat} (h:1900≤y):dN y≤366*(y-1900):=by
 unfold dN; omega
theorem axq {day y:Nat} (hd:day≤109572) (hy1:dN y≤day) (hy2:day<dN (y+1)) (hy3:y≤2199):∀ (j x:Nat),x+j=y→1900≤x →
  L.loop [0,2,4] [0,2,4] Gu 2 [.int .i64 day,.loc 0 0,.loc 1 0] [.live [.int .i64 0,.int .i64 0,.int .i64 0],.live [.int .i64 x,.int .i64 1,.int .i64 0]] =
    some (.exit 0,[.int .i64 day,.loc 0 0,.loc 1 0],[.live [.int .i64 0,.int .i64 0,.int .i64 0],.live [.int .i64 y,.int .i64 1,.int .i64 0]]):=by
 intro j
 induction j with
 | zero =>
   intro x hx h1
   have : x=y:=by omega
   subst this
   have hb:=Ko (y:=x+1) (by omega) (by omega)
   have e1:IntKind.i64.wrap ((x:Int)+1)=((x+1:Nat):Int):=by rw [wrap64 _ (by omega)]; omega
   generalize dN (x+1)=b at *
   generalize x+1=x2 at *
   have g:¬ b≤day:=by omega
   have g':¬ (b:Int)≤day:=by omega
   refine au (Z7 ..) ?_
   simp (disch:=omega) [RF,e1,hb,g,g']
 | succ j ih =>
   intro x hx h1
   have hb:=Ko (y:=x+1) (by omega) (by omega)
   have hn:=ih (x+1) (by omega) (by omega)
   have hmo:=Tc (x:=x+1) (y:=y) (by omega) (by omega)
   have e1:IntKind.i64.wrap ((x:Int)+1)=((x+1:Nat):Int):=by rw [wrap64 _ (by omega)]; omega
   generalize dN (x+1)=b at *
   generalize x+1=x2 at *
   have g:b≤day:=by omega
   have g':(b:Int)≤day:=by omega
   refine au (Z7 ..) ?_
   simp (disch:=omega) [RF,e1,hb,g,g',hn]
theorem axr {y m d:Nat} (h:Dc y m d):∀ (j k:Nat),k+j=m→1≤k →
  L.loop [2,4,5] [2,4,5] Gv 2 [.loc 0 0,.loc 1 0,.int .i64 ((dH y (m-1)+(d-1)-dH y (k-1):Nat):Int)] [.live [.int .i64 0,.int .i64 0,.int .i64 0],.live [.int .i64 y,.int .i64 k,.int .i64 0]] =
    some (.exit 2,[.loc 0 0,.loc 1 0,.int .i64 ((d-1:Nat):Int)],[.live [.int .i64 0,.int .i64 0,.int .i64 0],.live [.int .i64 y,.int .i64 m,.int .i64 0]]):=by
 have h1:=h.d1
 have h2:=h.d2
 have h3:=h.m2
 have h4:=h.y2
 have h5:=xX y m
 intro j
 induction j with
 | zero =>
   intro k hk hk1
   have : k=m:=by omega
   subst this
   have hl:=sV (y:=y) (m:=k) (by omega) hk1 h3
   rw [show dH y (k-1)+(d-1)-dH y (k-1)=d-1 by omega]
   generalize bW y k=l at *
   have g:¬ (l:Int)≤((d-1:Nat):Int):=by omega
   have g':¬ l≤d-1:=by omega
   generalize d-1=d1 at *
   refine au (Z8 ..) ?_
   simp (disch:=omega) [RG,hl,g,g']
 | succ j ih =>
   intro k hk hk1
   have hl:=sV (y:=y) (m:=k) (by omega) hk1 (by omega)
   have hn:=ih (k+1) (by omega) (by omega)
   have hc:dH y (k+1-1)=dH y (k-1)+bW y k:=by
    rw [Nat.add_sub_cancel]
    obtain ⟨q,rfl⟩:∃ q,k=q+1:=⟨k-1,by omega⟩
    simp only [dH,Nat.add_sub_cancel]
   have hmo:=YN y (j:=k) (k:=m-1) (by omega)
   rw [Nat.add_sub_cancel] at hc hn
   rw [hc] at hmo hn
   have hub:=agA y (m-1)
   have hub2:dH y (m-1)+(d-1)≤1000:=by omega
   have hmo2:dH y (k-1)+bW y k≤dH y (m-1)+(d-1):=by omega
   generalize dH y (m-1)+(d-1)=T at *
   generalize bW y k=l at *
   generalize dH y (k-1)=c at *
   have g:l≤T-c:=by omega
   have g':(l:Int)≤((T-c:Nat):Int):=by omega
   have e1:IntKind.i64.wrap (((T-c:Nat):Int)-l)=((T-(c+l):Nat):Int):=by rw [wrap64 _ (by omega)]; omega
   have e2:IntKind.i64.wrap ((k:Int)+1)=((k+1:Nat):Int):=by rw [wrap64 _ (by omega)]; omega
   generalize T-(c+l)=r2 at *
   generalize T-c=r1 at *
   generalize k+1=k2 at *
   refine au (Z8 ..) ?_
   simp (disch:=omega) [RG,hl,g,g',e1,e2,hn]
theorem vT {y m d:Nat} (h:Dc y m d):L.call zX [.int .i64 (dayOf y m d)]=some (.aG [mJ y m d,.bQ]):=by
 have hle:=h.le
 have hlo:=h.lo
 have hhi:=h.hi
 have hd1:=h.d1
 have hd2:=h.d2
 have hml:=xX y m
 have hy:=h.y2
 have hm2:=h.m2
 have hb:=Ko h.y1 (by omega)
 have h366:=auE (y:=y+1) (by have := h.y1; omega)
 have l1:=axq hle hlo hhi h.y2 (y-(1900+dayOf y m d / 366)) (1900+dayOf y m d / 366) (by omega) (by omega)
 have l2:=axr h (m-1) 1 (by have := h.m1; omega) (by omega)
 have his:=aec (dayOf y m d)
 rw [decide_eq_true (by omega)] at his
 have hT:dayOf y m d-dN y=dH y (m-1)+(d-1):=by unfold dayOf; omega
 simp only [Nat.sub_self,dH,Nat.sub_zero] at l2
 rw [← hT,show ((1:Nat):Int)=1 from rfl] at l2
 have hbb:=YH (y:=y) (by omega)
 have q1:=Cj (dayOf y m d) 366
 simp at q1
 generalize dayOf y m d=day at *
 have e1:IntKind.i64.wrap ((day:Int) / 366)=((day / 366:Nat):Int):=by rw [wrap64 _ (by omega)]; omega
 have e2:IntKind.i64.wrap (1900+((day / 366:Nat):Int))=((1900+day / 366:Nat):Int):=by rw [wrap64 _ (by omega)]; omega
 have e2':IntKind.i64.wrap (1900+(day:Int) / 366)=((1900+day / 366:Nat):Int):=by rw [wrap64 _ (by omega)]; omega
 generalize 1900+day / 366=x at *
 generalize dN y=b at *
 have e3:IntKind.i64.wrap ((day:Int)-b)=((day-b:Nat):Int):=by rw [wrap64 _ (by omega)]; omega
 generalize day-b=r at *
 have e4:IntKind.i64.wrap (((d-1:Nat):Int)+1)=(d:Int):=by rw [wrap64 _ (by omega)]; omega
 generalize d-1=dd at *
 refine aj (agb ..) ?_
 unfold mJ
 simp (disch:=omega) [ZL,his,q1,e1,e2,e2',l1,hb,e3,l2,e4]
theorem ac2 {n:Int} (h:¬ (0≤n∧n≤109572)):L.call zX [.int .i64 n]=some (.aG [mJ 0 0 0,BD 4]):=by
 have his:=aec n
 rw [decide_eq_false h] at his
 refine aj (agb ..) ?_
 unfold mJ
 simp (disch:=omega) [ZL,his,bM]
theorem aDm {day:Nat} (h:day≤109572):∃ y m d,Dc y m d∧dayOf y m d=day:=by
 have hy:∃ y,1900≤y∧dN y≤day∧day<dN (y+1):=by
  have : ∀ k,day<dN (1900+k)→∃ y,1900≤y∧dN y≤day∧day<dN (y+1):=by
   intro k
   induction k with
   | zero=>intro h1; have : dN 1900=0:=by decide
           rw [Nat.add_zero,this] at h1; omega
   | succ k ih =>
     intro h1
     rcases Nat.lt_or_ge day (dN (1900+k)) with h2 | h2
     ·exact ih h2
     ·exact ⟨1900+k,by omega,h2,h1⟩
  exact this 300 (by have : dN (1900+300)=109573:=by decide
                     omega)
 obtain ⟨y,h1,h2,h3⟩:=hy
 have hm:∃ m,1≤m∧m≤12∧dH y (m-1)≤day-dN y∧day-dN y<dH y m:=by
  have : ∀ k,k≤12→day-dN y<dH y k→∃ m,1≤m∧m≤12∧dH y (m-1)≤day-dN y∧day-dN y<dH y m:=by
   intro k
   induction k with
   | zero=>intro _ h1; simp [dH] at h1
   | succ k ih =>
     intro hk h1
     rcases Nat.lt_or_ge (day-dN y) (dH y k) with h2 | h2
     ·exact ih (by omega) h2
     ·exact ⟨k+1,by omega,hk,by rw [Nat.add_sub_cancel]; exact h2,h1⟩
  rw [I5 h1] at h3
  exact this 12 (by omega) (by omega)
 obtain ⟨m,m1,m2,m3,m4⟩:=hm
 have h6:dH y m=dH y (m-1)+bW y m:=by
  obtain ⟨q,rfl⟩:∃ q,m=q+1:=⟨m-1,by omega⟩
  simp only [dH,Nat.add_sub_cancel]
 have hy2:y≤2199:=by
  rcases Nat.lt_or_ge 2199 y with hh | hh
  ·have := Tc (x:=2200) (y:=y) (by omega) hh
   have h4:dN 2200=109573:=by decide
   omega
  ·exact hh
 refine ⟨y,m,day-dN y-dH y (m-1)+1,⟨h1,hy2,m1,m2,by omega,by omega⟩,?_⟩
 unfold dayOf; omega
end Go.Ev.Code
end
section
namespace Go.Ev.Code
open Go Go.Ev
theorem atz {y m d:Nat} (h:¬ (1900≤y∧y≤2199)) (hy:y≤1000000) (h1:1≤m) (h2:m≤12) (hd:1≤d):L.call Tm [mJ y m d]=some (.aG [.int .i64 0,BD 4]):=by
 refine aj (anz ..) ?_
 unfold mJ
 by_cases g1:y<1900
 ·have g1':(y:Int)<1900:=by omega
  simp (disch:=omega) [abq,g1,g1',bM]
 ·have g1':¬ (y:Int)<1900:=by omega
  have g2:2199<y:=by omega
  have g2':(2199:Int)<y:=by omega
  simp (disch:=omega) [abq,g1,g1',g2,g2',bM]
theorem OI {y m:Nat} (h1:1≤m) (h2:m≤12):28≤bW y m:=by
 have : m=1∨m=2∨m=3∨m=4∨m=5∨m=6∨m=7∨m=8∨m=9∨m=10∨m=11∨m=12:=by omega
 rcases this with rfl | rfl | rfl | rfl | rfl | rfl | rfl | rfl | rfl | rfl | rfl | rfl <;> simp only [bW] <;> (try split) <;> omega
def kW:Option Nat→D
 | some n => .aG [.int .i64 n,.bQ]
 | none => .aG [.int .i64 0,BD 4]
def uf (y m d:Nat):Option Nat:=if 1900≤y∧y≤2199 then some (dayOf y m d) else none
theorem ak8 {y m d:Nat} (hy:y≤1000000) (h1:1≤m) (h2:m≤12) (hd:1≤d) (hd2:d≤bW y m):L.call Tm [mJ y m d]=some (kW (uf y m d)):=by
 unfold uf
 split
 ·rename_i h; exact ak7 h.1 h.2 h1 h2 hd hd2
 ·rename_i h; exact atz h hy h1 h2 hd
theorem arJ {y m:Nat} (hy:y≤1000000) (h1:1≤m) (h2:m≤12):L.call aa4 [.int .i64 y,.int .i64 m]=some (kW (uf y m (bW y m))):=by
 have hl:=sV hy h1 h2
 have hp:=OI (y:=y) h1 h2
 have h:=ak8 hy h1 h2 (d:=bW y m) (by omega) (Nat.le_refl _)
 unfold mJ at h
 generalize hr:uf y m (bW y m)=r at *
 generalize bW y m=l at *
 refine aj (atf ..) ?_
 cases r <;> simp [acA,hl,h,kW] at h ⊢ <;> simp [acA,hl,h,kW]
theorem apC {y m d:Nat} (h:Dc y m d):L.call Lc [.int .i64 (dayOf y m d)]=some (.bool (decide (d=bW y m))):=by
 have hc:=vT h
 have hl:=sV (y:=y) (m:=m) (by have := h.y2; omega) h.m1 h.m2
 unfold mJ at hc
 generalize dayOf y m d=day at *
 generalize bW y m=l at *
 refine aj (aqh ..) ?_
 have : ((d:Int)=l)↔d=l:=by omega
 by_cases hdl:d=l <;> simp [ahL,hc,hl,hdl,this]
def Qd (y m d:Nat) (n:Int) (e:Bool):Option Nat :=
 if -3600≤n∧n≤3600 then
  (let a:=((y*12+m-1:Nat):Int)+n
   let y':=(a / 12).toNat
   let m':=(a % 12).toNat+1
   uf y' m' (if e=true∧d=bW y m then bW y' m' else min d (bW y' m')))
 else none
set_option maxHeartbeats 1000000 in
theorem arI {y m d:Nat} (h:Dc y m d) (n:Int) (e:Bool):L.call Ad [.int .i64 (dayOf y m d),.int .i64 n,.bool e]=some (kW (Qd y m d n e)):=by
 have hc:=vT h
 have hla:=apC h
 unfold mJ at hc
 have h1:=h.y1
 have h2:=h.y2
 have h3:=h.m1
 have h4:=h.m2
 have h5:=h.d1
 have h6:=h.d2
 by_cases hn : -3600≤n∧n≤3600
 ·obtain ⟨a,ha⟩:∃ a:Nat,((y*12+m-1:Nat):Int)+n=a:=⟨(((y*12+m-1:Nat):Int)+n).toNat,by omega⟩
  have ha2:a≤1000000:=by omega
  have e1:IntKind.i64.wrap ((y:Int)*12)=((y*12:Nat):Int):=by rw [wrap64 _ (by omega)]; omega
  have e2:IntKind.i64.wrap (((y*12:Nat):Int)+m)=((y*12+m:Nat):Int):=by rw [wrap64 _ (by omega)]; omega
  have e3:IntKind.i64.wrap (((y*12+m:Nat):Int)-1)=((y*12+m-1:Nat):Int):=by rw [wrap64 _ (by omega)]; omega
  have e4:IntKind.i64.wrap (((y*12+m-1:Nat):Int)+n)=(a:Int):=by rw [ha,wrap64 _ (by omega)]
  have q1:=Cj a 12
  have q2:=tK a 12
  simp at q1 q2
  have e5:IntKind.i64.wrap ((a:Int) / 12)=((a / 12:Nat):Int):=by rw [wrap64 _ (by omega)]; omega
  have e6:IntKind.i64.wrap ((a:Int) % 12+1)=((a % 12+1:Nat):Int):=by rw [wrap64 _ (by omega)]; omega
  have hA:Qd y m d n e=uf (a / 12) (a % 12+1) (if e=true∧d=bW y m then bW (a / 12) (a % 12+1) else min d (bW (a / 12) (a % 12+1))):=by
   unfold Qd
   rw [if_pos hn]
   simp only [ha]
   have : ((a:Int) / 12).toNat=a / 12:=by omega
   have : ((a:Int) % 12).toNat=a % 12:=by omega
   simp only [*]
  rw [hA]
  have hy':a / 12≤1000000:=by omega
  have hm':1≤a % 12+1∧a % 12+1≤12:=by omega
  have hEnd:=arJ hy' hm'.1 hm'.2
  have hLen:=sV hy' hm'.1 hm'.2
  have hp:=OI (y:=a / 12) hm'.1 hm'.2
  have hmk:=ak8 hy' hm'.1 hm'.2 (d:=min d (bW (a / 12) (a % 12+1))) (by omega) (by omega)
  unfold mJ at hmk
  have hmin:min (d:Int) (bW (a / 12) (a % 12+1))=((min d (bW (a / 12) (a % 12+1)):Nat):Int):=by omega
  have hg1:¬ n < -3600:=by omega
  have hg2:¬ 3600<n:=by omega
  generalize y*12+m-1=b1 at *
  generalize y*12+m=b2 at *
  generalize y*12=b3 at *
  generalize a % 12+1=m' at *
  generalize a / 12=y' at *
  generalize dayOf y m d=day at *
  generalize bW y m=lm at *
  generalize hl':bW y' m'=l' at *
  by_cases hE:e=true∧d=lm
  ·obtain ⟨rfl,hdl⟩:=hE
   rw [if_pos ⟨rfl,hdl⟩]
   rw [decide_eq_true hdl] at hla
   generalize uf y' m' l'=r at *
   cases r with
   | none =>
     simp [kW] at hEnd
     refine aj (GK ..) ?_
     simp (config:={maxSteps:=1000000}) [pO,hc,hg1,hg2,e1,e2,e3,e4,q1,q2,e5,e6,hla,hEnd,kW]
   | some r =>
     simp [kW] at hEnd
     refine aj (GK ..) ?_
     simp (config:={maxSteps:=1000000}) [pO,hc,hg1,hg2,e1,e2,e3,e4,q1,q2,e5,e6,hla,hEnd,kW]
  ·rw [if_neg hE]
   generalize min d l'=dm at *
   have hla':e=true→L.call Lc [.int .i64 day]=some (.bool false):=fun he=>by
    rw [hla,decide_eq_false (fun h=>hE ⟨he,h⟩)]
   generalize uf y' m' dm=r at *
   cases r with
   | none =>
     simp [kW] at hmk
     refine aj (GK ..) ?_
     cases e with
     | false=>simp (config:={maxSteps:=1000000}) [pO,hc,hg1,hg2,e1,e2,e3,e4,q1,q2,e5,e6,hLen,hmin,hmk,kW]
     | true=>simp (config:={maxSteps:=1000000}) [pO,hc,hg1,hg2,e1,e2,e3,e4,q1,q2,e5,e6,hla' rfl,hLen,hmin,hmk,kW]
   | some r =>
     simp [kW] at hmk
     refine aj (GK ..) ?_
     cases e with
     | false=>simp (config:={maxSteps:=1000000}) [pO,hc,hg1,hg2,e1,e2,e3,e4,q1,q2,e5,e6,hLen,hmin,hmk,kW]
     | true=>simp (config:={maxSteps:=1000000}) [pO,hc,hg1,hg2,e1,e2,e3,e4,q1,q2,e5,e6,hla' rfl,hLen,hmin,hmk,kW]
 ·have hA:Qd y m d n e=none:=by unfold Qd; rw [if_neg hn]
  rw [hA]
  generalize dayOf y m d=day at *
  refine aj (GK ..) ?_
  by_cases hg1:n < -3600
  ·simp (config:={maxSteps:=1000000}) [pO,hc,hg1,bM,kW]
  ·have hg2:3600<n:=by omega
   simp (config:={maxSteps:=1000000}) [pO,hc,hg1,hg2,bM,kW]
theorem apB {day:Int} (h:¬ (0≤day∧day≤109572)) (n:Int) (e:Bool):L.call Ad [.int .i64 day,.int .i64 n,.bool e]=some (.aG [.int .i64 0,BD 4]):=by
 have hc:=ac2 h
 unfold mJ at hc
 refine aj (GK ..) ?_
 simp at hc
 simp (config:={maxSteps:=1000000}) [pO,hc]
theorem ako {y m d y' m' d':Nat} (h:Dc y m d) (h':Dc y' m' d'):L.call qY [.int .i64 (dayOf y m d),.int .i64 (dayOf y' m' d')]=some (.int .i64 (((y'*12+m':Nat):Int)-((y*12+m:Nat):Int))):=by
 have hc:=vT h
 have hc':=vT h'
 unfold mJ at hc hc'
 have h1:=h.y1
 have h2:=h.y2
 have h3:=h.m2
 have h1':=h'.y1
 have h2':=h'.y2
 have h3':=h'.m2
 generalize dayOf y m d=day at *
 generalize dayOf y' m' d'=day' at *
 have hr:((y'*12+m':Nat):Int)-((y*12+m:Nat):Int)=((y':Int)-y)*12+m'-m:=by omega
 rw [hr]
 have e1:IntKind.i64.wrap ((y':Int)-y)=(y':Int)-y:=wrap64 _ (by omega)
 have e2:IntKind.i64.wrap (((y':Int)-y)*12)=((y':Int)-y)*12:=wrap64 _ (by omega)
 have e3:IntKind.i64.wrap (((y':Int)-y)*12+m')=((y':Int)-y)*12+m':=wrap64 _ (by omega)
 have e4:IntKind.i64.wrap (((y':Int)-y)*12+m'-m)=((y':Int)-y)*12+m'-m:=wrap64 _ (by omega)
 generalize hk4:((y':Int)-y)*12+m'-m=k4 at *
 rw [← hk4]
 refine aj (akL ..) ?_
 simp [abr,hc,hc',e1,e2,e3]
 rw [hk4]; exact e4
end Go.Ev.Code
end
section
namespace Go.Ev.Code
open Go Go.Ev
def aqG:Nat→Nat→Nat→Nat
 | 0,y,_=>y
 | f+1,y,day=>if dN (y+1)≤day then aqG f (y+1) day else y
def aqE:Nat→Nat→Nat→Nat→Nat×Nat
 | 0,_,m,r=>(m,r)
 | f+1,y,m,r=>if bW y m≤r then aqE f y (m+1) (r-bW y m) else (m,r)
def kQ (day:Nat):Nat×Nat×Nat :=
 let y:=aqG 300 (1900+day / 366) day
 let r:=aqE 12 y 1 (day-dN y)
 (y,r.1,r.2+1)
theorem aBK {day y:Nat} (h1:dN y≤day) (h2:day<dN (y+1)):∀ (f x:Nat),x≤y→y<x+f→1900≤x→aqG f x day=y:=by
 intro f
 induction f with
 | zero=>intro x hx hf; omega
 | succ f ih =>
   intro x hx hf h19
   simp only [aqG]
   rcases Nat.lt_or_ge x y with h | h
   ·have := Tc (x:=x+1) (y:=y) (by omega) h
    rw [if_pos (by omega)]
    exact ih (x+1) h (by omega) (by omega)
   ·have : x=y:=by omega
    subst this
    rw [if_neg (by omega)]
theorem aBJ {y m d:Nat} (hd:d<bW y m):∀ (f k:Nat),1≤k→k≤m→m<k+f→aqE f y k (dH y (m-1)+d-dH y (k-1))=(m,d):=by
 intro f
 induction f with
 | zero=>intro k h1 h2 h3; omega
 | succ f ih =>
   intro k h1 h2 h3
   simp only [aqE]
   rcases Nat.lt_or_ge k m with h | h
   ·have hc:dH y (k-1)+bW y k=dH y k:=by
     obtain ⟨q,rfl⟩:∃ q,k=q+1:=⟨k-1,by omega⟩
     simp only [dH,Nat.add_sub_cancel]
    have hm:=YN y (j:=k) (k:=m-1) (by omega)
    have := ih (k+1) (by omega) (by omega) (by omega)
    rw [Nat.add_sub_cancel,← hc,← Nat.sub_sub] at this
    rw [if_pos (by omega)]
    exact this
   ·have : k=m:=by omega
    subst this
    rw [show dH y (k-1)+d-dH y (k-1)=d by omega,if_neg (by omega)]
theorem aea {y m d:Nat} (h:Dc y m d):kQ (dayOf y m d)=(y,m,d):=by
 have h1:=h.y1
 have h2:=h.y2
 have hd1:=h.d1
 have hd2:=h.d2
 have hm1:=h.m1
 have hm2:=h.m2
 have h366:=auE (y:=y+1) (by omega)
 have hhi:=h.hi
 unfold kQ
 have hy:aqG 300 (1900+dayOf y m d / 366) (dayOf y m d)=y:=aBK h.lo h.hi 300 _ (by omega) (by omega) (by omega)
 rw [hy]
 have hr:dayOf y m d-dN y=dH y (m-1)+(d-1):=by unfold dayOf; omega
 have hm:aqE 12 y 1 (dayOf y m d-dN y)=(m,d-1):=by
  rw [hr]
  have := aBJ (y:=y) (m:=m) (d:=d-1) (by omega) 12 1 (by omega) hm1 (by omega)
  simpa [dH] using this
 simp only [hm]
 rw [show d-1+1=d by omega]
abbrev aU (n:Int):Prop:=0≤n∧n≤109572
theorem eu {n:Int} (h:aU n):∃ y m d,Dc y m d∧n=(dayOf y m d:Nat)∧kQ n.toNat=(y,m,d):=by
 obtain ⟨y,m,d,hc,hd⟩:=aDm (day:=n.toNat) (by omega)
 refine ⟨y,m,d,hc,by omega,?_⟩
 rw [← hd,aea hc]
def pF (day n:Int) (e:Bool):Option Nat:=if aU day then Qd (kQ day.toNat).1 (kQ day.toNat).2.1 (kQ day.toNat).2.2 n e else none
theorem ab7 (day n:Int) (e:Bool):L.call Ad [.int .i64 day,.int .i64 n,.bool e]=some (kW (pF day n e)):=by
 unfold pF
 by_cases h:aU day
 ·obtain ⟨y,m,d,hc,hd,ho⟩:=eu h
  rw [if_pos h,ho]
  rw [hd]
  exact arI hc n e
 ·rw [if_neg h]
  exact apB h n e
def sU (a b:Int):Int:=(((kQ b.toNat).1*12+(kQ b.toNat).2.1:Nat):Int)-(((kQ a.toNat).1*12+(kQ a.toNat).2.1:Nat):Int)
theorem aa3 {a b:Int} (ha:aU a) (hb:aU b):L.call qY [.int .i64 a,.int .i64 b]=some (.int .i64 (sU a b)):=by
 obtain ⟨y,m,d,hc,hd,ho⟩:=eu ha
 obtain ⟨y',m',d',hc',hd',ho'⟩:=eu hb
 unfold sU
 rw [ho,ho',hd,hd']
 exact ako hc hc'
theorem arH {y m d n:Nat} (h1:1≤m) (h2:m≤12) (hd:1≤d) (hd2:d≤bW y m) (h:uf y m d=some n):Dc y m d∧n=dayOf y m d:=by
 unfold uf at h
 split at h <;> simp at h
 rename_i hy
 exact ⟨⟨hy.1,hy.2,h1,h2,hd,hd2⟩,h.symm⟩
theorem S_ {day n:Int} {e:Bool} {r:Nat} (h:pF day n e=some r):aU r:=by
 unfold pF at h
 split at h <;> try (simp at h; done)
 rename_i hd
 obtain ⟨y,m,d,hc,hd,ho⟩:=eu hd
 rw [ho] at h
 unfold Qd at h
 split at h <;> try (simp at h; done)
 simp only at h
 have hm:=h
 have h12:1≤((((y*12+m-1:Nat):Int)+n) % 12).toNat+1∧((((y*12+m-1:Nat):Int)+n) % 12).toNat+1≤12:=by omega
 generalize ((((y*12+m-1:Nat):Int)+n) % 12).toNat+1=m' at *
 generalize ((((y*12+m-1:Nat):Int)+n) / 12).toNat=y' at *
 have hp:=OI (y:=y') h12.1 h12.2
 have hd1:=hc.d1
 obtain ⟨q1,q2⟩:=arH h12.1 h12.2 (by split <;> omega) (by split <;> omega) hm
 have := q1.le
 rw [← q2] at this
 constructor <;> omega
end Go.Ev.Code
end
section
namespace Go.Ev.Code
open Go Go.Ev
def eY (c:Int) (s:List UInt8):D := .iface kN (.ref [.int .i64 c,.str s,.bQ] 0)
theorem DC {c:Int} (h:c≠0) (s:List UInt8):L.call Js [.int .i64 c,.str s]=some (eY c s):=by
 refine aj (ate ..) ?_
 unfold eY
 simp [ajn,h]
def amd:List UInt8:=[105,115,115,117,101]
def vN:List UInt8:=[109,97,116,117,114,101]
def Ho:List UInt8:=[99,111,117,112,111,110]
def Hq:List UInt8:=[114,101,100,101,101,109]
def abw:List UInt8:=[102,114,101,113]
def ZQ:List UInt8:=[99,111,117,110,116]
def IL:List UInt8:=[115,116,117,98]
def tEx:List UInt8:=[101,120]
def ahS:List UInt8:=[102,108,111,119,115]
structure aA where
 issue:Int
 bU:Int
 bG:Int
 aY:List UInt8
 bJ:List UInt8
 count:Int
 stub:Int
 ends:Bool
 ex:Int
def ay (b:aA):List D:=[.int .i64 b.issue,.int .i64 b.bU,.int .i64 b.bG,.str b.aY,.str b.bJ,.int .i64 b.count,.int .i64 b.stub,.bool b.ends,.int .i64 b.ex]
abbrev aC (b:aA):D := .agg (ay b)
def months (b:aA):Int:=if b.bG=1 then 12 else if b.bG=2 then 6 else if b.bG=4 then 3 else if b.bG=12 then 1 else 0
theorem Tf (b:aA):L.call Bv [aC b]=some (.int .i64 (months b)):=by
 obtain ⟨i,m,f,c,r,n,s,e,x⟩:=b
 unfold months aC ay
 refine aj (aoW ..) ?_
 simp only
 by_cases h1:f=1
 ·subst h1; simp [zU,wrap64]
 by_cases h2:f=2
 ·subst h2; simp [zU,wrap64]
 by_cases h4:f=4
 ·subst h4; simp [zU,wrap64]
 by_cases h12:f=12
 ·subst h12; simp [zU,wrap64]
 ·simp [zU,h1,h2,h4,h12]
abbrev Err:=Option (Int×List UInt8)
def fC:Err→D
 | none => .bQ
 | some (c,s)=>eY c s
def Em (b:aA):Err :=
 if ¬ aU b.issue then some (4,amd) else if ¬ aU b.bU then some (4,vN) else if b.bU≤b.issue then some (5,vN) else
  match pF b.issue 360 false with
  | some e=>if (e:Int)<b.bU then some (5,vN) else none
  | none=>none
theorem akF {n:Int}:ah3 n<0↔¬ aU n:=by
 unfold ah3
 split
 ·rename_i h; constructor
  ·intro h1; omega
  ·intro h1; exact absurd h h1
 ·rename_i h; simp [h]
theorem aqw (b:aA):L.call aaD [aC b]=some (fC (Em b)):=by
 obtain ⟨i,m,f,c,r,n,s,e,x⟩:=b
 have w1:=IC i
 have w2:=IC m
 have n1 := @akF i
 have n2 := @akF m
 have ha:=ab7 i 360 false
 have f1:=fun s=>DC (c:=4) (by decide) s
 have f2:=fun s=>DC (c:=5) (by decide) s
 unfold Em aC ay
 simp only
 generalize ah3 i=wi at *
 generalize ah3 m=wm at *
 refine aj (as8 ..) ?_
 by_cases h1:aU i
 ·have g1:¬ wi<0:=fun h=>(n1.1 h) h1
  by_cases h2:aU m
  ·have g2:¬ wm<0:=fun h=>(n2.1 h) h2
   by_cases h3:m≤i
   ·rw [if_neg (fun h=>h h1),if_neg (fun h=>h h2),if_pos h3]
    simp [B_,w1,w2,g1,g2,h3,f2,fC,vN,eY]
   ·rw [if_neg (fun h=>h h1),if_neg (fun h=>h h2),if_neg h3]
    generalize pF i 360 false=r at *
    cases r with
    | none=>simp [kW] at ha; simp [B_,w1,w2,g1,g2,h3,ha,fC]
    | some e =>
      simp [kW] at ha
      by_cases h4:(e:Int)<m
      ·simp [B_,w1,w2,g1,g2,h3,ha,h4,f2,fC,vN,eY]
      ·simp [B_,w1,w2,g1,g2,h3,ha,h4,fC]
  ·have g2:wm<0:=n2.2 h2
   rw [if_neg (fun h=>h h1),if_pos h2]
   simp [B_,w1,w2,g1,g2,f1,fC,vN,eY]
 ·have g1:wi<0:=n1.2 h1
  rw [if_pos h1]
  simp [B_,w1,g1,f1,fC,amd,eY]
end Go.Ev.Code
end
section
namespace Go.Ev.Code
open Go Go.Ev
theorem XK {n:Int} (h : -9223372036854775808≤n∧n≤9223372036854775807):L.call J7 [.int .i64 n]=some (cZ (Rat.divInt n 1)):=by
 have := Aq h (d:=1) (by omega) (by omega)
 refine aj (aw0 ..) ?_
 simp [aoA,this]
def ae':Option (Rat×Nat)→D
 | some (q,n) => .aG [cZ q,.bool (decide (n≤6)),.bQ]
 | none => .aG [.iy,.bool true,BD 1]
theorem Oa {s:List UInt8} (h:s.length≤1000000):L.call Qh [.str s]=some (ae' (oZ s)):=by
 have hg:=Qq h
 generalize oZ s=r at *
 refine aj (aqd ..) ?_
 cases r with
 | none=>simp [Hy] at hg; simp [ZG,hg,ae']
 | some qn =>
   obtain ⟨q,n⟩:=qn
   simp [Hy] at hg
   have : ((n:Int)≤6)↔n≤6:=by omega
   simp [ZG,hg,ae',this]
theorem YQ {s:List UInt8} {q:Rat} {n:Nat} (h:oZ s=some (q,n)):RB 400 q∧n≤20:=by
 unfold oZ at h
 split at h <;> try (simp at h; done)
 rename_i hs
 unfold En at h
 split at h <;> try (simp at h; done)
 rename_i hc
 simp at h
 obtain ⟨rfl,rfl⟩:=h
 obtain ⟨h1,h2,h3⟩:=hc
 have hl:=abv s
 have hb:=aeb 46 (iF s).2
 have hf := @Ej 46 (iF s).2
 generalize (iG 46 (iF s).2).1=w at *
 generalize (iG 46 (iF s).2).2.1=r at *
 generalize (iG 46 (iF s).2).2.2=p at *
 have hr:r.length≤20∧r.all iW=true:=by
  cases p with
  | true=>exact (h2 rfl).2
  | false=>rw [(hf rfl).2]; simp
 have had:(w++r).all iW=true:=by rw [List.all_append,h1.2.2.2,hr.2]; rfl
 have hv:NB 400 (bZ 0 (w++r)):=au4 had (by simp; omega)
 refine ⟨oH ?_ ((ahV r.length).mono (by omega)) (avk _),hr.1⟩
 split
 ·exact (IB.ofNat hv).neg
 ·exact IB.ofNat hv
theorem aqH {a b:Rat}:0<zo a b↔b<a:=by
 unfold zo
 split
 ·rename_i h
  constructor
  ·intro h1; omega
  ·intro h1; exact absurd h1 (Rat.not_lt.2 (Rat.le_of_lt h))
 ·split
  ·rename_i h1 h2
   subst h2
   constructor
   ·intro h; omega
   ·intro h; exact absurd h h1
  ·rename_i h1 h2
   refine ⟨fun _=>?_,fun _=>by omega⟩
   exact Rat.lt_of_le_of_ne (Rat.not_lt.1 h1) (Ne.symm h2)
def q30:Rat:=Rat.divInt 30 1
def ach:Rat:=Rat.divInt 200 1
theorem awZ {n:Int} {k:Nat} (h:IB k n) (hk:1≤k):RB k (Rat.divInt n 1):=oH h ((show IB 1 1 by unfold IB NB; decide).mono hk) (by decide)
def Bf (b:aA):Err:=match oZ b.aY with
 | none=>some (1,Ho)
 | some (q,n)=>if ¬ n≤6∨q.num<0∨q30<q then some (5,Ho) else match oZ b.bJ with
   | none=>some (1,Hq)
   | some (r,k)=>if ¬ k≤6∨r.num≤0∨ach<r then some (5,Hq) else none
theorem aCp {z:Int}:z.sign≤0↔z≤0:=by
 rcases Int.lt_trichotomy z 0 with h | h | h
 ·rw [Int.sign_eq_neg_one_of_neg h]; omega
 ·subst h; simp
 ·rw [Int.sign_eq_one_of_pos h]; omega
theorem aqx {b:aA} (hc:b.aY.length≤1000000) (hr:b.bJ.length≤1000000):L.call aaE [aC b]=some (fC (Bf b)):=by
 obtain ⟨i,m,f,c,r,n,s,e,x⟩:=b
 simp only at hc hr
 have v1:=Oa hc
 have v2:=Oa hr
 have f1:=fun s=>DC (c:=1) (by decide) s
 have f2:=fun s=>DC (c:=5) (by decide) s
 have o1:=XK (n:=30) (by omega)
 have o2:=XK (n:=200) (by omega)
 have b1:RB 400 q30:=(awZ (k:=10) (by unfold IB NB; decide) (by decide)).mono (by decide)
 have b2:RB 400 ach:=(awZ (k:=10) (by unfold IB NB; decide) (by decide)).mono (by decide)
 change L.call J7 [.int .i64 30]=some (cZ q30) at o1
 change L.call J7 [.int .i64 200]=some (cZ ach) at o2
 have d1 := @YQ c
 have d2 := @YQ r
 unfold Bf aC ay
 simp only
 generalize oZ c=dc at *
 generalize oZ r=dr at *
 refine aj (as9 ..) ?_
 cases dc with
 | none=>simp [ae'] at v1; simp [pJ,v1,f1,fC,eY,Ho]
 | some qn =>
   obtain ⟨q,k⟩:=qn
   simp [ae'] at v1
   have cq:=Fj (d1 rfl).1 b1 (by omega)
   have sq:=acn q
   have pq := @aqH q q30
   have nq := @sign_neg q.num
   simp only
   generalize zo q q30=cm at *
   generalize q.num.sign=sg at *
   by_cases h1:k≤6
   ·by_cases h2:q.num<0
    ·rw [if_pos (.inr (.inl h2))]
     have g2:=nq.2 h2
     simp [pJ,v1,f2,h1,sq,g2,fC,eY,Ho]
    ·have g2:¬ sg<0:=fun h=>h2 (nq.1 h)
     by_cases h3:q30<q
     ·rw [if_pos (.inr (.inr h3))]
      have g3:=pq.2 h3
      simp [pJ,v1,f2,h1,sq,g2,o1,cq,g3,fC,eY,Ho]
     ·have g3:¬ 0<cm:=fun h=>h3 (pq.1 h)
      rw [if_neg (fun h=>by rcases h with h | h | h <;> contradiction)]
      cases dr with
      | none =>
        simp [ae'] at v2
        simp [pJ,v1,v2,f1,h1,sq,g2,o1,cq,g3,fC,eY,Hq]
      | some rn =>
        obtain ⟨r',k'⟩:=rn
        simp [ae'] at v2
        have cr:=Fj (d2 rfl).1 b2 (by omega)
        have sr:=acn r'
        have pr := @aqH r' ach
        have nr := @aCp r'.num
        simp only
        generalize zo r' ach=cm' at *
        generalize r'.num.sign=sg' at *
        by_cases h4:k'≤6
        ·by_cases h5:r'.num≤0
         ·rw [if_pos (.inr (.inl h5))]
          have g5:=nr.2 h5
          simp [pJ,v1,v2,f2,h1,sq,g2,o1,cq,g3,h4,sr,g5,fC,eY,Hq]
         ·have g5:¬ sg'≤0:=fun h=>h5 (nr.1 h)
          by_cases h6:ach<r'
          ·rw [if_pos (.inr (.inr h6))]
           have g6:=pr.2 h6
           simp [pJ,v1,v2,f2,h1,sq,g2,o1,cq,g3,h4,sr,g5,o2,cr,g6,fC,eY,Hq]
          ·have g6:¬ 0<cm':=fun h=>h6 (pr.1 h)
           rw [if_neg (fun h=>by rcases h with h | h | h <;> contradiction)]
           simp [pJ,v1,v2,f2,h1,sq,g2,o1,cq,g3,h4,sr,g5,o2,cr,g6,fC]
        ·rw [if_pos (.inl h4)]
         simp [pJ,v1,v2,f2,h1,sq,g2,o1,cq,g3,h4,fC,eY,Hq]
   ·rw [if_pos (.inl h1)]
    simp [pJ,v1,f2,h1,fC,eY,Ho]
end Go.Ev.Code
end
section
namespace Go.Ev.Code
open Go Go.Ev
theorem YL (n:Int):L.call Ve [.int .i64 n]=some (.bool (decide (1≤n∧n≤4))):=by
 refine aj (ata ..) ?_
 by_cases h:1≤n
 ·by_cases h':n≤4 <;> simp [acz,h,h']
 ·simp [acz,h]
def aeL (b:aA):Int:=(sU b.issue b.bU).tdiv (months b)+2
def chk (b:aA):Err:=match Em b with
 | some e=>some e
 | none=>if months b=0 then some (5,abw) else match Bf b with
   | some e=>some e
   | none=>if ¬ (1≤b.count∧b.count≤4) then some (5,ZQ) else if b.stub<0∨2<b.stub then some (5,IL) else if b.ex<0∨30<b.ex then some (5,tEx)
     else if 200<aeL b then some (5,ahS) else none
theorem Kq {b:aA} (h:Em b=none):aU b.issue∧aU b.bU∧b.issue<b.bU:=by
 unfold Em at h
 split at h <;> try (simp at h; done)
 split at h <;> try (simp at h; done)
 split at h <;> try (simp at h; done)
 exact ⟨by rename_i a _ _; exact Classical.not_not.1 a,by rename_i _ a _; exact Classical.not_not.1 a,by omega⟩
theorem aqF {n:Int} (h:aU n):1900≤(kQ n.toNat).1∧(kQ n.toNat).1≤2199∧1≤(kQ n.toNat).2.1∧(kQ n.toNat).2.1≤12:=by
 obtain ⟨y,m,d,hc,hd,ho⟩:=eu h
 rw [ho]
 exact ⟨hc.y1,hc.y2,hc.m1,hc.m2⟩
theorem auF {a b:Int} (ha:aU a) (hb:aU b) : -4000≤sU a b∧sU a b≤4000:=by
 have h1:=aqF ha
 have h2:=aqF hb
 unfold sU
 omega
theorem pX (b:aA):months b=0∨months b=1∨months b=3∨months b=6∨months b=12:=by
 unfold months
 split
 ·omega
 ·split
  ·omega
  ·split
   ·omega
   ·split <;> omega
theorem avj {a m:Int} (ha : -4000≤a∧a≤4000) (hm:m=1∨m=3∨m=6∨m=12) : -4000≤a.tdiv m∧a.tdiv m≤4000:=by
 rcases Int.le_total 0 a with h | h
 ·rw [Int.tdiv_eq_ediv_of_nonneg h]
  rcases hm with rfl | rfl | rfl | rfl <;> omega
 ·obtain ⟨k,rfl⟩:∃ k:Int,a = -k:=⟨-a,by omega⟩
  rw [Int.neg_tdiv,Int.tdiv_eq_ediv_of_nonneg (by omega)]
  rcases hm with rfl | rfl | rfl | rfl <;> omega
theorem Gt {b:aA} (hc:b.aY.length≤1000000) (hr:b.bJ.length≤1000000):L.call Ei [aC b]=some (fC (chk b)):=by
 have c1:=aqw b
 have c2:=Tf b
 have c3:=aqx hc hr
 have c4:=YL b.count
 have c5:aU b.issue→aU b.bU→L.call qY [.int .i64 b.issue,.int .i64 b.bU]=some (.int .i64 (sU b.issue b.bU)):=aa3
 have n1 := @Kq b
 have f2:=fun s=>DC (c:=5) (by decide) s
 have hmc:=pX b
 have hbb := @auF b.issue b.bU
 unfold chk aeL
 generalize Em b=de at *
 generalize Bf b=se at *
 generalize months b=mo at *
 obtain ⟨i,m,f,c,r,n,s,e,x⟩:=b
 unfold aC ay at *
 simp only at *
 refine aj (aqc ..) ?_
 cases de with
 | some er=>obtain ⟨ec,es⟩:=er; simp [fC,eY] at c1; simp [lg,c1,fC,eY]
 | none =>
   obtain ⟨d1,d2,d3⟩:=n1 rfl
   have c5:=c5 d1 d2
   have hbb:=hbb d1 d2
   simp [fC] at c1
   by_cases h0:mo=0
   ·simp [lg,c1,c2,h0,f2,fC,eY,abw]
   ·have hq:=avj hbb (show mo=1∨mo=3∨mo=6∨mo=12 by omega)
    simp only [if_neg h0]
    cases se with
    | some er=>obtain ⟨ec,es⟩:=er; simp [fC,eY] at c3; simp [lg,c1,c2,h0,c3,fC,eY]
    | none =>
      simp [fC] at c3
      simp only
      by_cases h1:1≤n∧n≤4
      ·rw [if_neg (fun h=>h h1)]
       rw [decide_eq_true h1] at c4
       by_cases h2:s<0
       ·rw [if_pos (.inl h2)]
        simp [lg,c1,c2,h0,c3,c4,h2,f2,fC,eY,IL]
       by_cases h2':2<s
       ·rw [if_pos (.inr h2')]
        simp [lg,c1,c2,h0,c3,c4,h2,h2',f2,fC,eY,IL]
       rw [if_neg (fun h=>by rcases h with h | h <;> contradiction)]
       by_cases h3:x<0
       ·rw [if_pos (.inl h3)]
        simp [lg,c1,c2,h0,c3,c4,h2,h2',h3,f2,fC,eY,tEx]
       by_cases h3':30<x
       ·rw [if_pos (.inr h3')]
        simp [lg,c1,c2,h0,c3,c4,h2,h2',h3,h3',f2,fC,eY,tEx]
       rw [if_neg (fun h=>by rcases h with h | h <;> contradiction)]
       have e1:IntKind.i64.wrap ((sU i m).tdiv mo)=(sU i m).tdiv mo:=wrap64 _ (by omega)
       have e2:IntKind.i64.wrap ((sU i m).tdiv mo+2)=(sU i m).tdiv mo+2:=wrap64 _ (by omega)
       obtain ⟨t,ht⟩:∃ t,(sU i m).tdiv mo=t:=⟨_,rfl⟩
       rw [ht] at e1 e2 hq ⊢
       obtain ⟨pp,hpp⟩:∃ pp,t+2=pp:=⟨_,rfl⟩
       have e2:IntKind.i64.wrap (t+2)=pp:=by rw [e2,hpp]
       rw [hpp]
       by_cases h4:200<pp
       ·simp [lg,c1,c2,h0,c3,c4,h2,h2',h3,h3',c5,ht,e1,e2,h4,f2,fC,eY,ahS]
       ·simp [lg,c1,c2,h0,c3,c4,h2,h2',h3,h3',c5,ht,e1,e2,h4,fC]
      ·rw [if_pos h1]
       rw [decide_eq_false h1] at c4
       simp [lg,c1,c2,h0,c3,c4,f2,fC,eY,ZQ]
def q0:Rat:=Rat.divInt 0 1
def pV (b:aA):Rat:=match chk b with
 | some _=>q0
 | none=>match oZ b.aY with | some (q,_)=>q | none=>q0
def fJ (b:aA):Rat:=match chk b with
 | some _=>q0
 | none=>match oZ b.bJ with | some (q,_)=>q | none=>q0
theorem bV {b:aA} (h:chk b=none):Em b=none∧months b≠0∧Bf b=none:=by
 unfold chk at h
 split at h <;> try (simp at h; done)
 rename_i hd
 split at h <;> try (simp at h; done)
 rename_i hm
 split at h <;> try (simp at h; done)
 rename_i hs
 exact ⟨hd,hm,hs⟩
theorem Ya {b:aA} (h:Bf b=none):∃ q n r k,oZ b.aY=some (q,n)∧oZ b.bJ=some (r,k)∧n≤6∧0≤q.num∧¬ q30<q∧k≤6∧0<r.num∧¬ ach<r:=by
 unfold Bf at h
 split at h <;> try (simp at h; done)
 rename_i q n hq
 split at h <;> try (simp at h; done)
 rename_i h1
 split at h <;> try (simp at h; done)
 rename_i r k hr
 split at h <;> try (simp at h; done)
 rename_i h2
 refine ⟨q,n,r,k,hq,hr,?_,?_,?_,?_,?_,?_⟩
 ·exact Classical.not_not.1 fun h=>h1 (.inl h)
 ·exact Int.not_lt.1 fun h=>h1 (.inr (.inl h))
 ·exact fun h=>h1 (.inr (.inr h))
 ·exact Classical.not_not.1 fun h=>h2 (.inl h)
 ·exact Int.not_le.1 fun h=>h2 (.inr (.inl h))
 ·exact fun h=>h2 (.inr (.inr h))
theorem J5 {b:aA} (hc:b.aY.length≤1000000) (hr:b.bJ.length≤1000000):L.call Bq [aC b]=some (cZ (pV b)):=by
 have c1:=Gt hc hr
 have v1:=Oa hc
 have o1:=XK (n:=0) (by omega)
 change L.call J7 [.int .i64 0]=some (cZ q0) at o1
 have hs := @bV b
 have hss := @Ya b
 unfold pV
 generalize chk b=ck at *
 obtain ⟨i,m,f,c,r,n,s,e,x⟩:=b
 unfold aC ay at *
 simp only at *
 refine aj (aoV ..) ?_
 cases ck with
 | some er=>obtain ⟨ec,es⟩:=er; simp [fC,eY] at c1; simp [Xl,c1,o1]
 | none =>
   obtain ⟨q,n,r,k,h1,_⟩:=hss (hs rfl).2.2
   rw [h1] at v1
   simp [ae'] at v1
   simp [fC] at c1
   rw [h1]
   simp [Xl,c1,v1]
theorem J6 {b:aA} (hc:b.aY.length≤1000000) (hr:b.bJ.length≤1000000):L.call Bz [aC b]=some (cZ (fJ b)):=by
 have c1:=Gt hc hr
 have v1:=Oa hr
 have o1:=XK (n:=0) (by omega)
 change L.call J7 [.int .i64 0]=some (cZ q0) at o1
 have hs := @bV b
 have hss := @Ya b
 unfold fJ
 generalize chk b=ck at *
 obtain ⟨i,m,f,c,r,n,s,e,x⟩:=b
 unfold aC ay at *
 simp only at *
 refine aj (aoX ..) ?_
 cases ck with
 | some er=>obtain ⟨ec,es⟩:=er; simp [fC,eY] at c1; simp [Xm,c1,o1]
 | none =>
   obtain ⟨q,n,r,k,_,h1,_⟩:=hss (hs rfl).2.2
   rw [h1] at v1
   simp [ae'] at v1
   simp [fC] at c1
   rw [h1]
   simp [Xm,c1,v1]
end Go.Ev.Code
end
section
namespace Go.Ev.Code
open Go Go.Ev
def anch (b:aA) (k:Nat):Option Nat:=pF b.bU (-(k:Int)*months b) b.ends
def Dn:Option Nat→D
 | some d => .int .i64 d
 | none => .int .i64 0
theorem DW (b:aA) {k:Nat} (hk:k≤100000):L.call NQ [aC b,.int .i64 k]=some (.aG [Dn (anch b k),.bool (anch b k).isSome]):=by
 have hm:=Tf b
 have ha:=ab7 b.bU (-(k:Int)*months b) b.ends
 have hmc:=pX b
 have e1:IntKind.i64.wrap (0-(k:Int)) = -(k:Int):=by rw [wrap64 _ (by omega)]; omega
 have e2:IntKind.i64.wrap (-(k:Int)*months b) = -(k:Int)*months b:=by
  refine wrap64 _ ?_
  rcases hmc with h | h | h | h | h <;> rw [h] <;> omega
 unfold anch
 generalize hx : -(k:Int)*months b=x at *
 generalize hr:pF b.bU x b.ends=r at *
 generalize months b=mo at *
 obtain ⟨i,m,f,c,rd,n,s,e,ex⟩:=b
 unfold aC ay at *
 simp only at *
 refine aj (apf ..) ?_
 have e1':IntKind.i64.wrap (-(k:Int)) = -(k:Int):=by rw [wrap64 _ (by omega)]
 have e2':IntKind.i64.wrap (-((k:Int)*mo))=x:=by rw [← e2,← hx,Int.neg_mul]
 have hx' : -((k:Int)*mo)=x:=by rw [← hx,Int.neg_mul]
 cases r with
 | none=>simp [kW] at ha; simp [Xw,hm,e1,e1',e2,e2',hx,hx',ha,Dn]
 | some d=>simp [kW] at ha; simp [Xw,hm,e1,e1',e2,e2',hx,hx',ha,Dn]
def ints (l:List Nat):List D:=l.map fun (n:Nat)=>D.int .i64 n
theorem yE (l:List Nat):(ints l).length=l.length:=by simp [ints]
theorem ake (l:List Nat) (d:Nat):ints (l++[d])=ints l++[.int .i64 d]:=by simp [ints]
theorem BJ (l:List Nat) (b n:Nat):(ints l).all (D.clo b (n+1))=true:=by
 rw [List.all_eq_true]
 intro d hd
 simp only [ints,List.mem_map] at hd
 obtain ⟨x,_,rfl⟩:=hd
 rfl
def dW (b:aA) (k:Nat):List Nat:=(List.range k).map fun i=>(anch b i).getD 0
theorem pR (b:aA) (k:Nat):(dW b k).length=k:=by simp [dW]
theorem aaB (b:aA) (k:Nat):dW b (k+1)=dW b k++[(anch b k).getD 0]:=by simp [dW,List.range_succ]
def Goes (b:aA) (k:Nat):Prop:=∃ d,anch b k=some d∧b.issue<(d:Int)
theorem aqt {b:aA} {K:Nat} (hK:K≤90000) (hgo:∀ i,i<K→Goes b i) (hst:¬ Goes b K):∀ (j k:Nat),k+j=K→1≤k →
  L.loop [1,5,6] [2,3,4] vg 2 [.loc 1 0,.aO 2 0 k 1,.int .i64 k] [.live (ay b),.live (ay b),.live (ints (dW b k))] =
    some (.ret,[.aO 2 0 K 1,Dn (anch b K),.bool (anch b K).isSome],[.live (ay b),.live (ay b),.live (ints (dW b K))]):=by
 intro j
 induction j with
 | zero =>
   intro k hk h1
   have hkK:k=K:=by omega
   subst hkK
   have ha:=DW b (k:=k) (by omega)
   have hcl:=BJ (dW b k) 2 11
   have hl:(ints (dW b k)).length=k:=by rw [yE,pR]
   unfold Goes at hst
   generalize ints (dW b k)=l at *
   generalize hr:anch b k=r at *
   obtain ⟨i,m,f,c,rd,n,s,e,ex⟩:=b
   unfold aC ay at *
   simp only at *
   refine au (L9 ..) ?_
   cases r with
   | none=>simp [Dn] at ha; simp [wL,ha,Dn,hcl]
   | some d =>
     have g:(d:Int)≤i:=by
      by_cases h:i<(d:Int)
      ·exact absurd ⟨d,rfl,h⟩ hst
      ·omega
     simp [Dn] at ha; simp [wL,ha,Dn,g,hcl]
 | succ j ih =>
   intro k hk h1
   have hn:=ih (k+1) (by omega) (by omega)
   have ha:=DW b (k:=k) (by omega)
   obtain ⟨d,hd,hdi⟩:=hgo k (by omega)
   rw [aaB,hd,Option.getD_some,ake] at hn
   rw [hd] at ha
   have hcl:=BJ (dW b k) 2 11
   have hl:(ints (dW b k)).length=k:=by rw [yE,pR]
   generalize ints (dW b k)=l at *
   generalize (anch b K).isSome=zb at *
   generalize Dn (anch b K)=zd at *
   generalize ints (dW b K)=lK at *
   have htk:l.take k=l:=List.take_of_length_le (by omega)
   have hlen:k+1≤4294967296:=by omega
   have e1:IntKind.i64.wrap ((k:Int)+1)=((k+1:Nat):Int):=by rw [wrap64 _ (by omega)]; omega
   obtain ⟨i,m,f,c,rd,n,s,e,ex⟩:=b
   unfold aC ay at *
   simp only at *
   simp [Dn] at ha hn
   have g:¬ (d:Int)≤i:=by omega
   refine au (L9 ..) ?_
   simp [wL,ha,g,hcl,htk,hl,hlen,e1,f_,hn]
theorem avF {b:aA} {K:Nat} (hK:K≤90000) (h1:1≤K) (hgo:∀ i,i<K→Goes b i) (hst:¬ Goes b K) :
  L.bf JD [aC b] [.live (ay b)]=some (.aG [.aO 1 0 K 1,Dn (anch b K),.bool (anch b K).isSome],[.live (ay b),.live (ints (dW b K))]):=by
 have hl:L.loop [1,5,6] [2,3,4] vg 2 [.loc 1 0,.dh,.int .i64 0] [.live (ay b),.live (ay b)] =
   some (.ret,[.aO 2 0 K 1,Dn (anch b K),.bool (anch b K).isSome],[.live (ay b),.live (ay b),.live (ints (dW b K))]):=by
  have hn:=aqt hK hgo hst (K-1) 1 (by omega) (by omega)
  have ha:=DW b (k:=0) (by omega)
  obtain ⟨d,hd,hdi⟩:=hgo 0 (by omega)
  rw [show dW b 1=[(anch b 0).getD 0] by simp [dW],hd,Option.getD_some,show ((1:Nat):Int)=1 from rfl] at hn
  rw [hd] at ha
  generalize (anch b K).isSome=zb at *
  generalize Dn (anch b K)=zd at *
  generalize ints (dW b K)=lK at *
  obtain ⟨i,m,f,c,rd,n,s,e,ex⟩:=b
  unfold aC ay at *
  simp only at *
  simp [Dn,ints] at ha hn
  have g:¬ (d:Int)≤i:=by omega
  refine au (L9 ..) ?_
  simp [wL,ha,g,f_,wrap64,hn]
 have hcl:=BJ (dW b K) 1 11
 have hz:Dn (anch b K) = .int .i64 ((anch b K).getD 0:Nat):=by cases anch b K <;> rfl
 rw [hz] at hl ⊢
 generalize (anch b K).isSome=zb at *
 generalize (anch b K).getD 0=zd at *
 have hlen:(ints (dW b K)).length=K:=by rw [yE,pR]
 generalize ints (dW b K)=lK at *
 obtain ⟨i,m,f,c,rd,n,s,e,ex⟩:=b
 unfold aC ay at *
 simp only at *
 refine oC (amv ..) ?_
 simp [adI,hl,hcl]
end Go.Ev.Code
end
section
namespace Go.Ev.Code
open Go Go.Ev
def ali (b:aA) (k:Nat):Bool:=match anch b k with
 | some d=>decide (b.issue<(d:Int))
 | none=>false
theorem an_ (b:aA) (k:Nat):ali b k=true↔Goes b k:=by
 unfold ali Goes
 cases anch b k with
 | none=>simp
 | some d=>simp
def XP (b:aA):Nat→Nat→Nat
 | 0,k=>k
 | f+1,k=>if ali b k=true then XP b f (k+1) else k
def bI (b:aA):Nat:=XP b 3601 0
theorem aq4 (b:aA):∀ (f k:Nat),(∀ i,i<k→Goes b i)→¬ Goes b (k+f)→(∀ i,i<XP b f k→Goes b i)∧¬ Goes b (XP b f k)∧XP b f k≤k+f
 | 0,k,h1,h2=>⟨h1,h2,Nat.le_refl _⟩
 | f+1,k,h1,h2=>by
   simp only [XP]
   split
   ·rename_i hg
    have hg:=(an_ b k).1 hg
    have := aq4 b f (k+1) (fun i hi=>by
     rcases Nat.lt_or_ge i k with h | h
     ·exact h1 i h
     ·have : i=k:=by omega
      rw [this]; exact hg) (by rw [show k+1+f=k+(f+1) by omega]; exact h2)
    exact ⟨this.1,this.2.1,by omega⟩
   ·rename_i hg
    exact ⟨h1,fun h=>hg ((an_ b k).2 h),by omega⟩
theorem aqo {y m d:Nat} {n:Int} {e:Bool} (h:¬ (-3600≤n∧n≤3600)):Qd y m d n e=none:=by unfold Qd; rw [if_neg h]
theorem ay7 (b:aA) (hm:months b≠0):¬ Goes b 3601:=by
 rintro ⟨d,hd,_⟩
 have hc:=pX b
 unfold anch pF at hd
 split at hd
 ·rw [aqo (by rcases hc with h | h | h | h | h <;> rw [h] <;> omega)] at hd
  simp at hd
 ·simp at hd
theorem QF {b:aA} (hm:months b≠0):(∀ i,i<bI b→Goes b i)∧¬ Goes b (bI b)∧bI b≤3601:=by
 have := aq4 b 3601 0 (fun i hi=>absurd hi (by omega)) (by rw [Nat.zero_add]; exact ay7 b hm)
 exact ⟨this.1,this.2.1,Nat.le_trans this.2.2 (by decide)⟩
theorem axb {day:Int} (h:aU day) (e:Bool):pF day 0 e=some day.toNat:=by
 obtain ⟨y,m,d,hc,hd,ho⟩:=eu h
 unfold pF
 rw [if_pos h,ho]
 have h1:=hc.y1
 have h2:=hc.y2
 have h3:=hc.m1
 have h4:=hc.m2
 have h5:=hc.d2
 unfold Qd
 rw [if_pos (by omega)]
 have e1:((((y*12+m-1:Nat):Int)+0) / 12).toNat=y:=by omega
 have e2:((((y*12+m-1:Nat):Int)+0) % 12).toNat+1=m:=by omega
 simp only [e1,e2]
 unfold uf
 rw [if_pos ⟨h1,h2⟩]
 congr 1
 have : (if e=true∧d=bW y m then bW y m else min d (bW y m))=d:=by split <;> omega
 rw [this,hd]; omega
theorem anM {b:aA} (h:aU b.bU):anch b 0=some b.bU.toNat:=by
 unfold anch
 rw [show (-((0:Nat):Int)*months b)=0 by simp]
 exact axb h _
theorem O9 {b:aA} (h:chk b=none):1≤bI b:=by
 obtain ⟨h1,h2,h3⟩:=bV h
 obtain ⟨d1,d2,d3⟩:=Kq h1
 obtain ⟨k1,k2,k3⟩:=QF h2
 rcases Nat.eq_zero_or_pos (bI b) with h0 | h0
 ·rw [h0] at k2
  exact absurd ⟨_,anM d2,by omega⟩ k2
 ·exact h0
def dY:Int→List Nat→List (Int×Int)
 | _,[]=>[]
 | f,d::ds=>(f,(d:Int))::dY d ds
def aX:List (Int×Int)→List D
 | []=>[]
 | (a,b)::ps => .int .i64 a :: .int .i64 b::aX ps
theorem akt (l r:List (Int×Int)):aX (l++r)=aX l++aX r:=by
 induction l with
 | nil=>rfl
 | cons x xs ih=>obtain ⟨a,b⟩:=x; simp [aX,ih]
theorem Fg (l:List (Int×Int)):(aX l).length=l.length*2:=by
 induction l with
 | nil=>rfl
 | cons x xs ih=>obtain ⟨a,b⟩:=x; simp [aX,ih]; omega
theorem gZ (l:List (Int×Int)) (b n:Nat):(aX l).all (D.clo b (n+1))=true:=by
 induction l with
 | nil=>rfl
 | cons x xs ih=>obtain ⟨p,q⟩:=x; simp [aX]; simpa using ih
theorem aeC (f:Int) (l:List Nat):(dY f l).length=l.length:=by
 induction l generalizing f with
 | nil=>rfl
 | cons x xs ih=>simp [dY,ih]
theorem oW (a b:D):zeros 1 [a,b]=[a,b]:=by rfl
theorem arX {b:aA} {days:List Nat} {nx:Int} {is:Bool} (hd:days.length≤90000):∀ (rest pre:List Nat) (acc:List (Int×Int)) (fr:Int),days=pre++rest→acc≠[]→acc.length=pre.length →
  L.loop [1,6,7,8,9,27,28,29] [1,6,7,8] Ll 2 [.loc 0 0,.int .i64 nx,.bool is,.aO 2 0 acc.length 2,.int .i64 fr,.aO 1 0 days.length 1,.int .i64 days.length,.int .i64 pre.length]
    [.live (ay b),.live (ints days),.live (aX acc)] =
    some (.exit 0,[.loc 0 0,.int .i64 nx,.bool is,.aO 2 0 days.length 2],[.live (ay b),.live (ints days),.live (aX (acc++dY fr rest))]):=by
 have hcl:=BJ days 2 11
 have hbc:(ay b).all (D.clo 2 12)=true:=by obtain ⟨i,m,f,c,rd,n,s,e,ex⟩:=b; simp [ay]
 intro rest
 induction rest with
 | nil =>
   intro pre acc fr hdd hne hal
   have hpl:pre.length=days.length:=by rw [hdd]; simp
   rw [hal,hpl]
   have hpc:=gZ acc 2 11
   simp only [dY,List.append_nil]
   generalize ay b=B at *
   generalize aX acc=pc at *
   generalize hid:ints days=id at *
   generalize days.length=K at *
   refine au (Yr ..) ?_
   simp [RJ,hcl,hbc,hpc]
 | cons d rest ih =>
   intro pre acc fr hdd hne hal
   have hn:=ih (pre++[d]) (acc++[(fr,(d:Int))]) d (by rw [hdd]; simp) (by simp) (by simp [hal])
   have hmk:acc++dY fr (d::rest)=acc++[(fr,(d:Int))]++dY d rest:=by simp [dY]
   rw [← hmk] at hn
   have hlt:pre.length<days.length:=by rw [hdd]; simp
   have hget:(ints days)[pre.length]?=some (.int .i64 d):=by
    rw [hdd]; simp [ints]
   have hpc:=gZ acc 2 11
   rw [akt] at hn
   have hpl:=Fg acc
   rw [show aX [(fr,(d:Int))]=[.int .i64 fr,.int .i64 d] from rfl] at hn
   have htk:(aX acc).take (acc.length*2)=aX acc:=List.take_of_length_le (by omega)
   have hil:(ints days).length=days.length:=yE days
   have e1:IntKind.i64.wrap ((pre.length:Int)+1)=((pre.length+1:Nat):Int):=by rw [wrap64 _ (by omega)]; omega
   have hlen:acc.length+1≤4294967296:=by omega
   rw [List.length_append,List.length_append] at hn
   simp only [List.length_singleton] at hn
   generalize aX (acc++dY fr (d::rest))=pz at *
   generalize ay b=B at *
   generalize aX acc=pc at *
   generalize ints days=id at *
   generalize days.length=K at *
   generalize hA:acc.length=A at *
   generalize pre.length=P at *
   have hltI:(P:Int)<K:=by omega
   simp at hn
   refine au (Yr ..) ?_
   simp [RJ,hcl,hbc,hpc,hlt,hltI,hget,oW,htk,e1,hlen,hpl,hn]
end Go.Ev.Code
end
section
namespace Go.Ev.Code
open Go Go.Ev
def dR (b:aA):List (Int×Int):=dY b.issue (dW b (bI b)).reverse
def QD (b:aA):Bool:=match anch b (bI b) with
 | some d=>decide ((d:Int)=b.issue)
 | none=>false
def aF (b:aA):Err×List (Int×Int):=match chk b with
 | some e=>(some e,[])
 | none=>if QD b=true then (none,dR b) else if b.stub=0 then (some (5,IL),[]) else if b.stub=2 then
   (match dR b with
    | _::q::r=>(none,(b.issue,q.2)::r)
    | ps=>(none,ps))
   else (none,dR b)
def dO (ps:List (Int×Int)):D := .sl ps.length (aX ps)
def Ak (r:Err×List (Int×Int)):D := .aG [dO r.2,fC r.1]
theorem uh (b:aA):(dR b).length=bI b:=by unfold dR; rw [aeC,List.length_reverse,pR]
theorem OD (l:List (Int×Int)) (n:Nat) (m:Mem):jd (fz (n+1)) (aX l) m=some (aX l,m):=by
 induction l with
 | nil=>rfl
 | cons x xs ih=>obtain ⟨a,b⟩:=x; simp [aX,ih]
theorem awp {b:aA} {days:List Nat} {nx:Int} {is:Bool} (hd:days.length≤90000) (hne:days≠[]) :
  L.loop [1,6,7,8,9,27,28,29] [1,6,7,8] Ll 2 [.loc 0 0,.int .i64 nx,.bool is,.dh,.int .i64 b.issue,.aO 1 0 days.length 1,.int .i64 days.length,.int .i64 0]
    [.live (ay b),.live (ints days)] =
    some (.exit 0,[.loc 0 0,.int .i64 nx,.bool is,.aO 2 0 days.length 2],[.live (ay b),.live (ints days),.live (aX (dY b.issue days))]):=by
 obtain ⟨d,rest,rfl⟩:∃ d rest,days=d::rest:=List.exists_cons_of_ne_nil hne
 have hn:=arX (b:=b) (nx:=nx) (is:=is) hd rest [d] [(b.issue,(d:Int))] d rfl (by simp) rfl
 have hcl:=BJ (d::rest) 2 11
 have hbc:(ay b).all (D.clo 2 12)=true:=by obtain ⟨i,m,f,c,rd,n,s,e,ex⟩:=b; simp [ay]
 rw [show [(b.issue,(d:Int))]++dY d rest=dY b.issue (d::rest) from rfl,show aX [(b.issue,(d:Int))]=[.int .i64 b.issue,.int .i64 d] from rfl] at hn
 have hget:(ints (d::rest))[0]?=some (.int .i64 d):=by simp [ints]
 have hil:=yE (d::rest)
 have hlt:0<(d::rest).length:=by simp
 generalize aX (dY b.issue (d::rest))=pz at *
 generalize ay b=B at *
 generalize ints (d::rest)=id at *
 generalize (d::rest).length=K at *
 simp at hn
 have hltI:(0:Int)<K:=by omega
 refine au (Yr ..) ?_
 simp [RJ,hcl,hbc,hlt,hltI,hget,oW,wrap64,hn]
theorem Lm {b:aA} (hc:b.aY.length≤1000000) (hr:b.bJ.length≤1000000):L.call T_ [aC b]=some (Ak (aF b)):=by
 have hck:=Gt hc hr
 by_cases hchk:chk b=none
 ·obtain ⟨k1,k2,k3⟩:=QF (bV hchk).2.1
  have kp:=O9 hchk
  have han:=avF (by omega) kp k1 k2
  have hlen:=pR b (bI b)
  have hrev:=aAc (pre:=[.live (ay b)]) (l:=ints (dW b (bI b))) (by obtain ⟨i,m,f,c,rd,n,s,e,ex⟩:=b; simp [ay]) (by rw [yE,hlen]; omega)
   (fun d hd=>by
    simp only [ints,List.mem_map] at hd
    obtain ⟨x,_,rfl⟩:=hd
    exact ⟨rfl,rfl⟩)
  rw [yE,hlen,show (ints (dW b (bI b))).reverse=ints (dW b (bI b)).reverse by simp [ints]] at hrev
  have hz:Dn (anch b (bI b)) = .int .i64 ((anch b (bI b)).getD 0:Nat):=by cases anch b (bI b) <;> rfl
  rw [hz] at han
  have hlp:=awp (b:=b) (days:=(dW b (bI b)).reverse) (nx:=((anch b (bI b)).getD 0:Nat)) (is:=(anch b (bI b)).isSome) (by rw [List.length_reverse,hlen]; omega) (by
   intro h
   have := congrArg List.length h
   rw [List.length_reverse,hlen] at this
   simp at this; omega)
  rw [List.length_reverse,hlen] at hlp
  have hpl:=Fg (dR b)
  have hrl:=uh b
  rw [hrl] at hpl
  have hit:QD b=((anch b (bI b)).isSome && decide ((((anch b (bI b)).getD 0:Nat):Int)=b.issue)):=by
   unfold QD
   cases anch b (bI b) <;> simp
  have htk:(aX (dR b)).take (bI b*2)=aX (dR b):=List.take_of_length_le (by omega)
  have hfz:∀ m,jd (fz 10) (aX (dR b)) m=some (aX (dR b),m):=fun m=>OD (dR b) 9 m
  have hpc:=gZ (dR b) 0 11
  unfold aF
  rw [hchk]
  simp only
  rw [hit]
  unfold dR at *
  generalize (anch b (bI b)).isSome=is at *
  generalize (anch b (bI b)).getD 0=nx at *
  generalize ints (dW b (bI b)).reverse=rv at *
  generalize ints (dW b (bI b))=iv at *
  have f2:L.call Js [.int .i64 5,.str [115,116,117,98]]=some (eY 5 IL):=DC (c:=5) (by decide) IL
  rw [hchk] at hck
  simp [fC] at hck
  generalize hps:dY b.issue (dW b (bI b)).reverse=ps at *
  generalize hk:bI b=K at *
  obtain ⟨i,m,f,c,rd,n,s,e,ex⟩:=b
  unfold aC ay at *
  simp only at *
  simp at hrev
  refine aj (anD ..) ?_
  by_cases hh:(is && decide ((nx:Int)=i))=true
  ·rw [if_pos hh]
   simp only [Bool.and_eq_true,decide_eq_true_eq] at hh
   obtain ⟨rfl,hh⟩:=hh
   rw [hh] at han hlp
   simp [uX,hck,han,hrev,hlp,hpc,hfz,hpl,htk,Ak,dO,hrl,fC]
  ·rw [if_neg hh]
   by_cases hs0:s=0
   ·subst hs0
    rw [if_pos rfl]
    cases is with
    | false=>simp [uX,hck,han,hrev,hlp,f2,Ak,dO,fC,eY,IL,aX]
    | true =>
      have hh:¬ (nx:Int)=i:=by simpa using hh
      simp [uX,hck,han,hrev,hlp,hh,f2,Ak,dO,fC,eY,IL,aX]
   ·rw [if_neg hs0]
    have hh2:is=false∨(is=true∧¬ (nx:Int)=i):=by
     cases is with
     | false=>exact .inl rfl
     | true=>exact .inr ⟨rfl,by simpa using hh⟩
    by_cases hs2:s=2
    ·subst hs2
     rw [if_pos rfl]
     by_cases hK1:1<K
     ·obtain ⟨p,q,r,rfl⟩:∃ p q r,ps=p::q::r:=by
       cases ps with
       | nil=>simp at hrl; omega
       | cons p t=>cases t with
         | nil=>simp at hrl; omega
         | cons q r=>exact ⟨p,q,r,rfl⟩
      obtain ⟨p1,p2⟩:=p
      obtain ⟨q1,q2⟩:=q
      have hK1':(1:Int)<K:=by omega
      have hrK:r.length+1+1=K:=by simpa using hrl
      have hKr:K-1=r.length+1:=by omega
      have hrl2:=Fg r
      have hfz2:∀ m,jd (fz 10) (aX r) m=some (aX r,m):=fun m=>OD r 9 m
      have hbn:gK true false K [.int .i64 1]=some (1,K):=by
       have h1K:(1:Int)≤K:=by omega
       have h1K':1≤K:=by omega
       simp [gK,bnd,h1K,h1K']
      have hpc2:=gZ r 0 11
      have htk2:(aX r).take (r.length*2)=aX r:=List.take_of_length_le (by omega)
      have hb1:2+(r.length+1)*2≤(aX r).length+1+1+1+1:=by omega
      have hb2:(r.length+1)*2=r.length*2+1+1:=by omega
      have hb3:2+(r.length*2+1+1)≤r.length*2+1+1+1+1:=by omega
      simp only [aX] at hlp
      rcases hh2 with rfl | ⟨rfl,hh2⟩
      ·simp [uX,hck,han,hrev,hlp,hK1,hK1',hbn,hKr,hrl2,hfz2,hpc2,htk2,hb1,hb2,hb3,Ak,dO,aX,fC]
      ·simp [uX,hck,han,hrev,hlp,hh2,hK1,hK1',hbn,hKr,hrl2,hfz2,hpc2,htk2,hb1,hb2,hb3,Ak,dO,aX,fC]
     ·have hK1':¬ (1:Int)<K:=by omega
      have hcase:(match ps with | _::q::r=>((none:Err),(i,q.2)::r) | ps=>(none,ps))=(none,ps):=by
       match ps,hrl with
       | [],_=>rfl
       | [_],_=>rfl
       | _::_::_,hrl=>simp at hrl; omega
      rw [hcase]
      rcases hh2 with rfl | ⟨rfl,hh2⟩
      ·simp [uX,hck,han,hrev,hlp,hK1,hK1',hpc,hfz,hpl,htk,Ak,dO,hrl,fC]
      ·simp [uX,hck,han,hrev,hlp,hh2,hK1,hK1',hpc,hfz,hpl,htk,Ak,dO,hrl,fC]
    ·rw [if_neg hs2]
     rcases hh2 with rfl | ⟨rfl,hh2⟩
     ·simp [uX,hck,han,hrev,hlp,hs0,hs2,hpc,hfz,hpl,htk,Ak,dO,hrl,fC]
     ·simp [uX,hck,han,hrev,hlp,hh2,hs0,hs2,hpc,hfz,hpl,htk,Ak,dO,hrl,fC]
 ·cases hce:chk b with
  | none=>exact absurd hce hchk
  | some er =>
    unfold aF
    rw [hce] at hck ⊢
    obtain ⟨ec,es⟩:=er
    simp only [Ak,dO,aX,List.length_nil]
    obtain ⟨i,m,f,c,rd,n,s,e,ex⟩:=b
    unfold aC ay at *
    simp only at *
    simp [fC,eY] at hck
    refine aj (anD ..) ?_
    simp [uX,hck,fC,eY]
end Go.Ev.Code
end
section
namespace Go.Ev.Code
open Go Go.Ev
def sF (b:aA) (day:Int):Nat→Nat→Option Nat
 | 0,_=>none
 | f+1,k=>match anch b k with
   | some a=>if (a:Int)<day then none else if (a:Int)=day then some k else sF b day f (k+1)
   | none=>none
def DV (b:aA) (day:Int):Option Nat:=sF b day 3602 0
def MX:Option Nat→List D
 | some k=>[.int .i64 k,.bool true]
 | none=>[.int .i64 0,.bool false]
theorem anK (b:aA) (hm:months b≠0):anch b 3601=none:=by
 have hc:=pX b
 unfold anch pF
 split
 ·rw [aqo (by rcases hc with h | h | h | h | h <;> rw [h] <;> omega)]
 ·rfl
theorem awl {b:aA} (hm:months b≠0) {day:Int}:∀ (f k:Nat),k+f=3602 →
  L.loop [1,2,6] [4,5] zM 1 [.int .i64 day,.loc 0 0,.int .i64 k] [.live (ay b)]=some (.ret,MX (sF b day f k),[.live (ay b)])∨f=0:=by
 intro f
 induction f with
 | zero=>intro k hk; exact .inr rfl
 | succ f ih =>
   intro k hk
   left
   have ha:=DW b (k:=k) (by omega)
   have hn:=ih (k+1) (by omega)
   have hlast:f=0→anch b k=none:=fun h=>by
    have : k=3601:=by omega
    rw [this]; exact anK b hm
   simp only [sF]
   have e1:IntKind.i64.wrap ((k:Int)+1)=((k+1:Nat):Int):=by rw [wrap64 _ (by omega)]; omega
   generalize anch b k=r at *
   generalize sF b day f (k+1)=r2 at *
   obtain ⟨i,m,fq,c,rd,n,s,e,ex⟩:=b
   unfold aC ay at *
   simp only at *
   refine au (akO ..) ?_
   cases r with
   | none=>simp [Dn] at ha; simp [vJ,ha,MX]
   | some a =>
     simp [Dn] at ha
     simp only
     by_cases h1:(a:Int)<day
     ·simp [vJ,ha,h1,MX]
     ·by_cases h2:(a:Int)=day
      ·subst h2
       simp [vJ,ha,MX]
      ·rcases hn with hn | hn
       ·cases r2 with
        | none=>simp [MX] at hn; simp [vJ,ha,h1,h2,e1,hn,MX]
        | some k2=>simp [MX] at hn; simp [vJ,ha,h1,h2,e1,hn,MX]
       ·have := hlast hn; simp at this
theorem apE {b:aA} (hm:months b≠0) (day:Int):L.call XW [aC b,.int .i64 day]=some (.aG (MX (DV b day))):=by
 have hl:=(awl hm (day:=day) 3602 0 rfl).resolve_right (by decide)
 change L.loop [1,2,6] [4,5] zM 1 [.int .i64 day,.loc 0 0,.int .i64 0] [.live (ay b)]=some (.ret,MX (DV b day),[.live (ay b)]) at hl
 generalize DV b day=r at *
 obtain ⟨i,m,fq,c,rd,n,s,e,ex⟩:=b
 unfold aC ay at *
 simp only at *
 refine aj (aqj ..) ?_
 cases r with
 | none=>simp [MX] at hl; simp [ZO,hl,MX]
 | some k=>simp [MX] at hl; simp [ZO,hl,MX]
theorem UM {b:aA} {day:Int}:∀ {f k j:Nat},sF b day f k=some j→j<k+f∧anch b j=some day.toNat∧0≤day
 | 0,k,j,h=>by simp [sF] at h
 | f+1,k,j,h=>by
   simp only [sF] at h
   split at h <;> try (simp at h; done)
   rename_i a ha
   split at h <;> try (simp at h; done)
   split at h
   ·rename_i h2
    simp at h
    subst h
    refine ⟨by omega,?_,by omega⟩
    rw [ha]; congr 1; omega
   ·have := UM h
    exact ⟨by omega,this.2⟩
def quasi (b:aA) (day:Int):Option Nat:=match DV b day with
 | some k=>if day≤b.issue then none else anch b (k+1)
 | none=>none
def akv (b:aA) (day:Int):D:=match chk b with
 | some e => .aG [.int .i64 0,fC (some e)]
 | none=>kW (quasi b day)
theorem Og {b:aA} (hc:b.aY.length≤1000000) (hr:b.bJ.length≤1000000) (day:Int):L.call Fh [aC b,.int .i64 day]=some (akv b day):=by
 have hck:=Gt hc hr
 by_cases hchk:chk b=none
 ·have hm:=(bV hchk).2.1
  have hp:=apE hm day
  have hps:=fun {j} => @UM b day 3602 0 j
  have han:=fun k (hk:k≤100000)=>DW b (k:=k) hk
  unfold akv quasi
  rw [hchk] at hck ⊢
  simp only
  unfold DV at *
  generalize sF b day 3602 0=r at *
  simp [fC] at hck
  cases r with
  | none =>
    obtain ⟨i,m,fq,c,rd,n,s,e,ex⟩:=b
    unfold aC ay at *
    simp only at *
    simp [MX] at hp
    refine aj (Yt ..) ?_
    simp [D8,hck,hp,bM,kW]
  | some k =>
    have hk:=(hps rfl).1
    have ha:=han (k+1) (by omega)
    have e1:IntKind.i64.wrap ((k:Int)+1)=((k+1:Nat):Int):=by rw [wrap64 _ (by omega)]; omega
    show L.call Fh [aC b,.int .i64 day]=some (kW (if day≤b.issue then none else anch b (k+1)))
    generalize anch b (k+1)=r2 at *
    obtain ⟨i,m,fq,c,rd,n,s,e,ex⟩:=b
    unfold aC ay at *
    simp only at *
    simp [MX] at hp
    refine aj (Yt ..) ?_
    by_cases hd:day≤i
    ·simp [D8,hck,hp,hd,bM,kW]
    ·cases r2 with
     | none=>simp [Dn] at ha; simp [D8,hck,hp,hd,e1,ha,bM,kW]
     | some a=>simp [Dn] at ha; simp [D8,hck,hp,hd,e1,ha,kW]
 ·cases hce:chk b with
  | none=>exact absurd hce hchk
  | some er =>
    obtain ⟨ec,es⟩:=er
    unfold akv
    rw [hce] at hck ⊢
    obtain ⟨i,m,fq,c,rd,n,s,e,ex⟩:=b
    unfold aC ay at *
    simp only at *
    simp [fC,eY] at hck
    refine aj (Yt ..) ?_
    simp [D8,hck,fC,eY]
def pD (p:Int×Int):D := .agg [.int .i64 p.1,.int .i64 p.2]
def regular (b:aA) (p:Int×Int):Bool:=match chk b with
 | some _=>false
 | none=>match quasi b p.2 with
   | some a=>decide ((a:Int)=p.1)
   | none=>false
theorem IE {b:aA} (hc:b.aY.length≤1000000) (hr:b.bJ.length≤1000000) (p:Int×Int):L.call yI [aC b,pD p]=some (.bool (regular b p)):=by
 have hq:=Og hc hr p.2
 obtain ⟨p1,p2⟩:=p
 unfold regular pD
 unfold akv at hq
 simp only at hq ⊢
 generalize chk b=ck at *
 generalize quasi b p2=q at *
 obtain ⟨i,m,fq,c,rd,n,s,e,ex⟩:=b
 unfold aC ay at *
 refine aj (amu ..) ?_
 cases ck with
 | some er=>obtain ⟨ec,es⟩:=er; simp [fC,eY] at hq; simp [LQ,hq]
 | none =>
   cases q with
   | none=>simp [kW] at hq; simp [LQ,hq]
   | some a=>simp [kW] at hq; simp [LQ,hq]
end Go.Ev.Code
end
section
namespace Go.Ev.Code
open Go Go.Ev
theorem Ql {y m d y' m' d':Nat} (h:Dc y m d) (h':Dc y' m' d') (hlt:y*12+m<y'*12+m'):dayOf y m d<dayOf y' m' d':=by
 have a1:=h.m1
 have a2:=h.m2
 have a3:=h'.m1
 have a4:=h'.m2
 have a5:=h.d1
 have a6:=h.d2
 have a7:=h'.d1
 have a8:=h.y1
 rcases Nat.lt_or_ge y y' with hy | hy
 ·have h1:=h.hi
  have h2:=h'.lo
  have h3:=Tc (x:=y+1) (y:=y') (by omega) hy
  omega
 ·have hyy:y=y':=by omega
  subst hyy
  have hm:m<m':=by omega
  have h4:dH y m=dH y (m-1)+bW y m:=by
   obtain ⟨q,rfl⟩:∃ q,m=q+1:=⟨m-1,by omega⟩
   simp only [dH,Nat.add_sub_cancel]
  have h5:=YN y (j:=m) (k:=m'-1) (by omega)
  unfold dayOf
  omega
theorem ad4 {day n:Int} {e:Bool} {r:Nat} (h:pF day n e=some r):∃ y m d,Dc y m d∧r=dayOf y m d ∧
  ((y*12+m:Nat):Int)=(((kQ day.toNat).1*12+(kQ day.toNat).2.1:Nat):Int)+n:=by
 unfold pF at h
 split at h <;> try (simp at h; done)
 rename_i hd
 obtain ⟨y,m,d,hc,hd,ho⟩:=eu hd
 rw [ho] at h ⊢
 unfold Qd at h
 split at h <;> try (simp at h; done)
 simp only at h ⊢
 have h1:=hc.y1
 have h3:=hc.m1
 have h12:1≤((((y*12+m-1:Nat):Int)+n) % 12).toNat+1∧((((y*12+m-1:Nat):Int)+n) % 12).toNat+1≤12:=by omega
 have hsum:(((((((y*12+m-1:Nat):Int)+n) / 12).toNat*12+(((((y*12+m-1:Nat):Int)+n) % 12).toNat+1):Nat)):Int)=((y*12+m:Nat):Int)+n:=by omega
 generalize ((((y*12+m-1:Nat):Int)+n) % 12).toNat+1=m' at *
 generalize ((((y*12+m-1:Nat):Int)+n) / 12).toNat=y' at *
 have hp:=OI (y:=y') h12.1 h12.2
 have hd1:=hc.d1
 obtain ⟨q1,q2⟩:=arH h12.1 h12.2 (by split <;> omega) (by split <;> omega) h
 exact ⟨_,_,_,q1,q2,hsum⟩
theorem ah7 {b:aA} (hm:months b≠0) {j k a c:Nat} (hjk:j<k) (hj:anch b j=some a) (hk:anch b k=some c):c<a:=by
 obtain ⟨y,m,d,h1,h2,h3⟩:=ad4 hj
 obtain ⟨y',m',d',h1',h2',h3'⟩:=ad4 hk
 rw [h2,h2']
 refine Ql h1' h1 ?_
 have hc:=pX b
 rcases hc with h | h | h | h | h
 ·exact absurd h hm
 all_goals (rw [h] at h3 h3'; omega)
theorem ad7 {b:aA} {k a:Nat} (h:anch b k=some a):aU a:=S_ h
theorem alK {b:aA} (hm:months b≠0) {k a:Nat} (hk:anch b k=some a) (hall:∀ i,i<k→(anch b i).isSome=true) (hk2:k<3602):DV b a=some k:=by
 unfold DV
 have : ∀ f i,i≤k→k<i+f→sF b a f i=some k:=by
  intro f
  induction f with
  | zero=>intro i h1 h2; omega
  | succ f ih =>
    intro i h1 h2
    simp only [sF]
    rcases Nat.lt_or_ge i k with h | h
    ·obtain ⟨c,hc⟩:=Option.isSome_iff_exists.1 (hall i h)
     have := ah7 hm h hc hk
     rw [hc]
     simp only
     rw [if_neg (by omega),if_neg (by omega)]
     exact ih (i+1) h (by omega)
    ·have : i=k:=by omega
     subst this
     rw [hk]
     simp
 exact this 3602 0 (by omega) (by omega)
theorem Zz {b:aA} (hchk:chk b=none) {k a:Nat} (hk:k<bI b) (h1:anch b k=some a) {p:Int} (h2:∃ c,anch b (k+1)=some c∧(c:Int)=p):regular b (p,(a:Int))=true:=by
 have hm:=(bV hchk).2.1
 obtain ⟨g1,g2,g3⟩:=QF hm
 obtain ⟨c,hc,hcp⟩:=h2
 have hpl:=alK hm h1 (fun i hi=>by
  obtain ⟨d,hd,_⟩:=g1 i (by omega)
  rw [hd]; rfl) (by omega)
 obtain ⟨d,hd,hdi⟩:=g1 k hk
 rw [h1] at hd
 simp at hd
 subst hd
 unfold regular quasi
 rw [hchk]
 simp only [hpl]
 rw [if_neg (by omega),hc]
 simp [hcp]
theorem ax0 {b:aA} (hchk:chk b=none):bI b≤199:=by
 obtain ⟨q1,hm,_⟩:=bV hchk
 obtain ⟨d1,d2,d3⟩:=Kq q1
 obtain ⟨g1,g2,g3⟩:=QF hm
 have kp:=O9 hchk
 have hper:aeL b≤200:=by
  have h:=hchk
  unfold chk at h
  split at h <;> try (simp at h; done)
  split at h <;> try (simp at h; done)
  split at h <;> try (simp at h; done)
  split at h <;> try (simp at h; done)
  split at h <;> try (simp at h; done)
  split at h <;> try (simp at h; done)
  split at h <;> try (simp at h; done)
  omega
 obtain ⟨d,hd,hdi⟩:=g1 (bI b-1) (by omega)
 obtain ⟨y,m,dd,h1,h2,h3⟩:=ad4 hd
 obtain ⟨yi,mi,di,hci,hdi2,hoi⟩:=eu d1
 have hge:yi*12+mi≤y*12+m:=by
  rcases Nat.lt_or_ge (y*12+m) (yi*12+mi) with h | h
  ·have := Ql h1 hci h
   omega
  ·exact h
 have hb:sU b.issue b.bU=((bI b-1:Nat):Int)*months b+(((y*12+m:Nat):Int)-((yi*12+mi:Nat):Int)):=by
  unfold sU
  rw [hoi]
  simp only
  rw [Int.neg_mul] at h3
  omega
 have hnn:((bI b-1:Nat):Int)*months b≤sU b.issue b.bU:=by omega
 unfold aeL at hper
 generalize sU b.issue b.bU=bw at *
 have hc:=pX b
 rcases hc with h | h | h | h | h
 ·exact absurd h hm
 all_goals
  rw [h] at hper hnn
  rw [Int.tdiv_eq_ediv_of_nonneg (by omega)] at hper
  omega
end Go.Ev.Code
end
