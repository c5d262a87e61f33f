/- Part of accrDay_card. -/
import Derived.Test.YtechakbhjeieaaaGreatDoorCSpC
set_option linter.unusedVariables false
set_option linter.unusedSimpArgs false
section
namespace Go.Ev.Code
open Go Go.Ev
def leap (y:Nat):Bool:=decide (y % 4=0∧(y % 100≠0∨y % 400=0))
def bP (y m:Nat):Nat:=match m with
 | 2=>if leap y then 29 else 28
 | 4 | 6 | 9 | 11=>30
 | 1 | 3 | 5 | 7 | 8 | 10 | 12=>31
 | _=>0
def dQ (y:Nat):Nat:=365*(y-1900)+((y-1) / 4-(y-1) / 100+(y-1) / 400)-460
theorem Dq (a b:Nat):Int.tdiv (a:Int) (b:Int)=((a / b:Nat):Int):=rfl
theorem yK (a b:Nat):Int.tmod (a:Int) (b:Int)=((a % b:Nat):Int):=rfl
theorem FX {y:Nat} (h1:1900≤y) (h2:y≤1000000):L.call ug [.int .i64 y]=some (.int .i64 (dQ y)):=by
 have e1:IntKind.i64.wrap ((y:Int)-1)=((y-1:Nat):Int):=by rw [wrap64 _ (by omega)]; omega
 have e2:IntKind.i64.wrap ((y:Int)-1900)=((y-1900:Nat):Int):=by rw [wrap64 _ (by omega)]; omega
 have q1:=Dq (y-1) 4
 have q2:=Dq (y-1) 100
 have q3:=Dq (y-1) 400
 simp at q1 q2 q3
 have hb:dQ y=365*(y-1900)+((y-1) / 4-(y-1) / 100+(y-1) / 400)-460:=rfl
 refine aN ahs rfl (ag2 ..) ?_
 simp (disch:=omega) [Yh,e1,e2,q1,q2,q3,wrap64]
 omega
theorem ai7 {y:Nat} (h:y≤1000000):L.call EP [.int .i64 y]=some (.bool (leap y)):=by
 have q1:=yK y 4
 have q2:=yK y 100
 have q3:=yK y 400
 simp at q1 q2 q3
 refine aN akT rfl (akJ ..) ?_
 unfold leap
 by_cases h4:y % 4=0
 ·by_cases h100:y % 100=0
  ·by_cases h400:y % 400=0
   ·simp (disch:=omega) [H7,q1,q2,q3,h4,h100,h400]
    have : (y:Int) % 4=0:=by omega
    have : (y:Int) % 100=0:=by omega
    have : (y:Int) % 400=0:=by omega
    simp [*]
   ·have : (y:Int) % 4=0:=by omega
    have : (y:Int) % 100=0:=by omega
    have : ¬ (y:Int) % 400=0:=by omega
    simp (disch:=omega) [H7,q1,q2,q3, *]
  ·have : (y:Int) % 4=0:=by omega
   have : ¬ (y:Int) % 100=0:=by omega
   simp (disch:=omega) [H7,q1,q2,q3, *]
 ·have : ¬ (y:Int) % 4=0:=by omega
  simp (disch:=omega) [H7,q1,q2,q3, *]
end Go.Ev.Code
end
section
namespace Go.Ev.Code
open Go Go.Ev
theorem sZ {y m:Nat} (h:y≤1000000) (h1:1≤m) (h2:m≤12):L.call jv [.int .i64 y,.int .i64 m]=some (.int .i64 (bP y m)):=by
 have hl:=ai7 h
 refine aN ahr rfl (ag1 ..) ?_
 have : m=1∨m=2∨m=3∨m=4∨m=5∨m=6∨m=7∨m=8∨m=9∨m=10∨m=11∨m=12:=by omega
 rcases this with rfl | rfl | rfl | rfl | rfl | rfl | rfl | rfl | rfl | rfl | rfl | rfl
 case inr.inl =>
  cases hy:leap y <;> rw [hy] at hl <;> simp [O9,bP,hl,hy]
 all_goals simp [O9,bP]
theorem Xm (n:Int):L.call JF [.int .i64 n]=some (.bool (decide (0≤n∧n≤109572))):=by
 refine aN aoC rfl (aot ..) ?_
 by_cases h:0≤n
 ·by_cases h':n≤109572 <;> simp [aap,h,h']
 ·simp [aap,h]
def aaC (n:Int):Int:=if 0≤n∧n≤109572 then (n+1) % 7 else -1
theorem En (n:Int):L.call fF [.int .i64 n]=some (.int .i64 (aaC n)):=by
 have h:=Xm n
 refine aN aeL rfl (aeA ..) ?_
 unfold aaC
 by_cases hn:0≤n∧n≤109572
 ·rw [decide_eq_true hn] at h
  have e:Int.tmod (n+1) 7=(n+1) % 7:=Int.tmod_eq_emod_of_nonneg (by omega)
  simp (disch:=omega) [MV,h,wrap64,hn,e]
 ·rw [decide_eq_false hn] at h
  simp [MV,h,hn]
def dw (y:Nat):Nat→Nat
 | 0=>0
 | k+1=>dw y k+bP y (k+1)
theorem xP (y m:Nat):bP y m≤31:=by unfold bP; split <;> (try split) <;> omega
theorem Zq (y k:Nat):dw y k≤31*k:=by
 induction k with
 | zero=>simp [dw]
 | succ k ih=>have := xP y (k+1); simp only [dw]; omega
theorem Q9 {y:Nat} (h:y≤2200):dQ y≤109573:=by unfold dQ; omega
def oH (y m d:Nat):D := .agg [.int .i64 y,.int .i64 m,.int .i64 d]
theorem auv {y m d A:Nat} (hy:y≤2200) (hm:m≤12) (hA:A≤1000000):∀ (j k:Nat),k+j=m→1≤k →
  L.loop [1,4,5] [4] CB 1 [.loc 0 0,.int .i64 ((A+dw y (k-1):Nat):Int),.int .i64 k] [.live [.int .i64 y,.int .i64 m,.int .i64 d]] =
    some (.exit 0,[.int .i64 ((A+dw y (m-1):Nat):Int)],[.live [.int .i64 y,.int .i64 m,.int .i64 d]]):=by
 intro j
 induction j with
 | zero =>
   intro k hk h1
   have : k=m:=by omega
   subst this
   generalize A+dw y (k-1)=B
   refine aJ (YV ..) ?_
   simp [SA]
 | succ j ih =>
   intro k hk h1
   have hl:=sZ (y:=y) (m:=k) (by omega) h1 (by omega)
   have hn:=ih (k+1) (by omega) (by omega)
   have hc:A+dw y (k+1-1)=A+dw y (k-1)+bP y k:=by
    rw [Nat.add_sub_cancel]
    obtain ⟨q,rfl⟩:∃ q,k=q+1:=⟨k-1,by omega⟩
    simp only [dw,Nat.add_sub_cancel]; omega
   rw [hc] at hn
   have hb:=Zq y (k-1)
   have hb2:=xP y k
   have hlt:k<m:=by omega
   have hBl:A+dw y (k-1)≤1000372:=by omega
   generalize A+dw y (k-1)=B at *
   generalize A+dw y (m-1)=C at *
   generalize bP y k=l at *
   have e1:IntKind.i64.wrap ((B:Int)+l)=((B+l:Nat):Int):=by rw [wrap64 _ (by omega)]; omega
   have e2:IntKind.i64.wrap ((k:Int)+1)=((k+1:Nat):Int):=by rw [wrap64 _ (by omega)]; omega
   generalize B+l=B2 at *
   generalize k+1=k2 at *
   refine aJ (YV ..) ?_
   simp (disch:=omega) [SA,hl,hlt,e1,e2,hn]
def dayOf (y m d:Nat):Nat:=dQ y+dw y (m-1)+d-1
theorem adu {y m d:Nat} (h1:1900≤y) (h2:y≤2199) (hm:1≤m) (hm2:m≤12) (hd:1≤d) (hd2:d≤bP y m) :
  L.call xK [oH y m d]=some (.bg [.int .i64 (dayOf y m d),.aK]):=by
 have hl:=sZ (y:=y) (m:=m) (by omega) hm hm2
 have hb:=FX h1 (by omega)
 have hlp:=auv (y:=y) (m:=m) (d:=d) (A:=dQ y+d-1) (by omega) hm2 (by have := Q9 (y:=y) (by omega); have := xP y m; omega) (m-1) 1 (by omega) (by omega)
 simp only [Nat.sub_self,dw,Nat.add_zero] at hlp
 have hbb:=Q9 (y:=y) (by omega)
 have hml:=xP y m
 have hC:dQ y+d-1+dw y (m-1)=dayOf y m d:=by unfold dayOf; omega
 rw [hC,show ((1:Nat):Int)=1 from rfl] at hlp
 have g1:¬ (y:Int)<1900:=by omega
 have g2:¬ (2199:Int)<y:=by omega
 have g3:¬ (d:Int)<1:=by omega
 generalize bP y m=l at *
 have g4:¬ (l:Int)<d:=by omega
 have g5:¬ l<d:=by omega
 have g6:¬ 2199<y:=by omega
 generalize dayOf y m d=r at *
 generalize dQ y=b at *
 have e1:IntKind.i64.wrap ((b:Int)+d)=((b+d:Nat):Int):=by rw [wrap64 _ (by omega)]; omega
 have e2:IntKind.i64.wrap (((b+d:Nat):Int)-1)=((b+d-1:Nat):Int):=by rw [wrap64 _ (by omega)]; omega
 generalize b+d-1=b1 at *
 generalize b+d=b2 at *
 refine aN afH rfl (afD ..) ?_
 unfold oH
 simp (disch:=omega) [U0,hl,hb,g1,g2,g3,g4,g5,g6,e1,e2,hlp]
end Go.Ev.Code
end
section
namespace Go.Ev.Code
open Go Go.Ev
theorem arv (y:Nat):leap y=true↔(y % 4=0∧(y % 100≠0∨y % 400=0)):=by unfold leap; simp
theorem aif (y:Nat):dw y 12=if leap y then 366 else 365:=by
 cases h:leap y <;> simp [dw,bP,h]
theorem aj_ {z k:Nat} (hk:0<k):(z+1) / k=z / k+(if (z+1) % k=0 then 1 else 0):=by
 rw [Nat.succ_div]
 by_cases h:(z+1) % k=0
 ·rw [if_pos h,if_pos (Nat.dvd_of_mod_eq_zero h)]
 ·rw [if_neg h,if_neg (fun hd=>h (Nat.mod_eq_zero_of_dvd hd))]
theorem Cb {y:Nat} (h:1900≤y):dQ (y+1)=dQ y+dw y 12:=by
 rw [aif]
 have hl:=arv y
 obtain ⟨z,rfl⟩:∃ z,y=z+1:=⟨y-1,by omega⟩
 by_cases hz:z=1899
 ·subst hz; decide
 have hz2:1900≤z:=by omega
 unfold dQ
 have h4:=aj_ (z:=z) (k:=4) (by decide)
 have h100:=aj_ (z:=z) (k:=100) (by decide)
 have h400:=aj_ (z:=z) (k:=400) (by decide)
 have b1:z / 100≤z / 4:=Nat.div_le_div_left (by decide) (by decide)
 have b2:474≤z / 4:=by omega
 have b3:(z+1) / 100≤(z+1) / 4:=Nat.div_le_div_left (by decide) (by decide)
 have b4:455≤z / 4-z / 100:=by omega
 have i1:(z+1) % 400=0→(z+1) % 100=0:=fun h=>by omega
 have i2:(z+1) % 100=0→(z+1) % 4=0:=fun h=>by omega
 rw [Nat.add_sub_cancel,Nat.add_sub_cancel]
 generalize (z+1) % 4=r4 at *
 generalize (z+1) % 100=r100 at *
 generalize (z+1) % 400=r400 at *
 generalize (z+1) / 4=p4 at *
 generalize (z+1) / 100=p100 at *
 generalize (z+1) / 400=p400 at *
 generalize z / 4=s4 at *
 generalize z / 100=s100 at *
 generalize z / 400=s400 at *
 by_cases c4:r4=0
 ·rw [if_pos c4] at h4
  by_cases c100:r100=0
  ·rw [if_pos c100] at h100
   by_cases c400:r400=0
   ·rw [if_pos c400] at h400
    rw [if_pos (hl.2 ⟨c4,.inr c400⟩)]; omega
   ·rw [if_neg c400] at h400
    rw [if_neg (fun h=>by rcases (hl.1 h).2 with h | h <;> contradiction)]; omega
  ·rw [if_neg c100] at h100
   have c400:¬ r400=0:=fun h=>c100 (i1 h)
   rw [if_neg c400] at h400
   rw [if_pos (hl.2 ⟨c4,.inl c100⟩)]; omega
 ·have c100:¬ r100=0:=fun h=>c4 (i2 h)
  have c400:¬ r400=0:=fun h=>c100 (i1 h)
  rw [if_neg c4] at h4
  rw [if_neg c100] at h100
  rw [if_neg c400] at h400
  rw [if_neg (fun h=>c4 (hl.1 h).1)]; omega
theorem Rj (y:Nat) {j k:Nat} (h:j≤k):dw y j≤dw y k:=by
 induction k with
 | zero=>have : j=0:=by omega
         rw [this]; exact Nat.le_refl _
 | succ k ih =>
   rcases Nat.lt_or_ge k j with h1 | h1
   ·have : j=k+1:=by omega
    rw [this]; exact Nat.le_refl _
   ·have := ih h1; simp only [dw]; omega
theorem Me {x y:Nat} (h:1900≤x) (hxy:x≤y):dQ x≤dQ y:=by
 induction y with
 | zero=>omega
 | succ y ih =>
   rcases Nat.lt_or_ge y x with h1 | h1
   ·have : x=y+1:=by omega
    rw [this]; exact Nat.le_refl _
   ·have := ih h1; rw [Cb (by omega)]; omega
structure zk (y m d:Nat):Prop where
 y1:1900≤y
 y2:y≤2199
 m1:1≤m
 m2:m≤12
 d1:1≤d
 d2:d≤bP y m
theorem zk.lo {y m d:Nat} (h:zk y m d):dQ y≤dayOf y m d:=by have := h.d1; unfold dayOf; omega
theorem zk.hi {y m d:Nat} (h:zk y m d):dayOf y m d<dQ (y+1):=by
 have h1:=h.d1
 have h2:=h.d2
 have h3:=h.m1
 have h5:=h.m2
 rw [Cb h.y1]
 have h4:=Rj y h5
 have h6:dw y m=dw y (m-1)+bP y m:=by
  obtain ⟨q,rfl⟩:∃ q,m=q+1:=⟨m-1,by omega⟩
  simp only [dw,Nat.add_sub_cancel]
 unfold dayOf; omega
theorem zk.le {y m d:Nat} (h:zk y m d):dayOf y m d≤109572:=by
 have h1:=h.hi
 have h2:=h.y1
 have h3:=h.y2
 have := Me (x:=y+1) (y:=2200) (by omega) (by omega)
 have h4:dQ 2200=109573:=by decide
 omega
theorem al3 {y:Nat} (h:1900≤y):dQ y≤366*(y-1900):=by
 unfold dQ; omega
theorem ao2 {day y:Nat} (hd:day≤109572) (hy1:dQ y≤day) (hy2:day<dQ (y+1)) (hy3:y≤2199):∀ (j x:Nat),x+j=y→1900≤x →
  L.loop [0,2,4] [0,2,4] vJ 2 [.int .i64 day,.loc 0 0,.loc 1 0] [.live [.int .i64 0,.int .i64 0,.int .i64 0],.live [.int .i64 x,.int .i64 1,.int .i64 0]] =
    some (.exit 0,[.int .i64 day,.loc 0 0,.loc 1 0],[.live [.int .i64 0,.int .i64 0,.int .i64 0],.live [.int .i64 y,.int .i64 1,.int .i64 0]]):=by
 intro j
 induction j with
 | zero =>
   intro x hx h1
   have : x=y:=by omega
   subst this
   have hb:=FX (y:=x+1) (by omega) (by omega)
   have e1:IntKind.i64.wrap ((x:Int)+1)=((x+1:Nat):Int):=by rw [wrap64 _ (by omega)]; omega
   generalize dQ (x+1)=b at *
   generalize x+1=x2 at *
   have g:¬ b≤day:=by omega
   have g':¬ (b:Int)≤day:=by omega
   refine aJ (S9 ..) ?_
   simp (disch:=omega) [LC,e1,hb,g,g']
 | succ j ih =>
   intro x hx h1
   have hb:=FX (y:=x+1) (by omega) (by omega)
   have hn:=ih (x+1) (by omega) (by omega)
   have hmo:=Me (x:=x+1) (y:=y) (by omega) (by omega)
   have e1:IntKind.i64.wrap ((x:Int)+1)=((x+1:Nat):Int):=by rw [wrap64 _ (by omega)]; omega
   generalize dQ (x+1)=b at *
   generalize x+1=x2 at *
   have g:b≤day:=by omega
   have g':(b:Int)≤day:=by omega
   refine aJ (S9 ..) ?_
   simp (disch:=omega) [LC,e1,hb,g,g',hn]
theorem ao3 {y m d:Nat} (h:zk y m d):∀ (j k:Nat),k+j=m→1≤k →
  L.loop [2,4,5] [2,4,5] vK 2 [.loc 0 0,.loc 1 0,.int .i64 ((dw y (m-1)+(d-1)-dw y (k-1):Nat):Int)] [.live [.int .i64 0,.int .i64 0,.int .i64 0],.live [.int .i64 y,.int .i64 k,.int .i64 0]] =
    some (.exit 2,[.loc 0 0,.loc 1 0,.int .i64 ((d-1:Nat):Int)],[.live [.int .i64 0,.int .i64 0,.int .i64 0],.live [.int .i64 y,.int .i64 m,.int .i64 0]]):=by
 have h1:=h.d1
 have h2:=h.d2
 have h3:=h.m2
 have h4:=h.y2
 have h5:=xP y m
 intro j
 induction j with
 | zero =>
   intro k hk hk1
   have : k=m:=by omega
   subst this
   have hl:=sZ (y:=y) (m:=k) (by omega) hk1 h3
   rw [show dw y (k-1)+(d-1)-dw y (k-1)=d-1 by omega]
   generalize bP y k=l at *
   have g:¬ (l:Int)≤((d-1:Nat):Int):=by omega
   have g':¬ l≤d-1:=by omega
   generalize d-1=d1 at *
   refine aJ (S_ ..) ?_
   simp (disch:=omega) [LD,hl,g,g']
 | succ j ih =>
   intro k hk hk1
   have hl:=sZ (y:=y) (m:=k) (by omega) hk1 (by omega)
   have hn:=ih (k+1) (by omega) (by omega)
   have hc:dw y (k+1-1)=dw y (k-1)+bP y k:=by
    rw [Nat.add_sub_cancel]
    obtain ⟨q,rfl⟩:∃ q,k=q+1:=⟨k-1,by omega⟩
    simp only [dw,Nat.add_sub_cancel]
   have hmo:=Rj y (j:=k) (k:=m-1) (by omega)
   rw [Nat.add_sub_cancel] at hc hn
   rw [hc] at hmo hn
   have hub:=Zq y (m-1)
   have hub2:dw y (m-1)+(d-1)≤1000:=by omega
   have hmo2:dw y (k-1)+bP y k≤dw y (m-1)+(d-1):=by omega
   generalize dw y (m-1)+(d-1)=T at *
   generalize bP y k=l at *
   generalize dw y (k-1)=c at *
   have g:l≤T-c:=by omega
   have g':(l:Int)≤((T-c:Nat):Int):=by omega
   have e1:IntKind.i64.wrap (((T-c:Nat):Int)-l)=((T-(c+l):Nat):Int):=by rw [wrap64 _ (by omega)]; omega
   have e2:IntKind.i64.wrap ((k:Int)+1)=((k+1:Nat):Int):=by rw [wrap64 _ (by omega)]; omega
   generalize T-(c+l)=r2 at *
   generalize T-c=r1 at *
   generalize k+1=k2 at *
   refine aJ (S_ ..) ?_
   simp (disch:=omega) [LD,hl,g,g',e1,e2,hn]
theorem vM {y m d:Nat} (h:zk y m d):L.call gZ [.int .i64 (dayOf y m d)]=some (.bg [oH y m d,.aK]):=by
 have hle:=h.le
 have hlo:=h.lo
 have hhi:=h.hi
 have hd1:=h.d1
 have hd2:=h.d2
 have hml:=xP y m
 have hy:=h.y2
 have hm2:=h.m2
 have hb:=FX h.y1 (by omega)
 have h366:=al3 (y:=y+1) (by have := h.y1; omega)
 have l1:=ao2 hle hlo hhi h.y2 (y-(1900+dayOf y m d / 366)) (1900+dayOf y m d / 366) (by omega) (by omega)
 have l2:=ao3 h (m-1) 1 (by have := h.m1; omega) (by omega)
 have his:=Xm (dayOf y m d)
 rw [decide_eq_true (by omega)] at his
 have hT:dayOf y m d-dQ y=dw y (m-1)+(d-1):=by unfold dayOf; omega
 simp only [Nat.sub_self,dw,Nat.sub_zero] at l2
 rw [← hT,show ((1:Nat):Int)=1 from rfl] at l2
 have hbb:=Q9 (y:=y) (by omega)
 have q1:=Dq (dayOf y m d) 366
 simp at q1
 generalize dayOf y m d=day at *
 have e1:IntKind.i64.wrap ((day:Int) / 366)=((day / 366:Nat):Int):=by rw [wrap64 _ (by omega)]; omega
 have e2:IntKind.i64.wrap (1900+((day / 366:Nat):Int))=((1900+day / 366:Nat):Int):=by rw [wrap64 _ (by omega)]; omega
 have e2':IntKind.i64.wrap (1900+(day:Int) / 366)=((1900+day / 366:Nat):Int):=by rw [wrap64 _ (by omega)]; omega
 generalize 1900+day / 366=x at *
 generalize dQ y=b at *
 have e3:IntKind.i64.wrap ((day:Int)-b)=((day-b:Nat):Int):=by rw [wrap64 _ (by omega)]; omega
 generalize day-b=r at *
 have e4:IntKind.i64.wrap (((d-1:Nat):Int)+1)=(d:Int):=by rw [wrap64 _ (by omega)]; omega
 generalize d-1=dd at *
 refine aN Y_ rfl (YU ..) ?_
 unfold oH
 simp (disch:=omega) [Sz,his,q1,e1,e2,e2',l1,hb,e3,l2,e4]
theorem Wh {n:Int} (h:¬ (0≤n∧n≤109572)):L.call gZ [.int .i64 n]=some (.bg [oH 0 0 0,EU 4]):=by
 have his:=Xm n
 rw [decide_eq_false h] at his
 refine aN Y_ rfl (YU ..) ?_
 unfold oH
 simp (disch:=omega) [Sz,his,dD]
theorem avw {day:Nat} (h:day≤109572):∃ y m d,zk y m d∧dayOf y m d=day:=by
 have hy:∃ y,1900≤y∧dQ y≤day∧day<dQ (y+1):=by
  have : ∀ k,day<dQ (1900+k)→∃ y,1900≤y∧dQ y≤day∧day<dQ (y+1):=by
   intro k
   induction k with
   | zero=>intro h1; have : dQ 1900=0:=by decide
           rw [Nat.add_zero,this] at h1; omega
   | succ k ih =>
     intro h1
     rcases Nat.lt_or_ge day (dQ (1900+k)) with h2 | h2
     ·exact ih h2
     ·exact ⟨1900+k,by omega,h2,h1⟩
  exact this 300 (by have : dQ (1900+300)=109573:=by decide
                     omega)
 obtain ⟨y,h1,h2,h3⟩:=hy
 have hm:∃ m,1≤m∧m≤12∧dw y (m-1)≤day-dQ y∧day-dQ y<dw y m:=by
  have : ∀ k,k≤12→day-dQ y<dw y k→∃ m,1≤m∧m≤12∧dw y (m-1)≤day-dQ y∧day-dQ y<dw y m:=by
   intro k
   induction k with
   | zero=>intro _ h1; simp [dw] at h1
   | succ k ih =>
     intro hk h1
     rcases Nat.lt_or_ge (day-dQ y) (dw y k) with h2 | h2
     ·exact ih (by omega) h2
     ·exact ⟨k+1,by omega,hk,by rw [Nat.add_sub_cancel]; exact h2,h1⟩
  rw [Cb h1] at h3
  exact this 12 (by omega) (by omega)
 obtain ⟨m,m1,m2,m3,m4⟩:=hm
 have h6:dw y m=dw y (m-1)+bP y m:=by
  obtain ⟨q,rfl⟩:∃ q,m=q+1:=⟨m-1,by omega⟩
  simp only [dw,Nat.add_sub_cancel]
 have hy2:y≤2199:=by
  rcases Nat.lt_or_ge 2199 y with hh | hh
  ·have := Me (x:=2200) (y:=y) (by omega) hh
   have h4:dQ 2200=109573:=by decide
   omega
  ·exact hh
 refine ⟨y,m,day-dQ y-dw y (m-1)+1,⟨h1,hy2,m1,m2,by omega,by omega⟩,?_⟩
 unfold dayOf; omega
end Go.Ev.Code
end
section
namespace Go.Ev.Code
open Go Go.Ev
theorem ak_ {y m d:Nat} (h:¬ (1900≤y∧y≤2199)) (hy:y≤1000000) (h1:1≤m) (h2:m≤12) (hd:1≤d):L.call xK [oH y m d]=some (.bg [.int .i64 0,EU 4]):=by
 refine aN afH rfl (afD ..) ?_
 unfold oH
 by_cases g1:y<1900
 ·have g1':(y:Int)<1900:=by omega
  simp (disch:=omega) [U0,g1,g1',dD]
 ·have g1':¬ (y:Int)<1900:=by omega
  have g2:2199<y:=by omega
  have g2':(2199:Int)<y:=by omega
  simp (disch:=omega) [U0,g1,g1',g2,g2',dD]
theorem CU {y m:Nat} (h1:1≤m) (h2:m≤12):28≤bP y m:=by
 have : m=1∨m=2∨m=3∨m=4∨m=5∨m=6∨m=7∨m=8∨m=9∨m=10∨m=11∨m=12:=by omega
 rcases this with rfl | rfl | rfl | rfl | rfl | rfl | rfl | rfl | rfl | rfl | rfl | rfl <;> simp only [bP] <;> (try split) <;> omega
def mG:Option Nat→D
 | some n => .bg [.int .i64 n,.aK]
 | none => .bg [.int .i64 0,EU 4]
def uo (y m d:Nat):Option Nat:=if 1900≤y∧y≤2199 then some (dayOf y m d) else none
theorem adv {y m d:Nat} (hy:y≤1000000) (h1:1≤m) (h2:m≤12) (hd:1≤d) (hd2:d≤bP y m):L.call xK [oH y m d]=some (mG (uo y m d)):=by
 unfold uo
 split
 ·rename_i h; exact adu h.1 h.2 h1 h2 hd hd2
 ·rename_i h; exact ak_ h hy h1 h2 hd
theorem ajL {y m:Nat} (hy:y≤1000000) (h1:1≤m) (h2:m≤12):L.call BP [.int .i64 y,.int .i64 m]=some (mG (uo y m (bP y m))):=by
 have hl:=sZ hy h1 h2
 have hp:=CU (y:=y) h1 h2
 have h:=adv hy h1 h2 (d:=bP y m) (by omega) (Nat.le_refl _)
 unfold oH at h
 generalize hr:uo y m (bP y m)=r at *
 generalize bP y m=l at *
 refine aN akV rfl (akL ..) ?_
 cases r <;> simp [Vz,hl,h,mG] at h ⊢ <;> simp [Vz,hl,h,mG]
theorem ah2 {y m d:Nat} (h:zk y m d):L.call wV [.int .i64 (dayOf y m d)]=some (.bool (decide (d=bP y m))):=by
 have hc:=vM h
 have hl:=sZ (y:=y) (m:=m) (by have := h.y2; omega) h.m1 h.m2
 unfold oH at hc
 generalize dayOf y m d=day at *
 generalize bP y m=l at *
 refine aN aiK rfl (aiC ..) ?_
 have : ((d:Int)=l)↔d=l:=by omega
 by_cases hdl:d=l <;> simp [aaq,hc,hl,hdl,this]
def Kr (y m d:Nat) (n:Int) (e:Bool):Option Nat :=
 if -3600≤n∧n≤3600 then
  (let a:=((y*12+m-1:Nat):Int)+n
   let y':=(a / 12).toNat
   let m':=(a % 12).toNat+1
   uo y' m' (if e=true∧d=bP y m then bP y' m' else min d (bP y' m')))
 else none
set_option maxHeartbeats 1000000 in
theorem ajK {y m d:Nat} (h:zk y m d) (n:Int) (e:Bool):L.call qo [.int .i64 (dayOf y m d),.int .i64 n,.bool e]=some (mG (Kr y m d n e)):=by
 have hc:=vM h
 have hla:=ah2 h
 unfold oH at hc
 have h1:=h.y1
 have h2:=h.y2
 have h3:=h.m1
 have h4:=h.m2
 have h5:=h.d1
 have h6:=h.d2
 by_cases hn : -3600≤n∧n≤3600
 ·obtain ⟨a,ha⟩:∃ a:Nat,((y*12+m-1:Nat):Int)+n=a:=⟨(((y*12+m-1:Nat):Int)+n).toNat,by omega⟩
  have ha2:a≤1000000:=by omega
  have e1:IntKind.i64.wrap ((y:Int)*12)=((y*12:Nat):Int):=by rw [wrap64 _ (by omega)]; omega
  have e2:IntKind.i64.wrap (((y*12:Nat):Int)+m)=((y*12+m:Nat):Int):=by rw [wrap64 _ (by omega)]; omega
  have e3:IntKind.i64.wrap (((y*12+m:Nat):Int)-1)=((y*12+m-1:Nat):Int):=by rw [wrap64 _ (by omega)]; omega
  have e4:IntKind.i64.wrap (((y*12+m-1:Nat):Int)+n)=(a:Int):=by rw [ha,wrap64 _ (by omega)]
  have q1:=Dq a 12
  have q2:=yK a 12
  simp at q1 q2
  have e5:IntKind.i64.wrap ((a:Int) / 12)=((a / 12:Nat):Int):=by rw [wrap64 _ (by omega)]; omega
  have e6:IntKind.i64.wrap ((a:Int) % 12+1)=((a % 12+1:Nat):Int):=by rw [wrap64 _ (by omega)]; omega
  have hA:Kr y m d n e=uo (a / 12) (a % 12+1) (if e=true∧d=bP y m then bP (a / 12) (a % 12+1) else min d (bP (a / 12) (a % 12+1))):=by
   unfold Kr
   rw [if_pos hn]
   simp only [ha]
   have : ((a:Int) / 12).toNat=a / 12:=by omega
   have : ((a:Int) % 12).toNat=a % 12:=by omega
   simp only [*]
  rw [hA]
  have hy':a / 12≤1000000:=by omega
  have hm':1≤a % 12+1∧a % 12+1≤12:=by omega
  have hEnd:=ajL hy' hm'.1 hm'.2
  have hLen:=sZ hy' hm'.1 hm'.2
  have hp:=CU (y:=a / 12) hm'.1 hm'.2
  have hmk:=adv hy' hm'.1 hm'.2 (d:=min d (bP (a / 12) (a % 12+1))) (by omega) (by omega)
  unfold oH at hmk
  have hmin:min (d:Int) (bP (a / 12) (a % 12+1))=((min d (bP (a / 12) (a % 12+1)):Nat):Int):=by omega
  have hg1:¬ n < -3600:=by omega
  have hg2:¬ 3600<n:=by omega
  generalize y*12+m-1=b1 at *
  generalize y*12+m=b2 at *
  generalize y*12=b3 at *
  generalize a % 12+1=m' at *
  generalize a / 12=y' at *
  generalize dayOf y m d=day at *
  generalize bP y m=lm at *
  generalize hl':bP y' m'=l' at *
  by_cases hE:e=true∧d=lm
  ·obtain ⟨rfl,hdl⟩:=hE
   rw [if_pos ⟨rfl,hdl⟩]
   rw [decide_eq_true hdl] at hla
   generalize uo y' m' l'=r at *
   cases r with
   | none =>
     simp [mG] at hEnd
     refine aN DN rfl (DL ..) ?_
     simp (config:={maxSteps:=1000000}) [qR,hc,hg1,hg2,e1,e2,e3,e4,q1,q2,e5,e6,hla,hEnd,mG]
   | some r =>
     simp [mG] at hEnd
     refine aN DN rfl (DL ..) ?_
     simp (config:={maxSteps:=1000000}) [qR,hc,hg1,hg2,e1,e2,e3,e4,q1,q2,e5,e6,hla,hEnd,mG]
  ·rw [if_neg hE]
   generalize min d l'=dm at *
   have hla':e=true→L.call wV [.int .i64 day]=some (.bool false):=fun he=>by
    rw [hla,decide_eq_false (fun h=>hE ⟨he,h⟩)]
   generalize uo y' m' dm=r at *
   cases r with
   | none =>
     simp [mG] at hmk
     refine aN DN rfl (DL ..) ?_
     cases e with
     | false=>simp (config:={maxSteps:=1000000}) [qR,hc,hg1,hg2,e1,e2,e3,e4,q1,q2,e5,e6,hLen,hmin,hmk,mG]
     | true=>simp (config:={maxSteps:=1000000}) [qR,hc,hg1,hg2,e1,e2,e3,e4,q1,q2,e5,e6,hla' rfl,hLen,hmin,hmk,mG]
   | some r =>
     simp [mG] at hmk
     refine aN DN rfl (DL ..) ?_
     cases e with
     | false=>simp (config:={maxSteps:=1000000}) [qR,hc,hg1,hg2,e1,e2,e3,e4,q1,q2,e5,e6,hLen,hmin,hmk,mG]
     | true=>simp (config:={maxSteps:=1000000}) [qR,hc,hg1,hg2,e1,e2,e3,e4,q1,q2,e5,e6,hla' rfl,hLen,hmin,hmk,mG]
 ·have hA:Kr y m d n e=none:=by unfold Kr; rw [if_neg hn]
  rw [hA]
  generalize dayOf y m d=day at *
  refine aN DN rfl (DL ..) ?_
  by_cases hg1:n < -3600
  ·simp (config:={maxSteps:=1000000}) [qR,hc,hg1,dD,mG]
  ·have hg2:3600<n:=by omega
   simp (config:={maxSteps:=1000000}) [qR,hc,hg1,hg2,dD,mG]
theorem ah1 {day:Int} (h:¬ (0≤day∧day≤109572)) (n:Int) (e:Bool):L.call qo [.int .i64 day,.int .i64 n,.bool e]=some (.bg [.int .i64 0,EU 4]):=by
 have hc:=Wh h
 unfold oH at hc
 refine aN DN rfl (DL ..) ?_
 simp at hc
 simp (config:={maxSteps:=1000000}) [qR,hc]
theorem acN {y m d y' m' d':Nat} (h:zk y m d) (h':zk y' m' d'):L.call kX [.int .i64 (dayOf y m d),.int .i64 (dayOf y' m' d')]=some (.int .i64 (((y'*12+m':Nat):Int)-((y*12+m:Nat):Int))):=by
 have hc:=vM h
 have hc':=vM h'
 unfold oH at hc hc'
 have h1:=h.y1
 have h2:=h.y2
 have h3:=h.m2
 have h1':=h'.y1
 have h2':=h'.y2
 have h3':=h'.m2
 generalize dayOf y m d=day at *
 generalize dayOf y' m' d'=day' at *
 have hr:((y'*12+m':Nat):Int)-((y*12+m:Nat):Int)=((y':Int)-y)*12+m'-m:=by omega
 rw [hr]
 have e1:IntKind.i64.wrap ((y':Int)-y)=(y':Int)-y:=wrap64 _ (by omega)
 have e2:IntKind.i64.wrap (((y':Int)-y)*12)=((y':Int)-y)*12:=wrap64 _ (by omega)
 have e3:IntKind.i64.wrap (((y':Int)-y)*12+m')=((y':Int)-y)*12+m':=wrap64 _ (by omega)
 have e4:IntKind.i64.wrap (((y':Int)-y)*12+m'-m)=((y':Int)-y)*12+m'-m:=wrap64 _ (by omega)
 generalize hk4:((y':Int)-y)*12+m'-m=k4 at *
 rw [← hk4]
 refine aN ada rfl (ac8 ..) ?_
 simp [U1,hc,hc',e1,e2,e3]
 rw [hk4]; exact e4
end Go.Ev.Code
end
section
namespace Go.Ev.Code
open Go Go.Ev
def ai2:Nat→Nat→Nat→Nat
 | 0,y,_=>y
 | f+1,y,day=>if dQ (y+1)≤day then ai2 f (y+1) day else y
def ai0:Nat→Nat→Nat→Nat→Nat×Nat
 | 0,_,m,r=>(m,r)
 | f+1,y,m,r=>if bP y m≤r then ai0 f y (m+1) (r-bP y m) else (m,r)
def lQ (day:Nat):Nat×Nat×Nat :=
 let y:=ai2 300 (1900+day / 366) day
 let r:=ai0 12 y 1 (day-dQ y)
 (y,r.1,r.2+1)
theorem atw {day y:Nat} (h1:dQ y≤day) (h2:day<dQ (y+1)):∀ (f x:Nat),x≤y→y<x+f→1900≤x→ai2 f x day=y:=by
 intro f
 induction f with
 | zero=>intro x hx hf; omega
 | succ f ih =>
   intro x hx hf h19
   simp only [ai2]
   rcases Nat.lt_or_ge x y with h | h
   ·have := Me (x:=x+1) (y:=y) (by omega) h
    rw [if_pos (by omega)]
    exact ih (x+1) h (by omega) (by omega)
   ·have : x=y:=by omega
    subst this
    rw [if_neg (by omega)]
theorem atv {y m d:Nat} (hd:d<bP y m):∀ (f k:Nat),1≤k→k≤m→m<k+f→ai0 f y k (dw y (m-1)+d-dw y (k-1))=(m,d):=by
 intro f
 induction f with
 | zero=>intro k h1 h2 h3; omega
 | succ f ih =>
   intro k h1 h2 h3
   simp only [ai0]
   rcases Nat.lt_or_ge k m with h | h
   ·have hc:dw y (k-1)+bP y k=dw y k:=by
     obtain ⟨q,rfl⟩:∃ q,k=q+1:=⟨k-1,by omega⟩
     simp only [dw,Nat.add_sub_cancel]
    have hm:=Rj y (j:=k) (k:=m-1) (by omega)
    have := ih (k+1) (by omega) (by omega) (by omega)
    rw [Nat.add_sub_cancel,← hc,← Nat.sub_sub] at this
    rw [if_pos (by omega)]
    exact this
   ·have : k=m:=by omega
    subst this
    rw [show dw y (k-1)+d-dw y (k-1)=d by omega,if_neg (by omega)]
theorem Xi {y m d:Nat} (h:zk y m d):lQ (dayOf y m d)=(y,m,d):=by
 have h1:=h.y1
 have h2:=h.y2
 have hd1:=h.d1
 have hd2:=h.d2
 have hm1:=h.m1
 have hm2:=h.m2
 have h366:=al3 (y:=y+1) (by omega)
 have hhi:=h.hi
 unfold lQ
 have hy:ai2 300 (1900+dayOf y m d / 366) (dayOf y m d)=y:=atw h.lo h.hi 300 _ (by omega) (by omega) (by omega)
 rw [hy]
 have hr:dayOf y m d-dQ y=dw y (m-1)+(d-1):=by unfold dayOf; omega
 have hm:ai0 12 y 1 (dayOf y m d-dQ y)=(m,d-1):=by
  rw [hr]
  have := atv (y:=y) (m:=m) (d:=d-1) (by omega) 12 1 (by omega) hm1 (by omega)
  simpa [dw] using this
 simp only [hm]
 rw [show d-1+1=d by omega]
abbrev bn (n:Int):Prop:=0≤n∧n≤109572
theorem dU {n:Int} (h:bn n):∃ y m d,zk y m d∧n=(dayOf y m d:Nat)∧lQ n.toNat=(y,m,d):=by
 obtain ⟨y,m,d,hc,hd⟩:=avw (day:=n.toNat) (by omega)
 refine ⟨y,m,d,hc,by omega,?_⟩
 rw [← hd,Xi hc]
def r_ (day n:Int) (e:Bool):Option Nat:=if bn day then Kr (lQ day.toNat).1 (lQ day.toNat).2.1 (lQ day.toNat).2.2 n e else none
theorem Vh (day n:Int) (e:Bool):L.call qo [.int .i64 day,.int .i64 n,.bool e]=some (mG (r_ day n e)):=by
 unfold r_
 by_cases h:bn day
 ·obtain ⟨y,m,d,hc,hd,ho⟩:=dU h
  rw [if_pos h,ho]
  rw [hd]
  exact ajK hc n e
 ·rw [if_neg h]
  exact ah1 h n e
def sV (a b:Int):Int:=(((lQ b.toNat).1*12+(lQ b.toNat).2.1:Nat):Int)-(((lQ a.toNat).1*12+(lQ a.toNat).2.1:Nat):Int)
theorem UC {a b:Int} (ha:bn a) (hb:bn b):L.call kX [.int .i64 a,.int .i64 b]=some (.int .i64 (sV a b)):=by
 obtain ⟨y,m,d,hc,hd,ho⟩:=dU ha
 obtain ⟨y',m',d',hc',hd',ho'⟩:=dU hb
 unfold sV
 rw [ho,ho',hd,hd']
 exact acN hc hc'
theorem ajJ {y m d n:Nat} (h1:1≤m) (h2:m≤12) (hd:1≤d) (hd2:d≤bP y m) (h:uo y m d=some n):zk y m d∧n=dayOf y m d:=by
 unfold uo at h
 split at h <;> simp at h
 rename_i hy
 exact ⟨⟨hy.1,hy.2,h1,h2,hd,hd2⟩,h.symm⟩
theorem EL {day n:Int} {e:Bool} {r:Nat} (h:r_ day n e=some r):bn r:=by
 unfold r_ at h
 split at h <;> try (simp at h; done)
 rename_i hd
 obtain ⟨y,m,d,hc,hd,ho⟩:=dU hd
 rw [ho] at h
 unfold Kr at h
 split at h <;> try (simp at h; done)
 simp only at h
 have hm:=h
 have h12:1≤((((y*12+m-1:Nat):Int)+n) % 12).toNat+1∧((((y*12+m-1:Nat):Int)+n) % 12).toNat+1≤12:=by omega
 generalize ((((y*12+m-1:Nat):Int)+n) % 12).toNat+1=m' at *
 generalize ((((y*12+m-1:Nat):Int)+n) / 12).toNat=y' at *
 have hp:=CU (y:=y') h12.1 h12.2
 have hd1:=hc.d1
 obtain ⟨q1,q2⟩:=ajJ h12.1 h12.2 (by split <;> omega) (by split <;> omega) hm
 have := q1.le
 rw [← q2] at this
 constructor <;> omega
end Go.Ev.Code
end
section
namespace Go.Ev.Code
open Go Go.Ev
def jf (c:Int) (s:List UInt8):D := .iface jY (.ref [.int .i64 c,.str s,.aK] 0)
theorem BD {c:Int} (h:c≠0) (s:List UInt8):L.call iw [.int .i64 c,.str s]=some (jf c s):=by
 refine aN akU rfl (akK ..) ?_
 unfold jf
 simp [abT,h]
def aes:List UInt8:=[105,115,115,117,101]
def vG:List UInt8:=[109,97,116,117,114,101]
def D7:List UInt8:=[99,111,117,112,111,110]
def D8:List UInt8:=[114,101,100,101,101,109]
def U4:List UInt8:=[102,114,101,113]
def SG:List UInt8:=[99,111,117,110,116]
def Eu:List UInt8:=[115,116,117,98]
def tEx:List UInt8:=[101,120]
def aau:List UInt8:=[102,108,111,119,115]
structure aQ where
 issue:Int
 b_:Int
 d_:Int
 dH:List UInt8
 dM:List UInt8
 count:Int
 stub:Int
 ends:Bool
 ex:Int
def aO (b:aQ):List D:=[.int .i64 b.issue,.int .i64 b.b_,.int .i64 b.d_,.str b.dH,.str b.dM,.int .i64 b.count,.int .i64 b.stub,.bool b.ends,.int .i64 b.ex]
abbrev aX (b:aQ):D := .agg (aO b)
def months (b:aQ):Int:=if b.d_=1 then 12 else if b.d_=2 then 6 else if b.d_=4 then 3 else if b.d_=12 then 1 else 0
theorem MC (b:aQ):L.call nN [aX b]=some (.int .i64 (months b)):=by
 obtain ⟨i,m,f,c,r,n,s,e,x⟩:=b
 unfold months aX aO
 refine aN ahp rfl (agZ ..) ?_
 simp only
 by_cases h1:f=1
 ·subst h1; simp [zi,wrap64]
 by_cases h2:f=2
 ·subst h2; simp [zi,wrap64]
 by_cases h4:f=4
 ·subst h4; simp [zi,wrap64]
 by_cases h12:f=12
 ·subst h12; simp [zi,wrap64]
 ·simp [zi,h1,h2,h4,h12]
abbrev Err:=Option (Int×List UInt8)
def fE:Err→D
 | none => .aK
 | some (c,s)=>jf c s
def zu (b:aQ):Err :=
 if ¬ bn b.issue then some (4,aes) else if ¬ bn b.b_ then some (4,vG) else if b.b_≤b.issue then some (5,vG) else
  match r_ b.issue 360 false with
  | some e=>if (e:Int)<b.b_ then some (5,vG) else none
  | none=>none
theorem ac2 {n:Int}:aaC n<0↔¬ bn n:=by
 unfold aaC
 split
 ·rename_i h; constructor
  ·intro h1; omega
  ·intro h1; exact absurd h h1
 ·rename_i h; simp [h]
theorem aiT (b:aQ):L.call EM [aX b]=some (fE (zu b)):=by
 obtain ⟨i,m,f,c,r,n,s,e,x⟩:=b
 have w1:=En i
 have w2:=En m
 have n1 := @ac2 i
 have n2 := @ac2 m
 have ha:=Vh i 360 false
 have f1:=fun s=>BD (c:=4) (by decide) s
 have f2:=fun s=>BD (c:=5) (by decide) s
 unfold zu aX aO
 simp only
 generalize aaC i=wi at *
 generalize aaC m=wm at *
 refine aN akQ rfl (akG ..) ?_
 by_cases h1:bn i
 ·have g1:¬ wi<0:=fun h=>(n1.1 h) h1
  by_cases h2:bn m
  ·have g2:¬ wm<0:=fun h=>(n2.1 h) h2
   by_cases h3:m≤i
   ·rw [if_neg (fun h=>h h1),if_neg (fun h=>h h2),if_pos h3]
    simp [AA,w1,w2,g1,g2,h3,f2,fE,vG,jf]
   ·rw [if_neg (fun h=>h h1),if_neg (fun h=>h h2),if_neg h3]
    generalize r_ i 360 false=r at *
    cases r with
    | none=>simp [mG] at ha; simp [AA,w1,w2,g1,g2,h3,ha,fE]
    | some e =>
      simp [mG] at ha
      by_cases h4:(e:Int)<m
      ·simp [AA,w1,w2,g1,g2,h3,ha,h4,f2,fE,vG,jf]
      ·simp [AA,w1,w2,g1,g2,h3,ha,h4,fE]
  ·have g2:wm<0:=n2.2 h2
   rw [if_neg (fun h=>h h1),if_pos h2]
   simp [AA,w1,w2,g1,g2,f1,fE,vG,jf]
 ·have g1:wi<0:=n1.2 h1
  rw [if_pos h1]
  simp [AA,w1,g1,f1,fE,aes,jf]
end Go.Ev.Code
end
section
namespace Go.Ev.Code
open Go Go.Ev
theorem PN {n:Int} (h : -9223372036854775808≤n∧n≤9223372036854775807):L.call uS [.int .i64 n]=some (dV (Rat.divInt n 1)):=by
 have := Fq h (d:=1) (by omega) (by omega)
 refine aN aoA rfl (aor ..) ?_
 simp [agE,this]
def X5:Option (Rat×Nat)→D
 | some (q,n) => .bg [dV q,.bool (decide (n≤6)),.aK]
 | none => .bg [.aY,.bool true,EU 1]
theorem Ib {s:List UInt8} (h:s.length≤1000000):L.call t_ [.str s]=some (X5 (yL s)):=by
 have hg:=adw h
 generalize yL s=r at *
 refine aN aiH rfl (aiy ..) ?_
 cases r with
 | none=>simp [Jh] at hg; simp [Sj,hg,X5]
 | some qn =>
   obtain ⟨q,n⟩:=qn
   simp [Jh] at hg
   have : ((n:Int)≤6)↔n≤6:=by omega
   simp [Sj,hg,X5,this]
theorem Xn {s:List UInt8} {q:Rat} {n:Nat} (h:yL s=some (q,n)):RB 400 q∧n≤20:=by
 unfold yL at h
 split at h <;> try (simp at h; done)
 rename_i hs
 unfold ET at h
 split at h <;> try (simp at h; done)
 rename_i hc
 simp at h
 obtain ⟨rfl,rfl⟩:=h
 obtain ⟨h1,h2,h3⟩:=hc
 have hl:=U3 s
 have hb:=Xl 46 (iY s).2
 have hf := @Cm 46 (iY s).2
 generalize (je 46 (iY s).2).1=w at *
 generalize (je 46 (iY s).2).2.1=r at *
 generalize (je 46 (iY s).2).2.2=p at *
 have hr:r.length≤20∧r.all jH=true:=by
  cases p with
  | true=>exact (h2 rfl).2
  | false=>rw [(hf rfl).2]; simp
 have had:(w++r).all jH=true:=by rw [List.all_append,h1.2.2.2,hr.2]; rfl
 have hv:NB 400 (cZ 0 (w++r)):=amn had (by simp; omega)
 refine ⟨xg ?_ ((ap8 r.length).mono (by omega)) (amF _),hr.1⟩
 split
 ·exact (IB.ofNat hv).neg
 ·exact IB.ofNat hv
theorem ai3 {a b:Rat}:0<Ve a b↔b<a:=by
 unfold Ve
 split
 ·rename_i h
  constructor
  ·intro h1; omega
  ·intro h1; exact absurd h1 (Rat.not_lt.2 (Rat.le_of_lt h))
 ·split
  ·rename_i h1 h2
   subst h2
   constructor
   ·intro h; omega
   ·intro h; exact absurd h h1
  ·rename_i h1 h2
   refine ⟨fun _=>?_,fun _=>by omega⟩
   exact Rat.lt_of_le_of_ne (Rat.not_lt.1 h1) (Ne.symm h2)
def q30:Rat:=Rat.divInt 30 1
def Vq:Rat:=Rat.divInt 200 1
theorem aoq {n:Int} {k:Nat} (h:IB k n) (hk:1≤k):RB k (Rat.divInt n 1):=xg h ((show IB 1 1 by unfold IB NB; decide).mono hk) (by decide)
def Ag (b:aQ):Err:=match yL b.dH with
 | none=>some (1,D7)
 | some (q,n)=>if ¬ n≤6∨q.num<0∨q30<q then some (5,D7) else match yL b.dM with
   | none=>some (1,D8)
   | some (r,k)=>if ¬ k≤6∨r.num≤0∨Vq<r then some (5,D8) else none
theorem auC {z:Int}:z.sign≤0↔z≤0:=by
 rcases Int.lt_trichotomy z 0 with h | h | h
 ·rw [Int.sign_eq_neg_one_of_neg h]; omega
 ·subst h; simp
 ·rw [Int.sign_eq_one_of_pos h]; omega
theorem aiU {b:aQ} (hc:b.dH.length≤1000000) (hr:b.dM.length≤1000000):L.call EN [aX b]=some (fE (Ag b)):=by
 obtain ⟨i,m,f,c,r,n,s,e,x⟩:=b
 simp only at hc hr
 have v1:=Ib hc
 have v2:=Ib hr
 have f1:=fun s=>BD (c:=1) (by decide) s
 have f2:=fun s=>BD (c:=5) (by decide) s
 have o1:=PN (n:=30) (by omega)
 have o2:=PN (n:=200) (by omega)
 have b1:RB 400 q30:=(aoq (k:=10) (by unfold IB NB; decide) (by decide)).mono (by decide)
 have b2:RB 400 Vq:=(aoq (k:=10) (by unfold IB NB; decide) (by decide)).mono (by decide)
 change L.call uS [.int .i64 30]=some (dV q30) at o1
 change L.call uS [.int .i64 200]=some (dV Vq) at o2
 have d1 := @Xn c
 have d2 := @Xn r
 unfold Ag aX aO
 simp only
 generalize yL c=dc at *
 generalize yL r=dr at *
 refine aN akR rfl (akH ..) ?_
 cases dc with
 | none=>simp [X5] at v1; simp [qP,v1,f1,fE,jf,D7]
 | some qn =>
   obtain ⟨q,k⟩:=qn
   simp [X5] at v1
   have cq:=Ql (d1 rfl).1 b1 (by omega)
   have sq:=Vt q
   have pq := @ai3 q q30
   have nq := @sign_neg q.num
   simp only
   generalize Ve q q30=cm at *
   generalize q.num.sign=sg at *
   by_cases h1:k≤6
   ·by_cases h2:q.num<0
    ·rw [if_pos (.inr (.inl h2))]
     have g2:=nq.2 h2
     simp [qP,v1,f2,h1,sq,g2,fE,jf,D7]
    ·have g2:¬ sg<0:=fun h=>h2 (nq.1 h)
     by_cases h3:q30<q
     ·rw [if_pos (.inr (.inr h3))]
      have g3:=pq.2 h3
      simp [qP,v1,f2,h1,sq,g2,o1,cq,g3,fE,jf,D7]
     ·have g3:¬ 0<cm:=fun h=>h3 (pq.1 h)
      rw [if_neg (fun h=>by rcases h with h | h | h <;> contradiction)]
      cases dr with
      | none =>
        simp [X5] at v2
        simp [qP,v1,v2,f1,h1,sq,g2,o1,cq,g3,fE,jf,D8]
      | some rn =>
        obtain ⟨r',k'⟩:=rn
        simp [X5] at v2
        have cr:=Ql (d2 rfl).1 b2 (by omega)
        have sr:=Vt r'
        have pr := @ai3 r' Vq
        have nr := @auC r'.num
        simp only
        generalize Ve r' Vq=cm' at *
        generalize r'.num.sign=sg' at *
        by_cases h4:k'≤6
        ·by_cases h5:r'.num≤0
         ·rw [if_pos (.inr (.inl h5))]
          have g5:=nr.2 h5
          simp [qP,v1,v2,f2,h1,sq,g2,o1,cq,g3,h4,sr,g5,fE,jf,D8]
         ·have g5:¬ sg'≤0:=fun h=>h5 (nr.1 h)
          by_cases h6:Vq<r'
          ·rw [if_pos (.inr (.inr h6))]
           have g6:=pr.2 h6
           simp [qP,v1,v2,f2,h1,sq,g2,o1,cq,g3,h4,sr,g5,o2,cr,g6,fE,jf,D8]
          ·have g6:¬ 0<cm':=fun h=>h6 (pr.1 h)
           rw [if_neg (fun h=>by rcases h with h | h | h <;> contradiction)]
           simp [qP,v1,v2,f2,h1,sq,g2,o1,cq,g3,h4,sr,g5,o2,cr,g6,fE]
        ·rw [if_pos (.inl h4)]
         simp [qP,v1,v2,f2,h1,sq,g2,o1,cq,g3,h4,fE,jf,D8]
   ·rw [if_pos (.inl h1)]
    simp [qP,v1,f2,h1,fE,jf,D7]
end Go.Ev.Code
end
section
namespace Go.Ev.Code
open Go Go.Ev
theorem Rh (n:Int):L.call zq [.int .i64 n]=some (.bool (decide (1≤n∧n≤4))):=by
 refine aN akS rfl (akI ..) ?_
 by_cases h:1≤n
 ·by_cases h':n≤4 <;> simp [Vy,h,h']
 ·simp [Vy,h]
def RG (b:aQ):Int:=(sV b.issue b.b_).tdiv (months b)+2
def chk (b:aQ):Err:=match zu b with
 | some e=>some e
 | none=>if months b=0 then some (5,U4) else match Ag b with
   | some e=>some e
   | none=>if ¬ (1≤b.count∧b.count≤4) then some (5,SG) else if b.stub<0∨2<b.stub then some (5,Eu) else if b.ex<0∨30<b.ex then some (5,tEx)
     else if 200<RG b then some (5,aau) else none
theorem Kv {b:aQ} (h:zu b=none):bn b.issue∧bn b.b_∧b.issue<b.b_:=by
 unfold zu at h
 split at h <;> try (simp at h; done)
 split at h <;> try (simp at h; done)
 split at h <;> try (simp at h; done)
 exact ⟨by rename_i a _ _; exact Classical.not_not.1 a,by rename_i _ a _; exact Classical.not_not.1 a,by omega⟩
theorem ai1 {n:Int} (h:bn n):1900≤(lQ n.toNat).1∧(lQ n.toNat).1≤2199∧1≤(lQ n.toNat).2.1∧(lQ n.toNat).2.1≤12:=by
 obtain ⟨y,m,d,hc,hd,ho⟩:=dU h
 rw [ho]
 exact ⟨hc.y1,hc.y2,hc.m1,hc.m2⟩
theorem al4 {a b:Int} (ha:bn a) (hb:bn b) : -4000≤sV a b∧sV a b≤4000:=by
 have h1:=ai1 ha
 have h2:=ai1 hb
 unfold sV
 omega
theorem rC (b:aQ):months b=0∨months b=1∨months b=3∨months b=6∨months b=12:=by
 unfold months
 split
 ·omega
 ·split
  ·omega
  ·split
   ·omega
   ·split <;> omega
theorem amE {a m:Int} (ha : -4000≤a∧a≤4000) (hm:m=1∨m=3∨m=6∨m=12) : -4000≤a.tdiv m∧a.tdiv m≤4000:=by
 rcases Int.le_total 0 a with h | h
 ·rw [Int.tdiv_eq_ediv_of_nonneg h]
  rcases hm with rfl | rfl | rfl | rfl <;> omega
 ·obtain ⟨k,rfl⟩:∃ k:Int,a = -k:=⟨-a,by omega⟩
  rw [Int.neg_tdiv,Int.tdiv_eq_ediv_of_nonneg (by omega)]
  rcases hm with rfl | rfl | rfl | rfl <;> omega
theorem Dv {b:aQ} (hc:b.dH.length≤1000000) (hr:b.dM.length≤1000000):L.call nV [aX b]=some (fE (chk b)):=by
 have c1:=aiT b
 have c2:=MC b
 have c3:=aiU hc hr
 have c4:=Rh b.count
 have c5:bn b.issue→bn b.b_→L.call kX [.int .i64 b.issue,.int .i64 b.b_]=some (.int .i64 (sV b.issue b.b_)):=UC
 have n1 := @Kv b
 have f2:=fun s=>BD (c:=5) (by decide) s
 have hmc:=rC b
 have hbb := @al4 b.issue b.b_
 unfold chk RG
 generalize zu b=de at *
 generalize Ag b=se at *
 generalize months b=mo at *
 obtain ⟨i,m,f,c,r,n,s,e,x⟩:=b
 unfold aX aO at *
 simp only at *
 refine aN aiG rfl (aix ..) ?_
 cases de with
 | some er=>obtain ⟨ec,es⟩:=er; simp [fE,jf] at c1; simp [nH,c1,fE,jf]
 | none =>
   obtain ⟨d1,d2,d3⟩:=n1 rfl
   have c5:=c5 d1 d2
   have hbb:=hbb d1 d2
   simp [fE] at c1
   by_cases h0:mo=0
   ·simp [nH,c1,c2,h0,f2,fE,jf,U4]
   ·have hq:=amE hbb (show mo=1∨mo=3∨mo=6∨mo=12 by omega)
    simp only [if_neg h0]
    cases se with
    | some er=>obtain ⟨ec,es⟩:=er; simp [fE,jf] at c3; simp [nH,c1,c2,h0,c3,fE,jf]
    | none =>
      simp [fE] at c3
      simp only
      by_cases h1:1≤n∧n≤4
      ·rw [if_neg (fun h=>h h1)]
       rw [decide_eq_true h1] at c4
       by_cases h2:s<0
       ·rw [if_pos (.inl h2)]
        simp [nH,c1,c2,h0,c3,c4,h2,f2,fE,jf,Eu]
       by_cases h2':2<s
       ·rw [if_pos (.inr h2')]
        simp [nH,c1,c2,h0,c3,c4,h2,h2',f2,fE,jf,Eu]
       rw [if_neg (fun h=>by rcases h with h | h <;> contradiction)]
       by_cases h3:x<0
       ·rw [if_pos (.inl h3)]
        simp [nH,c1,c2,h0,c3,c4,h2,h2',h3,f2,fE,jf,tEx]
       by_cases h3':30<x
       ·rw [if_pos (.inr h3')]
        simp [nH,c1,c2,h0,c3,c4,h2,h2',h3,h3',f2,fE,jf,tEx]
       rw [if_neg (fun h=>by rcases h with h | h <;> contradiction)]
       have e1:IntKind.i64.wrap ((sV i m).tdiv mo)=(sV i m).tdiv mo:=wrap64 _ (by omega)
       have e2:IntKind.i64.wrap ((sV i m).tdiv mo+2)=(sV i m).tdiv mo+2:=wrap64 _ (by omega)
       obtain ⟨t,ht⟩:∃ t,(sV i m).tdiv mo=t:=⟨_,rfl⟩
       rw [ht] at e1 e2 hq ⊢
       obtain ⟨pp,hpp⟩:∃ pp,t+2=pp:=⟨_,rfl⟩
       have e2:IntKind.i64.wrap (t+2)=pp:=by rw [e2,hpp]
       rw [hpp]
       by_cases h4:200<pp
       ·simp [nH,c1,c2,h0,c3,c4,h2,h2',h3,h3',c5,ht,e1,e2,h4,f2,fE,jf,aau]
       ·simp [nH,c1,c2,h0,c3,c4,h2,h2',h3,h3',c5,ht,e1,e2,h4,fE]
      ·rw [if_pos h1]
       rw [decide_eq_false h1] at c4
       simp [nH,c1,c2,h0,c3,c4,f2,fE,jf,SG]
def q0:Rat:=Rat.divInt 0 1
def LZ (b:aQ):Rat:=match chk b with
 | some _=>q0
 | none=>match yL b.dH with | some (q,_)=>q | none=>q0
def mO (b:aQ):Rat:=match chk b with
 | some _=>q0
 | none=>match yL b.dM with | some (q,_)=>q | none=>q0
theorem dX {b:aQ} (h:chk b=none):zu b=none∧months b≠0∧Ag b=none:=by
 unfold chk at h
 split at h <;> try (simp at h; done)
 rename_i hd
 split at h <;> try (simp at h; done)
 rename_i hm
 split at h <;> try (simp at h; done)
 rename_i hs
 exact ⟨hd,hm,hs⟩
theorem XY {b:aQ} (h:Ag b=none):∃ q n r k,yL b.dH=some (q,n)∧yL b.dM=some (r,k)∧n≤6∧0≤q.num∧¬ q30<q∧k≤6∧0<r.num∧¬ Vq<r:=by
 unfold Ag at h
 split at h <;> try (simp at h; done)
 rename_i q n hq
 split at h <;> try (simp at h; done)
 rename_i h1
 split at h <;> try (simp at h; done)
 rename_i r k hr
 split at h <;> try (simp at h; done)
 rename_i h2
 refine ⟨q,n,r,k,hq,hr,?_,?_,?_,?_,?_,?_⟩
 ·exact Classical.not_not.1 fun h=>h1 (.inl h)
 ·exact Int.not_lt.1 fun h=>h1 (.inr (.inl h))
 ·exact fun h=>h1 (.inr (.inr h))
 ·exact Classical.not_not.1 fun h=>h2 (.inl h)
 ·exact Int.not_le.1 fun h=>h2 (.inr (.inl h))
 ·exact fun h=>h2 (.inr (.inr h))
theorem FQ {b:aQ} (hc:b.dH.length≤1000000) (hr:b.dM.length≤1000000):L.call nM [aX b]=some (dV (LZ b)):=by
 have c1:=Dv hc hr
 have v1:=Ib hc
 have o1:=PN (n:=0) (by omega)
 change L.call uS [.int .i64 0]=some (dV q0) at o1
 have hs := @dX b
 have hss := @XY b
 unfold LZ
 generalize chk b=ck at *
 obtain ⟨i,m,f,c,r,n,s,e,x⟩:=b
 unfold aX aO at *
 simp only at *
 refine aN aho rfl (agY ..) ?_
 cases ck with
 | some er=>obtain ⟨ec,es⟩:=er; simp [fE,jf] at c1; simp [O7,c1,o1]
 | none =>
   obtain ⟨q,n,r,k,h1,_⟩:=hss (hs rfl).2.2
   rw [h1] at v1
   simp [X5] at v1
   simp [fE] at c1
   rw [h1]
   simp [O7,c1,v1]
theorem FT {b:aQ} (hc:b.dH.length≤1000000) (hr:b.dM.length≤1000000):L.call qJ [aX b]=some (dV (mO b)):=by
 have c1:=Dv hc hr
 have v1:=Ib hr
 have o1:=PN (n:=0) (by omega)
 change L.call uS [.int .i64 0]=some (dV q0) at o1
 have hs := @dX b
 have hss := @XY b
 unfold mO
 generalize chk b=ck at *
 obtain ⟨i,m,f,c,r,n,s,e,x⟩:=b
 unfold aX aO at *
 simp only at *
 refine aN ahq rfl (ag0 ..) ?_
 cases ck with
 | some er=>obtain ⟨ec,es⟩:=er; simp [fE,jf] at c1; simp [O8,c1,o1]
 | none =>
   obtain ⟨q,n,r,k,_,h1,_⟩:=hss (hs rfl).2.2
   rw [h1] at v1
   simp [X5] at v1
   simp [fE] at c1
   rw [h1]
   simp [O8,c1,v1]
end Go.Ev.Code
end
section
namespace Go.Ev.Code
open Go Go.Ev
def anch (b:aQ) (k:Nat):Option Nat:=r_ b.b_ (-(k:Int)*months b) b.ends
def Bv:Option Nat→D
 | some d => .int .i64 d
 | none => .int .i64 0
theorem BI (b:aQ) {k:Nat} (hk:k≤100000):L.call uF [aX b,.int .i64 k]=some (.bg [Bv (anch b k),.bool (anch b k).isSome]):=by
 have hm:=MC b
 have ha:=Vh b.b_ (-(k:Int)*months b) b.ends
 have hmc:=rC b
 have e1:IntKind.i64.wrap (0-(k:Int)) = -(k:Int):=by rw [wrap64 _ (by omega)]; omega
 have e2:IntKind.i64.wrap (-(k:Int)*months b) = -(k:Int)*months b:=by
  refine wrap64 _ ?_
  rcases hmc with h | h | h | h | h <;> rw [h] <;> omega
 unfold anch
 generalize hx : -(k:Int)*months b=x at *
 generalize hr:r_ b.b_ x b.ends=r at *
 generalize months b=mo at *
 obtain ⟨i,m,f,c,rd,n,s,e,ex⟩:=b
 unfold aX aO at *
 simp only at *
 refine aN ahI rfl (ahg ..) ?_
 have e1':IntKind.i64.wrap (-(k:Int)) = -(k:Int):=by rw [wrap64 _ (by omega)]
 have e2':IntKind.i64.wrap (-((k:Int)*mo))=x:=by rw [← e2,← hx,Int.neg_mul]
 have hx' : -((k:Int)*mo)=x:=by rw [← hx,Int.neg_mul]
 cases r with
 | none=>simp [mG] at ha; simp [Po,hm,e1,e1',e2,e2',hx,hx',ha,Bv]
 | some d=>simp [mG] at ha; simp [Po,hm,e1,e1',e2,e2',hx,hx',ha,Bv]
def ints (l:List Nat):List D:=l.map fun (n:Nat)=>D.int .i64 n
theorem yt (l:List Nat):(ints l).length=l.length:=by simp [ints]
theorem acJ (l:List Nat) (d:Nat):ints (l++[d])=ints l++[.int .i64 d]:=by simp [ints]
theorem Ap (l:List Nat) (b n:Nat):(ints l).all (D.clo b (n+1))=true:=by
 rw [List.all_eq_true]
 intro d hd
 simp only [ints,List.mem_map] at hd
 obtain ⟨x,_,rfl⟩:=hd
 rfl
def eH (b:aQ) (k:Nat):List Nat:=(List.range k).map fun i=>(anch b i).getD 0
theorem qU (b:aQ) (k:Nat):(eH b k).length=k:=by simp [eH]
theorem TV (b:aQ) (k:Nat):eH b (k+1)=eH b k++[(anch b k).getD 0]:=by simp [eH,List.range_succ]
def Goes (b:aQ) (k:Nat):Prop:=∃ d,anch b k=some d∧b.issue<(d:Int)
theorem aiS {b:aQ} {K:Nat} (hK:K≤90000) (hgo:∀ i,i<K→Goes b i) (hst:¬ Goes b K):∀ (j k:Nat),k+j=K→1≤k →
  L.loop [1,5,6] [2,3,4] oM 2 [.loc 1 0,.bf 2 0 k 1,.int .i64 k] [.live (aO b),.live (aO b),.live (ints (eH b k))] =
    some (.ret,[.bf 2 0 K 1,Bv (anch b K),.bool (anch b K).isSome],[.live (aO b),.live (aO b),.live (ints (eH b K))]):=by
 intro j
 induction j with
 | zero =>
   intro k hk h1
   have hkK:k=K:=by omega
   subst hkK
   have ha:=BI b (k:=k) (by omega)
   have hcl:=Ap (eH b k) 2 11
   have hl:(ints (eH b k)).length=k:=by rw [yt,qU]
   unfold Goes at hst
   generalize ints (eH b k)=l at *
   generalize hr:anch b k=r at *
   obtain ⟨i,m,f,c,rd,n,s,e,ex⟩:=b
   unfold aX aO at *
   simp only at *
   refine aJ (GK ..) ?_
   cases r with
   | none=>simp [Bv] at ha; simp [wG,ha,Bv,hcl]
   | some d =>
     have g:(d:Int)≤i:=by
      by_cases h:i<(d:Int)
      ·exact absurd ⟨d,rfl,h⟩ hst
      ·omega
     simp [Bv] at ha; simp [wG,ha,Bv,g,hcl]
 | succ j ih =>
   intro k hk h1
   have hn:=ih (k+1) (by omega) (by omega)
   have ha:=BI b (k:=k) (by omega)
   obtain ⟨d,hd,hdi⟩:=hgo k (by omega)
   rw [TV,hd,Option.getD_some,acJ] at hn
   rw [hd] at ha
   have hcl:=Ap (eH b k) 2 11
   have hl:(ints (eH b k)).length=k:=by rw [yt,qU]
   generalize ints (eH b k)=l at *
   generalize (anch b K).isSome=zb at *
   generalize Bv (anch b K)=zd at *
   generalize ints (eH b K)=lK at *
   have htk:l.take k=l:=List.take_of_length_le (by omega)
   have hlen:k+1≤4294967296:=by omega
   have e1:IntKind.i64.wrap ((k:Int)+1)=((k+1:Nat):Int):=by rw [wrap64 _ (by omega)]; omega
   obtain ⟨i,m,f,c,rd,n,s,e,ex⟩:=b
   unfold aX aO at *
   simp only at *
   simp [Bv] at ha hn
   have g:¬ (d:Int)≤i:=by omega
   refine aJ (GK ..) ?_
   simp [wG,ha,g,hcl,htk,hl,hlen,e1,iM,hn]
theorem am8 {b:aQ} {K:Nat} (hK:K≤90000) (h1:1≤K) (hgo:∀ i,i<K→Goes b i) (hst:¬ Goes b K) :
  L.bK yD [aX b] [.live (aO b)]=some (.bg [.bf 1 0 K 1,Bv (anch b K),.bool (anch b K).isSome],[.live (aO b),.live (ints (eH b K))]):=by
 have hl:L.loop [1,5,6] [2,3,4] oM 2 [.loc 1 0,.bH,.int .i64 0] [.live (aO b),.live (aO b)] =
   some (.ret,[.bf 2 0 K 1,Bv (anch b K),.bool (anch b K).isSome],[.live (aO b),.live (aO b),.live (ints (eH b K))]):=by
  have hn:=aiS hK hgo hst (K-1) 1 (by omega) (by omega)
  have ha:=BI b (k:=0) (by omega)
  obtain ⟨d,hd,hdi⟩:=hgo 0 (by omega)
  rw [show eH b 1=[(anch b 0).getD 0] by simp [eH],hd,Option.getD_some,show ((1:Nat):Int)=1 from rfl] at hn
  rw [hd] at ha
  generalize (anch b K).isSome=zb at *
  generalize Bv (anch b K)=zd at *
  generalize ints (eH b K)=lK at *
  obtain ⟨i,m,f,c,rd,n,s,e,ex⟩:=b
  unfold aX aO at *
  simp only at *
  simp [Bv,ints] at ha hn
  have g:¬ (d:Int)≤i:=by omega
  refine aJ (GK ..) ?_
  simp [wG,ha,g,iM,wrap64,hn]
 have hcl:=Ap (eH b K) 1 11
 have hz:Bv (anch b K) = .int .i64 ((anch b K).getD 0:Nat):=by cases anch b K <;> rfl
 rw [hz] at hl ⊢
 generalize (anch b K).isSome=zb at *
 generalize (anch b K).getD 0=zd at *
 have hlen:(ints (eH b K)).length=K:=by rw [yt,qU]
 generalize ints (eH b K)=lK at *
 obtain ⟨i,m,f,c,rd,n,s,e,ex⟩:=b
 unfold aX aO at *
 simp only at *
 refine qm aeS rfl (aeH ..) ?_
 simp [WR,hl,hcl]
end Go.Ev.Code
end
section
namespace Go.Ev.Code
open Go Go.Ev
def anu (b:aQ) (k:Nat):Bool:=match anch b k with
 | some d=>decide (b.issue<(d:Int))
 | none=>false
theorem agd (b:aQ) (k:Nat):anu b k=true↔Goes b k:=by
 unfold anu Goes
 cases anch b k with
 | none=>simp
 | some d=>simp
def aaO (b:aQ):Nat→Nat→Nat
 | 0,k=>k
 | f+1,k=>if anu b k=true then aaO b f (k+1) else k
def bT (b:aQ):Nat:=aaO b 3601 0
theorem ajk (b:aQ):∀ (f k:Nat),(∀ i,i<k→Goes b i)→¬ Goes b (k+f)→(∀ i,i<aaO b f k→Goes b i)∧¬ Goes b (aaO b f k)∧aaO b f k≤k+f
 | 0,k,h1,h2=>⟨h1,h2,Nat.le_refl _⟩
 | f+1,k,h1,h2=>by
   simp only [aaO]
   split
   ·rename_i hg
    have hg:=(agd b k).1 hg
    have := ajk b f (k+1) (fun i hi=>by
     rcases Nat.lt_or_ge i k with h | h
     ·exact h1 i h
     ·have : i=k:=by omega
      rw [this]; exact hg) (by rw [show k+1+f=k+(f+1) by omega]; exact h2)
    exact ⟨this.1,this.2.1,by omega⟩
   ·rename_i hg
    exact ⟨h1,fun h=>hg ((agd b k).2 h),by omega⟩
theorem aiO {y m d:Nat} {n:Int} {e:Bool} (h:¬ (-3600≤n∧n≤3600)):Kr y m d n e=none:=by unfold Kr; rw [if_neg h]
theorem aqA (b:aQ) (hm:months b≠0):¬ Goes b 3601:=by
 rintro ⟨d,hd,_⟩
 have hc:=rC b
 unfold anch r_ at hd
 split at hd
 ·rw [aiO (by rcases hc with h | h | h | h | h <;> rw [h] <;> omega)] at hd
  simp at hd
 ·simp at hd
theorem Ht {b:aQ} (hm:months b≠0):(∀ i,i<bT b→Goes b i)∧¬ Goes b (bT b)∧bT b≤3601:=by
 have := ajk b 3601 0 (fun i hi=>absurd hi (by omega)) (by rw [Nat.zero_add]; exact aqA b hm)
 exact ⟨this.1,this.2.1,Nat.le_trans this.2.2 (by decide)⟩
theorem aoN {day:Int} (h:bn day) (e:Bool):r_ day 0 e=some day.toNat:=by
 obtain ⟨y,m,d,hc,hd,ho⟩:=dU h
 unfold r_
 rw [if_pos h,ho]
 have h1:=hc.y1
 have h2:=hc.y2
 have h3:=hc.m1
 have h4:=hc.m2
 have h5:=hc.d2
 unfold Kr
 rw [if_pos (by omega)]
 have e1:((((y*12+m-1:Nat):Int)+0) / 12).toNat=y:=by omega
 have e2:((((y*12+m-1:Nat):Int)+0) % 12).toNat+1=m:=by omega
 simp only [e1,e2]
 unfold uo
 rw [if_pos ⟨h1,h2⟩]
 congr 1
 have : (if e=true∧d=bP y m then bP y m else min d (bP y m))=d:=by split <;> omega
 rw [this,hd]; omega
theorem TU {b:aQ} (h:bn b.b_):anch b 0=some b.b_.toNat:=by
 unfold anch
 rw [show (-((0:Nat):Int)*months b)=0 by simp]
 exact aoN h _
theorem JO {b:aQ} (h:chk b=none):1≤bT b:=by
 obtain ⟨h1,h2,h3⟩:=dX h
 obtain ⟨d1,d2,d3⟩:=Kv h1
 obtain ⟨k1,k2,k3⟩:=Ht h2
 rcases Nat.eq_zero_or_pos (bT b) with h0 | h0
 ·rw [h0] at k2
  exact absurd ⟨_,TU d2,by omega⟩ k2
 ·exact h0
def dZ:Int→List Nat→List (Int×Int)
 | _,[]=>[]
 | f,d::ds=>(f,(d:Int))::dZ d ds
def bI:List (Int×Int)→List D
 | []=>[]
 | (a,b)::ps => .int .i64 a :: .int .i64 b::bI ps
theorem acR (l r:List (Int×Int)):bI (l++r)=bI l++bI r:=by
 induction l with
 | nil=>rfl
 | cons x xs ih=>obtain ⟨a,b⟩:=x; simp [bI,ih]
theorem CZ (l:List (Int×Int)):(bI l).length=l.length*2:=by
 induction l with
 | nil=>rfl
 | cons x xs ih=>obtain ⟨a,b⟩:=x; simp [bI,ih]; omega
theorem jB (l:List (Int×Int)) (b n:Nat):(bI l).all (D.clo b (n+1))=true:=by
 induction l with
 | nil=>rfl
 | cons x xs ih=>obtain ⟨p,q⟩:=x; simp [bI]; simpa using ih
theorem Xx (f:Int) (l:List Nat):(dZ f l).length=l.length:=by
 induction l generalizing f with
 | nil=>rfl
 | cons x xs ih=>simp [dZ,ih]
theorem qE (a b:D):zeros 1 [a,b]=[a,b]:=by rfl
theorem ajU {b:aQ} {days:List Nat} {nx:Int} {is:Bool} (hd:days.length≤90000):∀ (rest pre:List Nat) (acc:List (Int×Int)) (fr:Int),days=pre++rest→acc≠[]→acc.length=pre.length →
  L.loop [1,6,7,8,9,27,28,29] [1,6,7,8] zY 2 [.loc 0 0,.int .i64 nx,.bool is,.bf 2 0 acc.length 2,.int .i64 fr,.bf 1 0 days.length 1,.int .i64 days.length,.int .i64 pre.length]
    [.live (aO b),.live (ints days),.live (bI acc)] =
    some (.exit 0,[.loc 0 0,.int .i64 nx,.bool is,.bf 2 0 days.length 2],[.live (aO b),.live (ints days),.live (bI (acc++dZ fr rest))]):=by
 have hcl:=Ap days 2 11
 have hbc:(aO b).all (D.clo 2 12)=true:=by obtain ⟨i,m,f,c,rd,n,s,e,ex⟩:=b; simp [aO]
 intro rest
 induction rest with
 | nil =>
   intro pre acc fr hdd hne hal
   have hpl:pre.length=days.length:=by rw [hdd]; simp
   rw [hal,hpl]
   have hpc:=jB acc 2 11
   simp only [dZ,List.append_nil]
   generalize aO b=B at *
   generalize bI acc=pc at *
   generalize hid:ints days=id at *
   generalize days.length=K at *
   refine aJ (QK ..) ?_
   simp [LJ,hcl,hbc,hpc]
 | cons d rest ih =>
   intro pre acc fr hdd hne hal
   have hn:=ih (pre++[d]) (acc++[(fr,(d:Int))]) d (by rw [hdd]; simp) (by simp) (by simp [hal])
   have hmk:acc++dZ fr (d::rest)=acc++[(fr,(d:Int))]++dZ d rest:=by simp [dZ]
   rw [← hmk] at hn
   have hlt:pre.length<days.length:=by rw [hdd]; simp
   have hget:(ints days)[pre.length]?=some (.int .i64 d):=by
    rw [hdd]; simp [ints]
   have hpc:=jB acc 2 11
   rw [acR] at hn
   have hpl:=CZ acc
   rw [show bI [(fr,(d:Int))]=[.int .i64 fr,.int .i64 d] from rfl] at hn
   have htk:(bI acc).take (acc.length*2)=bI acc:=List.take_of_length_le (by omega)
   have hil:(ints days).length=days.length:=yt days
   have e1:IntKind.i64.wrap ((pre.length:Int)+1)=((pre.length+1:Nat):Int):=by rw [wrap64 _ (by omega)]; omega
   have hlen:acc.length+1≤4294967296:=by omega
   rw [List.length_append,List.length_append] at hn
   simp only [List.length_singleton] at hn
   generalize bI (acc++dZ fr (d::rest))=pz at *
   generalize aO b=B at *
   generalize bI acc=pc at *
   generalize ints days=id at *
   generalize days.length=K at *
   generalize hA:acc.length=A at *
   generalize pre.length=P at *
   have hltI:(P:Int)<K:=by omega
   simp at hn
   refine aJ (QK ..) ?_
   simp [LJ,hcl,hbc,hpc,hlt,hltI,hget,qE,htk,e1,hlen,hpl,hn]
end Go.Ev.Code
end
section
namespace Go.Ev.Code
open Go Go.Ev
def dW (b:aQ):List (Int×Int):=dZ b.issue (eH b (bT b)).reverse
def MJ (b:aQ):Bool:=match anch b (bT b) with
 | some d=>decide ((d:Int)=b.issue)
 | none=>false
def aZ (b:aQ):Err×List (Int×Int):=match chk b with
 | some e=>(some e,[])
 | none=>if MJ b=true then (none,dW b) else if b.stub=0 then (some (5,Eu),[]) else if b.stub=2 then
   (match dW b with
    | _::q::r=>(none,(b.issue,q.2)::r)
    | ps=>(none,ps))
   else (none,dW b)
def eu (ps:List (Int×Int)):D := .sl ps.length (bI ps)
def Bf (r:Err×List (Int×Int)):D := .bg [eu r.2,fE r.1]
theorem uG (b:aQ):(dW b).length=bT b:=by unfold dW; rw [Xx,List.length_reverse,qU]
theorem Jj (l:List (Int×Int)) (n:Nat) (m:Mem):lG (fz (n+1)) (bI l) m=some (bI l,m):=by
 induction l with
 | nil=>rfl
 | cons x xs ih=>obtain ⟨a,b⟩:=x; simp [bI,ih]
theorem anU {b:aQ} {days:List Nat} {nx:Int} {is:Bool} (hd:days.length≤90000) (hne:days≠[]) :
  L.loop [1,6,7,8,9,27,28,29] [1,6,7,8] zY 2 [.loc 0 0,.int .i64 nx,.bool is,.bH,.int .i64 b.issue,.bf 1 0 days.length 1,.int .i64 days.length,.int .i64 0]
    [.live (aO b),.live (ints days)] =
    some (.exit 0,[.loc 0 0,.int .i64 nx,.bool is,.bf 2 0 days.length 2],[.live (aO b),.live (ints days),.live (bI (dZ b.issue days))]):=by
 obtain ⟨d,rest,rfl⟩:∃ d rest,days=d::rest:=List.exists_cons_of_ne_nil hne
 have hn:=ajU (b:=b) (nx:=nx) (is:=is) hd rest [d] [(b.issue,(d:Int))] d rfl (by simp) rfl
 have hcl:=Ap (d::rest) 2 11
 have hbc:(aO b).all (D.clo 2 12)=true:=by obtain ⟨i,m,f,c,rd,n,s,e,ex⟩:=b; simp [aO]
 rw [show [(b.issue,(d:Int))]++dZ d rest=dZ b.issue (d::rest) from rfl,show bI [(b.issue,(d:Int))]=[.int .i64 b.issue,.int .i64 d] from rfl] at hn
 have hget:(ints (d::rest))[0]?=some (.int .i64 d):=by simp [ints]
 have hil:=yt (d::rest)
 have hlt:0<(d::rest).length:=by simp
 generalize bI (dZ b.issue (d::rest))=pz at *
 generalize aO b=B at *
 generalize ints (d::rest)=id at *
 generalize (d::rest).length=K at *
 simp at hn
 have hltI:(0:Int)<K:=by omega
 refine aJ (QK ..) ?_
 simp [LJ,hcl,hbc,hlt,hltI,hget,qE,wrap64,hn]
theorem KX {b:aQ} (hc:b.dH.length≤1000000) (hr:b.dM.length≤1000000):L.call tV [aX b]=some (Bf (aZ b)):=by
 have hck:=Dv hc hr
 by_cases hchk:chk b=none
 ·obtain ⟨k1,k2,k3⟩:=Ht (dX hchk).2.1
  have kp:=JO hchk
  have han:=am8 (by omega) kp k1 k2
  have hlen:=qU b (bT b)
  have hrev:=arR (pre:=[.live (aO b)]) (l:=ints (eH b (bT b))) (by obtain ⟨i,m,f,c,rd,n,s,e,ex⟩:=b; simp [aO]) (by rw [yt,hlen]; omega)
   (fun d hd=>by
    simp only [ints,List.mem_map] at hd
    obtain ⟨x,_,rfl⟩:=hd
    exact ⟨rfl,rfl⟩)
  rw [yt,hlen,show (ints (eH b (bT b))).reverse=ints (eH b (bT b)).reverse by simp [ints]] at hrev
  have hz:Bv (anch b (bT b)) = .int .i64 ((anch b (bT b)).getD 0:Nat):=by cases anch b (bT b) <;> rfl
  rw [hz] at han
  have hlp:=anU (b:=b) (days:=(eH b (bT b)).reverse) (nx:=((anch b (bT b)).getD 0:Nat)) (is:=(anch b (bT b)).isSome) (by rw [List.length_reverse,hlen]; omega) (by
   intro h
   have := congrArg List.length h
   rw [List.length_reverse,hlen] at this
   simp at this; omega)
  rw [List.length_reverse,hlen] at hlp
  have hpl:=CZ (dW b)
  have hrl:=uG b
  rw [hrl] at hpl
  have hit:MJ b=((anch b (bT b)).isSome && decide ((((anch b (bT b)).getD 0:Nat):Int)=b.issue)):=by
   unfold MJ
   cases anch b (bT b) <;> simp
  have htk:(bI (dW b)).take (bT b*2)=bI (dW b):=List.take_of_length_le (by omega)
  have hfz:∀ m,lG (fz 10) (bI (dW b)) m=some (bI (dW b),m):=fun m=>Jj (dW b) 9 m
  have hpc:=jB (dW b) 0 11
  unfold aZ
  rw [hchk]
  simp only
  rw [hit]
  unfold dW at *
  generalize (anch b (bT b)).isSome=is at *
  generalize (anch b (bT b)).getD 0=nx at *
  generalize ints (eH b (bT b)).reverse=rv at *
  generalize ints (eH b (bT b))=iv at *
  have f2:L.call iw [.int .i64 5,.str [115,116,117,98]]=some (jf 5 Eu):=BD (c:=5) (by decide) Eu
  rw [hchk] at hck
  simp [fE] at hck
  generalize hps:dZ b.issue (eH b (bT b)).reverse=ps at *
  generalize hk:bT b=K at *
  obtain ⟨i,m,f,c,rd,n,s,e,ex⟩:=b
  unfold aX aO at *
  simp only at *
  simp at hrev
  refine aN afK rfl (afG ..) ?_
  by_cases hh:(is && decide ((nx:Int)=i))=true
  ·rw [if_pos hh]
   simp only [Bool.and_eq_true,decide_eq_true_eq] at hh
   obtain ⟨rfl,hh⟩:=hh
   rw [hh] at han hlp
   simp [uQ,hck,han,hrev,hlp,hpc,hfz,hpl,htk,Bf,eu,hrl,fE]
  ·rw [if_neg hh]
   by_cases hs0:s=0
   ·subst hs0
    rw [if_pos rfl]
    cases is with
    | false=>simp [uQ,hck,han,hrev,hlp,f2,Bf,eu,fE,jf,Eu,bI]
    | true =>
      have hh:¬ (nx:Int)=i:=by simpa using hh
      simp [uQ,hck,han,hrev,hlp,hh,f2,Bf,eu,fE,jf,Eu,bI]
   ·rw [if_neg hs0]
    have hh2:is=false∨(is=true∧¬ (nx:Int)=i):=by
     cases is with
     | false=>exact .inl rfl
     | true=>exact .inr ⟨rfl,by simpa using hh⟩
    by_cases hs2:s=2
    ·subst hs2
     rw [if_pos rfl]
     by_cases hK1:1<K
     ·obtain ⟨p,q,r,rfl⟩:∃ p q r,ps=p::q::r:=by
       cases ps with
       | nil=>simp at hrl; omega
       | cons p t=>cases t with
         | nil=>simp at hrl; omega
         | cons q r=>exact ⟨p,q,r,rfl⟩
      obtain ⟨p1,p2⟩:=p
      obtain ⟨q1,q2⟩:=q
      have hK1':(1:Int)<K:=by omega
      have hrK:r.length+1+1=K:=by simpa using hrl
      have hKr:K-1=r.length+1:=by omega
      have hrl2:=CZ r
      have hfz2:∀ m,lG (fz 10) (bI r) m=some (bI r,m):=fun m=>Jj r 9 m
      have hbn:oW true false K [.int .i64 1]=some (1,K):=by
       have h1K:(1:Int)≤K:=by omega
       have h1K':1≤K:=by omega
       simp [oW,bnd,h1K,h1K']
      have hpc2:=jB r 0 11
      have htk2:(bI r).take (r.length*2)=bI r:=List.take_of_length_le (by omega)
      have hb1:2+(r.length+1)*2≤(bI r).length+1+1+1+1:=by omega
      have hb2:(r.length+1)*2=r.length*2+1+1:=by omega
      have hb3:2+(r.length*2+1+1)≤r.length*2+1+1+1+1:=by omega
      simp only [bI] at hlp
      rcases hh2 with rfl | ⟨rfl,hh2⟩
      ·simp [uQ,hck,han,hrev,hlp,hK1,hK1',hbn,hKr,hrl2,hfz2,hpc2,htk2,hb1,hb2,hb3,Bf,eu,bI,fE]
      ·simp [uQ,hck,han,hrev,hlp,hh2,hK1,hK1',hbn,hKr,hrl2,hfz2,hpc2,htk2,hb1,hb2,hb3,Bf,eu,bI,fE]
     ·have hK1':¬ (1:Int)<K:=by omega
      have hcase:(match ps with | _::q::r=>((none:Err),(i,q.2)::r) | ps=>(none,ps))=(none,ps):=by
       match ps,hrl with
       | [],_=>rfl
       | [_],_=>rfl
       | _::_::_,hrl=>simp at hrl; omega
      rw [hcase]
      rcases hh2 with rfl | ⟨rfl,hh2⟩
      ·simp [uQ,hck,han,hrev,hlp,hK1,hK1',hpc,hfz,hpl,htk,Bf,eu,hrl,fE]
      ·simp [uQ,hck,han,hrev,hlp,hh2,hK1,hK1',hpc,hfz,hpl,htk,Bf,eu,hrl,fE]
    ·rw [if_neg hs2]
     rcases hh2 with rfl | ⟨rfl,hh2⟩
     ·simp [uQ,hck,han,hrev,hlp,hs0,hs2,hpc,hfz,hpl,htk,Bf,eu,hrl,fE]
     ·simp [uQ,hck,han,hrev,hlp,hh2,hs0,hs2,hpc,hfz,hpl,htk,Bf,eu,hrl,fE]
 ·cases hce:chk b with
  | none=>exact absurd hce hchk
  | some er =>
    unfold aZ
    rw [hce] at hck ⊢
    obtain ⟨ec,es⟩:=er
    simp only [Bf,eu,bI,List.length_nil]
    obtain ⟨i,m,f,c,rd,n,s,e,ex⟩:=b
    unfold aX aO at *
    simp only at *
    simp [fE,jf] at hck
    refine aN afK rfl (afG ..) ?_
    simp [uQ,hck,fE,jf]
end Go.Ev.Code
end
section
namespace Go.Ev.Code
open Go Go.Ev
def yC (b:aQ) (day:Int):Nat→Nat→Option Nat
 | 0,_=>none
 | f+1,k=>match anch b k with
   | some a=>if (a:Int)<day then none else if (a:Int)=day then some k else yC b day f (k+1)
   | none=>none
def Fb (b:aQ) (day:Int):Option Nat:=yC b day 3602 0
def G7:Option Nat→List D
 | some k=>[.int .i64 k,.bool true]
 | none=>[.int .i64 0,.bool false]
theorem afR (b:aQ) (hm:months b≠0):anch b 3601=none:=by
 have hc:=rC b
 unfold anch r_
 split
 ·rw [aiO (by rcases hc with h | h | h | h | h <;> rw [h] <;> omega)]
 ·rfl
theorem anP {b:aQ} (hm:months b≠0) {day:Int}:∀ (f k:Nat),k+f=3602 →
  L.loop [1,2,6] [4,5] rZ 1 [.int .i64 day,.loc 0 0,.int .i64 k] [.live (aO b)]=some (.ret,G7 (yC b day f k),[.live (aO b)])∨f=0:=by
 intro f
 induction f with
 | zero=>intro k hk; exact .inr rfl
 | succ f ih =>
   intro k hk
   left
   have ha:=BI b (k:=k) (by omega)
   have hn:=ih (k+1) (by omega)
   have hlast:f=0→anch b k=none:=fun h=>by
    have : k=3601:=by omega
    rw [this]; exact afR b hm
   simp only [yC]
   have e1:IntKind.i64.wrap ((k:Int)+1)=((k+1:Nat):Int):=by rw [wrap64 _ (by omega)]; omega
   generalize anch b k=r at *
   generalize yC b day f (k+1)=r2 at *
   obtain ⟨i,m,fq,c,rd,n,s,e,ex⟩:=b
   unfold aX aO at *
   simp only at *
   refine aJ (ac' ..) ?_
   cases r with
   | none=>simp [Bv] at ha; simp [vC,ha,G7]
   | some a =>
     simp [Bv] at ha
     simp only
     by_cases h1:(a:Int)<day
     ·simp [vC,ha,h1,G7]
     ·by_cases h2:(a:Int)=day
      ·subst h2
       simp [vC,ha,G7]
      ·rcases hn with hn | hn
       ·cases r2 with
        | none=>simp [G7] at hn; simp [vC,ha,h1,h2,e1,hn,G7]
        | some k2=>simp [G7] at hn; simp [vC,ha,h1,h2,e1,hn,G7]
       ·have := hlast hn; simp at this
theorem ah4 {b:aQ} (hm:months b≠0) (day:Int):L.call C9 [aX b,.int .i64 day]=some (.bg (G7 (Fb b day))):=by
 have hl:=(anP hm (day:=day) 3602 0 rfl).resolve_right (by decide)
 change L.loop [1,2,6] [4,5] rZ 1 [.int .i64 day,.loc 0 0,.int .i64 0] [.live (aO b)]=some (.ret,G7 (Fb b day),[.live (aO b)]) at hl
 generalize Fb b day=r at *
 obtain ⟨i,m,fq,c,rd,n,s,e,ex⟩:=b
 unfold aX aO at *
 simp only at *
 refine aN aiM rfl (aiE ..) ?_
 cases r with
 | none=>simp [G7] at hl; simp [SC,hl,G7]
 | some k=>simp [G7] at hl; simp [SC,hl,G7]
theorem NW {b:aQ} {day:Int}:∀ {f k j:Nat},yC b day f k=some j→j<k+f∧anch b j=some day.toNat∧0≤day
 | 0,k,j,h=>by simp [yC] at h
 | f+1,k,j,h=>by
   simp only [yC] at h
   split at h <;> try (simp at h; done)
   rename_i a ha
   split at h <;> try (simp at h; done)
   split at h
   ·rename_i h2
    simp at h
    subst h
    refine ⟨by omega,?_,by omega⟩
    rw [ha]; congr 1; omega
   ·have := NW h
    exact ⟨by omega,this.2⟩
def quasi (b:aQ) (day:Int):Option Nat:=match Fb b day with
 | some k=>if day≤b.issue then none else anch b (k+1)
 | none=>none
def acS (b:aQ) (day:Int):D:=match chk b with
 | some e => .bg [.int .i64 0,fE (some e)]
 | none=>mG (quasi b day)
theorem I8 {b:aQ} (hc:b.dH.length≤1000000) (hr:b.dM.length≤1000000) (day:Int):L.call rD [aX b,.int .i64 day]=some (acS b day):=by
 have hck:=Dv hc hr
 by_cases hchk:chk b=none
 ·have hm:=(dX hchk).2.1
  have hp:=ah4 hm day
  have hps:=fun {j} => @NW b day 3602 0 j
  have han:=fun k (hk:k≤100000)=>BI b (k:=k) hk
  unfold acS quasi
  rw [hchk] at hck ⊢
  simp only
  unfold Fb at *
  generalize yC b day 3602 0=r at *
  simp [fE] at hck
  cases r with
  | none =>
    obtain ⟨i,m,fq,c,rd,n,s,e,ex⟩:=b
    unfold aX aO at *
    simp only at *
    simp [G7] at hp
    refine aN QO rfl (QL ..) ?_
    simp [BK,hck,hp,dD,mG]
  | some k =>
    have hk:=(hps rfl).1
    have ha:=han (k+1) (by omega)
    have e1:IntKind.i64.wrap ((k:Int)+1)=((k+1:Nat):Int):=by rw [wrap64 _ (by omega)]; omega
    show L.call rD [aX b,.int .i64 day]=some (mG (if day≤b.issue then none else anch b (k+1)))
    generalize anch b (k+1)=r2 at *
    obtain ⟨i,m,fq,c,rd,n,s,e,ex⟩:=b
    unfold aX aO at *
    simp only at *
    simp [G7] at hp
    refine aN QO rfl (QL ..) ?_
    by_cases hd:day≤i
    ·simp [BK,hck,hp,hd,dD,mG]
    ·cases r2 with
     | none=>simp [Bv] at ha; simp [BK,hck,hp,hd,e1,ha,dD,mG]
     | some a=>simp [Bv] at ha; simp [BK,hck,hp,hd,e1,ha,mG]
 ·cases hce:chk b with
  | none=>exact absurd hce hchk
  | some er =>
    obtain ⟨ec,es⟩:=er
    unfold acS
    rw [hce] at hck ⊢
    obtain ⟨i,m,fq,c,rd,n,s,e,ex⟩:=b
    unfold aX aO at *
    simp only at *
    simp [fE,jf] at hck
    refine aN QO rfl (QL ..) ?_
    simp [BK,hck,fE,jf]
def pD (p:Int×Int):D := .agg [.int .i64 p.1,.int .i64 p.2]
def regular (b:aQ) (p:Int×Int):Bool:=match chk b with
 | some _=>false
 | none=>match quasi b p.2 with
   | some a=>decide ((a:Int)=p.1)
   | none=>false
theorem KY {b:aQ} (hc:b.dH.length≤1000000) (hr:b.dM.length≤1000000) (p:Int×Int):L.call mM [aX b,pD p]=some (.bool (regular b p)):=by
 have hq:=I8 hc hr p.2
 obtain ⟨p1,p2⟩:=p
 unfold regular pD
 unfold acS at hq
 simp only at hq ⊢
 generalize chk b=ck at *
 generalize quasi b p2=q at *
 obtain ⟨i,m,fq,c,rd,n,s,e,ex⟩:=b
 unfold aX aO at *
 refine aN aeR rfl (aeG ..) ?_
 cases ck with
 | some er=>obtain ⟨ec,es⟩:=er; simp [fE,jf] at hq; simp [Gw,hq]
 | none =>
   cases q with
   | none=>simp [mG] at hq; simp [Gw,hq]
   | some a=>simp [mG] at hq; simp [Gw,hq]
end Go.Ev.Code
end
section
namespace Go.Ev.Code
open Go Go.Ev
theorem Ci {y m d y' m' d':Nat} (h:zk y m d) (h':zk y' m' d') (hlt:y*12+m<y'*12+m'):dayOf y m d<dayOf y' m' d':=by
 have a1:=h.m1
 have a2:=h.m2
 have a3:=h'.m1
 have a4:=h'.m2
 have a5:=h.d1
 have a6:=h.d2
 have a7:=h'.d1
 have a8:=h.y1
 rcases Nat.lt_or_ge y y' with hy | hy
 ·have h1:=h.hi
  have h2:=h'.lo
  have h3:=Me (x:=y+1) (y:=y') (by omega) hy
  omega
 ·have hyy:y=y':=by omega
  subst hyy
  have hm:m<m':=by omega
  have h4:dw y m=dw y (m-1)+bP y m:=by
   obtain ⟨q,rfl⟩:∃ q,m=q+1:=⟨m-1,by omega⟩
   simp only [dw,Nat.add_sub_cancel]
  have h5:=Rj y (j:=m) (k:=m'-1) (by omega)
  unfold dayOf
  omega
theorem Xf {day n:Int} {e:Bool} {r:Nat} (h:r_ day n e=some r):∃ y m d,zk y m d∧r=dayOf y m d ∧
  ((y*12+m:Nat):Int)=(((lQ day.toNat).1*12+(lQ day.toNat).2.1:Nat):Int)+n:=by
 unfold r_ at h
 split at h <;> try (simp at h; done)
 rename_i hd
 obtain ⟨y,m,d,hc,hd,ho⟩:=dU hd
 rw [ho] at h ⊢
 unfold Kr at h
 split at h <;> try (simp at h; done)
 simp only at h ⊢
 have h1:=hc.y1
 have h3:=hc.m1
 have h12:1≤((((y*12+m-1:Nat):Int)+n) % 12).toNat+1∧((((y*12+m-1:Nat):Int)+n) % 12).toNat+1≤12:=by omega
 have hsum:(((((((y*12+m-1:Nat):Int)+n) / 12).toNat*12+(((((y*12+m-1:Nat):Int)+n) % 12).toNat+1):Nat)):Int)=((y*12+m:Nat):Int)+n:=by omega
 generalize ((((y*12+m-1:Nat):Int)+n) % 12).toNat+1=m' at *
 generalize ((((y*12+m-1:Nat):Int)+n) / 12).toNat=y' at *
 have hp:=CU (y:=y') h12.1 h12.2
 have hd1:=hc.d1
 obtain ⟨q1,q2⟩:=ajJ h12.1 h12.2 (by split <;> omega) (by split <;> omega) h
 exact ⟨_,_,_,q1,q2,hsum⟩
theorem aaJ {b:aQ} (hm:months b≠0) {j k a c:Nat} (hjk:j<k) (hj:anch b j=some a) (hk:anch b k=some c):c<a:=by
 obtain ⟨y,m,d,h1,h2,h3⟩:=Xf hj
 obtain ⟨y',m',d',h1',h2',h3'⟩:=Xf hk
 rw [h2,h2']
 refine Ci h1' h1 ?_
 have hc:=rC b
 rcases hc with h | h | h | h | h
 ·exact absurd h hm
 all_goals (rw [h] at h3 h3'; omega)
theorem Xg {b:aQ} {k a:Nat} (h:anch b k=some a):bn a:=EL h
theorem ad5 {b:aQ} (hm:months b≠0) {k a:Nat} (hk:anch b k=some a) (hall:∀ i,i<k→(anch b i).isSome=true) (hk2:k<3602):Fb b a=some k:=by
 unfold Fb
 have : ∀ f i,i≤k→k<i+f→yC b a f i=some k:=by
  intro f
  induction f with
  | zero=>intro i h1 h2; omega
  | succ f ih =>
    intro i h1 h2
    simp only [yC]
    rcases Nat.lt_or_ge i k with h | h
    ·obtain ⟨c,hc⟩:=Option.isSome_iff_exists.1 (hall i h)
     have := aaJ hm h hc hk
     rw [hc]
     simp only
     rw [if_neg (by omega),if_neg (by omega)]
     exact ih (i+1) h (by omega)
    ·have : i=k:=by omega
     subst this
     rw [hk]
     simp
 exact this 3602 0 (by omega) (by omega)
theorem RU {b:aQ} (hchk:chk b=none) {k a:Nat} (hk:k<bT b) (h1:anch b k=some a) {p:Int} (h2:∃ c,anch b (k+1)=some c∧(c:Int)=p):regular b (p,(a:Int))=true:=by
 have hm:=(dX hchk).2.1
 obtain ⟨g1,g2,g3⟩:=Ht hm
 obtain ⟨c,hc,hcp⟩:=h2
 have hpl:=ad5 hm h1 (fun i hi=>by
  obtain ⟨d,hd,_⟩:=g1 i (by omega)
  rw [hd]; rfl) (by omega)
 obtain ⟨d,hd,hdi⟩:=g1 k hk
 rw [h1] at hd
 simp at hd
 subst hd
 unfold regular quasi
 rw [hchk]
 simp only [hpl]
 rw [if_neg (by omega),hc]
 simp [hcp]
theorem apo {b:aQ} (hchk:chk b=none):bT b≤199:=by
 obtain ⟨q1,hm,_⟩:=dX hchk
 obtain ⟨d1,d2,d3⟩:=Kv q1
 obtain ⟨g1,g2,g3⟩:=Ht hm
 have kp:=JO hchk
 have hper:RG b≤200:=by
  have h:=hchk
  unfold chk at h
  split at h <;> try (simp at h; done)
  split at h <;> try (simp at h; done)
  split at h <;> try (simp at h; done)
  split at h <;> try (simp at h; done)
  split at h <;> try (simp at h; done)
  split at h <;> try (simp at h; done)
  split at h <;> try (simp at h; done)
  omega
 obtain ⟨d,hd,hdi⟩:=g1 (bT b-1) (by omega)
 obtain ⟨y,m,dd,h1,h2,h3⟩:=Xf hd
 obtain ⟨yi,mi,di,hci,hdi2,hoi⟩:=dU d1
 have hge:yi*12+mi≤y*12+m:=by
  rcases Nat.lt_or_ge (y*12+m) (yi*12+mi) with h | h
  ·have := Ci h1 hci h
   omega
  ·exact h
 have hb:sV b.issue b.b_=((bT b-1:Nat):Int)*months b+(((y*12+m:Nat):Int)-((yi*12+mi:Nat):Int)):=by
  unfold sV
  rw [hoi]
  simp only
  rw [Int.neg_mul] at h3
  omega
 have hnn:((bT b-1:Nat):Int)*months b≤sV b.issue b.b_:=by omega
 unfold RG at hper
 generalize sV b.issue b.b_=bw at *
 have hc:=rC b
 rcases hc with h | h | h | h | h
 ·exact absurd h hm
 all_goals
  rw [h] at hper hnn
  rw [Int.tdiv_eq_ediv_of_nonneg (by omega)] at hper
  omega
end Go.Ev.Code
end
