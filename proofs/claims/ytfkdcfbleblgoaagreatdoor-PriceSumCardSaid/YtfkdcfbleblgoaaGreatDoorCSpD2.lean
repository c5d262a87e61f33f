/- A part of the proof of priceAll_card, yieldAll_card, priceSum_card, flowAll_card, accrAll_card. -/
import Derived.Test.YtfkdcfbleblgoaaGreatDoorCSpD1
set_option linter.unusedVariables false
set_option linter.unusedSimpArgs false
section
namespace Go.Ev.Code
open Go Go.Ev
theorem alA:∀ (l:List Nat) (f:Int) (i:Nat),i<l.length→(dY f l)[i]?=some (if i=0 then f else ((l[i-1]?.getD 0:Nat):Int),((l[i]?.getD 0:Nat):Int))
 | [],_,i,h=>by simp at h
 | d::ds,f,0,h=>by simp [dY]
 | d::ds,f,i+1,h=>by
   have h':i<ds.length:=by simpa using h
   have := alA ds d i h'
   simp only [dY,List.getElem?_cons_succ,this,Nat.add_sub_cancel]
   cases i with
   | zero=>simp
   | succ j=>simp
structure Whole (b:aA) (ps:List (Int×Int)):Prop where
 ne:ps≠[]
 first:∀ p:Int×Int,ps[0]?=some p→p.1=b.issue
 last:∀ p:Int×Int,ps[ps.length-1]?=some p→p.2=b.bU
 len:ps.length≤200
 ord:∀ (i:Nat) (p:Int×Int),ps[i]?=some p→p.1<p.2
 next : ∀ (i:Nat) (p q:Int×Int),ps[i]?=some q→ps[i+1]?=some p→p.1=q.2∧regular b p=true
 stub:b.stub=0→∀ p:Int×Int,ps[0]?=some p→regular b p=true
theorem zN {b:aA} {i:Nat} (h:i<bI b):(dR b)[i]?=some (if i=0 then b.issue else (((anch b (bI b-i)).getD 0:Nat):Int),(((anch b (bI b-1-i)).getD 0:Nat):Int)):=by
 unfold dR
 have hl:=pR b (bI b)
 rw [alA _ _ _ (by rw [List.length_reverse,hl]; exact h)]
 have hg:∀ j,j<bI b→(dW b (bI b)).reverse[j]?=some ((anch b (bI b-1-j)).getD 0):=by
  intro j hj
  rw [List.getElem?_reverse (by rw [hl]; exact hj),hl]
  simp [dW,List.getElem?_range,show bI b-1-j<bI b by omega]
 rw [hg i h,Option.getD_some]
 by_cases h0:i=0
 ·simp [h0]
 ·rw [if_neg h0,if_neg h0,hg (i-1) (by omega),Option.getD_some,show bI b-1-(i-1)=bI b-i by omega]
theorem oJ {b:aA} (hchk:chk b=none) {k:Nat} (hk:k<bI b):∃ a,anch b k=some a∧b.issue<(a:Int)∧(k+1<bI b→∃ c,anch b (k+1)=some c∧c<a):=by
 have hm:=(bV hchk).2.1
 obtain ⟨g1,g2,g3⟩:=QF hm
 obtain ⟨a,ha,hai⟩:=g1 k hk
 refine ⟨a,ha,hai,fun hk2=>?_⟩
 obtain ⟨c,hc,_⟩:=g1 (k+1) hk2
 exact ⟨c,hc,ah7 hm (Nat.lt_succ_self k) ha hc⟩
theorem ava {b:aA} (hchk:chk b=none) {i:Nat} {p:Int×Int} (h:(dR b)[i]?=some p):p.1<p.2∧b.issue<p.2:=by
 have hl:i<bI b:=by rw [← uh]; exact (List.getElem?_eq_some_iff.1 h).1
 rw [zN hl] at h
 simp at h
 subst h
 obtain ⟨a,ha,hai,hn⟩:=oJ hchk (k:=bI b-1-i) (by omega)
 simp only [ha,Option.getD_some]
 by_cases h0:i=0
 ·rw [if_pos h0]; exact ⟨hai,hai⟩
 ·rw [if_neg h0]
  obtain ⟨c,hc,hca⟩:=hn (by omega)
  rw [show bI b-i=bI b-1-i+1 by omega,hc,Option.getD_some]
  exact ⟨by omega,hai⟩
theorem aAa {b:aA} (hchk:chk b=none) {i:Nat} {p q:Int×Int} (hq:(dR b)[i]?=some q) (hp:(dR b)[i+1]?=some p):p.1=q.2∧regular b p=true:=by
 have hl:i+1<bI b:=by rw [← uh]; exact (List.getElem?_eq_some_iff.1 hp).1
 rw [zN (by omega)] at hq
 rw [zN hl] at hp
 simp at hq hp
 obtain ⟨a,ha,hai,hn⟩:=oJ hchk (k:=bI b-1-(i+1)) (by omega)
 obtain ⟨c,hc,hca⟩:=hn (by omega)
 rw [show bI b-1-(i+1)+1=bI b-(i+1) by omega] at hc
 subst hp
 subst hq
 refine ⟨?_,?_⟩
 ·simp only
  rw [show bI b-1-i=bI b-(i+1) by omega]
 ·simp only [ha,hc,Option.getD_some]
  exact Zz hchk (k:=bI b-1-(i+1)) (by omega) ha ⟨c,by rw [show bI b-1-(i+1)+1=bI b-(i+1) by omega]; exact hc,rfl⟩
theorem aov {b:aA} (hchk:chk b=none) (hs:b.stub=0→QD b=true):Whole b (dR b):=by
 have kp:=O9 hchk
 have hm:=(bV hchk).2.1
 obtain ⟨d1,d2,d3⟩:=Kq (bV hchk).1
 have hl:=uh b
 refine ⟨?_,?_,?_,?_,?_,?_,?_⟩
 ·intro h; rw [h] at hl; simp at hl; omega
 ·intro p hp
  rw [zN (by omega)] at hp
  simp at hp
  rw [← hp]
 ·intro p hp
  rw [hl,zN (by omega)] at hp
  simp at hp
  rw [← hp]
  simp only [show bI b-1-(bI b-1)=0 by omega,anM d2,Option.getD_some]
  omega
 ·have := ax0 hchk; omega
 ·exact fun i p hp=>(ava hchk hp).1
 ·exact fun i p q hq hp=>aAa hchk hq hp
 ·intro h0 p hp
  have hh:=hs h0
  rw [zN (by omega)] at hp
  simp at hp
  subst hp
  obtain ⟨a,ha,hai,_⟩:=oJ hchk (k:=bI b-1) (by omega)
  simp only [Nat.sub_zero,ha,Option.getD_some]
  refine Zz hchk (k:=bI b-1) (by omega) ha ?_
  rw [show bI b-1+1=bI b by omega]
  unfold QD at hh
  cases hk:anch b (bI b) with
  | none=>rw [hk] at hh; simp at hh
  | some c=>rw [hk] at hh; exact ⟨c,rfl,by simpa using hh⟩
theorem dP {b:aA} (h:(aF b).1=none):chk b=none∧Whole b (aF b).2:=by
 unfold aF at h ⊢
 cases hchk:chk b with
 | some e=>rw [hchk] at h; simp at h
 | none =>
   rw [hchk] at h
   simp only at h ⊢
   refine ⟨trivial,?_⟩
   by_cases hh:QD b=true
   ·rw [if_pos hh]; exact aov hchk fun _=>hh
   ·rw [if_neg hh] at h ⊢
    by_cases h0:b.stub=0
    ·rw [if_pos h0] at h; simp at h
    ·rw [if_neg h0] at h ⊢
     have hw:=aov hchk fun h=>absurd h h0
     by_cases h2:b.stub=2
     ·rw [if_pos h2]
      split
      ·rename_i p q r hr
       rw [hr] at hw
       have hq:=ava hchk (i:=1) (p:=q) (by rw [hr]; rfl)
       refine ⟨by simp,?_,?_,?_,?_,?_,fun h=>absurd h h0⟩
       ·intro x hx; simp at hx; rw [← hx]
       ·intro x hx
        have hl:=hw.last
        cases r with
        | nil=>simp at hx hl; rw [← hx]; exact hl
        | cons y ys =>
          refine hl x ?_
          simp at hx ⊢
          exact hx
       ·have := hw.len; simp at this ⊢; omega
       ·intro i x hx
        cases i with
        | zero=>simp at hx; rw [← hx]; exact hq.2
        | succ j=>exact hw.ord (j+2) x (by simpa using hx)
       ·intro i x y hy hx
        cases i with
        | zero =>
          simp at hy
          have := hw.next 1 x q (by simp) (by simpa using hx)
          rw [← hy]; exact this
        | succ j=>exact hw.next (j+2) x y (by simpa using hy) (by simpa using hx)
      ·exact hw
     ·rw [if_neg h2]; exact hw
theorem mP:∀ {ps:List (Int×Int)} {i:Nat} {p:Int×Int},ps[i]?=some p→(aX ps)[i*2]?=some (.int .i64 p.1)∧(aX ps)[i*2+1]?=some (.int .i64 p.2)∧i*2+2≤(aX ps).length∧((aX ps).drop (i*2)).take 2=[.int .i64 p.1,.int .i64 p.2]
 | [],i,p,h=>by simp at h
 | (a,b)::ps,0,p,h=>by simp at h; subst h; simp [aX]
 | (a,b)::ps,i+1,p,h=>by
   obtain ⟨h1,h2,h3,h4⟩:=mP (ps:=ps) (i:=i) (p:=p) (by simpa using h)
   have e1:(i+1)*2=i*2+1+1:=by omega
   have e2:(i+1)*2+1=i*2+1+1+1:=by omega
   rw [e1]
   refine ⟨by simpa [aX] using h1,by simpa [aX] using h2,by simp [aX]; omega,by simpa [aX] using h4⟩
theorem iO (b:aA) (k:Nat):(ay b).all (D.clo k 12)=true:=by obtain ⟨i,m,f,c,rd,n,s,e,ex⟩:=b; simp [ay]
theorem kK (b:aA):(ay b).length=9:=rfl
end Go.Ev.Code
end
section
namespace Go.Ev.Code
open Go Go.Ev
theorem ahH {y:Nat} (h:y≤1000000):L.call yT [.int .i64 y]=some (.bool (leap y)):=by
 have q1:=tK y 4
 have q2:=tK y 100
 have q3:=tK y 400
 simp at q1 q2 q3
 refine aj (ags ..) ?_
 unfold leap
 have c4:((y:Int) % 4=0)↔y % 4=0:=by omega
 have c100:((y:Int) % 100=0)↔y % 100=0:=by omega
 have c400:((y:Int) % 400=0)↔y % 400=0:=by omega
 by_cases h4:y % 4=0
 ·by_cases h100:y % 100=0
  ·by_cases h400:y % 400=0 <;> simp (disch:=omega) [Bc,q1,q2,q3,c4,c100,c400,h4,h100,h400]
  ·simp (disch:=omega) [Bc,q1,q2,q3,c4,c100,c400,h4,h100]
 ·simp (disch:=omega) [Bc,q1,q2,q3,c4,c100,c400,h4]
theorem yh {y m:Nat} (h:y≤1000000) (h1:1≤m) (h2:m≤12):L.call uU [.int .i64 y,.int .i64 m]=some (.int .i64 (bW y m)):=by
 have hl:=ahH h
 refine aj (adY ..) ?_
 have : m=1∨m=2∨m=3∨m=4∨m=5∨m=6∨m=7∨m=8∨m=9∨m=10∨m=11∨m=12:=by omega
 rcases this with rfl | rfl | rfl | rfl | rfl | rfl | rfl | rfl | rfl | rfl | rfl | rfl
 case inr.inl =>
  cases hy:leap y <;> rw [hy] at hl <;> simp [Gi,bW,hl,hy]
 all_goals simp [Gi,bW]
theorem lM (n:Int):L.call D7 [.int .i64 n]=some (.bool (decide (0≤n∧n≤109572))):=by
 refine aj (ajy ..) ?_
 by_cases h:0≤n
 ·by_cases h':n≤109572 <;> simp [OX,h,h']
 ·simp [OX,h]
theorem Zy {y:Nat} (h:y≤1000000):L.call FQ [.int .i64 y]=some (.int .i64 (dH y 12)):=by
 have hl:=ahH h
 rw [apT]
 refine aj (agt ..) ?_
 cases hy:leap y <;> rw [hy] at hl <;> simp [V5,hl]
theorem aqJ (y:Nat):dH y 12≤366∧365≤dH y 12:=by rw [apT]; split <;> omega
theorem apJ {y m d:Nat} (hy:y≤2199):∀ (j k:Nat),k+j=y→1900≤k →
  L.loop [1,4,5] [1,4] wI 1 [.loc 0 0,.int .i64 (dN k),.int .i64 k] [.live [.int .i64 y,.int .i64 m,.int .i64 d]] =
    some (.exit 0,[.loc 0 0,.int .i64 (dN y)],[.live [.int .i64 y,.int .i64 m,.int .i64 d]]):=by
 intro j
 induction j with
 | zero =>
   intro k hk h1
   have : k=y:=by omega
   subst this
   generalize dN k=B
   refine au (Sr ..) ?_
   simp [Ip]
 | succ j ih =>
   intro k hk h1
   have hl:=Zy (y:=k) (by omega)
   have hn:=ih (k+1) (by omega) (by omega)
   have hs:=I5 h1
   have hb:=YH (y:=k) (by omega)
   have hc:=aqJ k
   have hlt:k<y:=by omega
   rw [hs] at hn
   generalize dN y=By at *
   generalize dN k=B at *
   generalize dH k 12=l at *
   have e1:IntKind.i64.wrap ((B:Int)+l)=((B+l:Nat):Int):=by rw [wrap64 _ (by omega)]; omega
   have e2:IntKind.i64.wrap ((k:Int)+1)=((k+1:Nat):Int):=by rw [wrap64 _ (by omega)]; omega
   generalize B+l=B2 at *
   generalize k+1=k2 at *
   refine au (Sr ..) ?_
   simp [Ip,hl,hlt,e1,e2,hn]
theorem apK {y m d A:Nat} (hy:y≤2200) (hm:m≤12) (hA:A≤1000000):∀ (j k:Nat),k+j=m→1≤k →
  L.loop [1,4,6] [1,4] wJ 1 [.loc 0 0,.int .i64 ((A+dH y (k-1):Nat):Int),.int .i64 k] [.live [.int .i64 y,.int .i64 m,.int .i64 d]] =
    some (.exit 2,[.loc 0 0,.int .i64 ((A+dH y (m-1):Nat):Int)],[.live [.int .i64 y,.int .i64 m,.int .i64 d]]):=by
 intro j
 induction j with
 | zero =>
   intro k hk h1
   have : k=m:=by omega
   subst this
   generalize A+dH y (k-1)=B
   refine au (Sv ..) ?_
   simp [Iq]
 | succ j ih =>
   intro k hk h1
   have hl:=yh (y:=y) (m:=k) (by omega) h1 (by omega)
   have hn:=ih (k+1) (by omega) (by omega)
   have hc:A+dH y (k+1-1)=A+dH y (k-1)+bW y k:=by
    rw [Nat.add_sub_cancel]
    obtain ⟨q,rfl⟩:∃ q,k=q+1:=⟨k-1,by omega⟩
    simp only [dH,Nat.add_sub_cancel]; omega
   rw [hc] at hn
   have hb:=agA y (k-1)
   have hb2:=xX y k
   have hlt:k<m:=by omega
   have hBl:A+dH y (k-1)≤1000372:=by omega
   generalize A+dH y (k-1)=B at *
   generalize A+dH y (m-1)=C at *
   generalize bW y k=l at *
   have e1:IntKind.i64.wrap ((B:Int)+l)=((B+l:Nat):Int):=by rw [wrap64 _ (by omega)]; omega
   have e2:IntKind.i64.wrap ((k:Int)+1)=((k+1:Nat):Int):=by rw [wrap64 _ (by omega)]; omega
   generalize B+l=B2 at *
   generalize k+1=k2 at *
   refine au (Sv ..) ?_
   simp (disch:=omega) [Iq,hl,hlt,e1,e2,hn]
theorem aws {y m d:Nat} (h1:1900≤y) (h2:y≤2199) (hm:1≤m) (hm2:m≤12) (hd:1≤d) (hd2:d≤bW y m) :
  L.call yt [mJ y m d]=some (.aG [.int .i64 (dayOf y m d),.bool true]):=by
 have hl:=yh (y:=y) (m:=m) (by omega) hm hm2
 have hbb:=YH (y:=y) (by omega)
 have hl1:=apJ (y:=y) (m:=m) (d:=d) h2 (y-1900) 1900 (by omega) (by omega)
 have hl2:=apK (y:=y) (m:=m) (d:=d) (A:=dN y) (by omega) hm2 (by omega) (m-1) 1 (by omega) (by omega)
 simp only [Nat.sub_self,dH,Nat.add_zero] at hl2
 have hml:=xX y m
 have hcu:=agA y (m-1)
 have hC:dayOf y m d=dN y+dH y (m-1)+d-1:=rfl
 rw [show dN 1900=0 from rfl] at hl1
 have g1:¬ (y:Int)<1900:=by omega
 have g2:¬ (2199:Int)<y:=by omega
 have g3:¬ (d:Int)<1:=by omega
 generalize bW y m=l at *
 have g4:¬ (l:Int)<d:=by omega
 have g5:¬ l<d:=by omega
 have g6:¬ 2199<y:=by omega
 generalize hx:dN y+dH y (m-1)=x at *
 generalize dayOf y m d=r at *
 generalize dN y=b at *
 have e1:IntKind.i64.wrap ((x:Int)+d)=((x+d:Nat):Int):=by rw [wrap64 _ (by omega)]; omega
 have e2:IntKind.i64.wrap (((x+d:Nat):Int)-1)=(r:Int):=by rw [wrap64 _ (by omega)]; omega
 generalize x+d=b2 at *
 simp at hl1 hl2
 refine aj (Yw ..) ?_
 unfold mJ
 simp (disch:=omega) [Gj,hl,g1,g2,g3,g4,g5,g6,e1,e2,hl1,hl2]
theorem auo {y m d:Nat} (h:¬ (1900≤y∧y≤2199)):L.call yt [mJ y m d]=some (.aG [.int .i64 0,.bool false]):=by
 refine aj (Yw ..) ?_
 unfold mJ
 by_cases h1:1900≤y
 ·have g1:¬ (y:Int)<1900:=by omega
  have g2:(2199:Int)<y:=by omega
  have g6:2199<y:=by omega
  simp [Gj,g1,g2,g6]
 ·have g1:(y:Int)<1900:=by omega
  simp [Gj,g1]
end Go.Ev.Code
end
section
namespace Go.Ev.Code
open Go Go.Ev
theorem anf {y day:Nat} (hlo:dN y≤day) (hhi:day<dN (y+1)) (hy:y≤2199):∀ (j k:Nat),k+j=y→1900≤k →
  L.loop [0,2,3] [0,2,3] qG 2 [.int .i64 ((day-dN k:Nat):Int),.loc 0 0,.loc 1 0] [.live [.int .i64 0,.int .i64 0,.int .i64 0],.live [.int .i64 k,.int .i64 1,.int .i64 0]] =
    some (.exit 0,[.int .i64 ((day-dN y:Nat):Int),.loc 0 0,.loc 1 0],[.live [.int .i64 0,.int .i64 0,.int .i64 0],.live [.int .i64 y,.int .i64 1,.int .i64 0]]):=by
 intro j
 induction j with
 | zero =>
   intro k hk h1
   have : k=y:=by omega
   subst this
   have hl:=Zy (y:=k) (by omega)
   have hs:=I5 h1
   generalize dN (k+1)=b2 at *
   generalize dN k=b at *
   generalize dH k 12=l at *
   have g:¬ (l:Int)≤((day-b:Nat):Int):=by omega
   have g':¬ l≤day-b:=by omega
   generalize day-b=r at *
   refine au (Nw ..) ?_
   simp [Ce,hl,g,g']
 | succ j ih =>
   intro k hk h1
   have hl:=Zy (y:=k) (by omega)
   have hs:=I5 h1
   have hn:=ih (k+1) (by omega) (by omega)
   have hmo:=Tc (x:=k+1) (y:=y) (by omega) (by omega)
   have hbl:=YH (y:=y+1) (by omega)
   rw [hs] at hn hmo
   generalize dN (y+1)=by1 at *
   generalize dN y=by0 at *
   generalize dN k=b at *
   generalize dH k 12=l at *
   have g:(l:Int)≤((day-b:Nat):Int):=by omega
   have g':l≤day-b:=by omega
   have e1:IntKind.i64.wrap (((day-b:Nat):Int)-l)=((day-(b+l):Nat):Int):=by rw [wrap64 _ (by omega)]; omega
   have e2:IntKind.i64.wrap ((k:Int)+1)=((k+1:Nat):Int):=by rw [wrap64 _ (by omega)]; omega
   generalize day-(b+l)=r2 at *
   generalize day-b=r at *
   generalize k+1=k2 at *
   refine au (Nw ..) ?_
   simp [Ce,hl,g,g',e1,e2,hn]
theorem ang {y m d:Nat} (h:Dc y m d):∀ (j k:Nat),k+j=m→1≤k →
  L.loop [0,2,3] [0,2,3] qH 2 [.int .i64 ((dH y (m-1)+(d-1)-dH y (k-1):Nat):Int),.loc 0 0,.loc 1 0] [.live [.int .i64 0,.int .i64 0,.int .i64 0],.live [.int .i64 y,.int .i64 k,.int .i64 0]] =
    some (.exit 2,[.int .i64 ((d-1:Nat):Int),.loc 0 0,.loc 1 0],[.live [.int .i64 0,.int .i64 0,.int .i64 0],.live [.int .i64 y,.int .i64 m,.int .i64 0]]):=by
 have h1:=h.d1
 have h2:=h.d2
 have h3:=h.m2
 have h4:=h.y2
 have h5:=xX y m
 intro j
 induction j with
 | zero =>
   intro k hk hk1
   have : k=m:=by omega
   subst this
   have hl:=yh (y:=y) (m:=k) (by omega) hk1 h3
   rw [show dH y (k-1)+(d-1)-dH y (k-1)=d-1 by omega]
   generalize bW y k=l at *
   have g:¬ (l:Int)≤((d-1:Nat):Int):=by omega
   have g':¬ l≤d-1:=by omega
   generalize d-1=d1 at *
   refine au (Ny ..) ?_
   simp (disch:=omega) [Ci,hl,g,g']
 | succ j ih =>
   intro k hk hk1
   have hl:=yh (y:=y) (m:=k) (by omega) hk1 (by omega)
   have hn:=ih (k+1) (by omega) (by omega)
   have hc:dH y (k+1-1)=dH y (k-1)+bW y k:=by
    rw [Nat.add_sub_cancel]
    obtain ⟨q,rfl⟩:∃ q,k=q+1:=⟨k-1,by omega⟩
    simp only [dH,Nat.add_sub_cancel]
   have hmo:=YN y (j:=k) (k:=m-1) (by omega)
   rw [Nat.add_sub_cancel] at hc hn
   rw [hc] at hmo hn
   have hub:=agA y (m-1)
   have hub2:dH y (m-1)+(d-1)≤1000:=by omega
   have hmo2:dH y (k-1)+bW y k≤dH y (m-1)+(d-1):=by omega
   generalize dH y (m-1)+(d-1)=T at *
   generalize bW y k=l at *
   generalize dH y (k-1)=c at *
   have g:l≤T-c:=by omega
   have g':(l:Int)≤((T-c:Nat):Int):=by omega
   have e1:IntKind.i64.wrap (((T-c:Nat):Int)-l)=((T-(c+l):Nat):Int):=by rw [wrap64 _ (by omega)]; omega
   have e2:IntKind.i64.wrap ((k:Int)+1)=((k+1:Nat):Int):=by rw [wrap64 _ (by omega)]; omega
   generalize T-(c+l)=r2 at *
   generalize T-c=r1 at *
   generalize k+1=k2 at *
   refine au (Ny ..) ?_
   simp (disch:=omega) [Ci,hl,g,g',e1,e2,hn]
theorem zS {y m d:Nat} (h:Dc y m d):L.call wH [.int .i64 (dayOf y m d)]=some (mJ y m d):=by
 have hlo:=h.lo
 have hhi:=h.hi
 have hd1:=h.d1
 have hd2:=h.d2
 have hml:=xX y m
 have hy:=h.y2
 have hm2:=h.m2
 have l1:=anf hlo hhi hy (y-1900) 1900 (by have := h.y1; omega) (by omega)
 have l2:=ang h (m-1) 1 (by have := h.m1; omega) (by omega)
 have hT:dayOf y m d-dN y=dH y (m-1)+(d-1):=by unfold dayOf; omega
 simp only [Nat.sub_self,dH,Nat.sub_zero] at l2
 rw [← hT,show ((1:Nat):Int)=1 from rfl] at l2
 rw [show dN 1900=0 from rfl,Nat.sub_zero] at l1
 generalize dayOf y m d=day at *
 generalize dN y=b at *
 generalize day-b=r at *
 have e4:IntKind.i64.wrap (((d-1:Nat):Int)+1)=(d:Int):=by rw [wrap64 _ (by omega)]; omega
 generalize d-1=dd at *
 simp at l1 l2
 refine aj (afX ..) ?_
 unfold mJ
 simp (disch:=omega) [SY,l1,l2,e4]
theorem asq {y m d:Nat} (h:Dc y m d):L.call FN [.int .i64 (dayOf y m d)]=some (.bool (decide (d=bW y m))):=by
 have hc:=zS h
 have hl:=yh (y:=y) (m:=m) (by have := h.y2; omega) h.m1 h.m2
 generalize dayOf y m d=day at *
 generalize bW y m=l at *
 unfold mJ at hc
 refine aj (agr ..) ?_
 by_cases hd:d=l
 ·subst hd
  simp [JM,hc,hl]
 ·have hd':¬ (d:Int)=l:=by omega
  simp [JM,hc,hl,hd,hd']
end Go.Ev.Code
end
section
namespace Go.Ev.Code
open Go Go.Ev
theorem ay3 {st:Bool} {d:Nat}:∀ (N cy cm:Nat),1≤cm→cm≤12→cy+N≤100000 →
  L.loop [1,8,9] [1,8,9] iJ 1 [.int .i64 N,.loc 0 0,.bool st] [.live [.int .i64 cy,.int .i64 cm,.int .i64 d]] =
    some (.exit 0,[.int .i64 0,.loc 0 0,.bool st],[.live [.int .i64 (((cy*12+cm-1+N) / 12:Nat):Int),.int .i64 (((cy*12+cm-1+N) % 12+1:Nat):Int),.int .i64 d]]):=by
 intro N
 induction N with
 | zero =>
   intro cy cm h1 h2 h3
   rw [show (cy*12+cm-1+0) / 12=cy by omega,show (cy*12+cm-1+0) % 12+1=cm by omega]
   refine au (nX ..) ?_
   simp [kC]
 | succ N ih =>
   intro cy cm h1 h2 h3
   have e1:IntKind.i64.wrap ((cm:Int)+1)=((cm+1:Nat):Int):=by rw [wrap64 _ (by omega)]; omega
   have e2:IntKind.i64.wrap ((cy:Int)+1)=((cy+1:Nat):Int):=by rw [wrap64 _ (by omega)]; omega
   have e3:IntKind.i64.wrap (((N+1:Nat):Int)-1)=(N:Int):=by rw [wrap64 _ (by omega)]; omega
   have g:(0:Int)<((N+1:Nat):Int):=by omega
   have g0:0<N+1:=by omega
   by_cases hc:cm=12
   ·have hn:=ih (cy+1) 1 (by omega) (by omega) (by omega)
    rw [show (cy+1)*12+1-1+N=cy*12+cm-1+(N+1) by omega] at hn
    have g1:(12:Int)<((cm+1:Nat):Int):=by omega
    have g2:12<cm+1:=by omega
    generalize (cy*12+cm-1+(N+1)) / 12=Y at *
    generalize (cy*12+cm-1+(N+1)) % 12+1=M at *
    generalize N+1=N1 at *
    generalize cm+1=c1 at *
    generalize cy+1=y1 at *
    simp only [show ((1:Nat):Int)=1 from rfl] at hn
    refine au (nX ..) ?_
    simp [kC,e1,e2,e3,g,g0,g1,g2,hn]
   ·have hn:=ih cy (cm+1) (by omega) (by omega) (by omega)
    rw [show cy*12+(cm+1)-1+N=cy*12+cm-1+(N+1) by omega] at hn
    have g1:¬ (12:Int)<((cm+1:Nat):Int):=by omega
    have g2:¬ 12<cm+1:=by omega
    generalize (cy*12+cm-1+(N+1)) / 12=Y at *
    generalize (cy*12+cm-1+(N+1)) % 12+1=M at *
    generalize N+1=N1 at *
    generalize cm+1=c1 at *
    refine au (nX ..) ?_
    simp [kC,e1,e3,g,g0,g1,g2,hn]
theorem ay4 {st:Bool} {d cy cm:Nat} {n:Int} (h:n≤0) :
  L.loop [1,8,9] [1,8,9] iJ 1 [.int .i64 n,.loc 0 0,.bool st] [.live [.int .i64 cy,.int .i64 cm,.int .i64 d]] =
    some (.exit 0,[.int .i64 n,.loc 0 0,.bool st],[.live [.int .i64 cy,.int .i64 cm,.int .i64 d]]):=by
 have g:¬ (0:Int)<n:=by omega
 refine au (nX ..) ?_
 simp [kC,g]
theorem aqs {st:Bool} {d:Nat}:∀ (N cy cm:Nat),1≤cm→cm≤12→N≤cy*12+cm-1→cy≤100000→N≤100000 →
  L.loop [1,8,9] [8,9] jH 1 [.int .i64 (-(N:Int)),.loc 0 0,.bool st] [.live [.int .i64 cy,.int .i64 cm,.int .i64 d]] =
    some (.exit 2,[.loc 0 0,.bool st],[.live [.int .i64 (((cy*12+cm-1-N) / 12:Nat):Int),.int .i64 (((cy*12+cm-1-N) % 12+1:Nat):Int),.int .i64 d]]):=by
 intro N
 induction N with
 | zero =>
   intro cy cm h1 h2 h3 h4 h5
   rw [show (cy*12+cm-1-0) / 12=cy by omega,show (cy*12+cm-1-0) % 12+1=cm by omega]
   refine au (vS ..) ?_
   simp [n_]
 | succ N ih =>
   intro cy cm h1 h2 h3 h4 h5
   have e3:IntKind.i64.wrap (-((N+1:Nat):Int)+1) = -(N:Int):=by rw [wrap64 _ (by omega)]; omega
   have g : -((N+1:Nat):Int)<0:=by omega
   have e1:IntKind.i64.wrap ((cm:Int)-1)=((cm-1:Nat):Int):=by rw [wrap64 _ (by omega)]; omega
   by_cases hc:cm=1
   ·have e2:IntKind.i64.wrap ((cy:Int)-1)=((cy-1:Nat):Int):=by rw [wrap64 _ (by omega)]; omega
    have hn:=ih (cy-1) 12 (by omega) (by omega) (by omega) (by omega) (by omega)
    rw [show (cy-1)*12+12-1-N=cy*12+cm-1-(N+1) by omega] at hn
    have g1:((cm-1:Nat):Int)<1:=by omega
    have g2:cm-1<1:=by omega
    generalize (cy*12+cm-1-(N+1)) / 12=Y at *
    generalize (cy*12+cm-1-(N+1)) % 12+1=M at *
    generalize -((N+1:Nat):Int)=N1 at *
    generalize -(N:Int)=N0 at *
    generalize cm-1=c1 at *
    generalize cy-1=y1 at *
    simp only [show ((12:Nat):Int)=12 from rfl] at hn
    refine au (vS ..) ?_
    simp [n_,e1,e2,e3,g,g1,g2,hn]
   ·have hn:=ih cy (cm-1) (by omega) (by omega) (by omega) (by omega) (by omega)
    rw [show cy*12+(cm-1)-1-N=cy*12+cm-1-(N+1) by omega] at hn
    have g1:¬ ((cm-1:Nat):Int)<1:=by omega
    have g2:¬ cm-1<1:=by omega
    have g3:¬ cm-1=0:=by omega
    generalize (cy*12+cm-1-(N+1)) / 12=Y at *
    generalize (cy*12+cm-1-(N+1)) % 12+1=M at *
    generalize -((N+1:Nat):Int)=N1 at *
    generalize -(N:Int)=N0 at *
    generalize cm-1=c1 at *
    refine au (vS ..) ?_
    simp [n_,e1,e3,g,g1,g2,g3,hn]
def okD:Option Nat→D
 | some n => .aG [.int .i64 n,.bool true]
 | none => .aG [.int .i64 0,.bool false]
theorem ae3 {y m d:Nat} (h1:1≤m) (h2:m≤12) (hd:1≤d) (hd2:d≤bW y m):L.call yt [mJ y m d]=some (okD (uf y m d)):=by
 unfold uf
 split
 ·rename_i h; exact aws h.1 h.2 h1 h2 hd hd2
 ·rename_i h; exact auo h
theorem axc {y m d y' m':Nat} {n:Int} {e:Bool} (h:Dc y m d) (hn1 : -3600≤n) (hn2:n≤3600) (hy':y'≤1000000) (hm1:1≤m') (hm2:m'≤12)
  {k:Int} (hl1:L.loop [1,8,9] [1,8,9] iJ 1 [.int .i64 n,.loc 0 0,.bool (e && decide (d=bW y m))] [.live [.int .i64 y,.int .i64 m,.int .i64 d]]=some (.exit 0,[.int .i64 k,.loc 0 0,.bool (e && decide (d=bW y m))],[.live (if k=0 then [.int .i64 y',.int .i64 m',.int .i64 d] else [.int .i64 y,.int .i64 m,.int .i64 d])]))
  (hl2:L.loop [1,8,9] [8,9] jH 1 [.int .i64 k,.loc 0 0,.bool (e && decide (d=bW y m))] [.live (if k=0 then [.int .i64 y',.int .i64 m',.int .i64 d] else [.int .i64 y,.int .i64 m,.int .i64 d])]=some (.exit 2,[.loc 0 0,.bool (e && decide (d=bW y m))],[.live [.int .i64 y',.int .i64 m',.int .i64 d]])) :
  L.call iT [.int .i64 (dayOf y m d),.int .i64 n,.bool e]=some (okD (uf y' m' (if e=true∧d=bW y m then bW y' m' else min d (bW y' m')))):=by
 have hc:=zS h
 have hla:=asq h
 have his:=lM (dayOf y m d)
 have hle:=h.le
 rw [decide_eq_true (by omega)] at his
 have hlen:=yh hy' hm1 hm2
 have hpos:=OI (y:=y') hm1 hm2
 have hd1:=h.d1
 generalize (if k=0 then [D.int .i64 y',.int .i64 m',.int .i64 d] else [D.int .i64 y,.int .i64 m,.int .i64 d])=cells at *
 generalize dayOf y m d=day at *
 have g1:¬ n < -3600:=by omega
 have g2:¬ 3600<n:=by omega
 unfold mJ at hc
 by_cases hst:e=true∧d=bW y m
 ·rw [if_pos hst]
  have hof:=ae3 (y:=y') (d:=bW y' m') hm1 hm2 (by omega) (Nat.le_refl _)
  obtain ⟨he,hdl⟩:=hst
  rw [decide_eq_true hdl] at hla
  rw [he,decide_eq_true hdl] at hl1 hl2
  subst he
  simp only [Bool.and_self] at hl1 hl2
  generalize bW y' m'=l at *
  unfold mJ at hof
  refine aj (lU ..) ?_
  cases hmk:uf y' m' l <;> rw [hmk] at hof <;> simp [okD] at hof <;> simp [fG,his,g1,g2,hc,hla,hl1,hl2,hlen,hof,okD]
 ·rw [if_neg hst]
  have hb:(e && decide (d=bW y m))=false:=by
   cases e <;> simp_all
  rw [hb] at hl1 hl2
  by_cases hdl:bW y' m'<d
  ·have hof:=ae3 (y:=y') (d:=bW y' m') hm1 hm2 (by omega) (Nat.le_refl _)
   rw [show min d (bW y' m')=bW y' m' by omega]
   have g3:((bW y' m':Nat):Int)<d:=by omega
   generalize bW y' m'=l at *
   unfold mJ at hof
   refine aj (lU ..) ?_
   cases e with
   | false=>cases hmk:uf y' m' l <;> rw [hmk] at hof <;> simp [okD] at hof <;> simp [fG,his,g1,g2,hc,hl1,hl2,hlen,hdl,g3,hof,okD]
   | true =>
     have hdm:¬ d=bW y m:=fun x=>hst ⟨rfl,x⟩
     rw [decide_eq_false hdm] at hla
     cases hmk:uf y' m' l <;> rw [hmk] at hof <;> simp [okD] at hof <;> simp [fG,his,g1,g2,hc,hla,hl1,hl2,hlen,hdl,g3,hof,okD]
  ·have hof:=ae3 (y:=y') (d:=d) hm1 hm2 (by omega) (by omega)
   rw [show min d (bW y' m')=d by omega]
   have g3:¬ ((bW y' m':Nat):Int)<d:=by omega
   generalize bW y' m'=l at *
   unfold mJ at hof
   refine aj (lU ..) ?_
   cases e with
   | false=>cases hmk:uf y' m' d <;> rw [hmk] at hof <;> simp [okD] at hof <;> simp [fG,his,g1,g2,hc,hl1,hl2,hlen,hdl,g3,hof,okD]
   | true =>
     have hdm:¬ d=bW y m:=fun x=>hst ⟨rfl,x⟩
     rw [decide_eq_false hdm] at hla
     cases hmk:uf y' m' d <;> rw [hmk] at hof <;> simp [okD] at hof <;> simp [fG,his,g1,g2,hc,hla,hl1,hl2,hlen,hdl,g3,hof,okD]
theorem CG (day n:Int) (e:Bool):L.call iT [.int .i64 day,.int .i64 n,.bool e]=some (okD (pF day n e)):=by
 unfold pF
 by_cases hd:aU day
 ·rw [if_pos hd]
  obtain ⟨y,m,d,hc,rfl,ho⟩:=eu hd
  rw [ho]
  unfold Qd
  by_cases hn : -3600≤n∧n≤3600
  ·rw [if_pos hn]
   have y1:=hc.y1
   have y2:=hc.y2
   have m1:=hc.m1
   have m2:=hc.m2
   simp only
   by_cases hs:0≤n
   ·obtain ⟨N,rfl⟩:∃ N:Nat,n=N:=⟨n.toNat,by omega⟩
    rw [show ((((y*12+m-1:Nat):Int)+(N:Int)) / 12).toNat=(y*12+m-1+N) / 12 by omega,show ((((y*12+m-1:Nat):Int)+(N:Int)) % 12).toNat+1=(y*12+m-1+N) % 12+1 by omega]
    have l1:=ay3 (st:=e && decide (d=bW y m)) (d:=d) N y m m1 m2 (by omega)
    have l2:=aqs (st:=e && decide (d=bW y m)) (d:=d) 0 ((y*12+m-1+N) / 12) ((y*12+m-1+N) % 12+1) (by omega) (by omega) (by omega) (by omega) (by omega)
    rw [show ((y*12+m-1+N) / 12*12+((y*12+m-1+N) % 12+1)-1-0) / 12=(y*12+m-1+N) / 12 by omega,show ((y*12+m-1+N) / 12*12+((y*12+m-1+N) % 12+1)-1-0) % 12+1=(y*12+m-1+N) % 12+1 by omega] at l2
    exact axc hc hn.1 hn.2 (by omega) (by omega) (by omega) (k:=0) (by simpa using l1) (by simpa using l2)
   ·obtain ⟨N,rfl⟩:∃ N:Nat,n = -(N:Int):=⟨(-n).toNat,by omega⟩
    rw [show ((((y*12+m-1:Nat):Int) + -(N:Int)) / 12).toNat=(y*12+m-1-N) / 12 by omega,show ((((y*12+m-1:Nat):Int) + -(N:Int)) % 12).toNat+1=(y*12+m-1-N) % 12+1 by omega]
    have l1:=ay4 (st:=e && decide (d=bW y m)) (d:=d) (cy:=y) (cm:=m) (n := -(N:Int)) (by omega)
    have l2:=aqs (st:=e && decide (d=bW y m)) (d:=d) N y m m1 m2 (by omega) (by omega) (by omega)
    have hk:¬ (-(N:Int))=0:=by omega
    exact axc hc hn.1 hn.2 (by omega) (by omega) (by omega) (k := -(N:Int)) (by rw [if_neg hk]; exact l1) (by rw [if_neg hk]; exact l2)
  ·rw [if_neg hn]
   have his:=lM (dayOf y m d)
   have hle:=hc.le
   rw [decide_eq_true (by omega)] at his
   generalize dayOf y m d=dd at *
   refine aj (lU ..) ?_
   by_cases h1:n < -3600
   ·simp [fG,his,h1,okD]
   ·have h2:3600<n:=by omega
    simp [fG,his,h1,h2,okD]
 ·rw [if_neg hd]
  have his:=lM day
  rw [decide_eq_false hd] at his
  refine aj (lU ..) ?_
  simp [fG,his,okD]
end Go.Ev.Code
end
section
namespace Go.Ev.Code
open Go Go.Ev
theorem ap':TT.fn wS=none:=by kernel_rfl
theorem aqa:TT.ku wS=ap0:=by kernel_rfl
end Go.Ev.Code
end
section
namespace Go.Ev.Code
open Go Go.Ev
def mi (day:Int):Nat:=(kQ day.toNat).1*12+(kQ day.toNat).2.1
theorem Gx {y m d:Nat} (h:Dc y m d):mi (dayOf y m d:Nat)=y*12+m:=by
 unfold mi
 rw [show ((dayOf y m d:Nat):Int).toNat=dayOf y m d by omega,aea h]
theorem aa2 {a:Int} (h:aU a):22801≤mi a∧mi a≤26400:=by
 obtain ⟨y,m,d,hc,rfl,_⟩:=eu h
 rw [Gx hc]
 have := hc.y1; have := hc.y2; have := hc.m1; have := hc.m2
 omega
theorem YO {a b:Int} (ha:aU a) (hb:aU b) (h:mi a<mi b):a<b:=by
 obtain ⟨y,m,d,hc,rfl,_⟩:=eu ha
 obtain ⟨y',m',d',hc',rfl,_⟩:=eu hb
 rw [Gx hc,Gx hc'] at h
 have := Ql hc hc' h
 omega
theorem La {a b:Int} (ha:aU a) (hb:aU b) (h:a≤b):mi a≤mi b:=by
 rcases Nat.lt_or_ge (mi b) (mi a) with h1 | h1
 ·have := YO hb ha h1; omega
 ·exact h1
theorem O3 {day n:Int} {e:Bool} {r:Nat} (h:pF day n e=some r):((mi r:Nat):Int)=mi day+n:=by
 obtain ⟨y,m,d,hc,rfl,hs⟩:=ad4 h
 rw [Gx hc]
 exact hs
theorem agv {day n:Int} (e:Bool) (hd:aU day) (h1:22801≤(mi day:Int)+n) (h2:(mi day:Int)+n≤26400):∃ r,pF day n e=some r:=by
 have hb:=aa2 hd
 obtain ⟨y,m,d,hc,rfl,ho⟩:=eu hd
 rw [Gx hc] at h1 h2 hb
 unfold pF Qd
 rw [if_pos hd,ho]
 rw [if_pos (by omega)]
 have a2:=hc.m1
 simp only
 unfold uf
 rw [if_pos (by omega)]
 exact ⟨_,rfl⟩
theorem auG (a b:Int):sU a b=(mi b:Int)-mi a:=rfl
end Go.Ev.Code
end
section
namespace Go.Ev.Code
open Go Go.Ev
abbrev Er:=Option (Int×Option (List UInt8))
def fD:Er→D
 | none => .bQ
 | some (c,none)=>BD c
 | some (c,some s)=>eY c s
def avS:Err→Er
 | none=>none
 | some (c,s)=>some (c,some s)
def gW:Er→Int
 | none=>0
 | some (c,_)=>c
theorem ac6 (e:Er) (n:Nat):D.clo n 12 (fD e)=true:=by
 rcases e with _ | ⟨c,_ | s⟩ <;> rfl
theorem ag4 (e:Er):L.call wS [fD e]=some (.int .i64 (gW e)):=by
 rcases e with _ | ⟨c,_ | s⟩
 ·exact Ls ap' (by rw [aqa]; rfl) rfl
 ·exact Ls ap' (by rw [aqa]; rfl) rfl
 ·exact Ls ap' (by rw [aqa]; rfl) rfl
def YP (a b:Int):Int :=
 360*(((kQ b.toNat).1:Int)-(kQ a.toNat).1)+30*(((kQ b.toNat).2.1:Int)-(kQ a.toNat).2.1)+min ((kQ b.toNat).2.2:Int) 30-min ((kQ a.toNat).2.2:Int) 30
def d_ (k a b:Int):Int:=if k=1 then YP a b else b-a
theorem Qm {k a b:Int} (ha:aU a) (hb:aU b) : -1000000≤d_ k a b∧d_ k a b≤1000000:=by
 unfold d_
 split
 ·obtain ⟨y,m,d,hc,hd,ho⟩:=eu ha
  obtain ⟨y',m',d',hc',hd',ho'⟩:=eu hb
  unfold YP
  rw [ho,ho']
  have := hc.y1; have := hc.y2; have := hc.m1; have := hc.m2; have := hc'.y1; have := hc'.y2; have := hc'.m1; have := hc'.m2
  simp only
  omega
 ·omega
theorem apq {k a b:Int} (h1:1≤k) (h2:k≤4) (ha:aU a) (hb:aU b):L.call XM [.int .i64 k,.int .i64 a,.int .i64 b]=some (.int .i64 (d_ k a b)):=by
 have hm:=YL k
 rw [decide_eq_true ⟨h1,h2⟩] at hm
 obtain ⟨y,m,d,hc,hd,ho⟩:=eu ha
 obtain ⟨y',m',d',hc',hd',ho'⟩:=eu hb
 have c1:=vT hc
 have c2:=vT hc'
 rw [← hd] at c1
 rw [← hd'] at c2
 unfold mJ at c1 c2
 unfold d_ YP
 rw [ho,ho']
 simp only
 have a1:=hc.y1; have a2:=hc.y2; have a3:=hc.m1; have a4:=hc.m2
 have b1:=hc'.y1; have b2:=hc'.y2; have b3:=hc'.m1; have b4:=hc'.m2
 refine aj (aqf ..) ?_
 by_cases h:k=1
 ·subst h
  have e1:IntKind.i64.wrap ((y':Int)-y)=(y':Int)-y:=wrap64 _ (by omega)
  have e2:IntKind.i64.wrap (360*((y':Int)-y))=360*((y':Int)-y):=wrap64 _ (by omega)
  have e3:IntKind.i64.wrap ((m':Int)-m)=(m':Int)-m:=wrap64 _ (by omega)
  have e4:IntKind.i64.wrap (30*((m':Int)-m))=30*((m':Int)-m):=wrap64 _ (by omega)
  have e5:IntKind.i64.wrap (360*((y':Int)-y)+30*((m':Int)-m))=360*((y':Int)-y)+30*((m':Int)-m):=wrap64 _ (by omega)
  have e6:IntKind.i64.wrap (360*((y':Int)-y)+30*((m':Int)-m)+min (d':Int) 30)=360*((y':Int)-y)+30*((m':Int)-m)+min (d':Int) 30:=wrap64 _ (by omega)
  have e7:IntKind.i64.wrap (360*((y':Int)-y)+30*((m':Int)-m)+min (d':Int) 30-min (d:Int) 30)=360*((y':Int)-y)+30*((m':Int)-m)+min (d':Int) 30-min (d:Int) 30:=wrap64 _ (by omega)
  simp [ZJ,hm,c1,c2,e1,e2,e3,e4,e5,e6,e7]
 ·have e1:IntKind.i64.wrap (b-a)=b-a:=wrap64 _ (by omega)
  simp [ZJ,hm,c1,c2,h,e1]
theorem aiZ (n:Int):L.call Qn [.int .i64 n]=some (.bool (decide (aU n))):=by
 have h:=IC n
 have h1 := @akF n
 refine aj (aml ..) ?_
 generalize ah3 n=w at *
 by_cases hd:aU n
 ·have : 0≤w:=by
   have := fun h=>h1.1 h hd
   omega
  simp [Ug,h,hd,this]
 ·have : ¬ 0≤w:=by have := h1.2 hd; omega
  simp [Ug,h,hd,this]
def Oe (k a b:Int):Rat:=Rat.divInt (d_ k a b) (if k=3 then 365 else 360)
def JF:Except Int Rat→D
 | .ok q => .aG [cZ q,.bQ]
 | .error c => .aG [.iy,BD c]
theorem apr {k a b s e f:Int} (h1:1≤k) (h2:k≤3) (ha:aU a) (hb:aU b) (hab:a≤b) :
  L.call J_ [.int .i64 k,.int .i64 a,.int .i64 b,.int .i64 s,.int .i64 e,.int .i64 f]=some (.aG [cZ (Oe k a b),.bQ]):=by
 have hm:=YL k
 rw [decide_eq_true ⟨h1,by omega⟩] at hm
 have i1:=aiZ a
 rw [decide_eq_true ha] at i1
 have i2:=aiZ b
 rw [decide_eq_true hb] at i2
 have hd:=apq h1 (by omega) ha hb
 have hbd:=Qm (k:=k) ha hb
 have hq:L.call DZ [.int .i64 (d_ k a b),.int .i64 (if k=3 then 365 else 360)]=some (.aG [cZ (Oe k a b),.bQ]):=by
  unfold Oe
  refine Aq (by omega) ?_ ?_
  ·split <;> omega
  ·split <;> omega
 have h4:¬ k=4:=by omega
 have hlt:¬ b<a:=by omega
 generalize Oe k a b=q at *
 generalize d_ k a b=n at *
 refine aj (aqg ..) ?_
 by_cases h3:k=3
 ·subst h3
  rw [if_pos rfl] at hq
  simp [ZK,hm,i1,i2,hlt,hd,hq]
 ·rw [if_neg h3] at hq
  simp [ZK,hm,i1,i2,hlt,hd,hq,h3,h4]
def gX (b:aA) (st:Int):Nat→Int→Option (List (Int×Int))
 | 0,_=>some []
 | f+1,e=>if e≤st then some [] else match quasi b e with
   | none=>none
   | some a=>(gX b st f a).map fun l=>((a:Int),e)::l
def nP (b:aA) (p:Int×Int):Option (List (Int×Int)):=gX b p.1 (p.2-p.1).toNat p.2
theorem alS {b:aA} {day:Int} {a:Nat} (h:quasi b day=some a):∃ k,anch b k=some day.toNat∧anch b (k+1)=some a∧0≤day∧b.issue<day:=by
 unfold quasi at h
 split at h
 ·rename_i k hk
  split at h
  ·simp at h
  ·have := UM hk
   exact ⟨k,this.2.1,h,this.2.2,by omega⟩
 ·simp at h
theorem Zt {b:aA} (hm:months b≠0) {day:Int} {a:Nat} (h:quasi b day=some a):(a:Int)<day∧aU a∧aU day:=by
 obtain ⟨k,h1,h2,h3,_⟩:=alS h
 have := ah7 hm (Nat.lt_succ_self k) h1 h2
 have hd:=ad7 h1
 exact ⟨by omega,ad7 h2,by rw [Int.toNat_of_nonneg h3] at hd; exact hd⟩
theorem ase {b:aA} (hm:months b≠0) {st:Int}:∀ {f:Nat} {e:Int} {l:List (Int×Int)},gX b st f e=some l→∀ q∈l,aU q.1∧aU q.2∧q.1<q.2∧q.2≤e
 | 0,e,l,h=>by simp [gX] at h; subst h; simp
 | f+1,e,l,h=>by
   simp only [gX] at h
   split at h
   ·simp at h; subst h; simp
   ·split at h
    ·simp at h
    ·rename_i a ha
     have hq:=Zt hm ha
     cases hl:gX b st f a with
     | none=>rw [hl] at h; simp at h
     | some r =>
       rw [hl] at h
       simp at h
       subst h
       intro q hmem
       rcases List.mem_cons.1 hmem with rfl | hmem
       ·exact ⟨hq.2.1,hq.2.2,hq.1,Int.le_refl _⟩
       ·have := ase hm hl q hmem
        exact ⟨this.1,this.2.1,this.2.2.1,by omega⟩
theorem aos {b:aA} (hm:months b≠0) {st:Int}:∀ {f:Nat} {e:Int} {l:List (Int×Int)},aU e→gX b st f e=some l→l.length+22800≤mi e
 | 0,e,l,he,h=>by
   simp [gX] at h; subst h
   have := aa2 he
   simp; omega
 | f+1,e,l,he,h=>by
   have hb:=aa2 he
   simp only [gX] at h
   split at h
   ·simp at h; subst h; simp; omega
   ·split at h
    ·simp at h
    ·rename_i a ha
     have hq:=Zt hm ha
     cases hl:gX b st f a with
     | none=>rw [hl] at h; simp at h
     | some r =>
       rw [hl] at h
       simp at h
       subst h
       have ih:=aos hm hq.2.1 hl
       obtain ⟨k,h1,h2,h3,_⟩:=alS ha
       unfold anch at h1 h2
       have m1:=O3 h1
       have m2:=O3 h2
       rw [Int.toNat_of_nonneg h3] at m1
       have hc:=pX b
       simp only [List.length_cons]
       have : ((k+1:Nat):Int)*months b=(k:Int)*months b+months b:=by rw [Int.natCast_add,Int.add_mul]; simp
       have e1 : -((k+1:Nat):Int)*months b = -((k:Int)*months b)-months b:=by rw [Int.neg_mul,this]; omega
       have e2 : -(k:Int)*months b = -((k:Int)*months b):=Int.neg_mul ..
       rw [e1] at m2
       rw [e2] at m1
       generalize (k:Int)*months b=z at *
       omega
theorem iZ (b:aA) (k n:Nat):(ay b).all (D.clo k (n+1))=true:=by obtain ⟨i,m,f,c,rd,n,s,e,ex⟩:=b; simp [ay]
theorem aui {b:aA} (hchk:chk b=none) (hc:b.aY.length≤1000000) (hr:b.bJ.length≤1000000) (p1 p2:Int):∀ (f:Nat) (e:Int) (acc:List (Int×Int)),(e-p1).toNat≤f→acc≠[]→acc.length+f≤1000000 →
  (∀ l,gX b p1 f e=some l→L.loop [2,3,6,7] [4,5,6] jE 2 [.loc 0 0,.loc 1 0,.aO 2 0 acc.length 2,.int .i64 e] [.live (ay b),.live [.int .i64 p1,.int .i64 p2],.live (aX acc)] =
   some (.exit 0,[.undef,.undef,.aO 2 0 (acc++l).length 2],[.live (ay b),.live [.int .i64 p1,.int .i64 p2],.live (aX (acc++l))])) ∧
  (gX b p1 f e=none→∃ x m,L.loop [2,3,6,7] [4,5,6] jE 2 [.loc 0 0,.loc 1 0,.aO 2 0 acc.length 2,.int .i64 e] [.live (ay b),.live [.int .i64 p1,.int .i64 p2],.live (aX acc)] =
   some (.ret,[.dh,BD 4,x],m)):=by
 intro f
 induction f with
 | zero =>
   intro e acc hf hne hal
   have hpc:=gZ acc 2 11
   have hbc:=iO b 2
   have he:¬ p1<e:=by omega
   simp only [gX]
   refine ⟨fun l hl=>?_,fun h=>by simp at h⟩
   simp at hl
   subst hl
   rw [List.append_nil]
   generalize aX acc=pc at *
   generalize ay b=B at *
   refine au (sQ ..) ?_
   simp [ou,he,hpc,hbc]
 | succ f ih =>
   intro e acc hf hne hal
   have hpc:=gZ acc 2 11
   have hbc:=iO b 2
   have hpl:=Fg acc
   simp only [gX]
   by_cases he:e≤p1
   ·rw [if_pos he]
    have he':¬ p1<e:=by omega
    refine ⟨fun l hl=>?_,fun h=>by simp at h⟩
    simp at hl
    subst hl
    rw [List.append_nil]
    generalize aX acc=pc at *
    generalize ay b=B at *
    refine au (sQ ..) ?_
    simp [ou,he',hpc,hbc]
   ·rw [if_neg he]
    have he':p1<e:=by omega
    have hq:=Og hc hr e
    unfold akv at hq
    rw [hchk] at hq
    simp only at hq
    cases hqe:quasi b e with
    | none =>
      simp only
      rw [hqe] at hq
      simp [kW] at hq
      refine ⟨fun l hl=>by simp at hl,fun _=>⟨.aO 2 0 acc.length 2,[.live (ay b),.live [.int .i64 p1,.int .i64 p2],.live (aX acc)],?_⟩⟩
      unfold aC at hq
      have hbl:=kK b
      have hbd:=iZ b 0 10
      generalize aX acc=pc at *
      generalize ay b=B at *
      have htk:B.take 9=B:=List.take_of_length_le (by omega)
      refine au (sQ ..) ?_
      simp [ou,he',hpc,hbc,hbl,hbd,htk,hq]
    | some a =>
      simp only
      rw [hqe] at hq
      simp [kW] at hq
      have hlt:=Zt (bV hchk).2.1 hqe
      have hn:=ih a (acc++[((a:Int),e)]) (by omega) (by simp) (by simp; omega)
      rw [akt,show aX [((a:Int),e)]=[.int .i64 a,.int .i64 e] from rfl,List.length_append,List.length_singleton] at hn
      have htk:(aX acc).take (acc.length*2)=aX acc:=List.take_of_length_le (by omega)
      have hlen:acc.length+1≤4294967296:=by omega
      have hstep:∀ r,L.loop [2,3,6,7] [4,5,6] jE 2 [.loc 0 0,.loc 1 0,.aO 2 0 (acc.length+1) 2,.int .i64 a] [.live (ay b),.live [.int .i64 p1,.int .i64 p2],.live (aX acc++[.int .i64 a,.int .i64 e])]=some r →
        L.loop [2,3,6,7] [4,5,6] jE 2 [.loc 0 0,.loc 1 0,.aO 2 0 acc.length 2,.int .i64 e] [.live (ay b),.live [.int .i64 p1,.int .i64 p2],.live (aX acc)]=some r:=by
       intro r hr
       unfold aC at hq
       have hbl:=kK b
       have hbd:=iZ b 0 10
       generalize aX acc=pc at *
       generalize ay b=B at *
       have htkB:B.take 9=B:=List.take_of_length_le (by omega)
       generalize acc.length=A at *
       refine au (sQ ..) ?_
       simp [ou,he',hpc,hbc,hbl,hbd,htkB,hq,oW,htk,hlen,hpl,hr]
      refine ⟨fun l hl=>?_,fun h=>?_⟩
      ·cases hl2:gX b p1 f a with
       | none=>rw [hl2] at hl; simp at hl
       | some r =>
         rw [hl2] at hl
         simp at hl
         subst hl
         have := hn.1 r hl2
         rw [List.append_assoc] at this
         exact hstep _ this
      ·cases hl2:gX b p1 f a with
       | some r=>rw [hl2] at h; simp at h
       | none =>
         obtain ⟨x,m,hx⟩:=hn.2 hl2
         exact ⟨x,m,hstep _ hx⟩
def aiq:Option (List (Int×Int))→D
 | some l => .aG [dO l,.bQ]
 | none => .aG [.sl 0 [],BD 4]
theorem amO {b:aA} (hchk:chk b=none) (hc:b.aY.length≤1000000) (hr:b.bJ.length≤1000000) {p:Int×Int} (hlt:p.1<p.2) (hle:p.2-p.1≤900000) :
  L.call UE [aC b,pD p]=some (aiq (nP b p)):=by
 obtain ⟨p1,p2⟩:=p
 simp only at hlt hle
 obtain ⟨f,hf⟩:∃ f,(p2-p1).toNat=f+1:=⟨(p2-p1).toNat-1,by omega⟩
 have hq:=Og hc hr p2
 unfold akv at hq
 rw [hchk] at hq
 simp only at hq
 have hbc:=iO b 2
 have hbl:=kK b
 have hbd:=iZ b 0 10
 have hnle:¬ p2≤p1:=by omega
 unfold nP pD
 simp only
 rw [hf]
 simp only [gX]
 rw [if_neg hnle]
 cases hqe:quasi b p2 with
 | none =>
   rw [hqe] at hq
   simp [kW] at hq
   simp only [aiq]
   unfold aC at hq ⊢
   generalize ay b=B at *
   have htkB:B.take 9=B:=List.take_of_length_le (by omega)
   have hl:L.loop [2,3,6,7] [4,5,6] jE 2 [.loc 0 0,.loc 1 0,.dh,.int .i64 p2] [.live B,.live [.int .i64 p1,.int .i64 p2]]=some (.ret,[.dh,BD 4,.dh],[.live B,.live [.int .i64 p1,.int .i64 p2]]):=by
    refine au (sQ ..) ?_
    simp [ou,hlt,hbc,hbl,hbd,htkB,hq]
   refine aj (V9 ..) ?_
   simp [Om,hl]
 | some a =>
   rw [hqe] at hq
   simp [kW] at hq
   simp only
   have hqlt:=Zt (bV hchk).2.1 hqe
   have hn:=aui hchk hc hr p1 p2 f a [((a:Int),p2)] (by omega) (by simp) (by simp; omega)
   rw [show aX [((a:Int),p2)]=[.int .i64 a,.int .i64 p2] from rfl,List.length_singleton] at hn
   have hstep:∀ r,L.loop [2,3,6,7] [4,5,6] jE 2 [.loc 0 0,.loc 1 0,.aO 2 0 1 2,.int .i64 a] [.live (ay b),.live [.int .i64 p1,.int .i64 p2],.live [.int .i64 a,.int .i64 p2]]=some r →
     L.loop [2,3,6,7] [4,5,6] jE 2 [.loc 0 0,.loc 1 0,.dh,.int .i64 p2] [.live (ay b),.live [.int .i64 p1,.int .i64 p2]]=some r:=by
    intro r hr
    unfold aC at hq
    generalize ay b=B at *
    have htkB:B.take 9=B:=List.take_of_length_le (by omega)
    refine au (sQ ..) ?_
    simp [ou,hlt,hbc,hbl,hbd,htkB,hq,oW,hr]
   cases hl2:gX b p1 f a with
   | none =>
     obtain ⟨x,m,hx⟩:=hn.2 hl2
     have := hstep _ hx
     simp only [aiq,Option.map_none]
     unfold aC
     generalize ay b=B at *
     refine aj (V9 ..) ?_
     simp [Om,this]
   | some r =>
     have := hstep _ (hn.1 r hl2)
     simp only [aiq,Option.map_some,dO]
     rw [show [((a:Int),p2)]++r=((a:Int),p2)::r from rfl] at this
     have hcl:=gZ (((a:Int),p2)::r) 0 11
     have hlen:=Fg (((a:Int),p2)::r)
     have hfz:∀ m,jd (fz 10) (aX (((a:Int),p2)::r)) m=some (aX (((a:Int),p2)::r),m):=fun m=>OD _ 9 m
     have htk:(aX (((a:Int),p2)::r)).take ((((a:Int),p2)::r).length*2)=aX (((a:Int),p2)::r):=List.take_of_length_le (by omega)
     unfold aC
     generalize ay b=B at *
     generalize aX (((a:Int),p2)::r)=pc at *
     generalize (((a:Int),p2)::r).length=K at *
     refine aj (V9 ..) ?_
     simp [Om,this,hcl,hfz,hlen,htk]
end Go.Ev.Code
end
section
namespace Go.Ev.Code
open Go Go.Ev
def yK (bG x y:Int) (q:Int×Int):Rat:=Rat.divInt (max (min y q.2-max x q.1) 0) (bG*(q.2-q.1))
def sumF (bG x y:Int):Rat→List (Int×Int)→Rat
 | s,[]=>s
 | s,q::r=>sumF bG x y (s+yK bG x y q) r
abbrev vO (f:Int):Prop:=f=1∨f=2∨f=4∨f=12
theorem dZ {b:aA} (h:months b≠0):vO b.bG:=by
 unfold months at h
 split at h
 ·left; assumption
 ·split at h
  ·right; left; assumption
  ·split at h
   ·right; right; left; assumption
   ·split at h
    ·right; right; right; assumption
    ·simp at h
structure QOk (q:Int×Int):Prop where
 d1:aU q.1
 d2:aU q.2
 lt:q.1<q.2
theorem vO.mul {f a:Int} (hf:vO f) (h1:1≤a) (h2:a≤200000):1≤f*a∧f*a≤2400000:=by
 rcases hf with rfl | rfl | rfl | rfl <;> omega
theorem am7 {f x y:Int} {q:Int×Int} (hf:vO f) (hq:QOk q):RB 64 (yK f x y q):=by
 have h1:=hq.d1; have h2:=hq.d2; have h3:=hq.lt
 have hm:=hf.mul (a:=q.2-q.1) (by omega) (by omega)
 unfold yK
 exact oH (gQ (by omega)) (gQ (by omega)) (by omega)
theorem avi {f x y:Int} (hf:vO f):∀ {l:List (Int×Int)} {s:Rat} {j:Nat},(∀ q∈l,QOk q)→RB j s→RB (j+65*l.length) (sumF f x y s l)
 | [],s,j,hl,hs=>by simpa [sumF] using hs
 | q::r,s,j,hl,hs=>by
   have := avi (x:=x) (y:=y) hf (l:=r) (s:=s+yK f x y q) (j:=j+64+1) (fun q hq=>hl q (List.mem_cons_of_mem _ hq)) (hs.add (am7 hf (hl q (by simp))))
   simp only [sumF]
   exact this.mono (by simp; omega)
theorem ayj {b:aA} (hf:vO b.bG) {p1 p2 x y:Int} (hx:p1≤x) (hxy:x≤y) (hy:y≤p2) (d1:aU p1) (d2:aU p2) (all:List (Int×Int)) (hall:∀ q∈all,QOk q) (hlen:all.length≤4000) :
  ∀ (l pre:List (Int×Int)) (s:Rat) (j:Nat),all=pre++l→RB j s→j+65*l.length≤600000 →
    L.loop [2,3,4,14,77,78,79] [14] Ju 2 [.int .i64 x,.int .i64 y,.loc 0 0,cZ s,dO all,.int .i64 all.length,.int .i64 pre.length] [.live (ay b),.live [.int .i64 p1,.int .i64 p2]] =
      some (.exit 0,[cZ (sumF b.bG x y s l)],[.live (ay b),.live [.int .i64 p1,.int .i64 p2]]):=by
 have hbc:=iO b 2
 have hpcc:=gZ all 2 11
 intro l
 induction l with
 | nil =>
   intro pre s j hal hs hj
   rw [List.append_nil] at hal
   subst hal
   unfold dO
   simp only [sumF]
   generalize ay b=B at *
   generalize aX all=pc at *
   generalize all.length=n at *
   refine au (acL ..) ?_
   simp [Uj,hbc]
 | cons q r ih =>
   intro pre s j hal hs hj
   have hq:=hall q (by rw [hal]; simp)
   have hn:=ih (pre++[q]) (s+yK b.bG x y q) (j+64+1) (by rw [hal]; simp) (hs.add (am7 hf hq)) (by simp at hj ⊢; omega)
   rw [List.length_append,List.length_singleton,show ((pre.length+1:Nat):Int)=(pre.length:Int)+1 by omega] at hn
   simp only [sumF]
   have hg:=mP (ps:=all) (i:=pre.length) (p:=q) (by rw [hal]; simp)
   have hlt:pre.length<all.length:=by rw [hal]; simp
   have a1:=hq.d1; have a2:=hq.d2; have a3:=hq.lt
   have hm:=hf.mul (a:=q.2-q.1) (by omega) (by omega)
   have hadd:=LD hs (am7 (x:=x) (y:=y) hf hq) (by omega)
   have hof:L.call DZ [.int .i64 (max (min y q.2-max x q.1) 0),.int .i64 (b.bG*(q.2-q.1))]=some (.aG [cZ (yK b.bG x y q),.bQ]):=by
    unfold yK
    exact Aq (by omega) (by omega) (by omega)
   have e1:IntKind.i64.wrap (min y q.2-max x q.1)=min y q.2-max x q.1:=wrap64 _ (by omega)
   have e2:IntKind.i64.wrap (q.2-q.1)=q.2-q.1:=wrap64 _ (by omega)
   have e3:IntKind.i64.wrap (b.bG*(q.2-q.1))=b.bG*(q.2-q.1):=wrap64 _ (by omega)
   have e4:IntKind.i64.wrap ((pre.length:Int)+1)=(pre.length:Int)+1:=wrap64 _ (by omega)
   generalize sumF b.bG x y (s+yK b.bG x y q) r=res at *
   generalize s+yK b.bG x y q=s2 at *
   generalize yK b.bG x y q=qq at *
   obtain ⟨q1,q2⟩:=q
   simp only at *
   unfold dO at *
   obtain ⟨g1,g2,g3,g4⟩:=hg
   generalize aX all=pc at *
   generalize all.length=N at *
   generalize pre.length=P at *
   have hltI:(P:Int)<N:=by omega
   obtain ⟨i,m,fq,c,rd,n,st,e,ex⟩:=b
   unfold ay at *
   simp only at *
   refine au (acL ..) ?_
   simp [Uj,hlt,hltI,g1,g2,g3,g4,e1,e2,e3,e4,hof,hadd,hn]
def jW (b:aA) (p:Int×Int) (x y:Int):Except Int Rat :=
 if b.count=4 then match nP b p with
  | none => .error 4
  | some l=>if x<p.1∨y<x∨p.2<y then .error 6 else .ok (sumF b.bG x y (Rat.divInt 0 1) l)
 else if x<p.1∨y<x∨p.2<y then .error 6 else .ok (Oe b.count x y)
theorem aiw:RB 64 (Rat.divInt 0 1):=oH (gQ (by omega)) (gQ (by omega)) (by omega)
theorem dK {b:aA} (h:(aF b).1=none):chk b=none:=(dP h).1
theorem anP {b:aA} (h:chk b=none):1≤b.count∧b.count≤4:=by
 unfold chk at h
 split at h <;> try (simp at h; done)
 split at h <;> try (simp at h; done)
 split at h <;> try (simp at h; done)
 split at h <;> try (simp at h; done)
 rename_i h1
 exact Classical.not_not.1 h1
theorem Lu {b:aA} (hchk:chk b=none) {p:Int×Int} (d2:aU p.2) {l:List (Int×Int)} (h:nP b p=some l):(∀ q∈l,QOk q)∧l.length≤3600:=by
 have hm:=(bV hchk).2.1
 have hb:=aa2 d2
 refine ⟨fun q hq=>?_,?_⟩
 ·have := ase hm h q hq
  exact ⟨this.1,this.2.1,this.2.2.1⟩
 ·have := aos hm d2 h; omega
set_option maxHeartbeats 1000000 in
theorem yD {b:aA} (hp:(aF b).1=none) (hc:b.aY.length≤1000000) (hr:b.bJ.length≤1000000) {p:Int×Int} (d1:aU p.1) (d2:aU p.2) (hlt:p.1<p.2) (x y:Int) :
  L.call Vm [aC b,pD p,.int .i64 x,.int .i64 y]=some (JF (jW b p x y)):=by
 have hchk:=dK hp
 have hpl:=Lm hc hr
 have hcl:=gZ (aF b).2 0 11
 have hqs:=amO hchk hc hr hlt (by omega)
 have hf:=dZ (bV hchk).2.1
 have hcnt:=anP hchk
 have hok:=fun {l} h=>Lu (l:=l) hchk d2 h
 have hz:L.call DZ [.int .i64 0,.int .i64 1]=some (.aG [cZ (Rat.divInt 0 1),.bQ]):=Aq (by omega) (by omega) (by omega)
 unfold Ak at hpl
 rw [hp] at hpl
 simp only [fC] at hpl
 have hloop:=fun l hx hxy hy hall=>ayj (b:=b) hf (p1:=p.1) (p2:=p.2) (x:=x) (y:=y) hx hxy hy d1 d2 l hall
 obtain ⟨p1,p2⟩:=p
 unfold pD at *
 simp only at *
 unfold dO at hpl
 generalize (aF b).2.length=pn at *
 generalize aX (aF b).2=pc at *
 unfold jW
 simp only
 have hbad:x<p1∨y<x∨p2<y∨(p1≤x∧x≤y∧y≤p2):=by omega
 by_cases hk:b.count=4
 ·rw [if_pos hk]
  cases hq:nP b (p1,p2) with
  | none =>
    rw [hq] at hqs
    simp only [aiq] at hqs
    obtain ⟨i,m,fq,c,rd,n,st,e,ex⟩:=b
    unfold aC ay at *
    simp only at *
    subst hk
    refine aj (abA ..) ?_
    simp [pK,hpl,hqs,JF]
  | some l =>
    rw [hq] at hqs
    simp only [aiq] at hqs
    obtain ⟨hall,hll⟩:=hok hq
    simp only
    have hlp:=fun h1 h2 h3=>hloop l h1 h2 h3 hall (by omega) l [] (Rat.divInt 0 1) 64 rfl aiw (by omega)
    have hlc:=gZ l 0 11
    simp only [List.length_nil] at hlp
    unfold dO at *
    generalize aX l=lc at *
    generalize l.length=ln at *
    generalize Rat.divInt 0 1=z at *
    generalize sumF b.bG x y z l=res at *
    obtain ⟨i,m,fq,c,rd,n,st,e,ex⟩:=b
    unfold aC ay at *
    simp only at *
    subst hk
    refine aj (abA ..) ?_
    by_cases h1:x<p1
    ·rw [if_pos (.inl h1)]
     simp [pK,hpl,hqs,h1,bM,JF]
    by_cases h2:y<x
    ·rw [if_pos (.inr (.inl h2))]
     simp [pK,hpl,hqs,h1,h2,bM,JF]
    by_cases h3:p2<y
    ·rw [if_pos (.inr (.inr h3))]
     simp [pK,hpl,hqs,h1,h2,h3,bM,JF]
    ·rw [if_neg (by omega)]
     have := hlp (by omega) (by omega) (by omega)
     simp at this
     simp [pK,hpl,hqs,h1,h2,h3,hz,this,JF]
 ·rw [if_neg hk]
  have hcp:¬ (x<p1∨y<x∨p2<y)→∀ s e f,L.call J_ [.int .i64 b.count,.int .i64 x,.int .i64 y,.int .i64 s,.int .i64 e,.int .i64 f]=some (.aG [cZ (Oe b.count x y),.bQ]) :=
   fun h s e f=>apr (by omega) (by omega) (by omega) (by omega) (by omega)
  generalize Oe b.count x y=res at *
  obtain ⟨i,m,fq,c,rd,n,st,e,ex⟩:=b
  unfold aC ay at *
  simp only at *
  refine aj (abA ..) ?_
  by_cases h1:x<p1
  ·rw [if_pos (.inl h1)]
   simp [pK,hpl,hk,h1,bM,JF]
  by_cases h2:y<x
  ·rw [if_pos (.inr (.inl h2))]
   simp [pK,hpl,hk,h1,h2,bM,JF]
  by_cases h3:p2<y
  ·rw [if_pos (.inr (.inr h3))]
   simp [pK,hpl,hk,h1,h2,h3,bM,JF]
  ·rw [if_neg (by omega)]
   have := hcp (by omega) p1 p2 fq
   simp [pK,hpl,hk,h1,h2,h3,this,JF]
theorem Zq {b:aA} (hchk:chk b=none) {p:Int×Int} (d1:aU p.1) (d2:aU p.2) {x y:Int} {q:Rat} (h:jW b p x y = .ok q) {n:Nat} (hn:∀ l,nP b p=some l→l.length≤n):RB (64+65*n) q:=by
 have hf:=dZ (bV hchk).2.1
 unfold jW at h
 split at h
 ·split at h
  ·simp at h
  ·rename_i l hl
   split at h
   ·simp at h
   ·simp at h
    subst h
    exact (avi hf (Lu hchk d2 hl).1 aiw).mono (by have := hn l hl; omega)
 ·split at h
  ·simp at h
  ·rename_i hxy
   simp at h
   subst h
   unfold Oe
   have := Qm (k:=b.count) (a:=x) (b:=y) (by omega) (by omega)
   refine (oH (k:=64) (gQ (by omega)) (gQ ?_) ?_).mono (by omega)
   ·split <;> omega
   ·split <;> omega
def fP (b:aA):Rat:=pV b*Rat.divInt 1 b.bG
theorem YM (b:aA):RB 400 (pV b):=by
 unfold pV
 have hq:RB 400 q0:=aiw.mono (by omega)
 split
 ·exact hq
 ·split
  ·rename_i h; exact (YQ h).1
  ·exact hq
theorem Zw (b:aA):RB 400 (fJ b):=by
 unfold fJ
 have hq:RB 400 q0:=aiw.mono (by omega)
 split
 ·exact hq
 ·split
  ·rename_i h; exact (YQ h).1
  ·exact hq
theorem axW {f:Int} (hf:vO f):RB 64 (Rat.divInt 1 f):=oH (gQ (by omega)) (gQ (by omega)) (by omega)
theorem abm {b:aA} (hf:vO b.bG):RB 464 (fP b):=(YM b).mul (axW hf)
theorem aaU {b:aA} (hf:vO b.bG) (hc:b.aY.length≤1000000) (hr:b.bJ.length≤1000000):L.call Qz [aC b]=some (cZ (fP b)):=by
 have h1:=J5 hc hr
 have h2:L.call DZ [.int .i64 1,.int .i64 b.bG]=some (.aG [cZ (Rat.divInt 1 b.bG),.bQ]):=Aq (by omega) (by omega) (by omega)
 have h3:=Fp (YM b) (axW hf) (by omega)
 unfold fP
 generalize pV b*Rat.divInt 1 b.bG=r at *
 generalize Rat.divInt 1 b.bG=v at *
 generalize pV b=q at *
 obtain ⟨i,m,fq,c,rd,n,st,e,ex⟩:=b
 unfold aC ay at *
 simp only at *
 refine aj (amn ..) ?_
 simp [adG,h1,h2,h3]
def oq (b:aA) (p:Int×Int):Except Int Rat:=if regular b p=true then .ok (fP b) else match jW b p p.1 p.2 with
 | .ok q => .ok (pV b*q)
 | .error c => .error c
theorem aik {b:aA} (hchk:chk b=none) {p:Int×Int} (d1:aU p.1) (d2:aU p.2) {q:Rat} (h:oq b p = .ok q) {n:Nat} (hn:∀ l,nP b p=some l→l.length≤n):RB (464+65*n) q:=by
 have hf:=dZ (bV hchk).2.1
 unfold oq at h
 split at h
 ·simp at h; subst h; exact (abm hf).mono (by omega)
 ·split at h
  ·rename_i v hv
   simp at h; subst h
   exact ((YM b).mul (Zq hchk d1 d2 hv hn)).mono (by omega)
  ·simp at h
theorem UD {b:aA} (hp:(aF b).1=none) (hc:b.aY.length≤1000000) (hr:b.bJ.length≤1000000) {p:Int×Int} (d1:aU p.1) (d2:aU p.2) (hlt:p.1<p.2):L.call TP [aC b,pD p]=some (JF (oq b p)):=by
 have hchk:=dK hp
 have hf:=dZ (bV hchk).2.1
 have hpl:=Lm hc hr
 have hreg:=IE hc hr p
 have hpart:=yD hp hc hr d1 d2 hlt p.1 p.2
 have hrp:=aaU hf hc hr
 have hcp:=J5 hc hr
 have hcl:=gZ (aF b).2 0 11
 have hmul:=fun {q} h=>Fp (YM b) (Zq hchk d1 d2 (q:=q) (x:=p.1) (y:=p.2) h (n:=3600) (fun l hl=>(Lu hchk d2 hl).2)) (by omega)
 unfold Ak at hpl
 rw [hp] at hpl
 simp only [fC] at hpl
 unfold dO at hpl
 generalize (aF b).2.length=pn at *
 generalize aX (aF b).2=pc at *
 unfold oq
 obtain ⟨p1,p2⟩:=p
 unfold pD at *
 simp only at *
 generalize jW b (p1,p2) p1 p2=pr at *
 generalize regular b (p1,p2)=rg at *
 generalize fP b=rp at *
 generalize pV b=cq at *
 obtain ⟨i,m,fq,c,rd,n,st,e,ex⟩:=b
 unfold aC ay at *
 simp only at *
 refine aj (avw ..) ?_
 cases rg with
 | true=>simp [X_,hpl,hreg,hrp,JF]
 | false =>
   cases pr with
   | error c=>simp [JF] at hpart; simp [X_,hpl,hreg,hpart,JF]
   | ok q =>
     have hmul:=hmul rfl
     simp only [JF] at hpart
     simp [X_,hpl,hreg,hpart,hcp,hmul,JF]
end Go.Ev.Code
end
