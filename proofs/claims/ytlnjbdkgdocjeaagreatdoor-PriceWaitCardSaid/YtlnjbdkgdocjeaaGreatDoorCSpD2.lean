/- A part of the proof of priceWait_card. -/
import Derived.Test.YtlnjbdkgdocjeaaGreatDoorCSpD1
set_option linter.unusedVariables false
set_option linter.unusedSimpArgs false
section
namespace Go.Ev.Code
open Go Go.Ev
theorem adz:∀ (l:List Nat) (f:Int) (i:Nat),i<l.length→(dA f l)[i]?=some (if i=0 then f else ((l[i-1]?.getD 0:Nat):Int),((l[i]?.getD 0:Nat):Int))
 | [],_,i,h=>by simp at h
 | d::ds,f,0,h=>by simp [dA]
 | d::ds,f,i+1,h=>by
   have h':i<ds.length:=by simpa using h
   have := adz ds d i h'
   simp only [dA,List.getElem?_cons_succ,this,Nat.add_sub_cancel]
   cases i with
   | zero=>simp
   | succ j=>simp
structure Whole (b:ay) (ps:List (Int×Int)):Prop where
 ne:ps≠[]
 first:∀ p:Int×Int,ps[0]?=some p→p.1=b.issue
 last:∀ p:Int×Int,ps[ps.length-1]?=some p→p.2=b.bf
 len:ps.length≤200
 ord:∀ (i:Nat) (p:Int×Int),ps[i]?=some p→p.1<p.2
 next : ∀ (i:Nat) (p q:Int×Int),ps[i]?=some q→ps[i+1]?=some p→p.1=q.2∧regular b p=true
 stub:b.stub=0→∀ p:Int×Int,ps[0]?=some p→regular b p=true
theorem uw {b:ay} {i:Nat} (h:i<aX b):(dw b)[i]?=some (if i=0 then b.issue else (((anch b (aX b-i)).getD 0:Nat):Int),(((anch b (aX b-1-i)).getD 0:Nat):Int)):=by
 unfold dw
 have hl:=lF b (aX b)
 rw [adz _ _ _ (by rw [List.length_reverse,hl]; exact h)]
 have hg:∀ j,j<aX b→(dI b (aX b)).reverse[j]?=some ((anch b (aX b-1-j)).getD 0):=by
  intro j hj
  rw [List.getElem?_reverse (by rw [hl]; exact hj),hl]
  simp [dI,List.getElem?_range,show aX b-1-j<aX b by omega]
 rw [hg i h,Option.getD_some]
 by_cases h0:i=0
 ·simp [h0]
 ·rw [if_neg h0,if_neg h0,hg (i-1) (by omega),Option.getD_some,show aX b-1-(i-1)=aX b-i by omega]
theorem kN {b:ay} (hchk:chk b=none) {k:Nat} (hk:k<aX b):∃ a,anch b k=some a∧b.issue<(a:Int)∧(k+1<aX b→∃ c,anch b (k+1)=some c∧c<a):=by
 have hm:=(bW hchk).2.1
 obtain ⟨g1,g2,g3⟩:=Ej hm
 obtain ⟨a,ha,hai⟩:=g1 k hk
 refine ⟨a,ha,hai,fun hk2=>?_⟩
 obtain ⟨c,hc,_⟩:=g1 (k+1) hk2
 exact ⟨c,hc,Z9 hm (Nat.lt_succ_self k) ha hc⟩
theorem alN {b:ay} (hchk:chk b=none) {i:Nat} {p:Int×Int} (h:(dw b)[i]?=some p):p.1<p.2∧b.issue<p.2:=by
 have hl:i<aX b:=by rw [← nP]; exact (List.getElem?_eq_some_iff.1 h).1
 rw [uw hl] at h
 simp at h
 subst h
 obtain ⟨a,ha,hai,hn⟩:=kN hchk (k:=aX b-1-i) (by omega)
 simp only [ha,Option.getD_some]
 by_cases h0:i=0
 ·rw [if_pos h0]; exact ⟨hai,hai⟩
 ·rw [if_neg h0]
  obtain ⟨c,hc,hca⟩:=hn (by omega)
  rw [show aX b-i=aX b-1-i+1 by omega,hc,Option.getD_some]
  exact ⟨by omega,hai⟩
theorem aqI {b:ay} (hchk:chk b=none) {i:Nat} {p q:Int×Int} (hq:(dw b)[i]?=some q) (hp:(dw b)[i+1]?=some p):p.1=q.2∧regular b p=true:=by
 have hl:i+1<aX b:=by rw [← nP]; exact (List.getElem?_eq_some_iff.1 hp).1
 rw [uw (by omega)] at hq
 rw [uw hl] at hp
 simp at hq hp
 obtain ⟨a,ha,hai,hn⟩:=kN hchk (k:=aX b-1-(i+1)) (by omega)
 obtain ⟨c,hc,hca⟩:=hn (by omega)
 rw [show aX b-1-(i+1)+1=aX b-(i+1) by omega] at hc
 subst hp
 subst hq
 refine ⟨?_,?_⟩
 ·simp only
  rw [show aX b-1-i=aX b-(i+1) by omega]
 ·simp only [ha,hc,Option.getD_some]
  exact Ql hchk (k:=aX b-1-(i+1)) (by omega) ha ⟨c,by rw [show aX b-1-(i+1)+1=aX b-(i+1) by omega]; exact hc,rfl⟩
theorem agi {b:ay} (hchk:chk b=none) (hs:b.stub=0→Jv b=true):Whole b (dw b):=by
 have kp:=FW hchk
 have hm:=(bW hchk).2.1
 obtain ⟨d1,d2,d3⟩:=G6 (bW hchk).1
 have hl:=nP b
 refine ⟨?_,?_,?_,?_,?_,?_,?_⟩
 ·intro h; rw [h] at hl; simp at hl; omega
 ·intro p hp
  rw [uw (by omega)] at hp
  simp at hp
  rw [← hp]
 ·intro p hp
  rw [hl,uw (by omega)] at hp
  simp at hp
  rw [← hp]
  simp only [show aX b-1-(aX b-1)=0 by omega,Rx d2,Option.getD_some]
  omega
 ·have := aon hchk; omega
 ·exact fun i p hp=>(alN hchk hp).1
 ·exact fun i p q hq hp=>aqI hchk hq hp
 ·intro h0 p hp
  have hh:=hs h0
  rw [uw (by omega)] at hp
  simp at hp
  subst hp
  obtain ⟨a,ha,hai,_⟩:=kN hchk (k:=aX b-1) (by omega)
  simp only [Nat.sub_zero,ha,Option.getD_some]
  refine Ql hchk (k:=aX b-1) (by omega) ha ?_
  rw [show aX b-1+1=aX b by omega]
  unfold Jv at hh
  cases hk:anch b (aX b) with
  | none=>rw [hk] at hh; simp at hh
  | some c=>rw [hk] at hh; exact ⟨c,rfl,by simpa using hh⟩
theorem eF {b:ay} (h:(aF b).1=none):chk b=none∧Whole b (aF b).2:=by
 unfold aF at h ⊢
 cases hchk:chk b with
 | some e=>rw [hchk] at h; simp at h
 | none =>
   rw [hchk] at h
   simp only at h ⊢
   refine ⟨trivial,?_⟩
   by_cases hh:Jv b=true
   ·rw [if_pos hh]; exact agi hchk fun _=>hh
   ·rw [if_neg hh] at h ⊢
    by_cases h0:b.stub=0
    ·rw [if_pos h0] at h; simp at h
    ·rw [if_neg h0] at h ⊢
     have hw:=agi hchk fun h=>absurd h h0
     by_cases h2:b.stub=2
     ·rw [if_pos h2]
      split
      ·rename_i p q r hr
       rw [hr] at hw
       have hq:=alN hchk (i:=1) (p:=q) (by rw [hr]; rfl)
       refine ⟨by simp,?_,?_,?_,?_,?_,fun h=>absurd h h0⟩
       ·intro x hx; simp at hx; rw [← hx]
       ·intro x hx
        have hl:=hw.last
        cases r with
        | nil=>simp at hx hl; rw [← hx]; exact hl
        | cons y ys =>
          refine hl x ?_
          simp at hx ⊢
          exact hx
       ·have := hw.len; simp at this ⊢; omega
       ·intro i x hx
        cases i with
        | zero=>simp at hx; rw [← hx]; exact hq.2
        | succ j=>exact hw.ord (j+2) x (by simpa using hx)
       ·intro i x y hy hx
        cases i with
        | zero =>
          simp at hy
          have := hw.next 1 x q (by simp) (by simpa using hx)
          rw [← hy]; exact this
        | succ j=>exact hw.next (j+2) x y (by simpa using hy) (by simpa using hx)
      ·exact hw
     ·rw [if_neg h2]; exact hw
theorem sO:∀ {ps:List (Int×Int)} {i:Nat} {p:Int×Int},ps[i]?=some p→(aS ps)[i*2]?=some (.int .i64 p.1)∧(aS ps)[i*2+1]?=some (.int .i64 p.2)∧i*2+2≤(aS ps).length∧((aS ps).drop (i*2)).take 2=[.int .i64 p.1,.int .i64 p.2]
 | [],i,p,h=>by simp at h
 | (a,b)::ps,0,p,h=>by simp at h; subst h; simp [aS]
 | (a,b)::ps,i+1,p,h=>by
   obtain ⟨h1,h2,h3,h4⟩:=sO (ps:=ps) (i:=i) (p:=p) (by simpa using h)
   have e1:(i+1)*2=i*2+1+1:=by omega
   have e2:(i+1)*2+1=i*2+1+1+1:=by omega
   rw [e1]
   refine ⟨by simpa [aS] using h1,by simpa [aS] using h2,by simp [aS]; omega,by simpa [aS] using h4⟩
theorem jL (b:ay) (k:Nat):(au b).all (D.clo k 12)=true:=by obtain ⟨i,m,f,c,rd,n,s,e,ex⟩:=b; simp [au]
theorem mg (b:ay):(au b).length=9:=rfl
end Go.Ev.Code
end
section
namespace Go.Ev.Code
open Go Go.Ev
theorem ZH {y:Nat} (h:y≤1000000):L.call yN [.int .i64 y]=some (.bool (leap y)):=by
 have q1:=tH y 4
 have q2:=tH y 100
 have q3:=tH y 400
 simp at q1 q2 q3
 refine ak (Ym ..) ?_
 unfold leap
 have c4:((y:Int) % 4=0)↔y % 4=0:=by omega
 have c100:((y:Int) % 100=0)↔y % 100=0:=by omega
 have c400:((y:Int) % 400=0)↔y % 400=0:=by omega
 by_cases h4:y % 4=0
 ·by_cases h100:y % 100=0
  ·by_cases h400:y % 400=0 <;> simp (disch:=omega) [u_,q1,q2,q3,c4,c100,c400,h4,h100,h400]
  ·simp (disch:=omega) [u_,q1,q2,q3,c4,c100,c400,h4,h100]
 ·simp (disch:=omega) [u_,q1,q2,q3,c4,c100,c400,h4]
theorem rW {y m:Nat} (h:y≤1000000) (h1:1≤m) (h2:m≤12):L.call oM [.int .i64 y,.int .i64 m]=some (.int .i64 (aV y m)):=by
 have hl:=ZH h
 refine ak (VL ..) ?_
 have : m=1∨m=2∨m=3∨m=4∨m=5∨m=6∨m=7∨m=8∨m=9∨m=10∨m=11∨m=12:=by omega
 rcases this with rfl | rfl | rfl | rfl | rfl | rfl | rfl | rfl | rfl | rfl | rfl | rfl
 case inr.inl =>
  cases hy:leap y <;> rw [hy] at hl <;> simp [yX,aV,hl,hy]
 all_goals simp [yX,aV]
theorem jA (n:Int):L.call xC [.int .i64 n]=some (.bool (decide (0≤n∧n≤109572))):=by
 refine ak (abq ..) ?_
 by_cases h:0≤n
 ·by_cases h':n≤109572 <;> simp [FD,h,h']
 ·simp [FD,h]
theorem Qk {y:Nat} (h:y≤1000000):L.call yP [.int .i64 y]=some (.int .i64 (bF y 12)):=by
 have hl:=ZH h
 rw [ahy]
 refine ak (Yn ..) ?_
 cases hy:leap y <;> rw [hy] at hl <;> simp [LD,hl]
theorem aij (y:Nat):bF y 12≤366∧365≤bF y 12:=by rw [ahy]; split <;> omega
theorem ahr {y m d:Nat} (hy:y≤2199):∀ (j k:Nat),k+j=y→1900≤k →
  L.loop [1,4,5] [1,4] qm 1 [.loc 0 0,.int .i64 (bV k),.int .i64 k] [.live [.int .i64 y,.int .i64 m,.int .i64 d]] =
    some (.exit 0,[.loc 0 0,.int .i64 (bV y)],[.live [.int .i64 y,.int .i64 m,.int .i64 d]]):=by
 intro j
 induction j with
 | zero =>
   intro k hk h1
   have : k=y:=by omega
   subst this
   generalize bV k=B
   refine aj (IQ ..) ?_
   simp [Am]
 | succ j ih =>
   intro k hk h1
   have hl:=Qk (y:=k) (by omega)
   have hn:=ih (k+1) (by omega) (by omega)
   have hs:=xU h1
   have hb:=O_ (y:=k) (by omega)
   have hc:=aij k
   have hlt:k<y:=by omega
   rw [hs] at hn
   generalize bV y=By at *
   generalize bV k=B at *
   generalize bF k 12=l at *
   have e1:IntKind.i64.wrap ((B:Int)+l)=((B+l:Nat):Int):=by rw [wrap64 _ (by omega)]; omega
   have e2:IntKind.i64.wrap ((k:Int)+1)=((k+1:Nat):Int):=by rw [wrap64 _ (by omega)]; omega
   generalize B+l=B2 at *
   generalize k+1=k2 at *
   refine aj (IQ ..) ?_
   simp [Am,hl,hlt,e1,e2,hn]
theorem ahs {y m d A:Nat} (hy:y≤2200) (hm:m≤12) (hA:A≤1000000):∀ (j k:Nat),k+j=m→1≤k →
  L.loop [1,4,6] [1,4] qo 1 [.loc 0 0,.int .i64 ((A+bF y (k-1):Nat):Int),.int .i64 k] [.live [.int .i64 y,.int .i64 m,.int .i64 d]] =
    some (.exit 2,[.loc 0 0,.int .i64 ((A+bF y (m-1):Nat):Int)],[.live [.int .i64 y,.int .i64 m,.int .i64 d]]):=by
 intro j
 induction j with
 | zero =>
   intro k hk h1
   have : k=m:=by omega
   subst this
   generalize A+bF y (k-1)=B
   refine aj (IU ..) ?_
   simp [Ap]
 | succ j ih =>
   intro k hk h1
   have hl:=rW (y:=y) (m:=k) (by omega) h1 (by omega)
   have hn:=ih (k+1) (by omega) (by omega)
   have hc:A+bF y (k+1-1)=A+bF y (k-1)+aV y k:=by
    rw [Nat.add_sub_cancel]
    obtain ⟨q,rfl⟩:∃ q,k=q+1:=⟨k-1,by omega⟩
    simp only [bF,Nat.add_sub_cancel]; omega
   rw [hc] at hn
   have hb:=Yv y (k-1)
   have hb2:=rQ y k
   have hlt:k<m:=by omega
   have hBl:A+bF y (k-1)≤1000372:=by omega
   generalize A+bF y (k-1)=B at *
   generalize A+bF y (m-1)=C at *
   generalize aV y k=l at *
   have e1:IntKind.i64.wrap ((B:Int)+l)=((B+l:Nat):Int):=by rw [wrap64 _ (by omega)]; omega
   have e2:IntKind.i64.wrap ((k:Int)+1)=((k+1:Nat):Int):=by rw [wrap64 _ (by omega)]; omega
   generalize B+l=B2 at *
   generalize k+1=k2 at *
   refine aj (IU ..) ?_
   simp (disch:=omega) [Ap,hl,hlt,e1,e2,hn]
theorem am4 {y m d:Nat} (h1:1900≤y) (h2:y≤2199) (hm:1≤m) (hm2:m≤12) (hd:1≤d) (hd2:d≤aV y m) :
  L.call rX [jI y m d]=some (.aH [.int .i64 (dayOf y m d),.bool true]):=by
 have hl:=rW (y:=y) (m:=m) (by omega) hm hm2
 have hbb:=O_ (y:=y) (by omega)
 have hl1:=ahr (y:=y) (m:=m) (d:=d) h2 (y-1900) 1900 (by omega) (by omega)
 have hl2:=ahs (y:=y) (m:=m) (d:=d) (A:=bV y) (by omega) hm2 (by omega) (m-1) 1 (by omega) (by omega)
 simp only [Nat.sub_self,bF,Nat.add_zero] at hl2
 have hml:=rQ y m
 have hcu:=Yv y (m-1)
 have hC:dayOf y m d=bV y+bF y (m-1)+d-1:=rfl
 rw [show bV 1900=0 from rfl] at hl1
 have g1:¬ (y:Int)<1900:=by omega
 have g2:¬ (2199:Int)<y:=by omega
 have g3:¬ (d:Int)<1:=by omega
 generalize aV y m=l at *
 have g4:¬ (l:Int)<d:=by omega
 have g5:¬ l<d:=by omega
 have g6:¬ 2199<y:=by omega
 generalize hx:bV y+bF y (m-1)=x at *
 generalize dayOf y m d=r at *
 generalize bV y=b at *
 have e1:IntKind.i64.wrap ((x:Int)+d)=((x+d:Nat):Int):=by rw [wrap64 _ (by omega)]; omega
 have e2:IntKind.i64.wrap (((x+d:Nat):Int)-1)=(r:Int):=by rw [wrap64 _ (by omega)]; omega
 generalize x+d=b2 at *
 simp at hl1 hl2
 refine ak (OY ..) ?_
 unfold jI
 simp (disch:=omega) [yY,hl,g1,g2,g3,g4,g5,g6,e1,e2,hl1,hl2]
theorem ak8 {y m d:Nat} (h:¬ (1900≤y∧y≤2199)):L.call rX [jI y m d]=some (.aH [.int .i64 0,.bool false]):=by
 refine ak (OY ..) ?_
 unfold jI
 by_cases h1:1900≤y
 ·have g1:¬ (y:Int)<1900:=by omega
  have g2:(2199:Int)<y:=by omega
  have g6:2199<y:=by omega
  simp [yY,g1,g2,g6]
 ·have g1:(y:Int)<1900:=by omega
  simp [yY,g1]
end Go.Ev.Code
end
section
namespace Go.Ev.Code
open Go Go.Ev
theorem afd {y day:Nat} (hlo:bV y≤day) (hhi:day<bV (y+1)) (hy:y≤2199):∀ (j k:Nat),k+j=y→1900≤k →
  L.loop [0,2,3] [0,2,3] lQ 2 [.int .i64 ((day-bV k:Nat):Int),.loc 0 0,.loc 1 0] [.live [.int .i64 0,.int .i64 0,.int .i64 0],.live [.int .i64 k,.int .i64 1,.int .i64 0]] =
    some (.exit 0,[.int .i64 ((day-bV y:Nat):Int),.loc 0 0,.loc 1 0],[.live [.int .i64 0,.int .i64 0,.int .i64 0],.live [.int .i64 y,.int .i64 1,.int .i64 0]]):=by
 intro j
 induction j with
 | zero =>
   intro k hk h1
   have : k=y:=by omega
   subst this
   have hl:=Qk (y:=k) (by omega)
   have hs:=xU h1
   generalize bV (k+1)=b2 at *
   generalize bV k=b at *
   generalize bF k 12=l at *
   have g:¬ (l:Int)≤((day-b:Nat):Int):=by omega
   have g':¬ l≤day-b:=by omega
   generalize day-b=r at *
   refine aj (Ee ..) ?_
   simp [vY,hl,g,g']
 | succ j ih =>
   intro k hk h1
   have hl:=Qk (y:=k) (by omega)
   have hs:=xU h1
   have hn:=ih (k+1) (by omega) (by omega)
   have hmo:=I_ (x:=k+1) (y:=y) (by omega) (by omega)
   have hbl:=O_ (y:=y+1) (by omega)
   rw [hs] at hn hmo
   generalize bV (y+1)=by1 at *
   generalize bV y=by0 at *
   generalize bV k=b at *
   generalize bF k 12=l at *
   have g:(l:Int)≤((day-b:Nat):Int):=by omega
   have g':l≤day-b:=by omega
   have e1:IntKind.i64.wrap (((day-b:Nat):Int)-l)=((day-(b+l):Nat):Int):=by rw [wrap64 _ (by omega)]; omega
   have e2:IntKind.i64.wrap ((k:Int)+1)=((k+1:Nat):Int):=by rw [wrap64 _ (by omega)]; omega
   generalize day-(b+l)=r2 at *
   generalize day-b=r at *
   generalize k+1=k2 at *
   refine aj (Ee ..) ?_
   simp [vY,hl,g,g',e1,e2,hn]
theorem afe {y m d:Nat} (h:uF y m d):∀ (j k:Nat),k+j=m→1≤k →
  L.loop [0,2,3] [0,2,3] lS 2 [.int .i64 ((bF y (m-1)+(d-1)-bF y (k-1):Nat):Int),.loc 0 0,.loc 1 0] [.live [.int .i64 0,.int .i64 0,.int .i64 0],.live [.int .i64 y,.int .i64 k,.int .i64 0]] =
    some (.exit 2,[.int .i64 ((d-1:Nat):Int),.loc 0 0,.loc 1 0],[.live [.int .i64 0,.int .i64 0,.int .i64 0],.live [.int .i64 y,.int .i64 m,.int .i64 0]]):=by
 have h1:=h.d1
 have h2:=h.d2
 have h3:=h.m2
 have h4:=h.y2
 have h5:=rQ y m
 intro j
 induction j with
 | zero =>
   intro k hk hk1
   have : k=m:=by omega
   subst this
   have hl:=rW (y:=y) (m:=k) (by omega) hk1 h3
   rw [show bF y (k-1)+(d-1)-bF y (k-1)=d-1 by omega]
   generalize aV y k=l at *
   have g:¬ (l:Int)≤((d-1:Nat):Int):=by omega
   have g':¬ l≤d-1:=by omega
   generalize d-1=d1 at *
   refine aj (Ef ..) ?_
   simp (disch:=omega) [vZ,hl,g,g']
 | succ j ih =>
   intro k hk hk1
   have hl:=rW (y:=y) (m:=k) (by omega) hk1 (by omega)
   have hn:=ih (k+1) (by omega) (by omega)
   have hc:bF y (k+1-1)=bF y (k-1)+aV y k:=by
    rw [Nat.add_sub_cancel]
    obtain ⟨q,rfl⟩:∃ q,k=q+1:=⟨k-1,by omega⟩
    simp only [bF,Nat.add_sub_cancel]
   have hmo:=Pm y (j:=k) (k:=m-1) (by omega)
   rw [Nat.add_sub_cancel] at hc hn
   rw [hc] at hmo hn
   have hub:=Yv y (m-1)
   have hub2:bF y (m-1)+(d-1)≤1000:=by omega
   have hmo2:bF y (k-1)+aV y k≤bF y (m-1)+(d-1):=by omega
   generalize bF y (m-1)+(d-1)=T at *
   generalize aV y k=l at *
   generalize bF y (k-1)=c at *
   have g:l≤T-c:=by omega
   have g':(l:Int)≤((T-c:Nat):Int):=by omega
   have e1:IntKind.i64.wrap (((T-c:Nat):Int)-l)=((T-(c+l):Nat):Int):=by rw [wrap64 _ (by omega)]; omega
   have e2:IntKind.i64.wrap ((k:Int)+1)=((k+1:Nat):Int):=by rw [wrap64 _ (by omega)]; omega
   generalize T-(c+l)=r2 at *
   generalize T-c=r1 at *
   generalize k+1=k2 at *
   refine aj (Ef ..) ?_
   simp (disch:=omega) [vZ,hl,g,g',e1,e2,hn]
theorem uy {y m d:Nat} (h:uF y m d):L.call lY [.int .i64 (dayOf y m d)]=some (jI y m d):=by
 have hlo:=h.lo
 have hhi:=h.hi
 have hd1:=h.d1
 have hd2:=h.d2
 have hml:=rQ y m
 have hy:=h.y2
 have hm2:=h.m2
 have l1:=afd hlo hhi hy (y-1900) 1900 (by have := h.y1; omega) (by omega)
 have l2:=afe h (m-1) 1 (by have := h.m1; omega) (by omega)
 have hT:dayOf y m d-bV y=bF y (m-1)+(d-1):=by unfold dayOf; omega
 simp only [Nat.sub_self,bF,Nat.sub_zero] at l2
 rw [← hT,show ((1:Nat):Int)=1 from rfl] at l2
 rw [show bV 1900=0 from rfl,Nat.sub_zero] at l1
 generalize dayOf y m d=day at *
 generalize bV y=b at *
 generalize day-b=r at *
 have e4:IntKind.i64.wrap (((d-1:Nat):Int)+1)=(d:Int):=by rw [wrap64 _ (by omega)]; omega
 generalize d-1=dd at *
 simp at l1 l2
 refine ak (XW ..) ?_
 unfold jI
 simp (disch:=omega) [I8,l1,l2,e4]
theorem ajC {y m d:Nat} (h:uF y m d):L.call yM [.int .i64 (dayOf y m d)]=some (.bool (decide (d=aV y m))):=by
 have hc:=uy h
 have hl:=rW (y:=y) (m:=m) (by have := h.y2; omega) h.m1 h.m2
 generalize dayOf y m d=day at *
 generalize aV y m=l at *
 unfold jI at hc
 refine ak (Yl ..) ?_
 by_cases hd:d=l
 ·subst hd
  simp [B_,hc,hl]
 ·have hd':¬ (d:Int)=l:=by omega
  simp [B_,hc,hl,hd,hd']
end Go.Ev.Code
end
section
namespace Go.Ev.Code
open Go Go.Ev
theorem apx {st:Bool} {d:Nat}:∀ (N cy cm:Nat),1≤cm→cm≤12→cy+N≤100000 →
  L.loop [1,8,9] [1,8,9] eU 1 [.int .i64 N,.loc 0 0,.bool st] [.live [.int .i64 cy,.int .i64 cm,.int .i64 d]] =
    some (.exit 0,[.int .i64 0,.loc 0 0,.bool st],[.live [.int .i64 (((cy*12+cm-1+N) / 12:Nat):Int),.int .i64 (((cy*12+cm-1+N) % 12+1:Nat):Int),.int .i64 d]]):=by
 intro N
 induction N with
 | zero =>
   intro cy cm h1 h2 h3
   rw [show (cy*12+cm-1+0) / 12=cy by omega,show (cy*12+cm-1+0) % 12+1=cm by omega]
   refine aj (jZ ..) ?_
   simp [iJ]
 | succ N ih =>
   intro cy cm h1 h2 h3
   have e1:IntKind.i64.wrap ((cm:Int)+1)=((cm+1:Nat):Int):=by rw [wrap64 _ (by omega)]; omega
   have e2:IntKind.i64.wrap ((cy:Int)+1)=((cy+1:Nat):Int):=by rw [wrap64 _ (by omega)]; omega
   have e3:IntKind.i64.wrap (((N+1:Nat):Int)-1)=(N:Int):=by rw [wrap64 _ (by omega)]; omega
   have g:(0:Int)<((N+1:Nat):Int):=by omega
   have g0:0<N+1:=by omega
   by_cases hc:cm=12
   ·have hn:=ih (cy+1) 1 (by omega) (by omega) (by omega)
    rw [show (cy+1)*12+1-1+N=cy*12+cm-1+(N+1) by omega] at hn
    have g1:(12:Int)<((cm+1:Nat):Int):=by omega
    have g2:12<cm+1:=by omega
    generalize (cy*12+cm-1+(N+1)) / 12=Y at *
    generalize (cy*12+cm-1+(N+1)) % 12+1=M at *
    generalize N+1=N1 at *
    generalize cm+1=c1 at *
    generalize cy+1=y1 at *
    simp only [show ((1:Nat):Int)=1 from rfl] at hn
    refine aj (jZ ..) ?_
    simp [iJ,e1,e2,e3,g,g0,g1,g2,hn]
   ·have hn:=ih cy (cm+1) (by omega) (by omega) (by omega)
    rw [show cy*12+(cm+1)-1+N=cy*12+cm-1+(N+1) by omega] at hn
    have g1:¬ (12:Int)<((cm+1:Nat):Int):=by omega
    have g2:¬ 12<cm+1:=by omega
    generalize (cy*12+cm-1+(N+1)) / 12=Y at *
    generalize (cy*12+cm-1+(N+1)) % 12+1=M at *
    generalize N+1=N1 at *
    generalize cm+1=c1 at *
    refine aj (jZ ..) ?_
    simp [iJ,e1,e3,g,g0,g1,g2,hn]
theorem apy {st:Bool} {d cy cm:Nat} {n:Int} (h:n≤0) :
  L.loop [1,8,9] [1,8,9] eU 1 [.int .i64 n,.loc 0 0,.bool st] [.live [.int .i64 cy,.int .i64 cm,.int .i64 d]] =
    some (.exit 0,[.int .i64 n,.loc 0 0,.bool st],[.live [.int .i64 cy,.int .i64 cm,.int .i64 d]]):=by
 have g:¬ (0:Int)<n:=by omega
 refine aj (jZ ..) ?_
 simp [iJ,g]
theorem ah2 {st:Bool} {d:Nat}:∀ (N cy cm:Nat),1≤cm→cm≤12→N≤cy*12+cm-1→cy≤100000→N≤100000 →
  L.loop [1,8,9] [8,9] gW 1 [.int .i64 (-(N:Int)),.loc 0 0,.bool st] [.live [.int .i64 cy,.int .i64 cm,.int .i64 d]] =
    some (.exit 2,[.loc 0 0,.bool st],[.live [.int .i64 (((cy*12+cm-1-N) / 12:Nat):Int),.int .i64 (((cy*12+cm-1-N) % 12+1:Nat):Int),.int .i64 d]]):=by
 intro N
 induction N with
 | zero =>
   intro cy cm h1 h2 h3 h4 h5
   rw [show (cy*12+cm-1-0) / 12=cy by omega,show (cy*12+cm-1-0) % 12+1=cm by omega]
   refine aj (pJ ..) ?_
   simp [kD]
 | succ N ih =>
   intro cy cm h1 h2 h3 h4 h5
   have e3:IntKind.i64.wrap (-((N+1:Nat):Int)+1) = -(N:Int):=by rw [wrap64 _ (by omega)]; omega
   have g : -((N+1:Nat):Int)<0:=by omega
   have e1:IntKind.i64.wrap ((cm:Int)-1)=((cm-1:Nat):Int):=by rw [wrap64 _ (by omega)]; omega
   by_cases hc:cm=1
   ·have e2:IntKind.i64.wrap ((cy:Int)-1)=((cy-1:Nat):Int):=by rw [wrap64 _ (by omega)]; omega
    have hn:=ih (cy-1) 12 (by omega) (by omega) (by omega) (by omega) (by omega)
    rw [show (cy-1)*12+12-1-N=cy*12+cm-1-(N+1) by omega] at hn
    have g1:((cm-1:Nat):Int)<1:=by omega
    have g2:cm-1<1:=by omega
    generalize (cy*12+cm-1-(N+1)) / 12=Y at *
    generalize (cy*12+cm-1-(N+1)) % 12+1=M at *
    generalize -((N+1:Nat):Int)=N1 at *
    generalize -(N:Int)=N0 at *
    generalize cm-1=c1 at *
    generalize cy-1=y1 at *
    simp only [show ((12:Nat):Int)=12 from rfl] at hn
    refine aj (pJ ..) ?_
    simp [kD,e1,e2,e3,g,g1,g2,hn]
   ·have hn:=ih cy (cm-1) (by omega) (by omega) (by omega) (by omega) (by omega)
    rw [show cy*12+(cm-1)-1-N=cy*12+cm-1-(N+1) by omega] at hn
    have g1:¬ ((cm-1:Nat):Int)<1:=by omega
    have g2:¬ cm-1<1:=by omega
    have g3:¬ cm-1=0:=by omega
    generalize (cy*12+cm-1-(N+1)) / 12=Y at *
    generalize (cy*12+cm-1-(N+1)) % 12+1=M at *
    generalize -((N+1:Nat):Int)=N1 at *
    generalize -(N:Int)=N0 at *
    generalize cm-1=c1 at *
    refine aj (pJ ..) ?_
    simp [kD,e1,e3,g,g1,g2,g3,hn]
def okD:Option Nat→D
 | some n => .aH [.int .i64 n,.bool true]
 | none => .aH [.int .i64 0,.bool false]
theorem W_ {y m d:Nat} (h1:1≤m) (h2:m≤12) (hd:1≤d) (hd2:d≤aV y m):L.call rX [jI y m d]=some (okD (nO y m d)):=by
 unfold nO
 split
 ·rename_i h; exact am4 h.1 h.2 h1 h2 hd hd2
 ·rename_i h; exact ak8 h
theorem anO {y m d y' m':Nat} {n:Int} {e:Bool} (h:uF y m d) (hn1 : -3600≤n) (hn2:n≤3600) (hy':y'≤1000000) (hm1:1≤m') (hm2:m'≤12)
  {k:Int} (hl1:L.loop [1,8,9] [1,8,9] eU 1 [.int .i64 n,.loc 0 0,.bool (e && decide (d=aV y m))] [.live [.int .i64 y,.int .i64 m,.int .i64 d]]=some (.exit 0,[.int .i64 k,.loc 0 0,.bool (e && decide (d=aV y m))],[.live (if k=0 then [.int .i64 y',.int .i64 m',.int .i64 d] else [.int .i64 y,.int .i64 m,.int .i64 d])]))
  (hl2:L.loop [1,8,9] [8,9] gW 1 [.int .i64 k,.loc 0 0,.bool (e && decide (d=aV y m))] [.live (if k=0 then [.int .i64 y',.int .i64 m',.int .i64 d] else [.int .i64 y,.int .i64 m,.int .i64 d])]=some (.exit 2,[.loc 0 0,.bool (e && decide (d=aV y m))],[.live [.int .i64 y',.int .i64 m',.int .i64 d]])) :
  L.call gV [.int .i64 (dayOf y m d),.int .i64 n,.bool e]=some (okD (nO y' m' (if e=true∧d=aV y m then aV y' m' else min d (aV y' m')))):=by
 have hc:=uy h
 have hla:=ajC h
 have his:=jA (dayOf y m d)
 have hle:=h.le
 rw [decide_eq_true (by omega)] at his
 have hlen:=rW hy' hm1 hm2
 have hpos:=yC (y:=y') hm1 hm2
 have hd1:=h.d1
 generalize (if k=0 then [D.int .i64 y',.int .i64 m',.int .i64 d] else [D.int .i64 y,.int .i64 m,.int .i64 d])=cells at *
 generalize dayOf y m d=day at *
 have g1:¬ n < -3600:=by omega
 have g2:¬ 3600<n:=by omega
 unfold jI at hc
 by_cases hst:e=true∧d=aV y m
 ·rw [if_pos hst]
  have hof:=W_ (y:=y') (d:=aV y' m') hm1 hm2 (by omega) (Nat.le_refl _)
  obtain ⟨he,hdl⟩:=hst
  rw [decide_eq_true hdl] at hla
  rw [he,decide_eq_true hdl] at hl1 hl2
  subst he
  simp only [Bool.and_self] at hl1 hl2
  generalize aV y' m'=l at *
  unfold jI at hof
  refine ak (jE ..) ?_
  cases hmk:nO y' m' l <;> rw [hmk] at hof <;> simp [okD] at hof <;> simp [dQ,his,g1,g2,hc,hla,hl1,hl2,hlen,hof,okD]
 ·rw [if_neg hst]
  have hb:(e && decide (d=aV y m))=false:=by
   cases e <;> simp_all
  rw [hb] at hl1 hl2
  by_cases hdl:aV y' m'<d
  ·have hof:=W_ (y:=y') (d:=aV y' m') hm1 hm2 (by omega) (Nat.le_refl _)
   rw [show min d (aV y' m')=aV y' m' by omega]
   have g3:((aV y' m':Nat):Int)<d:=by omega
   generalize aV y' m'=l at *
   unfold jI at hof
   refine ak (jE ..) ?_
   cases e with
   | false=>cases hmk:nO y' m' l <;> rw [hmk] at hof <;> simp [okD] at hof <;> simp [dQ,his,g1,g2,hc,hl1,hl2,hlen,hdl,g3,hof,okD]
   | true =>
     have hdm:¬ d=aV y m:=fun x=>hst ⟨rfl,x⟩
     rw [decide_eq_false hdm] at hla
     cases hmk:nO y' m' l <;> rw [hmk] at hof <;> simp [okD] at hof <;> simp [dQ,his,g1,g2,hc,hla,hl1,hl2,hlen,hdl,g3,hof,okD]
  ·have hof:=W_ (y:=y') (d:=d) hm1 hm2 (by omega) (by omega)
   rw [show min d (aV y' m')=d by omega]
   have g3:¬ ((aV y' m':Nat):Int)<d:=by omega
   generalize aV y' m'=l at *
   unfold jI at hof
   refine ak (jE ..) ?_
   cases e with
   | false=>cases hmk:nO y' m' d <;> rw [hmk] at hof <;> simp [okD] at hof <;> simp [dQ,his,g1,g2,hc,hl1,hl2,hlen,hdl,g3,hof,okD]
   | true =>
     have hdm:¬ d=aV y m:=fun x=>hst ⟨rfl,x⟩
     rw [decide_eq_false hdm] at hla
     cases hmk:nO y' m' d <;> rw [hmk] at hof <;> simp [okD] at hof <;> simp [dQ,his,g1,g2,hc,hla,hl1,hl2,hlen,hdl,g3,hof,okD]
theorem DY (day n:Int) (e:Bool):L.call gV [.int .i64 day,.int .i64 n,.bool e]=some (okD (mF day n e)):=by
 unfold mF
 by_cases hd:aK day
 ·rw [if_pos hd]
  obtain ⟨y,m,d,hc,rfl,ho⟩:=cZ hd
  rw [ho]
  unfold GK
  by_cases hn : -3600≤n∧n≤3600
  ·rw [if_pos hn]
   have y1:=hc.y1
   have y2:=hc.y2
   have m1:=hc.m1
   have m2:=hc.m2
   simp only
   by_cases hs:0≤n
   ·obtain ⟨N,rfl⟩:∃ N:Nat,n=N:=⟨n.toNat,by omega⟩
    rw [show ((((y*12+m-1:Nat):Int)+(N:Int)) / 12).toNat=(y*12+m-1+N) / 12 by omega,show ((((y*12+m-1:Nat):Int)+(N:Int)) % 12).toNat+1=(y*12+m-1+N) % 12+1 by omega]
    have l1:=apx (st:=e && decide (d=aV y m)) (d:=d) N y m m1 m2 (by omega)
    have l2:=ah2 (st:=e && decide (d=aV y m)) (d:=d) 0 ((y*12+m-1+N) / 12) ((y*12+m-1+N) % 12+1) (by omega) (by omega) (by omega) (by omega) (by omega)
    rw [show ((y*12+m-1+N) / 12*12+((y*12+m-1+N) % 12+1)-1-0) / 12=(y*12+m-1+N) / 12 by omega,show ((y*12+m-1+N) / 12*12+((y*12+m-1+N) % 12+1)-1-0) % 12+1=(y*12+m-1+N) % 12+1 by omega] at l2
    exact anO hc hn.1 hn.2 (by omega) (by omega) (by omega) (k:=0) (by simpa using l1) (by simpa using l2)
   ·obtain ⟨N,rfl⟩:∃ N:Nat,n = -(N:Int):=⟨(-n).toNat,by omega⟩
    rw [show ((((y*12+m-1:Nat):Int) + -(N:Int)) / 12).toNat=(y*12+m-1-N) / 12 by omega,show ((((y*12+m-1:Nat):Int) + -(N:Int)) % 12).toNat+1=(y*12+m-1-N) % 12+1 by omega]
    have l1:=apy (st:=e && decide (d=aV y m)) (d:=d) (cy:=y) (cm:=m) (n := -(N:Int)) (by omega)
    have l2:=ah2 (st:=e && decide (d=aV y m)) (d:=d) N y m m1 m2 (by omega) (by omega) (by omega)
    have hk:¬ (-(N:Int))=0:=by omega
    exact anO hc hn.1 hn.2 (by omega) (by omega) (by omega) (k := -(N:Int)) (by rw [if_neg hk]; exact l1) (by rw [if_neg hk]; exact l2)
  ·rw [if_neg hn]
   have his:=jA (dayOf y m d)
   have hle:=hc.le
   rw [decide_eq_true (by omega)] at his
   generalize dayOf y m d=dd at *
   refine ak (jE ..) ?_
   by_cases h1:n < -3600
   ·simp [dQ,his,h1,okD]
   ·have h2:3600<n:=by omega
    simp [dQ,his,h1,h2,okD]
 ·rw [if_neg hd]
  have his:=jA day
  rw [decide_eq_false hd] at his
  refine ak (jE ..) ?_
  simp [dQ,his,okD]
end Go.Ev.Code
end
section
namespace Go.Ev.Code
open Go Go.Ev
theorem ahO:TT.fn qF=none:=by kernel_rfl
theorem ahP:TT.iI qF=ahD:=by kernel_rfl
end Go.Ev.Code
end
section
namespace Go.Ev.Code
open Go Go.Ev
def mi (day:Int):Nat:=(iV day.toNat).1*12+(iV day.toNat).2.1
theorem uJ {y m d:Nat} (h:uF y m d):mi (dayOf y m d:Nat)=y*12+m:=by
 unfold mi
 rw [show ((dayOf y m d:Nat):Int).toNat=dayOf y m d by omega,VW h]
theorem WC {a:Int} (h:aK a):22801≤mi a∧mi a≤26400:=by
 obtain ⟨y,m,d,hc,rfl,_⟩:=cZ h
 rw [uJ hc]
 have := hc.y1; have := hc.y2; have := hc.m1; have := hc.m2
 omega
theorem KI {a b:Int} (ha:aK a) (hb:aK b) (h:mi a<mi b):a<b:=by
 obtain ⟨y,m,d,hc,rfl,_⟩:=cZ ha
 obtain ⟨y',m',d',hc',rfl,_⟩:=cZ hb
 rw [uJ hc,uJ hc'] at h
 have := xX hc hc' h
 omega
theorem CW {a b:Int} (ha:aK a) (hb:aK b) (h:a≤b):mi a≤mi b:=by
 rcases Nat.lt_or_ge (mi b) (mi a) with h1 | h1
 ·have := KI hb ha h1; omega
 ·exact h1
theorem asv {a b:Int} (ha:aK a) (hb:aK b) (h:mi a+2≤mi b):a+28<b:=by
 obtain ⟨y,m,d,hc,rfl,_⟩:=cZ ha
 obtain ⟨y',m',d',hc',rfl,_⟩:=cZ hb
 rw [uJ hc,uJ hc'] at h
 have a1:=hc.y1; have a2:=hc.m1; have a3:=hc.m2; have a4:=hc'.y2; have a5:=hc'.m1; have a6:=hc'.m2
 have hm1:1≤(y*12+m) % 12+1∧(y*12+m) % 12+1≤12:=by omega
 have hy1:1900≤(y*12+m) / 12∧(y*12+m) / 12≤2199:=by omega
 have hs:(y*12+m) / 12*12+((y*12+m) % 12+1)=y*12+m+1:=by omega
 generalize (y*12+m) % 12+1=m1 at *
 generalize (y*12+m) / 12=y1 at *
 have hp:=yC (y:=y1) hm1.1 hm1.2
 have c1:uF y1 m1 1:=⟨hy1.1,hy1.2,hm1.1,hm1.2,by omega,by omega⟩
 have c2:uF y1 m1 28:=⟨hy1.1,hy1.2,hm1.1,hm1.2,by omega,by omega⟩
 have h1:=xX hc c1 (by omega)
 have h2:=xX c2 hc' (by omega)
 have h3:dayOf y1 m1 28=dayOf y1 m1 1+27:=by unfold dayOf; omega
 omega
theorem zB {day n:Int} {e:Bool} {r:Nat} (h:mF day n e=some r):((mi r:Nat):Int)=mi day+n:=by
 obtain ⟨y,m,d,hc,rfl,hs⟩:=VP h
 rw [uJ hc]
 exact hs
theorem afz {day n:Int} (e:Bool) (hd:aK day) (h1:22801≤(mi day:Int)+n) (h2:(mi day:Int)+n≤26400):∃ r,mF day n e=some r:=by
 have hb:=WC hd
 obtain ⟨y,m,d,hc,rfl,ho⟩:=cZ hd
 rw [uJ hc] at h1 h2 hb
 unfold mF GK
 rw [if_pos hd,ho]
 rw [if_pos (by omega)]
 have a2:=hc.m1
 simp only
 unfold nO
 rw [if_pos (by omega)]
 exact ⟨_,rfl⟩
theorem aeE (a b:Int):ni a b=(mi b:Int)-mi a:=rfl
end Go.Ev.Code
end
section
namespace Go.Ev.Code
open Go Go.Ev
abbrev Er:=Option (Int×Option (List UInt8))
def xJ:Er→D
 | none => .bH
 | some (c,none)=>wO c
 | some (c,some s)=>fU c s
def amq:Err→Er
 | none=>none
 | some (c,s)=>some (c,some s)
def GV:Er→Int
 | none=>0
 | some (c,_)=>c
theorem alu (e:Er) (n:Nat):D.clo n 12 (xJ e)=true:=by
 rcases e with _ | ⟨c,_ | s⟩ <;> rfl
theorem aiD (e:Er):L.call qF [xJ e]=some (.int .i64 (GV e)):=by
 rcases e with _ | ⟨c,_ | s⟩
 ·exact Df ahO (by rw [ahP]; rfl) rfl
 ·exact Df ahO (by rw [ahP]; rfl) rfl
 ·exact Df ahO (by rw [ahP]; rfl) rfl
theorem aiT (e:Er) (c:Int):L.call wz [xJ e,.int .i64 c]=some (.bool (decide (GV e=c))):=by
 have h:=aiD e
 have hcl:=alu e 0
 generalize GV e=z at *
 generalize xJ e=d at *
 refine ak (XQ ..) ?_
 by_cases hc:z=c <;> simp [IY,h,hc,hcl]
def Pn (a b:Int):Int :=
 360*(((iV b.toNat).1:Int)-(iV a.toNat).1)+30*(((iV b.toNat).2.1:Int)-(iV a.toNat).2.1)+min ((iV b.toNat).2.2:Int) 30-min ((iV a.toNat).2.2:Int) 30
def dH (k a b:Int):Int:=if k=1 then Pn a b else b-a
theorem GX {k a b:Int} (ha:aK a) (hb:aK b) : -1000000≤dH k a b∧dH k a b≤1000000:=by
 unfold dH
 split
 ·obtain ⟨y,m,d,hc,hd,ho⟩:=cZ ha
  obtain ⟨y',m',d',hc',hd',ho'⟩:=cZ hb
  unfold Pn
  rw [ho,ho']
  have := hc.y1; have := hc.y2; have := hc.m1; have := hc.m2; have := hc'.y1; have := hc'.y2; have := hc'.m1; have := hc'.m2
  simp only
  omega
 ·omega
theorem ag' {k a b:Int} (h1:1≤k) (h2:k≤4) (ha:aK a) (hb:aK b):L.call NW [.int .i64 k,.int .i64 a,.int .i64 b]=some (.int .i64 (dH k a b)):=by
 have hm:=Pj k
 rw [decide_eq_true ⟨h1,h2⟩] at hm
 obtain ⟨y,m,d,hc,hd,ho⟩:=cZ ha
 obtain ⟨y',m',d',hc',hd',ho'⟩:=cZ hb
 have c1:=pR hc
 have c2:=pR hc'
 rw [← hd] at c1
 rw [← hd'] at c2
 unfold jI at c1 c2
 unfold dH Pn
 rw [ho,ho']
 simp only
 have a1:=hc.y1; have a2:=hc.y2; have a3:=hc.m1; have a4:=hc.m2
 have b1:=hc'.y1; have b2:=hc'.y2; have b3:=hc'.m1; have b4:=hc'.m2
 refine ak (ahU ..) ?_
 by_cases h:k=1
 ·subst h
  have e1:IntKind.i64.wrap ((y':Int)-y)=(y':Int)-y:=wrap64 _ (by omega)
  have e2:IntKind.i64.wrap (360*((y':Int)-y))=360*((y':Int)-y):=wrap64 _ (by omega)
  have e3:IntKind.i64.wrap ((m':Int)-m)=(m':Int)-m:=wrap64 _ (by omega)
  have e4:IntKind.i64.wrap (30*((m':Int)-m))=30*((m':Int)-m):=wrap64 _ (by omega)
  have e5:IntKind.i64.wrap (360*((y':Int)-y)+30*((m':Int)-m))=360*((y':Int)-y)+30*((m':Int)-m):=wrap64 _ (by omega)
  have e6:IntKind.i64.wrap (360*((y':Int)-y)+30*((m':Int)-m)+min (d':Int) 30)=360*((y':Int)-y)+30*((m':Int)-m)+min (d':Int) 30:=wrap64 _ (by omega)
  have e7:IntKind.i64.wrap (360*((y':Int)-y)+30*((m':Int)-m)+min (d':Int) 30-min (d:Int) 30)=360*((y':Int)-y)+30*((m':Int)-m)+min (d':Int) 30-min (d:Int) 30:=wrap64 _ (by omega)
  simp [Qv,hm,c1,c2,e1,e2,e3,e4,e5,e6,e7]
 ·have e1:IntKind.i64.wrap (b-a)=b-a:=wrap64 _ (by omega)
  simp [Qv,hm,c1,c2,h,e1]
theorem aaS (n:Int):L.call GZ [.int .i64 n]=some (.bool (decide (aK n))):=by
 have h:=Aw n
 have h1 := @acG n
 refine ak (aen ..) ?_
 generalize ZX n=w at *
 by_cases hd:aK n
 ·have : 0≤w:=by
   have := fun h=>h1.1 h hd
   omega
  simp [JI,h,hd,this]
 ·have : ¬ 0≤w:=by have := h1.2 hd; omega
  simp [JI,h,hd,this]
def EM (k a b:Int):Rat:=Rat.divInt (dH k a b) (if k=3 then 365 else 360)
def HY:Except Int Rat→D
 | .ok q => .aH [cO q,.bH]
 | .error c => .aH [.fZ,wO c]
theorem aha {k a b s e f:Int} (h1:1≤k) (h2:k≤3) (ha:aK a) (hb:aK b) (hab:a≤b) :
  L.call GY [.int .i64 k,.int .i64 a,.int .i64 b,.int .i64 s,.int .i64 e,.int .i64 f]=some (.aH [cO (EM k a b),.bH]):=by
 have hm:=Pj k
 rw [decide_eq_true ⟨h1,by omega⟩] at hm
 have i1:=aaS a
 rw [decide_eq_true ha] at i1
 have i2:=aaS b
 rw [decide_eq_true hb] at i2
 have hd:=ag' h1 (by omega) ha hb
 have hbd:=GX (k:=k) ha hb
 have hq:L.call BQ [.int .i64 (dH k a b),.int .i64 (if k=3 then 365 else 360)]=some (.aH [cO (EM k a b),.bH]):=by
  unfold EM
  refine xM (by omega) ?_ ?_
  ·split <;> omega
  ·split <;> omega
 have h4:¬ k=4:=by omega
 have hlt:¬ b<a:=by omega
 generalize EM k a b=q at *
 generalize dH k a b=n at *
 refine ak (ahV ..) ?_
 by_cases h3:k=3
 ·subst h3
  rw [if_pos rfl] at hq
  simp [Qw,hm,i1,i2,hlt,hd,hq]
 ·rw [if_neg h3] at hq
  simp [Qw,hm,i1,i2,hlt,hd,hq,h3,h4]
def fB (b:ay) (st:Int):Nat→Int→Option (List (Int×Int))
 | 0,_=>some []
 | f+1,e=>if e≤st then some [] else match quasi b e with
   | none=>none
   | some a=>(fB b st f a).map fun l=>((a:Int),e)::l
def mJ (b:ay) (p:Int×Int):Option (List (Int×Int)):=fB b p.1 (p.2-p.1).toNat p.2
theorem adV {b:ay} {day:Int} {a:Nat} (h:quasi b day=some a):∃ k,anch b k=some day.toNat∧anch b (k+1)=some a∧0≤day∧b.issue<day:=by
 unfold quasi at h
 split at h
 ·rename_i k hk
  split at h
  ·simp at h
  ·have := Kt hk
   exact ⟨k,this.2.1,h,this.2.2,by omega⟩
 ·simp at h
theorem Qg {b:ay} (hm:months b≠0) {day:Int} {a:Nat} (h:quasi b day=some a):(a:Int)<day∧aK a∧aK day:=by
 obtain ⟨k,h1,h2,h3,_⟩:=adV h
 have := Z9 hm (Nat.lt_succ_self k) h1 h2
 have hd:=VQ h1
 exact ⟨by omega,VQ h2,by rw [Int.toNat_of_nonneg h3] at hd; exact hd⟩
theorem ajv {b:ay} (hm:months b≠0) {st:Int}:∀ {f:Nat} {e:Int} {l:List (Int×Int)},fB b st f e=some l→∀ q∈l,aK q.1∧aK q.2∧q.1<q.2∧q.2≤e
 | 0,e,l,h=>by simp [fB] at h; subst h; simp
 | f+1,e,l,h=>by
   simp only [fB] at h
   split at h
   ·simp at h; subst h; simp
   ·split at h
    ·simp at h
    ·rename_i a ha
     have hq:=Qg hm ha
     cases hl:fB b st f a with
     | none=>rw [hl] at h; simp at h
     | some r =>
       rw [hl] at h
       simp at h
       subst h
       intro q hmem
       rcases List.mem_cons.1 hmem with rfl | hmem
       ·exact ⟨hq.2.1,hq.2.2,hq.1,Int.le_refl _⟩
       ·have := ajv hm hl q hmem
        exact ⟨this.1,this.2.1,this.2.2.1,by omega⟩
theorem agd {b:ay} (hm:months b≠0) {st:Int}:∀ {f:Nat} {e:Int} {l:List (Int×Int)},aK e→fB b st f e=some l→l.length+22800≤mi e
 | 0,e,l,he,h=>by
   simp [fB] at h; subst h
   have := WC he
   simp; omega
 | f+1,e,l,he,h=>by
   have hb:=WC he
   simp only [fB] at h
   split at h
   ·simp at h; subst h; simp; omega
   ·split at h
    ·simp at h
    ·rename_i a ha
     have hq:=Qg hm ha
     cases hl:fB b st f a with
     | none=>rw [hl] at h; simp at h
     | some r =>
       rw [hl] at h
       simp at h
       subst h
       have ih:=agd hm hq.2.1 hl
       obtain ⟨k,h1,h2,h3,_⟩:=adV ha
       unfold anch at h1 h2
       have m1:=zB h1
       have m2:=zB h2
       rw [Int.toNat_of_nonneg h3] at m1
       have hc:=lJ b
       simp only [List.length_cons]
       have : ((k+1:Nat):Int)*months b=(k:Int)*months b+months b:=by rw [Int.natCast_add,Int.add_mul]; simp
       have e1 : -((k+1:Nat):Int)*months b = -((k:Int)*months b)-months b:=by rw [Int.neg_mul,this]; omega
       have e2 : -(k:Int)*months b = -((k:Int)*months b):=Int.neg_mul ..
       rw [e1] at m2
       rw [e2] at m1
       generalize (k:Int)*months b=z at *
       omega
theorem kK (b:ay) (k n:Nat):(au b).all (D.clo k (n+1))=true:=by obtain ⟨i,m,f,c,rd,n,s,e,ex⟩:=b; simp [au]
theorem ak1 {b:ay} (hchk:chk b=none) (hc:b.bM.length≤1000000) (hr:b.dh.length≤1000000) (p1 p2:Int):∀ (f:Nat) (e:Int) (acc:List (Int×Int)),(e-p1).toNat≤f→acc≠[]→acc.length+f≤1000000 →
  (∀ l,fB b p1 f e=some l→L.loop [2,3,6,7] [4,5,6] gU 2 [.loc 0 0,.loc 1 0,.aG 2 0 acc.length 2,.int .i64 e] [.live (au b),.live [.int .i64 p1,.int .i64 p2],.live (aS acc)] =
   some (.exit 0,[.undef,.undef,.aG 2 0 (acc++l).length 2],[.live (au b),.live [.int .i64 p1,.int .i64 p2],.live (aS (acc++l))])) ∧
  (fB b p1 f e=none→∃ x m,L.loop [2,3,6,7] [4,5,6] gU 2 [.loc 0 0,.loc 1 0,.aG 2 0 acc.length 2,.int .i64 e] [.live (au b),.live [.int .i64 p1,.int .i64 p2],.live (aS acc)] =
   some (.ret,[.bJ,wO 4,x],m)):=by
 intro f
 induction f with
 | zero =>
   intro e acc hf hne hal
   have hpc:=f_ acc 2 11
   have hbc:=jL b 2
   have he:¬ p1<e:=by omega
   simp only [fB]
   refine ⟨fun l hl=>?_,fun h=>by simp at h⟩
   simp at hl
   subst hl
   rw [List.append_nil]
   generalize aS acc=pc at *
   generalize au b=B at *
   refine aj (m_ ..) ?_
   simp [kG,he,hpc,hbc]
 | succ f ih =>
   intro e acc hf hne hal
   have hpc:=f_ acc 2 11
   have hbc:=jL b 2
   have hpl:=yE acc
   simp only [fB]
   by_cases he:e≤p1
   ·rw [if_pos he]
    have he':¬ p1<e:=by omega
    refine ⟨fun l hl=>?_,fun h=>by simp at h⟩
    simp at hl
    subst hl
    rw [List.append_nil]
    generalize aS acc=pc at *
    generalize au b=B at *
    refine aj (m_ ..) ?_
    simp [kG,he',hpc,hbc]
   ·rw [if_neg he]
    have he':p1<e:=by omega
    have hq:=EN hc hr e
    unfold acs at hq
    rw [hchk] at hq
    simp only at hq
    cases hqe:quasi b e with
    | none =>
      simp only
      rw [hqe] at hq
      simp [je] at hq
      refine ⟨fun l hl=>by simp at hl,fun _=>⟨.aG 2 0 acc.length 2,[.live (au b),.live [.int .i64 p1,.int .i64 p2],.live (aS acc)],?_⟩⟩
      unfold aC at hq
      have hbl:=mg b
      have hbd:=kK b 0 10
      generalize aS acc=pc at *
      generalize au b=B at *
      have htk:B.take 9=B:=List.take_of_length_le (by omega)
      refine aj (m_ ..) ?_
      simp [kG,he',hpc,hbc,hbl,hbd,htk,hq]
    | some a =>
      simp only
      rw [hqe] at hq
      simp [je] at hq
      have hlt:=Qg (bW hchk).2.1 hqe
      have hn:=ih a (acc++[((a:Int),e)]) (by omega) (by simp) (by simp; omega)
      rw [acp,show aS [((a:Int),e)]=[.int .i64 a,.int .i64 e] from rfl,List.length_append,List.length_singleton] at hn
      have htk:(aS acc).take (acc.length*2)=aS acc:=List.take_of_length_le (by omega)
      have hlen:acc.length+1≤4294967296:=by omega
      have hstep:∀ r,L.loop [2,3,6,7] [4,5,6] gU 2 [.loc 0 0,.loc 1 0,.aG 2 0 (acc.length+1) 2,.int .i64 a] [.live (au b),.live [.int .i64 p1,.int .i64 p2],.live (aS acc++[.int .i64 a,.int .i64 e])]=some r →
        L.loop [2,3,6,7] [4,5,6] gU 2 [.loc 0 0,.loc 1 0,.aG 2 0 acc.length 2,.int .i64 e] [.live (au b),.live [.int .i64 p1,.int .i64 p2],.live (aS acc)]=some r:=by
       intro r hr
       unfold aC at hq
       have hbl:=mg b
       have hbd:=kK b 0 10
       generalize aS acc=pc at *
       generalize au b=B at *
       have htkB:B.take 9=B:=List.take_of_length_le (by omega)
       generalize acc.length=A at *
       refine aj (m_ ..) ?_
       simp [kG,he',hpc,hbc,hbl,hbd,htkB,hq,kW,htk,hlen,hpl,hr]
      refine ⟨fun l hl=>?_,fun h=>?_⟩
      ·cases hl2:fB b p1 f a with
       | none=>rw [hl2] at hl; simp at hl
       | some r =>
         rw [hl2] at hl
         simp at hl
         subst hl
         have := hn.1 r hl2
         rw [List.append_assoc] at this
         exact hstep _ this
      ·cases hl2:fB b p1 f a with
       | some r=>rw [hl2] at h; simp at h
       | none =>
         obtain ⟨x,m,hx⟩:=hn.2 hl2
         exact ⟨x,m,hstep _ hx⟩
def aao:Option (List (Int×Int))→D
 | some l => .aH [cu l,.bH]
 | none => .aH [.sl 0 [],wO 4]
theorem aeS {b:ay} (hchk:chk b=none) (hc:b.bM.length≤1000000) (hr:b.dh.length≤1000000) {p:Int×Int} (hlt:p.1<p.2) (hle:p.2-p.1≤900000) :
  L.call J8 [aC b,pD p]=some (aao (mJ b p)):=by
 obtain ⟨p1,p2⟩:=p
 simp only at hlt hle
 obtain ⟨f,hf⟩:∃ f,(p2-p1).toNat=f+1:=⟨(p2-p1).toNat-1,by omega⟩
 have hq:=EN hc hr p2
 unfold acs at hq
 rw [hchk] at hq
 simp only at hq
 have hbc:=jL b 2
 have hbl:=mg b
 have hbd:=kK b 0 10
 have hnle:¬ p2≤p1:=by omega
 unfold mJ pD
 simp only
 rw [hf]
 simp only [fB]
 rw [if_neg hnle]
 cases hqe:quasi b p2 with
 | none =>
   rw [hqe] at hq
   simp [je] at hq
   simp only [aao]
   unfold aC at hq ⊢
   generalize au b=B at *
   have htkB:B.take 9=B:=List.take_of_length_le (by omega)
   have hl:L.loop [2,3,6,7] [4,5,6] gU 2 [.loc 0 0,.loc 1 0,.bJ,.int .i64 p2] [.live B,.live [.int .i64 p1,.int .i64 p2]]=some (.ret,[.bJ,wO 4,.bJ],[.live B,.live [.int .i64 p1,.int .i64 p2]]):=by
    refine aj (m_ ..) ?_
    simp [kG,hlt,hbc,hbl,hbd,htkB,hq]
   refine ak (LK ..) ?_
   simp [ET,hl]
 | some a =>
   rw [hqe] at hq
   simp [je] at hq
   simp only
   have hqlt:=Qg (bW hchk).2.1 hqe
   have hn:=ak1 hchk hc hr p1 p2 f a [((a:Int),p2)] (by omega) (by simp) (by simp; omega)
   rw [show aS [((a:Int),p2)]=[.int .i64 a,.int .i64 p2] from rfl,List.length_singleton] at hn
   have hstep:∀ r,L.loop [2,3,6,7] [4,5,6] gU 2 [.loc 0 0,.loc 1 0,.aG 2 0 1 2,.int .i64 a] [.live (au b),.live [.int .i64 p1,.int .i64 p2],.live [.int .i64 a,.int .i64 p2]]=some r →
     L.loop [2,3,6,7] [4,5,6] gU 2 [.loc 0 0,.loc 1 0,.bJ,.int .i64 p2] [.live (au b),.live [.int .i64 p1,.int .i64 p2]]=some r:=by
    intro r hr
    unfold aC at hq
    generalize au b=B at *
    have htkB:B.take 9=B:=List.take_of_length_le (by omega)
    refine aj (m_ ..) ?_
    simp [kG,hlt,hbc,hbl,hbd,htkB,hq,kW,hr]
   cases hl2:fB b p1 f a with
   | none =>
     obtain ⟨x,m,hx⟩:=hn.2 hl2
     have := hstep _ hx
     simp only [aao,Option.map_none]
     unfold aC
     generalize au b=B at *
     refine ak (LK ..) ?_
     simp [ET,this]
   | some r =>
     have := hstep _ (hn.1 r hl2)
     simp only [aao,Option.map_some,cu]
     rw [show [((a:Int),p2)]++r=((a:Int),p2)::r from rfl] at this
     have hcl:=f_ (((a:Int),p2)::r) 0 11
     have hlen:=yE (((a:Int),p2)::r)
     have hfz:∀ m,iO (fz 10) (aS (((a:Int),p2)::r)) m=some (aS (((a:Int),p2)::r),m):=fun m=>Fb _ 9 m
     have htk:(aS (((a:Int),p2)::r)).take ((((a:Int),p2)::r).length*2)=aS (((a:Int),p2)::r):=List.take_of_length_le (by omega)
     unfold aC
     generalize au b=B at *
     generalize aS (((a:Int),p2)::r)=pc at *
     generalize (((a:Int),p2)::r).length=K at *
     refine ak (LK ..) ?_
     simp [ET,this,hcl,hfz,hlen,htk]
end Go.Ev.Code
end
section
namespace Go.Ev.Code
open Go Go.Ev
def sU (bK x y:Int) (q:Int×Int):Rat:=Rat.divInt (max (min y q.2-max x q.1) 0) (bK*(q.2-q.1))
def sumF (bK x y:Int):Rat→List (Int×Int)→Rat
 | s,[]=>s
 | s,q::r=>sumF bK x y (s+sU bK x y q) r
abbrev Dw (f:Int):Prop:=f=1∨f=2∨f=4∨f=12
theorem fV {b:ay} (h:months b≠0):Dw b.bK:=by
 unfold months at h
 split at h
 ·left; assumption
 ·split at h
  ·right; left; assumption
  ·split at h
   ·right; right; left; assumption
   ·split at h
    ·right; right; right; assumption
    ·simp at h
structure QOk (q:Int×Int):Prop where
 d1:aK q.1
 d2:aK q.2
 lt:q.1<q.2
theorem Dw.mul {f a:Int} (hf:Dw f) (h1:1≤a) (h2:a≤200000):1≤f*a∧f*a≤2400000:=by
 rcases hf with rfl | rfl | rfl | rfl <;> omega
theorem ae5 {f x y:Int} {q:Int×Int} (hf:Dw f) (hq:QOk q):RB 64 (sU f x y q):=by
 have h1:=hq.d1; have h2:=hq.d2; have h3:=hq.lt
 have hm:=hf.mul (a:=q.2-q.1) (by omega) (by omega)
 unfold sU
 exact qO (iT (by omega)) (iT (by omega)) (by omega)
theorem alV {f x y:Int} (hf:Dw f):∀ {l:List (Int×Int)} {s:Rat} {j:Nat},(∀ q∈l,QOk q)→RB j s→RB (j+65*l.length) (sumF f x y s l)
 | [],s,j,hl,hs=>by simpa [sumF] using hs
 | q::r,s,j,hl,hs=>by
   have := alV (x:=x) (y:=y) hf (l:=r) (s:=s+sU f x y q) (j:=j+64+1) (fun q hq=>hl q (List.mem_cons_of_mem _ hq)) (hs.add (ae5 hf (hl q (by simp))))
   simp only [sumF]
   exact this.mono (by simp; omega)
theorem aoM {b:ay} (hf:Dw b.bK) {p1 p2 x y:Int} (hx:p1≤x) (hxy:x≤y) (hy:y≤p2) (d1:aK p1) (d2:aK p2) (all:List (Int×Int)) (hall:∀ q∈all,QOk q) (hlen:all.length≤4000) :
  ∀ (l pre:List (Int×Int)) (s:Rat) (j:Nat),all=pre++l→RB j s→j+65*l.length≤600000 →
    L.loop [2,3,4,14,77,78,79] [14] BF 2 [.int .i64 x,.int .i64 y,.loc 0 0,cO s,cu all,.int .i64 all.length,.int .i64 pre.length] [.live (au b),.live [.int .i64 p1,.int .i64 p2]] =
      some (.exit 0,[cO (sumF b.bK x y s l)],[.live (au b),.live [.int .i64 p1,.int .i64 p2]]):=by
 have hbc:=jL b 2
 have hpcc:=f_ all 2 11
 intro l
 induction l with
 | nil =>
   intro pre s j hal hs hj
   rw [List.append_nil] at hal
   subst hal
   unfold cu
   simp only [sumF]
   generalize au b=B at *
   generalize aS all=pc at *
   generalize all.length=n at *
   refine aj (UK ..) ?_
   simp [JL,hbc]
 | cons q r ih =>
   intro pre s j hal hs hj
   have hq:=hall q (by rw [hal]; simp)
   have hn:=ih (pre++[q]) (s+sU b.bK x y q) (j+64+1) (by rw [hal]; simp) (hs.add (ae5 hf hq)) (by simp at hj ⊢; omega)
   rw [List.length_append,List.length_singleton,show ((pre.length+1:Nat):Int)=(pre.length:Int)+1 by omega] at hn
   simp only [sumF]
   have hg:=sO (ps:=all) (i:=pre.length) (p:=q) (by rw [hal]; simp)
   have hlt:pre.length<all.length:=by rw [hal]; simp
   have a1:=hq.d1; have a2:=hq.d2; have a3:=hq.lt
   have hm:=hf.mul (a:=q.2-q.1) (by omega) (by omega)
   have hadd:=Ia hs (ae5 (x:=x) (y:=y) hf hq) (by omega)
   have hof:L.call BQ [.int .i64 (max (min y q.2-max x q.1) 0),.int .i64 (b.bK*(q.2-q.1))]=some (.aH [cO (sU b.bK x y q),.bH]):=by
    unfold sU
    exact xM (by omega) (by omega) (by omega)
   have e1:IntKind.i64.wrap (min y q.2-max x q.1)=min y q.2-max x q.1:=wrap64 _ (by omega)
   have e2:IntKind.i64.wrap (q.2-q.1)=q.2-q.1:=wrap64 _ (by omega)
   have e3:IntKind.i64.wrap (b.bK*(q.2-q.1))=b.bK*(q.2-q.1):=wrap64 _ (by omega)
   have e4:IntKind.i64.wrap ((pre.length:Int)+1)=(pre.length:Int)+1:=wrap64 _ (by omega)
   generalize sumF b.bK x y (s+sU b.bK x y q) r=res at *
   generalize s+sU b.bK x y q=s2 at *
   generalize sU b.bK x y q=qq at *
   obtain ⟨q1,q2⟩:=q
   simp only at *
   unfold cu at *
   obtain ⟨g1,g2,g3,g4⟩:=hg
   generalize aS all=pc at *
   generalize all.length=N at *
   generalize pre.length=P at *
   have hltI:(P:Int)<N:=by omega
   obtain ⟨i,m,fq,c,rd,n,st,e,ex⟩:=b
   unfold au at *
   simp only at *
   refine aj (UK ..) ?_
   simp [JL,hlt,hltI,g1,g2,g3,g4,e1,e2,e3,e4,hof,hadd,hn]
def jy (b:ay) (p:Int×Int) (x y:Int):Except Int Rat :=
 if b.count=4 then match mJ b p with
  | none => .error 4
  | some l=>if x<p.1∨y<x∨p.2<y then .error 6 else .ok (sumF b.bK x y (Rat.divInt 0 1) l)
 else if x<p.1∨y<x∨p.2<y then .error 6 else .ok (EM b.count x y)
theorem aar:RB 64 (Rat.divInt 0 1):=qO (iT (by omega)) (iT (by omega)) (by omega)
theorem jO {b:ay} (h:(aF b).1=none):chk b=none:=(eF h).1
theorem afG {b:ay} (h:chk b=none):1≤b.count∧b.count≤4:=by
 unfold chk at h
 split at h <;> try (simp at h; done)
 split at h <;> try (simp at h; done)
 split at h <;> try (simp at h; done)
 split at h <;> try (simp at h; done)
 rename_i h1
 exact Classical.not_not.1 h1
theorem OD {b:ay} (hchk:chk b=none) {p:Int×Int} (d2:aK p.2) {l:List (Int×Int)} (h:mJ b p=some l):(∀ q∈l,QOk q)∧l.length≤3600:=by
 have hm:=(bW hchk).2.1
 have hb:=WC d2
 refine ⟨fun q hq=>?_,?_⟩
 ·have := ajv hm h q hq
  exact ⟨this.1,this.2.1,this.2.2.1⟩
 ·have := agd hm d2 h; omega
set_option maxHeartbeats 1000000 in
theorem PN {b:ay} (hp:(aF b).1=none) (hc:b.bM.length≤1000000) (hr:b.dh.length≤1000000) {p:Int×Int} (d1:aK p.1) (d2:aK p.2) (hlt:p.1<p.2) (x y:Int) :
  L.call R_ [aC b,pD p,.int .i64 x,.int .i64 y]=some (HY (jy b p x y)):=by
 have hchk:=jO hp
 have hpl:=Hu hc hr
 have hcl:=f_ (aF b).2 0 11
 have hqs:=aeS hchk hc hr hlt (by omega)
 have hf:=fV (bW hchk).2.1
 have hcnt:=afG hchk
 have hok:=fun {l} h=>OD (l:=l) hchk d2 h
 have hz:L.call BQ [.int .i64 0,.int .i64 1]=some (.aH [cO (Rat.divInt 0 1),.bH]):=xM (by omega) (by omega) (by omega)
 unfold wu at hpl
 rw [hp] at hpl
 simp only [dL] at hpl
 have hloop:=fun l hx hxy hy hall=>aoM (b:=b) hf (p1:=p.1) (p2:=p.2) (x:=x) (y:=y) hx hxy hy d1 d2 l hall
 obtain ⟨p1,p2⟩:=p
 unfold pD at *
 simp only at *
 unfold cu at hpl
 generalize (aF b).2.length=pn at *
 generalize aS (aF b).2=pc at *
 unfold jy
 simp only
 have hbad:x<p1∨y<x∨p2<y∨(p1≤x∧x≤y∧y≤p2):=by omega
 by_cases hk:b.count=4
 ·rw [if_pos hk]
  cases hq:mJ b (p1,p2) with
  | none =>
    rw [hq] at hqs
    simp only [aao] at hqs
    obtain ⟨i,m,fq,c,rd,n,st,e,ex⟩:=b
    unfold aC au at *
    simp only at *
    subst hk
    refine ak (TB ..) ?_
    simp [lC,hpl,hqs,HY]
  | some l =>
    rw [hq] at hqs
    simp only [aao] at hqs
    obtain ⟨hall,hll⟩:=hok hq
    simp only
    have hlp:=fun h1 h2 h3=>hloop l h1 h2 h3 hall (by omega) l [] (Rat.divInt 0 1) 64 rfl aar (by omega)
    have hlc:=f_ l 0 11
    simp only [List.length_nil] at hlp
    unfold cu at *
    generalize aS l=lc at *
    generalize l.length=ln at *
    generalize Rat.divInt 0 1=z at *
    generalize sumF b.bK x y z l=res at *
    obtain ⟨i,m,fq,c,rd,n,st,e,ex⟩:=b
    unfold aC au at *
    simp only at *
    subst hk
    refine ak (TB ..) ?_
    by_cases h1:x<p1
    ·rw [if_pos (.inl h1)]
     simp [lC,hpl,hqs,h1,bD,HY]
    by_cases h2:y<x
    ·rw [if_pos (.inr (.inl h2))]
     simp [lC,hpl,hqs,h1,h2,bD,HY]
    by_cases h3:p2<y
    ·rw [if_pos (.inr (.inr h3))]
     simp [lC,hpl,hqs,h1,h2,h3,bD,HY]
    ·rw [if_neg (by omega)]
     have := hlp (by omega) (by omega) (by omega)
     simp at this
     simp [lC,hpl,hqs,h1,h2,h3,hz,this,HY]
 ·rw [if_neg hk]
  have hcp:¬ (x<p1∨y<x∨p2<y)→∀ s e f,L.call GY [.int .i64 b.count,.int .i64 x,.int .i64 y,.int .i64 s,.int .i64 e,.int .i64 f]=some (.aH [cO (EM b.count x y),.bH]) :=
   fun h s e f=>aha (by omega) (by omega) (by omega) (by omega) (by omega)
  generalize EM b.count x y=res at *
  obtain ⟨i,m,fq,c,rd,n,st,e,ex⟩:=b
  unfold aC au at *
  simp only at *
  refine ak (TB ..) ?_
  by_cases h1:x<p1
  ·rw [if_pos (.inl h1)]
   simp [lC,hpl,hk,h1,bD,HY]
  by_cases h2:y<x
  ·rw [if_pos (.inr (.inl h2))]
   simp [lC,hpl,hk,h1,h2,bD,HY]
  by_cases h3:p2<y
  ·rw [if_pos (.inr (.inr h3))]
   simp [lC,hpl,hk,h1,h2,h3,bD,HY]
  ·rw [if_neg (by omega)]
   have := hcp (by omega) p1 p2 fq
   simp [lC,hpl,hk,h1,h2,h3,this,HY]
theorem aco {b:ay} (hchk:chk b=none) {p:Int×Int} (d1:aK p.1) (d2:aK p.2) {x y:Int} {q:Rat} (h:jy b p x y = .ok q) {n:Nat} (hn:∀ l,mJ b p=some l→l.length≤n):RB (64+65*n) q:=by
 have hf:=fV (bW hchk).2.1
 unfold jy at h
 split at h
 ·split at h
  ·simp at h
  ·rename_i l hl
   split at h
   ·simp at h
   ·simp at h
    subst h
    exact (alV hf (OD hchk d2 hl).1 aar).mono (by have := hn l hl; omega)
 ·split at h
  ·simp at h
  ·rename_i hxy
   simp at h
   subst h
   unfold EM
   have := GX (k:=b.count) (a:=x) (b:=y) (by omega) (by omega)
   refine (qO (k:=64) (iT (by omega)) (iT ?_) ?_).mono (by omega)
   ·split <;> omega
   ·split <;> omega
def ig (b:ay):Rat:=RP b*Rat.divInt 1 b.bK
theorem ac3 (b:ay):RB 400 (RP b):=by
 unfold RP
 have hq:RB 400 q0:=aar.mono (by omega)
 split
 ·exact hq
 ·split
  ·rename_i h; exact (VZ h).1
  ·exact hq
theorem ZE (b:ay):RB 400 (jg b):=by
 unfold jg
 have hq:RB 400 q0:=aar.mono (by omega)
 split
 ·exact hq
 ·split
  ·rename_i h; exact (VZ h).1
  ·exact hq
theorem aol {f:Int} (hf:Dw f):RB 64 (Rat.divInt 1 f):=qO (iT (by omega)) (iT (by omega)) (by omega)
theorem agj {b:ay} (hf:Dw b.bK):RB 464 (ig b):=(ac3 b).mul (aol hf)
theorem Si {b:ay} (hf:Dw b.bK) (hc:b.bM.length≤1000000) (hr:b.dh.length≤1000000):L.call He [aC b]=some (cO (ig b)):=by
 have h1:=Jc hc hr
 have h2:L.call BQ [.int .i64 1,.int .i64 b.bK]=some (.aH [cO (Rat.divInt 1 b.bK),.bH]):=xM (by omega) (by omega) (by omega)
 have h3:=Ic (ac3 b) (aol hf) (by omega)
 unfold ig
 generalize RP b*Rat.divInt 1 b.bK=r at *
 generalize Rat.divInt 1 b.bK=v at *
 generalize RP b=q at *
 obtain ⟨i,m,fq,c,rd,n,st,e,ex⟩:=b
 unfold aC au at *
 simp only at *
 refine ak (aep ..) ?_
 simp [Vy,h1,h2,h3]
def oz (b:ay) (p:Int×Int):Except Int Rat:=if regular b p=true then .ok (ig b) else match jy b p p.1 p.2 with
 | .ok q => .ok (RP b*q)
 | .error c => .error c
theorem atr {b:ay} (hchk:chk b=none) {p:Int×Int} (d1:aK p.1) (d2:aK p.2) {q:Rat} (h:oz b p = .ok q) {n:Nat} (hn:∀ l,mJ b p=some l→l.length≤n):RB (464+65*n) q:=by
 have hf:=fV (bW hchk).2.1
 unfold oz at h
 split at h
 ·simp at h; subst h; exact (agj hf).mono (by omega)
 ·split at h
  ·rename_i v hv
   simp at h; subst h
   exact ((ac3 b).mul (aco hchk d1 d2 hv hn)).mono (by omega)
  ·simp at h
theorem akK {b:ay} (hp:(aF b).1=none) (hc:b.bM.length≤1000000) (hr:b.dh.length≤1000000) {p:Int×Int} (d1:aK p.1) (d2:aK p.2) (hlt:p.1<p.2):L.call Wq [aC b,pD p]=some (HY (oz b p)):=by
 have hchk:=jO hp
 have hf:=fV (bW hchk).2.1
 have hpl:=Hu hc hr
 have hreg:=Hw hc hr p
 have hpart:=PN hp hc hr d1 d2 hlt p.1 p.2
 have hrp:=Si hf hc hr
 have hcp:=Jc hc hr
 have hcl:=f_ (aF b).2 0 11
 have hmul:=fun {q} h=>Ic (ac3 b) (aco hchk d1 d2 (q:=q) (x:=p.1) (y:=p.2) h (n:=3600) (fun l hl=>(OD hchk d2 hl).2)) (by omega)
 unfold wu at hpl
 rw [hp] at hpl
 simp only [dL] at hpl
 unfold cu at hpl
 generalize (aF b).2.length=pn at *
 generalize aS (aF b).2=pc at *
 unfold oz
 obtain ⟨p1,p2⟩:=p
 unfold pD at *
 simp only at *
 generalize jy b (p1,p2) p1 p2=pr at *
 generalize regular b (p1,p2)=rg at *
 generalize ig b=rp at *
 generalize RP b=cq at *
 obtain ⟨i,m,fq,c,rd,n,st,e,ex⟩:=b
 unfold aC au at *
 simp only at *
 refine ak (al9 ..) ?_
 cases rg with
 | true=>simp [Ot,hpl,hreg,hrp,HY]
 | false =>
   cases pr with
   | error c=>simp [HY] at hpart; simp [Ot,hpl,hreg,hpart,HY]
   | ok q =>
     have hmul:=hmul rfl
     simp only [HY] at hpart
     simp [Ot,hpl,hreg,hpart,hcp,hmul,HY]
end Go.Ev.Code
end
section
namespace Go.Ev.Code
open Go Go.Ev
def dP:List (Int×Rat)→List D
 | []=>[]
 | (d,q)::r => .int .i64 d :: .str (Ce q)::dP r
theorem Jt (l r:List (Int×Rat)):dP (l++r)=dP l++dP r:=by
 induction l with
 | nil=>rfl
 | cons x xs ih=>obtain ⟨a,b⟩:=x; simp [dP,ih]
theorem Oy (l:List (Int×Rat)):(dP l).length=l.length*2:=by
 induction l with
 | nil=>rfl
 | cons x xs ih=>obtain ⟨a,b⟩:=x; simp [dP,ih]; omega
theorem FV (l:List (Int×Rat)) (b n:Nat):(dP l).all (D.clo b (n+1))=true:=by
 induction l with
 | nil=>rfl
 | cons x xs ih=>obtain ⟨p,q⟩:=x; simp [dP]; simpa using ih
theorem aeU (l:List (Int×Rat)) (n:Nat) (m:Mem):iO (fz (n+1)) (dP l) m=some (dP l,m):=by
 induction l with
 | nil=>rfl
 | cons x xs ih=>obtain ⟨a,b⟩:=x; simp [dP,ih]
def flD (l:List (Int×Rat)):D := .sl l.length (dP l)
def kC (each red:Rat):List (Int×Int)→List (Int×Rat)
 | []=>[]
 | [p]=>[(p.2,each+red)]
 | p::q::r=>(p.2,each)::kC each red (q::r)
def Az (pay each red:Rat):List (Int×Int)→List (Int×Rat)
 | []=>[]
 | [p]=>[(p.2,pay+red)]
 | p::q::r=>(p.2,pay)::kC each red (q::r)
theorem agl (each red:Rat):∀ l:List (Int×Int),(kC each red l).length=l.length
 | []=>rfl
 | [_]=>rfl
 | _::q::r=>by simp [kC,agl each red (q::r)]
theorem YV (pay each red:Rat) (l:List (Int×Int)):(Az pay each red l).length=l.length:=by
 match l with
 | []=>rfl
 | [_]=>rfl
 | _::q::r=>simp [Az,agl]
set_option maxHeartbeats 2000000 in
theorem of_rest {b:ay} {pre:Mem} {k:Nat} (hpre:(pre=[]∧k=0)∨(pre=[.live (au b)]∧k=1)) (hc:b.bM.length≤1000000) (hr:b.dh.length≤1000000) {each:Rat} {j:Nat} (hE:RB j each) (hj:1≤j) (hj2:j≤400000)
  {ps:List (Int×Int)} (hn:ps.length≤100000):∀ (rest pfx:List (Int×Int)) (acc:List (Int×Rat)),ps=pfx++rest→pfx≠[]→acc.length=pfx.length →
  L.loop [1,4,6,7,21,22,23] [2,3,7] qG (k+1) [.loc k 0,cu ps,cO each,.aG (k+1) 0 acc.length 2,cu ps,.int .i64 ps.length,.int .i64 pfx.length] (pre++[.live (au b),.live (dP acc)]) =
    some (.exit 0,[.undef,.undef,.aG (k+1) 0 ps.length 2],pre++[.live (au b),.live (dP (acc++kC each (jg b) rest))]):=by
 have hbc:=fun n=>jL b n
 have hbl:=mg b
 have hbd:=kK b 0 10
 have hbr:=CO hc hr
 have hadd:=Ia hE (ZE b) (by omega)
 have ht1:=vV hE (by omega) hj
 have ht2:=vV (hE.add (ZE b)) (by omega) (by omega)
 intro rest
 induction rest with
 | nil =>
   intro pfx acc hal hne hl
   rw [List.append_nil] at hal
   subst hal
   have hfc:=fun n=>FV acc n 11
   rw [hl]
   unfold cu
   simp only [kC,List.append_nil]
   generalize au b=B at *
   generalize dP acc=fc at *
   generalize aS ps=pc at *
   generalize ps.length=n at *
   rcases hpre with ⟨rfl,rfl⟩ | ⟨rfl,rfl⟩
   ·refine aj (iH ..) ?_
    simp [gX,hbc,hfc]
   ·refine aj (iH ..) ?_
    simp [gX,hbc,hfc]
 | cons p rest ih =>
   intro pfx acc hal hne hl
   have hfc:=fun n=>FV acc n 11
   have hfl:=Oy acc
   have hpos:0<pfx.length:=List.length_pos_iff.2 hne
   have hg:=sO (ps:=ps) (i:=pfx.length) (p:=p) (by rw [hal]; simp)
   have hlt:pfx.length<ps.length:=by rw [hal]; simp
   have hlast:(pfx.length:Int)=(ps.length:Int)-1↔rest=[]:=by
    have : ps.length=pfx.length+1+rest.length:=by rw [hal]; simp; omega
    constructor
    ·intro h; exact List.eq_nil_of_length_eq_zero (by omega)
    ·rintro rfl; simp at this; omega
   have hstep:∀ (a:Rat),a=(if rest=[] then each+jg b else each) →
     (∀ r,L.loop [1,4,6,7,21,22,23] [2,3,7] qG (k+1) [.loc k 0,cu ps,cO each,.aG (k+1) 0 (acc.length+1) 2,cu ps,.int .i64 ps.length,.int .i64 ((pfx.length+1:Nat):Int)] (pre++[.live (au b),.live (dP acc++[.int .i64 p.2,.str (Ce a)])])=some r →
      L.loop [1,4,6,7,21,22,23] [2,3,7] qG (k+1) [.loc k 0,cu ps,cO each,.aG (k+1) 0 acc.length 2,cu ps,.int .i64 ps.length,.int .i64 pfx.length] (pre++[.live (au b),.live (dP acc)])=some r):=by
    intro a ha r hr
    have e1:IntKind.i64.wrap ((pfx.length:Int)+1)=((pfx.length+1:Nat):Int):=by rw [wrap64 _ (by omega)]; omega
    have e2:IntKind.i64.wrap ((ps.length:Int)-1)=(ps.length:Int)-1:=wrap64 _ (by omega)
    have hlen:acc.length+1≤4294967296:=by omega
    have htk:(dP acc).take (acc.length*2)=dP acc:=List.take_of_length_le (by omega)
    have hP0:¬ (pfx.length:Int)=0:=by omega
    have hP0N:¬ pfx.length=0:=by omega
    obtain ⟨p1,p2⟩:=p
    simp only at *
    unfold cu at *
    obtain ⟨g1,g2,g3,g4⟩:=hg
    generalize hfcq:dP acc=fc at *
    generalize acc.length=A at *
    by_cases hrest:rest=[]
    ·have hi:=hlast.2 hrest
     rw [if_pos hrest] at ha
     subst ha
     generalize each+jg b=es at *
     generalize jg b=rd at *
     unfold aC at hbr
     generalize au b=B at *
     have htkB:B.take 9=B:=List.take_of_length_le (by omega)
     generalize aS ps=pc at *
     generalize ps.length=N at *
     generalize pfx.length=P at *
     have hltI:(P:Int)<N:=by omega
     have hi':(N:Int)-1=P:=by omega
     have e2':IntKind.i64.wrap (P:Int)=P:=wrap64 _ (by omega)
     rcases hpre with ⟨rfl,rfl⟩ | ⟨rfl,rfl⟩
     ·refine aj (iH ..) ?_
      simp at hr
      simp [gX,hlt,hltI,g1,g2,g3,g4,hP0,hP0N,e1,e2,e2',hi',hbc,hbl,hbd,htkB,hbr,hadd,ht2,kW,hfc,hfl,htk,hlen,hr,kX]
     ·refine aj (iH ..) ?_
      simp at hr
      simp [gX,hlt,hltI,g1,g2,g3,g4,hP0,hP0N,e1,e2,e2',hi',hbc,hbl,hbd,htkB,hbr,hadd,ht2,kW,hfc,hfl,htk,hlen,hr,kX]
    ·have hi:¬ (pfx.length:Int)=(ps.length:Int)-1:=fun h=>hrest (hlast.1 h)
     rw [if_neg hrest] at ha
     subst ha
     generalize au b=B at *
     generalize aS ps=pc at *
     generalize ps.length=N at *
     generalize pfx.length=P at *
     have hltI:(P:Int)<N:=by omega
     rcases hpre with ⟨rfl,rfl⟩ | ⟨rfl,rfl⟩
     ·refine aj (iH ..) ?_
      simp at hr
      simp [gX,hlt,hltI,g1,g2,g3,g4,hP0,hP0N,e1,e2,hi,hbc,hbl,hbd,ht1,kW,hfc,hfl,htk,hlen,hr,kX]
     ·refine aj (iH ..) ?_
      simp at hr
      simp [gX,hlt,hltI,g1,g2,g3,g4,hP0,hP0N,e1,e2,hi,hbc,hbl,hbd,ht1,kW,hfc,hfl,htk,hlen,hr,kX]
   have hn2:=ih (pfx++[p]) (acc++[(p.2,if rest=[] then each+jg b else each)]) (by rw [hal]; simp) (by simp) (by simp [hl])
   rw [Jt,Jt,show dP [(p.2,if rest=[] then each+jg b else each)]=[.int .i64 p.2,.str (Ce (if rest=[] then each+jg b else each))] from rfl,List.length_append,List.length_append,List.length_singleton,List.length_singleton] at hn2
   have := hstep _ rfl _ hn2
   rw [this]
   have hE2:dP (acc++kC each (jg b) (p::rest))=dP acc++[.int .i64 p.2,.str (Ce (if rest=[] then each+jg b else each))]++dP (kC each (jg b) rest):=by
    rw [Jt]
    cases rest with
    | nil=>simp [kC,dP]
    | cons q r=>simp [kC,dP]
   rw [hE2,Jt acc]
   rfl
def dG (b:ay):Er×List (Int×Rat):=match (aF b).1 with
 | some e=>(amq (some e),[])
 | none=>match (aF b).2 with
   | []=>(none,[])
   | p::r=>match oz b p with
     | .error c=>(some (c,none),[])
     | .ok q=>(none,Az q (ig b) (jg b) (p::r))
theorem kM {b:ay} (h:(aF b).1=none) {p:Int×Int} (hp:p∈(aF b).2):aK p.1∧aK p.2∧p.1<p.2:=by
 have hw:=eF h
 obtain ⟨i,hi⟩:=List.getElem?_of_mem hp
 have hlt:=hw.2.ord i p hi
 have hchk:=hw.1
 obtain ⟨z1,z2,z3⟩:=G6 (bW hchk).1
 have hraw:∀ {i:Nat} {q:Int×Int},(dw b)[i]?=some q→aK q.1∧aK q.2:=by
  intro i q hq
  have hl:i<aX b:=by rw [← nP]; exact (List.getElem?_eq_some_iff.1 hq).1
  rw [uw hl] at hq
  simp at hq
  subst hq
  have hd:∀ n:Nat,aK (((anch b n).getD 0:Nat):Int):=by
   intro n
   cases ha:anch b n with
   | none=>exact ⟨by simp,by simp⟩
   | some a=>simpa using VQ ha
  refine ⟨?_,hd _⟩
  simp only
  split
  ·exact z1
  ·exact hd _
 have : aK p.1∧aK p.2:=by
  unfold aF at hi
  rw [hchk] at hi
  simp only at hi
  split at hi
  ·exact hraw hi
  ·split at hi
   ·simp at hi
   ·split at hi
    ·split at hi
     ·rename_i x q r hx
      cases i with
      | zero =>
        simp at hi
        subst hi
        have := hraw (i:=1) (q:=q) (by rw [hx]; rfl)
        exact ⟨z1,this.2⟩
      | succ i =>
        simp at hi
        exact hraw (i:=i+2) (q:=p) (by rw [hx]; simpa using hi)
     ·exact hraw hi
    ·exact hraw hi
 exact ⟨this.1,this.2,hlt⟩
def callOf (k:Nat) (pre:Mem):Er×List (Int×Rat)→D×Mem
 | (some e,_)=>(.aH [.bJ,xJ (some e)],pre)
 | (none,fs)=>(.aH [.aG k 0 fs.length 2,.bH],pre++[.live (dP fs)])
set_option maxHeartbeats 1000000 in
theorem akJ {b:ay} {pre:Mem} {k:Nat} (hpre:(pre=[]∧k=0)∨(pre=[.live (au b)]∧k=1)) (hc:b.bM.length≤1000000) (hr:b.dh.length≤1000000) :
  L.aU U8 [aC b] pre=some (callOf k pre (dG b)):=by
 have hpl:=Hu hc hr
 have hbc:=fun n=>jL b n
 have hbl:=mg b
 have hbd:=kK b 0 10
 unfold wu at hpl
 cases hp:(aF b).1 with
 | some e =>
   rw [hp] at hpl
   unfold dG
   rw [hp]
   obtain ⟨ec,es⟩:=e
   simp [dL,fU] at hpl
   simp only [amq,callOf,xJ]
   unfold cu at hpl
   have hcl:=f_ (aF b).2 0 11
   unfold aC at hpl ⊢
   generalize au b=B at *
   have htkB:B.take 9=B:=List.take_of_length_le (by omega)
   generalize (aF b).2.length=pn at *
   generalize aS (aF b).2=pc at *
   rcases hpre with ⟨rfl,rfl⟩ | ⟨rfl,rfl⟩
   ·refine kL (FH ..) ?_
    simp [BX,hpl,hbc,hbl,hbd,htkB,fU]
   ·refine kL (FH ..) ?_
    simp [BX,hpl,hbc,hbl,hbd,htkB,fU]
 | none =>
   have hw:=eF hp
   have hchk:=hw.1
   have hf:=fV (bW hchk).2.1
   have hreg:=Si hf hc hr
   rw [hp] at hpl
   simp only [dL] at hpl
   unfold dG
   rw [hp]
   simp only
   have hdays:=fun {p} h=>kM hp (p:=p) h
   have hplen:=hw.2.len
   have hpne:=hw.2.ne
   cases hps:(aF b).2 with
   | nil=>exact absurd hps hpne
   | cons p r =>
     obtain ⟨d1,d2,d3⟩:=hdays (p:=p) (by rw [hps]; simp)
     have hpay:=akK hp hc hr d1 d2 d3
     rw [hps] at hpl hplen
     simp only
     have hlen1:(p::r).length=r.length+1:=rfl
     cases hpb:oz b p with
     | error c =>
       rw [hpb] at hpay
       simp only [HY] at hpay
       simp only [callOf,xJ]
       have hg:=sO (ps:=p::r) (i:=0) (p:=p) rfl
       have hcl:=f_ (p::r) 0 11
       unfold pD at hpay
       obtain ⟨p1,p2⟩:=p
       simp only at *
       obtain ⟨g1,g2,g3,g4⟩:=hg
       simp only [Nat.zero_mul,Nat.zero_add,List.drop_zero] at g1 g2 g3 g4
       unfold cu at hpl
       generalize ig b=rp at *
       generalize aS ((p1,p2)::r)=pc at *
       generalize hN:((p1,p2)::r).length=N at *
       have hN0:0<N:=by omega
       have hN0I:(0:Int)<N:=by omega
       unfold aC at hpl hreg hpay ⊢
       generalize au b=B at *
       have htkB:B.take 9=B:=List.take_of_length_le (by omega)
       have hlp:L.loop [1,4,6,7,21,22,23] [2,3,7] qG (k+1) [.loc k 0,.sl N pc,cO rp,.bJ,.sl N pc,.int .i64 N,.int .i64 0] (pre++[.live B])=some (.ret,[.bJ,wO c,.bJ],pre++[.live B]):=by
        rcases hpre with ⟨rfl,rfl⟩ | ⟨rfl,rfl⟩
        ·refine aj (iH ..) ?_
         simp [gX,hN0,hN0I,g1,g2,g3,g4,hbc,hbl,hbd,htkB,hpay,kX]
        ·refine aj (iH ..) ?_
         simp [gX,hN0,hN0I,g1,g2,g3,g4,hbc,hbl,hbd,htkB,hpay,kX]
       rcases hpre with ⟨rfl,rfl⟩ | ⟨rfl,rfl⟩
       ·simp at hlp
        refine kL (FH ..) ?_
        simp [BX,hpl,hbc,hbl,hbd,htkB,hreg,hlp]
       ·simp at hlp
        refine kL (FH ..) ?_
        simp [BX,hpl,hbc,hbl,hbd,htkB,hreg,hlp]
     | ok q =>
       rw [hpb] at hpay
       simp only [HY] at hpay
       simp only [callOf]
       have hqB:=atr hchk d1 d2 hpb (fun l hl=>(OD hchk d2 hl).2)
       have hrest:=of_rest hpre hc hr (agj hf) (by omega) (by omega) (ps:=p::r) (by omega) r [p] [(p.2,if r=[] then q+jg b else q)] rfl (by simp) rfl
       have hfl:dP ([(p.2,if r=[] then q+jg b else q)]++kC (ig b) (jg b) r)=dP (Az q (ig b) (jg b) (p::r)):=by
        cases r with
        | nil=>simp [Az,kC,dP]
        | cons p2 r2=>simp [Az,dP]
       rw [hfl] at hrest
       have hfll:=YV q (ig b) (jg b) (p::r)
       have hfcl:=fun n=>FV (Az q (ig b) (jg b) (p::r)) n 11
       rw [hfll]
       generalize dP (Az q (ig b) (jg b) (p::r))=FC at *
       have hg:=sO (ps:=p::r) (i:=0) (p:=p) rfl
       have hcl:=f_ (p::r) 0 11
       have hbr:=CO hc hr
       have hadd:=Ia hqB (ZE b) (by omega)
       have ht1:=vV hqB (by omega) (by omega)
       have ht2:=vV (hqB.add (ZE b)) (by omega) (by omega)
       unfold pD at hpay
       obtain ⟨p1,p2⟩:=p
       simp only at *
       obtain ⟨g1,g2,g3,g4⟩:=hg
       simp only [Nat.zero_mul,Nat.zero_add,List.drop_zero] at g1 g2 g3 g4
       unfold cu at hpl hrest
       simp only [dP,List.length_singleton] at hrest
       generalize aS ((p1,p2)::r)=pc at *
       generalize hN:((p1,p2)::r).length=N at *
       have hN0:0<N:=by omega
       have hN0I:(0:Int)<N:=by omega
       have e2:IntKind.i64.wrap ((N:Int)-1)=(N:Int)-1:=wrap64 _ (by omega)
       have hlp:L.loop [1,4,6,7,21,22,23] [2,3,7] qG (k+1) [.loc k 0,.sl N pc,cO (ig b),.bJ,.sl N pc,.int .i64 N,.int .i64 0] (pre++[.live (au b)])=some (.exit 0,[.undef,.undef,.aG (k+1) 0 N 2],pre++[.live (au b),.live FC]):=by
        generalize ig b=rp at *
        by_cases hr0:r=[]
        ·subst hr0
         simp at hN
         subst hN
         rw [if_pos rfl] at hrest
         generalize q+jg b=qs at *
         generalize jg b=rd at *
         unfold aC at hpl hreg hpay hbr
         generalize au b=B at *
         have htkB:B.take 9=B:=List.take_of_length_le (by omega)
         rcases hpre with ⟨rfl,rfl⟩ | ⟨rfl,rfl⟩
         ·simp at hrest
          refine aj (iH ..) ?_
          simp [gX,g1,g2,g3,g4,hbc,hbl,hbd,htkB,hpay,hbr,hadd,ht2,kW,wrap64,hrest,kX]
         ·simp at hrest
          refine aj (iH ..) ?_
          simp [gX,g1,g2,g3,g4,hbc,hbl,hbd,htkB,hpay,hbr,hadd,ht2,kW,wrap64,hrest,kX]
        ·rw [if_neg hr0] at hrest
         have hrl:0<r.length:=List.length_pos_iff.2 hr0
         have hN1:¬ (0:Int)=(N:Int)-1:=by omega
         have hN1':¬ (N:Int)-1=0:=by omega
         unfold aC at hpl hreg hpay
         generalize au b=B at *
         have htkB:B.take 9=B:=List.take_of_length_le (by omega)
         rcases hpre with ⟨rfl,rfl⟩ | ⟨rfl,rfl⟩
         ·simp at hrest
          refine aj (iH ..) ?_
          simp [gX,hN0,hN0I,g1,g2,g3,g4,hbc,hbl,hbd,htkB,hpay,e2,hN1,hN1',ht1,kW,wrap64,hrest,kX]
         ·simp at hrest
          refine aj (iH ..) ?_
          simp [gX,hN0,hN0I,g1,g2,g3,g4,hbc,hbl,hbd,htkB,hpay,e2,hN1,hN1',ht1,kW,wrap64,hrest,kX]
       generalize ig b=rp at *
       unfold aC at hpl hreg hpay ⊢
       generalize au b=B at *
       have htkB:B.take 9=B:=List.take_of_length_le (by omega)
       rcases hpre with ⟨rfl,rfl⟩ | ⟨rfl,rfl⟩
       ·simp at hlp
        refine kL (FH ..) ?_
        simp [BX,hpl,hbc,hbl,hbd,htkB,hreg,hlp,hfcl]
       ·simp at hlp
        refine kL (FH ..) ?_
        simp [BX,hpl,hbc,hbl,hbd,htkB,hreg,hlp,hfcl]
def NZ (r:Er×List (Int×Rat)):D := .aH [flD r.2,xJ r.1]
end Go.Ev.Code
end
