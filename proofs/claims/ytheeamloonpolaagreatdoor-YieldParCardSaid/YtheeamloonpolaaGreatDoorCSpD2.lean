/- A part of the proof of riskZero_card, yieldPar_card, pricePar_card. -/
import Derived.Test.YtheeamloonpolaaGreatDoorCSpD1
set_option linter.unusedVariables false
set_option linter.unusedSimpArgs false
section
namespace Go.Ev.Code
open Go Go.Ev
theorem adk:∀ (l:List Nat) (f:Int) (i:Nat),i<l.length→(dZ f l)[i]?=some (if i=0 then f else ((l[i-1]?.getD 0:Nat):Int),((l[i]?.getD 0:Nat):Int))
 | [],_,i,h=>by simp at h
 | d::ds,f,0,h=>by simp [dZ]
 | d::ds,f,i+1,h=>by
   have h':i<ds.length:=by simpa using h
   have := adk ds d i h'
   simp only [dZ,List.getElem?_cons_succ,this,Nat.add_sub_cancel]
   cases i with
   | zero=>simp
   | succ j=>simp
structure Whole (b:aH) (ps:List (Int×Int)):Prop where
 ne:ps≠[]
 first:∀ p:Int×Int,ps[0]?=some p→p.1=b.issue
 last:∀ p:Int×Int,ps[ps.length-1]?=some p→p.2=b.cZ
 len:ps.length≤200
 ord:∀ (i:Nat) (p:Int×Int),ps[i]?=some p→p.1<p.2
 next : ∀ (i:Nat) (p q:Int×Int),ps[i]?=some q→ps[i+1]?=some p→p.1=q.2∧regular b p=true
 stub:b.stub=0→∀ p:Int×Int,ps[0]?=some p→regular b p=true
theorem yw {b:aH} {i:Nat} (h:i<bQ b):(dR b)[i]?=some (if i=0 then b.issue else (((anch b (bQ b-i)).getD 0:Nat):Int),(((anch b (bQ b-1-i)).getD 0:Nat):Int)):=by
 unfold dR
 have hl:=pI b (bQ b)
 rw [adk _ _ _ (by rw [List.length_reverse,hl]; exact h)]
 have hg:∀ j,j<bQ b→(eu b (bQ b)).reverse[j]?=some ((anch b (bQ b-1-j)).getD 0):=by
  intro j hj
  rw [List.getElem?_reverse (by rw [hl]; exact hj),hl]
  simp [eu,List.getElem?_range,show bQ b-1-j<bQ b by omega]
 rw [hg i h,Option.getD_some]
 by_cases h0:i=0
 ·simp [h0]
 ·rw [if_neg h0,if_neg h0,hg (i-1) (by omega),Option.getD_some,show bQ b-1-(i-1)=bQ b-i by omega]
theorem oM {b:aH} (hchk:chk b=none) {k:Nat} (hk:k<bQ b):∃ a,anch b k=some a∧b.issue<(a:Int)∧(k+1<bQ b→∃ c,anch b (k+1)=some c∧c<a):=by
 have hm:=(dH hchk).2.1
 obtain ⟨g1,g2,g3⟩:=Gf hm
 obtain ⟨a,ha,hai⟩:=g1 k hk
 refine ⟨a,ha,hai,fun hk2=>?_⟩
 obtain ⟨c,hc,_⟩:=g1 (k+1) hk2
 exact ⟨c,hc,Z_ hm (Nat.lt_succ_self k) ha hc⟩
theorem amd {b:aH} (hchk:chk b=none) {i:Nat} {p:Int×Int} (h:(dR b)[i]?=some p):p.1<p.2∧b.issue<p.2:=by
 have hl:i<bQ b:=by rw [← r_]; exact (List.getElem?_eq_some_iff.1 h).1
 rw [yw hl] at h
 simp at h
 subst h
 obtain ⟨a,ha,hai,hn⟩:=oM hchk (k:=bQ b-1-i) (by omega)
 simp only [ha,Option.getD_some]
 by_cases h0:i=0
 ·rw [if_pos h0]; exact ⟨hai,hai⟩
 ·rw [if_neg h0]
  obtain ⟨c,hc,hca⟩:=hn (by omega)
  rw [show bQ b-i=bQ b-1-i+1 by omega,hc,Option.getD_some]
  exact ⟨by omega,hai⟩
theorem arj {b:aH} (hchk:chk b=none) {i:Nat} {p q:Int×Int} (hq:(dR b)[i]?=some q) (hp:(dR b)[i+1]?=some p):p.1=q.2∧regular b p=true:=by
 have hl:i+1<bQ b:=by rw [← r_]; exact (List.getElem?_eq_some_iff.1 hp).1
 rw [yw (by omega)] at hq
 rw [yw hl] at hp
 simp at hq hp
 obtain ⟨a,ha,hai,hn⟩:=oM hchk (k:=bQ b-1-(i+1)) (by omega)
 obtain ⟨c,hc,hca⟩:=hn (by omega)
 rw [show bQ b-1-(i+1)+1=bQ b-(i+1) by omega] at hc
 subst hp
 subst hq
 refine ⟨?_,?_⟩
 ·simp only
  rw [show bQ b-1-i=bQ b-(i+1) by omega]
 ·simp only [ha,hc,Option.getD_some]
  exact Rw hchk (k:=bQ b-1-(i+1)) (by omega) ha ⟨c,by rw [show bQ b-1-(i+1)+1=bQ b-(i+1) by omega]; exact hc,rfl⟩
theorem af5 {b:aH} (hchk:chk b=none) (hs:b.stub=0→FV b=true):Whole b (dR b):=by
 have kp:=Jb hchk
 have hm:=(dH hchk).2.1
 obtain ⟨d1,d2,d3⟩:=Jr (dH hchk).1
 have hl:=r_ b
 refine ⟨?_,?_,?_,?_,?_,?_,?_⟩
 ·intro h; rw [h] at hl; simp at hl; omega
 ·intro p hp
  rw [yw (by omega)] at hp
  simp at hp
  rw [← hp]
 ·intro p hp
  rw [hl,yw (by omega)] at hp
  simp at hp
  rw [← hp]
  simp only [show bQ b-1-(bQ b-1)=0 by omega,TB d2,Option.getD_some]
  omega
 ·have := aoY hchk; omega
 ·exact fun i p hp=>(amd hchk hp).1
 ·exact fun i p q hq hp=>arj hchk hq hp
 ·intro h0 p hp
  have hh:=hs h0
  rw [yw (by omega)] at hp
  simp at hp
  subst hp
  obtain ⟨a,ha,hai,_⟩:=oM hchk (k:=bQ b-1) (by omega)
  simp only [Nat.sub_zero,ha,Option.getD_some]
  refine Rw hchk (k:=bQ b-1) (by omega) ha ?_
  rw [show bQ b-1+1=bQ b by omega]
  unfold FV at hh
  cases hk:anch b (bQ b) with
  | none=>rw [hk] at hh; simp at hh
  | some c=>rw [hk] at hh; exact ⟨c,rfl,by simpa using hh⟩
theorem fO {b:aH} (h:(aS b).1=none):chk b=none∧Whole b (aS b).2:=by
 unfold aS at h ⊢
 cases hchk:chk b with
 | some e=>rw [hchk] at h; simp at h
 | none =>
   rw [hchk] at h
   simp only at h ⊢
   refine ⟨trivial,?_⟩
   by_cases hh:FV b=true
   ·rw [if_pos hh]; exact af5 hchk fun _=>hh
   ·rw [if_neg hh] at h ⊢
    by_cases h0:b.stub=0
    ·rw [if_pos h0] at h; simp at h
    ·rw [if_neg h0] at h ⊢
     have hw:=af5 hchk fun h=>absurd h h0
     by_cases h2:b.stub=2
     ·rw [if_pos h2]
      split
      ·rename_i p q r hr
       rw [hr] at hw
       have hq:=amd hchk (i:=1) (p:=q) (by rw [hr]; rfl)
       refine ⟨by simp,?_,?_,?_,?_,?_,fun h=>absurd h h0⟩
       ·intro x hx; simp at hx; rw [← hx]
       ·intro x hx
        have hl:=hw.last
        cases r with
        | nil=>simp at hx hl; rw [← hx]; exact hl
        | cons y ys =>
          refine hl x ?_
          simp at hx ⊢
          exact hx
       ·have := hw.len; simp at this ⊢; omega
       ·intro i x hx
        cases i with
        | zero=>simp at hx; rw [← hx]; exact hq.2
        | succ j=>exact hw.ord (j+2) x (by simpa using hx)
       ·intro i x y hy hx
        cases i with
        | zero =>
          simp at hy
          have := hw.next 1 x q (by simp) (by simpa using hx)
          rw [← hy]; exact this
        | succ j=>exact hw.next (j+2) x y (by simpa using hy) (by simpa using hx)
      ·exact hw
     ·rw [if_neg h2]; exact hw
theorem um:∀ {ps:List (Int×Int)} {i:Nat} {p:Int×Int},ps[i]?=some p→(bK ps)[i*2]?=some (.int .i64 p.1)∧(bK ps)[i*2+1]?=some (.int .i64 p.2)∧i*2+2≤(bK ps).length∧((bK ps).drop (i*2)).take 2=[.int .i64 p.1,.int .i64 p.2]
 | [],i,p,h=>by simp at h
 | (a,b)::ps,0,p,h=>by simp at h; subst h; simp [bK]
 | (a,b)::ps,i+1,p,h=>by
   obtain ⟨h1,h2,h3,h4⟩:=um (ps:=ps) (i:=i) (p:=p) (by simpa using h)
   have e1:(i+1)*2=i*2+1+1:=by omega
   have e2:(i+1)*2+1=i*2+1+1+1:=by omega
   rw [e1]
   refine ⟨by simpa [bK] using h1,by simpa [bK] using h2,by simp [bK]; omega,by simpa [bK] using h4⟩
theorem iq (b:aH) (k:Nat):(aQ b).all (D.clo k 12)=true:=by obtain ⟨i,m,f,c,rd,n,s,e,ex⟩:=b; simp [aQ]
theorem sH (b:aH):(aQ b).length=9:=rfl
end Go.Ev.Code
end
section
namespace Go.Ev.Code
open Go Go.Ev
theorem ZK {y:Nat} (h:y≤1000000):L.call lT [.int .i64 y]=some (.bool (leap y)):=by
 have q1:=Ee y 4
 have q2:=Ee y 100
 have q3:=Ee y 400
 simp at q1 q2 q3
 refine aN YO rfl (YH ..) ?_
 unfold leap
 have c4:((y:Int) % 4=0)↔y % 4=0:=by omega
 have c100:((y:Int) % 100=0)↔y % 100=0:=by omega
 have c400:((y:Int) % 400=0)↔y % 400=0:=by omega
 by_cases h4:y % 4=0
 ·by_cases h100:y % 100=0
  ·by_cases h400:y % 400=0 <;> simp (disch:=omega) [y7,q1,q2,q3,c4,c100,c400,h4,h100,h400]
  ·simp (disch:=omega) [y7,q1,q2,q3,c4,c100,c400,h4,h100]
 ·simp (disch:=omega) [y7,q1,q2,q3,c4,c100,c400,h4]
theorem wK {y m:Nat} (h:y≤1000000) (h1:1≤m) (h2:m≤12):L.call fA [.int .i64 y,.int .i64 m]=some (.int .i64 (bP y m)):=by
 have hl:=ZK h
 refine aN WB rfl (Wu ..) ?_
 have : m=1∨m=2∨m=3∨m=4∨m=5∨m=6∨m=7∨m=8∨m=9∨m=10∨m=11∨m=12:=by omega
 rcases this with rfl | rfl | rfl | rfl | rfl | rfl | rfl | rfl | rfl | rfl | rfl | rfl
 case inr.inl =>
  cases hy:leap y <;> rw [hy] at hl <;> simp [BG,bP,hl,hy]
 all_goals simp [BG,bP]
theorem Xw (n:Int):L.call qZ [.int .i64 n]=some (.bool (decide (0≤n∧n≤109572))):=by
 refine aN abr rfl (abq ..) ?_
 by_cases h:0≤n
 ·by_cases h':n≤109572 <;> simp [IK,h,h']
 ·simp [IK,h]
theorem Ru {y:Nat} (h:y≤1000000):L.call kD [.int .i64 y]=some (.int .i64 (dF y 12)):=by
 have hl:=ZK h
 rw [ahO]
 refine aN YP rfl (YI ..) ?_
 cases hy:leap y <;> rw [hy] at hl <;> simp [Oh,hl]
theorem aiH (y:Nat):dF y 12≤366∧365≤dF y 12:=by rw [ahO]; split <;> omega
theorem ahE {y m d:Nat} (hy:y≤2199):∀ (j k:Nat),k+j=y→1900≤k →
  L.loop [1,4,5] [1,4] mZ 1 [.loc 0 0,.int .i64 (dU k),.int .i64 k] [.live [.int .i64 y,.int .i64 m,.int .i64 d]] =
    some (.exit 0,[.loc 0 0,.int .i64 (dU y)],[.live [.int .i64 y,.int .i64 m,.int .i64 d]]):=by
 intro j
 induction j with
 | zero =>
   intro k hk h1
   have : k=y:=by omega
   subst this
   generalize dU k=B
   refine aO (KF ..) ?_
   simp [CV]
 | succ j ih =>
   intro k hk h1
   have hl:=Ru (y:=k) (by omega)
   have hn:=ih (k+1) (by omega) (by omega)
   have hs:=Aw h1
   have hb:=QC (y:=k) (by omega)
   have hc:=aiH k
   have hlt:k<y:=by omega
   rw [hs] at hn
   generalize dU y=By at *
   generalize dU k=B at *
   generalize dF k 12=l at *
   have e1:IntKind.i64.wrap ((B:Int)+l)=((B+l:Nat):Int):=by rw [wrap64 _ (by omega)]; omega
   have e2:IntKind.i64.wrap ((k:Int)+1)=((k+1:Nat):Int):=by rw [wrap64 _ (by omega)]; omega
   generalize B+l=B2 at *
   generalize k+1=k2 at *
   refine aO (KF ..) ?_
   simp [CV,hl,hlt,e1,e2,hn]
theorem ahF {y m d A:Nat} (hy:y≤2200) (hm:m≤12) (hA:A≤1000000):∀ (j k:Nat),k+j=m→1≤k →
  L.loop [1,4,6] [1,4] m_ 1 [.loc 0 0,.int .i64 ((A+dF y (k-1):Nat):Int),.int .i64 k] [.live [.int .i64 y,.int .i64 m,.int .i64 d]] =
    some (.exit 2,[.loc 0 0,.int .i64 ((A+dF y (m-1):Nat):Int)],[.live [.int .i64 y,.int .i64 m,.int .i64 d]]):=by
 intro j
 induction j with
 | zero =>
   intro k hk h1
   have : k=m:=by omega
   subst this
   generalize A+dF y (k-1)=B
   refine aO (KG ..) ?_
   simp [CW]
 | succ j ih =>
   intro k hk h1
   have hl:=wK (y:=y) (m:=k) (by omega) h1 (by omega)
   have hn:=ih (k+1) (by omega) (by omega)
   have hc:A+dF y (k+1-1)=A+dF y (k-1)+bP y k:=by
    rw [Nat.add_sub_cancel]
    obtain ⟨q,rfl⟩:∃ q,k=q+1:=⟨k-1,by omega⟩
    simp only [dF,Nat.add_sub_cancel]; omega
   rw [hc] at hn
   have hb:=Y0 y (k-1)
   have hb2:=wI y k
   have hlt:k<m:=by omega
   have hBl:A+dF y (k-1)≤1000372:=by omega
   generalize A+dF y (k-1)=B at *
   generalize A+dF y (m-1)=C at *
   generalize bP y k=l at *
   have e1:IntKind.i64.wrap ((B:Int)+l)=((B+l:Nat):Int):=by rw [wrap64 _ (by omega)]; omega
   have e2:IntKind.i64.wrap ((k:Int)+1)=((k+1:Nat):Int):=by rw [wrap64 _ (by omega)]; omega
   generalize B+l=B2 at *
   generalize k+1=k2 at *
   refine aO (KG ..) ?_
   simp (disch:=omega) [CW,hl,hlt,e1,e2,hn]
theorem anA {y m d:Nat} (h1:1900≤y) (h2:y≤2199) (hm:1≤m) (hm2:m≤12) (hd:1≤d) (hd2:d≤bP y m) :
  L.call mF [mV y m d]=some (.aZ [.int .i64 (dayOf y m d),.bool true]):=by
 have hl:=wK (y:=y) (m:=m) (by omega) hm hm2
 have hbb:=QC (y:=y) (by omega)
 have hl1:=ahE (y:=y) (m:=m) (d:=d) h2 (y-1900) 1900 (by omega) (by omega)
 have hl2:=ahF (y:=y) (m:=m) (d:=d) (A:=dU y) (by omega) hm2 (by omega) (m-1) 1 (by omega) (by omega)
 simp only [Nat.sub_self,dF,Nat.add_zero] at hl2
 have hml:=wI y m
 have hcu:=Y0 y (m-1)
 have hC:dayOf y m d=dU y+dF y (m-1)+d-1:=rfl
 rw [show dU 1900=0 from rfl] at hl1
 have g1:¬ (y:Int)<1900:=by omega
 have g2:¬ (2199:Int)<y:=by omega
 have g3:¬ (d:Int)<1:=by omega
 generalize bP y m=l at *
 have g4:¬ (l:Int)<d:=by omega
 have g5:¬ l<d:=by omega
 have g6:¬ 2199<y:=by omega
 generalize hx:dU y+dF y (m-1)=x at *
 generalize dayOf y m d=r at *
 generalize dU y=b at *
 have e1:IntKind.i64.wrap ((x:Int)+d)=((x+d:Nat):Int):=by rw [wrap64 _ (by omega)]; omega
 have e2:IntKind.i64.wrap (((x+d:Nat):Int)-1)=(r:Int):=by rw [wrap64 _ (by omega)]; omega
 generalize x+d=b2 at *
 simp at hl1 hl2
 refine aN Qs rfl (Qm ..) ?_
 unfold mV
 simp (disch:=omega) [BH,hl,g1,g2,g3,g4,g5,g6,e1,e2,hl1,hl2]
theorem alu {y m d:Nat} (h:¬ (1900≤y∧y≤2199)):L.call mF [mV y m d]=some (.aZ [.int .i64 0,.bool false]):=by
 refine aN Qs rfl (Qm ..) ?_
 unfold mV
 by_cases h1:1900≤y
 ·have g1:¬ (y:Int)<1900:=by omega
  have g2:(2199:Int)<y:=by omega
  have g6:2199<y:=by omega
  simp [BH,g1,g2,g6]
 ·have g1:(y:Int)<1900:=by omega
  simp [BH,g1]
end Go.Ev.Code
end
section
namespace Go.Ev.Code
open Go Go.Ev
theorem ae0 {y day:Nat} (hlo:dU y≤day) (hhi:day<dU (y+1)) (hy:y≤2199):∀ (j k:Nat),k+j=y→1900≤k →
  L.loop [0,2,3] [0,2,3] ku 2 [.int .i64 ((day-dU k:Nat):Int),.loc 0 0,.loc 1 0] [.live [.int .i64 0,.int .i64 0,.int .i64 0],.live [.int .i64 k,.int .i64 1,.int .i64 0]] =
    some (.exit 0,[.int .i64 ((day-dU y:Nat):Int),.loc 0 0,.loc 1 0],[.live [.int .i64 0,.int .i64 0,.int .i64 0],.live [.int .i64 y,.int .i64 1,.int .i64 0]]):=by
 intro j
 induction j with
 | zero =>
   intro k hk h1
   have : k=y:=by omega
   subst this
   have hl:=Ru (y:=k) (by omega)
   have hs:=Aw h1
   generalize dU (k+1)=b2 at *
   generalize dU k=b at *
   generalize dF k 12=l at *
   have g:¬ (l:Int)≤((day-b:Nat):Int):=by omega
   have g':¬ l≤day-b:=by omega
   generalize day-b=r at *
   refine aO (F7 ..) ?_
   simp [zB,hl,g,g']
 | succ j ih =>
   intro k hk h1
   have hl:=Ru (y:=k) (by omega)
   have hs:=Aw h1
   have hn:=ih (k+1) (by omega) (by omega)
   have hmo:=KN (x:=k+1) (y:=y) (by omega) (by omega)
   have hbl:=QC (y:=y+1) (by omega)
   rw [hs] at hn hmo
   generalize dU (y+1)=by1 at *
   generalize dU y=by0 at *
   generalize dU k=b at *
   generalize dF k 12=l at *
   have g:(l:Int)≤((day-b:Nat):Int):=by omega
   have g':l≤day-b:=by omega
   have e1:IntKind.i64.wrap (((day-b:Nat):Int)-l)=((day-(b+l):Nat):Int):=by rw [wrap64 _ (by omega)]; omega
   have e2:IntKind.i64.wrap ((k:Int)+1)=((k+1:Nat):Int):=by rw [wrap64 _ (by omega)]; omega
   generalize day-(b+l)=r2 at *
   generalize day-b=r at *
   generalize k+1=k2 at *
   refine aO (F7 ..) ?_
   simp [zB,hl,g,g',e1,e2,hn]
theorem ae1 {y m d:Nat} (h:rD y m d):∀ (j k:Nat),k+j=m→1≤k →
  L.loop [0,2,3] [0,2,3] kC 2 [.int .i64 ((dF y (m-1)+(d-1)-dF y (k-1):Nat):Int),.loc 0 0,.loc 1 0] [.live [.int .i64 0,.int .i64 0,.int .i64 0],.live [.int .i64 y,.int .i64 k,.int .i64 0]] =
    some (.exit 2,[.int .i64 ((d-1:Nat):Int),.loc 0 0,.loc 1 0],[.live [.int .i64 0,.int .i64 0,.int .i64 0],.live [.int .i64 y,.int .i64 m,.int .i64 0]]):=by
 have h1:=h.d1
 have h2:=h.d2
 have h3:=h.m2
 have h4:=h.y2
 have h5:=wI y m
 intro j
 induction j with
 | zero =>
   intro k hk hk1
   have : k=m:=by omega
   subst this
   have hl:=wK (y:=y) (m:=k) (by omega) hk1 h3
   rw [show dF y (k-1)+(d-1)-dF y (k-1)=d-1 by omega]
   generalize bP y k=l at *
   have g:¬ (l:Int)≤((d-1:Nat):Int):=by omega
   have g':¬ l≤d-1:=by omega
   generalize d-1=d1 at *
   refine aO (F8 ..) ?_
   simp (disch:=omega) [zC,hl,g,g']
 | succ j ih =>
   intro k hk hk1
   have hl:=wK (y:=y) (m:=k) (by omega) hk1 (by omega)
   have hn:=ih (k+1) (by omega) (by omega)
   have hc:dF y (k+1-1)=dF y (k-1)+bP y k:=by
    rw [Nat.add_sub_cancel]
    obtain ⟨q,rfl⟩:∃ q,k=q+1:=⟨k-1,by omega⟩
    simp only [dF,Nat.add_sub_cancel]
   have hmo:=QI y (j:=k) (k:=m-1) (by omega)
   rw [Nat.add_sub_cancel] at hc hn
   rw [hc] at hmo hn
   have hub:=Y0 y (m-1)
   have hub2:dF y (m-1)+(d-1)≤1000:=by omega
   have hmo2:dF y (k-1)+bP y k≤dF y (m-1)+(d-1):=by omega
   generalize dF y (m-1)+(d-1)=T at *
   generalize bP y k=l at *
   generalize dF y (k-1)=c at *
   have g:l≤T-c:=by omega
   have g':(l:Int)≤((T-c:Nat):Int):=by omega
   have e1:IntKind.i64.wrap (((T-c:Nat):Int)-l)=((T-(c+l):Nat):Int):=by rw [wrap64 _ (by omega)]; omega
   have e2:IntKind.i64.wrap ((k:Int)+1)=((k+1:Nat):Int):=by rw [wrap64 _ (by omega)]; omega
   generalize T-(c+l)=r2 at *
   generalize T-c=r1 at *
   generalize k+1=k2 at *
   refine aO (F8 ..) ?_
   simp (disch:=omega) [zC,hl,g,g',e1,e2,hn]
theorem H7 {y m d:Nat} (h:rD y m d):L.call iM [.int .i64 (dayOf y m d)]=some (mV y m d):=by
 have hlo:=h.lo
 have hhi:=h.hi
 have hd1:=h.d1
 have hd2:=h.d2
 have hml:=wI y m
 have hy:=h.y2
 have hm2:=h.m2
 have l1:=ae0 hlo hhi hy (y-1900) 1900 (by have := h.y1; omega) (by omega)
 have l2:=ae1 h (m-1) 1 (by have := h.m1; omega) (by omega)
 have hT:dayOf y m d-dU y=dF y (m-1)+(d-1):=by unfold dayOf; omega
 simp only [Nat.sub_self,dF,Nat.sub_zero] at l2
 rw [← hT,show ((1:Nat):Int)=1 from rfl] at l2
 rw [show dU 1900=0 from rfl,Nat.sub_zero] at l1
 generalize dayOf y m d=day at *
 generalize dU y=b at *
 generalize day-b=r at *
 have e4:IntKind.i64.wrap (((d-1:Nat):Int)+1)=(d:Int):=by rw [wrap64 _ (by omega)]; omega
 generalize d-1=dd at *
 simp at l1 l2
 refine aN Ym rfl (Yj ..) ?_
 unfold mV
 simp (disch:=omega) [KJ,l1,l2,e4]
theorem ajQ {y m d:Nat} (h:rD y m d):L.call oC [.int .i64 (dayOf y m d)]=some (.bool (decide (d=bP y m))):=by
 have hc:=H7 h
 have hl:=wK (y:=y) (m:=m) (by have := h.y2; omega) h.m1 h.m2
 generalize dayOf y m d=day at *
 generalize bP y m=l at *
 unfold mV at hc
 refine aN YN rfl (YG ..) ?_
 by_cases hd:d=l
 ·subst hd
  simp [Ec,hc,hl]
 ·have hd':¬ (d:Int)=l:=by omega
  simp [Ec,hc,hl,hd,hd']
end Go.Ev.Code
end
section
namespace Go.Ev.Code
open Go Go.Ev
theorem aqa {st:Bool} {d:Nat}:∀ (N cy cm:Nat),1≤cm→cm≤12→cy+N≤100000 →
  L.loop [1,8,9] [1,8,9] fG 1 [.int .i64 N,.loc 0 0,.bool st] [.live [.int .i64 cy,.int .i64 cm,.int .i64 d]] =
    some (.exit 0,[.int .i64 0,.loc 0 0,.bool st],[.live [.int .i64 (((cy*12+cm-1+N) / 12:Nat):Int),.int .i64 (((cy*12+cm-1+N) % 12+1:Nat):Int),.int .i64 d]]):=by
 intro N
 induction N with
 | zero =>
   intro cy cm h1 h2 h3
   rw [show (cy*12+cm-1+0) / 12=cy by omega,show (cy*12+cm-1+0) % 12+1=cm by omega]
   refine aO (n_ ..) ?_
   simp [kK]
 | succ N ih =>
   intro cy cm h1 h2 h3
   have e1:IntKind.i64.wrap ((cm:Int)+1)=((cm+1:Nat):Int):=by rw [wrap64 _ (by omega)]; omega
   have e2:IntKind.i64.wrap ((cy:Int)+1)=((cy+1:Nat):Int):=by rw [wrap64 _ (by omega)]; omega
   have e3:IntKind.i64.wrap (((N+1:Nat):Int)-1)=(N:Int):=by rw [wrap64 _ (by omega)]; omega
   have g:(0:Int)<((N+1:Nat):Int):=by omega
   have g0:0<N+1:=by omega
   by_cases hc:cm=12
   ·have hn:=ih (cy+1) 1 (by omega) (by omega) (by omega)
    rw [show (cy+1)*12+1-1+N=cy*12+cm-1+(N+1) by omega] at hn
    have g1:(12:Int)<((cm+1:Nat):Int):=by omega
    have g2:12<cm+1:=by omega
    generalize (cy*12+cm-1+(N+1)) / 12=Y at *
    generalize (cy*12+cm-1+(N+1)) % 12+1=M at *
    generalize N+1=N1 at *
    generalize cm+1=c1 at *
    generalize cy+1=y1 at *
    simp only [show ((1:Nat):Int)=1 from rfl] at hn
    refine aO (n_ ..) ?_
    simp [kK,e1,e2,e3,g,g0,g1,g2,hn]
   ·have hn:=ih cy (cm+1) (by omega) (by omega) (by omega)
    rw [show cy*12+(cm+1)-1+N=cy*12+cm-1+(N+1) by omega] at hn
    have g1:¬ (12:Int)<((cm+1:Nat):Int):=by omega
    have g2:¬ 12<cm+1:=by omega
    generalize (cy*12+cm-1+(N+1)) / 12=Y at *
    generalize (cy*12+cm-1+(N+1)) % 12+1=M at *
    generalize N+1=N1 at *
    generalize cm+1=c1 at *
    refine aO (n_ ..) ?_
    simp [kK,e1,e3,g,g0,g1,g2,hn]
theorem aqb {st:Bool} {d cy cm:Nat} {n:Int} (h:n≤0) :
  L.loop [1,8,9] [1,8,9] fG 1 [.int .i64 n,.loc 0 0,.bool st] [.live [.int .i64 cy,.int .i64 cm,.int .i64 d]] =
    some (.exit 0,[.int .i64 n,.loc 0 0,.bool st],[.live [.int .i64 cy,.int .i64 cm,.int .i64 d]]):=by
 have g:¬ (0:Int)<n:=by omega
 refine aO (n_ ..) ?_
 simp [kK,g]
theorem aiu {st:Bool} {d:Nat}:∀ (N cy cm:Nat),1≤cm→cm≤12→N≤cy*12+cm-1→cy≤100000→N≤100000 →
  L.loop [1,8,9] [8,9] gJ 1 [.int .i64 (-(N:Int)),.loc 0 0,.bool st] [.live [.int .i64 cy,.int .i64 cm,.int .i64 d]] =
    some (.exit 2,[.loc 0 0,.bool st],[.live [.int .i64 (((cy*12+cm-1-N) / 12:Nat):Int),.int .i64 (((cy*12+cm-1-N) % 12+1:Nat):Int),.int .i64 d]]):=by
 intro N
 induction N with
 | zero =>
   intro cy cm h1 h2 h3 h4 h5
   rw [show (cy*12+cm-1-0) / 12=cy by omega,show (cy*12+cm-1-0) % 12+1=cm by omega]
   refine aO (tZ ..) ?_
   simp [ou]
 | succ N ih =>
   intro cy cm h1 h2 h3 h4 h5
   have e3:IntKind.i64.wrap (-((N+1:Nat):Int)+1) = -(N:Int):=by rw [wrap64 _ (by omega)]; omega
   have g : -((N+1:Nat):Int)<0:=by omega
   have e1:IntKind.i64.wrap ((cm:Int)-1)=((cm-1:Nat):Int):=by rw [wrap64 _ (by omega)]; omega
   by_cases hc:cm=1
   ·have e2:IntKind.i64.wrap ((cy:Int)-1)=((cy-1:Nat):Int):=by rw [wrap64 _ (by omega)]; omega
    have hn:=ih (cy-1) 12 (by omega) (by omega) (by omega) (by omega) (by omega)
    rw [show (cy-1)*12+12-1-N=cy*12+cm-1-(N+1) by omega] at hn
    have g1:((cm-1:Nat):Int)<1:=by omega
    have g2:cm-1<1:=by omega
    generalize (cy*12+cm-1-(N+1)) / 12=Y at *
    generalize (cy*12+cm-1-(N+1)) % 12+1=M at *
    generalize -((N+1:Nat):Int)=N1 at *
    generalize -(N:Int)=N0 at *
    generalize cm-1=c1 at *
    generalize cy-1=y1 at *
    simp only [show ((12:Nat):Int)=12 from rfl] at hn
    refine aO (tZ ..) ?_
    simp [ou,e1,e2,e3,g,g1,g2,hn]
   ·have hn:=ih cy (cm-1) (by omega) (by omega) (by omega) (by omega) (by omega)
    rw [show cy*12+(cm-1)-1-N=cy*12+cm-1-(N+1) by omega] at hn
    have g1:¬ ((cm-1:Nat):Int)<1:=by omega
    have g2:¬ cm-1<1:=by omega
    have g3:¬ cm-1=0:=by omega
    generalize (cy*12+cm-1-(N+1)) / 12=Y at *
    generalize (cy*12+cm-1-(N+1)) % 12+1=M at *
    generalize -((N+1:Nat):Int)=N1 at *
    generalize -(N:Int)=N0 at *
    generalize cm-1=c1 at *
    refine aO (tZ ..) ?_
    simp [ou,e1,e3,g,g1,g2,g3,hn]
def okD:Option Nat→D
 | some n => .aZ [.int .i64 n,.bool true]
 | none => .aZ [.int .i64 0,.bool false]
theorem Xx {y m d:Nat} (h1:1≤m) (h2:m≤12) (hd:1≤d) (hd2:d≤bP y m):L.call mF [mV y m d]=some (okD (rO y m d)):=by
 unfold rO
 split
 ·rename_i h; exact anA h.1 h.2 h1 h2 hd hd2
 ·rename_i h; exact alu h
theorem aok {y m d y' m':Nat} {n:Int} {e:Bool} (h:rD y m d) (hn1 : -3600≤n) (hn2:n≤3600) (hy':y'≤1000000) (hm1:1≤m') (hm2:m'≤12)
  {k:Int} (hl1:L.loop [1,8,9] [1,8,9] fG 1 [.int .i64 n,.loc 0 0,.bool (e && decide (d=bP y m))] [.live [.int .i64 y,.int .i64 m,.int .i64 d]]=some (.exit 0,[.int .i64 k,.loc 0 0,.bool (e && decide (d=bP y m))],[.live (if k=0 then [.int .i64 y',.int .i64 m',.int .i64 d] else [.int .i64 y,.int .i64 m,.int .i64 d])]))
  (hl2:L.loop [1,8,9] [8,9] gJ 1 [.int .i64 k,.loc 0 0,.bool (e && decide (d=bP y m))] [.live (if k=0 then [.int .i64 y',.int .i64 m',.int .i64 d] else [.int .i64 y,.int .i64 m,.int .i64 d])]=some (.exit 2,[.loc 0 0,.bool (e && decide (d=bP y m))],[.live [.int .i64 y',.int .i64 m',.int .i64 d]])) :
  L.call dY [.int .i64 (dayOf y m d),.int .i64 n,.bool e]=some (okD (rO y' m' (if e=true∧d=bP y m then bP y' m' else min d (bP y' m')))):=by
 have hc:=H7 h
 have hla:=ajQ h
 have his:=Xw (dayOf y m d)
 have hle:=h.le
 rw [decide_eq_true (by omega)] at his
 have hlen:=wK hy' hm1 hm2
 have hpos:=A_ (y:=y') hm1 hm2
 have hd1:=h.d1
 generalize (if k=0 then [D.int .i64 y',.int .i64 m',.int .i64 d] else [D.int .i64 y,.int .i64 m,.int .i64 d])=cells at *
 generalize dayOf y m d=day at *
 have g1:¬ n < -3600:=by omega
 have g2:¬ 3600<n:=by omega
 unfold mV at hc
 by_cases hst:e=true∧d=bP y m
 ·rw [if_pos hst]
  have hof:=Xx (y:=y') (d:=bP y' m') hm1 hm2 (by omega) (Nat.le_refl _)
  obtain ⟨he,hdl⟩:=hst
  rw [decide_eq_true hdl] at hla
  rw [he,decide_eq_true hdl] at hl1 hl2
  subst he
  simp only [Bool.and_self] at hl1 hl2
  generalize bP y' m'=l at *
  unfold mV at hof
  refine aN mM rfl (mJ ..) ?_
  cases hmk:rO y' m' l <;> rw [hmk] at hof <;> simp [okD] at hof <;> simp [fP,his,g1,g2,hc,hla,hl1,hl2,hlen,hof,okD]
 ·rw [if_neg hst]
  have hb:(e && decide (d=bP y m))=false:=by
   cases e <;> simp_all
  rw [hb] at hl1 hl2
  by_cases hdl:bP y' m'<d
  ·have hof:=Xx (y:=y') (d:=bP y' m') hm1 hm2 (by omega) (Nat.le_refl _)
   rw [show min d (bP y' m')=bP y' m' by omega]
   have g3:((bP y' m':Nat):Int)<d:=by omega
   generalize bP y' m'=l at *
   unfold mV at hof
   refine aN mM rfl (mJ ..) ?_
   cases e with
   | false=>cases hmk:rO y' m' l <;> rw [hmk] at hof <;> simp [okD] at hof <;> simp [fP,his,g1,g2,hc,hl1,hl2,hlen,hdl,g3,hof,okD]
   | true =>
     have hdm:¬ d=bP y m:=fun x=>hst ⟨rfl,x⟩
     rw [decide_eq_false hdm] at hla
     cases hmk:rO y' m' l <;> rw [hmk] at hof <;> simp [okD] at hof <;> simp [fP,his,g1,g2,hc,hla,hl1,hl2,hlen,hdl,g3,hof,okD]
  ·have hof:=Xx (y:=y') (d:=d) hm1 hm2 (by omega) (by omega)
   rw [show min d (bP y' m')=d by omega]
   have g3:¬ ((bP y' m':Nat):Int)<d:=by omega
   generalize bP y' m'=l at *
   unfold mV at hof
   refine aN mM rfl (mJ ..) ?_
   cases e with
   | false=>cases hmk:rO y' m' d <;> rw [hmk] at hof <;> simp [okD] at hof <;> simp [fP,his,g1,g2,hc,hl1,hl2,hlen,hdl,g3,hof,okD]
   | true =>
     have hdm:¬ d=bP y m:=fun x=>hst ⟨rfl,x⟩
     rw [decide_eq_false hdm] at hla
     cases hmk:rO y' m' d <;> rw [hmk] at hof <;> simp [okD] at hof <;> simp [fP,his,g1,g2,hc,hla,hl1,hl2,hlen,hdl,g3,hof,okD]
theorem mY (day n:Int) (e:Bool):L.call dY [.int .i64 day,.int .i64 n,.bool e]=some (okD (nO day n e)):=by
 unfold nO
 by_cases hd:bG day
 ·rw [if_pos hd]
  obtain ⟨y,m,d,hc,rfl,ho⟩:=eH hd
  rw [ho]
  unfold Jq
  by_cases hn : -3600≤n∧n≤3600
  ·rw [if_pos hn]
   have y1:=hc.y1
   have y2:=hc.y2
   have m1:=hc.m1
   have m2:=hc.m2
   simp only
   by_cases hs:0≤n
   ·obtain ⟨N,rfl⟩:∃ N:Nat,n=N:=⟨n.toNat,by omega⟩
    rw [show ((((y*12+m-1:Nat):Int)+(N:Int)) / 12).toNat=(y*12+m-1+N) / 12 by omega,show ((((y*12+m-1:Nat):Int)+(N:Int)) % 12).toNat+1=(y*12+m-1+N) % 12+1 by omega]
    have l1:=aqa (st:=e && decide (d=bP y m)) (d:=d) N y m m1 m2 (by omega)
    have l2:=aiu (st:=e && decide (d=bP y m)) (d:=d) 0 ((y*12+m-1+N) / 12) ((y*12+m-1+N) % 12+1) (by omega) (by omega) (by omega) (by omega) (by omega)
    rw [show ((y*12+m-1+N) / 12*12+((y*12+m-1+N) % 12+1)-1-0) / 12=(y*12+m-1+N) / 12 by omega,show ((y*12+m-1+N) / 12*12+((y*12+m-1+N) % 12+1)-1-0) % 12+1=(y*12+m-1+N) % 12+1 by omega] at l2
    exact aok hc hn.1 hn.2 (by omega) (by omega) (by omega) (k:=0) (by simpa using l1) (by simpa using l2)
   ·obtain ⟨N,rfl⟩:∃ N:Nat,n = -(N:Int):=⟨(-n).toNat,by omega⟩
    rw [show ((((y*12+m-1:Nat):Int) + -(N:Int)) / 12).toNat=(y*12+m-1-N) / 12 by omega,show ((((y*12+m-1:Nat):Int) + -(N:Int)) % 12).toNat+1=(y*12+m-1-N) % 12+1 by omega]
    have l1:=aqb (st:=e && decide (d=bP y m)) (d:=d) (cy:=y) (cm:=m) (n := -(N:Int)) (by omega)
    have l2:=aiu (st:=e && decide (d=bP y m)) (d:=d) N y m m1 m2 (by omega) (by omega) (by omega)
    have hk:¬ (-(N:Int))=0:=by omega
    exact aok hc hn.1 hn.2 (by omega) (by omega) (by omega) (k := -(N:Int)) (by rw [if_neg hk]; exact l1) (by rw [if_neg hk]; exact l2)
  ·rw [if_neg hn]
   have his:=Xw (dayOf y m d)
   have hle:=hc.le
   rw [decide_eq_true (by omega)] at his
   generalize dayOf y m d=dd at *
   refine aN mM rfl (mJ ..) ?_
   by_cases h1:n < -3600
   ·simp [fP,his,h1,okD]
   ·have h2:3600<n:=by omega
    simp [fP,his,h1,h2,okD]
 ·rw [if_neg hd]
  have his:=Xw day
  rw [decide_eq_false hd] at his
  refine aN mM rfl (mJ ..) ?_
  simp [fP,his,okD]
end Go.Ev.Code
end
section
namespace Go.Ev.Code
open Go Go.Ev
theorem pX {n k:Int} (hk:0<k) (hk2:k≤1000000):Int.tmod (IntKind.i64.wrap (Int.tmod n k+k)) k=n % k:=by
 have h1:Int.tmod n k=n % k∨Int.tmod n k=n % k-k:=by
  rw [Int.tmod_eq_emod]
  split
  ·left; omega
  ·right
   have : (k.natAbs:Int)=k:=by omega
   omega
 have h2:=Int.emod_nonneg n (show k≠0 by omega)
 have h3:=Int.emod_lt_of_pos n hk
 generalize n % k=r at *
 rw [wrap64 _ (by omega),Int.tmod_eq_emod_of_nonneg (by omega)]
 rcases h1 with h1 | h1
 ·rw [h1,Int.add_emod_right,Int.emod_eq_of_lt h2 h3]
 ·rw [h1,show r-k+k=r by omega,Int.emod_eq_of_lt h2 h3]
theorem QO (n:Int):L.call j_ [.int .i64 n]=some (.int .i64 (n % 109573)):=by
 have h1:Int.tmod n 109573=n % 109573∨Int.tmod n 109573=n % 109573-109573:=by
  rw [Int.tmod_eq_emod]
  split
  ·left; omega
  ·right; simp
 have h2:=Int.emod_nonneg n (show (109573:Int)≠0 by omega)
 have h3:=Int.emod_lt_of_pos n (show (0:Int)<109573 by omega)
 have e1:IntKind.i64.wrap (Int.tmod n 109573)=Int.tmod n 109573:=wrap64 _ (by omega)
 have e2:IntKind.i64.wrap (Int.tmod n 109573+109572)=Int.tmod n 109573+109572:=wrap64 _ (by omega)
 have e3:IntKind.i64.wrap (Int.tmod n 109573+109572+1)=Int.tmod n 109573+109573:=by rw [wrap64 _ (by omega)]; omega
 have e4:=pX (n:=n) (k:=109573) (by omega) (by omega)
 have e5:IntKind.i64.wrap (Int.tmod n 109573+109573)=Int.tmod n 109573+109573:=wrap64 _ (by omega)
 rw [e5] at e4
 have e6:IntKind.i64.wrap (n % 109573)=n % 109573:=wrap64 _ (by omega)
 refine aN YM rfl (YF ..) ?_
 simp [Og,e1,e2,e3,e4,e6]
def five (c:List UInt8) (k:Int):aH:=⟨36524,38351,2,c,[49,48,48],k,0,false,0⟩
theorem OA (c:List UInt8) (k:Int):L.call iL [.str c,.int .i64 k]=some (aT (five c k)):=by
 refine aN Yk rfl (Yh ..) ?_
 simp [KH,five,aT,aQ]
end Go.Ev.Code
end
section
namespace Go.Ev.Code
open Go Go.Ev
def mi (day:Int):Nat:=(lg day.toNat).1*12+(lg day.toNat).2.1
theorem uH {y m d:Nat} (h:rD y m d):mi (dayOf y m d:Nat)=y*12+m:=by
 unfold mi
 rw [show ((dayOf y m d:Nat):Int).toNat=dayOf y m d by omega,WM h]
theorem Un {a:Int} (h:bG a):22801≤mi a∧mi a≤26400:=by
 obtain ⟨y,m,d,hc,rfl,_⟩:=eH h
 rw [uH hc]
 have := hc.y1; have := hc.y2; have := hc.m1; have := hc.m2
 omega
theorem NR {a b:Int} (ha:bG a) (hb:bG b) (h:mi a<mi b):a<b:=by
 obtain ⟨y,m,d,hc,rfl,_⟩:=eH ha
 obtain ⟨y',m',d',hc',rfl,_⟩:=eH hb
 rw [uH hc,uH hc'] at h
 have := AB hc hc' h
 omega
theorem yu {a b:Int} (ha:bG a) (hb:bG b) (h:a≤b):mi a≤mi b:=by
 rcases Nat.lt_or_ge (mi b) (mi a) with h1 | h1
 ·have := NR hb ha h1; omega
 ·exact h1
theorem as6 {a b:Int} (ha:bG a) (hb:bG b) (h:mi a+2≤mi b):a+28<b:=by
 obtain ⟨y,m,d,hc,rfl,_⟩:=eH ha
 obtain ⟨y',m',d',hc',rfl,_⟩:=eH hb
 rw [uH hc,uH hc'] at h
 have a1:=hc.y1; have a2:=hc.m1; have a3:=hc.m2; have a4:=hc'.y2; have a5:=hc'.m1; have a6:=hc'.m2
 have hm1:1≤(y*12+m) % 12+1∧(y*12+m) % 12+1≤12:=by omega
 have hy1:1900≤(y*12+m) / 12∧(y*12+m) / 12≤2199:=by omega
 have hs:(y*12+m) / 12*12+((y*12+m) % 12+1)=y*12+m+1:=by omega
 generalize (y*12+m) % 12+1=m1 at *
 generalize (y*12+m) / 12=y1 at *
 have hp:=A_ (y:=y1) hm1.1 hm1.2
 have c1:rD y1 m1 1:=⟨hy1.1,hy1.2,hm1.1,hm1.2,by omega,by omega⟩
 have c2:rD y1 m1 28:=⟨hy1.1,hy1.2,hm1.1,hm1.2,by omega,by omega⟩
 have h1:=AB hc c1 (by omega)
 have h2:=AB c2 hc' (by omega)
 have h3:dayOf y1 m1 28=dayOf y1 m1 1+27:=by unfold dayOf; omega
 omega
theorem BZ {day n:Int} {e:Bool} {r:Nat} (h:nO day n e=some r):((mi r:Nat):Int)=mi day+n:=by
 obtain ⟨y,m,d,hc,rfl,hs⟩:=WH h
 rw [uH hc]
 exact hs
theorem YR {day n:Int} (e:Bool) (hd:bG day) (h1:22801≤(mi day:Int)+n) (h2:(mi day:Int)+n≤26400):∃ r,nO day n e=some r:=by
 have hb:=Un hd
 obtain ⟨y,m,d,hc,rfl,ho⟩:=eH hd
 rw [uH hc] at h1 h2 hb
 unfold nO Jq
 rw [if_pos hd,ho]
 rw [if_pos (by omega)]
 have a2:=hc.m1
 simp only
 unfold rO
 rw [if_pos (by omega)]
 exact ⟨_,rfl⟩
theorem aew (a b:Int):CP a b=(mi b:Int)-mi a:=rfl
end Go.Ev.Code
end
section
namespace Go.Ev.Code
open Go Go.Ev
abbrev Er:=Option (Int×Option (List UInt8))
def jf:Er→D
 | none => .aG
 | some (c,none)=>zU c
 | some (c,some s)=>gu c s
def aqO:Err→Er
 | none=>none
 | some (c,s)=>some (c,some s)
theorem alT (e:Er) (n:Nat):D.clo n 12 (jf e)=true:=by
 rcases e with _ | ⟨c,_ | s⟩ <;> rfl
def Y2 (a b:Int):Int :=
 360*(((lg b.toNat).1:Int)-(lg a.toNat).1)+30*(((lg b.toNat).2.1:Int)-(lg a.toNat).2.1)+min ((lg b.toNat).2.2:Int) 30-min ((lg a.toNat).2.2:Int) 30
def iR (k a b:Int):Int:=if k=1 then Y2 a b else b-a
theorem YZ {k a b:Int} (ha:bG a) (hb:bG b) : -1000000≤iR k a b∧iR k a b≤1000000:=by
 unfold iR
 split
 ·obtain ⟨y,m,d,hc,hd,ho⟩:=eH ha
  obtain ⟨y',m',d',hc',hd',ho'⟩:=eH hb
  unfold Y2
  rw [ho,ho']
  have := hc.y1; have := hc.y2; have := hc.m1; have := hc.m2; have := hc'.y1; have := hc'.y2; have := hc'.m1; have := hc'.m2
  simp only
  omega
 ·omega
theorem ahr {k a b:Int} (h1:1≤k) (h2:k≤4) (ha:bG a) (hb:bG b):L.call AL [.int .i64 k,.int .i64 a,.int .i64 b]=some (.int .i64 (iR k a b)):=by
 have hm:=QF k
 rw [decide_eq_true ⟨h1,h2⟩] at hm
 obtain ⟨y,m,d,hc,hd,ho⟩:=eH ha
 obtain ⟨y',m',d',hc',hd',ho'⟩:=eH hb
 have c1:=ug hc
 have c2:=ug hc'
 rw [← hd] at c1
 rw [← hd'] at c2
 unfold mV at c1 c2
 unfold iR Y2
 rw [ho,ho']
 simp only
 have a1:=hc.y1; have a2:=hc.y2; have a3:=hc.m1; have a4:=hc.m2
 have b1:=hc'.y1; have b2:=hc'.y2; have b3:=hc'.m1; have b4:=hc'.m2
 refine aN aik rfl (ah' ..) ?_
 by_cases h:k=1
 ·subst h
  have e1:IntKind.i64.wrap ((y':Int)-y)=(y':Int)-y:=wrap64 _ (by omega)
  have e2:IntKind.i64.wrap (360*((y':Int)-y))=360*((y':Int)-y):=wrap64 _ (by omega)
  have e3:IntKind.i64.wrap ((m':Int)-m)=(m':Int)-m:=wrap64 _ (by omega)
  have e4:IntKind.i64.wrap (30*((m':Int)-m))=30*((m':Int)-m):=wrap64 _ (by omega)
  have e5:IntKind.i64.wrap (360*((y':Int)-y)+30*((m':Int)-m))=360*((y':Int)-y)+30*((m':Int)-m):=wrap64 _ (by omega)
  have e6:IntKind.i64.wrap (360*((y':Int)-y)+30*((m':Int)-m)+min (d':Int) 30)=360*((y':Int)-y)+30*((m':Int)-m)+min (d':Int) 30:=wrap64 _ (by omega)
  have e7:IntKind.i64.wrap (360*((y':Int)-y)+30*((m':Int)-m)+min (d':Int) 30-min (d:Int) 30)=360*((y':Int)-y)+30*((m':Int)-m)+min (d':Int) 30-min (d:Int) 30:=wrap64 _ (by omega)
  simp [RI,hm,c1,c2,e1,e2,e3,e4,e5,e6,e7]
 ·have e1:IntKind.i64.wrap (b-a)=b-a:=wrap64 _ (by omega)
  simp [RI,hm,c1,c2,h,e1]
theorem aa1 (n:Int):L.call wO [.int .i64 n]=some (.bool (decide (bG n))):=by
 have h:=Dh n
 have h1 := @acr n
 refine aN aed rfl (ad1 ..) ?_
 generalize Z5 n=w at *
 by_cases hd:bG n
 ·have : 0≤w:=by
   have := fun h=>h1.1 h hd
   omega
  simp [Mc,h,hd,this]
 ·have : ¬ 0≤w:=by have := h1.2 hd; omega
  simp [Mc,h,hd,this]
def JY (k a b:Int):Rat:=Rat.divInt (iR k a b) (if k=3 then 365 else 360)
def FH:Except Int Rat→D
 | .ok q => .aZ [cO q,.aG]
 | .error c => .aZ [.aV,zU c]
theorem ahs {k a b s e f:Int} (h1:1≤k) (h2:k≤3) (ha:bG a) (hb:bG b) (hab:a≤b) :
  L.call uU [.int .i64 k,.int .i64 a,.int .i64 b,.int .i64 s,.int .i64 e,.int .i64 f]=some (.aZ [cO (JY k a b),.aG]):=by
 have hm:=QF k
 rw [decide_eq_true ⟨h1,by omega⟩] at hm
 have i1:=aa1 a
 rw [decide_eq_true ha] at i1
 have i2:=aa1 b
 rw [decide_eq_true hb] at i2
 have hd:=ahr h1 (by omega) ha hb
 have hbd:=YZ (k:=k) ha hb
 have hq:L.call lC [.int .i64 (iR k a b),.int .i64 (if k=3 then 365 else 360)]=some (.aZ [cO (JY k a b),.aG]):=by
  unfold JY
  refine wo (by omega) ?_ ?_
  ·split <;> omega
  ·split <;> omega
 have h4:¬ k=4:=by omega
 have hlt:¬ b<a:=by omega
 generalize JY k a b=q at *
 generalize iR k a b=n at *
 refine aN ail rfl (aia ..) ?_
 by_cases h3:k=3
 ·subst h3
  rw [if_pos rfl] at hq
  simp [RJ,hm,i1,i2,hlt,hd,hq]
 ·rw [if_neg h3] at hq
  simp [RJ,hm,i1,i2,hlt,hd,hq,h3,h4]
def jS (b:aH) (st:Int):Nat→Int→Option (List (Int×Int))
 | 0,_=>some []
 | f+1,e=>if e≤st then some [] else match quasi b e with
   | none=>none
   | some a=>(jS b st f a).map fun l=>((a:Int),e)::l
def vF (b:aH) (p:Int×Int):Option (List (Int×Int)):=jS b p.1 (p.2-p.1).toNat p.2
theorem ady {b:aH} {day:Int} {a:Nat} (h:quasi b day=some a):∃ k,anch b k=some day.toNat∧anch b (k+1)=some a∧0≤day∧b.issue<day:=by
 unfold quasi at h
 split at h
 ·rename_i k hk
  split at h
  ·simp at h
  ·have := U3 hk
   exact ⟨k,this.2.1,h,this.2.2,by omega⟩
 ·simp at h
theorem Xt {b:aH} (hm:months b≠0) {day:Int} {a:Nat} (h:quasi b day=some a):(a:Int)<day∧bG a∧bG day:=by
 obtain ⟨k,h1,h2,h3,_⟩:=ady h
 have := Z_ hm (Nat.lt_succ_self k) h1 h2
 have hd:=WJ h1
 exact ⟨by omega,WJ h2,by rw [Int.toNat_of_nonneg h3] at hd; exact hd⟩
theorem ajM {b:aH} (hm:months b≠0) {st:Int}:∀ {f:Nat} {e:Int} {l:List (Int×Int)},jS b st f e=some l→∀ q∈l,bG q.1∧bG q.2∧q.1<q.2∧q.2≤e
 | 0,e,l,h=>by simp [jS] at h; subst h; simp
 | f+1,e,l,h=>by
   simp only [jS] at h
   split at h
   ·simp at h; subst h; simp
   ·split at h
    ·simp at h
    ·rename_i a ha
     have hq:=Xt hm ha
     cases hl:jS b st f a with
     | none=>rw [hl] at h; simp at h
     | some r =>
       rw [hl] at h
       simp at h
       subst h
       intro q hmem
       rcases List.mem_cons.1 hmem with rfl | hmem
       ·exact ⟨hq.2.1,hq.2.2,hq.1,Int.le_refl _⟩
       ·have := ajM hm hl q hmem
        exact ⟨this.1,this.2.1,this.2.2.1,by omega⟩
theorem af0 {b:aH} (hm:months b≠0) {st:Int}:∀ {f:Nat} {e:Int} {l:List (Int×Int)},bG e→jS b st f e=some l→l.length+22800≤mi e
 | 0,e,l,he,h=>by
   simp [jS] at h; subst h
   have := Un he
   simp; omega
 | f+1,e,l,he,h=>by
   have hb:=Un he
   simp only [jS] at h
   split at h
   ·simp at h; subst h; simp; omega
   ·split at h
    ·simp at h
    ·rename_i a ha
     have hq:=Xt hm ha
     cases hl:jS b st f a with
     | none=>rw [hl] at h; simp at h
     | some r =>
       rw [hl] at h
       simp at h
       subst h
       have ih:=af0 hm hq.2.1 hl
       obtain ⟨k,h1,h2,h3,_⟩:=ady ha
       unfold anch at h1 h2
       have m1:=BZ h1
       have m2:=BZ h2
       rw [Int.toNat_of_nonneg h3] at m1
       have hc:=sN b
       simp only [List.length_cons]
       have : ((k+1:Nat):Int)*months b=(k:Int)*months b+months b:=by rw [Int.natCast_add,Int.add_mul]; simp
       have e1 : -((k+1:Nat):Int)*months b = -((k:Int)*months b)-months b:=by rw [Int.neg_mul,this]; omega
       have e2 : -(k:Int)*months b = -((k:Int)*months b):=Int.neg_mul ..
       rw [e1] at m2
       rw [e2] at m1
       generalize (k:Int)*months b=z at *
       omega
theorem sG (b:aH) (k n:Nat):(aQ b).all (D.clo k (n+1))=true:=by obtain ⟨i,m,f,c,rd,n,s,e,ex⟩:=b; simp [aQ]
theorem alq {b:aH} (hchk:chk b=none) (hc:b.dX.length≤1000000) (hr:b.dV.length≤1000000) (p1 p2:Int):∀ (f:Nat) (e:Int) (acc:List (Int×Int)),(e-p1).toNat≤f→acc≠[]→acc.length+f≤1000000 →
  (∀ l,jS b p1 f e=some l→L.loop [2,3,6,7] [4,5,6] iE 2 [.loc 0 0,.loc 1 0,.bf 2 0 acc.length 2,.int .i64 e] [.live (aQ b),.live [.int .i64 p1,.int .i64 p2],.live (bK acc)] =
   some (.exit 0,[.undef,.undef,.bf 2 0 (acc++l).length 2],[.live (aQ b),.live [.int .i64 p1,.int .i64 p2],.live (bK (acc++l))])) ∧
  (jS b p1 f e=none→∃ x m,L.loop [2,3,6,7] [4,5,6] iE 2 [.loc 0 0,.loc 1 0,.bf 2 0 acc.length 2,.int .i64 e] [.live (aQ b),.live [.int .i64 p1,.int .i64 p2],.live (bK acc)] =
   some (.ret,[.cu,zU 4,x],m)):=by
 intro f
 induction f with
 | zero =>
   intro e acc hf hne hal
   have hpc:=gX acc 2 11
   have hbc:=iq b 2
   have he:¬ p1<e:=by omega
   simp only [jS]
   refine ⟨fun l hl=>?_,fun h=>by simp at h⟩
   simp at hl
   subst hl
   rw [List.append_nil]
   generalize bK acc=pc at *
   generalize aQ b=B at *
   refine aO (qQ ..) ?_
   simp [oD,he,hpc,hbc]
 | succ f ih =>
   intro e acc hf hne hal
   have hpc:=gX acc 2 11
   have hbc:=iq b 2
   have hpl:=Bj acc
   simp only [jS]
   by_cases he:e≤p1
   ·rw [if_pos he]
    have he':¬ p1<e:=by omega
    refine ⟨fun l hl=>?_,fun h=>by simp at h⟩
    simp at hl
    subst hl
    rw [List.append_nil]
    generalize bK acc=pc at *
    generalize aQ b=B at *
    refine aO (qQ ..) ?_
    simp [oD,he',hpc,hbc]
   ·rw [if_neg he]
    have he':p1<e:=by omega
    have hq:=HY hc hr e
    unfold ab9 at hq
    rw [hchk] at hq
    simp only at hq
    cases hqe:quasi b e with
    | none =>
      simp only
      rw [hqe] at hq
      simp [lM] at hq
      refine ⟨fun l hl=>by simp at hl,fun _=>⟨.bf 2 0 acc.length 2,[.live (aQ b),.live [.int .i64 p1,.int .i64 p2],.live (bK acc)],?_⟩⟩
      unfold aT at hq
      have hbl:=sH b
      have hbd:=sG b 0 10
      generalize bK acc=pc at *
      generalize aQ b=B at *
      have htk:B.take 9=B:=List.take_of_length_le (by omega)
      refine aO (qQ ..) ?_
      simp [oD,he',hpc,hbc,hbl,hbd,htk,hq]
    | some a =>
      simp only
      rw [hqe] at hq
      simp [lM] at hq
      have hlt:=Xt (dH hchk).2.1 hqe
      have hn:=ih a (acc++[((a:Int),e)]) (by omega) (by simp) (by simp; omega)
      rw [ab6,show bK [((a:Int),e)]=[.int .i64 a,.int .i64 e] from rfl,List.length_append,List.length_singleton] at hn
      have htk:(bK acc).take (acc.length*2)=bK acc:=List.take_of_length_le (by omega)
      have hlen:acc.length+1≤4294967296:=by omega
      have hstep:∀ r,L.loop [2,3,6,7] [4,5,6] iE 2 [.loc 0 0,.loc 1 0,.bf 2 0 (acc.length+1) 2,.int .i64 a] [.live (aQ b),.live [.int .i64 p1,.int .i64 p2],.live (bK acc++[.int .i64 a,.int .i64 e])]=some r →
        L.loop [2,3,6,7] [4,5,6] iE 2 [.loc 0 0,.loc 1 0,.bf 2 0 acc.length 2,.int .i64 e] [.live (aQ b),.live [.int .i64 p1,.int .i64 p2],.live (bK acc)]=some r:=by
       intro r hr
       unfold aT at hq
       have hbl:=sH b
       have hbd:=sG b 0 10
       generalize bK acc=pc at *
       generalize aQ b=B at *
       have htkB:B.take 9=B:=List.take_of_length_le (by omega)
       generalize acc.length=A at *
       refine aO (qQ ..) ?_
       simp [oD,he',hpc,hbc,hbl,hbd,htkB,hq,oO,htk,hlen,hpl,hr]
      refine ⟨fun l hl=>?_,fun h=>?_⟩
      ·cases hl2:jS b p1 f a with
       | none=>rw [hl2] at hl; simp at hl
       | some r =>
         rw [hl2] at hl
         simp at hl
         subst hl
         have := hn.1 r hl2
         rw [List.append_assoc] at this
         exact hstep _ this
      ·cases hl2:jS b p1 f a with
       | some r=>rw [hl2] at h; simp at h
       | none =>
         obtain ⟨x,m,hx⟩:=hn.2 hl2
         exact ⟨x,m,hstep _ hx⟩
def aar:Option (List (Int×Int))→D
 | some l => .aZ [f_ l,.aG]
 | none => .aZ [.sl 0 [],zU 4]
theorem aeH {b:aH} (hchk:chk b=none) (hc:b.dX.length≤1000000) (hr:b.dV.length≤1000000) {p:Int×Int} (hlt:p.1<p.2) (hle:p.2-p.1≤900000) :
  L.call zk [aT b,pD p]=some (aar (vF b p)):=by
 obtain ⟨p1,p2⟩:=p
 simp only at hlt hle
 obtain ⟨f,hf⟩:∃ f,(p2-p1).toNat=f+1:=⟨(p2-p1).toNat-1,by omega⟩
 have hq:=HY hc hr p2
 unfold ab9 at hq
 rw [hchk] at hq
 simp only at hq
 have hbc:=iq b 2
 have hbl:=sH b
 have hbd:=sG b 0 10
 have hnle:¬ p2≤p1:=by omega
 unfold vF pD
 simp only
 rw [hf]
 simp only [jS]
 rw [if_neg hnle]
 cases hqe:quasi b p2 with
 | none =>
   rw [hqe] at hq
   simp [lM] at hq
   simp only [aar]
   unfold aT at hq ⊢
   generalize aQ b=B at *
   have htkB:B.take 9=B:=List.take_of_length_le (by omega)
   have hl:L.loop [2,3,6,7] [4,5,6] iE 2 [.loc 0 0,.loc 1 0,.cu,.int .i64 p2] [.live B,.live [.int .i64 p1,.int .i64 p2]]=some (.ret,[.cu,zU 4,.cu],[.live B,.live [.int .i64 p1,.int .i64 p2]]):=by
    refine aO (qQ ..) ?_
    simp [oD,hlt,hbc,hbl,hbd,htkB,hq]
   refine aN Ou rfl (Om ..) ?_
   simp [H9,hl]
 | some a =>
   rw [hqe] at hq
   simp [lM] at hq
   simp only
   have hqlt:=Xt (dH hchk).2.1 hqe
   have hn:=alq hchk hc hr p1 p2 f a [((a:Int),p2)] (by omega) (by simp) (by simp; omega)
   rw [show bK [((a:Int),p2)]=[.int .i64 a,.int .i64 p2] from rfl,List.length_singleton] at hn
   have hstep:∀ r,L.loop [2,3,6,7] [4,5,6] iE 2 [.loc 0 0,.loc 1 0,.bf 2 0 1 2,.int .i64 a] [.live (aQ b),.live [.int .i64 p1,.int .i64 p2],.live [.int .i64 a,.int .i64 p2]]=some r →
     L.loop [2,3,6,7] [4,5,6] iE 2 [.loc 0 0,.loc 1 0,.cu,.int .i64 p2] [.live (aQ b),.live [.int .i64 p1,.int .i64 p2]]=some r:=by
    intro r hr
    unfold aT at hq
    generalize aQ b=B at *
    have htkB:B.take 9=B:=List.take_of_length_le (by omega)
    refine aO (qQ ..) ?_
    simp [oD,hlt,hbc,hbl,hbd,htkB,hq,oO,hr]
   cases hl2:jS b p1 f a with
   | none =>
     obtain ⟨x,m,hx⟩:=hn.2 hl2
     have := hstep _ hx
     simp only [aar,Option.map_none]
     unfold aT
     generalize aQ b=B at *
     refine aN Ou rfl (Om ..) ?_
     simp [H9,this]
   | some r =>
     have := hstep _ (hn.1 r hl2)
     simp only [aar,Option.map_some,f_]
     rw [show [((a:Int),p2)]++r=((a:Int),p2)::r from rfl] at this
     have hcl:=gX (((a:Int),p2)::r) 0 11
     have hlen:=Bj (((a:Int),p2)::r)
     have hfz:∀ m,jE (fz 10) (bK (((a:Int),p2)::r)) m=some (bK (((a:Int),p2)::r),m):=fun m=>Ii _ 9 m
     have htk:(bK (((a:Int),p2)::r)).take ((((a:Int),p2)::r).length*2)=bK (((a:Int),p2)::r):=List.take_of_length_le (by omega)
     unfold aT
     generalize aQ b=B at *
     generalize bK (((a:Int),p2)::r)=pc at *
     generalize (((a:Int),p2)::r).length=K at *
     refine aN Ou rfl (Om ..) ?_
     simp [H9,this,hcl,hfz,hlen,htk]
end Go.Ev.Code
end
section
namespace Go.Ev.Code
open Go Go.Ev
def CU (dA x y:Int) (q:Int×Int):Rat:=Rat.divInt (max (min y q.2-max x q.1) 0) (dA*(q.2-q.1))
def sumF (dA x y:Int):Rat→List (Int×Int)→Rat
 | s,[]=>s
 | s,q::r=>sumF dA x y (s+CU dA x y q) r
abbrev tY (f:Int):Prop:=f=1∨f=2∨f=4∨f=12
theorem eG {b:aH} (h:months b≠0):tY b.dA:=by
 unfold months at h
 split at h
 ·left; assumption
 ·split at h
  ·right; left; assumption
  ·split at h
   ·right; right; left; assumption
   ·split at h
    ·right; right; right; assumption
    ·simp at h
structure QOk (q:Int×Int):Prop where
 d1:bG q.1
 d2:bG q.2
 lt:q.1<q.2
theorem tY.mul {f a:Int} (hf:tY f) (h1:1≤a) (h2:a≤200000):1≤f*a∧f*a≤2400000:=by
 rcases hf with rfl | rfl | rfl | rfl <;> omega
theorem aeW {f x y:Int} {q:Int×Int} (hf:tY f) (hq:QOk q):RB 64 (CU f x y q):=by
 have h1:=hq.d1; have h2:=hq.d2; have h3:=hq.lt
 have hm:=hf.mul (a:=q.2-q.1) (by omega) (by omega)
 unfold CU
 exact jX (gG (by omega)) (gG (by omega)) (by omega)
theorem amn {f x y:Int} (hf:tY f):∀ {l:List (Int×Int)} {s:Rat} {j:Nat},(∀ q∈l,QOk q)→RB j s→RB (j+65*l.length) (sumF f x y s l)
 | [],s,j,hl,hs=>by simpa [sumF] using hs
 | q::r,s,j,hl,hs=>by
   have := amn (x:=x) (y:=y) hf (l:=r) (s:=s+CU f x y q) (j:=j+64+1) (fun q hq=>hl q (List.mem_cons_of_mem _ hq)) (hs.add (aeW hf (hl q (by simp))))
   simp only [sumF]
   exact this.mono (by simp; omega)
theorem apj {b:aH} (hf:tY b.dA) {p1 p2 x y:Int} (hx:p1≤x) (hxy:x≤y) (hy:y≤p2) (d1:bG p1) (d2:bG p2) (all:List (Int×Int)) (hall:∀ q∈all,QOk q) (hlen:all.length≤4000) :
  ∀ (l pre:List (Int×Int)) (s:Rat) (j:Nat),all=pre++l→RB j s→j+65*l.length≤600000 →
    L.loop [2,3,4,14,77,78,79] [14] wS 2 [.int .i64 x,.int .i64 y,.loc 0 0,cO s,f_ all,.int .i64 all.length,.int .i64 pre.length] [.live (aQ b),.live [.int .i64 p1,.int .i64 p2]] =
      some (.exit 0,[cO (sumF b.dA x y s l)],[.live (aQ b),.live [.int .i64 p1,.int .i64 p2]]):=by
 have hbc:=iq b 2
 have hpcc:=gX all 2 11
 intro l
 induction l with
 | nil =>
   intro pre s j hal hs hj
   rw [List.append_nil] at hal
   subst hal
   unfold f_
   simp only [sumF]
   generalize aQ b=B at *
   generalize bK all=pc at *
   generalize all.length=n at *
   refine aO (Vm ..) ?_
   simp [MB,hbc]
 | cons q r ih =>
   intro pre s j hal hs hj
   have hq:=hall q (by rw [hal]; simp)
   have hn:=ih (pre++[q]) (s+CU b.dA x y q) (j+64+1) (by rw [hal]; simp) (hs.add (aeW hf hq)) (by simp at hj ⊢; omega)
   rw [List.length_append,List.length_singleton,show ((pre.length+1:Nat):Int)=(pre.length:Int)+1 by omega] at hn
   simp only [sumF]
   have hg:=um (ps:=all) (i:=pre.length) (p:=q) (by rw [hal]; simp)
   have hlt:pre.length<all.length:=by rw [hal]; simp
   have a1:=hq.d1; have a2:=hq.d2; have a3:=hq.lt
   have hm:=hf.mul (a:=q.2-q.1) (by omega) (by omega)
   have hadd:=Bo hs (aeW (x:=x) (y:=y) hf hq) (by omega)
   have hof:L.call lC [.int .i64 (max (min y q.2-max x q.1) 0),.int .i64 (b.dA*(q.2-q.1))]=some (.aZ [cO (CU b.dA x y q),.aG]):=by
    unfold CU
    exact wo (by omega) (by omega) (by omega)
   have e1:IntKind.i64.wrap (min y q.2-max x q.1)=min y q.2-max x q.1:=wrap64 _ (by omega)
   have e2:IntKind.i64.wrap (q.2-q.1)=q.2-q.1:=wrap64 _ (by omega)
   have e3:IntKind.i64.wrap (b.dA*(q.2-q.1))=b.dA*(q.2-q.1):=wrap64 _ (by omega)
   have e4:IntKind.i64.wrap ((pre.length:Int)+1)=(pre.length:Int)+1:=wrap64 _ (by omega)
   generalize sumF b.dA x y (s+CU b.dA x y q) r=res at *
   generalize s+CU b.dA x y q=s2 at *
   generalize CU b.dA x y q=qq at *
   obtain ⟨q1,q2⟩:=q
   simp only at *
   unfold f_ at *
   obtain ⟨g1,g2,g3,g4⟩:=hg
   generalize bK all=pc at *
   generalize all.length=N at *
   generalize pre.length=P at *
   have hltI:(P:Int)<N:=by omega
   obtain ⟨i,m,fq,c,rd,n,st,e,ex⟩:=b
   unfold aQ at *
   simp only at *
   refine aO (Vm ..) ?_
   simp [MB,hlt,hltI,g1,g2,g3,g4,e1,e2,e3,e4,hof,hadd,hn]
def og (b:aH) (p:Int×Int) (x y:Int):Except Int Rat :=
 if b.count=4 then match vF b p with
  | none => .error 4
  | some l=>if x<p.1∨y<x∨p.2<y then .error 6 else .ok (sumF b.dA x y (Rat.divInt 0 1) l)
 else if x<p.1∨y<x∨p.2<y then .error 6 else .ok (JY b.count x y)
theorem aaz:RB 64 (Rat.divInt 0 1):=jX (gG (by omega)) (gG (by omega)) (by omega)
theorem gZ {b:aH} (h:(aS b).1=none):chk b=none:=(fO h).1
theorem aor {b:aH} (h:chk b=none):1≤b.count∧b.count≤4:=by
 unfold chk at h
 split at h <;> try (simp at h; done)
 split at h <;> try (simp at h; done)
 split at h <;> try (simp at h; done)
 split at h <;> try (simp at h; done)
 rename_i h1
 exact Classical.not_not.1 h1
theorem E5 {b:aH} (hchk:chk b=none) {p:Int×Int} (d2:bG p.2) {l:List (Int×Int)} (h:vF b p=some l):(∀ q∈l,QOk q)∧l.length≤3600:=by
 have hm:=(dH hchk).2.1
 have hb:=Un d2
 refine ⟨fun q hq=>?_,?_⟩
 ·have := ajM hm h q hq
  exact ⟨this.1,this.2.1,this.2.2.1⟩
 ·have := af0 hm d2 h; omega
set_option maxHeartbeats 1000000 in
theorem JK {b:aH} (hp:(aS b).1=none) (hc:b.dX.length≤1000000) (hr:b.dV.length≤1000000) {p:Int×Int} (d1:bG p.1) (d2:bG p.2) (hlt:p.1<p.2) (x y:Int) :
  L.call vT [aT b,pD p,.int .i64 x,.int .i64 y]=some (FH (og b p x y)):=by
 have hchk:=gZ hp
 have hpl:=yR hc hr
 have hcl:=gX (aS b).2 0 11
 have hqs:=aeH hchk hc hr hlt (by omega)
 have hf:=eG (dH hchk).2.1
 have hcnt:=aor hchk
 have hok:=fun {l} h=>E5 (l:=l) hchk d2 h
 have hz:L.call lC [.int .i64 0,.int .i64 1]=some (.aZ [cO (Rat.divInt 0 1),.aG]):=wo (by omega) (by omega) (by omega)
 unfold vw at hpl
 rw [hp] at hpl
 simp only [eY] at hpl
 have hloop:=fun l hx hxy hy hall=>apj (b:=b) hf (p1:=p.1) (p2:=p.2) (x:=x) (y:=y) hx hxy hy d1 d2 l hall
 obtain ⟨p1,p2⟩:=p
 unfold pD at *
 simp only at *
 unfold f_ at hpl
 generalize (aS b).2.length=pn at *
 generalize bK (aS b).2=pc at *
 unfold og
 simp only
 have hbad:x<p1∨y<x∨p2<y∨(p1≤x∧x≤y∧y≤p2):=by omega
 by_cases hk:b.count=4
 ·rw [if_pos hk]
  cases hq:vF b (p1,p2) with
  | none =>
    rw [hq] at hqs
    simp only [aar] at hqs
    obtain ⟨i,m,fq,c,rd,n,st,e,ex⟩:=b
    unfold aT aQ at *
    simp only at *
    subst hk
    refine aN UM rfl (UL ..) ?_
    simp [pF,hpl,hqs,FH]
  | some l =>
    rw [hq] at hqs
    simp only [aar] at hqs
    obtain ⟨hall,hll⟩:=hok hq
    simp only
    have hlp:=fun h1 h2 h3=>hloop l h1 h2 h3 hall (by omega) l [] (Rat.divInt 0 1) 64 rfl aaz (by omega)
    have hlc:=gX l 0 11
    simp only [List.length_nil] at hlp
    unfold f_ at *
    generalize bK l=lc at *
    generalize l.length=ln at *
    generalize Rat.divInt 0 1=z at *
    generalize sumF b.dA x y z l=res at *
    obtain ⟨i,m,fq,c,rd,n,st,e,ex⟩:=b
    unfold aT aQ at *
    simp only at *
    subst hk
    refine aN UM rfl (UL ..) ?_
    by_cases h1:x<p1
    ·rw [if_pos (.inl h1)]
     simp [pF,hpl,hqs,h1,bT,FH]
    by_cases h2:y<x
    ·rw [if_pos (.inr (.inl h2))]
     simp [pF,hpl,hqs,h1,h2,bT,FH]
    by_cases h3:p2<y
    ·rw [if_pos (.inr (.inr h3))]
     simp [pF,hpl,hqs,h1,h2,h3,bT,FH]
    ·rw [if_neg (by omega)]
     have := hlp (by omega) (by omega) (by omega)
     simp at this
     simp [pF,hpl,hqs,h1,h2,h3,hz,this,FH]
 ·rw [if_neg hk]
  have hcp:¬ (x<p1∨y<x∨p2<y)→∀ s e f,L.call uU [.int .i64 b.count,.int .i64 x,.int .i64 y,.int .i64 s,.int .i64 e,.int .i64 f]=some (.aZ [cO (JY b.count x y),.aG]) :=
   fun h s e f=>ahs (by omega) (by omega) (by omega) (by omega) (by omega)
  generalize JY b.count x y=res at *
  obtain ⟨i,m,fq,c,rd,n,st,e,ex⟩:=b
  unfold aT aQ at *
  simp only at *
  refine aN UM rfl (UL ..) ?_
  by_cases h1:x<p1
  ·rw [if_pos (.inl h1)]
   simp [pF,hpl,hk,h1,bT,FH]
  by_cases h2:y<x
  ·rw [if_pos (.inr (.inl h2))]
   simp [pF,hpl,hk,h1,h2,bT,FH]
  by_cases h3:p2<y
  ·rw [if_pos (.inr (.inr h3))]
   simp [pF,hpl,hk,h1,h2,h3,bT,FH]
  ·rw [if_neg (by omega)]
   have := hcp (by omega) p1 p2 fq
   simp [pF,hpl,hk,h1,h2,h3,this,FH]
theorem Rn {b:aH} (hchk:chk b=none) {p:Int×Int} (d1:bG p.1) (d2:bG p.2) {x y:Int} {q:Rat} (h:og b p x y = .ok q) {n:Nat} (hn:∀ l,vF b p=some l→l.length≤n):RB (64+65*n) q:=by
 have hf:=eG (dH hchk).2.1
 unfold og at h
 split at h
 ·split at h
  ·simp at h
  ·rename_i l hl
   split at h
   ·simp at h
   ·simp at h
    subst h
    exact (amn hf (E5 hchk d2 hl).1 aaz).mono (by have := hn l hl; omega)
 ·split at h
  ·simp at h
  ·rename_i hxy
   simp at h
   subst h
   unfold JY
   have := YZ (k:=b.count) (a:=x) (b:=y) (by omega) (by omega)
   refine (jX (k:=64) (gG (by omega)) (gG ?_) ?_).mono (by omega)
   ·split <;> omega
   ·split <;> omega
def fF (b:aH):Rat:=qh b*Rat.divInt 1 b.dA
theorem QG (b:aH):RB 400 (qh b):=by
 unfold qh
 have hq:RB 400 q0:=aaz.mono (by omega)
 split
 ·exact hq
 ·split
  ·rename_i h; exact (WQ h).1
  ·exact hq
theorem Rt (b:aH):RB 400 (fZ b):=by
 unfold fZ
 have hq:RB 400 q0:=aaz.mono (by omega)
 split
 ·exact hq
 ·split
  ·rename_i h; exact (WQ h).1
  ·exact hq
theorem ac' {f:Int} (hf:tY f):RB 64 (Rat.divInt 1 f):=jX (gG (by omega)) (gG (by omega)) (by omega)
theorem UA {b:aH} (hf:tY b.dA):RB 464 (fF b):=(QG b).mul (ac' hf)
theorem Uj {b:aH} (hf:tY b.dA) (hc:b.dX.length≤1000000) (hr:b.dV.length≤1000000):L.call sJ [aT b]=some (cO (fF b)):=by
 have h1:=En hc hr
 have h2:L.call lC [.int .i64 1,.int .i64 b.dA]=some (.aZ [cO (Rat.divInt 1 b.dA),.aG]):=wo (by omega) (by omega) (by omega)
 have h3:=yV (QG b) (ac' hf) (by omega)
 unfold fF
 generalize qh b*Rat.divInt 1 b.dA=r at *
 generalize Rat.divInt 1 b.dA=v at *
 generalize qh b=q at *
 obtain ⟨i,m,fq,c,rd,n,st,e,ex⟩:=b
 unfold aT aQ at *
 simp only at *
 refine aN aef rfl (ad3 ..) ?_
 simp [V6,h1,h2,h3]
def xW (b:aH) (p:Int×Int):Except Int Rat:=if regular b p=true then .ok (fF b) else match og b p p.1 p.2 with
 | .ok q => .ok (qh b*q)
 | .error c => .error c
theorem aan {b:aH} (hchk:chk b=none) {p:Int×Int} (d1:bG p.1) (d2:bG p.2) {q:Rat} (h:xW b p = .ok q) {n:Nat} (hn:∀ l,vF b p=some l→l.length≤n):RB (464+65*n) q:=by
 have hf:=eG (dH hchk).2.1
 unfold xW at h
 split at h
 ·simp at h; subst h; exact (UA hf).mono (by omega)
 ·split at h
  ·rename_i v hv
   simp at h; subst h
   exact ((QG b).mul (Rn hchk d1 d2 hv hn)).mono (by omega)
  ·simp at h
theorem Nv {b:aH} (hp:(aS b).1=none) (hc:b.dX.length≤1000000) (hr:b.dV.length≤1000000) {p:Int×Int} (d1:bG p.1) (d2:bG p.2) (hlt:p.1<p.2):L.call uj [aT b,pD p]=some (FH (xW b p)):=by
 have hchk:=gZ hp
 have hf:=eG (dH hchk).2.1
 have hpl:=yR hc hr
 have hreg:=Dq hc hr p
 have hpart:=JK hp hc hr d1 d2 hlt p.1 p.2
 have hrp:=Uj hf hc hr
 have hcp:=En hc hr
 have hcl:=gX (aS b).2 0 11
 have hmul:=fun {q} h=>yV (QG b) (Rn hchk d1 d2 (q:=q) (x:=p.1) (y:=p.2) h (n:=3600) (fun l hl=>(E5 hchk d2 hl).2)) (by omega)
 unfold vw at hpl
 rw [hp] at hpl
 simp only [eY] at hpl
 unfold f_ at hpl
 generalize (aS b).2.length=pn at *
 generalize bK (aS b).2=pc at *
 unfold xW
 obtain ⟨p1,p2⟩:=p
 unfold pD at *
 simp only at *
 generalize og b (p1,p2) p1 p2=pr at *
 generalize regular b (p1,p2)=rg at *
 generalize fF b=rp at *
 generalize qh b=cq at *
 obtain ⟨i,m,fq,c,rd,n,st,e,ex⟩:=b
 unfold aT aQ at *
 simp only at *
 refine aN amI rfl (amB ..) ?_
 cases rg with
 | true=>simp [PN,hpl,hreg,hrp,FH]
 | false =>
   cases pr with
   | error c=>simp [FH] at hpart; simp [PN,hpl,hreg,hpart,FH]
   | ok q =>
     have hmul:=hmul rfl
     simp only [FH] at hpart
     simp [PN,hpl,hreg,hpart,hcp,hmul,FH]
end Go.Ev.Code
end
