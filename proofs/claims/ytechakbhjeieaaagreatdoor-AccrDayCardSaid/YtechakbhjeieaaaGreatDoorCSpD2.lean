/- Part of accrDay_card. -/
import Derived.Test.YtechakbhjeieaaaGreatDoorCSpD1
set_option linter.unusedVariables false
set_option linter.unusedSimpArgs false
section
namespace Go.Ev.Code
open Go Go.Ev
theorem adT:∀ (l:List Nat) (f:Int) (i:Nat),i<l.length→(dZ f l)[i]?=some (if i=0 then f else ((l[i-1]?.getD 0:Nat):Int),((l[i]?.getD 0:Nat):Int))
 | [],_,i,h=>by simp at h
 | d::ds,f,0,h=>by simp [dZ]
 | d::ds,f,i+1,h=>by
   have h':i<ds.length:=by simpa using h
   have := adT ds d i h'
   simp only [dZ,List.getElem?_cons_succ,this,Nat.add_sub_cancel]
   cases i with
   | zero=>simp
   | succ j=>simp
structure Whole (b:aQ) (ps:List (Int×Int)):Prop where
 ne:ps≠[]
 first:∀ p:Int×Int,ps[0]?=some p→p.1=b.issue
 last:∀ p:Int×Int,ps[ps.length-1]?=some p→p.2=b.b_
 len:ps.length≤200
 ord:∀ (i:Nat) (p:Int×Int),ps[i]?=some p→p.1<p.2
 next : ∀ (i:Nat) (p q:Int×Int),ps[i]?=some q→ps[i+1]?=some p→p.1=q.2∧regular b p=true
 stub:b.stub=0→∀ p:Int×Int,ps[0]?=some p→regular b p=true
theorem y9 {b:aQ} {i:Nat} (h:i<bT b):(dW b)[i]?=some (if i=0 then b.issue else (((anch b (bT b-i)).getD 0:Nat):Int),(((anch b (bT b-1-i)).getD 0:Nat):Int)):=by
 unfold dW
 have hl:=qU b (bT b)
 rw [adT _ _ _ (by rw [List.length_reverse,hl]; exact h)]
 have hg:∀ j,j<bT b→(eH b (bT b)).reverse[j]?=some ((anch b (bT b-1-j)).getD 0):=by
  intro j hj
  rw [List.getElem?_reverse (by rw [hl]; exact hj),hl]
  simp [eH,List.getElem?_range,show bT b-1-j<bT b by omega]
 rw [hg i h,Option.getD_some]
 by_cases h0:i=0
 ·simp [h0]
 ·rw [if_neg h0,if_neg h0,hg (i-1) (by omega),Option.getD_some,show bT b-1-(i-1)=bT b-i by omega]
theorem qA {b:aQ} (hchk:chk b=none) {k:Nat} (hk:k<bT b):∃ a,anch b k=some a∧b.issue<(a:Int)∧(k+1<bT b→∃ c,anch b (k+1)=some c∧c<a):=by
 have hm:=(dX hchk).2.1
 obtain ⟨g1,g2,g3⟩:=Ht hm
 obtain ⟨a,ha,hai⟩:=g1 k hk
 refine ⟨a,ha,hai,fun hk2=>?_⟩
 obtain ⟨c,hc,_⟩:=g1 (k+1) hk2
 exact ⟨c,hc,aaJ hm (Nat.lt_succ_self k) ha hc⟩
theorem amw {b:aQ} (hchk:chk b=none) {i:Nat} {p:Int×Int} (h:(dW b)[i]?=some p):p.1<p.2∧b.issue<p.2:=by
 have hl:i<bT b:=by rw [← uG]; exact (List.getElem?_eq_some_iff.1 h).1
 rw [y9 hl] at h
 simp at h
 subst h
 obtain ⟨a,ha,hai,hn⟩:=qA hchk (k:=bT b-1-i) (by omega)
 simp only [ha,Option.getD_some]
 by_cases h0:i=0
 ·rw [if_pos h0]; exact ⟨hai,hai⟩
 ·rw [if_neg h0]
  obtain ⟨c,hc,hca⟩:=hn (by omega)
  rw [show bT b-i=bT b-1-i+1 by omega,hc,Option.getD_some]
  exact ⟨by omega,hai⟩
theorem arP {b:aQ} (hchk:chk b=none) {i:Nat} {p q:Int×Int} (hq:(dW b)[i]?=some q) (hp:(dW b)[i+1]?=some p):p.1=q.2∧regular b p=true:=by
 have hl:i+1<bT b:=by rw [← uG]; exact (List.getElem?_eq_some_iff.1 hp).1
 rw [y9 (by omega)] at hq
 rw [y9 hl] at hp
 simp at hq hp
 obtain ⟨a,ha,hai,hn⟩:=qA hchk (k:=bT b-1-(i+1)) (by omega)
 obtain ⟨c,hc,hca⟩:=hn (by omega)
 rw [show bT b-1-(i+1)+1=bT b-(i+1) by omega] at hc
 subst hp
 subst hq
 refine ⟨?_,?_⟩
 ·simp only
  rw [show bT b-1-i=bT b-(i+1) by omega]
 ·simp only [ha,hc,Option.getD_some]
  exact RU hchk (k:=bT b-1-(i+1)) (by omega) ha ⟨c,by rw [show bT b-1-(i+1)+1=bT b-(i+1) by omega]; exact hc,rfl⟩
theorem agz {b:aQ} (hchk:chk b=none) (hs:b.stub=0→MJ b=true):Whole b (dW b):=by
 have kp:=JO hchk
 have hm:=(dX hchk).2.1
 obtain ⟨d1,d2,d3⟩:=Kv (dX hchk).1
 have hl:=uG b
 refine ⟨?_,?_,?_,?_,?_,?_,?_⟩
 ·intro h; rw [h] at hl; simp at hl; omega
 ·intro p hp
  rw [y9 (by omega)] at hp
  simp at hp
  rw [← hp]
 ·intro p hp
  rw [hl,y9 (by omega)] at hp
  simp at hp
  rw [← hp]
  simp only [show bT b-1-(bT b-1)=0 by omega,TU d2,Option.getD_some]
  omega
 ·have := apo hchk; omega
 ·exact fun i p hp=>(amw hchk hp).1
 ·exact fun i p q hq hp=>arP hchk hq hp
 ·intro h0 p hp
  have hh:=hs h0
  rw [y9 (by omega)] at hp
  simp at hp
  subst hp
  obtain ⟨a,ha,hai,_⟩:=qA hchk (k:=bT b-1) (by omega)
  simp only [Nat.sub_zero,ha,Option.getD_some]
  refine RU hchk (k:=bT b-1) (by omega) ha ?_
  rw [show bT b-1+1=bT b by omega]
  unfold MJ at hh
  cases hk:anch b (bT b) with
  | none=>rw [hk] at hh; simp at hh
  | some c=>rw [hk] at hh; exact ⟨c,rfl,by simpa using hh⟩
theorem iD {b:aQ} (h:(aZ b).1=none):chk b=none∧Whole b (aZ b).2:=by
 unfold aZ at h ⊢
 cases hchk:chk b with
 | some e=>rw [hchk] at h; simp at h
 | none =>
   rw [hchk] at h
   simp only at h ⊢
   refine ⟨trivial,?_⟩
   by_cases hh:MJ b=true
   ·rw [if_pos hh]; exact agz hchk fun _=>hh
   ·rw [if_neg hh] at h ⊢
    by_cases h0:b.stub=0
    ·rw [if_pos h0] at h; simp at h
    ·rw [if_neg h0] at h ⊢
     have hw:=agz hchk fun h=>absurd h h0
     by_cases h2:b.stub=2
     ·rw [if_pos h2]
      split
      ·rename_i p q r hr
       rw [hr] at hw
       have hq:=amw hchk (i:=1) (p:=q) (by rw [hr]; rfl)
       refine ⟨by simp,?_,?_,?_,?_,?_,fun h=>absurd h h0⟩
       ·intro x hx; simp at hx; rw [← hx]
       ·intro x hx
        have hl:=hw.last
        cases r with
        | nil=>simp at hx hl; rw [← hx]; exact hl
        | cons y ys =>
          refine hl x ?_
          simp at hx ⊢
          exact hx
       ·have := hw.len; simp at this ⊢; omega
       ·intro i x hx
        cases i with
        | zero=>simp at hx; rw [← hx]; exact hq.2
        | succ j=>exact hw.ord (j+2) x (by simpa using hx)
       ·intro i x y hy hx
        cases i with
        | zero =>
          simp at hy
          have := hw.next 1 x q (by simp) (by simpa using hx)
          rw [← hy]; exact this
        | succ j=>exact hw.next (j+2) x y (by simpa using hy) (by simpa using hx)
      ·exact hw
     ·rw [if_neg h2]; exact hw
theorem vO:∀ {ps:List (Int×Int)} {i:Nat} {p:Int×Int},ps[i]?=some p→(bI ps)[i*2]?=some (.int .i64 p.1)∧(bI ps)[i*2+1]?=some (.int .i64 p.2)∧i*2+2≤(bI ps).length∧((bI ps).drop (i*2)).take 2=[.int .i64 p.1,.int .i64 p.2]
 | [],i,p,h=>by simp at h
 | (a,b)::ps,0,p,h=>by simp at h; subst h; simp [bI]
 | (a,b)::ps,i+1,p,h=>by
   obtain ⟨h1,h2,h3,h4⟩:=vO (ps:=ps) (i:=i) (p:=p) (by simpa using h)
   have e1:(i+1)*2=i*2+1+1:=by omega
   have e2:(i+1)*2+1=i*2+1+1+1:=by omega
   rw [e1]
   refine ⟨by simpa [bI] using h1,by simpa [bI] using h2,by simp [bI]; omega,by simpa [bI] using h4⟩
theorem mF (b:aQ) (k:Nat):(aO b).all (D.clo k 12)=true:=by obtain ⟨i,m,f,c,rd,n,s,e,ex⟩:=b; simp [aO]
theorem rW (b:aQ):(aO b).length=9:=rfl
end Go.Ev.Code
end
section
namespace Go.Ev.Code
open Go Go.Ev
theorem aam {y:Nat} (h:y≤1000000):L.call nG [.int .i64 y]=some (.bool (leap y)):=by
 have q1:=yK y 4
 have q2:=yK y 100
 have q3:=yK y 400
 simp at q1 q2 q3
 refine aN Zh rfl (Y6 ..) ?_
 unfold leap
 have c4:((y:Int) % 4=0)↔y % 4=0:=by omega
 have c100:((y:Int) % 100=0)↔y % 100=0:=by omega
 have c400:((y:Int) % 400=0)↔y % 400=0:=by omega
 by_cases h4:y % 4=0
 ·by_cases h100:y % 100=0
  ·by_cases h400:y % 400=0 <;> simp (disch:=omega) [Af,q1,q2,q3,c4,c100,c400,h4,h100,h400]
  ·simp (disch:=omega) [Af,q1,q2,q3,c4,c100,c400,h4,h100]
 ·simp (disch:=omega) [Af,q1,q2,q3,c4,c100,c400,h4]
theorem xQ {y m:Nat} (h:y≤1000000) (h1:1≤m) (h2:m≤12):L.call fC [.int .i64 y,.int .i64 m]=some (.int .i64 (bP y m)):=by
 have hl:=aam h
 refine aN Xd rfl (W_ ..) ?_
 have : m=1∨m=2∨m=3∨m=4∨m=5∨m=6∨m=7∨m=8∨m=9∨m=10∨m=11∨m=12:=by omega
 rcases this with rfl | rfl | rfl | rfl | rfl | rfl | rfl | rfl | rfl | rfl | rfl | rfl
 case inr.inl =>
  cases hy:leap y <;> rw [hy] at hl <;> simp [Dl,bP,hl,hy]
 all_goals simp [Dl,bP]
theorem nZ (n:Int):L.call fB [.int .i64 n]=some (.bool (decide (0≤n∧n≤109572))):=by
 refine aN ab4 rfl (ab3 ..) ?_
 by_cases h:0≤n
 ·by_cases h':n≤109572 <;> simp [Jv,h,h']
 ·simp [Jv,h]
theorem RS {y:Nat} (h:y≤1000000):L.call kU [.int .i64 y]=some (.int .i64 (dw y 12)):=by
 have hl:=aam h
 rw [aif]
 refine aN Zi rfl (Y7 ..) ?_
 cases hy:leap y <;> rw [hy] at hl <;> simp [OU,hl]
theorem ai5 (y:Nat):dw y 12≤366∧365≤dw y 12:=by rw [aif]; split <;> omega
theorem ah8 {y m d:Nat} (hy:y≤2199):∀ (j k:Nat),k+j=y→1900≤k →
  L.loop [1,4,5] [1,4] oJ 1 [.loc 0 0,.int .i64 (dQ k),.int .i64 k] [.live [.int .i64 y,.int .i64 m,.int .i64 d]] =
    some (.exit 0,[.loc 0 0,.int .i64 (dQ y)],[.live [.int .i64 y,.int .i64 m,.int .i64 d]]):=by
 intro j
 induction j with
 | zero =>
   intro k hk h1
   have : k=y:=by omega
   subst this
   generalize dQ k=B
   refine aJ (LX ..) ?_
   simp [Ef]
 | succ j ih =>
   intro k hk h1
   have hl:=RS (y:=k) (by omega)
   have hn:=ih (k+1) (by omega) (by omega)
   have hs:=Cb h1
   have hb:=Q9 (y:=k) (by omega)
   have hc:=ai5 k
   have hlt:k<y:=by omega
   rw [hs] at hn
   generalize dQ y=By at *
   generalize dQ k=B at *
   generalize dw k 12=l at *
   have e1:IntKind.i64.wrap ((B:Int)+l)=((B+l:Nat):Int):=by rw [wrap64 _ (by omega)]; omega
   have e2:IntKind.i64.wrap ((k:Int)+1)=((k+1:Nat):Int):=by rw [wrap64 _ (by omega)]; omega
   generalize B+l=B2 at *
   generalize k+1=k2 at *
   refine aJ (LX ..) ?_
   simp [Ef,hl,hlt,e1,e2,hn]
theorem ah9 {y m d A:Nat} (hy:y≤2200) (hm:m≤12) (hA:A≤1000000):∀ (j k:Nat),k+j=m→1≤k →
  L.loop [1,4,6] [1,4] oK 1 [.loc 0 0,.int .i64 ((A+dw y (k-1):Nat):Int),.int .i64 k] [.live [.int .i64 y,.int .i64 m,.int .i64 d]] =
    some (.exit 2,[.loc 0 0,.int .i64 ((A+dw y (m-1):Nat):Int)],[.live [.int .i64 y,.int .i64 m,.int .i64 d]]):=by
 intro j
 induction j with
 | zero =>
   intro k hk h1
   have : k=m:=by omega
   subst this
   generalize A+dw y (k-1)=B
   refine aJ (LY ..) ?_
   simp [Eh]
 | succ j ih =>
   intro k hk h1
   have hl:=xQ (y:=y) (m:=k) (by omega) h1 (by omega)
   have hn:=ih (k+1) (by omega) (by omega)
   have hc:A+dw y (k+1-1)=A+dw y (k-1)+bP y k:=by
    rw [Nat.add_sub_cancel]
    obtain ⟨q,rfl⟩:∃ q,k=q+1:=⟨k-1,by omega⟩
    simp only [dw,Nat.add_sub_cancel]; omega
   rw [hc] at hn
   have hb:=Zq y (k-1)
   have hb2:=xP y k
   have hlt:k<m:=by omega
   have hBl:A+dw y (k-1)≤1000372:=by omega
   generalize A+dw y (k-1)=B at *
   generalize A+dw y (m-1)=C at *
   generalize bP y k=l at *
   have e1:IntKind.i64.wrap ((B:Int)+l)=((B+l:Nat):Int):=by rw [wrap64 _ (by omega)]; omega
   have e2:IntKind.i64.wrap ((k:Int)+1)=((k+1:Nat):Int):=by rw [wrap64 _ (by omega)]; omega
   generalize B+l=B2 at *
   generalize k+1=k2 at *
   refine aJ (LY ..) ?_
   simp (disch:=omega) [Eh,hl,hlt,e1,e2,hn]
theorem anZ {y m d:Nat} (h1:1900≤y) (h2:y≤2199) (hm:1≤m) (hm2:m≤12) (hd:1≤d) (hd2:d≤bP y m) :
  L.call og [oH y m d]=some (.bg [.int .i64 (dayOf y m d),.bool true]):=by
 have hl:=xQ (y:=y) (m:=m) (by omega) hm hm2
 have hbb:=Q9 (y:=y) (by omega)
 have hl1:=ah8 (y:=y) (m:=m) (d:=d) h2 (y-1900) 1900 (by omega) (by omega)
 have hl2:=ah9 (y:=y) (m:=m) (d:=d) (A:=dQ y) (by omega) hm2 (by omega) (m-1) 1 (by omega) (by omega)
 simp only [Nat.sub_self,dw,Nat.add_zero] at hl2
 have hml:=xP y m
 have hcu:=Zq y (m-1)
 have hC:dayOf y m d=dQ y+dw y (m-1)+d-1:=rfl
 rw [show dQ 1900=0 from rfl] at hl1
 have g1:¬ (y:Int)<1900:=by omega
 have g2:¬ (2199:Int)<y:=by omega
 have g3:¬ (d:Int)<1:=by omega
 generalize bP y m=l at *
 have g4:¬ (l:Int)<d:=by omega
 have g5:¬ l<d:=by omega
 have g6:¬ 2199<y:=by omega
 generalize hx:dQ y+dw y (m-1)=x at *
 generalize dayOf y m d=r at *
 generalize dQ y=b at *
 have e1:IntKind.i64.wrap ((x:Int)+d)=((x+d:Nat):Int):=by rw [wrap64 _ (by omega)]; omega
 have e2:IntKind.i64.wrap (((x+d:Nat):Int)-1)=(r:Int):=by rw [wrap64 _ (by omega)]; omega
 generalize x+d=b2 at *
 simp at hl1 hl2
 refine aN QT rfl (QN ..) ?_
 unfold oH
 simp (disch:=omega) [Dn,hl,g1,g2,g3,g4,g5,g6,e1,e2,hl1,hl2]
theorem alN {y m d:Nat} (h:¬ (1900≤y∧y≤2199)):L.call og [oH y m d]=some (.bg [.int .i64 0,.bool false]):=by
 refine aN QT rfl (QN ..) ?_
 unfold oH
 by_cases h1:1900≤y
 ·have g1:¬ (y:Int)<1900:=by omega
  have g2:(2199:Int)<y:=by omega
  have g6:2199<y:=by omega
  simp [Dn,g1,g2,g6]
 ·have g1:(y:Int)<1900:=by omega
  simp [Dn,g1]
end Go.Ev.Code
end
section
namespace Go.Ev.Code
open Go Go.Ev
theorem aft {y day:Nat} (hlo:dQ y≤day) (hhi:day<dQ (y+1)) (hy:y≤2199):∀ (j k:Nat),k+j=y→1900≤k →
  L.loop [0,2,3] [0,2,3] kS 2 [.int .i64 ((day-dQ k:Nat):Int),.loc 0 0,.loc 1 0] [.live [.int .i64 0,.int .i64 0,.int .i64 0],.live [.int .i64 k,.int .i64 1,.int .i64 0]] =
    some (.exit 0,[.int .i64 ((day-dQ y:Nat):Int),.loc 0 0,.loc 1 0],[.live [.int .i64 0,.int .i64 0,.int .i64 0],.live [.int .i64 y,.int .i64 1,.int .i64 0]]):=by
 intro j
 induction j with
 | zero =>
   intro k hk h1
   have : k=y:=by omega
   subst this
   have hl:=RS (y:=k) (by omega)
   have hs:=Cb h1
   generalize dQ (k+1)=b2 at *
   generalize dQ k=b at *
   generalize dw k 12=l at *
   have g:¬ (l:Int)≤((day-b:Nat):Int):=by omega
   have g':¬ l≤day-b:=by omega
   generalize day-b=r at *
   refine aJ (Ho ..) ?_
   simp [AL,hl,g,g']
 | succ j ih =>
   intro k hk h1
   have hl:=RS (y:=k) (by omega)
   have hs:=Cb h1
   have hn:=ih (k+1) (by omega) (by omega)
   have hmo:=Me (x:=k+1) (y:=y) (by omega) (by omega)
   have hbl:=Q9 (y:=y+1) (by omega)
   rw [hs] at hn hmo
   generalize dQ (y+1)=by1 at *
   generalize dQ y=by0 at *
   generalize dQ k=b at *
   generalize dw k 12=l at *
   have g:(l:Int)≤((day-b:Nat):Int):=by omega
   have g':l≤day-b:=by omega
   have e1:IntKind.i64.wrap (((day-b:Nat):Int)-l)=((day-(b+l):Nat):Int):=by rw [wrap64 _ (by omega)]; omega
   have e2:IntKind.i64.wrap ((k:Int)+1)=((k+1:Nat):Int):=by rw [wrap64 _ (by omega)]; omega
   generalize day-(b+l)=r2 at *
   generalize day-b=r at *
   generalize k+1=k2 at *
   refine aJ (Ho ..) ?_
   simp [AL,hl,g,g',e1,e2,hn]
theorem afu {y m d:Nat} (h:zk y m d):∀ (j k:Nat),k+j=m→1≤k →
  L.loop [0,2,3] [0,2,3] kT 2 [.int .i64 ((dw y (m-1)+(d-1)-dw y (k-1):Nat):Int),.loc 0 0,.loc 1 0] [.live [.int .i64 0,.int .i64 0,.int .i64 0],.live [.int .i64 y,.int .i64 k,.int .i64 0]] =
    some (.exit 2,[.int .i64 ((d-1:Nat):Int),.loc 0 0,.loc 1 0],[.live [.int .i64 0,.int .i64 0,.int .i64 0],.live [.int .i64 y,.int .i64 m,.int .i64 0]]):=by
 have h1:=h.d1
 have h2:=h.d2
 have h3:=h.m2
 have h4:=h.y2
 have h5:=xP y m
 intro j
 induction j with
 | zero =>
   intro k hk hk1
   have : k=m:=by omega
   subst this
   have hl:=xQ (y:=y) (m:=k) (by omega) hk1 h3
   rw [show dw y (k-1)+(d-1)-dw y (k-1)=d-1 by omega]
   generalize bP y k=l at *
   have g:¬ (l:Int)≤((d-1:Nat):Int):=by omega
   have g':¬ l≤d-1:=by omega
   generalize d-1=d1 at *
   refine aJ (Hq ..) ?_
   simp (disch:=omega) [AO,hl,g,g']
 | succ j ih =>
   intro k hk hk1
   have hl:=xQ (y:=y) (m:=k) (by omega) hk1 (by omega)
   have hn:=ih (k+1) (by omega) (by omega)
   have hc:dw y (k+1-1)=dw y (k-1)+bP y k:=by
    rw [Nat.add_sub_cancel]
    obtain ⟨q,rfl⟩:∃ q,k=q+1:=⟨k-1,by omega⟩
    simp only [dw,Nat.add_sub_cancel]
   have hmo:=Rj y (j:=k) (k:=m-1) (by omega)
   rw [Nat.add_sub_cancel] at hc hn
   rw [hc] at hmo hn
   have hub:=Zq y (m-1)
   have hub2:dw y (m-1)+(d-1)≤1000:=by omega
   have hmo2:dw y (k-1)+bP y k≤dw y (m-1)+(d-1):=by omega
   generalize dw y (m-1)+(d-1)=T at *
   generalize bP y k=l at *
   generalize dw y (k-1)=c at *
   have g:l≤T-c:=by omega
   have g':(l:Int)≤((T-c:Nat):Int):=by omega
   have e1:IntKind.i64.wrap (((T-c:Nat):Int)-l)=((T-(c+l):Nat):Int):=by rw [wrap64 _ (by omega)]; omega
   have e2:IntKind.i64.wrap ((k:Int)+1)=((k+1:Nat):Int):=by rw [wrap64 _ (by omega)]; omega
   generalize T-(c+l)=r2 at *
   generalize T-c=r1 at *
   generalize k+1=k2 at *
   refine aJ (Hq ..) ?_
   simp (disch:=omega) [AO,hl,g,g',e1,e2,hn]
theorem zf {y m d:Nat} (h:zk y m d):L.call gB [.int .i64 (dayOf y m d)]=some (oH y m d):=by
 have hlo:=h.lo
 have hhi:=h.hi
 have hd1:=h.d1
 have hd2:=h.d2
 have hml:=xP y m
 have hy:=h.y2
 have hm2:=h.m2
 have l1:=aft hlo hhi hy (y-1900) 1900 (by have := h.y1; omega) (by omega)
 have l2:=afu h (m-1) 1 (by have := h.m1; omega) (by omega)
 have hT:dayOf y m d-dQ y=dw y (m-1)+(d-1):=by unfold dayOf; omega
 simp only [Nat.sub_self,dw,Nat.sub_zero] at l2
 rw [← hT,show ((1:Nat):Int)=1 from rfl] at l2
 rw [show dQ 1900=0 from rfl,Nat.sub_zero] at l1
 generalize dayOf y m d=day at *
 generalize dQ y=b at *
 generalize day-b=r at *
 have e4:IntKind.i64.wrap (((d-1:Nat):Int)+1)=(d:Int):=by rw [wrap64 _ (by omega)]; omega
 generalize d-1=dd at *
 simp at l1 l2
 refine aN YH rfl (YC ..) ?_
 unfold oH
 simp (disch:=omega) [Mc,l1,l2,e4]
theorem akd {y m d:Nat} (h:zk y m d):L.call pX [.int .i64 (dayOf y m d)]=some (.bool (decide (d=bP y m))):=by
 have hc:=zf h
 have hl:=xQ (y:=y) (m:=m) (by have := h.y2; omega) h.m1 h.m2
 generalize dayOf y m d=day at *
 generalize bP y m=l at *
 unfold oH at hc
 refine aN Zg rfl (Y5 ..) ?_
 by_cases hd:d=l
 ·subst hd
  simp [FD,hc,hl]
 ·have hd':¬ (d:Int)=l:=by omega
  simp [FD,hc,hl,hd,hd']
end Go.Ev.Code
end
section
namespace Go.Ev.Code
open Go Go.Ev
theorem aqy {st:Bool} {d:Nat}:∀ (N cy cm:Nat),1≤cm→cm≤12→cy+N≤100000 →
  L.loop [1,8,9] [1,8,9] fH 1 [.int .i64 N,.loc 0 0,.bool st] [.live [.int .i64 cy,.int .i64 cm,.int .i64 d]] =
    some (.exit 0,[.int .i64 0,.loc 0 0,.bool st],[.live [.int .i64 (((cy*12+cm-1+N) / 12:Nat):Int),.int .i64 (((cy*12+cm-1+N) % 12+1:Nat):Int),.int .i64 d]]):=by
 intro N
 induction N with
 | zero =>
   intro cy cm h1 h2 h3
   rw [show (cy*12+cm-1+0) / 12=cy by omega,show (cy*12+cm-1+0) % 12+1=cm by omega]
   refine aJ (pI ..) ?_
   simp [kY]
 | succ N ih =>
   intro cy cm h1 h2 h3
   have e1:IntKind.i64.wrap ((cm:Int)+1)=((cm+1:Nat):Int):=by rw [wrap64 _ (by omega)]; omega
   have e2:IntKind.i64.wrap ((cy:Int)+1)=((cy+1:Nat):Int):=by rw [wrap64 _ (by omega)]; omega
   have e3:IntKind.i64.wrap (((N+1:Nat):Int)-1)=(N:Int):=by rw [wrap64 _ (by omega)]; omega
   have g:(0:Int)<((N+1:Nat):Int):=by omega
   have g0:0<N+1:=by omega
   by_cases hc:cm=12
   ·have hn:=ih (cy+1) 1 (by omega) (by omega) (by omega)
    rw [show (cy+1)*12+1-1+N=cy*12+cm-1+(N+1) by omega] at hn
    have g1:(12:Int)<((cm+1:Nat):Int):=by omega
    have g2:12<cm+1:=by omega
    generalize (cy*12+cm-1+(N+1)) / 12=Y at *
    generalize (cy*12+cm-1+(N+1)) % 12+1=M at *
    generalize N+1=N1 at *
    generalize cm+1=c1 at *
    generalize cy+1=y1 at *
    simp only [show ((1:Nat):Int)=1 from rfl] at hn
    refine aJ (pI ..) ?_
    simp [kY,e1,e2,e3,g,g0,g1,g2,hn]
   ·have hn:=ih cy (cm+1) (by omega) (by omega) (by omega)
    rw [show cy*12+(cm+1)-1+N=cy*12+cm-1+(N+1) by omega] at hn
    have g1:¬ (12:Int)<((cm+1:Nat):Int):=by omega
    have g2:¬ 12<cm+1:=by omega
    generalize (cy*12+cm-1+(N+1)) / 12=Y at *
    generalize (cy*12+cm-1+(N+1)) % 12+1=M at *
    generalize N+1=N1 at *
    generalize cm+1=c1 at *
    refine aJ (pI ..) ?_
    simp [kY,e1,e3,g,g0,g1,g2,hn]
theorem aqz {st:Bool} {d cy cm:Nat} {n:Int} (h:n≤0) :
  L.loop [1,8,9] [1,8,9] fH 1 [.int .i64 n,.loc 0 0,.bool st] [.live [.int .i64 cy,.int .i64 cm,.int .i64 d]] =
    some (.exit 0,[.int .i64 n,.loc 0 0,.bool st],[.live [.int .i64 cy,.int .i64 cm,.int .i64 d]]):=by
 have g:¬ (0:Int)<n:=by omega
 refine aJ (pI ..) ?_
 simp [kY,g]
theorem aiR {st:Bool} {d:Nat}:∀ (N cy cm:Nat),1≤cm→cm≤12→N≤cy*12+cm-1→cy≤100000→N≤100000 →
  L.loop [1,8,9] [8,9] gV 1 [.int .i64 (-(N:Int)),.loc 0 0,.bool st] [.live [.int .i64 cy,.int .i64 cm,.int .i64 d]] =
    some (.exit 2,[.loc 0 0,.bool st],[.live [.int .i64 (((cy*12+cm-1-N) / 12:Nat):Int),.int .i64 (((cy*12+cm-1-N) % 12+1:Nat):Int),.int .i64 d]]):=by
 intro N
 induction N with
 | zero =>
   intro cy cm h1 h2 h3 h4 h5
   rw [show (cy*12+cm-1-0) / 12=cy by omega,show (cy*12+cm-1-0) % 12+1=cm by omega]
   refine aJ (vH ..) ?_
   simp [pK]
 | succ N ih =>
   intro cy cm h1 h2 h3 h4 h5
   have e3:IntKind.i64.wrap (-((N+1:Nat):Int)+1) = -(N:Int):=by rw [wrap64 _ (by omega)]; omega
   have g : -((N+1:Nat):Int)<0:=by omega
   have e1:IntKind.i64.wrap ((cm:Int)-1)=((cm-1:Nat):Int):=by rw [wrap64 _ (by omega)]; omega
   by_cases hc:cm=1
   ·have e2:IntKind.i64.wrap ((cy:Int)-1)=((cy-1:Nat):Int):=by rw [wrap64 _ (by omega)]; omega
    have hn:=ih (cy-1) 12 (by omega) (by omega) (by omega) (by omega) (by omega)
    rw [show (cy-1)*12+12-1-N=cy*12+cm-1-(N+1) by omega] at hn
    have g1:((cm-1:Nat):Int)<1:=by omega
    have g2:cm-1<1:=by omega
    generalize (cy*12+cm-1-(N+1)) / 12=Y at *
    generalize (cy*12+cm-1-(N+1)) % 12+1=M at *
    generalize -((N+1:Nat):Int)=N1 at *
    generalize -(N:Int)=N0 at *
    generalize cm-1=c1 at *
    generalize cy-1=y1 at *
    simp only [show ((12:Nat):Int)=12 from rfl] at hn
    refine aJ (vH ..) ?_
    simp [pK,e1,e2,e3,g,g1,g2,hn]
   ·have hn:=ih cy (cm-1) (by omega) (by omega) (by omega) (by omega) (by omega)
    rw [show cy*12+(cm-1)-1-N=cy*12+cm-1-(N+1) by omega] at hn
    have g1:¬ ((cm-1:Nat):Int)<1:=by omega
    have g2:¬ cm-1<1:=by omega
    have g3:¬ cm-1=0:=by omega
    generalize (cy*12+cm-1-(N+1)) / 12=Y at *
    generalize (cy*12+cm-1-(N+1)) % 12+1=M at *
    generalize -((N+1:Nat):Int)=N1 at *
    generalize -(N:Int)=N0 at *
    generalize cm-1=c1 at *
    refine aJ (vH ..) ?_
    simp [pK,e1,e3,g,g1,g2,g3,hn]
def okD:Option Nat→D
 | some n => .bg [.int .i64 n,.bool true]
 | none => .bg [.int .i64 0,.bool false]
theorem XR {y m d:Nat} (h1:1≤m) (h2:m≤12) (hd:1≤d) (hd2:d≤bP y m):L.call og [oH y m d]=some (okD (uo y m d)):=by
 unfold uo
 split
 ·rename_i h; exact anZ h.1 h.2 h1 h2 hd hd2
 ·rename_i h; exact alN h
theorem aoO {y m d y' m':Nat} {n:Int} {e:Bool} (h:zk y m d) (hn1 : -3600≤n) (hn2:n≤3600) (hy':y'≤1000000) (hm1:1≤m') (hm2:m'≤12)
  {k:Int} (hl1:L.loop [1,8,9] [1,8,9] fH 1 [.int .i64 n,.loc 0 0,.bool (e && decide (d=bP y m))] [.live [.int .i64 y,.int .i64 m,.int .i64 d]]=some (.exit 0,[.int .i64 k,.loc 0 0,.bool (e && decide (d=bP y m))],[.live (if k=0 then [.int .i64 y',.int .i64 m',.int .i64 d] else [.int .i64 y,.int .i64 m,.int .i64 d])]))
  (hl2:L.loop [1,8,9] [8,9] gV 1 [.int .i64 k,.loc 0 0,.bool (e && decide (d=bP y m))] [.live (if k=0 then [.int .i64 y',.int .i64 m',.int .i64 d] else [.int .i64 y,.int .i64 m,.int .i64 d])]=some (.exit 2,[.loc 0 0,.bool (e && decide (d=bP y m))],[.live [.int .i64 y',.int .i64 m',.int .i64 d]])) :
  L.call fA [.int .i64 (dayOf y m d),.int .i64 n,.bool e]=some (okD (uo y' m' (if e=true∧d=bP y m then bP y' m' else min d (bP y' m')))):=by
 have hc:=zf h
 have hla:=akd h
 have his:=nZ (dayOf y m d)
 have hle:=h.le
 rw [decide_eq_true (by omega)] at his
 have hlen:=xQ hy' hm1 hm2
 have hpos:=CU (y:=y') hm1 hm2
 have hd1:=h.d1
 generalize (if k=0 then [D.int .i64 y',.int .i64 m',.int .i64 d] else [D.int .i64 y,.int .i64 m,.int .i64 d])=cells at *
 generalize dayOf y m d=day at *
 have g1:¬ n < -3600:=by omega
 have g2:¬ 3600<n:=by omega
 unfold oH at hc
 by_cases hst:e=true∧d=bP y m
 ·rw [if_pos hst]
  have hof:=XR (y:=y') (d:=bP y' m') hm1 hm2 (by omega) (Nat.le_refl _)
  obtain ⟨he,hdl⟩:=hst
  rw [decide_eq_true hdl] at hla
  rw [he,decide_eq_true hdl] at hl1 hl2
  subst he
  simp only [Bool.and_self] at hl1 hl2
  generalize bP y' m'=l at *
  unfold oH at hof
  refine aN oz rfl (ou ..) ?_
  cases hmk:uo y' m' l <;> rw [hmk] at hof <;> simp [okD] at hof <;> simp [fU,his,g1,g2,hc,hla,hl1,hl2,hlen,hof,okD]
 ·rw [if_neg hst]
  have hb:(e && decide (d=bP y m))=false:=by
   cases e <;> simp_all
  rw [hb] at hl1 hl2
  by_cases hdl:bP y' m'<d
  ·have hof:=XR (y:=y') (d:=bP y' m') hm1 hm2 (by omega) (Nat.le_refl _)
   rw [show min d (bP y' m')=bP y' m' by omega]
   have g3:((bP y' m':Nat):Int)<d:=by omega
   generalize bP y' m'=l at *
   unfold oH at hof
   refine aN oz rfl (ou ..) ?_
   cases e with
   | false=>cases hmk:uo y' m' l <;> rw [hmk] at hof <;> simp [okD] at hof <;> simp [fU,his,g1,g2,hc,hl1,hl2,hlen,hdl,g3,hof,okD]
   | true =>
     have hdm:¬ d=bP y m:=fun x=>hst ⟨rfl,x⟩
     rw [decide_eq_false hdm] at hla
     cases hmk:uo y' m' l <;> rw [hmk] at hof <;> simp [okD] at hof <;> simp [fU,his,g1,g2,hc,hla,hl1,hl2,hlen,hdl,g3,hof,okD]
  ·have hof:=XR (y:=y') (d:=d) hm1 hm2 (by omega) (by omega)
   rw [show min d (bP y' m')=d by omega]
   have g3:¬ ((bP y' m':Nat):Int)<d:=by omega
   generalize bP y' m'=l at *
   unfold oH at hof
   refine aN oz rfl (ou ..) ?_
   cases e with
   | false=>cases hmk:uo y' m' d <;> rw [hmk] at hof <;> simp [okD] at hof <;> simp [fU,his,g1,g2,hc,hl1,hl2,hlen,hdl,g3,hof,okD]
   | true =>
     have hdm:¬ d=bP y m:=fun x=>hst ⟨rfl,x⟩
     rw [decide_eq_false hdm] at hla
     cases hmk:uo y' m' d <;> rw [hmk] at hof <;> simp [okD] at hof <;> simp [fU,his,g1,g2,hc,hla,hl1,hl2,hlen,hdl,g3,hof,okD]
theorem G8 (day n:Int) (e:Bool):L.call fA [.int .i64 day,.int .i64 n,.bool e]=some (okD (r_ day n e)):=by
 unfold r_
 by_cases hd:bn day
 ·rw [if_pos hd]
  obtain ⟨y,m,d,hc,rfl,ho⟩:=dU hd
  rw [ho]
  unfold Kr
  by_cases hn : -3600≤n∧n≤3600
  ·rw [if_pos hn]
   have y1:=hc.y1
   have y2:=hc.y2
   have m1:=hc.m1
   have m2:=hc.m2
   simp only
   by_cases hs:0≤n
   ·obtain ⟨N,rfl⟩:∃ N:Nat,n=N:=⟨n.toNat,by omega⟩
    rw [show ((((y*12+m-1:Nat):Int)+(N:Int)) / 12).toNat=(y*12+m-1+N) / 12 by omega,show ((((y*12+m-1:Nat):Int)+(N:Int)) % 12).toNat+1=(y*12+m-1+N) % 12+1 by omega]
    have l1:=aqy (st:=e && decide (d=bP y m)) (d:=d) N y m m1 m2 (by omega)
    have l2:=aiR (st:=e && decide (d=bP y m)) (d:=d) 0 ((y*12+m-1+N) / 12) ((y*12+m-1+N) % 12+1) (by omega) (by omega) (by omega) (by omega) (by omega)
    rw [show ((y*12+m-1+N) / 12*12+((y*12+m-1+N) % 12+1)-1-0) / 12=(y*12+m-1+N) / 12 by omega,show ((y*12+m-1+N) / 12*12+((y*12+m-1+N) % 12+1)-1-0) % 12+1=(y*12+m-1+N) % 12+1 by omega] at l2
    exact aoO hc hn.1 hn.2 (by omega) (by omega) (by omega) (k:=0) (by simpa using l1) (by simpa using l2)
   ·obtain ⟨N,rfl⟩:∃ N:Nat,n = -(N:Int):=⟨(-n).toNat,by omega⟩
    rw [show ((((y*12+m-1:Nat):Int) + -(N:Int)) / 12).toNat=(y*12+m-1-N) / 12 by omega,show ((((y*12+m-1:Nat):Int) + -(N:Int)) % 12).toNat+1=(y*12+m-1-N) % 12+1 by omega]
    have l1:=aqz (st:=e && decide (d=bP y m)) (d:=d) (cy:=y) (cm:=m) (n := -(N:Int)) (by omega)
    have l2:=aiR (st:=e && decide (d=bP y m)) (d:=d) N y m m1 m2 (by omega) (by omega) (by omega)
    have hk:¬ (-(N:Int))=0:=by omega
    exact aoO hc hn.1 hn.2 (by omega) (by omega) (by omega) (k := -(N:Int)) (by rw [if_neg hk]; exact l1) (by rw [if_neg hk]; exact l2)
  ·rw [if_neg hn]
   have his:=nZ (dayOf y m d)
   have hle:=hc.le
   rw [decide_eq_true (by omega)] at his
   generalize dayOf y m d=dd at *
   refine aN oz rfl (ou ..) ?_
   by_cases h1:n < -3600
   ·simp [fU,his,h1,okD]
   ·have h2:3600<n:=by omega
    simp [fU,his,h1,h2,okD]
 ·rw [if_neg hd]
  have his:=nZ day
  rw [decide_eq_false hd] at his
  refine aN oz rfl (ou ..) ?_
  simp [fU,his,okD]
end Go.Ev.Code
end
section
namespace Go.Ev.Code
open Go Go.Ev
end Go.Ev.Code
end
section
namespace Go.Ev.Code
open Go Go.Ev
def mi (day:Int):Nat:=(lQ day.toNat).1*12+(lQ day.toNat).2.1
theorem zT {y m d:Nat} (h:zk y m d):mi (dayOf y m d:Nat)=y*12+m:=by
 unfold mi
 rw [show ((dayOf y m d:Nat):Int).toNat=dayOf y m d by omega,Xi h]
theorem Xw {a:Int} (h:bn a):22801≤mi a∧mi a≤26400:=by
 obtain ⟨y,m,d,hc,rfl,_⟩:=dU h
 rw [zT hc]
 have := hc.y1; have := hc.y2; have := hc.m1; have := hc.m2
 omega
theorem Oq {a b:Int} (ha:bn a) (hb:bn b) (h:mi a<mi b):a<b:=by
 obtain ⟨y,m,d,hc,rfl,_⟩:=dU ha
 obtain ⟨y',m',d',hc',rfl,_⟩:=dU hb
 rw [zT hc,zT hc'] at h
 have := Ci hc hc' h
 omega
theorem Gl {a b:Int} (ha:bn a) (hb:bn b) (h:a≤b):mi a≤mi b:=by
 rcases Nat.lt_or_ge (mi b) (mi a) with h1 | h1
 ·have := Oq hb ha h1; omega
 ·exact h1
theorem atx {a b:Int} (ha:bn a) (hb:bn b) (h:mi a+2≤mi b):a+28<b:=by
 obtain ⟨y,m,d,hc,rfl,_⟩:=dU ha
 obtain ⟨y',m',d',hc',rfl,_⟩:=dU hb
 rw [zT hc,zT hc'] at h
 have a1:=hc.y1; have a2:=hc.m1; have a3:=hc.m2; have a4:=hc'.y2; have a5:=hc'.m1; have a6:=hc'.m2
 have hm1:1≤(y*12+m) % 12+1∧(y*12+m) % 12+1≤12:=by omega
 have hy1:1900≤(y*12+m) / 12∧(y*12+m) / 12≤2199:=by omega
 have hs:(y*12+m) / 12*12+((y*12+m) % 12+1)=y*12+m+1:=by omega
 generalize (y*12+m) % 12+1=m1 at *
 generalize (y*12+m) / 12=y1 at *
 have hp:=CU (y:=y1) hm1.1 hm1.2
 have c1:zk y1 m1 1:=⟨hy1.1,hy1.2,hm1.1,hm1.2,by omega,by omega⟩
 have c2:zk y1 m1 28:=⟨hy1.1,hy1.2,hm1.1,hm1.2,by omega,by omega⟩
 have h1:=Ci hc c1 (by omega)
 have h2:=Ci c2 hc' (by omega)
 have h3:dayOf y1 m1 28=dayOf y1 m1 1+27:=by unfold dayOf; omega
 omega
theorem DR {day n:Int} {e:Bool} {r:Nat} (h:r_ day n e=some r):((mi r:Nat):Int)=mi day+n:=by
 obtain ⟨y,m,d,hc,rfl,hs⟩:=Xf h
 rw [zT hc]
 exact hs
theorem afO {day n:Int} (e:Bool) (hd:bn day) (h1:22801≤(mi day:Int)+n) (h2:(mi day:Int)+n≤26400):∃ r,r_ day n e=some r:=by
 have hb:=Xw hd
 obtain ⟨y,m,d,hc,rfl,ho⟩:=dU hd
 rw [zT hc] at h1 h2 hb
 unfold r_ Kr
 rw [if_pos hd,ho]
 rw [if_pos (by omega)]
 have a2:=hc.m1
 simp only
 unfold uo
 rw [if_pos (by omega)]
 exact ⟨_,rfl⟩
theorem aeX (a b:Int):sV a b=(mi b:Int)-mi a:=rfl
end Go.Ev.Code
end
section
namespace Go.Ev.Code
open Go Go.Ev
abbrev Er:=Option (Int×Option (List UInt8))
def Dw:Er→D
 | none => .aK
 | some (c,none)=>EU c
 | some (c,some s)=>jf c s
def anh:Err→Er
 | none=>none
 | some (c,s)=>some (c,some s)
def Xj:Er→Int
 | none=>0
 | some (c,_)=>c
theorem ama (e:Er) (n:Nat):D.clo n 12 (Dw e)=true:=by
 rcases e with _ | ⟨c,_ | s⟩ <;> rfl
def Rk (a b:Int):Int :=
 360*(((lQ b.toNat).1:Int)-(lQ a.toNat).1)+30*(((lQ b.toNat).2.1:Int)-(lQ a.toNat).2.1)+min ((lQ b.toNat).2.2:Int) 30-min ((lQ a.toNat).2.2:Int) 30
def eG (k a b:Int):Int:=if k=1 then Rk a b else b-a
theorem Ku {k a b:Int} (ha:bn a) (hb:bn b) : -1000000≤eG k a b∧eG k a b≤1000000:=by
 unfold eG
 split
 ·obtain ⟨y,m,d,hc,hd,ho⟩:=dU ha
  obtain ⟨y',m',d',hc',hd',ho'⟩:=dU hb
  unfold Rk
  rw [ho,ho']
  have := hc.y1; have := hc.y2; have := hc.m1; have := hc.m2; have := hc'.y1; have := hc'.y2; have := hc'.m1; have := hc'.m2
  simp only
  omega
 ·omega
theorem ahS {k a b:Int} (h1:1≤k) (h2:k≤4) (ha:bn a) (hb:bn b):L.call Cj [.int .i64 k,.int .i64 a,.int .i64 b]=some (.int .i64 (eG k a b)):=by
 have hm:=Rh k
 rw [decide_eq_true ⟨h1,h2⟩] at hm
 obtain ⟨y,m,d,hc,hd,ho⟩:=dU ha
 obtain ⟨y',m',d',hc',hd',ho'⟩:=dU hb
 have c1:=vM hc
 have c2:=vM hc'
 rw [← hd] at c1
 rw [← hd'] at c2
 unfold oH at c1 c2
 unfold eG Rk
 rw [ho,ho']
 simp only
 have a1:=hc.y1; have a2:=hc.y2; have a3:=hc.m1; have a4:=hc.m2
 have b1:=hc'.y1; have b2:=hc'.y2; have b3:=hc'.m1; have b4:=hc'.m2
 refine aN aiI rfl (aiA ..) ?_
 by_cases h:k=1
 ·subst h
  have e1:IntKind.i64.wrap ((y':Int)-y)=(y':Int)-y:=wrap64 _ (by omega)
  have e2:IntKind.i64.wrap (360*((y':Int)-y))=360*((y':Int)-y):=wrap64 _ (by omega)
  have e3:IntKind.i64.wrap ((m':Int)-m)=(m':Int)-m:=wrap64 _ (by omega)
  have e4:IntKind.i64.wrap (30*((m':Int)-m))=30*((m':Int)-m):=wrap64 _ (by omega)
  have e5:IntKind.i64.wrap (360*((y':Int)-y)+30*((m':Int)-m))=360*((y':Int)-y)+30*((m':Int)-m):=wrap64 _ (by omega)
  have e6:IntKind.i64.wrap (360*((y':Int)-y)+30*((m':Int)-m)+min (d':Int) 30)=360*((y':Int)-y)+30*((m':Int)-m)+min (d':Int) 30:=wrap64 _ (by omega)
  have e7:IntKind.i64.wrap (360*((y':Int)-y)+30*((m':Int)-m)+min (d':Int) 30-min (d:Int) 30)=360*((y':Int)-y)+30*((m':Int)-m)+min (d':Int) 30-min (d:Int) 30:=wrap64 _ (by omega)
  simp [Sr,hm,c1,c2,e1,e2,e3,e4,e5,e6,e7]
 ·have e1:IntKind.i64.wrap (b-a)=b-a:=wrap64 _ (by omega)
  simp [Sr,hm,c1,c2,h,e1]
theorem abC (n:Int):L.call xY [.int .i64 n]=some (.bool (decide (bn n))):=by
 have h:=En n
 have h1 := @ac2 n
 refine aN aeK rfl (aez ..) ?_
 generalize aaC n=w at *
 by_cases hd:bn n
 ·have : 0≤w:=by
   have := fun h=>h1.1 h hd
   omega
  simp [MS,h,hd,this]
 ·have : ¬ 0≤w:=by have := h1.2 hd; omega
  simp [MS,h,hd,this]
def I7 (k a b:Int):Rat:=Rat.divInt (eG k a b) (if k=3 then 365 else 360)
def Hz:Except Int Rat→D
 | .ok q => .bg [dV q,.aK]
 | .error c => .bg [.aY,EU c]
theorem ahT {k a b s e f:Int} (h1:1≤k) (h2:k≤3) (ha:bn a) (hb:bn b) (hab:a≤b) :
  L.call wK [.int .i64 k,.int .i64 a,.int .i64 b,.int .i64 s,.int .i64 e,.int .i64 f]=some (.bg [dV (I7 k a b),.aK]):=by
 have hm:=Rh k
 rw [decide_eq_true ⟨h1,by omega⟩] at hm
 have i1:=abC a
 rw [decide_eq_true ha] at i1
 have i2:=abC b
 rw [decide_eq_true hb] at i2
 have hd:=ahS h1 (by omega) ha hb
 have hbd:=Ku (k:=k) ha hb
 have hq:L.call lV [.int .i64 (eG k a b),.int .i64 (if k=3 then 365 else 360)]=some (.bg [dV (I7 k a b),.aK]):=by
  unfold I7
  refine Fq (by omega) ?_ ?_
  ·split <;> omega
  ·split <;> omega
 have h4:¬ k=4:=by omega
 have hlt:¬ b<a:=by omega
 generalize I7 k a b=q at *
 generalize eG k a b=n at *
 refine aN aiJ rfl (aiB ..) ?_
 by_cases h3:k=3
 ·subst h3
  rw [if_pos rfl] at hq
  simp [Sv,hm,i1,i2,hlt,hd,hq]
 ·rw [if_neg h3] at hq
  simp [Sv,hm,i1,i2,hlt,hd,hq,h3,h4]
def iO (b:aQ) (st:Int):Nat→Int→Option (List (Int×Int))
 | 0,_=>some []
 | f+1,e=>if e≤st then some [] else match quasi b e with
   | none=>none
   | some a=>(iO b st f a).map fun l=>((a:Int),e)::l
def sF (b:aQ) (p:Int×Int):Option (List (Int×Int)):=iO b p.1 (p.2-p.1).toNat p.2
theorem ad9 {b:aQ} {day:Int} {a:Nat} (h:quasi b day=some a):∃ k,anch b k=some day.toNat∧anch b (k+1)=some a∧0≤day∧b.issue<day:=by
 unfold quasi at h
 split at h
 ·rename_i k hk
  split at h
  ·simp at h
  ·have := NW hk
   exact ⟨k,this.2.1,h,this.2.2,by omega⟩
 ·simp at h
theorem RN {b:aQ} (hm:months b≠0) {day:Int} {a:Nat} (h:quasi b day=some a):(a:Int)<day∧bn a∧bn day:=by
 obtain ⟨k,h1,h2,h3,_⟩:=ad9 h
 have := aaJ hm (Nat.lt_succ_self k) h1 h2
 have hd:=Xg h1
 exact ⟨by omega,Xg h2,by rw [Int.toNat_of_nonneg h3] at hd; exact hd⟩
theorem aj7 {b:aQ} (hm:months b≠0) {st:Int}:∀ {f:Nat} {e:Int} {l:List (Int×Int)},iO b st f e=some l→∀ q∈l,bn q.1∧bn q.2∧q.1<q.2∧q.2≤e
 | 0,e,l,h=>by simp [iO] at h; subst h; simp
 | f+1,e,l,h=>by
   simp only [iO] at h
   split at h
   ·simp at h; subst h; simp
   ·split at h
    ·simp at h
    ·rename_i a ha
     have hq:=RN hm ha
     cases hl:iO b st f a with
     | none=>rw [hl] at h; simp at h
     | some r =>
       rw [hl] at h
       simp at h
       subst h
       intro q hmem
       rcases List.mem_cons.1 hmem with rfl | hmem
       ·exact ⟨hq.2.1,hq.2.2,hq.1,Int.le_refl _⟩
       ·have := aj7 hm hl q hmem
        exact ⟨this.1,this.2.1,this.2.2.1,by omega⟩
theorem agw {b:aQ} (hm:months b≠0) {st:Int}:∀ {f:Nat} {e:Int} {l:List (Int×Int)},bn e→iO b st f e=some l→l.length+22800≤mi e
 | 0,e,l,he,h=>by
   simp [iO] at h; subst h
   have := Xw he
   simp; omega
 | f+1,e,l,he,h=>by
   have hb:=Xw he
   simp only [iO] at h
   split at h
   ·simp at h; subst h; simp; omega
   ·split at h
    ·simp at h
    ·rename_i a ha
     have hq:=RN hm ha
     cases hl:iO b st f a with
     | none=>rw [hl] at h; simp at h
     | some r =>
       rw [hl] at h
       simp at h
       subst h
       have ih:=agw hm hq.2.1 hl
       obtain ⟨k,h1,h2,h3,_⟩:=ad9 ha
       unfold anch at h1 h2
       have m1:=DR h1
       have m2:=DR h2
       rw [Int.toNat_of_nonneg h3] at m1
       have hc:=rC b
       simp only [List.length_cons]
       have : ((k+1:Nat):Int)*months b=(k:Int)*months b+months b:=by rw [Int.natCast_add,Int.add_mul]; simp
       have e1 : -((k+1:Nat):Int)*months b = -((k:Int)*months b)-months b:=by rw [Int.neg_mul,this]; omega
       have e2 : -(k:Int)*months b = -((k:Int)*months b):=Int.neg_mul ..
       rw [e1] at m2
       rw [e2] at m1
       generalize (k:Int)*months b=z at *
       omega
theorem ql (b:aQ) (k n:Nat):(aO b).all (D.clo k (n+1))=true:=by obtain ⟨i,m,f,c,rd,n,s,e,ex⟩:=b; simp [aO]
theorem alJ {b:aQ} (hchk:chk b=none) (hc:b.dH.length≤1000000) (hr:b.dM.length≤1000000) (p1 p2:Int):∀ (f:Nat) (e:Int) (acc:List (Int×Int)),(e-p1).toNat≤f→acc≠[]→acc.length+f≤1000000 →
  (∀ l,iO b p1 f e=some l→L.loop [2,3,6,7] [4,5,6] iI 2 [.loc 0 0,.loc 1 0,.bf 2 0 acc.length 2,.int .i64 e] [.live (aO b),.live [.int .i64 p1,.int .i64 p2],.live (bI acc)] =
   some (.exit 0,[.undef,.undef,.bf 2 0 (acc++l).length 2],[.live (aO b),.live [.int .i64 p1,.int .i64 p2],.live (bI (acc++l))])) ∧
  (iO b p1 f e=none→∃ x m,L.loop [2,3,6,7] [4,5,6] iI 2 [.loc 0 0,.loc 1 0,.bf 2 0 acc.length 2,.int .i64 e] [.live (aO b),.live [.int .i64 p1,.int .i64 p2],.live (bI acc)] =
   some (.ret,[.bH,EU 4,x],m)):=by
 intro f
 induction f with
 | zero =>
   intro e acc hf hne hal
   have hpc:=jB acc 2 11
   have hbc:=mF b 2
   have he:¬ p1<e:=by omega
   simp only [iO]
   refine ⟨fun l hl=>?_,fun h=>by simp at h⟩
   simp at hl
   subst hl
   rw [List.append_nil]
   generalize bI acc=pc at *
   generalize aO b=B at *
   refine aJ (sU ..) ?_
   simp [qg,he,hpc,hbc]
 | succ f ih =>
   intro e acc hf hne hal
   have hpc:=jB acc 2 11
   have hbc:=mF b 2
   have hpl:=CZ acc
   simp only [iO]
   by_cases he:e≤p1
   ·rw [if_pos he]
    have he':¬ p1<e:=by omega
    refine ⟨fun l hl=>?_,fun h=>by simp at h⟩
    simp at hl
    subst hl
    rw [List.append_nil]
    generalize bI acc=pc at *
    generalize aO b=B at *
    refine aJ (sU ..) ?_
    simp [qg,he',hpc,hbc]
   ·rw [if_neg he]
    have he':p1<e:=by omega
    have hq:=I8 hc hr e
    unfold acS at hq
    rw [hchk] at hq
    simp only at hq
    cases hqe:quasi b e with
    | none =>
      simp only
      rw [hqe] at hq
      simp [mG] at hq
      refine ⟨fun l hl=>by simp at hl,fun _=>⟨.bf 2 0 acc.length 2,[.live (aO b),.live [.int .i64 p1,.int .i64 p2],.live (bI acc)],?_⟩⟩
      unfold aX at hq
      have hbl:=rW b
      have hbd:=ql b 0 10
      generalize bI acc=pc at *
      generalize aO b=B at *
      have htk:B.take 9=B:=List.take_of_length_le (by omega)
      refine aJ (sU ..) ?_
      simp [qg,he',hpc,hbc,hbl,hbd,htk,hq]
    | some a =>
      simp only
      rw [hqe] at hq
      simp [mG] at hq
      have hlt:=RN (dX hchk).2.1 hqe
      have hn:=ih a (acc++[((a:Int),e)]) (by omega) (by simp) (by simp; omega)
      rw [acR,show bI [((a:Int),e)]=[.int .i64 a,.int .i64 e] from rfl,List.length_append,List.length_singleton] at hn
      have htk:(bI acc).take (acc.length*2)=bI acc:=List.take_of_length_le (by omega)
      have hlen:acc.length+1≤4294967296:=by omega
      have hstep:∀ r,L.loop [2,3,6,7] [4,5,6] iI 2 [.loc 0 0,.loc 1 0,.bf 2 0 (acc.length+1) 2,.int .i64 a] [.live (aO b),.live [.int .i64 p1,.int .i64 p2],.live (bI acc++[.int .i64 a,.int .i64 e])]=some r →
        L.loop [2,3,6,7] [4,5,6] iI 2 [.loc 0 0,.loc 1 0,.bf 2 0 acc.length 2,.int .i64 e] [.live (aO b),.live [.int .i64 p1,.int .i64 p2],.live (bI acc)]=some r:=by
       intro r hr
       unfold aX at hq
       have hbl:=rW b
       have hbd:=ql b 0 10
       generalize bI acc=pc at *
       generalize aO b=B at *
       have htkB:B.take 9=B:=List.take_of_length_le (by omega)
       generalize acc.length=A at *
       refine aJ (sU ..) ?_
       simp [qg,he',hpc,hbc,hbl,hbd,htkB,hq,qE,htk,hlen,hpl,hr]
      refine ⟨fun l hl=>?_,fun h=>?_⟩
      ·cases hl2:iO b p1 f a with
       | none=>rw [hl2] at hl; simp at hl
       | some r =>
         rw [hl2] at hl
         simp at hl
         subst hl
         have := hn.1 r hl2
         rw [List.append_assoc] at this
         exact hstep _ this
      ·cases hl2:iO b p1 f a with
       | some r=>rw [hl2] at h; simp at h
       | none =>
         obtain ⟨x,m,hx⟩:=hn.2 hl2
         exact ⟨x,m,hstep _ hx⟩
def aaX:Option (List (Int×Int))→D
 | some l => .bg [eu l,.aK]
 | none => .bg [.sl 0 [],EU 4]
theorem ae_ {b:aQ} (hchk:chk b=none) (hc:b.dH.length≤1000000) (hr:b.dM.length≤1000000) {p:Int×Int} (hlt:p.1<p.2) (hle:p.2-p.1≤900000) :
  L.call Am [aX b,pD p]=some (aaX (sF b p)):=by
 obtain ⟨p1,p2⟩:=p
 simp only at hlt hle
 obtain ⟨f,hf⟩:∃ f,(p2-p1).toNat=f+1:=⟨(p2-p1).toNat-1,by omega⟩
 have hq:=I8 hc hr p2
 unfold acS at hq
 rw [hchk] at hq
 simp only at hq
 have hbc:=mF b 2
 have hbl:=rW b
 have hbd:=ql b 0 10
 have hnle:¬ p2≤p1:=by omega
 unfold sF pD
 simp only
 rw [hf]
 simp only [iO]
 rw [if_neg hnle]
 cases hqe:quasi b p2 with
 | none =>
   rw [hqe] at hq
   simp [mG] at hq
   simp only [aaX]
   unfold aX at hq ⊢
   generalize aO b=B at *
   have htkB:B.take 9=B:=List.take_of_length_le (by omega)
   have hl:L.loop [2,3,6,7] [4,5,6] iI 2 [.loc 0 0,.loc 1 0,.bH,.int .i64 p2] [.live B,.live [.int .i64 p1,.int .i64 p2]]=some (.ret,[.bH,EU 4,.bH],[.live B,.live [.int .i64 p1,.int .i64 p2]]):=by
    refine aJ (sU ..) ?_
    simp [qg,hlt,hbc,hbl,hbd,htkB,hq]
   refine aN O3 rfl (OZ ..) ?_
   simp [Jb,hl]
 | some a =>
   rw [hqe] at hq
   simp [mG] at hq
   simp only
   have hqlt:=RN (dX hchk).2.1 hqe
   have hn:=alJ hchk hc hr p1 p2 f a [((a:Int),p2)] (by omega) (by simp) (by simp; omega)
   rw [show bI [((a:Int),p2)]=[.int .i64 a,.int .i64 p2] from rfl,List.length_singleton] at hn
   have hstep:∀ r,L.loop [2,3,6,7] [4,5,6] iI 2 [.loc 0 0,.loc 1 0,.bf 2 0 1 2,.int .i64 a] [.live (aO b),.live [.int .i64 p1,.int .i64 p2],.live [.int .i64 a,.int .i64 p2]]=some r →
     L.loop [2,3,6,7] [4,5,6] iI 2 [.loc 0 0,.loc 1 0,.bH,.int .i64 p2] [.live (aO b),.live [.int .i64 p1,.int .i64 p2]]=some r:=by
    intro r hr
    unfold aX at hq
    generalize aO b=B at *
    have htkB:B.take 9=B:=List.take_of_length_le (by omega)
    refine aJ (sU ..) ?_
    simp [qg,hlt,hbc,hbl,hbd,htkB,hq,qE,hr]
   cases hl2:iO b p1 f a with
   | none =>
     obtain ⟨x,m,hx⟩:=hn.2 hl2
     have := hstep _ hx
     simp only [aaX,Option.map_none]
     unfold aX
     generalize aO b=B at *
     refine aN O3 rfl (OZ ..) ?_
     simp [Jb,this]
   | some r =>
     have := hstep _ (hn.1 r hl2)
     simp only [aaX,Option.map_some,eu]
     rw [show [((a:Int),p2)]++r=((a:Int),p2)::r from rfl] at this
     have hcl:=jB (((a:Int),p2)::r) 0 11
     have hlen:=CZ (((a:Int),p2)::r)
     have hfz:∀ m,lG (fz 10) (bI (((a:Int),p2)::r)) m=some (bI (((a:Int),p2)::r),m):=fun m=>Jj _ 9 m
     have htk:(bI (((a:Int),p2)::r)).take ((((a:Int),p2)::r).length*2)=bI (((a:Int),p2)::r):=List.take_of_length_le (by omega)
     unfold aX
     generalize aO b=B at *
     generalize bI (((a:Int),p2)::r)=pc at *
     generalize (((a:Int),p2)::r).length=K at *
     refine aN O3 rfl (OZ ..) ?_
     simp [Jb,this,hcl,hfz,hlen,htk]
end Go.Ev.Code
end
section
namespace Go.Ev.Code
open Go Go.Ev
def yF (d_ x y:Int) (q:Int×Int):Rat:=Rat.divInt (max (min y q.2-max x q.1) 0) (d_*(q.2-q.1))
def sumF (d_ x y:Int):Rat→List (Int×Int)→Rat
 | s,[]=>s
 | s,q::r=>sumF d_ x y (s+yF d_ x y q) r
abbrev ED (f:Int):Prop:=f=1∨f=2∨f=4∨f=12
theorem nP {b:aQ} (h:months b≠0):ED b.d_:=by
 unfold months at h
 split at h
 ·left; assumption
 ·split at h
  ·right; left; assumption
  ·split at h
   ·right; right; left; assumption
   ·split at h
    ·right; right; right; assumption
    ·simp at h
structure QOk (q:Int×Int):Prop where
 d1:bn q.1
 d2:bn q.2
 lt:q.1<q.2
theorem ED.mul {f a:Int} (hf:ED f) (h1:1≤a) (h2:a≤200000):1≤f*a∧f*a≤2400000:=by
 rcases hf with rfl | rfl | rfl | rfl <;> omega
theorem afk {f x y:Int} {q:Int×Int} (hf:ED f) (hq:QOk q):RB 64 (yF f x y q):=by
 have h1:=hq.d1; have h2:=hq.d2; have h3:=hq.lt
 have hm:=hf.mul (a:=q.2-q.1) (by omega) (by omega)
 unfold yF
 exact xg (jQ (by omega)) (jQ (by omega)) (by omega)
theorem amD {f x y:Int} (hf:ED f):∀ {l:List (Int×Int)} {s:Rat} {j:Nat},(∀ q∈l,QOk q)→RB j s→RB (j+65*l.length) (sumF f x y s l)
 | [],s,j,hl,hs=>by simpa [sumF] using hs
 | q::r,s,j,hl,hs=>by
   have := amD (x:=x) (y:=y) hf (l:=r) (s:=s+yF f x y q) (j:=j+64+1) (fun q hq=>hl q (List.mem_cons_of_mem _ hq)) (hs.add (afk hf (hl q (by simp))))
   simp only [sumF]
   exact this.mono (by simp; omega)
theorem apN {b:aQ} (hf:ED b.d_) {p1 p2 x y:Int} (hx:p1≤x) (hxy:x≤y) (hy:y≤p2) (d1:bn p1) (d2:bn p2) (all:List (Int×Int)) (hall:∀ q∈all,QOk q) (hlen:all.length≤4000) :
  ∀ (l pre:List (Int×Int)) (s:Rat) (j:Nat),all=pre++l→RB j s→j+65*l.length≤600000 →
    L.loop [2,3,4,14,77,78,79] [14] yh 2 [.int .i64 x,.int .i64 y,.loc 0 0,dV s,eu all,.int .i64 all.length,.int .i64 pre.length] [.live (aO b),.live [.int .i64 p1,.int .i64 p2]] =
      some (.exit 0,[dV (sumF b.d_ x y s l)],[.live (aO b),.live [.int .i64 p1,.int .i64 p2]]):=by
 have hbc:=mF b 2
 have hpcc:=jB all 2 11
 intro l
 induction l with
 | nil =>
   intro pre s j hal hs hj
   rw [List.append_nil] at hal
   subst hal
   unfold eu
   simp only [sumF]
   generalize aO b=B at *
   generalize bI all=pc at *
   generalize all.length=n at *
   refine aJ (VK ..) ?_
   simp [MX,hbc]
 | cons q r ih =>
   intro pre s j hal hs hj
   have hq:=hall q (by rw [hal]; simp)
   have hn:=ih (pre++[q]) (s+yF b.d_ x y q) (j+64+1) (by rw [hal]; simp) (hs.add (afk hf hq)) (by simp at hj ⊢; omega)
   rw [List.length_append,List.length_singleton,show ((pre.length+1:Nat):Int)=(pre.length:Int)+1 by omega] at hn
   simp only [sumF]
   have hg:=vO (ps:=all) (i:=pre.length) (p:=q) (by rw [hal]; simp)
   have hlt:pre.length<all.length:=by rw [hal]; simp
   have a1:=hq.d1; have a2:=hq.d2; have a3:=hq.lt
   have hm:=hf.mul (a:=q.2-q.1) (by omega) (by omega)
   have hadd:=Lh hs (afk (x:=x) (y:=y) hf hq) (by omega)
   have hof:L.call lV [.int .i64 (max (min y q.2-max x q.1) 0),.int .i64 (b.d_*(q.2-q.1))]=some (.bg [dV (yF b.d_ x y q),.aK]):=by
    unfold yF
    exact Fq (by omega) (by omega) (by omega)
   have e1:IntKind.i64.wrap (min y q.2-max x q.1)=min y q.2-max x q.1:=wrap64 _ (by omega)
   have e2:IntKind.i64.wrap (q.2-q.1)=q.2-q.1:=wrap64 _ (by omega)
   have e3:IntKind.i64.wrap (b.d_*(q.2-q.1))=b.d_*(q.2-q.1):=wrap64 _ (by omega)
   have e4:IntKind.i64.wrap ((pre.length:Int)+1)=(pre.length:Int)+1:=wrap64 _ (by omega)
   generalize sumF b.d_ x y (s+yF b.d_ x y q) r=res at *
   generalize s+yF b.d_ x y q=s2 at *
   generalize yF b.d_ x y q=qq at *
   obtain ⟨q1,q2⟩:=q
   simp only at *
   unfold eu at *
   obtain ⟨g1,g2,g3,g4⟩:=hg
   generalize bI all=pc at *
   generalize all.length=N at *
   generalize pre.length=P at *
   have hltI:(P:Int)<N:=by omega
   obtain ⟨i,m,fq,c,rd,n,st,e,ex⟩:=b
   unfold aO at *
   simp only at *
   refine aJ (VK ..) ?_
   simp [MX,hlt,hltI,g1,g2,g3,g4,e1,e2,e3,e4,hof,hadd,hn]
def nY (b:aQ) (p:Int×Int) (x y:Int):Except Int Rat :=
 if b.count=4 then match sF b p with
  | none => .error 4
  | some l=>if x<p.1∨y<x∨p.2<y then .error 6 else .ok (sumF b.d_ x y (Rat.divInt 0 1) l)
 else if x<p.1∨y<x∨p.2<y then .error 6 else .ok (I7 b.count x y)
theorem aa0:RB 64 (Rat.divInt 0 1):=xg (jQ (by omega)) (jQ (by omega)) (by omega)
theorem mJ {b:aQ} (h:(aZ b).1=none):chk b=none:=(iD h).1
theorem afV {b:aQ} (h:chk b=none):1≤b.count∧b.count≤4:=by
 unfold chk at h
 split at h <;> try (simp at h; done)
 split at h <;> try (simp at h; done)
 split at h <;> try (simp at h; done)
 split at h <;> try (simp at h; done)
 rename_i h1
 exact Classical.not_not.1 h1
theorem Gq {b:aQ} (hchk:chk b=none) {p:Int×Int} (d2:bn p.2) {l:List (Int×Int)} (h:sF b p=some l):(∀ q∈l,QOk q)∧l.length≤3600:=by
 have hm:=(dX hchk).2.1
 have hb:=Xw d2
 refine ⟨fun q hq=>?_,?_⟩
 ·have := aj7 hm h q hq
  exact ⟨this.1,this.2.1,this.2.2.1⟩
 ·have := agw hm d2 h; omega
set_option maxHeartbeats 1000000 in
theorem Zz {b:aQ} (hp:(aZ b).1=none) (hc:b.dH.length≤1000000) (hr:b.dM.length≤1000000) {p:Int×Int} (d1:bn p.1) (d2:bn p.2) (hlt:p.1<p.2) (x y:Int) :
  L.call xu [aX b,pD p,.int .i64 x,.int .i64 y]=some (Hz (nY b p x y)):=by
 have hchk:=mJ hp
 have hpl:=KX hc hr
 have hcl:=jB (aZ b).2 0 11
 have hqs:=ae_ hchk hc hr hlt (by omega)
 have hf:=nP (dX hchk).2.1
 have hcnt:=afV hchk
 have hok:=fun {l} h=>Gq (l:=l) hchk d2 h
 have hz:L.call lV [.int .i64 0,.int .i64 1]=some (.bg [dV (Rat.divInt 0 1),.aK]):=Fq (by omega) (by omega) (by omega)
 unfold Bf at hpl
 rw [hp] at hpl
 simp only [fE] at hpl
 have hloop:=fun l hx hxy hy hall=>apN (b:=b) hf (p1:=p.1) (p2:=p.2) (x:=x) (y:=y) hx hxy hy d1 d2 l hall
 obtain ⟨p1,p2⟩:=p
 unfold pD at *
 simp only at *
 unfold eu at hpl
 generalize (aZ b).2.length=pn at *
 generalize bI (aZ b).2=pc at *
 unfold nY
 simp only
 have hbad:x<p1∨y<x∨p2<y∨(p1≤x∧x≤y∧y≤p2):=by omega
 by_cases hk:b.count=4
 ·rw [if_pos hk]
  cases hq:sF b (p1,p2) with
  | none =>
    rw [hq] at hqs
    simp only [aaX] at hqs
    obtain ⟨i,m,fq,c,rd,n,st,e,ex⟩:=b
    unfold aX aO at *
    simp only at *
    subst hk
    refine aN U9 rfl (U7 ..) ?_
    simp [qQ,hpl,hqs,Hz]
  | some l =>
    rw [hq] at hqs
    simp only [aaX] at hqs
    obtain ⟨hall,hll⟩:=hok hq
    simp only
    have hlp:=fun h1 h2 h3=>hloop l h1 h2 h3 hall (by omega) l [] (Rat.divInt 0 1) 64 rfl aa0 (by omega)
    have hlc:=jB l 0 11
    simp only [List.length_nil] at hlp
    unfold eu at *
    generalize bI l=lc at *
    generalize l.length=ln at *
    generalize Rat.divInt 0 1=z at *
    generalize sumF b.d_ x y z l=res at *
    obtain ⟨i,m,fq,c,rd,n,st,e,ex⟩:=b
    unfold aX aO at *
    simp only at *
    subst hk
    refine aN U9 rfl (U7 ..) ?_
    by_cases h1:x<p1
    ·rw [if_pos (.inl h1)]
     simp [qQ,hpl,hqs,h1,dD,Hz]
    by_cases h2:y<x
    ·rw [if_pos (.inr (.inl h2))]
     simp [qQ,hpl,hqs,h1,h2,dD,Hz]
    by_cases h3:p2<y
    ·rw [if_pos (.inr (.inr h3))]
     simp [qQ,hpl,hqs,h1,h2,h3,dD,Hz]
    ·rw [if_neg (by omega)]
     have := hlp (by omega) (by omega) (by omega)
     simp at this
     simp [qQ,hpl,hqs,h1,h2,h3,hz,this,Hz]
 ·rw [if_neg hk]
  have hcp:¬ (x<p1∨y<x∨p2<y)→∀ s e f,L.call wK [.int .i64 b.count,.int .i64 x,.int .i64 y,.int .i64 s,.int .i64 e,.int .i64 f]=some (.bg [dV (I7 b.count x y),.aK]) :=
   fun h s e f=>ahT (by omega) (by omega) (by omega) (by omega) (by omega)
  generalize I7 b.count x y=res at *
  obtain ⟨i,m,fq,c,rd,n,st,e,ex⟩:=b
  unfold aX aO at *
  simp only at *
  refine aN U9 rfl (U7 ..) ?_
  by_cases h1:x<p1
  ·rw [if_pos (.inl h1)]
   simp [qQ,hpl,hk,h1,dD,Hz]
  by_cases h2:y<x
  ·rw [if_pos (.inr (.inl h2))]
   simp [qQ,hpl,hk,h1,h2,dD,Hz]
  by_cases h3:p2<y
  ·rw [if_pos (.inr (.inr h3))]
   simp [qQ,hpl,hk,h1,h2,h3,dD,Hz]
  ·rw [if_neg (by omega)]
   have := hcp (by omega) p1 p2 fq
   simp [qQ,hpl,hk,h1,h2,h3,this,Hz]
theorem XE {b:aQ} (hchk:chk b=none) {p:Int×Int} (d1:bn p.1) (d2:bn p.2) {x y:Int} {q:Rat} (h:nY b p x y = .ok q) {n:Nat} (hn:∀ l,sF b p=some l→l.length≤n):RB (64+65*n) q:=by
 have hf:=nP (dX hchk).2.1
 unfold nY at h
 split at h
 ·split at h
  ·simp at h
  ·rename_i l hl
   split at h
   ·simp at h
   ·simp at h
    subst h
    exact (amD hf (Gq hchk d2 hl).1 aa0).mono (by have := hn l hl; omega)
 ·split at h
  ·simp at h
  ·rename_i hxy
   simp at h
   subst h
   unfold I7
   have := Ku (k:=b.count) (a:=x) (b:=y) (by omega) (by omega)
   refine (xg (k:=64) (jQ (by omega)) (jQ ?_) ?_).mono (by omega)
   ·split <;> omega
   ·split <;> omega
def jV (b:aQ):Rat:=LZ b*Rat.divInt 1 b.d_
theorem Ri (b:aQ):RB 400 (LZ b):=by
 unfold LZ
 have hq:RB 400 q0:=aa0.mono (by omega)
 split
 ·exact hq
 ·split
  ·rename_i h; exact (Xn h).1
  ·exact hq
theorem aaj (b:aQ):RB 400 (mO b):=by
 unfold mO
 have hq:RB 400 q0:=aa0.mono (by omega)
 split
 ·exact hq
 ·split
  ·rename_i h; exact (Xn h).1
  ·exact hq
theorem apm {f:Int} (hf:ED f):RB 64 (Rat.divInt 1 f):=xg (jQ (by omega)) (jQ (by omega)) (by omega)
theorem agA {b:aQ} (hf:ED b.d_):RB 464 (jV b):=(Ri b).mul (apm hf)
theorem Ux {b:aQ} (hf:ED b.d_) (hc:b.dH.length≤1000000) (hr:b.dM.length≤1000000):L.call uK [aX b]=some (dV (jV b)):=by
 have h1:=FQ hc hr
 have h2:L.call lV [.int .i64 1,.int .i64 b.d_]=some (.bg [dV (Rat.divInt 1 b.d_),.aK]):=Fq (by omega) (by omega) (by omega)
 have h3:=Lj (Ri b) (apm hf) (by omega)
 unfold jV
 generalize LZ b*Rat.divInt 1 b.d_=r at *
 generalize Rat.divInt 1 b.d_=v at *
 generalize LZ b=q at *
 obtain ⟨i,m,fq,c,rd,n,st,e,ex⟩:=b
 unfold aX aO at *
 simp only at *
 refine aN aeM rfl (aeB ..) ?_
 simp [WO,h1,h2,h3]
def sD (b:aQ) (p:Int×Int):Except Int Rat:=if regular b p=true then .ok (jV b) else match nY b p p.1 p.2 with
 | .ok q => .ok (LZ b*q)
 | .error c => .error c
theorem aaV {b:aQ} (hchk:chk b=none) {p:Int×Int} (d1:bn p.1) (d2:bn p.2) {q:Rat} (h:sD b p = .ok q) {n:Nat} (hn:∀ l,sF b p=some l→l.length≤n):RB (464+65*n) q:=by
 have hf:=nP (dX hchk).2.1
 unfold sD at h
 split at h
 ·simp at h; subst h; exact (agA hf).mono (by omega)
 ·split at h
  ·rename_i v hv
   simp at h; subst h
   exact ((Ri b).mul (XE hchk d1 d2 hv hn)).mono (by omega)
  ·simp at h
theorem Vg {b:aQ} (hp:(aZ b).1=none) (hc:b.dH.length≤1000000) (hr:b.dM.length≤1000000) {p:Int×Int} (d1:bn p.1) (d2:bn p.2) (hlt:p.1<p.2):L.call yj [aX b,pD p]=some (Hz (sD b p)):=by
 have hchk:=mJ hp
 have hf:=nP (dX hchk).2.1
 have hpl:=KX hc hr
 have hreg:=KY hc hr p
 have hpart:=Zz hp hc hr d1 d2 hlt p.1 p.2
 have hrp:=Ux hf hc hr
 have hcp:=FQ hc hr
 have hcl:=jB (aZ b).2 0 11
 have hmul:=fun {q} h=>Lj (Ri b) (XE hchk d1 d2 (q:=q) (x:=p.1) (y:=p.2) h (n:=3600) (fun l hl=>(Gq hchk d2 hl).2)) (by omega)
 unfold Bf at hpl
 rw [hp] at hpl
 simp only [fE] at hpl
 unfold eu at hpl
 generalize (aZ b).2.length=pn at *
 generalize bI (aZ b).2=pc at *
 unfold sD
 obtain ⟨p1,p2⟩:=p
 unfold pD at *
 simp only at *
 generalize nY b (p1,p2) p1 p2=pr at *
 generalize regular b (p1,p2)=rg at *
 generalize jV b=rp at *
 generalize LZ b=cq at *
 obtain ⟨i,m,fq,c,rd,n,st,e,ex⟩:=b
 unfold aX aO at *
 simp only at *
 refine aN amY rfl (amR ..) ?_
 cases rg with
 | true=>simp [Qo,hpl,hreg,hrp,Hz]
 | false =>
   cases pr with
   | error c=>simp [Hz] at hpart; simp [Qo,hpl,hreg,hpart,Hz]
   | ok q =>
     have hmul:=hmul rfl
     simp only [Hz] at hpart
     simp [Qo,hpl,hreg,hpart,hcp,hmul,Hz]
end Go.Ev.Code
end
section
namespace Go.Ev.Code
open Go Go.Ev
def fP:List (Int×Rat)→List D
 | []=>[]
 | (d,q)::r => .int .i64 d :: .str (LU q)::fP r
theorem MH (l r:List (Int×Rat)):fP (l++r)=fP l++fP r:=by
 induction l with
 | nil=>rfl
 | cons x xs ih=>obtain ⟨a,b⟩:=x; simp [fP,ih]
theorem Qs (l:List (Int×Rat)):(fP l).length=l.length*2:=by
 induction l with
 | nil=>rfl
 | cons x xs ih=>obtain ⟨a,b⟩:=x; simp [fP,ih]; omega
theorem JM (l:List (Int×Rat)) (b n:Nat):(fP l).all (D.clo b (n+1))=true:=by
 induction l with
 | nil=>rfl
 | cons x xs ih=>obtain ⟨p,q⟩:=x; simp [fP]; simpa using ih
theorem ae' (l:List (Int×Rat)) (n:Nat) (m:Mem):lG (fz (n+1)) (fP l) m=some (fP l,m):=by
 induction l with
 | nil=>rfl
 | cons x xs ih=>obtain ⟨a,b⟩:=x; simp [fP,ih]
def flD (l:List (Int×Rat)):D := .sl l.length (fP l)
def pJ (each red:Rat):List (Int×Int)→List (Int×Rat)
 | []=>[]
 | [p]=>[(p.2,each+red)]
 | p::q::r=>(p.2,each)::pJ each red (q::r)
def Es (pay each red:Rat):List (Int×Int)→List (Int×Rat)
 | []=>[]
 | [p]=>[(p.2,pay+red)]
 | p::q::r=>(p.2,pay)::pJ each red (q::r)
theorem agC (each red:Rat):∀ l:List (Int×Int),(pJ each red l).length=l.length
 | []=>rfl
 | [_]=>rfl
 | _::q::r=>by simp [pJ,agC each red (q::r)]
theorem Zy (pay each red:Rat) (l:List (Int×Int)):(Es pay each red l).length=l.length:=by
 match l with
 | []=>rfl
 | [_]=>rfl
 | _::q::r=>simp [Es,agC]
set_option maxHeartbeats 2000000 in
theorem of_rest {b:aQ} {pre:Mem} {k:Nat} (hpre:(pre=[]∧k=0)∨(pre=[.live (aO b)]∧k=1)) (hc:b.dH.length≤1000000) (hr:b.dM.length≤1000000) {each:Rat} {j:Nat} (hE:RB j each) (hj:1≤j) (hj2:j≤400000)
  {ps:List (Int×Int)} (hn:ps.length≤100000):∀ (rest pfx:List (Int×Int)) (acc:List (Int×Rat)),ps=pfx++rest→pfx≠[]→acc.length=pfx.length →
  L.loop [1,4,6,7,21,22,23] [2,3,7] qX (k+1) [.loc k 0,eu ps,dV each,.bf (k+1) 0 acc.length 2,eu ps,.int .i64 ps.length,.int .i64 pfx.length] (pre++[.live (aO b),.live (fP acc)]) =
    some (.exit 0,[.undef,.undef,.bf (k+1) 0 ps.length 2],pre++[.live (aO b),.live (fP (acc++pJ each (mO b) rest))]):=by
 have hbc:=fun n=>mF b n
 have hbl:=rW b
 have hbd:=ql b 0 10
 have hbr:=FT hc hr
 have hadd:=Lh hE (aaj b) (by omega)
 have ht1:=DZ hE (by omega) hj
 have ht2:=DZ (hE.add (aaj b)) (by omega) (by omega)
 intro rest
 induction rest with
 | nil =>
   intro pfx acc hal hne hl
   rw [List.append_nil] at hal
   subst hal
   have hfc:=fun n=>JM acc n 11
   rw [hl]
   unfold eu
   simp only [pJ,List.append_nil]
   generalize aO b=B at *
   generalize fP acc=fc at *
   generalize bI ps=pc at *
   generalize ps.length=n at *
   rcases hpre with ⟨rfl,rfl⟩ | ⟨rfl,rfl⟩
   ·refine aJ (kW ..) ?_
    simp [jW,hbc,hfc]
   ·refine aJ (kW ..) ?_
    simp [jW,hbc,hfc]
 | cons p rest ih =>
   intro pfx acc hal hne hl
   have hfc:=fun n=>JM acc n 11
   have hfl:=Qs acc
   have hpos:0<pfx.length:=List.length_pos_iff.2 hne
   have hg:=vO (ps:=ps) (i:=pfx.length) (p:=p) (by rw [hal]; simp)
   have hlt:pfx.length<ps.length:=by rw [hal]; simp
   have hlast:(pfx.length:Int)=(ps.length:Int)-1↔rest=[]:=by
    have : ps.length=pfx.length+1+rest.length:=by rw [hal]; simp; omega
    constructor
    ·intro h; exact List.eq_nil_of_length_eq_zero (by omega)
    ·rintro rfl; simp at this; omega
   have hstep:∀ (a:Rat),a=(if rest=[] then each+mO b else each) →
     (∀ r,L.loop [1,4,6,7,21,22,23] [2,3,7] qX (k+1) [.loc k 0,eu ps,dV each,.bf (k+1) 0 (acc.length+1) 2,eu ps,.int .i64 ps.length,.int .i64 ((pfx.length+1:Nat):Int)] (pre++[.live (aO b),.live (fP acc++[.int .i64 p.2,.str (LU a)])])=some r →
      L.loop [1,4,6,7,21,22,23] [2,3,7] qX (k+1) [.loc k 0,eu ps,dV each,.bf (k+1) 0 acc.length 2,eu ps,.int .i64 ps.length,.int .i64 pfx.length] (pre++[.live (aO b),.live (fP acc)])=some r):=by
    intro a ha r hr
    have e1:IntKind.i64.wrap ((pfx.length:Int)+1)=((pfx.length+1:Nat):Int):=by rw [wrap64 _ (by omega)]; omega
    have e2:IntKind.i64.wrap ((ps.length:Int)-1)=(ps.length:Int)-1:=wrap64 _ (by omega)
    have hlen:acc.length+1≤4294967296:=by omega
    have htk:(fP acc).take (acc.length*2)=fP acc:=List.take_of_length_le (by omega)
    have hP0:¬ (pfx.length:Int)=0:=by omega
    have hP0N:¬ pfx.length=0:=by omega
    obtain ⟨p1,p2⟩:=p
    simp only at *
    unfold eu at *
    obtain ⟨g1,g2,g3,g4⟩:=hg
    generalize hfcq:fP acc=fc at *
    generalize acc.length=A at *
    by_cases hrest:rest=[]
    ·have hi:=hlast.2 hrest
     rw [if_pos hrest] at ha
     subst ha
     generalize each+mO b=es at *
     generalize mO b=rd at *
     unfold aX at hbr
     generalize aO b=B at *
     have htkB:B.take 9=B:=List.take_of_length_le (by omega)
     generalize bI ps=pc at *
     generalize ps.length=N at *
     generalize pfx.length=P at *
     have hltI:(P:Int)<N:=by omega
     have hi':(N:Int)-1=P:=by omega
     have e2':IntKind.i64.wrap (P:Int)=P:=wrap64 _ (by omega)
     rcases hpre with ⟨rfl,rfl⟩ | ⟨rfl,rfl⟩
     ·refine aJ (kW ..) ?_
      simp at hr
      simp [jW,hlt,hltI,g1,g2,g3,g4,hP0,hP0N,e1,e2,e2',hi',hbc,hbl,hbd,htkB,hbr,hadd,ht2,qE,hfc,hfl,htk,hlen,hr,qF]
     ·refine aJ (kW ..) ?_
      simp at hr
      simp [jW,hlt,hltI,g1,g2,g3,g4,hP0,hP0N,e1,e2,e2',hi',hbc,hbl,hbd,htkB,hbr,hadd,ht2,qE,hfc,hfl,htk,hlen,hr,qF]
    ·have hi:¬ (pfx.length:Int)=(ps.length:Int)-1:=fun h=>hrest (hlast.1 h)
     rw [if_neg hrest] at ha
     subst ha
     generalize aO b=B at *
     generalize bI ps=pc at *
     generalize ps.length=N at *
     generalize pfx.length=P at *
     have hltI:(P:Int)<N:=by omega
     rcases hpre with ⟨rfl,rfl⟩ | ⟨rfl,rfl⟩
     ·refine aJ (kW ..) ?_
      simp at hr
      simp [jW,hlt,hltI,g1,g2,g3,g4,hP0,hP0N,e1,e2,hi,hbc,hbl,hbd,ht1,qE,hfc,hfl,htk,hlen,hr,qF]
     ·refine aJ (kW ..) ?_
      simp at hr
      simp [jW,hlt,hltI,g1,g2,g3,g4,hP0,hP0N,e1,e2,hi,hbc,hbl,hbd,ht1,qE,hfc,hfl,htk,hlen,hr,qF]
   have hn2:=ih (pfx++[p]) (acc++[(p.2,if rest=[] then each+mO b else each)]) (by rw [hal]; simp) (by simp) (by simp [hl])
   rw [MH,MH,show fP [(p.2,if rest=[] then each+mO b else each)]=[.int .i64 p.2,.str (LU (if rest=[] then each+mO b else each))] from rfl,List.length_append,List.length_append,List.length_singleton,List.length_singleton] at hn2
   have := hstep _ rfl _ hn2
   rw [this]
   have hE2:fP (acc++pJ each (mO b) (p::rest))=fP acc++[.int .i64 p.2,.str (LU (if rest=[] then each+mO b else each))]++fP (pJ each (mO b) rest):=by
    rw [MH]
    cases rest with
    | nil=>simp [pJ,fP]
    | cons q r=>simp [pJ,fP]
   rw [hE2,MH acc]
   rfl
def dP (b:aQ):Er×List (Int×Rat):=match (aZ b).1 with
 | some e=>(anh (some e),[])
 | none=>match (aZ b).2 with
   | []=>(none,[])
   | p::r=>match sD b p with
     | .error c=>(some (c,none),[])
     | .ok q=>(none,Es q (jV b) (mO b) (p::r))
theorem kC {b:aQ} (h:(aZ b).1=none) {p:Int×Int} (hp:p∈(aZ b).2):bn p.1∧bn p.2∧p.1<p.2:=by
 have hw:=iD h
 obtain ⟨i,hi⟩:=List.getElem?_of_mem hp
 have hlt:=hw.2.ord i p hi
 have hchk:=hw.1
 obtain ⟨z1,z2,z3⟩:=Kv (dX hchk).1
 have hraw:∀ {i:Nat} {q:Int×Int},(dW b)[i]?=some q→bn q.1∧bn q.2:=by
  intro i q hq
  have hl:i<bT b:=by rw [← uG]; exact (List.getElem?_eq_some_iff.1 hq).1
  rw [y9 hl] at hq
  simp at hq
  subst hq
  have hd:∀ n:Nat,bn (((anch b n).getD 0:Nat):Int):=by
   intro n
   cases ha:anch b n with
   | none=>exact ⟨by simp,by simp⟩
   | some a=>simpa using Xg ha
  refine ⟨?_,hd _⟩
  simp only
  split
  ·exact z1
  ·exact hd _
 have : bn p.1∧bn p.2:=by
  unfold aZ at hi
  rw [hchk] at hi
  simp only at hi
  split at hi
  ·exact hraw hi
  ·split at hi
   ·simp at hi
   ·split at hi
    ·split at hi
     ·rename_i x q r hx
      cases i with
      | zero =>
        simp at hi
        subst hi
        have := hraw (i:=1) (q:=q) (by rw [hx]; rfl)
        exact ⟨z1,this.2⟩
      | succ i =>
        simp at hi
        exact hraw (i:=i+2) (q:=p) (by rw [hx]; simpa using hi)
     ·exact hraw hi
    ·exact hraw hi
 exact ⟨this.1,this.2,hlt⟩
def callOf (k:Nat) (pre:Mem):Er×List (Int×Rat)→D×Mem
 | (some e,_)=>(.bg [.bH,Dw (some e)],pre)
 | (none,fs)=>(.bg [.bf k 0 fs.length 2,.aK],pre++[.live (fP fs)])
set_option maxHeartbeats 1000000 in
theorem aln {b:aQ} {pre:Mem} {k:Nat} (hpre:(pre=[]∧k=0)∨(pre=[.live (aO b)]∧k=1)) (hc:b.dH.length≤1000000) (hr:b.dM.length≤1000000) :
  L.bK DV [aX b] pre=some (callOf k pre (dP b)):=by
 have hpl:=KX hc hr
 have hbc:=fun n=>mF b n
 have hbl:=rW b
 have hbd:=ql b 0 10
 unfold Bf at hpl
 cases hp:(aZ b).1 with
 | some e =>
   rw [hp] at hpl
   unfold dP
   rw [hp]
   obtain ⟨ec,es⟩:=e
   simp [fE,jf] at hpl
   simp only [anh,callOf,Dw]
   unfold eu at hpl
   have hcl:=jB (aZ b).2 0 11
   unfold aX at hpl ⊢
   generalize aO b=B at *
   have htkB:B.take 9=B:=List.take_of_length_le (by omega)
   generalize (aZ b).2.length=pn at *
   generalize bI (aZ b).2=pc at *
   rcases hpre with ⟨rfl,rfl⟩ | ⟨rfl,rfl⟩
   ·refine qm JA rfl (Jw ..) ?_
    simp [Fz,hpl,hbc,hbl,hbd,htkB,jf]
   ·refine qm JA rfl (Jw ..) ?_
    simp [Fz,hpl,hbc,hbl,hbd,htkB,jf]
 | none =>
   have hw:=iD hp
   have hchk:=hw.1
   have hf:=nP (dX hchk).2.1
   have hreg:=Ux hf hc hr
   rw [hp] at hpl
   simp only [fE] at hpl
   unfold dP
   rw [hp]
   simp only
   have hdays:=fun {p} h=>kC hp (p:=p) h
   have hplen:=hw.2.len
   have hpne:=hw.2.ne
   cases hps:(aZ b).2 with
   | nil=>exact absurd hps hpne
   | cons p r =>
     obtain ⟨d1,d2,d3⟩:=hdays (p:=p) (by rw [hps]; simp)
     have hpay:=Vg hp hc hr d1 d2 d3
     rw [hps] at hpl hplen
     simp only
     have hlen1:(p::r).length=r.length+1:=rfl
     cases hpb:sD b p with
     | error c =>
       rw [hpb] at hpay
       simp only [Hz] at hpay
       simp only [callOf,Dw]
       have hg:=vO (ps:=p::r) (i:=0) (p:=p) rfl
       have hcl:=jB (p::r) 0 11
       unfold pD at hpay
       obtain ⟨p1,p2⟩:=p
       simp only at *
       obtain ⟨g1,g2,g3,g4⟩:=hg
       simp only [Nat.zero_mul,Nat.zero_add,List.drop_zero] at g1 g2 g3 g4
       unfold eu at hpl
       generalize jV b=rp at *
       generalize bI ((p1,p2)::r)=pc at *
       generalize hN:((p1,p2)::r).length=N at *
       have hN0:0<N:=by omega
       have hN0I:(0:Int)<N:=by omega
       unfold aX at hpl hreg hpay ⊢
       generalize aO b=B at *
       have htkB:B.take 9=B:=List.take_of_length_le (by omega)
       have hlp:L.loop [1,4,6,7,21,22,23] [2,3,7] qX (k+1) [.loc k 0,.sl N pc,dV rp,.bH,.sl N pc,.int .i64 N,.int .i64 0] (pre++[.live B])=some (.ret,[.bH,EU c,.bH],pre++[.live B]):=by
        rcases hpre with ⟨rfl,rfl⟩ | ⟨rfl,rfl⟩
        ·refine aJ (kW ..) ?_
         simp [jW,hN0,hN0I,g1,g2,g3,g4,hbc,hbl,hbd,htkB,hpay,qF]
        ·refine aJ (kW ..) ?_
         simp [jW,hN0,hN0I,g1,g2,g3,g4,hbc,hbl,hbd,htkB,hpay,qF]
       rcases hpre with ⟨rfl,rfl⟩ | ⟨rfl,rfl⟩
       ·simp at hlp
        refine qm JA rfl (Jw ..) ?_
        simp [Fz,hpl,hbc,hbl,hbd,htkB,hreg,hlp]
       ·simp at hlp
        refine qm JA rfl (Jw ..) ?_
        simp [Fz,hpl,hbc,hbl,hbd,htkB,hreg,hlp]
     | ok q =>
       rw [hpb] at hpay
       simp only [Hz] at hpay
       simp only [callOf]
       have hqB:=aaV hchk d1 d2 hpb (fun l hl=>(Gq hchk d2 hl).2)
       have hrest:=of_rest hpre hc hr (agA hf) (by omega) (by omega) (ps:=p::r) (by omega) r [p] [(p.2,if r=[] then q+mO b else q)] rfl (by simp) rfl
       have hfl:fP ([(p.2,if r=[] then q+mO b else q)]++pJ (jV b) (mO b) r)=fP (Es q (jV b) (mO b) (p::r)):=by
        cases r with
        | nil=>simp [Es,pJ,fP]
        | cons p2 r2=>simp [Es,fP]
       rw [hfl] at hrest
       have hfll:=Zy q (jV b) (mO b) (p::r)
       have hfcl:=fun n=>JM (Es q (jV b) (mO b) (p::r)) n 11
       rw [hfll]
       generalize fP (Es q (jV b) (mO b) (p::r))=FC at *
       have hg:=vO (ps:=p::r) (i:=0) (p:=p) rfl
       have hcl:=jB (p::r) 0 11
       have hbr:=FT hc hr
       have hadd:=Lh hqB (aaj b) (by omega)
       have ht1:=DZ hqB (by omega) (by omega)
       have ht2:=DZ (hqB.add (aaj b)) (by omega) (by omega)
       unfold pD at hpay
       obtain ⟨p1,p2⟩:=p
       simp only at *
       obtain ⟨g1,g2,g3,g4⟩:=hg
       simp only [Nat.zero_mul,Nat.zero_add,List.drop_zero] at g1 g2 g3 g4
       unfold eu at hpl hrest
       simp only [fP,List.length_singleton] at hrest
       generalize bI ((p1,p2)::r)=pc at *
       generalize hN:((p1,p2)::r).length=N at *
       have hN0:0<N:=by omega
       have hN0I:(0:Int)<N:=by omega
       have e2:IntKind.i64.wrap ((N:Int)-1)=(N:Int)-1:=wrap64 _ (by omega)
       have hlp:L.loop [1,4,6,7,21,22,23] [2,3,7] qX (k+1) [.loc k 0,.sl N pc,dV (jV b),.bH,.sl N pc,.int .i64 N,.int .i64 0] (pre++[.live (aO b)])=some (.exit 0,[.undef,.undef,.bf (k+1) 0 N 2],pre++[.live (aO b),.live FC]):=by
        generalize jV b=rp at *
        by_cases hr0:r=[]
        ·subst hr0
         simp at hN
         subst hN
         rw [if_pos rfl] at hrest
         generalize q+mO b=qs at *
         generalize mO b=rd at *
         unfold aX at hpl hreg hpay hbr
         generalize aO b=B at *
         have htkB:B.take 9=B:=List.take_of_length_le (by omega)
         rcases hpre with ⟨rfl,rfl⟩ | ⟨rfl,rfl⟩
         ·simp at hrest
          refine aJ (kW ..) ?_
          simp [jW,g1,g2,g3,g4,hbc,hbl,hbd,htkB,hpay,hbr,hadd,ht2,qE,wrap64,hrest,qF]
         ·simp at hrest
          refine aJ (kW ..) ?_
          simp [jW,g1,g2,g3,g4,hbc,hbl,hbd,htkB,hpay,hbr,hadd,ht2,qE,wrap64,hrest,qF]
        ·rw [if_neg hr0] at hrest
         have hrl:0<r.length:=List.length_pos_iff.2 hr0
         have hN1:¬ (0:Int)=(N:Int)-1:=by omega
         have hN1':¬ (N:Int)-1=0:=by omega
         unfold aX at hpl hreg hpay
         generalize aO b=B at *
         have htkB:B.take 9=B:=List.take_of_length_le (by omega)
         rcases hpre with ⟨rfl,rfl⟩ | ⟨rfl,rfl⟩
         ·simp at hrest
          refine aJ (kW ..) ?_
          simp [jW,hN0,hN0I,g1,g2,g3,g4,hbc,hbl,hbd,htkB,hpay,e2,hN1,hN1',ht1,qE,wrap64,hrest,qF]
         ·simp at hrest
          refine aJ (kW ..) ?_
          simp [jW,hN0,hN0I,g1,g2,g3,g4,hbc,hbl,hbd,htkB,hpay,e2,hN1,hN1',ht1,qE,wrap64,hrest,qF]
       generalize jV b=rp at *
       unfold aX at hpl hreg hpay ⊢
       generalize aO b=B at *
       have htkB:B.take 9=B:=List.take_of_length_le (by omega)
       rcases hpre with ⟨rfl,rfl⟩ | ⟨rfl,rfl⟩
       ·simp at hlp
        refine qm JA rfl (Jw ..) ?_
        simp [Fz,hpl,hbc,hbl,hbd,htkB,hreg,hlp,hfcl]
       ·simp at hlp
        refine qm JA rfl (Jw ..) ?_
        simp [Fz,hpl,hbc,hbl,hbd,htkB,hreg,hlp,hfcl]
def P8 (r:Er×List (Int×Rat)):D := .bg [flD r.2,Dw r.1]
end Go.Ev.Code
end
