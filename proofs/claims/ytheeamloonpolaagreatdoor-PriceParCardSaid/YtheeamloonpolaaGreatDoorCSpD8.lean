/- A part of the proof of riskZero_card, yieldPar_card, pricePar_card. -/
import Derived.Test.YtheeamloonpolaaGreatDoorCSpD3
import Derived.Test.YtheeamloonpolaaGreatDoorCSpD2
set_option linter.unusedVariables false
set_option linter.unusedSimpArgs false
section
namespace Go.Ev.Code
open Go Go.Ev
theorem anJ {y m:Nat} (hy:1900≤y) (h1:1≤m) (h2:m≤12):∃ y1 m1 y6 m6:Nat,y1*12+m1=y*12+m+1∧y6*12+m6=y*12+m+6∧1≤m1∧m1≤12∧1≤m6∧m6≤12∧dayOf y1 m1 1+150≤dayOf y6 m6 1:=by
 have hb:=Aw hy
 have hm:m=1∨m=2∨m=3∨m=4∨m=5∨m=6∨m=7∨m=8∨m=9∨m=10∨m=11∨m=12:=by omega
 have f2:∀ y,28≤bP y 2∧bP y 2≤29:=fun y=>by
  show 28≤(if leap y=true then 29 else 28)∧(if leap y=true then 29 else 28)≤29
  split <;> omega
 have e2:=f2 y
 have e2':=f2 (y+1)
 have c0:dF y 12=bP y 1+bP y 2+bP y 3+bP y 4+bP y 5+bP y 6+bP y 7+bP y 8+bP y 9+bP y 10+bP y 11+bP y 12:=by simp only [dF,Nat.zero_add,Nat.reduceAdd]
 have l1:∀ y,bP y 1=31:=fun _=>rfl
 have l3:∀ y,bP y 3=31:=fun _=>rfl
 have l4:∀ y,bP y 4=30:=fun _=>rfl
 have l5:∀ y,bP y 5=31:=fun _=>rfl
 have l6:∀ y,bP y 6=30:=fun _=>rfl
 have l7:∀ y,bP y 7=31:=fun _=>rfl
 have l8:∀ y,bP y 8=31:=fun _=>rfl
 have l9:∀ y,bP y 9=30:=fun _=>rfl
 have l10:∀ y,bP y 10=31:=fun _=>rfl
 have l11:∀ y,bP y 11=30:=fun _=>rfl
 have l12:∀ y,bP y 12=31:=fun _=>rfl
 rcases hm with rfl | rfl | rfl | rfl | rfl | rfl | rfl | rfl | rfl | rfl | rfl | rfl
 ·exact ⟨y,2,y,7,by omega,by omega,by omega,by omega,by omega,by omega,by simp only [dayOf,dF,Nat.reduceAdd,Nat.reduceSub,l1,l3,l4,l5,l6,l7,l8,l9,l10,l11,l12]; omega⟩
 ·exact ⟨y,3,y,8,by omega,by omega,by omega,by omega,by omega,by omega,by simp only [dayOf,dF,Nat.reduceAdd,Nat.reduceSub,l1,l3,l4,l5,l6,l7,l8,l9,l10,l11,l12]; omega⟩
 ·exact ⟨y,4,y,9,by omega,by omega,by omega,by omega,by omega,by omega,by simp only [dayOf,dF,Nat.reduceAdd,Nat.reduceSub,l1,l3,l4,l5,l6,l7,l8,l9,l10,l11,l12]; omega⟩
 ·exact ⟨y,5,y,10,by omega,by omega,by omega,by omega,by omega,by omega,by simp only [dayOf,dF,Nat.reduceAdd,Nat.reduceSub,l1,l3,l4,l5,l6,l7,l8,l9,l10,l11,l12]; omega⟩
 ·exact ⟨y,6,y,11,by omega,by omega,by omega,by omega,by omega,by omega,by simp only [dayOf,dF,Nat.reduceAdd,Nat.reduceSub,l1,l3,l4,l5,l6,l7,l8,l9,l10,l11,l12]; omega⟩
 ·exact ⟨y,7,y,12,by omega,by omega,by omega,by omega,by omega,by omega,by simp only [dayOf,dF,Nat.reduceAdd,Nat.reduceSub,l1,l3,l4,l5,l6,l7,l8,l9,l10,l11,l12]; omega⟩
 ·refine ⟨y,8,y+1,1,by omega,by omega,by omega,by omega,by omega,by omega,?_⟩
  simp only [dayOf,hb,c0,dF,Nat.reduceAdd,Nat.reduceSub,l1,l3,l4,l5,l6,l7,l8,l9,l10,l11,l12]; omega
 ·refine ⟨y,9,y+1,2,by omega,by omega,by omega,by omega,by omega,by omega,?_⟩
  simp only [dayOf,hb,c0,dF,Nat.reduceAdd,Nat.reduceSub,l1,l3,l4,l5,l6,l7,l8,l9,l10,l11,l12]; omega
 ·refine ⟨y,10,y+1,3,by omega,by omega,by omega,by omega,by omega,by omega,?_⟩
  simp only [dayOf,hb,c0,dF,Nat.reduceAdd,Nat.reduceSub,l1,l3,l4,l5,l6,l7,l8,l9,l10,l11,l12]; omega
 ·refine ⟨y,11,y+1,4,by omega,by omega,by omega,by omega,by omega,by omega,?_⟩
  simp only [dayOf,hb,c0,dF,Nat.reduceAdd,Nat.reduceSub,l1,l3,l4,l5,l6,l7,l8,l9,l10,l11,l12]; omega
 ·refine ⟨y,12,y+1,5,by omega,by omega,by omega,by omega,by omega,by omega,?_⟩
  simp only [dayOf,hb,c0,dF,Nat.reduceAdd,Nat.reduceSub,l1,l3,l4,l5,l6,l7,l8,l9,l10,l11,l12]; omega
 ·refine ⟨y+1,1,y+1,6,by omega,by omega,by omega,by omega,by omega,by omega,?_⟩
  simp only [dayOf,hb,c0,dF,Nat.reduceAdd,Nat.reduceSub,l1,l3,l4,l5,l6,l7,l8,l9,l10,l11,l12]; omega
theorem aiL {a b:Int} (ha:bG a) (hb:bG b) (h:mi a+6≤mi b):a+150<b:=by
 obtain ⟨y,m,d,hc,rfl,_⟩:=eH ha
 obtain ⟨y',m',d',hc',rfl,_⟩:=eH hb
 rw [uH hc,uH hc'] at h
 have a1:=hc.y1; have a2:=hc.m1; have a3:=hc.m2; have a4:=hc'.y2; have a5:=hc'.m1; have a6:=hc'.m2
 obtain ⟨y1,m1,y6,m6,e1,e6,b1,b2,b3,b4,hg⟩:=anJ hc.y1 hc.m1 hc.m2
 have p1:=A_ (y:=y1) b1 b2
 have p6:=A_ (y:=y6) b3 b4
 have c1:rD y1 m1 1:=⟨by omega,by omega,b1,b2,by omega,by omega⟩
 have c6:rD y6 m6 1:=⟨by omega,by omega,b3,b4,by omega,by omega⟩
 have h1:=AB hc c1 (by omega)
 rcases Nat.lt_or_ge (y6*12+m6) (y'*12+m') with h2 | h2
 ·have h3:=AB c6 hc' h2
  omega
 ·obtain rfl:y6=y':=by omega
  obtain rfl:m6=m':=by omega
  have := hc'.d1
  have h3:dayOf y6 m6 1≤dayOf y6 m6 d':=by unfold dayOf; omega
  omega
structure Lone (b:aH):Prop where
 m1:20000≤b.cZ
 m2:b.cZ≤99999
 i1:b.issue<b.cZ
 i2:b.cZ≤b.issue+150
 fr:b.dA=2
 cp:b.dX=[53]
 rd:b.dV=[49,48,48]
 ct:b.count=1
 s1:1≤b.stub
 s2:b.stub≤2
 ex:b.ex=0
theorem Lone.day {b:aH} (h:Lone b):bG b.cZ:=⟨by have := h.m1; omega,by have := h.m2; omega⟩
theorem Lone.Hy {b:aH} (h:Lone b):bG b.issue:=⟨by have := h.m1; have := h.i2; omega,by have := h.m2; have := h.i1; omega⟩
theorem Lone.mo {b:aH} (h:Lone b):months b=6:=by unfold months; rw [h.fr]; rfl
theorem Lone.sums {b:aH} (h:Lone b):xM b=none:=by
 unfold xM
 rw [h.cp,h.rd]
 decide +kernel
theorem Lone.mi6 {b:aH} (h:Lone b):mi b.cZ<mi b.issue+6:=by
 rcases Nat.lt_or_ge (mi b.cZ) (mi b.issue+6) with h1 | h1
 ·exact h1
 ·have := aiL h.Hy h.day h1
  have := h.i2
  omega
theorem Lone.lJ {b:aH} (h:Lone b):chk b=none:=by
 have hmo:=yu h.Hy h.day (by have := h.i1; omega)
 have hd:Di b=none:=by
  unfold Di
  rw [if_neg (by have := h.Hy; simpa using this),if_neg (by have := h.day; simpa using this),if_neg (by have := h.i1; omega)]
  split
  ·rename_i e he
   have h1:=BZ he
   have h2:=h.mi6
   have h3:=NR h.day (Dy he) (by omega)
   rw [if_neg (by omega)]
  ·rfl
 have hp:U2 b≤200:=by
  unfold U2
  rw [aew,h.mo]
  have h2:=h.mi6
  rw [Int.tdiv_eq_ediv_of_nonneg (by omega)]
  omega
 unfold chk
 rw [hd,h.mo,h.sums]
 simp only
 rw [if_neg (by omega),if_neg (by have := h.ct; omega),if_neg (by have := h.s1; have := h.s2; omega),if_neg (by have := h.ex; omega),if_neg (by omega)]
theorem Lone.far {b:aH} (h:Lone b) {c:Nat} (hc:anch b 1=some c):(c:Int)<b.issue:=by
 unfold anch at hc
 rw [h.mo] at hc
 have h1:=BZ hc
 have h2:=aiL (Dy hc) h.day (by omega)
 have := h.i2
 omega
theorem Lone.kEq {b:aH} (h:Lone b):bQ b=1:=by
 obtain ⟨k1,k2,k3⟩:=Gf (b:=b) (by rw [h.mo]; omega)
 have g1:Goes b 0:=⟨_,TB h.day,by have := h.i1; have := h.m1; omega⟩
 have g2:¬ Goes b 1:=by
  rintro ⟨a,ha,hlt⟩
  have := h.far ha
  omega
 rcases Nat.lt_trichotomy (bQ b) 1 with hl | hl | hl
 ·have : bQ b=0:=by omega
  rw [this] at k2
  exact absurd g1 k2
 ·exact hl
 ·exact absurd (k1 _ hl) g2
theorem Lone.hit {b:aH} (h:Lone b):FV b=false:=by
 unfold FV
 rw [h.kEq]
 split
 ·rename_i a ha
  have := h.far ha
  simp only [decide_eq_false_iff_not]
  omega
 ·rfl
theorem Lone.raw {b:aH} (h:Lone b):dR b=[(b.issue,b.cZ)]:=by
 unfold dR
 rw [h.kEq]
 have h0:=TB h.day
 simp [eu,h0,dZ]
 have := h.m1
 omega
theorem Lone.plan {b:aH} (h:Lone b):aS b=(none,[(b.issue,b.cZ)]):=by
 unfold aS
 rw [h.lJ]
 simp only
 rw [h.hit,if_neg (by decide),if_neg (by have := h.s1; omega),h.raw]
 split <;> rfl
theorem Lone.flow {b:aH} (h:Lone b):∃ a,bH b=(none,[(b.cZ,a)]):=by
 unfold bH
 rw [h.plan]
 simp only
 have hp:∃ q,xW b (b.issue,b.cZ) = .ok q:=by
  unfold xW
  split
  ·exact ⟨_,rfl⟩
  ·unfold og
   rw [if_neg (by have := h.ct; omega),if_neg (by have := h.i1; simp only; omega)]
   exact ⟨_,rfl⟩
 obtain ⟨q,hq⟩:=hp
 rw [hq]
 exact ⟨_,rfl⟩
end Go.Ev.Code
end
section
namespace Go.Ev.Code
open Go Go.Ev
theorem adD (b:aH):L.call kY [aT b]=some (.int .i64 (months b)):=by
 obtain ⟨i,m,f,c,r,n,s,e,x⟩:=b
 unfold months aT aQ
 refine aN Vw rfl (Vs ..) ?_
 simp only
 by_cases h1:f=1
 ·subst h1; simp [lH,wrap64]
 by_cases h2:f=2
 ·subst h2; simp [lH,wrap64]
 by_cases h4:f=4
 ·subst h4; simp [lH,wrap64]
 by_cases h12:f=12
 ·subst h12; simp [lH,wrap64]
 ·simp [lH,h1,h2,h4,h12]
structure Long (b:aH) (A:Nat) (k:Int):Prop where
 i1:0≤b.issue
 i2:b.issue≤97572
 fr:tY b.dA
 cp:b.dX=[53]
 rd:b.dV=[49,48,48]
 ct:b.count=4
 st:b.stub=1
 ex:b.ex=0
 hA:nO b.issue 360 false=some A
 k1 : -2≤k
 k2:k≤2
 mt:b.cZ=A+k
theorem aq3:mi 97572≤26010:=by decide +kernel
theorem ao_:26370<mi 109400:=by decide +kernel
theorem Long.Hy {b:aH} {A:Nat} {k:Int} (h:Long b A k):bG b.issue:=⟨h.i1,by have := h.i2; omega⟩
theorem Long.mi1 {b:aH} {A:Nat} {k:Int} (h:Long b A k):mi b.issue≤26010:=by
 have h1:=yu h.Hy (b:=97572) (by decide) h.i2
 have := aq3
 omega
theorem Long.miA {b:aH} {A:Nat} {k:Int} (h:Long b A k):(mi A:Int)=mi b.issue+360∧bG A:=⟨BZ h.hA,Dy h.hA⟩
theorem Long.day {b:aH} {A:Nat} {k:Int} (h:Long b A k):bG b.cZ∧b.issue<b.cZ:=by
 obtain ⟨h1,h2⟩:=h.miA
 have h3:=h.mi1
 have h4:=ao_
 have h5:=NR h2 (b:=109400) (by decide) (by omega)
 have h6:=as6 h.Hy h2 (by omega)
 have := h.k1; have := h.k2; have := h.mt; have := h.i1
 exact ⟨⟨by omega,by omega⟩,by omega⟩
theorem Long.sums {b:aH} {A:Nat} {k:Int} (h:Long b A k):xM b=none:=by
 unfold xM
 rw [h.cp,h.rd]
 decide +kernel
end Go.Ev.Code
end
section
namespace Go.Ev.Code
open Go Go.Ev
theorem J_ (b:aH) {k:Nat} (hk:k≤100000):L.call kX [aT b,.int .i64 k]=some (okD (anch b k)):=by
 have hm:=adD b
 have ha:=mY b.cZ (-(k:Int)*months b) b.ends
 have hmc:=sN b
 have e1:IntKind.i64.wrap (-(k:Int)) = -(k:Int):=wrap64 _ (by omega)
 have e0:IntKind.i64.wrap (0-(k:Int)) = -(k:Int):=by rw [wrap64 _ (by omega)]; omega
 have e2:IntKind.i64.wrap (-(k:Int)*months b) = -(k:Int)*months b:=by
  refine wrap64 _ ?_
  rcases hmc with h | h | h | h | h <;> rw [h] <;> omega
 unfold anch
 generalize hx : -(k:Int)*months b=x at *
 generalize hr:nO b.cZ x b.ends=r at *
 generalize months b=mo at *
 obtain ⟨i,m,f,c,rd,n,s,e,ex⟩:=b
 unfold aT aQ at *
 simp only at *
 refine aN Vu rfl (Vr ..) ?_
 have e2':IntKind.i64.wrap (-((k:Int)*mo))=x:=by rw [← e2,← hx,Int.neg_mul]
 have hx' : -((k:Int)*mo)=x:=by rw [← hx,Int.neg_mul]
 cases r with
 | none=>simp [okD] at ha; simp [Ag,hm,e0,e1,e2,e2',hx,hx',ha,okD]
 | some d=>simp [okD] at ha; simp [Ag,hm,e0,e1,e2,e2',hx,hx',ha,okD]
theorem arp {b:aH} {K:Nat} (hK:K≤90000) (hgo:∀ i,i<K→∃ d,anch b i=some d∧b.issue≤(d:Int)) (hst:∀ d,anch b K=some d→(d:Int)<b.issue):∀ (j k:Nat),k+j=K→1≤k →
  L.loop [1,4,5] [1,4] iZ 1 [.loc 0 0,.bf 1 0 k 1,.int .i64 k] [.live (aQ b),.live (ints (eu b k))] =
    some (.exit 0,[.loc 0 0,.bf 1 0 K 1],[.live (aQ b),.live (ints (eu b K))]):=by
 intro j
 induction j with
 | zero =>
   intro k hk h1
   have hkK:k=K:=by omega
   subst hkK
   have ha:=J_ b (k:=k) (by omega)
   have hcl:=zl (eu b k) 1 11
   have hl:(ints (eu b k)).length=k:=by rw [wU,pI]
   generalize ints (eu b k)=l at *
   generalize hr:anch b k=r at *
   obtain ⟨i,m,f,c,rd,n,s,e,ex⟩:=b
   unfold aT aQ at *
   simp only at *
   refine aO (zf ..) ?_
   cases r with
   | none=>simp [okD] at ha; simp [nV,ha,hcl]
   | some d =>
     have g:(d:Int)<i:=hst d rfl
     simp [okD] at ha; simp [nV,ha,g,hcl]
 | succ j ih =>
   intro k hk h1
   have hn:=ih (k+1) (by omega) (by omega)
   have ha:=J_ b (k:=k) (by omega)
   obtain ⟨d,hd,hdi⟩:=hgo k (by omega)
   rw [TD,hd,Option.getD_some,abX] at hn
   rw [hd] at ha
   have hcl:=zl (eu b k) 1 11
   have hl:(ints (eu b k)).length=k:=by rw [wU,pI]
   generalize ints (eu b k)=l at *
   generalize ints (eu b K)=lK at *
   have htk:l.take k=l:=List.take_of_length_le (by omega)
   have hlen:k+1≤4294967296:=by omega
   have e1:IntKind.i64.wrap ((k:Int)+1)=((k+1:Nat):Int):=by rw [wrap64 _ (by omega)]; omega
   obtain ⟨i,m,f,c,rd,n,s,e,ex⟩:=b
   unfold aT aQ at *
   simp only at *
   simp [okD] at ha hn
   have g:¬ (d:Int)<i:=by omega
   refine aO (zf ..) ?_
   simp [nV,ha,g,hcl,htk,hl,hlen,e1,qP,hn]
theorem amg {b:aH} {K:Nat} (hK:K≤90000) (h1:1≤K) (hgo:∀ i,i<K→∃ d,anch b i=some d∧b.issue≤(d:Int)) (hst:∀ d,anch b K=some d→(d:Int)<b.issue) :
  L.loop [1,4,5] [1,4] iZ 1 [.loc 0 0,.cu,.int .i64 0] [.live (aQ b)] =
    some (.exit 0,[.loc 0 0,.bf 1 0 K 1],[.live (aQ b),.live (ints (eu b K))]):=by
 have hn:=arp hK hgo hst (K-1) 1 (by omega) (by omega)
 have ha:=J_ b (k:=0) (by omega)
 obtain ⟨d,hd,hdi⟩:=hgo 0 (by omega)
 rw [show eu b 1=[(anch b 0).getD 0] by simp [eu],hd,Option.getD_some,show ((1:Nat):Int)=1 from rfl] at hn
 rw [hd] at ha
 generalize ints (eu b K)=lK at *
 obtain ⟨i,m,f,c,rd,n,s,e,ex⟩:=b
 unfold aT aQ at *
 simp only at *
 simp [okD,ints] at ha hn
 have g:¬ (d:Int)<i:=by omega
 refine aO (zf ..) ?_
 simp [nV,ha,g,qP,wrap64,hn]
theorem arq {b:aH} {days:List Nat} (hd:days.length≤90000):∀ (r:List Nat) (f:Nat) (done:List Nat) (acc:List (Int×Int)),days=r.reverse++f::done→acc≠[]→acc.length+r.length≤90000 →
  L.loop [1,4,8,9] [1,4,8] h_ 2 [.loc 0 0,.bf 1 0 days.length 1,.bf 2 0 acc.length 2,.int .i64 r.length] [.live (aQ b),.live (ints days),.live (bK acc)] =
    some (.exit 2,[.loc 0 0,.bf 1 0 days.length 1,.bf 2 0 (acc.length+r.length) 2],[.live (aQ b),.live (ints days),.live (bK (acc++dZ f r))]):=by
 have hcl:=zl days 2 11
 have hbc:=iq b 2
 intro r
 induction r with
 | nil =>
   intro f done acc hdd hne hal
   have hpc:=gX acc 2 11
   simp only [dZ,List.append_nil,List.length_nil,Nat.add_zero]
   generalize aQ b=B at *
   generalize bK acc=pc at *
   generalize ints days=id at *
   generalize days.length=K at *
   refine aO (rF ..) ?_
   simp [nX,hcl,hbc,hpc]
 | cons q r ih =>
   intro f done acc hdd hne hal
   rw [List.length_cons] at hal
   have hdd2:days=r.reverse++q::(f::done):=by rw [hdd]; simp
   have hn:=ih q (f::done) (acc++[((f:Int),(q:Int))]) hdd2 (by simp) (by simp; omega)
   have hmk:acc++dZ f (q::r)=acc++[((f:Int),(q:Int))]++dZ q r:=by simp [dZ]
   rw [← hmk] at hn
   have hl2:days.length=r.length+1+(done.length+1):=by rw [hdd]; simp; omega
   have g1:(ints days)[r.length+1]?=some (.int .i64 f):=by rw [hdd]; simp [ints]
   have g2:(ints days)[r.length]?=some (.int .i64 q):=by rw [hdd2]; simp [ints]
   have hpc:=gX acc 2 11
   rw [ab6] at hn
   have hpl:=Bj acc
   rw [show bK [((f:Int),(q:Int))]=[.int .i64 f,.int .i64 q] from rfl,List.length_append,List.length_singleton,show acc.length+1+r.length=acc.length+(r.length+1) by omega] at hn
   have htk:(bK acc).take (acc.length*2)=bK acc:=List.take_of_length_le (by omega)
   have hlen:acc.length+1≤4294967296:=by omega
   rw [List.length_cons]
   obtain ⟨P,hP⟩:∃ P,P=r.length+1:=⟨_,rfl⟩
   have e1:IntKind.i64.wrap ((P:Int)-1)=(r.length:Int):=by rw [wrap64 _ (by omega)]; omega
   rw [← hP] at g1 hn ⊢
   have h1:P<days.length:=by omega
   have h2:r.length<days.length:=by omega
   have h1I:(P:Int)<(days.length:Int):=by omega
   have h2I:(r.length:Int)<(days.length:Int):=by omega
   have h0:(0:Int)<(P:Int):=by omega
   have h0n:0<P:=by omega
   clear hmk hdd hdd2 ih hP hl2
   generalize bK (acc++dZ f (q::r))=pz at *
   generalize bK acc=pc at *
   generalize aQ b=B at *
   generalize ints days=id at *
   generalize days.length=K at *
   generalize acc.length=M at *
   generalize r.length=R at *
   refine aO (rF ..) ?_
   simp [nX,hcl,hbc,hpc,h0,h0n,h1,h2,h1I,h2I,g1,g2,e1,oO,htk,hpl,hlen,hn]
theorem amh {b:aH} {days:List Nat} (hd:days.length≤90000) {q:Nat} {r:List Nat} {f:Nat} (hdd:days=(q::r).reverse++[f]) :
  L.loop [1,4,8,9] [1,4,8] h_ 2 [.loc 0 0,.bf 1 0 days.length 1,.cu,.int .i64 ((r.length+1:Nat):Int)] [.live (aQ b),.live (ints days)] =
    some (.exit 2,[.loc 0 0,.bf 1 0 days.length 1,.bf 2 0 (r.length+1) 2],[.live (aQ b),.live (ints days),.live (bK (dZ f (q::r)))]):=by
 have hcl:=zl days 2 11
 have hbc:=iq b 2
 have hdd2:days=r.reverse++q::[f]:=by rw [hdd]; simp
 have hl2:days.length=r.length+2:=by rw [hdd]; simp
 have hn:=arq (b:=b) hd r q [f] [((f:Int),(q:Int))] hdd2 (by simp) (by simp; omega)
 rw [show [((f:Int),(q:Int))]++dZ q r=dZ f (q::r) from rfl,show bK [((f:Int),(q:Int))]=[.int .i64 f,.int .i64 q] from rfl,List.length_singleton,Nat.add_comm 1 r.length] at hn
 have g1:(ints days)[r.length+1]?=some (.int .i64 f):=by rw [hdd]; simp [ints]
 have g2:(ints days)[r.length]?=some (.int .i64 q):=by rw [hdd2]; simp [ints]
 obtain ⟨P,hP⟩:∃ P,P=r.length+1:=⟨_,rfl⟩
 have e1:IntKind.i64.wrap ((P:Int)-1)=(r.length:Int):=by rw [wrap64 _ (by omega)]; omega
 rw [← hP] at g1 hn ⊢
 have h1:P<days.length:=by omega
 have h2:r.length<days.length:=by omega
 have h1I:(P:Int)<(days.length:Int):=by omega
 have h2I:(r.length:Int)<(days.length:Int):=by omega
 have h0:(0:Int)<(P:Int):=by omega
 have h0n:0<P:=by omega
 clear hdd hdd2 hP hl2
 generalize bK (dZ f (q::r))=pz at *
 generalize aQ b=B at *
 generalize ints days=id at *
 generalize days.length=K at *
 generalize r.length=R at *
 refine aO (rF ..) ?_
 simp [nX,hcl,hbc,h0,h0n,h1,h2,h1I,h2I,g1,g2,e1,oO,hn]
def Xy:Err×List (Int×Int)→D
 | (none,ps) => .aZ [f_ ps,.bool true]
 | (some _,_) => .aZ [.sl 0 [],.bool false]
theorem ahD {b:aH} (hchk:chk b=none):L.call jB [aT b]=some (Xy (aS b)):=by
 have hm:=(dH hchk).2.1
 obtain ⟨k1,k2,k3⟩:=Gf hm
 have kp:=Jb hchk
 have k199:=aoY hchk
 unfold aS
 rw [hchk]
 simp only
 by_cases hh:FV b=true
 ·
  rw [if_pos hh]
  obtain ⟨c,hc,hci⟩:∃ c,anch b (bQ b)=some c∧(c:Int)=b.issue:=by
   unfold FV at hh
   split at hh
   ·rename_i d hd; exact ⟨d,hd,by simpa using hh⟩
   ·simp at hh
  have hgo:∀ i,i<bQ b+1→∃ d,anch b i=some d∧b.issue≤(d:Int):=by
   intro i hi
   rcases Nat.lt_or_eq_of_le (Nat.lt_succ_iff.1 hi) with h | h
   ·obtain ⟨d,h1,h2⟩:=k1 i h
    exact ⟨d,h1,by omega⟩
   ·rw [h]; exact ⟨c,hc,by omega⟩
  have hst:∀ d,anch b (bQ b+1)=some d→(d:Int)<b.issue:=by
   intro d hd
   have := Z_ hm (Nat.lt_succ_self _) hc hd
   omega
  have l1:=amg (b:=b) (K:=bQ b+1) (by omega) (by omega) hgo hst
  have hraw:dR b=dZ c (eu b (bQ b)).reverse:=by unfold dR; rw [hci]
  have hne:(eu b (bQ b)).reverse≠[]:=by
   intro h
   have := congrArg List.length h
   rw [List.length_reverse,pI] at this
   simp at this; omega
  obtain ⟨q,r,hqr⟩:=List.exists_cons_of_ne_nil hne
  have hdd:eu b (bQ b+1)=(q::r).reverse++[c]:=by rw [← hqr,List.reverse_reverse,TD,hc]; rfl
  have hlen:=pI b (bQ b+1)
  have hrl:r.length+1=bQ b:=by
   have := congrArg List.length hqr
   rw [List.length_reverse,pI] at this
   simp at this; omega
  have l2:=amh (b:=b) (days:=eu b (bQ b+1)) (by omega) hdd
  rw [hlen,hrl] at l2
  rw [hqr] at hraw
  rw [← hraw] at l2
  have hg:(ints (eu b (bQ b+1)))[bQ b]?=some (.int .i64 c):=by
   rw [TD,hc,abX,Option.getD_some,List.getElem?_append_right (by rw [wU,pI]; omega),wU,pI]
   simp
  have hpl:=Bj (dR b)
  have hrp:=r_ b
  rw [hrp] at hpl
  have htk:(bK (dR b)).take (bQ b*2)=bK (dR b):=List.take_of_length_le (by omega)
  have hfz:∀ m,jE (fz 10) (bK (dR b)) m=some (bK (dR b),m):=fun m=>Ii (dR b) 9 m
  have hpc:=gX (dR b) 0 11
  show L.call jB [aT b]=some (D.aZ [f_ (dR b),.bool true])
  unfold f_
  rw [hrp]
  generalize bK (dR b)=pc at *
  generalize ints (eu b (bQ b+1))=id at *
  clear hgo hst k1 k2 hdd hqr hraw hne hrl hlen hc
  generalize bQ b=K at *
  have e1:IntKind.i64.wrap (((K+1:Nat):Int)-1)=(K:Int):=by rw [wrap64 _ (by omega)]; omega
  have e1':IntKind.i64.wrap ((K:Int)+1-1)=(K:Int):=by rw [wrap64 _ (by omega)]; omega
  have e1'':IntKind.i64.wrap (K:Int)=(K:Int):=wrap64 _ (by omega)
  have hKI:(K:Int)<(K:Int)+1:=by omega
  obtain ⟨i,m,f,cp,rd,n,s,e,ex⟩:=b
  unfold aT aQ at *
  simp only at *
  refine aN CO rfl (CJ ..) ?_
  simp [jy,l1,e1,e1',e1'',l2,hg,hKI,hci,hpc,hpl,hfz,htk]
 ·rw [if_neg hh]
  have hgo:∀ i,i<bQ b→∃ d,anch b i=some d∧b.issue≤(d:Int):=by
   intro i hi
   obtain ⟨d,h1,h2⟩:=k1 i hi
   exact ⟨d,h1,by omega⟩
  have hst:∀ d,anch b (bQ b)=some d→(d:Int)<b.issue:=by
   intro d hd
   have h1:¬ b.issue<(d:Int):=fun h=>k2 ⟨d,hd,h⟩
   have h2:(d:Int)≠b.issue:=by
    intro h
    apply hh
    unfold FV
    rw [hd]
    simpa using h
   omega
  have l1:=amg (b:=b) (K:=bQ b) (by omega) kp hgo hst
  have hlen:=pI b (bQ b)
  have hne:(eu b (bQ b)).reverse≠[]:=by
   intro h
   have := congrArg List.length h
   rw [List.length_reverse,hlen] at this
   simp at this; omega
  obtain ⟨c,r0,hqr⟩:=List.exists_cons_of_ne_nil hne
  have hdd0:eu b (bQ b)=r0.reverse++[c]:=by
   have := congrArg List.reverse hqr
   rw [List.reverse_reverse] at this
   rw [this]; simp
  have hrl:r0.length+1=bQ b:=by
   have := congrArg List.length hqr
   rw [List.length_reverse,hlen] at this
   simp at this; omega
  have hraw:dR b=(b.issue,(c:Int))::dZ c r0:=by unfold dR; rw [hqr]; rfl
  have hg:(ints (eu b (bQ b)))[r0.length]?=some (.int .i64 c):=by
   rw [hdd0]; simp [ints]
  have hci:¬ (c:Int)=b.issue:=by
   intro h
   have h1:=k1 (bQ b-1) (by omega)
   obtain ⟨d,h2,h3⟩:=h1
   have h4:(eu b (bQ b))[bQ b-1]?=some d:=by
    unfold eu
    rw [List.getElem?_map,List.getElem?_range (by omega)]
    simp [h2]
   rw [hdd0,show bQ b-1=r0.length by omega] at h4
   simp at h4
   omega
  rw [hraw]
  have hb2:=iq b 2
  cases r0 with
  | nil =>
    have hK:bQ b=1:=by simpa using hrl.symm
    rw [hK] at l1 hg
    simp only [List.length_nil] at hg
    have l2:L.loop [1,4,8,9] [1,4,8] h_ 2 [.loc 0 0,.bf 1 0 1 1,.cu,.int .i64 0] [.live (aQ b),.live (ints (eu b 1))] =
      some (.exit 2,[.loc 0 0,.bf 1 0 1 1,.cu],[.live (aQ b),.live (ints (eu b 1))]):=by
     have hcl:=zl (eu b 1) 2 11
     generalize ints (eu b 1)=id at *
     generalize aQ b=B at *
     refine aO (rF ..) ?_
     simp [nX,hcl,hb2]
    simp only [dZ]
    generalize ints (eu b 1)=id at *
    clear hgo hst k1 k2 hqr hraw hne hrl hlen hdd0
    have e0:IntKind.i64.wrap 0=0:=by decide
    obtain ⟨i,m,f,cp,rd,n,s,e,ex⟩:=b
    unfold aT aQ at *
    simp only at *
    refine aN CO rfl (CJ ..) ?_
    by_cases hs0:s=0
    ·subst hs0
     simp [jy,l1,e0,l2,hg,hci,Xy]
    ·by_cases hs2:s=2
     ·subst hs2
      simp [jy,l1,e0,l2,hg,hci,Xy,f_,bK,oO]
     ·simp [jy,l1,e0,l2,hg,hci,Xy,hs0,hs2,f_,bK,oO]
  | cons q r =>
    rw [List.length_cons] at hrl hg
    have l2:=amh (b:=b) (days:=eu b (bQ b)) (by omega) hdd0
    rw [hlen] at l2
    have hK2:bQ b=r.length+1+1:=hrl.symm
    have hml:=Xb c (q::r)
    rw [List.length_cons] at hml
    show L.call jB [aT b]=some (Xy (if b.stub=0 then (some (5,PU),[]) else if b.stub=2 then (none,(b.issue,(q:Int))::dZ q r) else (none,(b.issue,(c:Int))::dZ c (q::r))))
    obtain ⟨p,hp⟩:∃ p,p=dZ c (q::r):=⟨_,rfl⟩
    rw [← hp] at l2 hml ⊢
    have hp0:p=((c:Int),(q:Int))::dZ q r:=hp
    have hmr:=Xb q r
    have hpl:=Bj p
    rw [hml] at hpl
    have hpr:=Bj (dZ q r)
    rw [hmr] at hpr
    have hpe:bK p = .int .i64 c :: .int .i64 q::bK (dZ q r):=by rw [hp0]; rfl
    have htk:(bK p).take ((r.length+1)*2)=bK p:=List.take_of_length_le (by omega)
    have hfz:∀ m,jE (fz 10) (bK p) m=some (bK p,m):=fun m=>Ii p 9 m
    have hpc:=gX p 0 11
    have hfr:∀ m,jE (fz 10) (bK (dZ q r)) m=some (bK (dZ q r),m):=fun m=>Ii _ 9 m
    have hpcr:=gX (dZ q r) 0 11
    have htr:(bK (dZ q r)).take (r.length*2)=bK (dZ q r):=List.take_of_length_le (by omega)
    rw [hK2] at l1 l2 hg
    generalize ints (eu b (r.length+1+1))=id at *
    clear hgo hst k1 k2 hqr hraw hne hlen hdd0 hp
    have e1:IntKind.i64.wrap (((r.length+1+1:Nat):Int)-1)=((r.length+1:Nat):Int):=by rw [wrap64 _ (by omega)]; omega
    have h1:r.length+1<r.length+1+1:=by omega
    have h1I:((r.length+1:Nat):Int)<((r.length+1+1:Nat):Int):=by omega
    have h0I:(0:Int)<((r.length+1:Nat):Int):=by omega
    have hR2:(r.length+1)*2=r.length*2+1+1:=by omega
    have hmx:r.length+1≤4294967296:=by omega
    have hmx2:1+(r.length+1)≤4294967296:=by omega
    obtain ⟨P,hP⟩:∃ P,P=r.length+1:=⟨_,rfl⟩
    obtain ⟨P2,hP2⟩:∃ P2,P2=r.length+1+1:=⟨_,rfl⟩
    rw [← hP2] at l1 l2 e1 h1 h1I
    rw [← hP] at l2 hg e1 h1 h1I h0I htk hpl hmx hmx2 hR2 hml
    have h0n:0<P:=by omega
    obtain ⟨i,m,f,cp,rd,n,s,e,ex⟩:=b
    unfold aT aQ at *
    simp only at *
    refine aN CO rfl (CJ ..) ?_
    by_cases hs0:s=0
    ·subst hs0
     rw [if_pos rfl]
     simp [jy,l1,e1,l2,hg,h1,h1I,hci,Xy]
    ·rw [if_neg hs0]
     by_cases hs2:s=2
     ·subst hs2
      rw [if_pos rfl]
      rw [hpe] at l2
      have hb1:P*2≤(bK (dZ q r)).length+1+1:=by omega
      have hPr:r.length+1=P:=hP.symm
      simp [jy,l1,e1,l2,hg,h1,h1I,h0I,h0n,hci,Xy,f_,bK,hfr,hpcr,htr,hR2,hb1,hpr,hmr,hPr]
     ·rw [if_neg hs2]
      have h1P:1+P=P+1:=Nat.add_comm 1 P
      have hP13:(P+1)*2=P*2+1+1:=by omega
      have hP5:P≤4294967295:=by omega
      simp [jy,l1,e1,l2,hg,h1,h1I,h0I,h0n,hci,Xy,hs0,hs2,f_,bK,oO,hpc,hfz,htk,hpl,hmx,hmx2,hml,h1P,hP13,hP5]
end Go.Ev.Code
end
