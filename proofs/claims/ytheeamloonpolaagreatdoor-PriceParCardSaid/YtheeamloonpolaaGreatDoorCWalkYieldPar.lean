/- A part of the proof of riskZero_card, yieldPar_card, pricePar_card. -/
import Derived.Test.YtheeamloonpolaaGreatDoorCSpD7
import Derived.Test.YtheeamloonpolaaGreatDoorCWalkYieldFalls
set_option linter.unusedVariables false
set_option linter.unusedSimpArgs false
namespace Go.Ev.Code
open Go Go.Ev
theorem Y3:qB [49,48,48]=some (100,0):=by decide +kernel
theorem ame {b:aH} (h:chk b=none) (hr:b.dV=[49,48,48]):fZ b=100:=by
 unfold fZ
 rw [h,hr]
 simp only
 rw [Y3]
theorem QH {b:aH} (h:chk b=none) {c:Nat} (hc:c<1000000000) (hb:b.dX=fV c):qh b=Rat.divInt (c:Int) 100:=by
 unfold qh
 rw [h,hb]
 simp only
 rw [acX hc]
theorem UJ {b:aH} {c:Nat} (hc:c≤3000) (hb:b.dX=fV c) (hr:b.dV=[49,48,48]):xM b=none:=by
 unfold xM
 rw [hb,hr,acX (by omega),Y3]
 simp only
 have h0:(0:Rat)≤Rat.divInt (c:Int) 100:=by
  rw [← divInt_zero 100]
  exact vO (by omega) (by omega)
 have h1:Rat.divInt (c:Int) 100≤q30:=by
  have e:q30=Rat.divInt 3000 100:=by decide +kernel
  rw [e]
  exact vO (by omega) (by omega)
 have hn:=JW.2 h0
 rw [if_neg (by
  intro h
  rcases h with h | h | h
  ·omega
  ·omega
  ·exact absurd h1 (Rat.not_le.2 h)),if_neg (by decide +kernel)]
theorem apR {b:aH} {N mo S d:Nat} (h:iJ b N mo S d) (hc:b.dX.length≤1000000) {i:Nat} (hi:i<N) {c:Nat} (c1:c<1200) (hb:b.dX=fV c) (hr:b.dV=[49,48,48]) :
  L.call BK [aT b,.int .i64 (md (S+i*mo) d:Nat),.str [49,48,48]]=some (.aZ [.int .i64 ((c:Int)*10000),.aG]):=by
 have hf:=eG (dH h.lJ).2.1
 have hcp:=QH h.lJ (by omega) hb
 have hrd:=ame h.lJ hr
 have hpay:=al7 hf hcp
 obtain ⟨p1,p2⟩:=afw h hi (y:=(c:Int)*10000) (by omega) (by omega) hpay hrd
 have hrl:b.dV.length≤1000000:=by rw [hr]; simp
 have hE:∀ y,-2000000≤y→y≤100000000→VE b (md (S+i*mo) d:Nat) y = .ok (jW b (md (S+i*mo) d:Nat) y):=fun y h1 h2=>(h.dirty hi h1 h2).1
 have hM:∀ y z,-2000000≤y→y≤z→z≤100000000→jW b (md (S+i*mo) d:Nat) z≤jW b (md (S+i*mo) d:Nat) y:=by
  obtain ⟨hl,_,_,_,h0,_⟩:=h.at hi
  exact fun y z h1 h2 h3=>amZ hl h0 h1 h2 h3
 generalize ((md (S+i*mo) d:Nat):Int)=s at *
 have hF:∀ y,-2000000≤y→y≤100000000→L.call jR [aT b,.int .i64 s,.int .i64 y]=some (.aZ [cO (jW b s y),.aG])∧RB 17000 (jW b s y):=by
  intro y h1 h2
  obtain ⟨k1,k2⟩:=VY hc hrl s (y:=y) (by omega)
  rw [hE y h1 h2] at k1
  exact ⟨k1,k2 _ (hE y h1 h2)⟩
 have hB:RB 64 (100:Rat):=by
  have e:Rat.divInt 100 1=100:=by decide +kernel
  rw [← e]
  exact jX (gG (by omega)) (gG (by omega)) (by omega)
 have l100:([49,48,48]:List UInt8).length≤1000000:=by simp
 rcases ahK hB (by omega) hF hM with ⟨x,x1,x2,x3,x4,_,x5⟩ | ⟨x4,x5⟩
 ·have hx:x=(c:Int)*10000:=by
   rcases Int.lt_trichotomy x ((c:Int)*10000) with hlt | heq | hgt
   ·have := x4 ((c:Int)*10000) hlt (by omega)
    rw [p1] at this
    exact absurd this (Rat.lt_irrefl)
   ·exact heq
   ·have h1:=hM ((c:Int)*10000+1) x (by omega) (by omega) x2
    exact absurd (Rat.le_trans x3 h1) (Rat.not_le.2 p2)
  rw [hx] at x5
  exact alH l100 Y3 (fun e h=>by simp at h) x5
 ·rcases x4 with x4 | x4
  ·have h1:=hM (-2000000) ((c:Int)*10000) (by omega) (by omega) (by omega)
   rw [p1] at h1
   exact absurd h1 (Rat.not_le.2 x4)
  ·have h1:=hM ((c:Int)*10000) 100000000 (by omega) (by omega) (by omega)
   rw [p1] at h1
   exact absurd h1 (Rat.not_le.2 x4)
theorem ajF {y m d:Nat} (hc:rD y m d) (hd:d≤28) (hs:y*12+m≤26000) {Y:Nat} (hY1:1≤Y) (hY2:Y≤10) {F:Int} (hF:tY F) {c:Nat} (hc3:c≤3000) :
  ∃ (A N mo S e:Nat),nO (dayOf y m d:Nat) (12*(Y:Int)) false=some A∧(N:Int)=Y*F∧iJ ⟨(dayOf y m d:Nat),A,F,fV c,[49,48,48],4,0,false,0⟩ N mo S e:=by
 have a1:=hc.y1; have a2:=hc.m1; have a3:=hc.d1
 obtain ⟨f,mo,hf,hm,hm1,hm2,hf1⟩:∃ f mo:Nat,F=f∧f*mo=12∧1≤mo∧mo≤12∧1≤f:=by
  rcases hF with h | h | h | h
  ·exact ⟨1,12,by omega,by omega,by omega,by omega,by omega⟩
  ·exact ⟨2,6,by omega,by omega,by omega,by omega,by omega⟩
  ·exact ⟨4,3,by omega,by omega,by omega,by omega,by omega⟩
  ·exact ⟨12,1,by omega,by omega,by omega,by omega,by omega⟩
 have hNm:Y*f*mo=12*Y:=by rw [Nat.mul_assoc,hm]; omega
 refine ⟨md (y*12+m+12*Y) d,Y*f,mo,y*12+m,d,?_,by rw [hf]; simp,?_⟩
 ·have := aer (k:=y*12+m) (l:=y*12+m+12*Y) (d:=d) (n:=12*(Y:Int)) (by omega) (by omega) a3 hd (by omega) (by omega) (by omega)
  rw [ahT hc] at this
  exact this
 ·have hmo:months ⟨(dayOf y m d:Nat),(md (y*12+m+12*Y) d:Nat),F,fV c,[49,48,48],4,0,false,0⟩=mo:=by
   rcases hF with h | h | h | h
   ·subst h; have : f=1:=by omega
    subst this; show (12:Int)=_; omega
   ·subst h; have : f=2:=by omega
    subst this; show (6:Int)=_; omega
   ·subst h; have : f=4:=by omega
    subst this; show (3:Int)=_; omega
   ·subst h; have : f=12:=by omega
    subst this; show (1:Int)=_; omega
  exact ⟨by omega,by rw [hNm]; omega,a3,hd,by rw [ahT hc],by rw [hNm],Nat.mul_le_mul hY1 hf1,by rw [hNm]; omega,hmo,hm1,hm2,UJ hc3 rfl rfl,by show (1:Int)≤4; omega,by show (4:Int)≤4; omega,rfl,rfl,rfl⟩
theorem iJ.avN {b:aH} {N mo S d:Nat} (h:iJ b N mo S d) (hc:b.dX.length≤1000000) (hr:b.dV.length≤1000000):L.call nN [aT b]=some (.aZ [f_ (aS b).2,.aG]):=by
 have hpl:=yR hc hr
 unfold vw at hpl
 rw [h.ahX] at hpl
 exact hpl
theorem QJ {c:Nat} (hc:c<1000000):(fV c).length≤1000000:=by
 have hl:=yC 9 (n:=c / 100) (by omega) (by omega)
 unfold fV; rw [List.length_append,List.length_cons,LW]; omega
set_option maxHeartbeats 1000000 in
theorem alG (hbeg:L.call d_ []=some (.bool true)) (n years k cents:Int):L.call jM [.int .i64 n,.int .i64 years,.int .i64 k,.int .i64 cents]=some (.bool true):=by
 have hday:=QO n
 have hD1:=Int.emod_nonneg n (show (109573:Int)≠0 by omega)
 have hD2:=Int.emod_lt_of_pos n (show (0:Int)<109573 by omega)
 obtain ⟨dd,hDe⟩:∃ dd,dd=n % 109573:=⟨_,rfl⟩
 rw [← hDe] at hday hD1 hD2
 obtain ⟨I,hI⟩:∃ I,I=3000+dd % 90000:=⟨_,rfl⟩
 have e1:Int.tmod dd 90000=dd % 90000:=Int.tmod_eq_emod_of_nonneg hD1
 have e2:IntKind.i64.wrap (3000+dd % 90000)=I:=by rw [wrap64 _ (by omega)]; omega
 have hId:bG I:=⟨by omega,by omega⟩
 have hmi:mi I≤25900:=by
  have h1:=yu hId (b:=92999) (by decide) (by omega)
  have := Xa
  omega
 obtain ⟨Y,hY⟩:∃ Y:Nat,(Y:Int)=1+years % 8:=⟨(1+years % 8).toNat,by omega⟩
 have q1:=pX (n:=years) (k:=8) (by omega) (by omega)
 have q2:IntKind.i64.wrap (1+years % 8)=(Y:Int):=by rw [wrap64 _ (by omega)]; omega
 have q3:IntKind.i64.wrap (12*(Y:Int))=12*(Y:Int):=wrap64 _ (by omega)
 obtain ⟨C,hC⟩:∃ C:Nat,(C:Int)=cents % 1000:=⟨(cents % 1000).toNat,by omega⟩
 have q4:=pX (n:=cents) (k:=1000) (by omega) (by omega)
 rw [← hC] at q4
 have q5:IntKind.i64.wrap ((C:Int)*10000)=(C:Int)*10000:=wrap64 _ (by omega)
 obtain ⟨w1,hw1⟩:∃ w1,w1=Int.tmod years 8:=⟨_,rfl⟩
 rw [← hw1] at q1
 obtain ⟨w2,hw2⟩:∃ w2,w2=Int.tmod cents 1000:=⟨_,rfl⟩
 rw [← hw2] at q4
 obtain ⟨yy,mm,d,hciv,hIe,ho⟩:=eH hId
 have hcv:=H7 hciv
 rw [← hIe] at hcv
 have hmm:=uH hciv
 rw [← hIe] at hmm
 have hof:=E_ (x:=C) (by omega)
 have hdc:=Gj (x:=C) (by omega)
 have hfive:=OA (fV C) 4
 have hcl:=QJ (c:=C) (by omega)
 have hnc:D.clo 0 11 (nD C)=true:=by unfold nD; split <;> rfl
 have hnc1:D.clo 1 11 (nD C)=true:=by unfold nD; split <;> rfl
 unfold mV at hcv
 unfold five aT aQ at hfive
 simp only at hfive
 have d1:=hciv.d1
 have d2:=hciv.d2
 have d3:=wI yy mm
 have step:∀ {J:Int} {d':Nat},rD yy mm d'→d'≤28→J=(dayOf yy mm d':Nat)→∃ (A z M:Nat) (pc:List D) (p1 p2:Int),nO J (12*(Y:Int)) false=some A∧z<M∧M≤1000∧(z:Int)=k % (M:Int) ∧
   L.call nN [.agg [.int .i64 J,.int .i64 A,.int .i64 2,.str (fV C),.str [49,48,48],.int .i64 4,.int .i64 0,.bool false,.int .i64 0]]=some (.aZ [.sl M pc,.aG]) ∧
   (pc[z*2]?=some (.int .i64 p1)∧pc[z*2+1]?=some (.int .i64 p2)∧z*2+2≤pc.length∧(pc.drop (z*2)).take 2=[.int .i64 p1,.int .i64 p2]) ∧
   L.call BK [.agg [.int .i64 J,.int .i64 A,.int .i64 2,.str (fV C),.str [49,48,48],.int .i64 4,.int .i64 0,.bool false,.int .i64 0],.int .i64 p1,.str [49,48,48]]=some (.aZ [.int .i64 ((C:Int)*10000),.aG]):=by
  intro J d' hc' hd' hJ
  obtain ⟨A,N,mo,S,dz,hA,hN,hR⟩:=ajF hc' hd' (by omega) (Y:=Y) (by omega) (by omega) (F:=2) (.inr (.inl rfl)) (c:=C) (by omega)
  subst hJ
  have hN1:=hR.N1
  have hN2:=hR.N2
  obtain ⟨z,hz⟩:∃ z:Nat,(z:Int)=k % (N:Int):=⟨(k % (N:Int)).toNat,by have := Int.emod_nonneg k (show (N:Int)≠0 by omega); omega⟩
  have hzN:z<N:=by have := Int.emod_lt_of_pos k (show (0:Int)<(N:Int) by omega); omega
  obtain ⟨g1,g2⟩:=hR.per hzN
  have hg:=um g1
  have hpl:=hR.avN hcl (by simp)
  unfold f_ at hpl
  rw [hR.len] at hpl
  exact ⟨A,z,N,_,_,_,hA,hzN,by omega,hz,hpl,hg,apR hR hcl hzN (by omega) rfl rfl⟩
 by_cases h28:d≤28
 ·obtain ⟨A,z,M,pc,p1,p2,hA,hzM,hM,hz,hpl,⟨g1,g2,g3,g4⟩,hyl⟩:=step hciv h28 hIe
  have ham:=mY I (12*(Y:Int)) false
  rw [hA] at ham
  simp [okD] at ham
  have h28i:¬ (28:Int)<(d:Int):=by omega
  have h28n:¬ 28<d:=by omega
  have q6:=pX (n:=k) (k:=(M:Int)) (by omega) (by omega)
  rw [← hz] at q6
  obtain ⟨w3,hw3⟩:∃ w3,w3=Int.tmod k (M:Int):=⟨_,rfl⟩
  rw [← hw3] at q6
  have hLn:¬ (M:Int)=0:=by omega
  have hLn':¬ M=0:=by omega
  have hzI:(z:Int)<M:=by omega
  clear step hY hC hA
  generalize fV C=tC at *
  generalize nD C=nC at *
  generalize (C:Int)=Cz at *
  generalize (Y:Int)=Yz at *
  refine aN FD rfl (Fq ..) ?_
  simp [xY,hbeg,hfive,hday,e1,e2,← hw1,← hw2,← hw3,q1,q2,q3,q4,q5,q6,hof,hdc,hcv,h28i,h28n,ham,hpl,hLn,hLn',hzM,hzI,g1,g2,g3,g4,hyl,hnc,hnc1]
 ·have hc3:rD yy mm (d-3):=⟨hciv.y1,hciv.y2,hciv.m1,hciv.m2,by omega,by omega⟩
  have hI3:I-3=((dayOf yy mm (d-3):Nat):Int):=by
   rw [hIe]
   unfold dayOf
   omega
  obtain ⟨A,z,M,pc,p1,p2,hA,hzM,hM,hz,hpl,⟨g1,g2,g3,g4⟩,hyl⟩:=step hc3 (by omega) hI3
  have ham:=mY (I-3) (12*(Y:Int)) false
  rw [hA] at ham
  simp [okD] at ham
  have h28i:(28:Int)<(d:Int):=by omega
  have h28n:28<d:=by omega
  have q6:=pX (n:=k) (k:=(M:Int)) (by omega) (by omega)
  rw [← hz] at q6
  obtain ⟨w3,hw3⟩:∃ w3,w3=Int.tmod k (M:Int):=⟨_,rfl⟩
  rw [← hw3] at q6
  have hLn:¬ (M:Int)=0:=by omega
  have hLn':¬ M=0:=by omega
  have hzI:(z:Int)<M:=by omega
  have e3:IntKind.i64.wrap (I-3)=I-3:=wrap64 _ (by omega)
  clear step hY hC hA hI3
  generalize fV C=tC at *
  generalize nD C=nC at *
  generalize (C:Int)=Cz at *
  generalize (Y:Int)=Yz at *
  refine aN FD rfl (Fq ..) ?_
  simp [xY,hbeg,hfive,hday,e1,e2,e3,← hw1,← hw2,← hw3,q1,q2,q3,q4,q5,q6,hof,hdc,hcv,h28i,h28n,ham,hpl,hLn,hLn',hzM,hzI,g1,g2,g3,g4,hyl,hnc,hnc1]
end Go.Ev.Code
