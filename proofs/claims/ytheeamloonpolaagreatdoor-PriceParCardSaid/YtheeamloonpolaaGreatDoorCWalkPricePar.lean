/- A part of the proof of riskZero_card, yieldPar_card, pricePar_card. -/
import Derived.Test.YtheeamloonpolaaGreatDoorCSpD8
import Derived.Test.YtheeamloonpolaaGreatDoorCWalkYieldPar
set_option linter.unusedVariables false
set_option linter.unusedSimpArgs false
namespace Go.Ev.Code
open Go Go.Ev
theorem aqC:rD 2000 1 1:=⟨by decide,by decide,by decide,by decide,by decide,by decide⟩
theorem aqG:dayOf 2000 1 1=36524:=by decide +kernel
theorem arZ:sU 100=[49,48,48]:=by
 have e:(100:Rat)=(((100:Nat):Int):Rat):=by decide +kernel
 rw [e,aj7,Ai (by decide),Ai (by decide),nY (by decide)]
 rfl
theorem apl {b:aH} {N mo S d:Nat} (h:iJ b N mo S d) (hc:b.dX.length≤1000000) {i:Nat} (hi:i<N) {c:Nat} (c1:c<1200) (hb:b.dX=fV c) (hr:b.dV=[49,48,48]) :
  L.call jR [aT b,.int .i64 (md (S+i*mo) d:Nat),.int .i64 ((c:Int)*10000)]=some (.aZ [cO 100,.aG]):=by
 have hf:=eG (dH h.lJ).2.1
 have hcp:=QH h.lJ (by omega) hb
 have hrd:=ame h.lJ hr
 have hpay:=al7 hf hcp
 obtain ⟨p1,p2⟩:=afw h hi (y:=(c:Int)*10000) (by omega) (by omega) hpay hrd
 have hrl:b.dV.length≤1000000:=by rw [hr]; simp
 have hE:=(h.dirty hi (y:=(c:Int)*10000) (by omega) (by omega)).1
 have k1:=(VY hc hrl (md (S+i*mo) d:Nat) (y:=(c:Int)*10000) (by omega)).1
 rw [hE,p1] at k1
 exact k1
set_option maxHeartbeats 1000000 in
theorem alo (hbeg:L.call d_ []=some (.bool true)) (years dA k cents:Int):L.call jJ [.int .i64 years,.int .i64 dA,.int .i64 k,.int .i64 cents]=some (.bool true):=by
 obtain ⟨Y,hY⟩:∃ Y:Nat,(Y:Int)=1+years % 9:=⟨(1+years % 9).toNat,by omega⟩
 have q1:=pX (n:=years) (k:=9) (by omega) (by omega)
 have q2:IntKind.i64.wrap (1+years % 9)=(Y:Int):=by rw [wrap64 _ (by omega)]; omega
 have q3:IntKind.i64.wrap (12*(Y:Int))=12*(Y:Int):=wrap64 _ (by omega)
 obtain ⟨C,hC⟩:∃ C:Nat,(C:Int)=cents % 1200:=⟨(cents % 1200).toNat,by omega⟩
 have q4:=pX (n:=cents) (k:=1200) (by omega) (by omega)
 rw [← hC] at q4
 have q5:IntKind.i64.wrap ((C:Int)*10000)=(C:Int)*10000:=wrap64 _ (by omega)
 obtain ⟨F,hF,hFq⟩:∃ F:Int,tY F∧([.int .i64 1,.int .i64 2,.int .i64 4,.int .i64 12]:List D)[(dA % 4).toNat]?=some (.int .i64 F):=by
  have h4:dA % 4=0∨dA % 4=1∨dA % 4=2∨dA % 4=3:=by omega
  rcases h4 with h | h | h | h <;> rw [h]
  ·exact ⟨1,.inl rfl,rfl⟩
  ·exact ⟨2,.inr (.inl rfl),rfl⟩
  ·exact ⟨4,.inr (.inr (.inl rfl)),rfl⟩
  ·exact ⟨12,.inr (.inr (.inr rfl)),rfl⟩
 obtain ⟨x,hx⟩:∃ x:Nat,(x:Int)=dA % 4:=⟨(dA % 4).toNat,by omega⟩
 have hx4:x<4:=by omega
 have hxI4:(x:Int)<4:=by omega
 have hz0:zeros 4 [.int .i64 0]=[.int .i64 0,.int .i64 0,.int .i64 0,.int .i64 0]:=rfl
 have q7:=pX (n:=dA) (k:=4) (by omega) (by omega)
 rw [← hx] at q7 hFq
 rw [Int.toNat_natCast] at hFq
 have hFz:∀ p,([.int .i64 1,.int .i64 2,.int .i64 4,.int .i64 12]:List D)[x]'p = .int .i64 F:=fun p=>by simpa using (List.getElem?_eq_some_iff.1 hFq).2
 obtain ⟨w1,hw1⟩:∃ w1,w1=Int.tmod years 9:=⟨_,rfl⟩
 rw [← hw1] at q1
 obtain ⟨w2,hw2⟩:∃ w2,w2=Int.tmod cents 1200:=⟨_,rfl⟩
 rw [← hw2] at q4
 obtain ⟨w4,hw4⟩:∃ w4,w4=Int.tmod dA 4:=⟨_,rfl⟩
 rw [← hw4] at q7
 have hof:=E_ (x:=C) (by omega)
 have hdc:=Gj (x:=C) (by omega)
 have hcl:=QJ (c:=C) (by omega)
 have hnc:D.clo 0 11 (nD C)=true:=by unfold nD; split <;> rfl
 have hnc1:D.clo 1 11 (nD C)=true:=by unfold nD; split <;> rfl
 obtain ⟨A,N,mo,S,d,hA,hN,hR⟩:=ajF aqC (by omega) (by omega) (Y:=Y) (by omega) (by omega) hF (c:=C) (by omega)
 rw [aqG] at hA hR
 have hN1:=hR.N1
 have hN2:=hR.N2
 obtain ⟨z,hz⟩:∃ z:Nat,(z:Int)=k % (N:Int):=⟨(k % (N:Int)).toNat,by have := Int.emod_nonneg k (show (N:Int)≠0 by omega); omega⟩
 have hzN:z<N:=by have := Int.emod_lt_of_pos k (show (0:Int)<(N:Int) by omega); omega
 obtain ⟨g1,g2⟩:=hR.per hzN
 obtain ⟨u1,u2,u3,u4⟩:=um g1
 have hpl:=ahD hR.lJ
 have hpe:aS ⟨((36524:Nat):Int),A,F,fV C,[49,48,48],4,0,false,0⟩=(none,(aS ⟨((36524:Nat):Int),A,F,fV C,[49,48,48],4,0,false,0⟩).2):=by rw [hR.plan]
 rw [hpe] at hpl
 simp only [Xy] at hpl
 unfold f_ at hpl
 rw [hR.len] at hpl
 have hpr:=apl hR hcl hzN (c:=C) (by omega) rfl rfl
 have ham:=mY 36524 (12*(Y:Int)) false
 have hA':nO 36524 (12*(Y:Int)) false=some A:=hA
 rw [hA'] at ham
 simp [okD] at ham
 have q6:=pX (n:=k) (k:=(N:Int)) (by omega) (by omega)
 rw [← hz] at q6
 obtain ⟨w3,hw3⟩:∃ w3,w3=Int.tmod k (N:Int):=⟨_,rfl⟩
 rw [← hw3] at q6
 have hLn:¬ (N:Int)=0:=by omega
 have hLn':¬ N=0:=by omega
 have hzI:(z:Int)<N:=by omega
 have hB:RB 64 (100:Rat):=by
  have e:Rat.divInt 100 1=100:=by decide +kernel
  rw [← e]
  exact jX (gG (by omega)) (gG (by omega)) (by omega)
 have htx:=rZ hB (by omega) (by omega)
 rw [arZ] at htx
 unfold aT aQ at hpl hpr
 simp only at hpl hpr u1 u2 u3 u4
 clear hpe hR hA hA' g1 g2 hN hY hC hB hx
 generalize bK _=pc at *
 generalize (md (S+z*mo) d:Nat)=m1 at *
 generalize (md (S+(z+1)*mo) d:Nat)=m2 at *
 generalize fV C=tC at *
 generalize nD C=nC at *
 generalize (C:Int)=Cz at *
 generalize (Y:Int)=Yz at *
 generalize (100:Rat)=q100 at *
 simp at hpl hpr
 refine aN Sr rfl (Sj ..) ?_
 simp [FI,hbeg,← hw1,← hw2,← hw3,← hw4,q1,q2,q3,q4,q5,q6,q7,hz0,hx4,hxI4,hFz,hof,hdc,ham,hpl,hLn,hLn',hzN,hzI,u1,u2,u3,u4,hpr,htx,hnc,hnc1]
end Go.Ev.Code
