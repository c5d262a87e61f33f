/- A part of the proof of riskZero_card, yieldPar_card, pricePar_card. -/
import Derived.Test.YtheeamloonpolaaGreatDoorCSpD5
import Derived.Test.YtheeamloonpolaaGreatDoorCWalkPriceFalls
set_option linter.unusedVariables false
set_option linter.unusedSimpArgs false
namespace Go.Ev.Code
open Go Go.Ev
theorem akh {n d:Int} {A:Nat} {r:Rat} (hd:0<d) (hr:0<(0+r).num) (hA:0<A / (0+r).den):∀ k,0<(hs n d (bn A (zL 0 r (k+1)))).1∧lt n d (bn A (zL 0 r (k+1)))=(k:Int)*(hs n d (bn A (zL 0 r (k+1)))).1
 | 0=>by
   simp only [zL,bn,List.map_cons,List.map_nil,hs,lt]
   have := Int.mul_pos hr (show (0:Int)<((A / (0+r).den:Nat):Int) by omega)
   constructor
   ·rw [Int.zero_mul,Int.zero_add,Int.mul_one]; exact this
   ·simp
 | k+1=>by
   obtain ⟨h1,h2⟩:=akh (n:=n) hd hr hA k
   have e:bn A (zL 0 r (k+1+1))=0::bn A (zL 0 r (k+1)):=by
    show bn A (0::zL 0 r (k+1))=_
    unfold bn
    simp
   rw [e]
   simp only [hs,lt]
   rw [h2,Int.zero_mul,Int.add_zero]
   generalize (hs n d (bn A (zL 0 r (k+1)))).1=s at *
   refine ⟨Int.mul_pos h1 hd,?_⟩
   rw [← Int.mul_assoc,Int.natCast_add,Int.add_mul,Int.add_mul]
   simp [Int.add_mul]
theorem aoS {Y f:Nat} (hf:f≠0):((Y*f:Nat):Rat)*Rat.divInt 1 (f:Int)=((Y:Int):Rat):=by
 have hz:((f:Nat):Rat)≠0:=fun h=>by
  rw [← Rat.intCast_natCast] at h
  have := Rat.intCast_eq_zero_iff.1 h
  omega
 rw [Rat.divInt_eq_div,Rat.intCast_natCast,Rat.intCast_natCast,Rat.natCast_mul,show ((1:Int):Rat)=1 from rfl]
 generalize ((f:Nat):Rat)=x at *
 generalize ((Y:Nat):Rat)=z at *
 grind
theorem aqM {b:aH} {N mo S d:Nat} (h:iJ b N mo S d) (hc:qh b=0) (hr:fZ b=100) {y:Int} (h1 : -2000000≤y) (h2:y≤100000000):aiP b b.issue y = .ok ((N:Rat)*Rat.divInt 1 b.dA):=by
 have hat:=h.at (i:=0) h.N1
 rw [Nat.zero_mul,Nat.add_zero,← h.is,Nat.sub_zero] at hat
 obtain ⟨hl,_,_,ham,h0,hw,_⟩:=hat
 have hf:=eG (dH h.lJ).2.1
 obtain ⟨_,_,_,g0,n0⟩:=Ja hf (y:=y) h1 h2
 have hE:mO b b.issue y = .ok (jW b b.issue y):=by
  unfold mO
  rw [hl]
  simp only
  rw [if_neg (by omega),if_neg (by intro hz; rcases hz with hz | hz; exact h0 hz; exact YS hl h0 h1 h2 hz)]
 have he:fF b=0:=by unfold fF; rw [hc,Rat.zero_mul]
 obtain ⟨k,hk⟩:∃ k,N=k+1:=⟨N-1,by have := h.N1; omega⟩
 rw [he,hr,hk] at ham
 have hAp:0<dJ 1 (bZ b b.issue):=Q8 (by omega)
 have hA:0<dJ 1 (bZ b b.issue) / ((0:Rat)+100).den:=by
  rw [show ((0:Rat)+100).den=1 from by decide +kernel]
  omega
 have hs:=akh (n:=bC b+y) (d:=bC b) (A:=dJ 1 (bZ b b.issue)) (r:=100) g0 (by decide +kernel) hA k
 rw [← ham] at hs
 have hsz:(Ev.Code.hs (bC b+y) (bC b) (bn (dJ 1 (bZ b b.issue)) (bZ b b.issue))).1=Vf b b.issue y:=rfl
 have hlz:lt (bC b+y) (bC b) (bn (dJ 1 (bZ b b.issue)) (bZ b b.issue))=Ny b b.issue y:=rfl
 rw [hsz,hlz] at hs
 obtain ⟨s1,s2⟩:=hs
 unfold aiP
 rw [hE]
 simp only
 rw [if_neg (by omega)]
 unfold am2
 rw [s2,hw,MS s1,hk]
 have : ((k+1:Nat):Rat)=((k:Int):Rat)+1:=by rw [Rat.natCast_add,Rat.intCast_natCast]; rfl
 rw [this]
theorem akg {y m d:Nat} (hc:rD y m d) (hd:d≤28) (hs:y*12+m≤25900) {Y:Nat} (hY1:1≤Y) (hY2:Y≤10) {F:Int} (hF:F=1∨F=2∨F=4) {v:Int} (v1 : -2000000≤v) (v2:v≤100000000) :
  ∃ A:Nat,nO (dayOf y m d:Nat) (12*(Y:Int)) false=some A∧L.call oq [aT ⟨(dayOf y m d:Nat),A,F,[48],[49,48,48],1,0,false,0⟩,.int .i64 (dayOf y m d:Nat),.int .i64 v]=some (.aZ [cO ((Y:Int):Rat),.aG]):=by
 have a1:=hc.y1; have a2:=hc.m1; have a3:=hc.d1
 obtain ⟨f,mo,hf,hm,hm1,hm2,hf1⟩:∃ f mo:Nat,F=f∧f*mo=12∧1≤mo∧mo≤12∧1≤f:=by
  rcases hF with h | h | h
  ·exact ⟨1,12,by omega,by omega,by omega,by omega,by omega⟩
  ·exact ⟨2,6,by omega,by omega,by omega,by omega,by omega⟩
  ·exact ⟨4,3,by omega,by omega,by omega,by omega,by omega⟩
 refine ⟨md (y*12+m+12*Y) d,?_,?_⟩
 ·have := aer (k:=y*12+m) (l:=y*12+m+12*Y) (d:=d) (n:=12*(Y:Int)) (by omega) (by omega) a3 hd (by omega) (by omega) (by omega)
  rw [ahT hc] at this
  exact this
 ·obtain ⟨b,hb⟩:∃ b:aH,b=⟨(dayOf y m d:Nat),(md (y*12+m+12*Y) d:Nat),F,[48],[49,48,48],1,0,false,0⟩:=⟨_,rfl⟩
  have hmo:months b=mo:=by
   rw [hb]
   rcases hF with h | h | h
   ·subst h; have : f=1:=by omega
    subst this; show (12:Int)=_; omega
   ·subst h; have : f=2:=by omega
    subst this; show (6:Int)=_; omega
   ·subst h; have : f=4:=by omega
    subst this; show (3:Int)=_; omega
  have hNm:Y*f*mo=12*Y:=by rw [Nat.mul_assoc,hm]; omega
  have hR:iJ b (Y*f) mo (y*12+m) d :=
   ⟨by omega,by rw [hNm]; omega,a3,hd,by rw [hb,ahT hc],by rw [hb,hNm],Nat.mul_le_mul hY1 hf1,by rw [hNm]; omega,hmo,hm1,hm2,by (rw [hb]; unfold xM; simp only; decide +kernel),by rw [hb]; exact Int.le_refl 1,by rw [hb]; show (1:Int)≤4; omega,by rw [hb],by rw [hb],by rw [hb]⟩
  have hcp:qh b=0:=by
   unfold qh
   rw [hR.lJ,hb]
   simp only
   rw [show qB [48]=some (0,0) from by decide +kernel]
  have hrd:fZ b=100:=by
   unfold fZ
   rw [hR.lJ,hb]
   simp only
   rw [show qB [49,48,48]=some (100,0) from by decide +kernel]
  have hE:=aqM hR hcp hrd v1 v2
  have hbf:b.dA=f:=by rw [hb]; exact hf
  rw [hbf,aoS (by omega)] at hE
  have h:=(ach (b:=b) (by rw [hb]; simp) (by rw [hb]; simp) b.issue (y:=v) (by omega)).1
  rw [hE] at h
  simp only [zx] at h
  rw [hb] at h
  exact h
theorem aeZ {x:Nat} (h:x<1000000000):L.call lS [.agg [.bool false,nD x]]=some (.str (txt x)):=by
 have ht:=VZ h
 have hc1:D.clo 0 11 (nD x)=true:=by unfold nD; split <;> rfl
 have hc2:D.clo 0 12 (nD x)=true:=by unfold nD; split <;> rfl
 generalize nD x=nx at *
 refine aN WA rfl (Ws ..) ?_
 simp [Kz,ht,hc1,hc2]
theorem alx (hbeg:L.call d_ []=some (.bool true)) (n years k y:Int):L.call jL [.int .i64 n,.int .i64 years,.int .i64 k,.int .i64 y]=some (.bool true):=by
 have hday:=QO n
 have hfive:=OA [48] 1
 have hD1:=Int.emod_nonneg n (show (109573:Int)≠0 by omega)
 have hD2:=Int.emod_lt_of_pos n (show (0:Int)<109573 by omega)
 obtain ⟨dd,hDe⟩:∃ dd,dd=n % 109573:=⟨_,rfl⟩
 rw [← hDe] at hday hD1 hD2
 obtain ⟨I,hI⟩:∃ I,I=3000+dd % 90000:=⟨_,rfl⟩
 have e1:Int.tmod dd 90000=dd % 90000:=Int.tmod_eq_emod_of_nonneg hD1
 have e2:IntKind.i64.wrap (3000+dd % 90000)=I:=by rw [wrap64 _ (by omega)]; omega
 have hId:bG I:=⟨by omega,by omega⟩
 have hmi:mi I≤25900:=by
  have h1:=yu hId (b:=92999) (by decide) (by omega)
  have := Xa
  omega
 obtain ⟨Y,hY⟩:∃ Y:Nat,(Y:Int)=1+years % 10:=⟨(1+years % 10).toNat,by omega⟩
 have q1:=pX (n:=years) (k:=10) (by omega) (by omega)
 have q2:IntKind.i64.wrap (1+years % 10)=(Y:Int):=by rw [wrap64 _ (by omega)]; omega
 have q3:IntKind.i64.wrap (12*(Y:Int))=12*(Y:Int):=wrap64 _ (by omega)
 have q4:=pX (n:=k) (k:=3) (by omega) (by omega)
 have g1:=XQ y
 have y1:=ai9 y
 have ey:y % 102000001-2000000=WW y:=rfl
 rw [ey] at g1
 generalize WW y=v at *
 obtain ⟨F,hF,hFq⟩:∃ F:Int,(F=1∨F=2∨F=4)∧([.int .i64 1,.int .i64 2,.int .i64 4]:List D)[(k % 3).toNat]?=some (.int .i64 F):=by
  have h4:k % 3=0∨k % 3=1∨k % 3=2:=by omega
  rcases h4 with h | h | h <;> rw [h]
  ·exact ⟨1,.inl rfl,rfl⟩
  ·exact ⟨2,.inr (.inl rfl),rfl⟩
  ·exact ⟨4,.inr (.inr rfl),rfl⟩
 have hFe:=(List.getElem?_eq_some_iff.1 hFq).2
 have hi1:0≤k % 3∧k % 3<3:=by omega
 have hz0:zeros 3 [.int .i64 0]=[.int .i64 0,.int .i64 0,.int .i64 0]:=rfl
 obtain ⟨z,hz⟩:∃ z:Nat,(z:Int)=k % 3:=⟨(k % 3).toNat,by omega⟩
 have hz3:z<3:=by omega
 have hzI3:(z:Int)<3:=by omega
 rw [← hz] at q4 hFq
 rw [Int.toNat_natCast] at hFq
 have hFz:∀ p,([.int .i64 1,.int .i64 2,.int .i64 4]:List D)[z]'p = .int .i64 F:=fun p=>by simpa using (List.getElem?_eq_some_iff.1 hFq).2
 obtain ⟨w1,hw1⟩:∃ w1,w1=Int.tmod years 10:=⟨_,rfl⟩
 rw [← hw1] at q1
 obtain ⟨w2,hw2⟩:∃ w2,w2=Int.tmod k 3:=⟨_,rfl⟩
 rw [← hw2] at q4
 obtain ⟨yy,mm,d,hciv,hIe,ho⟩:=eH hId
 have hcv:=H7 hciv
 rw [← hIe] at hcv
 have hmm:=uH hciv
 rw [← hIe] at hmm
 have ht:=aeZ (x:=Y) (by omega)
 have hof:=E_ (x:=Y) (by omega)
 have htx:=rZ (q:=((Y:Int):Rat)) (k:=64) (by
  have e:Rat.divInt (Y:Int) 1=((Y:Int):Rat):=by rw [Rat.divInt_eq_div]; show ((Y:Int):Rat) / 1=_; rw [Rat.div_def]; show _*(1:Rat)⁻¹=_; rw [show (1:Rat)⁻¹=1 from by decide +kernel,Rat.mul_one]
  rw [← e]
  exact jX (gG (by omega)) (gG (by omega)) (by omega)) (by omega) (by omega)
 rw [aj7] at htx
 have hnc:D.clo 0 11 (nD Y)=true:=by unfold nD; split <;> rfl
 unfold mV at hcv
 unfold five aT aQ at hfive
 simp only at hfive
 have d1:=hciv.d1
 have d2:=hciv.d2
 have d3:=wI yy mm
 by_cases h28:d≤28
 ·obtain ⟨A,hA,hdur⟩:=akg hciv h28 (by omega) (Y:=Y) (by omega) (by omega) hF y1.1 y1.2
  rw [← hIe] at hA hdur
  have ham:=mY I (12*(Y:Int)) false
  rw [hA] at ham
  simp [okD] at ham
  have h28i:¬ (28:Int)<(d:Int):=by omega
  have h28n:¬ 28<d:=by omega
  unfold aT aQ at hdur
  simp only at hdur
  generalize ((Y:Int):Rat)=qy at *
  generalize txt Y=ty at *
  generalize nD Y=ny at *
  clear hY
  generalize (Y:Int)=Yz at *
  refine aN FB rfl (Fp ..) ?_
  simp [xX,hbeg,hfive,hday,e1,e2,← hw1,← hw2,q1,q2,q3,q4,g1,hz0,hz3,hzI3,hFz,hcv,h28i,h28n,ham,hdur,htx,hof,ht,hnc]
 ·have hc3:rD yy mm (d-3):=⟨hciv.y1,hciv.y2,hciv.m1,hciv.m2,by omega,by omega⟩
  obtain ⟨A,hA,hdur⟩:=akg hc3 (by omega) (by omega) (Y:=Y) (by omega) (by omega) hF y1.1 y1.2
  have hI3:((dayOf yy mm (d-3):Nat):Int)=I-3:=by
   rw [hIe]
   unfold dayOf
   omega
  rw [hI3] at hA hdur
  have ham:=mY (I-3) (12*(Y:Int)) false
  rw [hA] at ham
  simp [okD] at ham
  have h28i:(28:Int)<(d:Int):=by omega
  have h28n:28<d:=by omega
  have e3:IntKind.i64.wrap (I-3)=I-3:=wrap64 _ (by omega)
  unfold aT aQ at hdur
  simp only at hdur
  generalize ((Y:Int):Rat)=qy at *
  generalize txt Y=ty at *
  generalize nD Y=ny at *
  clear hY hI3 hA
  generalize (Y:Int)=Yz at *
  refine aN FB rfl (Fp ..) ?_
  simp [xX,hbeg,hfive,hday,e1,e2,e3,← hw1,← hw2,q1,q2,q3,q4,g1,hz0,hz3,hzI3,hFz,hcv,h28i,h28n,ham,hdur,htx,hof,ht,hnc]
end Go.Ev.Code
