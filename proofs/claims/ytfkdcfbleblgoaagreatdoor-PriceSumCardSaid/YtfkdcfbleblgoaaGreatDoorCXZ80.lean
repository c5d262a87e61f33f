/- A part of the proof of priceAll_card, priceSum_card, yieldAll_card. -/
import Derived.Test.YtfkdcfbleblgoaaGreatDoorCXZ20
import Derived.Test.YtfkdcfbleblgoaaGreatDoorCXZ30
set_option linter.unusedVariables false
set_option linter.unusedSimpArgs false
section
namespace Go.Ev.Code
open Go Go.Ev
theorem auk (n:Int):L.call LH [intD n,intD 0]=some (.aG [.iy,BD 3]):=by
 refine aj (anF ..) ?_
 simp [abu,bM]
end Go.Ev.Code
end
section
namespace Go.Ev.Code
open Go Go.Ev
theorem RB.div {j k:Nat} {a b:Rat} (ha:RB j a) (hb:RB k b) (h:b≠0):RB (j+k) (a / b):=by
 rw [div_eq h]
 exact oH (ha.num.mul hb.den) (ha.den.mul hb.num) (Int.mul_ne_zero (Qs a) (aey h))
theorem auj {a:Rat} {j:Nat} (ha:RB j a) (h:j≤899000):L.call xO [cZ a,cZ 0]=some (.aG [.iy,BD 3]):=by
 have h0:RB 1 (0:Rat):=⟨by unfold NB; decide,by unfold NB; decide⟩
 have m1:=eF ha.num h0.den (by omega) (by omega)
 have m2:=eF ha.den h0.num (by omega) (by omega)
 have e:(a.den:Int)*(0:Rat).num=0:=by simp
 rw [e] at m2
 refine aj (aff ..) ?_
 generalize a.num*((0:Rat).den:Int)=n at *
 simp [Xy] at m1 m2 ⊢
 simp [m1,m2,auk]
end Go.Ev.Code
end
section
namespace Go.Ev.Code
open Go Go.Ev
theorem ac5 {d:Nat} (h:d<10):(dg d).toNat=48+d∧iW (dg d)=true:=by
 have : ∀ d:Nat,d<10→(dg d).toNat=48+d∧iW (dg d)=true:=by decide +kernel
 exact this d h
theorem anq (n:Nat):(txt n).all iW=true:=by
 induction n using Nat.strongRecOn with
 | _ n ih =>
   by_cases h:n<10
   ·rw [oU h]; simp [(ac5 h).2]
   ·rw [JR (by omega),List.all_append,ih (n / 10) (by omega)]
    simp [(ac5 (d:=n % 10) (by omega)).2]
theorem akD (n:Nat):bZ 0 (txt n)=n:=by
 induction n using Nat.strongRecOn with
 | _ n ih =>
   by_cases h:n<10
   ·rw [oU h,rC,sZ,(ac5 h).1]; omega
   ·rw [JR (by omega),Zn,ih (n / 10) (by omega),rC,sZ,(ac5 (d:=n % 10) (by omega)).1]; omega
theorem aAR {d:Nat} (h:d<10):dg d≠45∧dg d≠47∧(1≤d→dg d≠48):=by
 have : ∀ d:Nat,d<10→dg d≠45∧dg d≠47∧(1≤d→dg d≠48):=by decide +kernel
 exact this d h
theorem aoQ (n:Nat):(47:UInt8) ∉ txt n:=by
 intro h
 have := List.all_eq_true.1 (anq n) _ h
 exact absurd this (by decide)
theorem aC6 {n:Nat} (h:NB 13000 n):n<10^4000:=Nat.lt_of_lt_of_le h (by decide +kernel)
theorem ahZ {n:Nat} (h:NB 13000 n):uY (txt n):=by
 have hl:=yu 4000 (n:=n) (by omega) (aC6 h)
 refine ⟨fun h0=>?_,hl,?_,anq n⟩
 ·have := xR n
  rw [h0] at this
  simp at this
 ·rintro ⟨h1,h2⟩
  by_cases hn:n<10
  ·rw [oU hn] at h1; simp at h1
  ·obtain ⟨d,r,hr,h3,h4⟩:=akC n (by omega)
   rw [hr] at h2
   simp at h2
   exact (aAR h4).2.2 h3 h2
theorem ajt (n:Nat):List.isPrefixOf [45] (txt n)=false:=by
 by_cases h:n=0
 ·subst h; rw [oU (by decide)]; decide
 ·obtain ⟨d,r,hr,h3,h4⟩:=akC n (by omega)
  rw [hr]
  have := (aAR h4).1
  simp [List.isPrefixOf,this]
  exact fun h=>this h.symm
theorem aub {z:Int} (h:IB 13000 z):L.call aij [.str (wu z)]=some (.aG [intD z,.bQ]):=by
 have hg:=E8 (ahZ h)
 rw [akD] at hg
 have hcut:=af7 (wu z) [45]
 unfold wu at *
 have hz:∀ b:Bool,L.call Lh [.bool b,dI z.natAbs]=some (intD (if b then -(z.natAbs:Int) else z.natAbs)):=fun b=>Fe b _
 by_cases hneg:z<0
 ·rw [if_pos hneg] at hcut ⊢
  rw [if_pos (by simp [List.isPrefixOf])] at hcut
  simp at hcut
  have h0:¬ z.natAbs=0:=by omega
  have hz0:=UL z.natAbs
  rw [decide_eq_false h0] at hz0
  have hzt:=hz true
  have e:(if true=true then -(z.natAbs:Int) else z.natAbs)=z:=by simp; omega
  rw [e] at hzt
  generalize txt z.natAbs=t at *
  have hz1:¬ z=0:=by omega
  refine aj (anC ..) ?_
  simp [ahN,hcut,hg,hz0,hzt,hz1]
 ·rw [if_neg hneg] at hcut ⊢
  rw [if_neg (by rw [ajt]; simp)] at hcut
  have hzt:=hz false
  have e:(if false=true then -(z.natAbs:Int) else z.natAbs)=z:=by simp; omega
  rw [e] at hzt
  generalize txt z.natAbs=t at *
  refine aj (anC ..) ?_
  simp [ahN,hcut,hg,hzt]
theorem ak3 {c:UInt8}:∀ (x acc:List UInt8),c ∉ x→cutAt c acc x=none
 | [],acc,_=>rfl
 | y::ys,acc,h=>by
   have h1:(y==c)=false:=by
    simp only [beq_eq_false_iff_ne]
    intro e; exact h (by rw [e]; simp)
   simp only [cutAt,h1,Bool.false_eq_true,if_false]
   exact ak3 ys (y::acc) (fun h2=>h (by simp [h2]))
theorem ami (z:Int):(47:UInt8) ∉ wu z:=by
 unfold wu
 split
 ·simp only [List.mem_cons,not_or]
  exact ⟨by decide,aoQ _⟩
 ·exact aoQ _
theorem ajh {q:Rat} (h:RB 13000 q):L.call air [.str (pI q)]=some (.aG [cZ q,.bQ]):=by
 have hn:=aub h.num
 have hl1:=akB h.num (by omega) (by omega)
 have hd:=E8 (ahZ h.2)
 rw [akD] at hd
 have hl2:=yu 4000 (n:=q.den) (by omega) (aC6 h.2)
 have hden:=q.den_nz
 have hz:=UL q.den
 rw [decide_eq_false hden] at hz
 have hnew:=Fe false q.den
 simp only [Bool.false_eq_true,if_false] at hnew
 have hrn:=Fq h.num h.den (by omega) (by omega) (Qs q)
 rw [Rat.num_divInt_den] at hrn
 have htx:=lG h (by omega) (by omega)
 have hcut:=awW (s:=pI q) (by
  unfold pI
  split
  ·omega
  ·simp; omega) 47
 unfold iG at hcut
 unfold pI at *
 by_cases h1:q.den=1
 ·rw [if_pos h1] at hcut htx ⊢
  rw [ak3 _ _ (ami _)] at hcut
  simp at hcut
  have h49:txt q.den=[49]:=anr.2 h1
  rw [h49] at hd
  rw [h1] at hd hz hnew hrn
  generalize wu q.num=t at *
  refine aj (anE ..) ?_
  simp at hd hz hnew hrn
  simp [ahO,hcut,hn,hd,hz,hnew,hrn,htx]
 ·rw [if_neg h1] at hcut htx ⊢
  rw [aaL _ _ _ (ami _)] at hcut
  simp at hcut
  generalize wu q.num++47::txt q.den=s at *
  generalize wu q.num=t at *
  generalize txt q.den=u at *
  refine aj (anE ..) ?_
  simp [ahO,hcut,hn,hd,hz,hden,hnew,hrn,htx]
end Go.Ev.Code
end
section
namespace Go.Ev.Code
open Go Go.Ev
theorem adt {b:aA} (h:(aW b).1=none) {p:Int×Int} (hp:p∈(aF b).2):RB 600 (qg b p):=by
 have h0:=(gY h).1
 have hchk:=dK h0
 obtain ⟨d1,d2,d3⟩:=gU h0 hp
 obtain ⟨q,hq⟩:=ahx h hp
 rw [Pj hq]
 exact (aik hchk d1 d2 hq (n:=2) (fun l hl=>OO h0 hp hl)).mono (by omega)
theorem av3 {b:aA} (h:(aW b).1=none) (hc:b.aY.length≤1000000) (hr:b.bJ.length≤1000000) {p:Int×Int} (hp:p∈(aF b).2):L.call TP [aC b,pD p]=some (.aG [cZ (qg b p),.bQ]):=by
 have h0:=(gY h).1
 obtain ⟨d1,d2,d3⟩:=gU h0 hp
 obtain ⟨q,hq⟩:=ahx h hp
 have := UD h0 hc hr d1 d2 d3
 rw [hq] at this
 rw [Pj hq]
 exact this
end Go.Ev.Code
end
section
namespace Go.Ev.Code
open Go Go.Ev
theorem aeI {a b:Nat} {j k:Nat} (ha:NB j a) (hb:NB k b) (hj:j≤900000) (hk:k≤900000) (h0:b≠0) :
  L.call NJ [intD (a:Int),intD (b:Int)]=some (.aG [intD ((a / b:Nat):Int),intD ((a % b:Nat):Int),.bQ]):=by
 have hd:=Ae (ha.fit hj) (hb.fit hk) h0
 have s1:0≤((a:Int).sign):=by rw [U8]; omega
 have s2:0≤((b:Int).sign):=by rw [U8]; omega
 have s3:(b:Int).sign=1:=Int.sign_eq_one_of_pos (by omega)
 have hab:((a:Int)).natAbs=a:=by simp
 have hbb:((b:Int)).natAbs=b:=by simp
 have h1:=Ai (a:Int)
 have h2:=Ai (b:Int)
 have h3:=G8 (a:Int)
 have h4:=G8 (b:Int)
 rw [hab] at h1
 rw [hbb] at h2
 rw [s3] at h4
 have hn1:=Fe false (a / b)
 have hn2:=Fe false (a % b)
 simp only [Bool.false_eq_true,if_false] at hn1 hn2
 have hm:decide (IntKind.i64.wrap ((a:Int).sign*1)<0)=false:=by
  have : (a:Int).sign=0∨(a:Int).sign=1:=by
   rcases Int.sign_trichotomy (a:Int) with h | h | h
   ·exact .inr h
   ·exact .inl h
   ·rw [h] at s1; omega
  rcases this with h | h <;> rw [h] <;> decide
 generalize ((a:Int)).sign=sa at *
 generalize a / b=q at *
 generalize a % b=r at *
 generalize (a:Int)=az at *
 generalize (b:Int)=bz at *
 generalize (q:Int)=qz at *
 generalize (r:Int)=rz at *
 refine aj (apb ..) ?_
 simp only [Int.mul_one] at hm
 simp [afF,h1,h2,h3,h4,hd,hm,hn1,hn2]
theorem asa:L.call abe []=some (cZ 1):=by
 have h:=Aq (n:=1) (d:=1) (by omega) (by omega) (by omega)
 have e:Rat.divInt 1 1=1:=by decide +kernel
 rw [e] at h
 refine aj (atl ..) ?_
 simp [ajq,h]
def apY (b:aA) (s:Int):D:=match (leftB b s).1 with
 | some e => .aG [.sl 0 [],.int .i64 0,fD (some e)]
 | none => .aG [dO (aF b).2,.int .i64 (Sz (aF b).2 s),.bQ]
theorem aft {b:aA} (hc:b.aY.length≤1000000) (hr:b.bJ.length≤1000000) (s:Int):L.call Q5 [aC b,.int .i64 s]=some (apY b s):=by
 have hl:=Y_ hc hr s
 have hpl:=Lm hc hr
 have hbc:=fun n=>iO b n
 have hbl:=kK b
 have hbd:=iZ b 0 10
 unfold apY
 unfold EU NC at hl
 have hfcl:=GV (leftB b s).2 0 11
 cases he:(leftB b s).1 with
 | some e =>
   rw [he] at hl
   generalize (leftB b s).2.length=N at *
   generalize dA (leftB b s).2=fc at *
   unfold aC at *
   generalize ay b=B at *
   have htk:B.take 9=B:=List.take_of_length_le (by omega)
   rcases e with ⟨c,_ | t⟩
   ·simp only [fD] at *
    refine aj (Yv ..) ?_
    simp [RP,hl,hbc,hbl,hbd,htk]
   ·simp only [fD,eY] at *
    refine aj (Yv ..) ?_
    simp [RP,hl,hbc,hbl,hbd,htk]
 | none =>
   rw [he] at hl
   obtain ⟨h1,h2,h3,h4⟩:=dX he
   have hplen:=(dP h2).2.len
   have hat:=alL (ps:=(aF b).2) (by omega) s
   unfold Ak at hpl
   rw [h2] at hpl
   simp only [fC] at hpl
   simp only [fD] at hl
   have hpcl:=gZ (aF b).2 0 11
   have hpcl':=gZ (aF b).2 0 10
   generalize Sz (aF b).2 s=k at *
   unfold dO at *
   generalize (leftB b s).2.length=N at *
   generalize dA (leftB b s).2=fc at *
   generalize (aF b).2.length=M at *
   generalize aX (aF b).2=pc at *
   unfold aC at *
   generalize ay b=B at *
   have htk:B.take 9=B:=List.take_of_length_le (by omega)
   refine aj (Yv ..) ?_
   simp [RP,hl,hbc,hbl,hbd,htk,hpl,hat,hpcl,hpcl']
end Go.Ev.Code
end
section
namespace Go.Ev.Code
open Go Go.Ev
def ap5 (b:aA) (s:Int):D:=match (leftB b s).1 with
 | some e => .aG [.iy,fD (some e)]
 | none=>if dF b s=0 then .aG [.iy,BD 3] else .aG [cZ (dB b s),.bQ]
theorem arZ:RB 1 (1:Rat):=⟨by show (1:Rat).num.natAbs<2^1; decide,by show (1:Rat).den<2^1; decide⟩
theorem asX {b:aA} {s:Int} (h:(leftB b s).1=none):RB 200 (dF b s)∧RB 200 (wY b s):=by
 obtain ⟨d1,d2,d3,d4,d5,d6⟩:=qh h
 exact ⟨akr (dX h).1 d6 (by omega) (by omega) (by omega),akr (dX h).1 d6 (by omega) (by omega) (by omega)⟩
theorem amP {f:Int} (hf:vO f):RB 64 (Rat.divInt f 1):=oH (gQ (by rcases hf with h | h | h | h <;> omega)) (gQ (by omega)) (by omega)
theorem asV {b:aA} {s:Int} (h:(leftB b s).1=none) (h0:dF b s≠0):RB 700 (dB b s):=by
 obtain ⟨hw,hp⟩:=asX h
 have hf:=amP (dZ (bV (dK (dX h).2.1)).2.1)
 have h1:RB 410 (1-wY b s / dF b s):=(arZ.sub (hp.div hw h0)).mono (by omega)
 have h2:RB 690 ((1-wY b s / dF b s)*Rat.divInt b.bG 1*dF b s):=((h1.mul hf).mul hw).mono (by omega)
 unfold dB
 split
 ·exact h1.mono (by omega)
 ·exact h2.mono (by omega)
theorem afs {b:aA} (hc:b.aY.length≤1000000) (hr:b.bJ.length≤1000000) (s:Int):L.call XZ [aC b,.int .i64 s]=some (ap5 b s):=by
 have hl:=aft hc hr s
 unfold apY at hl
 unfold ap5
 cases he:(leftB b s).1 with
 | some e =>
   rw [he] at hl
   obtain ⟨i,m,fq,c,rd,n,st,en,ex⟩:=b
   unfold aC ay at *
   simp only at *
   rcases e with ⟨c,_ | t⟩
   ·simp only [fD] at *
    refine aj (PU ..) ?_
    simp [D9,hl]
   ·simp only [fD,eY] at *
    refine aj (PU ..) ?_
    simp [D9,hl]
 | none =>
   rw [he] at hl
   obtain ⟨f0,h2,h3,h4⟩:=dX he
   obtain ⟨d1,d2,d3,d4,d5,d6⟩:=qh he
   obtain ⟨k,k1,k2,k3,k4⟩:=x9 h2 h3 h4
   have hplen:=(dP h2).2.len
   have hg:=mP k2
   have hklt:k<(aF b).2.length:=(List.getElem?_eq_some_iff.1 k2).1
   obtain ⟨wB,pB⟩:=asX he
   have hf:=dZ (bV (dK h2)).2.1
   have hw:=yD h2 hc hr d1 d2 d3 (aV b s).1 (aV b s).2
   have hp:=yD h2 hc hr d1 d2 d3 (aV b s).1 s
   rw [vV f0 d6 (by omega) (by omega) (by omega)] at hw hp
   simp only [JF] at hw hp
   have hwe:kF b (aV b s) (aV b s).1 (aV b s).2=dF b s:=rfl
   have hpe:kF b (aV b s) (aV b s).1 s=wY b s:=rfl
   rw [hwe] at hw
   rw [hpe] at hp
   have hreg:=IE hc hr (aV b s)
   have hone:=asa
   rw [k1] at hl
   unfold dB
   by_cases h0:dF b s=0
   ·rw [if_pos h0]
    rw [h0] at hw
    have hdiv:=auj pB (by omega)
    generalize wY b s=pv at *
    unfold dO at *
    unfold pD at *
    generalize aV b s=p at *
    obtain ⟨p1,p2⟩:=p
    simp only at *
    obtain ⟨g1,g2,g3,g4⟩:=hg
    generalize (aF b).2.length=M at *
    generalize aX (aF b).2=pc at *
    have hkI:(k:Int)<M:=by omega
    obtain ⟨i,m,fq,c,rd,n,st,en,ex⟩:=b
    unfold aC ay at *
    simp only at *
    refine aj (PU ..) ?_
    simp [D9,hl,hklt,hkI,g1,g2,g3,g4,hw,hp,hdiv]
   ·rw [if_neg h0]
    have hdiv:=alT pB wB (by omega) h0
    have hdB:=pB.div wB h0
    have hsub:=LJ arZ hdB (by omega)
    have hsB:=arZ.sub hdB
    have hfo:=Aq (n:=b.bG) (d:=1) (by rcases hf with h | h | h | h <;> omega) (by omega) (by omega)
    have hm1:=Fp hsB (amP hf) (by omega)
    have hm2:=Fp (hsB.mul (amP hf)) wB (by omega)
    generalize (1-wY b s / dF b s)*Rat.divInt b.bG 1*dF b s=v3 at *
    generalize (1-wY b s / dF b s)*Rat.divInt b.bG 1=v2 at *
    generalize 1-wY b s / dF b s=v1 at *
    generalize wY b s / dF b s=v0 at *
    generalize wY b s=pv at *
    generalize dF b s=wv at *
    generalize (1:Rat)=one at *
    generalize regular b (aV b s)=rg at *
    generalize Rat.divInt b.bG 1=fr at *
    unfold dO at *
    unfold pD at *
    generalize aV b s=p at *
    obtain ⟨p1,p2⟩:=p
    simp only at *
    obtain ⟨g1,g2,g3,g4⟩:=hg
    generalize (aF b).2.length=M at *
    generalize aX (aF b).2=pc at *
    have hkI:(k:Int)<M:=by omega
    obtain ⟨i,m,fq,c,rd,n,st,en,ex⟩:=b
    unfold aC ay at *
    simp only at *
    refine aj (PU ..) ?_
    cases rg with
    | true=>simp [D9,hl,hklt,hkI,g1,g2,g3,g4,hw,hp,hdiv,hone,hsub,hreg]
    | false=>simp [D9,hl,hklt,hkI,g1,g2,g3,g4,hw,hp,hdiv,hone,hsub,hreg,hfo,hm1,hm2]
end Go.Ev.Code
end
section
namespace Go.Ev.Code
open Go Go.Ev
theorem aDg {y:Nat} (h:1900≤y) (k:Nat):dN y+365*k≤dN (y+k):=by
 induction k with
 | zero=>simp only [Nat.mul_zero,Nat.add_zero]; exact Nat.le_refl _
 | succ k ih =>
   have h2:=I5 (y:=y+k) (by omega)
   have h3:=apT (y+k)
   have h4:365≤dH (y+k) 12:=by rw [h3]; split <;> omega
   rw [show y+(k+1)=y+k+1 from rfl,h2,Nat.mul_succ,← Nat.add_assoc]
   exact Nat.add_le_add ih h4
end Go.Ev.Code
end
section
namespace Go.Ev.Code
open Go Go.Ev
theorem avG {y:Nat} (h:1900≤y) (k:Nat):dN (y+k)≤dN y+366*k:=by
 induction k with
 | zero=>simp only [Nat.mul_zero,Nat.add_zero]; exact Nat.le_refl _
 | succ k ih =>
   have h2:=I5 (y:=y+k) (by omega)
   have h4:=(aqJ (y+k)).1
   rw [show y+(k+1)=y+k+1 from rfl,h2,Nat.mul_succ,← Nat.add_assoc]
   exact Nat.add_le_add ih h4
theorem azu (y m:Nat) (h1:1≤m) (h2:m≤12):dH y (m-1)+bW y m≤366:=by
 have hm:m=1∨m=2∨m=3∨m=4∨m=5∨m=6∨m=7∨m=8∨m=9∨m=10∨m=11∨m=12:=by omega
 have f2:bW y 2≤29:=by
  show (if leap y=true then 29 else 28)≤29
  split <;> omega
 rcases hm with rfl | rfl | rfl | rfl | rfl | rfl | rfl | rfl | rfl | rfl | rfl | rfl <;> simp only [dH,Nat.reduceSub,Nat.reduceAdd] <;> (generalize hg:bW y 2=g at *) <;> simp only [bW] at * <;> omega
theorem azw {a b:Int} (ha:aU a) (hb:aU b) (h:mi b≤mi a+361):b≤a+12100:=by
 obtain ⟨y,m,d,hc,rfl,_⟩:=eu ha
 obtain ⟨y',m',d',hc',rfl,_⟩:=eu hb
 rw [Gx hc,Gx hc'] at h
 have a1:=hc.y1; have a2:=hc.m1; have a3:=hc.m2; have a5:=hc'.m1; have a6:=hc'.m2
 have g1:=azu y' m' a5 a6
 have g2:=hc'.d2
 have g3:=hc.d1
 have hy:y'≤y+31:=by omega
 have g4:dN y'≤dN y+11346:=by
  rcases Nat.lt_or_ge y' y with h1 | h1
  ·obtain ⟨k,rfl⟩:∃ k,y=y'+k:=⟨y-y',by omega⟩
   have := aDg hc'.y1 k
   exact Nat.le_trans (Nat.le_trans (Nat.le_add_right _ _) this) (Nat.le_add_right _ _)
  ·obtain ⟨k,rfl⟩:∃ k,y'=y+k:=⟨y'-y,by omega⟩
   have := avG a1 k
   refine Nat.le_trans this (Nat.add_le_add_left ?_ _)
   omega
 have e1:dayOf y' m' d'=dN y'+dH y' (m'-1)+d'-1:=rfl
 have e2:dayOf y m d=dN y+dH y (m-1)+d-1:=rfl
 generalize dayOf y' m' d'=u at *
 generalize dayOf y m d=v at *
 generalize dN y'=b1 at *
 generalize dN y=b0 at *
 generalize dH y' (m'-1)=c1 at *
 generalize dH y (m-1)=c0 at *
 generalize bW y' m'=ml at *
 omega
theorem thirty {b:aA} (h:chk b=none):mi b.bU≤mi b.issue+360∧aU b.issue∧aU b.bU:=by
 have hd:=(bV h).1
 unfold Em at hd
 split at hd
 ·simp at hd
 ·rename_i h1
  split at hd
  ·simp at hd
  ·rename_i h2
   have i1:aU b.issue:=Classical.not_not.1 h1
   have i2:aU b.bU:=Classical.not_not.1 h2
   refine ⟨?_,i1,i2⟩
   have hb:=aa2 i2
   have hbi:=aa2 i1
   split at hd
   ·simp at hd
   ·cases ha:pF b.issue 360 false with
    | none =>
      rcases Nat.lt_or_ge (mi b.issue+360) 26401 with h4 | h4
      ·obtain ⟨r,hr⟩:=agv (day:=b.issue) (n:=360) false i1 (by omega) (by omega)
       rw [hr] at ha; simp at ha
      ·omega
    | some e =>
      rw [ha] at hd
      simp only at hd
      split at hd
      ·simp at hd
      ·have hm:=O3 ha
       have he:aU e:=S_ ha
       have := La i2 he (by omega)
       omega
theorem azv {a b:Int} (ha:aU a) (hb:aU b) (h:a≤b):d30 a≤d30 b:=by
 have hm:=La ha hb h
 obtain ⟨y,m,d,hc,rfl,o1⟩:=eu ha
 obtain ⟨y',m',d',hc',rfl,o2⟩:=eu hb
 unfold d30
 rw [o1,o2]
 have e1:=Gx hc
 have e2:=Gx hc'
 have b1:=hc.d1; have b2:=hc.d2; have b3:=hc'.d1; have b4:=hc'.d2
 have l1:=xX y m
 rcases Nat.lt_or_eq_of_le hm with h1 | h1
 ·simp only; omega
 ·have a2:=hc.m1; have a3:=hc.m2; have a5:=hc'.m1; have a6:=hc'.m2
  rw [e1,e2] at h1
  obtain rfl:m=m':=by omega
  obtain rfl:y=y':=by omega
  have g:d≤d':=by
   have e3:dayOf y m d=dN y+dH y (m-1)+d-1:=rfl
   have e4:dayOf y m d'=dN y+dH y (m-1)+d'-1:=rfl
   generalize dayOf y m d=u at *
   generalize dayOf y m d'=v at *
   generalize dN y=b0 at *
   generalize dH y (m-1)=c0 at *
   omega
  simp only; omega
theorem anS {k a x y:Int} (hx:aU x) (hy:aU y) (h:x≤y):d_ k a x≤d_ k a y:=by
 unfold d_
 split
 ·rw [Vf,Vf]
  have := azv hx hy h
  omega
 ·omega
theorem axw {k a b:Int} (ha:aU a) (hb:aU b) (h:mi b≤mi a+361):d_ k a b≤12100:=by
 unfold d_
 split
 ·rw [Vf]
  unfold d30
  have : (0:Int)≤((kQ a.toNat).2.2:Int):=by omega
  omega
 ·have := azw ha hb h; omega
theorem aym {f x y y':Int} {q:Int×Int} (hf:vO f) (hq:QOk q) (h:y≤y'):yK f x y q≤yK f x y' q:=by
 have := hq.d1; have := hq.d2; have := hq.lt
 have hD:=(hf.mul (a:=q.2-q.1) (by omega) (by omega)).1
 exact tZ (by omega) (by omega)
theorem aCl {f x y:Int} {q:Int×Int} (hf:vO f) (hq:QOk q):0≤yK f x y q∧yK f x y q≤1:=by
 have := hq.d1; have := hq.d2; have hlt:=hq.lt
 have hD:=(hf.mul (a:=q.2-q.1) (by omega) (by omega)).1
 have hf1:1≤f:=by rcases hf with h | h | h | h <;> omega
 have hge:q.2-q.1≤f*(q.2-q.1):=by
  have := Int.mul_le_mul_of_nonneg_right hf1 (show 0≤q.2-q.1 by omega)
  omega
 unfold yK
 generalize f*(q.2-q.1)=D at *
 constructor
 ·rw [← divInt_zero D]
  exact tZ (by omega) (by omega)
 ·have := tZ (D:=D) (a:=max (min y q.2-max x q.1) 0) (b:=1*D) (by omega) (by omega)
  rw [Nz (by omega)] at this
  exact this
theorem aoM {f x y y':Int} (hf:vO f) (h:y≤y'):∀ {l:List (Int×Int)} {s s':Rat},(∀ q∈l,QOk q)→s≤s'→sumF f x y s l≤sumF f x y' s' l
 | [],s,s',_,hs=>hs
 | q::r,s,s',hl,hs=>by
   have h1:=aym (x:=x) hf (hl q (by simp)) h
   simp only [sumF]
   exact aoM hf h (fun z hz=>hl z (by simp [hz])) (by grind)
theorem ano {f x y:Int} (hf:vO f):∀ {l:List (Int×Int)} {s:Rat},(∀ q∈l,QOk q)→s≤sumF f x y s l∧sumF f x y s l≤s+(l.length:Rat)
 | [],s,_=>by
   simp only [sumF,List.length_nil]
   have : ((0:Nat):Rat)=0:=rfl
   rw [this]
   exact ⟨Rat.le_refl,by grind⟩
 | q::r,s,hl=>by
   have h1:=aCl (x:=x) (y:=y) hf (hl q (by simp))
   have ih:=ano (x:=x) (y:=y) hf (l:=r) (s:=s+yK f x y q) (fun z hz=>hl z (by simp [hz]))
   simp only [sumF,List.length_cons]
   have e:((r.length+1:Nat):Rat)=(r.length:Rat)+1:=by rw [Rat.natCast_add]; rfl
   rw [e]
   generalize (r.length:Rat)=n at *
   constructor
   ·exact Rat.le_trans (by grind) ih.1
   ·exact Rat.le_trans ih.2 (by grind)
theorem alI {b:aA} (h:(aW b).1=none) {p:Int×Int} (hp:p∈(aF b).2) {x y:Int} (h1:p.1≤x) (h2:x≤y) (h3:y≤p.2) :
  0≤kF b p p.1 x∧kF b p p.1 x≤kF b p p.1 y∧kF b p p.1 y≤40:=by
 have h0:=(gY h).1
 have hchk:=dK h0
 have hf:=dZ (bV hchk).2.1
 obtain ⟨d1,d2,d3⟩:=gU h0 hp
 have hx:=vV h hp (Int.le_refl p.1) h1 (by omega:x≤p.2)
 have hy:=vV h hp (Int.le_refl p.1) (by omega:p.1≤y) h3
 unfold jW at hx hy
 by_cases hc:b.count=4
 ·rw [if_pos hc] at hx hy
  cases hq:nP b p with
  | none=>rw [hq] at hx; simp at hx
  | some l =>
    have hok:=(Lu hchk d2 hq).1
    have hl2:=OO h0 hp hq
    rw [hq] at hx hy
    simp only at hx hy
    rw [if_neg (by omega)] at hx hy
    have ex:=Except.ok.inj hx
    have ey:=Except.ok.inj hy
    rw [← ex,← ey]
    have bx:=ano (x:=p.1) (y:=x) (s:=Rat.divInt 0 1) hf hok
    have bY:=ano (x:=p.1) (y:=y) (s:=Rat.divInt 0 1) hf hok
    have hz:Rat.divInt 0 1=0:=divInt_zero 1
    have hn:(l.length:Rat)≤2:=by
     have : ((2:Nat):Rat)=2:=rfl
     rw [← this]
     exact Rat.natCast_le_natCast.2 hl2
    refine ⟨by have := bx.1; rw [hz] at this; rw [hz]; exact this,aoM hf h2 hok Rat.le_refl,?_⟩
    have := bY.2
    rw [hz] at this
    rw [hz]
    refine Rat.le_trans this ?_
    generalize (l.length:Rat)=n at *
    grind
 ·rw [if_neg hc,if_neg (by omega)] at hx hy
  have ex:=Except.ok.inj hx
  have ey:=Except.ok.inj hy
  rw [← ex,← ey]
  have hw:=(dP h0).2
  obtain ⟨t1,t2,t3⟩:=thirty hchk
  have hi:b.issue≤p.1∧p.2≤b.bU:=by
   obtain ⟨_,g1,_⟩:=ail h0 hp (s:=p.1) (by omega) (by omega)
   obtain ⟨_,_,g2⟩:=ail h0 hp (s:=p.2-1) (by omega) (by omega)
   omega
  have dx:aU x:=by omega
  have dy:aU y:=by omega
  have m1:=La t2 d1 hi.1
  have m2:=La dy t3 (by omega)
  have c1:=anS (k:=b.count) (a:=p.1) d1 dx h1
  have c2:=anS (k:=b.count) (a:=p.1) dx dy h2
  have c3:=axw (k:=b.count) (a:=p.1) d1 dy (by omega)
  rw [anT] at c1
  unfold Oe
  have hD:(0:Int)<(if b.count=3 then 365 else 360)∧(12100:Int)≤40*(if b.count=3 then 365 else 360):=by split <;> omega
  generalize (if b.count=3 then (365:Int) else 360)=D at *
  refine ⟨by rw [← divInt_zero D]; exact tZ hD.1 c1,tZ hD.1 c2,?_⟩
  have := tZ (a:=d_ b.count p.1 y) (b:=40*D) hD.1 (by omega)
  rw [Nz hD.1] at this
  exact this
end Go.Ev.Code
end
section
namespace Go.Ev.Code
open Go Go.Ev
def jP (l:List Rat):List D:=l.map cZ
theorem anm (l:List Rat) (b n:Nat):(jP l).all (D.clo b (n+1))=true:=by
 unfold jP
 induction l with
 | nil=>rfl
 | cons q r ih=>simp only [List.map_cons,List.all_cons,ih,Bool.and_true]; rfl
theorem al0 (l:List Rat) (n:Nat) (m:Mem):jd (fz (n+1)) (jP l) m=some (jP l,m):=by
 unfold jP
 induction l with
 | nil=>rfl
 | cons q r ih=>simp [ih]
theorem Yf (l:List Rat):(jP l).length=l.length:=by simp [jP]
theorem aCn (l r:List Rat):jP (l++r)=jP l++jP r:=by simp [jP]
theorem avd {l:List Rat} {i:Nat} {q:Rat} (h:l[i]?=some q):(jP l)[i]?=some (cZ q):=by simp [jP,h]
def NW (l:List Rat):D := .sl l.length (jP l)
theorem ajL:∀ {l:List (Int×Rat)} {i:Nat} {p:Int×Rat},l[i]?=some p→((dA l).drop (i*2)).take 2=[.int .i64 p.1,.str (pI p.2)]
 | [],i,p,h=>by simp at h
 | (a,b)::r,0,p,h=>by simp at h; subst h; simp [dA]
 | (a,b)::r,i+1,p,h=>by
   have := ajL (l:=r) (i:=i) (p:=p) (by simpa using h)
   rw [show (i+1)*2=i*2+1+1 by omega]
   simpa [dA] using this
theorem ap6:zeros 1 [.iy]=[.iy]:=rfl
theorem aBl {b:aA} {s k:Int} {pl:Nat} {pc:List D} {all:List (Int×Rat)} (hq:∀ p∈all,RB 13000 p.2) (hn:all.length≤100000):∀ (rest pfx:List (Int×Rat)),all=pfx++rest→pfx≠[] →
  L.loop [1,2,6,7,10,39,40,41] [1,2,6,7,10] tH 1 [.int .i64 s,.loc 0 0,.sl pl pc,.int .i64 k,.aO 1 0 pfx.length 1,.sl all.length (dA all),.int .i64 all.length,.int .i64 pfx.length] [.live (ay b),.live (jP (pfx.map Prod.snd))] =
    some (.exit 0,[.int .i64 s,.loc 0 0,.sl pl pc,.int .i64 k,.aO 1 0 all.length 1],[.live (ay b),.live (jP (all.map Prod.snd))]):=by
 have hbc:=fun n=>iO b n
 intro rest
 induction rest with
 | nil =>
   intro pfx hal hne
   rw [List.append_nil] at hal
   subst hal
   have hrc:=fun n=>anm (all.map Prod.snd) n 11
   generalize jP (all.map Prod.snd)=rc at *
   generalize dA all=fc at *
   generalize ay b=B at *
   generalize all.length=N at *
   refine au (IW ..) ?_
   simp [AY,hbc,hrc]
 | cons p r ih =>
   intro pfx hal hne
   have hpos:0<pfx.length:=List.length_pos_iff.2 hne
   have hgi:all[pfx.length]?=some p:=by rw [hal]; simp
   obtain ⟨g1,g2,g3⟩:=TM hgi
   have g4:=ajL hgi
   have hlt:pfx.length<all.length:=by rw [hal]; simp
   have hget:=ajh (hq p (by rw [hal]; simp))
   have hn2:=ih (pfx++[p]) (by rw [hal]; simp) (by simp)
   rw [List.map_append,aCn,show jP ([p].map Prod.snd)=[cZ p.2] from rfl,List.length_append,List.length_singleton,show ((pfx.length+1:Nat):Int)=(pfx.length:Int)+1 by omega] at hn2
   have hrc:=fun n=>anm (pfx.map Prod.snd) n 11
   have hfz:∀ m,jd (fz 11) (jP (pfx.map Prod.snd)) m=some (jP (pfx.map Prod.snd),m):=fun m=>al0 _ 10 m
   have hrl:(jP (pfx.map Prod.snd)).length=pfx.length:=by rw [Yf,List.length_map]
   have e1:IntKind.i64.wrap ((pfx.length:Int)+1)=(pfx.length:Int)+1:=wrap64 _ (by omega)
   have hlen:pfx.length+1≤4294967296:=by omega
   have htk:(jP (pfx.map Prod.snd)).take pfx.length=jP (pfx.map Prod.snd):=List.take_of_length_le (by omega)
   obtain ⟨pd,q⟩:=p
   simp only at *
   generalize jP (pfx.map Prod.snd)=rc at *
   generalize jP (all.map Prod.snd)=ra at *
   generalize dA all=fc at *
   generalize ay b=B at *
   generalize all.length=N at *
   generalize pfx.length=P at *
   generalize pI q=tq at *
   have hltI:(P:Int)<N:=by omega
   refine au (IW ..) ?_
   simp [AY,hlt,hltI,g1,g2,g3,g4,hget,e1,hbc,hrc,hrl,htk,hlen,ap6,hn2,iM]
theorem aDe {b:aA} {s k:Int} {pl:Nat} {pc:List D} {all:List (Int×Rat)} (hq:∀ p∈all,RB 13000 p.2) (hn:all.length≤100000) (hne:all≠[]) :
  L.loop [1,2,6,7,10,39,40,41] [1,2,6,7,10] tH 1 [.int .i64 s,.loc 0 0,.sl pl pc,.int .i64 k,.dh,.sl all.length (dA all),.int .i64 all.length,.int .i64 0] [.live (ay b)] =
    some (.exit 0,[.int .i64 s,.loc 0 0,.sl pl pc,.int .i64 k,.aO 1 0 all.length 1],[.live (ay b),.live (jP (all.map Prod.snd))]):=by
 have hbc:=fun n=>iO b n
 match all,hne with
 | p::r,_ =>
   have hgi:(p::r)[0]?=some p:=rfl
   obtain ⟨g1,g2,g3⟩:=TM hgi
   have g4:=ajL hgi
   have hget:=ajh (hq p (by simp))
   have hn2:=aBl (b:=b) (s:=s) (k:=k) (pl:=pl) (pc:=pc) hq hn r [p] rfl (by simp)
   rw [show jP ([p].map Prod.snd)=[cZ p.2] from rfl,List.length_singleton] at hn2
   obtain ⟨pd,q⟩:=p
   simp only [Nat.zero_mul,Nat.zero_add,List.drop_zero] at *
   have hlt:0<((pd,q)::r).length:=by simp
   generalize jP (((pd,q)::r).map Prod.snd)=ra at *
   generalize dA ((pd,q)::r)=fc at *
   generalize ay b=B at *
   generalize ((pd,q)::r).length=N at *
   generalize pI q=tq at *
   have hltI:(0:Int)<N:=by omega
   refine au (IW ..) ?_
   simp at hn2
   have e1:IntKind.i64.wrap (1:Int)=1:=wrap64 _ (by omega)
   simp [AY,hlt,hltI,g1,g2,g3,g4,hget,hbc,ap6,hn2,iM,e1]
end Go.Ev.Code
end
section
namespace Go.Ev.Code
open Go Go.Ev
theorem azF {pay each red:Rat} {i j k:Nat} (hP:RB i pay) (hE:RB j each) (hR:RB k red):∀ (l:List (Int×Int)),∀ p∈kE pay each red l,RB (i+j+k+1) p.2:=by
 have hrest:∀ (l:List (Int×Int)),∀ p∈fK each red l,RB (j+k+1) p.2:=by
  intro l
  induction l with
  | nil=>intro p h; simp [fK] at h
  | cons x r ih =>
    cases r with
    | nil=>intro p h; simp [fK] at h; subst h; exact hE.add hR
    | cons y r =>
      intro p h
      simp only [fK,List.mem_cons] at h
      rcases h with rfl | h
      ·exact hE.mono (by omega)
      ·exact ih p h
 intro l p h
 match l,h with
 | [],h=>simp [kE] at h
 | [x],h=>simp [kE] at h; subst h; exact (hP.add hR).mono (by omega)
 | x::y::r,h =>
   simp only [kE,List.mem_cons] at h
   rcases h with rfl | h
   ·exact hP.mono (by omega)
   ·exact (hrest _ p h).mono (by omega)
theorem aq8 {b:aA} (h:(aW b).1=none):∀ p∈(aW b).2,RB 1500 p.2:=by
 obtain ⟨h0,p,r,q,hps,hq,hfl⟩:=gY h
 have hP:=adt h (p:=p) (by rw [hps]; simp)
 rw [Pj hq] at hP
 have hf:=dZ (bV (dK h0)).2.1
 have hE:=abm hf
 have hR:=Zw b
 rw [hfl]
 intro x hx
 obtain ⟨a,ha⟩:∃ a:Nat,a=600:=⟨_,rfl⟩
 obtain ⟨c,hc⟩:∃ c:Nat,c=464:=⟨_,rfl⟩
 rw [← ha] at hP
 rw [← hc] at hE
 exact (azF hP hE hR _ x hx).mono (by omega)
def ay5 (b:aA) (s:Int):D:=match (leftB b s).1 with
 | some e => .aG [.sl 0 [],fD (some e)]
 | none => .aG [NW (dD b s),.bQ]
theorem aku {b:aA} (hc:b.aY.length≤1000000) (hr:b.bJ.length≤1000000) (s:Int):L.call Oh [aC b,.int .i64 s]=some (ay5 b s):=by
 have hl:=aft hc hr s
 have hbc:=fun n=>iO b n
 have hbl:=kK b
 have hbd:=iZ b 0 10
 unfold apY at hl
 unfold ay5
 cases he:(leftB b s).1 with
 | some e =>
   rw [he] at hl
   unfold aC at *
   generalize ay b=B at *
   have htk:B.take 9=B:=List.take_of_length_le (by omega)
   rcases e with ⟨c,_ | t⟩
   ·simp only [fD] at *
    refine aj (Iw ..) ?_
    simp [AX,hl,hbc,hbl,hbd,htk]
   ·simp only [fD,eY] at *
    refine aj (Iw ..) ?_
    simp [AX,hl,hbc,hbl,hbd,htk]
 | none =>
   rw [he] at hl
   obtain ⟨f0,h2,h3,h4⟩:=dX he
   obtain ⟨d1,d2,d3,d4,d5,d6⟩:=qh he
   obtain ⟨k,k1,k2,k3,k4⟩:=x9 h2 h3 h4
   have hplen:=(dP h2).2.len
   have hg:=mP k2
   have hklt:k<(aF b).2.length:=(List.getElem?_eq_some_iff.1 k2).1
   have hfl:=alf hc hr
   have hflen:=O8 f0
   have hrb:=aq8 f0
   have hex:=ad2 hc hr s
   unfold exD at hex
   rw [he] at hex
   have hpay:=av3 f0 hc hr d6
   have hpB:=adt f0 d6
   unfold EU NC at hfl
   rw [f0] at hfl
   simp only [fD] at hfl
   unfold dD
   rw [k1,Int.toNat_natCast]
   rw [k1] at hl
   have hdr:=aee ((aW b).2.take k) ((aW b).2.drop k)
   rw [List.take_append_drop] at hdr
   have htl:((aW b).2.take k).length=k:=by rw [List.length_take]; omega
   rw [htl] at hdr
   have hrl:=Ku ((aW b).2.drop k)
   have hll:((aW b).2.drop k).length=(aF b).2.length-k:=by rw [List.length_drop,hflen]
   have hflc:=Ku (aW b).2
   have hrb2:∀ p∈(aW b).2.drop k,RB 1500 p.2:=fun p hp=>hrb p (List.mem_of_mem_drop hp)
   have hcl:=GV (aW b).2 0 11
   have hcl3:=gZ (aF b).2 0 11
   have hne:(aW b).2.drop k≠[]:=by
    intro h
    rw [h] at hll
    simp at hll
    omega
   have h13:∀ p∈(aW b).2.drop k,RB 13000 p.2:=fun p hp=>(hrb2 p hp).mono (Nat.le_of_ble_eq_true rfl)
   have hloop:=aDe (b:=b) (s:=s) (k:=k) (pl:=(aF b).2.length) (pc:=aX (aF b).2) h13 (by omega) hne
   unfold dO at hl
   rw [hflen] at hfl hflc
   generalize (aW b).2.drop k=rest at *
   rw [hll] at hloop hrl
   have htk2:(dA rest).take (((aF b).2.length-k)*2)=dA rest:=List.take_of_length_le (by omega)
   unfold pD at *
   generalize aV b s=p at *
   obtain ⟨p1,p2⟩:=p
   simp only at *
   obtain ⟨g1,g2,g3,g4⟩:=hg
   have hbn:gK true false (aF b).2.length [.int .i64 (k:Int)]=some (k,(aF b).2.length):=by
    have : (k:Int)≤((aF b).2.length:Int):=by omega
    simp [gK,bnd,this]
   have hb3:k*2+((aF b).2.length-k)*2≤(dA (aW b).2).length:=by omega
   have hrqz:∀ l m,jd (fz 11) (jP l) m=some (jP l,m):=fun l m=>al0 l 10 m
   have hrqc:∀ l n,(jP l).all (D.clo n 12)=true:=fun l n=>anm l n 11
   have hrql:=Yf (rest.map Prod.snd)
   rw [List.length_map,hll] at hrql
   have htk3:(jP (rest.map Prod.snd)).take ((aF b).2.length-k)=jP (rest.map Prod.snd):=List.take_of_length_le (by omega)
   have hkI:(k:Int)<((aF b).2.length:Int):=by omega
   have hNk:0<(aF b).2.length-k:=by omega
   generalize hfc:dA (aW b).2=fc at *
   generalize hNN:(aF b).2.length=N at *
   generalize hNNk:N-k=Nk at *
   generalize aX (aF b).2=pc at *
   generalize dA rest=fr at *
   cases hxb:O7 b s with
   | false =>
     rw [hxb] at hex
     rw [if_neg (by decide)]
     unfold NW
     rw [List.length_map,hll]
     have hc1:=fun n=>hrqc (rest.map Prod.snd) n
     have hz1:=fun m=>al0 (rest.map Prod.snd) 9 m
     generalize jP (rest.map Prod.snd)=rq at *
     unfold aC at *
     generalize ay b=B at *
     have htk:B.take 9=B:=List.take_of_length_le (by omega)
     refine aj (Iw ..) ?_
     simp [AX,hl,hbc,hbl,hbd,htk,hfl,hbn,hdr,hb3,htk2,hNNk,hloop,hex,hz1,hc1,htk3,hrql]
   | true =>
     rw [hxb] at hex
     rw [if_pos rfl]
     match rest,hne with
     | x::r,_ =>
       have hsub:=LJ (hrb2 x (by simp)) hpB (Nat.le_of_ble_eq_true rfl)
       simp only [List.map_cons,apW]
       simp only [List.map_cons] at *
       unfold NW
       have hl4:((x.2-qg b (p1,p2))::r.map Prod.snd).length=Nk:=by simp at hll ⊢; exact hll
       have hl5:=Yf ((x.2-qg b (p1,p2))::r.map Prod.snd)
       have htk5:(jP ((x.2-qg b (p1,p2))::r.map Prod.snd)).take Nk=jP ((x.2-qg b (p1,p2))::r.map Prod.snd):=List.take_of_length_le (by omega)
       rw [hl4] at hl5
       rw [hl4]
       have hc1:=fun n=>hrqc (r.map Prod.snd) n
       have hz1:=fun m=>al0 (r.map Prod.snd) 9 m
       have hcons:∀ q l,jP (q::l)=cZ q::jP l:=fun q l=>rfl
       simp only [hcons] at *
       simp only [List.length_cons] at hl5 hrql
       generalize jP (r.map Prod.snd)=rq at *
       generalize x.2-qg b (p1,p2)=v2 at *
       generalize qg b (p1,p2)=pv at *
       generalize x.2=xv at *
       have hNkI:(0:Int)<(Nk:Int):=by omega
       have hNkl:Nk≤rq.length+1:=by omega
       unfold aC at *
       generalize ay b=B at *
       have htk:B.take 9=B:=List.take_of_length_le (by omega)
       refine aj (Iw ..) ?_
       simp [AX,hl,hbc,hbl,hbd,htk,hfl,hbn,hdr,hb3,htk2,hNNk,hloop,hex,hz1,hc1,htk5,hNkl,hsub,hpay,hklt,hkI,g1,g2,g3,g4,hNk,hNkI,iM]
end Go.Ev.Code
end
section
namespace Go.Ev.Code
open Go Go.Ev
def eG:Nat→List Rat→Nat
 | a,[]=>a
 | a,r::t=>eG (a*(r.den / Nat.gcd a r.den)) t
theorem amY {K:Nat}:∀ {l:List Rat} {a j:Nat},NB j a→(∀ r∈l,RB K r)→NB (j+K*l.length) (eG a l)
 | [],a,j,h,_=>by simpa [eG] using h
 | r::t,a,j,h,hl=>by
   have h1:NB K (r.den / Nat.gcd a r.den):=(hl r (by simp)).2.le (Nat.div_le_self _ _)
   have := amY (l:=t) (h.mul h1) (fun x hx=>hl x (by simp [hx]))
   simp only [eG,List.length_cons]
   refine this.mono ?_
   rw [Nat.mul_add]; omega
theorem akg:∀ {l:List Rat} {a:Nat},0<a→0<eG a l
 | [],a,h=>h
 | r::t,a,h=>by
   have hg:0<Nat.gcd a r.den:=Nat.gcd_pos_of_pos_left _ h
   have hd:0<r.den:=r.den_pos
   have hle:Nat.gcd a r.den≤r.den:=Nat.le_of_dvd hd (Nat.gcd_dvd_right _ _)
   exact akg (l:=t) (Nat.mul_pos h (Nat.div_pos hle hg))
theorem aob:∀ {l:List Rat} {a:Nat},a ∣ eG a l
 | [],a=>Nat.dvd_refl _
 | r::t,a=>Nat.dvd_trans (Nat.dvd_mul_right _ _) (aob (l:=t))
theorem arq:∀ {l:List Rat} {a:Nat},∀ r∈l,r.den ∣ eG a l
 | [],a,r,h=>by simp at h
 | x::t,a,r,h=>by
   rcases List.mem_cons.1 h with rfl | h
   ·refine Nat.dvd_trans ?_ (aob (l:=t))
    have h1:a*(r.den / Nat.gcd a r.den)=r.den*(a / Nat.gcd a r.den):=by
     rw [← Nat.mul_div_assoc _ (Nat.gcd_dvd_right _ _),← Nat.mul_div_assoc _ (Nat.gcd_dvd_left _ _),Nat.mul_comm]
    rw [h1]
    exact Nat.dvd_mul_right _ _
   ·exact arq (l:=t) r h
theorem axu {K:Nat} {all:List Rat} (hn:all.length≤100000):∀ (rest pfx:List Rat) (a j:Nat),all=pfx++rest→(∀ r∈rest,RB K r)→NB j a→0<a→j+K*rest.length+K≤900000 →
  L.loop [0,4,18,19,20] [0,4] Am 0 [NW all,intD (a:Int),NW all,.int .i64 all.length,.int .i64 pfx.length] []=some (.exit 0,[NW all,intD ((eG a rest:Nat):Int)],[]):=by
 intro rest
 induction rest with
 | nil =>
   intro pfx a j hal _ _ _ _
   rw [List.append_nil] at hal
   subst hal
   unfold NW
   simp only [eG]
   generalize jP all=rc at *
   generalize all.length=N at *
   generalize (a:Int)=az at *
   refine au (Xz ..) ?_
   simp [Nj]
 | cons r t ih =>
   intro pfx a j hal hall ha h0 hK
   have hr:=hall r (by simp)
   have hjK:j+K*t.length+K+K≤900000:=by rw [List.length_cons,Nat.mul_add] at hK; omega
   have hjK2:j≤900000:=by omega
   have hK2:K≤900000:=by omega
   have hg0:Nat.gcd a r.den≠0:=by
    have := Nat.gcd_pos_of_pos_left r.den h0; omega
   have hgd:NB K (Nat.gcd a r.den):=hr.2.le (Nat.le_of_dvd r.den_pos (Nat.gcd_dvd_right _ _))
   have hq:NB K (r.den / Nat.gcd a r.den):=hr.2.le (Nat.div_le_self _ _)
   have h1:=Ai (a:Int)
   have h2:=Ai (r.den:Int)
   rw [show ((a:Int)).natAbs=a from by simp] at h1
   rw [show ((r.den:Int)).natAbs=r.den from by simp] at h2
   have h3:=aeE (ha.fit hjK2) (hr.2.fit hK2)
   have h4:=Fe false (Nat.gcd a r.den)
   simp only [Bool.false_eq_true,if_false] at h4
   have h5:=aeI hr.2 hgd hK2 hK2 hg0
   have h6:=eF (IB.ofNat ha) (IB.ofNat hq) hjK2 hK2
   rw [← Int.natCast_mul] at h6
   have hden:=LG r
   have hpos2:0<a*(r.den / Nat.gcd a r.den):=akg (l:=[r]) h0
   have hn2:=ih (pfx++[r]) (a*(r.den / Nat.gcd a r.den)) (j+K) (by rw [hal]; simp) (fun x hx=>hall x (by simp [hx])) (ha.mul hq) hpos2 (by omega)
   rw [List.length_append,List.length_singleton,show ((pfx.length+1:Nat):Int)=(pfx.length:Int)+1 by omega] at hn2
   have hlt:pfx.length<all.length:=by rw [hal]; simp
   have hget:(jP all)[pfx.length]?=some (cZ r):=avd (by rw [hal]; simp)
   have hrl:=Yf all
   have e1:IntKind.i64.wrap ((pfx.length:Int)+1)=(pfx.length:Int)+1:=wrap64 _ (by omega)
   simp only [eG]
   unfold NW at *
   generalize (eG (a*(r.den / Nat.gcd a r.den)) t)=res at *
   generalize ((a*(r.den / Nat.gcd a r.den):Nat):Int)=a2 at *
   generalize ((r.den / Nat.gcd a r.den:Nat):Int)=qz at *
   generalize ((r.den % Nat.gcd a r.den:Nat):Int)=rz at *
   generalize (r.den:Int)=dz at *
   generalize (a:Int)=az at *
   generalize (Nat.gcd a r.den)=gg at *
   generalize r.den=dd at *
   generalize (gg:Int)=gz at *
   generalize jP all=rc at *
   generalize all.length=N at *
   generalize pfx.length=P at *
   have hltI:(P:Int)<N:=by omega
   refine au (Xz ..) ?_
   simp [Nj,hlt,hltI,hget,hden,h1,h2,h3,h4,h5,h6,e1,hn2]
def dw (A:Nat) (l:List Rat):List Int:=l.map fun r=>r.num*((A / r.den:Nat):Int)
def qX (l:List Int):List D:=l.map intD
theorem amW (l:List Int) (b n:Nat):(qX l).all (D.clo b (n+1))=true:=by
 unfold qX
 induction l with
 | nil=>rfl
 | cons q r ih=>simp only [List.map_cons,List.all_cons,ih,Bool.and_true]; rfl
theorem axX (l:List Int) (n:Nat) (m:Mem):jd (fz (n+1)) (qX l) m=some (qX l,m):=by
 unfold qX
 induction l with
 | nil=>rfl
 | cons q r ih=>simp [ih]
theorem auY (l:List Int):(qX l).length=l.length:=by simp [qX]
theorem aB4 (l r:List Int):qX (l++r)=qX l++qX r:=by simp [qX]
theorem aB5 {l:List Int} {i:Nat} {z:Int} (h:l[i]?=some z):(qX l)[i]?=some (intD z):=by simp [qX,h]
theorem axv {K A:Nat} {all:List Rat} (hn:all.length≤100000) {j:Nat} (hA:NB j A) (hj:j≤900000) (hK:K≤900000) (hall:∀ r∈all,RB K r):∀ (rest pfx:List Rat),all=pfx++rest→pfx≠[] →
  L.loop [4,11,43,44,45] [4,11] vk 0 [intD (A:Int),.aO 0 0 pfx.length 1,NW all,.int .i64 all.length,.int .i64 pfx.length] [.live (qX (dw A pfx))] =
    some (.exit 2,[intD (A:Int),.aO 0 0 all.length 1],[.live (qX (dw A all))]):=by
 intro rest
 induction rest with
 | nil =>
   intro pfx hal hne
   rw [List.append_nil] at hal
   subst hal
   unfold NW
   generalize jP all=rc at *
   have hic:=fun n=>amW (dw A all) n 11
   generalize qX (dw A all)=ic at *
   generalize all.length=N at *
   generalize (A:Int)=az at *
   refine au (L_ ..) ?_
   simp [CX,hic]
 | cons r t ih =>
   intro pfx hal hne
   have hr:=hall r (by rw [hal]; simp)
   have hpos:0<pfx.length:=List.length_pos_iff.2 hne
   have h0:r.den≠0:=r.den_nz
   have h5:=aeI hA hr.2 hj hK h0
   have hq:NB j (A / r.den):=hA.le (Nat.div_le_self _ _)
   have h6:=eF hr.num (IB.ofNat hq) hK hj
   have hden:=LG r
   have hnum:=Rj r
   have hn2:=ih (pfx++[r]) (by rw [hal]; simp) (by simp)
   rw [show dw A (pfx++[r])=dw A pfx++[r.num*((A / r.den:Nat):Int)] by simp [dw],aB4,List.length_append,List.length_singleton,show ((pfx.length+1:Nat):Int)=(pfx.length:Int)+1 by omega,show qX [r.num*((A / r.den:Nat):Int)]=[intD (r.num*((A / r.den:Nat):Int))] from rfl] at hn2
   have hlt:pfx.length<all.length:=by rw [hal]; simp
   have hget:(jP all)[pfx.length]?=some (cZ r):=avd (by rw [hal]; simp)
   have hrl:=Yf all
   have hil:(qX (dw A pfx)).length=pfx.length:=by rw [auY]; simp [dw]
   have htk:(qX (dw A pfx)).take pfx.length=qX (dw A pfx):=List.take_of_length_le (by omega)
   have hlen:pfx.length+1≤4294967296:=by omega
   have e1:IntKind.i64.wrap ((pfx.length:Int)+1)=(pfx.length:Int)+1:=wrap64 _ (by omega)
   unfold NW at *
   generalize r.num*((A / r.den:Nat):Int)=v at *
   generalize ((A / r.den:Nat):Int)=qz at *
   generalize ((A % r.den:Nat):Int)=rz at *
   generalize (r.den:Int)=dz at *
   generalize (A:Int)=az at *
   have hpc:=fun n=>amW (dw A pfx) n 11
   generalize qX (dw A pfx)=ip at *
   generalize qX (dw A all)=ia at *
   generalize jP all=rc at *
   generalize all.length=N at *
   generalize pfx.length=P at *
   have hltI:(P:Int)<N:=by omega
   refine au (L_ ..) ?_
   simp [CX,hlt,hltI,hget,hden,hnum,h5,h6,e1,hn2,hil,hpc,htk,hlen,ap6,iM]
theorem aBM {K A:Nat} {all:List Rat} (hn:all.length≤100000) {j:Nat} (hA:NB j A) (hj:j≤900000) (hK:K≤900000) (hall:∀ r∈all,RB K r) (hne:all≠[]) :
  L.loop [4,11,43,44,45] [4,11] vk 0 [intD (A:Int),.dh,NW all,.int .i64 all.length,.int .i64 0] [] =
    some (.exit 2,[intD (A:Int),.aO 0 0 all.length 1],[.live (qX (dw A all))]):=by
 match all,hne with
 | r::t,_ =>
   have hr:=hall r (by simp)
   have h0:r.den≠0:=r.den_nz
   have h5:=aeI hA hr.2 hj hK h0
   have hq:NB j (A / r.den):=hA.le (Nat.div_le_self _ _)
   have h6:=eF hr.num (IB.ofNat hq) hK hj
   have hden:=LG r
   have hnum:=Rj r
   have hn2:=axv hn hA hj hK hall t [r] rfl (by simp)
   rw [show qX (dw A [r])=[intD (r.num*((A / r.den:Nat):Int))] from rfl,List.length_singleton] at hn2
   have hlt:0<(r::t).length:=by simp
   have hget:(jP (r::t))[0]?=some (cZ r):=rfl
   have hrl:=Yf (r::t)
   have e1:IntKind.i64.wrap (1:Int)=1:=wrap64 _ (by omega)
   unfold NW at *
   generalize r.num*((A / r.den:Nat):Int)=v at *
   generalize ((A / r.den:Nat):Int)=qz at *
   generalize ((A % r.den:Nat):Int)=rz at *
   generalize hdz:(r.den:Int)=dz at *
   generalize (A:Int)=az at *
   generalize qX (dw A (r::t))=ia at *
   generalize jP (r::t)=rc at *
   generalize (r::t).length=N at *
   have hltI:(0:Int)<N:=by omega
   refine au (L_ ..) ?_
   simp at hn2
   simp [CX,hlt,hltI,hget,hden,hnum,h5,h6,e1,hn2,ap6,iM]
theorem alN {K:Nat} {l:List Rat} (hne:l≠[]) (hn:l.length≤100000) (hall:∀ r∈l,RB K r) (hK:1+K*l.length+K≤900000) :
  L.call QZ [NW l]=some (.aG [.sl l.length (qX (dw (eG 1 l) l)),intD ((eG 1 l:Nat):Int)]):=by
 have h1:NB 1 1:=by unfold NB; decide
 have hl1:=axu hn l [] 1 1 rfl hall h1 (by omega) hK
 have hA:=amY h1 hall
 have hl2:=aBM hn hA (by omega) (by omega) hall hne
 have hof:=Aj 1 (by omega)
 simp only [List.length_nil] at hl1
 rw [show ((1:Nat):Int)=1 from rfl] at hl1
 have hil:(qX (dw (eG 1 l) l)).length=l.length:=by rw [auY]; simp [dw]
 have htk:(qX (dw (eG 1 l) l)).take l.length=qX (dw (eG 1 l) l):=List.take_of_length_le (by omega)
 have hfz:=fun m=>axX (dw (eG 1 l) l) 9 m
 have hfz2:=fun m=>axX (dw (eG 1 l) l) 10 m
 have hic:=fun n=>amW (dw (eG 1 l) l) n 11
 unfold NW at *
 generalize qX (dw (eG 1 l) l)=ic at *
 generalize ((eG 1 l:Nat):Int)=az at *
 generalize jP l=rc at *
 generalize l.length=N at *
 generalize hone:intD 1=one at *
 refine aj (amw ..) ?_
 subst hone
 simp at hl1 hl2
 simp [adJ,hof,hl1,hl2,hfz,hfz2,htk,hil,hic]
end Go.Ev.Code
end
section
namespace Go.Ev.Code
open Go Go.Ev
theorem alp {n d:Int} {q k:Nat} (hn:IB q n) (hd:IB q d):∀ {l:List Int},(∀ a∈l,IB k a)→IB (k+(q+2)*l.length+2) (hs n d l).1∧IB (q*l.length+1) (hs n d l).2
 | [],_=>⟨by unfold IB NB hs; simp; exact Nat.two_pow_pos _,by unfold IB NB hs; simp⟩
 | a::t,h=>by
   have ih:=alp (k:=k) hn hd (l:=t) (fun x hx=>h x (by simp [hx]))
   have ha:=h a (by simp)
   have e:(q+2)*(t.length+1)=(q+2)*t.length+q+2:=by rw [Nat.mul_add]; omega
   have e2:q*(t.length+1)=q*t.length+q:=by rw [Nat.mul_add]; omega
   have e3:q*t.length≤(q+2)*t.length:=Nat.mul_le_mul_right _ (by omega)
   simp only [hs,List.length_cons]
   refine ⟨((ih.1.mul hd).add (ha.mul ih.2)).mono ?_,(ih.2.mul hn).mono (by omega)⟩
   rw [e]
   generalize (q+2)*t.length=X at *
   generalize q*t.length=Y at *
   omega
theorem aCq {n d:Int} {q k:Nat} (hn:IB q n) (hd:IB q d) {asx:List Int} (hall:∀ a∈asx,IB k a) (hK:k+(q+2)*asx.length+2+q≤900000) (hlen:asx.length≤100000) (Z:D) (hZ:∃ z,Z=intD z):∀ (c:Nat),c<asx.length →
  L.loop [1,2,8,9,10,11,12] [9,10,11] kS 0 [intD n,intD d,.sl asx.length (qX asx),Z,intD (hs n d (asx.drop (c+1))).1,intD (hs n d (asx.drop (c+1))).2,.int .i64 c] [] =
    some (.exit 0,[Z,intD (hs n d asx).1,intD (hs n d asx.tail).2],[]):=by
 obtain ⟨z,rfl⟩:=hZ
 have hstop:∀ s p:Int,L.loop [1,2,8,9,10,11,12] [9,10,11] kS 0 [intD n,intD d,.sl asx.length (qX asx),intD z,intD s,intD p,.int .i64 (-1)] []=some (.exit 0,[intD z,intD s,intD p],[]):=by
  intro s p
  generalize qX asx=ic at *
  generalize asx.length=N at *
  refine au (Mc ..) ?_
  simp [CY]
 have hb:∀ t:List Int,(∀ a∈t,IB k a)→t.length≤asx.length→IB (k+(q+2)*asx.length+2) (hs n d t).1∧IB (q*asx.length+1) (hs n d t).2:=by
  intro t ht hl
  have := alp (k:=k) hn hd (l:=t) ht
  have e1:(q+2)*t.length≤(q+2)*asx.length:=Nat.mul_le_mul_left _ hl
  have e2:q*t.length≤q*asx.length:=Nat.mul_le_mul_left _ hl
  exact ⟨this.1.mono (by omega),this.2.mono (by omega)⟩
 have e3:q*asx.length≤(q+2)*asx.length:=Nat.mul_le_mul_right _ (by omega)
 have hstep:∀ (c:Nat) (a:Int),c<asx.length→asx[c]?=some a→∀ r,
   (if 0<c then L.loop [1,2,8,9,10,11,12] [9,10,11] kS 0 [intD n,intD d,.sl asx.length (qX asx),intD z,intD ((hs n d (asx.drop (c+1))).1*d+a*(hs n d (asx.drop (c+1))).2),intD ((hs n d (asx.drop (c+1))).2*n),.int .i64 ((c:Int)-1)] []
    else L.loop [1,2,8,9,10,11,12] [9,10,11] kS 0 [intD n,intD d,.sl asx.length (qX asx),intD z,intD ((hs n d (asx.drop (c+1))).1*d+a*(hs n d (asx.drop (c+1))).2),intD (hs n d (asx.drop (c+1))).2,.int .i64 (-1)] [])=some r →
   L.loop [1,2,8,9,10,11,12] [9,10,11] kS 0 [intD n,intD d,.sl asx.length (qX asx),intD z,intD (hs n d (asx.drop (c+1))).1,intD (hs n d (asx.drop (c+1))).2,.int .i64 c] []=some r:=by
  intro c a hc hget r hr
  have hmem:a∈asx:=List.mem_of_getElem? hget
  have hbd:=hb (asx.drop (c+1)) (fun x hx=>hall x (List.mem_of_mem_drop hx)) (by rw [List.length_drop]; omega)
  have ha:=hall a hmem
  have m1:=eF hbd.1 hd (by omega) (by omega)
  have m2:=eF ha hbd.2 (by omega) (by omega)
  have m3:=Fb (hbd.1.mul hd) (ha.mul hbd.2) (by omega) (by omega)
  have m4:=eF hbd.2 hn (by omega) (by omega)
  have hg:=aB5 hget
  have e1:IntKind.i64.wrap ((c:Int)-1)=(c:Int)-1:=wrap64 _ (by omega)
  generalize (hs n d (asx.drop (c+1))).1*d+a*(hs n d (asx.drop (c+1))).2=s2 at *
  generalize (hs n d (asx.drop (c+1))).1*d=s1 at *
  generalize a*(hs n d (asx.drop (c+1))).2=s3 at *
  generalize (hs n d (asx.drop (c+1))).2*n=p2 at *
  generalize (hs n d (asx.drop (c+1))).2=p0 at *
  generalize (hs n d (asx.drop (c+1))).1=s0 at *
  generalize qX asx=ic at *
  generalize asx.length=N at *
  have hcI:(c:Int)<N:=by omega
  by_cases h0:0<c
  ·rw [if_pos h0] at hr
   have h0I:(0:Int)<c:=by omega
   refine au (Mc ..) ?_
   simp [CY,hc,hcI,hg,m1,m2,m3,m4,h0,h0I,e1,hr]
  ·rw [if_neg h0] at hr
   obtain rfl:c=0:=by omega
   have e2:IntKind.i64.wrap (-1) = -1:=wrap64 _ (by omega)
   refine au (Mc ..) ?_
   simp [CY,hc,hcI,hg,m1,m2,m3,m4,e2,hr]
 intro c
 induction c with
 | zero =>
   intro hc
   have hget:=List.getElem?_eq_getElem (l:=asx) (i:=0) hc
   refine hstep 0 _ hc hget _ ?_
   rw [if_neg (by omega),hstop]
   match asx,hc with
   | a::t,_=>rfl
 | succ c ih =>
   intro hc
   have hget:=List.getElem?_eq_getElem (l:=asx) (i:=c+1) hc
   refine hstep (c+1) _ hc hget _ ?_
   rw [if_pos (by omega)]
   have hi:=ih (by omega)
   have hd2:asx.drop (c+1)=asx[c+1]::asx.drop (c+1+1):=List.drop_eq_getElem_cons hc
   rw [hd2] at hi
   simp only [hs] at hi
   rw [show ((c+1:Nat):Int)-1=(c:Int) by omega]
   exact hi
theorem arV {A:Nat} {j K:Nat} (hA:NB j A) {l:List Rat} (hall:∀ r∈l,RB K r):∀ a∈dw A l,IB (K+j) a:=by
 intro a ha
 unfold dw at ha
 obtain ⟨r,hr,rfl⟩:=List.mem_map.1 ha
 exact (hall r hr).num.mul (IB.ofNat (hA.le (Nat.div_le_self _ _)))
theorem alO {K q:Nat} {l:List Rat} (hne:l≠[]) (hn:l.length≤100000) (hall:∀ r∈l,RB K r) {n d:Int} (hn2:IB q n) (hd:IB q d) (hK:K+(1+K*l.length)+(q+2)*l.length+2+q≤900000) :
  L.call Q7 [NW l,intD n,intD d]=some (.aG [intD (hs n d (dw (eG 1 l) l)).1,intD (((eG 1 l:Nat):Int)*(hs n d (dw (eG 1 l) l).tail).2)]):=by
 have h1:NB 1 1:=by unfold NB; decide
 have hA:=amY h1 hall
 have hcom:=alN hne hn hall (by omega)
 have hlen:(dw (eG 1 l) l).length=l.length:=by simp [dw]
 have hab:=arV hA hall
 have hpos:0<l.length:=List.length_pos_iff.2 hne
 obtain ⟨c,hc⟩:∃ c,l.length=c+1:=⟨l.length-1,by omega⟩
 have hloop:=aCq hn2 hd hab (by rw [hlen]; exact hK) (by omega) (intD ((eG 1 l:Nat):Int)) ⟨_,rfl⟩ c (by omega)
 have hdr:(dw (eG 1 l) l).drop (c+1)=[]:=List.drop_eq_nil_of_le (by omega)
 rw [hdr] at hloop
 simp only [hs] at hloop
 have htb:=(alp hn2 hd (l:=(dw (eG 1 l) l).tail) (fun a ha=>hab a (List.mem_of_mem_tail ha))).2
 have htl:(dw (eG 1 l) l).tail.length≤l.length:=by rw [List.length_tail,hlen]; omega
 have e2:q*(dw (eG 1 l) l).tail.length≤(q+2)*l.length:=Nat.mul_le_mul (by omega) htl
 have hm:=eF (IB.ofNat hA) htb (by omega) (by omega)
 have o0:=Aj 0 (by omega)
 have o1:=Aj 1 (by omega)
 rw [hlen] at hloop
 have e1:IntKind.i64.wrap ((l.length:Int)-1)=(c:Int):=by rw [wrap64 _ (by omega)]; omega
 generalize hs n d (dw (eG 1 l) l)=r at *
 generalize ((eG 1 l:Nat):Int)*(hs n d (dw (eG 1 l) l).tail).2=v at *
 generalize (hs n d (dw (eG 1 l) l).tail).2=p at *
 generalize qX (dw (eG 1 l) l)=ic at *
 generalize ((eG 1 l:Nat):Int)=az at *
 unfold NW at *
 generalize jP l=rc at *
 generalize l.length=N at *
 generalize hz0:intD 0=zero at *
 generalize hz1:intD 1=one at *
 subst hz0 hz1
 refine aj (amx ..) ?_
 simp [adK,hcom,o0,o1,e1,hloop,hm]
end Go.Ev.Code
end
section
namespace Go.Ev.Code
open Go Go.Ev
def og (x:Rat):List Rat→Rat
 | []=>0
 | r::t=>r+x*og x t
theorem axT {n d:Int} (hn:n≠0):∀ l:List Int,(hs n d l).2≠0
 | []=>by simp [hs]
 | a::t=>by simp only [hs]; exact Int.mul_ne_zero (axT hn t) hn
theorem arW (r:Rat):(r.num:Rat)=r*(r.den:Rat):=by
 have hd:((r.den:Nat):Rat)≠0:=by
  intro h
  rw [← Rat.intCast_natCast] at h
  have := Rat.intCast_eq_zero_iff.1 h
  have := r.den_nz
  omega
 have h:r=(r.num:Rat) / (r.den:Rat):=by
  rw [← Rat.intCast_natCast,← Rat.divInt_eq_div]
  exact (Rat.num_divInt_den r).symm
 generalize (r.num:Rat)=n at *
 generalize (r.den:Rat)=d at *
 rw [h]
 exact (Rat.div_mul_cancel hd).symm
theorem aBZ {A P H E Z:Rat} (hA:A≠0) (hP:P≠0) (hE:E≠0) (hZ:Z≠0):A*P*H*E / (A*P*(E*Z))=H / Z:=by grind
theorem auc {A:Nat} {r:Rat} (h:r.den ∣ A):((r.num*((A / r.den:Nat):Int):Int):Rat)=r*(A:Rat):=by
 obtain ⟨k,rfl⟩:=h
 have hd:r.den≠0:=r.den_nz
 rw [Nat.mul_div_cancel_left _ (by omega)]
 have h1:=arW r
 rw [Rat.intCast_mul,h1,Rat.natCast_mul,Rat.intCast_natCast]
 grind
theorem axU {n d:Int} {A:Nat} {x:Rat} (hx:x*(n:Rat)=(d:Rat)):∀ (l:List Rat),(∀ r∈l,r.den ∣ A)→(((hs n d (dw A l)).1:Int):Rat)*(n:Rat)=(A:Rat)*og x l*(((hs n d (dw A l)).2:Int):Rat)
 | [],_=>by simp only [dw,List.map_nil,hs,og]; show ((0:Int):Rat)*_=_; rw [Rat.intCast_zero]; grind
 | r::t,h=>by
   have ih:=axU hx t (fun q hq=>h q (by simp [hq]))
   have hr:=auc (h r (by simp))
   unfold dw at ih ⊢
   simp only [List.map_cons,hs,og] at ih ⊢
   rw [Rat.intCast_mul] at hr
   rw [Rat.intCast_add,Rat.intCast_mul,Rat.intCast_mul,Rat.intCast_mul,Rat.intCast_mul,hr]
   generalize ((hs n d (List.map (fun r=>r.num*((A / r.den:Nat):Int)) t)).1:Rat)=s at *
   generalize ((hs n d (List.map (fun r=>r.num*((A / r.den:Nat):Int)) t)).2:Rat)=p at *
   generalize og x t=H at *
   generalize (n:Rat)=N at *
   generalize (d:Rat)=E at *
   generalize (A:Rat)=B at *
   subst hx
   grind
theorem aCN {n d:Int} {A:Nat} {x:Rat} (hn:n≠0) (hx:x*(n:Rat)=(d:Rat)) {l:List Rat} (hne:l≠[]) (h:∀ r∈l,r.den ∣ A) :
  (((hs n d (dw A l)).1:Int):Rat)=(A:Rat)*(((hs n d (dw A l).tail).2:Int):Rat)*og x l:=by
 have h1:=axU hx l h
 have hn0:(n:Rat)≠0:=fun h=>hn (Rat.intCast_eq_zero_iff.1 h)
 match l,hne with
 | r::t,_ =>
   have e:((hs n d (dw A (r::t))).2:Int)=(hs n d (dw A (r::t)).tail).2*n:=rfl
   rw [e,Rat.intCast_mul] at h1
   generalize ((hs n d (dw A (r::t))).1:Rat)=s at *
   generalize ((hs n d (dw A (r::t)).tail).2:Rat)=p at *
   generalize og x (r::t)=H at *
   have : (s-(A:Rat)*p*H)*(n:Rat)=0:=by grind
   rcases Rat.mul_eq_zero.1 this with h2 | h2
   ·grind
   ·exact absurd h2 hn0
def bC (b:aA):Int:=100000000*b.bG
def nN (b:aA) (s y:Int):Int:=((dB b s).den:Int)*bC b+(dB b s).num*y
def zY (b:aA) (y:Int):Rat:=(bC b:Rat) / ((bC b+y:Int):Rat)
def oG (b:aA) (s y:Int):Rat:=og (zY b y) (dD b s) / (1+dB b s*((y:Rat) / (bC b:Rat)))
def jw (b:aA) (s y:Int):Except Er Rat:=match (leftB b s).1 with
 | some e => .error (some e)
 | none=>if y < -2000000∨100000000<y then .error (some (2,none)) else if dF b s=0∨nN b s y≤0 then .error (some (3,none)) else .ok (oG b s y)
def DX:Except Er Rat→D
 | .ok q => .aG [cZ q,.bQ]
 | .error e => .aG [.iy,fD e]
theorem auD {b:aA} {s:Int} (h:(leftB b s).1=none):(∀ r∈dD b s,RB 2200 r)∧(dD b s).length≤200∧dD b s≠[]:=by
 obtain ⟨f0,h2,h3,h4⟩:=dX h
 obtain ⟨d1,d2,d3,d4,d5,d6⟩:=qh h
 obtain ⟨k,k1,k2,k3,k4⟩:=x9 h2 h3 h4
 have hplen:=(dP h2).2.len
 have hklt:k<(aF b).2.length:=(List.getElem?_eq_some_iff.1 k2).1
 have hflen:=O8 f0
 have hrb:=aq8 f0
 have hpB:=adt f0 d6
 obtain ⟨a,ha⟩:∃ a:Nat,a=600:=⟨_,rfl⟩
 obtain ⟨c,hc⟩:∃ c:Nat,c=1500:=⟨_,rfl⟩
 obtain ⟨e,he⟩:∃ e:Nat,e=2200:=⟨_,rfl⟩
 rw [← ha] at hpB
 rw [← hc] at hrb
 rw [← he]
 unfold dD
 rw [k1,Int.toNat_natCast]
 have hl:(((aW b).2.drop k).map Prod.snd).length=(aF b).2.length-k:=by rw [List.length_map,List.length_drop,hflen]
 have hall:∀ r∈((aW b).2.drop k).map Prod.snd,RB c r:=by
  intro r hr
  obtain ⟨p,hp,rfl⟩:=List.mem_map.1 hr
  exact hrb p (List.mem_of_mem_drop hp)
 generalize ((aW b).2.drop k).map Prod.snd=l at *
 match l,hl,hall with
 | [],hl,_=>simp at hl; omega
 | x::t,hl,hall =>
   split
   ·simp only [apW]
    refine ⟨fun r hr=>?_,?_,by simp⟩
    ·rcases List.mem_cons.1 hr with rfl | hr
     ·exact ((hall x (by simp)).sub hpB).mono (by omega)
     ·exact (hall r (by simp [hr])).mono (by omega)
    ·simp at hl ⊢; omega
   ·exact ⟨fun r hr=>(hall r hr).mono (by omega),by omega,by simp⟩
theorem ars:∀ {l:List Rat} {a M:Nat},a ∣ M→(∀ r∈l,r.den ∣ M)→eG a l ∣ M
 | [],a,M,h,_=>h
 | r::t,a,M,h,hl=>by
   refine ars (l:=t) ?_ (fun q hq=>hl q (by simp [hq]))
   have : a*(r.den / Nat.gcd a r.den)=Nat.lcm a r.den:=by
    unfold Nat.lcm
    exact (Nat.mul_div_assoc _ (Nat.gcd_dvd_right _ _)).symm
   rw [this]
   exact Nat.lcm_dvd h (hl r (by simp))
theorem amG {n d:Int} (h:d≠0):(Rat.divInt n d).den ∣ d.natAbs:=by
 rw [Rat.den_divInt,if_neg h]
 exact Nat.div_dvd_of_dvd (Nat.gcd_dvd_left _ _)
theorem atC (a c:Rat):(a+c).den ∣ a.den*c.den:=by
 rw [add_eq a c]
 have := amG (n:=a.num*c.den+c.num*a.den) (ahn (a:=a) (b:=c))
 rw [Int.natAbs_mul] at this
 simpa using this
theorem aow (each red:Rat):∀ (l:List (Int×Int)),∀ x∈fK each red l,x.2.den ∣ each.den*red.den
 | [],x,h=>by simp [fK] at h
 | [p],x,h=>by simp [fK] at h; subst h; exact atC each red
 | p::q::r,x,h=>by
   simp only [fK,List.mem_cons] at h
   rcases h with rfl | h
   ·exact Nat.dvd_mul_right _ _
   ·exact aow each red (q::r) x (by simpa [fK] using h)
theorem azG {b:aA} (h:(aW b).1=none):∀ x∈(aW b).2.tail,x.2.den ∣ (fP b).den*(fJ b).den:=by
 obtain ⟨h0,p,r,q,hps,hq,hfl⟩:=gY h
 rw [hfl]
 match r with
 | []=>intro x hx; simp [kE] at hx
 | y::r =>
   intro x hx
   simp only [kE,List.tail_cons] at hx
   exact aow _ _ _ x hx
theorem aB_ {b:aA} {s:Int} (h:(leftB b s).1=none):NB 3100 (eG 1 (dD b s)):=by
 obtain ⟨f0,h2,h3,h4⟩:=dX h
 obtain ⟨k,k1,k2,k3,k4⟩:=x9 h2 h3 h4
 obtain ⟨hall,hlen,hne⟩:=auD h
 have hf:=dZ (bV (dK h2)).2.1
 have htail:∀ r∈(dD b s).tail,r.den ∣ (fP b).den*(fJ b).den:=by
  have hd:∀ r∈(((aW b).2.drop k).map Prod.snd).tail,r.den ∣ (fP b).den*(fJ b).den:=by
   intro r hr
   rw [← List.map_tail,List.tail_drop] at hr
   obtain ⟨x,hx,rfl⟩:=List.mem_map.1 hr
   refine azG f0 x ?_
   rw [← List.drop_tail] at hx
   exact List.mem_of_mem_drop hx
  unfold dD
  rw [k1,Int.toNat_natCast]
  generalize ((aW b).2.drop k).map Prod.snd=l at *
  split
  ·match l with
   | []=>exact hd
   | x::t=>exact hd
  ·exact hd
 have hrp:=abm hf
 have hrd:=Zw b
 obtain ⟨c1,hc1⟩:∃ c:Nat,c=464:=⟨_,rfl⟩
 obtain ⟨c2,hc2⟩:∃ c:Nat,c=400:=⟨_,rfl⟩
 rw [← hc1] at hrp
 rw [← hc2] at hrd
 have hE:NB (c1+c2) ((fP b).den*(fJ b).den):=hrp.2.mul hrd.2
 have hE0:0<(fP b).den*(fJ b).den:=Nat.mul_pos (fP b).den_pos (fJ b).den_pos
 obtain ⟨K,hK⟩:∃ K:Nat,K=2200:=⟨_,rfl⟩
 obtain ⟨J,hJ⟩:∃ J:Nat,J=3100:=⟨_,rfl⟩
 rw [← hK] at hall
 rw [← hJ]
 generalize (fP b).den*(fJ b).den=E at *
 match dD b s,hne,hall,htail with
 | x::t,_,hall,htail =>
   have hx:=(hall x (by simp)).2
   have hm:eG 1 (x::t) ∣ x.den*E:=ars (Nat.one_dvd _) (fun r hr=>by
    rcases List.mem_cons.1 hr with rfl | hr
    ·exact Nat.dvd_mul_right _ _
    ·exact Nat.dvd_trans (htail r hr) (Nat.dvd_mul_left _ _))
   have hp:0<x.den*E:=Nat.mul_pos x.den_pos hE0
   exact ((hx.mul hE).le (Nat.le_of_dvd hp hm)).mono (by omega)
theorem ac_ {b:aA} (hf:vO b.bG) {y:Int} (h1 : -2000000≤y) (h2:y≤100000000):IB 40 (bC b)∧IB 40 (bC b+y)∧IB 40 y∧0<bC b∧0<bC b+y:=by
 have hb:100000000≤bC b∧bC b≤1200000000:=by
  unfold bC
  rcases hf with h | h | h | h <;> rw [h] <;> decide
 refine ⟨?_,?_,?_,by omega,by omega⟩ <;> (unfold IB NB; have : (2:Nat)^40=1099511627776:=by decide) <;> omega
theorem yc {b:aA} (hc:b.aY.length≤1000000) (hr:b.bJ.length≤1000000) (s:Int) {y:Int} (hy : -9223372036854775808≤y∧y≤9223372036854775807) :
  L.call xI [aC b,.int .i64 s,.int .i64 y]=some (DX (jw b s y))∧(∀ q,jw b s y = .ok q→RB 15000 q):=by
 have hl:=aku hc hr s
 have hwt:=afs hc hr s
 unfold ay5 at hl
 unfold jw
 cases he:(leftB b s).1 with
 | some e =>
   refine ⟨?_,fun q h=>by simp at h⟩
   rw [he] at hl
   simp only [DX]
   obtain ⟨i,m,fq,c,rd,n,st,en,ex⟩:=b
   unfold aC ay at *
   simp only at *
   rcases e with ⟨c,_ | t⟩
   ·simp only [fD] at *
    refine aj (zH ..) ?_
    simp [rE,hl]
   ·simp only [fD,eY] at *
    refine aj (zH ..) ?_
    simp [rE,hl]
 | none =>
   rw [he] at hl
   simp only
   by_cases hr1:y < -2000000∨100000000<y
   ·rw [if_pos hr1]
    refine ⟨?_,fun q h=>by simp at h⟩
    simp only [DX,fD]
    unfold NW at hl
    generalize jP (dD b s)=rc at *
    generalize (dD b s).length=N at *
    obtain ⟨i,m,fq,c,rd,n,st,en,ex⟩:=b
    unfold aC ay at *
    simp only at *
    refine aj (zH ..) ?_
    by_cases h1:y < -2000000
    ·simp [rE,hl,h1,bM]
    ·have h2:100000000<y:=by omega
     simp [rE,hl,h1,h2,bM]
   rw [if_neg hr1]
   have hy1:¬ y < -2000000:=by omega
   have hy2:¬ 100000000<y:=by omega
   unfold ap5 at hwt
   rw [he] at hwt
   simp only at hwt
   by_cases h0:dF b s=0
   ·rw [if_pos h0] at hwt
    rw [if_pos (.inl h0)]
    refine ⟨?_,fun q h=>by simp at h⟩
    simp only [DX,fD]
    unfold NW at hl
    generalize jP (dD b s)=rc at *
    generalize (dD b s).length=N at *
    obtain ⟨i,m,fq,c,rd,n,st,en,ex⟩:=b
    unfold aC ay at *
    simp only at *
    refine aj (zH ..) ?_
    simp [rE,hl,hy1,hy2,hwt]
   rw [if_neg h0] at hwt
   have hf:=dZ (bV (dK (dX he).2.1)).2.1
   obtain ⟨gB,nB,yB,g0,n0⟩:=ac_ hf (y:=y) (by omega) (by omega)
   have hwB:=asV he h0
   obtain ⟨hall,hlen,hne⟩:=auD he
   obtain ⟨W,hW⟩:∃ W:Nat,W=700:=⟨_,rfl⟩
   obtain ⟨K,hK⟩:∃ K:Nat,K=2200:=⟨_,rfl⟩
   rw [← hW] at hwB
   rw [← hK] at hall
   have hKl:K*(dD b s).length≤440000:=by rw [hK]; omega
   have hsum:=alO hne (by omega) hall nB gB (by omega)
   have hgz:100000000*b.bG=bC b:=rfl
   have o1:=Aj 100000000 (by omega)
   have o2:=Aj b.bG (by rcases hf with h | h | h | h <;> omega)
   have o3:=Aj y hy
   have m1:=eF (a:=100000000) (b:=b.bG) (gQ (by omega)) (gQ (by rcases hf with h | h | h | h <;> omega)) (by omega) (by omega)
   rw [hgz] at m1
   have m2:=Fb gB yB (by omega) (by omega)
   have m3:=eF hwB.den gB (by omega) (by omega)
   have m4:=eF hwB.num yB (by omega) (by omega)
   have m5:=Fb (hwB.den.mul gB) (hwB.num.mul yB) (by omega) (by omega)
   have haz:((dB b s).den:Int)*bC b+(dB b s).num*y=nN b s y:=rfl
   have aB:=(hwB.den.mul gB).add (hwB.num.mul yB)
   rw [haz] at m5 aB
   have h1n:NB 1 1:=by unfold NB; decide
   have hA:=aB_ he
   obtain ⟨J,hJ⟩:∃ J:Nat,J=3100:=⟨_,rfl⟩
   rw [← hJ] at hA
   have hab:=arV hA hall
   have hnl:(dw (eG 1 (dD b s)) (dD b s)).length=(dD b s).length:=by simp [dw]
   have sB:=(alp nB gB hab).1
   have pB:=(alp nB gB (l:=(dw (eG 1 (dD b s)) (dD b s)).tail) (fun a ha=>hab a (List.mem_of_mem_tail ha))).2
   have htl:(dw (eG 1 (dD b s)) (dD b s)).tail.length≤200:=by rw [List.length_tail,hnl]; omega
   have bB:=(IB.ofNat hA).mul pB
   rw [hnl] at sB
   have m6:=eF sB (hwB.den.mul gB) (by omega) (by omega)
   have m7:=eF bB aB (by omega) (by omega)
   have hden:=LG (dB b s)
   have hnum:=Rj (dB b s)
   have hsg:=G8 (nN b s y)
   by_cases ha:nN b s y≤0
   ·rw [if_pos (.inr ha)]
    refine ⟨?_,fun q h=>by simp at h⟩
    simp only [DX,fD]
    have hsl:(nN b s y).sign≤0:=by
     rcases Int.lt_trichotomy (nN b s y) 0 with h | h | h
     ·rw [Int.sign_eq_neg_one_of_neg h]; omega
     ·rw [h]; decide
     ·omega
    generalize (nN b s y).sign=sg at *
    generalize nN b s y=az at *
    generalize (dB b s).num*y=wy at *
    generalize ((dB b s).den:Int)*bC b=wd at *
    generalize bC b+y=ny at *
    generalize bC b=gz at *
    generalize hs ny gz (dw (eG 1 (dD b s)) (dD b s))=r1 at *
    generalize hs ny gz (dw (eG 1 (dD b s)) (dD b s)).tail=r2 at *
    generalize ((eG 1 (dD b s):Nat):Int)*r2.2=by1 at *
    generalize (dB b s)=w at *
    unfold NW at *
    generalize jP (dD b s)=rc at *
    generalize (dD b s).length=N at *
    obtain ⟨i,m,fq,c,rd,n,st,en,ex⟩:=b
    unfold aC ay at *
    simp only at *
    refine aj (zH ..) ?_
    simp [rE,hl,hy1,hy2,hwt,o1,o2,o3,m1,m2,hsum,hden,hnum,m3,m4,m5,hsg,hsl,bM]
   ·rw [if_neg (by intro h; rcases h with h | h; exact h0 h; exact ha h)]
    have hA0:=akg (l:=dD b s) (a:=1) (by omega)
    have hp0:=axT (n:=bC b+y) (d:=bC b) (by omega) (dw (eG 1 (dD b s)) (dD b s)).tail
    have hby:((eG 1 (dD b s):Nat):Int)*(hs (bC b+y) (bC b) (dw (eG 1 (dD b s)) (dD b s)).tail).2≠0:=Int.mul_ne_zero (by omega) hp0
    have hnz:=Int.mul_ne_zero hby (show nN b s y≠0 by omega)
    have hnew:=Fq (sB.mul (hwB.den.mul gB)) (bB.mul aB) (by omega) (by omega) hnz
    have hRB:RB 15000 (Rat.divInt ((hs (bC b+y) (bC b) (dw (eG 1 (dD b s)) (dD b s))).1*(((dB b s).den:Int)*bC b)) (((eG 1 (dD b s):Nat):Int)*(hs (bC b+y) (bC b) (dw (eG 1 (dD b s)) (dD b s)).tail).2*nN b s y)) :=
     oH ((sB.mul (hwB.den.mul gB)).mono (by omega)) ((bB.mul aB).mono (by omega)) hnz
    have hval:Rat.divInt ((hs (bC b+y) (bC b) (dw (eG 1 (dD b s)) (dD b s))).1*(((dB b s).den:Int)*bC b)) (((eG 1 (dD b s):Nat):Int)*(hs (bC b+y) (bC b) (dw (eG 1 (dD b s)) (dD b s)).tail).2*nN b s y)=oG b s y:=by
     have hx:zY b y*((bC b+y:Int):Rat)=(bC b:Rat):=by
      have : ((bC b+y:Int):Rat)≠0:=fun h=>by have := Rat.intCast_eq_zero_iff.1 h; omega
      unfold zY
      exact Rat.div_mul_cancel this
     have hsv:=aCN (n:=bC b+y) (d:=bC b) (A:=eG 1 (dD b s)) (by omega) hx hne (fun r hr=>arq r hr)
     rw [← Rat.intCast_natCast (eG 1 (dD b s))] at hsv
     have hq1:((((eG 1 (dD b s):Nat):Int):Rat))≠0:=fun h=>by have := Rat.intCast_eq_zero_iff.1 h; omega
     have hq2:(((hs (bC b+y) (bC b) (dw (eG 1 (dD b s)) (dD b s)).tail).2:Int):Rat)≠0:=fun h=>hp0 (Rat.intCast_eq_zero_iff.1 h)
     have hq3:((nN b s y:Int):Rat)≠0:=fun h=>by have := Rat.intCast_eq_zero_iff.1 h; omega
     have hq4:((bC b:Int):Rat)≠0:=fun h=>by have := Rat.intCast_eq_zero_iff.1 h; omega
     have hq5:(((dB b s).den:Int):Rat)≠0:=fun h=>by have := Rat.intCast_eq_zero_iff.1 h; have := (dB b s).den_nz; omega
     have hwn:dB b s*(((dB b s).den:Int):Rat)=((dB b s).num:Rat):=by
      rw [Rat.intCast_natCast]; exact (arW (dB b s)).symm
     have haq:((nN b s y:Int):Rat)=(((dB b s).den:Int):Rat)*(bC b:Rat)+((dB b s).num:Rat)*(y:Rat):=by
      unfold nN
      rw [Rat.intCast_add,Rat.intCast_mul,Rat.intCast_mul]
     rw [Rat.divInt_eq_div,Rat.intCast_mul,Rat.intCast_mul,Rat.intCast_mul,Rat.intCast_mul,hsv]
     unfold oG
     generalize ((((eG 1 (dD b s):Nat):Int):Rat))=A at *
     generalize ((hs (bC b+y) (bC b) (dw (eG 1 (dD b s)) (dD b s)).tail).2:Rat)=P at *
     generalize og (zY b y) (dD b s)=H at *
     rw [haq] at hq3 ⊢
     generalize (((dB b s).den:Int):Rat)=wd at *
     generalize ((dB b s).num:Rat)=wn at *
     generalize dB b s=w at *
     generalize ((bC b:Int):Rat)=G at *
     generalize (y:Rat)=Y at *
     subst hwn
     have e1:wd*G+w*wd*Y=wd*G*(1+w*(Y / G)):=by grind
     rw [e1] at hq3 ⊢
     have hq6:1+w*(Y / G)≠0:=fun h=>hq3 (by rw [h]; grind)
     generalize 1+w*(Y / G)=Z at *
     have hE:wd*G≠0:=fun h=>hq3 (by rw [h]; grind)
     exact aBZ hq1 hq2 hE hq6
    refine ⟨?_,fun q h=>by simp at h; rw [← h,← hval]; exact hRB⟩
    simp only [DX]
    rw [hval] at hnew
    have hsl:¬ (nN b s y).sign≤0:=by
     rw [Int.sign_eq_one_of_pos (by omega)]; omega
    generalize oG b s y=res at *
    generalize (nN b s y).sign=sg at *
    generalize nN b s y=az at *
    generalize (dB b s).num*y=wy at *
    generalize ((dB b s).den:Int)*bC b=wd at *
    generalize bC b+y=ny at *
    generalize bC b=gz at *
    generalize hs ny gz (dw (eG 1 (dD b s)) (dD b s))=r1 at *
    generalize hs ny gz (dw (eG 1 (dD b s)) (dD b s)).tail=r2 at *
    generalize ((eG 1 (dD b s):Nat):Int)*r2.2=by1 at *
    generalize by1*az=ba at *
    generalize r1.1*wd=rw1 at *
    generalize (dB b s)=w at *
    unfold NW at *
    generalize jP (dD b s)=rc at *
    generalize (dD b s).length=N at *
    obtain ⟨i,m,fq,c,rd,n,st,en,ex⟩:=b
    unfold aC ay at *
    simp only at *
    refine aj (zH ..) ?_
    simp [rE,hl,hy1,hy2,hwt,o1,o2,o3,m1,m2,hsum,hden,hnum,m3,m4,m5,hsg,hsl,m6,m7,hnew]
end Go.Ev.Code
end
section
namespace Go.Ev.Code
open Go Go.Ev
theorem aDo {a c:Rat} (h0:0≤a) (h1:a≤c) (hc:c≠0):0≤1-a / c∧1-a / c≤1:=by
 have hpos:0<c:=by grind
 have hi:0<c⁻¹:=Rat.inv_pos.2 hpos
 have e1:a / c=a*c⁻¹:=Rat.div_def _ _
 have e2:c*c⁻¹=1:=Rat.mul_inv_cancel _ hc
 have h2:=Rat.mul_le_mul_of_nonneg_right h1 (Rat.le_of_lt hi)
 have h3:=Rat.mul_nonneg h0 (Rat.le_of_lt hi)
 rw [e1]
 generalize a*c⁻¹=x at *
 constructor <;> grind
theorem akE {b:aA} {s:Int} (h:(leftB b s).1=none) (h0:dF b s≠0):0≤dB b s∧dB b s≤40*(b.bG:Rat):=by
 obtain ⟨f0,h2,h3,h4⟩:=dX h
 obtain ⟨d1,d2,d3,d4,d5,d6⟩:=qh h
 have hf:=dZ (bV (dK h2)).2.1
 obtain ⟨p1,p2,p3⟩:=alI f0 d6 d4 (Int.le_of_lt d5) (Int.le_refl _)
 have hf1:(1:Rat)≤(b.bG:Rat):=by
  have : ((1:Int):Rat)≤(b.bG:Rat):=Rat.intCast_le_intCast.2 (by rcases hf with h | h | h | h <;> omega)
  exact this
 have hfr:Rat.divInt b.bG 1=(b.bG:Rat):=by
  have := Nz (c:=b.bG) (D:=1) (by omega)
  rw [Int.mul_one] at this; exact this
 have hpe:kF b (aV b s) (aV b s).1 s=wY b s:=rfl
 have hwe:kF b (aV b s) (aV b s).1 (aV b s).2=dF b s:=rfl
 rw [hpe] at p1 p2
 rw [hwe] at p2 p3
 obtain ⟨q1,q2⟩:=aDo p1 p2 h0
 unfold dB
 rw [hfr]
 generalize wY b s / dF b s=x at *
 generalize (b.bG:Rat)=F at *
 split
 ·constructor
  ·exact q1
  ·grind
 ·have hw0:0≤dF b s:=Rat.le_trans p1 p2
  generalize dF b s=W at *
  generalize 1-x=u at *
  have hF0:0≤F:=by grind
  have a1:=Rat.mul_le_mul_of_nonneg_right q2 hF0
  have a0:=Rat.mul_nonneg q1 hF0
  have a2:=Rat.mul_le_mul_of_nonneg_right a1 hw0
  have a3:=Rat.mul_le_mul_of_nonneg_left p3 hF0
  refine ⟨Rat.mul_nonneg a0 hw0,?_⟩
  generalize u*F*W=X at *
  grind
theorem ad5 {b:aA} (hf:vO b.bG) {w:Rat} (hw0:0≤w) (hw1:w≤40*(b.bG:Rat)) {y z:Int} (h1 : -2000000≤y) (h2:y≤z) (h3:z≤100000000) :
  0<1+w*((y:Rat) / (bC b:Rat))∧1+w*((y:Rat) / (bC b:Rat))≤1+w*((z:Rat) / (bC b:Rat)):=by
 obtain ⟨_,_,_,g0,n0⟩:=ac_ hf (y:=y) h1 (by omega)
 have a1:(0:Rat)<(bC b:Rat):=Rat.intCast_pos.2 g0
 have i1:(0:Rat)<(bC b:Rat)⁻¹:=Rat.inv_pos.2 a1
 have e1:(bC b:Rat)*(bC b:Rat)⁻¹=1:=Rat.mul_inv_cancel _ (by grind)
 have hg:(bC b:Rat)=100000000*(b.bG:Rat):=by unfold bC; rw [Rat.intCast_mul]; rfl
 have y1:((-2000000:Int):Rat)≤(y:Rat):=Rat.intCast_le_intCast.2 h1
 have y1':(-2000000:Rat)≤(y:Rat):=y1
 have y2:(y:Rat)≤(z:Rat):=Rat.intCast_le_intCast.2 h2
 rw [Rat.div_def,Rat.div_def]
 generalize (bC b:Rat)⁻¹=I at *
 generalize (bC b:Rat)=G at *
 generalize (y:Rat)=Y at *
 generalize (z:Rat)=Z at *
 generalize (b.bG:Rat)=F at *
 have hwI:=Rat.mul_nonneg hw0 (Rat.le_of_lt i1)
 have b1:=Rat.mul_le_mul_of_nonneg_left y1' hwI
 have b2:=Rat.mul_le_mul_of_nonneg_left y2 hwI
 have b3:=Rat.mul_le_mul_of_nonneg_right hw1 (Rat.le_of_lt i1)
 constructor
 ·subst hg
  grind
 ·grind
theorem aaA {b:aA} {s y:Int} (h:(leftB b s).1=none) (h0:dF b s≠0) (h1 : -2000000≤y) (h2:y≤100000000):¬ nN b s y≤0:=by
 have hf:=dZ (bV (dK (dX h).2.1)).2.1
 obtain ⟨_,_,_,g0,n0⟩:=ac_ hf (y:=y) h1 h2
 obtain ⟨w0,w1⟩:=akE h h0
 have ha:=(ad5 hf w0 w1 (z:=y) h1 (Int.le_refl _) h2).1
 have hq4:((bC b:Int):Rat)≠0:=fun h=>by have := Rat.intCast_eq_zero_iff.1 h; omega
 have hq5:(0:Rat)<(((dB b s).den:Int):Rat):=Rat.intCast_pos.2 (by have := (dB b s).den_pos; omega)
 have hgp:(0:Rat)<(bC b:Rat):=Rat.intCast_pos.2 g0
 have hwn:dB b s*(((dB b s).den:Int):Rat)=((dB b s).num:Rat):=by
  rw [Rat.intCast_natCast]; exact (arW (dB b s)).symm
 have haq:((nN b s y:Int):Rat)=(((dB b s).den:Int):Rat)*(bC b:Rat)+((dB b s).num:Rat)*(y:Rat):=by
  unfold nN
  rw [Rat.intCast_add,Rat.intCast_mul,Rat.intCast_mul]
 have hpos:(0:Rat)<((nN b s y:Int):Rat):=by
  rw [haq]
  generalize (((dB b s).den:Int):Rat)=wd at *
  generalize ((dB b s).num:Rat)=wn at *
  generalize dB b s=w at *
  generalize ((bC b:Int):Rat)=G at *
  generalize (y:Rat)=Y at *
  subst hwn
  have e1:wd*G+w*wd*Y=wd*G*(1+w*(Y / G)):=by grind
  rw [e1]
  exact Rat.mul_pos (Rat.mul_pos hq5 hgp) ha
 have := Rat.intCast_pos.1 hpos
 omega
end Go.Ev.Code
end
