/- A part of the proof of priceSum_card. -/
import Derived.Test.YtfkdcfbleblgoaaGreatDoorCSpD9
import Derived.Test.YtfkdcfbleblgoaaGreatDoorCXZ50
import Derived.Test.YtfkdcfbleblgoaaGreatDoorCXZ120
set_option linter.unusedVariables false
set_option linter.unusedSimpArgs false
section
namespace Go.Ev.Code
open Go Go.Ev
theorem arl (n:Int):L.call Fz [.int .i64 n]=some (.int .i64 (n % 109573)):=by
 have h1:Int.tmod n 109573=n % 109573∨Int.tmod n 109573=n % 109573-109573:=by
  rw [Int.tmod_eq_emod]
  split
  ·left; omega
  ·right; simp
 have h2:=Int.emod_nonneg n (show (109573:Int)≠0 by omega)
 have h3:=Int.emod_lt_of_pos n (show (0:Int)<109573 by omega)
 have e1:IntKind.i64.wrap (Int.tmod n 109573)=Int.tmod n 109573:=wrap64 _ (by omega)
 have e2:IntKind.i64.wrap (Int.tmod n 109573+109572)=Int.tmod n 109573+109572:=wrap64 _ (by omega)
 have e3:IntKind.i64.wrap (Int.tmod n 109573+109572+1)=Int.tmod n 109573+109573:=by rw [wrap64 _ (by omega)]; omega
 have e4:=JY (n:=n) (k:=109573) (by omega) (by omega)
 have e5:IntKind.i64.wrap (Int.tmod n 109573+109573)=Int.tmod n 109573+109573:=wrap64 _ (by omega)
 rw [e5] at e4
 have e6:IntKind.i64.wrap (n % 109573)=n % 109573:=wrap64 _ (by omega)
 refine aj (agi ..) ?_
 simp [VT,e1,e2,e3,e4,e6]
def five (c:List UInt8) (k:Int):aA:=⟨36524,38351,2,c,[49,48,48],k,0,false,0⟩
theorem apy (c:List UInt8) (k:Int):L.call CJ [.str c,.int .i64 k]=some (aC (five c k)):=by
 refine aj (afO ..) ?_
 simp [SG,five,aC,ay]
end Go.Ev.Code
end
section
namespace Go.Ev.Code
open Go Go.Ev
theorem ae2 {x:Nat} (h:x<1000000000):L.call yj [.int .i64 x]=some (.agg [.bool false,nD x]):=by
 have ho:=aji h
 have e1:IntKind.u64.wrap (x:Int)=x:=dJ _ (by omega)
 have hn:¬ (x:Int)<0:=by omega
 unfold nD at *
 by_cases h0:x=0
 ·rw [if_pos h0] at *
  generalize (x:Int)=xz at *
  refine aj (Eh ..) ?_
  simp [yY,hn,e1,ho,aS]
 ·rw [if_neg h0] at *
  generalize (x:Int)=xz at *
  refine aj (Eh ..) ?_
  simp [yY,hn,e1,ho,aS]
end Go.Ev.Code
end
section
namespace Go.Ev.Code
open Go Go.Ev
def jm (x:Nat):List UInt8:=txt (x / 100)++46::fV 2 (x % 100)
theorem TW (b:Nat):(fV 2 b).length=2:=rfl
theorem aAM (x:Nat):txt (x / 100)++fV 2 (x % 100)=if x<10 then 48::48::txt x else if x<100 then 48::txt x else txt x:=by
 by_cases h1:x<10
 ·rw [if_pos h1,show x / 100=0 by omega,show x % 100=x by omega,oU (by omega),oU h1]
  show [dg 0]++([dg (x / 10 % 10)]++[dg (x % 10)])=_
  rw [show x / 10 % 10=0 by omega,show x % 10=x by omega]; rfl
 ·rw [if_neg h1]
  by_cases h2:x<100
  ·rw [if_pos h2,show x / 100=0 by omega,show x % 100=x by omega,oU (by omega),JR (n:=x) (by omega),oU (n:=x / 10) (by omega)]
   show [dg 0]++([dg (x / 10 % 10)]++[dg (x % 10)])=_
   rw [show x / 10 % 10=x / 10 by omega]; rfl
  ·rw [if_neg h2]
   have := ah1 2 (n:=x) (by omega)
   exact this.symm
theorem acr {x:Nat} (h:x<1000000000):L.call AL [.agg [.bool false,nD x],.int .i64 2]=some (.str (jm x)):=by
 have ht:=adB h
 have hp:=aAM x
 have hl0:=yu 9 (n:=x) (by omega) (by omega)
 have hl1:=xR x
 have hcl:([.bool false,nD x]:List D).all (D.clo 1 12)=true:=by unfold nD; split <;> simp
 have hcl0:([.bool false,nD x]:List D).all (D.clo 0 11)=true:=by unfold nD; split <;> simp
 have hnc:D.clo 0 12 (nD x)=true:=by unfold nD; split <;> rfl
 have hnc1:D.clo 1 12 (nD x)=true:=by unfold nD; split <;> rfl
 have hstop:∀ s:List UInt8,2<s.length→L.loop [1,2,5] [1,2,5] iw 1 [.int .i64 2,.loc 0 0,.str s] [.live [.bool false,nD x]]=some (.exit 0,[.int .i64 2,.loc 0 0,.str s],[.live [.bool false,nD x]]):=by
  intro s hs
  have hs':¬ (s.length:Int)≤2:=by omega
  have hs2:¬ s.length≤2:=by omega
  generalize nD x=nx at *
  refine au (wO ..) ?_
  simp [qL,hs',hs2,hnc1]
 have hone:∀ s:List UInt8,s.length≤2→∀ r,L.loop [1,2,5] [1,2,5] iw 1 [.int .i64 2,.loc 0 0,.str (48::s)] [.live [.bool false,nD x]]=some r →
   L.loop [1,2,5] [1,2,5] iw 1 [.int .i64 2,.loc 0 0,.str s] [.live [.bool false,nD x]]=some r:=by
  intro s hs r hr
  have hs':(s.length:Int)≤2:=by omega
  have hs3:1+s.length≤1099511627776:=by omega
  generalize nD x=nx at *
  refine au (wO ..) ?_
  simp [qL,hs',hs,hs3,hnc1,hr]
 have hloop:L.loop [1,2,5] [1,2,5] iw 1 [.int .i64 2,.loc 0 0,.str (txt x)] [.live [.bool false,nD x]]=some (.exit 0,[.int .i64 2,.loc 0 0,.str (txt (x / 100)++fV 2 (x % 100))],[.live [.bool false,nD x]]):=by
  rw [hp]
  by_cases h1:x<10
  ·rw [if_pos h1]
   have hl:(txt x).length=1:=by rw [oU h1]; rfl
   exact hone _ (by omega) _ (hone _ (by simp; omega) _ (hstop _ (by simp; omega)))
  ·rw [if_neg h1]
   by_cases h2:x<100
   ·rw [if_pos h2]
    have hl:(txt x).length=2:=by rw [JR (n:=x) (by omega),oU (n:=x / 10) (by omega)]; rfl
    exact hone _ (by omega) _ (hstop _ (by simp; omega))
   ·rw [if_neg h2]
    rw [if_neg h1,if_neg h2] at hp
    refine hstop _ ?_
    rw [← hp,List.length_append,TW]
    have := xR (x / 100)
    omega
 have hlp:=yu 9 (n:=x / 100) (by omega) (by omega)
 clear hp hstop hone
 unfold jm
 have hpl:=TW (x % 100)
 generalize fV 2 (x % 100)=pd at *
 generalize txt (x / 100)=tx at *
 have e1:IntKind.i64.wrap (tx.length:Int)=(tx.length:Int):=wrap64 _ (by omega)
 have hL:(tx++pd).length=tx.length+2:=by rw [List.length_append,hpl]
 have b1:gK false true (tx.length+2) [.int .i64 (tx.length:Int)]=some (0,tx.length):=by
  have : (tx.length:Int)≤(tx.length:Int)+2:=by omega
  simp [gK,bnd,this]
 have b2:gK true false (tx.length+2) [.int .i64 (tx.length:Int)]=some (tx.length,tx.length+2):=by
  have : (tx.length:Int)≤(tx.length:Int)+2:=by omega
  simp [gK,bnd,this]
 have t1:(tx++pd).take tx.length=tx:=by simp
 have t2:(tx++pd).drop tx.length=pd:=by simp
 have t3:pd.take 2=pd:=List.take_of_length_le (by omega)
 have hLI:((tx++pd).length:Int)=(tx.length:Int)+2:=by rw [hL]; omega
 have s3:tx.length≤1099511627773:=by omega
 have s1:tx.length+1≤1099511627776:=by omega
 have s2:tx.length+1+pd.length≤1099511627776:=by omega
 generalize tx++pd=tp at *
 generalize nD x=nx at *
 refine aj (wE ..) ?_
 simp [qW,ht,hnc,hloop,hL,hLI,e1,b1,b2,t1,t2,t3,s1,s2,s3,hpl]
end Go.Ev.Code
end
section
namespace Go.Ev.Code
open Go Go.Ev
theorem avQ {a b d:Int}:Rat.divInt a d+Rat.divInt b d=Rat.divInt (a+b) d:=by
 rw [Rat.divInt_eq_div,Rat.divInt_eq_div,Rat.divInt_eq_div,Rat.intCast_add]
 grind
end Go.Ev.Code
end
section
namespace Go.Ev.Code
open Go Go.Ev
theorem apz (y:Int):L.call CO [.int .i64 y]=some (.int .i64 (y % 102000001-2000000)):=by
 have h1:=Int.emod_nonneg y (show (102000001:Int)≠0 by omega)
 have h2:=Int.emod_lt_of_pos y (show (0:Int)<102000001 by omega)
 have h3:Int.tmod y 102000001=y % 102000001∨Int.tmod y 102000001=y % 102000001-102000001:=by
  rw [Int.tmod_eq_emod]
  split
  ·left; omega
  ·right; simp
 have e1:IntKind.i64.wrap (Int.tmod y 102000001+102000001)=Int.tmod y 102000001+102000001:=wrap64 _ (by omega)
 have e2:Int.tmod (Int.tmod y 102000001+102000001) 102000001=y % 102000001:=by
  rw [Int.tmod_eq_emod_of_nonneg (by omega)]
  rcases h3 with h | h <;> rw [h] <;> omega
 have e3:IntKind.i64.wrap (-2000000+y % 102000001)=y % 102000001-2000000:=by rw [wrap64 _ (by omega)]; omega
 generalize y % 102000001=z at *
 refine aj (afP ..) ?_
 simp [SH,e1,e2,e3]
def aln (y:Int):Int:=y % 102000001-2000000
theorem azO (y:Int) : -2000000≤aln y∧aln y≤100000000:=by unfold aln; omega
end Go.Ev.Code
end
section
namespace Go.Ev.Code
open Go Go.Ev
theorem ayI (n:Nat):(46:UInt8) ∉ txt n:=by
 intro h
 have := List.all_eq_true.1 (anq n) _ h
 exact absurd this (by decide)
theorem ak9 {x:Nat} (h:x<1000000000):oZ (jm x)=some (Rat.divInt (x:Int) 100,2):=by
 have hl:=yu 9 (n:=x / 100) (by omega) (by omega)
 have hlen:(jm x).length≤60:=by unfold jm; rw [List.length_append,List.length_cons,TW]; omega
 have hnb:NB 13000 (x / 100):=NB.mono (j:=64) (by show x / 100<2^64; omega) (Nat.le_of_ble_eq_true rfl)
 have hnum:=ahZ hnb
 have hne:[45].isPrefixOf (jm x)=false:=by
  have h1:=ajt (x / 100)
  have h2:=xR (x / 100)
  unfold jm
  cases ht:txt (x / 100) with
  | nil=>rw [ht] at h2; simp at h2
  | cons a r =>
    rw [ht] at h1
    simpa [List.isPrefixOf] using h1
 have hs:iF (jm x)=(false,jm x):=by unfold iF; rw [hne]; rfl
 have hcut:iG 46 (jm x)=(txt (x / 100),fV 2 (x % 100),true):=by
  unfold iG jm
  rw [aaL _ _ _ (ayI _)]
  rfl
 have hpd:fV 2 (x % 100)=[dg (x % 100 / 10 % 10),dg (x % 100 % 10)]:=rfl
 have d1:=ac5 (d:=x % 100 / 10 % 10) (by omega)
 have d2:=ac5 (d:=x % 100 % 10) (by omega)
 have hall:(fV 2 (x % 100)).all iW=true:=by rw [hpd]; simp only [List.all_cons,List.all_nil,d1.2,d2.2,Bool.and_true]
 have hv:bZ 0 (txt (x / 100)++fV 2 (x % 100))=x:=by
  rw [Zn,akD,hpd,rC,rC,sZ,d1.1,d2.1]
  omega
 unfold oZ
 rw [if_pos hlen,hs]
 simp only
 rw [hcut]
 simp only
 unfold En
 rw [if_pos ⟨hnum,fun _=>⟨by rw [hpd]; simp,by rw [TW]; omega,hall⟩,by simp⟩,hv,TW]
 rfl
end Go.Ev.Code
end
section
namespace Go.Ev.Code
open Go Go.Ev
abbrev wC (b:aA) (x:List UInt8):aA:={ b with aY:=x }
theorem auR (b:aA) (x:List UInt8):∀ f k,XP (wC b x) f k=XP b f k
 | 0,k=>rfl
 | f+1,k=>by
   have h:ali (wC b x) k=ali b k:=rfl
   simp only [XP,h,auR b x f]
theorem aAU (b:aA) (x:List UInt8):bI (wC b x)=bI b:=auR b x 3601 0
theorem ain {b:aA} {x:List UInt8} (h1:chk b=none) (h2:chk (wC b x)=none):aF (wC b x)=aF b:=by
 have hr:dR (wC b x)=dR b:=by
  have h:∀ k,dW (wC b x) k=dW b k:=fun k=>rfl
  unfold dR
  rw [aAU,h]
 have hh:QD (wC b x)=QD b:=by
  have h:∀ k,anch (wC b x) k=anch b k:=fun k=>rfl
  unfold QD
  rw [aAU,h]
 unfold aF
 rw [h1,h2]
 simp only
 rw [hh,hr]
theorem ar_ (b:aA) (x:List UInt8) (d:Int):∀ f k,sF (wC b x) d f k=sF b d f k
 | 0,k=>rfl
 | f+1,k=>by
   have h:∀ k,anch (wC b x) k=anch b k:=fun k=>rfl
   simp only [sF,h,ar_ b x d f]
theorem au_ (b:aA) (x:List UInt8) (d:Int):quasi (wC b x) d=quasi b d:=by
 have h:DV (wC b x) d=DV b d:=ar_ b x d 3602 0
 unfold quasi
 rw [h]
 rfl
theorem au9 (b:aA) (x:List UInt8) (st:Int):∀ f d,gX (wC b x) st f d=gX b st f d
 | 0,d=>rfl
 | f+1,d=>by simp only [gX,au_,au9 b x st f]
theorem aDH (b:aA) (x:List UInt8) (p:Int×Int):nP (wC b x) p=nP b p:=au9 b x _ _ _
theorem abn {b:aA} {x:List UInt8} (h1:chk b=none) (h2:chk (wC b x)=none) (p:Int×Int):regular (wC b x) p=regular b p:=by
 unfold regular
 rw [h1,h2,au_]
theorem aCh (b:aA) (x:List UInt8) (p:Int×Int) (u v:Int):jW (wC b x) p u v=jW b p u v:=by
 unfold jW
 rw [aDH]
theorem ads (b:aA) (x:List UInt8) (p:Int×Int) (u v:Int):kF (wC b x) p u v=kF b p u v:=by
 unfold kF
 rw [aCh]
theorem awr {b:aA} {x:List UInt8} (h1:chk b=none) (h2:chk (wC b x)=none):fJ (wC b x)=fJ b:=by unfold fJ; rw [h1,h2]
theorem ayk {b:aA} {x:List UInt8} (h1:chk b=none) (h2:chk (wC b x)=none) (s:Int):aV (wC b x) s=aV b s:=by
 unfold aV
 rw [ain h1 h2]
theorem aiu {b:aA} {x:List UInt8} (h1:chk b=none) (h2:chk (wC b x)=none) (s:Int):dF (wC b x) s=dF b s:=by
 unfold dF
 rw [ayk h1 h2,ads]
theorem asW {b:aA} {x:List UInt8} (h1:chk b=none) (h2:chk (wC b x)=none) (s:Int):dB (wC b x) s=dB b s:=by
 unfold dB wY
 rw [aiu h1 h2,ayk h1 h2,ads,abn h1 h2]
def Xg (b:aA) (p:Int×Int):Rat:=if regular b p=true then Rat.divInt 1 b.bG else kF b p p.1 p.2
theorem aDG {b:aA} (h:(aW b).1=none) {p:Int×Int} (hp:p∈(aF b).2):qg b p=pV b*Xg b p:=by
 have h0:=(gY h).1
 obtain ⟨d1,d2,d3⟩:=gU h0 hp
 unfold qg oq Xg
 by_cases hr:regular b p=true
 ·rw [if_pos hr,if_pos hr]; rfl
 ·rw [if_neg hr,if_neg hr,vV h hp (Int.le_refl _) (by omega) (Int.le_refl _)]
def Zf:List Rat→List Rat→List Rat→List Rat→Prop
 | [],[],[],[]=>True
 | a::A,b::B,z::Z,s::S=>a+b-z=s∧Zf A B Z S
 | _,_,_,_=>False
theorem aog {x:Rat}:∀ {A B Z S:List Rat},Zf A B Z S→og x A+og x B-og x Z=og x S
 | [],[],[],[],_=>by simp only [og]; grind
 | a::A,b::B,z::Z,s::S,h=>by
   have ih:=aog (x:=x) h.2
   have h1:=h.1
   simp only [og]
   grind
theorem aof:∀ (k:Nat) {A B Z S:List Rat},Zf A B Z S→Zf (A.drop k) (B.drop k) (Z.drop k) (S.drop k)
 | 0,_,_,_,_,h=>h
 | k+1,[],[],[],[],_=>trivial
 | k+1,a::A,b::B,z::Z,s::S,h=>aof k h.2
theorem aoh {a b z s r:Rat} (h:a+b-z=s):∀ l:List (Int×Int),Zf ((fK a r l).map Prod.snd) ((fK b r l).map Prod.snd) ((fK z r l).map Prod.snd) ((fK s r l).map Prod.snd)
 | []=>trivial
 | [p]=>by
   simp only [fK,List.map_cons,List.map_nil,Zf]
   exact ⟨by grind,trivial⟩
 | p::q::l=>by
   simp only [fK,List.map_cons,Zf]
   exact ⟨h,aoh h (q::l)⟩
theorem ax4 {a b z s a0 b0 z0 s0 r:Rat} (h:a+b-z=s) (h0:a0+b0-z0=s0):∀ l:List (Int×Int),Zf ((kE a0 a r l).map Prod.snd) ((kE b0 b r l).map Prod.snd) ((kE z0 z r l).map Prod.snd) ((kE s0 s r l).map Prod.snd)
 | []=>trivial
 | [p]=>by
   simp only [kE,List.map_cons,List.map_nil,Zf]
   exact ⟨by grind,trivial⟩
 | p::q::l=>by
   simp only [kE,List.map_cons,Zf]
   exact ⟨h0,aoh h (q::l)⟩
theorem ad6 {b:aA} {s:Int} (h:(leftB b s).1=none) (hx:b.ex=0):∃ p r,(aF b).2=p::r∧dD b s=((kE (pV b*Xg b p) (pV b*Rat.divInt 1 b.bG) (fJ b) (aF b).2).map Prod.snd).drop (Sz (aF b).2 s).toNat:=by
 obtain ⟨f0,h0,h3,h4⟩:=dX h
 obtain ⟨_,p,r,q,hps,hq,hfl⟩:=gY f0
 refine ⟨p,r,hps,?_⟩
 have hpv:=aDG f0 (p:=p) (by rw [hps]; simp)
 rw [Pj hq] at hpv
 unfold dD O7
 rw [hx,hfl,hpv,← hps]
 simp only [Int.lt_irrefl,decide_false,Bool.false_and,Bool.false_eq_true,if_false]
 rw [List.map_drop]
 rfl
theorem aBm {b:aA} {x y z w:List UInt8} {s:Int} (hx:b.ex=0) (c1:chk (wC b x)=none) (c2:chk (wC b y)=none) (c3:chk (wC b z)=none) (c4:chk (wC b w)=none)
  (l1:(leftB (wC b x) s).1=none) (l2:(leftB (wC b y) s).1=none) (l3:(leftB (wC b z) s).1=none) (l4:(leftB (wC b w) s).1=none) (hs:pV (wC b x)+pV (wC b y)-pV (wC b z)=pV (wC b w)) :
  Zf (dD (wC b x) s) (dD (wC b y) s) (dD (wC b z) s) (dD (wC b w) s):=by
 obtain ⟨p,r,e1,a1⟩:=ad6 l1 hx
 obtain ⟨p2,r2,e2,a2⟩:=ad6 l2 hx
 obtain ⟨p3,r3,e3,a3⟩:=ad6 l3 hx
 obtain ⟨p4,r4,e4,a4⟩:=ad6 l4 hx
 have g2:aF (wC b y)=aF (wC b x):=ain (b:=wC b x) (x:=y) c1 c2
 have g3:aF (wC b z)=aF (wC b x):=ain (b:=wC b x) (x:=z) c1 c3
 have g4:aF (wC b w)=aF (wC b x):=ain (b:=wC b x) (x:=w) c1 c4
 rw [g2,e1] at e2
 rw [g3,e1] at e3
 rw [g4,e1] at e4
 obtain rfl:p=p2:=(List.cons.inj e2).1
 obtain rfl:p=p3:=(List.cons.inj e3).1
 obtain rfl:p=p4:=(List.cons.inj e4).1
 have u2:Xg (wC b y) p=Xg (wC b x) p:=by
  unfold Xg
  rw [show regular (wC b y) p=regular (wC b x) p from abn (b:=wC b x) (x:=y) c1 c2 p,show kF (wC b y) p p.1 p.2=kF (wC b x) p p.1 p.2 from ads (wC b x) y p p.1 p.2]
 have u3:Xg (wC b z) p=Xg (wC b x) p:=by
  unfold Xg
  rw [show regular (wC b z) p=regular (wC b x) p from abn (b:=wC b x) (x:=z) c1 c3 p,show kF (wC b z) p p.1 p.2=kF (wC b x) p p.1 p.2 from ads (wC b x) z p p.1 p.2]
 have u4:Xg (wC b w) p=Xg (wC b x) p:=by
  unfold Xg
  rw [show regular (wC b w) p=regular (wC b x) p from abn (b:=wC b x) (x:=w) c1 c4 p,show kF (wC b w) p p.1 p.2=kF (wC b x) p p.1 p.2 from ads (wC b x) w p p.1 p.2]
 have r2':fJ (wC b y)=fJ (wC b x):=awr (b:=wC b x) (x:=y) c1 c2
 have r3':fJ (wC b z)=fJ (wC b x):=awr (b:=wC b x) (x:=z) c1 c3
 have r4':fJ (wC b w)=fJ (wC b x):=awr (b:=wC b x) (x:=w) c1 c4
 rw [a1,a2,a3,a4,g2,g3,g4,u2,u3,u4,r2',r3',r4']
 refine aof _ (ax4 ?_ ?_ _)
 ·rw [← hs]; simp only; grind
 ·rw [← hs]; grind
theorem axA {b:aA} {x y z w:List UInt8} {s v:Int} (hx:b.ex=0) (c1:chk (wC b x)=none) (c2:chk (wC b y)=none) (c3:chk (wC b z)=none) (c4:chk (wC b w)=none)
  (l1:(leftB (wC b x) s).1=none) (l2:(leftB (wC b y) s).1=none) (l3:(leftB (wC b z) s).1=none) (l4:(leftB (wC b w) s).1=none) (hs:pV (wC b x)+pV (wC b y)-pV (wC b z)=pV (wC b w)) :
  oG (wC b x) s v+oG (wC b y) s v-oG (wC b z) s v=oG (wC b w) s v:=by
 have hl:=aog (x:=zY (wC b x) v) (aBm hx c1 c2 c3 c4 l1 l2 l3 l4 hs)
 have w2:dB (wC b y) s=dB (wC b x) s:=asW (b:=wC b x) (x:=y) c1 c2 s
 have w3:dB (wC b z) s=dB (wC b x) s:=asW (b:=wC b x) (x:=z) c1 c3 s
 have w4:dB (wC b w) s=dB (wC b x) s:=asW (b:=wC b x) (x:=w) c1 c4 s
 have d2:zY (wC b y) v=zY (wC b x) v:=rfl
 have d3:zY (wC b z) v=zY (wC b x) v:=rfl
 have d4:zY (wC b w) v=zY (wC b x) v:=rfl
 have g2:bC (wC b y)=bC (wC b x):=rfl
 have g3:bC (wC b z)=bC (wC b x):=rfl
 have g4:bC (wC b w)=bC (wC b x):=rfl
 unfold oG
 rw [w2,w3,w4,d2,d3,d4,g2,g3,g4,← hl]
 generalize og _ (dD (wC b x) s)=h1
 generalize og _ (dD (wC b y) s)=h2
 generalize og _ (dD (wC b z) s)=h3
 generalize 1+dB (wC b x) s*_=q
 rw [Rat.div_def,Rat.div_def,Rat.div_def,Rat.div_def]
 generalize q⁻¹=i
 grind
end Go.Ev.Code
end
section
namespace Go.Ev.Code
open Go Go.Ev
theorem axx:oZ [49,48,48]=some (100,0):=by decide +kernel
theorem ajD {b:aA} (h:chk b=none) {c:Nat} (hc:c<1000000000) (hb:b.aY=jm c):pV b=Rat.divInt (c:Int) 100:=by
 unfold pV
 rw [h,hb]
 simp only
 rw [ak9 hc]
theorem ahR {b:aA} {c:Nat} (hc:c≤3000) (hb:b.aY=jm c) (hr:b.bJ=[49,48,48]):Bf b=none:=by
 unfold Bf
 rw [hb,hr,ak9 (by omega),axx]
 simp only
 have h0:(0:Rat)≤Rat.divInt (c:Int) 100:=by
  rw [← divInt_zero 100]
  exact tZ (by omega) (by omega)
 have h1:Rat.divInt (c:Int) 100≤q30:=by
  have e:q30=Rat.divInt 3000 100:=by decide +kernel
  rw [e]
  exact tZ (by omega) (by omega)
 have hn:=QY.2 h0
 rw [if_neg (by
  intro h
  rcases h with h | h | h
  ·omega
  ·omega
  ·exact absurd h1 (Rat.not_le.2 h)),if_neg (by decide +kernel)]
theorem ajE {c:Nat} (hc:c<1000000):(jm c).length≤1000000:=by
 have hl:=yu 9 (n:=c / 100) (by omega) (by omega)
 unfold jm; rw [List.length_append,List.length_cons,TW]; omega
end Go.Ev.Code
end
section
namespace Go.Ev.Code
open Go Go.Ev
theorem aAI {I A v:Int} {s:Int} {a:Nat} (hA:A=a) (h1:3000≤I) (h2:I≤92999) (hd:pF I 48 false=some a) {c d:Nat} (hc:c<1500) (hd2:d<1500) (v1 : -2000000≤v) (v2:v≤100000000) :
  ∃ r1 r2 r3 r4:Except Er Rat,L.call xI [aC ⟨I,A,2,jm c,[49,48,48],1,1,false,0⟩,.int .i64 s,.int .i64 v]=some (DX r1)∧L.call xI [aC ⟨I,A,2,jm d,[49,48,48],1,1,false,0⟩,.int .i64 s,.int .i64 v]=some (DX r2) ∧
    L.call xI [aC ⟨I,A,2,[48],[49,48,48],1,1,false,0⟩,.int .i64 s,.int .i64 v]=some (DX r3)∧L.call xI [aC ⟨I,A,2,jm (c+d),[49,48,48],1,1,false,0⟩,.int .i64 s,.int .i64 v]=some (DX r4) ∧
    ((∃ e,e≠none∧r1 = .error e∧r2 = .error e∧r3 = .error e∧r4 = .error e)∨(∃ p q r t,r1 = .ok p∧r2 = .ok q∧r3 = .ok r∧r4 = .ok t∧RB 15000 p∧RB 15000 q∧RB 15000 r∧RB 15000 t∧p+q-r=t)):=by
 obtain ⟨b,hb⟩:∃ b:aA,b=⟨I,A,2,[48],[49,48,48],1,1,false,0⟩:=⟨_,rfl⟩
 have mk:∀ x:List UInt8,Bf (wC b x)=none→Made (wC b x) 48:=by
  intro x hx
  refine ⟨by show 3000≤b.issue; rw [hb]; exact h1,by show b.issue≤92999; rw [hb]; exact h2,⟨a,by show pF b.issue _ false=_; rw [hb]; exact hd,by show b.bU=_; rw [hb]; exact hA⟩,by omega,by omega,.inr (.inl (by show b.bG=2; rw [hb])),hx,?_,?_,?_⟩
  ·show 1≤b.count∧b.count≤4; rw [hb]; exact ⟨Int.le_refl 1,by show (1:Int)≤4; omega⟩
  ·show 1≤b.stub∧b.stub≤2; rw [hb]; exact ⟨Int.le_refl 1,by show (1:Int)≤2; omega⟩
  ·show 0≤b.ex∧b.ex≤30; rw [hb]; exact ⟨Int.le_refl 0,by show (0:Int)≤30; omega⟩
 have hrd:b.bJ=[49,48,48]:=by rw [hb]
 have m1:=mk (jm c) (ahR (c:=c) (by omega) rfl hrd)
 have m2:=mk (jm d) (ahR (c:=d) (by omega) rfl hrd)
 have m4:=mk (jm (c+d)) (ahR (c:=c+d) (by omega) rfl hrd)
 have m3:=mk [48] (by rw [hb]; unfold Bf; simp only; decide +kernel)
 have hcp:pV (wC b (jm c))+pV (wC b (jm d))-pV (wC b [48])=pV (wC b (jm (c+d))):=by
  rw [ajD m1.zn (c:=c) (by omega) rfl,ajD m2.zn (c:=d) (by omega) rfl,ajD m4.zn (c:=c+d) (by omega) rfl,avQ]
  have : pV (wC b [48])=0:=by
   unfold pV
   rw [m3.zn]
   simp only
   rw [show oZ [48]=some (0,0) from by decide +kernel]
  rw [this,show ((c+d:Nat):Int)=(c:Int)+d from by omega]
  grind
 have hr:∀ x,(wC b x).bJ.length≤1000000:=fun x=>by show b.bJ.length≤1000000; rw [hrd]; simp
 have k1:=yc (b:=wC b (jm c)) (ajE (by omega)) (hr _) s (y:=v) (by omega)
 have k2:=yc (b:=wC b (jm d)) (ajE (by omega)) (hr _) s (y:=v) (by omega)
 have k3:=yc (b:=wC b [48]) (by simp) (hr _) s (y:=v) (by omega)
 have k4:=yc (b:=wC b (jm (c+d))) (ajE (by omega)) (hr _) s (y:=v) (by omega)
 have q1:aC ⟨I,A,2,jm c,[49,48,48],1,1,false,0⟩=aC (wC b (jm c)):=by rw [hb]
 have q2:aC ⟨I,A,2,jm d,[49,48,48],1,1,false,0⟩=aC (wC b (jm d)):=by rw [hb]
 have q3:aC ⟨I,A,2,[48],[49,48,48],1,1,false,0⟩=aC (wC b [48]):=by rw [hb]
 have q4:aC ⟨I,A,2,jm (c+d),[49,48,48],1,1,false,0⟩=aC (wC b (jm (c+d))):=by rw [hb]
 rw [q1,q2,q3,q4]
 refine ⟨_,_,_,_,k1.1,k2.1,k3.1,k4.1,?_⟩
 by_cases hin:b.issue≤s∧s<b.bU
 ·have l1:=K_ m1.flow hin.1 hin.2
  have l2:=K_ m2.flow hin.1 hin.2
  have l3:=K_ m3.flow hin.1 hin.2
  have l4:=K_ m4.flow hin.1 hin.2
  have w1:dF (wC b (jm c)) s=dF (wC b [48]) s:=aiu (b:=wC b [48]) (x:=jm c) m3.zn m1.zn s
  have w2:dF (wC b (jm d)) s=dF (wC b [48]) s:=aiu (b:=wC b [48]) (x:=jm d) m3.zn m2.zn s
  have w4:dF (wC b (jm (c+d))) s=dF (wC b [48]) s:=aiu (b:=wC b [48]) (x:=jm (c+d)) m3.zn m4.zn s
  by_cases h0:dF (wC b [48]) s=0
  ·left
   have hE:∀ x,(leftB (wC b x) s).1=none→dF (wC b x) s=0→jw (wC b x) s v = .error (some (3,none)):=by
    intro x hl hw
    unfold jw
    rw [hl]
    simp only
    rw [if_neg (by omega),if_pos (.inl hw)]
   exact ⟨some (3,none),by simp,hE _ l1 (by rw [w1]; exact h0),hE _ l2 (by rw [w2]; exact h0),hE _ l3 h0,hE _ l4 (by rw [w4]; exact h0)⟩
  ·right
   have hE:∀ x,(leftB (wC b x) s).1=none→dF (wC b x) s≠0→jw (wC b x) s v = .ok (oG (wC b x) s v):=by
    intro x hl hw
    unfold jw
    rw [hl]
    simp only
    rw [if_neg (by omega),if_neg (by intro hz; rcases hz with hz | hz; exact hw hz; exact aaA hl hw v1 v2 hz)]
   have e1:=hE _ l1 (by rw [w1]; exact h0)
   have e2:=hE _ l2 (by rw [w2]; exact h0)
   have e3:=hE _ l3 h0
   have e4:=hE _ l4 (by rw [w4]; exact h0)
   exact ⟨_,_,_,_,e1,e2,e3,e4,k1.2 _ e1,k2.2 _ e2,k3.2 _ e3,k4.2 _ e4,axA (by show b.ex=0; rw [hb]) m1.zn m2.zn m3.zn m4.zn l1 l2 l3 l4 hcp⟩
 ·left
  have hE:∀ x,(aW (wC b x)).1=none→jw (wC b x) s v = .error (some (6,none)):=by
   intro x hf
   have : (leftB (wC b x) s).1=some (6,none):=by
    unfold leftB
    rw [hf]
    simp only
    rw [if_pos (by show s<b.issue∨b.bU≤s; omega)]
   unfold jw
   rw [this]
  exact ⟨some (6,none),by simp,hE _ m1.flow,hE _ m2.flow,hE _ m3.flow,hE _ m4.flow⟩
set_option maxHeartbeats 1000000 in
theorem auh (hbeg:L.call iq []=some (.bool true)) (n y settle c d:Int):L.call vC [.int .i64 n,.int .i64 y,.int .i64 settle,.int .i64 c,.int .i64 d]=some (.bool true):=by
 have hday:=arl n
 have hD1:=Int.emod_nonneg n (show (109573:Int)≠0 by omega)
 have hD2:=Int.emod_lt_of_pos n (show (0:Int)<109573 by omega)
 obtain ⟨dd,hDe⟩:∃ dd,dd=n % 109573:=⟨_,rfl⟩
 rw [← hDe] at hday hD1 hD2
 obtain ⟨I,hI⟩:∃ I,I=3000+dd % 90000:=⟨_,rfl⟩
 have e1:Int.tmod dd 90000=dd % 90000:=Int.tmod_eq_emod_of_nonneg hD1
 have e2:IntKind.i64.wrap (3000+dd % 90000)=I:=by rw [wrap64 _ (by omega)]; omega
 have hId:aU I:=⟨by omega,by omega⟩
 have hmi:mi I≤25900:=by
  have h1:=La hId (b:=92999) (by decide) (by omega)
  have := arF
  omega
 have hmb:=aa2 hId
 obtain ⟨a,hA⟩:=agv (day:=I) (n:=48) false hId (by omega) (by omega)
 have ham:=CG I 48 false
 rw [hA] at ham
 simp [okD] at ham
 have g1:=apz y
 have y1:=azO y
 have ey:y % 102000001-2000000=aln y:=rfl
 rw [ey] at g1
 generalize aln y=v at *
 obtain ⟨C,hC⟩:∃ C:Nat,(C:Int)=c % 1500:=⟨(c % 1500).toNat,by omega⟩
 have q1:=JY (n:=c) (k:=1500) (by omega) (by omega)
 rw [← hC] at q1
 obtain ⟨D',hD'⟩:∃ D':Nat,(D':Int)=d % 1500:=⟨(d % 1500).toNat,by omega⟩
 have q2:=JY (n:=d) (k:=1500) (by omega) (by omega)
 rw [← hD'] at q2
 have q3:IntKind.i64.wrap ((C:Int)+(D':Int))=((C+D':Nat):Int):=by rw [wrap64 _ (by omega)]; omega
 have q4:=JY (n:=settle) (k:=1400) (by omega) (by omega)
 have q5:IntKind.i64.wrap (I+settle % 1400)=I+settle % 1400:=wrap64 _ (by omega)
 obtain ⟨w1,hw1⟩:∃ w1,w1=Int.tmod c 1500:=⟨_,rfl⟩
 rw [← hw1] at q1
 obtain ⟨w2,hw2⟩:∃ w2,w2=Int.tmod d 1500:=⟨_,rfl⟩
 rw [← hw2] at q2
 obtain ⟨w3,hw3⟩:∃ w3,w3=Int.tmod settle 1400:=⟨_,rfl⟩
 rw [← hw3] at q4
 obtain ⟨r1,r2,r3,r4,k1,k2,k3,k4,hr⟩:=aAI (A:=a) (v:=v) (s:=I+settle % 1400) (a:=a) rfl (by omega) (by omega) hA (c:=C) (d:=D') (by omega) (by omega) y1.1 y1.2
 have of1:=ae2 (x:=C) (by omega)
 have of2:=ae2 (x:=D') (by omega)
 have of3:=ae2 (x:=C+D') (by omega)
 have dc1:=acr (x:=C) (by omega)
 have dc2:=acr (x:=D') (by omega)
 have dc3:=acr (x:=C+D') (by omega)
 have hfive:=apy (jm C) 1
 have hn1:D.clo 0 11 (nD C)=true:=by unfold nD; split <;> rfl
 have hn2:D.clo 0 11 (nD D')=true:=by unfold nD; split <;> rfl
 have hn3:D.clo 0 11 (nD (C+D'))=true:=by unfold nD; split <;> rfl
 unfold five aC ay at hfive
 unfold aC ay at k1 k2 k3 k4
 simp only at hfive k1 k2 k3 k4
 clear hC hD' hA
 generalize ((C+D':Nat):Int)=Ez at *
 generalize jm (C+D')=tE at *
 generalize nD (C+D')=nE at *
 generalize jm C=tC at *
 generalize nD C=nC at *
 generalize (C:Int)=Cz at *
 generalize jm D'=tD at *
 generalize nD D'=nDd at *
 generalize (D':Int)=Dz at *
 refine aj (ZX ..) ?_
 rcases hr with ⟨e,hne,rfl,rfl,rfl,rfl⟩ | ⟨p,q,r,t,rfl,rfl,rfl,rfl,b1,b2,b3,b4,hsum⟩
 ·have hcode:=ag4 e
  generalize gW e=cz at *
  simp only [DX] at k1 k2 k3 k4
  rcases e with _ | ⟨ce,_ | te⟩
  ·exact absurd rfl hne
  ·simp only [fD] at *
   simp [rU,hbeg,hfive,hday,e1,e2,← hw1,← hw2,← hw3,q1,q2,q3,q4,q5,g1,ham,of1,of2,of3,dc1,dc2,dc3,hn1,hn2,hn3,k1,k2,k3,k4,hcode]
  ·simp only [fD,eY] at *
   simp [rU,hbeg,hfive,hday,e1,e2,← hw1,← hw2,← hw3,q1,q2,q3,q4,q5,g1,ham,of1,of2,of3,dc1,dc2,dc3,hn1,hn2,hn3,k1,k2,k3,k4,hcode]
 ·have ha:=LD b1 b2 (by omega)
  have hs:=LJ (b1.add b2) b3 (by omega)
  rw [hsum] at hs
  have hcmp:=Fj b4 b4 (by omega)
  rw [auK] at hcmp
  simp only [DX] at k1 k2 k3 k4
  generalize p+q=pq at *
  simp [rU,hbeg,hfive,hday,e1,e2,← hw1,← hw2,← hw3,q1,q2,q3,q4,q5,g1,ham,of1,of2,of3,dc1,dc2,dc3,hn1,hn2,hn3,k1,k2,k3,k4,ha,hs,hcmp]
end Go.Ev.Code
end
