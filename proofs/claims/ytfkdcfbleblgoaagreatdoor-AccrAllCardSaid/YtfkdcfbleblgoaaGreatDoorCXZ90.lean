/- A part of the proof of accrAll_card, priceAll_card. -/
import Derived.Test.YtfkdcfbleblgoaaGreatDoorCXZ40
import Derived.Test.YtfkdcfbleblgoaaGreatDoorCXZ50
import Derived.Test.YtfkdcfbleblgoaaGreatDoorCXZ60
set_option linter.unusedVariables false
set_option linter.unusedSimpArgs false
section
namespace Go.Ev.Code
open Go Go.Ev
def upN (a d:Nat) (mode:Int):Bool:=(decide (mode=1) && decide (0≤fM (a % d*2) d)) || (decide (mode=2) && (decide (0<fM (a % d*2) d) || (decide (fM (a % d*2) d=0) && decide (a / d % 2=1))))
def Ah (a d:Nat) (mode:Int):Nat:=if upN a d mode=true then a / d+1 else a / d
def Ag (n:Int) (d:Nat) (mode:Int):Int:=if n<0 then -(Ah n.natAbs d mode:Int) else Ah n.natAbs d mode
theorem asl {n:Int} {d k:Nat} (hq:QB k n d) (hd:0<d) (hk:k≤9000000) (mode:Int):L.call FI [cO n d,.int .i64 mode]=some (lV (Ag n d mode)):=by
 have hdv:=U3 hd (A:=n.natAbs) hq.1 hq.2 (by omega)
 have o2:=jF (x:=2) (by omega)
 have o1:=jF (x:=1) (by omega)
 have hlt:=Nat.mod_lt n.natAbs hd
 have nr:NB k (n.natAbs % d):=Nat.lt_trans hlt hq.2
 have n2:NB 64 2:=by unfold NB; decide
 have n1:NB 64 1:=by unfold NB; decide
 have hm:=uj (nr.iH (by omega)) (n2.iH (by omega))
 have hc:=U2 ((nr.mul n2).iH (by omega)) (hq.2.iH (by omega))
 have nq:NB k (n.natAbs / d):=Nat.lt_of_le_of_lt (Nat.div_le_self _ _) hq.1
 have hA:=acp (a:=n.natAbs / d) (b:=1) (nq.iH (by omega)) (n1.iH (by omega))
 have hI:=He (decide (n<0)) (Ah n.natAbs d mode)
 simp only [decide_eq_true_eq] at hI
 change L.call iE [.bool (decide (n<0)),n9 (Ah n.natAbs d mode)]=some (lV (Ag n d mode)) at hI
 have hN:Ah n.natAbs d mode=if upN n.natAbs d mode=true then n.natAbs / d+1 else n.natAbs / d:=rfl
 have hU:upN n.natAbs d mode=((decide (mode=1) && decide (0≤fM (n.natAbs % d*2) d)) || (decide (mode=2) && (decide (0<fM (n.natAbs % d*2) d) || (decide (fM (n.natAbs % d*2) d=0) && decide (n.natAbs / d % 2=1))))):=rfl
 rw [show ((2:Nat):Int)=2 from rfl] at o2
 rw [show ((1:Nat):Int)=1 from rfl] at o1
 generalize Ag n d mode=res at *
 generalize fM (n.natAbs % d*2) d=cm at *
 obtain ⟨q,hqe⟩:∃ q,q=n.natAbs / d:=⟨_,rfl⟩
 have hodd:(q=0∧ah q=[])∨(0<q∧∃ t,ah q=(q % T9)::t):=by
  rcases Nat.eq_zero_or_pos q with h | h
  ·exact .inl ⟨h,by rw [h]; exact oI⟩
  ·exact .inr ⟨h,_,aaY (by omega)⟩
 have hpar:q % T9 % 2=q % 2:=Nat.mod_mod_of_dvd q ⟨500000000,by decide⟩
 rw [← hqe] at hdv hA hN hU
 generalize upN n.natAbs d mode=up at *
 generalize Ah n.natAbs d mode=nn at *
 generalize n.natAbs % d=r at *
 unfold lV iC at *
 unfold cO qC
 clear hq nr nq n1 n2 hqe hlt
 generalize decide (n<0)=b0 at *
 generalize decide (res<0)=b1 at *
 generalize n.natAbs=a at *
 generalize res.natAbs=ra at *
 have e3:Int.tmod ((q % T9:Nat):Int) 2=((q % 2:Nat):Int):=by
  have h:=tK (q % T9) 2
  rw [hpar] at h
  exact h
 have hodI:(((q % 2:Nat):Int)=1)↔q % 2=1:=by omega
 unfold n9 aQ at *
 generalize (ah a).length=N1 at *
 generalize (ah a).map ak=l1 at *
 generalize (ah d).length=N2 at *
 generalize (ah d).map ak=l2 at *
 generalize (ah r).length=N3 at *
 generalize (ah r).map ak=l3 at *
 generalize (ah (r*2)).length=N4 at *
 generalize (ah (r*2)).map ak=l4 at *
 generalize (ah 2).length=N5 at *
 generalize (ah 2).map ak=l5 at *
 generalize (ah 1).length=N6 at *
 generalize (ah 1).map ak=l6 at *
 generalize (ah ra).length=N7 at *
 generalize (ah ra).map ak=l7 at *
 have fin2:up=true∧nn=q+1∨up=false∧nn=q:=by
  cases up with
  | true=>exact .inl ⟨rfl,by rw [hN,if_pos rfl]⟩
  | false=>exact .inr ⟨rfl,by rw [hN,if_neg (by simp)]⟩
 have hcm:(¬ 0≤cm∧¬ 0<cm∧¬ cm=0)∨(0≤cm∧¬ 0<cm∧cm=0)∨(0≤cm∧0<cm∧¬ cm=0):=by omega
 have hmd:mode=1∨mode=2∨(¬ mode=1∧¬ mode=2):=by omega
 have hpp:q % 2=1∨¬ q % 2=1:=by omega
 rw [hU] at hN
 rcases hodd with ⟨rfl,hl0⟩ | ⟨hq0,t,hl0⟩
 ·rw [hl0] at *
  rcases hmd with rfl | rfl | ⟨m1,m2⟩
  ·rcases hcm with ⟨a1,a2,a3⟩ | ⟨a1,a2,rfl⟩ | ⟨a1,a2,a3⟩
   ·simp [a1,a2,a3] at hN
    subst hN
    rw [hl0] at *
    refine aj (jM ..) ?_
    simp at hdv hI hA
    simp [bD,hdv,o2,hm,hc,a1,a2,a3,hI,aS]
   ·simp at hN
    subst hN
    refine aj (jM ..) ?_
    simp at hdv hI hA
    simp [bD,hdv,o1,o2,hm,hc,hA,hI,aS]
   ·simp [a1,a2,a3] at hN
    subst hN
    refine aj (jM ..) ?_
    simp at hdv hI hA
    simp [bD,hdv,o1,o2,hm,hc,a1,a2,a3,hA,hI,aS]
  ·rcases hcm with ⟨a1,a2,a3⟩ | ⟨a1,a2,rfl⟩ | ⟨a1,a2,a3⟩
   ·simp [a1,a2,a3] at hN
    subst hN
    rw [hl0] at *
    refine aj (jM ..) ?_
    simp at hdv hI hA
    simp [bD,hdv,o2,hm,hc,a1,a2,a3,hI,aS]
   ·simp at hN
    subst hN
    rw [hl0] at *
    refine aj (jM ..) ?_
    simp at hdv hI hA
    simp [bD,hdv,o1,o2,hm,hc,hA,hI,aS]
   ·simp [a1,a2,a3] at hN
    subst hN
    refine aj (jM ..) ?_
    simp at hdv hI hA
    simp [bD,hdv,o1,o2,hm,hc,a1,a2,a3,hA,hI,aS]
  ·simp [m1,m2] at hN
   subst hN
   rw [hl0] at *
   refine aj (jM ..) ?_
   simp at hdv hI hA
   simp [bD,hdv,o2,hm,hc,m1,m2,hI,aS]
 ·have hp0:(0:Int)<(t.length:Int)+1:=by omega
  have hpz:(q % 2=1∧((q % 2:Nat):Int)=1)∨(¬ q % 2=1∧¬ ((q % 2:Nat):Int)=1):=by omega
  generalize ((q % 2:Nat):Int)=pz at *
  generalize q % T9=x at *
  have hcase:(up=false∧nn=q)∨(up=true∧nn=q+1):=by
   rcases fin2 with h | h
   ·exact .inr h
   ·exact .inl h
  have keyq:nn=q→L.call iE [.bool b0,.sl (t.length+1) (.int .u64 x::t.map ak)]=some (.agg [.bool b1,.sl N7 l7]):=by
   rintro rfl
   rw [hl0] at hI
   exact hI
  rw [hl0] at hdv hA
  simp only [List.map_cons,List.length_cons,ak] at hdv hA
  change _→L.call iE [.bool b0,.sl (t.length+1) (.int .u64 x::t.map ak)]=_ at keyq
  have keyu:nn=q+1→L.call iE [.bool b0,.sl (ah (q+1)).length ((ah (q+1)).map ak)]=some (.agg [.bool b1,.sl N7 l7]):=by
   rintro rfl
   exact hI
  generalize (ah (q+1)).length=N8 at *
  generalize (ah (q+1)).map ak=l8 at *
  change L.call AO _=some (.aG [.sl (t.length+1) (.int .u64 x::t.map ak),.sl N3 l3]) at hdv
  generalize t.map ak=tm at *
  clear hI hl0 hU fin2
  refine aj (jM ..) ?_
  try simp at hdv
  try simp at hA
  rcases hmd with rfl | rfl | ⟨m1,m2⟩
  ·rcases hcm with ⟨a1,a2,a3⟩ | ⟨a1,a2,rfl⟩ | ⟨a1,a2,a3⟩
   ·rcases hpz with ⟨hp,hz⟩ | ⟨hp,hz⟩
    ·have hn:nn=q:=by simpa [a1,a2,a3,hp] using hN
     have hI:=keyq hn
     simp [bD,hdv,o1,o2,hm,hc,a1,a2,a3,hp0,e3,hz,hA,hI,aS]
    ·have hn:nn=q:=by simpa [a1,a2,a3,hp] using hN
     have hI:=keyq hn
     simp [bD,hdv,o1,o2,hm,hc,a1,a2,a3,hp0,e3,hz,hA,hI,aS]
   ·rcases hpz with ⟨hp,hz⟩ | ⟨hp,hz⟩
    ·have hn:nn=q+1:=by simpa [hp] using hN
     have hI:=keyu hn
     simp [bD,hdv,o1,o2,hm,hc,hp0,e3,hz,hA,hI,aS]
    ·have hn:nn=q+1:=by simpa [hp] using hN
     have hI:=keyu hn
     simp [bD,hdv,o1,o2,hm,hc,hp0,e3,hz,hA,hI,aS]
   ·rcases hpz with ⟨hp,hz⟩ | ⟨hp,hz⟩
    ·have hn:nn=q+1:=by simpa [a1,a2,a3,hp] using hN
     have hI:=keyu hn
     simp [bD,hdv,o1,o2,hm,hc,a1,a2,a3,hp0,e3,hz,hA,hI,aS]
    ·have hn:nn=q+1:=by simpa [a1,a2,a3,hp] using hN
     have hI:=keyu hn
     simp [bD,hdv,o1,o2,hm,hc,a1,a2,a3,hp0,e3,hz,hA,hI,aS]
  ·rcases hcm with ⟨a1,a2,a3⟩ | ⟨a1,a2,rfl⟩ | ⟨a1,a2,a3⟩
   ·rcases hpz with ⟨hp,hz⟩ | ⟨hp,hz⟩
    ·have hn:nn=q:=by simpa [a1,a2,a3,hp] using hN
     have hI:=keyq hn
     simp [bD,hdv,o1,o2,hm,hc,a1,a2,a3,hp0,e3,hz,hA,hI,aS]
    ·have hn:nn=q:=by simpa [a1,a2,a3,hp] using hN
     have hI:=keyq hn
     simp [bD,hdv,o1,o2,hm,hc,a1,a2,a3,hp0,e3,hz,hA,hI,aS]
   ·rcases hpz with ⟨hp,hz⟩ | ⟨hp,hz⟩
    ·have hn:nn=q+1:=by simpa [hp] using hN
     have hI:=keyu hn
     simp [bD,hdv,o1,o2,hm,hc,hp0,e3,hz,hA,hI,aS]
    ·have hn:nn=q:=by simpa [hp] using hN
     have hI:=keyq hn
     simp [bD,hdv,o1,o2,hm,hc,hp0,e3,hz,hA,hI,aS]
   ·rcases hpz with ⟨hp,hz⟩ | ⟨hp,hz⟩
    ·have hn:nn=q+1:=by simpa [a1,a2,a3,hp] using hN
     have hI:=keyu hn
     simp [bD,hdv,o1,o2,hm,hc,a1,a2,a3,hp0,e3,hz,hA,hI,aS]
    ·have hn:nn=q+1:=by simpa [a1,a2,a3,hp] using hN
     have hI:=keyu hn
     simp [bD,hdv,o1,o2,hm,hc,a1,a2,a3,hp0,e3,hz,hA,hI,aS]
  ·rcases hcm with ⟨a1,a2,a3⟩ | ⟨a1,a2,rfl⟩ | ⟨a1,a2,a3⟩
   ·rcases hpz with ⟨hp,hz⟩ | ⟨hp,hz⟩
    ·have hn:nn=q:=by simpa [a1,a2,a3,m1,m2,hp] using hN
     have hI:=keyq hn
     simp [bD,hdv,o1,o2,hm,hc,a1,a2,a3,m1,m2,hp0,e3,hz,hA,hI,aS]
    ·have hn:nn=q:=by simpa [a1,a2,a3,m1,m2,hp] using hN
     have hI:=keyq hn
     simp [bD,hdv,o1,o2,hm,hc,a1,a2,a3,m1,m2,hp0,e3,hz,hA,hI,aS]
   ·rcases hpz with ⟨hp,hz⟩ | ⟨hp,hz⟩
    ·have hn:nn=q:=by simpa [m1,m2,hp] using hN
     have hI:=keyq hn
     simp [bD,hdv,o1,o2,hm,hc,m1,m2,hp0,e3,hz,hA,hI,aS]
    ·have hn:nn=q:=by simpa [m1,m2,hp] using hN
     have hI:=keyq hn
     simp [bD,hdv,o1,o2,hm,hc,m1,m2,hp0,e3,hz,hA,hI,aS]
   ·rcases hpz with ⟨hp,hz⟩ | ⟨hp,hz⟩
    ·have hn:nn=q:=by simpa [a1,a2,a3,m1,m2,hp] using hN
     have hI:=keyq hn
     simp [bD,hdv,o1,o2,hm,hc,a1,a2,a3,m1,m2,hp0,e3,hz,hA,hI,aS]
    ·have hn:nn=q:=by simpa [a1,a2,a3,m1,m2,hp] using hN
     have hI:=keyq hn
     simp [bD,hdv,o1,o2,hm,hc,a1,a2,a3,m1,m2,hp0,e3,hz,hA,hI,aS]
end Go.Ev.Code
end
section
namespace Go.Ev.Code
open Go Go.Ev
def KZ (k:Nat) (s:List UInt8):List UInt8:=List.replicate (k+1-s.length) 48++s
def adw (k:Nat) (s:List UInt8):List UInt8:=if k=0 then s else s.take (s.length-k)++46::s.drop (s.length-k)
def fixS (z:Int) (k:Nat):List UInt8:=if z<0 then 45::adw k (KZ k (txt z.natAbs)) else adw k (KZ k (txt z.natAbs))
theorem azT {k:Nat} {s:List UInt8} (h:s.length≤k):KZ k (48::s)=KZ k s:=by
 unfold KZ
 rw [List.length_cons,show k+1-s.length=(k+1-(s.length+1))+1 by omega,List.replicate_succ']
 simp
theorem akh {k:Nat} {s:List UInt8} (h:k<s.length):KZ k s=s:=by
 unfold KZ
 rw [show k+1-s.length=0 by omega]; rfl
theorem aoc (k:Nat) (s:List UInt8):(KZ k s).length=max (k+1) s.length:=by
 unfold KZ
 simp
 omega
theorem axy {nx:D} (b:Bool) (hnc:D.clo 1 12 nx=true) {k:Nat} (hk:k≤1000):∀ (j:Nat) (s:List UInt8),k+1≤j+s.length →
  L.loop [1,2,5] [1,2,5] iw 1 [.int .i64 k,.loc 0 0,.str s] [.live [.bool b,nx]]=some (.exit 0,[.int .i64 k,.loc 0 0,.str (KZ k s)],[.live [.bool b,nx]]):=by
 have hstop:∀ s:List UInt8,k<s.length→L.loop [1,2,5] [1,2,5] iw 1 [.int .i64 k,.loc 0 0,.str s] [.live [.bool b,nx]]=some (.exit 0,[.int .i64 k,.loc 0 0,.str s],[.live [.bool b,nx]]):=by
  intro s hs
  have hs':¬ (s.length:Int)≤(k:Int):=by omega
  have hs2:¬ s.length≤k:=by omega
  refine au (wO ..) ?_
  simp [qL,hs',hs2,hnc]
 intro j
 induction j with
 | zero =>
   intro s h
   rw [akh (by omega)]
   exact hstop s (by omega)
 | succ j ih =>
   intro s h
   by_cases hs:k<s.length
   ·rw [akh hs]
    exact hstop s hs
   ·have hr:=ih (48::s) (by simp; omega)
    rw [azT (by omega)] at hr
    have hs':(s.length:Int)≤(k:Int):=by omega
    have hs2:s.length≤k:=by omega
    have hs3:1+s.length≤1099511627776:=by omega
    refine au (wO ..) ?_
    simp [qL,hs',hs2,hs3,hnc,hr]
theorem asj {z:Int} {K k:Nat} (hz:IB K z) (hK:K≤1000000) (hk:k≤100):L.call AL [lV z,.int .i64 k]=some (.str (fixS z k)):=by
 have ht:=Rn (x:=z.natAbs) hz (by omega)
 have hb:=ah0 (x:=z.natAbs) hz
 have hnc:∀ b,D.clo b 12 (n9 z.natAbs)=true:=fun b=>rfl
 have hloop:=axy (decide (z<0)) (hnc 1) (k:=k) (by omega) (k+1) (txt z.natAbs) (by omega)
 have hl:=aoc k (txt z.natAbs)
 have hnc0:=hnc 0
 have hnc1:=hnc 1
 clear hnc
 unfold fixS lV iC
 generalize KZ k (txt z.natAbs)=s at *
 generalize txt z.natAbs=tx at *
 generalize n9 z.natAbs=nx at *
 obtain ⟨P,hP⟩:∃ P,s.length=P+k:=⟨s.length-k,by omega⟩
 have hPI:(s.length:Int)=(P:Int)+(k:Int):=by omega
 have e1:IntKind.i64.wrap (P:Int)=(P:Int):=wrap64 _ (by omega)
 have b1:gK false true s.length [.int .i64 (P:Int)]=some (0,P):=by
  have : (P:Int)≤(s.length:Int):=by omega
  simp [gK,bnd,this]
 have b2:gK true false s.length [.int .i64 (P:Int)]=some (P,s.length):=by
  have : (P:Int)≤(s.length:Int):=by omega
  simp [gK,bnd,this]
 have t3:(s.drop P).take (s.length-P)=s.drop P:=List.take_of_length_le (by simp)
 have hp:adw k s=if k=0 then s else s.take P++46::s.drop P:=by
  unfold adw; rw [show s.length-k=P by omega]
 rw [hp]
 have l1:(s.take P).length=P:=by rw [List.length_take]; omega
 have l2:(s.drop P).length=k:=by rw [List.length_drop]; omega
 have s1:P+1≤1099511627776:=by omega
 have s2:P+1+k≤1099511627776:=by omega
 have s3:1+(P+(k+1))≤1099511627776:=by omega
 have s4:1+s.length≤1099511627776:=by omega
 have e2:(P:Int)+(k:Int)-(k:Int)=(P:Int):=by omega
 clear hp
 obtain ⟨sa,hsa⟩:∃ x,s.take P=x:=⟨_,rfl⟩
 obtain ⟨sb,hsb⟩:∃ x,s.drop P=x:=⟨_,rfl⟩
 rw [hsa] at l1 ⊢
 rw [hsb] at l2 t3 ⊢
 by_cases hn:z<0
 ·rw [if_pos hn,decide_eq_true hn] at *
  by_cases h0:k=0
  ·subst h0
   refine aj (wE ..) ?_
   simp at hloop
   simp [qW,ht,hnc0,hnc1,hloop,s4]
  ·rw [if_neg h0]
   have h0':0<k:=by omega
   refine aj (wE ..) ?_
   simp [qW,ht,hnc0,hnc1,hloop,h0',hPI,e1,e2,b1,b2,t3,l1,l2,s1,s2,s3,hsa,hsb]
 ·rw [if_neg hn,decide_eq_false hn] at *
  by_cases h0:k=0
  ·subst h0
   refine aj (wE ..) ?_
   simp at hloop
   simp [qW,ht,hnc0,hnc1,hloop]
  ·rw [if_neg h0]
   have h0':0<k:=by omega
   refine aj (wE ..) ?_
   simp [qW,ht,hnc0,hnc1,hloop,h0',hPI,e1,e2,b1,b2,t3,l1,l2,s1,s2,s3,hsa,hsb]
theorem aDL (n:Nat):(List.replicate n [(48:UInt8)]).flatten=List.replicate n 48:=by simp
theorem aps {z:Int} {K k:Nat} (hz:IB K z) (hK:K≤900000) (h1:1≤K) (hk:k≤100):L.call Qr [intD z,.int .i64 k]=some (.str (fixS z k)):=by
 have ht:=ab8 (v:=z.natAbs) (hz.fit hK) (NB.wri hz hK h1)
 have hb:=ah0 (x:=z.natAbs) hz
 have hr:=af8 (s:=[48]) (n:=k+1-(txt z.natAbs).length) (by omega) (by simp)
 rw [aDL] at hr
 have hl:=aoc k (txt z.natAbs)
 have hd:KZ k (txt z.natAbs)=List.replicate (k+1-(txt z.natAbs).length) 48++txt z.natAbs:=rfl
 have hge := @akh k (txt z.natAbs)
 have hsg := @sign_neg z
 have hsn:=G8 z
 have hab:=Ai z
 have htp:=xR z.natAbs
 have hci:D.clo 0 12 (intD z)=true:=rfl
 have hcn:D.clo 0 12 (dI z.natAbs)=true:=rfl
 unfold fixS
 generalize KZ k (txt z.natAbs)=s at *
 generalize txt z.natAbs=tx at *
 generalize z.sign=sg at *
 generalize dI z.natAbs=nx at *
 obtain ⟨P,hP⟩:∃ P,s.length=P+k:=⟨s.length-k,by omega⟩
 have e1:IntKind.i64.wrap (P:Int)=(P:Int):=wrap64 _ (by omega)
 have b1:gK false true s.length [.int .i64 (P:Int)]=some (0,P):=by
  have : (P:Int)≤(s.length:Int):=by omega
  simp [gK,bnd,this]
 have b2:gK true false s.length [.int .i64 (P:Int)]=some (P,s.length):=by
  have : (P:Int)≤(s.length:Int):=by omega
  simp [gK,bnd,this]
 have t3:(s.drop P).take (s.length-P)=s.drop P:=List.take_of_length_le (by simp)
 have hp:adw k s=if k=0 then s else s.take P++46::s.drop P:=by
  unfold adw; rw [show s.length-k=P by omega]
 rw [hp]
 have l1:(s.take P).length=P:=by rw [List.length_take]; omega
 have l2:(s.drop P).length=k:=by rw [List.length_drop]; omega
 have s1:P+1≤1099511627776:=by omega
 have s2:P+1+k≤1099511627776:=by omega
 have s3:1+(P+(k+1))≤1099511627776:=by omega
 have s4:1+s.length≤1099511627776:=by omega
 have e2:(s.length:Int)-(k:Int)=(P:Int):=by omega
 clear hp
 generalize intD z=iz at *
 have key:L.call Qr [iz,.int .i64 k]=some (.str (if z<0 then 45::(if k=0 then s else s.take P++46::s.drop P) else (if k=0 then s else s.take P++46::s.drop P))):=by
  obtain ⟨sa,hsa⟩:∃ x,s.take P=x:=⟨_,rfl⟩
  obtain ⟨sb,hsb⟩:∃ x,s.drop P=x:=⟨_,rfl⟩
  rw [hsa] at l1 ⊢
  rw [hsb] at l2 t3 ⊢
  by_cases hs:tx.length≤k
  ·have hs':(tx.length:Int)≤(k:Int):=by omega
   have w1:IntKind.i64.wrap ((k:Int)+1)=(k:Int)+1:=wrap64 _ (by omega)
   have w2:IntKind.i64.wrap ((k:Int)+1-(tx.length:Int))=((k+1-tx.length:Nat):Int):=by rw [wrap64 _ (by omega)]; omega
   have hm:k+1-tx.length+tx.length≤1099511627776:=by omega
   generalize ((k+1-tx.length:Nat):Int)=kk at *
   have hd':=hd.symm
   have hd2:(List.replicate (k+1-tx.length) (48:UInt8)).length+tx.length≤1099511627776:=by simp; omega
   generalize List.replicate (k+1-tx.length) (48:UInt8)=rp at *
   clear hd hge hl
   by_cases hn:z<0
   ·have hn':sg<0:=hsg.2 hn
    by_cases h0:k=0
    ·omega
    ·have h0':0<k:=by omega
     refine aj (Df ..) ?_
     simp [yU,hci,hcn,hab,ht,hs,hs',w1,w2,hr,hd',hd2,hsn,hn,hn',h0,h0',e1,e2,b1,b2,t3,l1,l2,s1,s2,s3,hsa,hsb]
   ·have hn':¬ sg<0:=fun h=>hn (hsg.1 h)
    by_cases h0:k=0
    ·omega
    ·have h0':0<k:=by omega
     refine aj (Df ..) ?_
     simp [yU,hci,hcn,hab,ht,hs,hs',w1,w2,hr,hd',hd2,hsn,hn,hn',h0,h0',e1,e2,b1,b2,t3,l1,l2,s1,s2,s3,hsa,hsb]
  ·have hs':¬ (tx.length:Int)≤(k:Int):=by omega
   have := hge (by omega)
   subst this
   clear hd hge hl hr
   by_cases hn:z<0
   ·have hn':sg<0:=hsg.2 hn
    by_cases h0:k=0
    ·subst h0
     refine aj (Df ..) ?_
     simp at hs hs'
     simp [yU,hci,hcn,hab,ht,hs,hs',hsn,hn,hn',s4]
    ·have h0':0<k:=by omega
     refine aj (Df ..) ?_
     simp [yU,hci,hcn,hab,ht,hs,hs',hsn,hn,hn',h0,h0',e1,e2,b1,b2,t3,l1,l2,s1,s2,s3,hsa,hsb]
   ·have hn':¬ sg<0:=fun h=>hn (hsg.1 h)
    by_cases h0:k=0
    ·subst h0
     refine aj (Df ..) ?_
     simp at hs hs'
     simp [yU,hci,hcn,hab,ht,hs,hs',hsn,hn,hn',s4]
    ·have h0':0<k:=by omega
     refine aj (Df ..) ?_
     simp [yU,hci,hcn,hab,ht,hs,hs',hsn,hn,hn',h0,h0',e1,e2,b1,b2,t3,l1,l2,s1,s2,s3,hsa,hsb]
 rw [key]
end Go.Ev.Code
end
section
namespace Go.Ev.Code
open Go Go.Ev
theorem avJ (a b:Nat):fM a b = -1∨fM a b=0∨fM a b=1:=by
 unfold fM
 split
 ·exact .inl rfl
 ·split
  ·exact .inr (.inl rfl)
  ·exact .inr (.inr rfl)
theorem aqN {n:Int} {d K:Nat} (hn:IB K n) (hd:NB K d) (h0:0<d) (hK:K≤800000) {md:Int} (hm:md=1∨md=2∨md=3):L.call Vh [intD n,intD (d:Int),.int .i64 md]=some (intD (Ag n d md)):=by
 have a1:=Ai n
 have a2:=Ai (d:Int)
 rw [Int.natAbs_natCast] at a2
 have hlt:=Nat.mod_lt n.natAbs h0
 have nr:NB K (n.natAbs % d):=Nat.lt_trans hlt hd
 have nq:NB K (n.natAbs / d):=Nat.lt_of_le_of_lt (Nat.div_le_self _ _) hn
 have n2:NB 64 2:=by unfold NB; decide
 have n1:NB 64 1:=by unfold NB; decide
 have dv:=Ae (a:=n.natAbs) (b:=d) (hn.fit (by omega)) (hd.fit (by omega)) (by omega)
 have d2:=Ae (a:=n.natAbs / d) (b:=2) (nq.fit (by omega)) (n2.fit (by omega)) (by omega)
 have ad:=QV (a:=n.natAbs % d) (b:=n.natAbs % d) (nr.fit (by omega)) (nr.fit (by omega))
 have cm:=XU (a:=n.natAbs % d+n.natAbs % d) (b:=d) ((nr.add nr).fit (by omega)) (hd.fit (by omega))
 have ze:=UL (n.natAbs / d % 2)
 have u1:=QV (a:=n.natAbs / d) (b:=1) (nq.fit (by omega)) (n1.fit (by omega))
 have hsn:=G8 n
 have hnw:=Fe (decide (n.sign<0)) (Ah n.natAbs d md)
 have hres:Ag n d md=if decide (n.sign<0)=true then -(Ah n.natAbs d md:Int) else (Ah n.natAbs d md:Int):=by
  unfold Ag
  simp [sign_neg]
 rw [← hres] at hnw
 clear hres
 have hN:Ah n.natAbs d md=if upN n.natAbs d md=true then n.natAbs / d+1 else n.natAbs / d:=rfl
 have hU:upN n.natAbs d md=((decide (md=1) && decide (0≤fM (n.natAbs % d*2) d)) || (decide (md=2) && (decide (0<fM (n.natAbs % d*2) d) || (decide (fM (n.natAbs % d*2) d=0) && decide (n.natAbs / d % 2=1))))):=rfl
 rw [show n.natAbs % d*2=n.natAbs % d+n.natAbs % d by omega] at hU
 have hc:=avJ (n.natAbs % d+n.natAbs % d) d
 have ho:n.natAbs / d % 2=0∨n.natAbs / d % 2=1:=by omega
 have o2:=ru 2 (by decide)
 have o1:=ru 1 (by decide)
 rw [show ((2:Nat):Int)=2 from rfl] at o2
 rw [show ((1:Nat):Int)=1 from rfl] at o1
 clear nr nq n1 n2 hlt hd
 generalize Ag n d md=res at *
 generalize Ah n.natAbs d md=nn at *
 generalize upN n.natAbs d md=up at *
 generalize fM (n.natAbs % d+n.natAbs % d) d=c at *
 generalize n.natAbs / d % 2=o at *
 generalize n.natAbs / d / 2=o' at *
 generalize n.natAbs % d+n.natAbs % d=rr at *
 generalize n.natAbs / d=q at *
 generalize n.natAbs % d=r at *
 generalize n.natAbs=na at *
 generalize n.sign=sg at *
 have hci:D.clo 0 12 (intD n)=true:=rfl
 have hcd:D.clo 0 12 (intD (d:Int))=true:=rfl
 generalize intD n=iN at *
 generalize intD (d:Int)=iD at *
 have key:(up=true→nn=q+1)∧(up=false→nn=q):=⟨fun h=>by rw [hN,h]; rfl,fun h=>by rw [hN,h]; rfl⟩
 clear hN
 rcases hm with rfl | rfl | rfl <;> rcases hc with rfl | rfl | rfl <;> rcases ho with rfl | rfl <;> simp at hU <;> subst hU <;> simp at key <;> subst key <;>
  (refine aj (atd ..) ?_; simp at ze; simp [ajm,hci,hcd,a1,a2,dv,d2,ad,cm,ze,u1,hsn,hnw,o1,o2])
theorem atB {md:Int} (hm:md=1∨md=2∨md=3):L.call YR [.int .i64 md]=some (.bool true):=by
 rcases hm with rfl | rfl | rfl <;> (refine aj (avu ..) ?_; simp [al3])
theorem au3 {n:Int} {d K:Nat} (hn:IB K n) (md:Int):IB (K+1) (Ag n d md):=by
 have h1:Ah n.natAbs d md≤n.natAbs+1:=by
  have := Nat.div_le_self n.natAbs d
  unfold Ah
  split <;> omega
 have h2:(Ag n d md).natAbs=Ah n.natAbs d md:=by
  unfold Ag
  split <;> omega
 have h3:n.natAbs<2^K:=hn
 show (Ag n d md).natAbs<2^(K+1)
 rw [h2,Nat.pow_succ]
 have : 0<2^K:=Nat.pow_pos (by decide)
 omega
def acw (q:Rat) (k:Nat) (md:Int):List UInt8:=fixS (Ag (q.num*((10^k:Nat):Int)) q.den md) k
theorem agE {q:Rat} {K k:Nat} (hq:RB K q) (hK:K≤700000) (h1:1≤K) (hk:k≤20) {md:Int} (hm:md=1∨md=2∨md=3):L.call Vg [cZ q,.int .i64 k,.int .i64 md]=some (.aG [.str (acw q k md),.bQ]):=by
 have ht:=ak_ (k:=k) (by omega)
 have hmul:=eF hq.num (ahV k) (by omega) (by omega)
 have hib:=hq.num.mul (ahV k)
 have hwh:=aqN (K:=K+(4*k+1)) hib (hq.2.mono (by omega)) q.den_pos (by omega) hm
 have hpl:=aps (au3 (d:=q.den) hib md) (by omega) (by omega) (by omega:k≤100)
 have hmd:=atB hm
 have hn:=Rj q
 have hde:=LG q
 have g1:¬ (k:Int)<0:=by omega
 have g2:¬ (20:Int)<(k:Int):=by omega
 have g3:¬ 20<k:=by omega
 unfold acw
 generalize Ag (q.num*((10^k:Nat):Int)) q.den md=w at *
 generalize q.num*((10^k:Nat):Int)=pn at *
 generalize ((10^k:Nat):Int)=tn at *
 generalize fixS w k=t at *
 have z1:∀ z:Int,D.clo 0 12 (intD z)=true:=fun _=>rfl
 have z2:=z1 q.num
 have z3:=z1 tn
 have z4:=z1 pn
 have z5:=z1 (q.den:Int)
 have z6:=z1 w
 clear z1
 generalize intD q.num=a1 at *
 generalize intD tn=a2 at *
 generalize intD pn=a3 at *
 generalize intD (q.den:Int)=a4 at *
 generalize intD w=a5 at *
 refine aj (atc ..) ?_
 simp [ajl,z2,z3,z4,z5,z6,g1,g2,g3,hmd,hn,ht,hmul,hde,hwh,hpl]
theorem aua {g:Nat} (hg:0<g) (a d:Nat) (md:Int):Ah (g*a) (g*d) md=Ah a d md:=by
 unfold Ah upN
 rw [Nat.mul_div_mul_left a d hg,Nat.mul_mod_mul_left]
 have hc:fM (g*(a % d)*2) (g*d)=fM (a % d*2) d:=by
  unfold fM
  rw [Nat.mul_assoc]
  have e1:(g*(a % d*2)<g*d)=(a % d*2<d):=propext ⟨fun h=>Nat.lt_of_mul_lt_mul_left h,fun h=>Nat.mul_lt_mul_of_pos_left h hg⟩
  have e2:(g*(a % d*2)=g*d)=(a % d*2=d):=propext ⟨fun h=>Nat.eq_of_mul_eq_mul_left hg h,fun h=>by rw [h]⟩
  simp only [e1,e2]
 rw [hc]
theorem az0 {K:Nat} {n:Int} {d:Nat} {q:Rat} (a:Wo K n d q) (t:Nat) (md:Int):Ag (n*t) (d*1) md=Ag (q.num*t) q.den md:=by
 obtain ⟨h1,h2⟩:=a.low
 have gp:0<Nat.gcd d n.natAbs:=Nat.gcd_pos_of_pos_left _ a.pos
 have e1:Nat.gcd d n.natAbs*(n.natAbs / Nat.gcd d n.natAbs)=n.natAbs:=Nat.mul_div_cancel' (Nat.gcd_dvd_right ..)
 have e2:Nat.gcd d n.natAbs*(d / Nat.gcd d n.natAbs)=d:=Nat.mul_div_cancel' (Nat.gcd_dvd_left ..)
 rw [← h2] at e2
 generalize n.natAbs / Nat.gcd d n.natAbs=x at *
 generalize Nat.gcd d n.natAbs=g at *
 have hx:q.num.natAbs=x:=by
  rw [h1]; split <;> omega
 have hneg:n<0↔q.num<0:=by
  rw [h1]
  constructor
  ·intro h
   rw [if_pos h]
   have : x≠0:=by rintro rfl; simp at e1; omega
   omega
  ·intro h
   split at h
   ·assumption
   ·omega
 have hs:(n*(t:Int)<0)↔(q.num*(t:Int)<0):=by
  rcases Nat.eq_zero_or_pos t with rfl | ht
  ·simp
  ·have ht':(0:Int)<(t:Int):=by omega
   constructor
   ·intro h
    have h3:n<0:=by
     rcases Int.lt_or_le n 0 with h4 | h4
     ·exact h4
     ·have := Int.mul_nonneg h4 (Int.le_of_lt ht'); omega
    exact Int.mul_neg_of_neg_of_pos (hneg.1 h3) ht'
   ·intro h
    have h3:q.num<0:=by
     rcases Int.lt_or_le q.num 0 with h4 | h4
     ·exact h4
     ·have := Int.mul_nonneg h4 (Int.le_of_lt ht'); omega
    exact Int.mul_neg_of_neg_of_pos (hneg.2 h3) ht'
 have hab:(n*(t:Int)).natAbs=g*(q.num*(t:Int)).natAbs:=by
  rw [Int.natAbs_mul,Int.natAbs_mul,hx,Int.natAbs_natCast,← Nat.mul_assoc,e1]
 unfold Ag
 rw [hab,Nat.mul_one]
 conv=>lhs; rw [← e2]
 rw [aua gp]
 simp only [hs]
theorem aCk (x d:Nat):cO (x:Int) d = .agg [.bool false,n9 x,n9 d]:=by
 unfold cO qC
 rw [decide_eq_false (by omega),Int.natAbs_natCast]
theorem afw {K:Nat} {n:Int} {d:Nat} {q:Rat} (a:Wo K n d q) (hK:K≤900000) {k:Nat} (hk:k≤20) (md:Int):L.call CW [cO n d,.int .i64 k,.int .i64 md]=some (.str (acw q k md)):=by
 have h1:=jF (x:=10) (by omega)
 have h2:=jF (x:=1) (by omega)
 have h3:=asM (p:=k) (by omega)
 have hq2:QB (4*k+1) ((10^k:Nat):Int) 1:=⟨ahV k,by
  show 1<2^(4*k+1)
  rw [Nat.pow_succ]
  have : 0<2^(4*k):=Nat.pow_pos (by decide)
  omega⟩
 have h4:=nS a.qb hq2 (by omega)
 have hqp:=a.qb.prod hq2
 have h5:=asl hqp (by have := a.pos; omega) (by omega) md
 have h6:=asj (k:=k) (au3 (d:=d*1) hqp.1 md) (by omega) (by omega)
 rw [az0 a (10^k) md] at h5 h6
 unfold acw
 rw [aCk] at h4
 rw [show ((10:Nat):Int)=10 from rfl] at h1
 rw [show ((1:Nat):Int)=1 from rfl] at h2
 generalize Ag (q.num*((10^k:Nat):Int)) q.den md=w at *
 generalize fixS w k=t at *
 generalize n*((10^k:Nat):Int)=pn at *
 obtain ⟨c0,c1,c2,hcc,c3,c4,c5,_⟩:=bg n d
 have hcl10:∀ j:Nat,D.clo 0 (j+1) (n9 (10^k))=true:=fun j=>rfl
 have hcl1:∀ j:Nat,D.clo 0 (j+1) (n9 1)=true:=fun j=>rfl
 have hcla:∀ j:Nat,D.clo 0 (j+1) (n9 10)=true:=fun j=>rfl
 have hv1:eH (n9 (10^k))=some [n9 (10^k)]:=rfl
 have hv2:eH (n9 1)=some [n9 1]:=rfl
 have hp:∀ j:Nat,D.clo 0 (j+2) (cO pn (d*1))=true:=fun j=>rfl
 have hw:∀ j:Nat,D.clo 0 (j+2) (lV w)=true:=fun j=>rfl
 unfold cO at h4
 rw [hcc] at h4
 generalize n9 (10^k)=x10 at *
 generalize n9 10=y10 at *
 generalize n9 1=x1 at *
 change L.call kZ _=some (cO pn (d*1)) at h4
 generalize cO pn (d*1)=P at *
 generalize lV w=W1 at *
 unfold cO
 rw [hcc]
 refine aj (afU ..) ?_
 simp [SQ,h1,h2,h3,h4,h5,h6,c3,c4,c5,hcl10,hcl1,hcla,hv1,hv2,hp,hw,aS]
end Go.Ev.Code
end
