/- A part of the proof of priceWait_card. -/
import Derived.Test.YtlnjbdkgdocjeaaGreatDoorCSpD3
set_option linter.unusedVariables false
set_option linter.unusedSimpArgs false
section
namespace Go.Ev.Code
open Go Go.Ev
def iC (z:Int):List D:=[.bool (decide (z<0)),n9 z.natAbs]
abbrev qQ (z:Int):D := .agg (iC z)
def qC (n:Int) (d:Nat):List D:=[.bool (decide (n<0)),n9 n.natAbs,n9 d]
abbrev iY (n:Int) (d:Nat):D := .agg (qC n d)
theorem Y6 (a:Nat):(aA a).length=0↔a=0:=by
 constructor
 ·intro h
  have : aA a=[]:=List.eq_nil_of_length_eq_zero h
  rw [← jK a,this]; rfl
 ·rintro rfl; rw [nY]; rfl
theorem Ky (neg:Bool) (a:Nat):L.call jP [.bool neg,n9 a]=some (qQ (if neg then -(a:Int) else a)):=by
 have h0:=Y6 a
 cases neg with
 | false =>
   have e1:decide ((a:Int)<0)=false:=decide_eq_false (by omega)
   have e2:(a:Int).natAbs=a:=by simp
   simp only [Bool.false_eq_true,if_false]
   unfold qQ iC
   rw [e1,e2]
   simp only [n9,aQ]
   generalize (aA a).length=N at *
   generalize (aA a).map ah=l at *
   refine ak (Dy ..) ?_
   simp [wF,bC]
 | true =>
   have e2:(-(a:Int)).natAbs=a:=by simp
   simp only [if_true]
   unfold qQ iC
   rw [e2]
   simp only [n9,aQ]
   by_cases ha:a=0
   ·have e1:decide (-(a:Int)<0)=false:=decide_eq_false (by omega)
    have hN:=h0.2 ha
    rw [e1]
    generalize (aA a).length=N at *
    generalize (aA a).map ah=l at *
    subst hN
    refine ak (Dy ..) ?_
    simp [wF,bC]
   ·have e1:decide (-(a:Int)<0)=true:=decide_eq_true (by omega)
    have hN:(aA a).length≠0:=fun h=>ha (h0.1 h)
    rw [e1]
    generalize (aA a).length=N at *
    generalize (aA a).map ah=l at *
    have hp:(0:Int)<N:=by omega
    have hp':0<N:=by omega
    refine ak (Dy ..) ?_
    simp [wF,bC,hp,hp']
theorem Us {x:Int} (h : -9223372036854775808≤x∧x≤9223372036854775807):L.call Di [.int .i64 x]=some (qQ x):=by
 have ho:=xB (x:=x.natAbs) (by omega)
 unfold qQ iC
 by_cases hn:x<0
 ·have e0:decide (x<0)=true:=decide_eq_true hn
  have e1:IntKind.i64.wrap (x+1)=x+1:=wrap64 _ (by omega)
  have e2:IntKind.i64.wrap (-(x+1)) = -(x+1):=wrap64 _ (by omega)
  have e2':IntKind.i64.wrap (0-(x+1)) = -(x+1):=by rw [wrap64 _ (by omega)]; omega
  have e3:IntKind.u64.wrap (-(x+1)) = -(x+1):=dJ _ (by omega)
  have e4:IntKind.u64.wrap (-(x+1)+1)=(x.natAbs:Int):=by rw [dJ _ (by omega)]; omega
  rw [e0]
  simp only [n9,aQ] at *
  generalize (aA x.natAbs).length=N at *
  generalize (aA x.natAbs).map ah=l at *
  generalize (x.natAbs:Int)=ax at *
  generalize hy:x+1=y at *
  generalize hz : -y=z at *
  refine ak (OX ..) ?_
  simp [FB,hn,hy,e1,e2,e2',hz,e3,e4,ho,bC]
 ·have e0:decide (x<0)=false:=decide_eq_false hn
  have e1:IntKind.u64.wrap x=(x.natAbs:Int):=by rw [dJ _ (by omega)]; omega
  rw [e0]
  simp only [n9,aQ] at *
  generalize (aA x.natAbs).length=N at *
  generalize (aA x.natAbs).map ah=l at *
  generalize (x.natAbs:Int)=ax at *
  refine ak (OX ..) ?_
  simp [FB,hn,e1,ho,bC]
theorem ZG {x y:Int} (hx:rY x.natAbs) (hy:rY y.natAbs):L.call sW [qQ x,qQ y]=some (qQ (x+y)):=by
 have hA:=aa' hx hy
 have hC:=ak5 hx hy
 have key:∀ (b:Bool) (z:Nat),(if b then -(z:Int) else z)=x+y→L.call jP [.bool b,n9 z]=some (qQ (x+y)):=fun b z h=>by rw [← h]; exact Ky b z
 by_cases hs:decide (x<0)=decide (y<0)
 ·have hI:=key (decide (x<0)) (x.natAbs+y.natAbs) (by
   by_cases h:x<0
   ·rw [decide_eq_true h]; have : y<0:=by rw [decide_eq_true h] at hs; exact of_decide_eq_true hs.symm
    simp; omega
   ·rw [decide_eq_false h]; have : ¬ y<0:=by rw [decide_eq_false h] at hs; exact of_decide_eq_false hs.symm
    simp; omega)
  unfold qQ iC at *
  rw [← hs] at *
  simp only [n9,aQ] at *
  generalize decide (x<0)=sx at *
  generalize decide (x+y<0)=sz at *
  generalize (aA x.natAbs).length=N1 at *
  generalize (aA x.natAbs).map ah=l1 at *
  generalize (aA y.natAbs).length=N2 at *
  generalize (aA y.natAbs).map ah=l2 at *
  generalize (aA (x.natAbs+y.natAbs)).length=N3 at *
  generalize (aA (x.natAbs+y.natAbs)).map ah=l3 at *
  generalize (aA (x+y).natAbs).length=N4 at *
  generalize (aA (x+y).natAbs).map ah=l4 at *
  refine ak (AV ..) ?_
  simp [uZ,hA,hI,bC]
 ·have hs2:(decide (x<0)==decide (y<0))=false:=by simpa using hs
  by_cases hge:y.natAbs≤x.natAbs
  ·have hS:=abb hx hy hge
   have hcI:¬ ny x.natAbs y.natAbs<0:=by rw [wM]; omega
   have hI:=key (decide (x<0)) (x.natAbs-y.natAbs) (by
    by_cases h:x<0
    ·rw [decide_eq_true h] at hs ⊢; have : ¬ y<0:=fun h2=>hs (decide_eq_true h2).symm
     simp; omega
    ·rw [decide_eq_false h] at hs ⊢; have : y<0:=Classical.byContradiction fun h2=>hs (decide_eq_false h2).symm
     simp; omega)
   generalize ny x.natAbs y.natAbs=cc at *
   have hcI2:0≤cc:=by omega
   unfold qQ iC at *
   simp only [n9,aQ] at *
   generalize decide (x<0)=sx at *
   generalize decide (y<0)=sy at *
   generalize decide (x+y<0)=sz at *
   generalize (aA (x.natAbs-y.natAbs)).length=N3 at *
   generalize (aA (x.natAbs-y.natAbs)).map ah=l3 at *
   generalize (aA x.natAbs).length=N1 at *
   generalize (aA x.natAbs).map ah=l1 at *
   generalize (aA y.natAbs).length=N2 at *
   generalize (aA y.natAbs).map ah=l2 at *
   generalize (aA (x+y).natAbs).length=N4 at *
   generalize (aA (x+y).natAbs).map ah=l4 at *
   refine ak (AV ..) ?_
   simp [uZ,hs,hs2,hC,hcI,hcI2,hS,hI,bC]
  ·have hS:=abb hy hx (by omega)
   have hcI:ny x.natAbs y.natAbs<0:=by rw [wM]; omega
   have hI:=key (decide (y<0)) (y.natAbs-x.natAbs) (by
    by_cases h:y<0
    ·rw [decide_eq_true h] at hs ⊢; have : ¬ x<0:=fun h2=>hs (decide_eq_true h2)
     simp; omega
    ·rw [decide_eq_false h] at hs ⊢; have : x<0:=Classical.byContradiction fun h2=>hs (decide_eq_false h2)
     simp; omega)
   generalize ny x.natAbs y.natAbs=cc at *
   have hcI2:¬ 0≤cc:=by omega
   unfold qQ iC at *
   simp only [n9,aQ] at *
   generalize decide (x<0)=sx at *
   generalize decide (y<0)=sy at *
   generalize decide (x+y<0)=sz at *
   generalize (aA (y.natAbs-x.natAbs)).length=N3 at *
   generalize (aA (y.natAbs-x.natAbs)).map ah=l3 at *
   generalize (aA x.natAbs).length=N1 at *
   generalize (aA x.natAbs).map ah=l1 at *
   generalize (aA y.natAbs).length=N2 at *
   generalize (aA y.natAbs).map ah=l2 at *
   generalize (aA (x+y).natAbs).length=N4 at *
   generalize (aA (x+y).natAbs).map ah=l4 at *
   refine ak (AV ..) ?_
   simp [uZ,hs,hs2,hC,hcI,hcI2,hS,hI,bC]
theorem ahq (x:Int):L.call wC [qQ x]=some (qQ (-x)):=by
 have hI:L.call jP [.bool (!decide (x<0)),n9 x.natAbs]=some (qQ (-x)):=by
  rw [Ky]
  congr 2
  by_cases h:x<0
  ·rw [decide_eq_true h]; simp; omega
  ·rw [decide_eq_false h]; simp; omega
 unfold qQ iC at *
 simp only [n9,aQ] at *
 generalize decide (x<0)=sx at *
 generalize decide (-x<0)=sz at *
 generalize (aA x.natAbs).length=N1 at *
 generalize (aA x.natAbs).map ah=l1 at *
 generalize (aA (-x).natAbs).length=N4 at *
 generalize (aA (-x).natAbs).map ah=l4 at *
 refine ak (XR ..) ?_
 simp [IZ,hI,bC]
theorem afc {sx sy:Bool} {a b:Nat} (ha:rY a) (hb:rY b):L.call lX [.agg [.bool sx,n9 a],.agg [.bool sy,n9 b]]=some (qQ (if sx != sy then -((a*b:Nat):Int) else ((a*b:Nat):Int))):=by
 have hM:=Ey ha hb
 have hI:=Ky (sx != sy) (a*b)
 generalize (if (sx != sy)=true then -((a*b:Nat):Int) else ((a*b:Nat):Int))=z at *
 unfold qQ iC at *
 simp only [n9,aQ] at *
 generalize decide (z<0)=sz at *
 generalize (aA (a*b)).length=N3 at *
 generalize (aA (a*b)).map ah=l3 at *
 generalize (aA a).length=N1 at *
 generalize (aA a).map ah=l1 at *
 generalize (aA b).length=N2 at *
 generalize (aA b).map ah=l2 at *
 generalize (aA z.natAbs).length=N4 at *
 generalize (aA z.natAbs).map ah=l4 at *
 refine ak (XU ..) ?_
 cases sx <;> cases sy <;> (simp at hI; simp [I5,hM,hI,bC])
theorem zo {x y:Int} (hx:rY x.natAbs) (hy:rY y.natAbs):L.call lX [qQ x,qQ y]=some (qQ (x*y)):=by
 have h:=afc (sx:=decide (x<0)) (sy:=decide (y<0)) hx hy
 have e:(if (decide (x<0) != decide (y<0))=true then -((x.natAbs*y.natAbs:Nat):Int) else ((x.natAbs*y.natAbs:Nat):Int))=x*y:=by
  rw [Int.natCast_mul]
  by_cases h1:x<0
  ·have ex:(x.natAbs:Int) = -x:=by omega
   by_cases h2:y<0
   ·have ey:(y.natAbs:Int) = -y:=by omega
    rw [decide_eq_true h1,decide_eq_true h2,ex,ey]; simp [Int.neg_mul,Int.mul_neg]
   ·have ey:(y.natAbs:Int)=y:=by omega
    rw [decide_eq_true h1,decide_eq_false h2,ex,ey]; simp [Int.neg_mul,Int.mul_neg]
  ·have ex:(x.natAbs:Int)=x:=by omega
   by_cases h2:y<0
   ·have ey:(y.natAbs:Int) = -y:=by omega
    rw [decide_eq_false h1,decide_eq_true h2,ex,ey]; simp [Int.neg_mul,Int.mul_neg]
   ·have ey:(y.natAbs:Int)=y:=by omega
    rw [decide_eq_false h1,decide_eq_false h2,ex,ey]; simp [Int.neg_mul,Int.mul_neg]
 rw [e] at h
 exact h
theorem alA (d:Nat):qQ (d:Int) = .agg [.bool false,n9 d]:=by
 unfold qQ iC
 rw [decide_eq_false (by omega)]
 simp
def ND (z:Int):Int:=if z=0 then 0 else if z<0 then -1 else 1
theorem ajA {x y:Int} (hx:rY x.natAbs) (hy:rY y.natAbs):L.call yJ [qQ x,qQ y]=some (.int .i64 (ND (x-y))):=by
 have hM:=ahq y
 have hP:=ZG (x:=x) (y := -y) hx (by rw [Int.natAbs_neg]; exact hy)
 rw [← Int.sub_eq_add_neg] at hP
 have h0:=Y6 (x-y).natAbs
 unfold ND
 generalize hz:x-y=z at *
 unfold qQ iC at *
 simp only [n9,aQ] at *
 generalize (aA x.natAbs).length=N1 at *
 generalize (aA x.natAbs).map ah=l1 at *
 generalize (aA y.natAbs).length=N2 at *
 generalize (aA y.natAbs).map ah=l2 at *
 generalize (aA (-y).natAbs).length=N3 at *
 generalize (aA (-y).natAbs).map ah=l3 at *
 generalize decide (x<0)=sx at *
 generalize decide (y<0)=sy at *
 generalize decide (-y<0)=sm at *
 generalize (aA z.natAbs).length=N4 at *
 generalize (aA z.natAbs).map ah=l4 at *
 refine ak (Yh ..) ?_
 by_cases hz0:z=0
 ·have hN:N4=0:=h0.2 (by omega)
  subst hN
  rw [if_pos hz0]
  simp [uY,hM,hP,bC]
 ·have hN:N4≠0:=fun h=>hz0 (by have := h0.1 h; omega)
  have hNI:¬ (N4:Int)=0:=by omega
  rw [if_neg hz0]
  by_cases hn:z<0
  ·rw [if_pos hn]
   rw [decide_eq_true hn] at hP
   simp [uY,hM,hP,hN,hNI,bC]
  ·rw [if_neg hn]
   rw [decide_eq_false hn] at hP
   simp [uY,hM,hP,hN,hNI,bC]
end Go.Ev.Code
end
section
namespace Go.Ev.Code
open Go Go.Ev
def QB (k:Nat) (n:Int) (d:Nat):Prop:=IB k n∧NB k d
theorem QB.mono {j k:Nat} {n:Int} {d:Nat} (h:QB j n d) (hk:j≤k):QB k n d:=⟨h.1.mono hk,h.2.mono hk⟩
theorem QB.sum {j k:Nat} {n1 n2:Int} {d1 d2:Nat} (a:QB j n1 d1) (b:QB k n2 d2):QB (j+k+1) (n1*d2+n2*d1) (d1*d2) :=
 ⟨((a.1.mul (IB.ofNat b.2)).add (b.1.mul (IB.ofNat a.2))).mono (by omega),(a.2.mul b.2).mono (by omega)⟩
theorem QB.neg {k:Nat} {n:Int} {d:Nat} (a:QB k n d):QB k (-n) d:=⟨a.1.neg,a.2⟩
theorem QB.prod {j k:Nat} {n1 n2:Int} {d1 d2:Nat} (a:QB j n1 d1) (b:QB k n2 d2):QB (j+k) (n1*n2) (d1*d2):=⟨a.1.mul b.1,a.2.mul b.2⟩
theorem IB.nX {k:Nat} {z:Int} (h:IB k z) (hk:k≤20000000):rY z.natAbs:=NB.nX h hk
theorem Ut {j k:Nat} {n1 n2:Int} {d1 d2:Nat} (a:QB j n1 d1) (b:QB k n2 d2) (hk:j+k≤10000000):L.call o7 [iY n1 d1,iY n2 d2]=some (iY (n1*d2+n2*d1) (d1*d2)):=by
 have t1:=zo (x:=n1) (y:=(d2:Int)) (a.1.nX (by omega)) ((IB.ofNat b.2).nX (by omega))
 have t2:=zo (x:=n2) (y:=(d1:Int)) (b.1.nX (by omega)) ((IB.ofNat a.2).nX (by omega))
 have pl:=ZG (x:=n1*d2) (y:=n2*d1) ((a.1.mul (IB.ofNat b.2)).nX (by omega)) ((b.1.mul (IB.ofNat a.2)).nX (by omega))
 have ml:=Ey (a.2.nX (by omega)) (b.2.nX (by omega))
 rw [alA] at t1 t2
 generalize n1*(d2:Int)+n2*(d1:Int)=S at *
 generalize n1*(d2:Int)=p1 at *
 generalize n2*(d1:Int)=p2 at *
 generalize d1*d2=dd at *
 unfold iY qC
 unfold qQ iC at *
 simp only [n9,aQ] at *
 generalize decide (S<0)=b0 at *
 generalize decide (p1<0)=b1 at *
 generalize decide (p2<0)=b2 at *
 generalize decide (n1<0)=b3 at *
 generalize decide (n2<0)=b4 at *
 generalize (aA S.natAbs).length=N0 at *
 generalize (aA S.natAbs).map ah=l0 at *
 generalize (aA p1.natAbs).length=N1 at *
 generalize (aA p1.natAbs).map ah=l1 at *
 generalize (aA p2.natAbs).length=N2 at *
 generalize (aA p2.natAbs).map ah=l2 at *
 generalize (aA n1.natAbs).length=N3 at *
 generalize (aA n1.natAbs).map ah=l3 at *
 generalize (aA n2.natAbs).length=N4 at *
 generalize (aA n2.natAbs).map ah=l4 at *
 generalize (aA d1).length=N5 at *
 generalize (aA d1).map ah=l5 at *
 generalize (aA d2).length=N6 at *
 generalize (aA d2).map ah=l6 at *
 generalize (aA dd).length=N7 at *
 generalize (aA dd).map ah=l7 at *
 refine ak (aav ..) ?_
 simp [NQ,t1,t2,pl,ml,bC]
theorem Qj {j k:Nat} {n1 n2:Int} {d1 d2:Nat} (a:QB j n1 d1) (b:QB k n2 d2) (hk:j+k≤10000000):L.call yK [iY n1 d1,iY n2 d2]=some (iY (n1*n2) (d1*d2)):=by
 have t1:=zo (x:=n1) (y:=n2) (a.1.nX (by omega)) (b.1.nX (by omega))
 have ml:=Ey (a.2.nX (by omega)) (b.2.nX (by omega))
 generalize n1*n2=S at *
 generalize d1*d2=dd at *
 unfold iY qC at *
 unfold qQ iC at *
 simp only [n9,aQ] at *
 generalize decide (S<0)=b0 at *
 generalize decide (n1<0)=b3 at *
 generalize decide (n2<0)=b4 at *
 generalize (aA S.natAbs).length=N0 at *
 generalize (aA S.natAbs).map ah=l0 at *
 generalize (aA n1.natAbs).length=N3 at *
 generalize (aA n1.natAbs).map ah=l3 at *
 generalize (aA n2.natAbs).length=N4 at *
 generalize (aA n2.natAbs).map ah=l4 at *
 generalize (aA d1).length=N5 at *
 generalize (aA d1).map ah=l5 at *
 generalize (aA d2).length=N6 at *
 generalize (aA d2).map ah=l6 at *
 generalize (aA dd).length=N7 at *
 generalize (aA dd).map ah=l7 at *
 refine ak (Yj ..) ?_
 simp [Lu,t1,ml,bC]
theorem Xz {j k:Nat} {n1 n2:Int} {d1 d2:Nat} (a:QB j n1 d1) (b:QB k n2 d2) (hk:j+k≤10000000):L.call wE [iY n1 d1,iY n2 d2]=some (.int .i64 (ND (n1*d2-n2*d1))):=by
 have t1:=zo (x:=n1) (y:=(d2:Int)) (a.1.nX (by omega)) ((IB.ofNat b.2).nX (by omega))
 have t2:=zo (x:=n2) (y:=(d1:Int)) (b.1.nX (by omega)) ((IB.ofNat a.2).nX (by omega))
 have cm:=ajA (x:=n1*d2) (y:=n2*d1) ((a.1.mul (IB.ofNat b.2)).nX (by omega)) ((b.1.mul (IB.ofNat a.2)).nX (by omega))
 rw [alA] at t1 t2
 generalize ND (n1*(d2:Int)-n2*(d1:Int))=S at *
 generalize n1*(d2:Int)=p1 at *
 generalize n2*(d1:Int)=p2 at *
 unfold iY qC
 unfold qQ iC at *
 simp only [n9,aQ] at *
 generalize decide (p1<0)=b1 at *
 generalize decide (p2<0)=b2 at *
 generalize decide (n1<0)=b3 at *
 generalize decide (n2<0)=b4 at *
 generalize (aA p1.natAbs).length=N1 at *
 generalize (aA p1.natAbs).map ah=l1 at *
 generalize (aA p2.natAbs).length=N2 at *
 generalize (aA p2.natAbs).map ah=l2 at *
 generalize (aA n1.natAbs).length=N3 at *
 generalize (aA n1.natAbs).map ah=l3 at *
 generalize (aA n2.natAbs).length=N4 at *
 generalize (aA n2.natAbs).map ah=l4 at *
 generalize (aA d1).length=N5 at *
 generalize (aA d1).map ah=l5 at *
 generalize (aA d2).length=N6 at *
 generalize (aA d2).map ah=l6 at *
 refine ak (XT ..) ?_
 simp [I4,t1,t2,cm]
theorem Ih {n d:Int} (hn : -9223372036854775808≤n∧n≤9223372036854775807) (hd:0<d∧d≤9223372036854775807):L.call nH [.int .i64 n,.int .i64 d]=some (iY n d.natAbs):=by
 have h1:=Us hn
 have h2:=Us (x:=d) (by omega)
 have hI:L.call jP [.bool (decide (n<0)),n9 n.natAbs]=some (qQ n):=by
  rw [Ky]
  congr 2
  by_cases h:n<0
  ·rw [decide_eq_true h]; simp; omega
  ·rw [decide_eq_false h]; simp; omega
 have hd0:decide (d<0)=false:=decide_eq_false (by omega)
 unfold iY qC
 unfold qQ iC at *
 rw [hd0] at h2
 simp only [n9,aQ] at *
 generalize decide (n<0)=b3 at *
 generalize (aA n.natAbs).length=N3 at *
 generalize (aA n.natAbs).map ah=l3 at *
 generalize (aA d.natAbs).length=N4 at *
 generalize (aA d.natAbs).map ah=l4 at *
 refine ak (Yi ..) ?_
 cases b3 <;> simp [Ls,h1,h2,hI,bC]
theorem ES {n:Int} (hn : -9223372036854775808≤n∧n≤9223372036854775807):L.call ql [.int .i64 n]=some (iY n 1):=by
 have h1:=Us hn
 have h2:=xB (x:=1) (by omega)
 rw [show ((1:Nat):Int)=1 from rfl] at h2
 unfold iY qC
 unfold qQ iC at *
 simp only [n9,aQ] at *
 generalize decide (n<0)=b3 at *
 generalize (aA n.natAbs).length=N3 at *
 generalize (aA n.natAbs).map ah=l3 at *
 generalize (aA 1).length=N4 at *
 generalize (aA 1).map ah=l4 at *
 refine ak (XV ..) ?_
 simp [I7,h1,h2,bC]
end Go.Ev.Code
end
section
namespace Go.Ev.Code
open Go Go.Ev
def Gr (x:D) (m:Mem) (l:List Nat):Prop:=x = .bJ∧m=[]∧l=[]∨x = .aG 0 0 l.length 1∧m=[.live (l.map ah)]
theorem aak {b:UInt8}:gB b=true↔48≤b.toNat∧b.toNat≤57:=by unfold gB; simp
theorem aiK {s:List UInt8} (hs:s.length≤100000) {x:D} {m:Mem} {l:List Nat} (hg:Gr x m l):∀ (c pre suf:List UInt8) (d j:Nat),s=pre++(c++suf)→d<10^j→j+c.length≤9 →
  (c.all gB=true→L.loop [0,4,5,6,7] [0,2,3,4,5,6] gG m.length [.str s,x,.int .i64 ((pre.length+c.length:Nat):Int),.int .u64 d,.int .i64 pre.length] m=some (.exit 2,[.str s,.undef,.undef,x,.int .i64 ((pre.length+c.length:Nat):Int),.int .u64 (bn d c)],m)) ∧
  (c.all gB=false→∃ v,L.loop [0,4,5,6,7] [0,2,3,4,5,6] gG m.length [.str s,x,.int .i64 ((pre.length+c.length:Nat):Int),.int .u64 d,.int .i64 pre.length] m=some (.ret,[.str s,.bJ,.bool false,x,.int .i64 ((pre.length+c.length:Nat):Int),v],m))
 | [],pre,suf,d,j,he,hd,hj=>by
   refine ⟨fun _=>?_,fun h=>by simp at h⟩
   rw [vS,List.length_nil,Nat.add_zero]
   refine aj (wI ..) ?_
   rcases hg with ⟨rfl,rfl,rfl⟩ | ⟨rfl,rfl⟩
   ·simp [d_]
   ·simp [d_]
 | b::c,pre,suf,d,j,he,hd,hj=>by
   rw [List.length_cons] at hj
   have hb:=b.toNat_lt
   have hlt:(pre.length:Int)<((pre.length+(c.length+1):Nat):Int):=by omega
   have hltn:pre.length<pre.length+(c.length+1):=by omega
   have hget:s[pre.length]?=some b:=by rw [he]; simp
   have hps:pre.length<s.length:=by rw [he]; simp
   have hpsI:(pre.length:Int)<s.length:=by omega
   have hgi:∀ p:pre.length<s.length,s[pre.length]=b:=fun p=>by simpa using (List.getElem?_eq_some_iff.1 hget).2
   by_cases hd1:gB b=true
   ·have hbd:=aak.1 hd1
    obtain ⟨e,hE⟩:∃ e,e=b.toNat-48:=⟨_,rfl⟩
    have hd2:d*10+e<10^(j+1):=by rw [Nat.pow_succ]; omega
    have ih:=aiK hs hg c (pre++[b]) suf (d*10+e) (j+1) (by rw [he]; simp) hd2 (by omega)
    rw [List.length_append,List.length_singleton,show pre.length+1+c.length=pre.length+(c.length+1) by omega] at ih
    have hdl:d<10^9:=Nat.lt_of_lt_of_le hd (Nat.pow_le_pow_right (by decide) (by omega))
    have hdl2:d<1000000000:=hdl
    have e1:IntKind.u64.wrap ((d:Int)*10)=(d:Int)*10:=dJ _ (by omega)
    have e2:IntKind.u8.wrap ((b.toNat:Int)-48)=(e:Int):=by
     simp [IntKind.wrap,IntKind.signed,IntKind.bits]; omega
    have e3:IntKind.u64.wrap (e:Int)=(e:Int):=dJ _ (by omega)
    have e4:IntKind.u64.wrap ((d:Int)*10+e)=((d*10+e:Nat):Int):=by rw [dJ _ (by omega)]; omega
    have e5:IntKind.i64.wrap ((pre.length:Int)+1)=((pre.length+1:Nat):Int):=by rw [wrap64 _ (by omega)]; omega
    have n1:¬ (b.toNat:Int)<48:=by omega
    have n2:¬ (57:Int)<(b.toNat:Int):=by omega
    have n3:¬ b.toNat<48:=by omega
    have n4:¬ 57<b.toNat:=by omega
    rw [List.length_cons,List.all_cons,hd1,Bool.true_and,xK,← hE]
    have step:∀ R,L.loop [0,4,5,6,7] [0,2,3,4,5,6] gG m.length [.str s,x,.int .i64 ((pre.length+(c.length+1):Nat):Int),.int .u64 ((d*10+e:Nat):Int),.int .i64 ((pre.length+1:Nat):Int)] m=some R →
      L.loop [0,4,5,6,7] [0,2,3,4,5,6] gG m.length [.str s,x,.int .i64 ((pre.length+(c.length+1):Nat):Int),.int .u64 d,.int .i64 pre.length] m=some R:=by
     intro R hR
     clear ih
     generalize ((pre.length+(c.length+1):Nat):Int)=en at *
     generalize ((d*10+e:Nat):Int)=dn at *
     generalize ((pre.length+1:Nat):Int)=pn at *
     generalize (d:Int)=dz at *
     generalize (e:Int)=ez at *
     refine aj (wI ..) ?_
     rcases hg with ⟨rfl,rfl,rfl⟩ | ⟨rfl,rfl⟩
     ·simp at hR
      simp [d_,hlt,hps,hpsI,hgi,n1,n2,n3,n4,e1,e2,e3,e4,e5,hR]
     ·simp at hR
      simp [d_,hlt,hps,hpsI,hgi,n1,n2,n3,n4,e1,e2,e3,e4,e5,hR]
    refine ⟨fun h=>step _ (ih.1 h),fun h=>?_⟩
    obtain ⟨v,hv⟩:=ih.2 h
    exact ⟨v,step _ hv⟩
   ·have hd0:gB b=false:=by simpa using hd1
    refine ⟨fun h=>by rw [List.all_cons,hd0] at h; simp at h,fun _=>⟨.int .u64 d,?_⟩⟩
    have hn:b.toNat<48∨¬ b.toNat<48∧57<b.toNat:=by
     have := mt aak.2 hd1
     omega
    rw [List.length_cons]
    generalize ((pre.length+(c.length+1):Nat):Int)=en at *
    generalize (d:Int)=dz at *
    refine aj (wI ..) ?_
    rcases hn with hn | ⟨hn1,hn2⟩
    ·have hnI:(b.toNat:Int)<48:=by omega
     rcases hg with ⟨rfl,rfl,rfl⟩ | ⟨rfl,rfl⟩
     ·simp [d_,hlt,hps,hpsI,hgi,hn,hnI]
     ·simp [d_,hlt,hps,hpsI,hgi,hn,hnI]
    ·have n1:¬ (b.toNat:Int)<48:=by omega
     have n2:(57:Int)<(b.toNat:Int):=by omega
     rcases hg with ⟨rfl,rfl,rfl⟩ | ⟨rfl,rfl⟩
     ·simp [d_,hlt,hps,hpsI,hgi,hn1,hn2,n1,n2]
     ·simp [d_,hlt,hps,hpsI,hgi,hn1,hn2,n1,n2]
theorem asK {s:List UInt8} {x:D} {m:Mem} {l:List Nat} (hg:Gr x m l) {z:Int} (hz:z≤0):L.loop [0,4,5] [2,3,4] eu 0 [.str s,x,.int .i64 z] m=some (.exit 0,[.undef,.undef,x],m):=by
 have h:¬ 0<z:=by omega
 refine aj (wJ ..) ?_
 rcases hg with ⟨rfl,rfl,rfl⟩ | ⟨rfl,rfl⟩
 ·simp [gY,h]
 ·simp [gY,h]
theorem aqe {s:List UInt8} (hs:s.length≤100000) {x:D} {m:Mem} {l:List Nat} (hg:Gr x m l) (hl:l.length≤100000) {c pre suf:List UInt8} (he:s=pre++(c++suf)) (hc:c≠[]) (h9:c.length≤9) (h9':c.length=9∨pre=[]) :
  (c.all gB=true→∀ R,L.loop [0,4,5] [2,3,4] eu 0 [.str s,.aG 0 0 (l++[bn 0 c]).length 1,.int .i64 ((pre.length:Int)+c.length-9)] [.live ((l++[bn 0 c]).map ah)]=some R →
    L.loop [0,4,5] [2,3,4] eu 0 [.str s,x,.int .i64 ((pre.length+c.length:Nat):Int)] m=some R) ∧
  (c.all gB=false→∃ y,L.loop [0,4,5] [2,3,4] eu 0 [.str s,x,.int .i64 ((pre.length+c.length:Nat):Int)] m=some (.ret,[.bJ,.bool false,y],m)):=by
 have hcl:=List.length_pos_iff.2 hc
 have hsl:s.length=pre.length+(c.length+suf.length):=by rw [he]; simp
 obtain ⟨f1,f2⟩:=aiK hs hg c pre suf 0 0 he (by decide) (by omega)
 have e1:IntKind.i64.wrap (((pre.length+c.length:Nat):Int)-9)=(pre.length:Int)+c.length-9:=by rw [wrap64 _ (by omega)]; omega
 have e2:max ((pre.length:Int)+c.length-9) 0=(pre.length:Int):=by
  rcases h9' with h | h
  ·rw [h]; omega
  ·rw [h]; simp; omega
 have hp:(0:Int)<((pre.length+c.length:Nat):Int):=by omega
 rw [show ((0:Nat):Int)=0 from rfl] at f1 f2
 constructor
 ·intro h R hR
  have f1:=f1 h
  have hlen:l.length+1≤4294967296:=by omega
  have htk:=kJ l l.length (Nat.le_refl _)
  rw [PW,List.length_append,List.length_singleton] at hR
  generalize bn 0 c=v at *
  generalize ((pre.length+c.length:Nat):Int)=en at *
  generalize (pre.length:Int)+c.length-9=e9 at *
  generalize (pre.length:Int)=pn at *
  refine aj (wJ ..) ?_
  rcases hg with ⟨rfl,rfl,rfl⟩ | ⟨rfl,rfl⟩
  ·try simp at hR
   try simp at f1
   simp [gY,hp,e1,e2,f1,fA,hR]
  ·try simp at hR
   try simp at f1
   simp [gY,hp,e1,e2,f1,fA,hlen,htk,hR]
 ·intro h
  obtain ⟨v,f2⟩:=f2 h
  refine ⟨x,?_⟩
  generalize ((pre.length+c.length:Nat):Int)=en at *
  generalize (pre.length:Int)+c.length-9=e9 at *
  generalize (pre.length:Int)=pn at *
  refine aj (wJ ..) ?_
  rcases hg with ⟨rfl,rfl,rfl⟩ | ⟨rfl,rfl⟩
  ·try simp at f2
   simp [gY,hp,e1,e2,f2]
  ·try simp at f2
   simp [gY,hp,e1,e2,f2]
theorem axt (n:Nat):10^(9*n)=T9^n:=by rw [Nat.pow_mul]; rfl
theorem abH {s:List UInt8} (hs:s.length≤100000):∀ (f e:Nat) (x:D) (m:Mem) (l:List Nat),Gr x m l→e≤f→s.length=e+9*l.length→bT l→aZ l=bn 0 (s.drop e)→1≤e →
  ((s.take e).all gB=true→∃ l',bT l'∧aZ l'=bn 0 s∧l'.length≤100000∧L.loop [0,4,5] [2,3,4] eu 0 [.str s,x,.int .i64 e] m=some (.exit 0,[.undef,.undef,.aG 0 0 l'.length 1],[.live (l'.map ah)])) ∧
  ((s.take e).all gB=false→∃ y m',L.loop [0,4,5] [2,3,4] eu 0 [.str s,x,.int .i64 e] m=some (.ret,[.bJ,.bool false,y],m'))
 | 0,e,x,m,l,hg,hf,hl,sl,hv,h1=>by omega
 | f+1,e,x,m,l,hg,hf,hl,sl,hv,h1=>by
   obtain ⟨c,hc⟩:∃ c,c=(s.take e).drop (e-9):=⟨_,rfl⟩
   obtain ⟨pre,hpre⟩:∃ pre,pre=s.take (e-9):=⟨_,rfl⟩
   have hcl:c.length=e-(e-9):=by rw [hc,List.length_drop,List.length_take]; omega
   have hpl:pre.length=e-9:=by rw [hpre,List.length_take]; omega
   have hte:s.take e=pre++c:=by
    have h:=(List.take_append_drop (e-9) (s.take e)).symm
    rw [List.take_take,Nat.min_eq_left (by omega),← hpre,← hc] at h
    exact h
   have he:s=pre++(c++s.drop e):=by
    rw [← List.append_assoc,← hte,List.take_append_drop]
   have hsum:pre.length+c.length=e:=by omega
   obtain ⟨r1,r2⟩:=aqe hs hg (by omega) he (by intro h; rw [h] at hcl; simp at hcl; omega) (by omega) (by
    rcases Nat.lt_or_ge e 9 with h | h
    ·right; exact List.eq_nil_of_length_eq_zero (by omega)
    ·left; omega)
   rw [hsum] at r1 r2
   have hall:(s.take e).all gB=(pre.all gB && c.all gB):=by rw [hte,List.all_append]
   rw [hall]
   cases hcd:c.all gB with
   | false =>
     refine ⟨fun h=>by simp at h,fun _=>?_⟩
     obtain ⟨y,hy⟩:=r2 hcd
     exact ⟨y,m,hy⟩
   | true =>
     rw [Bool.and_true]
     have hcn:bn 0 c<T9:=by
      have h1:=Oz hcd
      refine Nat.lt_of_lt_of_le h1 ?_
      show 10^c.length≤10^9
      exact Nat.pow_le_pow_right (by decide) (by omega)
     have sl2:bT (l++[bn 0 c]):=sl.snoc hcn
     have hdrop:s.drop (e-9)=c++s.drop e:=by
      conv=>lhs; rw [he]
      rw [List.drop_append_of_le_length (by omega),← hpl,List.drop_length,List.nil_append]
     have hv2:aZ (l++[bn 0 c])=bn 0 (s.drop (e-9)):=by
      have hn:bn 0 (c++s.drop e)=bn 0 c*10^(s.drop e).length+bn 0 (s.drop e):=by rw [acn]; exact SC _ _
      rw [TA,hdrop,hn,← hv,List.length_drop,show s.length-e=9*l.length by omega,axt,Nat.mul_comm,Nat.add_comm]
     rcases Nat.lt_or_ge 9 e with h9 | h9
     ·obtain ⟨i1,i2⟩:=abH hs f (e-9) (.aG 0 0 (l++[bn 0 c]).length 1) [.live ((l++[bn 0 c]).map ah)] (l++[bn 0 c]) (.inr ⟨rfl,rfl⟩) (by omega) (by simp; omega) sl2 hv2 (by omega)
      have ez:(pre.length:Int)+c.length-9=((e-9:Nat):Int):=by omega
      rw [ez] at r1
      rw [← hpre] at i1 i2
      constructor
      ·intro h
       obtain ⟨l',a1,a2,a3,a4⟩:=i1 h
       exact ⟨l',a1,a2,a3,r1 hcd _ a4⟩
      ·intro h
       obtain ⟨y,m',a4⟩:=i2 h
       exact ⟨y,m',r1 hcd _ a4⟩
     ·have hp0:pre=[]:=List.eq_nil_of_length_eq_zero (by omega)
      rw [show e-9=0 by omega,List.drop_zero] at hv2
      have hst:=asK (s:=s) (x := .aG 0 0 (l++[bn 0 c]).length 1) (m:=[.live ((l++[bn 0 c]).map ah)]) (l:=l++[bn 0 c]) (.inr ⟨rfl,rfl⟩) (z:=(pre.length:Int)+c.length-9) (by omega)
      refine ⟨fun _=>⟨l++[bn 0 c],sl2,hv2,by simp; omega,r1 hcd _ hst⟩,fun h=>?_⟩
      rw [hp0] at h
      simp at h
theorem afb {s:List UInt8} (h:qA s):L.call sV [.str s]=some (.aH [n9 (bn 0 s),.bool true]):=by
 obtain ⟨h1,h2,h3,h4⟩:=h
 have hp:=List.length_pos_iff.2 h1
 obtain ⟨i1,_⟩:=abH (s:=s) (by omega) s.length s.length .bJ [] [] (.inl ⟨rfl,rfl,rfl⟩) (Nat.le_refl _) (by simp) (fun x hx=>by simp at hx) (by rw [List.drop_length,vS]; rfl) hp
 rw [List.take_length] at i1
 obtain ⟨l,a1,a2,a3,a4⟩:=i1 h4
 have ht:=Ii l a1 (by unfold maxL; omega)
 rw [a2] at ht
 have n1:¬ (s.length:Int)<1:=by omega
 have n2:¬ (4000:Int)<s.length:=by omega
 have n3:¬ s.length<1:=by omega
 have n4:¬ 4000<s.length:=by omega
 have htk:=kJ l l.length (Nat.le_refl _)
 simp only [n9,aQ] at ht ⊢
 generalize (aA (bn 0 s)).length=NR at *
 generalize (aA (bn 0 s)).map ah=lR at *
 refine ak (KE ..) ?_
 by_cases hl1:1<s.length
 ·have hl1I:(1:Int)<s.length:=by omega
  have h0:∀ p:0<s.length,s[0]≠48:=fun p hc=>h3 ⟨hl1,by rw [List.getElem?_eq_getElem p,hc]⟩
  have h0':∀ p:0<s.length,¬ s[0].toNat=48:=fun p hc=>h0 p (by
   have : s[0]=UInt8.ofNat 48:=by rw [← hc]; simp
   simpa using this)
  have h0'':∀ p:0<s.length,¬ (s[0].toNat:Int)=48:=fun p hc=>h0' p (by omega)
  simp [jm,n1,n2,n3,n4,hl1,hl1I,hp,h0,h0',h0'',a4,htk,ht]
 ·have hl1I:¬ (1:Int)<s.length:=by omega
  simp [jm,n1,n2,n3,n4,hl1,hl1I,a4,htk,ht]
theorem ahp {s:List UInt8} (h:¬ qA s) (hs:s.length≤1000):L.call sV [.str s]=some (.aH [.sl 0 [],.bool false]):=by
 refine ak (KE ..) ?_
 by_cases h0:s=[]
 ·subst h0
  simp [jm]
 have hp:=List.length_pos_iff.2 h0
 have n1:¬ (s.length:Int)<1:=by omega
 have n2:¬ (4000:Int)<s.length:=by omega
 have n3:¬ s.length<1:=by omega
 have n4:¬ 4000<s.length:=by omega
 by_cases hz:1<s.length∧s[0]?=some 48
 ·have hl1I:(1:Int)<s.length:=by omega
  have hz2:∀ p:0<s.length,s[0]=48:=fun p=>by simpa using (List.getElem?_eq_some_iff.1 hz.2).2
  simp [jm,n1,n2,n3,n4,hz.1,hl1I,hp,hz2]
 ·have hall:s.all gB=false:=by
   cases ha:s.all gB with
   | false=>rfl
   | true=>exact absurd ⟨h0,by omega,hz,ha⟩ h
  obtain ⟨_,i2⟩:=abH (s:=s) (by omega) s.length s.length .bJ [] [] (.inl ⟨rfl,rfl,rfl⟩) (Nat.le_refl _) (by simp) (fun x hx=>by simp at hx) (by rw [List.drop_length,vS]; rfl) hp
  rw [List.take_length] at i2
  obtain ⟨y,m',a4⟩:=i2 hall
  by_cases hl1:1<s.length
  ·have hl1I:(1:Int)<s.length:=by omega
   have h0:∀ p:0<s.length,s[0]≠48:=fun p hc=>hz ⟨hl1,by rw [List.getElem?_eq_getElem p,hc]⟩
   have h0':∀ p:0<s.length,¬ s[0].toNat=48:=fun p hc=>h0 p (by
    have : s[0]=UInt8.ofNat 48:=by rw [← hc]; simp
    simpa using this)
   have h0'':∀ p:0<s.length,¬ (s[0].toNat:Int)=48:=fun p hc=>h0' p (by omega)
   simp [jm,n1,n2,n3,n4,hl1,hl1I,hp,h0,h0',h0'',a4]
  ·have hl1I:¬ (1:Int)<s.length:=by omega
   simp [jm,n1,n2,n3,n4,hl1,hl1I,a4]
end Go.Ev.Code
end
section
namespace Go.Ev.Code
open Go Go.Ev
def qZ:List D:=[.bool false,.sl 0 [],.sl 0 []]
theorem aeV {s t:List UInt8} (ht:t.length≤1000) {ng:Bool} {R:Ex×List D×Mem}:∀ (w pre suf:List UInt8),t=pre++(w++suf)→46 ∉ w →
  L.loop [0,2,5,6,7] [0,2,5,6,7] fD 1 [.str s,.loc 0 0,.str t,.bool ng,.int .i64 ((pre.length+w.length:Nat):Int)] [.live qZ]=some R →
  L.loop [0,2,5,6,7] [0,2,5,6,7] fD 1 [.str s,.loc 0 0,.str t,.bool ng,.int .i64 pre.length] [.live qZ]=some R
 | [],pre,suf,he,hn,h=>by simpa using h
 | b::w,pre,suf,he,hn,h=>by
   have hb:b≠46:=fun h=>hn (by simp [h])
   have hbn:¬ b.toNat=46:=fun h=>hb (by
    have : b=UInt8.ofNat 46:=by rw [← h]; simp
    simpa using this)
   have hbI:¬ (b.toNat:Int)=46:=by omega
   have hget:t[pre.length]?=some b:=by rw [he]; simp
   have hlt:pre.length<t.length:=by rw [he]; simp
   have hltI:(pre.length:Int)<t.length:=by omega
   have hgi:∀ p:pre.length<t.length,t[pre.length]=b:=fun p=>by simpa using (List.getElem?_eq_some_iff.1 hget).2
   have ih:=aeV (s:=s) ht (ng:=ng) (R:=R) w (pre++[b]) suf (by rw [he]; simp) (fun h=>hn (by simp [h])) (by
    rw [List.length_append,List.length_singleton,show pre.length+1+w.length=pre.length+(b::w).length by simp; omega]; exact h)
   rw [List.length_append,List.length_singleton] at ih
   have e5:IntKind.i64.wrap ((pre.length:Int)+1)=((pre.length+1:Nat):Int):=by rw [wrap64 _ (by omega)]; omega
   clear h
   unfold qZ at *
   simp at ih
   refine aj (Dq ..) ?_
   simp [mQ,hlt,hltI,hgi,hb,hbn,hbI,e5,ih]
theorem aqc {s t:List UInt8} (ht:t.length≤1000) (ng:Bool):L.loop [0,2,5,6,7] [0,2,5,6,7] fD 1 [.str s,.loc 0 0,.str t,.bool ng,.int .i64 0] [.live qZ] =
  some (.exit 0,[.str s,.loc 0 0,.str t,.bool ng,.int .i64 (fG 46 t).1.length],[.live qZ]):=by
 have hstop:∀ k:Nat,k=t.length∨t[k]?=some 46→L.loop [0,2,5,6,7] [0,2,5,6,7] fD 1 [.str s,.loc 0 0,.str t,.bool ng,.int .i64 k] [.live qZ] =
   some (.exit 0,[.str s,.loc 0 0,.str t,.bool ng,.int .i64 k],[.live qZ]):=by
  intro k hk
  unfold qZ
  refine aj (Dq ..) ?_
  rcases hk with rfl | hk
  ·simp [mQ]
  ·have hlt:k<t.length:=(List.getElem?_eq_some_iff.1 hk).1
   have hltI:(k:Int)<t.length:=by omega
   have hgi:∀ p:k<t.length,t[k]=46:=fun p=>by simpa using (List.getElem?_eq_some_iff.1 hk).2
   simp [mQ,hlt,hltI,hgi]
 cases hc:(fG 46 t).2.2 with
 | true =>
   obtain ⟨h1,h2⟩:=Yw hc
   generalize (fG 46 t).1=w at *
   generalize (fG 46 t).2.1=r at *
   have h3:=hstop w.length (.inr (by rw [h1]; simp))
   exact aeV ht w [] (46::r) (by simpa using h1) h2 (by simpa using h3)
 | false =>
   have h1:=(xY hc).1
   have h2:46 ∉ t:=by
    intro hm
    obtain ⟨a,b,hab,hna⟩:=List.eq_append_cons_of_mem hm
    have := afJ a [] b hna
    unfold fG at hc
    rw [hab,this] at hc
    simp at hc
   rw [h1]
   have h3:=hstop t.length (.inl rfl)
   exact aeV ht t [] [] (by simp) h2 (by simpa using h3)
theorem aiJ {t:List UInt8} (ht:t.length≤1000) (ng:Bool) (pl:Int):∀ (c pre:List UInt8) (n j:Nat),t=pre++c→n<10^j→j+c.length≤2000 →
  (c.all gB=true→L.loop [2,5,6,8,9,11] [2,3,4,6,8,9] dK 1 [.loc 0 0,.str t,.bool ng,.int .i64 pl,n9 n,.int .i64 pre.length] [.live qZ]=some (.exit 2,[.loc 0 0,.undef,.undef,.bool ng,.int .i64 pl,n9 (bn n c)],[.live qZ])) ∧
  (c.all gB=false→∃ v,L.loop [2,5,6,8,9,11] [2,3,4,6,8,9] dK 1 [.loc 0 0,.str t,.bool ng,.int .i64 pl,n9 n,.int .i64 pre.length] [.live qZ]=some (.ret,[.loc 0 0,.int .i64 0,.bool false,.bool ng,.int .i64 pl,v],[.live qZ]))
 | [],pre,n,j,he,hd,hj=>by
   refine ⟨fun _=>?_,fun h=>by simp at h⟩
   rw [vS]
   have hl:t.length=pre.length:=by rw [he]; simp
   have h1:¬ (pre.length:Int)<t.length:=by omega
   have h2:¬ pre.length<t.length:=by omega
   unfold qZ
   refine aj (mO ..) ?_
   simp [iD,h1,h2]
 | b::c,pre,n,j,he,hd,hj=>by
   rw [List.length_cons] at hj
   have hb:=b.toNat_lt
   have hget:t[pre.length]?=some b:=by rw [he]; simp
   have hlt:pre.length<t.length:=by rw [he]; simp
   have hltI:(pre.length:Int)<t.length:=by omega
   have hgi:∀ p:pre.length<t.length,t[pre.length]=b:=fun p=>by simpa using (List.getElem?_eq_some_iff.1 hget).2
   by_cases hd1:gB b=true
   ·have hbd:=aak.1 hd1
    obtain ⟨e,hE⟩:∃ e,e=b.toNat-48:=⟨_,rfl⟩
    have hd2:n*10+e<10^(j+1):=by rw [Nat.pow_succ]; omega
    obtain ⟨i1,i2⟩:=aiJ ht ng pl c (pre++[b]) (n*10+e) (j+1) (by rw [he]; simp) hd2 (by omega)
    rw [List.length_append,List.length_singleton] at i1 i2
    have ho:=xB (x:=10) (by omega)
    have hm:=Ey (a:=n) (b:=10) ((ZR hd).nX (by omega)) ((show NB 4 10 by unfold NB; decide).nX (by omega))
    have ho2:=xB (x:=e) (by omega)
    have ha:=aa' (a:=n*10) (b:=e) ((NB.mul (ZR hd) (show NB 4 10 by unfold NB; decide)).nX (by omega)) ((show NB 64 e by unfold NB; omega).nX (by omega))
    rw [show ((10:Nat):Int)=10 from rfl] at ho
    have e2:IntKind.u8.wrap ((b.toNat:Int)-48)=(e:Int):=by
     simp [IntKind.wrap,IntKind.signed,IntKind.bits]; omega
    have e3:IntKind.u64.wrap (e:Int)=(e:Int):=dJ _ (by omega)
    have e5:IntKind.i64.wrap ((pre.length:Int)+1)=((pre.length+1:Nat):Int):=by rw [wrap64 _ (by omega)]; omega
    have n1:¬ (b.toNat:Int)<48:=by omega
    have n2:¬ (57:Int)<(b.toNat:Int):=by omega
    have n3:¬ b.toNat<48:=by omega
    have n4:¬ 57<b.toNat:=by omega
    rw [List.all_cons,hd1,Bool.true_and,xK,← hE]
    have step:∀ R,L.loop [2,5,6,8,9,11] [2,3,4,6,8,9] dK 1 [.loc 0 0,.str t,.bool ng,.int .i64 pl,n9 (n*10+e),.int .i64 ((pre.length+1:Nat):Int)] [.live qZ]=some R →
      L.loop [2,5,6,8,9,11] [2,3,4,6,8,9] dK 1 [.loc 0 0,.str t,.bool ng,.int .i64 pl,n9 n,.int .i64 pre.length] [.live qZ]=some R:=by
     intro R hR
     clear i1 i2
     unfold qZ at *
     simp only [n9,aQ] at *
     generalize ((pre.length+1:Nat):Int)=pn at *
     generalize (aA (n*10+e)).length=N1 at *
     generalize (aA (n*10+e)).map ah=l1 at *
     generalize (aA (n*10)).length=N2 at *
     generalize (aA (n*10)).map ah=l2 at *
     generalize (aA n).length=N3 at *
     generalize (aA n).map ah=l3 at *
     generalize (aA 10).length=N4 at *
     generalize (aA 10).map ah=l4 at *
     generalize (aA e).length=N5 at *
     generalize (aA e).map ah=l5 at *
     generalize (e:Int)=ez at *
     refine aj (mO ..) ?_
     try simp at hR
     simp [iD,hlt,hltI,hgi,n1,n2,n3,n4,ho,hm,e2,e3,ho2,ha,e5,hR]
    refine ⟨fun h=>step _ (i1 h),fun h=>?_⟩
    obtain ⟨v,hv⟩:=i2 h
    exact ⟨v,step _ hv⟩
   ·have hd0:gB b=false:=by simpa using hd1
    refine ⟨fun h=>by rw [List.all_cons,hd0] at h; simp at h,fun _=>⟨n9 n,?_⟩⟩
    have hn:b.toNat<48∨¬ b.toNat<48∧57<b.toNat:=by
     have := mt aak.2 hd1
     omega
    unfold qZ
    simp only [n9,aQ] at *
    generalize (aA n).length=N3 at *
    generalize (aA n).map ah=l3 at *
    refine aj (mO ..) ?_
    rcases hn with hn | ⟨hn1,hn2⟩
    ·have hnI:(b.toNat:Int)<48:=by omega
     simp [iD,hlt,hltI,hgi,hn,hnI,bC]
    ·have n1:¬ (b.toNat:Int)<48:=by omega
     have n2:(57:Int)<(b.toNat:Int):=by omega
     simp [iD,hlt,hltI,hgi,hn1,hn2,n1,n2,bC]
def rO (neg:Bool) (w r:List UInt8) (point:Bool):Option (Int×Nat) :=
 if qA w∧(point=true→r≠[]∧r.length≤20∧r.all gB=true)∧¬ (neg=true∧bn 0 (w++r)=0) then
  some ((if neg then -(bn 0 (w++r):Int) else bn 0 (w++r)),r.length) else none
def Fe (s:List UInt8):Option (Int×Nat) :=
 if s.length≤60 then rO (fE s).1 (fG 46 (fE s).2).1 (fG 46 (fE s).2).2.1 (fG 46 (fE s).2).2.2 else none
theorem abw (s:List UInt8):tJ s=(Fe s).map fun p=>(Rat.divInt p.1 ((10^p.2:Nat):Int),p.2):=by
 unfold tJ Fe
 split
 ·unfold AZ rO
  split <;> rfl
 ·rfl
def gdD:Option (Int×Nat)→D
 | some (n,p) => .aH [iY n (10^p),.int .i64 p,.bool true]
 | none => .aH [.agg qZ,.int .i64 0,.bool false]
theorem aro {p:Nat} (h:p≤100):L.call uT [n9 10,.int .i64 p]=some (n9 (10^p)):=by
 obtain ⟨K,hK⟩:∃ K:Nat,K=1000:=⟨_,rfl⟩
 refine ak7 (K:=K) (fun i hi=>?_) (by unfold NB; exact Nat.lt_of_lt_of_le (by decide:10<2^4) (Nat.pow_le_pow_right (by decide) (by omega))) (by omega) (by omega)
 unfold NB
 have h1:10^i≤16^i:=Nat.pow_le_pow_left (by decide) i
 have h2:(16:Nat)^i=2^(4*i):=by rw [Nat.pow_mul]
 have h3:(2:Nat)^(4*i)<2^K:=Nat.pow_lt_pow_right (by decide) (by omega)
 omega
theorem atg {b:UInt8} {n:Nat} (hn:n<256) (h:b≠UInt8.ofNat n):¬ b.toNat=n∧¬ (b.toNat:Int)=n:=by
 have : ¬ b.toNat=n:=fun e=>h (by rw [← e]; simp)
 exact ⟨this,by omega⟩
theorem ane (s:List UInt8):((fE s).1=true∧s≠[]∧(∀ p:0<s.length,s[0]=45)∧(fE s).2=s.tail∧0<s.length)∨((fE s).1=false∧(fE s).2=s∧(s=[]∨s≠[]∧0<s.length∧∀ p:0<s.length,s[0]≠45∧¬ s[0].toNat=45∧¬ (s[0].toNat:Int)=45)):=by
 unfold fE
 match s with
 | []=>right; simp [List.isPrefixOf]
 | b::r =>
   by_cases hb:b=45
   ·subst hb; left; simp [List.isPrefixOf]
   ·right
    have : List.isPrefixOf [45] (b::r)=false:=by simp [List.isPrefixOf,Ne.symm hb]
    rw [this]
    have h2:=atg (b:=b) (n:=45) (by decide) hb
    refine ⟨rfl,rfl,.inr ⟨by simp,by simp,fun p=>?_⟩⟩
    simp only [List.getElem_cons_zero]
    exact ⟨hb,h2.1,h2.2⟩
set_option maxHeartbeats 2000000 in
theorem afa {s:List UInt8} (hs:s.length≤1000):L.call uS [.str s]=some (gdD (Fe s)):=by
 have hsl:=Tt s
 have hsign:=ane s
 unfold Fe
 generalize (fE s).1=ng at *
 generalize (fE s).2=t at *
 have hcl:=VX 46 t
 have hl1:=aqc (s:=s) (t:=t) (by omega) ng
 have hc1:=fun h=>Yw (c:=46) (s:=t) h
 have hc0:=fun h=>xY (c:=46) (s:=t) h
 generalize (fG 46 t).1=w at *
 generalize (fG 46 t).2.1=r at *
 generalize (fG 46 t).2.2=pt at *
 have hplace:(pt=true∧t=w++46::r)∨(pt=false∧w=t∧r=[]):=by
  cases pt with
  | true=>exact .inl ⟨rfl,(hc1 rfl).1⟩
  | false=>exact .inr ⟨rfl,hc0 rfl⟩
 have hpl:max 0 ((t.length:Int)-w.length-1)=(r.length:Int):=by
  rcases hplace with ⟨_,h⟩ | ⟨_,h,h2⟩
  ·rw [h]; simp; omega
  ·rw [h,h2]; simp; try omega
 have e1:IntKind.i64.wrap ((t.length:Int)-w.length)=(t.length:Int)-w.length:=wrap64 _ (by omega)
 have e2:IntKind.i64.wrap ((t.length:Int)-w.length-1)=(t.length:Int)-w.length-1:=wrap64 _ (by omega)
 have e3:IntKind.i64.wrap ((w.length:Int)+1)=((w.length+1:Nat):Int):=by rw [wrap64 _ (by omega)]; omega
 have htake:t.take w.length=w:=by
  rcases hplace with ⟨_,h⟩ | ⟨_,h,_⟩
  ·rw [h]; simp
  ·rw [h]; simp
 have hwt:(w.length:Int)≤t.length:=by omega
 have hbn:jT false true t.length [.int .i64 (w.length:Int)]=some (0,w.length):=by simp [jT,bnd,hwt]
 have hlt:(w.length:Int)<t.length↔pt=true:=by
  rcases hplace with ⟨h1,h⟩ | ⟨h1,h,_⟩
  ·rw [h1,h]; simp; omega
  ·rw [h1,h]; simp
 have hltn:w.length<t.length↔pt=true:=by rw [← hlt]; omega
 have hb1:s≠[]→jT true false s.length [.int .i64 1]=some (1,s.length):=by
  intro h
  have h1:=List.length_pos_iff.2 h
  have : (1:Int)≤(s.length:Int):=by omega
  simp [jT,bnd,this]
 have htl:t=s.tail→s.tail.take (s.length-1)=t∧(s.drop 1).take (s.length-1)=t∧s.tail=t∧t.take (s.length-1)=t:=fun h=>by
  have h1:s.tail.take (s.length-1)=s.tail:=List.take_of_length_le (by simp)
  rw [h,List.drop_one]
  exact ⟨h1,h1,rfl,h1⟩
 have zt:=xB (x:=10) (by omega)
 rw [show ((10:Nat):Int)=10 from rfl] at zt
 by_cases h60:s.length≤60
 ·rw [if_pos h60]
  have hs1:¬ (60:Int)<s.length:=by omega
  have hs2:¬ 60<s.length:=by omega
  by_cases hpr:pt=true∧(r.length<1∨20<r.length)
  ·have hnone:rO ng w r pt=none:=by
    unfold rO
    rw [if_neg]
    intro h
    have := h.2.1 hpr.1
    have := List.length_pos_iff.2 this.1
    omega
   rw [hnone]
   have h1:=hlt.2 hpr.1
   have h2:=hltn.2 hpr.1
   have hcase:(r.length:Int)<1∨¬ (r.length:Int)<1∧(20:Int)<r.length:=by omega
   have hcn:(r.length<1∨¬ r.length<1∧20<r.length):=by omega
   clear hplace hc1 hc0 hsl hcl htake hbn hlt hltn hpr hnone
   unfold gdD qZ at *
   refine ak (jr ..) ?_
   rcases hsign with ⟨rfl,hne,h0,htt,hp⟩ | ⟨rfl,rfl,rfl | ⟨hne,hp,h0⟩⟩
   ·have hb1:=hb1 hne
    have ⟨htl,htl2,htl3,htl4⟩:=htl htt
    rcases hcase with hcase | ⟨hc2,hcase⟩
    ·simp [aW,hne,hp,h0,hb1,htl,htl2,htl3,htl4,hl1,e1,e2,hpl,hs1,hs2,h1,h2,hcase,bC]
    ·simp [aW,hne,hp,h0,hb1,htl,htl2,htl3,htl4,hl1,e1,e2,hpl,hs1,hs2,h1,h2,hc2,hcase,bC]
   ·simp at h2
   ·rcases hcase with hcase | ⟨hc2,hcase⟩
    ·simp [aW,hne,hp,h0,hl1,e1,e2,hpl,hs1,hs2,h1,h2,hcase,bC]
    ·simp [aW,hne,hp,h0,hl1,e1,e2,hpl,hs1,hs2,h1,h2,hc2,hcase,bC]
  ·have hok:(¬ (w.length:Int)<t.length)∨((w.length:Int)<t.length∧¬ (r.length:Int)<1∧¬ (20:Int)<r.length):=by
    by_cases h:pt=true
    ·right
     have hq:¬ (r.length<1∨20<r.length):=fun h5=>hpr ⟨h,h5⟩
     exact ⟨hlt.2 h,by omega,by omega⟩
    ·left; exact fun h2=>h (hlt.1 h2)
   by_cases hw:qA w
   ·have hg:=afb hw
    have hwD:=hw.2.2.2
    have hwl:w.length≤60:=by omega
    have hstop:∀ (k:Nat) (v:Nat),t.length≤k→L.loop [2,5,6,8,9,11] [2,3,4,6,8,9] dK 1 [.loc 0 0,.str t,.bool ng,.int .i64 r.length,n9 v,.int .i64 k] [.live qZ]=some (.exit 2,[.loc 0 0,.undef,.undef,.bool ng,.int .i64 r.length,n9 v],[.live qZ]):=by
     intro k v hk
     have h1:¬ (k:Int)<t.length:=by omega
     have h2:¬ k<t.length:=by omega
     unfold qZ
     refine aj (mO ..) ?_
     simp [iD,h1,h2]
    have hl2:(r.all gB=true→L.loop [2,5,6,8,9,11] [2,3,4,6,8,9] dK 1 [.loc 0 0,.str t,.bool ng,.int .i64 r.length,n9 (bn 0 w),.int .i64 ((w.length+1:Nat):Int)] [.live qZ]=some (.exit 2,[.loc 0 0,.undef,.undef,.bool ng,.int .i64 r.length,n9 (bn 0 (w++r))],[.live qZ])) ∧
      (r.all gB=false→∃ v,L.loop [2,5,6,8,9,11] [2,3,4,6,8,9] dK 1 [.loc 0 0,.str t,.bool ng,.int .i64 r.length,n9 (bn 0 w),.int .i64 ((w.length+1:Nat):Int)] [.live qZ]=some (.ret,[.loc 0 0,.int .i64 0,.bool false,.bool ng,.int .i64 r.length,v],[.live qZ])):=by
     rcases hplace with ⟨_,h⟩ | ⟨_,h,h2⟩
     ·have := aiJ (t:=t) (by omega) ng (r.length:Int) r (w++[46]) (bn 0 w) w.length (by rw [h]; simp) (Oz hwD) (by
       have : t.length=w.length+(r.length+1):=by rw [h]; simp
       omega)
      rw [List.length_append,List.length_singleton,← acn] at this
      exact this
     ·rw [h2,List.append_nil]
      exact ⟨fun _=>by rw [h2] at hstop; exact hstop _ _ (by rw [h]; omega),fun h=>by simp at h⟩
    clear hstop
    cases hrd:r.all gB with
    | false =>
      obtain ⟨v,hl2⟩:=hl2.2 hrd
      have hpt:pt=true:=by
       rcases hplace with ⟨h,_⟩ | ⟨_,_,h2⟩
       ·exact h
       ·rw [h2] at hrd; simp at hrd
      have hnone:rO ng w r pt=none:=by
       unfold rO
       rw [if_neg]
       intro h
       have := (h.2.1 hpt).2.2
       rw [hrd] at this
       simp at this
      rw [hnone]
      have hltx:=hlt
      clear hplace hc1 hc0 hsl hcl hlt hltn hpr hnone hw
      unfold gdD qZ at *
      simp only [n9,aQ] at *
      generalize (aA (bn 0 w)).length=N1 at *
      generalize (aA (bn 0 w)).map ah=l1 at *
      generalize ((w.length+1:Nat):Int)=w1 at *
      refine ak (jr ..) ?_
      rcases hsign with ⟨rfl,hne,h0,htt,hp⟩ | ⟨rfl,rfl,rfl | ⟨hne,hp,h0⟩⟩
      ·have hb1:=hb1 hne
       have ⟨htl,htl2,htl3,htl4⟩:=htl htt
       rcases hok with h1 | ⟨h1,h2,h3⟩
       ·simp [aW,hne,hp,h0,hb1,htl,htl2,htl3,htl4,hl1,e1,e2,e3,hpl,hs1,hs2,h1,hbn,htake,hg,hl2,bC]
       ·simp [aW,hne,hp,h0,hb1,htl,htl2,htl3,htl4,hl1,e1,e2,e3,hpl,hs1,hs2,h1,h2,h3,hbn,htake,hg,hl2,bC]
      ·exfalso
       rcases hok with h1 | ⟨h1,_,_⟩
       ·exact h1 (by simpa using hltx.2 hpt)
       ·simp at h1; omega
      ·rcases hok with h1 | ⟨h1,h2,h3⟩
       ·simp [aW,hne,hp,h0,hl1,e1,e2,e3,hpl,hs1,hs2,h1,hbn,htake,hg,hl2,bC]
       ·simp [aW,hne,hp,h0,hl1,e1,e2,e3,hpl,hs1,hs2,h1,h2,h3,hbn,htake,hg,hl2,bC]
    | true =>
      have hl2:=hl2.1 hrd
      have hrl:r.length≤60:=by omega
      have hrl20:r.length≤100:=by omega
      have hpw:=aro hrl20
      have hnil:s≠[]:=by
       intro h
       rw [h] at hsl
       simp at hsl
       rw [hsl] at htake
       simp at htake
       exact hw.1 (by first | exact htake.symm | exact htake)
      have h0len:=Y6 (bn 0 (w++r))
      by_cases hz:ng=true∧bn 0 (w++r)=0
      ·have hnone:rO ng w r pt=none:=by
        unfold rO
        rw [if_neg]
        exact fun h=>h.2.2 hz
       rw [hnone]
       have hN:=h0len.2 hz.2
       have hng:=hz.1
       clear hplace hc1 hc0 hsl hcl hlt hltn hpr hnone hw hz
       unfold gdD qZ at *
       simp only [n9,aQ] at *
       generalize (aA (bn 0 (w++r))).length=N2 at *
       generalize (aA (bn 0 (w++r))).map ah=l2 at *
       generalize (aA (bn 0 w)).length=N1 at *
       generalize (aA (bn 0 w)).map ah=l1 at *
       generalize ((w.length+1:Nat):Int)=w1 at *
       subst hN
       refine ak (jr ..) ?_
       rcases hsign with ⟨rfl,hne,h0,htt,hp⟩ | ⟨rfl,rfl,_⟩
       ·have hb1:=hb1 hne
        have ⟨htl,htl2,htl3,htl4⟩:=htl htt
        rcases hok with h1 | ⟨h1,h2,h3⟩
        ·simp [aW,hne,hp,h0,hb1,htl,htl2,htl3,htl4,hl1,e1,e2,e3,hpl,hs1,hs2,h1,hbn,htake,hg,hl2,bC]
        ·simp [aW,hne,hp,h0,hb1,htl,htl2,htl3,htl4,hl1,e1,e2,e3,hpl,hs1,hs2,h1,h2,h3,hbn,htake,hg,hl2,bC]
       ·simp at hng
      ·have hsome:rO ng w r pt=some ((if ng then -(bn 0 (w++r):Int) else bn 0 (w++r)),r.length):=by
        unfold rO
        rw [if_pos]
        refine ⟨hw,fun h=>?_,hz⟩
        have h5:¬ (r.length<1∨20<r.length):=fun h6=>hpr ⟨h,h6⟩
        exact ⟨by intro h6; rw [h6] at h5; simp at h5,by omega,hrd⟩
       rw [hsome]
       have hqd:gdD (some ((if ng then -(bn 0 (w++r):Int) else bn 0 (w++r)),r.length)) = .aH [.agg [.bool ng,n9 (bn 0 (w++r)),n9 (10^r.length)],.int .i64 r.length,.bool true]:=by
        unfold gdD iY qC
        cases ng with
        | true =>
          have : bn 0 (w++r)≠0:=fun h=>hz ⟨rfl,h⟩
          simp only [if_true,Int.natAbs_neg,Int.natAbs_natCast]
          rw [decide_eq_true (by omega)]
        | false =>
          simp only [Bool.false_eq_true,if_false,Int.natAbs_natCast]
          rw [decide_eq_false (by omega)]
       rw [hqd]
       have hzz:ng=false∨ng=true∧(aA (bn 0 (w++r))).length≠0:=by
        cases ng with
        | false=>exact .inl rfl
        | true=>exact .inr ⟨rfl,fun h=>hz ⟨rfl,h0len.1 h⟩⟩
       clear hplace hc1 hc0 hsl hcl hlt hltn hpr hsome hw hz hqd h0len
       unfold qZ at *
       simp only [n9,aQ] at *
       generalize (aA (bn 0 (w++r))).length=N2 at *
       generalize (aA (bn 0 (w++r))).map ah=l2 at *
       generalize (aA (bn 0 w)).length=N1 at *
       generalize (aA (bn 0 w)).map ah=l1 at *
       generalize (aA (10^r.length)).length=N3 at *
       generalize (aA (10^r.length)).map ah=l3 at *
       generalize (aA 10).length=N4 at *
       generalize (aA 10).map ah=l4 at *
       generalize ((w.length+1:Nat):Int)=w1 at *
       refine ak (jr ..) ?_
       rcases hsign with ⟨rfl,hne,h0,htt,hp⟩ | ⟨rfl,rfl,rfl | ⟨hne,hp,h0⟩⟩
       ·have hb1:=hb1 hne
        have ⟨htl,htl2,htl3,htl4⟩:=htl htt
        rcases hzz with hzz | ⟨_,hzz⟩
        ·simp at hzz
        have hzI:¬ (N2:Int)=0:=by omega
        rcases hok with h1 | ⟨h1,h2,h3⟩
        ·simp [aW,hne,hp,h0,hb1,htl,htl2,htl3,htl4,hl1,e1,e2,e3,hpl,hs1,hs2,h1,hbn,htake,hg,hl2,hzz,hzI,zt,hpw,bC]
        ·simp [aW,hne,hp,h0,hb1,htl,htl2,htl3,htl4,hl1,e1,e2,e3,hpl,hs1,hs2,h1,h2,h3,hbn,htake,hg,hl2,hzz,hzI,zt,hpw,bC]
       ·exact absurd rfl hnil
       ·rcases hok with h1 | ⟨h1,h2,h3⟩
        ·simp [aW,hne,hp,h0,hl1,e1,e2,e3,hpl,hs1,hs2,h1,hbn,htake,hg,hl2,zt,hpw,bC]
        ·simp [aW,hne,hp,h0,hl1,e1,e2,e3,hpl,hs1,hs2,h1,h2,h3,hbn,htake,hg,hl2,zt,hpw,bC]
   ·have hg:=ahp hw (by omega)
    have hnone:rO ng w r pt=none:=by
     unfold rO
     rw [if_neg]
     exact fun h=>hw h.1
    rw [hnone]
    clear hplace hc1 hc0 hsl hcl hlt hltn hpr hnone hw
    unfold gdD qZ at *
    refine ak (jr ..) ?_
    rcases hsign with ⟨rfl,hne,h0,htt,hp⟩ | ⟨rfl,rfl,rfl | ⟨hne,hp,h0⟩⟩
    ·have hb1:=hb1 hne
     have ⟨htl,htl2,htl3,htl4⟩:=htl htt
     rcases hok with h1 | ⟨h1,h2,h3⟩
     ·simp [aW,hne,hp,h0,hb1,htl,htl2,htl3,htl4,hl1,e1,e2,hpl,hs1,hs2,h1,hbn,htake,hg,bC]
     ·simp [aW,hne,hp,h0,hb1,htl,htl2,htl3,htl4,hl1,e1,e2,hpl,hs1,hs2,h1,h2,h3,hbn,htake,hg,bC]
    ·have : w=[]:=by simpa using htake.symm
     subst this
     simp at hl1 hg hok
     simp [aW,hl1,hg,bC]
    ·rcases hok with h1 | ⟨h1,h2,h3⟩
     ·simp [aW,hne,hp,h0,hl1,e1,e2,hpl,hs1,hs2,h1,hbn,htake,hg,bC]
     ·simp [aW,hne,hp,h0,hl1,e1,e2,hpl,hs1,hs2,h1,h2,h3,hbn,htake,hg,bC]
 ·rw [if_neg h60]
  have hs1:(60:Int)<s.length:=by omega
  have hs2:60<s.length:=by omega
  clear hplace hc1 hc0 hsl hcl hlt hltn htake hbn
  unfold gdD qZ at *
  refine ak (jr ..) ?_
  rcases hsign with ⟨rfl,hne,h0,htt,hp⟩ | ⟨rfl,rfl,rfl | ⟨hne,hp,h0⟩⟩
  ·have hb1:=hb1 hne
   have ⟨htl,htl2,htl3,htl4⟩:=htl htt
   simp [aW,hne,hp,h0,hb1,htl,htl2,htl3,htl4,hl1,e1,e2,hpl,hs1,hs2,bC]
  ·simp at hs2
  ·simp [aW,hne,hp,h0,hl1,e1,e2,hpl,hs1,hs2,bC]
end Go.Ev.Code
end
section
namespace Go.Ev.Code
open Go Go.Ev
theorem anf {y m:Nat} (hy:1900≤y) (h1:1≤m) (h2:m≤12):∃ y1 m1 y6 m6:Nat,y1*12+m1=y*12+m+1∧y6*12+m6=y*12+m+6∧1≤m1∧m1≤12∧1≤m6∧m6≤12∧dayOf y1 m1 1+150≤dayOf y6 m6 1:=by
 have hb:=xU hy
 have hm:m=1∨m=2∨m=3∨m=4∨m=5∨m=6∨m=7∨m=8∨m=9∨m=10∨m=11∨m=12:=by omega
 have f2:∀ y,28≤aV y 2∧aV y 2≤29:=fun y=>by
  show 28≤(if leap y=true then 29 else 28)∧(if leap y=true then 29 else 28)≤29
  split <;> omega
 have e2:=f2 y
 have e2':=f2 (y+1)
 have c0:bF y 12=aV y 1+aV y 2+aV y 3+aV y 4+aV y 5+aV y 6+aV y 7+aV y 8+aV y 9+aV y 10+aV y 11+aV y 12:=by simp only [bF,Nat.zero_add,Nat.reduceAdd]
 have l1:∀ y,aV y 1=31:=fun _=>rfl
 have l3:∀ y,aV y 3=31:=fun _=>rfl
 have l4:∀ y,aV y 4=30:=fun _=>rfl
 have l5:∀ y,aV y 5=31:=fun _=>rfl
 have l6:∀ y,aV y 6=30:=fun _=>rfl
 have l7:∀ y,aV y 7=31:=fun _=>rfl
 have l8:∀ y,aV y 8=31:=fun _=>rfl
 have l9:∀ y,aV y 9=30:=fun _=>rfl
 have l10:∀ y,aV y 10=31:=fun _=>rfl
 have l11:∀ y,aV y 11=30:=fun _=>rfl
 have l12:∀ y,aV y 12=31:=fun _=>rfl
 rcases hm with rfl | rfl | rfl | rfl | rfl | rfl | rfl | rfl | rfl | rfl | rfl | rfl
 ·exact ⟨y,2,y,7,by omega,by omega,by omega,by omega,by omega,by omega,by simp only [dayOf,bF,Nat.reduceAdd,Nat.reduceSub,l1,l3,l4,l5,l6,l7,l8,l9,l10,l11,l12]; omega⟩
 ·exact ⟨y,3,y,8,by omega,by omega,by omega,by omega,by omega,by omega,by simp only [dayOf,bF,Nat.reduceAdd,Nat.reduceSub,l1,l3,l4,l5,l6,l7,l8,l9,l10,l11,l12]; omega⟩
 ·exact ⟨y,4,y,9,by omega,by omega,by omega,by omega,by omega,by omega,by simp only [dayOf,bF,Nat.reduceAdd,Nat.reduceSub,l1,l3,l4,l5,l6,l7,l8,l9,l10,l11,l12]; omega⟩
 ·exact ⟨y,5,y,10,by omega,by omega,by omega,by omega,by omega,by omega,by simp only [dayOf,bF,Nat.reduceAdd,Nat.reduceSub,l1,l3,l4,l5,l6,l7,l8,l9,l10,l11,l12]; omega⟩
 ·exact ⟨y,6,y,11,by omega,by omega,by omega,by omega,by omega,by omega,by simp only [dayOf,bF,Nat.reduceAdd,Nat.reduceSub,l1,l3,l4,l5,l6,l7,l8,l9,l10,l11,l12]; omega⟩
 ·exact ⟨y,7,y,12,by omega,by omega,by omega,by omega,by omega,by omega,by simp only [dayOf,bF,Nat.reduceAdd,Nat.reduceSub,l1,l3,l4,l5,l6,l7,l8,l9,l10,l11,l12]; omega⟩
 ·refine ⟨y,8,y+1,1,by omega,by omega,by omega,by omega,by omega,by omega,?_⟩
  simp only [dayOf,hb,c0,bF,Nat.reduceAdd,Nat.reduceSub,l1,l3,l4,l5,l6,l7,l8,l9,l10,l11,l12]; omega
 ·refine ⟨y,9,y+1,2,by omega,by omega,by omega,by omega,by omega,by omega,?_⟩
  simp only [dayOf,hb,c0,bF,Nat.reduceAdd,Nat.reduceSub,l1,l3,l4,l5,l6,l7,l8,l9,l10,l11,l12]; omega
 ·refine ⟨y,10,y+1,3,by omega,by omega,by omega,by omega,by omega,by omega,?_⟩
  simp only [dayOf,hb,c0,bF,Nat.reduceAdd,Nat.reduceSub,l1,l3,l4,l5,l6,l7,l8,l9,l10,l11,l12]; omega
 ·refine ⟨y,11,y+1,4,by omega,by omega,by omega,by omega,by omega,by omega,?_⟩
  simp only [dayOf,hb,c0,bF,Nat.reduceAdd,Nat.reduceSub,l1,l3,l4,l5,l6,l7,l8,l9,l10,l11,l12]; omega
 ·refine ⟨y,12,y+1,5,by omega,by omega,by omega,by omega,by omega,by omega,?_⟩
  simp only [dayOf,hb,c0,bF,Nat.reduceAdd,Nat.reduceSub,l1,l3,l4,l5,l6,l7,l8,l9,l10,l11,l12]; omega
 ·refine ⟨y+1,1,y+1,6,by omega,by omega,by omega,by omega,by omega,by omega,?_⟩
  simp only [dayOf,hb,c0,bF,Nat.reduceAdd,Nat.reduceSub,l1,l3,l4,l5,l6,l7,l8,l9,l10,l11,l12]; omega
theorem ain {a b:Int} (ha:aK a) (hb:aK b) (h:mi a+6≤mi b):a+150<b:=by
 obtain ⟨y,m,d,hc,rfl,_⟩:=cZ ha
 obtain ⟨y',m',d',hc',rfl,_⟩:=cZ hb
 rw [uJ hc,uJ hc'] at h
 have a1:=hc.y1; have a2:=hc.m1; have a3:=hc.m2; have a4:=hc'.y2; have a5:=hc'.m1; have a6:=hc'.m2
 obtain ⟨y1,m1,y6,m6,e1,e6,b1,b2,b3,b4,hg⟩:=anf hc.y1 hc.m1 hc.m2
 have p1:=yC (y:=y1) b1 b2
 have p6:=yC (y:=y6) b3 b4
 have c1:uF y1 m1 1:=⟨by omega,by omega,b1,b2,by omega,by omega⟩
 have c6:uF y6 m6 1:=⟨by omega,by omega,b3,b4,by omega,by omega⟩
 have h1:=xX hc c1 (by omega)
 rcases Nat.lt_or_ge (y6*12+m6) (y'*12+m') with h2 | h2
 ·have h3:=xX c6 hc' h2
  omega
 ·obtain rfl:y6=y':=by omega
  obtain rfl:m6=m':=by omega
  have := hc'.d1
  have h3:dayOf y6 m6 1≤dayOf y6 m6 d':=by unfold dayOf; omega
  omega
structure Lone (b:ay):Prop where
 m1:20000≤b.bf
 m2:b.bf≤99999
 i1:b.issue<b.bf
 i2:b.bf≤b.issue+150
 fr:b.bK=2
 cp:b.bM=[53]
 rd:b.dh=[49,48,48]
 ct:b.count=1
 s1:1≤b.stub
 s2:b.stub≤2
 ex:b.ex=0
theorem Lone.day {b:ay} (h:Lone b):aK b.bf:=⟨by have := h.m1; omega,by have := h.m2; omega⟩
theorem Lone.EK {b:ay} (h:Lone b):aK b.issue:=⟨by have := h.m1; have := h.i2; omega,by have := h.m2; have := h.i1; omega⟩
theorem Lone.mo {b:ay} (h:Lone b):months b=6:=by unfold months; rw [h.fr]; rfl
theorem Lone.sums {b:ay} (h:Lone b):vk b=none:=by
 unfold vk
 rw [h.cp,h.rd]
 decide +kernel
theorem Lone.mi6 {b:ay} (h:Lone b):mi b.bf<mi b.issue+6:=by
 rcases Nat.lt_or_ge (mi b.bf) (mi b.issue+6) with h1 | h1
 ·exact h1
 ·have := ain h.EK h.day h1
  have := h.i2
  omega
theorem Lone.TJ {b:ay} (h:Lone b):chk b=none:=by
 have hmo:=CW h.EK h.day (by have := h.i1; omega)
 have hd:uI b=none:=by
  unfold uI
  rw [if_neg (by have := h.EK; simpa using this),if_neg (by have := h.day; simpa using this),if_neg (by have := h.i1; omega)]
  split
  ·rename_i e he
   have h1:=zB he
   have h2:=h.mi6
   have h3:=KI h.day (AX he) (by omega)
   rw [if_neg (by omega)]
  ·rfl
 have hp:P_ b≤200:=by
  unfold P_
  rw [aeE,h.mo]
  have h2:=h.mi6
  rw [Int.tdiv_eq_ediv_of_nonneg (by omega)]
  omega
 unfold chk
 rw [hd,h.mo,h.sums]
 simp only
 rw [if_neg (by omega),if_neg (by have := h.ct; omega),if_neg (by have := h.s1; have := h.s2; omega),if_neg (by have := h.ex; omega),if_neg (by omega)]
theorem Lone.far {b:ay} (h:Lone b) {c:Nat} (hc:anch b 1=some c):(c:Int)<b.issue:=by
 unfold anch at hc
 rw [h.mo] at hc
 have h1:=zB hc
 have h2:=ain (AX hc) h.day (by omega)
 have := h.i2
 omega
theorem Lone.kEq {b:ay} (h:Lone b):aX b=1:=by
 obtain ⟨k1,k2,k3⟩:=Ej (b:=b) (by rw [h.mo]; omega)
 have g1:Goes b 0:=⟨_,Rx h.day,by have := h.i1; have := h.m1; omega⟩
 have g2:¬ Goes b 1:=by
  rintro ⟨a,ha,hlt⟩
  have := h.far ha
  omega
 rcases Nat.lt_trichotomy (aX b) 1 with hl | hl | hl
 ·have : aX b=0:=by omega
  rw [this] at k2
  exact absurd g1 k2
 ·exact hl
 ·exact absurd (k1 _ hl) g2
theorem Lone.hit {b:ay} (h:Lone b):Jv b=false:=by
 unfold Jv
 rw [h.kEq]
 split
 ·rename_i a ha
  have := h.far ha
  simp only [decide_eq_false_iff_not]
  omega
 ·rfl
theorem Lone.raw {b:ay} (h:Lone b):dw b=[(b.issue,b.bf)]:=by
 unfold dw
 rw [h.kEq]
 have h0:=Rx h.day
 simp [dI,h0,dA]
 have := h.m1
 omega
theorem Lone.plan {b:ay} (h:Lone b):aF b=(none,[(b.issue,b.bf)]):=by
 unfold aF
 rw [h.TJ]
 simp only
 rw [h.hit,if_neg (by decide),if_neg (by have := h.s1; omega),h.raw]
 split <;> rfl
theorem Lone.flow {b:ay} (h:Lone b):∃ a,dG b=(none,[(b.bf,a)]):=by
 unfold dG
 rw [h.plan]
 simp only
 have hp:∃ q,oz b (b.issue,b.bf) = .ok q:=by
  unfold oz
  split
  ·exact ⟨_,rfl⟩
  ·unfold jy
   rw [if_neg (by have := h.ct; omega),if_neg (by have := h.i1; simp only; omega)]
   exact ⟨_,rfl⟩
 obtain ⟨q,hq⟩:=hp
 rw [hq]
 exact ⟨_,rfl⟩
end Go.Ev.Code
end
section
namespace Go.Ev.Code
open Go Go.Ev
theorem ad2 {a b:Int} (ha:aK a) (hb:aK b):L.call mZ [.int .i64 a,.int .i64 b]=some (.int .i64 (ni a b)):=by
 have i1:=jA a
 have i2:=jA b
 rw [decide_eq_true ha] at i1
 rw [decide_eq_true hb] at i2
 obtain ⟨y,m,d,hc,hd,ho⟩:=cZ ha
 obtain ⟨y',m',d',hc',hd',ho'⟩:=cZ hb
 have c1:=uy hc
 have c2:=uy hc'
 rw [← hd] at c1
 rw [← hd'] at c2
 unfold jI at c1 c2
 unfold ni
 rw [ho,ho']
 simp only
 have a1:=hc.y1; have a2:=hc.y2; have a3:=hc.m1; have a4:=hc.m2
 have b1:=hc'.y1; have b2:=hc'.y2; have b3:=hc'.m1; have b4:=hc'.m2
 have e1:IntKind.i64.wrap ((y':Int)-y)=(y':Int)-y:=wrap64 _ (by omega)
 have e2:IntKind.i64.wrap (12*((y':Int)-y))=12*((y':Int)-y):=wrap64 _ (by omega)
 have e3:IntKind.i64.wrap (12*((y':Int)-y)+m')=12*((y':Int)-y)+m':=wrap64 _ (by omega)
 have e4:IntKind.i64.wrap (12*((y':Int)-y)+m'-m)=12*((y':Int)-y)+m'-m:=wrap64 _ (by omega)
 have e5:12*((y':Int)-y)+m'-m=((y'*12+m':Nat):Int)-((y*12+m:Nat):Int):=by omega
 rw [← e5]
 refine ak (UY ..) ?_
 simp [Gn,i1,i2,c1,c2,e1,e2,e3,e4]
theorem Ig (b:ay):L.call tN [aC b]=some (.int .i64 (months b)):=by
 obtain ⟨i,m,f,c,r,n,s,e,x⟩:=b
 unfold months aC au
 refine ak (UR ..) ?_
 simp only
 by_cases h1:f=1
 ·subst h1; simp [jd,wrap64]
 by_cases h2:f=2
 ·subst h2; simp [jd,wrap64]
 by_cases h4:f=4
 ·subst h4; simp [jd,wrap64]
 by_cases h12:f=12
 ·subst h12; simp [jd,wrap64]
 ·simp [jd,h1,h2,h4,h12]
def fQ:Err→D
 | none => .aH [.int .i64 0,.str []]
 | some (c,s) => .aH [.int .i64 c,.str s]
theorem acA {b:ay} (hs:vk b=none) {n1 n2:Bool} {l1 l2 l3 l4:Nat} {c1 c2 c3 c4:List D}
  (w1:L.call fC [.str b.bM,.int .i64 0,.int .i64 30,.bool true]=some (.aH [.agg [.bool n1,.sl l1 c1,.sl l2 c2],.int .i64 0]))
  (w2:L.call fC [.str b.dh,.int .i64 0,.int .i64 200,.bool false]=some (.aH [.agg [.bool n2,.sl l3 c3,.sl l4 c4],.int .i64 0])) :
  L.call kR [aC b]=some (fQ (chk b)):=by
 have i1:=jA b.issue
 have i2:=jA b.bf
 have ha:=DY b.issue 360 false
 have hm:=Ig b
 have hbt:aK b.issue→aK b.bf→L.call mZ [.int .i64 b.issue,.int .i64 b.bf]=some (.int .i64 (ni b.issue b.bf)):=ad2
 have hmc:=lJ b
 have hbb := @alm b.issue b.bf
 unfold chk uI P_
 rw [hs]
 generalize mF b.issue 360 false=ad at *
 generalize months b=mo at *
 obtain ⟨i,m,f,c,r,n,s,e,x⟩:=b
 unfold aC au at *
 simp only at *
 refine ak (Gv ..) ?_
 by_cases d1:aK i
 ·rw [if_neg (fun h=>h d1)]
  rw [decide_eq_true d1] at i1
  by_cases d2:aK m
  ·rw [if_neg (fun h=>h d2)]
   rw [decide_eq_true d2] at i2
   by_cases d3:m≤i
   ·rw [if_pos d3]
    cases ad with
    | none=>simp [okD] at ha; simp [aB,i1,i2,ha,d3,fQ,pG]
    | some a=>simp [okD] at ha; simp [aB,i1,i2,ha,d3,fQ,pG]
   ·rw [if_neg d3]
    have hbt:=hbt d1 d2
    have hbb:=hbb d1 d2
    have rest:∀ (a:Int) (ok:Bool),L.call gV [.int .i64 i,.int .i64 360,.bool false]=some (.aH [.int .i64 a,.bool ok])→¬ (ok=true∧a<m) →
      bd (aB [] L (.agg [.int .i64 i,.int .i64 m,.int .i64 f,.str c,.str r,.int .i64 n,.int .i64 s,.bool e,.int .i64 x])) fin=some (fQ (if mo=0 then some (5,Tv) else if ¬ (1≤n∧n≤4) then some (5,QD) else if s<0∨2<s then some (5,AL) else if x<0∨30<x then some (5,tEx)
       else if 200<(ni i m).tdiv mo+2 then some (5,ZO) else none)):=by
     intro a ok ha hno
     have hcase:ok=false∨(ok=true∧¬ a<m):=by
      cases ok with
      | false=>exact .inl rfl
      | true=>exact .inr ⟨rfl,fun h=>hno ⟨rfl,h⟩⟩
     by_cases h0:mo=0
     ·rw [if_pos h0]
      rcases hcase with rfl | ⟨rfl,hlt⟩
      ·simp [aB,i1,i2,ha,d3,hm,h0,fQ,Tv]
      ·simp [aB,i1,i2,ha,d3,hlt,hm,h0,fQ,Tv]
     rw [if_neg h0]
     have hq:=alW hbb (show mo=1∨mo=3∨mo=6∨mo=12 by omega)
     by_cases h1:n<1
     ·rw [if_pos (by omega)]
      rcases hcase with rfl | ⟨rfl,hlt⟩
      ·simp [aB,i1,i2,ha,d3,hm,h0,w1,w2,h1,fQ,QD]
      ·simp [aB,i1,i2,ha,d3,hlt,hm,h0,w1,w2,h1,fQ,QD]
     by_cases h1':4<n
     ·rw [if_pos (by omega)]
      rcases hcase with rfl | ⟨rfl,hlt⟩
      ·simp [aB,i1,i2,ha,d3,hm,h0,w1,w2,h1,h1',fQ,QD]
      ·simp [aB,i1,i2,ha,d3,hlt,hm,h0,w1,w2,h1,h1',fQ,QD]
     rw [if_neg (by omega)]
     by_cases h2:s<0
     ·rw [if_pos (.inl h2)]
      rcases hcase with rfl | ⟨rfl,hlt⟩
      ·simp [aB,i1,i2,ha,d3,hm,h0,w1,w2,h1,h1',h2,fQ,AL]
      ·simp [aB,i1,i2,ha,d3,hlt,hm,h0,w1,w2,h1,h1',h2,fQ,AL]
     by_cases h2':2<s
     ·rw [if_pos (.inr h2')]
      rcases hcase with rfl | ⟨rfl,hlt⟩
      ·simp [aB,i1,i2,ha,d3,hm,h0,w1,w2,h1,h1',h2,h2',fQ,AL]
      ·simp [aB,i1,i2,ha,d3,hlt,hm,h0,w1,w2,h1,h1',h2,h2',fQ,AL]
     rw [if_neg (by omega)]
     by_cases h3:x<0
     ·rw [if_pos (.inl h3)]
      rcases hcase with rfl | ⟨rfl,hlt⟩
      ·simp [aB,i1,i2,ha,d3,hm,h0,w1,w2,h1,h1',h2,h2',h3,fQ,tEx]
      ·simp [aB,i1,i2,ha,d3,hlt,hm,h0,w1,w2,h1,h1',h2,h2',h3,fQ,tEx]
     by_cases h3':30<x
     ·rw [if_pos (.inr h3')]
      rcases hcase with rfl | ⟨rfl,hlt⟩
      ·simp [aB,i1,i2,ha,d3,hm,h0,w1,w2,h1,h1',h2,h2',h3,h3',fQ,tEx]
      ·simp [aB,i1,i2,ha,d3,hlt,hm,h0,w1,w2,h1,h1',h2,h2',h3,h3',fQ,tEx]
     rw [if_neg (by omega)]
     have e1:IntKind.i64.wrap ((ni i m).tdiv mo)=(ni i m).tdiv mo:=wrap64 _ (by omega)
     have e2:IntKind.i64.wrap ((ni i m).tdiv mo+2)=(ni i m).tdiv mo+2:=wrap64 _ (by omega)
     obtain ⟨t,ht⟩:∃ t,(ni i m).tdiv mo=t:=⟨_,rfl⟩
     rw [ht] at e1 e2 hq ⊢
     obtain ⟨pp,hpp⟩:∃ pp,t+2=pp:=⟨_,rfl⟩
     have e2:IntKind.i64.wrap (t+2)=pp:=by rw [e2,hpp]
     rw [hpp]
     by_cases h4:200<pp
     ·rw [if_pos h4]
      rcases hcase with rfl | ⟨rfl,hlt⟩
      ·simp [aB,i1,i2,ha,d3,hm,h0,w1,w2,h1,h1',h2,h2',h3,h3',hbt,ht,e1,e2,h4,fQ,ZO]
      ·simp [aB,i1,i2,ha,d3,hlt,hm,h0,w1,w2,h1,h1',h2,h2',h3,h3',hbt,ht,e1,e2,h4,fQ,ZO]
     ·rw [if_neg h4]
      rcases hcase with rfl | ⟨rfl,hlt⟩
      ·simp [aB,i1,i2,ha,d3,hm,h0,w1,w2,h1,h1',h2,h2',h3,h3',hbt,ht,e1,e2,h4,fQ]
      ·simp [aB,i1,i2,ha,d3,hlt,hm,h0,w1,w2,h1,h1',h2,h2',h3,h3',hbt,ht,e1,e2,h4,fQ]
    cases ad with
    | none=>exact rest 0 false ha (by simp)
    | some a =>
      by_cases d4:(a:Int)<m
      ·simp only [if_pos d4]
       simp [okD] at ha
       simp [aB,i1,i2,ha,d3,d4,fQ,pG]
      ·simp only [if_neg d4]
       exact rest a true ha (by simpa using d4)
  ·rw [if_pos d2]
   rw [decide_eq_false d2] at i2
   simp [aB,i1,i2,fQ,pG]
 ·rw [if_pos d1]
  rw [decide_eq_false d1] at i1
  simp [aB,i1,fQ,aeh]
structure Long (b:ay) (A:Nat) (k:Int):Prop where
 i1:0≤b.issue
 i2:b.issue≤97572
 fr:Dw b.bK
 cp:b.bM=[53]
 rd:b.dh=[49,48,48]
 ct:b.count=4
 st:b.stub=1
 ex:b.ex=0
 hA:mF b.issue 360 false=some A
 k1 : -2≤k
 k2:k≤2
 mt:b.bf=A+k
theorem aqs:mi 97572≤26010:=by decide +kernel
theorem aoD:26370<mi 109400:=by decide +kernel
theorem Long.EK {b:ay} {A:Nat} {k:Int} (h:Long b A k):aK b.issue:=⟨h.i1,by have := h.i2; omega⟩
theorem Long.mi1 {b:ay} {A:Nat} {k:Int} (h:Long b A k):mi b.issue≤26010:=by
 have h1:=CW h.EK (b:=97572) (by decide) h.i2
 have := aqs
 omega
theorem Long.miA {b:ay} {A:Nat} {k:Int} (h:Long b A k):(mi A:Int)=mi b.issue+360∧aK A:=⟨zB h.hA,AX h.hA⟩
theorem Long.day {b:ay} {A:Nat} {k:Int} (h:Long b A k):aK b.bf∧b.issue<b.bf:=by
 obtain ⟨h1,h2⟩:=h.miA
 have h3:=h.mi1
 have h4:=aoD
 have h5:=KI h2 (b:=109400) (by decide) (by omega)
 have h6:=asv h.EK h2 (by omega)
 have := h.k1; have := h.k2; have := h.mt; have := h.i1
 exact ⟨⟨by omega,by omega⟩,by omega⟩
theorem Long.sums {b:ay} {A:Nat} {k:Int} (h:Long b A k):vk b=none:=by
 unfold vk
 rw [h.cp,h.rd]
 decide +kernel
end Go.Ev.Code
end
