/- Part of accrDay_card. -/
import Derived.Test.YtechakbhjeieaaaGreatDoorCSpD5
set_option linter.unusedVariables false
set_option linter.unusedSimpArgs false
section
namespace Go.Ev.Code
open Go Go.Ev
def XH:Option Nat→Int
 | some k=>k
 | none => -1
theorem alP {b:aQ} (hm:months b≠0) {day:Int}:∀ (f k:Nat),k+f=3602 →
  L.loop [1,2,5] [4] iU 1 [.int .i64 day,.loc 0 0,.int .i64 k] [.live (aO b)]=some (.ret,[.int .i64 (XH (yC b day f k))],[.live (aO b)])∨f=0:=by
 intro f
 induction f with
 | zero=>intro k hk; exact .inr rfl
 | succ f ih =>
   intro k hk
   left
   have ha:=z_ b (k:=k) (by omega)
   have hn:=ih (k+1) (by omega)
   have hlast:f=0→anch b k=none:=fun h=>by
    have : k=3601:=by omega
    rw [this]; exact afR b hm
   simp only [yC]
   have e1:IntKind.i64.wrap ((k:Int)+1)=((k+1:Nat):Int):=by rw [wrap64 _ (by omega)]; omega
   generalize anch b k=r at *
   generalize yC b day f (k+1)=r2 at *
   obtain ⟨i,m,fq,c,rd,n,s,e,ex⟩:=b
   unfold aX aO at *
   simp only at *
   refine aJ (SS ..) ?_
   cases r with
   | none=>simp [okD] at ha; simp [oD,ha,XH]
   | some a =>
     simp [okD] at ha
     simp only
     by_cases h1:(a:Int)<day
     ·simp [oD,ha,h1,XH]
     ·by_cases h2:(a:Int)=day
      ·subst h2
       simp [oD,ha,XH]
      ·rcases hn with hn | hn
       ·simp at hn
        simp [oD,ha,h1,h2,e1,hn]
       ·have := hlast hn; simp at this
theorem afp {b:aQ} (hm:months b≠0) (day:Int):L.call mV [aX b,.int .i64 day]=some (.int .i64 (XH (Fb b day))):=by
 have hl:=(alP hm (day:=day) 3602 0 rfl).resolve_right (by decide)
 change L.loop [1,2,5] [4] iU 1 [.int .i64 day,.loc 0 0,.int .i64 0] [.live (aO b)]=some (.ret,[.int .i64 (XH (Fb b day))],[.live (aO b)]) at hl
 generalize XH (Fb b day)=r at *
 obtain ⟨i,m,fq,c,rd,n,s,e,ex⟩:=b
 unfold aX aO at *
 simp only at *
 refine aN Xc rfl (W9 ..) ?_
 simp [LK,hl]
theorem WG {b:aQ} (hm:months b≠0) (day:Int):L.call jo [aX b,.int .i64 day]=some (okD (quasi b day)):=by
 have hp:=afp hm day
 have hps:=fun {j} => @NW b day 3602 0 j
 have han:=fun k (hk:k≤100000)=>z_ b (k:=k) hk
 unfold quasi
 unfold Fb at *
 generalize yC b day 3602 0=r at *
 cases r with
 | none =>
   obtain ⟨i,m,fq,c,rd,n,s,e,ex⟩:=b
   unfold aX aO at *
   simp only at *
   simp [XH] at hp
   refine aN Kq rfl (J5 ..) ?_
   simp [rF,hp,okD]
 | some k =>
   have hk:=(hps rfl).1
   have ha:=han (k+1) (by omega)
   have e1:IntKind.i64.wrap ((k:Int)+1)=((k+1:Nat):Int):=by rw [wrap64 _ (by omega)]; omega
   have hk0:¬ (k:Int)<0:=by omega
   show L.call jo [aX b,.int .i64 day]=some (okD (if day≤b.issue then none else anch b (k+1)))
   generalize anch b (k+1)=r2 at *
   obtain ⟨i,m,fq,c,rd,n,s,e,ex⟩:=b
   unfold aX aO at *
   simp only at *
   simp [XH] at hp
   refine aN Kq rfl (J5 ..) ?_
   by_cases hd:day≤i
   ·simp [rF,hp,hk0,hd,okD]
   ·cases r2 with
    | none=>simp [okD] at ha; simp [rF,hp,hk0,hd,e1,ha,okD]
    | some a=>simp [okD] at ha; simp [rF,hp,hk0,hd,e1,ha,okD]
theorem acY {b:aQ} (hchk:chk b=none) (p:Int×Int):L.call kQ [aX b,pD p]=some (.bool (regular b p)):=by
 have hq:=WG (dX hchk).2.1 p.2
 obtain ⟨p1,p2⟩:=p
 unfold regular pD
 rw [hchk]
 simp only at hq ⊢
 generalize quasi b p2=q at *
 obtain ⟨i,m,fq,c,rd,n,s,e,ex⟩:=b
 unfold aX aO at *
 refine aN U_ rfl (U8 ..) ?_
 cases q with
 | none=>simp [okD] at hq; simp [AB,hq]
 | some a=>simp [okD] at hq; simp [AB,hq]
theorem akc {k a b:Int} (h1:1≤k) (h2:k≤4) (ha:bn a) (hb:bn b):L.call pW [.int .i64 k,.int .i64 a,.int .i64 b]=some (.int .i64 (eG k a b)):=by
 have i1:=nZ a
 have i2:=nZ b
 rw [decide_eq_true ha] at i1
 rw [decide_eq_true hb] at i2
 have n1:¬ k<1:=by omega
 have n2:¬ 4<k:=by omega
 unfold eG
 by_cases hk:k=1
 ·subst hk
  rw [if_pos rfl]
  obtain ⟨y,m,d,hc,rfl,o1⟩:=dU ha
  obtain ⟨y',m',d',hc',rfl,o2⟩:=dU hb
  have c1:=zf hc
  have c2:=zf hc'
  have e:Rk (dayOf y m d:Nat) (dayOf y' m' d':Nat)=360*((y':Int)-y)+30*((m':Int)-m)+min (d':Int) 30-min (d:Int) 30:=by
   unfold Rk
   rw [o1,o2]
  rw [e]
  have b1:=hc.y1; have b2:=hc.y2; have b3:=hc.m1; have b4:=hc.m2; have b5:=hc.d1; have b6:=hc.d2; have b7:=xP y m
  have b1':=hc'.y1; have b2':=hc'.y2; have b3':=hc'.m1; have b4':=hc'.m2; have b5':=hc'.d1; have b6':=hc'.d2; have b7':=xP y' m'
  have w1:IntKind.i64.wrap ((y':Int)-y)=(y':Int)-y:=wrap64 _ (by omega)
  have w2:IntKind.i64.wrap (360*((y':Int)-y))=360*((y':Int)-y):=wrap64 _ (by omega)
  have w3:IntKind.i64.wrap ((m':Int)-m)=(m':Int)-m:=wrap64 _ (by omega)
  have w4:IntKind.i64.wrap (30*((m':Int)-m))=30*((m':Int)-m):=wrap64 _ (by omega)
  have w5:IntKind.i64.wrap (360*((y':Int)-y)+30*((m':Int)-m))=360*((y':Int)-y)+30*((m':Int)-m):=wrap64 _ (by omega)
  have w6:IntKind.i64.wrap (360*((y':Int)-y)+30*((m':Int)-m)+min (d':Int) 30)=360*((y':Int)-y)+30*((m':Int)-m)+min (d':Int) 30:=wrap64 _ (by omega)
  have w7:IntKind.i64.wrap (360*((y':Int)-y)+30*((m':Int)-m)+min (d':Int) 30-min (d:Int) 30)=360*((y':Int)-y)+30*((m':Int)-m)+min (d':Int) 30-min (d:Int) 30:=wrap64 _ (by omega)
  unfold oH at c1 c2
  clear e o1 o2 ha hb
  generalize ((dayOf y m d:Nat):Int)=A at *
  generalize ((dayOf y' m' d':Nat):Int)=B at *
  refine aN Om rfl (Oi ..) ?_
  simp [FB,i1,i2,c1,c2,w1,w2,w3,w4,w5,w6,w7,cu]
 ·rw [if_neg hk]
  have w:IntKind.i64.wrap (b-a)=b-a:=wrap64 _ (by omega)
  refine aN Om rfl (Oi ..) ?_
  simp [FB,i1,i2,n1,n2,hk,w]
theorem ake {k a b:Int} (h1:1≤k) (h2:k≤3) (ha:bn a) (hb:bn b) (hab:a≤b) :
  L.call pY [.int .i64 k,.int .i64 a,.int .i64 b,.int .i64 0,.int .i64 0,.int .i64 0]=some (.bg [lU (eG k a b) (if k=3 then 365 else 360),.int .i64 0]):=by
 have i1:=nZ a
 have i2:=nZ b
 rw [decide_eq_true ha] at i1
 rw [decide_eq_true hb] at i2
 have n1:¬ k<1:=by omega
 have n2:¬ 4<k:=by omega
 have n3:¬ k=4:=by omega
 have n4:¬ b<a:=by omega
 have hbd:=Ku (k:=k) ha hb
 by_cases hk:k=3
 ·have hf:=Lp (n:=b-a) (d:=365) (by omega) (by omega)
  have hv:eG k a b=b-a:=by unfold eG; rw [if_neg (by omega)]
  rw [hv,if_pos hk]
  have w:IntKind.i64.wrap (b-a)=b-a:=wrap64 _ (by omega)
  rw [show (365:Int).natAbs=365 from rfl] at hf
  unfold lU qC at *
  simp only [n9,bG] at *
  generalize hz:b-a=z at *
  generalize decide (z<0)=b0 at *
  generalize (aS z.natAbs).length=N1 at *
  generalize (aS z.natAbs).map aH=l1 at *
  generalize (aS 365).length=N2 at *
  generalize (aS 365).map aH=l2 at *
  refine aN Oo rfl (Oj ..) ?_
  simp [FH,i1,i2,n1,n2,n3,n4,hk,hz,w,hf,cu]
 ·have hd:=akc h1 (by omega:k≤4) ha hb
  have hf:=Lp (n:=eG k a b) (d:=360) (by omega) (by omega)
  rw [if_neg hk]
  rw [show (360:Int).natAbs=360 from rfl] at hf
  generalize eG k a b=z at *
  unfold lU qC at *
  simp only [n9,bG] at *
  generalize decide (z<0)=b0 at *
  generalize (aS z.natAbs).length=N1 at *
  generalize (aS z.natAbs).map aH=l1 at *
  generalize (aS 360).length=N2 at *
  generalize (aS 360).map aH=l2 at *
  refine aN Oo rfl (Oj ..) ?_
  simp [FH,i1,i2,n1,n2,n3,n4,hk,hd,hf,cu]
end Go.Ev.Code
end
section
namespace Go.Ev.Code
open Go Go.Ev
theorem aee (each red:Rat):∀ (k:Nat) (l:List (Int×Int)),k<l.length→(pJ each red l).drop k=pJ each red (l.drop k)
 | 0,l,_=>rfl
 | k+1,[],h=>by simp at h
 | k+1,[p],h=>by simp at h
 | k+1,p::q::r,h=>by
   simp only [pJ,List.drop_succ_cons]
   exact aee each red k (q::r) (by simpa using h)
theorem adX {q:Rat}:0≤q.num↔0≤q:=Rat.num_nonneg
theorem Xk (b:aQ):0≤LZ b:=by
 unfold LZ
 cases hc:chk b with
 | some e=>simp only; exact adX.1 (by decide)
 | none =>
   obtain ⟨q,n,r,k,h1,h2,h3,h4,_⟩:=XY (dX hc).2.2
   simp only [h1]
   exact adX.1 h4
theorem anA {f:Int} (hf:ED f):0≤Rat.divInt 1 f:=by
 rcases hf with rfl | rfl | rfl | rfl <;> decide +kernel
theorem ah_ {b:aQ} (hf:ED b.d_):0≤jV b:=Rat.mul_nonneg (Xk b) (anA hf)
end Go.Ev.Code
end
section
namespace Go.Ev.Code
open Go Go.Ev
end Go.Ev.Code
end
section
namespace Go.Ev.Code
open Go Go.Ev
theorem anN {b:aQ} (hchk:chk b=none) {p:Int×Int} (d1:bn p.1) (d2:bn p.2) (hlt:p.1<p.2) (hreg:regular b p=true) (hc:b.count=4) {a:Rat} (h:nY b p p.1 p.2 = .ok a):a=Rat.divInt 1 b.d_:=by
 have hf:=nP (dX hchk).2.1
 unfold regular at hreg
 rw [hchk] at hreg
 simp only at hreg
 obtain ⟨f,hfu⟩:∃ f,(p.2-p.1).toNat=f+1:=⟨(p.2-p.1).toNat-1,by omega⟩
 have hq:sF b p=some [(p.1,p.2)]:=by
  unfold sF
  rw [hfu]
  simp only [iO]
  rw [if_neg (by omega)]
  cases hqe:quasi b p.2 with
  | none=>rw [hqe] at hreg; simp at hreg
  | some x =>
    rw [hqe] at hreg
    simp at hreg
    simp only [hreg]
    cases f with
    | zero=>simp [iO]
    | succ f=>simp [iO]
 unfold nY at h
 rw [if_pos hc,hq] at h
 simp only at h
 rw [if_neg (by omega)] at h
 simp at h
 subst h
 simp only [sumF,yF]
 have e:max (min p.2 p.2-max p.1 p.1) 0=p.2-p.1:=by omega
 rw [e]
 have hne:((p.2-p.1:Int):Rat)≠0:=by
  intro h0
  have := Rat.intCast_eq_zero_iff.1 h0
  omega
 have hfn:((b.d_:Int):Rat)≠0:=by
  intro h0
  have := Rat.intCast_eq_zero_iff.1 h0
  rcases hf with h | h | h | h <;> omega
 simp only [Rat.divInt_eq_div,Rat.intCast_mul]
 generalize ((p.2-p.1:Int):Rat)=w at *
 generalize ((b.d_:Int):Rat)=v at *
 have h0:((0:Int):Rat)=0:=rfl
 have h1:((1:Int):Rat)=1:=rfl
 first | rw [h0,h1] | rw [h1]
 grind
end Go.Ev.Code
end
section
namespace Go.Ev.Code
open Go Go.Ev
theorem auX {n1 n2:Int} {d1 d2:Nat} (h1:0<d1) (h2:0<d2):Rat.divInt (n1*d2+n2*d1) ((d1*d2:Nat):Int)=Rat.divInt n1 d1+Rat.divInt n2 d2:=by
 have e1:((d1:Nat):Rat)≠0:=fun h=>by rw [← Rat.intCast_natCast] at h; have := Rat.intCast_eq_zero_iff.1 h; omega
 have e2:((d2:Nat):Rat)≠0:=fun h=>by rw [← Rat.intCast_natCast] at h; have := Rat.intCast_eq_zero_iff.1 h; omega
 rw [Rat.divInt_eq_div,Rat.divInt_eq_div,Rat.divInt_eq_div,Rat.intCast_add,Rat.intCast_mul,Rat.intCast_mul,Rat.intCast_natCast,Rat.intCast_natCast,Rat.intCast_natCast,Rat.natCast_mul]
 generalize (n1:Rat)=a at *
 generalize (n2:Rat)=b at *
 generalize (d1:Rat)=c at *
 generalize (d2:Rat)=d at *
 grind
theorem arM {n1 n2:Int} {d1 d2:Nat} (h1:0<d1) (h2:0<d2):Rat.divInt (n1*n2) ((d1*d2:Nat):Int)=Rat.divInt n1 d1*Rat.divInt n2 d2:=by
 have e1:((d1:Nat):Rat)≠0:=fun h=>by rw [← Rat.intCast_natCast] at h; have := Rat.intCast_eq_zero_iff.1 h; omega
 have e2:((d2:Nat):Rat)≠0:=fun h=>by rw [← Rat.intCast_natCast] at h; have := Rat.intCast_eq_zero_iff.1 h; omega
 rw [Rat.divInt_eq_div,Rat.divInt_eq_div,Rat.divInt_eq_div,Rat.intCast_mul,Rat.intCast_natCast,Rat.intCast_natCast,Rat.intCast_natCast,Rat.natCast_mul]
 generalize (n1:Rat)=a at *
 generalize (n2:Rat)=b at *
 generalize (d1:Rat)=c at *
 generalize (d2:Rat)=d at *
 grind
structure Wo (k:Nat) (n:Int) (d:Nat) (q:Rat):Prop where
 qb:QB k n d
 pos:0<d
 val:Rat.divInt n d=q
theorem Wo.sum {j k:Nat} {n1 n2:Int} {d1 d2:Nat} {q r:Rat} (a:Wo j n1 d1 q) (b:Wo k n2 d2 r):Wo (j+k+1) (n1*d2+n2*d1) (d1*d2) (q+r) :=
 ⟨a.qb.sum b.qb,Nat.mul_pos a.pos b.pos,by rw [auX a.pos b.pos,a.val,b.val]⟩
theorem Wo.prod {j k:Nat} {n1 n2:Int} {d1 d2:Nat} {q r:Rat} (a:Wo j n1 d1 q) (b:Wo k n2 d2 r):Wo (j+k) (n1*n2) (d1*d2) (q*r) :=
 ⟨a.qb.prod b.qb,Nat.mul_pos a.pos b.pos,by rw [arM a.pos b.pos,a.val,b.val]⟩
theorem Wo.mono {j k:Nat} {n:Int} {d:Nat} {q:Rat} (a:Wo j n d q) (h:j≤k):Wo k n d q:=⟨a.qb.mono h,a.pos,a.val⟩
theorem Wo.avD {n d:Int} (hn : -9223372036854775808≤n∧n≤9223372036854775807) (hd:0<d∧d≤9223372036854775807):Wo 64 n d.natAbs (Rat.divInt n d) :=
 ⟨⟨jQ hn,by have := jQ (n:=d) (by omega); exact this⟩,by omega,by congr 1; omega⟩
theorem WE (n:Int) (d k j:Nat):(qC n d).all (D.clo k (j+1))=true:=rfl
theorem aj6 (n:Int) (d:Nat):(qC n d).length=3:=rfl
theorem amu (n:Int) (d:Nat):(qC n d).take 3=qC n d:=rfl
theorem apP {f x y:Int} {q:Int×Int} (h:¬ 0<min y q.2-max x q.1):yF f x y q=0:=by
 unfold yF
 rw [show max (min y q.2-max x q.1) 0=0 by omega]
 exact divInt_zero _
set_option maxHeartbeats 1000000 in
theorem an7 {b:aQ} (hchk:chk b=none) {p1 p2 x y:Int} (hx:bn x) (hy:bn y):∀ (f:Nat) (e:Int) (n:Int) (d k:Nat) (q:Rat),(e-p1).toNat≤f→bn e→Wo k n d q→k+80*f≤9500000 →
  (∀ l,iO b p1 f e=some l→∃ n' d',Wo (k+65*l.length) n' d' (sumF b.d_ x y q l)∧L.loop [2,3,4,5,8,12,13] [8,9,12] eP 4 [.int .i64 x,.int .i64 y,.loc 0 0,.loc 1 0,.loc 2 0,.loc 3 0,.int .i64 e] [.live (aO b),.live [.int .i64 p1,.int .i64 p2],.live qZ,.live (qC n d)] =
   some (.exit 0,[.loc 2 0,.undef,.loc 3 0],[.live (aO b),.live [.int .i64 p1,.int .i64 p2],.live qZ,.live (qC n' d')])) ∧
  (iO b p1 f e=none→∃ n' d' n2 d2,(0<d'∧QB 9600000 n' d')∧L.loop [2,3,4,5,8,12,13] [8,9,12] eP 4 [.int .i64 x,.int .i64 y,.loc 0 0,.loc 1 0,.loc 2 0,.loc 3 0,.int .i64 e] [.live (aO b),.live [.int .i64 p1,.int .i64 p2],.live qZ,.live (qC n d)] =
   some (.ret,[.loc 2 0,.bool false,.loc 3 0],[.live (aO b),.live [.int .i64 p1,.int .i64 p2],.live (qC n' d'),.live (qC n2 d2)])):=by
 have hm:=(dX hchk).2.1
 have hf:=nP hm
 have hbc:=mF b 4
 have hbl:=rW b
 have hbd:=ql b 0 10
 intro f
 induction f with
 | zero =>
   intro e n d k q hfu he hw hk
   have hep:¬ p1<e:=by omega
   simp only [iO]
   refine ⟨fun l hl=>?_,fun h=>by simp at h⟩
   simp at hl
   subst hl
   refine ⟨n,d,by simpa [sumF] using hw,?_⟩
   have hqc:=WE n d 4 11
   unfold qZ
   generalize qC n d=qc at *
   generalize aO b=B at *
   refine aJ (oV ..) ?_
   simp [lD,hep,hbc,hqc]
 | succ f ih =>
   intro e n d k q hfu he hw hk
   simp only [iO]
   by_cases hep:e≤p1
   ·rw [if_pos hep]
    have hep':¬ p1<e:=by omega
    refine ⟨fun l hl=>?_,fun h=>by simp at h⟩
    simp at hl
    subst hl
    refine ⟨n,d,by simpa [sumF] using hw,?_⟩
    have hqc:=WE n d 4 11
    unfold qZ
    generalize qC n d=qc at *
    generalize aO b=B at *
    refine aJ (oV ..) ?_
    simp [lD,hep',hbc,hqc]
   ·rw [if_neg hep]
    have hep':p1<e:=by omega
    have hq:=WG hm e
    cases hqe:quasi b e with
    | none =>
      simp only
      rw [hqe] at hq
      simp [okD] at hq
      refine ⟨fun l hl=>by simp at hl,fun _=>⟨n,d,n,d,⟨hw.pos,hw.qb.mono (by omega)⟩,?_⟩⟩
      have hqc:=WE n d 4 11
      have hql:=aj6 n d
      have hqt:=amu n d
      unfold aX at hq
      unfold qZ
      have hqx:∃ a0 a1 a2,qC n d=[a0,a1,a2]:=⟨_,_,_,rfl⟩
      obtain ⟨a0,a1,a2,hqx⟩:=hqx
      rw [hqx] at hqc ⊢
      generalize aO b=B at *
      have htk:B.take 9=B:=List.take_of_length_le (by omega)
      refine aJ (oV ..) ?_
      simp at hqc
      simp [lD,hep',hbc,hbl,hbd,htk,hq,hqc,cu]
    | some a =>
      simp only
      rw [hqe] at hq
      simp [okD] at hq
      have hlt:=RN hm hqe
      obtain ⟨t1,t2,t3⟩:=hlt
      have hfr:1≤b.d_∧b.d_≤12:=by rcases hf with h | h | h | h <;> omega
      have hmul:1≤b.d_*(e-a)∧b.d_*(e-a)≤2400000:=hf.mul (by omega) (by omega)
      have e1:IntKind.i64.wrap (min y e-max x a)=min y e-max x a:=wrap64 _ (by omega)
      have e2:IntKind.i64.wrap (e-a)=e-a:=wrap64 _ (by omega)
      have e3:IntKind.i64.wrap (b.d_*(e-a))=b.d_*(e-a):=wrap64 _ (by omega)
      have hfget:(aO b)[2]?=some (.int .i64 b.d_):=rfl
      have hqc:=WE n d 4 11
      have hql:=aj6 n d
      have hqt:=amu n d
      have hqc0:=WE n d 0 10
      by_cases hd0:0<min y e-max x a
      ·
       have hw2:=Wo.avD (n:=min y e-max x a) (d:=b.d_*(e-a)) (by omega) (by omega)
       have hfr2:=Lp (n:=min y e-max x a) (d:=b.d_*(e-a)) (by omega) (by omega)
       have hsm:=Vx hw.qb hw2.qb (by omega)
       have hws:=(hw.sum hw2).mono (k:=k+65) (by omega)
       have hqv:yF b.d_ x y ((a:Int),e)=Rat.divInt (min y e-max x a) (b.d_*(e-a)):=by
        unfold yF
        rw [show max (min y e-max x (a:Int)) 0=min y e-max x a by omega]
       rw [← hqv] at hws
       have hn:=ih a _ _ (k+65) _ (by omega) t2 hws (by omega)
       have step:∀ R,L.loop [2,3,4,5,8,12,13] [8,9,12] eP 4 [.int .i64 x,.int .i64 y,.loc 0 0,.loc 1 0,.loc 2 0,.loc 3 0,.int .i64 a] [.live (aO b),.live [.int .i64 p1,.int .i64 p2],.live qZ,.live (qC (n*((b.d_*(e-a)).natAbs:Nat)+(min y e-max x a)*d) (d*(b.d_*(e-a)).natAbs))]=some R →
         L.loop [2,3,4,5,8,12,13] [8,9,12] eP 4 [.int .i64 x,.int .i64 y,.loc 0 0,.loc 1 0,.loc 2 0,.loc 3 0,.int .i64 e] [.live (aO b),.live [.int .i64 p1,.int .i64 p2],.live qZ,.live (qC n d)]=some R:=by
        intro R hR
        clear hn ih hw hw2 hws hqv hmul
        have hqx2:∃ c0 c1 c2,qC (n*((b.d_*(e-a)).natAbs:Nat)+(min y e-max x a)*d) (d*(b.d_*(e-a)).natAbs)=[c0,c1,c2]∧D.clo 4 12 c0=true∧D.clo 4 12 c1=true∧D.clo 4 12 c2=true:=⟨_,_,_,rfl,rfl,rfl,rfl⟩
        have hqx3:∃ c0 c1 c2,qC (min y e-max x a) (b.d_*(e-a)).natAbs=[c0,c1,c2]∧D.clo 0 11 c0=true∧D.clo 0 11 c1=true∧D.clo 0 11 c2=true:=⟨_,_,_,rfl,rfl,rfl,rfl⟩
        have hqx:∃ a0 a1 a2,qC n d=[a0,a1,a2]∧D.clo 0 11 a0=true∧D.clo 0 11 a1=true∧D.clo 0 11 a2=true:=⟨_,_,_,rfl,rfl,rfl,rfl⟩
        unfold lU at hfr2 hsm
        obtain ⟨c0,c1,c2,h5,h6,h7,h8⟩:=hqx2
        rw [h5] at hR hsm
        obtain ⟨g0,g1,g2,k5,k6,k7,k8⟩:=hqx3
        rw [k5] at hfr2 hsm
        obtain ⟨a0,a1,a2,hqx,z0,z1,z2⟩:=hqx
        rw [hqx] at hqc hsm ⊢
        unfold aX at hq
        unfold qZ at *
        generalize aO b=B at *
        have htk:B.take 9=B:=List.take_of_length_le (by omega)
        have hlen2:2<B.length:=by omega
        have hBg:∀ p:2<B.length,B[2] = .int .i64 b.d_:=fun p=>by simpa using (List.getElem?_eq_some_iff.1 hfget).2
        generalize hfm:b.d_*(e-(a:Int))=fm at *
        generalize hmm:min y e-max x (a:Int)=dd at *
        refine aJ (oV ..) ?_
        simp at hqc hR
        simp [lD,hep',hbc,hbl,hbd,htk,hq,hqc,hmm,hfm,e1,e2,e3,hd0,hfget,hlen2,hBg,hfr2,hsm,z0,z1,z2,k6,k7,k8,h6,h7,h8,cu,hR]
       refine ⟨fun l hl=>?_,fun h=>?_⟩
       ·cases hl2:iO b p1 f a with
        | none=>rw [hl2] at hl; simp at hl
        | some r =>
          rw [hl2] at hl
          simp at hl
          subst hl
          obtain ⟨n',d',g1,g2⟩:=hn.1 r hl2
          refine ⟨n',d',?_,step _ g2⟩
          simp only [sumF,List.length_cons]
          exact g1.mono (by omega)
       ·cases hl2:iO b p1 f a with
        | some r=>rw [hl2] at h; simp at h
        | none =>
          obtain ⟨n',d',n2,d2,g1,g2⟩:=hn.2 hl2
          exact ⟨n',d',n2,d2,g1,step _ g2⟩
      ·have hqv:yF b.d_ x y ((a:Int),e)=0:=apP hd0
       have hn:=ih a n d k q (by omega) t2 hw (by omega)
       have step:∀ R,L.loop [2,3,4,5,8,12,13] [8,9,12] eP 4 [.int .i64 x,.int .i64 y,.loc 0 0,.loc 1 0,.loc 2 0,.loc 3 0,.int .i64 a] [.live (aO b),.live [.int .i64 p1,.int .i64 p2],.live qZ,.live (qC n d)]=some R →
         L.loop [2,3,4,5,8,12,13] [8,9,12] eP 4 [.int .i64 x,.int .i64 y,.loc 0 0,.loc 1 0,.loc 2 0,.loc 3 0,.int .i64 e] [.live (aO b),.live [.int .i64 p1,.int .i64 p2],.live qZ,.live (qC n d)]=some R:=by
        intro R hR
        clear hn ih hw hqv hmul
        unfold aX at hq
        unfold qZ at *
        generalize qC n d=qc at *
        generalize aO b=B at *
        have htk:B.take 9=B:=List.take_of_length_le (by omega)
        generalize hmm:min y e-max x (a:Int)=dd at *
        refine aJ (oV ..) ?_
        try simp at hR
        simp [lD,hep',hbc,hbl,hbd,htk,hq,hqc,hmm,e1,hd0,hR]
       refine ⟨fun l hl=>?_,fun h=>?_⟩
       ·cases hl2:iO b p1 f a with
        | none=>rw [hl2] at hl; simp at hl
        | some r =>
          rw [hl2] at hl
          simp at hl
          subst hl
          obtain ⟨n',d',g1,g2⟩:=hn.1 r hl2
          refine ⟨n',d',?_,step _ g2⟩
          simp only [sumF,List.length_cons]
          rw [hqv,Rat.add_zero]
          exact g1.mono (by omega)
       ·cases hl2:iO b p1 f a with
        | some r=>rw [hl2] at h; simp at h
        | none =>
          obtain ⟨n',d',n2,d2,g1,g2⟩:=hn.2 hl2
          exact ⟨n',d',n2,d2,g1,step _ g2⟩
end Go.Ev.Code
end
section
namespace Go.Ev.Code
open Go Go.Ev
theorem o9 (n:Int) (d:Nat):∃ c0 c1 c2,qC n d=[c0,c1,c2]∧∀ k j,D.clo k (j+1) c0=true∧D.clo k (j+1) c1=true∧D.clo k (j+1) c2=true∧∀ m,fz (j+1) c0 m=some (c0,m)∧fz (j+1) c1 m=some (c1,m)∧fz (j+1) c2 m=some (c2,m):=⟨_,_,_,rfl,fun k j=>⟨rfl,rfl,rfl,fun m=>⟨rfl,rfl,rfl⟩⟩⟩
theorem au7:Wo 64 0 1 (Rat.divInt 0 1):=⟨⟨jQ (by omega),by unfold NB; decide⟩,by omega,rfl⟩
set_option maxHeartbeats 1000000 in
theorem ah5 {b:aQ} (hchk:chk b=none) {p:Int×Int} (d1:bn p.1) (d2:bn p.2) (hlt:p.1<p.2) {x y:Int} (hx:p.1≤x) (hxy:x≤y) (hy:y≤p.2) {N:Nat} (hN:∀ l,sF b p=some l→l.length≤N) (hN2:N≤3600) :
  (∀ q,nY b p x y = .ok q→∃ n d,Wo (64+65*N) n d q∧L.call lH [aX b,pD p,.int .i64 x,.int .i64 y]=some (.bg [lU n d,.bool true])) ∧
  (∀ c,nY b p x y = .error c→c=4∧∃ n d,QB 9600000 n d∧L.call lH [aX b,pD p,.int .i64 x,.int .i64 y]=some (.bg [lU n d,.bool false])):=by
 have hcnt:=afV hchk
 have h0:=I_ (n:=0) (by omega)
 have dx:bn x:=⟨by omega,by omega⟩
 have dy:bn y:=⟨by omega,by omega⟩
 have hin:¬ (x<p.1∨y<x∨p.2<y):=by omega
 have hbc:=mF b 4
 unfold nY
 by_cases hc:b.count=4
 ·have hz:=an7 hchk (p1:=p.1) (p2:=p.2) dx dy (p.2-p.1).toNat p.2 0 1 64 (Rat.divInt 0 1) (Nat.le_refl _) d2 au7 (by omega)
  simp only [if_pos hc]
  cases hq:sF b p with
  | none =>
    obtain ⟨n',d',n2,d2',g,hl⟩:=hz.2 hq
    refine ⟨fun q h=>by simp at h,fun c h=>?_⟩
    simp at h
    refine ⟨h.symm,n',d',g.2,?_⟩
    obtain ⟨a0,a1,a2,ha,hcl⟩:=o9 n' d'
    obtain ⟨e0,e1,e2,he,hcl2⟩:=o9 0 1
    unfold qZ lU pD at *
    rw [he] at h0 hl
    rw [ha] at hl ⊢
    have hcl2:=hcl2 0 10
    have hfz:=(hcl 0 9).2.2.2
    have hfz2:=(hcl 0 10).2.2.2
    have hcl:=hcl 0 10
    clear hz hq
    obtain ⟨p1,p2⟩:=p
    generalize qC n2 d2'=z2 at *
    obtain ⟨i,m,fq,cc,rd,n,s,e,ex⟩:=b
    unfold aX aO at *
    simp only at *
    subst hc
    refine aN Ec rfl (Ea ..) ?_
    simp [yU,h0,hl,hcl,hcl2,hfz,hfz2,cu]
  | some l =>
    obtain ⟨n',d',g,hl⟩:=hz.1 l hq
    have hlen:=hN l hq
    simp only
    rw [if_neg hin]
    refine ⟨fun q h=>?_,fun c h=>by simp at h⟩
    simp at h
    subst h
    refine ⟨n',d',g.mono (by omega),?_⟩
    obtain ⟨a0,a1,a2,ha,hcl⟩:=o9 n' d'
    obtain ⟨e0,e1,e2,he,hcl2⟩:=o9 0 1
    unfold qZ lU pD at *
    rw [he] at h0 hl
    rw [ha] at hl ⊢
    have hcl2:=hcl2 0 10
    have hfz:=(hcl 0 9).2.2.2
    have hfz2:=(hcl 0 10).2.2.2
    have hcl:=hcl 0 10
    clear hz hq g
    obtain ⟨p1,p2⟩:=p
    obtain ⟨i,m,fq,cc,rd,n,s,e,ex⟩:=b
    unfold aX aO at *
    simp only at *
    subst hc
    refine aN Ec rfl (Ea ..) ?_
    simp [yU,h0,hl,hcl,hcl2,hfz,hfz2,cu]
 ·simp only [if_neg hc]
  rw [if_neg hin]
  refine ⟨fun q h=>?_,fun c h=>by simp at h⟩
  simp at h
  subst h
  have hp:=ake (k:=b.count) (a:=x) (b:=y) (by omega) (by omega) dx dy hxy
  have hbd:=Ku (k:=b.count) dx dy
  refine ⟨eG b.count x y,if b.count=3 then 365 else 360,?_,?_⟩
  ·refine ⟨⟨(jQ (by omega)).mono (by omega),?_⟩,by split <;> omega,?_⟩
   ·refine NB.mono (j:=64) ?_ (by omega)
    unfold NB
    split <;> decide
   ·unfold I7
    split <;> rfl
  ·generalize eG b.count x y=z at *
   generalize (if b.count=3 then 365 else 360)=w at *
   obtain ⟨a0,a1,a2,ha,hcl⟩:=o9 z w
   unfold lU pD at *
   rw [ha] at hp ⊢
   have hfz:=(hcl 0 9).2.2.2
   have hfz2:=(hcl 0 10).2.2.2
   have hcl:=hcl 0 10
   obtain ⟨p1,p2⟩:=p
   obtain ⟨i,m,fq,cc,rd,n,s,e,ex⟩:=b
   unfold aX aO at *
   simp only at *
   refine aN Ec rfl (Ea ..) ?_
   simp [yU,hc,hp,hcl,hfz,hfz2,cu]
theorem ao1 {b:aQ} (hchk:chk b=none):OX b.dH 0 30 true=0∧OX b.dM 0 200 false=0:=by
 have h1:=(dX hchk).2.2
 rw [afx] at h1
 by_cases c1:OX b.dH 0 30 true=0
 ·rw [if_neg (fun h=>h c1)] at h1
  by_cases c2:OX b.dM 0 200 false=0
  ·exact ⟨c1,c2⟩
  ·rw [if_pos c2] at h1; simp at h1
 ·rw [if_pos c1] at h1; simp at h1
theorem asQ {s:List UInt8} {lo hi:Int} {fr:Bool} (h:OX s lo hi fr=0):∃ p,yL s=some (Rat.divInt (wiN s lo hi fr) (wiM s lo hi fr),p)∧Wo 300 (wiN s lo hi fr) (wiM s lo hi fr) (Rat.divInt (wiN s lo hi fr) (wiM s lo hi fr)):=by
 have hq := @amf s
 rw [ab9]
 unfold wiN wiM
 rw [if_pos h,if_pos h]
 unfold OX at h
 cases hg:Jk s with
 | none=>rw [hg] at h; simp at h
 | some np =>
   obtain ⟨n,p⟩:=np
   exact ⟨p,rfl,⟨(hq hg).1,Nat.pow_pos (by decide),rfl⟩⟩
theorem aec {b:aQ} (hchk:chk b=none) (hc:b.dH.length≤1000):∃ n d,Wo 300 n d (LZ b)∧L.call jI [aX b]=some (lU n d):=by
 obtain ⟨h1,h2⟩:=ao1 hchk
 obtain ⟨p,g1,g2⟩:=asQ h1
 have hw:=Et hc (lo:=0) (hi:=30) (by omega) (by omega) true
 rw [akz,h1] at hw
 have hv:LZ b=Rat.divInt (wiN b.dH 0 30 true) (wiM b.dH 0 30 true):=by
  unfold LZ
  rw [hchk,g1]
 refine ⟨_,_,by rw [hv]; exact g2,?_⟩
 clear hv g1 g2
 obtain ⟨a0,a1,a2,ha,hcl⟩:=o9 (wiN b.dH 0 30 true) (wiM b.dH 0 30 true)
 unfold lU at *
 rw [ha] at hw ⊢
 have hfz:=(hcl 0 9).2.2.2
 have hfz2:=(hcl 0 10).2.2.2
 have hcl:=hcl 0 10
 obtain ⟨i,m,fq,cc,rd,n,s,e,ex⟩:=b
 unfold aX aO at *
 simp only at *
 refine aN VX rfl (VQ ..) ?_
 simp [JV,hw,hcl,hfz,hfz2,cu]
theorem UU {b:aQ} (hchk:chk b=none) (hc:b.dM.length≤1000):∃ n d,Wo 300 n d (mO b)∧L.call jJ [aX b]=some (lU n d):=by
 obtain ⟨h1,h2⟩:=ao1 hchk
 obtain ⟨p,g1,g2⟩:=asQ h2
 have hw:=Et hc (lo:=0) (hi:=200) (by omega) (by omega) false
 rw [akz,h2] at hw
 have hv:mO b=Rat.divInt (wiN b.dM 0 200 false) (wiM b.dM 0 200 false):=by
  unfold mO
  rw [hchk,g1]
 refine ⟨_,_,by rw [hv]; exact g2,?_⟩
 clear hv g1 g2
 obtain ⟨a0,a1,a2,ha,hcl⟩:=o9 (wiN b.dM 0 200 false) (wiM b.dM 0 200 false)
 unfold lU at *
 rw [ha] at hw ⊢
 have hfz:=(hcl 0 9).2.2.2
 have hfz2:=(hcl 0 10).2.2.2
 have hcl:=hcl 0 10
 obtain ⟨i,m,fq,cc,rd,n,s,e,ex⟩:=b
 unfold aX aO at *
 simp only at *
 refine aN VZ rfl (VT ..) ?_
 simp [JW,hw,hcl,hfz,hfz2,cu]
set_option maxHeartbeats 1000000 in
theorem aak {b:aQ} (hchk:chk b=none) (hc:b.dH.length≤1000) {p:Int×Int} (d1:bn p.1) (d2:bn p.2) (hlt:p.1<p.2) {N:Nat} (hN:∀ l,sF b p=some l→l.length≤N) (hN2:N≤3600) :
  (∀ q,sD b p = .ok q→∃ n d,Wo (400+65*N) n d q∧L.call jD [aX b,pD p]=some (.bg [lU n d,.bool true])) ∧
  (∀ c,sD b p = .error c→c=4∧∃ n d,QB 9601000 n d∧L.call jD [aX b,pD p]=some (.bg [lU n d,.bool false])):=by
 obtain ⟨cn,cd,wc,hcp⟩:=aec hchk hc
 have hrg:=acY hchk p
 have hpt:=ah5 hchk d1 d2 hlt (x:=p.1) (y:=p.2) (Int.le_refl _) (by omega) (Int.le_refl _) hN hN2
 have hf:=nP (dX hchk).2.1
 have hfb:1≤b.d_∧b.d_≤12:=by rcases hf with h | h | h | h <;> omega
 have hfr:=Lp (n:=1) (d:=b.d_) (by omega) (by omega)
 have hfw:=Wo.avD (n:=1) (d:=b.d_) (by omega) (by omega)
 unfold sD
 by_cases hr:regular b p=true
 ·rw [if_pos hr]
  rw [hr] at hrg
  refine ⟨fun q h=>?_,fun c h=>by simp at h⟩
  simp at h
  subst h
  have hpr:=RQ wc.qb hfw.qb (by omega)
  refine ⟨_,_,(wc.prod hfw).mono (by omega),?_⟩
  obtain ⟨a0,a1,a2,ha,hcl⟩:=o9 (cn*1) (cd*b.d_.natAbs)
  obtain ⟨b0,b1,b2,hb,hcl2⟩:=o9 1 b.d_.natAbs
  obtain ⟨c0,c1,c2,hc',hcl3⟩:=o9 cn cd
  unfold lU pD at *
  rw [ha] at hpr ⊢
  rw [hb] at hpr hfr
  rw [hc'] at hpr hcp
  have hfz:=(hcl 0 9).2.2.2
  have hfz2:=(hcl 0 10).2.2.2
  have hcl:=hcl 0 10
  have hcl2:=hcl2 0 10
  have hcl3:=hcl3 0 10
  clear hpt wc hfw
  obtain ⟨p1,p2⟩:=p
  obtain ⟨i,m,fq,cc,rd,n,s,e,ex⟩:=b
  unfold aX aO at *
  simp only at *
  refine aN EI rfl (EG ..) ?_
  simp [Ac,hrg,hcp,hfr,hpr,hcl,hcl2,hcl3,hfz,hfz2,cu]
 ·rw [if_neg hr]
  have hr0:regular b p=false:=by simpa using hr
  rw [hr0] at hrg
  cases hpb:nY b p p.1 p.2 with
  | ok v =>
    simp only
    refine ⟨fun q h=>?_,fun c h=>by simp at h⟩
    simp at h
    subst h
    obtain ⟨pn,pd,wp,hpc⟩:=hpt.1 v hpb
    have hpr:=RQ wc.qb wp.qb (by omega)
    refine ⟨_,_,(wc.prod wp).mono (by omega),?_⟩
    obtain ⟨a0,a1,a2,ha,hcl⟩:=o9 (cn*pn) (cd*pd)
    obtain ⟨b0,b1,b2,hb,hcl2⟩:=o9 pn pd
    obtain ⟨c0,c1,c2,hc',hcl3⟩:=o9 cn cd
    unfold lU pD at *
    rw [ha] at hpr ⊢
    rw [hb] at hpr hpc
    rw [hc'] at hpr hcp
    have hfz:=(hcl 0 9).2.2.2
    have hfz2:=(hcl 0 10).2.2.2
    have hcl:=hcl 0 10
    have hcl2:=hcl2 0 10
    have hcl3:=hcl3 0 10
    clear hpt wc hfw hpb
    obtain ⟨p1,p2⟩:=p
    obtain ⟨i,m,fq,cc,rd,n,s,e,ex⟩:=b
    unfold aX aO at *
    simp only at *
    refine aN EI rfl (EG ..) ?_
    simp [Ac,hrg,hcp,hpc,hpr,hcl,hcl2,hcl3,hfz,hfz2,cu]
  | error c' =>
    simp only
    refine ⟨fun q h=>by simp at h,fun c h=>?_⟩
    simp at h
    subst h
    obtain ⟨h4,pn,pd,wp,hpc⟩:=hpt.2 c' hpb
    have hpr:=RQ wc.qb wp (by omega)
    refine ⟨h4,_,_,(wc.qb.prod wp).mono (by omega),?_⟩
    obtain ⟨a0,a1,a2,ha,hcl⟩:=o9 (cn*pn) (cd*pd)
    obtain ⟨b0,b1,b2,hb,hcl2⟩:=o9 pn pd
    obtain ⟨c0,c1,c2,hc',hcl3⟩:=o9 cn cd
    unfold lU pD at *
    rw [ha] at hpr ⊢
    rw [hb] at hpr hpc
    rw [hc'] at hpr hcp
    have hfz:=(hcl 0 9).2.2.2
    have hfz2:=(hcl 0 10).2.2.2
    have hcl:=hcl 0 10
    have hcl2:=hcl2 0 10
    have hcl3:=hcl3 0 10
    clear hpt wc hfw hpb
    obtain ⟨p1,p2⟩:=p
    obtain ⟨i,m,fq,cc,rd,n,s,e,ex⟩:=b
    unfold aX aO at *
    simp only at *
    refine aN EI rfl (EG ..) ?_
    simp [Ac,hrg,hcp,hpc,hpr,hcl,hcl2,hcl3,hfz,hfz2,cu]
end Go.Ev.Code
end
section
namespace Go.Ev.Code
open Go Go.Ev
def qW:List (Int×Int×Nat)→List D
 | []=>[]
 | (d,n,m)::r => .int .i64 d::(qC n m++qW r)
theorem aq_ (l r:List (Int×Int×Nat)):qW (l++r)=qW l++qW r:=by
 induction l with
 | nil=>rfl
 | cons x xs ih=>obtain ⟨a,b,c⟩:=x; simp [qW,ih]
theorem ajl (l:List (Int×Int×Nat)):(qW l).length=l.length*4:=by
 induction l with
 | nil=>rfl
 | cons x xs ih=>obtain ⟨a,b,c⟩:=x; simp [qW,ih,aj6]; omega
theorem acf (l:List (Int×Int×Nat)) (b n:Nat):(qW l).all (D.clo b (n+1))=true:=by
 induction l with
 | nil=>rfl
 | cons x xs ih =>
   obtain ⟨p,q,r⟩:=x
   have := WE q r b n
   simp only [qW,List.all_cons,List.all_append,ih,this]
   rfl
theorem arb (l:List (Int×Int×Nat)) (n:Nat) (m:Mem):lG (fz (n+1)) (qW l) m=some (qW l,m):=by
 induction l with
 | nil=>rfl
 | cons x xs ih =>
   obtain ⟨p,q,r⟩:=x
   obtain ⟨c0,c1,c2,h,hc⟩:=o9 q r
   obtain ⟨_,_,_,hf⟩:=hc 0 n
   simp only [qW]
   rw [h]
   simp [hf,ih]
theorem SQ (a b c d:D):zeros 1 [a,b,c,d]=[a,b,c,d]:=by rfl
def aaH (acc:List (Int×Int×Nat)):D:=if acc=[] then .bH else .bf 1 0 acc.length 4
def aaI (acc:List (Int×Int×Nat)):Mem:=if acc=[] then [] else [.live (qW acc)]
set_option maxHeartbeats 4000000 in
theorem Ob {b:aQ} {ps pfx rest:List (Int×Int)} {p:Int×Int} {acc:List (Int×Int×Nat)} (hal:ps=pfx++p::rest) (hps:ps.length≤100000) (hl:acc.length=pfx.length) {n n1:Int} {d d1:Nat}
  (hp:L.call jD [aX b,pD p]=some (.bg [lU n d,.bool true]))
  (hcase:(rest≠[]∧n1=n∧d1=d)∨(rest=[]∧∃ rn rd,L.call jJ [aX b]=some (lU rn rd)∧L.call lX [lU n d,lU rn rd]=some (lU n1 d1))) {R:Ex×List D×Mem}
  (hR:L.loop [1,4,6,7] [2,3,6] eY 1 [.loc 0 0,eu ps,aaH (acc++[(p.2,n1,d1)]),.int .i64 ((pfx.length+1:Nat):Int)] ([.live (aO b)]++aaI (acc++[(p.2,n1,d1)]))=some R) :
  L.loop [1,4,6,7] [2,3,6] eY 1 [.loc 0 0,eu ps,aaH acc,.int .i64 pfx.length] ([.live (aO b)]++aaI acc)=some R:=by
 have hbc:=fun k j=>ql b k j
 have hbl:=rW b
 have hg:=vO (ps:=ps) (i:=pfx.length) (p:=p) (by rw [hal]; simp)
 have hlt:pfx.length<ps.length:=by rw [hal]; simp
 have hlast:(pfx.length:Int)=(ps.length:Int)-1↔rest=[]:=by
  have : ps.length=pfx.length+1+rest.length:=by rw [hal]; simp; omega
  constructor
  ·intro h; exact List.eq_nil_of_length_eq_zero (by omega)
  ·rintro rfl; simp at this; omega
 have e1:IntKind.i64.wrap ((pfx.length:Int)+1)=((pfx.length+1:Nat):Int):=by rw [wrap64 _ (by omega)]; omega
 have e2:IntKind.i64.wrap ((ps.length:Int)-1)=(ps.length:Int)-1:=wrap64 _ (by omega)
 have hne:¬ acc++[(p.2,n1,d1)]=[]:=by simp
 unfold aaH aaI at hR
 rw [if_neg hne,if_neg hne,aq_,List.length_append,List.length_singleton] at hR
 have hone:qW [(p.2,n1,d1)] = .int .i64 p.2::qC n1 d1:=by simp [qW]
 rw [hone] at hR
 obtain ⟨p1,p2⟩:=p
 unfold pD eu at *
 simp only at *
 obtain ⟨g1,g2,g3,g4⟩:=hg
 obtain ⟨a0,a1,a2,ha,hca⟩:=o9 n d
 obtain ⟨c0,c1,c2,hc,hcc⟩:=o9 n1 d1
 have hA:acc.length+1≤4294967296:=by omega
 have hfl:=ajl acc
 have hfc:=acf acc
 have htkf:(qW acc).take (acc.length*4)=qW acc:=List.take_of_length_le (by omega)
 have hnil:acc=[]→qW acc=[]:=fun h=>by rw [h]; rfl
 have hf1:=hfc 0 11
 have hf2:=hfc 1 11
 have hf3:=hfc 2 11
 have hf4:=hfc 3 11
 clear hfc
 have hb1:=hbc 0 10
 have hb2:=hbc 0 11
 have hb3:=hbc 1 11
 have hb4:=hbc 2 11
 have hb5:=hbc 3 11
 clear hbc
 have h1:=hca 0 10
 have h2:=hca 1 11
 have h3:=hca 2 11
 have h4:=hca 3 11
 have k1:=hcc 0 10
 have k2:=hcc 1 11
 have k3:=hcc 2 11
 have k4:=hcc 3 11
 clear hca hcc
 unfold aX lU at *
 rw [ha] at hp
 rw [hc] at hR
 generalize hFC:qW acc=fc at *
 generalize bI ps=pc at *
 generalize hB:aO b=B at *
 have htk:B.take 9=B:=List.take_of_length_le (by omega)
 have hltI:(pfx.length:Int)<ps.length:=by omega
 unfold aaH aaI
 rw [hFC]
 rcases hcase with ⟨hr,rfl,rfl⟩ | ⟨hr,rn,rd,hrd,hsm⟩
 ·have hi:¬ (pfx.length:Int)=(ps.length:Int)-1:=fun h=>hr (hlast.1 h)
  rw [ha] at hc
  simp at hc
  obtain ⟨rfl,rfl,rfl⟩:=hc
  clear hlast
  by_cases hac:acc=[]
  ·have hfc0:=hnil hac
   subst hfc0
   have hz:acc.length=0:=by rw [hac]; rfl
   rw [hz] at hR
   rw [if_pos hac,if_pos hac]
   generalize ps.length=N at *
   generalize pfx.length=P at *
   refine aJ (kJ ..) ?_
   simp at hR
   simp [jc,hlt,hltI,g1,g2,g3,g4,hp,htk,hbl,hb1,hb2,hb3,hb4,hb5,h1,h2,h3,h4,e1,e2,hi,cu,SQ,hR]
  ·rw [if_neg hac,if_neg hac]
   generalize acc.length=A at *
   generalize ps.length=N at *
   generalize pfx.length=P at *
   refine aJ (kJ ..) ?_
   simp at hR
   simp [jc,hlt,hltI,g1,g2,g3,g4,hp,htk,hbl,hb1,hb2,hb3,hb4,hb5,h1,h2,h3,h4,e1,e2,hi,cu,SQ,hf1,hf2,hf3,hf4,htkf,hfl,hA,qF,hR]
 ·have hi:=hlast.2 hr
  obtain ⟨r0,r1,r2,hrr,hcr⟩:=o9 rn rd
  have j1:=hcr 0 10
  clear hcr
  rw [hrr] at hrd hsm
  rw [ha,hc] at hsm
  clear hlast
  by_cases hac:acc=[]
  ·have hfc0:=hnil hac
   subst hfc0
   have hz:acc.length=0:=by rw [hac]; rfl
   rw [hz] at hR
   rw [if_pos hac,if_pos hac]
   generalize ps.length=N at *
   generalize pfx.length=P at *
   have hi':(N:Int)-1=P:=by omega
   have e2':IntKind.i64.wrap (P:Int)=P:=wrap64 _ (by omega)
   refine aJ (kJ ..) ?_
   simp at hR
   simp [jc,hlt,hltI,g1,g2,g3,g4,hp,hrd,hsm,htk,hbl,hb1,hb2,hb3,hb4,hb5,h1,h2,h3,h4,j1,k1,k2,k3,k4,e1,e2,e2',hi',cu,SQ,hR]
  ·rw [if_neg hac,if_neg hac]
   generalize acc.length=A at *
   generalize ps.length=N at *
   generalize pfx.length=P at *
   have hi':(N:Int)-1=P:=by omega
   have e2':IntKind.i64.wrap (P:Int)=P:=wrap64 _ (by omega)
   refine aJ (kJ ..) ?_
   simp at hR
   simp [jc,hlt,hltI,g1,g2,g3,g4,hp,hrd,hsm,htk,hbl,hb1,hb2,hb3,hb4,hb5,h1,h2,h3,h4,j1,k1,k2,k3,k4,e1,e2,e2',hi',cu,SQ,hf1,hf2,hf3,hf4,htkf,hfl,hA,qF,hR]
def FlW (k:Nat):List (Int×Int×Nat)→List (Int×Rat)→Prop
 | [],[]=>True
 | w::ws,f::fs=>w.1=f.1∧Wo k w.2.1 w.2.2 f.2∧FlW k ws fs
 | _,_=>False
theorem FlW.len {k:Nat}:∀ {ws:List (Int×Int×Nat)} {fs:List (Int×Rat)},FlW k ws fs→ws.length=fs.length
 | [],[],_=>rfl
 | _::_,_::_,h=>by simp [FlW.len h.2.2]
 | [],_::_,h=>h.elim
 | _::_,[],h=>h.elim
theorem Oa {b:aQ} (hchk:chk b=none) (hc:b.dH.length≤1000) (hr:b.dM.length≤1000) {ps:List (Int×Int)} (hps:ps.length≤100000):∀ (rest pfx:List (Int×Int)) (acc:List (Int×Int×Nat)),ps=pfx++rest→acc.length=pfx.length→acc≠[] →
  (∀ p∈rest,sD b p = .ok (jV b)∧bn p.1∧bn p.2∧p.1<p.2∧∀ l,sF b p=some l→l.length≤2) →
  ∃ ws,FlW 840 ws (pJ (jV b) (mO b) rest)∧L.loop [1,4,6,7] [2,3,6] eY 1 [.loc 0 0,eu ps,aaH acc,.int .i64 pfx.length] ([.live (aO b)]++aaI acc) =
    some (.exit 0,[.undef,.undef,.bf 1 0 ps.length 4],[.live (aO b),.live (qW (acc++ws))])
 | [],pfx,acc,hal,hl,hne,_=>by
   refine ⟨[],trivial,?_⟩
   rw [List.append_nil] at hal
   subst hal
   have hf1:=acf acc 1 11
   have hb1:=ql b 1 11
   unfold aaH aaI eu
   rw [if_neg hne,if_neg hne,hl,List.append_nil]
   generalize qW acc=fc at *
   generalize aO b=B at *
   generalize bI ps=pc at *
   generalize ps.length=N at *
   refine aJ (kJ ..) ?_
   simp [jc,hf1,hb1]
 | p::rest,pfx,acc,hal,hl,hne,hall=>by
   obtain ⟨h1,h2,h3,h4,h5⟩:=hall p (by simp)
   obtain ⟨n,d,hw,hp⟩:=(aak hchk hc h2 h3 h4 h5 (by omega)).1 _ h1
   obtain ⟨rn,rd,hwr,hrd⟩:=UU hchk hr
   have hsm:=Vx hw.qb hwr.qb (by omega)
   have hall2:=fun q hq=>hall q (List.mem_cons_of_mem _ hq)
   by_cases hre:rest=[]
   ·obtain ⟨ws,g1,g2⟩:=Oa hchk hc hr hps rest (pfx++[p]) (acc++[(p.2,n*rd+rn*d,d*rd)]) (by rw [hal]; simp) (by simp [hl]) (by simp) hall2
    rw [List.length_append,List.length_singleton,List.append_assoc] at g2
    have hst:=Ob hal hps hl hp (.inr ⟨hre,rn,rd,hrd,hsm⟩) g2
    refine ⟨(p.2,n*rd+rn*d,d*rd)::ws,?_,by simpa using hst⟩
    subst hre
    simp only [pJ] at g1 ⊢
    exact ⟨rfl,(hw.sum hwr).mono (by omega),g1⟩
   ·obtain ⟨ws,g1,g2⟩:=Oa hchk hc hr hps rest (pfx++[p]) (acc++[(p.2,n,d)]) (by rw [hal]; simp) (by simp [hl]) (by simp) hall2
    rw [List.length_append,List.length_singleton,List.append_assoc] at g2
    have hst:=Ob hal hps hl hp (.inl ⟨hre,rfl,rfl⟩) g2
    refine ⟨(p.2,n,d)::ws,?_,by simpa using hst⟩
    obtain ⟨q,r,rfl⟩:=List.exists_cons_of_ne_nil hre
    simp only [pJ] at g1 ⊢
    exact ⟨rfl,hw.mono (by omega),g1⟩
theorem an6 {b:aQ} {ps:List (Int×Int)} {p:Int×Int} {r:List (Int×Int)} (hal:ps=p::r) {n:Int} {d:Nat} (hp:L.call jD [aX b,pD p]=some (.bg [lU n d,.bool false])) :
  ∃ t M,L.loop [1,4,6,7] [2,3,6] eY 1 [.loc 0 0,eu ps,.bH,.int .i64 0] [.live (aO b)]=some (.ret,[.bH,.bool false,t],M)∧M=[.live (aO b)]:=by
 have hbc:=fun k j=>ql b k j
 have hbl:=rW b
 have hg:=vO (ps:=ps) (i:=0) (p:=p) (by rw [hal]; simp)
 have hlt:0<ps.length:=by rw [hal]; simp
 have hltI:(0:Int)<ps.length:=by omega
 obtain ⟨p1,p2⟩:=p
 unfold pD eu at *
 simp only at *
 obtain ⟨g1,g2,g3,g4⟩:=hg
 obtain ⟨a0,a1,a2,ha,hca⟩:=o9 n d
 have hb1:=hbc 0 10
 have hb2:=hbc 0 11
 have hb3:=hbc 1 11
 clear hbc
 have h1:=hca 0 10
 have h2:=hca 1 11
 clear hca
 unfold aX lU at *
 rw [ha] at hp
 generalize bI ps=pc at *
 generalize aO b=B at *
 have htk:B.take 9=B:=List.take_of_length_le (by omega)
 generalize ps.length=N at *
 simp at g1 g2 g3 g4
 refine ⟨.bH,_,aJ (kJ ..) ?_,rfl⟩
 simp [jc,hlt,hltI,g1,g2,g3,g4,hp,htk,hbl,hb1,hb2,hb3,h1,h2,cu,SQ]
set_option maxHeartbeats 1000000 in
theorem afo {b:aQ} (hp0:(aZ b).1=none) (hc:b.dH.length≤1000) (hr:b.dM.length≤1000) :
  ((dP b).1=none→∃ ws,FlW 840 ws (dP b).2∧L.call kE [aX b]=some (.bg [.sl ws.length (qW ws),.bool true])) ∧
  (∀ e,(dP b).1=some e→e=(4,none)∧L.call kE [aX b]=some (.bg [.sl 0 [],.bool false])):=by
 have hchk:=mJ hp0
 have hpl:=O6 hchk
 have hpd:∀ p∈(aZ b).2,bn p.1∧bn p.2∧p.1<p.2∧∀ l,sF b p=some l→l.length≤2:=fun p h=>⟨(kC hp0 h).1,(kC hp0 h).2.1,(kC hp0 h).2.2,fun l hl=>XO hp0 h hl⟩
 have hw:=(iD hp0).2
 have hps:(aZ b).2.length≤100000:=by have := hw.len; omega
 have hbd:=ql b 0 10
 have hbl:=rW b
 unfold RZ at hpl
 unfold dP
 rw [hp0]
 simp only
 cases hP:aZ b with
 | mk e ps =>
   rw [hP] at hp0 hpl hpd hw hps
   simp only at *
   subst hp0
   simp only at hpl
   match ps,hpl,hpd,hw,hps with
   | [],hpl,hpd,hw,hps=>exact absurd rfl hw.ne
   | p::r,hpl,hpd,hw,hps =>
     simp only
     obtain ⟨d1,d2,d3,d4⟩:=hpd p (by simp)
     have hpy:=aak hchk hc d1 d2 d3 d4 (by omega)
     cases hpb:sD b p with
     | error c =>
       simp only
       refine ⟨fun h=>by simp at h,fun e h=>?_⟩
       simp at h
       obtain ⟨h4,n,d,_,hpc⟩:=hpy.2 c hpb
       refine ⟨by rw [← h,h4],?_⟩
       obtain ⟨t,M,hl,hM⟩:=an6 (b:=b) (ps:=p::r) rfl hpc
       subst hM
       clear hpy hw
       unfold aX eu at *
       generalize aO b=B at *
       have htk:B.take 9=B:=List.take_of_length_le (by omega)
       generalize bI (p::r)=pc at *
       generalize (p::r).length=N at *
       refine aN Ko rfl (J4 ..) ?_
       simp [Dh,hbd,hbl,htk,hpl,hl]
     | ok q =>
       simp only
       refine ⟨fun _=>?_,fun e h=>by simp at h⟩
       have hall:∀ s∈r,sD b s = .ok (jV b)∧bn s.1∧bn s.2∧s.1<s.2∧∀ l,sF b s=some l→l.length≤2:=by
        intro s hs
        obtain ⟨i,hi⟩:=List.getElem?_of_mem hs
        obtain ⟨u,hu⟩:∃ u,(p::r)[i]?=some u:=by
         have : i<(p::r).length:=by have := (List.getElem?_eq_some_iff.1 hi).1; simp; omega
         exact ⟨_,List.getElem?_eq_getElem this⟩
        have := (hw.next i s u hu (by simpa using hi)).2
        exact ⟨by unfold sD; rw [if_pos this],hpd s (by simp [hs])⟩
       obtain ⟨n,d,hwn,hpc⟩:=hpy.1 q hpb
       obtain ⟨rn,rd,hwr,hrd⟩:=UU hchk hr
       have hsm:=Vx hwn.qb hwr.qb (by omega)
       obtain ⟨ws,g1,g2⟩:∃ ws,FlW 840 ws (Es q (jV b) (mO b) (p::r))∧L.loop [1,4,6,7] [2,3,6] eY 1 [.loc 0 0,eu (p::r),.bH,.int .i64 0] [.live (aO b)]=some (.exit 0,[.undef,.undef,.bf 1 0 (p::r).length 4],[.live (aO b),.live (qW ws)]):=by
        by_cases hre:r=[]
        ·obtain ⟨ws,g1,g2⟩:=Oa hchk hc hr hps r [p] [(p.2,n*rd+rn*d,d*rd)] rfl rfl (by simp) hall
         have hst:=Ob (b:=b) (ps:=p::r) (pfx:=[]) (acc:=[]) rfl hps rfl hpc (.inr ⟨hre,rn,rd,hrd,hsm⟩) g2
         refine ⟨(p.2,n*rd+rn*d,d*rd)::ws,?_,hst⟩
         subst hre
         simp only [pJ,Es] at g1 ⊢
         exact ⟨rfl,(hwn.sum hwr).mono (by omega),g1⟩
        ·obtain ⟨ws,g1,g2⟩:=Oa hchk hc hr hps r [p] [(p.2,n,d)] rfl rfl (by simp) hall
         have hst:=Ob (b:=b) (ps:=p::r) (pfx:=[]) (acc:=[]) rfl hps rfl hpc (.inl ⟨hre,rfl,rfl⟩) g2
         refine ⟨(p.2,n,d)::ws,?_,hst⟩
         obtain ⟨u,v,rfl⟩:=List.exists_cons_of_ne_nil hre
         simp only [pJ,Es] at g1 ⊢
         exact ⟨rfl,hwn.mono (by omega),g1⟩
       have hlen:(p::r).length=ws.length:=by rw [g1.len,Zy]
       refine ⟨ws,g1,?_⟩
       have hfl:=ajl ws
       have htkf:(qW ws).take (ws.length*4)=qW ws:=List.take_of_length_le (by omega)
       have hfz:∀ m,lG (fz 10) (qW ws) m=some (qW ws,m):=fun m=>arb ws 9 m
       have hcl:=acf ws 0 11
       rw [hlen] at g2
       unfold aX eu at *
       rw [hlen] at g2 hpl
       clear hpy hw hall g1 hpd
       generalize aO b=B at *
       have htk:B.take 9=B:=List.take_of_length_le (by omega)
       generalize bI (p::r)=pc at *
       generalize ws.length=N at *
       generalize qW ws=fc at *
       refine aN Ko rfl (J4 ..) ?_
       simp [Dh,hbd,hbl,htk,hpl,g2,htkf,hfz,hfl,hcl]
end Go.Ev.Code
end
section
namespace Go.Ev.Code
open Go Go.Ev
theorem aiX {b:aQ} {c:Int} {t:List UInt8} (h:chk b=some (c,t)):c≠0:=by
 have hs:=afx b
 unfold chk zu at h
 split at h
 ·rename_i e he
  rw [← he] at h
  split at h
  ·simp at h; omega
  ·split at h
   ·simp at h; omega
   ·split at h
    ·simp at h; omega
    ·split at h
     ·split at h
      ·simp at h; omega
      ·simp at h
     ·simp at h
 ·split at h
  ·simp at h; omega
  ·split at h
   ·rename_i e he
    rw [← he] at h
    rw [hs] at h
    split at h
    ·rename_i h1
     simp at h; rw [← h.1]; exact h1
    ·split at h
     ·rename_i h1
      simp at h; rw [← h.1]; exact h1
     ·simp at h
   ·split at h
    ·simp at h; omega
    ·split at h
     ·simp at h; omega
     ·split at h
      ·simp at h; omega
      ·split at h
       ·simp at h; omega
       ·simp at h
theorem agu {b:aQ} (hchk:chk b=none) {e:Int×List UInt8} (h:(aZ b).1=some e):e.1=5:=by
 unfold aZ at h
 rw [hchk] at h
 simp only at h
 split at h
 ·simp at h
 ·split at h
  ·simp at h; rw [← h]
  ·split at h
   ·split at h <;> simp at h
   ·simp at h
set_option maxHeartbeats 1000000 in
theorem aj' {b:aQ} (hc:b.dH.length≤1000) (hr:b.dM.length≤1000) (s:Int):L.call pU [aX b,.int .i64 s]=some (.int .i64 (Xj (leftB b s).1)):=by
 have hck:=afn hc hr
 have hbd:=ql b 0 10
 have hbl:=rW b
 cases hchk:chk b with
 | some ct =>
   obtain ⟨c,t⟩:=ct
   rw [hchk] at hck
   have hne:=aiX hchk
   have hv:Xj (leftB b s).1=c:=by
    unfold leftB dP aZ
    rw [hchk]
    rfl
   rw [hv]
   unfold jr aX at *
   generalize aO b=B at *
   have htk:B.take 9=B:=List.take_of_length_le (by omega)
   refine aN zn rfl (zl ..) ?_
   simp [nI,hbd,hbl,htk,hck,hne]
 | none =>
   rw [hchk] at hck
   have hpl:=O6 hchk
   unfold RZ at hpl
   cases hp0:(aZ b).1 with
   | some e =>
     have h5:=agu hchk hp0
     have hv:Xj (leftB b s).1=5:=by
      unfold leftB dP
      rw [hp0]
      obtain ⟨e1,e2⟩:=e
      exact h5
     rw [hv]
     have hpl:L.call dY [aX b]=some (.bg [.sl 0 [],.bool false]):=by
      rw [hpl]
      cases hP:aZ b with
      | mk p1 p2 =>
        rw [hP] at hp0
        simp only at hp0
        subst hp0
        rfl
     unfold jr aX at *
     generalize aO b=B at *
     have htk:B.take 9=B:=List.take_of_length_le (by omega)
     refine aN zn rfl (zl ..) ?_
     simp [nI,hbd,hbl,htk,hck,hpl]
   | none =>
     have hpl:L.call dY [aX b]=some (.bg [eu (aZ b).2,.bool true]):=by
      rw [hpl]
      cases hP:aZ b with
      | mk p1 p2 =>
        rw [hP] at hp0
        simp only at hp0
        subst hp0
        rfl
     have hfl:=afo hp0 hc hr
     cases hf0:(dP b).1 with
     | some e =>
       obtain ⟨he,hfl⟩:=hfl.2 e hf0
       have hv:Xj (leftB b s).1=4:=by
        unfold leftB
        rw [hf0,he]
        rfl
       rw [hv]
       unfold jr aX eu at *
       generalize (aZ b).2.length=N at *
       generalize bI (aZ b).2=pc at *
       generalize aO b=B at *
       have htk:B.take 9=B:=List.take_of_length_le (by omega)
       refine aN zn rfl (zl ..) ?_
       simp [nI,hbd,hbl,htk,hck,hpl,hfl]
     | none =>
       obtain ⟨ws,_,hfl⟩:=hfl.1 hf0
       have hv:Xj (leftB b s).1=if s<b.issue∨b.b_≤s then 6 else 0:=by
        unfold leftB
        rw [hf0]
        simp only
        split <;> rfl
       rw [hv]
       unfold jr eu at *
       generalize (aZ b).2.length=N at *
       generalize bI (aZ b).2=pc at *
       generalize ws.length=M at *
       generalize qW ws=fc at *
       obtain ⟨i,m,fq,cc,rd,n,st,e,ex⟩:=b
       unfold aX aO at *
       simp only at *
       refine aN zn rfl (zl ..) ?_
       by_cases h1:s<i
       ·rw [if_pos (.inl h1)]
        simp [nI,hck,hpl,hfl,h1]
       ·by_cases h2:m≤s
        ·rw [if_pos (.inr h2)]
         simp [nI,hck,hpl,hfl,h1,h2]
        ·rw [if_neg (fun h=>by rcases h with h | h <;> contradiction)]
         simp [nI,hck,hpl,hfl,h1,h2]
theorem arO {d:Int} (all:List (Int×Int)) (hn:all.length≤1000000):∀ (l pre:List (Int×Int)),all=pre++l →
  L.loop [0,1,5] [4] mQ 0 [eu all,.int .i64 d,.int .i64 pre.length] []=some (atR (Q8 d l pre.length)):=by
 intro l
 induction l with
 | nil =>
   intro pre hal
   rw [List.append_nil] at hal
   subst hal
   simp only [Q8,atR,if_true]
   unfold eu
   generalize bI all=pc at *
   generalize all.length=n at *
   refine aJ (JZ ..) ?_
   simp [rE]
 | cons p r ih =>
   intro pre hal
   have hg:=vO (ps:=all) (i:=pre.length) (p:=p) (by rw [hal]; simp)
   have hlt:pre.length<all.length:=by rw [hal]; simp
   have hn2:=ih (pre++[p]) (by rw [hal]; simp)
   rw [List.length_append,List.length_singleton,show ((pre.length+1:Nat):Int)=(pre.length:Int)+1 by omega] at hn2
   have e1:IntKind.i64.wrap ((pre.length:Int)+1)=(pre.length:Int)+1:=wrap64 _ (by omega)
   simp only [Q8]
   obtain ⟨p1,p2⟩:=p
   unfold eu at *
   simp only at *
   obtain ⟨g1,g2,g3,g4⟩:=hg
   generalize bI all=pc at *
   generalize all.length=n at *
   generalize pre.length=P at *
   generalize Q8 d r (P+1)=z at *
   have hltI:(P:Int)<n:=by omega
   have hneg:¬ (P:Int) = -1:=by omega
   refine aJ (JZ ..) ?_
   by_cases h1:p1≤d
   ·by_cases h2:d<p2
    ·rw [if_pos ⟨h1,h2⟩]
     unfold atR
     rw [if_neg hneg]
     simp [rE,hlt,hltI,g1,g2,g3,g4,h1,h2]
    ·rw [if_neg (fun h=>h2 h.2)]
     simp [rE,hlt,hltI,g1,g2,g3,g4,h1,h2,e1,hn2]
   ·rw [if_neg (fun h=>h1 h.1)]
    simp [rE,hlt,hltI,g1,g2,g3,g4,h1,e1,hn2]
theorem abO {ps:List (Int×Int)} (hn:ps.length≤1000000) (d:Int):L.call oN [eu ps,.int .i64 d]=some (.int .i64 (V_ ps d)):=by
 have hl:=arO (d:=d) ps hn ps [] rfl
 simp only [List.length_nil] at hl
 unfold V_
 generalize Q8 d ps 0=z at *
 unfold eu at *
 generalize bI ps=pc at *
 generalize ps.length=n at *
 unfold atR at hl
 refine aN aa6 rfl (aa1 ..) ?_
 by_cases hz:z = -1
 ·rw [if_pos hz] at hl
  subst hz
  simp at hl
  simp [G9,hl]
 ·rw [if_neg hz] at hl
  simp at hl
  simp [G9,hl]
theorem agt {b:aQ} (hp0:(aZ b).1=none):L.call dY [aX b]=some (.bg [eu (aZ b).2,.bool true]):=by
 rw [O6 (mJ hp0)]
 unfold RZ
 cases hP:aZ b with
 | mk p1 p2 =>
   rw [hP] at hp0
   simp only at hp0
   subst hp0
   rfl
theorem Vu {b:aQ} {s:Int} (h:(leftB b s).1=none):L.call jZ [aX b,.int .i64 s]=some (.bool (Ox b s)):=by
 obtain ⟨hf0,hp0,h1,h2⟩:=Jm h
 have hpl:=agt hp0
 obtain ⟨k,hk,hget,h3,h4⟩:=Qx hp0 h1 h2
 have hw:=(iD hp0).2
 have hat:=abO (ps:=(aZ b).2) (by have := hw.len; omega) s
 rw [hk] at hat
 have hg:=vO hget
 have hklt:k<(aZ b).2.length:=(List.getElem?_eq_some_iff.1 hget).1
 obtain ⟨_,d2,_,_,_,_⟩:=RH h
 have hex:=aiY (mJ hp0)
 unfold Ox
 have e1:IntKind.i64.wrap ((iZ b s).2-b.ex)=(iZ b s).2-b.ex:=wrap64 _ (by omega)
 clear hw hget hk
 generalize iZ b s=p at *
 obtain ⟨p1,p2⟩:=p
 unfold eu at *
 simp only at *
 obtain ⟨g1,g2,g3,g4⟩:=hg
 generalize (aZ b).2.length=N at *
 generalize bI (aZ b).2=pc at *
 have hkI:(k:Int)<N:=by omega
 clear h hf0 hp0
 obtain ⟨i,m,fq,cc,rd,n,st,e,ex⟩:=b
 unfold aX aO at *
 simp only at *
 refine aN aa7 rfl (aa2 ..) ?_
 by_cases c1:0<ex
 ·by_cases c2:p2-ex≤s <;> simp [G_,hpl,hat,hklt,hkI,g1,g2,g3,g4,c1,c2,e1]
 ·simp [G_,hpl,c1]
end Go.Ev.Code
end
section
namespace Go.Ev.Code
open Go Go.Ev
end Go.Ev.Code
end
section
namespace Go.Ev.Code
open Go Go.Ev
def awE (v:Rat):List Rat→List Rat
 | []=>[]
 | r::t=>(r-v)::t
def avp (b:aQ) (s:Int):List Rat:=if Ox b s=true then awE (XF b (iZ b s)) (((dP b).2.drop (V_ (aZ b).2 s).toNat).map Prod.snd) else ((dP b).2.drop (V_ (aZ b).2 s).toNat).map Prod.snd
end Go.Ev.Code
end
section
namespace Go.Ev.Code
open Go Go.Ev
end Go.Ev.Code
end
section
namespace Go.Ev.Code
open Go Go.Ev
def hs (n d:Int):List Int→Int×Int
 | []=>(0,1)
 | a::t=>((hs n d t).1*d+a*(hs n d t).2,(hs n d t).2*n)
end Go.Ev.Code
end
section
namespace Go.Ev.Code
open Go Go.Ev
end Go.Ev.Code
end
section
namespace Go.Ev.Code
open Go Go.Ev
end Go.Ev.Code
end
section
namespace Go.Ev.Code
open Go Go.Ev
theorem alH {b:aQ} (h:(dP b).1=none) {p:Int×Int} (hp:p∈(aZ b).2):0≤XF b p:=by
 have h0:=(tq h).1
 have hf:=nP (dX (mJ h0)).2.1
 obtain ⟨d1,d2,d3⟩:=kC h0 hp
 unfold XF sD
 split
 ·rename_i q hq
  split at hq
  ·rw [← Except.ok.inj hq]; exact ah_ hf
  ·rw [RF h hp (Int.le_refl _) (by omega) (Int.le_refl _)] at hq
   simp only at hq
   rw [← Except.ok.inj hq]
   exact Rat.mul_nonneg (Xk b) (ad1 h hp (x:=p.2) (y:=p.2) (by omega) (Int.le_refl _) (Int.le_refl _)).1
 ·exact Rat.le_refl
end Go.Ev.Code
end
