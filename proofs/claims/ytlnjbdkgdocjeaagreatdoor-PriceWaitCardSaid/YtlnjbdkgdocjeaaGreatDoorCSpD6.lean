/- A part of the proof of priceWait_card. -/
import Derived.Test.YtlnjbdkgdocjeaaGreatDoorCSpD5
set_option linter.unusedVariables false
set_option linter.unusedSimpArgs false
section
namespace Go.Ev.Code
open Go Go.Ev
def WT:Option Nat→Int
 | some k=>k
 | none => -1
theorem ak_ {b:ay} (hm:months b≠0) {day:Int}:∀ (f k:Nat),k+f=3602 →
  L.loop [1,2,5] [4] jc 1 [.int .i64 day,.loc 0 0,.int .i64 k] [.live (au b)]=some (.ret,[.int .i64 (WT (sQ b day f k))],[.live (au b)])∨f=0:=by
 intro f
 induction f with
 | zero=>intro k hk; exact .inr rfl
 | succ f ih =>
   intro k hk
   left
   have ha:=uO b (k:=k) (by omega)
   have hn:=ih (k+1) (by omega)
   have hlast:f=0→anch b k=none:=fun h=>by
    have : k=3601:=by omega
    rw [this]; exact afC b hm
   simp only [sQ]
   have e1:IntKind.i64.wrap ((k:Int)+1)=((k+1:Nat):Int):=by rw [wrap64 _ (by omega)]; omega
   generalize anch b k=r at *
   generalize sQ b day f (k+1)=r2 at *
   obtain ⟨i,m,fq,c,rd,n,s,e,ex⟩:=b
   unfold aC au at *
   simp only at *
   refine aj (QL ..) ?_
   cases r with
   | none=>simp [okD] at ha; simp [jG,ha,WT]
   | some a =>
     simp [okD] at ha
     simp only
     by_cases h1:(a:Int)<day
     ·simp [jG,ha,h1,WT]
     ·by_cases h2:(a:Int)=day
      ·subst h2
       simp [jG,ha,WT]
      ·rcases hn with hn | hn
       ·simp at hn
        simp [jG,ha,h1,h2,e1,hn]
       ·have := hlast hn; simp at this
theorem ae' {b:ay} (hm:months b≠0) (day:Int):L.call uP [aC b,.int .i64 day]=some (.int .i64 (WT (BL b day))):=by
 have hl:=(ak_ hm (day:=day) 3602 0 rfl).resolve_right (by decide)
 change L.loop [1,2,5] [4] jc 1 [.int .i64 day,.loc 0 0,.int .i64 0] [.live (au b)]=some (.ret,[.int .i64 (WT (BL b day))],[.live (au b)]) at hl
 generalize WT (BL b day)=r at *
 obtain ⟨i,m,fq,c,rd,n,s,e,ex⟩:=b
 unfold aC au at *
 simp only at *
 refine ak (VK ..) ?_
 simp [IG,hl]
theorem Vs {b:ay} (hm:months b≠0) (day:Int):L.call kS [aC b,.int .i64 day]=some (okD (quasi b day)):=by
 have hp:=ae' hm day
 have hps:=fun {j} => @Kt b day 3602 0 j
 have han:=fun k (hk:k≤100000)=>uO b (k:=k) hk
 unfold quasi
 unfold BL at *
 generalize sQ b day 3602 0=r at *
 cases r with
 | none =>
   obtain ⟨i,m,fq,c,rd,n,s,e,ex⟩:=b
   unfold aC au at *
   simp only at *
   simp [WT] at hp
   refine ak (Gx ..) ?_
   simp [lU,hp,okD]
 | some k =>
   have hk:=(hps rfl).1
   have ha:=han (k+1) (by omega)
   have e1:IntKind.i64.wrap ((k:Int)+1)=((k+1:Nat):Int):=by rw [wrap64 _ (by omega)]; omega
   have hk0:¬ (k:Int)<0:=by omega
   show L.call kS [aC b,.int .i64 day]=some (okD (if day≤b.issue then none else anch b (k+1)))
   generalize anch b (k+1)=r2 at *
   obtain ⟨i,m,fq,c,rd,n,s,e,ex⟩:=b
   unfold aC au at *
   simp only at *
   simp [WT] at hp
   refine ak (Gx ..) ?_
   by_cases hd:day≤i
   ·simp [lU,hp,hk0,hd,okD]
   ·cases r2 with
    | none=>simp [okD] at ha; simp [lU,hp,hk0,hd,e1,ha,okD]
    | some a=>simp [okD] at ha; simp [lU,hp,hk0,hd,e1,ha,okD]
theorem Qi {b:ay} (hchk:chk b=none) (p:Int×Int):L.call qJ [aC b,pD p]=some (.bool (regular b p)):=by
 have hq:=Vs (bW hchk).2.1 p.2
 obtain ⟨p1,p2⟩:=p
 unfold regular pD
 rw [hchk]
 simp only at hq ⊢
 generalize quasi b p2=q at *
 obtain ⟨i,m,fq,c,rd,n,s,e,ex⟩:=b
 unfold aC au at *
 refine ak (TD ..) ?_
 cases q with
 | none=>simp [okD] at hq; simp [vX,hq]
 | some a=>simp [okD] at hq; simp [vX,hq]
theorem ajB {k a b:Int} (h1:1≤k) (h2:k≤4) (ha:aK a) (hb:aK b):L.call yL [.int .i64 k,.int .i64 a,.int .i64 b]=some (.int .i64 (dH k a b)):=by
 have i1:=jA a
 have i2:=jA b
 rw [decide_eq_true ha] at i1
 rw [decide_eq_true hb] at i2
 have n1:¬ k<1:=by omega
 have n2:¬ 4<k:=by omega
 unfold dH
 by_cases hk:k=1
 ·subst hk
  rw [if_pos rfl]
  obtain ⟨y,m,d,hc,rfl,o1⟩:=cZ ha
  obtain ⟨y',m',d',hc',rfl,o2⟩:=cZ hb
  have c1:=uy hc
  have c2:=uy hc'
  have e:Pn (dayOf y m d:Nat) (dayOf y' m' d':Nat)=360*((y':Int)-y)+30*((m':Int)-m)+min (d':Int) 30-min (d:Int) 30:=by
   unfold Pn
   rw [o1,o2]
  rw [e]
  have b1:=hc.y1; have b2:=hc.y2; have b3:=hc.m1; have b4:=hc.m2; have b5:=hc.d1; have b6:=hc.d2; have b7:=rQ y m
  have b1':=hc'.y1; have b2':=hc'.y2; have b3':=hc'.m1; have b4':=hc'.m2; have b5':=hc'.d1; have b6':=hc'.d2; have b7':=rQ y' m'
  have w1:IntKind.i64.wrap ((y':Int)-y)=(y':Int)-y:=wrap64 _ (by omega)
  have w2:IntKind.i64.wrap (360*((y':Int)-y))=360*((y':Int)-y):=wrap64 _ (by omega)
  have w3:IntKind.i64.wrap ((m':Int)-m)=(m':Int)-m:=wrap64 _ (by omega)
  have w4:IntKind.i64.wrap (30*((m':Int)-m))=30*((m':Int)-m):=wrap64 _ (by omega)
  have w5:IntKind.i64.wrap (360*((y':Int)-y)+30*((m':Int)-m))=360*((y':Int)-y)+30*((m':Int)-m):=wrap64 _ (by omega)
  have w6:IntKind.i64.wrap (360*((y':Int)-y)+30*((m':Int)-m)+min (d':Int) 30)=360*((y':Int)-y)+30*((m':Int)-m)+min (d':Int) 30:=wrap64 _ (by omega)
  have w7:IntKind.i64.wrap (360*((y':Int)-y)+30*((m':Int)-m)+min (d':Int) 30-min (d:Int) 30)=360*((y':Int)-y)+30*((m':Int)-m)+min (d':Int) 30-min (d:Int) 30:=wrap64 _ (by omega)
  unfold jI at c1 c2
  clear e o1 o2 ha hb
  generalize ((dayOf y m d:Nat):Int)=A at *
  generalize ((dayOf y' m' d':Nat):Int)=B at *
  refine ak (KF ..) ?_
  simp [BZ,i1,i2,c1,c2,w1,w2,w3,w4,w5,w6,w7,bC]
 ·rw [if_neg hk]
  have w:IntKind.i64.wrap (b-a)=b-a:=wrap64 _ (by omega)
  refine ak (KF ..) ?_
  simp [BZ,i1,i2,n1,n2,hk,w]
theorem ajD {k a b:Int} (h1:1≤k) (h2:k≤3) (ha:aK a) (hb:aK b) (hab:a≤b) :
  L.call yO [.int .i64 k,.int .i64 a,.int .i64 b,.int .i64 0,.int .i64 0,.int .i64 0]=some (.aH [iY (dH k a b) (if k=3 then 365 else 360),.int .i64 0]):=by
 have i1:=jA a
 have i2:=jA b
 rw [decide_eq_true ha] at i1
 rw [decide_eq_true hb] at i2
 have n1:¬ k<1:=by omega
 have n2:¬ 4<k:=by omega
 have n3:¬ k=4:=by omega
 have n4:¬ b<a:=by omega
 have hbd:=GX (k:=k) ha hb
 by_cases hk:k=3
 ·have hf:=Ih (n:=b-a) (d:=365) (by omega) (by omega)
  have hv:dH k a b=b-a:=by unfold dH; rw [if_neg (by omega)]
  rw [hv,if_pos hk]
  have w:IntKind.i64.wrap (b-a)=b-a:=wrap64 _ (by omega)
  rw [show (365:Int).natAbs=365 from rfl] at hf
  unfold iY qC at *
  simp only [n9,aQ] at *
  generalize hz:b-a=z at *
  generalize decide (z<0)=b0 at *
  generalize (aA z.natAbs).length=N1 at *
  generalize (aA z.natAbs).map ah=l1 at *
  generalize (aA 365).length=N2 at *
  generalize (aA 365).map ah=l2 at *
  refine ak (KG ..) ?_
  simp [Cb,i1,i2,n1,n2,n3,n4,hk,hz,w,hf,bC]
 ·have hd:=ajB h1 (by omega:k≤4) ha hb
  have hf:=Ih (n:=dH k a b) (d:=360) (by omega) (by omega)
  rw [if_neg hk]
  rw [show (360:Int).natAbs=360 from rfl] at hf
  generalize dH k a b=z at *
  unfold iY qC at *
  simp only [n9,aQ] at *
  generalize decide (z<0)=b0 at *
  generalize (aA z.natAbs).length=N1 at *
  generalize (aA z.natAbs).map ah=l1 at *
  generalize (aA 360).length=N2 at *
  generalize (aA 360).map ah=l2 at *
  refine ak (KG ..) ?_
  simp [Cb,i1,i2,n1,n2,n3,n4,hk,hd,hf,bC]
end Go.Ev.Code
end
section
namespace Go.Ev.Code
open Go Go.Ev
theorem ad3 (each red:Rat):∀ (k:Nat) (l:List (Int×Int)),k<l.length→(kC each red l).drop k=kC each red (l.drop k)
 | 0,l,_=>rfl
 | k+1,[],h=>by simp at h
 | k+1,[p],h=>by simp at h
 | k+1,p::q::r,h=>by
   simp only [kC,List.drop_succ_cons]
   exact ad3 each red k (q::r) (by simpa using h)
end Go.Ev.Code
end
section
namespace Go.Ev.Code
open Go Go.Ev
end Go.Ev.Code
end
section
namespace Go.Ev.Code
open Go Go.Ev
theorem amU {b:ay} (hchk:chk b=none) {p:Int×Int} (d1:aK p.1) (d2:aK p.2) (hlt:p.1<p.2) (hreg:regular b p=true) (hc:b.count=4) {a:Rat} (h:jy b p p.1 p.2 = .ok a):a=Rat.divInt 1 b.bK:=by
 have hf:=fV (bW hchk).2.1
 unfold regular at hreg
 rw [hchk] at hreg
 simp only at hreg
 obtain ⟨f,hfu⟩:∃ f,(p.2-p.1).toNat=f+1:=⟨(p.2-p.1).toNat-1,by omega⟩
 have hq:mJ b p=some [(p.1,p.2)]:=by
  unfold mJ
  rw [hfu]
  simp only [fB]
  rw [if_neg (by omega)]
  cases hqe:quasi b p.2 with
  | none=>rw [hqe] at hreg; simp at hreg
  | some x =>
    rw [hqe] at hreg
    simp at hreg
    simp only [hreg]
    cases f with
    | zero=>simp [fB]
    | succ f=>simp [fB]
 unfold jy at h
 rw [if_pos hc,hq] at h
 simp only at h
 rw [if_neg (by omega)] at h
 simp at h
 subst h
 simp only [sumF,sU]
 have e:max (min p.2 p.2-max p.1 p.1) 0=p.2-p.1:=by omega
 rw [e]
 have hne:((p.2-p.1:Int):Rat)≠0:=by
  intro h0
  have := Rat.intCast_eq_zero_iff.1 h0
  omega
 have hfn:((b.bK:Int):Rat)≠0:=by
  intro h0
  have := Rat.intCast_eq_zero_iff.1 h0
  rcases hf with h | h | h | h <;> omega
 simp only [Rat.divInt_eq_div,Rat.intCast_mul]
 generalize ((p.2-p.1:Int):Rat)=w at *
 generalize ((b.bK:Int):Rat)=v at *
 have h0:((0:Int):Rat)=0:=rfl
 have h1:((1:Int):Rat)=1:=rfl
 first | rw [h0,h1] | rw [h1]
 grind
end Go.Ev.Code
end
section
namespace Go.Ev.Code
open Go Go.Ev
theorem atU {n1 n2:Int} {d1 d2:Nat} (h1:0<d1) (h2:0<d2):Rat.divInt (n1*d2+n2*d1) ((d1*d2:Nat):Int)=Rat.divInt n1 d1+Rat.divInt n2 d2:=by
 have e1:((d1:Nat):Rat)≠0:=fun h=>by rw [← Rat.intCast_natCast] at h; have := Rat.intCast_eq_zero_iff.1 h; omega
 have e2:((d2:Nat):Rat)≠0:=fun h=>by rw [← Rat.intCast_natCast] at h; have := Rat.intCast_eq_zero_iff.1 h; omega
 rw [Rat.divInt_eq_div,Rat.divInt_eq_div,Rat.divInt_eq_div,Rat.intCast_add,Rat.intCast_mul,Rat.intCast_mul,Rat.intCast_natCast,Rat.intCast_natCast,Rat.intCast_natCast,Rat.natCast_mul]
 generalize (n1:Rat)=a at *
 generalize (n2:Rat)=b at *
 generalize (d1:Rat)=c at *
 generalize (d2:Rat)=d at *
 grind
theorem aqF {n1 n2:Int} {d1 d2:Nat} (h1:0<d1) (h2:0<d2):Rat.divInt (n1*n2) ((d1*d2:Nat):Int)=Rat.divInt n1 d1*Rat.divInt n2 d2:=by
 have e1:((d1:Nat):Rat)≠0:=fun h=>by rw [← Rat.intCast_natCast] at h; have := Rat.intCast_eq_zero_iff.1 h; omega
 have e2:((d2:Nat):Rat)≠0:=fun h=>by rw [← Rat.intCast_natCast] at h; have := Rat.intCast_eq_zero_iff.1 h; omega
 rw [Rat.divInt_eq_div,Rat.divInt_eq_div,Rat.divInt_eq_div,Rat.intCast_mul,Rat.intCast_natCast,Rat.intCast_natCast,Rat.intCast_natCast,Rat.natCast_mul]
 generalize (n1:Rat)=a at *
 generalize (n2:Rat)=b at *
 generalize (d1:Rat)=c at *
 generalize (d2:Rat)=d at *
 grind
structure Wo (k:Nat) (n:Int) (d:Nat) (q:Rat):Prop where
 qb:QB k n d
 pos:0<d
 val:Rat.divInt n d=q
theorem Wo.sum {j k:Nat} {n1 n2:Int} {d1 d2:Nat} {q r:Rat} (a:Wo j n1 d1 q) (b:Wo k n2 d2 r):Wo (j+k+1) (n1*d2+n2*d1) (d1*d2) (q+r) :=
 ⟨a.qb.sum b.qb,Nat.mul_pos a.pos b.pos,by rw [atU a.pos b.pos,a.val,b.val]⟩
theorem Wo.prod {j k:Nat} {n1 n2:Int} {d1 d2:Nat} {q r:Rat} (a:Wo j n1 d1 q) (b:Wo k n2 d2 r):Wo (j+k) (n1*n2) (d1*d2) (q*r) :=
 ⟨a.qb.prod b.qb,Nat.mul_pos a.pos b.pos,by rw [aqF a.pos b.pos,a.val,b.val]⟩
theorem Wo.mono {j k:Nat} {n:Int} {d:Nat} {q:Rat} (a:Wo j n d q) (h:j≤k):Wo k n d q:=⟨a.qb.mono h,a.pos,a.val⟩
theorem Wo.auK {n d:Int} (hn : -9223372036854775808≤n∧n≤9223372036854775807) (hd:0<d∧d≤9223372036854775807):Wo 64 n d.natAbs (Rat.divInt n d) :=
 ⟨⟨iT hn,by have := iT (n:=d) (by omega); exact this⟩,by omega,by congr 1; omega⟩
theorem Vr (n:Int) (d k j:Nat):(qC n d).all (D.clo k (j+1))=true:=rfl
theorem aju (n:Int) (d:Nat):(qC n d).length=3:=rfl
theorem alL (n:Int) (d:Nat):(qC n d).take 3=qC n d:=rfl
theorem aoP {f x y:Int} {q:Int×Int} (h:¬ 0<min y q.2-max x q.1):sU f x y q=0:=by
 unfold sU
 rw [show max (min y q.2-max x q.1) 0=0 by omega]
 exact divInt_zero _
set_option maxHeartbeats 1000000 in
theorem ana {b:ay} (hchk:chk b=none) {p1 p2 x y:Int} (hx:aK x) (hy:aK y):∀ (f:Nat) (e:Int) (n:Int) (d k:Nat) (q:Rat),(e-p1).toNat≤f→aK e→Wo k n d q→k+80*f≤9500000 →
  (∀ l,fB b p1 f e=some l→∃ n' d',Wo (k+65*l.length) n' d' (sumF b.bK x y q l)∧L.loop [2,3,4,5,8,12,13] [8,9,12] dW 4 [.int .i64 x,.int .i64 y,.loc 0 0,.loc 1 0,.loc 2 0,.loc 3 0,.int .i64 e] [.live (au b),.live [.int .i64 p1,.int .i64 p2],.live qZ,.live (qC n d)] =
   some (.exit 0,[.loc 2 0,.undef,.loc 3 0],[.live (au b),.live [.int .i64 p1,.int .i64 p2],.live qZ,.live (qC n' d')])) ∧
  (fB b p1 f e=none→∃ n' d' n2 d2,(0<d'∧QB 9600000 n' d')∧L.loop [2,3,4,5,8,12,13] [8,9,12] dW 4 [.int .i64 x,.int .i64 y,.loc 0 0,.loc 1 0,.loc 2 0,.loc 3 0,.int .i64 e] [.live (au b),.live [.int .i64 p1,.int .i64 p2],.live qZ,.live (qC n d)] =
   some (.ret,[.loc 2 0,.bool false,.loc 3 0],[.live (au b),.live [.int .i64 p1,.int .i64 p2],.live (qC n' d'),.live (qC n2 d2)])):=by
 have hm:=(bW hchk).2.1
 have hf:=fV hm
 have hbc:=jL b 4
 have hbl:=mg b
 have hbd:=kK b 0 10
 intro f
 induction f with
 | zero =>
   intro e n d k q hfu he hw hk
   have hep:¬ p1<e:=by omega
   simp only [fB]
   refine ⟨fun l hl=>?_,fun h=>by simp at h⟩
   simp at hl
   subst hl
   refine ⟨n,d,by simpa [sumF] using hw,?_⟩
   have hqc:=Vr n d 4 11
   unfold qZ
   generalize qC n d=qc at *
   generalize au b=B at *
   refine aj (jS ..) ?_
   simp [iM,hep,hbc,hqc]
 | succ f ih =>
   intro e n d k q hfu he hw hk
   simp only [fB]
   by_cases hep:e≤p1
   ·rw [if_pos hep]
    have hep':¬ p1<e:=by omega
    refine ⟨fun l hl=>?_,fun h=>by simp at h⟩
    simp at hl
    subst hl
    refine ⟨n,d,by simpa [sumF] using hw,?_⟩
    have hqc:=Vr n d 4 11
    unfold qZ
    generalize qC n d=qc at *
    generalize au b=B at *
    refine aj (jS ..) ?_
    simp [iM,hep',hbc,hqc]
   ·rw [if_neg hep]
    have hep':p1<e:=by omega
    have hq:=Vs hm e
    cases hqe:quasi b e with
    | none =>
      simp only
      rw [hqe] at hq
      simp [okD] at hq
      refine ⟨fun l hl=>by simp at hl,fun _=>⟨n,d,n,d,⟨hw.pos,hw.qb.mono (by omega)⟩,?_⟩⟩
      have hqc:=Vr n d 4 11
      have hql:=aju n d
      have hqt:=alL n d
      unfold aC at hq
      unfold qZ
      have hqx:∃ a0 a1 a2,qC n d=[a0,a1,a2]:=⟨_,_,_,rfl⟩
      obtain ⟨a0,a1,a2,hqx⟩:=hqx
      rw [hqx] at hqc ⊢
      generalize au b=B at *
      have htk:B.take 9=B:=List.take_of_length_le (by omega)
      refine aj (jS ..) ?_
      simp at hqc
      simp [iM,hep',hbc,hbl,hbd,htk,hq,hqc,bC]
    | some a =>
      simp only
      rw [hqe] at hq
      simp [okD] at hq
      have hlt:=Qg hm hqe
      obtain ⟨t1,t2,t3⟩:=hlt
      have hfr:1≤b.bK∧b.bK≤12:=by rcases hf with h | h | h | h <;> omega
      have hmul:1≤b.bK*(e-a)∧b.bK*(e-a)≤2400000:=hf.mul (by omega) (by omega)
      have e1:IntKind.i64.wrap (min y e-max x a)=min y e-max x a:=wrap64 _ (by omega)
      have e2:IntKind.i64.wrap (e-a)=e-a:=wrap64 _ (by omega)
      have e3:IntKind.i64.wrap (b.bK*(e-a))=b.bK*(e-a):=wrap64 _ (by omega)
      have hfget:(au b)[2]?=some (.int .i64 b.bK):=rfl
      have hqc:=Vr n d 4 11
      have hql:=aju n d
      have hqt:=alL n d
      have hqc0:=Vr n d 0 10
      by_cases hd0:0<min y e-max x a
      ·
       have hw2:=Wo.auK (n:=min y e-max x a) (d:=b.bK*(e-a)) (by omega) (by omega)
       have hfr2:=Ih (n:=min y e-max x a) (d:=b.bK*(e-a)) (by omega) (by omega)
       have hsm:=Ut hw.qb hw2.qb (by omega)
       have hws:=(hw.sum hw2).mono (k:=k+65) (by omega)
       have hqv:sU b.bK x y ((a:Int),e)=Rat.divInt (min y e-max x a) (b.bK*(e-a)):=by
        unfold sU
        rw [show max (min y e-max x (a:Int)) 0=min y e-max x a by omega]
       rw [← hqv] at hws
       have hn:=ih a _ _ (k+65) _ (by omega) t2 hws (by omega)
       have step:∀ R,L.loop [2,3,4,5,8,12,13] [8,9,12] dW 4 [.int .i64 x,.int .i64 y,.loc 0 0,.loc 1 0,.loc 2 0,.loc 3 0,.int .i64 a] [.live (au b),.live [.int .i64 p1,.int .i64 p2],.live qZ,.live (qC (n*((b.bK*(e-a)).natAbs:Nat)+(min y e-max x a)*d) (d*(b.bK*(e-a)).natAbs))]=some R →
         L.loop [2,3,4,5,8,12,13] [8,9,12] dW 4 [.int .i64 x,.int .i64 y,.loc 0 0,.loc 1 0,.loc 2 0,.loc 3 0,.int .i64 e] [.live (au b),.live [.int .i64 p1,.int .i64 p2],.live qZ,.live (qC n d)]=some R:=by
        intro R hR
        clear hn ih hw hw2 hws hqv hmul
        have hqx2:∃ c0 c1 c2,qC (n*((b.bK*(e-a)).natAbs:Nat)+(min y e-max x a)*d) (d*(b.bK*(e-a)).natAbs)=[c0,c1,c2]∧D.clo 4 12 c0=true∧D.clo 4 12 c1=true∧D.clo 4 12 c2=true:=⟨_,_,_,rfl,rfl,rfl,rfl⟩
        have hqx3:∃ c0 c1 c2,qC (min y e-max x a) (b.bK*(e-a)).natAbs=[c0,c1,c2]∧D.clo 0 11 c0=true∧D.clo 0 11 c1=true∧D.clo 0 11 c2=true:=⟨_,_,_,rfl,rfl,rfl,rfl⟩
        have hqx:∃ a0 a1 a2,qC n d=[a0,a1,a2]∧D.clo 0 11 a0=true∧D.clo 0 11 a1=true∧D.clo 0 11 a2=true:=⟨_,_,_,rfl,rfl,rfl,rfl⟩
        unfold iY at hfr2 hsm
        obtain ⟨c0,c1,c2,h5,h6,h7,h8⟩:=hqx2
        rw [h5] at hR hsm
        obtain ⟨g0,g1,g2,k5,k6,k7,k8⟩:=hqx3
        rw [k5] at hfr2 hsm
        obtain ⟨a0,a1,a2,hqx,z0,z1,z2⟩:=hqx
        rw [hqx] at hqc hsm ⊢
        unfold aC at hq
        unfold qZ at *
        generalize au b=B at *
        have htk:B.take 9=B:=List.take_of_length_le (by omega)
        have hlen2:2<B.length:=by omega
        have hBg:∀ p:2<B.length,B[2] = .int .i64 b.bK:=fun p=>by simpa using (List.getElem?_eq_some_iff.1 hfget).2
        generalize hfm:b.bK*(e-(a:Int))=fm at *
        generalize hmm:min y e-max x (a:Int)=dd at *
        refine aj (jS ..) ?_
        simp at hqc hR
        simp [iM,hep',hbc,hbl,hbd,htk,hq,hqc,hmm,hfm,e1,e2,e3,hd0,hfget,hlen2,hBg,hfr2,hsm,z0,z1,z2,k6,k7,k8,h6,h7,h8,bC,hR]
       refine ⟨fun l hl=>?_,fun h=>?_⟩
       ·cases hl2:fB b p1 f a with
        | none=>rw [hl2] at hl; simp at hl
        | some r =>
          rw [hl2] at hl
          simp at hl
          subst hl
          obtain ⟨n',d',g1,g2⟩:=hn.1 r hl2
          refine ⟨n',d',?_,step _ g2⟩
          simp only [sumF,List.length_cons]
          exact g1.mono (by omega)
       ·cases hl2:fB b p1 f a with
        | some r=>rw [hl2] at h; simp at h
        | none =>
          obtain ⟨n',d',n2,d2,g1,g2⟩:=hn.2 hl2
          exact ⟨n',d',n2,d2,g1,step _ g2⟩
      ·have hqv:sU b.bK x y ((a:Int),e)=0:=aoP hd0
       have hn:=ih a n d k q (by omega) t2 hw (by omega)
       have step:∀ R,L.loop [2,3,4,5,8,12,13] [8,9,12] dW 4 [.int .i64 x,.int .i64 y,.loc 0 0,.loc 1 0,.loc 2 0,.loc 3 0,.int .i64 a] [.live (au b),.live [.int .i64 p1,.int .i64 p2],.live qZ,.live (qC n d)]=some R →
         L.loop [2,3,4,5,8,12,13] [8,9,12] dW 4 [.int .i64 x,.int .i64 y,.loc 0 0,.loc 1 0,.loc 2 0,.loc 3 0,.int .i64 e] [.live (au b),.live [.int .i64 p1,.int .i64 p2],.live qZ,.live (qC n d)]=some R:=by
        intro R hR
        clear hn ih hw hqv hmul
        unfold aC at hq
        unfold qZ at *
        generalize qC n d=qc at *
        generalize au b=B at *
        have htk:B.take 9=B:=List.take_of_length_le (by omega)
        generalize hmm:min y e-max x (a:Int)=dd at *
        refine aj (jS ..) ?_
        try simp at hR
        simp [iM,hep',hbc,hbl,hbd,htk,hq,hqc,hmm,e1,hd0,hR]
       refine ⟨fun l hl=>?_,fun h=>?_⟩
       ·cases hl2:fB b p1 f a with
        | none=>rw [hl2] at hl; simp at hl
        | some r =>
          rw [hl2] at hl
          simp at hl
          subst hl
          obtain ⟨n',d',g1,g2⟩:=hn.1 r hl2
          refine ⟨n',d',?_,step _ g2⟩
          simp only [sumF,List.length_cons]
          rw [hqv,Rat.add_zero]
          exact g1.mono (by omega)
       ·cases hl2:fB b p1 f a with
        | some r=>rw [hl2] at h; simp at h
        | none =>
          obtain ⟨n',d',n2,d2,g1,g2⟩:=hn.2 hl2
          exact ⟨n',d',n2,d2,g1,step _ g2⟩
end Go.Ev.Code
end
section
namespace Go.Ev.Code
open Go Go.Ev
theorem jV (n:Int) (d:Nat):∃ c0 c1 c2,qC n d=[c0,c1,c2]∧∀ k j,D.clo k (j+1) c0=true∧D.clo k (j+1) c1=true∧D.clo k (j+1) c2=true∧∀ m,fz (j+1) c0 m=some (c0,m)∧fz (j+1) c1 m=some (c1,m)∧fz (j+1) c2 m=some (c2,m):=⟨_,_,_,rfl,fun k j=>⟨rfl,rfl,rfl,fun m=>⟨rfl,rfl,rfl⟩⟩⟩
theorem aub:Wo 64 0 1 (Rat.divInt 0 1):=⟨⟨iT (by omega),by unfold NB; decide⟩,by omega,rfl⟩
set_option maxHeartbeats 1000000 in
theorem aho {b:ay} (hchk:chk b=none) {p:Int×Int} (d1:aK p.1) (d2:aK p.2) (hlt:p.1<p.2) {x y:Int} (hx:p.1≤x) (hxy:x≤y) (hy:y≤p.2) {N:Nat} (hN:∀ l,mJ b p=some l→l.length≤N) (hN2:N≤3600) :
  (∀ q,jy b p x y = .ok q→∃ n d,Wo (64+65*N) n d q∧L.call qj [aC b,pD p,.int .i64 x,.int .i64 y]=some (.aH [iY n d,.bool true])) ∧
  (∀ c,jy b p x y = .error c→c=4∧∃ n d,QB 9600000 n d∧L.call qj [aC b,pD p,.int .i64 x,.int .i64 y]=some (.aH [iY n d,.bool false])):=by
 have hcnt:=afG hchk
 have h0:=ES (n:=0) (by omega)
 have dx:aK x:=⟨by omega,by omega⟩
 have dy:aK y:=⟨by omega,by omega⟩
 have hin:¬ (x<p.1∨y<x∨p.2<y):=by omega
 have hbc:=jL b 4
 unfold jy
 by_cases hc:b.count=4
 ·have hz:=ana hchk (p1:=p.1) (p2:=p.2) dx dy (p.2-p.1).toNat p.2 0 1 64 (Rat.divInt 0 1) (Nat.le_refl _) d2 aub (by omega)
  simp only [if_pos hc]
  cases hq:mJ b p with
  | none =>
    obtain ⟨n',d',n2,d2',g,hl⟩:=hz.2 hq
    refine ⟨fun q h=>by simp at h,fun c h=>?_⟩
    simp at h
    refine ⟨h.symm,n',d',g.2,?_⟩
    obtain ⟨a0,a1,a2,ha,hcl⟩:=jV n' d'
    obtain ⟨e0,e1,e2,he,hcl2⟩:=jV 0 1
    unfold qZ iY pD at *
    rw [he] at h0 hl
    rw [ha] at hl ⊢
    have hcl2:=hcl2 0 10
    have hfz:=(hcl 0 9).2.2.2
    have hfz2:=(hcl 0 10).2.2.2
    have hcl:=hcl 0 10
    clear hz hq
    obtain ⟨p1,p2⟩:=p
    generalize qC n2 d2'=z2 at *
    obtain ⟨i,m,fq,cc,rd,n,s,e,ex⟩:=b
    unfold aC au at *
    simp only at *
    subst hc
    refine ak (zZ ..) ?_
    simp [tV,h0,hl,hcl,hcl2,hfz,hfz2,bC]
  | some l =>
    obtain ⟨n',d',g,hl⟩:=hz.1 l hq
    have hlen:=hN l hq
    simp only
    rw [if_neg hin]
    refine ⟨fun q h=>?_,fun c h=>by simp at h⟩
    simp at h
    subst h
    refine ⟨n',d',g.mono (by omega),?_⟩
    obtain ⟨a0,a1,a2,ha,hcl⟩:=jV n' d'
    obtain ⟨e0,e1,e2,he,hcl2⟩:=jV 0 1
    unfold qZ iY pD at *
    rw [he] at h0 hl
    rw [ha] at hl ⊢
    have hcl2:=hcl2 0 10
    have hfz:=(hcl 0 9).2.2.2
    have hfz2:=(hcl 0 10).2.2.2
    have hcl:=hcl 0 10
    clear hz hq g
    obtain ⟨p1,p2⟩:=p
    obtain ⟨i,m,fq,cc,rd,n,s,e,ex⟩:=b
    unfold aC au at *
    simp only at *
    subst hc
    refine ak (zZ ..) ?_
    simp [tV,h0,hl,hcl,hcl2,hfz,hfz2,bC]
 ·simp only [if_neg hc]
  rw [if_neg hin]
  refine ⟨fun q h=>?_,fun c h=>by simp at h⟩
  simp at h
  subst h
  have hp:=ajD (k:=b.count) (a:=x) (b:=y) (by omega) (by omega) dx dy hxy
  have hbd:=GX (k:=b.count) dx dy
  refine ⟨dH b.count x y,if b.count=3 then 365 else 360,?_,?_⟩
  ·refine ⟨⟨(iT (by omega)).mono (by omega),?_⟩,by split <;> omega,?_⟩
   ·refine NB.mono (j:=64) ?_ (by omega)
    unfold NB
    split <;> decide
   ·unfold EM
    split <;> rfl
  ·generalize dH b.count x y=z at *
   generalize (if b.count=3 then 365 else 360)=w at *
   obtain ⟨a0,a1,a2,ha,hcl⟩:=jV z w
   unfold iY pD at *
   rw [ha] at hp ⊢
   have hfz:=(hcl 0 9).2.2.2
   have hfz2:=(hcl 0 10).2.2.2
   have hcl:=hcl 0 10
   obtain ⟨p1,p2⟩:=p
   obtain ⟨i,m,fq,cc,rd,n,s,e,ex⟩:=b
   unfold aC au at *
   simp only at *
   refine ak (zZ ..) ?_
   simp [tV,hc,hp,hcl,hfz,hfz2,bC]
theorem an1 {b:ay} (hchk:chk b=none):LJ b.bM 0 30 true=0∧LJ b.dh 0 200 false=0:=by
 have h1:=(bW hchk).2.2
 rw [afl] at h1
 by_cases c1:LJ b.bM 0 30 true=0
 ·rw [if_neg (fun h=>h c1)] at h1
  by_cases c2:LJ b.dh 0 200 false=0
  ·exact ⟨c1,c2⟩
  ·rw [if_pos c2] at h1; simp at h1
 ·rw [if_pos c1] at h1; simp at h1
theorem arM {s:List UInt8} {lo hi:Int} {fr:Bool} (h:LJ s lo hi fr=0):∃ p,tJ s=some (Rat.divInt (wiN s lo hi fr) (wiM s lo hi fr),p)∧Wo 300 (wiN s lo hi fr) (wiM s lo hi fr) (Rat.divInt (wiN s lo hi fr) (wiM s lo hi fr)):=by
 have hq := @alz s
 rw [abw]
 unfold wiN wiM
 rw [if_pos h,if_pos h]
 unfold LJ at h
 cases hg:Fe s with
 | none=>rw [hg] at h; simp at h
 | some np =>
   obtain ⟨n,p⟩:=np
   exact ⟨p,rfl,⟨(hq hg).1,Nat.pow_pos (by decide),rfl⟩⟩
theorem ad1 {b:ay} (hchk:chk b=none) (hc:b.bM.length≤1000):∃ n d,Wo 300 n d (RP b)∧L.call tK [aC b]=some (iY n d):=by
 obtain ⟨h1,h2⟩:=an1 hchk
 obtain ⟨p,g1,g2⟩:=arM h1
 have hw:=AA hc (lo:=0) (hi:=30) (by omega) (by omega) true
 rw [aj2,h1] at hw
 have hv:RP b=Rat.divInt (wiN b.bM 0 30 true) (wiM b.bM 0 30 true):=by
  unfold RP
  rw [hchk,g1]
 refine ⟨_,_,by rw [hv]; exact g2,?_⟩
 clear hv g1 g2
 obtain ⟨a0,a1,a2,ha,hcl⟩:=jV (wiN b.bM 0 30 true) (wiM b.bM 0 30 true)
 unfold iY at *
 rw [ha] at hw ⊢
 have hfz:=(hcl 0 9).2.2.2
 have hfz2:=(hcl 0 10).2.2.2
 have hcl:=hcl 0 10
 obtain ⟨i,m,fq,cc,rd,n,s,e,ex⟩:=b
 unfold aC au at *
 simp only at *
 refine ak (UQ ..) ?_
 simp [Gl,hw,hcl,hfz,hfz2,bC]
theorem Tc {b:ay} (hchk:chk b=none) (hc:b.dh.length≤1000):∃ n d,Wo 300 n d (jg b)∧L.call mY [aC b]=some (iY n d):=by
 obtain ⟨h1,h2⟩:=an1 hchk
 obtain ⟨p,g1,g2⟩:=arM h2
 have hw:=AA hc (lo:=0) (hi:=200) (by omega) (by omega) false
 rw [aj2,h2] at hw
 have hv:jg b=Rat.divInt (wiN b.dh 0 200 false) (wiM b.dh 0 200 false):=by
  unfold jg
  rw [hchk,g1]
 refine ⟨_,_,by rw [hv]; exact g2,?_⟩
 clear hv g1 g2
 obtain ⟨a0,a1,a2,ha,hcl⟩:=jV (wiN b.dh 0 200 false) (wiM b.dh 0 200 false)
 unfold iY at *
 rw [ha] at hw ⊢
 have hfz:=(hcl 0 9).2.2.2
 have hfz2:=(hcl 0 10).2.2.2
 have hcl:=hcl 0 10
 obtain ⟨i,m,fq,cc,rd,n,s,e,ex⟩:=b
 unfold aC au at *
 simp only at *
 refine ak (UU ..) ?_
 simp [Gm,hw,hcl,hfz,hfz2,bC]
set_option maxHeartbeats 1000000 in
theorem ZF {b:ay} (hchk:chk b=none) (hc:b.bM.length≤1000) {p:Int×Int} (d1:aK p.1) (d2:aK p.2) (hlt:p.1<p.2) {N:Nat} (hN:∀ l,mJ b p=some l→l.length≤N) (hN2:N≤3600) :
  (∀ q,oz b p = .ok q→∃ n d,Wo (400+65*N) n d q∧L.call kF [aC b,pD p]=some (.aH [iY n d,.bool true])) ∧
  (∀ c,oz b p = .error c→c=4∧∃ n d,QB 9601000 n d∧L.call kF [aC b,pD p]=some (.aH [iY n d,.bool false])):=by
 obtain ⟨cn,cd,wc,hcp⟩:=ad1 hchk hc
 have hrg:=Qi hchk p
 have hpt:=aho hchk d1 d2 hlt (x:=p.1) (y:=p.2) (Int.le_refl _) (by omega) (Int.le_refl _) hN hN2
 have hf:=fV (bW hchk).2.1
 have hfb:1≤b.bK∧b.bK≤12:=by rcases hf with h | h | h | h <;> omega
 have hfr:=Ih (n:=1) (d:=b.bK) (by omega) (by omega)
 have hfw:=Wo.auK (n:=1) (d:=b.bK) (by omega) (by omega)
 unfold oz
 by_cases hr:regular b p=true
 ·rw [if_pos hr]
  rw [hr] at hrg
  refine ⟨fun q h=>?_,fun c h=>by simp at h⟩
  simp at h
  subst h
  have hpr:=Qj wc.qb hfw.qb (by omega)
  refine ⟨_,_,(wc.prod hfw).mono (by omega),?_⟩
  obtain ⟨a0,a1,a2,ha,hcl⟩:=jV (cn*1) (cd*b.bK.natAbs)
  obtain ⟨b0,b1,b2,hb,hcl2⟩:=jV 1 b.bK.natAbs
  obtain ⟨c0,c1,c2,hc',hcl3⟩:=jV cn cd
  unfold iY pD at *
  rw [ha] at hpr ⊢
  rw [hb] at hpr hfr
  rw [hc'] at hpr hcp
  have hfz:=(hcl 0 9).2.2.2
  have hfz2:=(hcl 0 10).2.2.2
  have hcl:=hcl 0 10
  have hcl2:=hcl2 0 10
  have hcl3:=hcl3 0 10
  clear hpt wc hfw
  obtain ⟨p1,p2⟩:=p
  obtain ⟨i,m,fq,cc,rd,n,s,e,ex⟩:=b
  unfold aC au at *
  simp only at *
  refine ak (AU ..) ?_
  simp [uX,hrg,hcp,hfr,hpr,hcl,hcl2,hcl3,hfz,hfz2,bC]
 ·rw [if_neg hr]
  have hr0:regular b p=false:=by simpa using hr
  rw [hr0] at hrg
  cases hpb:jy b p p.1 p.2 with
  | ok v =>
    simp only
    refine ⟨fun q h=>?_,fun c h=>by simp at h⟩
    simp at h
    subst h
    obtain ⟨pn,pd,wp,hpc⟩:=hpt.1 v hpb
    have hpr:=Qj wc.qb wp.qb (by omega)
    refine ⟨_,_,(wc.prod wp).mono (by omega),?_⟩
    obtain ⟨a0,a1,a2,ha,hcl⟩:=jV (cn*pn) (cd*pd)
    obtain ⟨b0,b1,b2,hb,hcl2⟩:=jV pn pd
    obtain ⟨c0,c1,c2,hc',hcl3⟩:=jV cn cd
    unfold iY pD at *
    rw [ha] at hpr ⊢
    rw [hb] at hpr hpc
    rw [hc'] at hpr hcp
    have hfz:=(hcl 0 9).2.2.2
    have hfz2:=(hcl 0 10).2.2.2
    have hcl:=hcl 0 10
    have hcl2:=hcl2 0 10
    have hcl3:=hcl3 0 10
    clear hpt wc hfw hpb
    obtain ⟨p1,p2⟩:=p
    obtain ⟨i,m,fq,cc,rd,n,s,e,ex⟩:=b
    unfold aC au at *
    simp only at *
    refine ak (AU ..) ?_
    simp [uX,hrg,hcp,hpc,hpr,hcl,hcl2,hcl3,hfz,hfz2,bC]
  | error c' =>
    simp only
    refine ⟨fun q h=>by simp at h,fun c h=>?_⟩
    simp at h
    subst h
    obtain ⟨h4,pn,pd,wp,hpc⟩:=hpt.2 c' hpb
    have hpr:=Qj wc.qb wp (by omega)
    refine ⟨h4,_,_,(wc.qb.prod wp).mono (by omega),?_⟩
    obtain ⟨a0,a1,a2,ha,hcl⟩:=jV (cn*pn) (cd*pd)
    obtain ⟨b0,b1,b2,hb,hcl2⟩:=jV pn pd
    obtain ⟨c0,c1,c2,hc',hcl3⟩:=jV cn cd
    unfold iY pD at *
    rw [ha] at hpr ⊢
    rw [hb] at hpr hpc
    rw [hc'] at hpr hcp
    have hfz:=(hcl 0 9).2.2.2
    have hfz2:=(hcl 0 10).2.2.2
    have hcl:=hcl 0 10
    have hcl2:=hcl2 0 10
    have hcl3:=hcl3 0 10
    clear hpt wc hfw hpb
    obtain ⟨p1,p2⟩:=p
    obtain ⟨i,m,fq,cc,rd,n,s,e,ex⟩:=b
    unfold aC au at *
    simp only at *
    refine ak (AU ..) ?_
    simp [uX,hrg,hcp,hpc,hpr,hcl,hcl2,hcl3,hfz,hfz2,bC]
end Go.Ev.Code
end
section
namespace Go.Ev.Code
open Go Go.Ev
def lH:List (Int×Int×Nat)→List D
 | []=>[]
 | (d,n,m)::r => .int .i64 d::(qC n m++lH r)
theorem ap9 (l r:List (Int×Int×Nat)):lH (l++r)=lH l++lH r:=by
 induction l with
 | nil=>rfl
 | cons x xs ih=>obtain ⟨a,b,c⟩:=x; simp [lH,ih]
theorem aiG (l:List (Int×Int×Nat)):(lH l).length=l.length*4:=by
 induction l with
 | nil=>rfl
 | cons x xs ih=>obtain ⟨a,b,c⟩:=x; simp [lH,ih,aju]; omega
theorem abG (l:List (Int×Int×Nat)) (b n:Nat):(lH l).all (D.clo b (n+1))=true:=by
 induction l with
 | nil=>rfl
 | cons x xs ih =>
   obtain ⟨p,q,r⟩:=x
   have := Vr q r b n
   simp only [lH,List.all_cons,List.all_append,ih,this]
   rfl
theorem ap' (l:List (Int×Int×Nat)) (n:Nat) (m:Mem):iO (fz (n+1)) (lH l) m=some (lH l,m):=by
 induction l with
 | nil=>rfl
 | cons x xs ih =>
   obtain ⟨p,q,r⟩:=x
   obtain ⟨c0,c1,c2,h,hc⟩:=jV q r
   obtain ⟨_,_,_,hf⟩:=hc 0 n
   simp only [lH]
   rw [h]
   simp [hf,ih]
theorem QK (a b c d:D):zeros 1 [a,b,c,d]=[a,b,c,d]:=by rfl
def Z7 (acc:List (Int×Int×Nat)):D:=if acc=[] then .bJ else .aG 1 0 acc.length 4
def Z8 (acc:List (Int×Int×Nat)):Mem:=if acc=[] then [] else [.live (lH acc)]
set_option maxHeartbeats 4000000 in
theorem KA {b:ay} {ps pfx rest:List (Int×Int)} {p:Int×Int} {acc:List (Int×Int×Nat)} (hal:ps=pfx++p::rest) (hps:ps.length≤100000) (hl:acc.length=pfx.length) {n n1:Int} {d d1:Nat}
  (hp:L.call kF [aC b,pD p]=some (.aH [iY n d,.bool true]))
  (hcase:(rest≠[]∧n1=n∧d1=d)∨(rest=[]∧∃ rn rd,L.call mY [aC b]=some (iY rn rd)∧L.call o7 [iY n d,iY rn rd]=some (iY n1 d1))) {R:Ex×List D×Mem}
  (hR:L.loop [1,4,6,7] [2,3,6] dY 1 [.loc 0 0,cu ps,Z7 (acc++[(p.2,n1,d1)]),.int .i64 ((pfx.length+1:Nat):Int)] ([.live (au b)]++Z8 (acc++[(p.2,n1,d1)]))=some R) :
  L.loop [1,4,6,7] [2,3,6] dY 1 [.loc 0 0,cu ps,Z7 acc,.int .i64 pfx.length] ([.live (au b)]++Z8 acc)=some R:=by
 have hbc:=fun k j=>kK b k j
 have hbl:=mg b
 have hg:=sO (ps:=ps) (i:=pfx.length) (p:=p) (by rw [hal]; simp)
 have hlt:pfx.length<ps.length:=by rw [hal]; simp
 have hlast:(pfx.length:Int)=(ps.length:Int)-1↔rest=[]:=by
  have : ps.length=pfx.length+1+rest.length:=by rw [hal]; simp; omega
  constructor
  ·intro h; exact List.eq_nil_of_length_eq_zero (by omega)
  ·rintro rfl; simp at this; omega
 have e1:IntKind.i64.wrap ((pfx.length:Int)+1)=((pfx.length+1:Nat):Int):=by rw [wrap64 _ (by omega)]; omega
 have e2:IntKind.i64.wrap ((ps.length:Int)-1)=(ps.length:Int)-1:=wrap64 _ (by omega)
 have hne:¬ acc++[(p.2,n1,d1)]=[]:=by simp
 unfold Z7 Z8 at hR
 rw [if_neg hne,if_neg hne,ap9,List.length_append,List.length_singleton] at hR
 have hone:lH [(p.2,n1,d1)] = .int .i64 p.2::qC n1 d1:=by simp [lH]
 rw [hone] at hR
 obtain ⟨p1,p2⟩:=p
 unfold pD cu at *
 simp only at *
 obtain ⟨g1,g2,g3,g4⟩:=hg
 obtain ⟨a0,a1,a2,ha,hca⟩:=jV n d
 obtain ⟨c0,c1,c2,hc,hcc⟩:=jV n1 d1
 have hA:acc.length+1≤4294967296:=by omega
 have hfl:=aiG acc
 have hfc:=abG acc
 have htkf:(lH acc).take (acc.length*4)=lH acc:=List.take_of_length_le (by omega)
 have hnil:acc=[]→lH acc=[]:=fun h=>by rw [h]; rfl
 have hf1:=hfc 0 11
 have hf2:=hfc 1 11
 have hf3:=hfc 2 11
 have hf4:=hfc 3 11
 clear hfc
 have hb1:=hbc 0 10
 have hb2:=hbc 0 11
 have hb3:=hbc 1 11
 have hb4:=hbc 2 11
 have hb5:=hbc 3 11
 clear hbc
 have h1:=hca 0 10
 have h2:=hca 1 11
 have h3:=hca 2 11
 have h4:=hca 3 11
 have k1:=hcc 0 10
 have k2:=hcc 1 11
 have k3:=hcc 2 11
 have k4:=hcc 3 11
 clear hca hcc
 unfold aC iY at *
 rw [ha] at hp
 rw [hc] at hR
 generalize hFC:lH acc=fc at *
 generalize aS ps=pc at *
 generalize hB:au b=B at *
 have htk:B.take 9=B:=List.take_of_length_le (by omega)
 have hltI:(pfx.length:Int)<ps.length:=by omega
 unfold Z7 Z8
 rw [hFC]
 rcases hcase with ⟨hr,rfl,rfl⟩ | ⟨hr,rn,rd,hrd,hsm⟩
 ·have hi:¬ (pfx.length:Int)=(ps.length:Int)-1:=fun h=>hr (hlast.1 h)
  rw [ha] at hc
  simp at hc
  obtain ⟨rfl,rfl,rfl⟩:=hc
  clear hlast
  by_cases hac:acc=[]
  ·have hfc0:=hnil hac
   subst hfc0
   have hz:acc.length=0:=by rw [hac]; rfl
   rw [hz] at hR
   rw [if_pos hac,if_pos hac]
   generalize ps.length=N at *
   generalize pfx.length=P at *
   refine aj (iy ..) ?_
   simp at hR
   simp [fF,hlt,hltI,g1,g2,g3,g4,hp,htk,hbl,hb1,hb2,hb3,hb4,hb5,h1,h2,h3,h4,e1,e2,hi,bC,QK,hR]
  ·rw [if_neg hac,if_neg hac]
   generalize acc.length=A at *
   generalize ps.length=N at *
   generalize pfx.length=P at *
   refine aj (iy ..) ?_
   simp at hR
   simp [fF,hlt,hltI,g1,g2,g3,g4,hp,htk,hbl,hb1,hb2,hb3,hb4,hb5,h1,h2,h3,h4,e1,e2,hi,bC,QK,hf1,hf2,hf3,hf4,htkf,hfl,hA,kX,hR]
 ·have hi:=hlast.2 hr
  obtain ⟨r0,r1,r2,hrr,hcr⟩:=jV rn rd
  have j1:=hcr 0 10
  clear hcr
  rw [hrr] at hrd hsm
  rw [ha,hc] at hsm
  clear hlast
  by_cases hac:acc=[]
  ·have hfc0:=hnil hac
   subst hfc0
   have hz:acc.length=0:=by rw [hac]; rfl
   rw [hz] at hR
   rw [if_pos hac,if_pos hac]
   generalize ps.length=N at *
   generalize pfx.length=P at *
   have hi':(N:Int)-1=P:=by omega
   have e2':IntKind.i64.wrap (P:Int)=P:=wrap64 _ (by omega)
   refine aj (iy ..) ?_
   simp at hR
   simp [fF,hlt,hltI,g1,g2,g3,g4,hp,hrd,hsm,htk,hbl,hb1,hb2,hb3,hb4,hb5,h1,h2,h3,h4,j1,k1,k2,k3,k4,e1,e2,e2',hi',bC,QK,hR]
  ·rw [if_neg hac,if_neg hac]
   generalize acc.length=A at *
   generalize ps.length=N at *
   generalize pfx.length=P at *
   have hi':(N:Int)-1=P:=by omega
   have e2':IntKind.i64.wrap (P:Int)=P:=wrap64 _ (by omega)
   refine aj (iy ..) ?_
   simp at hR
   simp [fF,hlt,hltI,g1,g2,g3,g4,hp,hrd,hsm,htk,hbl,hb1,hb2,hb3,hb4,hb5,h1,h2,h3,h4,j1,k1,k2,k3,k4,e1,e2,e2',hi',bC,QK,hf1,hf2,hf3,hf4,htkf,hfl,hA,kX,hR]
def FlW (k:Nat):List (Int×Int×Nat)→List (Int×Rat)→Prop
 | [],[]=>True
 | w::ws,f::fs=>w.1=f.1∧Wo k w.2.1 w.2.2 f.2∧FlW k ws fs
 | _,_=>False
theorem FlW.len {k:Nat}:∀ {ws:List (Int×Int×Nat)} {fs:List (Int×Rat)},FlW k ws fs→ws.length=fs.length
 | [],[],_=>rfl
 | _::_,_::_,h=>by simp [FlW.len h.2.2]
 | [],_::_,h=>h.elim
 | _::_,[],h=>h.elim
theorem Kz {b:ay} (hchk:chk b=none) (hc:b.bM.length≤1000) (hr:b.dh.length≤1000) {ps:List (Int×Int)} (hps:ps.length≤100000):∀ (rest pfx:List (Int×Int)) (acc:List (Int×Int×Nat)),ps=pfx++rest→acc.length=pfx.length→acc≠[] →
  (∀ p∈rest,oz b p = .ok (ig b)∧aK p.1∧aK p.2∧p.1<p.2∧∀ l,mJ b p=some l→l.length≤2) →
  ∃ ws,FlW 840 ws (kC (ig b) (jg b) rest)∧L.loop [1,4,6,7] [2,3,6] dY 1 [.loc 0 0,cu ps,Z7 acc,.int .i64 pfx.length] ([.live (au b)]++Z8 acc) =
    some (.exit 0,[.undef,.undef,.aG 1 0 ps.length 4],[.live (au b),.live (lH (acc++ws))])
 | [],pfx,acc,hal,hl,hne,_=>by
   refine ⟨[],trivial,?_⟩
   rw [List.append_nil] at hal
   subst hal
   have hf1:=abG acc 1 11
   have hb1:=kK b 1 11
   unfold Z7 Z8 cu
   rw [if_neg hne,if_neg hne,hl,List.append_nil]
   generalize lH acc=fc at *
   generalize au b=B at *
   generalize aS ps=pc at *
   generalize ps.length=N at *
   refine aj (iy ..) ?_
   simp [fF,hf1,hb1]
 | p::rest,pfx,acc,hal,hl,hne,hall=>by
   obtain ⟨h1,h2,h3,h4,h5⟩:=hall p (by simp)
   obtain ⟨n,d,hw,hp⟩:=(ZF hchk hc h2 h3 h4 h5 (by omega)).1 _ h1
   obtain ⟨rn,rd,hwr,hrd⟩:=Tc hchk hr
   have hsm:=Ut hw.qb hwr.qb (by omega)
   have hall2:=fun q hq=>hall q (List.mem_cons_of_mem _ hq)
   by_cases hre:rest=[]
   ·obtain ⟨ws,g1,g2⟩:=Kz hchk hc hr hps rest (pfx++[p]) (acc++[(p.2,n*rd+rn*d,d*rd)]) (by rw [hal]; simp) (by simp [hl]) (by simp) hall2
    rw [List.length_append,List.length_singleton,List.append_assoc] at g2
    have hst:=KA hal hps hl hp (.inr ⟨hre,rn,rd,hrd,hsm⟩) g2
    refine ⟨(p.2,n*rd+rn*d,d*rd)::ws,?_,by simpa using hst⟩
    subst hre
    simp only [kC] at g1 ⊢
    exact ⟨rfl,(hw.sum hwr).mono (by omega),g1⟩
   ·obtain ⟨ws,g1,g2⟩:=Kz hchk hc hr hps rest (pfx++[p]) (acc++[(p.2,n,d)]) (by rw [hal]; simp) (by simp [hl]) (by simp) hall2
    rw [List.length_append,List.length_singleton,List.append_assoc] at g2
    have hst:=KA hal hps hl hp (.inl ⟨hre,rfl,rfl⟩) g2
    refine ⟨(p.2,n,d)::ws,?_,by simpa using hst⟩
    obtain ⟨q,r,rfl⟩:=List.exists_cons_of_ne_nil hre
    simp only [kC] at g1 ⊢
    exact ⟨rfl,hw.mono (by omega),g1⟩
theorem am' {b:ay} {ps:List (Int×Int)} {p:Int×Int} {r:List (Int×Int)} (hal:ps=p::r) {n:Int} {d:Nat} (hp:L.call kF [aC b,pD p]=some (.aH [iY n d,.bool false])) :
  ∃ t M,L.loop [1,4,6,7] [2,3,6] dY 1 [.loc 0 0,cu ps,.bJ,.int .i64 0] [.live (au b)]=some (.ret,[.bJ,.bool false,t],M)∧M=[.live (au b)]:=by
 have hbc:=fun k j=>kK b k j
 have hbl:=mg b
 have hg:=sO (ps:=ps) (i:=0) (p:=p) (by rw [hal]; simp)
 have hlt:0<ps.length:=by rw [hal]; simp
 have hltI:(0:Int)<ps.length:=by omega
 obtain ⟨p1,p2⟩:=p
 unfold pD cu at *
 simp only at *
 obtain ⟨g1,g2,g3,g4⟩:=hg
 obtain ⟨a0,a1,a2,ha,hca⟩:=jV n d
 have hb1:=hbc 0 10
 have hb2:=hbc 0 11
 have hb3:=hbc 1 11
 clear hbc
 have h1:=hca 0 10
 have h2:=hca 1 11
 clear hca
 unfold aC iY at *
 rw [ha] at hp
 generalize aS ps=pc at *
 generalize au b=B at *
 have htk:B.take 9=B:=List.take_of_length_le (by omega)
 generalize ps.length=N at *
 simp at g1 g2 g3 g4
 refine ⟨.bJ,_,aj (iy ..) ?_,rfl⟩
 simp [fF,hlt,hltI,g1,g2,g3,g4,hp,htk,hbl,hb1,hb2,hb3,h1,h2,bC,QK]
set_option maxHeartbeats 1000000 in
theorem ae_ {b:ay} (hp0:(aF b).1=none) (hc:b.bM.length≤1000) (hr:b.dh.length≤1000) :
  ((dG b).1=none→∃ ws,FlW 840 ws (dG b).2∧L.call oH [aC b]=some (.aH [.sl ws.length (lH ws),.bool true])) ∧
  (∀ e,(dG b).1=some e→e=(4,none)∧L.call oH [aC b]=some (.aH [.sl 0 [],.bool false])):=by
 have hchk:=jO hp0
 have hpl:=Nc hchk
 have hpd:∀ p∈(aF b).2,aK p.1∧aK p.2∧p.1<p.2∧∀ l,mJ b p=some l→l.length≤2:=fun p h=>⟨(kM hp0 h).1,(kM hp0 h).2.1,(kM hp0 h).2.2,fun l hl=>acu hp0 h hl⟩
 have hw:=(eF hp0).2
 have hps:(aF b).2.length≤100000:=by have := hw.len; omega
 have hbd:=kK b 0 10
 have hbl:=mg b
 unfold Qo at hpl
 unfold dG
 rw [hp0]
 simp only
 cases hP:aF b with
 | mk e ps =>
   rw [hP] at hp0 hpl hpd hw hps
   simp only at *
   subst hp0
   simp only at hpl
   match ps,hpl,hpd,hw,hps with
   | [],hpl,hpd,hw,hps=>exact absurd rfl hw.ne
   | p::r,hpl,hpd,hw,hps =>
     simp only
     obtain ⟨d1,d2,d3,d4⟩:=hpd p (by simp)
     have hpy:=ZF hchk hc d1 d2 d3 d4 (by omega)
     cases hpb:oz b p with
     | error c =>
       simp only
       refine ⟨fun h=>by simp at h,fun e h=>?_⟩
       simp at h
       obtain ⟨h4,n,d,_,hpc⟩:=hpy.2 c hpb
       refine ⟨by rw [← h,h4],?_⟩
       obtain ⟨t,M,hl,hM⟩:=am' (b:=b) (ps:=p::r) rfl hpc
       subst hM
       clear hpy hw
       unfold aC cu at *
       generalize au b=B at *
       have htk:B.take 9=B:=List.take_of_length_le (by omega)
       generalize aS (p::r)=pc at *
       generalize (p::r).length=N at *
       refine ak (Gw ..) ?_
       simp [yS,hbd,hbl,htk,hpl,hl]
     | ok q =>
       simp only
       refine ⟨fun _=>?_,fun e h=>by simp at h⟩
       have hall:∀ s∈r,oz b s = .ok (ig b)∧aK s.1∧aK s.2∧s.1<s.2∧∀ l,mJ b s=some l→l.length≤2:=by
        intro s hs
        obtain ⟨i,hi⟩:=List.getElem?_of_mem hs
        obtain ⟨u,hu⟩:∃ u,(p::r)[i]?=some u:=by
         have : i<(p::r).length:=by have := (List.getElem?_eq_some_iff.1 hi).1; simp; omega
         exact ⟨_,List.getElem?_eq_getElem this⟩
        have := (hw.next i s u hu (by simpa using hi)).2
        exact ⟨by unfold oz; rw [if_pos this],hpd s (by simp [hs])⟩
       obtain ⟨n,d,hwn,hpc⟩:=hpy.1 q hpb
       obtain ⟨rn,rd,hwr,hrd⟩:=Tc hchk hr
       have hsm:=Ut hwn.qb hwr.qb (by omega)
       obtain ⟨ws,g1,g2⟩:∃ ws,FlW 840 ws (Az q (ig b) (jg b) (p::r))∧L.loop [1,4,6,7] [2,3,6] dY 1 [.loc 0 0,cu (p::r),.bJ,.int .i64 0] [.live (au b)]=some (.exit 0,[.undef,.undef,.aG 1 0 (p::r).length 4],[.live (au b),.live (lH ws)]):=by
        by_cases hre:r=[]
        ·obtain ⟨ws,g1,g2⟩:=Kz hchk hc hr hps r [p] [(p.2,n*rd+rn*d,d*rd)] rfl rfl (by simp) hall
         have hst:=KA (b:=b) (ps:=p::r) (pfx:=[]) (acc:=[]) rfl hps rfl hpc (.inr ⟨hre,rn,rd,hrd,hsm⟩) g2
         refine ⟨(p.2,n*rd+rn*d,d*rd)::ws,?_,hst⟩
         subst hre
         simp only [kC,Az] at g1 ⊢
         exact ⟨rfl,(hwn.sum hwr).mono (by omega),g1⟩
        ·obtain ⟨ws,g1,g2⟩:=Kz hchk hc hr hps r [p] [(p.2,n,d)] rfl rfl (by simp) hall
         have hst:=KA (b:=b) (ps:=p::r) (pfx:=[]) (acc:=[]) rfl hps rfl hpc (.inl ⟨hre,rfl,rfl⟩) g2
         refine ⟨(p.2,n,d)::ws,?_,hst⟩
         obtain ⟨u,v,rfl⟩:=List.exists_cons_of_ne_nil hre
         simp only [kC,Az] at g1 ⊢
         exact ⟨rfl,hwn.mono (by omega),g1⟩
       have hlen:(p::r).length=ws.length:=by rw [g1.len,YV]
       refine ⟨ws,g1,?_⟩
       have hfl:=aiG ws
       have htkf:(lH ws).take (ws.length*4)=lH ws:=List.take_of_length_le (by omega)
       have hfz:∀ m,iO (fz 10) (lH ws) m=some (lH ws,m):=fun m=>ap' ws 9 m
       have hcl:=abG ws 0 11
       rw [hlen] at g2
       unfold aC cu at *
       rw [hlen] at g2 hpl
       clear hpy hw hall g1 hpd
       generalize au b=B at *
       have htk:B.take 9=B:=List.take_of_length_le (by omega)
       generalize aS (p::r)=pc at *
       generalize ws.length=N at *
       generalize lH ws=fc at *
       refine ak (Gw ..) ?_
       simp [yS,hbd,hbl,htk,hpl,g2,htkf,hfz,hfl,hcl]
end Go.Ev.Code
end
section
namespace Go.Ev.Code
open Go Go.Ev
theorem ah' {b:ay} {c:Int} {t:List UInt8} (h:chk b=some (c,t)):c≠0:=by
 have hs:=afl b
 unfold chk uI at h
 split at h
 ·rename_i e he
  rw [← he] at h
  split at h
  ·simp at h; omega
  ·split at h
   ·simp at h; omega
   ·split at h
    ·simp at h; omega
    ·split at h
     ·split at h
      ·simp at h; omega
      ·simp at h
     ·simp at h
 ·split at h
  ·simp at h; omega
  ·split at h
   ·rename_i e he
    rw [← he] at h
    rw [hs] at h
    split at h
    ·rename_i h1
     simp at h; rw [← h.1]; exact h1
    ·split at h
     ·rename_i h1
      simp at h; rw [← h.1]; exact h1
     ·simp at h
   ·split at h
    ·simp at h; omega
    ·split at h
     ·simp at h; omega
     ·split at h
      ·simp at h; omega
      ·split at h
       ·simp at h; omega
       ·simp at h
theorem aga {b:ay} (hchk:chk b=none) {e:Int×List UInt8} (h:(aF b).1=some e):e.1=5:=by
 unfold aF at h
 rw [hchk] at h
 simp only at h
 split at h
 ·simp at h
 ·split at h
  ·simp at h; rw [← h]
  ·split at h
   ·split at h <;> simp at h
   ·simp at h
set_option maxHeartbeats 1000000 in
theorem ajz {b:ay} (hc:b.bM.length≤1000) (hr:b.dh.length≤1000) (s:Int):L.call yI [aC b,.int .i64 s]=some (.int .i64 (GV (leftB b s).1)):=by
 have hck:=ae9 hc hr
 have hbd:=kK b 0 10
 have hbl:=mg b
 cases hchk:chk b with
 | some ct =>
   obtain ⟨c,t⟩:=ct
   rw [hchk] at hck
   have hne:=ah' hchk
   have hv:GV (leftB b s).1=c:=by
    unfold leftB dG aF
    rw [hchk]
    rfl
   rw [hv]
   unfold fQ aC at *
   generalize au b=B at *
   have htk:B.take 9=B:=List.take_of_length_le (by omega)
   refine ak (uG ..) ?_
   simp [jl,hbd,hbl,htk,hck,hne]
 | none =>
   rw [hchk] at hck
   have hpl:=Nc hchk
   unfold Qo at hpl
   cases hp0:(aF b).1 with
   | some e =>
     have h5:=aga hchk hp0
     have hv:GV (leftB b s).1=5:=by
      unfold leftB dG
      rw [hp0]
      obtain ⟨e1,e2⟩:=e
      exact h5
     rw [hv]
     have hpl:L.call gK [aC b]=some (.aH [.sl 0 [],.bool false]):=by
      rw [hpl]
      cases hP:aF b with
      | mk p1 p2 =>
        rw [hP] at hp0
        simp only at hp0
        subst hp0
        rfl
     unfold fQ aC at *
     generalize au b=B at *
     have htk:B.take 9=B:=List.take_of_length_le (by omega)
     refine ak (uG ..) ?_
     simp [jl,hbd,hbl,htk,hck,hpl]
   | none =>
     have hpl:L.call gK [aC b]=some (.aH [cu (aF b).2,.bool true]):=by
      rw [hpl]
      cases hP:aF b with
      | mk p1 p2 =>
        rw [hP] at hp0
        simp only at hp0
        subst hp0
        rfl
     have hfl:=ae_ hp0 hc hr
     cases hf0:(dG b).1 with
     | some e =>
       obtain ⟨he,hfl⟩:=hfl.2 e hf0
       have hv:GV (leftB b s).1=4:=by
        unfold leftB
        rw [hf0,he]
        rfl
       rw [hv]
       unfold fQ aC cu at *
       generalize (aF b).2.length=N at *
       generalize aS (aF b).2=pc at *
       generalize au b=B at *
       have htk:B.take 9=B:=List.take_of_length_le (by omega)
       refine ak (uG ..) ?_
       simp [jl,hbd,hbl,htk,hck,hpl,hfl]
     | none =>
       obtain ⟨ws,_,hfl⟩:=hfl.1 hf0
       have hv:GV (leftB b s).1=if s<b.issue∨b.bf≤s then 6 else 0:=by
        unfold leftB
        rw [hf0]
        simp only
        split <;> rfl
       rw [hv]
       unfold fQ cu at *
       generalize (aF b).2.length=N at *
       generalize aS (aF b).2=pc at *
       generalize ws.length=M at *
       generalize lH ws=fc at *
       obtain ⟨i,m,fq,cc,rd,n,st,e,ex⟩:=b
       unfold aC au at *
       simp only at *
       refine ak (uG ..) ?_
       by_cases h1:s<i
       ·rw [if_pos (.inl h1)]
        simp [jl,hck,hpl,hfl,h1]
       ·by_cases h2:m≤s
        ·rw [if_pos (.inr h2)]
         simp [jl,hck,hpl,hfl,h1,h2]
        ·rw [if_neg (fun h=>by rcases h with h | h <;> contradiction)]
         simp [jl,hck,hpl,hfl,h1,h2]
theorem aqH {d:Int} (all:List (Int×Int)) (hn:all.length≤1000000):∀ (l pre:List (Int×Int)),all=pre++l →
  L.loop [0,1,5] [4] oG 0 [cu all,.int .i64 d,.int .i64 pre.length] []=some (atR (O8 d l pre.length)):=by
 intro l
 induction l with
 | nil =>
   intro pre hal
   rw [List.append_nil] at hal
   subst hal
   simp only [O8,atR,if_true]
   unfold cu
   generalize aS all=pc at *
   generalize all.length=n at *
   refine aj (Gu ..) ?_
   simp [lT]
 | cons p r ih =>
   intro pre hal
   have hg:=sO (ps:=all) (i:=pre.length) (p:=p) (by rw [hal]; simp)
   have hlt:pre.length<all.length:=by rw [hal]; simp
   have hn2:=ih (pre++[p]) (by rw [hal]; simp)
   rw [List.length_append,List.length_singleton,show ((pre.length+1:Nat):Int)=(pre.length:Int)+1 by omega] at hn2
   have e1:IntKind.i64.wrap ((pre.length:Int)+1)=(pre.length:Int)+1:=wrap64 _ (by omega)
   simp only [O8]
   obtain ⟨p1,p2⟩:=p
   unfold cu at *
   simp only at *
   obtain ⟨g1,g2,g3,g4⟩:=hg
   generalize aS all=pc at *
   generalize all.length=n at *
   generalize pre.length=P at *
   generalize O8 d r (P+1)=z at *
   have hltI:(P:Int)<n:=by omega
   have hneg:¬ (P:Int) = -1:=by omega
   refine aj (Gu ..) ?_
   by_cases h1:p1≤d
   ·by_cases h2:d<p2
    ·rw [if_pos ⟨h1,h2⟩]
     unfold atR
     rw [if_neg hneg]
     simp [lT,hlt,hltI,g1,g2,g3,g4,h1,h2]
    ·rw [if_neg (fun h=>h2 h.2)]
     simp [lT,hlt,hltI,g1,g2,g3,g4,h1,h2,e1,hn2]
   ·rw [if_neg (fun h=>h1 h.1)]
    simp [lT,hlt,hltI,g1,g2,g3,g4,h1,e1,hn2]
theorem ak4 {ps:List (Int×Int)} (hn:ps.length≤1000000) (d:Int):L.call AB [cu ps,.int .i64 d]=some (.int .i64 (O9 ps d)):=by
 have hl:=aqH (d:=d) ps hn ps [] rfl
 simp only [List.length_nil] at hl
 unfold O9
 generalize O8 d ps 0=z at *
 unfold cu at *
 generalize aS ps=pc at *
 generalize ps.length=n at *
 unfold atR at hl
 refine ak (aas ..) ?_
 by_cases hz:z = -1
 ·rw [if_pos hz] at hl
  subst hz
  simp at hl
  simp [Ea,hl]
 ·rw [if_neg hz] at hl
  simp at hl
  simp [Ea,hl]
theorem aoN {b:ay} (hp0:(aF b).1=none):L.call gK [aC b]=some (.aH [cu (aF b).2,.bool true]):=by
 rw [Nc (jO hp0)]
 unfold Qo
 cases hP:aF b with
 | mk p1 p2 =>
   rw [hP] at hp0
   simp only at hp0
   subst hp0
   rfl
end Go.Ev.Code
end
section
namespace Go.Ev.Code
open Go Go.Ev
end Go.Ev.Code
end
section
namespace Go.Ev.Code
open Go Go.Ev
def avK (v:Rat):List Rat→List Rat
 | []=>[]
 | r::t=>(r-v)::t
def auv (b:ay) (s:Int):List Rat:=if exB b s=true then avK (aqC b (bZ b s)) (((dG b).2.drop (O9 (aF b).2 s).toNat).map Prod.snd) else ((dG b).2.drop (O9 (aF b).2 s).toNat).map Prod.snd
end Go.Ev.Code
end
section
namespace Go.Ev.Code
open Go Go.Ev
end Go.Ev.Code
end
section
namespace Go.Ev.Code
open Go Go.Ev
def hs (n d:Int):List Int→Int×Int
 | []=>(0,1)
 | a::t=>((hs n d t).1*d+a*(hs n d t).2,(hs n d t).2*n)
end Go.Ev.Code
end
section
namespace Go.Ev.Code
open Go Go.Ev
end Go.Ev.Code
end
section
namespace Go.Ev.Code
open Go Go.Ev
end Go.Ev.Code
end
section
namespace Go.Ev.Code
open Go Go.Ev
theorem auG {a c:Rat} (h0:0≤a) (h1:a≤c) (hc:c≠0):0≤1-a / c∧1-a / c≤1:=by
 have hpos:0<c:=by grind
 have hi:0<c⁻¹:=Rat.inv_pos.2 hpos
 have e1:a / c=a*c⁻¹:=Rat.div_def _ _
 have e2:c*c⁻¹=1:=Rat.mul_inv_cancel _ hc
 have h2:=Rat.mul_le_mul_of_nonneg_right h1 (Rat.le_of_lt hi)
 have h3:=Rat.mul_nonneg h0 (Rat.le_of_lt hi)
 rw [e1]
 generalize a*c⁻¹=x at *
 constructor <;> grind
theorem aj0 {b:ay} {s:Int} (h:(leftB b s).1=none) (h0:b_ b s≠0):0≤pI b s∧pI b s≤40*(b.bK:Rat):=by
 obtain ⟨f0,h2,h3,h4⟩:=vJ h
 obtain ⟨d1,d2,d3,d4,d5,d6⟩:=Fq h
 have hf:=fV (bW (jO h2)).2.1
 obtain ⟨p1,p2,p3⟩:=WR f0 d6 d4 (Int.le_of_lt d5) (Int.le_refl _)
 have hf1:(1:Rat)≤(b.bK:Rat):=by
  have : ((1:Int):Rat)≤(b.bK:Rat):=Rat.intCast_le_intCast.2 (by rcases hf with h | h | h | h <;> omega)
  exact this
 have hfr:Rat.divInt b.bK 1=(b.bK:Rat):=by
  have := Ei (c:=b.bK) (D:=1) (by omega)
  rw [Int.mul_one] at this; exact this
 have hpe:qI b (bZ b s) (bZ b s).1 s=ku b s:=rfl
 have hwe:qI b (bZ b s) (bZ b s).1 (bZ b s).2=b_ b s:=rfl
 rw [hpe] at p1 p2
 rw [hwe] at p2 p3
 obtain ⟨q1,q2⟩:=auG p1 p2 h0
 unfold pI
 rw [hfr]
 generalize ku b s / b_ b s=x at *
 generalize (b.bK:Rat)=F at *
 split
 ·constructor
  ·exact q1
  ·grind
 ·have hw0:0≤b_ b s:=Rat.le_trans p1 p2
  generalize b_ b s=W at *
  generalize 1-x=u at *
  have hF0:0≤F:=by grind
  have a1:=Rat.mul_le_mul_of_nonneg_right q2 hF0
  have a0:=Rat.mul_nonneg q1 hF0
  have a2:=Rat.mul_le_mul_of_nonneg_right a1 hw0
  have a3:=Rat.mul_le_mul_of_nonneg_left p3 hF0
  refine ⟨Rat.mul_nonneg a0 hw0,?_⟩
  generalize u*F*W=X at *
  grind
end Go.Ev.Code
end
