/- A part of the proof of accrAll_card, flowAll_card, priceAll_card, yieldAll_card. -/
import Derived.Test.YtfkdcfbleblgoaaGreatDoorCSpD9
import Derived.Test.YtfkdcfbleblgoaaGreatDoorCXZ11
set_option linter.unusedVariables false
set_option linter.unusedSimpArgs false
section
namespace Go.Ev.Code
open Go Go.Ev
def V7 (s:List UInt8) (lo hi:Int) (fr:Bool):Int:=match MV s with
 | none=>1
 | some (n,p)=>if 6<p∨n-lo*(10^p:Nat)<0∨(n-lo*(10^p:Nat)=0∧fr=false)∨0<n-hi*(10^p:Nat) then 5 else 0
def wiN (s:List UInt8) (lo hi:Int) (fr:Bool):Int:=if V7 s lo hi fr=0 then ((MV s).getD (0,0)).1 else 0
def wiM (s:List UInt8) (lo hi:Int) (fr:Bool):Nat:=if V7 s lo hi fr=0 then 10^((MV s).getD (0,0)).2 else 1
theorem asY (s:List UInt8) (lo hi:Int) (fr:Bool):wiD s lo hi fr = .aG [cO (wiN s lo hi fr) (wiM s lo hi fr),.int .i64 (V7 s lo hi fr)]:=by
 unfold wiD wiN wiM V7
 cases MV s with
 | none=>simp
 | some np =>
   obtain ⟨n,p⟩:=np
   simp only [Option.getD_some]
   split
   ·rename_i h; simp [h]
   ·rename_i h; simp [h]
theorem I7 {a b D:Int} (hD:0<D):Rat.divInt a D<Rat.divInt b D↔a<b:=by
 have hi:(0:Rat)<((D:Int):Rat)⁻¹:=Rat.inv_pos.2 (Rat.intCast_pos.2 hD)
 constructor
 ·intro h
  rcases Int.lt_or_le a b with h1 | h1
  ·exact h1
  ·exact absurd h (Rat.not_lt.2 (tZ hD h1))
 ·intro h
  rw [Rat.divInt_eq_div,Rat.divInt_eq_div,Rat.div_def,Rat.div_def]
  exact Rat.mul_lt_mul_of_pos_right (Rat.intCast_lt_intCast.2 h) hi
theorem anp (b:aA):Bf b=if V7 b.aY 0 30 true≠0 then some (V7 b.aY 0 30 true,Ho) else if V7 b.bJ 0 200 false≠0 then some (V7 b.bJ 0 200 false,Hq) else none:=by
 have tp:∀ p:Nat,(0:Int)<((10^p:Nat):Int):=fun p=>by have : 0<10^p:=Nat.pow_pos (by decide); omega
 have q30e:∀ p:Nat,q30=Rat.divInt (30*((10^p:Nat):Int)) ((10^p:Nat):Int):=fun p=>by
  rw [Nz (tp p)]; decide +kernel
 have q200e:∀ p:Nat,ach=Rat.divInt (200*((10^p:Nat):Int)) ((10^p:Nat):Int):=fun p=>by
  rw [Nz (tp p)]; decide +kernel
 have neg:∀ (n:Int) (p:Nat),(Rat.divInt n ((10^p:Nat):Int)).num<0↔n<0:=fun n p=>by
  have h:0≤(Rat.divInt n ((10^p:Nat):Int)).num↔0≤Rat.divInt n ((10^p:Nat):Int):=Rat.num_nonneg
  have h2:=I7 (a:=n) (b:=0) (tp p)
  rw [divInt_zero] at h2
  rw [← h2,← Int.not_le,h,Rat.not_le]
 have pos:∀ (n:Int) (p:Nat),(Rat.divInt n ((10^p:Nat):Int)).num≤0↔n≤0:=fun n p=>by
  have h2:=I7 (a:=0) (b:=n) (tp p)
  rw [divInt_zero] at h2
  generalize Rat.divInt n ((10^p:Nat):Int)=q at *
  have h3:0≤(-q).num↔0 ≤ -q:=Rat.num_nonneg
  have h4:(-q).num = -q.num:=rfl
  have h5:0 ≤ -q↔q≤0:=by
   constructor
   ·intro h; have := Rat.add_le_add_left (c:=q) |>.2 h; simpa [Rat.add_neg_cancel,Rat.add_zero] using this
   ·intro h; have := Rat.add_le_add_left (c := -q) |>.2 h; simpa [Rat.neg_add_cancel,Rat.add_zero] using this
  have h6:q≤0↔¬ 0<q:=Rat.not_lt.symm
  rw [h4,h5,h6,h2] at h3
  omega
 unfold Bf V7
 rw [aed,aed]
 cases MV b.aY with
 | none=>simp
 | some np =>
   obtain ⟨n,p⟩:=np
   simp only [Option.map_some]
   have c1:(¬ p≤6∨(Rat.divInt n ((10^p:Nat):Int)).num<0∨q30<Rat.divInt n ((10^p:Nat):Int))↔(6<p∨n-0*((10^p:Nat):Int)<0∨(n-0*((10^p:Nat):Int)=0∧true=false)∨0<n-30*((10^p:Nat):Int)):=by
    rw [neg,q30e p,I7 (tp p)]
    generalize ((10^p:Nat):Int)=T
    simp <;> omega
   by_cases h1:(¬ p≤6∨(Rat.divInt n ((10^p:Nat):Int)).num<0∨q30<Rat.divInt n ((10^p:Nat):Int))
   ·rw [if_pos h1,if_pos (c1.1 h1)]
    simp
   ·rw [if_neg h1,if_neg (fun h=>h1 (c1.2 h))]
    cases MV b.bJ with
    | none=>simp
    | some mk =>
      obtain ⟨m,k⟩:=mk
      simp only [Option.map_some]
      have c2:(¬ k≤6∨(Rat.divInt m ((10^k:Nat):Int)).num≤0∨ach<Rat.divInt m ((10^k:Nat):Int))↔(6<k∨m-0*((10^k:Nat):Int)<0∨(m-0*((10^k:Nat):Int)=0∧True)∨0<m-200*((10^k:Nat):Int)):=by
       rw [pos,q200e k,I7 (tp k)]
       generalize ((10^k:Nat):Int)=T
       simp <;> omega
      by_cases h2:(¬ k≤6∨(Rat.divInt m ((10^k:Nat):Int)).num≤0∨ach<Rat.divInt m ((10^k:Nat):Int))
      ·rw [if_pos h2,if_pos (c2.1 h2)]
       simp
      ·rw [if_neg h2,if_neg (fun h=>h2 (c2.2 h))]
       simp
theorem abj {b:aA} {q1:List D} {e1:Int} {c:Int} {t:List UInt8} (hs:Bf b=some (c,t))
  (w1:L.call jy [.str b.aY,.int .i64 0,.int .i64 30,.bool true]=some (.aG [.agg q1,.int .i64 e1])) (hq1:∃ x l1 c1 l2 c2,q1=[.bool x,.sl l1 c1,.sl l2 c2])
  (hcase:e1≠0∧c=e1∧t=Ho∨e1=0∧∃ q2:List D,(∃ x l1 c1 l2 c2,q2=[.bool x,.sl l1 c1,.sl l2 c2])∧c≠0∧t=Hq∧L.call jy [.str b.bJ,.int .i64 0,.int .i64 200,.bool false]=some (.aG [.agg q2,.int .i64 c])) :
  L.call oK [aC b]=some (jl (chk b)):=by
 have i1:=lM b.issue
 have i2:=lM b.bU
 have ha:=CG b.issue 360 false
 have hm:=Rk b
 unfold chk Em
 rw [hs]
 generalize pF b.issue 360 false=ad at *
 generalize months b=mo at *
 obtain ⟨i,m,f,cp,r,n,s,e,x⟩:=b
 unfold aC ay at *
 simp only at *
 obtain ⟨x1,l1,k1,l2,k2,rfl⟩:=hq1
 refine aj (PW ..) ?_
 by_cases d1:aU i
 ·rw [if_neg (fun h=>h d1)]
  rw [decide_eq_true d1] at i1
  by_cases d2:aU m
  ·rw [if_neg (fun h=>h d2)]
   rw [decide_eq_true d2] at i2
   by_cases d3:m≤i
   ·rw [if_pos d3]
    cases ad with
    | none=>simp [okD] at ha; simp [aJ,i1,i2,ha,d3,jl,vN]
    | some a=>simp [okD] at ha; simp [aJ,i1,i2,ha,d3,jl,vN]
   ·rw [if_neg d3]
    have rest:∀ (a:Int) (ok:Bool),L.call iT [.int .i64 i,.int .i64 360,.bool false]=some (.aG [.int .i64 a,.bool ok])→¬ (ok=true∧a<m) →
      bd (aJ [] L (.agg [.int .i64 i,.int .i64 m,.int .i64 f,.str cp,.str r,.int .i64 n,.int .i64 s,.bool e,.int .i64 x])) fin=some (jl (if mo=0 then some (5,abw) else some (c,t))):=by
     intro a ok ha hno
     have hcase2:ok=false∨(ok=true∧¬ a<m):=by
      cases ok with
      | false=>exact .inl rfl
      | true=>exact .inr ⟨rfl,fun h=>hno ⟨rfl,h⟩⟩
     by_cases h0:mo=0
     ·rw [if_pos h0]
      rcases hcase2 with rfl | ⟨rfl,hlt⟩
      ·simp [aJ,i1,i2,ha,d3,hm,h0,jl,abw]
      ·simp [aJ,i1,i2,ha,d3,hlt,hm,h0,jl,abw]
     rw [if_neg h0]
     rcases hcase with ⟨h1,rfl,rfl⟩ | ⟨rfl,q2,⟨x2,l3,k3,l4,k4,rfl⟩,h1,rfl,w2⟩
     ·rcases hcase2 with rfl | ⟨rfl,hlt⟩
      ·simp [aJ,i1,i2,ha,d3,hm,h0,w1,h1,jl,Ho,aS]
      ·simp [aJ,i1,i2,ha,d3,hlt,hm,h0,w1,h1,jl,Ho,aS]
     ·rcases hcase2 with rfl | ⟨rfl,hlt⟩
      ·simp [aJ,i1,i2,ha,d3,hm,h0,w1,w2,h1,jl,Hq,aS]
      ·simp [aJ,i1,i2,ha,d3,hlt,hm,h0,w1,w2,h1,jl,Hq,aS]
    cases ad with
    | none=>exact rest 0 false ha (by simp)
    | some a =>
      by_cases d4:(a:Int)<m
      ·simp only [if_pos d4]
       simp [okD] at ha
       simp [aJ,i1,i2,ha,d3,d4,jl,vN]
      ·simp only [if_neg d4]
       exact rest a true ha (by simpa using d4)
  ·rw [if_pos d2]
   rw [decide_eq_false d2] at i2
   simp [aJ,i1,i2,jl,vN]
 ·rw [if_pos d1]
  rw [decide_eq_false d1] at i1
  simp [aJ,i1,jl,amd]
theorem am_ {b:aA} (hc:b.aY.length≤1000) (hr:b.bJ.length≤1000):L.call oK [aC b]=some (jl (chk b)):=by
 have w1:=II hc (lo:=0) (hi:=30) (by omega) (by omega) true
 have w2:=II hr (lo:=0) (hi:=200) (by omega) (by omega) false
 rw [asY] at w1 w2
 have hs:=anp b
 have hq:∀ n d,∃ x l1 c1 l2 c2,qC n d=[.bool x,.sl l1 c1,.sl l2 c2]:=fun n d=>⟨_,_,_,_,_,rfl⟩
 by_cases h1:V7 b.aY 0 30 true=0
 ·rw [if_neg (fun h=>h h1)] at hs
  rw [h1] at w1
  by_cases h2:V7 b.bJ 0 200 false=0
  ·rw [if_neg (fun h=>h h2)] at hs
   rw [h2] at w2
   exact akw hs w1 w2
  ·rw [if_pos h2] at hs
   exact abj hs w1 (hq _ _) (.inr ⟨rfl,_,hq _ _,h2,rfl,w2⟩)
 ·rw [if_pos h1] at hs
  exact abj hs w1 (hq _ _) (.inl ⟨h1,rfl,rfl⟩)
end Go.Ev.Code
end
section
namespace Go.Ev.Code
open Go Go.Ev
def aeM:Option Nat→Int
 | some k=>k
 | none => -1
theorem auq {b:aA} (hm:months b≠0) {day:Int}:∀ (f k:Nat),k+f=3602 →
  L.loop [1,2,5] [4] kT 1 [.int .i64 day,.loc 0 0,.int .i64 k] [.live (ay b)]=some (.ret,[.int .i64 (aeM (sF b day f k))],[.live (ay b)])∨f=0:=by
 intro f
 induction f with
 | zero=>intro k hk; exact .inr rfl
 | succ f ih =>
   intro k hk
   left
   have ha:=Ar b (k:=k) (by omega)
   have hn:=ih (k+1) (by omega)
   have hlast:f=0→anch b k=none:=fun h=>by
    have : k=3601:=by omega
    rw [this]; exact anK b hm
   simp only [sF]
   have e1:IntKind.i64.wrap ((k:Int)+1)=((k+1:Nat):Int):=by rw [wrap64 _ (by omega)]; omega
   generalize anch b k=r at *
   generalize sF b day f (k+1)=r2 at *
   obtain ⟨i,m,fq,c,rd,n,s,e,ex⟩:=b
   unfold aC ay at *
   simp only at *
   refine au (ZY ..) ?_
   cases r with
   | none=>simp [okD] at ha; simp [lZ,ha,aeM]
   | some a =>
     simp [okD] at ha
     simp only
     by_cases h1:(a:Int)<day
     ·simp [lZ,ha,h1,aeM]
     ·by_cases h2:(a:Int)=day
      ·subst h2
       simp [lZ,ha,aeM]
      ·rcases hn with hn | hn
       ·simp at hn
        simp [lZ,ha,h1,h2,e1,hn]
       ·have := hlast hn; simp at this
theorem am' {b:aA} (hm:months b≠0) (day:Int):L.call AA [aC b,.int .i64 day]=some (.int .i64 (aeM (DV b day))):=by
 have hl:=(auq hm (day:=day) 3602 0 rfl).resolve_right (by decide)
 change L.loop [1,2,5] [4] kT 1 [.int .i64 day,.loc 0 0,.int .i64 0] [.live (ay b)]=some (.ret,[.int .i64 (aeM (DV b day))],[.live (ay b)]) at hl
 generalize aeM (DV b day)=r at *
 obtain ⟨i,m,fq,c,rd,n,s,e,ex⟩:=b
 unfold aC ay at *
 simp only at *
 refine aj (adV ..) ?_
 simp [RS,hl]
theorem ady {b:aA} (hm:months b≠0) (day:Int):L.call oM [aC b,.int .i64 day]=some (okD (quasi b day)):=by
 have hp:=am' hm day
 have hps:=fun {j} => @UM b day 3602 0 j
 have han:=fun k (hk:k≤100000)=>Ar b (k:=k) hk
 unfold quasi
 unfold DV at *
 generalize sF b day 3602 0=r at *
 cases r with
 | none =>
   obtain ⟨i,m,fq,c,rd,n,s,e,ex⟩:=b
   unfold aC ay at *
   simp only at *
   simp [aeM] at hp
   refine aj (PZ ..) ?_
   simp [qJ,hp,okD]
 | some k =>
   have hk:=(hps rfl).1
   have ha:=han (k+1) (by omega)
   have e1:IntKind.i64.wrap ((k:Int)+1)=((k+1:Nat):Int):=by rw [wrap64 _ (by omega)]; omega
   have hk0:¬ (k:Int)<0:=by omega
   show L.call oM [aC b,.int .i64 day]=some (okD (if day≤b.issue then none else anch b (k+1)))
   generalize anch b (k+1)=r2 at *
   obtain ⟨i,m,fq,c,rd,n,s,e,ex⟩:=b
   unfold aC ay at *
   simp only at *
   simp [aeM] at hp
   refine aj (PZ ..) ?_
   by_cases hd:day≤i
   ·simp [qJ,hp,hk0,hd,okD]
   ·cases r2 with
    | none=>simp [okD] at ha; simp [qJ,hp,hk0,hd,e1,ha,okD]
    | some a=>simp [okD] at ha; simp [qJ,hp,hk0,hd,e1,ha,okD]
theorem OU {b:aA} (hchk:chk b=none) (p:Int×Int):L.call qB [aC b,pD p]=some (.bool (regular b p)):=by
 have hq:=ady (bV hchk).2.1 p.2
 obtain ⟨p1,p2⟩:=p
 unfold regular pD
 rw [hchk]
 simp only at hq ⊢
 generalize quasi b p2=q at *
 obtain ⟨i,m,fq,c,rd,n,s,e,ex⟩:=b
 unfold aC ay at *
 refine aj (abC ..) ?_
 cases q with
 | none=>simp [okD] at hq; simp [Cc,hq]
 | some a=>simp [okD] at hq; simp [Cc,hq]
theorem aso {k a b:Int} (h1:1≤k) (h2:k≤4) (ha:aU a) (hb:aU b):L.call FM [.int .i64 k,.int .i64 a,.int .i64 b]=some (.int .i64 (d_ k a b)):=by
 have i1:=lM a
 have i2:=lM b
 rw [decide_eq_true ha] at i1
 rw [decide_eq_true hb] at i2
 have n1:¬ k<1:=by omega
 have n2:¬ 4<k:=by omega
 unfold d_
 by_cases hk:k=1
 ·subst hk
  rw [if_pos rfl]
  obtain ⟨y,m,d,hc,rfl,o1⟩:=eu ha
  obtain ⟨y',m',d',hc',rfl,o2⟩:=eu hb
  have c1:=zS hc
  have c2:=zS hc'
  have e:YP (dayOf y m d:Nat) (dayOf y' m' d':Nat)=360*((y':Int)-y)+30*((m':Int)-m)+min (d':Int) 30-min (d:Int) 30:=by
   unfold YP
   rw [o1,o2]
  rw [e]
  have b1:=hc.y1; have b2:=hc.y2; have b3:=hc.m1; have b4:=hc.m2; have b5:=hc.d1; have b6:=hc.d2; have b7:=xX y m
  have b1':=hc'.y1; have b2':=hc'.y2; have b3':=hc'.m1; have b4':=hc'.m2; have b5':=hc'.d1; have b6':=hc'.d2; have b7':=xX y' m'
  have w1:IntKind.i64.wrap ((y':Int)-y)=(y':Int)-y:=wrap64 _ (by omega)
  have w2:IntKind.i64.wrap (360*((y':Int)-y))=360*((y':Int)-y):=wrap64 _ (by omega)
  have w3:IntKind.i64.wrap ((m':Int)-m)=(m':Int)-m:=wrap64 _ (by omega)
  have w4:IntKind.i64.wrap (30*((m':Int)-m))=30*((m':Int)-m):=wrap64 _ (by omega)
  have w5:IntKind.i64.wrap (360*((y':Int)-y)+30*((m':Int)-m))=360*((y':Int)-y)+30*((m':Int)-m):=wrap64 _ (by omega)
  have w6:IntKind.i64.wrap (360*((y':Int)-y)+30*((m':Int)-m)+min (d':Int) 30)=360*((y':Int)-y)+30*((m':Int)-m)+min (d':Int) 30:=wrap64 _ (by omega)
  have w7:IntKind.i64.wrap (360*((y':Int)-y)+30*((m':Int)-m)+min (d':Int) 30-min (d:Int) 30)=360*((y':Int)-y)+30*((m':Int)-m)+min (d':Int) 30-min (d:Int) 30:=wrap64 _ (by omega)
  unfold mJ at c1 c2
  clear e o1 o2 ha hb
  generalize ((dayOf y m d:Nat):Int)=A at *
  generalize ((dayOf y' m' d':Nat):Int)=B at *
  refine aj (Vb ..) ?_
  simp [JL,i1,i2,c1,c2,w1,w2,w3,w4,w5,w6,w7,aS]
 ·rw [if_neg hk]
  have w:IntKind.i64.wrap (b-a)=b-a:=wrap64 _ (by omega)
  refine aj (Vb ..) ?_
  simp [JL,i1,i2,n1,n2,hk,w]
theorem asr {k a b:Int} (h1:1≤k) (h2:k≤3) (ha:aU a) (hb:aU b) (hab:a≤b) :
  L.call FP [.int .i64 k,.int .i64 a,.int .i64 b,.int .i64 0,.int .i64 0,.int .i64 0]=some (.aG [cO (d_ k a b) (if k=3 then 365 else 360),.int .i64 0]):=by
 have i1:=lM a
 have i2:=lM b
 rw [decide_eq_true ha] at i1
 rw [decide_eq_true hb] at i2
 have n1:¬ k<1:=by omega
 have n2:¬ 4<k:=by omega
 have n3:¬ k=4:=by omega
 have n4:¬ b<a:=by omega
 have hbd:=Qm (k:=k) ha hb
 by_cases hk:k=3
 ·have hf:=D5 (n:=b-a) (d:=365) (by omega) (by omega)
  have hv:d_ k a b=b-a:=by unfold d_; rw [if_neg (by omega)]
  rw [hv,if_pos hk]
  have w:IntKind.i64.wrap (b-a)=b-a:=wrap64 _ (by omega)
  rw [show (365:Int).natAbs=365 from rfl] at hf
  unfold cO qC at *
  simp only [n9,aQ] at *
  generalize hz:b-a=z at *
  generalize decide (z<0)=b0 at *
  generalize (ah z.natAbs).length=N1 at *
  generalize (ah z.natAbs).map ak=l1 at *
  generalize (ah 365).length=N2 at *
  generalize (ah 365).map ak=l2 at *
  refine aj (Vd ..) ?_
  simp [JO,i1,i2,n1,n2,n3,n4,hk,hz,w,hf,aS]
 ·have hd:=aso h1 (by omega:k≤4) ha hb
  have hf:=D5 (n:=d_ k a b) (d:=360) (by omega) (by omega)
  rw [if_neg hk]
  rw [show (360:Int).natAbs=360 from rfl] at hf
  generalize d_ k a b=z at *
  unfold cO qC at *
  simp only [n9,aQ] at *
  generalize decide (z<0)=b0 at *
  generalize (ah z.natAbs).length=N1 at *
  generalize (ah z.natAbs).map ak=l1 at *
  generalize (ah 360).length=N2 at *
  generalize (ah 360).map ak=l2 at *
  refine aj (Vd ..) ?_
  simp [JO,i1,i2,n1,n2,n3,n4,hk,hd,hf,aS]
end Go.Ev.Code
end
section
namespace Go.Ev.Code
open Go Go.Ev
theorem aCM {n1 n2:Int} {d1 d2:Nat} (h1:0<d1) (h2:0<d2):Rat.divInt (n1*d2+n2*d1) ((d1*d2:Nat):Int)=Rat.divInt n1 d1+Rat.divInt n2 d2:=by
 have e1:((d1:Nat):Rat)≠0:=fun h=>by rw [← Rat.intCast_natCast] at h; have := Rat.intCast_eq_zero_iff.1 h; omega
 have e2:((d2:Nat):Rat)≠0:=fun h=>by rw [← Rat.intCast_natCast] at h; have := Rat.intCast_eq_zero_iff.1 h; omega
 rw [Rat.divInt_eq_div,Rat.divInt_eq_div,Rat.divInt_eq_div,Rat.intCast_add,Rat.intCast_mul,Rat.intCast_mul,Rat.intCast_natCast,Rat.intCast_natCast,Rat.intCast_natCast,Rat.natCast_mul]
 generalize (n1:Rat)=a at *
 generalize (n2:Rat)=b at *
 generalize (d1:Rat)=c at *
 generalize (d2:Rat)=d at *
 grind
theorem az8 {n1 n2:Int} {d1 d2:Nat} (h1:0<d1) (h2:0<d2):Rat.divInt (n1*n2) ((d1*d2:Nat):Int)=Rat.divInt n1 d1*Rat.divInt n2 d2:=by
 have e1:((d1:Nat):Rat)≠0:=fun h=>by rw [← Rat.intCast_natCast] at h; have := Rat.intCast_eq_zero_iff.1 h; omega
 have e2:((d2:Nat):Rat)≠0:=fun h=>by rw [← Rat.intCast_natCast] at h; have := Rat.intCast_eq_zero_iff.1 h; omega
 rw [Rat.divInt_eq_div,Rat.divInt_eq_div,Rat.divInt_eq_div,Rat.intCast_mul,Rat.intCast_natCast,Rat.intCast_natCast,Rat.intCast_natCast,Rat.natCast_mul]
 generalize (n1:Rat)=a at *
 generalize (n2:Rat)=b at *
 generalize (d1:Rat)=c at *
 generalize (d2:Rat)=d at *
 grind
structure Wo (k:Nat) (n:Int) (d:Nat) (q:Rat):Prop where
 qb:QB k n d
 pos:0<d
 val:Rat.divInt n d=q
theorem Wo.sum {j k:Nat} {n1 n2:Int} {d1 d2:Nat} {q r:Rat} (a:Wo j n1 d1 q) (b:Wo k n2 d2 r):Wo (j+k+1) (n1*d2+n2*d1) (d1*d2) (q+r) :=
 ⟨a.qb.sum b.qb,Nat.mul_pos a.pos b.pos,by rw [aCM a.pos b.pos,a.val,b.val]⟩
theorem Wo.prod {j k:Nat} {n1 n2:Int} {d1 d2:Nat} {q r:Rat} (a:Wo j n1 d1 q) (b:Wo k n2 d2 r):Wo (j+k) (n1*n2) (d1*d2) (q*r) :=
 ⟨a.qb.prod b.qb,Nat.mul_pos a.pos b.pos,by rw [az8 a.pos b.pos,a.val,b.val]⟩
theorem Wo.mono {j k:Nat} {n:Int} {d:Nat} {q:Rat} (a:Wo j n d q) (h:j≤k):Wo k n d q:=⟨a.qb.mono h,a.pos,a.val⟩
theorem Wo.av4 {n d:Int} (hn : -9223372036854775808≤n∧n≤9223372036854775807) (hd:0<d∧d≤9223372036854775807):Wo 64 n d.natAbs (Rat.divInt n d) :=
 ⟨⟨gQ hn,by have := gQ (n:=d) (by omega); exact this⟩,by omega,by congr 1; omega⟩
theorem Vz (n:Int) (d k j:Nat):(qC n d).all (D.clo k (j+1))=true:=rfl
theorem sG (n:Int) (d:Nat):(qC n d).length=3:=rfl
theorem aip (n:Int) (d:Nat):(qC n d).take 3=qC n d:=rfl
theorem ayn {f x y:Int} {q:Int×Int} (h:¬ 0<min y q.2-max x q.1):yK f x y q=0:=by
 unfold yK
 rw [show max (min y q.2-max x q.1) 0=0 by omega]
 exact divInt_zero _
set_option maxHeartbeats 1000000 in
theorem awC {b:aA} (hchk:chk b=none) {p1 p2 x y:Int} (hx:aU x) (hy:aU y):∀ (f:Nat) (e:Int) (n:Int) (d k:Nat) (q:Rat),(e-p1).toNat≤f→aU e→Wo k n d q→k+80*f≤9500000 →
  (∀ l,gX b p1 f e=some l→∃ n' d',Wo (k+65*l.length) n' d' (sumF b.bG x y q l)∧L.loop [2,3,4,5,8,12,13] [8,9,12] fZ 4 [.int .i64 x,.int .i64 y,.loc 0 0,.loc 1 0,.loc 2 0,.loc 3 0,.int .i64 e] [.live (ay b),.live [.int .i64 p1,.int .i64 p2],.live qZ,.live (qC n d)] =
   some (.exit 0,[.loc 2 0,.undef,.loc 3 0],[.live (ay b),.live [.int .i64 p1,.int .i64 p2],.live qZ,.live (qC n' d')])) ∧
  (gX b p1 f e=none→∃ n' d' n2 d2,(0<d'∧QB 9600000 n' d')∧L.loop [2,3,4,5,8,12,13] [8,9,12] fZ 4 [.int .i64 x,.int .i64 y,.loc 0 0,.loc 1 0,.loc 2 0,.loc 3 0,.int .i64 e] [.live (ay b),.live [.int .i64 p1,.int .i64 p2],.live qZ,.live (qC n d)] =
   some (.ret,[.loc 2 0,.bool false,.loc 3 0],[.live (ay b),.live [.int .i64 p1,.int .i64 p2],.live (qC n' d'),.live (qC n2 d2)])):=by
 have hm:=(bV hchk).2.1
 have hf:=dZ hm
 have hbc:=iO b 4
 have hbl:=kK b
 have hbd:=iZ b 0 10
 intro f
 induction f with
 | zero =>
   intro e n d k q hfu he hw hk
   have hep:¬ p1<e:=by omega
   simp only [gX]
   refine ⟨fun l hl=>?_,fun h=>by simp at h⟩
   simp at hl
   subst hl
   refine ⟨n,d,by simpa [sumF] using hw,?_⟩
   have hqc:=Vz n d 4 11
   unfold qZ
   generalize qC n d=qc at *
   generalize ay b=B at *
   refine au (nM ..) ?_
   simp [kJ,hep,hbc,hqc]
 | succ f ih =>
   intro e n d k q hfu he hw hk
   simp only [gX]
   by_cases hep:e≤p1
   ·rw [if_pos hep]
    have hep':¬ p1<e:=by omega
    refine ⟨fun l hl=>?_,fun h=>by simp at h⟩
    simp at hl
    subst hl
    refine ⟨n,d,by simpa [sumF] using hw,?_⟩
    have hqc:=Vz n d 4 11
    unfold qZ
    generalize qC n d=qc at *
    generalize ay b=B at *
    refine au (nM ..) ?_
    simp [kJ,hep',hbc,hqc]
   ·rw [if_neg hep]
    have hep':p1<e:=by omega
    have hq:=ady hm e
    cases hqe:quasi b e with
    | none =>
      simp only
      rw [hqe] at hq
      simp [okD] at hq
      refine ⟨fun l hl=>by simp at hl,fun _=>⟨n,d,n,d,⟨hw.pos,hw.qb.mono (by omega)⟩,?_⟩⟩
      have hqc:=Vz n d 4 11
      have hql:=sG n d
      have hqt:=aip n d
      unfold aC at hq
      unfold qZ
      have hqx:∃ a0 a1 a2,qC n d=[a0,a1,a2]:=⟨_,_,_,rfl⟩
      obtain ⟨a0,a1,a2,hqx⟩:=hqx
      rw [hqx] at hqc ⊢
      generalize ay b=B at *
      have htk:B.take 9=B:=List.take_of_length_le (by omega)
      refine au (nM ..) ?_
      simp at hqc
      simp [kJ,hep',hbc,hbl,hbd,htk,hq,hqc,aS]
    | some a =>
      simp only
      rw [hqe] at hq
      simp [okD] at hq
      have hlt:=Zt hm hqe
      obtain ⟨t1,t2,t3⟩:=hlt
      have hfr:1≤b.bG∧b.bG≤12:=by rcases hf with h | h | h | h <;> omega
      have hmul:1≤b.bG*(e-a)∧b.bG*(e-a)≤2400000:=hf.mul (by omega) (by omega)
      have e1:IntKind.i64.wrap (min y e-max x a)=min y e-max x a:=wrap64 _ (by omega)
      have e2:IntKind.i64.wrap (e-a)=e-a:=wrap64 _ (by omega)
      have e3:IntKind.i64.wrap (b.bG*(e-a))=b.bG*(e-a):=wrap64 _ (by omega)
      have hfget:(ay b)[2]?=some (.int .i64 b.bG):=rfl
      have hqc:=Vz n d 4 11
      have hql:=sG n d
      have hqt:=aip n d
      have hqc0:=Vz n d 0 10
      by_cases hd0:0<min y e-max x a
      ·
       have hw2:=Wo.av4 (n:=min y e-max x a) (d:=b.bG*(e-a)) (by omega) (by omega)
       have hfr2:=D5 (n:=min y e-max x a) (d:=b.bG*(e-a)) (by omega) (by omega)
       have hsm:=Hf hw.qb hw2.qb (by omega)
       have hws:=(hw.sum hw2).mono (k:=k+65) (by omega)
       have hqv:yK b.bG x y ((a:Int),e)=Rat.divInt (min y e-max x a) (b.bG*(e-a)):=by
        unfold yK
        rw [show max (min y e-max x (a:Int)) 0=min y e-max x a by omega]
       rw [← hqv] at hws
       have hn:=ih a _ _ (k+65) _ (by omega) t2 hws (by omega)
       have step:∀ R,L.loop [2,3,4,5,8,12,13] [8,9,12] fZ 4 [.int .i64 x,.int .i64 y,.loc 0 0,.loc 1 0,.loc 2 0,.loc 3 0,.int .i64 a] [.live (ay b),.live [.int .i64 p1,.int .i64 p2],.live qZ,.live (qC (n*((b.bG*(e-a)).natAbs:Nat)+(min y e-max x a)*d) (d*(b.bG*(e-a)).natAbs))]=some R →
         L.loop [2,3,4,5,8,12,13] [8,9,12] fZ 4 [.int .i64 x,.int .i64 y,.loc 0 0,.loc 1 0,.loc 2 0,.loc 3 0,.int .i64 e] [.live (ay b),.live [.int .i64 p1,.int .i64 p2],.live qZ,.live (qC n d)]=some R:=by
        intro R hR
        clear hn ih hw hw2 hws hqv hmul
        have hqx2:∃ c0 c1 c2,qC (n*((b.bG*(e-a)).natAbs:Nat)+(min y e-max x a)*d) (d*(b.bG*(e-a)).natAbs)=[c0,c1,c2]∧D.clo 4 12 c0=true∧D.clo 4 12 c1=true∧D.clo 4 12 c2=true:=⟨_,_,_,rfl,rfl,rfl,rfl⟩
        have hqx3:∃ c0 c1 c2,qC (min y e-max x a) (b.bG*(e-a)).natAbs=[c0,c1,c2]∧D.clo 0 11 c0=true∧D.clo 0 11 c1=true∧D.clo 0 11 c2=true:=⟨_,_,_,rfl,rfl,rfl,rfl⟩
        have hqx:∃ a0 a1 a2,qC n d=[a0,a1,a2]∧D.clo 0 11 a0=true∧D.clo 0 11 a1=true∧D.clo 0 11 a2=true:=⟨_,_,_,rfl,rfl,rfl,rfl⟩
        unfold cO at hfr2 hsm
        obtain ⟨c0,c1,c2,h5,h6,h7,h8⟩:=hqx2
        rw [h5] at hR hsm
        obtain ⟨g0,g1,g2,k5,k6,k7,k8⟩:=hqx3
        rw [k5] at hfr2 hsm
        obtain ⟨a0,a1,a2,hqx,z0,z1,z2⟩:=hqx
        rw [hqx] at hqc hsm ⊢
        unfold aC at hq
        unfold qZ at *
        generalize ay b=B at *
        have htk:B.take 9=B:=List.take_of_length_le (by omega)
        have hlen2:2<B.length:=by omega
        have hBg:∀ p:2<B.length,B[2] = .int .i64 b.bG:=fun p=>by simpa using (List.getElem?_eq_some_iff.1 hfget).2
        generalize hfm:b.bG*(e-(a:Int))=fm at *
        generalize hmm:min y e-max x (a:Int)=dd at *
        refine au (nM ..) ?_
        simp at hqc hR
        simp [kJ,hep',hbc,hbl,hbd,htk,hq,hqc,hmm,hfm,e1,e2,e3,hd0,hfget,hlen2,hBg,hfr2,hsm,z0,z1,z2,k6,k7,k8,h6,h7,h8,aS,hR]
       refine ⟨fun l hl=>?_,fun h=>?_⟩
       ·cases hl2:gX b p1 f a with
        | none=>rw [hl2] at hl; simp at hl
        | some r =>
          rw [hl2] at hl
          simp at hl
          subst hl
          obtain ⟨n',d',g1,g2⟩:=hn.1 r hl2
          refine ⟨n',d',?_,step _ g2⟩
          simp only [sumF,List.length_cons]
          exact g1.mono (by omega)
       ·cases hl2:gX b p1 f a with
        | some r=>rw [hl2] at h; simp at h
        | none =>
          obtain ⟨n',d',n2,d2,g1,g2⟩:=hn.2 hl2
          exact ⟨n',d',n2,d2,g1,step _ g2⟩
      ·have hqv:yK b.bG x y ((a:Int),e)=0:=ayn hd0
       have hn:=ih a n d k q (by omega) t2 hw (by omega)
       have step:∀ R,L.loop [2,3,4,5,8,12,13] [8,9,12] fZ 4 [.int .i64 x,.int .i64 y,.loc 0 0,.loc 1 0,.loc 2 0,.loc 3 0,.int .i64 a] [.live (ay b),.live [.int .i64 p1,.int .i64 p2],.live qZ,.live (qC n d)]=some R →
         L.loop [2,3,4,5,8,12,13] [8,9,12] fZ 4 [.int .i64 x,.int .i64 y,.loc 0 0,.loc 1 0,.loc 2 0,.loc 3 0,.int .i64 e] [.live (ay b),.live [.int .i64 p1,.int .i64 p2],.live qZ,.live (qC n d)]=some R:=by
        intro R hR
        clear hn ih hw hqv hmul
        unfold aC at hq
        unfold qZ at *
        generalize qC n d=qc at *
        generalize ay b=B at *
        have htk:B.take 9=B:=List.take_of_length_le (by omega)
        generalize hmm:min y e-max x (a:Int)=dd at *
        refine au (nM ..) ?_
        try simp at hR
        simp [kJ,hep',hbc,hbl,hbd,htk,hq,hqc,hmm,e1,hd0,hR]
       refine ⟨fun l hl=>?_,fun h=>?_⟩
       ·cases hl2:gX b p1 f a with
        | none=>rw [hl2] at hl; simp at hl
        | some r =>
          rw [hl2] at hl
          simp at hl
          subst hl
          obtain ⟨n',d',g1,g2⟩:=hn.1 r hl2
          refine ⟨n',d',?_,step _ g2⟩
          simp only [sumF,List.length_cons]
          rw [hqv,Rat.add_zero]
          exact g1.mono (by omega)
       ·cases hl2:gX b p1 f a with
        | some r=>rw [hl2] at h; simp at h
        | none =>
          obtain ⟨n',d',n2,d2,g1,g2⟩:=hn.2 hl2
          exact ⟨n',d',n2,d2,g1,step _ g2⟩
end Go.Ev.Code
end
section
namespace Go.Ev.Code
open Go Go.Ev
theorem lX (n:Int) (d:Nat):∃ c0 c1 c2,qC n d=[c0,c1,c2]∧∀ k j,D.clo k (j+1) c0=true∧D.clo k (j+1) c1=true∧D.clo k (j+1) c2=true∧∀ m,fz (j+1) c0 m=some (c0,m)∧fz (j+1) c1 m=some (c1,m)∧fz (j+1) c2 m=some (c2,m):=⟨_,_,_,rfl,fun k j=>⟨rfl,rfl,rfl,fun m=>⟨rfl,rfl,rfl⟩⟩⟩
theorem aCW:Wo 64 0 1 (Rat.divInt 0 1):=⟨⟨gQ (by omega),by unfold NB; decide⟩,by omega,rfl⟩
set_option maxHeartbeats 1000000 in
theorem Xi {b:aA} (hchk:chk b=none) {p:Int×Int} (d1:aU p.1) (d2:aU p.2) (hlt:p.1<p.2) {x y:Int} (hx:p.1≤x) (hxy:x≤y) (hy:y≤p.2) {N:Nat} (hN:∀ l,nP b p=some l→l.length≤N) (hN2:N≤3600) :
  (∀ q,jW b p x y = .ok q→∃ n d,Wo (64+65*N) n d q∧L.call mQ [aC b,pD p,.int .i64 x,.int .i64 y]=some (.aG [cO n d,.bool true])) ∧
  (∀ c,jW b p x y = .error c→c=4∧∃ n d,QB 9600000 n d∧L.call mQ [aC b,pD p,.int .i64 x,.int .i64 y]=some (.aG [cO n d,.bool false])):=by
 have hcnt:=anP hchk
 have h0:=nY (n:=0) (by omega)
 have dx:aU x:=⟨by omega,by omega⟩
 have dy:aU y:=⟨by omega,by omega⟩
 have hin:¬ (x<p.1∨y<x∨p.2<y):=by omega
 have hbc:=iO b 4
 unfold jW
 by_cases hc:b.count=4
 ·have hz:=awC hchk (p1:=p.1) (p2:=p.2) dx dy (p.2-p.1).toNat p.2 0 1 64 (Rat.divInt 0 1) (Nat.le_refl _) d2 aCW (by omega)
  simp only [if_pos hc]
  cases hq:nP b p with
  | none =>
    obtain ⟨n',d',n2,d2',g,hl⟩:=hz.2 hq
    refine ⟨fun q h=>by simp at h,fun c h=>?_⟩
    simp at h
    refine ⟨h.symm,n',d',g.2,?_⟩
    obtain ⟨a0,a1,a2,ha,hcl⟩:=lX n' d'
    obtain ⟨e0,e1,e2,he,hcl2⟩:=lX 0 1
    unfold qZ cO pD at *
    rw [he] at h0 hl
    rw [ha] at hl ⊢
    have hcl2:=hcl2 0 10
    have hfz:=(hcl 0 9).2.2.2
    have hfz2:=(hcl 0 10).2.2.2
    have hcl:=hcl 0 10
    clear hz hq
    obtain ⟨p1,p2⟩:=p
    generalize qC n2 d2'=z2 at *
    obtain ⟨i,m,fq,cc,rd,n,s,e,ex⟩:=b
    unfold aC ay at *
    simp only at *
    subst hc
    refine aj (Hu ..) ?_
    simp [y9,h0,hl,hcl,hcl2,hfz,hfz2,aS]
  | some l =>
    obtain ⟨n',d',g,hl⟩:=hz.1 l hq
    have hlen:=hN l hq
    simp only
    rw [if_neg hin]
    refine ⟨fun q h=>?_,fun c h=>by simp at h⟩
    simp at h
    subst h
    refine ⟨n',d',g.mono (by omega),?_⟩
    obtain ⟨a0,a1,a2,ha,hcl⟩:=lX n' d'
    obtain ⟨e0,e1,e2,he,hcl2⟩:=lX 0 1
    unfold qZ cO pD at *
    rw [he] at h0 hl
    rw [ha] at hl ⊢
    have hcl2:=hcl2 0 10
    have hfz:=(hcl 0 9).2.2.2
    have hfz2:=(hcl 0 10).2.2.2
    have hcl:=hcl 0 10
    clear hz hq g
    obtain ⟨p1,p2⟩:=p
    obtain ⟨i,m,fq,cc,rd,n,s,e,ex⟩:=b
    unfold aC ay at *
    simp only at *
    subst hc
    refine aj (Hu ..) ?_
    simp [y9,h0,hl,hcl,hcl2,hfz,hfz2,aS]
 ·simp only [if_neg hc]
  rw [if_neg hin]
  refine ⟨fun q h=>?_,fun c h=>by simp at h⟩
  simp at h
  subst h
  have hp:=asr (k:=b.count) (a:=x) (b:=y) (by omega) (by omega) dx dy hxy
  have hbd:=Qm (k:=b.count) dx dy
  refine ⟨d_ b.count x y,if b.count=3 then 365 else 360,?_,?_⟩
  ·refine ⟨⟨(gQ (by omega)).mono (by omega),?_⟩,by split <;> omega,?_⟩
   ·refine NB.mono (j:=64) ?_ (by omega)
    unfold NB
    split <;> decide
   ·unfold Oe
    split <;> rfl
  ·generalize d_ b.count x y=z at *
   generalize (if b.count=3 then 365 else 360)=w at *
   obtain ⟨a0,a1,a2,ha,hcl⟩:=lX z w
   unfold cO pD at *
   rw [ha] at hp ⊢
   have hfz:=(hcl 0 9).2.2.2
   have hfz2:=(hcl 0 10).2.2.2
   have hcl:=hcl 0 10
   obtain ⟨p1,p2⟩:=p
   obtain ⟨i,m,fq,cc,rd,n,s,e,ex⟩:=b
   unfold aC ay at *
   simp only at *
   refine aj (Hu ..) ?_
   simp [y9,hc,hp,hcl,hfz,hfz2,aS]
theorem axp {b:aA} (hchk:chk b=none):V7 b.aY 0 30 true=0∧V7 b.bJ 0 200 false=0:=by
 have h1:=(bV hchk).2.2
 rw [anp] at h1
 by_cases c1:V7 b.aY 0 30 true=0
 ·rw [if_neg (fun h=>h c1)] at h1
  by_cases c2:V7 b.bJ 0 200 false=0
  ·exact ⟨c1,c2⟩
  ·rw [if_pos c2] at h1; simp at h1
 ·rw [if_pos c1] at h1; simp at h1
theorem aA5 {s:List UInt8} {lo hi:Int} {fr:Bool} (h:V7 s lo hi fr=0):∃ p,oZ s=some (Rat.divInt (wiN s lo hi fr) (wiM s lo hi fr),p)∧Wo 300 (wiN s lo hi fr) (wiM s lo hi fr) (Rat.divInt (wiN s lo hi fr) (wiM s lo hi fr)):=by
 have hq := @amQ s
 rw [aed]
 unfold wiN wiM
 rw [if_pos h,if_pos h]
 unfold V7 at h
 cases hg:MV s with
 | none=>rw [hg] at h; simp at h
 | some np =>
   obtain ⟨n,p⟩:=np
   exact ⟨p,rfl,⟨(hq hg).1,Nat.pow_pos (by decide),rfl⟩⟩
theorem abk {b:aA} (hchk:chk b=none) (hc:b.aY.length≤1000):∃ n d,Wo 300 n d (pV b)∧L.call sJ [aC b]=some (cO n d):=by
 obtain ⟨h1,h2⟩:=axp hchk
 obtain ⟨p,g1,g2⟩:=aA5 h1
 have hw:=II hc (lo:=0) (hi:=30) (by omega) (by omega) true
 rw [asY,h1] at hw
 have hv:pV b=Rat.divInt (wiN b.aY 0 30 true) (wiM b.aY 0 30 true):=by
  unfold pV
  rw [hchk,g1]
 refine ⟨_,_,by rw [hv]; exact g2,?_⟩
 clear hv g1 g2
 obtain ⟨a0,a1,a2,ha,hcl⟩:=lX (wiN b.aY 0 30 true) (wiM b.aY 0 30 true)
 unfold cO at *
 rw [ha] at hw ⊢
 have hfz:=(hcl 0 9).2.2.2
 have hfz2:=(hcl 0 10).2.2.2
 have hcl:=hcl 0 10
 obtain ⟨i,m,fq,cc,rd,n,s,e,ex⟩:=b
 unfold aC ay at *
 simp only at *
 refine aj (acQ ..) ?_
 simp [PI,hw,hcl,hfz,hfz2,aS]
theorem Rl {b:aA} (hchk:chk b=none) (hc:b.bJ.length≤1000):∃ n d,Wo 300 n d (fJ b)∧L.call sK [aC b]=some (cO n d):=by
 obtain ⟨h1,h2⟩:=axp hchk
 obtain ⟨p,g1,g2⟩:=aA5 h2
 have hw:=II hc (lo:=0) (hi:=200) (by omega) (by omega) false
 rw [asY,h2] at hw
 have hv:fJ b=Rat.divInt (wiN b.bJ 0 200 false) (wiM b.bJ 0 200 false):=by
  unfold fJ
  rw [hchk,g1]
 refine ⟨_,_,by rw [hv]; exact g2,?_⟩
 clear hv g1 g2
 obtain ⟨a0,a1,a2,ha,hcl⟩:=lX (wiN b.bJ 0 200 false) (wiM b.bJ 0 200 false)
 unfold cO at *
 rw [ha] at hw ⊢
 have hfz:=(hcl 0 9).2.2.2
 have hfz2:=(hcl 0 10).2.2.2
 have hcl:=hcl 0 10
 obtain ⟨i,m,fq,cc,rd,n,s,e,ex⟩:=b
 unfold aC ay at *
 simp only at *
 refine aj (acS ..) ?_
 simp [PK,hw,hcl,hfz,hfz2,aS]
set_option maxHeartbeats 1000000 in
theorem Zx {b:aA} (hchk:chk b=none) (hc:b.aY.length≤1000) {p:Int×Int} (d1:aU p.1) (d2:aU p.2) (hlt:p.1<p.2) {N:Nat} (hN:∀ l,nP b p=some l→l.length≤N) (hN2:N≤3600) :
  (∀ q,oq b p = .ok q→∃ n d,Wo (400+65*N) n d q∧L.call jX [aC b,pD p]=some (.aG [cO n d,.bool true])) ∧
  (∀ c,oq b p = .error c→c=4∧∃ n d,QB 9601000 n d∧L.call jX [aC b,pD p]=some (.aG [cO n d,.bool false])):=by
 obtain ⟨cn,cd,wc,hcp⟩:=abk hchk hc
 have hrg:=OU hchk p
 have hpt:=Xi hchk d1 d2 hlt (x:=p.1) (y:=p.2) (Int.le_refl _) (by omega) (Int.le_refl _) hN hN2
 have hf:=dZ (bV hchk).2.1
 have hfb:1≤b.bG∧b.bG≤12:=by rcases hf with h | h | h | h <;> omega
 have hfr:=D5 (n:=1) (d:=b.bG) (by omega) (by omega)
 have hfw:=Wo.av4 (n:=1) (d:=b.bG) (by omega) (by omega)
 unfold oq
 by_cases hr:regular b p=true
 ·rw [if_pos hr]
  rw [hr] at hrg
  refine ⟨fun q h=>?_,fun c h=>by simp at h⟩
  simp at h
  subst h
  have hpr:=nS wc.qb hfw.qb (by omega)
  refine ⟨_,_,(wc.prod hfw).mono (by omega),?_⟩
  obtain ⟨a0,a1,a2,ha,hcl⟩:=lX (cn*1) (cd*b.bG.natAbs)
  obtain ⟨b0,b1,b2,hb,hcl2⟩:=lX 1 b.bG.natAbs
  obtain ⟨c0,c1,c2,hc',hcl3⟩:=lX cn cd
  unfold cO pD at *
  rw [ha] at hpr ⊢
  rw [hb] at hpr hfr
  rw [hc'] at hpr hcp
  have hfz:=(hcl 0 9).2.2.2
  have hfz2:=(hcl 0 10).2.2.2
  have hcl:=hcl 0 10
  have hcl2:=hcl2 0 10
  have hcl3:=hcl3 0 10
  clear hpt wc hfw
  obtain ⟨p1,p2⟩:=p
  obtain ⟨i,m,fq,cc,rd,n,s,e,ex⟩:=b
  unfold aC ay at *
  simp only at *
  refine aj (IX ..) ?_
  simp [AZ,hrg,hcp,hfr,hpr,hcl,hcl2,hcl3,hfz,hfz2,aS]
 ·rw [if_neg hr]
  have hr0:regular b p=false:=by simpa using hr
  rw [hr0] at hrg
  cases hpb:jW b p p.1 p.2 with
  | ok v =>
    simp only
    refine ⟨fun q h=>?_,fun c h=>by simp at h⟩
    simp at h
    subst h
    obtain ⟨pn,pd,wp,hpc⟩:=hpt.1 v hpb
    have hpr:=nS wc.qb wp.qb (by omega)
    refine ⟨_,_,(wc.prod wp).mono (by omega),?_⟩
    obtain ⟨a0,a1,a2,ha,hcl⟩:=lX (cn*pn) (cd*pd)
    obtain ⟨b0,b1,b2,hb,hcl2⟩:=lX pn pd
    obtain ⟨c0,c1,c2,hc',hcl3⟩:=lX cn cd
    unfold cO pD at *
    rw [ha] at hpr ⊢
    rw [hb] at hpr hpc
    rw [hc'] at hpr hcp
    have hfz:=(hcl 0 9).2.2.2
    have hfz2:=(hcl 0 10).2.2.2
    have hcl:=hcl 0 10
    have hcl2:=hcl2 0 10
    have hcl3:=hcl3 0 10
    clear hpt wc hfw hpb
    obtain ⟨p1,p2⟩:=p
    obtain ⟨i,m,fq,cc,rd,n,s,e,ex⟩:=b
    unfold aC ay at *
    simp only at *
    refine aj (IX ..) ?_
    simp [AZ,hrg,hcp,hpc,hpr,hcl,hcl2,hcl3,hfz,hfz2,aS]
  | error c' =>
    simp only
    refine ⟨fun q h=>by simp at h,fun c h=>?_⟩
    simp at h
    subst h
    obtain ⟨h4,pn,pd,wp,hpc⟩:=hpt.2 c' hpb
    have hpr:=nS wc.qb wp (by omega)
    refine ⟨h4,_,_,(wc.qb.prod wp).mono (by omega),?_⟩
    obtain ⟨a0,a1,a2,ha,hcl⟩:=lX (cn*pn) (cd*pd)
    obtain ⟨b0,b1,b2,hb,hcl2⟩:=lX pn pd
    obtain ⟨c0,c1,c2,hc',hcl3⟩:=lX cn cd
    unfold cO pD at *
    rw [ha] at hpr ⊢
    rw [hb] at hpr hpc
    rw [hc'] at hpr hcp
    have hfz:=(hcl 0 9).2.2.2
    have hfz2:=(hcl 0 10).2.2.2
    have hcl:=hcl 0 10
    have hcl2:=hcl2 0 10
    have hcl3:=hcl3 0 10
    clear hpt wc hfw hpb
    obtain ⟨p1,p2⟩:=p
    obtain ⟨i,m,fq,cc,rd,n,s,e,ex⟩:=b
    unfold aC ay at *
    simp only at *
    refine aj (IX ..) ?_
    simp [AZ,hrg,hcp,hpc,hpr,hcl,hcl2,hcl3,hfz,hfz2,aS]
end Go.Ev.Code
end
section
namespace Go.Ev.Code
open Go Go.Ev
def bK:List (Int×Int×Nat)→List D
 | []=>[]
 | (d,n,m)::r => .int .i64 d::(qC n m++bK r)
theorem aq5 (l r:List (Int×Int×Nat)):bK (l++r)=bK l++bK r:=by
 induction l with
 | nil=>rfl
 | cons x xs ih=>obtain ⟨a,b,c⟩:=x; simp [bK,ih]
theorem Y9 (l:List (Int×Int×Nat)):(bK l).length=l.length*4:=by
 induction l with
 | nil=>rfl
 | cons x xs ih=>obtain ⟨a,b,c⟩:=x; simp [bK,ih,sG]; omega
theorem ET (l:List (Int×Int×Nat)) (b n:Nat):(bK l).all (D.clo b (n+1))=true:=by
 induction l with
 | nil=>rfl
 | cons x xs ih =>
   obtain ⟨p,q,r⟩:=x
   have := Vz q r b n
   simp only [bK,List.all_cons,List.all_append,ih,this]
   rfl
theorem aq9 (l:List (Int×Int×Nat)) (n:Nat) (m:Mem):jd (fz (n+1)) (bK l) m=some (bK l,m):=by
 induction l with
 | nil=>rfl
 | cons x xs ih =>
   obtain ⟨p,q,r⟩:=x
   obtain ⟨c0,c1,c2,h,hc⟩:=lX q r
   obtain ⟨_,_,_,hf⟩:=hc 0 n
   simp only [bK]
   rw [h]
   simp [hf,ih]
theorem Gp (a b c d:D):zeros 1 [a,b,c,d]=[a,b,c,d]:=by rfl
def J3 (acc:List (Int×Int×Nat)):D:=if acc=[] then .dh else .aO 1 0 acc.length 4
def J4 (acc:List (Int×Int×Nat)):Mem:=if acc=[] then [] else [.live (bK acc)]
set_option maxHeartbeats 4000000 in
theorem U5 {b:aA} {ps pfx rest:List (Int×Int)} {p:Int×Int} {acc:List (Int×Int×Nat)} (hal:ps=pfx++p::rest) (hps:ps.length≤100000) (hl:acc.length=pfx.length) {n n1:Int} {d d1:Nat}
  (hp:L.call jX [aC b,pD p]=some (.aG [cO n d,.bool true]))
  (hcase:(rest≠[]∧n1=n∧d1=d)∨(rest=[]∧∃ rn rd,L.call sK [aC b]=some (cO rn rd)∧L.call mZ [cO n d,cO rn rd]=some (cO n1 d1))) {R:Ex×List D×Mem}
  (hR:L.loop [1,4,6,7] [2,3,6] gu 1 [.loc 0 0,dO ps,J3 (acc++[(p.2,n1,d1)]),.int .i64 ((pfx.length+1:Nat):Int)] ([.live (ay b)]++J4 (acc++[(p.2,n1,d1)]))=some R) :
  L.loop [1,4,6,7] [2,3,6] gu 1 [.loc 0 0,dO ps,J3 acc,.int .i64 pfx.length] ([.live (ay b)]++J4 acc)=some R:=by
 have hbc:=fun k j=>iZ b k j
 have hbl:=kK b
 have hg:=mP (ps:=ps) (i:=pfx.length) (p:=p) (by rw [hal]; simp)
 have hlt:pfx.length<ps.length:=by rw [hal]; simp
 have hlast:(pfx.length:Int)=(ps.length:Int)-1↔rest=[]:=by
  have : ps.length=pfx.length+1+rest.length:=by rw [hal]; simp; omega
  constructor
  ·intro h; exact List.eq_nil_of_length_eq_zero (by omega)
  ·rintro rfl; simp at this; omega
 have e1:IntKind.i64.wrap ((pfx.length:Int)+1)=((pfx.length+1:Nat):Int):=by rw [wrap64 _ (by omega)]; omega
 have e2:IntKind.i64.wrap ((ps.length:Int)-1)=(ps.length:Int)-1:=wrap64 _ (by omega)
 have hne:¬ acc++[(p.2,n1,d1)]=[]:=by simp
 unfold J3 J4 at hR
 rw [if_neg hne,if_neg hne,aq5,List.length_append,List.length_singleton] at hR
 have hone:bK [(p.2,n1,d1)] = .int .i64 p.2::qC n1 d1:=by simp [bK]
 rw [hone] at hR
 obtain ⟨p1,p2⟩:=p
 unfold pD dO at *
 simp only at *
 obtain ⟨g1,g2,g3,g4⟩:=hg
 obtain ⟨a0,a1,a2,ha,hca⟩:=lX n d
 obtain ⟨c0,c1,c2,hc,hcc⟩:=lX n1 d1
 have hA:acc.length+1≤4294967296:=by omega
 have hfl:=Y9 acc
 have hfc:=ET acc
 have htkf:(bK acc).take (acc.length*4)=bK acc:=List.take_of_length_le (by omega)
 have hnil:acc=[]→bK acc=[]:=fun h=>by rw [h]; rfl
 have hf1:=hfc 0 11
 have hf2:=hfc 1 11
 have hf3:=hfc 2 11
 have hf4:=hfc 3 11
 clear hfc
 have hb1:=hbc 0 10
 have hb2:=hbc 0 11
 have hb3:=hbc 1 11
 have hb4:=hbc 2 11
 have hb5:=hbc 3 11
 clear hbc
 have h1:=hca 0 10
 have h2:=hca 1 11
 have h3:=hca 2 11
 have h4:=hca 3 11
 have k1:=hcc 0 10
 have k2:=hcc 1 11
 have k3:=hcc 2 11
 have k4:=hcc 3 11
 clear hca hcc
 unfold aC cO at *
 rw [ha] at hp
 rw [hc] at hR
 generalize hFC:bK acc=fc at *
 generalize aX ps=pc at *
 generalize hB:ay b=B at *
 have htk:B.take 9=B:=List.take_of_length_le (by omega)
 have hltI:(pfx.length:Int)<ps.length:=by omega
 unfold J3 J4
 rw [hFC]
 rcases hcase with ⟨hr,rfl,rfl⟩ | ⟨hr,rn,rd,hrd,hsm⟩
 ·have hi:¬ (pfx.length:Int)=(ps.length:Int)-1:=fun h=>hr (hlast.1 h)
  rw [ha] at hc
  simp at hc
  obtain ⟨rfl,rfl,rfl⟩:=hc
  clear hlast
  by_cases hac:acc=[]
  ·have hfc0:=hnil hac
   subst hfc0
   have hz:acc.length=0:=by rw [hac]; rfl
   rw [hz] at hR
   rw [if_pos hac,if_pos hac]
   generalize ps.length=N at *
   generalize pfx.length=P at *
   refine au (jS ..) ?_
   simp at hR
   simp [iU,hlt,hltI,g1,g2,g3,g4,hp,htk,hbl,hb1,hb2,hb3,hb4,hb5,h1,h2,h3,h4,e1,e2,hi,aS,Gp,hR]
  ·rw [if_neg hac,if_neg hac]
   generalize acc.length=A at *
   generalize ps.length=N at *
   generalize pfx.length=P at *
   refine au (jS ..) ?_
   simp at hR
   simp [iU,hlt,hltI,g1,g2,g3,g4,hp,htk,hbl,hb1,hb2,hb3,hb4,hb5,h1,h2,h3,h4,e1,e2,hi,aS,Gp,hf1,hf2,hf3,hf4,htkf,hfl,hA,iM,hR]
 ·have hi:=hlast.2 hr
  obtain ⟨r0,r1,r2,hrr,hcr⟩:=lX rn rd
  have j1:=hcr 0 10
  clear hcr
  rw [hrr] at hrd hsm
  rw [ha,hc] at hsm
  clear hlast
  by_cases hac:acc=[]
  ·have hfc0:=hnil hac
   subst hfc0
   have hz:acc.length=0:=by rw [hac]; rfl
   rw [hz] at hR
   rw [if_pos hac,if_pos hac]
   generalize ps.length=N at *
   generalize pfx.length=P at *
   have hi':(N:Int)-1=P:=by omega
   have e2':IntKind.i64.wrap (P:Int)=P:=wrap64 _ (by omega)
   refine au (jS ..) ?_
   simp at hR
   simp [iU,hlt,hltI,g1,g2,g3,g4,hp,hrd,hsm,htk,hbl,hb1,hb2,hb3,hb4,hb5,h1,h2,h3,h4,j1,k1,k2,k3,k4,e1,e2,e2',hi',aS,Gp,hR]
  ·rw [if_neg hac,if_neg hac]
   generalize acc.length=A at *
   generalize ps.length=N at *
   generalize pfx.length=P at *
   have hi':(N:Int)-1=P:=by omega
   have e2':IntKind.i64.wrap (P:Int)=P:=wrap64 _ (by omega)
   refine au (jS ..) ?_
   simp at hR
   simp [iU,hlt,hltI,g1,g2,g3,g4,hp,hrd,hsm,htk,hbl,hb1,hb2,hb3,hb4,hb5,h1,h2,h3,h4,j1,k1,k2,k3,k4,e1,e2,e2',hi',aS,Gp,hf1,hf2,hf3,hf4,htkf,hfl,hA,iM,hR]
def Gq (k:Nat):List (Int×Int×Nat)→List (Int×Rat)→Prop
 | [],[]=>True
 | w::ws,f::fs=>w.1=f.1∧Wo k w.2.1 w.2.2 f.2∧Gq k ws fs
 | _,_=>False
theorem Gq.len {k:Nat}:∀ {ws:List (Int×Int×Nat)} {fs:List (Int×Rat)},Gq k ws fs→ws.length=fs.length
 | [],[],_=>rfl
 | _::_,_::_,h=>by simp [Gq.len h.2.2]
 | [],_::_,h=>h.elim
 | _::_,[],h=>h.elim
theorem U4 {b:aA} (hchk:chk b=none) (hc:b.aY.length≤1000) (hr:b.bJ.length≤1000) {ps:List (Int×Int)} (hps:ps.length≤100000):∀ (rest pfx:List (Int×Int)) (acc:List (Int×Int×Nat)),ps=pfx++rest→acc.length=pfx.length→acc≠[] →
  (∀ p∈rest,oq b p = .ok (fP b)∧aU p.1∧aU p.2∧p.1<p.2∧∀ l,nP b p=some l→l.length≤2) →
  ∃ ws,Gq 840 ws (fK (fP b) (fJ b) rest)∧L.loop [1,4,6,7] [2,3,6] gu 1 [.loc 0 0,dO ps,J3 acc,.int .i64 pfx.length] ([.live (ay b)]++J4 acc) =
    some (.exit 0,[.undef,.undef,.aO 1 0 ps.length 4],[.live (ay b),.live (bK (acc++ws))])
 | [],pfx,acc,hal,hl,hne,_=>by
   refine ⟨[],trivial,?_⟩
   rw [List.append_nil] at hal
   subst hal
   have hf1:=ET acc 1 11
   have hb1:=iZ b 1 11
   unfold J3 J4 dO
   rw [if_neg hne,if_neg hne,hl,List.append_nil]
   generalize bK acc=fc at *
   generalize ay b=B at *
   generalize aX ps=pc at *
   generalize ps.length=N at *
   refine au (jS ..) ?_
   simp [iU,hf1,hb1]
 | p::rest,pfx,acc,hal,hl,hne,hall=>by
   obtain ⟨h1,h2,h3,h4,h5⟩:=hall p (by simp)
   obtain ⟨n,d,hw,hp⟩:=(Zx hchk hc h2 h3 h4 h5 (by omega)).1 _ h1
   obtain ⟨rn,rd,hwr,hrd⟩:=Rl hchk hr
   have hsm:=Hf hw.qb hwr.qb (by omega)
   have hall2:=fun q hq=>hall q (List.mem_cons_of_mem _ hq)
   by_cases hre:rest=[]
   ·obtain ⟨ws,g1,g2⟩:=U4 hchk hc hr hps rest (pfx++[p]) (acc++[(p.2,n*rd+rn*d,d*rd)]) (by rw [hal]; simp) (by simp [hl]) (by simp) hall2
    rw [List.length_append,List.length_singleton,List.append_assoc] at g2
    have hst:=U5 hal hps hl hp (.inr ⟨hre,rn,rd,hrd,hsm⟩) g2
    refine ⟨(p.2,n*rd+rn*d,d*rd)::ws,?_,by simpa using hst⟩
    subst hre
    simp only [fK] at g1 ⊢
    exact ⟨rfl,(hw.sum hwr).mono (by omega),g1⟩
   ·obtain ⟨ws,g1,g2⟩:=U4 hchk hc hr hps rest (pfx++[p]) (acc++[(p.2,n,d)]) (by rw [hal]; simp) (by simp [hl]) (by simp) hall2
    rw [List.length_append,List.length_singleton,List.append_assoc] at g2
    have hst:=U5 hal hps hl hp (.inl ⟨hre,rfl,rfl⟩) g2
    refine ⟨(p.2,n,d)::ws,?_,by simpa using hst⟩
    obtain ⟨q,r,rfl⟩:=List.exists_cons_of_ne_nil hre
    simp only [fK] at g1 ⊢
    exact ⟨rfl,hw.mono (by omega),g1⟩
theorem awz {b:aA} {ps:List (Int×Int)} {p:Int×Int} {r:List (Int×Int)} (hal:ps=p::r) {n:Int} {d:Nat} (hp:L.call jX [aC b,pD p]=some (.aG [cO n d,.bool false])) :
  ∃ t M,L.loop [1,4,6,7] [2,3,6] gu 1 [.loc 0 0,dO ps,.dh,.int .i64 0] [.live (ay b)]=some (.ret,[.dh,.bool false,t],M)∧M=[.live (ay b)]:=by
 have hbc:=fun k j=>iZ b k j
 have hbl:=kK b
 have hg:=mP (ps:=ps) (i:=0) (p:=p) (by rw [hal]; simp)
 have hlt:0<ps.length:=by rw [hal]; simp
 have hltI:(0:Int)<ps.length:=by omega
 obtain ⟨p1,p2⟩:=p
 unfold pD dO at *
 simp only at *
 obtain ⟨g1,g2,g3,g4⟩:=hg
 obtain ⟨a0,a1,a2,ha,hca⟩:=lX n d
 have hb1:=hbc 0 10
 have hb2:=hbc 0 11
 have hb3:=hbc 1 11
 clear hbc
 have h1:=hca 0 10
 have h2:=hca 1 11
 clear hca
 unfold aC cO at *
 rw [ha] at hp
 generalize aX ps=pc at *
 generalize ay b=B at *
 have htk:B.take 9=B:=List.take_of_length_le (by omega)
 generalize ps.length=N at *
 simp at g1 g2 g3 g4
 refine ⟨.dh,_,au (jS ..) ?_,rfl⟩
 simp [iU,hlt,hltI,g1,g2,g3,g4,hp,htk,hbl,hb1,hb2,hb3,h1,h2,aS,Gp]
set_option maxHeartbeats 1000000 in
theorem Ub {b:aA} (hp0:(aF b).1=none) (hc:b.aY.length≤1000) (hr:b.bJ.length≤1000) :
  ((aW b).1=none→∃ ws,Gq 840 ws (aW b).2∧L.call oL [aC b]=some (.aG [.sl ws.length (bK ws),.bool true])) ∧
  (∀ e,(aW b).1=some e→e=(4,none)∧L.call oL [aC b]=some (.aG [.sl 0 [],.bool false])):=by
 have hchk:=dK hp0
 have hpl:=Xj hchk
 have hpd:∀ p∈(aF b).2,aU p.1∧aU p.2∧p.1<p.2∧∀ l,nP b p=some l→l.length≤2:=fun p h=>⟨(gU hp0 h).1,(gU hp0 h).2.1,(gU hp0 h).2.2,fun l hl=>OO hp0 h hl⟩
 have hw:=(dP hp0).2
 have hps:(aF b).2.length≤100000:=by have := hw.len; omega
 have hbd:=iZ b 0 10
 have hbl:=kK b
 unfold ZC at hpl
 unfold aW
 rw [hp0]
 simp only
 cases hP:aF b with
 | mk e ps =>
   rw [hP] at hp0 hpl hpd hw hps
   simp only at *
   subst hp0
   simp only at hpl
   match ps,hpl,hpd,hw,hps with
   | [],hpl,hpd,hw,hps=>exact absurd rfl hw.ne
   | p::r,hpl,hpd,hw,hps =>
     simp only
     obtain ⟨d1,d2,d3,d4⟩:=hpd p (by simp)
     have hpy:=Zx hchk hc d1 d2 d3 d4 (by omega)
     cases hpb:oq b p with
     | error c =>
       simp only
       refine ⟨fun h=>by simp at h,fun e h=>?_⟩
       simp at h
       obtain ⟨h4,n,d,_,hpc⟩:=hpy.2 c hpb
       refine ⟨by rw [← h,h4],?_⟩
       obtain ⟨t,M,hl,hM⟩:=awz (b:=b) (ps:=p::r) rfl hpc
       subst hM
       clear hpy hw
       unfold aC dO at *
       generalize ay b=B at *
       have htk:B.take 9=B:=List.take_of_length_le (by omega)
       generalize aX (p::r)=pc at *
       generalize (p::r).length=N at *
       refine aj (PY ..) ?_
       simp [F5,hbd,hbl,htk,hpl,hl]
     | ok q =>
       simp only
       refine ⟨fun _=>?_,fun e h=>by simp at h⟩
       have hall:∀ s∈r,oq b s = .ok (fP b)∧aU s.1∧aU s.2∧s.1<s.2∧∀ l,nP b s=some l→l.length≤2:=by
        intro s hs
        obtain ⟨i,hi⟩:=List.getElem?_of_mem hs
        obtain ⟨u,hu⟩:∃ u,(p::r)[i]?=some u:=by
         have : i<(p::r).length:=by have := (List.getElem?_eq_some_iff.1 hi).1; simp; omega
         exact ⟨_,List.getElem?_eq_getElem this⟩
        have := (hw.next i s u hu (by simpa using hi)).2
        exact ⟨by unfold oq; rw [if_pos this],hpd s (by simp [hs])⟩
       obtain ⟨n,d,hwn,hpc⟩:=hpy.1 q hpb
       obtain ⟨rn,rd,hwr,hrd⟩:=Rl hchk hr
       have hsm:=Hf hwn.qb hwr.qb (by omega)
       obtain ⟨ws,g1,g2⟩:∃ ws,Gq 840 ws (kE q (fP b) (fJ b) (p::r))∧L.loop [1,4,6,7] [2,3,6] gu 1 [.loc 0 0,dO (p::r),.dh,.int .i64 0] [.live (ay b)]=some (.exit 0,[.undef,.undef,.aO 1 0 (p::r).length 4],[.live (ay b),.live (bK ws)]):=by
        by_cases hre:r=[]
        ·obtain ⟨ws,g1,g2⟩:=U4 hchk hc hr hps r [p] [(p.2,n*rd+rn*d,d*rd)] rfl rfl (by simp) hall
         have hst:=U5 (b:=b) (ps:=p::r) (pfx:=[]) (acc:=[]) rfl hps rfl hpc (.inr ⟨hre,rn,rd,hrd,hsm⟩) g2
         refine ⟨(p.2,n*rd+rn*d,d*rd)::ws,?_,hst⟩
         subst hre
         simp only [fK,kE] at g1 ⊢
         exact ⟨rfl,(hwn.sum hwr).mono (by omega),g1⟩
        ·obtain ⟨ws,g1,g2⟩:=U4 hchk hc hr hps r [p] [(p.2,n,d)] rfl rfl (by simp) hall
         have hst:=U5 (b:=b) (ps:=p::r) (pfx:=[]) (acc:=[]) rfl hps rfl hpc (.inl ⟨hre,rfl,rfl⟩) g2
         refine ⟨(p.2,n,d)::ws,?_,hst⟩
         obtain ⟨u,v,rfl⟩:=List.exists_cons_of_ne_nil hre
         simp only [fK,kE] at g1 ⊢
         exact ⟨rfl,hwn.mono (by omega),g1⟩
       have hlen:(p::r).length=ws.length:=by rw [g1.len,Vk]
       refine ⟨ws,g1,?_⟩
       have hfl:=Y9 ws
       have htkf:(bK ws).take (ws.length*4)=bK ws:=List.take_of_length_le (by omega)
       have hfz:∀ m,jd (fz 10) (bK ws) m=some (bK ws,m):=fun m=>aq9 ws 9 m
       have hcl:=ET ws 0 11
       rw [hlen] at g2
       unfold aC dO at *
       rw [hlen] at g2 hpl
       clear hpy hw hall g1 hpd
       generalize ay b=B at *
       have htk:B.take 9=B:=List.take_of_length_le (by omega)
       generalize aX (p::r)=pc at *
       generalize ws.length=N at *
       generalize bK ws=fc at *
       refine aj (PY ..) ?_
       simp [F5,hbd,hbl,htk,hpl,g2,htkf,hfz,hfl,hcl]
end Go.Ev.Code
end
section
namespace Go.Ev.Code
open Go Go.Ev
theorem aqB {b:aA} {c:Int} {t:List UInt8} (h:chk b=some (c,t)):c≠0:=by
 have hs:=anp b
 unfold chk Em at h
 split at h
 ·rename_i e he
  rw [← he] at h
  split at h
  ·simp at h; omega
  ·split at h
   ·simp at h; omega
   ·split at h
    ·simp at h; omega
    ·split at h
     ·split at h
      ·simp at h; omega
      ·simp at h
     ·simp at h
 ·split at h
  ·simp at h; omega
  ·split at h
   ·rename_i e he
    rw [← he] at h
    rw [hs] at h
    split at h
    ·rename_i h1
     simp at h; rw [← h.1]; exact h1
    ·split at h
     ·rename_i h1
      simp at h; rw [← h.1]; exact h1
     ·simp at h
   ·split at h
    ·simp at h; omega
    ·split at h
     ·simp at h; omega
     ·split at h
      ·simp at h; omega
      ·split at h
       ·simp at h; omega
       ·simp at h
theorem aop {b:aA} (hchk:chk b=none) {e:Int×List UInt8} (h:(aF b).1=some e):e.1=5:=by
 unfold aF at h
 rw [hchk] at h
 simp only at h
 split at h
 ·simp at h
 ·split at h
  ·simp at h; rw [← h]
  ·split at h
   ·split at h <;> simp at h
   ·simp at h
set_option maxHeartbeats 1000000 in
theorem JH {b:aA} (hc:b.aY.length≤1000) (hr:b.bJ.length≤1000) (s:Int):L.call FD [aC b,.int .i64 s]=some (.int .i64 (gW (leftB b s).1)):=by
 have hck:=am_ hc hr
 have hbd:=iZ b 0 10
 have hbl:=kK b
 cases hchk:chk b with
 | some ct =>
   obtain ⟨c,t⟩:=ct
   rw [hchk] at hck
   have hne:=aqB hchk
   have hv:gW (leftB b s).1=c:=by
    unfold leftB aW aF
    rw [hchk]
    rfl
   rw [hv]
   unfold jl aC at *
   generalize ay b=B at *
   have htk:B.take 9=B:=List.take_of_length_le (by omega)
   refine aj (zV ..) ?_
   simp [lq,hbd,hbl,htk,hck,hne]
 | none =>
   rw [hchk] at hck
   have hpl:=Xj hchk
   unfold ZC at hpl
   cases hp0:(aF b).1 with
   | some e =>
     have h5:=aop hchk hp0
     have hv:gW (leftB b s).1=5:=by
      unfold leftB aW
      rw [hp0]
      obtain ⟨e1,e2⟩:=e
      exact h5
     rw [hv]
     have hpl:L.call fQ [aC b]=some (.aG [.sl 0 [],.bool false]):=by
      rw [hpl]
      cases hP:aF b with
      | mk p1 p2 =>
        rw [hP] at hp0
        simp only at hp0
        subst hp0
        rfl
     unfold jl aC at *
     generalize ay b=B at *
     have htk:B.take 9=B:=List.take_of_length_le (by omega)
     refine aj (zV ..) ?_
     simp [lq,hbd,hbl,htk,hck,hpl]
   | none =>
     have hpl:L.call fQ [aC b]=some (.aG [dO (aF b).2,.bool true]):=by
      rw [hpl]
      cases hP:aF b with
      | mk p1 p2 =>
        rw [hP] at hp0
        simp only at hp0
        subst hp0
        rfl
     have hfl:=Ub hp0 hc hr
     cases hf0:(aW b).1 with
     | some e =>
       obtain ⟨he,hfl⟩:=hfl.2 e hf0
       have hv:gW (leftB b s).1=4:=by
        unfold leftB
        rw [hf0,he]
        rfl
       rw [hv]
       unfold jl aC dO at *
       generalize (aF b).2.length=N at *
       generalize aX (aF b).2=pc at *
       generalize ay b=B at *
       have htk:B.take 9=B:=List.take_of_length_le (by omega)
       refine aj (zV ..) ?_
       simp [lq,hbd,hbl,htk,hck,hpl,hfl]
     | none =>
       obtain ⟨ws,_,hfl⟩:=hfl.1 hf0
       have hv:gW (leftB b s).1=if s<b.issue∨b.bU≤s then 6 else 0:=by
        unfold leftB
        rw [hf0]
        simp only
        split <;> rfl
       rw [hv]
       unfold jl dO at *
       generalize (aF b).2.length=N at *
       generalize aX (aF b).2=pc at *
       generalize ws.length=M at *
       generalize bK ws=fc at *
       obtain ⟨i,m,fq,cc,rd,n,st,e,ex⟩:=b
       unfold aC ay at *
       simp only at *
       refine aj (zV ..) ?_
       by_cases h1:s<i
       ·rw [if_pos (.inl h1)]
        simp [lq,hck,hpl,hfl,h1]
       ·by_cases h2:m≤s
        ·rw [if_pos (.inr h2)]
         simp [lq,hck,hpl,hfl,h1,h2]
        ·rw [if_neg (fun h=>by rcases h with h | h <;> contradiction)]
         simp [lq,hck,hpl,hfl,h1,h2]
theorem az' {d:Int} (all:List (Int×Int)) (hn:all.length≤1000000):∀ (l pre:List (Int×Int)),all=pre++l →
  L.loop [0,1,5] [4] uJ 0 [dO all,.int .i64 d,.int .i64 pre.length] []=some (atR (YG d l pre.length)):=by
 intro l
 induction l with
 | nil =>
   intro pre hal
   rw [List.append_nil] at hal
   subst hal
   simp only [YG,atR,if_true]
   unfold dO
   generalize aX all=pc at *
   generalize all.length=n at *
   refine au (PV ..) ?_
   simp [qI]
 | cons p r ih =>
   intro pre hal
   have hg:=mP (ps:=all) (i:=pre.length) (p:=p) (by rw [hal]; simp)
   have hlt:pre.length<all.length:=by rw [hal]; simp
   have hn2:=ih (pre++[p]) (by rw [hal]; simp)
   rw [List.length_append,List.length_singleton,show ((pre.length+1:Nat):Int)=(pre.length:Int)+1 by omega] at hn2
   have e1:IntKind.i64.wrap ((pre.length:Int)+1)=(pre.length:Int)+1:=wrap64 _ (by omega)
   simp only [YG]
   obtain ⟨p1,p2⟩:=p
   unfold dO at *
   simp only at *
   obtain ⟨g1,g2,g3,g4⟩:=hg
   generalize aX all=pc at *
   generalize all.length=n at *
   generalize pre.length=P at *
   generalize YG d r (P+1)=z at *
   have hltI:(P:Int)<n:=by omega
   have hneg:¬ (P:Int) = -1:=by omega
   refine au (PV ..) ?_
   by_cases h1:p1≤d
   ·by_cases h2:d<p2
    ·rw [if_pos ⟨h1,h2⟩]
     unfold atR
     rw [if_neg hneg]
     simp [qI,hlt,hltI,g1,g2,g3,g4,h1,h2]
    ·rw [if_neg (fun h=>h2 h.2)]
     simp [qI,hlt,hltI,g1,g2,g3,g4,h1,h2,e1,hn2]
   ·rw [if_neg (fun h=>h1 h.1)]
    simp [qI,hlt,hltI,g1,g2,g3,g4,h1,e1,hn2]
theorem aco {ps:List (Int×Int)} (hn:ps.length≤1000000) (d:Int):L.call qA [dO ps,.int .i64 d]=some (.int .i64 (Sz ps d)):=by
 have hl:=az' (d:=d) ps hn ps [] rfl
 simp only [List.length_nil] at hl
 unfold Sz
 generalize YG d ps 0=z at *
 unfold dO at *
 generalize aX ps=pc at *
 generalize ps.length=n at *
 unfold atR at hl
 refine aj (aix ..) ?_
 by_cases hz:z = -1
 ·rw [if_pos hz] at hl
  subst hz
  simp at hl
  simp [Nl,hl]
 ·rw [if_neg hz] at hl
  simp at hl
  simp [Nl,hl]
theorem aa_ {b:aA} (hp0:(aF b).1=none):L.call fQ [aC b]=some (.aG [dO (aF b).2,.bool true]):=by
 rw [Xj (dK hp0)]
 unfold ZC
 cases hP:aF b with
 | mk p1 p2 =>
   rw [hP] at hp0
   simp only at hp0
   subst hp0
   rfl
theorem U1 {b:aA} {s:Int} (h:(leftB b s).1=none):L.call Au [aC b,.int .i64 s]=some (.bool (O7 b s)):=by
 obtain ⟨hf0,hp0,h1,h2⟩:=dX h
 have hpl:=aa_ hp0
 obtain ⟨k,hk,hget,h3,h4⟩:=x9 hp0 h1 h2
 have hw:=(dP hp0).2
 have hat:=aco (ps:=(aF b).2) (by have := hw.len; omega) s
 rw [hk] at hat
 have hg:=mP hget
 have hklt:k<(aF b).2.length:=(List.getElem?_eq_some_iff.1 hget).1
 obtain ⟨_,d2,_,_,_,_⟩:=qh h
 have hex:=aqC (dK hp0)
 unfold O7
 have e1:IntKind.i64.wrap ((aV b s).2-b.ex)=(aV b s).2-b.ex:=wrap64 _ (by omega)
 clear hw hget hk
 generalize aV b s=p at *
 obtain ⟨p1,p2⟩:=p
 unfold dO at *
 simp only at *
 obtain ⟨g1,g2,g3,g4⟩:=hg
 generalize (aF b).2.length=N at *
 generalize aX (aF b).2=pc at *
 have hkI:(k:Int)<N:=by omega
 clear h hf0 hp0
 obtain ⟨i,m,fq,cc,rd,n,st,e,ex⟩:=b
 unfold aC ay at *
 simp only at *
 refine aj (aiy ..) ?_
 by_cases c1:0<ex
 ·by_cases c2:p2-ex≤s <;> simp [Np,hpl,hat,hklt,hkI,g1,g2,g3,g4,c1,c2,e1]
 ·simp [Np,hpl,c1]
end Go.Ev.Code
end
section
namespace Go.Ev.Code
open Go Go.Ev
theorem bg (n:Int) (d:Nat):∃ c0 c1 c2,qC n d=[c0,c1,c2]∧(∀ k j,D.clo k (j+1) c0=true)∧(∀ k j,D.clo k (j+1) c1=true)∧(∀ k j,D.clo k (j+1) c2=true) ∧
  (∀ j m,fz (j+1) c0 m=some (c0,m))∧(∀ j m,fz (j+1) c1 m=some (c1,m))∧(∀ j m,fz (j+1) c2 m=some (c2,m)) :=
 ⟨_,_,_,rfl,fun _ _=>rfl,fun _ _=>rfl,fun _ _=>rfl,fun _ _=>rfl,fun _ _=>rfl,fun _ _=>rfl⟩
end Go.Ev.Code
end
section
namespace Go.Ev.Code
open Go Go.Ev
def Yl (k:Nat):List (Int×Int×Nat)→List Rat→Prop
 | [],[]=>True
 | w::ws,a::asx=>Wo k w.2.1 w.2.2 a∧Yl k ws asx
 | _,_=>False
theorem Yl.mono {j k:Nat} (hjk:j≤k):∀ {ws:List (Int×Int×Nat)} {asx:List Rat},Yl j ws asx→Yl k ws asx
 | [],[],_=>trivial
 | _::_,_::_,h=>⟨h.1.mono hjk,Yl.mono hjk h.2⟩
 | [],_::_,h=>h.elim
 | _::_,[],h=>h.elim
end Go.Ev.Code
end
section
namespace Go.Ev.Code
open Go Go.Ev
theorem Jw {b:aA} {s:Int} {e:Int×Option (List UInt8)} (h:(leftB b s).1=some e):e.1≠0:=by
 unfold leftB at h
 split at h
 ·rename_i e' h'
  simp at h
  subst h
  unfold aW at h'
  split at h'
  ·rename_i e2 h2
   obtain ⟨c,t⟩:=e2
   simp [avS] at h'
   rw [← h']
   simp only
   cases hchk:chk b with
   | some ct =>
     obtain ⟨c2,t2⟩:=ct
     have := aqB hchk
     unfold aF at h2
     rw [hchk] at h2
     simp at h2
     rw [← h2.1]; exact this
   | none =>
     have := aop hchk h2
     simp only at this
     omega
  ·split at h'
   ·simp at h'
   ·split at h'
    ·rename_i c hc
     simp at h'
     rw [← h']
     simp only
     unfold oq at hc
     split at hc
     ·simp at hc
     ·split at hc
      ·simp at hc
      ·rename_i c2 hc2
       simp at hc
       subst hc
       unfold jW at hc2
       split at hc2
       ·split at hc2
        ·simp at hc2; omega
        ·split at hc2
         ·simp at hc2; omega
         ·simp at hc2
       ·split at hc2
        ·simp at hc2; omega
        ·simp at hc2
    ·simp at h'
 ·split at h
  ·simp at h
   rw [← h]
   simp
  ·simp at h
end Go.Ev.Code
end
