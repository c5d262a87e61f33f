/- A part of the proof of accrAll_card, flowAll_card, priceAll_card, priceSum_card. -/
import Derived.Test.YtfkdcfbleblgoaaGreatDoorCSpD3
set_option linter.unusedVariables false
set_option linter.unusedSimpArgs false
namespace Go.Ev.Code
open Go Go.Ev
theorem aom:∀ (k:Nat) {x:Nat},x<10^k→fV (k+1) x=48::fV k x
 | 0,x,h=>by
   obtain rfl:x=0:=by omega
   rfl
 | k+1,x,h=>by
   have h1:x / 10<10^k:=by rw [Nat.pow_succ] at h; omega
   have := aom k h1
   show fV (k+1) (x / 10)++[dg (x % 10)]=48::(fV k (x / 10)++[dg (x % 10)])
   rw [this]; rfl
theorem ar8:∀ (k:Nat) {x:Nat},10^k≤x→x<10^(k+1)→fV (k+1) x=txt x
 | 0,x,h,h2=>by
   have h3:x<10:=h2
   rw [oU h3]
   show []++[dg (x % 10)]=[dg x]
   rw [Nat.mod_eq_of_lt h3]; rfl
 | k+1,x,h,h2=>by
   have h1:10^k≤x / 10:=by rw [Nat.pow_succ] at h; omega
   have h3:x / 10<10^(k+1):=by rw [Nat.pow_succ] at h2; omega
   have h4:10≤x:=by
    have : 0<10^k:=Nat.pow_pos (by decide)
    omega
   rw [JR h4,← ar8 k h1 h3]; rfl
theorem arS {l:D} (hl:∃ n cs,l = .sl n cs) (z:Int):∀ (j:Nat) (x:Nat) (acc:List UInt8),j≤9→x<1000000000→acc.length+j≤1000000000 →
  L.loop [0,3,4,5,6] [0,3,4] oP 0 [l,.str acc,.int .i64 z,.int .u64 x,.int .i64 (9-j:Int)] []=some (.exit 2,[l,.str (fV j x++acc),.int .i64 z],[]):=by
 obtain ⟨n,cs,rfl⟩:=hl
 intro j
 induction j with
 | zero =>
   intro x acc _ _ _
   refine au (LX ..) ?_
   simp [zF,fV]
 | succ j ih =>
   intro x acc hj hx hacc
   have hn:=ih (x / 10) (dg (x % 10)::acc) (by omega) (by omega) (by simp; omega)
   have hal:1+acc.length≤1099511627776:=by omega
   have e1:Int.tmod (x:Int) 10=((x % 10:Nat):Int):=tK x 10
   have e2:IntKind.u64.wrap (48+((x % 10:Nat):Int))=48+((x % 10:Nat):Int):=dJ _ (by omega)
   have e3:IntKind.u8.wrap (48+((x % 10:Nat):Int))=48+((x % 10:Nat):Int):=by
    have : x % 10<10:=Nat.mod_lt _ (by omega)
    simp [IntKind.wrap,IntKind.signed,IntKind.bits]; omega
   have e4:Int.tdiv (x:Int) 10=((x / 10:Nat):Int):=Cj x 10
   have e5:IntKind.u64.wrap ((x / 10:Nat):Int)=((x / 10:Nat):Int):=dJ _ (by omega)
   have e6:IntKind.i64.wrap (9-((j+1:Nat):Int)+1)=9-(j:Int):=by rw [wrap64 _ (by omega)]; omega
   have hlt:9-((j+1:Nat):Int)<9:=by omega
   have hp:fV (j+1) x++acc=fV j (x / 10)++dg (x % 10)::acc:=by
    show (fV j (x / 10)++[dg (x % 10)])++acc=_
    simp
   rw [hp]
   have hb:UInt8.ofNat (48+((x % 10:Nat):Int)).toNat=dg (x % 10):=by
    unfold dg
    congr 1
   have hbs:bytesOf [.int .u8 (48+((x % 10:Nat):Int))]=some [dg (x % 10)]:=by
    have h1:x % 10<10:=Nat.mod_lt _ (by omega)
    rw [← hb]
    simp [bytesOf]
    omega
   clear hp ih hb
   generalize fV j (x / 10)++dg (x % 10)::acc=res at *
   generalize dg (x % 10)=dx at *
   generalize ((x % 10:Nat):Int)=r at *
   generalize ((x / 10:Nat):Int)=q at *
   generalize (x:Int)=xz at *
   generalize ((j+1:Nat):Int)=j1 at *
   generalize (j:Int)=jz at *
   refine au (LX ..) ?_
   have hz:zeros 1 [.int .u8 0]=[.int .u8 0]:=rfl
   simp [zF,hlt,e1,e2,e3,e4,e5,e6,hbs,hn,hz,hal]
theorem arU:∀ (k:Nat) {x:Nat},1≤x→x<10^k→k≤1000000000→L.loop [3] [3] kU 0 [.str (fV k x)] []=some (.exit 4,[.str (txt x)],[]):=by
 have hlen:∀ k x,(fV k x).length=k:=by
  intro k
  induction k with
  | zero=>intro x; rfl
  | succ k ih=>intro x; show (fV k (x / 10)++[dg (x % 10)]).length=_; simp [ih]
 intro k
 induction k with
 | zero=>intro x h1 h2; simp at h2; omega
 | succ k ih =>
   intro x h1 h2 h3
   by_cases hx:x<10^k
   ·have hn:=ih h1 hx (by omega)
    rw [aom k hx]
    have hk:1≤k:=by
     rcases Nat.eq_zero_or_pos k with h | h
     ·subst h; simp at hx; omega
     ·exact h
    have hl:=hlen k x
    generalize fV k x=pd at *
    have hlt:(1:Int)<(pd.length:Int)+1:=by omega
    have hpos:0<pd.length:=by omega
    have hbn:gK true false (pd.length+1) [.int .i64 1]=some (1,pd.length+1):=by
     have : (1:Int)≤(pd.length:Int)+1:=by omega
     simp [gK,bnd,this]
    refine au (zl ..) ?_
    simp [mg,hlt,hpos,hbn,hn]
   ·rw [ar8 k (by omega) h2]
    obtain ⟨d,r,e,d1,d2⟩:=akC x h1
    rw [e]
    have hd:¬ (dg d).toNat=48:=by
     unfold dg
     simp
     omega
    have hdI:¬ ((dg d).toNat:Int)=48:=by omega
    generalize dg d=b at *
    refine au (zl ..) ?_
    by_cases hr:r=[]
    ·subst hr
     simp [mg]
    ·have hpos:0<r.length:=List.length_pos_iff.2 hr
     have hlt:(1:Int)<(r.length:Int)+1:=by omega
     simp [mg,hlt,hpos,hd,hdI]
theorem adB {x:Nat} (h:x<1000000000):L.call oO [nD x]=some (.str (txt x)):=by
 unfold nD
 by_cases h0:x=0
 ·rw [if_pos h0]
  subst h0
  have l2:L.loop [0,3,4] [3] iR 0 [.sl 0 [],.str [],.int .i64 0] []=some (.exit 0,[.str []],[]):=by
   refine au (lT ..) ?_
   simp [jU]
  have l3:L.loop [3] [3] kU 0 [.str []] []=some (.exit 4,[.str []],[]):=by
   refine au (zl ..) ?_
   simp [mg]
  have e:txt 0=[48]:=by rw [oU (by omega)]; rfl
  rw [e]
  refine aj (Ef ..) ?_
  simp [xq,l2,l3]
 ·rw [if_neg h0]
  have l1:=arS (l := .sl 1 [.int .u64 x]) ⟨_,_,rfl⟩ 0 9 x [] (by omega) h (by simp)
  have l3:=arU 9 (x:=x) (by omega) (by omega) (by omega)
  rw [List.append_nil] at l1
  have hne:txt x≠[]:=by
   intro h
   have := xR x
   rw [h] at this
   simp at this
  generalize txt x=tx at *
  generalize fV 9 x=pd at *
  generalize (x:Int)=xz at *
  simp at l1
  have l2b:L.loop [0,3,4] [3] iR 0 [.sl 1 [.int .u64 xz],.str pd,.int .i64 1] []=some (.exit 0,[.str pd],[]):=by
   refine au (lT ..) ?_
   simp [jU]
  have e1:IntKind.i64.wrap (1:Int)=1:=by decide
  have l2:L.loop [0,3,4] [3] iR 0 [.sl 1 [.int .u64 xz],.str [],.int .i64 0] []=some (.exit 0,[.str pd],[]):=by
   refine au (lT ..) ?_
   simp [jU,l1,e1,l2b]
  refine aj (Ef ..) ?_
  simp [xq,l2,l3,hne]
end Go.Ev.Code
