/- A part of the proof of riskZero_card, yieldPar_card, pricePar_card. -/
import Derived.Test.YtheeamloonpolaaGreatDoorCSpD5
import Derived.Test.YtheeamloonpolaaGreatDoorCWalkPriceFalls
set_option linter.unusedVariables false
set_option linter.unusedSimpArgs false
section
namespace Go.Ev.Code
open Go Go.Ev
def fV (x:Nat):List UInt8:=txt (x / 100)++46::mX 2 (x % 100)
theorem LW (b:Nat):(mX 2 b).length=2:=rfl
theorem ar0 (x:Nat):txt (x / 100)++mX 2 (x % 100)=if x<10 then 48::48::txt x else if x<100 then 48::txt x else txt x:=by
 by_cases h1:x<10
 ·rw [if_pos h1,show x / 100=0 by omega,show x % 100=x by omega,nY (by omega),nY h1]
  show [dg 0]++([dg (x / 10 % 10)]++[dg (x % 10)])=_
  rw [show x / 10 % 10=0 by omega,show x % 10=x by omega]; rfl
 ·rw [if_neg h1]
  by_cases h2:x<100
  ·rw [if_pos h2,show x / 100=0 by omega,show x % 100=x by omega,nY (by omega),Ai (n:=x) (by omega),nY (n:=x / 10) (by omega)]
   show [dg 0]++([dg (x / 10 % 10)]++[dg (x % 10)])=_
   rw [show x / 10 % 10=x / 10 by omega]; rfl
  ·rw [if_neg h2]
   have := ZY 2 (n:=x) (by omega)
   exact this.symm
theorem Gj {x:Nat} (h:x<1000000000):L.call jc [.agg [.bool false,nD x],.int .i64 2]=some (.str (fV x)):=by
 have ht:=VZ h
 have hp:=ar0 x
 have hl0:=yC 9 (n:=x) (by omega) (by omega)
 have hl1:=CB x
 have hcl:([.bool false,nD x]:List D).all (D.clo 1 12)=true:=by unfold nD; split <;> simp
 have hcl0:([.bool false,nD x]:List D).all (D.clo 0 11)=true:=by unfold nD; split <;> simp
 have hnc:D.clo 0 12 (nD x)=true:=by unfold nD; split <;> rfl
 have hnc1:D.clo 1 12 (nD x)=true:=by unfold nD; split <;> rfl
 have hstop:∀ s:List UInt8,2<s.length→L.loop [1,2,5] [1,2,5] iD 1 [.int .i64 2,.loc 0 0,.str s] [.live [.bool false,nD x]]=some (.exit 0,[.int .i64 2,.loc 0 0,.str s],[.live [.bool false,nD x]]):=by
  intro s hs
  have hs':¬ (s.length:Int)≤2:=by omega
  have hs2:¬ s.length≤2:=by omega
  generalize nD x=nx at *
  refine aO (Ji ..) ?_
  simp [BD,hs',hs2,hnc1]
 have hone:∀ s:List UInt8,s.length≤2→∀ r,L.loop [1,2,5] [1,2,5] iD 1 [.int .i64 2,.loc 0 0,.str (48::s)] [.live [.bool false,nD x]]=some r →
   L.loop [1,2,5] [1,2,5] iD 1 [.int .i64 2,.loc 0 0,.str s] [.live [.bool false,nD x]]=some r:=by
  intro s hs r hr
  have hs':(s.length:Int)≤2:=by omega
  have hs3:1+s.length≤1099511627776:=by omega
  generalize nD x=nx at *
  refine aO (Ji ..) ?_
  simp [BD,hs',hs,hs3,hnc1,hr]
 have hloop:L.loop [1,2,5] [1,2,5] iD 1 [.int .i64 2,.loc 0 0,.str (txt x)] [.live [.bool false,nD x]]=some (.exit 0,[.int .i64 2,.loc 0 0,.str (txt (x / 100)++mX 2 (x % 100))],[.live [.bool false,nD x]]):=by
  rw [hp]
  by_cases h1:x<10
  ·rw [if_pos h1]
   have hl:(txt x).length=1:=by rw [nY h1]; rfl
   exact hone _ (by omega) _ (hone _ (by simp; omega) _ (hstop _ (by simp; omega)))
  ·rw [if_neg h1]
   by_cases h2:x<100
   ·rw [if_pos h2]
    have hl:(txt x).length=2:=by rw [Ai (n:=x) (by omega),nY (n:=x / 10) (by omega)]; rfl
    exact hone _ (by omega) _ (hstop _ (by simp; omega))
   ·rw [if_neg h2]
    rw [if_neg h1,if_neg h2] at hp
    refine hstop _ ?_
    rw [← hp,List.length_append,LW]
    have := CB (x / 100)
    omega
 have hlp:=yC 9 (n:=x / 100) (by omega) (by omega)
 clear hp hstop hone
 unfold fV
 have hpl:=LW (x % 100)
 generalize mX 2 (x % 100)=pd at *
 generalize txt (x / 100)=tx at *
 have e1:IntKind.i64.wrap (tx.length:Int)=(tx.length:Int):=wrap64 _ (by omega)
 have hL:(tx++pd).length=tx.length+2:=by rw [List.length_append,hpl]
 have b1:lG false true (tx.length+2) [.int .i64 (tx.length:Int)]=some (0,tx.length):=by
  have : (tx.length:Int)≤(tx.length:Int)+2:=by omega
  simp [lG,bnd,this]
 have b2:lG true false (tx.length+2) [.int .i64 (tx.length:Int)]=some (tx.length,tx.length+2):=by
  have : (tx.length:Int)≤(tx.length:Int)+2:=by omega
  simp [lG,bnd,this]
 have t1:(tx++pd).take tx.length=tx:=by simp
 have t2:(tx++pd).drop tx.length=pd:=by simp
 have t3:pd.take 2=pd:=List.take_of_length_le (by omega)
 have hLI:((tx++pd).length:Int)=(tx.length:Int)+2:=by rw [hL]; omega
 have s3:tx.length≤1099511627773:=by omega
 have s1:tx.length+1≤1099511627776:=by omega
 have s2:tx.length+1+pd.length≤1099511627776:=by omega
 generalize tx++pd=tp at *
 generalize nD x=nx at *
 refine aN aaB rfl (aaA ..) ?_
 simp [OZ,ht,hnc,hloop,hL,hLI,e1,b1,b2,t1,t2,t3,s1,s2,s3,hpl]
end Go.Ev.Code
end
section
namespace Go.Ev.Code
open Go Go.Ev
theorem ai_ {x u:Rat} (hx:x*(1+u)=1):∀ k,qw x (zL (100*u) 100 (k+1))=100*(1+u)
 | 0=>by simp only [zL,qw]; grind
 | k+1=>by
   have ih:=ai_ hx k
   simp only [zL,qw] at ih ⊢
   rw [ih]
   grind
theorem alY {b:aH} (hf:tY b.dA) {y:Int} (h1 : -2000000≤y) (h2:y≤100000000):((bC b:Int):Rat)≠0∧((bC b+y:Int):Rat)=(bC b:Rat)+(y:Rat)∧(bC b:Rat)+(y:Rat)≠0∧0<(bC b:Rat):=by
 obtain ⟨_,_,_,g0,n0⟩:=Ja hf (y:=y) h1 h2
 have e:((bC b+y:Int):Rat)=(bC b:Rat)+(y:Rat):=Rat.intCast_add _ _
 refine ⟨fun h=>by have := Rat.intCast_eq_zero_iff.1 h; omega,e,fun h=>?_,Rat.intCast_pos.2 g0⟩
 rw [← e] at h
 have := Rat.intCast_eq_zero_iff.1 h
 omega
theorem iJ.dirty {b:aH} {N mo S d:Nat} (h:iJ b N mo S d) {i:Nat} (hi:i<N) {y:Int} (h1 : -2000000≤y) (h2:y≤100000000):VE b (md (S+i*mo) d:Nat) y = .ok (jW b (md (S+i*mo) d:Nat) y)∧jW b (md (S+i*mo) d:Nat) y=qw (uX b y) (zL (fF b) (fZ b) (N-i)) / (1+(y:Rat) / (bC b:Rat)):=by
 obtain ⟨hl,_,_,ham,h0,hw,hac⟩:=h.at hi
 constructor
 ·unfold VE mO
  rw [hl]
  simp only
  rw [if_neg (by omega),if_neg (by intro hz; rcases hz with hz | hz; exact h0 hz; exact YS hl h0 h1 h2 hz)]
  simp only
  rw [hac]
  congr 1
  generalize jW b _ y=q
  grind
 ·unfold jW
  rw [ham,hw,Rat.one_mul]
theorem afw {b:aH} {N mo S d:Nat} (h:iJ b N mo S d) {i:Nat} (hi:i<N) {y:Int} (h1:0≤y) (h2:y<100000000) (hu:fF b=100*((y:Rat) / (bC b:Rat))) (hr:fZ b=100) :
  jW b (md (S+i*mo) d:Nat) y=100∧jW b (md (S+i*mo) d:Nat) (y+1)<100:=by
 have hf:=eG (dH h.lJ).2.1
 obtain ⟨k,hk⟩:∃ k,N-i=k+1:=⟨N-i-1,by omega⟩
 obtain ⟨g0,e1,n0,gp⟩:=alY hf (y:=y) (by omega) (by omega)
 obtain ⟨_,e2,n1,_⟩:=alY hf (y:=y+1) (by omega) (by omega)
 have hx:uX b y*(1+(y:Rat) / (bC b:Rat))=1:=by
  unfold uX
  rw [e1]
  generalize (bC b:Rat)=G at *
  generalize (y:Rat)=Y at *
  grind
 have hH:=ai_ hx k
 have hY0:(0:Rat)≤(y:Rat):=by
  have : ((0:Int):Rat)≤(y:Rat):=Rat.intCast_le_intCast.2 h1
  exact this
 have hu0:0≤(y:Rat) / (bC b:Rat):=by
  rw [Rat.div_def]
  exact Rat.mul_nonneg hY0 (Rat.le_of_lt (Rat.inv_pos.2 gp))
 constructor
 ·rw [(h.dirty hi (by omega) (by omega)).2,hu,hr,hk,hH]
  generalize (y:Rat) / (bC b:Rat)=u at *
  have : 1+u≠0:=by grind
  grind
 ·have hn:∀ r∈zL (fF b) (fZ b) (N-i),0≤r:=by
   have ha:=aaX (h.at hi).1
   rw [(h.at hi).2.2.2.1] at ha
   exact ha
  obtain ⟨d1,d2⟩:=afx hf (y:=y) (z:=y+1) (by omega) (by omega) (by omega)
  have hm:=Zd d1 d2 hn
  rw [(h.dirty hi (by omega) (by omega)).2]
  rw [hu,hr,hk] at hm ⊢
  rw [hH] at hm
  have hy1:((y+1:Int):Rat)=(y:Rat)+1:=by rw [Rat.intCast_add]; rfl
  rw [hy1]
  generalize qw (uX b (y+1)) _=H at *
  have gi:=Rat.inv_pos.2 gp
  have hlt:(y:Rat) / (bC b:Rat)<((y:Rat)+1) / (bC b:Rat):=by
   rw [Rat.div_def,Rat.div_def]
   generalize (bC b:Rat)⁻¹=I at *
   generalize (y:Rat)=Y at *
   grind
  generalize (y:Rat) / (bC b:Rat)=u at *
  generalize ((y:Rat)+1) / (bC b:Rat)=v at *
  have hv:0<1+v:=by grind
  have e:H / (1+v)*(1+v)=H:=Rat.div_mul_cancel (by grind)
  refine Rat.not_le.1 fun hle=>?_
  have := Rat.mul_le_mul_of_nonneg_right hle (Rat.le_of_lt hv)
  rw [e] at this
  grind
theorem al7 {b:aH} (hf:tY b.dA) {c:Nat} (hc:qh b=Rat.divInt (c:Int) 100):fF b=100*((((c:Int)*10000:Int):Rat) / (bC b:Rat)):=by
 have hg:(bC b:Rat)=100000000*(b.dA:Rat):=by unfold bC; rw [Rat.intCast_mul]; rfl
 have hF:(b.dA:Rat)≠0:=fun h=>by
  have := Rat.intCast_eq_zero_iff.1 h
  rcases hf with h | h | h | h <;> omega
 unfold fF
 rw [hc,hg,Rat.divInt_eq_div,Rat.divInt_eq_div,Rat.intCast_mul,show ((1:Int):Rat)=1 from rfl,show ((100:Int):Rat)=100 from rfl,show ((10000:Int):Rat)=10000 from rfl]
 generalize ((c:Int):Rat)=C at *
 generalize (b.dA:Rat)=F at *
 grind
end Go.Ev.Code
end
section
namespace Go.Ev.Code
open Go Go.Ev
theorem aey {q r:Rat} (h:q<r):xU q r = -1:=by unfold xU; rw [if_pos h]
theorem alN (q:Rat):xU q q=0:=by unfold xU; rw [if_neg (by exact Rat.lt_irrefl),if_pos rfl]
theorem as4 {q r:Rat} (h:r<q):xU q r=1:=by
 unfold xU
 rw [if_neg (by rw [Rat.not_lt]; exact Rat.le_of_lt h),if_neg (by intro h2; rw [h2] at h; exact Rat.lt_irrefl h)]
theorem NZ {b:aH} {s:Int} {f:Int→Rat} {q:Rat} {k:Nat} (hq:RB k q) (hk:k≤800000)
  (hf:∀ y,-2000000≤y→y≤100000000→L.call jR [aT b,.int .i64 s,.int .i64 y]=some (.aZ [cO (f y),.aG])∧RB 17000 (f y)) :
  ∀ (n:Nat) (low high:Int),(high-low).toNat≤n→low<high → -2000000≤low→high≤100000000→q≤f low→f high<q →
  ∃ y,low≤y∧y<high∧q≤f y∧f (y+1)<q∧L.loop [1,2,3,8,9] [6,7,8] uD 1 [.int .i64 s,cO q,.loc 0 0,.int .i64 low,.int .i64 high] [.live (aQ b)]=some (.exit 1,[.undef,.undef,.int .i64 y],[.live (aQ b)]):=by
 have hbc:=iq b 1
 have hbl:=sH b
 have hbd:=sG b 0 10
 intro n
 induction n with
 | zero=>intro low high h1 h2; omega
 | succ n ih =>
   intro low high h1 h2 h3 h4 h5 h6
   have e1:IntKind.i64.wrap (low+1)=low+1:=wrap64 _ (by omega)
   by_cases hd:low+1<high
   ·obtain ⟨at',hat⟩:∃ a,a=low+(high-low) / 2:=⟨_,rfl⟩
    have hb1:low<at'∧at'<high:=by omega
    have e2:IntKind.i64.wrap (high-low)=high-low:=wrap64 _ (by omega)
    have e3:Int.tdiv (high-low) 2=(high-low) / 2:=Int.tdiv_eq_ediv_of_nonneg (by omega)
    have e4:IntKind.i64.wrap ((high-low) / 2)=(high-low) / 2:=wrap64 _ (by omega)
    have e5:IntKind.i64.wrap (low+(high-low) / 2)=at':=by rw [wrap64 _ (by omega)]; omega
    have e6:IntKind.i64.wrap (low+IntKind.i64.wrap (Int.tdiv (IntKind.i64.wrap (high-low)) 2))=at':=by rw [e2,e3,e4,e5]
    obtain ⟨hcall,hB⟩:=hf at' (by omega) (by omega)
    have hcmp:=Bq hB hq (by omega)
    rcases Classical.em (q≤f at') with hle | hle
    ·obtain ⟨y,y1,y2,y3,y4,y5⟩:=ih at' high (by omega) hb1.2 (by omega) h4 hle h6
     refine ⟨y,by omega,y2,y3,y4,?_⟩
     have hge:=alO hle
     generalize xU (f at') q=cm at *
     generalize f at'=v at *
     unfold aT at hcall
     generalize aQ b=B at *
     have htk:B.take 9=B:=List.take_of_length_le (by omega)
     refine aO (Jl ..) ?_
     simp [Dt,e1,hd,e6,hbc,hbl,hbd,htk,hcall,hcmp,hge,y5]
    ·have hlt:f at'<q:=Rat.not_le.1 hle
     obtain ⟨y,y1,y2,y3,y4,y5⟩:=ih low at' (by omega) hb1.1 h3 (by omega) h5 hlt
     refine ⟨y,y1,by omega,y3,y4,?_⟩
     rw [aey hlt] at hcmp
     generalize f at'=v at *
     unfold aT at hcall
     generalize aQ b=B at *
     have htk:B.take 9=B:=List.take_of_length_le (by omega)
     refine aO (Jl ..) ?_
     simp [Dt,e1,hd,e6,hbc,hbl,hbd,htk,hcall,hcmp,y5]
   ·obtain rfl:high=low+1:=by omega
    refine ⟨low,by omega,by omega,h5,h6,?_⟩
    generalize aQ b=B at *
    refine aO (Jl ..) ?_
    simp [Dt,e1,hbc]
def Nz:Except Er Int→D
 | .ok y => .aZ [.int .i64 y,.aG]
 | .error e => .aZ [.int .i64 0,jf e]
theorem ahK {b:aH} {s:Int} {f:Int→Rat} {q:Rat} {k:Nat} (hq:RB k q) (hk:k≤800000)
  (hf:∀ y,-2000000≤y→y≤100000000→L.call jR [aT b,.int .i64 s,.int .i64 y]=some (.aZ [cO (f y),.aG])∧RB 17000 (f y))
  (hM:∀ y z,-2000000≤y→y≤z→z≤100000000→f z≤f y) :
  (∃ y,-2000000≤y∧y≤100000000∧q≤f y∧(∀ z,y<z→z≤100000000→f z<q)∧f 100000000≤q∧L.call vI [aT b,.int .i64 s,cO q]=some (Nz (.ok y))) ∨
  ((f (-2000000)<q∨q<f 100000000)∧L.call vI [aT b,.int .i64 s,cO q]=some (Nz (.error (some (7,none))))):=by
 obtain ⟨c1,b1⟩:=hf (-2000000) (by omega) (by omega)
 obtain ⟨c2,b2⟩:=hf 100000000 (by omega) (by omega)
 have m1:=Bq b1 hq (by omega)
 have m2:=Bq b2 hq (by omega)
 by_cases h1:f (-2000000)<q
 ·right
  refine ⟨.inl h1,?_⟩
  rw [aey h1] at m1
  generalize xU (f 100000000) q=cm at *
  generalize f 100000000=v2 at *
  generalize f (-2000000)=v1 at *
  simp only [Nz,jf]
  obtain ⟨i,mt,fq,c,rd',n,st,en,ex⟩:=b
  unfold aT aQ at *
  simp only at *
  refine aN Jp rfl (Jk ..) ?_
  simp [Ed,c1,c2,m1,m2,bT]
 have h1':q≤f (-2000000):=Rat.not_lt.1 h1
 have hge:=alO h1'
 by_cases h2:q<f 100000000
 ·right
  refine ⟨.inr h2,?_⟩
  rw [as4 h2] at m2
  generalize xU (f (-2000000)) q=cm at *
  generalize f 100000000=v2 at *
  generalize f (-2000000)=v1 at *
  have hn:¬ cm<0:=by omega
  simp only [Nz,jf]
  obtain ⟨i,mt,fq,c,rd',n,st,en,ex⟩:=b
  unfold aT aQ at *
  simp only at *
  refine aN Jp rfl (Jk ..) ?_
  simp [Ed,c1,c2,m1,m2,hn,bT]
 left
 have h2':f 100000000≤q:=Rat.not_lt.1 h2
 by_cases h3:f 100000000=q
 ·refine ⟨100000000,by omega,by omega,by rw [h3]; exact Rat.le_refl,fun z hz1 hz2=>by omega,h2',?_⟩
  rw [h3,alN] at m2
  rw [h3] at c2
  generalize xU (f (-2000000)) q=cm at *
  generalize f (-2000000)=v1 at *
  have hn:¬ cm<0:=by omega
  simp only [Nz]
  obtain ⟨i,mt,fq,c,rd',n,st,en,ex⟩:=b
  unfold aT aQ at *
  simp only at *
  refine aN Jp rfl (Jk ..) ?_
  simp [Ed,c1,c2,m1,m2,hn]
 ·have h4:f 100000000<q:=Rat.lt_of_le_of_ne h2' h3
  obtain ⟨y,y1,y2,y3,y4,y5⟩:=NZ hq hk hf 102000000 (-2000000) 100000000 (by omega) (by omega) (by omega) (by omega) h1' h4
  refine ⟨y,y1,by omega,y3,fun z hz1 hz2=>?_,h2',?_⟩
  ·have := hM (y+1) z (by omega) (by omega) hz2
   generalize f (y+1)=u at *
   generalize f z=v at *
   grind
  ·rw [aey h4] at m2
   generalize xU (f (-2000000)) q=cm at *
   generalize f 100000000=v2 at *
   generalize f (-2000000)=v1 at *
   have hn:¬ cm<0:=by omega
   simp only [Nz]
   obtain ⟨i,mt,fq,c,rd',n,st,en,ex⟩:=b
   unfold aT aQ at *
   simp only at *
   refine aN Jp rfl (Jk ..) ?_
   simp [Ed,c1,c2,m1,m2,hn,y5]
end Go.Ev.Code
end
