/- A part of the proof of priceAll_card, yieldAll_card, priceSum_card, flowAll_card, accrAll_card. -/
import Derived.Test.YtfkdcfbleblgoaaGreatDoorCSpD5
set_option linter.unusedVariables false
set_option linter.unusedSimpArgs false
section
namespace Go.Ev.Code
open Go Go.Ev
def YG (d:Int):List (Int×Int)→Nat→Int
 | [],_ => -1
 | p::r,i=>if p.1≤d∧d<p.2 then (i:Int) else YG d r (i+1)
def Sz (ps:List (Int×Int)) (d:Int):Int:=YG d ps 0
def atR (z:Int):Ex×List D×Mem:=if z = -1 then (.exit 0,[.undef],[]) else (.ret,[.int .i64 z],[])
theorem axd {d:Int}:∀ (l:List (Int×Int)) (i:Nat),(∀ (j:Nat) (p q:Int×Int),l[j]?=some q→l[j+1]?=some p→p.1=q.2)→(∀ p,l[0]?=some p→p.1≤d)→(∃ p,l[l.length-1]?=some p∧d<p.2) →
  ∃ (k:Nat) (p:Int×Int),l[k]?=some p∧p.1≤d∧d<p.2∧YG d l i=(i:Int)+k
 | [],i,_,_,h=>by obtain ⟨p,hp,_⟩:=h; simp at hp
 | p::r,i,hnx,h0,hl=>by
   have hp:=h0 p rfl
   by_cases h:d<p.2
   ·exact ⟨0,p,rfl,hp,h,by simp only [YG]; rw [if_pos ⟨hp,h⟩]; simp⟩
   ·cases r with
    | nil =>
      obtain ⟨x,hx,hd⟩:=hl
      simp at hx
      subst hx
      exact absurd hd h
    | cons q r =>
      obtain ⟨k,x,h1,h2,h3,h4⟩:=axd (d:=d) (q::r) (i+1) (fun j p q hq hp=>hnx (j+1) p q (by simpa using hq) (by simpa using hp))
       (fun x hx=>by
        have hx:q=x:=by simpa using hx
        have h5:q.1=p.2:=hnx 0 q p rfl rfl
        rw [← hx,h5]; omega) (by
        obtain ⟨x,hx,hd⟩:=hl
        exact ⟨x,by simpa using hx,hd⟩)
      refine ⟨k+1,x,by simpa using h1,h2,h3,?_⟩
      simp only [YG] at h4 ⊢
      rw [if_neg (fun h5=>h h5.2),h4]
      omega
def aV (b:aA) (s:Int):Int×Int:=((aF b).2[(Sz (aF b).2 s).toNat]?).getD (0,0)
theorem dX {b:aA} {s:Int} (h:(leftB b s).1=none):(aW b).1=none∧(aF b).1=none∧b.issue≤s∧s<b.bU:=by
 unfold leftB at h
 split at h
 ·simp at h
 ·rename_i h0
  split at h
  ·simp at h
  ·exact ⟨h0,(gY h0).1,by omega,by omega⟩
theorem x9 {b:aA} {s:Int} (h0:(aF b).1=none) (h1:b.issue≤s) (h2:s<b.bU):∃ k:Nat,Sz (aF b).2 s=k∧(aF b).2[k]?=some (aV b s)∧(aV b s).1≤s∧s<(aV b s).2:=by
 have hw:=(dP h0).2
 obtain ⟨k,p,g1,g2,g3,g4⟩:=axd (d:=s) (aF b).2 0 (fun j p q hq hp=>(hw.next j p q hq hp).1) (fun p hp=>by rw [hw.first p hp]; exact h1) (by
  have hpos:0<(aF b).2.length:=List.length_pos_iff.2 hw.ne
  have hg:=List.getElem?_eq_getElem (l:=(aF b).2) (i:=(aF b).2.length-1) (by omega)
  exact ⟨_,hg,by rw [hw.last _ hg]; exact h2⟩)
 have hk:Sz (aF b).2 s=k:=by unfold Sz; rw [g4]; simp
 have hp:aV b s=p:=by
  unfold aV
  rw [hk,Int.toNat_natCast,g1]; rfl
 exact ⟨k,hk,by rw [hp]; exact g1,by rw [hp]; exact g2,by rw [hp]; exact g3⟩
def O7 (b:aA) (s:Int):Bool:=decide (0<b.ex) && decide ((aV b s).2-b.ex≤s)
theorem qh {b:aA} {s:Int} (h:(leftB b s).1=none):aU (aV b s).1∧aU (aV b s).2∧(aV b s).1<(aV b s).2∧(aV b s).1≤s∧s<(aV b s).2∧(aV b s)∈(aF b).2:=by
 obtain ⟨h1,h2,h3,h4⟩:=dX h
 obtain ⟨k,k1,k2,k3,k4⟩:=x9 h2 h3 h4
 have hm:=List.mem_of_getElem? k2
 have := gU h2 hm
 exact ⟨this.1,this.2.1,this.2.2,k3,k4,hm⟩
def kF (b:aA) (p:Int×Int) (x y:Int):Rat:=match jW b p x y with
 | .ok q=>q
 | .error _=>0
def qg (b:aA) (p:Int×Int):Rat:=match oq b p with
 | .ok q=>q
 | .error _=>0
def QC (b:aA) (p:Int×Int) (s:Int):Rat:=if b.count=4∧regular b p=true then qg b p*Rat.divInt (s-p.1) (p.2-p.1) else pV b*kF b p p.1 s
def sS (b:aA) (s:Int):Rat:=if O7 b s=true then QC b (aV b s) s-qg b (aV b s) else QC b (aV b s) s
theorem Pj {b:aA} {p:Int×Int} {q:Rat} (h:oq b p = .ok q):qg b p=q:=by unfold qg; rw [h]
theorem aks {b:aA} {p:Int×Int} {x y:Int} {q:Rat} (h:jW b p x y = .ok q):kF b p x y=q:=by unfold kF; rw [h]
theorem ahx {b:aA} (h:(aW b).1=none) {p:Int×Int} (hp:p∈(aF b).2):∃ q,oq b p = .ok q:=by
 obtain ⟨h0,p0,r,q,hps,hq,_⟩:=gY h
 obtain ⟨i,hi⟩:=List.getElem?_of_mem hp
 have hw:=(dP h0).2
 cases i with
 | zero =>
   rw [hps] at hi
   have hi:p0=p:=by simpa using hi
   rw [← hi]; exact ⟨q,hq⟩
 | succ i =>
   have hlt:i+1<(aF b).2.length:=(List.getElem?_eq_some_iff.1 hi).1
   have hg:=List.getElem?_eq_getElem (l:=(aF b).2) (i:=i) (by omega)
   have := (hw.next i p _ hg hi).2
   unfold oq
   rw [if_pos this]
   exact ⟨_,rfl⟩
theorem am4 {b:aA} (h:(aW b).1=none) {p:Int×Int} (hp:p∈(aF b).2) {x y:Int} (h1:p.1≤x) (h2:x≤y) (h3:y≤p.2):b.count=4∧regular b p=true∨∃ q,jW b p x y = .ok q:=by
 obtain ⟨q,hq⟩:=ahx h hp
 by_cases hc:b.count=4
 ·by_cases hr:regular b p=true
  ·exact .inl ⟨hc,hr⟩
  ·right
   unfold oq at hq
   rw [if_neg hr] at hq
   unfold jW at hq ⊢
   rw [if_pos hc] at hq ⊢
   cases hqs:nP b p with
   | none=>rw [hqs] at hq; simp at hq
   | some l =>
     simp only
     rw [if_neg (by omega)]
     exact ⟨_,rfl⟩
 ·right
  unfold jW
  rw [if_neg hc,if_neg (by omega)]
  exact ⟨_,rfl⟩
end Go.Ev.Code
end
section
namespace Go.Ev.Code
open Go Go.Ev
theorem asg {b:aA} (hchk:chk b=none) {k a:Nat} (hk:k<bI b) (ha:anch b k=some a):quasi b a=anch b (k+1):=by
 have hm:=(bV hchk).2.1
 obtain ⟨g1,g2,g3⟩:=QF hm
 have hpl:=alK hm ha (fun i hi=>by
  obtain ⟨d,hd,_⟩:=g1 i (by omega)
  rw [hd]; rfl) (by omega)
 obtain ⟨d,hd,hdi⟩:=g1 k hk
 rw [ha] at hd
 simp at hd
 subst hd
 unfold quasi
 rw [hpl]
 simp only
 rw [if_neg (by omega)]
theorem aot {b:aA} (hchk:chk b=none) {k a:Nat} (hk:k<bI b) (ha:anch b k=some a) {st:Int} (h1:st<(a:Int)) (h2:∀ c,anch b (k+1)=some c→(c:Int)≤st) {f:Nat} (hf:((a:Int)-st).toNat≤f) :
  gX b st f a=(anch b (k+1)).map fun c=>[((c:Int),(a:Int))]:=by
 obtain ⟨g,rfl⟩:∃ g,f=g+1:=⟨f-1,by omega⟩
 simp only [gX]
 rw [if_neg (by omega),asg hchk hk ha]
 cases hc:anch b (k+1) with
 | none=>rfl
 | some c =>
   have := h2 c hc
   simp only [Option.map_some]
   cases g with
   | zero=>simp [gX]
   | succ g=>simp only [gX]; rw [if_pos this]; rfl
theorem anL {b:aA} (hchk:chk b=none) {c:Nat} (h:anch b (bI b)=some c):(c:Int)≤b.issue:=by
 obtain ⟨g1,g2,g3⟩:=QF (bV hchk).2.1
 rcases Int.lt_or_le b.issue c with h1 | h1
 ·exact absurd ⟨c,h,h1⟩ g2
 ·exact h1
theorem alR {b:aA} (hchk:chk b=none) {a:Nat} (ha:anch b (bI b-1)=some a):nP b (b.issue,(a:Int))=(anch b (bI b)).map fun c=>[((c:Int),(a:Int))]:=by
 have kp:=O9 hchk
 obtain ⟨x,hx,hxi,_⟩:=oJ hchk (k:=bI b-1) (by omega)
 rw [ha] at hx
 simp at hx
 subst hx
 unfold nP
 have h:=aot hchk (k:=bI b-1) (by omega) ha (st:=b.issue) hxi (fun c hc=>by rw [show bI b-1+1=bI b by omega] at hc; exact anL hchk hc) (f:=((a:Int)-b.issue).toNat) (Nat.le_refl _)
 rw [show bI b-1+1=bI b by omega] at h
 exact h
theorem aou {b:aA} (hchk:chk b=none) {a c:Nat} (hk:2≤bI b) (ha:anch b (bI b-2)=some a) (hc:anch b (bI b-1)=some c) :
  nP b (b.issue,(a:Int))=(anch b (bI b)).map fun d=>[((c:Int),(a:Int)),((d:Int),(c:Int))]:=by
 obtain ⟨x,hx,hxi,hn⟩:=oJ hchk (k:=bI b-2) (by omega)
 rw [ha] at hx
 simp at hx
 subst hx
 obtain ⟨z,hz,hza⟩:=hn (by omega)
 rw [show bI b-2+1=bI b-1 by omega,hc] at hz
 simp at hz
 subst hz
 obtain ⟨x,hx,hci,_⟩:=oJ hchk (k:=bI b-1) (by omega)
 rw [hc] at hx
 simp at hx
 subst hx
 unfold nP
 simp only
 obtain ⟨f,hf⟩:∃ f,((a:Int)-b.issue).toNat=f+1:=⟨((a:Int)-b.issue).toNat-1,by omega⟩
 rw [hf]
 simp only [gX]
 rw [if_neg (by omega),asg hchk (k:=bI b-2) (by omega) ha,show bI b-2+1=bI b-1 by omega,hc]
 simp only
 have h:=aot hchk (k:=bI b-1) (by omega) hc (st:=b.issue) hci (fun d hd=>by rw [show bI b-1+1=bI b by omega] at hd; exact anL hchk hd) (f:=f) (by omega)
 rw [show bI b-1+1=bI b by omega] at h
 rw [h]
 cases anch b (bI b) <;> rfl
theorem asf {b:aA} (hchk:chk b=none) {p:Int×Int} (hlt:p.1<p.2) (hreg:regular b p=true):nP b p=some [p]:=by
 unfold regular at hreg
 rw [hchk] at hreg
 simp only at hreg
 obtain ⟨f,hfu⟩:∃ f,(p.2-p.1).toNat=f+1:=⟨(p.2-p.1).toNat-1,by omega⟩
 unfold nP
 rw [hfu]
 simp only [gX]
 rw [if_neg (by omega)]
 cases hqe:quasi b p.2 with
 | none=>rw [hqe] at hreg; simp at hreg
 | some x =>
   rw [hqe] at hreg
   simp at hreg
   simp only [hreg]
   cases f with
   | zero=>simp [gX]
   | succ f=>simp [gX]
theorem OO {b:aA} (h:(aF b).1=none) {p:Int×Int} (hp:p∈(aF b).2) {l:List (Int×Int)} (hl:nP b p=some l):l.length≤2:=by
 have hw:=dP h
 have hchk:=hw.1
 have hd:=gU h hp
 obtain ⟨i,hi⟩:=List.getElem?_of_mem hp
 have kp:=O9 hchk
 have hraw0:∀ {q:Int×Int},(dR b)[0]?=some q→∀ {l},nP b q=some l→l.length≤2:=by
  intro q hq l hl
  rw [zN (by omega)] at hq
  simp at hq
  obtain ⟨a,ha,_⟩:=oJ hchk (k:=bI b-1) (by omega)
  rw [ha] at hq
  simp at hq
  subst hq
  rw [alR hchk ha] at hl
  cases hk:anch b (bI b) with
  | none=>rw [hk] at hl; simp at hl
  | some c=>rw [hk] at hl; simp at hl; subst hl; simp
 cases i with
 | succ i =>
   have hlt:i+1<(aF b).2.length:=(List.getElem?_eq_some_iff.1 hi).1
   have hg:=List.getElem?_eq_getElem (l:=(aF b).2) (i:=i) (by omega)
   have hr:=(hw.2.next i p _ hg hi).2
   rw [asf hchk hd.2.2 hr] at hl
   simp at hl; subst hl; simp
 | zero =>
   unfold aF at hi
   rw [hchk] at hi
   simp only at hi
   split at hi
   ·exact hraw0 hi hl
   ·split at hi
    ·simp at hi
    ·split at hi
     ·split at hi
      ·rename_i x q r hx
       simp at hi
       subst hi
       have hk2:2≤bI b:=by have := uh b; rw [hx] at this; simp at this; omega
       obtain ⟨a,ha,_⟩:=oJ hchk (k:=bI b-2) (by omega)
       obtain ⟨c,hc,_⟩:=oJ hchk (k:=bI b-1) (by omega)
       have hq:=zN (b:=b) (i:=1) (by omega)
       rw [hx] at hq
       simp [show bI b-1-1=bI b-2 by omega,ha] at hq
       rw [hq] at hl
       simp only at hl
       rw [aou hchk hk2 ha hc] at hl
       cases hk:anch b (bI b) with
       | none=>rw [hk] at hl; simp at hl
       | some d=>rw [hk] at hl; simp at hl; subst hl; simp
      ·exact hraw0 hi hl
     ·exact hraw0 hi hl
theorem NP {b:aA} (h:(aF b).1=none):∀ (d i:Nat) {p q:Int×Int},(aF b).2[i]?=some p→(aF b).2[i+d+1]?=some q→p.2≤q.1
 | 0,i,p,q,hp,hq=>by
   have := ((dP h).2.next i q p hp hq).1
   omega
 | d+1,i,p,q,hp,hq=>by
   have hlt:i+(d+1)+1<(aF b).2.length:=(List.getElem?_eq_some_iff.1 hq).1
   have hg:=List.getElem?_eq_getElem (l:=(aF b).2) (i:=i+d+1) (by omega)
   have h1:=NP h d i hp hg
   have h2:=(dP h).2.ord _ _ hg
   have h3:=((dP h).2.next (i+d+1) q _ hg hq).1
   omega
theorem ail {b:aA} {s:Int} (h:(aF b).1=none) {p:Int×Int} (hp:p∈(aF b).2) (h1:p.1≤s) (h2:s<p.2):aV b s=p∧b.issue≤s∧s<b.bU:=by
 obtain ⟨i,hi⟩:=List.getElem?_of_mem hp
 have hw:=(dP h).2
 have hil:i<(aF b).2.length:=(List.getElem?_eq_some_iff.1 hi).1
 have hb:b.issue≤s∧s<b.bU:=by
  constructor
  ·cases i with
   | zero=>rw [← hw.first p hi]; exact h1
   | succ i =>
     have h0:=List.getElem?_eq_getElem (l:=(aF b).2) (i:=0) (by omega)
     have := NP h i 0 h0 (by rw [Nat.zero_add]; exact hi)
     have h3:=hw.ord _ _ h0
     have h4:=hw.first _ h0
     omega
  ·have hg:=List.getElem?_eq_getElem (l:=(aF b).2) (i:=(aF b).2.length-1) (by omega)
   have hl:=hw.last _ hg
   rcases Nat.lt_or_ge i ((aF b).2.length-1) with h3 | h3
   ·have := NP h ((aF b).2.length-1-i-1) i hi (by rw [show i+((aF b).2.length-1-i-1)+1=(aF b).2.length-1 by omega]; exact hg)
    have h5:=hw.ord _ _ hg
    omega
   ·have : i=(aF b).2.length-1:=by omega
    rw [this] at hi
    rw [← hl]
    rw [hi] at hg
    rw [← Option.some.inj hg]; exact h2
 obtain ⟨k,k1,k2,k3,k4⟩:=x9 h hb.1 hb.2
 refine ⟨?_,hb⟩
 rcases Nat.lt_trichotomy i k with h3 | h3 | h3
 ·have := NP h (k-i-1) i hi (by rw [show i+(k-i-1)+1=k by omega]; exact k2)
  omega
 ·rw [h3,k2] at hi
  exact Option.some.inj hi
 ·have := NP h (i-k-1) k k2 (by rw [show k+(i-k-1)+1=i by omega]; exact hi)
  omega
end Go.Ev.Code
end
section
namespace Go.Ev.Code
open Go Go.Ev
structure Made (b:aA) (M:Nat):Prop where
 i1:3000≤b.issue
 i2:b.issue≤92999
 hm:∃ A:Nat,pF b.issue M false=some A∧b.bU=A
 M1:6≤M
 M2:M≤120
 fr:vO b.bG
 sums:Bf b=none
 ct:1≤b.count∧b.count≤4
 st:1≤b.stub∧b.stub≤2
 ex:0≤b.ex∧b.ex≤30
theorem aCa:22890≤mi 3000:=by decide +kernel
theorem arF:mi 92999≤25900:=by decide +kernel
theorem Made.XQ {b:aA} {M:Nat} (h:Made b M):aU b.issue:=⟨by have := h.i1; omega,by have := h.i2; omega⟩
theorem Made.mi1 {b:aA} {M:Nat} (h:Made b M):22890≤mi b.issue∧mi b.issue≤25900:=by
 have h1:=La h.XQ (b:=92999) (by decide) h.i2
 have h2:=La (a:=3000) (by decide) h.XQ h.i1
 have := aCa
 have := arF
 omega
theorem Made.miM {b:aA} {M:Nat} (h:Made b M):mi b.bU=mi b.issue+M∧aU b.bU:=by
 obtain ⟨A,h1,h2⟩:=h.hm
 rw [h2]
 have := O3 h1
 exact ⟨by omega,S_ h1⟩
theorem Made.lt {b:aA} {M:Nat} (h:Made b M):b.issue<b.bU:=by
 obtain ⟨h1,h2⟩:=h.miM
 exact YO h.XQ h2 (by have := h.M1; omega)
theorem Made.mo {b:aA} {M:Nat} (h:Made b M):months b=1∨months b=3∨months b=6∨months b=12:=by
 unfold months
 rcases h.fr with h3 | h3 | h3 | h3 <;> rw [h3] <;> decide
theorem Made.zn {b:aA} {M:Nat} (h:Made b M):chk b=none:=by
 obtain ⟨h1,h2⟩:=h.miM
 have hM:=h.M2
 have hd:Em b=none:=by
  unfold Em
  rw [if_neg (by have := h.XQ; simpa using this),if_neg (by simpa using h2),if_neg (by have := h.lt; omega)]
  split
  ·rename_i e he
   have h3:=O3 he
   have h4:=YO h2 (S_ he) (by omega)
   rw [if_neg (by omega)]
  ·rfl
 have hmo:=h.mo
 have hp:aeL b≤200:=by
  unfold aeL
  rw [auG,Int.tdiv_eq_ediv_of_nonneg (by omega)]
  have e:(mi b.bU:Int)-mi b.issue=M:=by omega
  rw [e]
  rcases hmo with h | h | h | h <;> rw [h] <;> omega
 unfold chk
 rw [hd,h.sums]
 simp only
 rw [if_neg (by omega),if_neg (by have := h.ct; omega),if_neg (by have := h.st; omega),if_neg (by have := h.ex; omega),if_neg (by omega)]
theorem Made.plan {b:aA} {M:Nat} (h:Made b M):(aF b).1=none:=by
 unfold aF
 rw [h.zn]
 simp only
 split
 ·rfl
 ·rw [if_neg (by have := h.st; omega)]
  split
  ·split <;> rfl
  ·rfl
theorem Made.apR {b:aA} {M:Nat} (h:Made b M):∃ c,anch b (bI b)=some c:=by
 have kp:=O9 h.zn
 obtain ⟨a,ha,hai,_⟩:=oJ h.zn (k:=bI b-1) (by omega)
 have hb:=h.mi1
 obtain ⟨h1,h2⟩:=h.miM
 have hM:=h.M2
 have hmo:=h.mo
 have had:=ad7 ha
 have hge:=La h.XQ had (by omega)
 unfold anch at ha ⊢
 have hma:=O3 ha
 obtain ⟨k,hk⟩:∃ k,bI b=k+1:=⟨bI b-1,by omega⟩
 rw [hk] at hma ⊢
 rw [Nat.add_sub_cancel] at hma
 have e1 : -((k+1:Nat):Int)*months b = -(k:Int)*months b-months b:=by
  rw [Int.natCast_add,Int.neg_mul,Int.neg_mul,Int.add_mul]; simp; omega
 rw [e1]
 generalize -(k:Int)*months b=z at *
 have hz:z≤0∨0<z:=by omega
 refine agv b.ends h2 (by omega) ?_
 have hmb:=aa2 had
 omega
theorem Made.flow {b:aA} {M:Nat} (h:Made b M):(aW b).1=none:=by
 have h0:=h.plan
 have hchk:=h.zn
 unfold aW
 rw [h0]
 simp only
 have hw:=(dP h0).2
 cases hps:(aF b).2 with
 | nil=>exact absurd hps hw.ne
 | cons p r =>
   simp only
   have hmem:p∈(aF b).2:=by rw [hps]; simp
   obtain ⟨d1,d2,d3⟩:=gU h0 hmem
   have hq:∃ l,nP b p=some l:=by
    obtain ⟨c,hc⟩:=h.apR
    have hraw0:∀ {q:Int×Int},(dR b)[0]?=some q→∃ l,nP b q=some l:=by
     intro q hq
     have kp:=O9 hchk
     rw [zN (by omega)] at hq
     simp at hq
     obtain ⟨a,ha,_⟩:=oJ hchk (k:=bI b-1) (by omega)
     rw [ha] at hq
     simp at hq
     subst hq
     rw [alR hchk ha,hc]
     exact ⟨_,rfl⟩
    have hi:(aF b).2[0]?=some p:=by rw [hps]; rfl
    unfold aF at hi
    rw [hchk] at hi
    simp only at hi
    split at hi
    ·exact hraw0 hi
    ·split at hi
     ·simp at hi
     ·split at hi
      ·split at hi
       ·rename_i x q r hx
        simp at hi
        subst hi
        have hk2:2≤bI b:=by have := uh b; rw [hx] at this; simp at this; omega
        obtain ⟨a,ha,_⟩:=oJ hchk (k:=bI b-2) (by omega)
        obtain ⟨e,he,_⟩:=oJ hchk (k:=bI b-1) (by omega)
        have hq:=zN (b:=b) (i:=1) (by omega)
        rw [hx] at hq
        simp [show bI b-1-1=bI b-2 by omega,ha] at hq
        rw [hq]
        simp only
        rw [aou hchk hk2 ha he,hc]
        exact ⟨_,rfl⟩
       ·exact hraw0 hi
      ·exact hraw0 hi
   obtain ⟨l,hl⟩:=hq
   have hv:∃ v,jW b p p.1 p.2 = .ok v:=by
    unfold jW
    by_cases hc:b.count=4
    ·rw [if_pos hc,hl]
     simp only
     rw [if_neg (by omega)]
     exact ⟨_,rfl⟩
    ·rw [if_neg hc,if_neg (by omega)]
     exact ⟨_,rfl⟩
   have : ∃ q,oq b p = .ok q:=by
    obtain ⟨v,hv⟩:=hv
    unfold oq
    rw [hv]
    split
    ·exact ⟨_,rfl⟩
    ·exact ⟨_,rfl⟩
   obtain ⟨q,hq⟩:=this
   rw [hq]
theorem K_ {b:aA} (h:(aW b).1=none) {s:Int} (h1:b.issue≤s) (h2:s<b.bU):(leftB b s).1=none:=by
 unfold leftB
 rw [h]
 simp only
 rw [if_neg (by omega)]
end Go.Ev.Code
end
section
namespace Go.Ev.Code
open Go Go.Ev
theorem aBh {b:aA} (h:(aF b).1=none) {p:Int×Int} (hp:p∈(aF b).2) {s:Int} (h1:p.1≤s) (h2:s<p.2) (hx:b.ex=0):sS b s=QC b p s:=by
 unfold sS O7
 rw [hx,(ail h hp h1 h2).1]
 simp
end Go.Ev.Code
end
section
namespace Go.Ev.Code
open Go Go.Ev
theorem vV {b:aA} (h:(aW b).1=none) {p:Int×Int} (hp:p∈(aF b).2) {x y:Int} (h1:p.1≤x) (h2:x≤y) (h3:y≤p.2):jW b p x y = .ok (kF b p x y):=by
 have h0:=(gY h).1
 have hchk:=dK h0
 obtain ⟨d1,d2,d3⟩:=gU h0 hp
 have : ∃ q,jW b p x y = .ok q:=by
  rcases am4 h hp h1 h2 h3 with ⟨hc,hr⟩ | h4
  ·have hq:=asf hchk d3 hr
   unfold jW
   rw [if_pos hc,hq]
   simp only
   rw [if_neg (by omega)]
   exact ⟨_,rfl⟩
  ·exact h4
 obtain ⟨q,hq⟩:=this
 rw [aks hq]; exact hq
def dF (b:aA) (s:Int):Rat:=kF b (aV b s) (aV b s).1 (aV b s).2
def wY (b:aA) (s:Int):Rat:=kF b (aV b s) (aV b s).1 s
def dB (b:aA) (s:Int):Rat:=if regular b (aV b s)=true then 1-wY b s / dF b s else (1-wY b s / dF b s)*Rat.divInt b.bG 1*dF b s
end Go.Ev.Code
end
section
namespace Go.Ev.Code
open Go Go.Ev
def d30 (a:Int):Int:=30*(mi a:Int)+min ((kQ a.toNat).2.2:Int) 30
theorem Vf (a b:Int):YP a b=d30 b-d30 a:=by
 unfold YP d30 mi
 omega
theorem anT (k a:Int):d_ k a a=0:=by
 unfold d_
 split
 ·rw [Vf]; omega
 ·omega
theorem tZ {a b D:Int} (hD:0<D) (h:a≤b):Rat.divInt a D≤Rat.divInt b D:=by
 rw [Rat.divInt_eq_div,Rat.divInt_eq_div,Rat.div_def,Rat.div_def]
 refine Rat.mul_le_mul_of_nonneg_right (Rat.intCast_le_intCast.2 h) (Rat.le_of_lt ?_)
 rw [Rat.inv_pos]
 exact Rat.intCast_pos.2 hD
theorem divInt_zero (D:Int):Rat.divInt 0 D=0:=by
 rw [Rat.divInt_eq_div,Rat.intCast_zero,Rat.div_def,Rat.zero_mul]
theorem Nz {c D:Int} (hD:0<D):Rat.divInt (c*D) D=(c:Rat):=by
 have hD0:(D:Rat)≠0:=fun h=>by have := Rat.intCast_eq_zero_iff.1 h; omega
 rw [Rat.divInt_eq_div,Rat.intCast_mul]
 generalize (D:Rat)=d at *
 generalize (c:Rat)=e at *
 grind
end Go.Ev.Code
end
section
namespace Go.Ev.Code
open Go Go.Ev
theorem alX (each red:Rat):∀ (k:Nat) (l:List (Int×Int)),k<l.length→(fK each red l).drop k=fK each red (l.drop k)
 | 0,l,_=>rfl
 | k+1,[],h=>by simp at h
 | k+1,[p],h=>by simp at h
 | k+1,p::q::r,h=>by
   simp only [fK,List.drop_succ_cons]
   exact alX each red k (q::r) (by simpa using h)
end Go.Ev.Code
end
section
namespace Go.Ev.Code
open Go Go.Ev
theorem awk {b:aA} (hchk:chk b=none) {p:Int×Int} (d1:aU p.1) (d2:aU p.2) (hlt:p.1<p.2) (hreg:regular b p=true) (hc:b.count=4) {a:Rat} (h:jW b p p.1 p.2 = .ok a):a=Rat.divInt 1 b.bG:=by
 have hf:=dZ (bV hchk).2.1
 unfold regular at hreg
 rw [hchk] at hreg
 simp only at hreg
 obtain ⟨f,hfu⟩:∃ f,(p.2-p.1).toNat=f+1:=⟨(p.2-p.1).toNat-1,by omega⟩
 have hq:nP b p=some [(p.1,p.2)]:=by
  unfold nP
  rw [hfu]
  simp only [gX]
  rw [if_neg (by omega)]
  cases hqe:quasi b p.2 with
  | none=>rw [hqe] at hreg; simp at hreg
  | some x =>
    rw [hqe] at hreg
    simp at hreg
    simp only [hreg]
    cases f with
    | zero=>simp [gX]
    | succ f=>simp [gX]
 unfold jW at h
 rw [if_pos hc,hq] at h
 simp only at h
 rw [if_neg (by omega)] at h
 simp at h
 subst h
 simp only [sumF,yK]
 have e:max (min p.2 p.2-max p.1 p.1) 0=p.2-p.1:=by omega
 rw [e]
 have hne:((p.2-p.1:Int):Rat)≠0:=by
  intro h0
  have := Rat.intCast_eq_zero_iff.1 h0
  omega
 have hfn:((b.bG:Int):Rat)≠0:=by
  intro h0
  have := Rat.intCast_eq_zero_iff.1 h0
  rcases hf with h | h | h | h <;> omega
 simp only [Rat.divInt_eq_div,Rat.intCast_mul]
 generalize ((p.2-p.1:Int):Rat)=w at *
 generalize ((b.bG:Int):Rat)=v at *
 have h0:((0:Int):Rat)=0:=rfl
 have h1:((1:Int):Rat)=1:=rfl
 first | rw [h0,h1] | rw [h1]
 grind
end Go.Ev.Code
end
