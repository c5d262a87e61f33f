/- A part of the proof of priceWait_card. -/
import Derived.Test.YtlnjbdkgdocjeaaGreatDoorCSpD1
set_option linter.unusedVariables false
set_option linter.unusedSimpArgs false
section
namespace Go.Ev.Code
open Go Go.Ev
def aio:List D→Option (List Nat)
 | []=>some []
 | .int .u64 x::ds=>if 0≤x∧x<18446744073709551616 then (aio ds).bind fun l=>some (x.toNat::l) else none
 | _=>none
theorem alq:∀ {cs:List D} {l:List Nat},aio cs=some l→cs=l.map ah∧Small l
 | [],l,h=>by simp [aio] at h; subst h; exact ⟨rfl,fun x hx=>by simp at hx⟩
 | d::ds,l,h=>by
   unfold aio at h
   split at h <;> try (simp at h; done)
   ·rename_i heq; simp at heq
   ·rename_i x ds' heq
    simp at heq
    obtain ⟨rfl,rfl⟩:=heq
    split at h <;> try (simp at h; done)
    rename_i hx
    rw [Option.bind_eq_some_iff] at h
    obtain ⟨l',hl',h⟩:=h
    simp at h
    subst h
    obtain ⟨q1,q2⟩:=alq hl'
    have hx':(x.toNat:Int)=x:=by omega
    refine ⟨by simp [q1,hx'],fun y hy=>?_⟩
    simp at hy
    rcases hy with rfl | hy
    ·unfold W; omega
    ·exact q2 y hy
def adq:List Nat→Bool
 | []=>true
 | [x] => !(Nat.beq x 0)
 | _::y::ys=>adq (y::ys)
theorem af2:∀ {l:List Nat},adq l=true→∀ h:l≠[],l.getLast h≠0
 | [],_,h=>absurd rfl h
 | [x],h,_=>by
   simp only [adq,Bool.not_eq_true'] at h
   intro hx
   simp at hx
   subst hx
   simp at h
 | x::y::ys,h,hne=>by
   rw [List.getLast_cons (by simp)]
   exact af2 (l:=y::ys) h _
def vG:D→Option Nat
 | .ref [.sl k cs] 0=>(aio cs).bind fun l=>if k=l.length∧l.length≤1000∧adq l=true then some (val l) else none
 | _=>none
theorem FQ {d:D} {n:Nat} (h:vG d=some n):d=bP n∧NB 64000 n:=by
 unfold vG at h
 split at h <;> try (simp at h; done)
 rename_i k cs
 rw [Option.bind_eq_some_iff] at h
 obtain ⟨l,hl,h⟩:=h
 split at h <;> try (simp at h; done)
 rename_i hc
 simp at h
 subst h
 obtain ⟨q1,q2⟩:=alq hl
 have hcan:Canon l:=⟨q2,af2 hc.2.2⟩
 refine ⟨?_,?_⟩
 ·show D.ref [.sl k cs] 0 = .ref (Hl (val l)) 0
  unfold Hl
  rw [Za hcan,q1,hc.1]
 ·have : NB (64*l.length) (val l):=by
   unfold NB
   have := LG q2
   rw [nK,← Nat.pow_mul] at this
   exact this
  exact this.mono (by omega)
def sG:D→Option Int
 | .ref [.bool b,dn] 0=>(vG dn).bind fun n=>if b then (if n=0 then none else some (-(n:Int))) else some (n:Int)
 | _=>none
theorem FP {d:D} {z:Int} (h:sG d=some z):d=intD z∧IB 64000 z:=by
 unfold sG at h
 split at h <;> try (simp at h; done)
 rename_i b dn
 rw [Option.bind_eq_some_iff] at h
 obtain ⟨n,hn,h⟩:=h
 obtain ⟨q1,q2⟩:=FQ hn
 subst q1
 split at h
 ·rename_i hb
  split at h <;> try (simp at h; done)
  rename_i hn0
  simp at h
  subst h
  subst hb
  refine ⟨?_,(IB.ofNat q2).neg⟩
  show D.ref _ 0 = .ref (PU _) 0
  unfold PU
  have h1 : -(n:Int)<0:=by omega
  have h2:(-(n:Int)).natAbs=n:=by omega
  rw [h2,decide_eq_true h1]
 ·rename_i hb
  simp at h hb
  subst h
  subst hb
  refine ⟨?_,IB.ofNat q2⟩
  show D.ref _ 0 = .ref (PU _) 0
  unfold PU
  have h1:¬ (n:Int)<0:=by omega
  have h2:((n:Int)).natAbs=n:=by omega
  rw [h2,decide_eq_false h1]
def xZ:D→Option Rat
 | .ref [dn,dd] 0=>(sG dn).bind fun z=>(sG dd).bind fun e=>if h:0<e∧Nat.gcd z.natAbs e.natAbs=1 then some ⟨z,e.natAbs,by omega,h.2⟩ else none
 | _=>none
theorem Ox {d:D} {q:Rat} (h:xZ d=some q):d=cO q∧RB 64000 q:=by
 unfold xZ at h
 split at h <;> try (simp at h; done)
 rename_i dn dd
 simp only [Option.bind_eq_some_iff] at h
 obtain ⟨z,hz,e,he,h⟩:=h
 obtain ⟨q1,q2⟩:=FP hz
 obtain ⟨q3,q4⟩:=FP he
 split at h <;> try (simp at h; done)
 rename_i hc
 simp at h
 subst h
 refine ⟨?_,q2,q4⟩
 show D.ref _ 0 = .ref (ae7 _) 0
 unfold ae7
 have : ((e.natAbs:Nat):Int)=e:=by omega
 rw [q1,q3]
 simp only [this]
def Good (g:Nat) (p:List D→Option D):Prop:=∀ args d,p args=some d→L.call g args=some d
def a1 {α:Type} (dec:D→Option α) (f:α→Option D):List D→Option D
 | [x]=>(dec x).bind f
 | _=>none
def a2 {α β:Type} (dec:D→Option α) (dec':D→Option β) (f:α→β→Option D):List D→Option D
 | [x,y]=>(dec x).bind fun a=>(dec' y).bind fun b=>f a b
 | _=>none
theorem J4 {α:Type} {dec:D→Option α} {f:α→Option D} {g:Nat} (h:∀ x a d,dec x=some a→f a=some d→L.call g [x]=some d):Good g (a1 dec f):=by
 intro args d hd
 unfold a1 at hd
 split at hd <;> try (simp at hd; done)
 rw [Option.bind_eq_some_iff] at hd
 obtain ⟨a,ha,hd⟩:=hd
 exact h _ a d ha hd
theorem QU {α β:Type} {dec:D→Option α} {dec':D→Option β} {f:α→β→Option D} {g:Nat} (h:∀ x y a b d,dec x=some a→dec' y=some b→f a b=some d→L.call g [x,y]=some d):Good g (a2 dec dec' f):=by
 intro args d hd
 unfold a2 at hd
 split at hd <;> try (simp at hd; done)
 simp only [Option.bind_eq_some_iff] at hd
 obtain ⟨a,ha,b,hb,hd⟩:=hd
 exact h _ _ a b d ha hb hd
theorem aal {f:Nat→Nat→Option D} {g:Nat} (h:∀ a b d,NB 64000 a→NB 64000 b→f a b=some d→L.call g [bP a,bP b]=some d):Good g (a2 vG vG f) :=
 QU fun x y a b d hx hy hf=>by rw [(FQ hx).1,(FQ hy).1]; exact h a b d (FQ hx).2 (FQ hy).2 hf
theorem arG {f:Nat→Option D} {g:Nat} (h:∀ a d,NB 64000 a→f a=some d→L.call g [bP a]=some d):Good g (a1 vG f) :=
 J4 fun x a d hx hf=>by rw [(FQ hx).1]; exact h a d (FQ hx).2 hf
theorem aaj {f:Int→Int→Option D} {g:Nat} (h:∀ a b d,IB 64000 a→IB 64000 b→f a b=some d→L.call g [intD a,intD b]=some d):Good g (a2 sG sG f) :=
 QU fun x y a b d hx hy hf=>by rw [(FP hx).1,(FP hy).1]; exact h a b d (FP hx).2 (FP hy).2 hf
theorem ahC {f:Int→Option D} {g:Nat} (h:∀ a d,IB 64000 a→f a=some d→L.call g [intD a]=some d):Good g (a1 sG f) :=
 J4 fun x a d hx hf=>by rw [(FP hx).1]; exact h a d (FP hx).2 hf
theorem adT {f:Rat→Rat→Option D} {g:Nat} (h:∀ a b d,RB 64000 a→RB 64000 b→f a b=some d→L.call g [cO a,cO b]=some d):Good g (a2 xZ xZ f) :=
 QU fun x y a b d hx hy hf=>by rw [(Ox hx).1,(Ox hy).1]; exact h a b d (Ox hx).2 (Ox hy).2 hf
theorem ahF {f:Rat→Option D} {g:Nat} (h:∀ a d,RB 64000 a→f a=some d→L.call g [cO a]=some d):Good g (a1 xZ f) :=
 J4 fun x a d hx hf=>by rw [(Ox hx).1]; exact h a d (Ox hx).2 hf
def aml:D→Option (List UInt8)
 | .str s=>if s.length≤1000 then some s else none
 | _=>none
theorem alr {d:D} {s:List UInt8} (h:aml d=some s):d = .str s∧s.length≤1000:=by
 unfold aml at h
 split at h <;> try (simp at h; done)
 split at h <;> try (simp at h; done)
 simp at h
 subst h
 exact ⟨rfl,by assumption⟩
def ap2:D→Option Bool
 | .bool b=>some b
 | _=>none
theorem asw {d:D} {b:Bool} (h:ap2 d=some b):d = .bool b:=by
 unfold ap2 at h
 split at h <;> simp at h
 rw [h]
def J7:D→Option Int
 | .int .i64 n=>if -9223372036854775808≤n∧n≤9223372036854775807 then some n else none
 | _=>none
theorem sF {d:D} {n:Int} (h:J7 d=some n):d = .int .i64 n∧(-9223372036854775808≤n∧n≤9223372036854775807):=by
 unfold J7 at h
 split at h <;> try (simp at h; done)
 split at h <;> try (simp at h; done)
 simp at h
 subst h
 exact ⟨rfl,by assumption⟩
def ap3:D→Option Nat
 | .int .u64 n=>if 0≤n∧n<18446744073709551616 then some n.toNat else none
 | _=>none
theorem als {d:D} {n:Nat} (h:ap3 d=some n):d=ah n∧n<W:=by
 unfold ap3 at h
 split at h <;> try (simp at h; done)
 split at h <;> try (simp at h; done)
 rename_i z hz
 simp at h
 subst h
 refine ⟨?_,by unfold W; omega⟩
 show D.int _ _ = .int _ _
 congr 1; omega
end Go.Ev.Code
end
section
namespace Go.Ev.Code
open Go Go.Ev
theorem aqz {n f:Nat} {args:List D} {d:D} (h:(TT.jU n).call f args=some d):L.call f args=some d:=by
 rw [P8] at h
 obtain ⟨⟨r,m⟩,hr⟩:=Eu h
 rw [hr] at h
 exact CQ (FX.2 ⟨n,hr⟩) h
def ad5:D := .agg [.int .i64 1,.int .i64 1,.int .i64 1,.int .i64 0,.int .i64 0,.bool false]
theorem amH:L.call Wu [ad5]=some (.bool true):=aqz (n:=30) (by kernel_rfl)
theorem apd {n a b:Int} (h1:a≤n) (h2:n≤b):L.call Ko [.int .i64 n,.int .i64 a,.int .i64 b]=some (.bool true):=by
 refine ak (agO ..) ?_
 simp [XB,h1,h2]
theorem amF {y:Nat} (h1:1900≤y) (h2:y≤2199):L.call Ws [ad5,.int .i64 y]=some (.aH [.int .i64 (bV y),.bool true]):=by
 have hm:=amH
 have hd:=ac7 (y:=y) (m:=1) (d:=1) h1 h2 (by decide) (by decide) (by decide) (by simp [aV])
 have e:dayOf y 1 1=bV y:=by simp [dayOf,bF]
 rw [e] at hd
 have hb:=O_ (y:=y) (by omega)
 have hb':bV y≤109572:=by unfold bV; omega
 have hw:=apd (n:=bV y) (a:=0) (b:=109572) (by omega) (by omega)
 unfold jI at hd
 unfold ad5 at hm ⊢
 generalize bV y=b at *
 refine ak (al_ ..) ?_
 simp [ad8,hm,hd,hw] at *
def DW:Nat→List Int
 | 0=>[]
 | k+1=>((bV (1900+k):Nat):Int)::DW k
theorem auz {y:Nat} (h1:1900≤y) (h2:y≤2199):bV y<bV (y+1):=by unfold bV; omega
theorem alD:∀ {k:Nat},k≤300→∀ z∈DW k,z<(bV (1900+k):Nat)
 | 0,_,z,hz=>by simp [DW] at hz
 | k+1,hk,z,hz=>by
   have := auz (y:=1900+k) (by omega) (by omega)
   simp only [DW,List.mem_cons] at hz
   rcases hz with rfl | hz
   ·have e:1900+k+1=1900+(k+1):=by omega
    rw [e] at this; omega
   ·have h:=alD (k:=k) (by omega) z hz
    have e:1900+k+1=1900+(k+1):=by omega
    rw [e] at this; omega
theorem aok {k:Nat} (hk:k<300):Y2 (DW k) ((bV (1900+k):Nat):Int)=DW (k+1):=by
 have : (DW k).contains ((bV (1900+k):Nat):Int)=false:=by
  rw [← Bool.not_eq_true,List.contains_iff_mem]
  intro h
  have := alD (k:=k) (by omega) _ h
  omega
 unfold Y2
 rw [this]
 rfl
def JH:D := .sl 1 [.int .i64 1,.int .i64 1,.int .i64 1,.int .i64 0,.int .i64 0,.bool false]
theorem aqw (j:Nat):∀ k,k+j=300 →
  L.loop [6,10,11,47,48,49] [6,47,48,49] GR 3 [.loc 1 0,.loc 2 0,.int .i64 ((1900+k:Nat):Int),JH,.int .i64 1,.int .i64 0] [.mp (DW k),.live [.lmap 0],.live [.int .i64 1,.int .i64 1,.int .i64 1,.int .i64 0,.int .i64 0,.bool false]] =
    some (.exit 5,[.loc 1 0,JH,.int .i64 1,.int .i64 0],[.mp (DW 300),.live [.lmap 0],.live [.int .i64 1,.int .i64 1,.int .i64 1,.int .i64 0,.int .i64 0,.bool false]]):=by
 induction j with
 | zero =>
   intro k hk
   have : k=300:=by omega
   subst this
   refine aj (X_ ..) ?_
   simp [Qs,JH]
 | succ j ih =>
   intro k hk
   have hd:=amF (y:=1900+k) (by omega) (by omega)
   have hn:=ih (k+1) (by omega)
   have hi:=aok (k:=k) (by omega)
   have h1:((1900+k:Nat):Int)≤2199:=by omega
   have h2:IntKind.i64.wrap (((1900+k:Nat):Int)+1)=((1900+(k+1):Nat):Int):=by rw [wrap64 _ (by omega)]; omega
   generalize 1900+(k+1)=y' at *
   generalize 1900+k=y at *
   generalize bV y=b at *
   generalize DW (k+1)=js at *
   generalize DW k=jk at *
   generalize DW 300=jz at *
   unfold ad5 at hd
   refine aj (X_ ..) ?_
   unfold JH at *
   simp [Qs,Oj,h1,h2,hd,hi,hn]
theorem aii:L.call jD [JH,.func RH []]=some (.bool false):=aqz (n:=40) (by kernel_rfl)
theorem ag_:L.call mV [.sl 0 [],.func RI []]=some (.bool false):=aqz (n:=40) (by kernel_rfl)
theorem anR:L.call Ou [JH,.sl 0 []]=some (.aH [.ref [.nZ (DW 300)] 0,.bH]):=by
 have h1:=aii
 have h2:=ag_
 have h3:=aqw 300 0 (by omega)
 refine ak (anC ..) ?_
 generalize DW 300=jz at *
 unfold JH at *
 simp [DW] at h3
 have l1:L.loop [0,6,35,36,37] [0,6] GN 2 [.sl 1 [.int .i64 1,.int .i64 1,.int .i64 1,.int .i64 0,.int .i64 0,.bool false],.loc 1 0,.sl 0 [],.int .i64 0,.int .i64 0] [.mp [],.live [.lmap 0]]=some (.exit 1,[.sl 1 [.int .i64 1,.int .i64 1,.int .i64 1,.int .i64 0,.int .i64 0,.bool false],.loc 1 0],[.mp [],.live [.lmap 0]]):=by
  refine aj (ahT ..) ?_
  simp [ZJ]
 have l3:L.loop [6,47,48,49] [6] CP 2 [.loc 1 0,.sl 1 [.int .i64 1,.int .i64 1,.int .i64 1,.int .i64 0,.int .i64 0,.bool false],.int .i64 1,.int .i64 1] [.mp jz,.live [.lmap 0]]=some (.exit 3,[.loc 1 0],[.mp jz,.live [.lmap 0]]):=by
  refine aj (Ya ..) ?_
  simp [Qu]
 have l2:L.loop [6,47,48,49] [6] CP 2 [.loc 1 0,.sl 1 [.int .i64 1,.int .i64 1,.int .i64 1,.int .i64 0,.int .i64 0,.bool false],.int .i64 1,.int .i64 0] [.mp [],.live [.lmap 0]]=some (.exit 3,[.loc 1 0],[.mp jz,.live [.lmap 0]]):=by
  refine aj (Ya ..) ?_
  have e1:IntKind.i64.wrap 1=1:=by decide
  simp [Qu,h3,e1,l3]
 simp [agp,h1,h2,W9,l1,l2]
end Go.Ev.Code
end
section
namespace Go.Ev.Code
open Go Go.Ev
theorem ft {n:Nat} (h:NB 64000 n):Fit n:=h.fit (by decide)
theorem wr {n:Nat} (h:NB 64000 n):Wri n:=h.wri (by decide) (by decide)
def acQ:List D→Option D:=a1 ap3 fun n=>some (bP n)
theorem akN:Good zl acQ:=J4 fun x n d hx hf=>by
   rw [(als hx).1,← Option.some.inj hf]; exact qW n (als hx).2
def O1:List D→Option D:=a1 vG fun n=>some (.bool (Nat.beq n 0))
theorem aay:Good og O1:=arG fun a d ha hf=>by
   rw [← Option.some.inj hf,akW]
   congr 2
   by_cases h:a=0
   ·subst h; rfl
   ·rw [decide_eq_false h]
    cases hb:Nat.beq a 0 with
    | false=>rfl
    | true=>exact absurd (Nat.eq_of_beq_eq_true hb) h
def QZ:List D→Option D:=a2 vG vG fun a b=>some (.int .i64 (ny a b))
theorem abM:Good qU QZ:=aal fun a b d ha hb hf=>by rw [← Option.some.inj hf]; exact WI (ft ha) (ft hb)
def QY:List D→Option D:=a2 vG vG fun a b=>some (bP (a+b))
theorem abL:Good qR QY:=aal fun a b d ha hb hf=>by rw [← Option.some.inj hf]; exact WH (ft ha) (ft hb)
def Q9:List D→Option D:=a2 vG vG fun a b=>if b≤a then some (.aH [bP (a-b),.bH]) else none
theorem abQ:Good vM Q9:=aal fun a b d ha hb hf=>by
   split at hf <;> try (simp at hf; done)
   rw [← Option.some.inj hf]; exact Hr (ft ha) (ft hb) (by assumption)
def Q8:List D→Option D:=a2 vG vG fun a b=>some (bP (a*b))
theorem abP:Good lq Q8:=aal fun a b d ha hb hf=>by rw [← Option.some.inj hf]; exact CY (ft ha) (ft hb)
def Q5:List D→Option D:=a2 vG vG fun a b=>if b≠0 then some (.aH [bP (a / b),bP (a % b),.bH]) else none
theorem abN:Good qV Q5:=aal fun a b d ha hb hf=>by
   split at hf <;> try (simp at hf; done)
   rw [← Option.some.inj hf]; exact Ho (ft ha) (ft hb) (by assumption)
def Q7:List D→Option D:=a2 vG vG fun a b=>some (bP (Nat.gcd a b))
theorem abO:Good vK Q7:=aal fun a b d ha hb hf=>by rw [← Option.some.inj hf]; exact adD (ft ha) (ft hb)
def O0:List D→Option D:=a1 vG fun a=>some (.str (txt a))
theorem aax:Good n_ O0:=arG fun a d ha hf=>by rw [← Option.some.inj hf]; exact aa3 (ft ha) (wr ha)
def aaK:List D→Option D:=a1 aml fun s=>if qA s then some (.aH [bP (bn 0 s),.bH]) else some (.aH [.fZ,wO 1])
theorem aiN:Good zI aaK:=J4 fun x s d hx hf=>by
   obtain ⟨rfl,hs⟩:=alr hx
   split at hf
   ·rw [← Option.some.inj hf]; exact Hq (by assumption)
   ·rw [← Option.some.inj hf]; exact aa2 (by assumption) (by omega)
def aaL:List D→Option D:=a2 ap2 vG fun b n=>some (intD (if b then -(n:Int) else n))
theorem aiO:Good F6 aaL:=QU fun x y b n d hx hy hf=>by rw [asw hx,(FQ hy).1,← Option.some.inj hf]; exact amT b n
def Q_:List D→Option D:=a1 sG fun z=>some (bP z.natAbs)
theorem abR:Good qY Q_:=ahC fun a d ha hf=>by rw [← Option.some.inj hf]; exact amR a
def O3:List D→Option D:=a1 sG fun z=>some (.int .i64 z.sign)
theorem aaz:Good oq O3:=ahC fun a d ha hf=>by rw [← Option.some.inj hf]; exact akY a
def Rj:List D→Option D:=a1 sG fun z=>some (intD (-z))
theorem abV:Good vU Rj:=ahC fun a d ha hf=>by rw [← Option.some.inj hf]; exact amS a
def Rf:List D→Option D:=a2 sG sG fun a b=>some (intD (a+b))
theorem abS:Good vT Rf:=aaj fun a b d ha hb hf=>by rw [← Option.some.inj hf]; exact Oa ha hb (by decide) (by decide)
def Rk:List D→Option D:=a2 sG sG fun a b=>some (intD (a-b))
theorem abW:Good zO Rk:=aaj fun a b d ha hb hf=>by rw [← Option.some.inj hf]; exact adH ha hb (by decide) (by decide)
def Rh:List D→Option D:=a2 sG sG fun a b=>some (.int .i64 (a-b).sign)
theorem abT:Good zN Rh:=aaj fun a b d ha hb hf=>by rw [← Option.some.inj hf]; exact WM ha hb (by decide) (by decide)
def Ri:List D→Option D:=a2 sG sG fun a b=>some (intD (a*b))
theorem abU:Good ru Ri:=aaj fun a b d ha hb hf=>by rw [← Option.some.inj hf]; exact j_ ha hb (by decide) (by decide)
def acR:List D→Option D:=a1 J7 fun n=>some (intD n)
theorem akO:Good P7 acR:=J4 fun x n d hx hf=>by rw [(sF hx).1,← Option.some.inj hf]; exact Zm n (sF hx).2
def O4:List D→Option D:=a1 sG fun z=>some (.str (JY z))
theorem aaA:Good ou O4:=ahC fun a d ha hf=>by rw [← Option.some.inj hf]; exact Ug ha (by decide) (by decide)
def aaN:List D→Option D:=a2 sG sG fun n d=>if d≠0 then some (.aH [cO (Rat.divInt n d),.bH]) else none
theorem aiQ:Good F9 aaN:=aaj fun a b d ha hb hf=>by
   split at hf <;> try (simp at hf; done)
   rw [← Option.some.inj hf]; exact Ie ha hb (by decide) (by decide) (by assumption)
def Yo:List D→Option D:=a2 sG sG fun n d=>if d≠0 then some (cO (Rat.divInt n d)) else none
theorem ahh:Good JE Yo:=aaj fun a b d ha hb hf=>by
   split at hf <;> try (simp at hf; done)
   rw [← Option.some.inj hf]; exact Kw ha hb (by decide) (by decide) (by assumption)
def acS:List D→Option D:=a2 J7 J7 fun n d=>if d≠0 then some (.aH [cO (Rat.divInt n d),.bH]) else none
theorem akP:Good BQ acS:=QU fun x y a b d hx hy hf=>by
   split at hf <;> try (simp at hf; done)
   rw [(sF hx).1,(sF hy).1,← Option.some.inj hf]
   exact xM (sF hx).2 (sF hy).2 (by assumption)
def Ru:List D→Option D:=a1 xZ fun q=>some (intD q.num)
theorem ab3:Good rH Ru:=ahF fun a d ha hf=>by rw [← Option.some.inj hf]; exact am3 a
def Ro:List D→Option D:=a1 xZ fun q=>some (intD (q.den:Int))
theorem abZ:Good rF Ro:=ahF fun a d ha hf=>by rw [← Option.some.inj hf]; exact am2 a
def O6:List D→Option D:=a1 xZ fun q=>some (.int .i64 q.num.sign)
theorem aaC:Good oC O6:=ahF fun a d ha hf=>by rw [← Option.some.inj hf]; exact Ur a
def Rl:List D→Option D:=a2 xZ xZ fun a b=>some (cO (a+b))
theorem abX:Good rD Rl:=adT fun a b d ha hb hf=>by rw [← Option.some.inj hf]; exact Ia ha hb (by decide)
def Rw:List D→Option D:=a2 xZ xZ fun a b=>some (cO (a-b))
theorem ab4:Good zS Rw:=adT fun a b d ha hb hf=>by rw [← Option.some.inj hf]; exact adZ ha hb (by decide)
def Rt:List D→Option D:=a2 xZ xZ fun a b=>some (cO (a*b))
theorem ab2:Good zQ Rt:=adT fun a b d ha hb hf=>by rw [← Option.some.inj hf]; exact Ic ha hb (by decide)
def Rq:List D→Option D:=a2 xZ xZ fun a b=>if b.num=0 then none else some (.aH [cO (a / b),.bH])
theorem ab1:Good rG Rq:=adT fun a b d ha hb hf=>by
   split at hf <;> try (simp at hf; done)
   rename_i h0
   rw [← Option.some.inj hf]; exact adY ha hb (by decide) (fun h=>h0 (by rw [h]; rfl))
def Rn:List D→Option D:=a2 xZ xZ fun a b=>some (.int .i64 (LQ a b))
theorem abY:Good rE Rn:=adT fun a b d ha hb hf=>by rw [← Option.some.inj hf]; exact Ib ha hb (by decide)
def O7:List D→Option D:=a1 xZ fun q=>some (.str (Ce q))
theorem aaD:Good oD O7:=ahF fun a d ha hf=>by rw [← Option.some.inj hf]; exact vV ha (by decide) (by decide)
def aaJ:List D→Option D:=a1 aml fun s=>some (EZ (tJ s))
theorem aiM:Good CU aaJ:=J4 fun x s d hx hf=>by
   obtain ⟨rfl,hs⟩:=alr hx
   rw [← Option.some.inj hf]; exact ac9 (by omega)
def zF:D→Option ay
 | .agg [.int .i64 i,.int .i64 m,.int .i64 f,.str c,.str r,.int .i64 n,.int .i64 s,.bool e,.int .i64 x]=>if c.length≤1000∧r.length≤1000 then some ⟨i,m,f,c,r,n,s,e,x⟩ else none
 | _=>none
theorem qE {d:D} {b:ay} (h:zF d=some b):d=aC b∧b.bM.length≤1000000∧b.dh.length≤1000000:=by
 unfold zF at h
 split at h <;> try (simp at h; done)
 split at h <;> try (simp at h; done)
 rename_i hl
 simp at h
 subst h
 exact ⟨rfl,by simp only; omega,by simp only; omega⟩
theorem acT {f:ay→Option D} {g:Nat} (h:∀ b d,b.bM.length≤1000000→b.dh.length≤1000000→f b=some d→L.call g [aC b]=some d):Good g (a1 zF f) :=
 J4 fun x a d hx hf=>by rw [(qE hx).1]; exact h a d (qE hx).2.1 (qE hx).2.2 hf
def UZ:List D→Option D:=a1 zF fun b=>some (dL (chk b))
theorem adl:Good xW UZ:=acT fun b d hc hr hf=>by rw [← Option.some.inj hf]; exact y9 hc hr
def QW:List D→Option D:=a1 zF fun b=>some (.int .i64 (months b))
theorem abJ:Good vF QW:=acT fun b d hc hr hf=>by rw [← Option.some.inj hf]; exact Jd b
def QV:List D→Option D:=a1 zF fun b=>some (cO (RP b))
theorem abI:Good zC QV:=acT fun b d hc hr hf=>by rw [← Option.some.inj hf]; exact Jc hc hr
def QX:List D→Option D:=a1 zF fun b=>some (cO (jg b))
theorem abK:Good zD QX:=acT fun b d hc hr hf=>by rw [← Option.some.inj hf]; exact CO hc hr
def aaM:List D→Option D:=a1 zF fun b=>some (wu (aF b))
theorem aiP:Good OC aaM:=acT fun b d hc hr hf=>by rw [← Option.some.inj hf]; exact Hu hc hr
def U1:List D→Option D:=a2 zF J7 fun b n=>some (acs b n)
theorem ado:Good yF U1:=QU fun x y b n d hx hy hf=>by
 rw [(qE hx).1,(sF hy).1,← Option.some.inj hf]; exact EN (qE hx).2.1 (qE hx).2.2 n
def decP:D→Option (Int×Int)
 | .agg [.int .i64 a,.int .i64 b]=>some (a,b)
 | _=>none
theorem asx {d:D} {p:Int×Int} (h:decP d=some p):d=pD p:=by
 unfold decP at h
 split at h <;> simp at h
 subst h; rfl
def O5:List D→Option D:=a2 zF decP fun b p=>some (.bool (regular b p))
theorem aaB:Good xw O5:=QU fun x y b p d hx hy hf=>by
 rw [(qE hx).1,asx hy,← Option.some.inj hf]; exact Hw (qE hx).2.1 (qE hx).2.2 p
def NI:List D→Option D:=a2 J7 J7 fun a b=>if aK a∧aK b then some (.int .i64 (ni a b)) else none
theorem Y1:Good mD NI:=QU fun x y a b d hx hy hf=>by
 split at hf <;> try (simp at hf; done)
 rename_i h
 rw [(sF hx).1,(sF hy).1,← Option.some.inj hf]; exact Sz h.1 h.2
def OZ:List D→Option D:=a1 J7 fun n=>some (.int .i64 (ZX n))
theorem aaw:Good nV OZ:=J4 fun x n d hx hf=>by rw [(sF hx).1,← Option.some.inj hf]; exact Aw n
def TF:List D→Option D
 | [.sl 1 [.int .i64 a,.int .i64 b,.int .i64 c,.int .i64 d,.int .i64 e,.bool false],.sl 0 []]=>if a=1∧b=1∧c=1∧d=0∧e=0 then some (.aH [.ref [.nZ (DW 300)] 0,.bH]) else none
 | _=>none
theorem aiL:Good Ou TF:=by
 intro args d h
 unfold TF at h
 split at h <;> try (simp at h; done)
 rename_i a b c d' e
 split at h <;> try (simp at h; done)
 rename_i hc
 obtain ⟨rfl,rfl,rfl,rfl,rfl⟩:=hc
 rw [← Option.some.inj h]
 exact anR
def U0:List D→Option D:=a1 J7 fun n=>if aK n then some (.aH [jI (iV n.toNat).1 (iV n.toNat).2.1 (iV n.toNat).2.2,.bH]) else some (.aH [jI 0 0 0,wO 4])
theorem adn:Good uH U0:=J4 fun x n d hx hf=>by
 rw [(sF hx).1]
 split at hf
 ·rename_i h
  obtain ⟨y,m,dd,hc,hd,ho⟩:=cZ h
  rw [← Option.some.inj hf,ho,hd]
  exact pR hc
 ·rename_i h
  rw [← Option.some.inj hf]; exact U3 h
def LP:List D→Option D
 | [.int .i64 a,.int .i64 n,.bool e]=>some (je (mF a n e))
 | _=>none
theorem aeW:Good uK LP:=by
 intro args d h
 unfold LP at h
 split at h <;> try (simp at h; done)
 rw [← Option.some.inj h]; exact Ue _ _ _
def anK:List (Nat×(List D→Option D)) :=
 [(zl,acQ),(og,O1),(qU,QZ),(qR,QY),(vM,Q9),(lq,Q8),(qV,Q5),(vK,Q7),(n_,O0),(zI,aaK),(F6,aaL),(qY,Q_),(oq,O3),(vU,Rj),(vT,Rf),(zO,Rk),(zN,Rh),(ru,Ri),(P7,acR),(ou,O4),(F9,aaN),(JE,Yo),(BQ,acS),(rH,Ru),(rF,Ro),(oC,O6),(rD,Rl),(zS,Rw),(zQ,Rt),(rG,Rq),(rE,Rn),(oD,O7),(CU,aaJ),(xW,UZ),(vF,QW),(zC,QV),(zD,QX),(OC,aaM),(yF,U1),(xw,O5),(mD,NI),(nV,OZ),(Ou,TF),(uH,U0),(uK,LP)]
def UF:List (Nat×(List D→Option D))→Prop
 | []=>True
 | p::r=>Good p.1 p.2∧UF r
theorem UF.look:∀ {l:List (Nat×(List D→Option D))} {n:Nat} {p:List D→Option D},UF l→EL l n=some p→Good n p
 | [],n,p,_,h=>by simp [EL] at h
 | (i,x)::r,n,p,⟨h1,h2⟩,h=>by
   simp only [EL,cond_eq_ite] at h
   split at h
   ·rename_i hb
    simp at h
    subst h
    rw [← Nat.eq_of_beq_eq_true hb]
    exact h1
   ·exact UF.look h2 h
theorem anL:UF anK :=
 ⟨akN,aay,abM,abL,abQ,abP,abN,abO,aax,aiN,aiO,abR,aaz,abV,abS,abW,abT,abU,akO,aaA,aiQ,ahh,akP,ab3,abZ,aaC,abX,ab4,ab2,ab1,abY,aaD,aiM,adl,abJ,abI,abK,aiP,ado,aaB,Y1,aaw,aiL,adn,aeW,trivial⟩
noncomputable def wK:Nat→eP
 | 0=>⟨fun _ _ _=>none,fun _ _ _ _ _ _=>none,fun _ _=>none⟩
 | n+1 =>
   ⟨fun f args m=>match TT.fn f with
    | some ef=>ef.step (wK n) args m
    | none=>TT.iI f args m,
    fun ins outs body base vals m=>BG (wK n) ins outs body base vals m,
    fun f args=>match (match EL anK f with
      | some p=>p args
      | none=>none) with
     | some d=>some d
     | none=>sS (match TT.fn f with
       | some ef=>ef.step (wK n) args []
       | none=>TT.iI f args [])⟩
theorem anM:∀ n,(wK n).le L
 | 0=>⟨fun f args m r h=>by simp [wK] at h,fun _ _ _ _ _ _ r h=>by simp [wK] at h,fun _ _ r h=>by simp [wK] at h⟩
 | n+1=>by
   have ih:=anM n
   have hca:∀ f args m r,(wK (n+1)).aU f args m=some r→L.aU f args m=some r:=by
    intro f args m r h
    simp only [wK] at h
    split at h
    ·rename_i ef he
     exact ai1 he (ae0 RY ih h)
    ·rename_i he
     exact ai3 he h
   refine ⟨hca,fun ins outs body base vals m r h=>af5 (Zk RY ih h),fun f args d h=>?_⟩
   simp only [wK] at h
   split at h
   ·rename_i d' hd
    split at hd
    ·rename_i p hp
     rw [← h]
     exact anL.look hp args d' hd
    ·simp at hd
   ·obtain ⟨r,h1⟩:=Eu h
    show sS (L.aU f args [])=some d
    rw [hca f args [] r (by simp only [wK]; exact h1),← h1,h]
theorem apv (n:Nat) {f:Nat} {args:List D} {d:D} (h:(wK n).call f args=some d):L.call f args=some d:=(anM n).call f args d h
end Go.Ev.Code
end
