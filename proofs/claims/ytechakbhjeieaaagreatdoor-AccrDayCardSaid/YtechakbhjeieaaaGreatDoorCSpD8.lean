/- Part of accrDay_card. -/
import Derived.Test.YtechakbhjeieaaaGreatDoorCSpD1
set_option linter.unusedVariables false
set_option linter.unusedSimpArgs false
section
namespace Go.Ev.Code
open Go Go.Ev
def ai9:List D→Option (List Nat)
 | []=>some []
 | .int .u64 x::ds=>if 0≤x∧x<18446744073709551616 then (ai9 ds).bind fun l=>some (x.toNat::l) else none
 | _=>none
theorem al7:∀ {cs:List D} {l:List Nat},ai9 cs=some l→cs=l.map aH∧Small l
 | [],l,h=>by simp [ai9] at h; subst h; exact ⟨rfl,fun x hx=>by simp at hx⟩
 | d::ds,l,h=>by
   unfold ai9 at h
   split at h <;> try (simp at h; done)
   ·rename_i heq; simp at heq
   ·rename_i x ds' heq
    simp at heq
    obtain ⟨rfl,rfl⟩:=heq
    split at h <;> try (simp at h; done)
    rename_i hx
    rw [Option.bind_eq_some_iff] at h
    obtain ⟨l',hl',h⟩:=h
    simp at h
    subst h
    obtain ⟨q1,q2⟩:=al7 hl'
    have hx':(x.toNat:Int)=x:=by omega
    refine ⟨by simp [q1,hx'],fun y hy=>?_⟩
    simp at hy
    rcases hy with rfl | hy
    ·unfold W; omega
    ·exact q2 y hy
def adK:List Nat→Bool
 | []=>true
 | [x] => !(Nat.beq x 0)
 | _::y::ys=>adK (y::ys)
theorem agi:∀ {l:List Nat},adK l=true→∀ h:l≠[],l.getLast h≠0
 | [],_,h=>absurd rfl h
 | [x],h,_=>by
   simp only [adK,Bool.not_eq_true'] at h
   intro hx
   simp at hx
   subst hx
   simp at h
 | x::y::ys,h,hne=>by
   rw [List.getLast_cons (by simp)]
   exact agi (l:=y::ys) h _
def Ak:D→Option Nat
 | .ref [.sl k cs] 0=>(ai9 cs).bind fun l=>if k=l.length∧l.length≤1000∧adK l=true then some (val l) else none
 | _=>none
theorem JH {d:D} {n:Nat} (h:Ak d=some n):d=dJ n∧NB 64000 n:=by
 unfold Ak at h
 split at h <;> try (simp at h; done)
 rename_i k cs
 rw [Option.bind_eq_some_iff] at h
 obtain ⟨l,hl,h⟩:=h
 split at h <;> try (simp at h; done)
 rename_i hc
 simp at h
 subst h
 obtain ⟨q1,q2⟩:=al7 hl
 have hcan:Canon l:=⟨q2,agi hc.2.2⟩
 refine ⟨?_,?_⟩
 ·show D.ref [.sl k cs] 0 = .ref (KQ (val l)) 0
  unfold KQ
  rw [ZN hcan,q1,hc.1]
 ·have : NB (64*l.length) (val l):=by
   unfold NB
   have := OV q2
   rw [tZ,← Nat.pow_mul] at this
   exact this
  exact this.mono (by omega)
def x9:D→Option Int
 | .ref [.bool b,dn] 0=>(Ak dn).bind fun n=>if b then (if n=0 then none else some (-(n:Int))) else some (n:Int)
 | _=>none
theorem JG {d:D} {z:Int} (h:x9 d=some z):d=intD z∧IB 64000 z:=by
 unfold x9 at h
 split at h <;> try (simp at h; done)
 rename_i b dn
 rw [Option.bind_eq_some_iff] at h
 obtain ⟨n,hn,h⟩:=h
 obtain ⟨q1,q2⟩:=JH hn
 subst q1
 split at h
 ·rename_i hb
  split at h <;> try (simp at h; done)
  rename_i hn0
  simp at h
  subst h
  subst hb
  refine ⟨?_,(IB.ofNat q2).neg⟩
  show D.ref _ 0 = .ref (Ro _) 0
  unfold Ro
  have h1 : -(n:Int)<0:=by omega
  have h2:(-(n:Int)).natAbs=n:=by omega
  rw [h2,decide_eq_true h1]
 ·rename_i hb
  simp at h hb
  subst h
  subst hb
  refine ⟨?_,IB.ofNat q2⟩
  show D.ref _ 0 = .ref (Ro _) 0
  unfold Ro
  have h1:¬ (n:Int)<0:=by omega
  have h2:((n:Int)).natAbs=n:=by omega
  rw [h2,decide_eq_false h1]
def CG:D→Option Rat
 | .ref [dn,dd] 0=>(x9 dn).bind fun z=>(x9 dd).bind fun e=>if h:0<e∧Nat.gcd z.natAbs e.natAbs=1 then some ⟨z,e.natAbs,by omega,h.2⟩ else none
 | _=>none
theorem Qq {d:D} {q:Rat} (h:CG d=some q):d=dV q∧RB 64000 q:=by
 unfold CG at h
 split at h <;> try (simp at h; done)
 rename_i dn dd
 simp only [Option.bind_eq_some_iff] at h
 obtain ⟨z,hz,e,he,h⟩:=h
 obtain ⟨q1,q2⟩:=JG hz
 obtain ⟨q3,q4⟩:=JG he
 split at h <;> try (simp at h; done)
 rename_i hc
 simp at h
 subst h
 refine ⟨?_,q2,q4⟩
 show D.ref _ 0 = .ref (afm _) 0
 unfold afm
 have : ((e.natAbs:Nat):Int)=e:=by omega
 rw [q1,q3]
 simp only [this]
def Good (g:Nat) (p:List D→Option D):Prop:=∀ args d,p args=some d→L.call g args=some d
def a1 {α:Type} (dec:D→Option α) (f:α→Option D):List D→Option D
 | [x]=>(dec x).bind f
 | _=>none
def a2 {α β:Type} (dec:D→Option α) (dec':D→Option β) (f:α→β→Option D):List D→Option D
 | [x,y]=>(dec x).bind fun a=>(dec' y).bind fun b=>f a b
 | _=>none
theorem Np {α:Type} {dec:D→Option α} {f:α→Option D} {g:Nat} (h:∀ x a d,dec x=some a→f a=some d→L.call g [x]=some d):Good g (a1 dec f):=by
 intro args d hd
 unfold a1 at hd
 split at hd <;> try (simp at hd; done)
 rw [Option.bind_eq_some_iff] at hd
 obtain ⟨a,ha,hd⟩:=hd
 exact h _ a d ha hd
theorem Tf {α β:Type} {dec:D→Option α} {dec':D→Option β} {f:α→β→Option D} {g:Nat} (h:∀ x y a b d,dec x=some a→dec' y=some b→f a b=some d→L.call g [x,y]=some d):Good g (a2 dec dec' f):=by
 intro args d hd
 unfold a2 at hd
 split at hd <;> try (simp at hd; done)
 simp only [Option.bind_eq_some_iff] at hd
 obtain ⟨a,ha,b,hb,hd⟩:=hd
 exact h _ _ a b d ha hb hd
theorem aaU {f:Nat→Nat→Option D} {g:Nat} (h:∀ a b d,NB 64000 a→NB 64000 b→f a b=some d→L.call g [dJ a,dJ b]=some d):Good g (a2 Ak Ak f) :=
 Tf fun x y a b d hx hy hf=>by rw [(JH hx).1,(JH hy).1]; exact h a b d (JH hx).2 (JH hy).2 hf
theorem asJ {f:Nat→Option D} {g:Nat} (h:∀ a d,NB 64000 a→f a=some d→L.call g [dJ a]=some d):Good g (a1 Ak f) :=
 Np fun x a d hx hf=>by rw [(JH hx).1]; exact h a d (JH hx).2 hf
theorem aaR {f:Int→Int→Option D} {g:Nat} (h:∀ a b d,IB 64000 a→IB 64000 b→f a b=some d→L.call g [intD a,intD b]=some d):Good g (a2 x9 x9 f) :=
 Tf fun x y a b d hx hy hf=>by rw [(JG hx).1,(JG hy).1]; exact h a b d (JG hx).2 (JG hy).2 hf
theorem aik {f:Int→Option D} {g:Nat} (h:∀ a d,IB 64000 a→f a=some d→L.call g [intD a]=some d):Good g (a1 x9 f) :=
 Np fun x a d hx hf=>by rw [(JG hx).1]; exact h a d (JG hx).2 hf
theorem ad7 {f:Rat→Rat→Option D} {g:Nat} (h:∀ a b d,RB 64000 a→RB 64000 b→f a b=some d→L.call g [dV a,dV b]=some d):Good g (a2 CG CG f) :=
 Tf fun x y a b d hx hy hf=>by rw [(Qq hx).1,(Qq hy).1]; exact h a b d (Qq hx).2 (Qq hy).2 hf
theorem aio {f:Rat→Option D} {g:Nat} (h:∀ a d,RB 64000 a→f a=some d→L.call g [dV a]=some d):Good g (a1 CG f) :=
 Np fun x a d hx hf=>by rw [(Qq hx).1]; exact h a d (Qq hx).2 hf
def anc:D→Option (List UInt8)
 | .str s=>if s.length≤1000 then some s else none
 | _=>none
theorem al8 {d:D} {s:List UInt8} (h:anc d=some s):d = .str s∧s.length≤1000:=by
 unfold anc at h
 split at h <;> try (simp at h; done)
 split at h <;> try (simp at h; done)
 simp at h
 subst h
 exact ⟨rfl,by assumption⟩
def aq3:D→Option Bool
 | .bool b=>some b
 | _=>none
theorem aty {d:D} {b:Bool} (h:aq3 d=some b):d = .bool b:=by
 unfold aq3 at h
 split at h <;> simp at h
 rw [h]
def Nr:D→Option Int
 | .int .i64 n=>if -9223372036854775808≤n∧n≤9223372036854775807 then some n else none
 | _=>none
theorem xZ {d:D} {n:Int} (h:Nr d=some n):d = .int .i64 n∧(-9223372036854775808≤n∧n≤9223372036854775807):=by
 unfold Nr at h
 split at h <;> try (simp at h; done)
 split at h <;> try (simp at h; done)
 simp at h
 subst h
 exact ⟨rfl,by assumption⟩
def aq4:D→Option Nat
 | .int .u64 n=>if 0≤n∧n<18446744073709551616 then some n.toNat else none
 | _=>none
theorem al9 {d:D} {n:Nat} (h:aq4 d=some n):d=aH n∧n<W:=by
 unfold aq4 at h
 split at h <;> try (simp at h; done)
 split at h <;> try (simp at h; done)
 rename_i z hz
 simp at h
 subst h
 refine ⟨?_,by unfold W; omega⟩
 show D.int _ _ = .int _ _
 congr 1; omega
end Go.Ev.Code
end
section
namespace Go.Ev.Code
open Go Go.Ev
theorem arI {n f:Nat} {args:List D} {d:D} (h:(TT.o8 n).call f args=some d):L.call f args=some d:=by
 rw [Rz] at h
 obtain ⟨⟨r,m⟩,hr⟩:=Hy h
 rw [hr] at h
 exact FV (JQ.2 ⟨n,hr⟩) h
def aef:D := .agg [.int .i64 1,.int .i64 1,.int .i64 1,.int .i64 0,.int .i64 0,.bool false]
theorem anz:L.call Jl [aef]=some (.bool true):=arI (n:=30) (by kernel_rfl)
theorem aqc {n a b:Int} (h1:a≤n) (h2:n≤b):L.call nO [.int .i64 n,.int .i64 a,.int .i64 b]=some (.bool true):=by
 refine aN aht rfl (ag3 ..) ?_
 simp [Yi,h1,h2]
theorem anx {y:Nat} (h1:1900≤y) (h2:y≤2199):L.call EW [aef,.int .i64 y]=some (.bg [.int .i64 (dQ y),.bool true]):=by
 have hm:=anz
 have hd:=adu (y:=y) (m:=1) (d:=1) h1 h2 (by decide) (by decide) (by decide) (by simp [bP])
 have e:dayOf y 1 1=dQ y:=by simp [dayOf,dw]
 rw [e] at hd
 have hb:=Q9 (y:=y) (by omega)
 have hb':dQ y≤109572:=by unfold dQ; omega
 have hw:=aqc (n:=dQ y) (a:=0) (b:=109572) (by omega) (by omega)
 unfold oH at hd
 unfold aef at hm ⊢
 generalize dQ y=b at *
 refine aN amZ rfl (amS ..) ?_
 simp [aei,hm,hd,hw] at *
def G5:Nat→List Int
 | 0=>[]
 | k+1=>((dQ (1900+k):Nat):Int)::G5 k
theorem avs {y:Nat} (h1:1900≤y) (h2:y≤2199):dQ y<dQ (y+1):=by unfold dQ; omega
theorem amj:∀ {k:Nat},k≤300→∀ z∈G5 k,z<(dQ (1900+k):Nat)
 | 0,_,z,hz=>by simp [G5] at hz
 | k+1,hk,z,hz=>by
   have := avs (y:=1900+k) (by omega) (by omega)
   simp only [G5,List.mem_cons] at hz
   rcases hz with rfl | hz
   ·have e:1900+k+1=1900+(k+1):=by omega
    rw [e] at this; omega
   ·have h:=amj (k:=k) (by omega) z hz
    have e:1900+k+1=1900+(k+1):=by omega
    rw [e] at this; omega
theorem apl {k:Nat} (hk:k<300):ZE (G5 k) ((dQ (1900+k):Nat):Int)=G5 (k+1):=by
 have : (G5 k).contains ((dQ (1900+k):Nat):Int)=false:=by
  rw [← Bool.not_eq_true,List.contains_iff_mem]
  intro h
  have := amj (k:=k) (by omega) _ h
  omega
 unfold ZE
 rw [this]
 rfl
def MR:D := .sl 1 [.int .i64 1,.int .i64 1,.int .i64 1,.int .i64 0,.int .i64 0,.bool false]
theorem arF (j:Nat):∀ k,k+j=300 →
  L.loop [6,10,11,47,48,49] [6,47,48,49] Ce 3 [.loc 1 0,.loc 2 0,.int .i64 ((1900+k:Nat):Int),MR,.int .i64 1,.int .i64 0] [.mp (G5 k),.live [.lmap 0],.live [.int .i64 1,.int .i64 1,.int .i64 1,.int .i64 0,.int .i64 0,.bool false]] =
    some (.exit 5,[.loc 1 0,MR,.int .i64 1,.int .i64 0],[.mp (G5 300),.live [.lmap 0],.live [.int .i64 1,.int .i64 1,.int .i64 1,.int .i64 0,.int .i64 0,.bool false]]):=by
 induction j with
 | zero =>
   intro k hk
   have : k=300:=by omega
   subst this
   refine aJ (YS ..) ?_
   simp [Sl,MR]
 | succ j ih =>
   intro k hk
   have hd:=anx (y:=1900+k) (by omega) (by omega)
   have hn:=ih (k+1) (by omega)
   have hi:=apl (k:=k) (by omega)
   have h1:((1900+k:Nat):Int)≤2199:=by omega
   have h2:IntKind.i64.wrap (((1900+k:Nat):Int)+1)=((1900+(k+1):Nat):Int):=by rw [wrap64 _ (by omega)]; omega
   generalize 1900+(k+1)=y' at *
   generalize 1900+k=y at *
   generalize dQ y=b at *
   generalize G5 (k+1)=js at *
   generalize G5 k=jk at *
   generalize G5 300=jz at *
   unfold aef at hd
   refine aJ (YS ..) ?_
   unfold MR at *
   simp [Sl,Qi,h1,h2,hd,hi,hn]
theorem ai4:L.call iJ [MR,.func JD []]=some (.bool false):=arI (n:=40) (by kernel_rfl)
theorem ahR:L.call kL [.sl 0 [],.func JE []]=some (.bool false):=arI (n:=40) (by kernel_rfl)
theorem aoR:L.call FU [MR,.sl 0 []]=some (.bg [.ref [.uN (G5 300)] 0,.aK]):=by
 have h1:=ai4
 have h2:=ahR
 have h3:=arF 300 0 (by omega)
 refine aN aoB rfl (aos ..) ?_
 generalize G5 300=jz at *
 unfold MR at *
 simp [G5] at h3
 have l1:L.loop [0,6,35,36,37] [0,6] Cc 2 [.sl 1 [.int .i64 1,.int .i64 1,.int .i64 1,.int .i64 0,.int .i64 0,.bool false],.loc 1 0,.sl 0 [],.int .i64 0,.int .i64 0] [.mp [],.live [.lmap 0]]=some (.exit 1,[.sl 1 [.int .i64 1,.int .i64 1,.int .i64 1,.int .i64 0,.int .i64 0,.bool false],.loc 1 0],[.mp [],.live [.lmap 0]]):=by
  refine aJ (aiz ..) ?_
  simp [aao]
 have l3:L.loop [6,47,48,49] [6] zo 2 [.loc 1 0,.sl 1 [.int .i64 1,.int .i64 1,.int .i64 1,.int .i64 0,.int .i64 0,.bool false],.int .i64 1,.int .i64 1] [.mp jz,.live [.lmap 0]]=some (.exit 3,[.loc 1 0],[.mp jz,.live [.lmap 0]]):=by
  refine aJ (YT ..) ?_
  simp [Sm]
 have l2:L.loop [6,47,48,49] [6] zo 2 [.loc 1 0,.sl 1 [.int .i64 1,.int .i64 1,.int .i64 1,.int .i64 0,.int .i64 0,.bool false],.int .i64 1,.int .i64 0] [.mp [],.live [.lmap 0]]=some (.exit 3,[.loc 1 0],[.mp jz,.live [.lmap 0]]):=by
  refine aJ (YT ..) ?_
  have e1:IntKind.i64.wrap 1=1:=by decide
  simp [Sm,h3,e1,l3]
 simp [agF,h1,h2,XQ,l1,l2]
end Go.Ev.Code
end
section
namespace Go.Ev.Code
open Go Go.Ev
theorem ft {n:Nat} (h:NB 64000 n):Fit n:=h.fit (by decide)
theorem wr {n:Nat} (h:NB 64000 n):Wri n:=h.wri (by decide) (by decide)
def adf:List D→Option D:=a1 aq4 fun n=>some (dJ n)
theorem alq:Good ji adf:=Np fun x n d hx hf=>by
   rw [(al9 hx).1,← Option.some.inj hf]; exact xA n (al9 hx).2
def QW:List D→Option D:=a1 Ak fun n=>some (.bool (Nat.beq n 0))
theorem abd:Good fV QW:=asJ fun a d ha hf=>by
   rw [← Option.some.inj hf,alD]
   congr 2
   by_cases h:a=0
   ·subst h; rfl
   ·rw [decide_eq_false h]
    cases hb:Nat.beq a 0 with
    | false=>rfl
    | true=>exact absurd (Nat.eq_of_beq_eq_true hb) h
def Tt:List D→Option D:=a2 Ak Ak fun a b=>some (.int .i64 (sW a b))
theorem aco:Good lg Tt:=aaU fun a b d ha hb hf=>by rw [← Option.some.inj hf]; exact XA (ft ha) (ft hb)
def Tq:List D→Option D:=a2 Ak Ak fun a b=>some (dJ (a+b))
theorem acn:Good jw Tq:=aaU fun a b d ha hb hf=>by rw [← Option.some.inj hf]; exact Xz (ft ha) (ft hb)
def TB:List D→Option D:=a2 Ak Ak fun a b=>if b≤a then some (.bg [dJ (a-b),.aK]) else none
theorem acu:Good oZ TB:=aaU fun a b d ha hb hf=>by
   split at hf <;> try (simp at hf; done)
   rw [← Option.some.inj hf]; exact KU (ft ha) (ft hb) (by assumption)
def TA:List D→Option D:=a2 Ak Ak fun a b=>some (dJ (a*b))
theorem acs:Good jA TA:=aaU fun a b d ha hb hf=>by rw [← Option.some.inj hf]; exact Gm (ft ha) (ft hb)
def Tv:List D→Option D:=a2 Ak Ak fun a b=>if b≠0 then some (.bg [dJ (a / b),dJ (a % b),.aK]) else none
theorem acp:Good jy Tv:=aaU fun a b d ha hb hf=>by
   split at hf <;> try (simp at hf; done)
   rw [← Option.some.inj hf]; exact KR (ft ha) (ft hb) (by assumption)
def Tz:List D→Option D:=a2 Ak Ak fun a b=>some (dJ (Nat.gcd a b))
theorem acr:Good qK Tz:=aaU fun a b d ha hb hf=>by rw [← Option.some.inj hf]; exact adW (ft ha) (ft hb)
def QV:List D→Option D:=a1 Ak fun a=>some (.str (txt a))
theorem abb:Good jR QV:=asJ fun a d ha hf=>by rw [← Option.some.inj hf]; exact abN (ft ha) (wr ha)
def abu:List D→Option D:=a1 anc fun s=>if wH s then some (.bg [dJ (cZ 0 s),.aK]) else some (.bg [.aY,EU 1])
theorem ajr:Good oU abu:=Np fun x s d hx hf=>by
   obtain ⟨rfl,hs⟩:=al8 hx
   split at hf
   ·rw [← Option.some.inj hf]; exact KT (by assumption)
   ·rw [← Option.some.inj hf]; exact abM (by assumption) (by omega)
def abv:List D→Option D:=a2 aq3 Ak fun b n=>some (intD (if b then -(n:Int) else n))
theorem ajs:Good jd abv:=Tf fun x y b n d hx hy hf=>by rw [aty hx,(JH hy).1,← Option.some.inj hf]; exact anL b n
def TD:List D→Option D:=a1 x9 fun z=>some (dJ z.natAbs)
theorem acv:Good bW TD:=aik fun a d ha hf=>by rw [← Option.some.inj hf]; exact anJ a
def QX:List D→Option D:=a1 x9 fun z=>some (.int .i64 z.sign)
theorem abe:Good dG QX:=aik fun a d ha hf=>by rw [← Option.some.inj hf]; exact alF a
def TJ:List D→Option D:=a1 x9 fun z=>some (intD (-z))
theorem acA:Good qN TJ:=aik fun a d ha hf=>by rw [← Option.some.inj hf]; exact anK a
def TF:List D→Option D:=a2 x9 x9 fun a b=>some (intD (a+b))
theorem acw:Good iG TF:=aaR fun a b d ha hb hf=>by rw [← Option.some.inj hf]; exact Qc ha hb (by decide) (by decide)
def TK:List D→Option D:=a2 x9 x9 fun a b=>some (intD (a-b))
theorem acB:Good uz TK:=aaR fun a b d ha hb hf=>by rw [← Option.some.inj hf]; exact adY ha hb (by decide) (by decide)
def TG:List D→Option D:=a2 x9 x9 fun a b=>some (.int .i64 (a-b).sign)
theorem acy:Good qM TG:=aaR fun a b d ha hb hf=>by rw [← Option.some.inj hf]; exact XB ha hb (by decide) (by decide)
def TI:List D→Option D:=a2 x9 x9 fun a b=>some (intD (a*b))
theorem acz:Good bZ TI:=aaR fun a b d ha hb hf=>by rw [← Option.some.inj hf]; exact uD ha hb (by decide) (by decide)
def adg:List D→Option D:=a1 Nr fun n=>some (intD n)
theorem alr:Good jT adg:=Np fun x n d hx hf=>by rw [(xZ hx).1,← Option.some.inj hf]; exact ZW n (xZ hx).2
def QY:List D→Option D:=a1 x9 fun z=>some (.str (Px z))
theorem abf:Good jS QY:=aik fun a d ha hf=>by rw [← Option.some.inj hf]; exact Vk ha (by decide) (by decide)
def abx:List D→Option D:=a2 x9 x9 fun n d=>if d≠0 then some (.bg [dV (Rat.divInt n d),.aK]) else none
theorem aju:Good rP abx:=aaR fun a b d ha hb hf=>by
   split at hf <;> try (simp at hf; done)
   rw [← Option.some.inj hf]; exact Ll ha hb (by decide) (by decide) (by assumption)
def Zj:List D→Option D:=a2 x9 x9 fun n d=>if d≠0 then some (dV (Rat.divInt n d)) else none
theorem ahZ:Good yG Zj:=aaR fun a b d ha hb hf=>by
   split at hf <;> try (simp at hf; done)
   rw [← Option.some.inj hf]; exact N9 ha hb (by decide) (by decide) (by assumption)
def adh:List D→Option D:=a2 Nr Nr fun n d=>if d≠0 then some (.bg [dV (Rat.divInt n d),.aK]) else none
theorem als:Good lV adh:=Tf fun x y a b d hx hy hf=>by
   split at hf <;> try (simp at hf; done)
   rw [(xZ hx).1,(xZ hy).1,← Option.some.inj hf]
   exact Fq (xZ hx).2 (xZ hy).2 (by assumption)
def TR:List D→Option D:=a1 CG fun q=>some (intD q.num)
theorem acH:Good dI TR:=aio fun a d ha hf=>by rw [← Option.some.inj hf]; exact anY a
def TN:List D→Option D:=a1 CG fun q=>some (intD (q.den:Int))
theorem acE:Good dh TN:=aio fun a d ha hf=>by rw [← Option.some.inj hf]; exact anW a
def Q5:List D→Option D:=a1 CG fun q=>some (.int .i64 q.num.sign)
theorem abh:Good jU Q5:=aio fun a d ha hf=>by rw [← Option.some.inj hf]; exact Vt a
def TL:List D→Option D:=a2 CG CG fun a b=>some (dV (a+b))
theorem acC:Good lu TL:=ad7 fun a b d ha hb hf=>by rw [← Option.some.inj hf]; exact Lh ha hb (by decide)
def TS:List D→Option D:=a2 CG CG fun a b=>some (dV (a-b))
theorem acI:Good nR TS:=ad7 fun a b d ha hb hf=>by rw [← Option.some.inj hf]; exact aeb ha hb (by decide)
def TQ:List D→Option D:=a2 CG CG fun a b=>some (dV (a*b))
theorem acG:Good jC TQ:=ad7 fun a b d ha hb hf=>by rw [← Option.some.inj hf]; exact Lj ha hb (by decide)
def TP:List D→Option D:=a2 CG CG fun a b=>if b.num=0 then none else some (.bg [dV (a / b),.aK])
theorem acF:Good qO TP:=ad7 fun a b d ha hb hf=>by
   split at hf <;> try (simp at hf; done)
   rename_i h0
   rw [← Option.some.inj hf]; exact anX ha hb (by decide) (fun h=>h0 (by rw [h]; rfl))
def TM:List D→Option D:=a2 CG CG fun a b=>some (.int .i64 (Ve a b))
theorem acD:Good lC TM:=ad7 fun a b d ha hb hf=>by rw [← Option.some.inj hf]; exact Ql ha hb (by decide)
def Q7:List D→Option D:=a1 CG fun q=>some (.str (LU q))
theorem abj:Good gK Q7:=aio fun a d ha hf=>by rw [← Option.some.inj hf]; exact DZ ha (by decide) (by decide)
def abt:List D→Option D:=a1 anc fun s=>some (Jh (yL s))
theorem ajq:Good y5 abt:=Np fun x s d hx hf=>by
   obtain ⟨rfl,hs⟩:=al8 hx
   rw [← Option.some.inj hf]; exact adw (by omega)
def DT:D→Option aQ
 | .agg [.int .i64 i,.int .i64 m,.int .i64 f,.str c,.str r,.int .i64 n,.int .i64 s,.bool e,.int .i64 x]=>if c.length≤1000∧r.length≤1000 then some ⟨i,m,f,c,r,n,s,e,x⟩ else none
 | _=>none
theorem wL {d:D} {b:aQ} (h:DT d=some b):d=aX b∧b.dH.length≤1000000∧b.dM.length≤1000000:=by
 unfold DT at h
 split at h <;> try (simp at h; done)
 split at h <;> try (simp at h; done)
 rename_i hl
 simp at h
 subst h
 exact ⟨rfl,by simp only; omega,by simp only; omega⟩
theorem adi {f:aQ→Option D} {g:Nat} (h:∀ b d,b.dH.length≤1000000→b.dM.length≤1000000→f b=some d→L.call g [aX b]=some d):Good g (a1 DT f) :=
 Np fun x a d hx hf=>by rw [(wL hx).1]; exact h a d (wL hx).2.1 (wL hx).2.2 hf
def V5:List D→Option D:=a1 DT fun b=>some (fE (chk b))
theorem adF:Good nV V5:=adi fun b d hc hr hf=>by rw [← Option.some.inj hf]; exact Dv hc hr
def Tm:List D→Option D:=a1 DT fun b=>some (.int .i64 (months b))
theorem aci:Good nN Tm:=adi fun b d hc hr hf=>by rw [← Option.some.inj hf]; exact MC b
def Ti:List D→Option D:=a1 DT fun b=>some (dV (LZ b))
theorem ach:Good nM Ti:=adi fun b d hc hr hf=>by rw [← Option.some.inj hf]; exact FQ hc hr
def Tn:List D→Option D:=a1 DT fun b=>some (dV (mO b))
theorem acj:Good qJ Tn:=adi fun b d hc hr hf=>by rw [← Option.some.inj hf]; exact FT hc hr
def abw:List D→Option D:=a1 DT fun b=>some (Bf (aZ b))
theorem ajt:Good tV abw:=adi fun b d hc hr hf=>by rw [← Option.some.inj hf]; exact KX hc hr
def V7:List D→Option D:=a2 DT Nr fun b n=>some (acS b n)
theorem adH:Good rD V7:=Tf fun x y b n d hx hy hf=>by
 rw [(wL hx).1,(xZ hy).1,← Option.some.inj hf]; exact I8 (wL hx).2.1 (wL hx).2.2 n
def decP:D→Option (Int×Int)
 | .agg [.int .i64 a,.int .i64 b]=>some (a,b)
 | _=>none
theorem atz {d:D} {p:Int×Int} (h:decP d=some p):d=pD p:=by
 unfold decP at h
 split at h <;> simp at h
 subst h; rfl
def QZ:List D→Option D:=a2 DT decP fun b p=>some (.bool (regular b p))
theorem abg:Good mM QZ:=Tf fun x y b p d hx hy hf=>by
 rw [(wL hx).1,atz hy,← Option.some.inj hf]; exact KY (wL hx).2.1 (wL hx).2.2 p
def PG:List D→Option D:=a2 Nr Nr fun a b=>if bn a∧bn b then some (.int .i64 (sV a b)) else none
theorem ZC:Good kX PG:=Tf fun x y a b d hx hy hf=>by
 split at hf <;> try (simp at hf; done)
 rename_i h
 rw [(xZ hx).1,(xZ hy).1,← Option.some.inj hf]; exact UC h.1 h.2
def QU:List D→Option D:=a1 Nr fun n=>some (.int .i64 (aaC n))
theorem aa':Good fF QU:=Np fun x n d hx hf=>by rw [(xZ hx).1,← Option.some.inj hf]; exact En n
def Va:List D→Option D
 | [.sl 1 [.int .i64 a,.int .i64 b,.int .i64 c,.int .i64 d,.int .i64 e,.bool false],.sl 0 []]=>if a=1∧b=1∧c=1∧d=0∧e=0 then some (.bg [.ref [.uN (G5 300)] 0,.aK]) else none
 | _=>none
theorem ajp:Good FU Va:=by
 intro args d h
 unfold Va at h
 split at h <;> try (simp at h; done)
 rename_i a b c d' e
 split at h <;> try (simp at h; done)
 rename_i hc
 obtain ⟨rfl,rfl,rfl,rfl,rfl⟩:=hc
 rw [← Option.some.inj h]
 exact aoR
def V6:List D→Option D:=a1 Nr fun n=>if bn n then some (.bg [oH (lQ n.toNat).1 (lQ n.toNat).2.1 (lQ n.toNat).2.2,.aK]) else some (.bg [oH 0 0 0,EU 4])
theorem adG:Good gZ V6:=Np fun x n d hx hf=>by
 rw [(xZ hx).1]
 split at hf
 ·rename_i h
  obtain ⟨y,m,dd,hc,hd,ho⟩:=dU h
  rw [← Option.some.inj hf,ho,hd]
  exact vM hc
 ·rename_i h
  rw [← Option.some.inj hf]; exact Wh h
def O4:List D→Option D
 | [.int .i64 a,.int .i64 n,.bool e]=>some (mG (r_ a n e))
 | _=>none
theorem afb:Good qo O4:=by
 intro args d h
 unfold O4 at h
 split at h <;> try (simp at h; done)
 rw [← Option.some.inj h]; exact Vh _ _ _
def aoK:List (Nat×(List D→Option D)) :=
 [(ji,adf),(fV,QW),(lg,Tt),(jw,Tq),(oZ,TB),(jA,TA),(jy,Tv),(qK,Tz),(jR,QV),(oU,abu),(jd,abv),(bW,TD),(dG,QX),(qN,TJ),(iG,TF),(uz,TK),(qM,TG),(bZ,TI),(jT,adg),(jS,QY),(rP,abx),(yG,Zj),(lV,adh),(dI,TR),(dh,TN),(jU,Q5),(lu,TL),(nR,TS),(jC,TQ),(qO,TP),(lC,TM),(gK,Q7),(y5,abt),(nV,V5),(nN,Tm),(nM,Ti),(qJ,Tn),(tV,abw),(rD,V7),(mM,QZ),(kX,PG),(fF,QU),(FU,Va),(gZ,V6),(qo,O4)]
def VG:List (Nat×(List D→Option D))→Prop
 | []=>True
 | p::r=>Good p.1 p.2∧VG r
theorem VG.look:∀ {l:List (Nat×(List D→Option D))} {n:Nat} {p:List D→Option D},VG l→I5 l n=some p→Good n p
 | [],n,p,_,h=>by simp [I5] at h
 | (i,x)::r,n,p,⟨h1,h2⟩,h=>by
   simp only [I5,cond_eq_ite] at h
   split at h
   ·rename_i hb
    simp at h
    subst h
    rw [← Nat.eq_of_beq_eq_true hb]
    exact h1
   ·exact VG.look h2 h
theorem aoL:VG aoK :=
 ⟨alq,abd,aco,acn,acu,acs,acp,acr,abb,ajr,ajs,acv,abe,acA,acw,acB,acy,acz,alr,abf,aju,ahZ,als,acH,acE,abh,acC,acI,acG,acF,acD,abj,ajq,adF,aci,ach,acj,ajt,adH,abg,ZC,aa',ajp,adG,afb,trivial⟩
def Bq:Nat→aB
 | 0=>⟨fun _ _ _=>none,fun _ _ _ _ _ _=>none,fun _ _=>none⟩
 | n+1 =>
   ⟨fun f args m=>match TT.fn f with
    | some ef=>ef.step (Bq n) args m
    | none=>TT.lM f args m,
    fun ins outs body base vals m=>EY (Bq n) ins outs body base vals m,
    fun f args=>match (match I5 aoK f with
      | some p=>p args
      | none=>none) with
     | some d=>some d
     | none=>yE (match TT.fn f with
       | some ef=>ef.step (Bq n) args []
       | none=>TT.lM f args [])⟩
theorem aoM:∀ n,(Bq n).le L
 | 0=>⟨fun f args m r h=>by simp [Bq] at h,fun _ _ _ _ _ _ r h=>by simp [Bq] at h,fun _ _ r h=>by simp [Bq] at h⟩
 | n+1=>by
   have ih:=aoM n
   have hca:∀ f args m r,(Bq (n+1)).bK f args m=some r→L.bK f args m=some r:=by
    intro f args m r h
    simp only [Bq] at h
    split at h
    ·rename_i ef he
     exact ajE he (afe Uw ih h)
    ·rename_i he
     exact ajG he h
   refine ⟨hca,fun ins outs body base vals m r h=>agk (ZV Uw ih h),fun f args d h=>?_⟩
   simp only [Bq] at h
   split at h
   ·rename_i d' hd
    split at hd
    ·rename_i p hp
     rw [← h]
     exact aoL.look hp args d' hd
    ·simp at hd
   ·obtain ⟨r,h1⟩:=Hy h
    show yE (L.bK f args [])=some d
    rw [hca f args [] r (by simp only [Bq]; exact h1),← h1,h]
theorem aqw (n:Nat) {f:Nat} {args:List D} {d:D} (h:(Bq n).call f args=some d):L.call f args=some d:=(aoM n).call f args d h
end Go.Ev.Code
end
