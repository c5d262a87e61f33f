/- A part of the proof of priceAll_card, yieldAll_card, priceSum_card, flowAll_card, accrAll_card. -/
import Derived.Test.YtfkdcfbleblgoaaGreatDoorCSpD1
set_option linter.unusedVariables false
set_option linter.unusedSimpArgs false
section
namespace Go.Ev.Code
open Go Go.Ev
def aqM:List D→Option (List Nat)
 | []=>some []
 | .int .u64 x::ds=>if 0≤x∧x<18446744073709551616 then (aqM ds).bind fun l=>some (x.toNat::l) else none
 | _=>none
theorem auM:∀ {cs:List D} {l:List Nat},aqM cs=some l→cs=l.map ak∧Small l
 | [],l,h=>by simp [aqM] at h; subst h; exact ⟨rfl,fun x hx=>by simp at hx⟩
 | d::ds,l,h=>by
   unfold aqM at h
   split at h <;> try (simp at h; done)
   ·rename_i heq; simp at heq
   ·rename_i x ds' heq
    simp at heq
    obtain ⟨rfl,rfl⟩:=heq
    split at h <;> try (simp at h; done)
    rename_i hx
    rw [Option.bind_eq_some_iff] at h
    obtain ⟨l',hl',h⟩:=h
    simp at h
    subst h
    obtain ⟨q1,q2⟩:=auM hl'
    have hx':(x.toNat:Int)=x:=by omega
    refine ⟨by simp [q1,hx'],fun y hy=>?_⟩
    simp at hy
    rcases hy with rfl | hy
    ·unfold W; omega
    ·exact q2 y hy
def alq:List Nat→Bool
 | []=>true
 | [x] => !(Nat.beq x 0)
 | _::y::ys=>alq (y::ys)
theorem aoa:∀ {l:List Nat},alq l=true→∀ h:l≠[],l.getLast h≠0
 | [],_,h=>absurd rfl h
 | [x],h,_=>by
   simp only [alq,Bool.not_eq_true'] at h
   intro hx
   simp at hx
   subst hx
   simp at h
 | x::y::ys,h,hne=>by
   rw [List.getLast_cons (by simp)]
   exact aoa (l:=y::ys) h _
def BA:D→Option Nat
 | .ref [.sl k cs] 0=>(aqM cs).bind fun l=>if k=l.length∧l.length≤1000∧alq l=true then some (val l) else none
 | _=>none
theorem O6 {d:D} {n:Nat} (h:BA d=some n):d=dI n∧NB 64000 n:=by
 unfold BA at h
 split at h <;> try (simp at h; done)
 rename_i k cs
 rw [Option.bind_eq_some_iff] at h
 obtain ⟨l,hl,h⟩:=h
 split at h <;> try (simp at h; done)
 rename_i hc
 simp at h
 subst h
 obtain ⟨q1,q2⟩:=auM hl
 have hcan:Canon l:=⟨q2,aoa hc.2.2⟩
 refine ⟨?_,?_⟩
 ·show D.ref [.sl k cs] 0 = .ref (QU (val l)) 0
  unfold QU
  rw [ahj hcan,q1,hc.1]
 ·have : NB (64*l.length) (val l):=by
   unfold NB
   have := V6 q2
   rw [tY,← Nat.pow_mul] at this
   exact this
  exact this.mono (by omega)
def yC:D→Option Int
 | .ref [.bool b,dn] 0=>(BA dn).bind fun n=>if b then (if n=0 then none else some (-(n:Int))) else some (n:Int)
 | _=>none
theorem O5 {d:D} {z:Int} (h:yC d=some z):d=intD z∧IB 64000 z:=by
 unfold yC at h
 split at h <;> try (simp at h; done)
 rename_i b dn
 rw [Option.bind_eq_some_iff] at h
 obtain ⟨n,hn,h⟩:=h
 obtain ⟨q1,q2⟩:=O6 hn
 subst q1
 split at h
 ·rename_i hb
  split at h <;> try (simp at h; done)
  rename_i hn0
  simp at h
  subst h
  subst hb
  refine ⟨?_,(IB.ofNat q2).neg⟩
  show D.ref _ 0 = .ref (Zc _) 0
  unfold Zc
  have h1 : -(n:Int)<0:=by omega
  have h2:(-(n:Int)).natAbs=n:=by omega
  rw [h2,decide_eq_true h1]
 ·rename_i hb
  simp at h hb
  subst h
  subst hb
  refine ⟨?_,IB.ofNat q2⟩
  show D.ref _ 0 = .ref (Zc _) 0
  unfold Zc
  have h1:¬ (n:Int)<0:=by omega
  have h2:((n:Int)).natAbs=n:=by omega
  rw [h2,decide_eq_false h1]
def Eo:D→Option Rat
 | .ref [dn,dd] 0=>(yC dn).bind fun z=>(yC dd).bind fun e=>if h:0<e∧Nat.gcd z.natAbs e.natAbs=1 then some ⟨z,e.natAbs,by omega,h.2⟩ else none
 | _=>none
theorem Yc {d:D} {q:Rat} (h:Eo d=some q):d=cZ q∧RB 64000 q:=by
 unfold Eo at h
 split at h <;> try (simp at h; done)
 rename_i dn dd
 simp only [Option.bind_eq_some_iff] at h
 obtain ⟨z,hz,e,he,h⟩:=h
 obtain ⟨q1,q2⟩:=O5 hz
 obtain ⟨q3,q4⟩:=O5 he
 split at h <;> try (simp at h; done)
 rename_i hc
 simp at h
 subst h
 refine ⟨?_,q2,q4⟩
 show D.ref _ 0 = .ref (am9 _) 0
 unfold am9
 have : ((e.natAbs:Nat):Int)=e:=by omega
 rw [q1,q3]
 simp only [this]
def Good (g:Nat) (p:List D→Option D):Prop:=∀ args d,p args=some d→L.call g args=some d
def a1 {α:Type} (dec:D→Option α) (f:α→Option D):List D→Option D
 | [x]=>(dec x).bind f
 | _=>none
def a2 {α β:Type} (dec:D→Option α) (dec':D→Option β) (f:α→β→Option D):List D→Option D
 | [x,y]=>(dec x).bind fun a=>(dec' y).bind fun b=>f a b
 | _=>none
theorem Ux {α:Type} {dec:D→Option α} {f:α→Option D} {g:Nat} (h:∀ x a d,dec x=some a→f a=some d→L.call g [x]=some d):Good g (a1 dec f):=by
 intro args d hd
 unfold a1 at hd
 split at hd <;> try (simp at hd; done)
 rw [Option.bind_eq_some_iff] at hd
 obtain ⟨a,ha,hd⟩:=hd
 exact h _ a d ha hd
theorem Z_ {α β:Type} {dec:D→Option α} {dec':D→Option β} {f:α→β→Option D} {g:Nat} (h:∀ x y a b d,dec x=some a→dec' y=some b→f a b=some d→L.call g [x,y]=some d):Good g (a2 dec dec' f):=by
 intro args d hd
 unfold a2 at hd
 split at hd <;> try (simp at hd; done)
 simp only [Option.bind_eq_some_iff] at hd
 obtain ⟨a,ha,b,hb,hd⟩:=hd
 exact h _ _ a b d ha hb hd
theorem aii {f:Nat→Nat→Option D} {g:Nat} (h:∀ a b d,NB 64000 a→NB 64000 b→f a b=some d→L.call g [dI a,dI b]=some d):Good g (a2 BA BA f) :=
 Z_ fun x y a b d hx hy hf=>by rw [(O6 hx).1,(O6 hy).1]; exact h a b d (O6 hx).2 (O6 hy).2 hf
theorem aAY {f:Nat→Option D} {g:Nat} (h:∀ a d,NB 64000 a→f a=some d→L.call g [dI a]=some d):Good g (a1 BA f) :=
 Ux fun x a d hx hf=>by rw [(O6 hx).1]; exact h a d (O6 hx).2 hf
theorem aie {f:Int→Int→Option D} {g:Nat} (h:∀ a b d,IB 64000 a→IB 64000 b→f a b=some d→L.call g [intD a,intD b]=some d):Good g (a2 yC yC f) :=
 Z_ fun x y a b d hx hy hf=>by rw [(O5 hx).1,(O5 hy).1]; exact h a b d (O5 hx).2 (O5 hy).2 hf
theorem apX {f:Int→Option D} {g:Nat} (h:∀ a d,IB 64000 a→f a=some d→L.call g [intD a]=some d):Good g (a1 yC f) :=
 Ux fun x a d hx hf=>by rw [(O5 hx).1]; exact h a d (O5 hx).2 hf
theorem alQ {f:Rat→Rat→Option D} {g:Nat} (h:∀ a b d,RB 64000 a→RB 64000 b→f a b=some d→L.call g [cZ a,cZ b]=some d):Good g (a2 Eo Eo f) :=
 Z_ fun x y a b d hx hy hf=>by rw [(Yc hx).1,(Yc hy).1]; exact h a b d (Yc hx).2 (Yc hy).2 hf
theorem ap3 {f:Rat→Option D} {g:Nat} (h:∀ a d,RB 64000 a→f a=some d→L.call g [cZ a]=some d):Good g (a1 Eo f) :=
 Ux fun x a d hx hf=>by rw [(Yc hx).1]; exact h a d (Yc hx).2 hf
def Wj:D→Option (List UInt8)
 | .str s=>if s.length≤1000 then some s else none
 | _=>none
theorem auN {d:D} {s:List UInt8} (h:Wj d=some s):d = .str s∧s.length≤1000:=by
 unfold Wj at h
 split at h <;> try (simp at h; done)
 split at h <;> try (simp at h; done)
 simp at h
 subst h
 exact ⟨rfl,by assumption⟩
def azx:D→Option Bool
 | .bool b=>some b
 | _=>none
theorem aBO {d:D} {b:Bool} (h:azx d=some b):d = .bool b:=by
 unfold azx at h
 split at h <;> simp at h
 rw [h]
def UC:D→Option Int
 | .int .i64 n=>if -9223372036854775808≤n∧n≤9223372036854775807 then some n else none
 | _=>none
theorem yA {d:D} {n:Int} (h:UC d=some n):d = .int .i64 n∧(-9223372036854775808≤n∧n≤9223372036854775807):=by
 unfold UC at h
 split at h <;> try (simp at h; done)
 split at h <;> try (simp at h; done)
 simp at h
 subst h
 exact ⟨rfl,by assumption⟩
def azy:D→Option Nat
 | .int .u64 n=>if 0≤n∧n<18446744073709551616 then some n.toNat else none
 | _=>none
theorem auO {d:D} {n:Nat} (h:azy d=some n):d=ak n∧n<W:=by
 unfold azy at h
 split at h <;> try (simp at h; done)
 split at h <;> try (simp at h; done)
 rename_i z hz
 simp at h
 subst h
 refine ⟨?_,by unfold W; omega⟩
 show D.int _ _ = .int _ _
 congr 1; omega
end Go.Ev.Code
end
section
namespace Go.Ev.Code
open Go Go.Ev
theorem az4 {n f:Nat} {args:List D} {d:D} (h:(TT.nO n).call f args=some d):L.call f args=some d:=by
 rw [Zo] at h
 obtain ⟨⟨r,m⟩,hr⟩:=NS h
 rw [hr] at h
 exact zW (O_.2 ⟨n,hr⟩) h
def al1:D := .agg [.int .i64 1,.int .i64 1,.int .i64 1,.int .i64 0,.int .i64 0,.bool false]
theorem av_:L.call aew [al1]=some (.bool true):=az4 (n:=30) (by kernel_rfl)
theorem ayL {n a b:Int} (h1:a≤n) (h2:n≤b):L.call UH [.int .i64 n,.int .i64 a,.int .i64 b]=some (.bool true):=by
 refine aj (ao0 ..) ?_
 simp [afy,h1,h2]
theorem av8 {y:Nat} (h1:1900≤y) (h2:y≤2199):L.call aev [al1,.int .i64 y]=some (.aG [.int .i64 (dN y),.bool true]):=by
 have hm:=av_
 have hd:=ak7 (y:=y) (m:=1) (d:=1) h1 h2 (by decide) (by decide) (by decide) (by simp [bW])
 have e:dayOf y 1 1=dN y:=by simp [dayOf,dH]
 rw [e] at hd
 have hb:=YH (y:=y) (by omega)
 have hb':dN y≤109572:=by unfold dN; omega
 have hw:=ayL (n:=dN y) (a:=0) (b:=109572) (by omega) (by omega)
 unfold mJ at hd
 unfold al1 at hm ⊢
 generalize dN y=b at *
 refine aj (avx ..) ?_
 simp [al5,hm,hd,hw] at *
def MW:Nat→List Int
 | 0=>[]
 | k+1=>((dN (1900+k):Nat):Int)::MW k
theorem aDh {y:Nat} (h1:1900≤y) (h2:y≤2199):dN y<dN (y+1):=by unfold dN; omega
theorem auZ:∀ {k:Nat},k≤300→∀ z∈MW k,z<(dN (1900+k):Nat)
 | 0,_,z,hz=>by simp [MW] at hz
 | k+1,hk,z,hz=>by
   have := aDh (y:=1900+k) (by omega) (by omega)
   simp only [MW,List.mem_cons] at hz
   rcases hz with rfl | hz
   ·have e:1900+k+1=1900+(k+1):=by omega
    rw [e] at this; omega
   ·have h:=auZ (k:=k) (by omega) z hz
    have e:1900+k+1=1900+(k+1):=by omega
    rw [e] at this; omega
theorem axV {k:Nat} (hk:k<300):ahd (MW k) ((dN (1900+k):Nat):Int)=MW (k+1):=by
 have : (MW k).contains ((dN (1900+k):Nat):Int)=false:=by
  rw [← Bool.not_eq_true,List.contains_iff_mem]
  intro h
  have := auZ (k:=k) (by omega) _ h
  omega
 unfold ahd
 rw [this]
 rfl
def Uf:D := .sl 1 [.int .i64 1,.int .i64 1,.int .i64 1,.int .i64 0,.int .i64 0,.bool false]
theorem az1 (j:Nat):∀ k,k+j=300 →
  L.loop [6,10,11,47,48,49] [6,47,48,49] Qk 3 [.loc 1 0,.loc 2 0,.int .i64 ((1900+k:Nat):Int),Uf,.int .i64 1,.int .i64 0] [.mp (MW k),.live [.lmap 0],.live [.int .i64 1,.int .i64 1,.int .i64 1,.int .i64 0,.int .i64 0,.bool false]] =
    some (.exit 5,[.loc 1 0,Uf,.int .i64 1,.int .i64 0],[.mp (MW 300),.live [.lmap 0],.live [.int .i64 1,.int .i64 1,.int .i64 1,.int .i64 0,.int .i64 0,.bool false]]):=by
 induction j with
 | zero =>
   intro k hk
   have : k=300:=by omega
   subst this
   refine au (af' ..) ?_
   simp [ZH,Uf]
 | succ j ih =>
   intro k hk
   have hd:=av8 (y:=1900+k) (by omega) (by omega)
   have hn:=ih (k+1) (by omega)
   have hi:=axV (k:=k) (by omega)
   have h1:((1900+k:Nat):Int)≤2199:=by omega
   have h2:IntKind.i64.wrap (((1900+k:Nat):Int)+1)=((1900+(k+1):Nat):Int):=by rw [wrap64 _ (by omega)]; omega
   generalize 1900+(k+1)=y' at *
   generalize 1900+k=y at *
   generalize dN y=b at *
   generalize MW (k+1)=js at *
   generalize MW k=jk at *
   generalize MW 300=jz at *
   unfold al1 at hd
   refine au (af' ..) ?_
   unfold Uf at *
   simp [ZH,UU,h1,h2,hd,hi,hn]
theorem aqI:L.call lS [Uf,.func aaG []]=some (.bool false):=az4 (n:=40) (by kernel_rfl)
theorem apo:L.call rW [.sl 0 [],.func aaH []]=some (.bool false):=az4 (n:=40) (by kernel_rfl)
theorem axf:L.call Yb [Uf,.sl 0 []]=some (.aG [.ref [.uz (MW 300)] 0,.bQ]):=by
 have h1:=aqI
 have h2:=apo
 have h3:=az1 300 0 (by omega)
 refine aj (aw1 ..) ?_
 generalize MW 300=jz at *
 unfold Uf at *
 simp [MW] at h3
 have l1:L.loop [0,6,35,36,37] [0,6] Qj 2 [.sl 1 [.int .i64 1,.int .i64 1,.int .i64 1,.int .i64 0,.int .i64 0,.bool false],.loc 1 0,.sl 0 [],.int .i64 0,.int .i64 0] [.mp [],.live [.lmap 0]]=some (.exit 1,[.sl 1 [.int .i64 1,.int .i64 1,.int .i64 1,.int .i64 0,.int .i64 0,.bool false],.loc 1 0],[.mp [],.live [.lmap 0]]):=by
  refine au (aqe ..) ?_
  simp [ahJ]
 have l3:L.loop [6,47,48,49] [6] J8 2 [.loc 1 0,.sl 1 [.int .i64 1,.int .i64 1,.int .i64 1,.int .i64 0,.int .i64 0,.bool false],.int .i64 1,.int .i64 1] [.mp jz,.live [.lmap 0]]=some (.exit 3,[.loc 1 0],[.mp jz,.live [.lmap 0]]):=by
  refine au (aga ..) ?_
  simp [ZI]
 have l2:L.loop [6,47,48,49] [6] J8 2 [.loc 1 0,.sl 1 [.int .i64 1,.int .i64 1,.int .i64 1,.int .i64 0,.int .i64 0,.bool false],.int .i64 1,.int .i64 0] [.mp [],.live [.lmap 0]]=some (.exit 3,[.loc 1 0],[.mp jz,.live [.lmap 0]]):=by
  refine au (aga ..) ?_
  have e1:IntKind.i64.wrap 1=1:=by decide
  simp [ZI,h3,e1,l3]
 simp [aoB,h1,h2,acj,l1,l2]
end Go.Ev.Code
end
section
namespace Go.Ev.Code
open Go Go.Ev
theorem ft {n:Nat} (h:NB 64000 n):Fit n:=h.fit (by decide)
theorem wr {n:Nat} (h:NB 64000 n):Wri n:=h.wri (by decide) (by decide)
def akP:List D→Option D:=a1 azy fun n=>some (dI n)
theorem atT:Good Jz akP:=Ux fun x n d hx hf=>by
   rw [(auO hx).1,← Option.some.inj hf]; exact ru n (auO hx).2
def Yz:List D→Option D:=a1 BA fun n=>some (.bool (Nat.beq n 0))
theorem aiF:Good uD Yz:=aAY fun a d ha hf=>by
   rw [← Option.some.inj hf,UL]
   congr 2
   by_cases h:a=0
   ·subst h; rfl
   ·rw [decide_eq_false h]
    cases hb:Nat.beq a 0 with
    | false=>rfl
    | true=>exact absurd (Nat.eq_of_beq_eq_true hb) h
def aag:List D→Option D:=a2 BA BA fun a b=>some (.int .i64 (fM a b))
theorem ajR:Good BL aag:=aii fun a b d ha hb hf=>by rw [← Option.some.inj hf]; exact XU (ft ha) (ft hb)
def aaf:List D→Option D:=a2 BA BA fun a b=>some (dI (a+b))
theorem ajQ:Good BK aaf:=aii fun a b d ha hb hf=>by rw [← Option.some.inj hf]; exact QV (ft ha) (ft hb)
def aak:List D→Option D:=a2 BA BA fun a b=>if b≤a then some (.aG [dI (a-b),.bQ]) else none
theorem ajV:Good BO aak:=aii fun a b d ha hb hf=>by
   split at hf <;> try (simp at hf; done)
   rw [← Option.some.inj hf]; exact QW (ft ha) (ft hb) (by assumption)
def aaj:List D→Option D:=a2 BA BA fun a b=>some (dI (a*b))
theorem ajU:Good ug aaj:=aii fun a b d ha hb hf=>by rw [← Option.some.inj hf]; exact Ld (ft ha) (ft hb)
def aah:List D→Option D:=a2 BA BA fun a b=>if b≠0 then some (.aG [dI (a / b),dI (a % b),.bQ]) else none
theorem ajS:Good BM aah:=aii fun a b d ha hb hf=>by
   split at hf <;> try (simp at hf; done)
   rw [← Option.some.inj hf]; exact Ae (ft ha) (ft hb) (by assumption)
def aai:List D→Option D:=a2 BA BA fun a b=>some (dI (Nat.gcd a b))
theorem ajT:Good BN aai:=aii fun a b d ha hb hf=>by rw [← Option.some.inj hf]; exact aeE (ft ha) (ft hb)
def Yy:List D→Option D:=a1 BA fun a=>some (.str (txt a))
theorem aiE:Good yF Yy:=aAY fun a d ha hf=>by rw [← Option.some.inj hf]; exact ab8 (ft ha) (wr ha)
def aiS:List D→Option D:=a1 Wj fun s=>if uY s then some (.aG [dI (bZ 0 s),.bQ]) else some (.aG [.iy,BD 1])
theorem arf:Good DJ aiS:=Ux fun x s d hx hf=>by
   obtain ⟨rfl,hs⟩:=auN hx
   split at hf
   ·rw [← Option.some.inj hf]; exact E8 (by assumption)
   ·rw [← Option.some.inj hf]; exact ai9 (by assumption) (by omega)
def aiT:List D→Option D:=a2 azx BA fun b n=>some (intD (if b then -(n:Int) else n))
theorem arh:Good Lh aiT:=Z_ fun x y b n d hx hy hf=>by rw [aBO hx,(O6 hy).1,← Option.some.inj hf]; exact Fe b n
def aal:List D→Option D:=a1 yC fun z=>some (dI z.natAbs)
theorem ajW:Good BR aal:=apX fun a d ha hf=>by rw [← Option.some.inj hf]; exact Ai a
def YA:List D→Option D:=a1 yC fun z=>some (.int .i64 z.sign)
theorem aiG:Good uF YA:=apX fun a d ha hf=>by rw [← Option.some.inj hf]; exact G8 a
def aap:List D→Option D:=a1 yC fun z=>some (intD (-z))
theorem aj0:Good BU aap:=apX fun a d ha hf=>by rw [← Option.some.inj hf]; exact awi a
def aam:List D→Option D:=a2 yC yC fun a b=>some (intD (a+b))
theorem ajX:Good xE aam:=aie fun a b d ha hb hf=>by rw [← Option.some.inj hf]; exact Fb ha hb (by decide) (by decide)
def aaq:List D→Option D:=a2 yC yC fun a b=>some (intD (a-b))
theorem aj1:Good G7 aaq:=aie fun a b d ha hb hf=>by rw [← Option.some.inj hf]; exact alG ha hb (by decide) (by decide)
def aan:List D→Option D:=a2 yC yC fun a b=>some (.int .i64 (a-b).sign)
theorem ajY:Good G6 aan:=aie fun a b d ha hb hf=>by rw [← Option.some.inj hf]; exact aeH ha hb (by decide) (by decide)
def aao:List D→Option D:=a2 yC yC fun a b=>some (intD (a*b))
theorem ajZ:Good xG aao:=aie fun a b d ha hb hf=>by rw [← Option.some.inj hf]; exact eF ha hb (by decide) (by decide)
def akQ:List D→Option D:=a1 UC fun n=>some (intD n)
theorem atU:Good Vu akQ:=Ux fun x n d hx hf=>by rw [(yA hx).1,← Option.some.inj hf]; exact Aj n (yA hx).2
def YB:List D→Option D:=a1 yC fun z=>some (.str (wu z))
theorem aiH:Good uG YB:=apX fun a d ha hf=>by rw [← Option.some.inj hf]; exact ab_ ha (by decide) (by decide)
def aiV:List D→Option D:=a2 yC yC fun n d=>if d≠0 then some (.aG [cZ (Rat.divInt n d),.bQ]) else none
theorem arj:Good LH aiV:=aie fun a b d ha hb hf=>by
   split at hf <;> try (simp at hf; done)
   rw [← Option.some.inj hf]; exact Fq ha hb (by decide) (by decide) (by assumption)
def agu:List D→Option D:=a2 yC yC fun n d=>if d≠0 then some (cZ (Rat.divInt n d)) else none
theorem apx:Good OQ agu:=aie fun a b d ha hb hf=>by
   split at hf <;> try (simp at hf; done)
   rw [← Option.some.inj hf]; exact U0 ha hb (by decide) (by decide) (by assumption)
def akR:List D→Option D:=a2 UC UC fun n d=>if d≠0 then some (.aG [cZ (Rat.divInt n d),.bQ]) else none
theorem atV:Good DZ akR:=Z_ fun x y a b d hx hy hf=>by
   split at hf <;> try (simp at hf; done)
   rw [(yA hx).1,(yA hy).1,← Option.some.inj hf]
   exact Aq (yA hx).2 (yA hy).2 (by assumption)
def aaw:List D→Option D:=a1 Eo fun q=>some (intD q.num)
theorem aj9:Good xP aaw:=ap3 fun a d ha hf=>by rw [← Option.some.inj hf]; exact Rj a
def aat:List D→Option D:=a1 Eo fun q=>some (intD (q.den:Int))
theorem aj6:Good xM aat:=ap3 fun a d ha hf=>by rw [← Option.some.inj hf]; exact LG a
def YD:List D→Option D:=a1 Eo fun q=>some (.int .i64 q.num.sign)
theorem aiJ:Good qj YD:=ap3 fun a d ha hf=>by rw [← Option.some.inj hf]; exact acn a
def aar:List D→Option D:=a2 Eo Eo fun a b=>some (cZ (a+b))
theorem aj2:Good xJ aar:=alQ fun a b d ha hb hf=>by rw [← Option.some.inj hf]; exact LD ha hb (by decide)
def aax:List D→Option D:=a2 Eo Eo fun a b=>some (cZ (a-b))
theorem aj_:Good BZ aax:=alQ fun a b d ha hb hf=>by rw [← Option.some.inj hf]; exact LJ ha hb (by decide)
def aav:List D→Option D:=a2 Eo Eo fun a b=>some (cZ (a*b))
theorem aj8:Good BX aav:=alQ fun a b d ha hb hf=>by rw [← Option.some.inj hf]; exact Fp ha hb (by decide)
def aau:List D→Option D:=a2 Eo Eo fun a b=>if b.num=0 then none else some (.aG [cZ (a / b),.bQ])
theorem aj7:Good xO aau:=alQ fun a b d ha hb hf=>by
   split at hf <;> try (simp at hf; done)
   rename_i h0
   rw [← Option.some.inj hf]; exact alT ha hb (by decide) (fun h=>h0 (by rw [h]; rfl))
def aas:List D→Option D:=a2 Eo Eo fun a b=>some (.int .i64 (zo a b))
theorem aj3:Good xK aas:=alQ fun a b d ha hb hf=>by rw [← Option.some.inj hf]; exact Fj ha hb (by decide)
def YE:List D→Option D:=a1 Eo fun q=>some (.str (pI q))
theorem aiK:Good uI YE:=ap3 fun a d ha hf=>by rw [← Option.some.inj hf]; exact lG ha (by decide) (by decide)
def aiR:List D→Option D:=a1 Wj fun s=>some (Hy (oZ s))
theorem ard:Good GR aiR:=Ux fun x s d hx hf=>by
   obtain ⟨rfl,hs⟩:=auN hx
   rw [← Option.some.inj hf]; exact Qq (by omega)
def GL:D→Option aA
 | .agg [.int .i64 i,.int .i64 m,.int .i64 f,.str c,.str r,.int .i64 n,.int .i64 s,.bool e,.int .i64 x]=>if c.length≤1000∧r.length≤1000 then some ⟨i,m,f,c,r,n,s,e,x⟩ else none
 | _=>none
theorem wR {d:D} {b:aA} (h:GL d=some b):d=aC b∧b.aY.length≤1000000∧b.bJ.length≤1000000:=by
 unfold GL at h
 split at h <;> try (simp at h; done)
 split at h <;> try (simp at h; done)
 rename_i hl
 simp at h
 subst h
 exact ⟨rfl,by simp only; omega,by simp only; omega⟩
theorem akS {f:aA→Option D} {g:Nat} (h:∀ b d,b.aY.length≤1000000→b.bJ.length≤1000000→f b=some d→L.call g [aC b]=some d):Good g (a1 GL f) :=
 Ux fun x a d hx hf=>by rw [(wR hx).1]; exact h a d (wR hx).2.1 (wR hx).2.2 hf
def acV:List D→Option D:=a1 GL fun b=>some (fC (chk b))
theorem alj:Good Ei acV:=akS fun b d hc hr hf=>by rw [← Option.some.inj hf]; exact Gt hc hr
def aad:List D→Option D:=a1 GL fun b=>some (.int .i64 (months b))
theorem ajO:Good Bv aad:=akS fun b d hc hr hf=>by rw [← Option.some.inj hf]; exact Tf b
def aac:List D→Option D:=a1 GL fun b=>some (cZ (pV b))
theorem ajN:Good Bq aac:=akS fun b d hc hr hf=>by rw [← Option.some.inj hf]; exact J5 hc hr
def aae:List D→Option D:=a1 GL fun b=>some (cZ (fJ b))
theorem ajP:Good Bz aae:=akS fun b d hc hr hf=>by rw [← Option.some.inj hf]; exact J6 hc hr
def aiU:List D→Option D:=a1 GL fun b=>some (Ak (aF b))
theorem ari:Good T_ aiU:=akS fun b d hc hr hf=>by rw [← Option.some.inj hf]; exact Lm hc hr
def acX:List D→Option D:=a2 GL UC fun b n=>some (akv b n)
theorem alm:Good Fh acX:=Z_ fun x y b n d hx hy hf=>by
 rw [(wR hx).1,(yA hy).1,← Option.some.inj hf]; exact Og (wR hx).2.1 (wR hx).2.2 n
def decP:D→Option (Int×Int)
 | .agg [.int .i64 a,.int .i64 b]=>some (a,b)
 | _=>none
theorem aBP {d:D} {p:Int×Int} (h:decP d=some p):d=pD p:=by
 unfold decP at h
 split at h <;> simp at h
 subst h; rfl
def YC:List D→Option D:=a2 GL decP fun b p=>some (.bool (regular b p))
theorem aiI:Good yI YC:=Z_ fun x y b p d hx hy hf=>by
 rw [(wR hx).1,aBP hy,← Option.some.inj hf]; exact IE (wR hx).2.1 (wR hx).2.2 p
def XD:List D→Option D:=a2 UC UC fun a b=>if aU a∧aU b then some (.int .i64 (sU a b)) else none
theorem aha:Good qY XD:=Z_ fun x y a b d hx hy hf=>by
 split at hf <;> try (simp at hf; done)
 rename_i h
 rw [(yA hx).1,(yA hy).1,← Option.some.inj hf]; exact aa3 h.1 h.2
def Yx:List D→Option D:=a1 UC fun n=>some (.int .i64 (ah3 n))
theorem aiD:Good yx Yx:=Ux fun x n d hx hf=>by rw [(yA hx).1,← Option.some.inj hf]; exact IC n
def abD:List D→Option D
 | [.sl 1 [.int .i64 a,.int .i64 b,.int .i64 c,.int .i64 d,.int .i64 e,.bool false],.sl 0 []]=>if a=1∧b=1∧c=1∧d=0∧e=0 then some (.aG [.ref [.uz (MW 300)] 0,.bQ]) else none
 | _=>none
theorem arb:Good Yb abD:=by
 intro args d h
 unfold abD at h
 split at h <;> try (simp at h; done)
 rename_i a b c d' e
 split at h <;> try (simp at h; done)
 rename_i hc
 obtain ⟨rfl,rfl,rfl,rfl,rfl⟩:=hc
 rw [← Option.some.inj h]
 exact axf
def acW:List D→Option D:=a1 UC fun n=>if aU n then some (.aG [mJ (kQ n.toNat).1 (kQ n.toNat).2.1 (kQ n.toNat).2.2,.bQ]) else some (.aG [mJ 0 0 0,BD 4])
theorem alk:Good zX acW:=Ux fun x n d hx hf=>by
 rw [(yA hx).1]
 split at hf
 ·rename_i h
  obtain ⟨y,m,dd,hc,hd,ho⟩:=eu h
  rw [← Option.some.inj hf,ho,hd]
  exact vT hc
 ·rename_i h
  rw [← Option.some.inj hf]; exact ac2 h
def Wi:List D→Option D
 | [.int .i64 a,.int .i64 n,.bool e]=>some (kW (pF a n e))
 | _=>none
theorem amS:Good Ad Wi:=by
 intro args d h
 unfold Wi at h
 split at h <;> try (simp at h; done)
 rw [← Option.some.inj h]; exact ab7 _ _ _
def aw9:List (Nat×(List D→Option D)) :=
 [(Jz,akP),(uD,Yz),(BL,aag),(BK,aaf),(BO,aak),(ug,aaj),(BM,aah),(BN,aai),(yF,Yy),(DJ,aiS),(Lh,aiT),(BR,aal),(uF,YA),(BU,aap),(xE,aam),(G7,aaq),(G6,aan),(xG,aao),(Vu,akQ),(uG,YB),(LH,aiV),(OQ,agu),(DZ,akR),(xP,aaw),(xM,aat),(qj,YD),(xJ,aar),(BZ,aax),(BX,aav),(xO,aau),(xK,aas),(uI,YE),(GR,aiR),(Ei,acV),(Bv,aad),(Bq,aac),(Bz,aae),(T_,aiU),(Fh,acX),(yI,YC),(qY,XD),(yx,Yx),(Yb,abD),(zX,acW),(Ad,Wi)]
def acH:List (Nat×(List D→Option D))→Prop
 | []=>True
 | p::r=>Good p.1 p.2∧acH r
theorem acH.look:∀ {l:List (Nat×(List D→Option D))} {n:Nat} {p:List D→Option D},acH l→Oc l n=some p→Good n p
 | [],n,p,_,h=>by simp [Oc] at h
 | (i,x)::r,n,p,⟨h1,h2⟩,h=>by
   simp only [Oc,cond_eq_ite] at h
   split at h
   ·rename_i hb
    simp at h
    subst h
    rw [← Nat.eq_of_beq_eq_true hb]
    exact h1
   ·exact acH.look h2 h
theorem aw_:acH aw9 :=
 ⟨atT,aiF,ajR,ajQ,ajV,ajU,ajS,ajT,aiE,arf,arh,ajW,aiG,aj0,ajX,aj1,ajY,ajZ,atU,aiH,arj,apx,atV,aj9,aj6,aiJ,aj2,aj_,aj8,aj7,aj3,aiK,ard,alj,ajO,ajN,ajP,ari,alm,aiI,aha,aiD,arb,alk,amS,trivial⟩
noncomputable def Dl:Nat→h_
 | 0=>⟨fun _ _ _=>none,fun _ _ _ _ _ _=>none,fun _ _=>none⟩
 | n+1 =>
   ⟨fun f args m=>match TT.fn f with
    | some ef=>ef.step (Dl n) args m
    | none=>TT.ku f args m,
    fun ins outs body base vals m=>Jy (Dl n) ins outs body base vals m,
    fun f args=>match (match Oc aw9 f with
      | some p=>p args
      | none=>none) with
     | some d=>some d
     | none=>yJ (match TT.fn f with
       | some ef=>ef.step (Dl n) args []
       | none=>TT.ku f args [])⟩
theorem aw':∀ n,(Dl n).le L
 | 0=>⟨fun f args m r h=>by simp [Dl] at h,fun _ _ _ _ _ _ r h=>by simp [Dl] at h,fun _ _ r h=>by simp [Dl] at h⟩
 | n+1=>by
   have ih:=aw' n
   have hca:∀ f args m r,(Dl (n+1)).bf f args m=some r→L.bf f args m=some r:=by
    intro f args m r h
    simp only [Dl] at h
    split at h
    ·rename_i ef he
     exact arz he (am0 aaS ih h)
    ·rename_i he
     exact arB he h
   refine ⟨hca,fun ins outs body base vals m r h=>aoe (Vt aaS ih h),fun f args d h=>?_⟩
   simp only [Dl] at h
   split at h
   ·rename_i d' hd
    split at hd
    ·rename_i p hp
     rw [← h]
     exact aw_.look hp args d' hd
    ·simp at hd
   ·obtain ⟨r,h1⟩:=NS h
    show yJ (L.bf f args [])=some d
    rw [hca f args [] r (by simp only [Dl]; exact h1),← h1,h]
theorem ay1 (n:Nat) {f:Nat} {args:List D} {d:D} (h:(Dl n).call f args=some d):L.call f args=some d:=(aw' n).call f args d h
end Go.Ev.Code
end
