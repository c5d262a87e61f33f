/- A part of the proof of riskZero_card, yieldPar_card, pricePar_card. -/
import Derived.Test.YtheeamloonpolaaGreatDoorCSpC
import Derived.Test.YtheeamloonpolaaGreatDoorCSpD1
set_option linter.unusedVariables false
set_option linter.unusedSimpArgs false
section
namespace Go.Ev.Code
open Go Go.Ev
def aiM:List D→Option (List Nat)
 | []=>some []
 | .int .u64 x::ds=>if 0≤x∧x<18446744073709551616 then (aiM ds).bind fun l=>some (x.toNat::l) else none
 | _=>none
theorem alP:∀ {cs:List D} {l:List Nat},aiM cs=some l→cs=l.map aU∧Small l
 | [],l,h=>by simp [aiM] at h; subst h; exact ⟨rfl,fun x hx=>by simp at hx⟩
 | d::ds,l,h=>by
   unfold aiM at h
   split at h <;> try (simp at h; done)
   ·rename_i heq; simp at heq
   ·rename_i x ds' heq
    simp at heq
    obtain ⟨rfl,rfl⟩:=heq
    split at h <;> try (simp at h; done)
    rename_i hx
    rw [Option.bind_eq_some_iff] at h
    obtain ⟨l',hl',h⟩:=h
    simp at h
    subst h
    obtain ⟨q1,q2⟩:=alP hl'
    have hx':(x.toNat:Int)=x:=by omega
    refine ⟨by simp [q1,hx'],fun y hy=>?_⟩
    simp at hy
    rcases hy with rfl | hy
    ·unfold W; omega
    ·exact q2 y hy
def ada:List Nat→Bool
 | []=>true
 | [x] => !(Nat.beq x 0)
 | _::y::ys=>ada (y::ys)
theorem afM:∀ {l:List Nat},ada l=true→∀ h:l≠[],l.getLast h≠0
 | [],_,h=>absurd rfl h
 | [x],h,_=>by
   simp only [ada,Bool.not_eq_true'] at h
   intro hx
   simp at hx
   subst hx
   simp at h
 | x::y::ys,h,hne=>by
   rw [List.getLast_cons (by simp)]
   exact afM (l:=y::ys) h _
def zi:D→Option Nat
 | .ref [.sl k cs] 0=>(aiM cs).bind fun l=>if k=l.length∧l.length≤1000∧ada l=true then some (val l) else none
 | _=>none
theorem I5 {d:D} {n:Nat} (h:zi d=some n):d=dP n∧NB 64000 n:=by
 unfold zi at h
 split at h <;> try (simp at h; done)
 rename_i k cs
 rw [Option.bind_eq_some_iff] at h
 obtain ⟨l,hl,h⟩:=h
 split at h <;> try (simp at h; done)
 rename_i hc
 simp at h
 subst h
 obtain ⟨q1,q2⟩:=alP hl
 have hcan:Canon l:=⟨q2,afM hc.2.2⟩
 refine ⟨?_,?_⟩
 ·show D.ref [.sl k cs] 0 = .ref (JU (val l)) 0
  unfold JU
  rw [Zk hcan,q1,hc.1]
 ·have : NB (64*l.length) (val l):=by
   unfold NB
   have := Oi q2
   rw [rG,← Nat.pow_mul] at this
   exact this
  exact this.mono (by omega)
def wQ:D→Option Int
 | .ref [.bool b,dn] 0=>(zi dn).bind fun n=>if b then (if n=0 then none else some (-(n:Int))) else some (n:Int)
 | _=>none
theorem I4 {d:D} {z:Int} (h:wQ d=some z):d=intD z∧IB 64000 z:=by
 unfold wQ at h
 split at h <;> try (simp at h; done)
 rename_i b dn
 rw [Option.bind_eq_some_iff] at h
 obtain ⟨n,hn,h⟩:=h
 obtain ⟨q1,q2⟩:=I5 hn
 subst q1
 split at h
 ·rename_i hb
  split at h <;> try (simp at h; done)
  rename_i hn0
  simp at h
  subst h
  subst hb
  refine ⟨?_,(IB.ofNat q2).neg⟩
  show D.ref _ 0 = .ref (QN _) 0
  unfold QN
  have h1 : -(n:Int)<0:=by omega
  have h2:(-(n:Int)).natAbs=n:=by omega
  rw [h2,decide_eq_true h1]
 ·rename_i hb
  simp at h hb
  subst h
  subst hb
  refine ⟨?_,IB.ofNat q2⟩
  show D.ref _ 0 = .ref (QN _) 0
  unfold QN
  have h1:¬ (n:Int)<0:=by omega
  have h2:((n:Int)).natAbs=n:=by omega
  rw [h2,decide_eq_false h1]
def AP:D→Option Rat
 | .ref [dn,dd] 0=>(wQ dn).bind fun z=>(wQ dd).bind fun e=>if h:0<e∧Nat.gcd z.natAbs e.natAbs=1 then some ⟨z,e.natAbs,by omega,h.2⟩ else none
 | _=>none
theorem PV {d:D} {q:Rat} (h:AP d=some q):d=cO q∧RB 64000 q:=by
 unfold AP at h
 split at h <;> try (simp at h; done)
 rename_i dn dd
 simp only [Option.bind_eq_some_iff] at h
 obtain ⟨z,hz,e,he,h⟩:=h
 obtain ⟨q1,q2⟩:=I4 hz
 obtain ⟨q3,q4⟩:=I4 he
 split at h <;> try (simp at h; done)
 rename_i hc
 simp at h
 subst h
 refine ⟨?_,q2,q4⟩
 show D.ref _ 0 = .ref (aeY _) 0
 unfold aeY
 have : ((e.natAbs:Nat):Int)=e:=by omega
 rw [q1,q3]
 simp only [this]
def Good (g:Nat) (p:List D→Option D):Prop:=∀ args d,p args=some d→L.call g args=some d
def a1 {α:Type} (dec:D→Option α) (f:α→Option D):List D→Option D
 | [x]=>(dec x).bind f
 | _=>none
def a2 {α β:Type} (dec:D→Option α) (dec':D→Option β) (f:α→β→Option D):List D→Option D
 | [x,y]=>(dec x).bind fun a=>(dec' y).bind fun b=>f a b
 | _=>none
theorem MP {α:Type} {dec:D→Option α} {f:α→Option D} {g:Nat} (h:∀ x a d,dec x=some a→f a=some d→L.call g [x]=some d):Good g (a1 dec f):=by
 intro args d hd
 unfold a1 at hd
 split at hd <;> try (simp at hd; done)
 rw [Option.bind_eq_some_iff] at hd
 obtain ⟨a,ha,hd⟩:=hd
 exact h _ a d ha hd
theorem SG {α β:Type} {dec:D→Option α} {dec':D→Option β} {f:α→β→Option D} {g:Nat} (h:∀ x y a b d,dec x=some a→dec' y=some b→f a b=some d→L.call g [x,y]=some d):Good g (a2 dec dec' f):=by
 intro args d hd
 unfold a2 at hd
 split at hd <;> try (simp at hd; done)
 simp only [Option.bind_eq_some_iff] at hd
 obtain ⟨a,ha,b,hb,hd⟩:=hd
 exact h _ _ a b d ha hb hd
theorem aam {f:Nat→Nat→Option D} {g:Nat} (h:∀ a b d,NB 64000 a→NB 64000 b→f a b=some d→L.call g [dP a,dP b]=some d):Good g (a2 zi zi f) :=
 SG fun x y a b d hx hy hf=>by rw [(I5 hx).1,(I5 hy).1]; exact h a b d (I5 hx).2 (I5 hy).2 hf
theorem asc {f:Nat→Option D} {g:Nat} (h:∀ a d,NB 64000 a→f a=some d→L.call g [dP a]=some d):Good g (a1 zi f) :=
 MP fun x a d hx hf=>by rw [(I5 hx).1]; exact h a d (I5 hx).2 hf
theorem aak {f:Int→Int→Option D} {g:Nat} (h:∀ a b d,IB 64000 a→IB 64000 b→f a b=some d→L.call g [intD a,intD b]=some d):Good g (a2 wQ wQ f) :=
 SG fun x y a b d hx hy hf=>by rw [(I4 hx).1,(I4 hy).1]; exact h a b d (I4 hx).2 (I4 hy).2 hf
theorem ahR {f:Int→Option D} {g:Nat} (h:∀ a d,IB 64000 a→f a=some d→L.call g [intD a]=some d):Good g (a1 wQ f) :=
 MP fun x a d hx hf=>by rw [(I4 hx).1]; exact h a d (I4 hx).2 hf
theorem adw {f:Rat→Rat→Option D} {g:Nat} (h:∀ a b d,RB 64000 a→RB 64000 b→f a b=some d→L.call g [cO a,cO b]=some d):Good g (a2 AP AP f) :=
 SG fun x y a b d hx hy hf=>by rw [(PV hx).1,(PV hy).1]; exact h a b d (PV hx).2 (PV hy).2 hf
theorem ahY {f:Rat→Option D} {g:Nat} (h:∀ a d,RB 64000 a→f a=some d→L.call g [cO a]=some d):Good g (a1 AP f) :=
 MP fun x a d hx hf=>by rw [(PV hx).1]; exact h a d (PV hx).2 hf
def amW:D→Option (List UInt8)
 | .str s=>if s.length≤1000 then some s else none
 | _=>none
theorem alQ {d:D} {s:List UInt8} (h:amW d=some s):d = .str s∧s.length≤1000:=by
 unfold amW at h
 split at h <;> try (simp at h; done)
 split at h <;> try (simp at h; done)
 simp at h
 subst h
 exact ⟨rfl,by assumption⟩
def aqI:D→Option Bool
 | .bool b=>some b
 | _=>none
theorem as7 {d:D} {b:Bool} (h:aqI d=some b):d = .bool b:=by
 unfold aqI at h
 split at h <;> simp at h
 rw [h]
def MR:D→Option Int
 | .int .i64 n=>if -9223372036854775808≤n∧n≤9223372036854775807 then some n else none
 | _=>none
theorem wP {d:D} {n:Int} (h:MR d=some n):d = .int .i64 n∧(-9223372036854775808≤n∧n≤9223372036854775807):=by
 unfold MR at h
 split at h <;> try (simp at h; done)
 split at h <;> try (simp at h; done)
 simp at h
 subst h
 exact ⟨rfl,by assumption⟩
def aqJ:D→Option Nat
 | .int .u64 n=>if 0≤n∧n<18446744073709551616 then some n.toNat else none
 | _=>none
theorem alR {d:D} {n:Nat} (h:aqJ d=some n):d=aU n∧n<W:=by
 unfold aqJ at h
 split at h <;> try (simp at h; done)
 split at h <;> try (simp at h; done)
 rename_i z hz
 simp at h
 subst h
 refine ⟨?_,by unfold W; omega⟩
 show D.int _ _ = .int _ _
 congr 1; omega
end Go.Ev.Code
end
section
namespace Go.Ev.Code
open Go Go.Ev
theorem ara {n f:Nat} {args:List D} {d:D} (h:(TT.nT n).call f args=some d):L.call f args=some d:=by
 rw [Rk] at h
 obtain ⟨⟨r,m⟩,hr⟩:=Gi h
 rw [hr] at h
 exact yF (Jc.2 ⟨n,hr⟩) h
def adH:D := .agg [.int .i64 1,.int .i64 1,.int .i64 1,.int .i64 0,.int .i64 0,.bool false]
theorem anf:L.call Ij [adH]=some (.bool true):=ara (n:=30) (by kernel_rfl)
theorem apQ {n a b:Int} (h1:a≤n) (h2:n≤b):L.call lY [.int .i64 n,.int .i64 a,.int .i64 b]=some (.bool true):=by
 refine aN ag4 rfl (agB ..) ?_
 simp [XY,h1,h2]
theorem ane {y:Nat} (h1:1900≤y) (h2:y≤2199):L.call DL [adH,.int .i64 y]=some (.aZ [.int .i64 (dU y),.bool true]):=by
 have hm:=anf
 have hd:=acV (y:=y) (m:=1) (d:=1) h1 h2 (by decide) (by decide) (by decide) (by simp [bP])
 have e:dayOf y 1 1=dU y:=by simp [dayOf,dF]
 rw [e] at hd
 have hb:=QC (y:=y) (by omega)
 have hb':dU y≤109572:=by unfold dU; omega
 have hw:=apQ (n:=dU y) (a:=0) (b:=109572) (by omega) (by omega)
 unfold mV at hd
 unfold adH at hm ⊢
 generalize dU y=b at *
 refine aN amJ rfl (amC ..) ?_
 simp [adK,hm,hd,hw] at *
def FW:Nat→List Int
 | 0=>[]
 | k+1=>((dU (1900+k):Nat):Int)::FW k
theorem auI {y:Nat} (h1:1900≤y) (h2:y≤2199):dU y<dU (y+1):=by unfold dU; omega
theorem al2:∀ {k:Nat},k≤300→∀ z∈FW k,z<(dU (1900+k):Nat)
 | 0,_,z,hz=>by simp [FW] at hz
 | k+1,hk,z,hz=>by
   have := auI (y:=1900+k) (by omega) (by omega)
   simp only [FW,List.mem_cons] at hz
   rcases hz with rfl | hz
   ·have e:1900+k+1=1900+(k+1):=by omega
    rw [e] at this; omega
   ·have h:=al2 (k:=k) (by omega) z hz
    have e:1900+k+1=1900+(k+1):=by omega
    rw [e] at this; omega
theorem aoV {k:Nat} (hk:k<300):Zf (FW k) ((dU (1900+k):Nat):Int)=FW (k+1):=by
 have : (FW k).contains ((dU (1900+k):Nat):Int)=false:=by
  rw [← Bool.not_eq_true,List.contains_iff_mem]
  intro h
  have := al2 (k:=k) (by omega) _ h
  omega
 unfold Zf
 rw [this]
 rfl
def L_:D := .sl 1 [.int .i64 1,.int .i64 1,.int .i64 1,.int .i64 0,.int .i64 0,.bool false]
theorem aq6 (j:Nat):∀ k,k+j=300 →
  L.loop [6,10,11,47,48,49] [6,47,48,49] AA 3 [.loc 1 0,.loc 2 0,.int .i64 ((1900+k:Nat):Int),L_,.int .i64 1,.int .i64 0] [.mp (FW k),.live [.lmap 0],.live [.int .i64 1,.int .i64 1,.int .i64 1,.int .i64 0,.int .i64 0,.bool false]] =
    some (.exit 5,[.loc 1 0,L_,.int .i64 1,.int .i64 0],[.mp (FW 300),.live [.lmap 0],.live [.int .i64 1,.int .i64 1,.int .i64 1,.int .i64 0,.int .i64 0,.bool false]]):=by
 induction j with
 | zero =>
   intro k hk
   have : k=300:=by omega
   subst this
   refine aO (Yy ..) ?_
   simp [RG,L_]
 | succ j ih =>
   intro k hk
   have hd:=ane (y:=1900+k) (by omega) (by omega)
   have hn:=ih (k+1) (by omega)
   have hi:=aoV (k:=k) (by omega)
   have h1:((1900+k:Nat):Int)≤2199:=by omega
   have h2:IntKind.i64.wrap (((1900+k:Nat):Int)+1)=((1900+(k+1):Nat):Int):=by rw [wrap64 _ (by omega)]; omega
   generalize 1900+(k+1)=y' at *
   generalize 1900+k=y at *
   generalize dU y=b at *
   generalize FW (k+1)=js at *
   generalize FW k=jk at *
   generalize FW 300=jz at *
   unfold adH at hd
   refine aO (Yy ..) ?_
   unfold L_ at *
   simp [RG,PE,h1,h2,hd,hi,hn]
theorem aiG:L.call iF [L_,.func IX []]=some (.bool false):=ara (n:=40) (by kernel_rfl)
theorem ahq:L.call jZ [.sl 0 [],.func IY []]=some (.bool false):=ara (n:=40) (by kernel_rfl)
theorem aoo:L.call Ep [L_,.sl 0 []]=some (.aZ [.ref [.sK (FW 300)] 0,.aG]):=by
 have h1:=aiG
 have h2:=ahq
 have h3:=aq6 300 0 (by omega)
 refine aN an8 rfl (anZ ..) ?_
 generalize FW 300=jz at *
 unfold L_ at *
 simp [FW] at h3
 have l1:L.loop [0,6,35,36,37] [0,6] Az 2 [.sl 1 [.int .i64 1,.int .i64 1,.int .i64 1,.int .i64 0,.int .i64 0,.bool false],.loc 1 0,.sl 0 [],.int .i64 0,.int .i64 0] [.mp [],.live [.lmap 0]]=some (.exit 1,[.sl 1 [.int .i64 1,.int .i64 1,.int .i64 1,.int .i64 0,.int .i64 0,.bool false],.loc 1 0],[.mp [],.live [.lmap 0]]):=by
  refine aO (ah_ ..) ?_
  simp [ZM]
 have l3:L.loop [6,47,48,49] [6] yE 2 [.loc 1 0,.sl 1 [.int .i64 1,.int .i64 1,.int .i64 1,.int .i64 0,.int .i64 0,.bool false],.int .i64 1,.int .i64 1] [.mp jz,.live [.lmap 0]]=some (.exit 3,[.loc 1 0],[.mp jz,.live [.lmap 0]]):=by
  refine aO (YA ..) ?_
  simp [RH]
 have l2:L.loop [6,47,48,49] [6] yE 2 [.loc 1 0,.sl 1 [.int .i64 1,.int .i64 1,.int .i64 1,.int .i64 0,.int .i64 0,.bool false],.int .i64 1,.int .i64 0] [.mp [],.live [.lmap 0]]=some (.exit 3,[.loc 1 0],[.mp jz,.live [.lmap 0]]):=by
  refine aO (YA ..) ?_
  have e1:IntKind.i64.wrap 1=1:=by decide
  simp [RH,h3,e1,l3]
 simp [af',h1,h2,Xv,l1,l2]
end Go.Ev.Code
end
section
namespace Go.Ev.Code
open Go Go.Ev
theorem ft {n:Nat} (h:NB 64000 n):Fit n:=h.fit (by decide)
theorem wr {n:Nat} (h:NB 64000 n):Wri n:=h.wri (by decide) (by decide)
def acG:List D→Option D:=a1 aqJ fun n=>some (dP n)
theorem ak8:Good iW acG:=MP fun x n d hx hf=>by
   rw [(alR hx).1,← Option.some.inj hf]; exact vU n (alR hx).2
def Qw:List D→Option D:=a1 zi fun n=>some (.bool (Nat.beq n 0))
theorem aaE:Good fQ Qw:=asc fun a d ha hf=>by
   rw [← Option.some.inj hf,UU]
   congr 2
   by_cases h:a=0
   ·subst h; rfl
   ·rw [decide_eq_false h]
    cases hb:Nat.beq a 0 with
    | false=>rfl
    | true=>exact absurd (Nat.eq_of_beq_eq_true hb) h
def SN:List D→Option D:=a2 zi zi fun a b=>some (.int .i64 (zT a b))
theorem abE:Good kQ SN:=aam fun a b d ha hb hf=>by rw [← Option.some.inj hf]; exact Xe (ft ha) (ft hb)
def SL:List D→Option D:=a2 zi zi fun a b=>some (dP (a+b))
theorem abD:Good ji SL:=aam fun a b d ha hb hf=>by rw [← Option.some.inj hf]; exact Xd (ft ha) (ft hb)
def SY:List D→Option D:=a2 zi zi fun a b=>if b≤a then some (.aZ [dP (a-b),.aG]) else none
theorem abJ:Good nR SY:=aam fun a b d ha hb hf=>by
   split at hf <;> try (simp at hf; done)
   rw [← Option.some.inj hf]; exact JV (ft ha) (ft hb) (by assumption)
def SV:List D→Option D:=a2 zi zi fun a b=>some (dP (a*b))
theorem abI:Good jm SV:=aam fun a b d ha hb hf=>by rw [← Option.some.inj hf]; exact EW (ft ha) (ft hb)
def SQ:List D→Option D:=a2 zi zi fun a b=>if b≠0 then some (.aZ [dP (a / b),dP (a % b),.aG]) else none
theorem abG:Good jl SQ:=aam fun a b d ha hb hf=>by
   split at hf <;> try (simp at hf; done)
   rw [← Option.some.inj hf]; exact EU (ft ha) (ft hb) (by assumption)
def SS:List D→Option D:=a2 zi zi fun a b=>some (dP (Nat.gcd a b))
theorem abH:Good oZ SS:=aam fun a b d ha hb hf=>by rw [← Option.some.inj hf]; exact Xf (ft ha) (ft hb)
def Qv:List D→Option D:=a1 zi fun a=>some (.str (txt a))
theorem aaD:Good jF Qv:=asc fun a d ha hf=>by rw [← Option.some.inj hf]; exact abd (ft ha) (wr ha)
def aaT:List D→Option D:=a1 amW fun s=>if zF s then some (.aZ [dP (jG 0 s),.aG]) else some (.aZ [.aV,zU 1])
theorem ai5:Good nM aaT:=MP fun x s d hx hf=>by
   obtain ⟨rfl,hs⟩:=alQ hx
   split at hf
   ·rw [← Option.some.inj hf]; exact Ba (by assumption)
   ·rw [← Option.some.inj hf]; exact abb (by assumption) (by omega)
def aaU:List D→Option D:=a2 aqI zi fun b n=>some (intD (if b then -(n:Int) else n))
theorem ai6:Good iH aaU:=SG fun x y b n d hx hy hf=>by rw [as7 hx,(I5 hy).1,← Option.some.inj hf]; exact EX b n
def S9:List D→Option D:=a1 wQ fun z=>some (dP z.natAbs)
theorem abK:Good bV S9:=ahR fun a d ha hf=>by rw [← Option.some.inj hf]; exact JX a
def Qx:List D→Option D:=a1 wQ fun z=>some (.int .i64 z.sign)
theorem aaF:Good dK Qx:=ahR fun a d ha hf=>by rw [← Option.some.inj hf]; exact NC a
def Tf:List D→Option D:=a1 wQ fun z=>some (intD (-z))
theorem abO:Good o9 Tf:=ahR fun a d ha hf=>by rw [← Option.some.inj hf]; exact anp a
def S_:List D→Option D:=a2 wQ wQ fun a b=>some (intD (a+b))
theorem abL:Good iy S_:=aak fun a b d ha hb hf=>by rw [← Option.some.inj hf]; exact rV ha hb (by decide) (by decide)
def Ti:List D→Option D:=a2 wQ wQ fun a b=>some (intD (a-b))
theorem abP:Good rX Ti:=aak fun a b d ha hb hf=>by rw [← Option.some.inj hf]; exact adn ha hb (by decide) (by decide)
def Tc:List D→Option D:=a2 wQ wQ fun a b=>some (.int .i64 (a-b).sign)
theorem abM:Good o8 Tc:=aak fun a b d ha hb hf=>by rw [← Option.some.inj hf]; exact Xh ha hb (by decide) (by decide)
def Td:List D→Option D:=a2 wQ wQ fun a b=>some (intD (a*b))
theorem abN:Good bW Td:=aak fun a b d ha hb hf=>by rw [← Option.some.inj hf]; exact dM ha hb (by decide) (by decide)
def acH:List D→Option D:=a1 MR fun n=>some (intD n)
theorem ak9:Good jI acH:=MP fun x n d hx hf=>by rw [(wP hx).1,← Option.some.inj hf]; exact ng n (wP hx).2
def Qy:List D→Option D:=a1 wQ fun z=>some (.str (zD z))
theorem aaG:Good jH Qy:=ahR fun a d ha hf=>by rw [← Option.some.inj hf]; exact UZ ha (by decide) (by decide)
def aaW:List D→Option D:=a2 wQ wQ fun n d=>if d≠0 then some (.aZ [cO (Rat.divInt n d),.aG]) else none
theorem ai8:Good oL aaW:=aak fun a b d ha hb hf=>by
   split at hf <;> try (simp at hf; done)
   rw [← Option.some.inj hf]; exact vG ha hb (by decide) (by decide) (by assumption)
def YQ:List D→Option D:=a2 wQ wQ fun n d=>if d≠0 then some (cO (Rat.divInt n d)) else none
theorem ahv:Good xw YQ:=aak fun a b d ha hb hf=>by
   split at hf <;> try (simp at hf; done)
   rw [← Option.some.inj hf]; exact NI ha hb (by decide) (by decide) (by assumption)
def acI:List D→Option D:=a2 MR MR fun n d=>if d≠0 then some (.aZ [cO (Rat.divInt n d),.aG]) else none
theorem ak_:Good lC acI:=SG fun x y a b d hx hy hf=>by
   split at hf <;> try (simp at hf; done)
   rw [(wP hx).1,(wP hy).1,← Option.some.inj hf]
   exact wo (wP hx).2 (wP hy).2 (by assumption)
def Tz:List D→Option D:=a1 AP fun q=>some (intD q.num)
theorem abV:Good dO Tz:=ahY fun a d ha hf=>by rw [← Option.some.inj hf]; exact J9 a
def Tq:List D→Option D:=a1 AP fun q=>some (intD (q.den:Int))
theorem abS:Good dD Tq:=ahY fun a d ha hf=>by rw [← Option.some.inj hf]; exact yU a
def QA:List D→Option D:=a1 AP fun q=>some (.int .i64 q.num.sign)
theorem aaI:Good kJ QA:=ahY fun a d ha hf=>by rw [← Option.some.inj hf]; exact U8 a
def Tm:List D→Option D:=a2 AP AP fun a b=>some (cO (a+b))
theorem abQ:Good jT Tm:=adw fun a b d ha hb hf=>by rw [← Option.some.inj hf]; exact Bo ha hb (by decide)
def TA:List D→Option D:=a2 AP AP fun a b=>some (cO (a-b))
theorem abW:Good jU TA:=adw fun a b d ha hb hf=>by rw [← Option.some.inj hf]; exact Bv ha hb (by decide)
def Tv:List D→Option D:=a2 AP AP fun a b=>some (cO (a*b))
theorem abU:Good jq Tv:=adw fun a b d ha hb hf=>by rw [← Option.some.inj hf]; exact yV ha hb (by decide)
def Tt:List D→Option D:=a2 AP AP fun a b=>if b.num=0 then none else some (.aZ [cO (a / b),.aG])
theorem abT:Good nU Tt:=adw fun a b d ha hb hf=>by
   split at hf <;> try (simp at hf; done)
   rename_i h0
   rw [← Option.some.inj hf]; exact adB ha hb (by decide) (fun h=>h0 (by rw [h]; rfl))
def Tn:List D→Option D:=a2 AP AP fun a b=>some (.int .i64 (xU a b))
theorem abR:Good jo Tn:=adw fun a b d ha hb hf=>by rw [← Option.some.inj hf]; exact Bq ha hb (by decide)
def QB:List D→Option D:=a1 AP fun q=>some (.str (sU q))
theorem aaJ:Good fE QB:=ahY fun a d ha hf=>by rw [← Option.some.inj hf]; exact rZ ha (by decide) (by decide)
def aaS:List D→Option D:=a1 amW fun s=>some (FU (qB s))
theorem ai4:Good wF aaS:=MP fun x s d hx hf=>by
   obtain ⟨rfl,hs⟩:=alQ hx
   rw [← Option.some.inj hf]; exact WR (by omega)
def B_:D→Option aH
 | .agg [.int .i64 i,.int .i64 m,.int .i64 f,.str c,.str r,.int .i64 n,.int .i64 s,.bool e,.int .i64 x]=>if c.length≤1000∧r.length≤1000 then some ⟨i,m,f,c,r,n,s,e,x⟩ else none
 | _=>none
theorem uV {d:D} {b:aH} (h:B_ d=some b):d=aT b∧b.dX.length≤1000000∧b.dV.length≤1000000:=by
 unfold B_ at h
 split at h <;> try (simp at h; done)
 split at h <;> try (simp at h; done)
 rename_i hl
 simp at h
 subst h
 exact ⟨rfl,by simp only; omega,by simp only; omega⟩
theorem acK {f:aH→Option D} {g:Nat} (h:∀ b d,b.dX.length≤1000000→b.dV.length≤1000000→f b=some d→L.call g [aT b]=some d):Good g (a1 B_ f) :=
 MP fun x a d hx hf=>by rw [(uV hx).1]; exact h a d (uV hx).2.1 (uV hx).2.2 hf
def Vy:List D→Option D:=a1 B_ fun b=>some (eY (chk b))
theorem ac6:Good mg Vy:=acK fun b d hc hr hf=>by rw [← Option.some.inj hf]; exact BM hc hr
def SI:List D→Option D:=a1 B_ fun b=>some (.int .i64 (months b))
theorem abB:Good lX SI:=acK fun b d hc hr hf=>by rw [← Option.some.inj hf]; exact KP b
def SH:List D→Option D:=a1 B_ fun b=>some (cO (qh b))
theorem abA:Good lW SH:=acK fun b d hc hr hf=>by rw [← Option.some.inj hf]; exact En hc hr
def SK:List D→Option D:=a1 B_ fun b=>some (cO (fZ b))
theorem abC:Good oW SK:=acK fun b d hc hr hf=>by rw [← Option.some.inj hf]; exact Eo hc hr
def aaV:List D→Option D:=a1 B_ fun b=>some (vw (aS b))
theorem ai7:Good nN aaV:=acK fun b d hc hr hf=>by rw [← Option.some.inj hf]; exact yR hc hr
def VA:List D→Option D:=a2 B_ MR fun b n=>some (ab9 b n)
theorem ac8:Good pO VA:=SG fun x y b n d hx hy hf=>by
 rw [(uV hx).1,(wP hy).1,← Option.some.inj hf]; exact HY (uV hx).2.1 (uV hx).2.2 n
def decP:D→Option (Int×Int)
 | .agg [.int .i64 a,.int .i64 b]=>some (a,b)
 | _=>none
theorem as8 {d:D} {p:Int×Int} (h:decP d=some p):d=pD p:=by
 unfold decP at h
 split at h <;> simp at h
 subst h; rfl
def Qz:List D→Option D:=a2 B_ decP fun b p=>some (.bool (regular b p))
theorem aaH:Good lN Qz:=SG fun x y b p d hx hy hf=>by
 rw [(uV hx).1,as8 hy,← Option.some.inj hf]; exact Dq (uV hx).2.1 (uV hx).2.2 p
def OY:List D→Option D:=a2 MR MR fun a b=>if bG a∧bG b then some (.int .i64 (CP a b)) else none
theorem Zc:Good kG OY:=SG fun x y a b d hx hy hf=>by
 split at hf <;> try (simp at hf; done)
 rename_i h
 rw [(wP hx).1,(wP hy).1,← Option.some.inj hf]; exact Uo h.1 h.2
def Qu:List D→Option D:=a1 MR fun n=>some (.int .i64 (Z5 n))
theorem aaC:Good fD Qu:=MP fun x n d hx hf=>by rw [(wP hx).1,← Option.some.inj hf]; exact Dh n
def UN:List D→Option D
 | [.sl 1 [.int .i64 a,.int .i64 b,.int .i64 c,.int .i64 d,.int .i64 e,.bool false],.sl 0 []]=>if a=1∧b=1∧c=1∧d=0∧e=0 then some (.aZ [.ref [.sK (FW 300)] 0,.aG]) else none
 | _=>none
theorem ai3:Good Ep UN:=by
 intro args d h
 unfold UN at h
 split at h <;> try (simp at h; done)
 rename_i a b c d' e
 split at h <;> try (simp at h; done)
 rename_i hc
 obtain ⟨rfl,rfl,rfl,rfl,rfl⟩:=hc
 rw [← Option.some.inj h]
 exact aoo
def Vz:List D→Option D:=a1 MR fun n=>if bG n then some (.aZ [mV (lg n.toNat).1 (lg n.toNat).2.1 (lg n.toNat).2.2,.aG]) else some (.aZ [mV 0 0 0,zU 4])
theorem ac7:Good gU Vz:=MP fun x n d hx hf=>by
 rw [(wP hx).1]
 split at hf
 ·rename_i h
  obtain ⟨y,m,dd,hc,hd,ho⟩:=eH h
  rw [← Option.some.inj hf,ho,hd]
  exact ug hc
 ·rename_i h
  rw [← Option.some.inj hf]; exact VF h
def Oy:List D→Option D
 | [.int .i64 a,.int .i64 n,.bool e]=>some (lM (nO a n e))
 | _=>none
theorem aeJ:Good oI Oy:=by
 intro args d h
 unfold Oy at h
 split at h <;> try (simp at h; done)
 rw [← Option.some.inj h]; exact UR _ _ _
def aof:List (Nat×(List D→Option D)) :=
 [(iW,acG),(fQ,Qw),(kQ,SN),(ji,SL),(nR,SY),(jm,SV),(jl,SQ),(oZ,SS),(jF,Qv),(nM,aaT),(iH,aaU),(bV,S9),(dK,Qx),(o9,Tf),(iy,S_),(rX,Ti),(o8,Tc),(bW,Td),(jI,acH),(jH,Qy),(oL,aaW),(xw,YQ),(lC,acI),(dO,Tz),(dD,Tq),(kJ,QA),(jT,Tm),(jU,TA),(jq,Tv),(nU,Tt),(jo,Tn),(fE,QB),(wF,aaS),(mg,Vy),(lX,SI),(lW,SH),(oW,SK),(nN,aaV),(pO,VA),(lN,Qz),(kG,OY),(fD,Qu),(Ep,UN),(gU,Vz),(oI,Oy)]
def Vh:List (Nat×(List D→Option D))→Prop
 | []=>True
 | p::r=>Good p.1 p.2∧Vh r
theorem Vh.look:∀ {l:List (Nat×(List D→Option D))} {n:Nat} {p:List D→Option D},Vh l→Hz l n=some p→Good n p
 | [],n,p,_,h=>by simp [Hz] at h
 | (i,x)::r,n,p,⟨h1,h2⟩,h=>by
   simp only [Hz,cond_eq_ite] at h
   split at h
   ·rename_i hb
    simp at h
    subst h
    rw [← Nat.eq_of_beq_eq_true hb]
    exact h1
   ·exact Vh.look h2 h
theorem aog:Vh aof :=
 ⟨ak8,aaE,abE,abD,abJ,abI,abG,abH,aaD,ai5,ai6,abK,aaF,abO,abL,abP,abM,abN,ak9,aaG,ai8,ahv,ak_,abV,abS,aaI,abQ,abW,abU,abT,abR,aaJ,ai4,ac6,abB,abA,abC,ai7,ac8,aaH,Zc,aaC,ai3,ac7,aeJ,trivial⟩
def zQ:Nat→aC
 | 0=>⟨fun _ _ _=>none,fun _ _ _ _ _ _=>none,fun _ _=>none⟩
 | n+1 =>
   ⟨fun f args m=>match TT.fn f with
    | some ef=>ef.step (zQ n) args m
    | none=>TT.kH f args m,
    fun ins outs body base vals m=>DW (zQ n) ins outs body base vals m,
    fun f args=>match (match Hz aof f with
      | some p=>p args
      | none=>none) with
     | some d=>some d
     | none=>xu (match TT.fn f with
       | some ef=>ef.step (zQ n) args []
       | none=>TT.kH f args [])⟩
theorem aoh:∀ n,(zQ n).le L
 | 0=>⟨fun f args m r h=>by simp [zQ] at h,fun _ _ _ _ _ _ r h=>by simp [zQ] at h,fun _ _ r h=>by simp [zQ] at h⟩
 | n+1=>by
   have ih:=aoh n
   have hca:∀ f args m r,(zQ (n+1)).bJ f args m=some r→L.bJ f args m=some r:=by
    intro f args m r h
    simp only [zQ] at h
    split at h
    ·rename_i ef he
     exact ajh he (aeO Uh ih h)
    ·rename_i he
     exact ajj he h
   refine ⟨hca,fun ins outs body base vals m r h=>afO (NZ Uh ih h),fun f args d h=>?_⟩
   simp only [zQ] at h
   split at h
   ·rename_i d' hd
    split at hd
    ·rename_i p hp
     rw [← h]
     exact aog.look hp args d' hd
    ·simp at hd
   ·obtain ⟨r,h1⟩:=Gi h
    show xu (L.bJ f args [])=some d
    rw [hca f args [] r (by simp only [zQ]; exact h1),← h1,h]
theorem ap_ (n:Nat) {f:Nat} {args:List D} {d:D} (h:(zQ n).call f args=some d):L.call f args=some d:=(aoh n).call f args d h
end Go.Ev.Code
end
