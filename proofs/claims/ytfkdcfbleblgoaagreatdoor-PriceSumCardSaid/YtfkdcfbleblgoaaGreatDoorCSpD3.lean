/- A part of the proof of priceAll_card, yieldAll_card, priceSum_card, flowAll_card, accrAll_card. -/
import Derived.Test.YtfkdcfbleblgoaaGreatDoorCSpD2
set_option linter.unusedVariables false
set_option linter.unusedSimpArgs false
section
namespace Go.Ev.Code
open Go Go.Ev
def dA:List (Int×Rat)→List D
 | []=>[]
 | (d,q)::r => .int .i64 d :: .str (pI q)::dA r
theorem TL (l r:List (Int×Rat)):dA (l++r)=dA l++dA r:=by
 induction l with
 | nil=>rfl
 | cons x xs ih=>obtain ⟨a,b⟩:=x; simp [dA,ih]
theorem Ku (l:List (Int×Rat)):(dA l).length=l.length*2:=by
 induction l with
 | nil=>rfl
 | cons x xs ih=>obtain ⟨a,b⟩:=x; simp [dA,ih]; omega
theorem GV (l:List (Int×Rat)) (b n:Nat):(dA l).all (D.clo b (n+1))=true:=by
 induction l with
 | nil=>rfl
 | cons x xs ih=>obtain ⟨p,q⟩:=x; simp [dA]; simpa using ih
theorem aib (l:List (Int×Rat)) (n:Nat) (m:Mem):jd (fz (n+1)) (dA l) m=some (dA l,m):=by
 induction l with
 | nil=>rfl
 | cons x xs ih=>obtain ⟨a,b⟩:=x; simp [dA,ih]
def NC (l:List (Int×Rat)):D := .sl l.length (dA l)
def fK (each red:Rat):List (Int×Int)→List (Int×Rat)
 | []=>[]
 | [p]=>[(p.2,each+red)]
 | p::q::r=>(p.2,each)::fK each red (q::r)
def kE (pay each red:Rat):List (Int×Int)→List (Int×Rat)
 | []=>[]
 | [p]=>[(p.2,pay+red)]
 | p::q::r=>(p.2,pay)::fK each red (q::r)
theorem aoy (each red:Rat):∀ l:List (Int×Int),(fK each red l).length=l.length
 | []=>rfl
 | [_]=>rfl
 | _::q::r=>by simp [fK,aoy each red (q::r)]
theorem Vk (pay each red:Rat) (l:List (Int×Int)):(kE pay each red l).length=l.length:=by
 match l with
 | []=>rfl
 | [_]=>rfl
 | _::q::r=>simp [kE,aoy]
set_option maxHeartbeats 2000000 in
theorem of_rest {b:aA} {pre:Mem} {k:Nat} (hpre:(pre=[]∧k=0)∨(pre=[.live (ay b)]∧k=1)) (hc:b.aY.length≤1000000) (hr:b.bJ.length≤1000000) {each:Rat} {j:Nat} (hE:RB j each) (hj:1≤j) (hj2:j≤400000)
  {ps:List (Int×Int)} (hn:ps.length≤100000):∀ (rest pfx:List (Int×Int)) (acc:List (Int×Rat)),ps=pfx++rest→pfx≠[]→acc.length=pfx.length →
  L.loop [1,4,6,7,21,22,23] [2,3,7] wU (k+1) [.loc k 0,dO ps,cZ each,.aO (k+1) 0 acc.length 2,dO ps,.int .i64 ps.length,.int .i64 pfx.length] (pre++[.live (ay b),.live (dA acc)]) =
    some (.exit 0,[.undef,.undef,.aO (k+1) 0 ps.length 2],pre++[.live (ay b),.live (dA (acc++fK each (fJ b) rest))]):=by
 have hbc:=fun n=>iO b n
 have hbl:=kK b
 have hbd:=iZ b 0 10
 have hbr:=J6 hc hr
 have hadd:=LD hE (Zw b) (by omega)
 have ht1:=lG hE (by omega) hj
 have ht2:=lG (hE.add (Zw b)) (by omega) (by omega)
 intro rest
 induction rest with
 | nil =>
   intro pfx acc hal hne hl
   rw [List.append_nil] at hal
   subst hal
   have hfc:=fun n=>GV acc n 11
   rw [hl]
   unfold dO
   simp only [fK,List.append_nil]
   generalize ay b=B at *
   generalize dA acc=fc at *
   generalize aX ps=pc at *
   generalize ps.length=n at *
   rcases hpre with ⟨rfl,rfl⟩ | ⟨rfl,rfl⟩
   ·refine au (j_ ..) ?_
    simp [jI,hbc,hfc]
   ·refine au (j_ ..) ?_
    simp [jI,hbc,hfc]
 | cons p rest ih =>
   intro pfx acc hal hne hl
   have hfc:=fun n=>GV acc n 11
   have hfl:=Ku acc
   have hpos:0<pfx.length:=List.length_pos_iff.2 hne
   have hg:=mP (ps:=ps) (i:=pfx.length) (p:=p) (by rw [hal]; simp)
   have hlt:pfx.length<ps.length:=by rw [hal]; simp
   have hlast:(pfx.length:Int)=(ps.length:Int)-1↔rest=[]:=by
    have : ps.length=pfx.length+1+rest.length:=by rw [hal]; simp; omega
    constructor
    ·intro h; exact List.eq_nil_of_length_eq_zero (by omega)
    ·rintro rfl; simp at this; omega
   have hstep:∀ (a:Rat),a=(if rest=[] then each+fJ b else each) →
     (∀ r,L.loop [1,4,6,7,21,22,23] [2,3,7] wU (k+1) [.loc k 0,dO ps,cZ each,.aO (k+1) 0 (acc.length+1) 2,dO ps,.int .i64 ps.length,.int .i64 ((pfx.length+1:Nat):Int)] (pre++[.live (ay b),.live (dA acc++[.int .i64 p.2,.str (pI a)])])=some r →
      L.loop [1,4,6,7,21,22,23] [2,3,7] wU (k+1) [.loc k 0,dO ps,cZ each,.aO (k+1) 0 acc.length 2,dO ps,.int .i64 ps.length,.int .i64 pfx.length] (pre++[.live (ay b),.live (dA acc)])=some r):=by
    intro a ha r hr
    have e1:IntKind.i64.wrap ((pfx.length:Int)+1)=((pfx.length+1:Nat):Int):=by rw [wrap64 _ (by omega)]; omega
    have e2:IntKind.i64.wrap ((ps.length:Int)-1)=(ps.length:Int)-1:=wrap64 _ (by omega)
    have hlen:acc.length+1≤4294967296:=by omega
    have htk:(dA acc).take (acc.length*2)=dA acc:=List.take_of_length_le (by omega)
    have hP0:¬ (pfx.length:Int)=0:=by omega
    have hP0N:¬ pfx.length=0:=by omega
    obtain ⟨p1,p2⟩:=p
    simp only at *
    unfold dO at *
    obtain ⟨g1,g2,g3,g4⟩:=hg
    generalize hfcq:dA acc=fc at *
    generalize acc.length=A at *
    by_cases hrest:rest=[]
    ·have hi:=hlast.2 hrest
     rw [if_pos hrest] at ha
     subst ha
     generalize each+fJ b=es at *
     generalize fJ b=rd at *
     unfold aC at hbr
     generalize ay b=B at *
     have htkB:B.take 9=B:=List.take_of_length_le (by omega)
     generalize aX ps=pc at *
     generalize ps.length=N at *
     generalize pfx.length=P at *
     have hltI:(P:Int)<N:=by omega
     have hi':(N:Int)-1=P:=by omega
     have e2':IntKind.i64.wrap (P:Int)=P:=wrap64 _ (by omega)
     rcases hpre with ⟨rfl,rfl⟩ | ⟨rfl,rfl⟩
     ·refine au (j_ ..) ?_
      simp at hr
      simp [jI,hlt,hltI,g1,g2,g3,g4,hP0,hP0N,e1,e2,e2',hi',hbc,hbl,hbd,htkB,hbr,hadd,ht2,oW,hfc,hfl,htk,hlen,hr,iM]
     ·refine au (j_ ..) ?_
      simp at hr
      simp [jI,hlt,hltI,g1,g2,g3,g4,hP0,hP0N,e1,e2,e2',hi',hbc,hbl,hbd,htkB,hbr,hadd,ht2,oW,hfc,hfl,htk,hlen,hr,iM]
    ·have hi:¬ (pfx.length:Int)=(ps.length:Int)-1:=fun h=>hrest (hlast.1 h)
     rw [if_neg hrest] at ha
     subst ha
     generalize ay b=B at *
     generalize aX ps=pc at *
     generalize ps.length=N at *
     generalize pfx.length=P at *
     have hltI:(P:Int)<N:=by omega
     rcases hpre with ⟨rfl,rfl⟩ | ⟨rfl,rfl⟩
     ·refine au (j_ ..) ?_
      simp at hr
      simp [jI,hlt,hltI,g1,g2,g3,g4,hP0,hP0N,e1,e2,hi,hbc,hbl,hbd,ht1,oW,hfc,hfl,htk,hlen,hr,iM]
     ·refine au (j_ ..) ?_
      simp at hr
      simp [jI,hlt,hltI,g1,g2,g3,g4,hP0,hP0N,e1,e2,hi,hbc,hbl,hbd,ht1,oW,hfc,hfl,htk,hlen,hr,iM]
   have hn2:=ih (pfx++[p]) (acc++[(p.2,if rest=[] then each+fJ b else each)]) (by rw [hal]; simp) (by simp) (by simp [hl])
   rw [TL,TL,show dA [(p.2,if rest=[] then each+fJ b else each)]=[.int .i64 p.2,.str (pI (if rest=[] then each+fJ b else each))] from rfl,List.length_append,List.length_append,List.length_singleton,List.length_singleton] at hn2
   have := hstep _ rfl _ hn2
   rw [this]
   have hE2:dA (acc++fK each (fJ b) (p::rest))=dA acc++[.int .i64 p.2,.str (pI (if rest=[] then each+fJ b else each))]++dA (fK each (fJ b) rest):=by
    rw [TL]
    cases rest with
    | nil=>simp [fK,dA]
    | cons q r=>simp [fK,dA]
   rw [hE2,TL acc]
   rfl
def aW (b:aA):Er×List (Int×Rat):=match (aF b).1 with
 | some e=>(avS (some e),[])
 | none=>match (aF b).2 with
   | []=>(none,[])
   | p::r=>match oq b p with
     | .error c=>(some (c,none),[])
     | .ok q=>(none,kE q (fP b) (fJ b) (p::r))
theorem gU {b:aA} (h:(aF b).1=none) {p:Int×Int} (hp:p∈(aF b).2):aU p.1∧aU p.2∧p.1<p.2:=by
 have hw:=dP h
 obtain ⟨i,hi⟩:=List.getElem?_of_mem hp
 have hlt:=hw.2.ord i p hi
 have hchk:=hw.1
 obtain ⟨z1,z2,z3⟩:=Kq (bV hchk).1
 have hraw:∀ {i:Nat} {q:Int×Int},(dR b)[i]?=some q→aU q.1∧aU q.2:=by
  intro i q hq
  have hl:i<bI b:=by rw [← uh]; exact (List.getElem?_eq_some_iff.1 hq).1
  rw [zN hl] at hq
  simp at hq
  subst hq
  have hd:∀ n:Nat,aU (((anch b n).getD 0:Nat):Int):=by
   intro n
   cases ha:anch b n with
   | none=>exact ⟨by simp,by simp⟩
   | some a=>simpa using ad7 ha
  refine ⟨?_,hd _⟩
  simp only
  split
  ·exact z1
  ·exact hd _
 have : aU p.1∧aU p.2:=by
  unfold aF at hi
  rw [hchk] at hi
  simp only at hi
  split at hi
  ·exact hraw hi
  ·split at hi
   ·simp at hi
   ·split at hi
    ·split at hi
     ·rename_i x q r hx
      cases i with
      | zero =>
        simp at hi
        subst hi
        have := hraw (i:=1) (q:=q) (by rw [hx]; rfl)
        exact ⟨z1,this.2⟩
      | succ i =>
        simp at hi
        exact hraw (i:=i+2) (q:=p) (by rw [hx]; simpa using hi)
     ·exact hraw hi
    ·exact hraw hi
 exact ⟨this.1,this.2,hlt⟩
def callOf (k:Nat) (pre:Mem):Er×List (Int×Rat)→D×Mem
 | (some e,_)=>(.aG [.dh,fD (some e)],pre)
 | (none,fs)=>(.aG [.aO k 0 fs.length 2,.bQ],pre++[.live (dA fs)])
set_option maxHeartbeats 1000000 in
theorem ai3 {b:aA} {pre:Mem} {k:Nat} (hpre:(pre=[]∧k=0)∨(pre=[.live (ay b)]∧k=1)) (hc:b.aY.length≤1000000) (hr:b.bJ.length≤1000000) :
  L.bf TN [aC b] pre=some (callOf k pre (aW b)):=by
 have hpl:=Lm hc hr
 have hbc:=fun n=>iO b n
 have hbl:=kK b
 have hbd:=iZ b 0 10
 unfold Ak at hpl
 cases hp:(aF b).1 with
 | some e =>
   rw [hp] at hpl
   unfold aW
   rw [hp]
   obtain ⟨ec,es⟩:=e
   simp [fC,eY] at hpl
   simp only [avS,callOf,fD]
   unfold dO at hpl
   have hcl:=gZ (aF b).2 0 11
   unfold aC at hpl ⊢
   generalize ay b=B at *
   have htkB:B.take 9=B:=List.take_of_length_le (by omega)
   generalize (aF b).2.length=pn at *
   generalize aX (aF b).2=pc at *
   rcases hpre with ⟨rfl,rfl⟩ | ⟨rfl,rfl⟩
   ·refine oC (OZ ..) ?_
    simp [JK,hpl,hbc,hbl,hbd,htkB,eY]
   ·refine oC (OZ ..) ?_
    simp [JK,hpl,hbc,hbl,hbd,htkB,eY]
 | none =>
   have hw:=dP hp
   have hchk:=hw.1
   have hf:=dZ (bV hchk).2.1
   have hreg:=aaU hf hc hr
   rw [hp] at hpl
   simp only [fC] at hpl
   unfold aW
   rw [hp]
   simp only
   have hdays:=fun {p} h=>gU hp (p:=p) h
   have hplen:=hw.2.len
   have hpne:=hw.2.ne
   cases hps:(aF b).2 with
   | nil=>exact absurd hps hpne
   | cons p r =>
     obtain ⟨d1,d2,d3⟩:=hdays (p:=p) (by rw [hps]; simp)
     have hpay:=UD hp hc hr d1 d2 d3
     rw [hps] at hpl hplen
     simp only
     have hlen1:(p::r).length=r.length+1:=rfl
     cases hpb:oq b p with
     | error c =>
       rw [hpb] at hpay
       simp only [JF] at hpay
       simp only [callOf,fD]
       have hg:=mP (ps:=p::r) (i:=0) (p:=p) rfl
       have hcl:=gZ (p::r) 0 11
       unfold pD at hpay
       obtain ⟨p1,p2⟩:=p
       simp only at *
       obtain ⟨g1,g2,g3,g4⟩:=hg
       simp only [Nat.zero_mul,Nat.zero_add,List.drop_zero] at g1 g2 g3 g4
       unfold dO at hpl
       generalize fP b=rp at *
       generalize aX ((p1,p2)::r)=pc at *
       generalize hN:((p1,p2)::r).length=N at *
       have hN0:0<N:=by omega
       have hN0I:(0:Int)<N:=by omega
       unfold aC at hpl hreg hpay ⊢
       generalize ay b=B at *
       have htkB:B.take 9=B:=List.take_of_length_le (by omega)
       have hlp:L.loop [1,4,6,7,21,22,23] [2,3,7] wU (k+1) [.loc k 0,.sl N pc,cZ rp,.dh,.sl N pc,.int .i64 N,.int .i64 0] (pre++[.live B])=some (.ret,[.dh,BD c,.dh],pre++[.live B]):=by
        rcases hpre with ⟨rfl,rfl⟩ | ⟨rfl,rfl⟩
        ·refine au (j_ ..) ?_
         simp [jI,hN0,hN0I,g1,g2,g3,g4,hbc,hbl,hbd,htkB,hpay,iM]
        ·refine au (j_ ..) ?_
         simp [jI,hN0,hN0I,g1,g2,g3,g4,hbc,hbl,hbd,htkB,hpay,iM]
       rcases hpre with ⟨rfl,rfl⟩ | ⟨rfl,rfl⟩
       ·simp at hlp
        refine oC (OZ ..) ?_
        simp [JK,hpl,hbc,hbl,hbd,htkB,hreg,hlp]
       ·simp at hlp
        refine oC (OZ ..) ?_
        simp [JK,hpl,hbc,hbl,hbd,htkB,hreg,hlp]
     | ok q =>
       rw [hpb] at hpay
       simp only [JF] at hpay
       simp only [callOf]
       have hqB:=aik hchk d1 d2 hpb (fun l hl=>(Lu hchk d2 hl).2)
       have hrest:=of_rest hpre hc hr (abm hf) (by omega) (by omega) (ps:=p::r) (by omega) r [p] [(p.2,if r=[] then q+fJ b else q)] rfl (by simp) rfl
       have hfl:dA ([(p.2,if r=[] then q+fJ b else q)]++fK (fP b) (fJ b) r)=dA (kE q (fP b) (fJ b) (p::r)):=by
        cases r with
        | nil=>simp [kE,fK,dA]
        | cons p2 r2=>simp [kE,dA]
       rw [hfl] at hrest
       have hfll:=Vk q (fP b) (fJ b) (p::r)
       have hfcl:=fun n=>GV (kE q (fP b) (fJ b) (p::r)) n 11
       rw [hfll]
       generalize dA (kE q (fP b) (fJ b) (p::r))=FC at *
       have hg:=mP (ps:=p::r) (i:=0) (p:=p) rfl
       have hcl:=gZ (p::r) 0 11
       have hbr:=J6 hc hr
       have hadd:=LD hqB (Zw b) (by omega)
       have ht1:=lG hqB (by omega) (by omega)
       have ht2:=lG (hqB.add (Zw b)) (by omega) (by omega)
       unfold pD at hpay
       obtain ⟨p1,p2⟩:=p
       simp only at *
       obtain ⟨g1,g2,g3,g4⟩:=hg
       simp only [Nat.zero_mul,Nat.zero_add,List.drop_zero] at g1 g2 g3 g4
       unfold dO at hpl hrest
       simp only [dA,List.length_singleton] at hrest
       generalize aX ((p1,p2)::r)=pc at *
       generalize hN:((p1,p2)::r).length=N at *
       have hN0:0<N:=by omega
       have hN0I:(0:Int)<N:=by omega
       have e2:IntKind.i64.wrap ((N:Int)-1)=(N:Int)-1:=wrap64 _ (by omega)
       have hlp:L.loop [1,4,6,7,21,22,23] [2,3,7] wU (k+1) [.loc k 0,.sl N pc,cZ (fP b),.dh,.sl N pc,.int .i64 N,.int .i64 0] (pre++[.live (ay b)])=some (.exit 0,[.undef,.undef,.aO (k+1) 0 N 2],pre++[.live (ay b),.live FC]):=by
        generalize fP b=rp at *
        by_cases hr0:r=[]
        ·subst hr0
         simp at hN
         subst hN
         rw [if_pos rfl] at hrest
         generalize q+fJ b=qs at *
         generalize fJ b=rd at *
         unfold aC at hpl hreg hpay hbr
         generalize ay b=B at *
         have htkB:B.take 9=B:=List.take_of_length_le (by omega)
         rcases hpre with ⟨rfl,rfl⟩ | ⟨rfl,rfl⟩
         ·simp at hrest
          refine au (j_ ..) ?_
          simp [jI,g1,g2,g3,g4,hbc,hbl,hbd,htkB,hpay,hbr,hadd,ht2,oW,wrap64,hrest,iM]
         ·simp at hrest
          refine au (j_ ..) ?_
          simp [jI,g1,g2,g3,g4,hbc,hbl,hbd,htkB,hpay,hbr,hadd,ht2,oW,wrap64,hrest,iM]
        ·rw [if_neg hr0] at hrest
         have hrl:0<r.length:=List.length_pos_iff.2 hr0
         have hN1:¬ (0:Int)=(N:Int)-1:=by omega
         have hN1':¬ (N:Int)-1=0:=by omega
         unfold aC at hpl hreg hpay
         generalize ay b=B at *
         have htkB:B.take 9=B:=List.take_of_length_le (by omega)
         rcases hpre with ⟨rfl,rfl⟩ | ⟨rfl,rfl⟩
         ·simp at hrest
          refine au (j_ ..) ?_
          simp [jI,hN0,hN0I,g1,g2,g3,g4,hbc,hbl,hbd,htkB,hpay,e2,hN1,hN1',ht1,oW,wrap64,hrest,iM]
         ·simp at hrest
          refine au (j_ ..) ?_
          simp [jI,hN0,hN0I,g1,g2,g3,g4,hbc,hbl,hbd,htkB,hpay,e2,hN1,hN1',ht1,oW,wrap64,hrest,iM]
       generalize fP b=rp at *
       unfold aC at hpl hreg hpay ⊢
       generalize ay b=B at *
       have htkB:B.take 9=B:=List.take_of_length_le (by omega)
       rcases hpre with ⟨rfl,rfl⟩ | ⟨rfl,rfl⟩
       ·simp at hlp
        refine oC (OZ ..) ?_
        simp [JK,hpl,hbc,hbl,hbd,htkB,hreg,hlp,hfcl]
       ·simp at hlp
        refine oC (OZ ..) ?_
        simp [JK,hpl,hbc,hbl,hbd,htkB,hreg,hlp,hfcl]
def EU (r:Er×List (Int×Rat)):D := .aG [NC r.2,fD r.1]
end Go.Ev.Code
end
section
namespace Go.Ev.Code
open Go Go.Ev
theorem TM:∀ {l:List (Int×Rat)} {i:Nat} {p:Int×Rat},l[i]?=some p→(dA l)[i*2]?=some (.int .i64 p.1)∧(dA l)[i*2+1]?=some (.str (pI p.2))∧i*2+2≤(dA l).length
 | [],i,p,h=>by simp at h
 | (a,b)::r,0,p,h=>by simp at h; subst h; simp [dA]
 | (a,b)::r,i+1,p,h=>by
   simp at h
   have := TM h
   rw [show (i+1)*2=i*2+1+1 by omega]
   simp only [dA,List.getElem?_cons_succ,List.length_cons]
   exact ⟨this.1,this.2.1,by omega⟩
theorem ax2 {b:aA} {s:Int} (fs:List (Int×Rat)):∀ (l done:List (Int×Rat)),fs=done++l→(∃ p∈l,s<p.1) →
  L.loop [1,2,6] [1,2,6] Jt 2 [.int .i64 s,.loc 0 0,.aO 1 (done.length*2) l.length 2] [.live (ay b),.live (dA fs)] =
    some (.exit 0,[.int .i64 s,.loc 0 0,.aO 1 ((fs.length-(l.dropWhile fun p=>decide (p.1≤s)).length)*2) (l.dropWhile fun p=>decide (p.1≤s)).length 2],[.live (ay b),.live (dA fs)]):=by
 have hbc:=fun n=>iO b n
 have hfc:=fun n=>GV fs n 11
 intro l
 induction l with
 | nil=>intro done _ h; obtain ⟨p,hp,_⟩:=h; simp at hp
 | cons p r ih =>
   intro done hal hex
   have hg:=TM (l:=fs) (i:=done.length) (p:=p) (by rw [hal]; simp)
   have hlen:fs.length=done.length+(r.length+1):=by rw [hal]; simp
   by_cases hp:p.1≤s
   ·have hex':∃ q∈r,s<q.1:=by
     obtain ⟨q,hq,hs⟩:=hex
     rcases List.mem_cons.1 hq with rfl | hq
     ·omega
     ·exact ⟨q,hq,hs⟩
    have hn:=ih (done++[p]) (by rw [hal]; simp) hex'
    have hdw:(p::r).dropWhile (fun p=>decide (p.1≤s))=r.dropWhile (fun p=>decide (p.1≤s)):=by simp [List.dropWhile,hp]
    rw [hdw]
    rw [List.length_append,List.length_singleton] at hn
    have e1:(done.length+1)*2=done.length*2+2:=by omega
    rw [e1] at hn
    obtain ⟨g1,g2,g3⟩:=hg
    generalize (r.dropWhile fun p=>decide (p.1≤s)).length=R at *
    generalize (fs.length-R)*2=R2 at *
    have hbn:gK true false (r.length+1) [.int .i64 1]=some (1,r.length+1):=by
     have : (1:Int)≤(r.length:Int)+1:=by omega
     simp [gK,bnd,this]
    rw [List.length_cons]
    generalize dA fs=fc at *
    generalize done.length*2=D2 at *
    generalize r.length=rl at *
    generalize ay b=B at *
    have hpos:(0:Int)<(rl:Int)+1:=by omega
    refine au (acK ..) ?_
    simp [Ui,hpos,g1,hp,hbn,hbc,hfc,hn]
   ·have hdw:(p::r).dropWhile (fun p=>decide (p.1≤s))=p::r:=by simp [List.dropWhile,hp]
    rw [hdw,show (fs.length-(p::r).length)*2=done.length*2 by rw [List.length_cons]; omega]
    obtain ⟨g1,g2,g3⟩:=hg
    rw [List.length_cons]
    generalize dA fs=fc at *
    generalize done.length*2=D2 at *
    generalize r.length=rl at *
    generalize ay b=B at *
    have hpos:(0:Int)<(rl:Int)+1:=by omega
    refine au (acK ..) ?_
    simp [Ui,hpos,g1,hp,hbc,hfc]
def XR (b:aA) (s:Int) (l:List (Int×Rat)):List (Int×Rat):=if 0<b.ex then match l with
    | []=>[]
    | [p]=>if p.1-b.ex≤s then [(p.1,fJ b)] else [p]
    | p::q::r=>if p.1-b.ex≤s then q::r else p::q::r
 else l
def leftB (b:aA) (s:Int):Er×List (Int×Rat):=match (aW b).1 with
 | some e=>(some e,[])
 | none=>if s<b.issue∨b.bU≤s then (some (6,none),[]) else (none,XR b s ((aW b).2.dropWhile fun p=>decide (p.1≤s)))
theorem aox (each red:Rat):∀ {l:List (Int×Int)} {i:Nat} {p:Int×Int},l[i]?=some p→∃ a,(fK each red l)[i]?=some (p.2,a)
 | [],i,p,h=>by simp at h
 | [q],i,p,h=>by
   cases i with
   | zero=>simp at h; subst h; exact ⟨_,rfl⟩
   | succ i=>simp at h
 | q::q'::r,i,p,h=>by
   cases i with
   | zero=>simp at h; subst h; exact ⟨_,rfl⟩
   | succ i =>
     simp only [List.getElem?_cons_succ] at h
     obtain ⟨a,ha⟩:=aox each red h
     exact ⟨a,by simp only [fK,List.getElem?_cons_succ]; exact ha⟩
theorem ag7 (pay each red:Rat) {l:List (Int×Int)} {i:Nat} {p:Int×Int} (h:l[i]?=some p):∃ a,(kE pay each red l)[i]?=some (p.2,a):=by
 match l,h with
 | [q],h =>
   cases i with
   | zero=>simp at h; subst h; exact ⟨_,rfl⟩
   | succ i=>simp at h
 | q::q'::r,h =>
   cases i with
   | zero=>simp at h; subst h; exact ⟨_,rfl⟩
   | succ i =>
     simp only [List.getElem?_cons_succ] at h
     obtain ⟨a,ha⟩:=aox each red h
     exact ⟨a,by simp only [kE,List.getElem?_cons_succ]; exact ha⟩
 | [],h=>simp at h
theorem gY {b:aA} (h:(aW b).1=none):(aF b).1=none∧∃ p r q,(aF b).2=p::r∧oq b p = .ok q∧(aW b).2=kE q (fP b) (fJ b) (p::r):=by
 unfold aW at *
 split at h
 ·simp [avS] at h
 ·rename_i h0
  rw [h0]
  simp only
  have hne:=(dP h0).2.ne
  refine ⟨trivial,?_⟩
  cases hps:(aF b).2 with
  | nil=>exact absurd hps hne
  | cons p r =>
    rw [hps] at h
    simp only at h ⊢
    cases hq:oq b p with
    | error c=>rw [hq] at h; simp at h
    | ok q=>exact ⟨p,r,q,rfl,hq,rfl⟩
theorem av1 {b:aA} (h:(aW b).1=none):∀ p∈(aW b).2,aU p.1:=by
 obtain ⟨h0,p,r,q,hps,hq,hfl⟩:=gY h
 rw [hfl]
 intro x hx
 obtain ⟨i,hi⟩:=List.getElem?_of_mem hx
 have hl:i<(p::r).length:=by rw [← Vk q (fP b) (fJ b) (p::r)]; exact (List.getElem?_eq_some_iff.1 hi).1
 obtain ⟨a,ha⟩:=ag7 q (fP b) (fJ b) (l:=p::r) (i:=i) (List.getElem?_eq_getElem hl)
 rw [hi] at ha
 have := Option.some.inj ha
 rw [this]
 have hm:(p::r)[i]∈(aF b).2:=by rw [hps]; exact List.getElem_mem _
 exact (gU h0 hm).2.1
theorem av2 {b:aA} (h:(aW b).1=none):∃ p∈(aW b).2,p.1=b.bU:=by
 obtain ⟨h0,p,r,q,hps,hq,hfl⟩:=gY h
 have hw:=(dP h0).2
 have hl:(aF b).2.length-1<(aF b).2.length:=by rw [hps]; simp
 obtain ⟨x,hg⟩:∃ x,(aF b).2[(aF b).2.length-1]?=some x:=⟨_,List.getElem?_eq_getElem hl⟩
 have hlast:=hw.last _ hg
 rw [hps] at hg
 obtain ⟨a,ha⟩:=ag7 q (fP b) (fJ b) hg
 refine ⟨(x.2,a),?_,hlast⟩
 rw [hfl]
 exact List.mem_of_getElem? ha
theorem aqC {b:aA} (h:chk b=none):0≤b.ex∧b.ex≤30:=by
 unfold chk at h
 split at h <;> try (simp at h; done)
 split at h <;> try (simp at h; done)
 split at h <;> try (simp at h; done)
 split at h <;> try (simp at h; done)
 split at h <;> try (simp at h; done)
 split at h <;> try (simp at h; done)
 omega
theorem anY {α:Type} {f:α→Bool}:∀ {l:List α},l.dropWhile f=[]→∀ x∈l,f x=true
 | [],_,x,h=>by simp at h
 | y::ys,h,x,hx=>by
   simp only [List.dropWhile] at h
   split at h
   ·rename_i hy
    rcases List.mem_cons.1 hx with rfl | hx
    ·exact hy
    ·exact anY h x hx
   ·simp at h
theorem aee:∀ (done l:List (Int×Rat)),(dA (done++l)).drop (done.length*2)=dA l:=by
 intro done l
 rw [TL,← Ku done]
 exact List.drop_left
set_option maxHeartbeats 1000000 in
theorem Y_ {b:aA} (hc:b.aY.length≤1000000) (hr:b.bJ.length≤1000000) (s:Int):L.call Vl [aC b,.int .i64 s]=some (EU (leftB b s)):=by
 have hbc:=fun n=>iO b n
 have hbl:=kK b
 have hbd:=iZ b 0 10
 have hof:=ai3 (b:=b) (pre:=[.live (ay b)]) (k:=1) (.inr ⟨rfl,rfl⟩) hc hr
 have hb0:(ay b)[0]?=some (.int .i64 b.issue):=rfl
 have hb1:(ay b)[1]?=some (.int .i64 b.bU):=rfl
 have hb8:(ay b)[8]?=some (.int .i64 b.ex):=rfl
 unfold leftB
 cases he:(aW b).1 with
 | some e =>
   have hq:aW b=(some e,(aW b).2):=by rw [← he]
   rw [hq] at hof
   simp only [callOf] at hof
   have hcl:=ac6 (some e) 0
   have hfz:∀ m,fz 11 (fD (some e)) m=some (fD (some e),m):=by intro m; rcases e with ⟨c,_ | t⟩ <;> rfl
   simp only [EU,NC,dA,List.length_nil]
   unfold aC at hof ⊢
   generalize ay b=B at *
   have htkB:B.take 9=B:=List.take_of_length_le (by omega)
   rcases e with ⟨c,_ | t⟩
   ·simp only [fD] at *
    refine aj (xB ..) ?_
    simp [um,hof,hbc,hbl,hbd,htkB]
   ·simp only [fD,eY] at *
    refine aj (xB ..) ?_
    simp [um,hof,hbc,hbl,hbd,htkB]
 | none =>
   have hq:aW b=(none,(aW b).2):=by rw [← he]
   have hdays:=av1 he
   have hchk:=dK (gY he).1
   have hlast:=av2 he
   have hex:=aqC hchk
   have hbr:=J6 hc hr
   have htx:=lG (Zw b) (by omega) (by omega)
   rw [hq] at hof
   simp only [callOf] at hof
   simp only
   have hlp:=ax2 (b:=b) (s:=s) (aW b).2 (aW b).2 [] rfl
   have hfcl:=fun n=>GV (aW b).2 n 11
   have hfll:=Ku (aW b).2
   simp only [List.length_nil,Nat.zero_mul] at hlp
   have hlf0:∀ l,XR b s l=if 0<b.ex then match l with
    | []=>[]
    | [p]=>if p.1-b.ex≤s then [(p.1,fJ b)] else [p]
    | p::q::r=>if p.1-b.ex≤s then q::r else p::q::r
    else l:=fun l=>rfl
   by_cases h1:s<b.issue
   ·rw [if_pos (.inl h1)]
    simp only [EU,NC,dA,List.length_nil,fD]
    generalize dA (aW b).2=fc at *
    generalize (aW b).2.length=N at *
    obtain ⟨i,m,fq,c,rd,n,st,e,ex⟩:=b
    unfold aC ay at *
    simp only at *
    simp at hof
    refine aj (xB ..) ?_
    simp [um,hof,h1,bM]
   by_cases h2:b.bU≤s
   ·rw [if_pos (.inr h2)]
    simp only [EU,NC,dA,List.length_nil,fD]
    generalize dA (aW b).2=fc at *
    generalize (aW b).2.length=N at *
    obtain ⟨i,m,fq,c,rd,n,st,e,ex⟩:=b
    unfold aC ay at *
    simp only at *
    simp at hof
    refine aj (xB ..) ?_
    simp [um,hof,h1,h2,bM]
   rw [if_neg (by omega)]
   have hex2:∃ p∈(aW b).2,s<p.1:=by
    obtain ⟨p,hp,hpm⟩:=hlast
    exact ⟨p,hp,by omega⟩
   have hlp:=hlp hex2
   generalize (aW b).2=fs at *
   obtain ⟨done,hdone⟩:∃ done,fs=done++fs.dropWhile (fun p=>decide (p.1≤s)):=⟨fs.takeWhile _,(List.takeWhile_append_dropWhile).symm⟩
   have hne:fs.dropWhile (fun p=>decide (p.1≤s))≠[]:=by
    intro h
    obtain ⟨p,hp,hs⟩:=hex2
    have := anY h p hp
    simp at this
    omega
   generalize fs.dropWhile (fun p=>decide (p.1≤s))=l at *
   have hlen:fs.length-l.length=done.length:=by rw [hdone]; simp
   rw [hlen] at hlp
   have hdr:=aee done l
   rw [← hdone] at hdr
   have hlfc:=Ku l
   have hL2:(dA fs).length=done.length*2+l.length*2:=by rw [hfll,hdone]; simp; omega
   match l,hne with
   | p::r,_ =>
     have hg:=TM (l:=fs) (i:=done.length) (p:=p) (by rw [hdone]; simp)
     have hpd:=hdays p (by rw [hdone]; simp)
     obtain ⟨g1,g2,g3⟩:=hg
     have e1:IntKind.i64.wrap (p.1-b.ex)=p.1-b.ex:=wrap64 _ (by omega)
     have hrc:=fun n=>GV r n 11
     have hfzr:∀ m,jd (fz 10) (dA fs) m=some (dA fs,m):=fun m=>aib fs 9 m
     have hfzr2:∀ m,jd (fz 11) (dA fs) m=some (dA fs,m):=fun m=>aib fs 10 m
     have htkl:∀ l:List (Int×Rat),(dA l).take (l.length*2)=dA l:=fun l=>List.take_of_length_le (by rw [Ku]; omega)
     rw [hlf0]
     by_cases hx:0<b.ex
     ·rw [if_pos hx]
      by_cases hs:p.1-b.ex≤s
      ·cases r with
       | nil =>
         simp only
         rw [if_pos hs]
         have hnew:(dA fs).set (done.length*2+1) (.str (pI (fJ b)))=dA (done++[(p.1,fJ b)]):=by
          rw [hdone,TL,TL,← Ku done,List.set_append_right _ _ (by omega)]
          simp [dA]
         have hset:=aee done [(p.1,fJ b)]
         rw [← hnew] at hset
         have hfz2:∀ m,jd (fz 10) ((dA fs).set (done.length*2+1) (.str (pI (fJ b)))) m=some ((dA fs).set (done.length*2+1) (.str (pI (fJ b))),m):=by
          intro m; rw [hnew]; exact aib _ 9 m
         have hcl2:∀ n,((dA fs).set (done.length*2+1) (.str (pI (fJ b)))).all (D.clo n 12)=true:=by
          intro n; rw [hnew]; exact GV _ n 11
         have hl2:done.length*2+2≤((dA fs).set (done.length*2+1) (.str (pI (fJ b)))).length:=by rw [List.length_set]; omega
         simp only [EU,NC,dA,List.length_cons,List.length_nil,fD] at hset ⊢
         generalize fJ b=rq at *
         generalize hfc:dA fs=fc at *
         generalize done.length*2=D2 at *
         have hltfc:D2+1<fc.length:=by omega
         obtain ⟨i,m,fq,c,rd,n,st,e,ex⟩:=b
         unfold aC ay at *
         simp only at *
         simp at hof hlp
         refine aj (xB ..) ?_
         simp [um,hof,h1,h2,hlp,hx,hs,g1,e1,hbr,htx,hset,hfz2,hcl2,hl2,hfcl,g3,hltfc]
       | cons q r =>
         simp only
         rw [if_pos hs]
         have hd2:=aee (done++[p]) (q::r)
         rw [List.append_assoc,show [p]++q::r=p::q::r from rfl,← hdone,List.length_append,List.length_singleton,show (done.length+1)*2=done.length*2+2 by omega] at hd2
         have hb3:done.length*2+2+(r.length+1)*2≤(dA fs).length:=by rw [hL2]; simp; omega
         have htk:=htkl (q::r)
         simp only [EU,NC,List.length_cons,fD] at htk ⊢
         rw [List.length_cons,List.length_cons] at hlp
         have hbn:gK true false (r.length+1+1) [.int .i64 1]=some (1,r.length+1+1):=by
          have : (1:Int)≤(r.length:Int)+1+1:=by omega
          simp [gK,bnd,this]
         generalize dA (q::r)=fr at *
         generalize hfc:dA fs=fc at *
         generalize done.length*2=D2 at *
         generalize r.length=R at *
         have hR1:(1:Int)<(R:Int)+1+1:=by omega
         have hR0:(0:Int)<(R:Int)+1+1:=by omega
         have hR2:1<R+1+1:=by omega
         obtain ⟨i,m,fq,c,rd,n,st,e,ex⟩:=b
         unfold aC ay at *
         simp only at *
         simp at hof hlp
         refine aj (xB ..) ?_
         simp [um,hof,h1,h2,hlp,hx,hs,g1,e1,hbn,hR1,hR0,hR2,hfzr,hfzr2,hfcl,hd2,hb3,htk]
      ·have hlf:(match p::r with
        | []=>[]
        | [p]=>if p.1-b.ex≤s then [(p.1,fJ b)] else [p]
        | p::q::r=>if p.1-b.ex≤s then q::r else p::q::r:List (Int×Rat))=p::r:=by
        cases r with
        | nil=>simp only; rw [if_neg hs]
        | cons q r=>simp only; rw [if_neg hs]
       rw [hlf]
       have hb3:done.length*2+(r.length+1)*2≤(dA fs).length:=by rw [hL2]; simp
       have htk:=htkl (p::r)
       simp only [EU,NC,List.length_cons,fD] at htk ⊢
       rw [List.length_cons] at hlp
       generalize dA (p::r)=fr at *
       generalize hfc:dA fs=fc at *
       generalize done.length*2=D2 at *
       generalize r.length=R at *
       have hR0:(0:Int)<(R:Int)+1:=by omega
       obtain ⟨i,m,fq,c,rd,n,st,e,ex⟩:=b
       unfold aC ay at *
       simp only at *
       simp at hof hlp
       refine aj (xB ..) ?_
       simp [um,hof,h1,h2,hlp,hx,hs,g1,e1,hR0,hfzr,hfzr2,hfcl,hdr,hb3,htk]
     ·rw [if_neg hx]
      have hb3:done.length*2+(r.length+1)*2≤(dA fs).length:=by rw [hL2]; simp
      have htk:=htkl (p::r)
      simp only [EU,NC,List.length_cons,fD] at htk ⊢
      rw [List.length_cons] at hlp
      generalize dA (p::r)=fr at *
      generalize hfc:dA fs=fc at *
      generalize done.length*2=D2 at *
      generalize r.length=R at *
      obtain ⟨i,m,fq,c,rd,n,st,e,ex⟩:=b
      unfold aC ay at *
      simp only at *
      simp at hof hlp
      refine aj (xB ..) ?_
      simp [um,hof,h1,h2,hlp,hx,hfzr,hfzr2,hfcl,hdr,hb3,htk]
end Go.Ev.Code
end
section
namespace Go.Ev.Code
open Go Go.Ev
theorem akC:∀ (n:Nat),1≤n→∃ d r,txt n=dg d::r∧1≤d∧d<10:=by
 intro n
 induction n using Nat.strongRecOn with
 | _ n ih =>
   intro h1
   by_cases h:n<10
   ·exact ⟨n,[],oU h,h1,h⟩
   ·obtain ⟨d,r,hr,h2,h3⟩:=ih (n / 10) (by omega) (by omega)
    exact ⟨d,r++[dg (n % 10)],by rw [JR (by omega),hr]; rfl,h2,h3⟩
theorem aaL {c:UInt8}:∀ (x acc b:List UInt8),c ∉ x→cutAt c acc (x++c::b)=some (acc.reverse++x,b)
 | [],acc,b,_=>by simp [cutAt]
 | y::ys,acc,b,h=>by
   have h1:(y==c)=false:=by
    simp only [beq_eq_false_iff_ne]
    intro e; exact h (by rw [e]; simp)
   simp only [List.cons_append,cutAt,h1,Bool.false_eq_true,if_false]
   rw [aaL ys (y::acc) b (fun h2=>h (by simp [h2]))]
   simp
end Go.Ev.Code
end
section
namespace Go.Ev.Code
open Go Go.Ev
def nD (x:Nat):D:=if x=0 then .sl 0 [] else .sl 1 [.int .u64 x]
theorem aji {x:Nat} (h:x<1000000000):L.call mY [.int .u64 x]=some (nD x):=by
 have hz:zeros 1 [.int .u64 0]=[.int .u64 0]:=rfl
 unfold nD
 by_cases h0:x=0
 ·rw [if_pos h0]
  subst h0
  have l:L.loop [0,3] [3] jf 0 [.int .u64 0,.dh] []=some (.exit 0,[.dh],[]):=by
   refine au (jV ..) ?_
   simp [jg]
  refine aj (MB ..) ?_
  simp [C_,l]
 ·rw [if_neg h0]
  have hpos:(0:Int)<(x:Int):=by omega
  have hposN:0<x:=by omega
  have e1:Int.tmod (x:Int) 1000000000=(x:Int):=by rw [Int.tmod_eq_emod_of_nonneg (by omega)]; omega
  have e2:Int.tdiv (x:Int) 1000000000=0:=by rw [Int.tdiv_eq_ediv_of_nonneg (by omega)]; omega
  have e3:IntKind.u64.wrap 0=0:=by decide
  have l2:L.loop [0,3] [3] jf 0 [.int .u64 0,.aO 0 0 1 1] [.live [.int .u64 x]]=some (.exit 0,[.aO 0 0 1 1],[.live [.int .u64 x]]):=by
   refine au (jV ..) ?_
   simp [jg]
  generalize (x:Int)=xz at *
  have l:L.loop [0,3] [3] jf 0 [.int .u64 xz,.dh] []=some (.exit 0,[.aO 0 0 1 1],[.live [.int .u64 xz]]):=by
   refine au (jV ..) ?_
   simp [jg,hpos,hz,e1,e2,e3,l2]
  refine aj (MB ..) ?_
  simp [C_,l]
end Go.Ev.Code
end
