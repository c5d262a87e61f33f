/- A part of the proof of priceWait_card. -/
import Derived.Test.YtlnjbdkgdocjeaaGreatDoorCSpD2
set_option linter.unusedVariables false
set_option linter.unusedSimpArgs false
section
namespace Go.Ev.Code
open Go Go.Ev
theorem aeR:∀ {l:List (Int×Rat)} {i:Nat} {p:Int×Rat},l[i]?=some p→(dP l)[i*2]?=some (.int .i64 p.1)∧(dP l)[i*2+1]?=some (.str (Ce p.2))∧i*2+2≤(dP l).length
 | [],i,p,h=>by simp at h
 | (a,b)::r,0,p,h=>by simp at h; subst h; simp [dP]
 | (a,b)::r,i+1,p,h=>by
   simp at h
   have := aeR h
   rw [show (i+1)*2=i*2+1+1 by omega]
   simp only [dP,List.getElem?_cons_succ,List.length_cons]
   exact ⟨this.1,this.2.1,by omega⟩
theorem aou {b:ay} {s:Int} (fs:List (Int×Rat)):∀ (l done:List (Int×Rat)),fs=done++l→(∃ p∈l,s<p.1) →
  L.loop [1,2,6] [1,2,6] BD 2 [.int .i64 s,.loc 0 0,.aG 1 (done.length*2) l.length 2] [.live (au b),.live (dP fs)] =
    some (.exit 0,[.int .i64 s,.loc 0 0,.aG 1 ((fs.length-(l.dropWhile fun p=>decide (p.1≤s)).length)*2) (l.dropWhile fun p=>decide (p.1≤s)).length 2],[.live (au b),.live (dP fs)]):=by
 have hbc:=fun n=>jL b n
 have hfc:=fun n=>FV fs n 11
 intro l
 induction l with
 | nil=>intro done _ h; obtain ⟨p,hp,_⟩:=h; simp at hp
 | cons p r ih =>
   intro done hal hex
   have hg:=aeR (l:=fs) (i:=done.length) (p:=p) (by rw [hal]; simp)
   have hlen:fs.length=done.length+(r.length+1):=by rw [hal]; simp
   by_cases hp:p.1≤s
   ·have hex':∃ q∈r,s<q.1:=by
     obtain ⟨q,hq,hs⟩:=hex
     rcases List.mem_cons.1 hq with rfl | hq
     ·omega
     ·exact ⟨q,hq,hs⟩
    have hn:=ih (done++[p]) (by rw [hal]; simp) hex'
    have hdw:(p::r).dropWhile (fun p=>decide (p.1≤s))=r.dropWhile (fun p=>decide (p.1≤s)):=by simp [List.dropWhile,hp]
    rw [hdw]
    rw [List.length_append,List.length_singleton] at hn
    have e1:(done.length+1)*2=done.length*2+2:=by omega
    rw [e1] at hn
    obtain ⟨g1,g2,g3⟩:=hg
    generalize (r.dropWhile fun p=>decide (p.1≤s)).length=R at *
    generalize (fs.length-R)*2=R2 at *
    have hbn:jT true false (r.length+1) [.int .i64 1]=some (1,r.length+1):=by
     have : (1:Int)≤(r.length:Int)+1:=by omega
     simp [jT,bnd,this]
    rw [List.length_cons]
    generalize dP fs=fc at *
    generalize done.length*2=D2 at *
    generalize r.length=rl at *
    generalize au b=B at *
    have hpos:(0:Int)<(rl:Int)+1:=by omega
    refine aj (UJ ..) ?_
    simp [JK,hpos,g1,hp,hbn,hbc,hfc,hn]
   ·have hdw:(p::r).dropWhile (fun p=>decide (p.1≤s))=p::r:=by simp [List.dropWhile,hp]
    rw [hdw,show (fs.length-(p::r).length)*2=done.length*2 by rw [List.length_cons]; omega]
    obtain ⟨g1,g2,g3⟩:=hg
    rw [List.length_cons]
    generalize dP fs=fc at *
    generalize done.length*2=D2 at *
    generalize r.length=rl at *
    generalize au b=B at *
    have hpos:(0:Int)<(rl:Int)+1:=by omega
    refine aj (UJ ..) ?_
    simp [JK,hpos,g1,hp,hbc,hfc]
def arE (b:ay) (s:Int) (l:List (Int×Rat)):List (Int×Rat):=if 0<b.ex then match l with
    | []=>[]
    | [p]=>if p.1-b.ex≤s then [(p.1,jg b)] else [p]
    | p::q::r=>if p.1-b.ex≤s then q::r else p::q::r
 else l
def leftB (b:ay) (s:Int):Er×List (Int×Rat):=match (dG b).1 with
 | some e=>(some e,[])
 | none=>if s<b.issue∨b.bf≤s then (some (6,none),[]) else (none,arE b s ((dG b).2.dropWhile fun p=>decide (p.1≤s)))
theorem agk (each red:Rat):∀ {l:List (Int×Int)} {i:Nat} {p:Int×Int},l[i]?=some p→∃ a,(kC each red l)[i]?=some (p.2,a)
 | [],i,p,h=>by simp at h
 | [q],i,p,h=>by
   cases i with
   | zero=>simp at h; subst h; exact ⟨_,rfl⟩
   | succ i=>simp at h
 | q::q'::r,i,p,h=>by
   cases i with
   | zero=>simp at h; subst h; exact ⟨_,rfl⟩
   | succ i =>
     simp only [List.getElem?_cons_succ] at h
     obtain ⟨a,ha⟩:=agk each red h
     exact ⟨a,by simp only [kC,List.getElem?_cons_succ]; exact ha⟩
theorem afV (pay each red:Rat) {l:List (Int×Int)} {i:Nat} {p:Int×Int} (h:l[i]?=some p):∃ a,(Az pay each red l)[i]?=some (p.2,a):=by
 match l,h with
 | [q],h =>
   cases i with
   | zero=>simp at h; subst h; exact ⟨_,rfl⟩
   | succ i=>simp at h
 | q::q'::r,h =>
   cases i with
   | zero=>simp at h; subst h; exact ⟨_,rfl⟩
   | succ i =>
     simp only [List.getElem?_cons_succ] at h
     obtain ⟨a,ha⟩:=agk each red h
     exact ⟨a,by simp only [Az,List.getElem?_cons_succ]; exact ha⟩
 | [],h=>simp at h
theorem yA {b:ay} (h:(dG b).1=none):(aF b).1=none∧∃ p r q,(aF b).2=p::r∧oz b p = .ok q∧(dG b).2=Az q (ig b) (jg b) (p::r):=by
 unfold dG at *
 split at h
 ·simp [amq] at h
 ·rename_i h0
  rw [h0]
  simp only
  have hne:=(eF h0).2.ne
  refine ⟨trivial,?_⟩
  cases hps:(aF b).2 with
  | nil=>exact absurd hps hne
  | cons p r =>
    rw [hps] at h
    simp only at h ⊢
    cases hq:oz b p with
    | error c=>rw [hq] at h; simp at h
    | ok q=>exact ⟨p,r,q,rfl,hq,rfl⟩
theorem amz {b:ay} (h:(dG b).1=none):∀ p∈(dG b).2,aK p.1:=by
 obtain ⟨h0,p,r,q,hps,hq,hfl⟩:=yA h
 rw [hfl]
 intro x hx
 obtain ⟨i,hi⟩:=List.getElem?_of_mem hx
 have hl:i<(p::r).length:=by rw [← YV q (ig b) (jg b) (p::r)]; exact (List.getElem?_eq_some_iff.1 hi).1
 obtain ⟨a,ha⟩:=afV q (ig b) (jg b) (l:=p::r) (i:=i) (List.getElem?_eq_getElem hl)
 rw [hi] at ha
 have := Option.some.inj ha
 rw [this]
 have hm:(p::r)[i]∈(aF b).2:=by rw [hps]; exact List.getElem_mem _
 exact (kM h0 hm).2.1
theorem amA {b:ay} (h:(dG b).1=none):∃ p∈(dG b).2,p.1=b.bf:=by
 obtain ⟨h0,p,r,q,hps,hq,hfl⟩:=yA h
 have hw:=(eF h0).2
 have hl:(aF b).2.length-1<(aF b).2.length:=by rw [hps]; simp
 obtain ⟨x,hg⟩:∃ x,(aF b).2[(aF b).2.length-1]?=some x:=⟨_,List.getElem?_eq_getElem hl⟩
 have hlast:=hw.last _ hg
 rw [hps] at hg
 obtain ⟨a,ha⟩:=afV q (ig b) (jg b) hg
 refine ⟨(x.2,a),?_,hlast⟩
 rw [hfl]
 exact List.mem_of_getElem? ha
theorem auA {b:ay} (h:chk b=none):0≤b.ex∧b.ex≤30:=by
 unfold chk at h
 split at h <;> try (simp at h; done)
 split at h <;> try (simp at h; done)
 split at h <;> try (simp at h; done)
 split at h <;> try (simp at h; done)
 split at h <;> try (simp at h; done)
 split at h <;> try (simp at h; done)
 omega
theorem afP {α:Type} {f:α→Bool}:∀ {l:List α},l.dropWhile f=[]→∀ x∈l,f x=true
 | [],_,x,h=>by simp at h
 | y::ys,h,x,hx=>by
   simp only [List.dropWhile] at h
   split at h
   ·rename_i hy
    rcases List.mem_cons.1 hx with rfl | hx
    ·exact hy
    ·exact afP h x hx
   ·simp at h
theorem aby:∀ (done l:List (Int×Rat)),(dP (done++l)).drop (done.length*2)=dP l:=by
 intro done l
 rw [Jt,← Oy done]
 exact List.drop_left
set_option maxHeartbeats 1000000 in
theorem aiI {b:ay} (hc:b.bM.length≤1000000) (hr:b.dh.length≤1000000) (s:Int):L.call RZ [aC b,.int .i64 s]=some (NZ (leftB b s)):=by
 have hbc:=fun n=>jL b n
 have hbl:=mg b
 have hbd:=kK b 0 10
 have hof:=akJ (b:=b) (pre:=[.live (au b)]) (k:=1) (.inr ⟨rfl,rfl⟩) hc hr
 have hb0:(au b)[0]?=some (.int .i64 b.issue):=rfl
 have hb1:(au b)[1]?=some (.int .i64 b.bf):=rfl
 have hb8:(au b)[8]?=some (.int .i64 b.ex):=rfl
 unfold leftB
 cases he:(dG b).1 with
 | some e =>
   have hq:dG b=(some e,(dG b).2):=by rw [← he]
   rw [hq] at hof
   simp only [callOf] at hof
   have hcl:=alu (some e) 0
   have hfz:∀ m,fz 11 (xJ (some e)) m=some (xJ (some e),m):=by intro m; rcases e with ⟨c,_ | t⟩ <;> rfl
   simp only [NZ,flD,dP,List.length_nil]
   unfold aC at hof ⊢
   generalize au b=B at *
   have htkB:B.take 9=B:=List.take_of_length_le (by omega)
   rcases e with ⟨c,_ | t⟩
   ·simp only [xJ] at *
    refine ak (qN ..) ?_
    simp [nS,hof,hbc,hbl,hbd,htkB]
   ·simp only [xJ,fU] at *
    refine ak (qN ..) ?_
    simp [nS,hof,hbc,hbl,hbd,htkB]
 | none =>
   have hq:dG b=(none,(dG b).2):=by rw [← he]
   have hdays:=amz he
   have hchk:=jO (yA he).1
   have hlast:=amA he
   have hex:=auA hchk
   have hbr:=CO hc hr
   have htx:=vV (ZE b) (by omega) (by omega)
   rw [hq] at hof
   simp only [callOf] at hof
   simp only
   have hlp:=aou (b:=b) (s:=s) (dG b).2 (dG b).2 [] rfl
   have hfcl:=fun n=>FV (dG b).2 n 11
   have hfll:=Oy (dG b).2
   simp only [List.length_nil,Nat.zero_mul] at hlp
   have hlf0:∀ l,arE b s l=if 0<b.ex then match l with
    | []=>[]
    | [p]=>if p.1-b.ex≤s then [(p.1,jg b)] else [p]
    | p::q::r=>if p.1-b.ex≤s then q::r else p::q::r
    else l:=fun l=>rfl
   by_cases h1:s<b.issue
   ·rw [if_pos (.inl h1)]
    simp only [NZ,flD,dP,List.length_nil,xJ]
    generalize dP (dG b).2=fc at *
    generalize (dG b).2.length=N at *
    obtain ⟨i,m,fq,c,rd,n,st,e,ex⟩:=b
    unfold aC au at *
    simp only at *
    simp at hof
    refine ak (qN ..) ?_
    simp [nS,hof,h1,bD]
   by_cases h2:b.bf≤s
   ·rw [if_pos (.inr h2)]
    simp only [NZ,flD,dP,List.length_nil,xJ]
    generalize dP (dG b).2=fc at *
    generalize (dG b).2.length=N at *
    obtain ⟨i,m,fq,c,rd,n,st,e,ex⟩:=b
    unfold aC au at *
    simp only at *
    simp at hof
    refine ak (qN ..) ?_
    simp [nS,hof,h1,h2,bD]
   rw [if_neg (by omega)]
   have hex2:∃ p∈(dG b).2,s<p.1:=by
    obtain ⟨p,hp,hpm⟩:=hlast
    exact ⟨p,hp,by omega⟩
   have hlp:=hlp hex2
   generalize (dG b).2=fs at *
   obtain ⟨done,hdone⟩:∃ done,fs=done++fs.dropWhile (fun p=>decide (p.1≤s)):=⟨fs.takeWhile _,(List.takeWhile_append_dropWhile).symm⟩
   have hne:fs.dropWhile (fun p=>decide (p.1≤s))≠[]:=by
    intro h
    obtain ⟨p,hp,hs⟩:=hex2
    have := afP h p hp
    simp at this
    omega
   generalize fs.dropWhile (fun p=>decide (p.1≤s))=l at *
   have hlen:fs.length-l.length=done.length:=by rw [hdone]; simp
   rw [hlen] at hlp
   have hdr:=aby done l
   rw [← hdone] at hdr
   have hlfc:=Oy l
   have hL2:(dP fs).length=done.length*2+l.length*2:=by rw [hfll,hdone]; simp; omega
   match l,hne with
   | p::r,_ =>
     have hg:=aeR (l:=fs) (i:=done.length) (p:=p) (by rw [hdone]; simp)
     have hpd:=hdays p (by rw [hdone]; simp)
     obtain ⟨g1,g2,g3⟩:=hg
     have e1:IntKind.i64.wrap (p.1-b.ex)=p.1-b.ex:=wrap64 _ (by omega)
     have hrc:=fun n=>FV r n 11
     have hfzr:∀ m,iO (fz 10) (dP fs) m=some (dP fs,m):=fun m=>aeU fs 9 m
     have hfzr2:∀ m,iO (fz 11) (dP fs) m=some (dP fs,m):=fun m=>aeU fs 10 m
     have htkl:∀ l:List (Int×Rat),(dP l).take (l.length*2)=dP l:=fun l=>List.take_of_length_le (by rw [Oy]; omega)
     rw [hlf0]
     by_cases hx:0<b.ex
     ·rw [if_pos hx]
      by_cases hs:p.1-b.ex≤s
      ·cases r with
       | nil =>
         simp only
         rw [if_pos hs]
         have hnew:(dP fs).set (done.length*2+1) (.str (Ce (jg b)))=dP (done++[(p.1,jg b)]):=by
          rw [hdone,Jt,Jt,← Oy done,List.set_append_right _ _ (by omega)]
          simp [dP]
         have hset:=aby done [(p.1,jg b)]
         rw [← hnew] at hset
         have hfz2:∀ m,iO (fz 10) ((dP fs).set (done.length*2+1) (.str (Ce (jg b)))) m=some ((dP fs).set (done.length*2+1) (.str (Ce (jg b))),m):=by
          intro m; rw [hnew]; exact aeU _ 9 m
         have hcl2:∀ n,((dP fs).set (done.length*2+1) (.str (Ce (jg b)))).all (D.clo n 12)=true:=by
          intro n; rw [hnew]; exact FV _ n 11
         have hl2:done.length*2+2≤((dP fs).set (done.length*2+1) (.str (Ce (jg b)))).length:=by rw [List.length_set]; omega
         simp only [NZ,flD,dP,List.length_cons,List.length_nil,xJ] at hset ⊢
         generalize jg b=rq at *
         generalize hfc:dP fs=fc at *
         generalize done.length*2=D2 at *
         have hltfc:D2+1<fc.length:=by omega
         obtain ⟨i,m,fq,c,rd,n,st,e,ex⟩:=b
         unfold aC au at *
         simp only at *
         simp at hof hlp
         refine ak (qN ..) ?_
         simp [nS,hof,h1,h2,hlp,hx,hs,g1,e1,hbr,htx,hset,hfz2,hcl2,hl2,hfcl,g3,hltfc]
       | cons q r =>
         simp only
         rw [if_pos hs]
         have hd2:=aby (done++[p]) (q::r)
         rw [List.append_assoc,show [p]++q::r=p::q::r from rfl,← hdone,List.length_append,List.length_singleton,show (done.length+1)*2=done.length*2+2 by omega] at hd2
         have hb3:done.length*2+2+(r.length+1)*2≤(dP fs).length:=by rw [hL2]; simp; omega
         have htk:=htkl (q::r)
         simp only [NZ,flD,List.length_cons,xJ] at htk ⊢
         rw [List.length_cons,List.length_cons] at hlp
         have hbn:jT true false (r.length+1+1) [.int .i64 1]=some (1,r.length+1+1):=by
          have : (1:Int)≤(r.length:Int)+1+1:=by omega
          simp [jT,bnd,this]
         generalize dP (q::r)=fr at *
         generalize hfc:dP fs=fc at *
         generalize done.length*2=D2 at *
         generalize r.length=R at *
         have hR1:(1:Int)<(R:Int)+1+1:=by omega
         have hR0:(0:Int)<(R:Int)+1+1:=by omega
         have hR2:1<R+1+1:=by omega
         obtain ⟨i,m,fq,c,rd,n,st,e,ex⟩:=b
         unfold aC au at *
         simp only at *
         simp at hof hlp
         refine ak (qN ..) ?_
         simp [nS,hof,h1,h2,hlp,hx,hs,g1,e1,hbn,hR1,hR0,hR2,hfzr,hfzr2,hfcl,hd2,hb3,htk]
      ·have hlf:(match p::r with
        | []=>[]
        | [p]=>if p.1-b.ex≤s then [(p.1,jg b)] else [p]
        | p::q::r=>if p.1-b.ex≤s then q::r else p::q::r:List (Int×Rat))=p::r:=by
        cases r with
        | nil=>simp only; rw [if_neg hs]
        | cons q r=>simp only; rw [if_neg hs]
       rw [hlf]
       have hb3:done.length*2+(r.length+1)*2≤(dP fs).length:=by rw [hL2]; simp
       have htk:=htkl (p::r)
       simp only [NZ,flD,List.length_cons,xJ] at htk ⊢
       rw [List.length_cons] at hlp
       generalize dP (p::r)=fr at *
       generalize hfc:dP fs=fc at *
       generalize done.length*2=D2 at *
       generalize r.length=R at *
       have hR0:(0:Int)<(R:Int)+1:=by omega
       obtain ⟨i,m,fq,c,rd,n,st,e,ex⟩:=b
       unfold aC au at *
       simp only at *
       simp at hof hlp
       refine ak (qN ..) ?_
       simp [nS,hof,h1,h2,hlp,hx,hs,g1,e1,hR0,hfzr,hfzr2,hfcl,hdr,hb3,htk]
     ·rw [if_neg hx]
      have hb3:done.length*2+(r.length+1)*2≤(dP fs).length:=by rw [hL2]; simp
      have htk:=htkl (p::r)
      simp only [NZ,flD,List.length_cons,xJ] at htk ⊢
      rw [List.length_cons] at hlp
      generalize dP (p::r)=fr at *
      generalize hfc:dP fs=fc at *
      generalize done.length*2=D2 at *
      generalize r.length=R at *
      obtain ⟨i,m,fq,c,rd,n,st,e,ex⟩:=b
      unfold aC au at *
      simp only at *
      simp at hof hlp
      refine ak (qN ..) ?_
      simp [nS,hof,h1,h2,hlp,hx,hfzr,hfzr2,hfcl,hdr,hb3,htk]
end Go.Ev.Code
end
section
namespace Go.Ev.Code
open Go Go.Ev
theorem afJ {c:UInt8}:∀ (x acc b:List UInt8),c ∉ x→cutAt c acc (x++c::b)=some (acc.reverse++x,b)
 | [],acc,b,_=>by simp [cutAt]
 | y::ys,acc,b,h=>by
   have h1:(y==c)=false:=by
    simp only [beq_eq_false_iff_ne]
    intro e; exact h (by rw [e]; simp)
   simp only [List.cons_append,cutAt,h1,Bool.false_eq_true,if_false]
   rw [afJ ys (y::acc) b (fun h2=>h (by simp [h2]))]
   simp
end Go.Ev.Code
end
section
namespace Go.Ev.Code
open Go Go.Ev
def nD (x:Nat):D:=if x=0 then .sl 0 [] else .sl 1 [.int .u64 x]
theorem ak6 {x:Nat} (h:x<1000000000):L.call oZ [.int .u64 x]=some (nD x):=by
 have hz:zeros 1 [.int .u64 0]=[.int .u64 0]:=rfl
 unfold nD
 by_cases h0:x=0
 ·rw [if_pos h0]
  subst h0
  have l:L.loop [0,3] [3] fK 0 [.int .u64 0,.bJ] []=some (.exit 0,[.bJ],[]):=by
   refine aj (iE ..) ?_
   simp [fM]
  refine ak (DC ..) ?_
  simp [wH,l]
 ·rw [if_neg h0]
  have hpos:(0:Int)<(x:Int):=by omega
  have hposN:0<x:=by omega
  have e1:Int.tmod (x:Int) 1000000000=(x:Int):=by rw [Int.tmod_eq_emod_of_nonneg (by omega)]; omega
  have e2:Int.tdiv (x:Int) 1000000000=0:=by rw [Int.tdiv_eq_ediv_of_nonneg (by omega)]; omega
  have e3:IntKind.u64.wrap 0=0:=by decide
  have l2:L.loop [0,3] [3] fK 0 [.int .u64 0,.aG 0 0 1 1] [.live [.int .u64 x]]=some (.exit 0,[.aG 0 0 1 1],[.live [.int .u64 x]]):=by
   refine aj (iE ..) ?_
   simp [fM]
  generalize (x:Int)=xz at *
  have l:L.loop [0,3] [3] fK 0 [.int .u64 xz,.bJ] []=some (.exit 0,[.aG 0 0 1 1],[.live [.int .u64 xz]]):=by
   refine aj (iE ..) ?_
   simp [fM,hpos,hz,e1,e2,e3,l2]
  refine ak (DC ..) ?_
  simp [wH,l]
end Go.Ev.Code
end
section
namespace Go.Ev.Code
open Go Go.Ev
end Go.Ev.Code
end
section
namespace Go.Ev.Code
open Go Go.Ev
def T9:Nat:=1000000000
def aZ:List Nat→Nat
 | []=>0
 | x::xs=>x+T9*aZ xs
def Kq:Nat→Nat→List Nat
 | 0,_=>[]
 | f+1,n=>if n=0 then [] else n % T9::Kq f (n / T9)
def aA (n:Nat):List Nat:=Kq (n.log2 / 29+1) n
def bT (l:List Nat):Prop:=∀ x∈l,x<T9
def AP (l:List Nat):Prop:=bT l∧∀ h:l≠[],l.getLast h≠0
theorem nT:0<T9:=by decide
@[simp] theorem arv:aZ []=0:=rfl
@[simp] theorem rM (x:Nat) (xs:List Nat):aZ (x::xs)=x+T9*aZ xs:=rfl
theorem zY (l r:List Nat):aZ (l++r)=aZ l+T9^l.length*aZ r:=by
 induction l with
 | nil=>simp
 | cons x xs ih =>
   simp only [List.cons_append,rM,ih,List.length_cons,Nat.pow_succ,Nat.mul_add]
   have : T9*(T9^xs.length*aZ r)=T9^xs.length*T9*aZ r:=by rw [← Nat.mul_assoc,Nat.mul_comm T9]
   omega
theorem bT.cons {x:Nat} {xs:List Nat} (h:bT (x::xs)):x<T9∧bT xs:=⟨h x (by simp),fun y hy=>h y (by simp [hy])⟩
theorem afm {l:List Nat} (h:bT l):aZ l<T9^l.length:=by
 induction l with
 | nil=>simp
 | cons x xs ih =>
   have h1:=h.cons
   have h2:=ih h1.2
   simp only [rM,List.length_cons,Nat.pow_succ]
   have : T9*(aZ xs+1)≤T9*T9^xs.length:=Nat.mul_le_mul_left _ h2
   rw [Nat.mul_comm (T9^xs.length)]
   rw [Nat.mul_add] at this
   omega
theorem Y5:∀ (f n:Nat),n<T9^f→aZ (Kq f n)=n
 | 0,n,h=>by simp at h; simp [Kq,h]
 | f+1,n,h=>by
   unfold Kq
   split
   ·simp_all
   ·have : n / T9<T9^f:=by rw [Nat.div_lt_iff_lt_mul nT]; rw [Nat.pow_succ] at h; exact h
    rw [rM,Y5 f _ this]
    exact Nat.mod_add_div n T9
theorem aaZ:∀ (f n:Nat),n<T9^f→AP (Kq f n)
 | 0,n,h=>⟨fun x hx=>by simp [Kq] at hx,fun h=>by simp [Kq] at h⟩
 | f+1,n,h=>by
   unfold Kq
   split
   ·exact ⟨fun x hx=>by simp at hx,fun h=>by simp at h⟩
   ·rename_i h0
    have hd:n / T9<T9^f:=by rw [Nat.div_lt_iff_lt_mul nT]; rw [Nat.pow_succ] at h; exact h
    have ih:=aaZ f _ hd
    have hv:=Y5 f _ hd
    refine ⟨fun x hx=>?_,fun hne=>?_⟩
    ·rcases List.mem_cons.1 hx with rfl | hx
     ·exact Nat.mod_lt _ nT
     ·exact ih.1 x hx
    ·revert hne ih hv
     generalize Kq f (n / T9)=l
     intro ih hv hne
     cases l with
     | nil =>
       simp at hv
       simp only [List.getLast_singleton]
       intro h1
       have := Nat.mod_add_div n T9
       rw [h1,← hv] at this
       simp at this
       exact h0 this.symm
     | cons y ys =>
       rw [List.getLast_cons (by simp)]
       exact ih.2 (by simp)
theorem af4 (n:Nat):n<T9^(n.log2 / 29+1):=by
 have h:n<2^(n.log2+1):=Nat.lt_log2_self
 have h1:(2^29)^(n.log2 / 29+1)≤T9^(n.log2 / 29+1):=Nat.pow_le_pow_left (by decide) _
 refine Nat.lt_of_lt_of_le h (Nat.le_trans ?_ h1)
 rw [← Nat.pow_mul]
 exact Nat.pow_le_pow_right (by decide) (by omega)
@[simp] theorem jK (n:Nat):aZ (aA n)=n:=Y5 _ _ (af4 n)
theorem jw (n:Nat):AP (aA n):=aaZ _ _ (af4 n)
theorem TI {x:Nat} {xs:List Nat} (h:AP (x::xs)):AP xs:=by
 refine ⟨h.1.cons.2,fun hne=>?_⟩
 have := h.2 (by simp)
 rwa [List.getLast_cons hne] at this
theorem aaP {l:List Nat} (h:AP l) (hv:aZ l=0):l=[]:=by
 induction l with
 | nil=>rfl
 | cons x xs ih =>
   have hx:x=0:=by simp only [rM] at hv; omega
   have hxs:aZ xs=0:=by
    simp only [rM] at hv
    have h2:T9*aZ xs=0:=by omega
    rcases Nat.mul_eq_zero.1 h2 with h | h
    ·exact absurd h (by decide)
    ·exact h
   have := ih (TI h) hxs
   subst this
   have h2:=h.2 (by simp)
   simp at h2
   exact absurd hx h2
theorem Xp {l r:List Nat} (hl:AP l) (hr:AP r) (h:aZ l=aZ r):l=r:=by
 induction l generalizing r with
 | nil=>exact (aaP hr h.symm).symm
 | cons x xs ih =>
   cases r with
   | nil=>exact aaP hl h
   | cons y ys =>
     simp at h
     have h1:=hl.1.cons.1
     have h2:=hr.1.cons.1
     have e:x=y:=by
      have h3:(x+T9*aZ xs) % T9=x:=by rw [Nat.add_mul_mod_self_left]; exact Nat.mod_eq_of_lt h1
      have h4:(y+T9*aZ ys) % T9=y:=by rw [Nat.add_mul_mod_self_left]; exact Nat.mod_eq_of_lt h2
      rw [h,h4] at h3
      exact h3.symm
     subst e
     have e2:aZ xs=aZ ys:=Nat.eq_of_mul_eq_mul_left nT (by omega)
     rw [ih (TI hl) (TI hr) e2]
theorem ai0 {l:List Nat} (h:AP l):aA (aZ l)=l:=Xp (jw _) h (jK _)
theorem RN {l:List Nat} (h:AP l) (hne:l≠[]):T9^(l.length-1)≤aZ l:=by
 have e:=List.dropLast_concat_getLast hne
 have h1:=h.2 hne
 rw [← e,zY]
 simp only [List.length_append,List.length_dropLast,List.length_cons,List.length_nil,rM,arv]
 have : 1≤l.getLast hne:=by omega
 calc T9^(l.length-1+(0+1)-1)=T9^(l.length-1)*1:=by simp
  _≤T9^(l.length-1)*(l.getLast hne+T9*0):=Nat.mul_le_mul_left _ (by omega)
  _≤_:=by omega
theorem Yt {l r:List Nat} (hl:bT l) (hr:AP r) (h:l.length<r.length):aZ l<aZ r:=by
 have h1:=afm hl
 have h2:=RN hr (by intro e; simp [e] at h)
 exact Nat.lt_of_lt_of_le h1 (Nat.le_trans (Nat.pow_le_pow_right nT (by omega)) h2)
theorem aqn {n k:Nat} (h:n<T9^k):(aA n).length≤k:=by
 rcases Nat.lt_or_ge k (aA n).length with h1 | h1
 ·have h2:=RN (jw n) (by intro e; simp [e] at h1)
  rw [jK] at h2
  have : T9^k≤T9^((aA n).length-1):=Nat.pow_le_pow_right nT (by omega)
  omega
 ·exact h1
@[simp] theorem nY:aA 0=[]:=by decide
theorem ath {n:Nat} (h:n≠0):aA n≠[]:=fun e=>h (by rw [← jK n,e]; rfl)
theorem ank (l:List Nat):aZ (dX l)=aZ l:=by
 induction l with
 | nil=>rfl
 | cons x xs ih =>
   simp only [dX,rM,← ih,Tz]
   split
   ·rename_i h; rw [h.1,h.2]; rfl
   ·rfl
theorem ajV {l:List Nat} (h:bT l):AP (dX l):=by
 induction l with
 | nil=>exact ⟨h,fun h=>by simp [dX] at h⟩
 | cons x xs ih =>
   have h1:=h.cons
   have h2:=ih h1.2
   simp only [dX]
   revert h2
   generalize dX xs=t
   intro h2
   unfold Tz
   split
   ·exact ⟨fun y hy=>by simp at hy,fun h=>by simp at h⟩
   ·rename_i hn
    refine ⟨fun y hy=>?_,fun _=>?_⟩
    ·rcases List.mem_cons.1 hy with rfl | hy
     ·exact h1.1
     ·exact h2.1 y hy
    ·cases t with
     | nil=>simpa using hn
     | cons y ys=>rw [List.getLast_cons (by simp)]; exact h2.2 (by simp)
theorem anj {l:List Nat} (h:bT l):dX l=aA (aZ l):=by
 rw [← ank l,ai0 (ajV h)]
theorem Cm {l:List Nat} {k:Nat} {u:Nat} (h:l[k]?=some u):aZ (l.take (k+1))=aZ (l.take k)+T9^k*u:=by
 obtain ⟨hk,rfl⟩:=List.getElem?_eq_some_iff.1 h
 rw [List.take_succ_eq_append_getElem hk,zY]
 simp [Nat.min_eq_left (Nat.le_of_lt hk)]
theorem bT.take {l:List Nat} (h:bT l) (k:Nat):bT (l.take k):=fun x hx=>h x (List.mem_of_mem_take hx)
theorem bT.get {l:List Nat} (h:bT l) {k u:Nat} (hk:l[k]?=some u):u<T9:=h u (List.mem_of_getElem? hk)
theorem QH {l:List Nat} (h:bT l) {k:Nat}:aZ (l.take k)<T9^k:=by
 refine Nat.lt_of_lt_of_le (afm (h.take k)) (Nat.pow_le_pow_right nT ?_)
 simp; omega
theorem bT.snoc {l:List Nat} (h:bT l) {x:Nat} (hx:x<T9):bT (l++[x]):=fun y hy=>by
 rcases List.mem_append.1 hy with hy | hy
 ·exact h y hy
 ·simp at hy; omega
theorem J9 {l:List Nat} (h:bT l) (i:Nat):l.getD i 0<T9:=by
 rw [List.getD_eq_getElem?_getD]
 cases hl:l[i]? with
 | none=>exact nT
 | some x=>exact h.get hl
theorem VF (l:List Nat) (i:Nat):aZ (l.take (i+1))=aZ (l.take i)+T9^i*l.getD i 0:=by
 rw [List.getD_eq_getElem?_getD]
 cases hl:l[i]? with
 | none =>
   have : l.length≤i:=List.getElem?_eq_none_iff.1 hl
   rw [List.take_of_length_le (by omega),List.take_of_length_le this]; simp
 | some x=>exact Cm hl
theorem TA (l:List Nat) (x:Nat):aZ (l++[x])=aZ l+T9^l.length*x:=by rw [zY]; simp
theorem JZ {o:List Nat} {j z:Nat} (v:Nat) (h:o[j]?=some z):aZ (o.set j v)+T9^j*z=aZ o+T9^j*v:=by
 induction o generalizing j with
 | nil=>simp at h
 | cons x xs ih =>
   cases j with
   | zero=>simp at h; subst h; simp; omega
   | succ j =>
     simp at h
     have := ih h
     simp only [List.set_cons_succ,rM,Nat.pow_succ]
     have e:T9*(aZ (xs.set j v)+T9^j*z)=T9*(aZ xs+T9^j*v):=by rw [this]
     rw [Nat.mul_add,Nat.mul_add,← Nat.mul_assoc,← Nat.mul_assoc,Nat.mul_comm T9 (T9^j)] at e
     omega
theorem bT.set {o:List Nat} (h:bT o) {v:Nat} (hv:v<T9) (j:Nat):bT (o.set j v):=fun x hx=>by
 rcases List.mem_or_eq_of_mem_set hx with h1 | h1
 ·exact h x h1
 ·omega
theorem anm (n:Nat):aZ (List.replicate n 0)=0:=by
 induction n with
 | zero=>rfl
 | succ n ih=>simp [List.replicate_succ,ih]
theorem ajN (n:Nat):bT (List.replicate n 0):=fun x hx=>by
 have := List.eq_of_mem_replicate hx
 rw [this]; exact nT
theorem Y7 {n:Nat} (h:n≠0):aA n=n % T9::aA (n / T9):=by
 refine Xp (jw n) ⟨fun x hx=>?_,fun hne=>?_⟩ ?_
 ·rcases List.mem_cons.1 hx with rfl | hx
  ·exact Nat.mod_lt _ nT
  ·exact (jw (n / T9)).1 x hx
 ·by_cases h0:n / T9=0
  ·have e:aA (n / T9)=[]:=by rw [h0]; exact nY
   have h2:=Nat.mod_add_div n T9
   rw [h0] at h2
   simp only [e,List.getLast_singleton]
   omega
  ·rw [List.getLast_cons (ath h0)]
   exact (jw (n / T9)).2 _
 ·rw [jK,rM,jK]
  exact (Nat.mod_add_div n T9).symm
abbrev n9 (n:Nat):D:=aQ (aA n)
theorem aqu {n:Nat} (h:n<1000000000):n9 n=nD n:=by
 unfold nD
 by_cases h0:n=0
 ·subst h0
  rw [if_pos rfl]
  show aQ (aA 0)=_
  rw [nY]
  rfl
 ·have e:n / T9=0:=Nat.div_eq_of_lt h
  have e2:n % T9=n:=Nat.mod_eq_of_lt h
  rw [if_neg h0]
  show aQ (aA n)=_
  rw [Y7 h0,e,e2,nY]
  rfl
def rY (n:Nat):Prop:=(aA n).length≤1000000000
theorem NB.nX {k n:Nat} (h:NB k n) (hk:k≤20000000):rY n:=by
 have h1:n<T9^(k / 29+1):=by
  have h2:(2^29)^(k / 29+1)≤T9^(k / 29+1):=Nat.pow_le_pow_left (by decide) _
  refine Nat.lt_of_lt_of_le (Nat.lt_of_lt_of_le h ?_) h2
  rw [← Nat.pow_mul]
  exact Nat.pow_le_pow_right (by decide) (by omega)
 have := aqn h1
 unfold rY
 omega
end Go.Ev.Code
end
section
namespace Go.Ev.Code
open Go Go.Ev
theorem ani (l:List Nat) (hl:l.length≤maxL):L.loop [0] [0] jR 0 [aQ l] []=some (.exit 0,[aQ (dX l)],[]):=by
 unfold maxL at hl
 revert hl
 refine aff (P:=fun l=>l.length≤4294967290→L.loop [0] [0] jR 0 [aQ l] []=some (.exit 0,[aQ (dX l)],[])) ?_ ?_ l
 ·intro hl
  refine aj (FK ..) ?_
  simp [pF,dX]
 ·intro l x ih hl
  have hl':l.length≤4294967289:=by simp at hl; omega
  refine aj (FK ..) ?_
  have e1:(0:Int)<(l.length:Int)+1:=by omega
  have e2:(l.map ah++[ah x])[l.length]?=some (ah x):=by
   rw [List.getElem?_append_right (by simp)]; simp
  have e3:(l.map ah++[ah x]).take l.length=l.map ah:=List.take_left' (by simp)
  by_cases hx:x=0
  ·have ht:dX (l++[x])=dX l:=by subst hx; exact IJ l
   simp (disch:=omega) [pF,e1,e2,e3,wrap64,ht,ih (by omega),eq_true hx]
  ·simp (disch:=omega) [pF,e1,e2,e3,wrap64,Xf _ hx,hx]
theorem Ii (l:List Nat) (hs:bT l) (hl:l.length≤maxL):L.call jh [aQ l]=some (n9 (aZ l)):=by
 refine ak (Yk ..) ?_
 simp [LC,ani l hl,anj hs]
theorem aji:∀ (f x:Nat) (acc:List Nat),x<T9^f→x<18446744073709551616→acc≠[]→acc.length+f≤1000 →
  L.loop [0,3] [3] fK 0 [ah x,.aG 0 0 acc.length 1] [.live (acc.map ah)]=some (.exit 0,[.aG 0 0 (acc++aA x).length 1],[.live ((acc++aA x).map ah)])
 | 0,x,acc,h,_,hne,_=>by
   have hx:x=0:=by simp at h; exact h
   subst hx
   rw [nY,List.append_nil]
   refine aj (iE ..) ?_
   simp [fM]
 | f+1,x,acc,h,hx64,hne,hl=>by
   by_cases hx:x=0
   ·subst hx
    rw [nY,List.append_nil]
    refine aj (iE ..) ?_
    simp [fM]
   ·obtain ⟨q,hq⟩:∃ q,q=x / T9:=⟨_,rfl⟩
    obtain ⟨r,hr⟩:∃ r,r=x % T9:=⟨_,rfl⟩
    have hd:q<T9^f:=by rw [hq,Nat.div_lt_iff_lt_mul nT]; rw [Nat.pow_succ] at h; exact h
    have hle:q≤x:=by rw [hq]; exact Nat.div_le_self _ _
    have ih:=aji f q (acc++[r]) hd (by omega) (by simp) (by simp; omega)
    have hst:=Y7 hx
    rw [← hq,← hr] at hst
    rw [List.append_assoc,List.singleton_append,← hst] at ih
    have hpos:(0:Int)<(x:Int):=by omega
    have hpos':0<x:=by omega
    have e1:Int.tmod (x:Int) 1000000000=(r:Int):=by rw [hr]; exact tH x 1000000000
    have e2:Int.tdiv (x:Int) 1000000000=(q:Int):=by rw [hq]; exact y7 x 1000000000
    have e3:IntKind.u64.wrap (q:Int)=(q:Int):=by
     clear e1 e2 hq hr
     exact dJ _ (by omega)
    have hlen:acc.length+1≤4294967296:=by omega
    have htk:(acc.map ah).take acc.length=acc.map ah:=kJ _ _ (Nat.le_refl _)
    rw [PW,List.length_append,List.length_singleton] at ih
    simp only [ah] at ih ⊢
    clear hst hq hr
    generalize acc++aA x=res at *
    generalize (x:Int)=xz at *
    refine aj (iE ..) ?_
    simp [fM,hpos,hpos',e1,e2,e3,fA,hlen,htk,ih]
theorem xB {x:Nat} (h:x<18446744073709551616):L.call oZ [.int .u64 x]=some (n9 x):=by
 by_cases h0:x=0
 ·subst h0
  have := ak6 (x:=0) (by omega)
  rw [← aqu (by omega)] at this
  exact this
 ·obtain ⟨q,hq⟩:∃ q,q=x / T9:=⟨_,rfl⟩
  obtain ⟨r,hr⟩:∃ r,r=x % T9:=⟨_,rfl⟩
  have hx3:x<T9^3:=Nat.lt_of_lt_of_le h (by decide)
  have hd:q<T9^2:=by rw [hq,Nat.div_lt_iff_lt_mul nT]; exact hx3
  have hle:q≤x:=by rw [hq]; exact Nat.div_le_self _ _
  have ih:=aji 2 q [r] hd (by omega) (by simp) (by simp)
  have hst:=Y7 h0
  rw [← hq,← hr] at hst
  rw [List.singleton_append,← hst] at ih
  have hpos:(0:Int)<(x:Int):=by omega
  have hpos':0<x:=by omega
  have e1:Int.tmod (x:Int) 1000000000=(r:Int):=by rw [hr]; exact tH x 1000000000
  have e2:Int.tdiv (x:Int) 1000000000=(q:Int):=by rw [hq]; exact y7 x 1000000000
  have e3:IntKind.u64.wrap (q:Int)=(q:Int):=by
   clear e1 e2 hq hr
   exact dJ _ (by omega)
  simp only [List.map_cons,List.map_nil,List.length_singleton,ah] at ih
  clear hst hq hr
  have hl:L.loop [0,3] [3] fK 0 [.int .u64 x,.bJ] []=some (.exit 0,[.aG 0 0 (aA x).length 1],[.live ((aA x).map ah)]):=by
   generalize aA x=res at *
   generalize (x:Int)=xz at *
   refine aj (iE ..) ?_
   simp [fM,hpos,hpos',e1,e2,e3,fA,ih]
  have htk:=kJ (aA x) (aA x).length (Nat.le_refl _)
  refine ak (DC ..) ?_
  simp [wH,hl,htk]
theorem afI {la lb:List Nat} (sa:bT la) (sb:bT lb) (hlen:la.length=lb.length) (hL:la.length≤maxL) :
  ∀ k:Nat,k≤la.length→L.loop [0,1,5] [4] oI 0 [aQ la,aQ lb,.int .i64 ((k:Int)-1)] []=some (DF (aZ (la.take k)) (aZ (lb.take k)) [])
 | 0,_=>by
   refine aj (Gy ..) ?_
   simp [lV,DF]
 | k+1,hk=>by
   unfold maxL at hL
   obtain ⟨u,hu⟩:∃ u,la[k]?=some u:=⟨la[k],List.getElem?_eq_getElem hk⟩
   obtain ⟨v,hv⟩:∃ v,lb[k]?=some v:=⟨lb[k],List.getElem?_eq_getElem (by omega)⟩
   obtain ⟨p,p1,p2⟩:=(rZ.sl [] la).read .i64 (i:=(k:Int)) (by omega) (by simpa using hu)
   obtain ⟨q,q1,q2⟩:=(rZ.sl [] lb).read .i64 (i:=(k:Int)) (by omega) (by simpa using hv)
   have ih:=afI sa sb hlen (by unfold maxL; omega) k (by omega)
   have e0:((k+1:Nat):Int)-1=k:=by omega
   have e1:(0:Int)≤k:=by omega
   have e2:IntKind.i64.wrap ((k:Int)-1)=(k:Int)-1:=wrap64 _ (by omega)
   have a1:=Cm hu
   have b1:=Cm hv
   have a2:=QH sa (k:=k)
   have b2:=QH sb (k:=k)
   rw [e0]
   refine aj (Gy ..) ?_
   rcases Nat.lt_trichotomy u v with h | h | h
   ·have : aZ (la.take (k+1))<aZ (lb.take (k+1)):=by rw [a1,b1]; exact ady a2 h
    have hI:(u:Int)<v:=by omega
    simp only [lV,fl]
    simp [p1,p2,q1,q2,h,hI,e1,DF,this]
   ·subst h
    have h1:DF (aZ (la.take (k+1))) (aZ (lb.take (k+1))) []=DF (aZ (la.take k)) (aZ (lb.take k)) []:=by
     unfold DF
     rw [a1,b1]
     simp
    simp only [lV,fl]
    simp [p1,p2,q1,q2,e1,e2,ih,h1]
   ·have h1:aZ (lb.take (k+1))<aZ (la.take (k+1)):=by rw [a1,b1]; exact ady b2 h
    have h2:¬ u<v:=by omega
    have h2I:¬ (u:Int)<v:=by omega
    have hI:(v:Int)<u:=by omega
    have h3:¬ aZ (la.take (k+1))<aZ (lb.take (k+1)):=by omega
    have h4:¬ aZ (la.take (k+1))=aZ (lb.take (k+1)):=by omega
    simp only [lV,fl]
    simp [p1,p2,q1,q2,h,hI,h2,h2I,e1,DF,h3,h4]
theorem ak5 {a b:Nat} (ha:rY a) (hb:rY b):L.call uQ [n9 a,n9 b]=some (.int .i64 (ny a b)):=by
 unfold rY at ha hb
 show L.call uQ [aQ (aA a),aQ (aA b)]=_
 have ca:=jw a
 have cb:=jw b
 have va:=jK a
 have vb:=jK b
 generalize aA a=la at *
 generalize aA b=lb at *
 rw [← va,← vb]
 refine ak (aat ..) ?_
 by_cases hl:la.length=lb.length
 ·have hloop:=afI ca.1 cb.1 hl (by unfold maxL; omega) la.length (Nat.le_refl _)
  have e2:IntKind.i64.wrap ((lb.length:Int)-1)=(lb.length:Int)-1:=wrap64 _ (by omega)
  rw [List.take_of_length_le (Nat.le_refl _),List.take_of_length_le (by omega)] at hloop
  unfold DF at hloop
  unfold ny
  have e3:(la.length:Int)=lb.length:=by omega
  simp only [aQ,hl] at hloop
  by_cases h1:aZ la<aZ lb
  ·rw [if_pos h1] at hloop
   simp [lZ,hl,e2,hloop,h1]
  ·by_cases h2:aZ la=aZ lb
   ·rw [if_neg h1,if_pos h2] at hloop
    simp [lZ,hl,e2,hloop,h1,h2]
   ·rw [if_neg h1,if_neg h2] at hloop
    simp [lZ,hl,e2,hloop,h1,h2]
 ·have hl':¬ (la.length:Int)=lb.length:=by omega
  unfold ny
  rcases Nat.lt_or_ge la.length lb.length with h | h
  ·have hI:(la.length:Int)<lb.length:=by omega
   rw [if_pos (Yt ca.1 cb h)]
   simp [lZ,hl,hl',h,hI]
  ·have hv:=Yt cb.1 ca (by omega)
   have hI:¬ (la.length:Int)<lb.length:=by omega
   have hN:¬ la.length<lb.length:=by omega
   rw [if_neg (by omega),if_neg (by omega)]
   simp [lZ,hl,hl',hN,hI]
theorem anS {l:List Nat} (h:bT l) (hv:l=[]∨T9^(l.length-1)≤aZ l):aA (aZ l)=l:=by
 refine ai0 ⟨h,fun hne=>?_⟩
 intro h0
 rcases hv with hv | hv
 ·exact hne hv
 ·have e:=List.dropLast_concat_getLast hne
  have hs:bT l.dropLast:=fun x hx=>h x (List.dropLast_subset l hx)
  have h1:=afm hs
  have h2:aZ l=aZ l.dropLast:=by
   conv=>lhs; rw [← e]
   rw [zY,h0]
   simp
  rw [List.length_dropLast] at h1
  omega
end Go.Ev.Code
end
section
namespace Go.Ev.Code
open Go Go.Ev
theorem Sj {l:List Nat} {i:Nat} (h:¬ i<l.length):l.getD i 0=0:=by simp [List.getD,List.getElem?_eq_none_iff.2 (by omega:l.length≤i)]
theorem afy {la lb r:List Nat} {i:Nat} (h1:la.length≤i) (h2:lb.length≤i) :
  L.loop [0,1,5,6,7] [5] fJ 0 [aQ la,aQ lb,.aG 0 0 i 1,ah 0,.int .i64 i] [.live (r.map ah)]=some (.exit 0,[.aG 0 0 i 1],[.live (r.map ah)]):=by
 have i1:¬ (i:Int)<la.length:=by omega
 have i2:¬ (i:Int)<lb.length:=by omega
 have i3:¬ i<la.length:=by omega
 have i4:¬ i<lb.length:=by omega
 refine aj (dU ..) ?_
 simp [dM,i1,i2,i3,i4]
theorem afx {la lb r:List Nat} {i c:Nat} {R:Ex×List D×Mem} (sa:bT la) (sb:bT lb) (hi:i<la.length∨i<lb.length∨c=1) (hc:c≤1) (hr:r.length=i) (hn:i≤2000000000)
  (h:L.loop [0,1,5,6,7] [5] fJ 0 [aQ la,aQ lb,.aG 0 0 (i+1) 1,ah ((c+la.getD i 0+lb.getD i 0) / T9),.int .i64 ((i+1:Nat):Int)] [.live ((r++[(c+la.getD i 0+lb.getD i 0) % T9]).map ah)]=some R)
  (x:D) (m:Mem) (hx:x = .aG 0 0 i 1∧m=[.live (r.map ah)]∨x = .bJ∧m=[]∧r=[]) :
  L.loop [0,1,5,6,7] [5] fJ 0 [aQ la,aQ lb,x,ah c,.int .i64 i] m=some R:=by
 have bx:=J9 sa i
 have by':=J9 sb i
 have e1:IntKind.i64.wrap ((i:Int)+1)=((i+1:Nat):Int):=by rw [wrap64 _ (by omega)]; omega
 have gx:∀ h:i<la.length,la[i]=la.getD i 0:=fun h=>by simp [List.getD,h]
 have gy:∀ h:i<lb.length,lb[i]=lb.getD i 0:=fun h=>by simp [List.getD,h]
 have zx:¬ i<la.length→la.getD i 0=0:=Sj
 have zy:¬ i<lb.length→lb.getD i 0=0:=Sj
 generalize la.getD i 0=u at *
 generalize lb.getD i 0=v at *
 have hu:u<1000000000:=bx
 have hv:v<1000000000:=by'
 have e2:IntKind.u64.wrap ((c:Int)+u)=((c+u:Nat):Int):=by rw [dJ _ (by omega)]; omega
 have e3:IntKind.u64.wrap (((c+u:Nat):Int)+v)=((c+u+v:Nat):Int):=by rw [dJ _ (by omega)]; omega
 have e3':IntKind.u64.wrap ((c:Int)+u+v)=((c+u+v:Nat):Int):=by rw [dJ _ (by omega)]; omega
 have e4:IntKind.u64.wrap ((c:Int)+v)=((c+v:Nat):Int):=by rw [dJ _ (by omega)]; omega
 obtain ⟨S,hS⟩:∃ S,S=c+u+v:=⟨_,rfl⟩
 obtain ⟨Q,hQ⟩:∃ Q,Q=S / T9:=⟨_,rfl⟩
 obtain ⟨M,hM⟩:∃ M,M=S % T9:=⟨_,rfl⟩
 have hQle:Q≤S:=by rw [hQ]; exact Nat.div_le_self _ _
 rw [← hS] at h e3 e3'
 rw [← hQ,← hM] at h
 have e5:Int.tmod (S:Int) 1000000000=(M:Int):=by rw [hM]; exact tH _ 1000000000
 have e6:Int.tdiv (S:Int) 1000000000=(Q:Int):=by rw [hQ]; exact y7 _ 1000000000
 have e7:IntKind.u64.wrap (Q:Int)=(Q:Int):=by
  clear e5 e6 hQ hM e1 e2 e3 e3' e4
  exact dJ _ (by omega)
 have hlen:i+1≤4294967296:=by omega
 have htk:=kJ r i (by omega)
 rw [PW] at h
 simp only [ah] at h ⊢
 obtain ⟨i1,hi1⟩:∃ i1,i1=i+1:=⟨_,rfl⟩
 rw [← hi1] at h e1 hlen
 by_cases la1:i<la.length
 ·have laI:(i:Int)<la.length:=by omega
  have g1:=gx la1
  by_cases lb1:i<lb.length
  ·have lbI:(i:Int)<lb.length:=by omega
   have g2:=gy lb1
   rcases hx with ⟨rfl,rfl⟩ | ⟨rfl,rfl,rfl⟩
   ·refine aj (dU ..) ?_
    simp [dM,la1,laI,lb1,lbI,g1,g2,e1,e2,e3,e3',e5,e6,e7,fA,hlen,htk,← hi1,h,hr]
   ·have hi0:i=0:=by simpa using hr.symm
    subst hi0
    obtain rfl:i1=1:=hi1
    simp at h
    refine aj (dU ..) ?_
    simp [dM,la1,laI,lb1,lbI,g1,g2,e1,e2,e3,e3',e5,e6,e7,fA,hlen,h,wrap64]
  ·have lbI:¬ (i:Int)<lb.length:=by omega
   have v0:=zy lb1
   subst v0
   have hS0:S=c+u:=by omega
   rw [← hS0] at e2
   rcases hx with ⟨rfl,rfl⟩ | ⟨rfl,rfl,rfl⟩
   ·refine aj (dU ..) ?_
    simp [dM,la1,laI,lb1,lbI,g1,e1,e2,e5,e6,e7,fA,hlen,htk,← hi1,h,hr]
   ·have hi0:i=0:=by simpa using hr.symm
    subst hi0
    obtain rfl:i1=1:=hi1
    simp at h
    refine aj (dU ..) ?_
    simp [dM,la1,laI,lb1,lbI,g1,e1,e2,e5,e6,e7,fA,hlen,h,wrap64]
 ·have laI:¬ (i:Int)<la.length:=by omega
  have u0:=zx la1
  subst u0
  by_cases lb1:i<lb.length
  ·have lbI:(i:Int)<lb.length:=by omega
   have g2:=gy lb1
   have hS0:S=c+v:=by omega
   rw [← hS0] at e4
   rcases hx with ⟨rfl,rfl⟩ | ⟨rfl,rfl,rfl⟩
   ·refine aj (dU ..) ?_
    simp [dM,la1,laI,lb1,lbI,g2,e1,e4,e5,e6,e7,fA,hlen,htk,← hi1,h,hr]
   ·have hi0:i=0:=by simpa using hr.symm
    subst hi0
    obtain rfl:i1=1:=hi1
    simp at h
    refine aj (dU ..) ?_
    simp [dM,la1,laI,lb1,lbI,g2,e1,e4,e5,e6,e7,fA,hlen,h,wrap64]
  ·have lbI:¬ (i:Int)<lb.length:=by omega
   have v0:=zy lb1
   subst v0
   have hc1:c=1:=by omega
   have hS0:S=1:=by omega
   subst hc1
   have hQ0:Q=0:=by rw [hQ,hS0]; decide
   have hM0:M=1:=by rw [hM,hS0]; decide
   clear e2 e3 e3' e4 e5 e6 e7 hQ hM hQle
   subst hQ0
   subst hM0
   have e5:Int.tmod 1 1000000000=1:=by decide
   have e6:Int.tdiv 1 1000000000=0:=by decide
   have e7:IntKind.u64.wrap 0=0:=by decide
   rcases hx with ⟨rfl,rfl⟩ | ⟨rfl,rfl,rfl⟩
   ·refine aj (dU ..) ?_
    simp at h
    simp [dM,la1,laI,lb1,lbI,e1,e5,e6,e7,fA,hlen,htk,← hi1,h,hr]
   ·have hi0:i=0:=by simpa using hr.symm
    subst hi0
    obtain rfl:i1=1:=hi1
    simp at h
    refine aj (dU ..) ?_
    simp [dM,la1,laI,lb1,lbI,e1,e5,e6,e7,fA,hlen,h,wrap64]
theorem afw {la lb:List Nat} (sa:bT la) (sb:bT lb) (hL:la.length≤1000000000) (hL2:lb.length≤1000000000):∀ (k i:Nat) (r:List Nat) (c:Nat),i+k=max la.length lb.length→r.length=i→bT r→c≤1→aZ r+T9^i*c=aZ (la.take i)+aZ (lb.take i)→(1≤i∨1≤k) →
  ∃ r',bT r'∧aZ r'=aZ la+aZ lb∧(r'.length=max la.length lb.length∨r'.length=max la.length lb.length+1∧T9^max la.length lb.length≤aZ r') ∧
    ∀ (x:D) (m:Mem),(x = .aG 0 0 i 1∧m=[.live (r.map ah)]∨x = .bJ∧m=[]∧r=[]) →
    L.loop [0,1,5,6,7] [5] fJ 0 [aQ la,aQ lb,x,ah c,.int .i64 i] m=some (.exit 0,[.aG 0 0 r'.length 1],[.live (r'.map ah)])
 | 0,i,r,c,hk,hr,sr,hc,hv,h1=>by
   have hi:i=max la.length lb.length:=by omega
   rw [List.take_of_length_le (by omega),List.take_of_length_le (by omega)] at hv
   rcases Nat.eq_zero_or_pos c with h0 | h0
   ·subst h0
    refine ⟨r,sr,by simpa using hv,.inl (by omega),fun x m hx=>?_⟩
    rcases hx with ⟨rfl,rfl⟩ | ⟨rfl,rfl,rfl⟩
    ·rw [hr]
     exact afy (by omega) (by omega)
    ·simp at hr; omega
   ·have hc1:c=1:=by omega
    subst hc1
    have z1:la.getD i 0=0:=Sj (by omega)
    have z2:lb.getD i 0=0:=Sj (by omega)
    have hs:=afy (la:=la) (lb:=lb) (r:=r++[1]) (i:=i+1) (by omega) (by omega)
    refine ⟨r++[1],sr.snoc (by decide),by rw [TA,hr]; exact hv,.inr ⟨by simp; omega,?_⟩,fun x m hx=>?_⟩
    ·rw [TA,hr,hi,Nat.mul_one]
     exact Nat.le_add_left _ _
    ·refine afx (r:=r) (i:=i) (c:=1) sa sb (.inr (.inr rfl)) (by omega) hr (by omega) ?_ x m hx
     rw [z1,z2]
     rw [show (1+0+0) / T9=0 by decide,show (1+0+0) % T9=1 by decide,List.length_append,hr,List.length_singleton]
     exact hs
 | k+1,i,r,c,hk,hr,sr,hc,hv,h1=>by
   have hi:i<la.length∨i<lb.length:=by omega
   have bx:=J9 sa i
   have by':=J9 sb i
   have hu:la.getD i 0<1000000000:=bx
   have hvv:lb.getD i 0<1000000000:=by'
   have ta:=VF la i
   have tb:=VF lb i
   have hdm:=Nat.mod_add_div (c+la.getD i 0+lb.getD i 0) T9
   have hml:=Nat.mod_lt (c+la.getD i 0+lb.getD i 0) nT
   have hq:(c+la.getD i 0+lb.getD i 0) / T9≤1:=by
    have : (c+la.getD i 0+lb.getD i 0) / T9<2:=by
     rw [Nat.div_lt_iff_lt_mul nT]
     show _<2*1000000000
     omega
    omega
   obtain ⟨r',g1,g2,g3,g4⟩:=afw sa sb hL hL2 k (i+1) (r++[(c+la.getD i 0+lb.getD i 0) % T9]) ((c+la.getD i 0+lb.getD i 0) / T9) (by omega) (by simp [hr]) (sr.snoc hml) hq (by
    rw [TA,hr,ta,tb,Nat.pow_succ,Nat.mul_assoc]
    generalize la.getD i 0=x at *
    generalize lb.getD i 0=y at *
    have : T9^i*((c+x+y) % T9)+T9^i*(T9*((c+x+y) / T9))=T9^i*x+T9^i*y+T9^i*c:=by
     rw [← Nat.mul_add,hdm,Nat.mul_add,Nat.mul_add]
     omega
    omega) (.inl (by omega))
   refine ⟨r',g1,g2,g3,fun x m hx=>?_⟩
   refine afx (r:=r) (i:=i) (c:=c) sa sb (by omega) hc hr (by omega) ?_ x m hx
   exact g4 _ _ (.inl ⟨rfl,rfl⟩)
theorem aa' {a b:Nat} (ha:rY a) (hb:rY b):L.call oW [n9 a,n9 b]=some (n9 (a+b)):=by
 unfold rY at ha hb
 have ca:=jw a
 have cb:=jw b
 by_cases h0:max (aA a).length (aA b).length=0
 ·have ea:aA a=[]:=List.eq_nil_of_length_eq_zero (by omega)
  have eb:aA b=[]:=List.eq_nil_of_length_eq_zero (by omega)
  have va:a=0:=by rw [← jK a,ea]; rfl
  have vb:b=0:=by rw [← jK b,eb]; rfl
  subst va
  subst vb
  show L.call oW [aQ (aA 0),aQ (aA 0)]=some (aQ (aA 0))
  rw [nY]
  have hl:L.loop [0,1,5,6,7] [5] fJ 0 [aQ [],aQ [],.bJ,.int .u64 0,.int .i64 0] []=some (.exit 0,[.bJ],[]):=by
   refine aj (dU ..) ?_
   simp [dM]
  simp at hl
  refine ak (NG ..) ?_
  simp [Eb,hl]
 ·obtain ⟨r',g1,g2,g3,g4⟩:=afw ca.1 cb.1 ha hb (max (aA a).length (aA b).length) 0 [] 0 (by omega) rfl (fun x hx=>by simp at hx) (by omega) (by simp) (.inr (by omega))
  have hl:=g4 .bJ [] (.inr ⟨rfl,rfl,rfl⟩)
  have hv:aZ r'=a+b:=by rw [g2,jK,jK]
  have hcan:aA (a+b)=r':=by
   rw [← hv]
   refine anS g1 (.inr ?_)
   rcases g3 with g3 | ⟨g3,g5⟩
   ·rw [g3,g2]
    rcases Nat.le_total (aA b).length (aA a).length with h | h
    ·rw [Nat.max_eq_left h]
     exact Nat.le_trans (RN ca (by intro e; rw [e] at h0 h; simp at h; rw [h] at h0; simp at h0)) (Nat.le_add_right _ _)
    ·rw [Nat.max_eq_right h]
     exact Nat.le_trans (RN cb (by intro e; rw [e] at h0 h; simp at h; rw [h] at h0; simp at h0)) (Nat.le_add_left _ _)
   ·rw [g3,Nat.add_sub_cancel]
    exact g5
  show L.call oW [aQ (aA a),aQ (aA b)]=some (aQ (aA (a+b)))
  rw [hcan]
  simp only [ah] at hl
  have htk:=kJ r' r'.length (Nat.le_refl _)
  generalize aA a=la at *
  generalize aA b=lb at *
  simp at hl
  refine ak (NG ..) ?_
  simp [Eb,hl,htk]
end Go.Ev.Code
end
section
namespace Go.Ev.Code
open Go Go.Ev
theorem alF {la lb:List Nat} {i x N:Nat} (sb:bT lb) (hx:x<T9) (hxl:la[i]?=some x) (hN:i+lb.length<N) (hN2:N≤2000000000) :
  ∀ (j k:Nat) (o:List Nat) (c:Nat),k+j=lb.length→o.length=N→bT o→c<T9→o[i+lb.length]?=some 0 →
  ∃ o',o'.length=N∧bT o'∧aZ o'+T9^i*(x*aZ (lb.take k))=aZ o+T9^(i+k)*c+T9^i*(x*aZ lb)∧(∀ n,i+lb.length<n→o'[n]?=o[n]?) ∧
    L.loop [0,1,5,6,7,8] [0,1,5,6] kT 1 [aQ la,aQ lb,.aG 0 0 N 1,.int .i64 i,ah c,.int .i64 k] [.live (o.map ah)] =
      some (.exit 2,[aQ la,aQ lb,.aG 0 0 N 1,.int .i64 i],[.live (o'.map ah)])
 | 0,k,o,c,hk,hr,sr,hc,hz=>by
   have hkb:k=lb.length:=by omega
   subst hkb
   have hstop:∀ (n:Nat) (q:List Nat),lb.length≤n→L.loop [0,1,5,6,7,8] [0,1,5,6] kT 1 [aQ la,aQ lb,.aG 0 0 N 1,.int .i64 i,ah 0,.int .i64 n] [.live (q.map ah)] =
     some (.exit 2,[aQ la,aQ lb,.aG 0 0 N 1,.int .i64 i],[.live (q.map ah)]):=by
    intro n q hn
    have h1:¬ (n:Int)<lb.length:=by omega
    have h2:¬ n<lb.length:=by omega
    refine aj (xR ..) ?_
    simp [qK,h1,h2]
   rcases Nat.eq_zero_or_pos c with h0 | h0
   ·subst h0
    exact ⟨o,hr,sr,by rw [List.take_of_length_le (Nat.le_refl _)]; simp,fun _ _=>rfl,hstop _ _ (Nat.le_refl _)⟩
   ·have hset:=JZ c hz
    have hcT:c<1000000000:=hc
    have hs:=hstop (lb.length+1) (o.set (i+lb.length) c) (by omega)
    refine ⟨o.set (i+lb.length) c,by simp [hr],sr.set hc _,by rw [List.take_of_length_le (Nat.le_refl _)]; simp at hset; omega,fun n hn=>List.getElem?_set_ne (by omega),?_⟩
    have e1:IntKind.i64.wrap ((lb.length:Int)+1)=((lb.length+1:Nat):Int):=by rw [wrap64 _ (by omega)]; omega
    have e2:IntKind.i64.wrap ((i:Int)+lb.length)=((i+lb.length:Nat):Int):=by rw [wrap64 _ (by omega)]; omega
    have e3:IntKind.u64.wrap (c:Int)=(c:Int):=dJ _ (by omega)
    have e4:Int.tmod (c:Int) 1000000000=(c:Int):=by rw [Int.tmod_eq_emod_of_nonneg (by omega)]; omega
    have e5:Int.tdiv (c:Int) 1000000000=0:=by rw [Int.tdiv_eq_ediv_of_nonneg (by omega)]; omega
    have e6:IntKind.u64.wrap 0=0:=by decide
    have hcp:(0:Int)<(c:Int):=by omega
    have hl:(i:Int)+lb.length<N:=by omega
    have hz1:∀ p:i+lb.length<o.length,o[i+lb.length]=0:=fun p=>by simpa using (List.getElem?_eq_some_iff.1 hz).2
    have q1:((i:Int)+(lb.length:Int)).toNat=i+lb.length:=by omega
    simp [-List.map_set] at hs
    refine aj (xR ..) ?_
    simp (disch:=omega) [-List.map_set,jF,qK,e1,e2,e3,e4,e5,e6,h0,hcp,hl,hr,hz1,q1,hs]
 | j+1,k,o,c,hk,hr,sr,hc,hz=>by
   have hkl:k<lb.length:=by omega
   obtain ⟨y,hy0⟩:∃ y,lb[k]?=some y:=⟨lb[k],List.getElem?_eq_getElem hkl⟩
   obtain ⟨z,hz0⟩:∃ z,o[i+k]?=some z:=⟨o[i+k],List.getElem?_eq_getElem (by omega)⟩
   have hy:=sb.get hy0
   have hzz:=sr.get hz0
   have hyT:y<1000000000:=hy
   have hzT:z<1000000000:=hzz
   have hxT:x<1000000000:=hx
   have hcT:c<1000000000:=hc
   have hil:i<la.length:=(List.getElem?_eq_some_iff.1 hxl).1
   have hx1:la[i]=x:=by simpa using (List.getElem?_eq_some_iff.1 hxl).2
   have hy1:lb[k]=y:=by simpa using (List.getElem?_eq_some_iff.1 hy0).2
   have hio:i+k<o.length:=by omega
   have hz1:o[i+k]=z:=by simpa using (List.getElem?_eq_some_iff.1 hz0).2
   have tb:=Cm hy0
   have hxy:x*y≤999999999*999999999:=Nat.mul_le_mul (by omega) (by omega)
   obtain ⟨p,hp⟩:∃ p,p=x*y:=⟨_,rfl⟩
   rw [← hp] at hxy
   obtain ⟨s,hs⟩:∃ s,s=z+c+p:=⟨_,rfl⟩
   obtain ⟨Q,hQ⟩:∃ Q,Q=s / T9:=⟨_,rfl⟩
   obtain ⟨M,hM⟩:∃ M,M=s % T9:=⟨_,rfl⟩
   have hdm:=Nat.mod_add_div s T9
   have hml:=Nat.mod_lt s nT
   have hq:s / T9<T9:=by
    rw [Nat.div_lt_iff_lt_mul nT]
    show s<1000000000*1000000000
    omega
   have e6:Int.tmod (s:Int) 1000000000=(M:Int):=by rw [hM]; exact tH _ 1000000000
   have e7:Int.tdiv (s:Int) 1000000000=(Q:Int):=by rw [hQ]; exact y7 _ 1000000000
   rw [← hM,← hQ] at hdm
   rw [← hM] at hml
   rw [← hQ] at hq
   have e8:IntKind.u64.wrap (Q:Int)=(Q:Int):=by
    have hq2:Q<1000000000:=hq
    clear e6 e7 hdm hQ hM
    exact dJ _ (by omega)
   clear hQ hM
   have e1:IntKind.i64.wrap ((k:Int)+1)=((k+1:Nat):Int):=by rw [wrap64 _ (by omega)]; omega
   have e2:IntKind.i64.wrap ((i:Int)+k)=((i+k:Nat):Int):=by rw [wrap64 _ (by omega)]; omega
   have e3:IntKind.u64.wrap ((z:Int)+c)=((z+c:Nat):Int):=by rw [dJ _ (by omega)]; omega
   have hpI:(x:Int)*y=(p:Int):=by rw [hp]; simp
   have e4:IntKind.u64.wrap ((x:Int)*y)=(p:Int):=by
    rw [hpI]
    exact dJ _ (by omega)
   have e5:IntKind.u64.wrap (((z+c:Nat):Int)+p)=(s:Int):=by rw [dJ _ (by omega)]; omega
   have e5':IntKind.u64.wrap ((z:Int)+c+p)=(s:Int):=by rw [dJ _ (by omega)]; omega
   have hset:=JZ M hz0
   obtain ⟨o',g1,g2,g4,g5,g6⟩:=alF (la:=la) sb hx hxl hN hN2 j (k+1) (o.set (i+k) M) Q (by omega) (by simp [hr]) (sr.set hml _) hq (by rw [List.getElem?_set_ne (by omega)]; exact hz)
   refine ⟨o',g1,g2,?_,fun n hn=>by rw [g5 n hn,List.getElem?_set_ne (by omega)],aj (xR ..) ?_⟩
   ·rw [tb] at g4
    have p1:T9^(i+(k+1))*Q=T9^(i+k)*(T9*Q):=by rw [← Nat.add_assoc,Nat.pow_succ,Nat.mul_assoc]
    have p2:T9^(i+k)*M+T9^(i+k)*(T9*Q)=T9^(i+k)*p+T9^(i+k)*z+T9^(i+k)*c:=by
     rw [← Nat.mul_add,hdm,hs,Nat.mul_add,Nat.mul_add]
     omega
    have p3:T9^i*(x*(aZ (lb.take k)+T9^k*y))=T9^i*(x*aZ (lb.take k))+T9^(i+k)*p:=by
     rw [Nat.mul_add,Nat.mul_add,Nat.pow_add,Nat.mul_left_comm x,Nat.mul_assoc,hp]
    rw [p3] at g4
    rw [p1] at g4
    omega
   ·have hli:(i:Int)+k<N:=by omega
    have hkl':(k:Int)<lb.length:=by omega
    have hil':(i:Int)<la.length:=by omega
    have hz2:∀ p:i+k<o.length,o[i+k]=z:=fun _=>hz1
    simp [-List.map_set] at g6
    have q1:((i:Int)+(k:Int)).toNat=i+k:=by omega
    simp (disch:=omega) [-List.map_set,jF,qK,hkl,hkl',hil,hil',hx1,hy1,e1,e2,e3,e4,e5,e5',e6,e7,e8,hr,hz2,hli,g6,q1]
theorem ai' {la lb:List Nat} {N:Nat} (sa:bT la) (sb:bT lb) (hN:la.length+lb.length=N) (hN2:N≤2000000000) :
  ∀ (j i:Nat) (o:List Nat),i+j=la.length→o.length=N→bT o→aZ o=aZ (la.take i)*aZ lb→(∀ n,i+lb.length≤n→n<N→o[n]?=some 0) →
  ∃ o',o'.length=N∧bT o'∧aZ o'=aZ la*aZ lb ∧
    L.loop [0,1,5,6] [5] oJ 1 [aQ la,aQ lb,.aG 0 0 N 1,.int .i64 i] [.live (o.map ah)]=some (.exit 0,[.aG 0 0 N 1],[.live (o'.map ah)])
 | 0,i,o,hi,hr,sr,hv,hz=>by
   have : i=la.length:=by omega
   subst this
   refine ⟨o,hr,sr,by rw [hv,List.take_of_length_le (Nat.le_refl _)],aj (Gz ..) ?_⟩
   simp [yT]
 | j+1,i,o,hi,hr,sr,hv,hz=>by
   have hil:i<la.length:=by omega
   obtain ⟨x,hx0⟩:∃ x,la[i]?=some x:=⟨la[i],List.getElem?_eq_getElem hil⟩
   have hx:=sa.get hx0
   have ta:=Cm hx0
   obtain ⟨o1,g1,g2,g4,g5,g6⟩:=alF (la:=la) (i:=i) (x:=x) (N:=N) sb hx hx0 (by omega) hN2 lb.length 0 o 0 (by omega) hr sr nT (hz _ (Nat.le_refl _) (by omega))
   obtain ⟨o',p1,p2,p3,p4⟩:=ai' sa sb hN hN2 j (i+1) o1 (by omega) g1 g2 (by
    rw [ta,Nat.add_mul,← hv,Nat.mul_assoc]
    simp at g4
    omega) (fun n hn hn2=>by rw [g5 n (by omega)]; exact hz n (by omega) hn2)
   refine ⟨o',p1,p2,p3,aj (Gz ..) ?_⟩
   have e1:IntKind.i64.wrap ((i:Int)+1)=((i+1:Nat):Int):=by rw [wrap64 _ (by omega)]; omega
   have hil':(i:Int)<la.length:=by omega
   simp [-List.map_set] at g6 p4
   simp (disch:=omega) [-List.map_set,jF,yT,hil,hil',g6,e1,p4]
theorem Ey {a b:Nat} (ha:rY a) (hb:rY b):L.call lN [n9 a,n9 b]=some (n9 (a*b)):=by
 unfold rY at ha hb
 show L.call lN [aQ (aA a),aQ (aA b)]=some (aQ (aA (a*b)))
 have ca:=jw a
 have cb:=jw b
 have va:=jK a
 have vb:=jK b
 by_cases hea:aA a=[]
 ·have : a=0:=by rw [← va,hea]; rfl
  rw [this,Nat.zero_mul,nY]
  generalize aA b=lb at *
  refine ak (Dz ..) ?_
  simp [wG]
 by_cases heb:aA b=[]
 ·have : b=0:=by rw [← vb,heb]; rfl
  rw [this,Nat.mul_zero,nY]
  generalize aA a=la at *
  have hl:¬ (la.length:Int)=0:=by have := List.length_pos_iff.2 hea; omega
  refine ak (Dz ..) ?_
  simp [wG,hl,hea]
 generalize aA a=la at *
 generalize aA b=lb at *
 have l1:=List.length_pos_iff.2 hea
 have l2:=List.length_pos_iff.2 heb
 obtain ⟨o,h1,h2,h3,h4⟩:=ai' ca.1 cb.1 rfl (by omega) la.length 0 (List.replicate (la.length+lb.length) 0) (by omega) (by simp) (ajN _) (by simp [anm])
  (fun j h1 h2=>by simp [h2])
 rw [va,vb] at h3
 have hm:=Ii o h2 (by unfold maxL; omega)
 rw [h3] at hm
 have e1:IntKind.i64.wrap ((la.length:Int)+lb.length)=((la.length+lb.length:Nat):Int):=by rw [wrap64 _ (by omega)]; omega
 have q1:(((la.length:Int)+lb.length)).toNat=la.length+lb.length:=by omega
 have n1:¬ (la.length:Int)=0:=by omega
 have n2:¬ (lb.length:Int)=0:=by omega
 simp only [n9,aQ] at hm ⊢
 generalize (aA (a*b)).length=NR at *
 generalize (aA (a*b)).map ah=lR at *
 refine ak (Dz ..) ?_
 simp [h1] at h4 hm
 simp (disch:=omega) [-List.map_set,jF,kJ,wG,fA,n1,n2,hea,heb,e1,q1,h4,hm,h1]
theorem agc {a k:Nat} {K:Nat} (hb:∀ i,i≤k→NB K (a^i)) (ha:NB K a) (hK:K≤10000000) (hk:k≤1000000):∀ (j i:Nat),i+j=k →
  L.loop [0,1,5,6] [5] oK 0 [n9 a,.int .i64 k,n9 (a^i),.int .i64 i] []=some (.exit 0,[n9 (a^k)],[])
 | 0,i,h=>by
   have : i=k:=by omega
   subst this
   refine aj (GH ..) ?_
   simp [yU]
 | j+1,i,h=>by
   have ih:=agc hb ha hK hk j (i+1) (by omega)
   have hm:=Ey ((hb i (by omega)).nX (by omega)) (ha.nX (by omega))
   rw [Nat.pow_succ] at ih
   have hik:(i:Int)<k:=by omega
   have hikn:i<k:=by omega
   have e1:IntKind.i64.wrap ((i:Int)+1)=((i+1:Nat):Int):=by rw [wrap64 _ (by omega)]; omega
   generalize a^i*a=p at *
   generalize a^i=q at *
   generalize a^k=r at *
   refine aj (GH ..) ?_
   simp at ih hm
   simp [yU,hik,hikn,hm,e1,ih]
theorem ak7 {a k:Nat} {K:Nat} (hb:∀ i,i≤k→NB K (a^i)) (ha:NB K a) (hK:K≤10000000) (hk:k≤1000000):L.call uT [n9 a,.int .i64 k]=some (n9 (a^k)):=by
 have h:=agc hb ha hK hk k 0 (by omega)
 have h1:=xB (x:=1) (by omega)
 rw [Nat.pow_zero] at h
 generalize a^k=r at *
 simp at h h1
 refine ak (aau ..) ?_
 simp [NP,h1,h]
end Go.Ev.Code
end
section
namespace Go.Ev.Code
open Go Go.Ev
theorem avn {l:List Nat} (h:∀ (m x:Nat),l[m]?=some x→x=0):aZ l=0:=by
 induction l with
 | nil=>rfl
 | cons x xs ih =>
   have h0:=h 0 x rfl
   have := ih (fun m y hy=>h (m+1) y (by simpa using hy))
   rw [rM,h0,this]
   simp
theorem aoh (o:List Nat):∀ (n k:Nat),k+n=o.length→(∃ j z,(∀ m,m<j→o[k+m]?=some 0)∧o[k+j]?=some z∧z≠0)∨(∀ (m x:Nat),(o.drop k)[m]?=some x→x=0)
 | 0,k,h => .inr fun m x hx=>by
   rw [List.getElem?_drop,List.getElem?_eq_none_iff.2 (by omega)] at hx
   simp at hx
 | n+1,k,h=>by
   obtain ⟨z,hz⟩:∃ z,o[k]?=some z:=⟨o[k],List.getElem?_eq_getElem (by omega)⟩
   by_cases h0:z=0
   ·subst h0
    rcases aoh o n (k+1) (by omega) with ⟨j,y,h1,h2,h3⟩ | h1
    ·refine .inl ⟨j+1,y,fun m hm=>?_,by rw [show k+(j+1)=k+1+j by omega]; exact h2,h3⟩
     cases m with
     | zero=>exact hz
     | succ m=>rw [show k+(m+1)=k+1+m by omega]; exact h1 m (by omega)
    ·refine .inr fun m x hx=>?_
     rw [List.getElem?_drop] at hx
     cases m with
     | zero=>rw [Nat.add_zero,hz] at hx; exact (Option.some.inj hx).symm
     | succ m =>
       refine h1 m x ?_
       rw [List.getElem?_drop,show k+1+m=k+(m+1) by omega]
       exact hx
   ·exact .inl ⟨0,z,fun m hm=>by omega,hz,h0⟩
theorem afF {lb:List Nat} {N:Nat} {i:Int} (hN2:N≤2000000000):∀ (j k:Nat) (o:List Nat) (z:Nat),o.length=N→bT o→(∀ m,m<j→o[k+m]?=some 0)→o[k+j]?=some z→z≠0 →
  ∃ o',o'.length=N∧bT o'∧o'[k+j]?=some z∧aZ o'+T9^k=aZ o+T9^(k+j) ∧
    L.loop [1,5,6,7] [1,5,6,7] oL 1 [aQ lb,.aG 0 0 N 1,.int .i64 i,.int .i64 k] [.live (o.map ah)]=some (.exit 2,[aQ lb,.aG 0 0 N 1,.int .i64 i,.int .i64 ((k+j:Nat):Int)],[.live (o'.map ah)])
 | 0,k,o,z,hr,sr,h0,hz,hne=>by
   refine ⟨o,hr,sr,hz,rfl,?_⟩
   have hk:k<o.length:=(List.getElem?_eq_some_iff.1 hz).1
   have hkI:(k:Int)<N:=by omega
   have hz1:∀ p:k<o.length,o[k]=z:=fun p=>by simpa using (List.getElem?_eq_some_iff.1 hz).2
   refine aj (GI ..) ?_
   simp (disch:=omega) [jF,yV,hr,hkI,hz1,hne]
 | j+1,k,o,z,hr,sr,h0,hz,hne=>by
   have hz0:=h0 0 (by omega)
   rw [Nat.add_zero] at hz0
   have hk:k<o.length:=(List.getElem?_eq_some_iff.1 hz0).1
   have hkI:(k:Int)<N:=by omega
   have hz1:∀ p:k<o.length,o[k]=0:=fun p=>by simpa using (List.getElem?_eq_some_iff.1 hz0).2
   have hset:=JZ 999999999 hz0
   obtain ⟨o',g1,g2,g3,g4,g5⟩:=afF (lb:=lb) (i:=i) hN2 j (k+1) (o.set k 999999999) z (by simp [hr]) (sr.set (by decide) _) (fun m hm=>by
    rw [List.getElem?_set_ne (by omega),show k+1+m=k+(m+1) by omega]; exact h0 (m+1) (by omega)) (by rw [List.getElem?_set_ne (by omega),show k+1+j=k+(j+1) by omega]; exact hz) hne
   rw [show k+1+j=k+(j+1) by omega] at g3 g4 g5
   refine ⟨o',g1,g2,g3,?_,aj (GI ..) ?_⟩
   ·have e:T9^(k+1)=T9^k*999999999+T9^k:=by rw [Nat.pow_succ,← Nat.mul_succ]; rfl
    simp at hset
    omega
   ·have e1:IntKind.i64.wrap ((k:Int)+1)=((k+1:Nat):Int):=by rw [wrap64 _ (by omega)]; omega
    have hset2:(o.map ah).set k (.int .u64 999999999)=(o.set k 999999999).map ah:=VD o k 999999999
    simp [-List.map_set] at g5
    simp (disch:=omega) [-List.map_set,jF,yV,hr,hkI,hz1,e1,hset2,g5]
theorem ZN {lb:List Nat} {N A:Nat} (sb:bT lb) (hN2:N≤2000000000) (hlb:lb.length≤N) (hA:aZ lb≤A):∀ (j i:Nat) (o:List Nat),i+j=lb.length→o.length=N→bT o→aZ o+aZ (lb.take i)=A →
  ∃ o',o'.length=N∧bT o'∧aZ o'+aZ lb=A ∧
    L.loop [1,5,6] [5] kU 1 [aQ lb,.aG 0 0 N 1,.int .i64 i] [.live (o.map ah)]=some (.exit 0,[.aG 0 0 N 1],[.live (o'.map ah)])
 | 0,i,o,hi,hr,sr,hv=>by
   have : i=lb.length:=by omega
   subst this
   rw [List.take_of_length_le (Nat.le_refl _)] at hv
   refine ⟨o,hr,sr,hv,aj (qB ..) ?_⟩
   simp [lW]
 | j+1,i,o,hi,hr,sr,hv=>by
   have hil:i<lb.length:=by omega
   have hio:i<o.length:=by omega
   obtain ⟨y,hy0⟩:∃ y,lb[i]?=some y:=⟨lb[i],List.getElem?_eq_getElem hil⟩
   obtain ⟨x,hx0⟩:∃ x,o[i]?=some x:=⟨o[i],List.getElem?_eq_getElem hio⟩
   have hyT:y<1000000000:=sb.get hy0
   have hxT:x<1000000000:=sr.get hx0
   have hy1:lb[i]=y:=by simpa using (List.getElem?_eq_some_iff.1 hy0).2
   have hx1:∀ p:i<o.length,o[i]=x:=fun p=>by simpa using (List.getElem?_eq_some_iff.1 hx0).2
   have tb:=Cm hy0
   have hilI:(i:Int)<lb.length:=by omega
   have hiN:(i:Int)<N:=by omega
   have e1:IntKind.i64.wrap ((i:Int)+1)=((i+1:Nat):Int):=by rw [wrap64 _ (by omega)]; omega
   by_cases hge:y≤x
   ·have hset:=JZ (x-y) hx0
    have hmul:T9^i*(x-y)+T9^i*y=T9^i*x:=by rw [← Nat.mul_add]; congr 1; omega
    obtain ⟨o',g1,g2,g3,g4⟩:=ZN sb hN2 hlb hA j (i+1) (o.set i (x-y)) (by omega) (by simp [hr]) (sr.set (by show x-y<1000000000; omega) _) (by rw [tb]; omega)
    refine ⟨o',g1,g2,g3,aj (qB ..) ?_⟩
    have hgeI:(y:Int)≤x:=by omega
    have e2:IntKind.u64.wrap ((x:Int)-y)=((x-y:Nat):Int):=by rw [dJ _ (by omega)]; omega
    have hset2:=VD o i (x-y)
    simp [-List.map_set] at g4
    simp (disch:=omega) [-List.map_set,jF,lW,hil,hilI,hr,hiN,hx1,hy1,hge,hgeI,e1,e2,hset2,g4]
   ·have hlt:x+1≤y:=by omega
    obtain ⟨x1,hx1e⟩:∃ x1,x1=x+(1000000000-y):=⟨_,rfl⟩
    have hx1T:x1<T9:=by show x1<1000000000; omega
    have hset:=JZ x1 hx0
    have hmul:T9^i*x1+T9^i*y=T9^i*x+T9^(i+1):=by
     rw [Nat.pow_succ,← Nat.mul_add,← Nat.mul_add]
     congr 1
     show x1+y=x+1000000000
     omega
    have hex:∃ j z,(∀ m,m<j→o[i+1+m]?=some 0)∧o[i+1+j]?=some z∧z≠0:=by
     rcases aoh o (N-(i+1)) (i+1) (by omega) with h | h
     ·exact h
     ·exfalso
      have h1:=avn h
      have h2:aZ o=aZ (o.take (i+1)):=by
       conv=>lhs; rw [← List.take_append_drop (i+1) o]
       rw [zY,h1]; simp
      have h3:=Cm hx0
      have h4:=QH sr (k:=i)
      have h5:T9^i*(x+1)≤T9^i*y:=Nat.mul_le_mul_left _ hlt
      rw [Nat.mul_add] at h5
      have h6:aZ (lb.take (i+1))≤aZ lb:=by
       conv=>rhs; rw [← List.take_append_drop (i+1) lb]
       rw [zY]
       exact Nat.le_add_right _ _
      omega
    obtain ⟨q,z,z1,z2,z3⟩:=hex
    obtain ⟨o1,b1,b2,b3,b4,b5⟩:=afF (lb:=lb) (i:=(i:Int)) hN2 q (i+1) (o.set i x1) z (by simp [hr]) (sr.set hx1T _) (fun m hm=>by rw [List.getElem?_set_ne (by omega)]; exact z1 m hm) (by rw [List.getElem?_set_ne (by omega)]; exact z2) z3
    have hsz:=JZ (z-1) b3
    have hzT:z<T9:=b2.get b3
    have hzm:T9^(i+1+q)*(z-1)+T9^(i+1+q)=T9^(i+1+q)*z:=by rw [← Nat.mul_succ]; congr 1; omega
    obtain ⟨o',g1,g2,g3,g4⟩:=ZN sb hN2 hlb hA j (i+1) (o1.set (i+1+q) (z-1)) (by omega) (by simp [b1]) (b2.set (by omega) _) (by rw [tb]; omega)
    refine ⟨o',g1,g2,g3,aj (qB ..) ?_⟩
    have hgeI:¬ (y:Int)≤x:=by omega
    have hgn:¬ y≤x:=by omega
    have e2:IntKind.u64.wrap (1000000000-(y:Int))=((1000000000-y:Nat):Int):=by rw [dJ _ (by omega)]; omega
    have e3:IntKind.u64.wrap ((x:Int)+((1000000000-y:Nat):Int))=(x1:Int):=by rw [dJ _ (by omega)]; omega
    have hzl:z<1000000000:=hzT
    have e4:IntKind.u64.wrap ((z:Int)-1)=((z-1:Nat):Int):=by rw [dJ _ (by omega)]; omega
    have hk:i+1+q<o1.length:=(List.getElem?_eq_some_iff.1 b3).1
    have hz1:∀ p:i+1+q<o1.length,o1[i+1+q]=z:=fun p=>by simpa using (List.getElem?_eq_some_iff.1 b3).2
    obtain ⟨k,hkq⟩:∃ k,k=i+1+q:=⟨_,rfl⟩
    rw [← hkq] at b5 g4 hk hz1 b3
    have hkI:(k:Int)<N:=by omega
    have hkN:k<N:=by omega
    have hset2:=VD o i x1
    have hset3:=VD o1 k (z-1)
    obtain ⟨i1,hi1⟩:∃ i1,i1=i+1:=⟨_,rfl⟩
    rw [← hi1] at b5 e1 g4
    simp [-List.map_set] at g4 b5
    simp (disch:=omega) [-List.map_set,jF,lW,hil,hilI,hr,hiN,hx1,hy1,hgn,hgeI,e1,e2,e3,e4,hset2,hset3,b5,b1,hkI,hkN,hz1,g4]
theorem abb {a b:Nat} (ha:rY a) (hb:rY b) (hle:b≤a):L.call uU [n9 a,n9 b]=some (n9 (a-b)):=by
 unfold rY at ha hb
 show L.call uU [aQ (aA a),aQ (aA b)]=some (aQ (aA (a-b)))
 have ca:=jw a
 have cb:=jw b
 have va:=jK a
 have vb:=jK b
 by_cases hea:aA a=[]
 ·have h0:a=0:=by rw [← va,hea]; rfl
  have h1:b=0:=by omega
  rw [h0,h1,Nat.sub_self,nY]
  have hl:L.loop [1,5,6] [5] kU 1 [aQ [],.bJ,.int .i64 0] [.free]=some (.exit 0,[.bJ],[.free]):=by
   refine aj (qB ..) ?_
   simp [lW]
  have hm:=Ii [] (fun x hx=>by simp at hx) (by simp [maxL])
  rw [show aZ []=0 from rfl] at hm
  simp only [n9,nY] at hm
  simp at hl hm
  refine ak (NH ..) ?_
  simp [Ec,hl,hm]
 generalize aA a=la at *
 generalize aA b=lb at *
 have l1:=List.length_pos_iff.2 hea
 have hlen:lb.length≤la.length:=by
  rcases Nat.lt_or_ge la.length lb.length with h | h
  ·have := Yt ca.1 cb h
   omega
  ·exact h
 obtain ⟨o,g1,g2,g3,g4⟩:=ZN cb.1 (N:=la.length) (A:=a) (by omega) hlen (by omega) lb.length 0 la (by omega) rfl ca.1 (by simp [va])
 have hv:aZ o=a-b:=by omega
 have hm:=Ii o g2 (by unfold maxL; omega)
 rw [hv] at hm
 have hn:¬ (la.length:Int)=0:=by omega
 have hmax:la.length≤4294967296:=by omega
 have htk:=kJ la la.length (Nat.le_refl _)
 have htk2:=kJ o la.length (by omega)
 simp only [n9,aQ] at hm ⊢
 generalize (aA (a-b)).length=NR at *
 generalize (aA (a-b)).map ah=lR at *
 refine ak (NH ..) ?_
 simp [g1] at g4 hm
 simp (disch:=omega) [-List.map_set,jF,kJ,Ec,hn,hea,hmax,htk,htk2,g4,hm,g1]
end Go.Ev.Code
end
