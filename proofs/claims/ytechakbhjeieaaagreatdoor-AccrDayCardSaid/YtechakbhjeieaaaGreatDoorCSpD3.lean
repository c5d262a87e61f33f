/- Part of accrDay_card. -/
import Derived.Test.YtechakbhjeieaaaGreatDoorCSpD2
set_option linter.unusedVariables false
set_option linter.unusedSimpArgs false
section
namespace Go.Ev.Code
open Go Go.Ev
theorem ae9:∀ {l:List (Int×Rat)} {i:Nat} {p:Int×Rat},l[i]?=some p→(fP l)[i*2]?=some (.int .i64 p.1)∧(fP l)[i*2+1]?=some (.str (LU p.2))∧i*2+2≤(fP l).length
 | [],i,p,h=>by simp at h
 | (a,b)::r,0,p,h=>by simp at h; subst h; simp [fP]
 | (a,b)::r,i+1,p,h=>by
   simp at h
   have := ae9 h
   rw [show (i+1)*2=i*2+1+1 by omega]
   simp only [fP,List.getElem?_cons_succ,List.length_cons]
   exact ⟨this.1,this.2.1,by omega⟩
theorem apw {b:aQ} {s:Int} (fs:List (Int×Rat)):∀ (l done:List (Int×Rat)),fs=done++l→(∃ p∈l,s<p.1) →
  L.loop [1,2,6] [1,2,6] yc 2 [.int .i64 s,.loc 0 0,.bf 1 (done.length*2) l.length 2] [.live (aO b),.live (fP fs)] =
    some (.exit 0,[.int .i64 s,.loc 0 0,.bf 1 ((fs.length-(l.dropWhile fun p=>decide (p.1≤s)).length)*2) (l.dropWhile fun p=>decide (p.1≤s)).length 2],[.live (aO b),.live (fP fs)]):=by
 have hbc:=fun n=>mF b n
 have hfc:=fun n=>JM fs n 11
 intro l
 induction l with
 | nil=>intro done _ h; obtain ⟨p,hp,_⟩:=h; simp at hp
 | cons p r ih =>
   intro done hal hex
   have hg:=ae9 (l:=fs) (i:=done.length) (p:=p) (by rw [hal]; simp)
   have hlen:fs.length=done.length+(r.length+1):=by rw [hal]; simp
   by_cases hp:p.1≤s
   ·have hex':∃ q∈r,s<q.1:=by
     obtain ⟨q,hq,hs⟩:=hex
     rcases List.mem_cons.1 hq with rfl | hq
     ·omega
     ·exact ⟨q,hq,hs⟩
    have hn:=ih (done++[p]) (by rw [hal]; simp) hex'
    have hdw:(p::r).dropWhile (fun p=>decide (p.1≤s))=r.dropWhile (fun p=>decide (p.1≤s)):=by simp [List.dropWhile,hp]
    rw [hdw]
    rw [List.length_append,List.length_singleton] at hn
    have e1:(done.length+1)*2=done.length*2+2:=by omega
    rw [e1] at hn
    obtain ⟨g1,g2,g3⟩:=hg
    generalize (r.dropWhile fun p=>decide (p.1≤s)).length=R at *
    generalize (fs.length-R)*2=R2 at *
    have hbn:oW true false (r.length+1) [.int .i64 1]=some (1,r.length+1):=by
     have : (1:Int)≤(r.length:Int)+1:=by omega
     simp [oW,bnd,this]
    rw [List.length_cons]
    generalize fP fs=fc at *
    generalize done.length*2=D2 at *
    generalize r.length=rl at *
    generalize aO b=B at *
    have hpos:(0:Int)<(rl:Int)+1:=by omega
    refine aJ (VJ ..) ?_
    simp [MW,hpos,g1,hp,hbn,hbc,hfc,hn]
   ·have hdw:(p::r).dropWhile (fun p=>decide (p.1≤s))=p::r:=by simp [List.dropWhile,hp]
    rw [hdw,show (fs.length-(p::r).length)*2=done.length*2 by rw [List.length_cons]; omega]
    obtain ⟨g1,g2,g3⟩:=hg
    rw [List.length_cons]
    generalize fP fs=fc at *
    generalize done.length*2=D2 at *
    generalize r.length=rl at *
    generalize aO b=B at *
    have hpos:(0:Int)<(rl:Int)+1:=by omega
    refine aJ (VJ ..) ?_
    simp [MW,hpos,g1,hp,hbc,hfc]
def asH (b:aQ) (s:Int) (l:List (Int×Rat)):List (Int×Rat):=if 0<b.ex then match l with
    | []=>[]
    | [p]=>if p.1-b.ex≤s then [(p.1,mO b)] else [p]
    | p::q::r=>if p.1-b.ex≤s then q::r else p::q::r
 else l
def leftB (b:aQ) (s:Int):Er×List (Int×Rat):=match (dP b).1 with
 | some e=>(some e,[])
 | none=>if s<b.issue∨b.b_≤s then (some (6,none),[]) else (none,asH b s ((dP b).2.dropWhile fun p=>decide (p.1≤s)))
theorem agB (each red:Rat):∀ {l:List (Int×Int)} {i:Nat} {p:Int×Int},l[i]?=some p→∃ a,(pJ each red l)[i]?=some (p.2,a)
 | [],i,p,h=>by simp at h
 | [q],i,p,h=>by
   cases i with
   | zero=>simp at h; subst h; exact ⟨_,rfl⟩
   | succ i=>simp at h
 | q::q'::r,i,p,h=>by
   cases i with
   | zero=>simp at h; subst h; exact ⟨_,rfl⟩
   | succ i =>
     simp only [List.getElem?_cons_succ] at h
     obtain ⟨a,ha⟩:=agB each red h
     exact ⟨a,by simp only [pJ,List.getElem?_cons_succ]; exact ha⟩
theorem aga (pay each red:Rat) {l:List (Int×Int)} {i:Nat} {p:Int×Int} (h:l[i]?=some p):∃ a,(Es pay each red l)[i]?=some (p.2,a):=by
 match l,h with
 | [q],h =>
   cases i with
   | zero=>simp at h; subst h; exact ⟨_,rfl⟩
   | succ i=>simp at h
 | q::q'::r,h =>
   cases i with
   | zero=>simp at h; subst h; exact ⟨_,rfl⟩
   | succ i =>
     simp only [List.getElem?_cons_succ] at h
     obtain ⟨a,ha⟩:=agB each red h
     exact ⟨a,by simp only [Es,List.getElem?_cons_succ]; exact ha⟩
 | [],h=>simp at h
theorem tq {b:aQ} (h:(dP b).1=none):(aZ b).1=none∧∃ p r q,(aZ b).2=p::r∧sD b p = .ok q∧(dP b).2=Es q (jV b) (mO b) (p::r):=by
 unfold dP at *
 split at h
 ·simp [anh] at h
 ·rename_i h0
  rw [h0]
  simp only
  have hne:=(iD h0).2.ne
  refine ⟨trivial,?_⟩
  cases hps:(aZ b).2 with
  | nil=>exact absurd hps hne
  | cons p r =>
    rw [hps] at h
    simp only at h ⊢
    cases hq:sD b p with
    | error c=>rw [hq] at h; simp at h
    | ok q=>exact ⟨p,r,q,rfl,hq,rfl⟩
theorem anq {b:aQ} (h:(dP b).1=none):∀ p∈(dP b).2,bn p.1:=by
 obtain ⟨h0,p,r,q,hps,hq,hfl⟩:=tq h
 rw [hfl]
 intro x hx
 obtain ⟨i,hi⟩:=List.getElem?_of_mem hx
 have hl:i<(p::r).length:=by rw [← Zy q (jV b) (mO b) (p::r)]; exact (List.getElem?_eq_some_iff.1 hi).1
 obtain ⟨a,ha⟩:=aga q (jV b) (mO b) (l:=p::r) (i:=i) (List.getElem?_eq_getElem hl)
 rw [hi] at ha
 have := Option.some.inj ha
 rw [this]
 have hm:(p::r)[i]∈(aZ b).2:=by rw [hps]; exact List.getElem_mem _
 exact (kC h0 hm).2.1
theorem anr {b:aQ} (h:(dP b).1=none):∃ p∈(dP b).2,p.1=b.b_:=by
 obtain ⟨h0,p,r,q,hps,hq,hfl⟩:=tq h
 have hw:=(iD h0).2
 have hl:(aZ b).2.length-1<(aZ b).2.length:=by rw [hps]; simp
 obtain ⟨x,hg⟩:∃ x,(aZ b).2[(aZ b).2.length-1]?=some x:=⟨_,List.getElem?_eq_getElem hl⟩
 have hlast:=hw.last _ hg
 rw [hps] at hg
 obtain ⟨a,ha⟩:=aga q (jV b) (mO b) hg
 refine ⟨(x.2,a),?_,hlast⟩
 rw [hfl]
 exact List.mem_of_getElem? ha
theorem aiY {b:aQ} (h:chk b=none):0≤b.ex∧b.ex≤30:=by
 unfold chk at h
 split at h <;> try (simp at h; done)
 split at h <;> try (simp at h; done)
 split at h <;> try (simp at h; done)
 split at h <;> try (simp at h; done)
 split at h <;> try (simp at h; done)
 split at h <;> try (simp at h; done)
 omega
theorem af6 {α:Type} {f:α→Bool}:∀ {l:List α},l.dropWhile f=[]→∀ x∈l,f x=true
 | [],_,x,h=>by simp at h
 | y::ys,h,x,hx=>by
   simp only [List.dropWhile] at h
   split at h
   ·rename_i hy
    rcases List.mem_cons.1 hx with rfl | hx
    ·exact hy
    ·exact af6 h x hx
   ·simp at h
theorem ab_:∀ (done l:List (Int×Rat)),(fP (done++l)).drop (done.length*2)=fP l:=by
 intro done l
 rw [MH,← Qs done]
 exact List.drop_left
set_option maxHeartbeats 1000000 in
theorem ajm {b:aQ} (hc:b.dH.length≤1000000) (hr:b.dM.length≤1000000) (s:Int):L.call BO [aX b,.int .i64 s]=some (P8 (leftB b s)):=by
 have hbc:=fun n=>mF b n
 have hbl:=rW b
 have hbd:=ql b 0 10
 have hof:=aln (b:=b) (pre:=[.live (aO b)]) (k:=1) (.inr ⟨rfl,rfl⟩) hc hr
 have hb0:(aO b)[0]?=some (.int .i64 b.issue):=rfl
 have hb1:(aO b)[1]?=some (.int .i64 b.b_):=rfl
 have hb8:(aO b)[8]?=some (.int .i64 b.ex):=rfl
 unfold leftB
 cases he:(dP b).1 with
 | some e =>
   have hq:dP b=(some e,(dP b).2):=by rw [← he]
   rw [hq] at hof
   simp only [callOf] at hof
   have hcl:=ama (some e) 0
   have hfz:∀ m,fz 11 (Dw (some e)) m=some (Dw (some e),m):=by intro m; rcases e with ⟨c,_ | t⟩ <;> rfl
   simp only [P8,flD,fP,List.length_nil]
   unfold aX at hof ⊢
   generalize aO b=B at *
   have htkB:B.take 9=B:=List.take_of_length_le (by omega)
   rcases e with ⟨c,_ | t⟩
   ·simp only [Dw] at *
    refine aN wZ rfl (wY ..) ?_
    simp [uH,hof,hbc,hbl,hbd,htkB]
   ·simp only [Dw,jf] at *
    refine aN wZ rfl (wY ..) ?_
    simp [uH,hof,hbc,hbl,hbd,htkB]
 | none =>
   have hq:dP b=(none,(dP b).2):=by rw [← he]
   have hdays:=anq he
   have hchk:=mJ (tq he).1
   have hlast:=anr he
   have hex:=aiY hchk
   have hbr:=FT hc hr
   have htx:=DZ (aaj b) (by omega) (by omega)
   rw [hq] at hof
   simp only [callOf] at hof
   simp only
   have hlp:=apw (b:=b) (s:=s) (dP b).2 (dP b).2 [] rfl
   have hfcl:=fun n=>JM (dP b).2 n 11
   have hfll:=Qs (dP b).2
   simp only [List.length_nil,Nat.zero_mul] at hlp
   have hlf0:∀ l,asH b s l=if 0<b.ex then match l with
    | []=>[]
    | [p]=>if p.1-b.ex≤s then [(p.1,mO b)] else [p]
    | p::q::r=>if p.1-b.ex≤s then q::r else p::q::r
    else l:=fun l=>rfl
   by_cases h1:s<b.issue
   ·rw [if_pos (.inl h1)]
    simp only [P8,flD,fP,List.length_nil,Dw]
    generalize fP (dP b).2=fc at *
    generalize (dP b).2.length=N at *
    obtain ⟨i,m,fq,c,rd,n,st,e,ex⟩:=b
    unfold aX aO at *
    simp only at *
    simp at hof
    refine aN wZ rfl (wY ..) ?_
    simp [uH,hof,h1,dD]
   by_cases h2:b.b_≤s
   ·rw [if_pos (.inr h2)]
    simp only [P8,flD,fP,List.length_nil,Dw]
    generalize fP (dP b).2=fc at *
    generalize (dP b).2.length=N at *
    obtain ⟨i,m,fq,c,rd,n,st,e,ex⟩:=b
    unfold aX aO at *
    simp only at *
    simp at hof
    refine aN wZ rfl (wY ..) ?_
    simp [uH,hof,h1,h2,dD]
   rw [if_neg (by omega)]
   have hex2:∃ p∈(dP b).2,s<p.1:=by
    obtain ⟨p,hp,hpm⟩:=hlast
    exact ⟨p,hp,by omega⟩
   have hlp:=hlp hex2
   generalize (dP b).2=fs at *
   obtain ⟨done,hdone⟩:∃ done,fs=done++fs.dropWhile (fun p=>decide (p.1≤s)):=⟨fs.takeWhile _,(List.takeWhile_append_dropWhile).symm⟩
   have hne:fs.dropWhile (fun p=>decide (p.1≤s))≠[]:=by
    intro h
    obtain ⟨p,hp,hs⟩:=hex2
    have := af6 h p hp
    simp at this
    omega
   generalize fs.dropWhile (fun p=>decide (p.1≤s))=l at *
   have hlen:fs.length-l.length=done.length:=by rw [hdone]; simp
   rw [hlen] at hlp
   have hdr:=ab_ done l
   rw [← hdone] at hdr
   have hlfc:=Qs l
   have hL2:(fP fs).length=done.length*2+l.length*2:=by rw [hfll,hdone]; simp; omega
   match l,hne with
   | p::r,_ =>
     have hg:=ae9 (l:=fs) (i:=done.length) (p:=p) (by rw [hdone]; simp)
     have hpd:=hdays p (by rw [hdone]; simp)
     obtain ⟨g1,g2,g3⟩:=hg
     have e1:IntKind.i64.wrap (p.1-b.ex)=p.1-b.ex:=wrap64 _ (by omega)
     have hrc:=fun n=>JM r n 11
     have hfzr:∀ m,lG (fz 10) (fP fs) m=some (fP fs,m):=fun m=>ae' fs 9 m
     have hfzr2:∀ m,lG (fz 11) (fP fs) m=some (fP fs,m):=fun m=>ae' fs 10 m
     have htkl:∀ l:List (Int×Rat),(fP l).take (l.length*2)=fP l:=fun l=>List.take_of_length_le (by rw [Qs]; omega)
     rw [hlf0]
     by_cases hx:0<b.ex
     ·rw [if_pos hx]
      by_cases hs:p.1-b.ex≤s
      ·cases r with
       | nil =>
         simp only
         rw [if_pos hs]
         have hnew:(fP fs).set (done.length*2+1) (.str (LU (mO b)))=fP (done++[(p.1,mO b)]):=by
          rw [hdone,MH,MH,← Qs done,List.set_append_right _ _ (by omega)]
          simp [fP]
         have hset:=ab_ done [(p.1,mO b)]
         rw [← hnew] at hset
         have hfz2:∀ m,lG (fz 10) ((fP fs).set (done.length*2+1) (.str (LU (mO b)))) m=some ((fP fs).set (done.length*2+1) (.str (LU (mO b))),m):=by
          intro m; rw [hnew]; exact ae' _ 9 m
         have hcl2:∀ n,((fP fs).set (done.length*2+1) (.str (LU (mO b)))).all (D.clo n 12)=true:=by
          intro n; rw [hnew]; exact JM _ n 11
         have hl2:done.length*2+2≤((fP fs).set (done.length*2+1) (.str (LU (mO b)))).length:=by rw [List.length_set]; omega
         simp only [P8,flD,fP,List.length_cons,List.length_nil,Dw] at hset ⊢
         generalize mO b=rq at *
         generalize hfc:fP fs=fc at *
         generalize done.length*2=D2 at *
         have hltfc:D2+1<fc.length:=by omega
         obtain ⟨i,m,fq,c,rd,n,st,e,ex⟩:=b
         unfold aX aO at *
         simp only at *
         simp at hof hlp
         refine aN wZ rfl (wY ..) ?_
         simp [uH,hof,h1,h2,hlp,hx,hs,g1,e1,hbr,htx,hset,hfz2,hcl2,hl2,hfcl,g3,hltfc]
       | cons q r =>
         simp only
         rw [if_pos hs]
         have hd2:=ab_ (done++[p]) (q::r)
         rw [List.append_assoc,show [p]++q::r=p::q::r from rfl,← hdone,List.length_append,List.length_singleton,show (done.length+1)*2=done.length*2+2 by omega] at hd2
         have hb3:done.length*2+2+(r.length+1)*2≤(fP fs).length:=by rw [hL2]; simp; omega
         have htk:=htkl (q::r)
         simp only [P8,flD,List.length_cons,Dw] at htk ⊢
         rw [List.length_cons,List.length_cons] at hlp
         have hbn:oW true false (r.length+1+1) [.int .i64 1]=some (1,r.length+1+1):=by
          have : (1:Int)≤(r.length:Int)+1+1:=by omega
          simp [oW,bnd,this]
         generalize fP (q::r)=fr at *
         generalize hfc:fP fs=fc at *
         generalize done.length*2=D2 at *
         generalize r.length=R at *
         have hR1:(1:Int)<(R:Int)+1+1:=by omega
         have hR0:(0:Int)<(R:Int)+1+1:=by omega
         have hR2:1<R+1+1:=by omega
         obtain ⟨i,m,fq,c,rd,n,st,e,ex⟩:=b
         unfold aX aO at *
         simp only at *
         simp at hof hlp
         refine aN wZ rfl (wY ..) ?_
         simp [uH,hof,h1,h2,hlp,hx,hs,g1,e1,hbn,hR1,hR0,hR2,hfzr,hfzr2,hfcl,hd2,hb3,htk]
      ·have hlf:(match p::r with
        | []=>[]
        | [p]=>if p.1-b.ex≤s then [(p.1,mO b)] else [p]
        | p::q::r=>if p.1-b.ex≤s then q::r else p::q::r:List (Int×Rat))=p::r:=by
        cases r with
        | nil=>simp only; rw [if_neg hs]
        | cons q r=>simp only; rw [if_neg hs]
       rw [hlf]
       have hb3:done.length*2+(r.length+1)*2≤(fP fs).length:=by rw [hL2]; simp
       have htk:=htkl (p::r)
       simp only [P8,flD,List.length_cons,Dw] at htk ⊢
       rw [List.length_cons] at hlp
       generalize fP (p::r)=fr at *
       generalize hfc:fP fs=fc at *
       generalize done.length*2=D2 at *
       generalize r.length=R at *
       have hR0:(0:Int)<(R:Int)+1:=by omega
       obtain ⟨i,m,fq,c,rd,n,st,e,ex⟩:=b
       unfold aX aO at *
       simp only at *
       simp at hof hlp
       refine aN wZ rfl (wY ..) ?_
       simp [uH,hof,h1,h2,hlp,hx,hs,g1,e1,hR0,hfzr,hfzr2,hfcl,hdr,hb3,htk]
     ·rw [if_neg hx]
      have hb3:done.length*2+(r.length+1)*2≤(fP fs).length:=by rw [hL2]; simp
      have htk:=htkl (p::r)
      simp only [P8,flD,List.length_cons,Dw] at htk ⊢
      rw [List.length_cons] at hlp
      generalize fP (p::r)=fr at *
      generalize hfc:fP fs=fc at *
      generalize done.length*2=D2 at *
      generalize r.length=R at *
      obtain ⟨i,m,fq,c,rd,n,st,e,ex⟩:=b
      unfold aX aO at *
      simp only at *
      simp at hof hlp
      refine aN wZ rfl (wY ..) ?_
      simp [uH,hof,h1,h2,hlp,hx,hfzr,hfzr2,hfcl,hdr,hb3,htk]
end Go.Ev.Code
end
section
namespace Go.Ev.Code
open Go Go.Ev
theorem afY {c:UInt8}:∀ (x acc b:List UInt8),c ∉ x→cutAt c acc (x++c::b)=some (acc.reverse++x,b)
 | [],acc,b,_=>by simp [cutAt]
 | y::ys,acc,b,h=>by
   have h1:(y==c)=false:=by
    simp only [beq_eq_false_iff_ne]
    intro e; exact h (by rw [e]; simp)
   simp only [List.cons_append,cutAt,h1,Bool.false_eq_true,if_false]
   rw [afY ys (y::acc) b (fun h2=>h (by simp [h2]))]
   simp
end Go.Ev.Code
end
section
namespace Go.Ev.Code
open Go Go.Ev
def nD (x:Nat):D:=if x=0 then .sl 0 [] else .sl 1 [.int .u64 x]
theorem alL {x:Nat} (h:x<1000000000):L.call f_ [.int .u64 x]=some (nD x):=by
 have hz:zeros 1 [.int .u64 0]=[.int .u64 0]:=rfl
 unfold nD
 by_cases h0:x=0
 ·rw [if_pos h0]
  subst h0
  have l:L.loop [0,3] [3] gU 0 [.int .u64 0,.bH] []=some (.exit 0,[.bH],[]):=by
   refine aJ (kM ..) ?_
   simp [jq]
  refine aN GX rfl (GR ..) ?_
  simp [Bj,l]
 ·rw [if_neg h0]
  have hpos:(0:Int)<(x:Int):=by omega
  have hposN:0<x:=by omega
  have e1:Int.tmod (x:Int) 1000000000=(x:Int):=by rw [Int.tmod_eq_emod_of_nonneg (by omega)]; omega
  have e2:Int.tdiv (x:Int) 1000000000=0:=by rw [Int.tdiv_eq_ediv_of_nonneg (by omega)]; omega
  have e3:IntKind.u64.wrap 0=0:=by decide
  have l2:L.loop [0,3] [3] gU 0 [.int .u64 0,.bf 0 0 1 1] [.live [.int .u64 x]]=some (.exit 0,[.bf 0 0 1 1],[.live [.int .u64 x]]):=by
   refine aJ (kM ..) ?_
   simp [jq]
  generalize (x:Int)=xz at *
  have l:L.loop [0,3] [3] gU 0 [.int .u64 xz,.bH] []=some (.exit 0,[.bf 0 0 1 1],[.live [.int .u64 xz]]):=by
   refine aJ (kM ..) ?_
   simp [jq,hpos,hz,e1,e2,e3,l2]
  refine aN GX rfl (GR ..) ?_
  simp [Bj,l]
end Go.Ev.Code
end
section
namespace Go.Ev.Code
open Go Go.Ev
end Go.Ev.Code
end
section
namespace Go.Ev.Code
open Go Go.Ev
def T9:Nat:=1000000000
def bV:List Nat→Nat
 | []=>0
 | x::xs=>x+T9*bV xs
def NV:Nat→Nat→List Nat
 | 0,_=>[]
 | f+1,n=>if n=0 then [] else n % T9::NV f (n / T9)
def aS (n:Nat):List Nat:=NV (n.log2 / 29+1) n
def dL (l:List Nat):Prop:=∀ x∈l,x<T9
def Ey (l:List Nat):Prop:=dL l∧∀ h:l≠[],l.getLast h≠0
theorem uI:0<T9:=by decide
@[simp] theorem asz:bV []=0:=rfl
@[simp] theorem xJ (x:Nat) (xs:List Nat):bV (x::xs)=x+T9*bV xs:=rfl
theorem D_ (l r:List Nat):bV (l++r)=bV l+T9^l.length*bV r:=by
 induction l with
 | nil=>simp
 | cons x xs ih =>
   simp only [List.cons_append,xJ,ih,List.length_cons,Nat.pow_succ,Nat.mul_add]
   have : T9*(T9^xs.length*bV r)=T9^xs.length*T9*bV r:=by rw [← Nat.mul_assoc,Nat.mul_comm T9]
   omega
theorem dL.cons {x:Nat} {xs:List Nat} (h:dL (x::xs)):x<T9∧dL xs:=⟨h x (by simp),fun y hy=>h y (by simp [hy])⟩
theorem afy {l:List Nat} (h:dL l):bV l<T9^l.length:=by
 induction l with
 | nil=>simp
 | cons x xs ih =>
   have h1:=h.cons
   have h2:=ih h1.2
   simp only [xJ,List.length_cons,Nat.pow_succ]
   have : T9*(bV xs+1)≤T9*T9^xs.length:=Nat.mul_le_mul_left _ h2
   rw [Nat.mul_comm (T9^xs.length)]
   rw [Nat.mul_add] at this
   omega
theorem ZH:∀ (f n:Nat),n<T9^f→bV (NV f n)=n
 | 0,n,h=>by simp at h; simp [NV,h]
 | f+1,n,h=>by
   unfold NV
   split
   ·simp_all
   ·have : n / T9<T9^f:=by rw [Nat.div_lt_iff_lt_mul uI]; rw [Nat.pow_succ] at h; exact h
    rw [xJ,ZH f _ this]
    exact Nat.mod_add_div n T9
theorem abK:∀ (f n:Nat),n<T9^f→Ey (NV f n)
 | 0,n,h=>⟨fun x hx=>by simp [NV] at hx,fun h=>by simp [NV] at h⟩
 | f+1,n,h=>by
   unfold NV
   split
   ·exact ⟨fun x hx=>by simp at hx,fun h=>by simp at h⟩
   ·rename_i h0
    have hd:n / T9<T9^f:=by rw [Nat.div_lt_iff_lt_mul uI]; rw [Nat.pow_succ] at h; exact h
    have ih:=abK f _ hd
    have hv:=ZH f _ hd
    refine ⟨fun x hx=>?_,fun hne=>?_⟩
    ·rcases List.mem_cons.1 hx with rfl | hx
     ·exact Nat.mod_lt _ uI
     ·exact ih.1 x hx
    ·revert hne ih hv
     generalize NV f (n / T9)=l
     intro ih hv hne
     cases l with
     | nil =>
       simp at hv
       simp only [List.getLast_singleton]
       intro h1
       have := Nat.mod_add_div n T9
       rw [h1,← hv] at this
       simp at this
       exact h0 this.symm
     | cons y ys =>
       rw [List.getLast_cons (by simp)]
       exact ih.2 (by simp)
theorem agj (n:Nat):n<T9^(n.log2 / 29+1):=by
 have h:n<2^(n.log2+1):=Nat.lt_log2_self
 have h1:(2^29)^(n.log2 / 29+1)≤T9^(n.log2 / 29+1):=Nat.pow_le_pow_left (by decide) _
 refine Nat.lt_of_lt_of_le h (Nat.le_trans ?_ h1)
 rw [← Nat.pow_mul]
 exact Nat.pow_le_pow_right (by decide) (by omega)
@[simp] theorem oL (n:Nat):bV (aS n)=n:=ZH _ _ (agj n)
theorem nX (n:Nat):Ey (aS n):=abK _ _ (agj n)
theorem Vb {x:Nat} {xs:List Nat} (h:Ey (x::xs)):Ey xs:=by
 refine ⟨h.1.cons.2,fun hne=>?_⟩
 have := h.2 (by simp)
 rwa [List.getLast_cons hne] at this
theorem abz {l:List Nat} (h:Ey l) (hv:bV l=0):l=[]:=by
 induction l with
 | nil=>rfl
 | cons x xs ih =>
   have hx:x=0:=by simp only [xJ] at hv; omega
   have hxs:bV xs=0:=by
    simp only [xJ] at hv
    have h2:T9*bV xs=0:=by omega
    rcases Nat.mul_eq_zero.1 h2 with h | h
    ·exact absurd h (by decide)
    ·exact h
   have := ih (Vb h) hxs
   subst this
   have h2:=h.2 (by simp)
   simp at h2
   exact absurd hx h2
theorem Ya {l r:List Nat} (hl:Ey l) (hr:Ey r) (h:bV l=bV r):l=r:=by
 induction l generalizing r with
 | nil=>exact (abz hr h.symm).symm
 | cons x xs ih =>
   cases r with
   | nil=>exact abz hl h
   | cons y ys =>
     simp at h
     have h1:=hl.1.cons.1
     have h2:=hr.1.cons.1
     have e:x=y:=by
      have h3:(x+T9*bV xs) % T9=x:=by rw [Nat.add_mul_mod_self_left]; exact Nat.mod_eq_of_lt h1
      have h4:(y+T9*bV ys) % T9=y:=by rw [Nat.add_mul_mod_self_left]; exact Nat.mod_eq_of_lt h2
      rw [h,h4] at h3
      exact h3.symm
     subst e
     have e2:bV xs=bV ys:=Nat.eq_of_mul_eq_mul_left uI (by omega)
     rw [ih (Vb hl) (Vb hr) e2]
theorem ajD {l:List Nat} (h:Ey l):aS (bV l)=l:=Ya (nX _) h (oL _)
theorem T_ {l:List Nat} (h:Ey l) (hne:l≠[]):T9^(l.length-1)≤bV l:=by
 have e:=List.dropLast_concat_getLast hne
 have h1:=h.2 hne
 rw [← e,D_]
 simp only [List.length_append,List.length_dropLast,List.length_cons,List.length_nil,xJ,asz]
 have : 1≤l.getLast hne:=by omega
 calc T9^(l.length-1+(0+1)-1)=T9^(l.length-1)*1:=by simp
  _≤T9^(l.length-1)*(l.getLast hne+T9*0):=Nat.mul_le_mul_left _ (by omega)
  _≤_:=by omega
theorem Zo {l r:List Nat} (hl:dL l) (hr:Ey r) (h:l.length<r.length):bV l<bV r:=by
 have h1:=afy hl
 have h2:=T_ hr (by intro e; simp [e] at h)
 exact Nat.lt_of_lt_of_le h1 (Nat.le_trans (Nat.pow_le_pow_right uI (by omega)) h2)
theorem arw {n k:Nat} (h:n<T9^k):(aS n).length≤k:=by
 rcases Nat.lt_or_ge k (aS n).length with h1 | h1
 ·have h2:=T_ (nX n) (by intro e; simp [e] at h1)
  rw [oL] at h2
  have : T9^k≤T9^((aS n).length-1):=Nat.pow_le_pow_right uI (by omega)
  omega
 ·exact h1
@[simp] theorem uM:aS 0=[]:=by decide
theorem aur {n:Nat} (h:n≠0):aS n≠[]:=fun e=>h (by rw [← oL n,e]; rfl)
theorem aoe (l:List Nat):bV (gY l)=bV l:=by
 induction l with
 | nil=>rfl
 | cons x xs ih =>
   simp only [gY,xJ,← ih,U5]
   split
   ·rename_i h; rw [h.1,h.2]; rfl
   ·rfl
theorem aku {l:List Nat} (h:dL l):Ey (gY l):=by
 induction l with
 | nil=>exact ⟨h,fun h=>by simp [gY] at h⟩
 | cons x xs ih =>
   have h1:=h.cons
   have h2:=ih h1.2
   simp only [gY]
   revert h2
   generalize gY xs=t
   intro h2
   unfold U5
   split
   ·exact ⟨fun y hy=>by simp at hy,fun h=>by simp at h⟩
   ·rename_i hn
    refine ⟨fun y hy=>?_,fun _=>?_⟩
    ·rcases List.mem_cons.1 hy with rfl | hy
     ·exact h1.1
     ·exact h2.1 y hy
    ·cases t with
     | nil=>simpa using hn
     | cons y ys=>rw [List.getLast_cons (by simp)]; exact h2.2 (by simp)
theorem aod {l:List Nat} (h:dL l):gY l=aS (bV l):=by
 rw [← aoe l,ajD (aku h)]
theorem FI {l:List Nat} {k:Nat} {u:Nat} (h:l[k]?=some u):bV (l.take (k+1))=bV (l.take k)+T9^k*u:=by
 obtain ⟨hk,rfl⟩:=List.getElem?_eq_some_iff.1 h
 rw [List.take_succ_eq_append_getElem hk,D_]
 simp [Nat.min_eq_left (Nat.le_of_lt hk)]
theorem dL.take {l:List Nat} (h:dL l) (k:Nat):dL (l.take k):=fun x hx=>h x (List.mem_of_mem_take hx)
theorem dL.get {l:List Nat} (h:dL l) {k u:Nat} (hk:l[k]?=some u):u<T9:=h u (List.mem_of_getElem? hk)
theorem SK {l:List Nat} (h:dL l) {k:Nat}:bV (l.take k)<T9^k:=by
 refine Nat.lt_of_lt_of_le (afy (h.take k)) (Nat.pow_le_pow_right uI ?_)
 simp; omega
theorem dL.snoc {l:List Nat} (h:dL l) {x:Nat} (hx:x<T9):dL (l++[x]):=fun y hy=>by
 rcases List.mem_append.1 hy with hy | hy
 ·exact h y hy
 ·simp at hy; omega
theorem NT {l:List Nat} (h:dL l) (i:Nat):l.getD i 0<T9:=by
 rw [List.getD_eq_getElem?_getD]
 cases hl:l[i]? with
 | none=>exact uI
 | some x=>exact h.get hl
theorem WV (l:List Nat) (i:Nat):bV (l.take (i+1))=bV (l.take i)+T9^i*l.getD i 0:=by
 rw [List.getD_eq_getElem?_getD]
 cases hl:l[i]? with
 | none =>
   have : l.length≤i:=List.getElem?_eq_none_iff.1 hl
   rw [List.take_of_length_le (by omega),List.take_of_length_le this]; simp
 | some x=>exact FI hl
theorem U6 (l:List Nat) (x:Nat):bV (l++[x])=bV l+T9^l.length*x:=by rw [D_]; simp
theorem Nk {o:List Nat} {j z:Nat} (v:Nat) (h:o[j]?=some z):bV (o.set j v)+T9^j*z=bV o+T9^j*v:=by
 induction o generalizing j with
 | nil=>simp at h
 | cons x xs ih =>
   cases j with
   | zero=>simp at h; subst h; simp; omega
   | succ j =>
     simp at h
     have := ih h
     simp only [List.set_cons_succ,xJ,Nat.pow_succ]
     have e:T9*(bV (xs.set j v)+T9^j*z)=T9*(bV xs+T9^j*v):=by rw [this]
     rw [Nat.mul_add,Nat.mul_add,← Nat.mul_assoc,← Nat.mul_assoc,Nat.mul_comm T9 (T9^j)] at e
     omega
theorem dL.set {o:List Nat} (h:dL o) {v:Nat} (hv:v<T9) (j:Nat):dL (o.set j v):=fun x hx=>by
 rcases List.mem_or_eq_of_mem_set hx with h1 | h1
 ·exact h x h1
 ·omega
theorem aog (n:Nat):bV (List.replicate n 0)=0:=by
 induction n with
 | zero=>rfl
 | succ n ih=>simp [List.replicate_succ,ih]
theorem akm (n:Nat):dL (List.replicate n 0):=fun x hx=>by
 have := List.eq_of_mem_replicate hx
 rw [this]; exact uI
theorem ZJ {n:Nat} (h:n≠0):aS n=n % T9::aS (n / T9):=by
 refine Ya (nX n) ⟨fun x hx=>?_,fun hne=>?_⟩ ?_
 ·rcases List.mem_cons.1 hx with rfl | hx
  ·exact Nat.mod_lt _ uI
  ·exact (nX (n / T9)).1 x hx
 ·by_cases h0:n / T9=0
  ·have e:aS (n / T9)=[]:=by rw [h0]; exact uM
   have h2:=Nat.mod_add_div n T9
   rw [h0] at h2
   simp only [e,List.getLast_singleton]
   omega
  ·rw [List.getLast_cons (aur h0)]
   exact (nX (n / T9)).2 _
 ·rw [oL,xJ,oL]
  exact (Nat.mod_add_div n T9).symm
abbrev n9 (n:Nat):D:=bG (aS n)
theorem arD {n:Nat} (h:n<1000000000):n9 n=nD n:=by
 unfold nD
 by_cases h0:n=0
 ·subst h0
  rw [if_pos rfl]
  show bG (aS 0)=_
  rw [uM]
  rfl
 ·have e:n / T9=0:=Nat.div_eq_of_lt h
  have e2:n % T9=n:=Nat.mod_eq_of_lt h
  rw [if_neg h0]
  show bG (aS n)=_
  rw [ZJ h0,e,e2,uM]
  rfl
def xR (n:Nat):Prop:=(aS n).length≤1000000000
theorem NB.uJ {k n:Nat} (h:NB k n) (hk:k≤20000000):xR n:=by
 have h1:n<T9^(k / 29+1):=by
  have h2:(2^29)^(k / 29+1)≤T9^(k / 29+1):=Nat.pow_le_pow_left (by decide) _
  refine Nat.lt_of_lt_of_le (Nat.lt_of_lt_of_le h ?_) h2
  rw [← Nat.pow_mul]
  exact Nat.pow_le_pow_right (by decide) (by omega)
 have := arw h1
 unfold xR
 omega
end Go.Ev.Code
end
section
namespace Go.Ev.Code
open Go Go.Ev
theorem aoc (l:List Nat) (hl:l.length≤maxL):L.loop [0] [0] jK 0 [bG l] []=some (.exit 0,[bG (gY l)],[]):=by
 unfold maxL at hl
 revert hl
 refine afv (P:=fun l=>l.length≤4294967290→L.loop [0] [0] jK 0 [bG l] []=some (.exit 0,[bG (gY l)],[])) ?_ ?_ l
 ·intro hl
  refine aJ (Jz ..) ?_
  simp [vF,gY]
 ·intro l x ih hl
  have hl':l.length≤4294967289:=by simp at hl; omega
  refine aJ (Jz ..) ?_
  have e1:(0:Int)<(l.length:Int)+1:=by omega
  have e2:(l.map aH++[aH x])[l.length]?=some (aH x):=by
   rw [List.getElem?_append_right (by simp)]; simp
  have e3:(l.map aH++[aH x]).take l.length=l.map aH:=List.take_left' (by simp)
  by_cases hx:x=0
  ·have ht:gY (l++[x])=gY l:=by subst hx; exact LP l
   simp (disch:=omega) [vF,e1,e2,e3,wrap64,ht,ih (by omega),eq_true hx]
  ·simp (disch:=omega) [vF,e1,e2,e3,wrap64,XZ _ hx,hx]
theorem Lr (l:List Nat) (hs:dL l) (hl:l.length≤maxL):L.call kR [bG l]=some (n9 (bV l)):=by
 refine aN Zf rfl (Y4 ..) ?_
 simp [OT,aoc l hl,aod hs]
theorem ajV:∀ (f x:Nat) (acc:List Nat),x<T9^f→x<18446744073709551616→acc≠[]→acc.length+f≤1000 →
  L.loop [0,3] [3] gU 0 [aH x,.bf 0 0 acc.length 1] [.live (acc.map aH)]=some (.exit 0,[.bf 0 0 (acc++aS x).length 1],[.live ((acc++aS x).map aH)])
 | 0,x,acc,h,_,hne,_=>by
   have hx:x=0:=by simp at h; exact h
   subst hx
   rw [uM,List.append_nil]
   refine aJ (kM ..) ?_
   simp [jq]
 | f+1,x,acc,h,hx64,hne,hl=>by
   by_cases hx:x=0
   ·subst hx
    rw [uM,List.append_nil]
    refine aJ (kM ..) ?_
    simp [jq]
   ·obtain ⟨q,hq⟩:∃ q,q=x / T9:=⟨_,rfl⟩
    obtain ⟨r,hr⟩:∃ r,r=x % T9:=⟨_,rfl⟩
    have hd:q<T9^f:=by rw [hq,Nat.div_lt_iff_lt_mul uI]; rw [Nat.pow_succ] at h; exact h
    have hle:q≤x:=by rw [hq]; exact Nat.div_le_self _ _
    have ih:=ajV f q (acc++[r]) hd (by omega) (by simp) (by simp; omega)
    have hst:=ZJ hx
    rw [← hq,← hr] at hst
    rw [List.append_assoc,List.singleton_append,← hst] at ih
    have hpos:(0:Int)<(x:Int):=by omega
    have hpos':0<x:=by omega
    have e1:Int.tmod (x:Int) 1000000000=(r:Int):=by rw [hr]; exact yK x 1000000000
    have e2:Int.tdiv (x:Int) 1000000000=(q:Int):=by rw [hq]; exact Dq x 1000000000
    have e3:IntKind.u64.wrap (q:Int)=(q:Int):=by
     clear e1 e2 hq hr
     exact eX _ (by omega)
    have hlen:acc.length+1≤4294967296:=by omega
    have htk:(acc.map aH).take acc.length=acc.map aH:=qj _ _ (Nat.le_refl _)
    rw [Rt,List.length_append,List.length_singleton] at ih
    simp only [aH] at ih ⊢
    clear hst hq hr
    generalize acc++aS x=res at *
    generalize (x:Int)=xz at *
    refine aJ (kM ..) ?_
    simp [jq,hpos,hpos',e1,e2,e3,iM,hlen,htk,ih]
theorem BJ {x:Nat} (h:x<18446744073709551616):L.call f_ [.int .u64 x]=some (n9 x):=by
 by_cases h0:x=0
 ·subst h0
  have := alL (x:=0) (by omega)
  rw [← arD (by omega)] at this
  exact this
 ·obtain ⟨q,hq⟩:∃ q,q=x / T9:=⟨_,rfl⟩
  obtain ⟨r,hr⟩:∃ r,r=x % T9:=⟨_,rfl⟩
  have hx3:x<T9^3:=Nat.lt_of_lt_of_le h (by decide)
  have hd:q<T9^2:=by rw [hq,Nat.div_lt_iff_lt_mul uI]; exact hx3
  have hle:q≤x:=by rw [hq]; exact Nat.div_le_self _ _
  have ih:=ajV 2 q [r] hd (by omega) (by simp) (by simp)
  have hst:=ZJ h0
  rw [← hq,← hr] at hst
  rw [List.singleton_append,← hst] at ih
  have hpos:(0:Int)<(x:Int):=by omega
  have hpos':0<x:=by omega
  have e1:Int.tmod (x:Int) 1000000000=(r:Int):=by rw [hr]; exact yK x 1000000000
  have e2:Int.tdiv (x:Int) 1000000000=(q:Int):=by rw [hq]; exact Dq x 1000000000
  have e3:IntKind.u64.wrap (q:Int)=(q:Int):=by
   clear e1 e2 hq hr
   exact eX _ (by omega)
  simp only [List.map_cons,List.map_nil,List.length_singleton,aH] at ih
  clear hst hq hr
  have hl:L.loop [0,3] [3] gU 0 [.int .u64 x,.bH] []=some (.exit 0,[.bf 0 0 (aS x).length 1],[.live ((aS x).map aH)]):=by
   generalize aS x=res at *
   generalize (x:Int)=xz at *
   refine aJ (kM ..) ?_
   simp [jq,hpos,hpos',e1,e2,e3,iM,ih]
  have htk:=qj (aS x) (aS x).length (Nat.le_refl _)
  refine aN GX rfl (GR ..) ?_
  simp [Bj,hl,htk]
theorem afX {la lb:List Nat} (sa:dL la) (sb:dL lb) (hlen:la.length=lb.length) (hL:la.length≤maxL) :
  ∀ k:Nat,k≤la.length→L.loop [0,1,5] [4] mW 0 [bG la,bG lb,.int .i64 ((k:Int)-1)] []=some (GY (bV (la.take k)) (bV (lb.take k)) [])
 | 0,_=>by
   refine aJ (J6 ..) ?_
   simp [rG,GY]
 | k+1,hk=>by
   unfold maxL at hL
   obtain ⟨u,hu⟩:∃ u,la[k]?=some u:=⟨la[k],List.getElem?_eq_getElem hk⟩
   obtain ⟨v,hv⟩:∃ v,lb[k]?=some v:=⟨lb[k],List.getElem?_eq_getElem (by omega)⟩
   obtain ⟨p,p1,p2⟩:=(xU.sl [] la).read .i64 (i:=(k:Int)) (by omega) (by simpa using hu)
   obtain ⟨q,q1,q2⟩:=(xU.sl [] lb).read .i64 (i:=(k:Int)) (by omega) (by simpa using hv)
   have ih:=afX sa sb hlen (by unfold maxL; omega) k (by omega)
   have e0:((k+1:Nat):Int)-1=k:=by omega
   have e1:(0:Int)≤k:=by omega
   have e2:IntKind.i64.wrap ((k:Int)-1)=(k:Int)-1:=wrap64 _ (by omega)
   have a1:=FI hu
   have b1:=FI hv
   have a2:=SK sa (k:=k)
   have b2:=SK sb (k:=k)
   rw [e0]
   refine aJ (J6 ..) ?_
   rcases Nat.lt_trichotomy u v with h | h | h
   ·have : bV (la.take (k+1))<bV (lb.take (k+1)):=by rw [a1,b1]; exact adS a2 h
    have hI:(u:Int)<v:=by omega
    simp only [rG]
    simp [p1,p2,q1,q2,h,hI,e1,GY,this]
   ·subst h
    have h1:GY (bV (la.take (k+1))) (bV (lb.take (k+1))) []=GY (bV (la.take k)) (bV (lb.take k)) []:=by
     unfold GY
     rw [a1,b1]
     simp
    simp only [rG]
    simp [p1,p2,q1,q2,e1,e2,ih,h1]
   ·have h1:bV (lb.take (k+1))<bV (la.take (k+1)):=by rw [a1,b1]; exact adS b2 h
    have h2:¬ u<v:=by omega
    have h2I:¬ (u:Int)<v:=by omega
    have hI:(v:Int)<u:=by omega
    have h3:¬ bV (la.take (k+1))<bV (lb.take (k+1)):=by omega
    have h4:¬ bV (la.take (k+1))=bV (lb.take (k+1)):=by omega
    simp only [rG]
    simp [p1,p2,q1,q2,h,hI,h2,h2I,e1,GY,h3,h4]
theorem alK {a b:Nat} (ha:xR a) (hb:xR b):L.call oO [n9 a,n9 b]=some (.int .i64 (sW a b)):=by
 unfold xR at ha hb
 show L.call oO [bG (aS a),bG (aS b)]=_
 have ca:=nX a
 have cb:=nX b
 have va:=oL a
 have vb:=oL b
 generalize aS a=la at *
 generalize aS b=lb at *
 rw [← va,← vb]
 refine aN aa8 rfl (aa3 ..) ?_
 by_cases hl:la.length=lb.length
 ·have hloop:=afX ca.1 cb.1 hl (by unfold maxL; omega) la.length (Nat.le_refl _)
  have e2:IntKind.i64.wrap ((lb.length:Int)-1)=(lb.length:Int)-1:=wrap64 _ (by omega)
  rw [List.take_of_length_le (Nat.le_refl _),List.take_of_length_le (by omega)] at hloop
  unfold GY at hloop
  unfold sW
  have e3:(la.length:Int)=lb.length:=by omega
  simp only [bG,hl] at hloop
  by_cases h1:bV la<bV lb
  ·rw [if_pos h1] at hloop
   simp [rQ,hl,e2,hloop,h1]
  ·by_cases h2:bV la=bV lb
   ·rw [if_neg h1,if_pos h2] at hloop
    simp [rQ,hl,e2,hloop,h1,h2]
   ·rw [if_neg h1,if_neg h2] at hloop
    simp [rQ,hl,e2,hloop,h1,h2]
 ·have hl':¬ (la.length:Int)=lb.length:=by omega
  unfold sW
  rcases Nat.lt_or_ge la.length lb.length with h | h
  ·have hI:(la.length:Int)<lb.length:=by omega
   rw [if_pos (Zo ca.1 cb h)]
   simp [rQ,hl,hl',h,hI]
  ·have hv:=Zo cb.1 ca (by omega)
   have hI:¬ (la.length:Int)<lb.length:=by omega
   have hN:¬ la.length<lb.length:=by omega
   rw [if_neg (by omega),if_neg (by omega)]
   simp [rQ,hl,hl',hN,hI]
theorem aoS {l:List Nat} (h:dL l) (hv:l=[]∨T9^(l.length-1)≤bV l):aS (bV l)=l:=by
 refine ajD ⟨h,fun hne=>?_⟩
 intro h0
 rcases hv with hv | hv
 ·exact hne hv
 ·have e:=List.dropLast_concat_getLast hne
  have hs:dL l.dropLast:=fun x hx=>h x (List.dropLast_subset l hx)
  have h1:=afy hs
  have h2:bV l=bV l.dropLast:=by
   conv=>lhs; rw [← e]
   rw [D_,h0]
   simp
  rw [List.length_dropLast] at h1
  omega
end Go.Ev.Code
end
section
namespace Go.Ev.Code
open Go Go.Ev
theorem Uy {l:List Nat} {i:Nat} (h:¬ i<l.length):l.getD i 0=0:=by simp [List.getD,List.getElem?_eq_none_iff.2 (by omega:l.length≤i)]
theorem afN {la lb r:List Nat} {i:Nat} (h1:la.length≤i) (h2:lb.length≤i) :
  L.loop [0,1,5,6,7] [5] gQ 0 [bG la,bG lb,.bf 0 0 i 1,aH 0,.int .i64 i] [.live (r.map aH)]=some (.exit 0,[.bf 0 0 i 1],[.live (r.map aH)]):=by
 have i1:¬ (i:Int)<la.length:=by omega
 have i2:¬ (i:Int)<lb.length:=by omega
 have i3:¬ i<la.length:=by omega
 have i4:¬ i<lb.length:=by omega
 refine aJ (gG ..) ?_
 simp [fJ,i1,i2,i3,i4]
theorem afM {la lb r:List Nat} {i c:Nat} {R:Ex×List D×Mem} (sa:dL la) (sb:dL lb) (hi:i<la.length∨i<lb.length∨c=1) (hc:c≤1) (hr:r.length=i) (hn:i≤2000000000)
  (h:L.loop [0,1,5,6,7] [5] gQ 0 [bG la,bG lb,.bf 0 0 (i+1) 1,aH ((c+la.getD i 0+lb.getD i 0) / T9),.int .i64 ((i+1:Nat):Int)] [.live ((r++[(c+la.getD i 0+lb.getD i 0) % T9]).map aH)]=some R)
  (x:D) (m:Mem) (hx:x = .bf 0 0 i 1∧m=[.live (r.map aH)]∨x = .bH∧m=[]∧r=[]) :
  L.loop [0,1,5,6,7] [5] gQ 0 [bG la,bG lb,x,aH c,.int .i64 i] m=some R:=by
 have bx:=NT sa i
 have by':=NT sb i
 have e1:IntKind.i64.wrap ((i:Int)+1)=((i+1:Nat):Int):=by rw [wrap64 _ (by omega)]; omega
 have gx:∀ h:i<la.length,la[i]=la.getD i 0:=fun h=>by simp [List.getD,h]
 have gy:∀ h:i<lb.length,lb[i]=lb.getD i 0:=fun h=>by simp [List.getD,h]
 have zx:¬ i<la.length→la.getD i 0=0:=Uy
 have zy:¬ i<lb.length→lb.getD i 0=0:=Uy
 generalize la.getD i 0=u at *
 generalize lb.getD i 0=v at *
 have hu:u<1000000000:=bx
 have hv:v<1000000000:=by'
 have e2:IntKind.u64.wrap ((c:Int)+u)=((c+u:Nat):Int):=by rw [eX _ (by omega)]; omega
 have e3:IntKind.u64.wrap (((c+u:Nat):Int)+v)=((c+u+v:Nat):Int):=by rw [eX _ (by omega)]; omega
 have e3':IntKind.u64.wrap ((c:Int)+u+v)=((c+u+v:Nat):Int):=by rw [eX _ (by omega)]; omega
 have e4:IntKind.u64.wrap ((c:Int)+v)=((c+v:Nat):Int):=by rw [eX _ (by omega)]; omega
 obtain ⟨S,hS⟩:∃ S,S=c+u+v:=⟨_,rfl⟩
 obtain ⟨Q,hQ⟩:∃ Q,Q=S / T9:=⟨_,rfl⟩
 obtain ⟨M,hM⟩:∃ M,M=S % T9:=⟨_,rfl⟩
 have hQle:Q≤S:=by rw [hQ]; exact Nat.div_le_self _ _
 rw [← hS] at h e3 e3'
 rw [← hQ,← hM] at h
 have e5:Int.tmod (S:Int) 1000000000=(M:Int):=by rw [hM]; exact yK _ 1000000000
 have e6:Int.tdiv (S:Int) 1000000000=(Q:Int):=by rw [hQ]; exact Dq _ 1000000000
 have e7:IntKind.u64.wrap (Q:Int)=(Q:Int):=by
  clear e5 e6 hQ hM e1 e2 e3 e3' e4
  exact eX _ (by omega)
 have hlen:i+1≤4294967296:=by omega
 have htk:=qj r i (by omega)
 rw [Rt] at h
 simp only [aH] at h ⊢
 obtain ⟨i1,hi1⟩:∃ i1,i1=i+1:=⟨_,rfl⟩
 rw [← hi1] at h e1 hlen
 by_cases la1:i<la.length
 ·have laI:(i:Int)<la.length:=by omega
  have g1:=gx la1
  by_cases lb1:i<lb.length
  ·have lbI:(i:Int)<lb.length:=by omega
   have g2:=gy lb1
   rcases hx with ⟨rfl,rfl⟩ | ⟨rfl,rfl,rfl⟩
   ·refine aJ (gG ..) ?_
    simp [fJ,la1,laI,lb1,lbI,g1,g2,e1,e2,e3,e3',e5,e6,e7,iM,hlen,htk,← hi1,h,hr]
   ·have hi0:i=0:=by simpa using hr.symm
    subst hi0
    obtain rfl:i1=1:=hi1
    simp at h
    refine aJ (gG ..) ?_
    simp [fJ,la1,laI,lb1,lbI,g1,g2,e1,e2,e3,e3',e5,e6,e7,iM,hlen,h,wrap64]
  ·have lbI:¬ (i:Int)<lb.length:=by omega
   have v0:=zy lb1
   subst v0
   have hS0:S=c+u:=by omega
   rw [← hS0] at e2
   rcases hx with ⟨rfl,rfl⟩ | ⟨rfl,rfl,rfl⟩
   ·refine aJ (gG ..) ?_
    simp [fJ,la1,laI,lb1,lbI,g1,e1,e2,e5,e6,e7,iM,hlen,htk,← hi1,h,hr]
   ·have hi0:i=0:=by simpa using hr.symm
    subst hi0
    obtain rfl:i1=1:=hi1
    simp at h
    refine aJ (gG ..) ?_
    simp [fJ,la1,laI,lb1,lbI,g1,e1,e2,e5,e6,e7,iM,hlen,h,wrap64]
 ·have laI:¬ (i:Int)<la.length:=by omega
  have u0:=zx la1
  subst u0
  by_cases lb1:i<lb.length
  ·have lbI:(i:Int)<lb.length:=by omega
   have g2:=gy lb1
   have hS0:S=c+v:=by omega
   rw [← hS0] at e4
   rcases hx with ⟨rfl,rfl⟩ | ⟨rfl,rfl,rfl⟩
   ·refine aJ (gG ..) ?_
    simp [fJ,la1,laI,lb1,lbI,g2,e1,e4,e5,e6,e7,iM,hlen,htk,← hi1,h,hr]
   ·have hi0:i=0:=by simpa using hr.symm
    subst hi0
    obtain rfl:i1=1:=hi1
    simp at h
    refine aJ (gG ..) ?_
    simp [fJ,la1,laI,lb1,lbI,g2,e1,e4,e5,e6,e7,iM,hlen,h,wrap64]
  ·have lbI:¬ (i:Int)<lb.length:=by omega
   have v0:=zy lb1
   subst v0
   have hc1:c=1:=by omega
   have hS0:S=1:=by omega
   subst hc1
   have hQ0:Q=0:=by rw [hQ,hS0]; decide
   have hM0:M=1:=by rw [hM,hS0]; decide
   clear e2 e3 e3' e4 e5 e6 e7 hQ hM hQle
   subst hQ0
   subst hM0
   have e5:Int.tmod 1 1000000000=1:=by decide
   have e6:Int.tdiv 1 1000000000=0:=by decide
   have e7:IntKind.u64.wrap 0=0:=by decide
   rcases hx with ⟨rfl,rfl⟩ | ⟨rfl,rfl,rfl⟩
   ·refine aJ (gG ..) ?_
    simp at h
    simp [fJ,la1,laI,lb1,lbI,e1,e5,e6,e7,iM,hlen,htk,← hi1,h,hr]
   ·have hi0:i=0:=by simpa using hr.symm
    subst hi0
    obtain rfl:i1=1:=hi1
    simp at h
    refine aJ (gG ..) ?_
    simp [fJ,la1,laI,lb1,lbI,e1,e5,e6,e7,iM,hlen,h,wrap64]
theorem afL {la lb:List Nat} (sa:dL la) (sb:dL lb) (hL:la.length≤1000000000) (hL2:lb.length≤1000000000):∀ (k i:Nat) (r:List Nat) (c:Nat),i+k=max la.length lb.length→r.length=i→dL r→c≤1→bV r+T9^i*c=bV (la.take i)+bV (lb.take i)→(1≤i∨1≤k) →
  ∃ r',dL r'∧bV r'=bV la+bV lb∧(r'.length=max la.length lb.length∨r'.length=max la.length lb.length+1∧T9^max la.length lb.length≤bV r') ∧
    ∀ (x:D) (m:Mem),(x = .bf 0 0 i 1∧m=[.live (r.map aH)]∨x = .bH∧m=[]∧r=[]) →
    L.loop [0,1,5,6,7] [5] gQ 0 [bG la,bG lb,x,aH c,.int .i64 i] m=some (.exit 0,[.bf 0 0 r'.length 1],[.live (r'.map aH)])
 | 0,i,r,c,hk,hr,sr,hc,hv,h1=>by
   have hi:i=max la.length lb.length:=by omega
   rw [List.take_of_length_le (by omega),List.take_of_length_le (by omega)] at hv
   rcases Nat.eq_zero_or_pos c with h0 | h0
   ·subst h0
    refine ⟨r,sr,by simpa using hv,.inl (by omega),fun x m hx=>?_⟩
    rcases hx with ⟨rfl,rfl⟩ | ⟨rfl,rfl,rfl⟩
    ·rw [hr]
     exact afN (by omega) (by omega)
    ·simp at hr; omega
   ·have hc1:c=1:=by omega
    subst hc1
    have z1:la.getD i 0=0:=Uy (by omega)
    have z2:lb.getD i 0=0:=Uy (by omega)
    have hs:=afN (la:=la) (lb:=lb) (r:=r++[1]) (i:=i+1) (by omega) (by omega)
    refine ⟨r++[1],sr.snoc (by decide),by rw [U6,hr]; exact hv,.inr ⟨by simp; omega,?_⟩,fun x m hx=>?_⟩
    ·rw [U6,hr,hi,Nat.mul_one]
     exact Nat.le_add_left _ _
    ·refine afM (r:=r) (i:=i) (c:=1) sa sb (.inr (.inr rfl)) (by omega) hr (by omega) ?_ x m hx
     rw [z1,z2]
     rw [show (1+0+0) / T9=0 by decide,show (1+0+0) % T9=1 by decide,List.length_append,hr,List.length_singleton]
     exact hs
 | k+1,i,r,c,hk,hr,sr,hc,hv,h1=>by
   have hi:i<la.length∨i<lb.length:=by omega
   have bx:=NT sa i
   have by':=NT sb i
   have hu:la.getD i 0<1000000000:=bx
   have hvv:lb.getD i 0<1000000000:=by'
   have ta:=WV la i
   have tb:=WV lb i
   have hdm:=Nat.mod_add_div (c+la.getD i 0+lb.getD i 0) T9
   have hml:=Nat.mod_lt (c+la.getD i 0+lb.getD i 0) uI
   have hq:(c+la.getD i 0+lb.getD i 0) / T9≤1:=by
    have : (c+la.getD i 0+lb.getD i 0) / T9<2:=by
     rw [Nat.div_lt_iff_lt_mul uI]
     show _<2*1000000000
     omega
    omega
   obtain ⟨r',g1,g2,g3,g4⟩:=afL sa sb hL hL2 k (i+1) (r++[(c+la.getD i 0+lb.getD i 0) % T9]) ((c+la.getD i 0+lb.getD i 0) / T9) (by omega) (by simp [hr]) (sr.snoc hml) hq (by
    rw [U6,hr,ta,tb,Nat.pow_succ,Nat.mul_assoc]
    generalize la.getD i 0=x at *
    generalize lb.getD i 0=y at *
    have : T9^i*((c+x+y) % T9)+T9^i*(T9*((c+x+y) / T9))=T9^i*x+T9^i*y+T9^i*c:=by
     rw [← Nat.mul_add,hdm,Nat.mul_add,Nat.mul_add]
     omega
    omega) (.inl (by omega))
   refine ⟨r',g1,g2,g3,fun x m hx=>?_⟩
   refine afM (r:=r) (i:=i) (c:=c) sa sb (by omega) hc hr (by omega) ?_ x m hx
   exact g4 _ _ (.inl ⟨rfl,rfl⟩)
theorem abP {a b:Nat} (ha:xR a) (hb:xR b):L.call j_ [n9 a,n9 b]=some (n9 (a+b)):=by
 unfold xR at ha hb
 have ca:=nX a
 have cb:=nX b
 by_cases h0:max (aS a).length (aS b).length=0
 ·have ea:aS a=[]:=List.eq_nil_of_length_eq_zero (by omega)
  have eb:aS b=[]:=List.eq_nil_of_length_eq_zero (by omega)
  have va:a=0:=by rw [← oL a,ea]; rfl
  have vb:b=0:=by rw [← oL b,eb]; rfl
  subst va
  subst vb
  show L.call j_ [bG (aS 0),bG (aS 0)]=some (bG (aS 0))
  rw [uM]
  have hl:L.loop [0,1,5,6,7] [5] gQ 0 [bG [],bG [],.bH,.int .u64 0,.int .i64 0] []=some (.exit 0,[.bH],[]):=by
   refine aJ (gG ..) ?_
   simp [fJ]
  simp at hl
  refine aN PD rfl (Py ..) ?_
  simp [He,hl]
 ·obtain ⟨r',g1,g2,g3,g4⟩:=afL ca.1 cb.1 ha hb (max (aS a).length (aS b).length) 0 [] 0 (by omega) rfl (fun x hx=>by simp at hx) (by omega) (by simp) (.inr (by omega))
  have hl:=g4 .bH [] (.inr ⟨rfl,rfl,rfl⟩)
  have hv:bV r'=a+b:=by rw [g2,oL,oL]
  have hcan:aS (a+b)=r':=by
   rw [← hv]
   refine aoS g1 (.inr ?_)
   rcases g3 with g3 | ⟨g3,g5⟩
   ·rw [g3,g2]
    rcases Nat.le_total (aS b).length (aS a).length with h | h
    ·rw [Nat.max_eq_left h]
     exact Nat.le_trans (T_ ca (by intro e; rw [e] at h0 h; simp at h; rw [h] at h0; simp at h0)) (Nat.le_add_right _ _)
    ·rw [Nat.max_eq_right h]
     exact Nat.le_trans (T_ cb (by intro e; rw [e] at h0 h; simp at h; rw [h] at h0; simp at h0)) (Nat.le_add_left _ _)
   ·rw [g3,Nat.add_sub_cancel]
    exact g5
  show L.call j_ [bG (aS a),bG (aS b)]=some (bG (aS (a+b)))
  rw [hcan]
  simp only [aH] at hl
  have htk:=qj r' r'.length (Nat.le_refl _)
  generalize aS a=la at *
  generalize aS b=lb at *
  simp at hl
  refine aN PD rfl (Py ..) ?_
  simp [He,hl,htk]
end Go.Ev.Code
end
section
namespace Go.Ev.Code
open Go Go.Ev
theorem aml {la lb:List Nat} {i x N:Nat} (sb:dL lb) (hx:x<T9) (hxl:la[i]?=some x) (hN:i+lb.length<N) (hN2:N≤2000000000) :
  ∀ (j k:Nat) (o:List Nat) (c:Nat),k+j=lb.length→o.length=N→dL o→c<T9→o[i+lb.length]?=some 0 →
  ∃ o',o'.length=N∧dL o'∧bV o'+T9^i*(x*bV (lb.take k))=bV o+T9^(i+k)*c+T9^i*(x*bV lb)∧(∀ n,i+lb.length<n→o'[n]?=o[n]?) ∧
    L.loop [0,1,5,6,7,8] [0,1,5,6] kF 1 [bG la,bG lb,.bf 0 0 N 1,.int .i64 i,aH c,.int .i64 k] [.live (o.map aH)] =
      some (.exit 2,[bG la,bG lb,.bf 0 0 N 1,.int .i64 i],[.live (o'.map aH)])
 | 0,k,o,c,hk,hr,sr,hc,hz=>by
   have hkb:k=lb.length:=by omega
   subst hkb
   have hstop:∀ (n:Nat) (q:List Nat),lb.length≤n→L.loop [0,1,5,6,7,8] [0,1,5,6] kF 1 [bG la,bG lb,.bf 0 0 N 1,.int .i64 i,aH 0,.int .i64 n] [.live (q.map aH)] =
     some (.exit 2,[bG la,bG lb,.bf 0 0 N 1,.int .i64 i],[.live (q.map aH)]):=by
    intro n q hn
    have h1:¬ (n:Int)<lb.length:=by omega
    have h2:¬ n<lb.length:=by omega
    refine aJ (BZ ..) ?_
    simp [wW,h1,h2]
   rcases Nat.eq_zero_or_pos c with h0 | h0
   ·subst h0
    exact ⟨o,hr,sr,by rw [List.take_of_length_le (Nat.le_refl _)]; simp,fun _ _=>rfl,hstop _ _ (Nat.le_refl _)⟩
   ·have hset:=Nk c hz
    have hcT:c<1000000000:=hc
    have hs:=hstop (lb.length+1) (o.set (i+lb.length) c) (by omega)
    refine ⟨o.set (i+lb.length) c,by simp [hr],sr.set hc _,by rw [List.take_of_length_le (Nat.le_refl _)]; simp at hset; omega,fun n hn=>List.getElem?_set_ne (by omega),?_⟩
    have e1:IntKind.i64.wrap ((lb.length:Int)+1)=((lb.length+1:Nat):Int):=by rw [wrap64 _ (by omega)]; omega
    have e2:IntKind.i64.wrap ((i:Int)+lb.length)=((i+lb.length:Nat):Int):=by rw [wrap64 _ (by omega)]; omega
    have e3:IntKind.u64.wrap (c:Int)=(c:Int):=eX _ (by omega)
    have e4:Int.tmod (c:Int) 1000000000=(c:Int):=by rw [Int.tmod_eq_emod_of_nonneg (by omega)]; omega
    have e5:Int.tdiv (c:Int) 1000000000=0:=by rw [Int.tdiv_eq_ediv_of_nonneg (by omega)]; omega
    have e6:IntKind.u64.wrap 0=0:=by decide
    have hcp:(0:Int)<(c:Int):=by omega
    have hl:(i:Int)+lb.length<N:=by omega
    have hz1:∀ p:i+lb.length<o.length,o[i+lb.length]=0:=fun p=>by simpa using (List.getElem?_eq_some_iff.1 hz).2
    have q1:((i:Int)+(lb.length:Int)).toNat=i+lb.length:=by omega
    simp [-List.map_set] at hs
    refine aJ (BZ ..) ?_
    simp (disch:=omega) [-List.map_set,oC,wW,e1,e2,e3,e4,e5,e6,h0,hcp,hl,hr,hz1,q1,hs]
 | j+1,k,o,c,hk,hr,sr,hc,hz=>by
   have hkl:k<lb.length:=by omega
   obtain ⟨y,hy0⟩:∃ y,lb[k]?=some y:=⟨lb[k],List.getElem?_eq_getElem hkl⟩
   obtain ⟨z,hz0⟩:∃ z,o[i+k]?=some z:=⟨o[i+k],List.getElem?_eq_getElem (by omega)⟩
   have hy:=sb.get hy0
   have hzz:=sr.get hz0
   have hyT:y<1000000000:=hy
   have hzT:z<1000000000:=hzz
   have hxT:x<1000000000:=hx
   have hcT:c<1000000000:=hc
   have hil:i<la.length:=(List.getElem?_eq_some_iff.1 hxl).1
   have hx1:la[i]=x:=by simpa using (List.getElem?_eq_some_iff.1 hxl).2
   have hy1:lb[k]=y:=by simpa using (List.getElem?_eq_some_iff.1 hy0).2
   have hio:i+k<o.length:=by omega
   have hz1:o[i+k]=z:=by simpa using (List.getElem?_eq_some_iff.1 hz0).2
   have tb:=FI hy0
   have hxy:x*y≤999999999*999999999:=Nat.mul_le_mul (by omega) (by omega)
   obtain ⟨p,hp⟩:∃ p,p=x*y:=⟨_,rfl⟩
   rw [← hp] at hxy
   obtain ⟨s,hs⟩:∃ s,s=z+c+p:=⟨_,rfl⟩
   obtain ⟨Q,hQ⟩:∃ Q,Q=s / T9:=⟨_,rfl⟩
   obtain ⟨M,hM⟩:∃ M,M=s % T9:=⟨_,rfl⟩
   have hdm:=Nat.mod_add_div s T9
   have hml:=Nat.mod_lt s uI
   have hq:s / T9<T9:=by
    rw [Nat.div_lt_iff_lt_mul uI]
    show s<1000000000*1000000000
    omega
   have e6:Int.tmod (s:Int) 1000000000=(M:Int):=by rw [hM]; exact yK _ 1000000000
   have e7:Int.tdiv (s:Int) 1000000000=(Q:Int):=by rw [hQ]; exact Dq _ 1000000000
   rw [← hM,← hQ] at hdm
   rw [← hM] at hml
   rw [← hQ] at hq
   have e8:IntKind.u64.wrap (Q:Int)=(Q:Int):=by
    have hq2:Q<1000000000:=hq
    clear e6 e7 hdm hQ hM
    exact eX _ (by omega)
   clear hQ hM
   have e1:IntKind.i64.wrap ((k:Int)+1)=((k+1:Nat):Int):=by rw [wrap64 _ (by omega)]; omega
   have e2:IntKind.i64.wrap ((i:Int)+k)=((i+k:Nat):Int):=by rw [wrap64 _ (by omega)]; omega
   have e3:IntKind.u64.wrap ((z:Int)+c)=((z+c:Nat):Int):=by rw [eX _ (by omega)]; omega
   have hpI:(x:Int)*y=(p:Int):=by rw [hp]; simp
   have e4:IntKind.u64.wrap ((x:Int)*y)=(p:Int):=by
    rw [hpI]
    exact eX _ (by omega)
   have e5:IntKind.u64.wrap (((z+c:Nat):Int)+p)=(s:Int):=by rw [eX _ (by omega)]; omega
   have e5':IntKind.u64.wrap ((z:Int)+c+p)=(s:Int):=by rw [eX _ (by omega)]; omega
   have hset:=Nk M hz0
   obtain ⟨o',g1,g2,g4,g5,g6⟩:=aml (la:=la) sb hx hxl hN hN2 j (k+1) (o.set (i+k) M) Q (by omega) (by simp [hr]) (sr.set hml _) hq (by rw [List.getElem?_set_ne (by omega)]; exact hz)
   refine ⟨o',g1,g2,?_,fun n hn=>by rw [g5 n hn,List.getElem?_set_ne (by omega)],aJ (BZ ..) ?_⟩
   ·rw [tb] at g4
    have p1:T9^(i+(k+1))*Q=T9^(i+k)*(T9*Q):=by rw [← Nat.add_assoc,Nat.pow_succ,Nat.mul_assoc]
    have p2:T9^(i+k)*M+T9^(i+k)*(T9*Q)=T9^(i+k)*p+T9^(i+k)*z+T9^(i+k)*c:=by
     rw [← Nat.mul_add,hdm,hs,Nat.mul_add,Nat.mul_add]
     omega
    have p3:T9^i*(x*(bV (lb.take k)+T9^k*y))=T9^i*(x*bV (lb.take k))+T9^(i+k)*p:=by
     rw [Nat.mul_add,Nat.mul_add,Nat.pow_add,Nat.mul_left_comm x,Nat.mul_assoc,hp]
    rw [p3] at g4
    rw [p1] at g4
    omega
   ·have hli:(i:Int)+k<N:=by omega
    have hkl':(k:Int)<lb.length:=by omega
    have hil':(i:Int)<la.length:=by omega
    have hz2:∀ p:i+k<o.length,o[i+k]=z:=fun _=>hz1
    simp [-List.map_set] at g6
    have q1:((i:Int)+(k:Int)).toNat=i+k:=by omega
    simp (disch:=omega) [-List.map_set,oC,wW,hkl,hkl',hil,hil',hx1,hy1,e1,e2,e3,e4,e5,e5',e6,e7,e8,hr,hz2,hli,g6,q1]
theorem ajM {la lb:List Nat} {N:Nat} (sa:dL la) (sb:dL lb) (hN:la.length+lb.length=N) (hN2:N≤2000000000) :
  ∀ (j i:Nat) (o:List Nat),i+j=la.length→o.length=N→dL o→bV o=bV (la.take i)*bV lb→(∀ n,i+lb.length≤n→n<N→o[n]?=some 0) →
  ∃ o',o'.length=N∧dL o'∧bV o'=bV la*bV lb ∧
    L.loop [0,1,5,6] [5] mZ 1 [bG la,bG lb,.bf 0 0 N 1,.int .i64 i] [.live (o.map aH)]=some (.exit 0,[.bf 0 0 N 1],[.live (o'.map aH)])
 | 0,i,o,hi,hr,sr,hv,hz=>by
   have : i=la.length:=by omega
   subst this
   refine ⟨o,hr,sr,by rw [hv,List.take_of_length_le (Nat.le_refl _)],aJ (J7 ..) ?_⟩
   simp [Di]
 | j+1,i,o,hi,hr,sr,hv,hz=>by
   have hil:i<la.length:=by omega
   obtain ⟨x,hx0⟩:∃ x,la[i]?=some x:=⟨la[i],List.getElem?_eq_getElem hil⟩
   have hx:=sa.get hx0
   have ta:=FI hx0
   obtain ⟨o1,g1,g2,g4,g5,g6⟩:=aml (la:=la) (i:=i) (x:=x) (N:=N) sb hx hx0 (by omega) hN2 lb.length 0 o 0 (by omega) hr sr uI (hz _ (Nat.le_refl _) (by omega))
   obtain ⟨o',p1,p2,p3,p4⟩:=ajM sa sb hN hN2 j (i+1) o1 (by omega) g1 g2 (by
    rw [ta,Nat.add_mul,← hv,Nat.mul_assoc]
    simp at g4
    omega) (fun n hn hn2=>by rw [g5 n (by omega)]; exact hz n (by omega) hn2)
   refine ⟨o',p1,p2,p3,aJ (J7 ..) ?_⟩
   have e1:IntKind.i64.wrap ((i:Int)+1)=((i+1:Nat):Int):=by rw [wrap64 _ (by omega)]; omega
   have hil':(i:Int)<la.length:=by omega
   simp [-List.map_set] at g6 p4
   simp (disch:=omega) [-List.map_set,oC,Di,hil,hil',g6,e1,p4]
theorem HY {a b:Nat} (ha:xR a) (hb:xR b):L.call iK [n9 a,n9 b]=some (n9 (a*b)):=by
 unfold xR at ha hb
 show L.call iK [bG (aS a),bG (aS b)]=some (bG (aS (a*b)))
 have ca:=nX a
 have cb:=nX b
 have va:=oL a
 have vb:=oL b
 by_cases hea:aS a=[]
 ·have : a=0:=by rw [← va,hea]; rfl
  rw [this,Nat.zero_mul,uM]
  generalize aS b=lb at *
  refine aN GV rfl (GN ..) ?_
  simp [Bh]
 by_cases heb:aS b=[]
 ·have : b=0:=by rw [← vb,heb]; rfl
  rw [this,Nat.mul_zero,uM]
  generalize aS a=la at *
  have hl:¬ (la.length:Int)=0:=by have := List.length_pos_iff.2 hea; omega
  refine aN GV rfl (GN ..) ?_
  simp [Bh,hl,hea]
 generalize aS a=la at *
 generalize aS b=lb at *
 have l1:=List.length_pos_iff.2 hea
 have l2:=List.length_pos_iff.2 heb
 obtain ⟨o,h1,h2,h3,h4⟩:=ajM ca.1 cb.1 rfl (by omega) la.length 0 (List.replicate (la.length+lb.length) 0) (by omega) (by simp) (akm _) (by simp [aog])
  (fun j h1 h2=>by simp [h2])
 rw [va,vb] at h3
 have hm:=Lr o h2 (by unfold maxL; omega)
 rw [h3] at hm
 have e1:IntKind.i64.wrap ((la.length:Int)+lb.length)=((la.length+lb.length:Nat):Int):=by rw [wrap64 _ (by omega)]; omega
 have q1:(((la.length:Int)+lb.length)).toNat=la.length+lb.length:=by omega
 have n1:¬ (la.length:Int)=0:=by omega
 have n2:¬ (lb.length:Int)=0:=by omega
 simp only [n9,bG] at hm ⊢
 generalize (aS (a*b)).length=NR at *
 generalize (aS (a*b)).map aH=lR at *
 refine aN GV rfl (GN ..) ?_
 simp [h1] at h4 hm
 simp (disch:=omega) [-List.map_set,oC,qj,Bh,iM,n1,n2,hea,heb,e1,q1,h4,hm,h1]
theorem agv {a k:Nat} {K:Nat} (hb:∀ i,i≤k→NB K (a^i)) (ha:NB K a) (hK:K≤10000000) (hk:k≤1000000):∀ (j i:Nat),i+j=k →
  L.loop [0,1,5,6] [5] ni 0 [n9 a,.int .i64 k,n9 (a^i),.int .i64 i] []=some (.exit 0,[n9 (a^k)],[])
 | 0,i,h=>by
   have : i=k:=by omega
   subst this
   refine aJ (J8 ..) ?_
   simp [Dj]
 | j+1,i,h=>by
   have ih:=agv hb ha hK hk j (i+1) (by omega)
   have hm:=HY ((hb i (by omega)).uJ (by omega)) (ha.uJ (by omega))
   rw [Nat.pow_succ] at ih
   have hik:(i:Int)<k:=by omega
   have hikn:i<k:=by omega
   have e1:IntKind.i64.wrap ((i:Int)+1)=((i+1:Nat):Int):=by rw [wrap64 _ (by omega)]; omega
   generalize a^i*a=p at *
   generalize a^i=q at *
   generalize a^k=r at *
   refine aJ (J8 ..) ?_
   simp at ih hm
   simp [Dj,hik,hikn,hm,e1,ih]
theorem alM {a k:Nat} {K:Nat} (hb:∀ i,i≤k→NB K (a^i)) (ha:NB K a) (hK:K≤10000000) (hk:k≤1000000):L.call oP [n9 a,.int .i64 k]=some (n9 (a^k)):=by
 have h:=agv hb ha hK hk k 0 (by omega)
 have h1:=BJ (x:=1) (by omega)
 rw [Nat.pow_zero] at h
 generalize a^k=r at *
 simp at h h1
 refine aN aa9 rfl (aa4 ..) ?_
 simp [PI,h1,h]
end Go.Ev.Code
end
section
namespace Go.Ev.Code
open Go Go.Ev
theorem awg {l:List Nat} (h:∀ (m x:Nat),l[m]?=some x→x=0):bV l=0:=by
 induction l with
 | nil=>rfl
 | cons x xs ih =>
   have h0:=h 0 x rfl
   have := ih (fun m y hy=>h (m+1) y (by simpa using hy))
   rw [xJ,h0,this]
   simp
theorem apf (o:List Nat):∀ (n k:Nat),k+n=o.length→(∃ j z,(∀ m,m<j→o[k+m]?=some 0)∧o[k+j]?=some z∧z≠0)∨(∀ (m x:Nat),(o.drop k)[m]?=some x→x=0)
 | 0,k,h => .inr fun m x hx=>by
   rw [List.getElem?_drop,List.getElem?_eq_none_iff.2 (by omega)] at hx
   simp at hx
 | n+1,k,h=>by
   obtain ⟨z,hz⟩:∃ z,o[k]?=some z:=⟨o[k],List.getElem?_eq_getElem (by omega)⟩
   by_cases h0:z=0
   ·subst h0
    rcases apf o n (k+1) (by omega) with ⟨j,y,h1,h2,h3⟩ | h1
    ·refine .inl ⟨j+1,y,fun m hm=>?_,by rw [show k+(j+1)=k+1+j by omega]; exact h2,h3⟩
     cases m with
     | zero=>exact hz
     | succ m=>rw [show k+(m+1)=k+1+m by omega]; exact h1 m (by omega)
    ·refine .inr fun m x hx=>?_
     rw [List.getElem?_drop] at hx
     cases m with
     | zero=>rw [Nat.add_zero,hz] at hx; exact (Option.some.inj hx).symm
     | succ m =>
       refine h1 m x ?_
       rw [List.getElem?_drop,show k+1+m=k+(m+1) by omega]
       exact hx
   ·exact .inl ⟨0,z,fun m hm=>by omega,hz,h0⟩
theorem afU {lb:List Nat} {N:Nat} {i:Int} (hN2:N≤2000000000):∀ (j k:Nat) (o:List Nat) (z:Nat),o.length=N→dL o→(∀ m,m<j→o[k+m]?=some 0)→o[k+j]?=some z→z≠0 →
  ∃ o',o'.length=N∧dL o'∧o'[k+j]?=some z∧bV o'+T9^k=bV o+T9^(k+j) ∧
    L.loop [1,5,6,7] [1,5,6,7] nC 1 [bG lb,.bf 0 0 N 1,.int .i64 i,.int .i64 k] [.live (o.map aH)]=some (.exit 2,[bG lb,.bf 0 0 N 1,.int .i64 i,.int .i64 ((k+j:Nat):Int)],[.live (o'.map aH)])
 | 0,k,o,z,hr,sr,h0,hz,hne=>by
   refine ⟨o,hr,sr,hz,rfl,?_⟩
   have hk:k<o.length:=(List.getElem?_eq_some_iff.1 hz).1
   have hkI:(k:Int)<N:=by omega
   have hz1:∀ p:k<o.length,o[k]=z:=fun p=>by simpa using (List.getElem?_eq_some_iff.1 hz).2
   refine aJ (J9 ..) ?_
   simp (disch:=omega) [oC,Dk,hr,hkI,hz1,hne]
 | j+1,k,o,z,hr,sr,h0,hz,hne=>by
   have hz0:=h0 0 (by omega)
   rw [Nat.add_zero] at hz0
   have hk:k<o.length:=(List.getElem?_eq_some_iff.1 hz0).1
   have hkI:(k:Int)<N:=by omega
   have hz1:∀ p:k<o.length,o[k]=0:=fun p=>by simpa using (List.getElem?_eq_some_iff.1 hz0).2
   have hset:=Nk 999999999 hz0
   obtain ⟨o',g1,g2,g3,g4,g5⟩:=afU (lb:=lb) (i:=i) hN2 j (k+1) (o.set k 999999999) z (by simp [hr]) (sr.set (by decide) _) (fun m hm=>by
    rw [List.getElem?_set_ne (by omega),show k+1+m=k+(m+1) by omega]; exact h0 (m+1) (by omega)) (by rw [List.getElem?_set_ne (by omega),show k+1+j=k+(j+1) by omega]; exact hz) hne
   rw [show k+1+j=k+(j+1) by omega] at g3 g4 g5
   refine ⟨o',g1,g2,g3,?_,aJ (J9 ..) ?_⟩
   ·have e:T9^(k+1)=T9^k*999999999+T9^k:=by rw [Nat.pow_succ,← Nat.mul_succ]; rfl
    simp at hset
    omega
   ·have e1:IntKind.i64.wrap ((k:Int)+1)=((k+1:Nat):Int):=by rw [wrap64 _ (by omega)]; omega
    have hset2:(o.map aH).set k (.int .u64 999999999)=(o.set k 999999999).map aH:=WT o k 999999999
    simp [-List.map_set] at g5
    simp (disch:=omega) [-List.map_set,oC,Dk,hr,hkI,hz1,e1,hset2,g5]
theorem aat {lb:List Nat} {N A:Nat} (sb:dL lb) (hN2:N≤2000000000) (hlb:lb.length≤N) (hA:bV lb≤A):∀ (j i:Nat) (o:List Nat),i+j=lb.length→o.length=N→dL o→bV o+bV (lb.take i)=A →
  ∃ o',o'.length=N∧dL o'∧bV o'+bV lb=A ∧
    L.loop [1,5,6] [5] kG 1 [bG lb,.bf 0 0 N 1,.int .i64 i] [.live (o.map aH)]=some (.exit 0,[.bf 0 0 N 1],[.live (o'.map aH)])
 | 0,i,o,hi,hr,sr,hv=>by
   have : i=lb.length:=by omega
   subst this
   rw [List.take_of_length_le (Nat.le_refl _)] at hv
   refine ⟨o,hr,sr,hv,aJ (wI ..) ?_⟩
   simp [rH]
 | j+1,i,o,hi,hr,sr,hv=>by
   have hil:i<lb.length:=by omega
   have hio:i<o.length:=by omega
   obtain ⟨y,hy0⟩:∃ y,lb[i]?=some y:=⟨lb[i],List.getElem?_eq_getElem hil⟩
   obtain ⟨x,hx0⟩:∃ x,o[i]?=some x:=⟨o[i],List.getElem?_eq_getElem hio⟩
   have hyT:y<1000000000:=sb.get hy0
   have hxT:x<1000000000:=sr.get hx0
   have hy1:lb[i]=y:=by simpa using (List.getElem?_eq_some_iff.1 hy0).2
   have hx1:∀ p:i<o.length,o[i]=x:=fun p=>by simpa using (List.getElem?_eq_some_iff.1 hx0).2
   have tb:=FI hy0
   have hilI:(i:Int)<lb.length:=by omega
   have hiN:(i:Int)<N:=by omega
   have e1:IntKind.i64.wrap ((i:Int)+1)=((i+1:Nat):Int):=by rw [wrap64 _ (by omega)]; omega
   by_cases hge:y≤x
   ·have hset:=Nk (x-y) hx0
    have hmul:T9^i*(x-y)+T9^i*y=T9^i*x:=by rw [← Nat.mul_add]; congr 1; omega
    obtain ⟨o',g1,g2,g3,g4⟩:=aat sb hN2 hlb hA j (i+1) (o.set i (x-y)) (by omega) (by simp [hr]) (sr.set (by show x-y<1000000000; omega) _) (by rw [tb]; omega)
    refine ⟨o',g1,g2,g3,aJ (wI ..) ?_⟩
    have hgeI:(y:Int)≤x:=by omega
    have e2:IntKind.u64.wrap ((x:Int)-y)=((x-y:Nat):Int):=by rw [eX _ (by omega)]; omega
    have hset2:=WT o i (x-y)
    simp [-List.map_set] at g4
    simp (disch:=omega) [-List.map_set,oC,rH,hil,hilI,hr,hiN,hx1,hy1,hge,hgeI,e1,e2,hset2,g4]
   ·have hlt:x+1≤y:=by omega
    obtain ⟨x1,hx1e⟩:∃ x1,x1=x+(1000000000-y):=⟨_,rfl⟩
    have hx1T:x1<T9:=by show x1<1000000000; omega
    have hset:=Nk x1 hx0
    have hmul:T9^i*x1+T9^i*y=T9^i*x+T9^(i+1):=by
     rw [Nat.pow_succ,← Nat.mul_add,← Nat.mul_add]
     congr 1
     show x1+y=x+1000000000
     omega
    have hex:∃ j z,(∀ m,m<j→o[i+1+m]?=some 0)∧o[i+1+j]?=some z∧z≠0:=by
     rcases apf o (N-(i+1)) (i+1) (by omega) with h | h
     ·exact h
     ·exfalso
      have h1:=awg h
      have h2:bV o=bV (o.take (i+1)):=by
       conv=>lhs; rw [← List.take_append_drop (i+1) o]
       rw [D_,h1]; simp
      have h3:=FI hx0
      have h4:=SK sr (k:=i)
      have h5:T9^i*(x+1)≤T9^i*y:=Nat.mul_le_mul_left _ hlt
      rw [Nat.mul_add] at h5
      have h6:bV (lb.take (i+1))≤bV lb:=by
       conv=>rhs; rw [← List.take_append_drop (i+1) lb]
       rw [D_]
       exact Nat.le_add_right _ _
      omega
    obtain ⟨q,z,z1,z2,z3⟩:=hex
    obtain ⟨o1,b1,b2,b3,b4,b5⟩:=afU (lb:=lb) (i:=(i:Int)) hN2 q (i+1) (o.set i x1) z (by simp [hr]) (sr.set hx1T _) (fun m hm=>by rw [List.getElem?_set_ne (by omega)]; exact z1 m hm) (by rw [List.getElem?_set_ne (by omega)]; exact z2) z3
    have hsz:=Nk (z-1) b3
    have hzT:z<T9:=b2.get b3
    have hzm:T9^(i+1+q)*(z-1)+T9^(i+1+q)=T9^(i+1+q)*z:=by rw [← Nat.mul_succ]; congr 1; omega
    obtain ⟨o',g1,g2,g3,g4⟩:=aat sb hN2 hlb hA j (i+1) (o1.set (i+1+q) (z-1)) (by omega) (by simp [b1]) (b2.set (by omega) _) (by rw [tb]; omega)
    refine ⟨o',g1,g2,g3,aJ (wI ..) ?_⟩
    have hgeI:¬ (y:Int)≤x:=by omega
    have hgn:¬ y≤x:=by omega
    have e2:IntKind.u64.wrap (1000000000-(y:Int))=((1000000000-y:Nat):Int):=by rw [eX _ (by omega)]; omega
    have e3:IntKind.u64.wrap ((x:Int)+((1000000000-y:Nat):Int))=(x1:Int):=by rw [eX _ (by omega)]; omega
    have hzl:z<1000000000:=hzT
    have e4:IntKind.u64.wrap ((z:Int)-1)=((z-1:Nat):Int):=by rw [eX _ (by omega)]; omega
    have hk:i+1+q<o1.length:=(List.getElem?_eq_some_iff.1 b3).1
    have hz1:∀ p:i+1+q<o1.length,o1[i+1+q]=z:=fun p=>by simpa using (List.getElem?_eq_some_iff.1 b3).2
    obtain ⟨k,hkq⟩:∃ k,k=i+1+q:=⟨_,rfl⟩
    rw [← hkq] at b5 g4 hk hz1 b3
    have hkI:(k:Int)<N:=by omega
    have hkN:k<N:=by omega
    have hset2:=WT o i x1
    have hset3:=WT o1 k (z-1)
    obtain ⟨i1,hi1⟩:∃ i1,i1=i+1:=⟨_,rfl⟩
    rw [← hi1] at b5 e1 g4
    simp [-List.map_set] at g4 b5
    simp (disch:=omega) [-List.map_set,oC,rH,hil,hilI,hr,hiN,hx1,hy1,hgn,hgeI,e1,e2,e3,e4,hset2,hset3,b5,b1,hkI,hkN,hz1,g4]
theorem abQ {a b:Nat} (ha:xR a) (hb:xR b) (hle:b≤a):L.call lW [n9 a,n9 b]=some (n9 (a-b)):=by
 unfold xR at ha hb
 show L.call lW [bG (aS a),bG (aS b)]=some (bG (aS (a-b)))
 have ca:=nX a
 have cb:=nX b
 have va:=oL a
 have vb:=oL b
 by_cases hea:aS a=[]
 ·have h0:a=0:=by rw [← va,hea]; rfl
  have h1:b=0:=by omega
  rw [h0,h1,Nat.sub_self,uM]
  have hl:L.loop [1,5,6] [5] kG 1 [bG [],.bH,.int .i64 0] [.free]=some (.exit 0,[.bH],[.free]):=by
   refine aJ (wI ..) ?_
   simp [rH]
  have hm:=Lr [] (fun x hx=>by simp at hx) (by simp [maxL])
  rw [show bV []=0 from rfl] at hm
  simp only [n9,uM] at hm
  simp at hl hm
  refine aN PE rfl (Pz ..) ?_
  simp [Hf,hl,hm]
 generalize aS a=la at *
 generalize aS b=lb at *
 have l1:=List.length_pos_iff.2 hea
 have hlen:lb.length≤la.length:=by
  rcases Nat.lt_or_ge la.length lb.length with h | h
  ·have := Zo ca.1 cb h
   omega
  ·exact h
 obtain ⟨o,g1,g2,g3,g4⟩:=aat cb.1 (N:=la.length) (A:=a) (by omega) hlen (by omega) lb.length 0 la (by omega) rfl ca.1 (by simp [va])
 have hv:bV o=a-b:=by omega
 have hm:=Lr o g2 (by unfold maxL; omega)
 rw [hv] at hm
 have hn:¬ (la.length:Int)=0:=by omega
 have hmax:la.length≤4294967296:=by omega
 have htk:=qj la la.length (Nat.le_refl _)
 have htk2:=qj o la.length (by omega)
 simp only [n9,bG] at hm ⊢
 generalize (aS (a-b)).length=NR at *
 generalize (aS (a-b)).map aH=lR at *
 refine aN PE rfl (Pz ..) ?_
 simp [g1] at g4 hm
 simp (disch:=omega) [-List.map_set,oC,qj,Hf,hn,hea,hmax,htk,htk2,g4,hm,g1]
end Go.Ev.Code
end
