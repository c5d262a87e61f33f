/- A part of the proof of flowAll_card. -/
import Derived.Test.YtfkdcfbleblgoaaGreatDoorCXZ40
import Derived.Test.YtfkdcfbleblgoaaGreatDoorCXZ100
set_option linter.unusedVariables false
set_option linter.unusedSimpArgs false
section
namespace Go.Ev.Code
open Go Go.Ev
theorem aBn {m:Mem} (a:Int):eX .and [.int .i64 a,.int .i64 1023] m=some (.int .i64 (a % 1024),m):=by
 have h:(BitVec.ofInt 64 a &&& BitVec.ofInt 64 1023).toNat=(a % 1024).toNat:=by
  rw [BitVec.toNat_and]
  have e:(BitVec.ofInt 64 1023).toNat=2^10-1:=by decide
  rw [e,Nat.and_two_pow_sub_one_eq_mod,BitVec.toNat_ofInt]
  have h1:0≤a % ((2^64:Nat):Int):=Int.emod_nonneg _ (by decide)
  have h2:a % ((2^64:Nat):Int) % 1024=a % 1024:=Int.emod_emod_of_dvd a (by decide)
  have h3:0≤a % 1024:=Int.emod_nonneg _ (by decide)
  omega
 have h3:0≤a % 1024:=Int.emod_nonneg _ (by decide)
 have h4:a % 1024<1024:=Int.emod_lt_of_pos _ (by decide)
 have hw:IntKind.i64.wrap (((a % 1024).toNat:Nat):Int)=a % 1024:=by rw [wrap64 _ (by omega)]; omega
 show (bif IntKind.i64==IntKind.i64 then (Ev.mF .and .i64 a 1023).bind fun d=>some (d,m) else none)=_
 simp only [beq_self_eq_true,cond_true,Ev.mF]
 rw [show IntKind.i64.bits=64 from rfl,h,hw]
 rfl
end Go.Ev.Code
end
section
namespace Go.Ev.Code
open Go Go.Ev
theorem aqQ {α:Type} {f:α→Bool}:∀ (k:Nat) (l:List α),(∀ j x,j<k→l[j]?=some x→f x=true)→(∃ x,l[k]?=some x∧f x=false)→l.dropWhile f=l.drop k
 | 0,[],_,h=>by obtain ⟨x,hx,_⟩:=h; simp at hx
 | 0,y::ys,_,h=>by
   obtain ⟨x,hx,hf⟩:=h
   simp at hx
   subst hx
   simp [List.dropWhile,hf]
 | k+1,[],_,h=>by obtain ⟨x,hx,_⟩:=h; simp at hx
 | k+1,y::ys,h1,h2=>by
   have hy:=h1 0 y (by omega) rfl
   simp only [List.dropWhile,hy,List.drop_succ_cons]
   exact aqQ k ys (fun j x hj hx=>h1 (j+1) x (by omega) (by simpa using hx)) (by
    obtain ⟨x,hx,hf⟩:=h2
    exact ⟨x,by simpa using hx,hf⟩)
theorem axP {b:aA} {s:Int} (h:(leftB b s).1=none):∃ k:Nat,Sz (aF b).2 s=k∧(aF b).2[k]?=some (aV b s)∧k<(aF b).2.length∧((aW b).2.dropWhile fun p=>decide (p.1≤s))=(aW b).2.drop k ∧
  (aW b).2.length=(aF b).2.length∧∃ a,(aW b).2[k]?=some ((aV b s).2,a):=by
 obtain ⟨f0,h0,h3,h4⟩:=dX h
 obtain ⟨k,k1,k2,k3,k4⟩:=x9 h0 h3 h4
 obtain ⟨_,p,r,q,hps,hq,hfl⟩:=gY f0
 have hget:∀ {i:Nat} {x:Int×Int},(aF b).2[i]?=some x→∃ a,(aW b).2[i]?=some (x.2,a):=by
  intro i x hx
  rw [hps] at hx
  rw [hfl]
  exact ag7 _ _ _ hx
 have hlen:(aW b).2.length=(aF b).2.length:=by rw [hfl,hps,Vk]
 have hkl:k<(aF b).2.length:=(List.getElem?_eq_some_iff.1 k2).1
 refine ⟨k,k1,k2,hkl,?_,hlen,hget k2⟩
 refine aqQ k _ (fun j x hj hx=>?_) ?_
 ·have hg:=List.getElem?_eq_getElem (l:=(aF b).2) (i:=j) (by omega)
  obtain ⟨a,ha⟩:=hget hg
  rw [hx] at ha
  have := NP h0 (k-j-1) j hg (by rw [show j+(k-j-1)+1=k by omega]; exact k2)
  rw [Option.some.inj ha]
  simp only [decide_eq_true_eq]
  omega
 ·obtain ⟨a,ha⟩:=hget k2
  exact ⟨_,ha,by simp only [decide_eq_false_iff_not]; omega⟩
end Go.Ev.Code
end
section
namespace Go.Ev.Code
open Go Go.Ev
theorem Gq.get {k:Nat}:∀ {ws:List (Int×Int×Nat)} {fs:List (Int×Rat)} {i:Nat} {w:Int×Int×Nat},Gq k ws fs→ws[i]?=some w→∃ f,fs[i]?=some f∧w.1=f.1∧Wo k w.2.1 w.2.2 f.2
 | [],_,i,w,_,h=>by simp at h
 | _::_,[],_,_,h,_=>h.elim
 | x::ws,f::fs,0,w,h,hi=>by simp at hi; subst hi; exact ⟨f,rfl,h.1,h.2.1⟩
 | x::ws,f::fs,i+1,w,h,hi=>by
   obtain ⟨g,h1,h2⟩:=Gq.get (i:=i) h.2.2 (by simpa using hi)
   exact ⟨g,by simpa using h1,h2⟩
theorem Gq.filter {k:Nat} (s:Int):∀ {ws:List (Int×Int×Nat)} {fs:List (Int×Rat)},Gq k ws fs→Gq k (ws.filter fun w=>decide (s<w.1)) (fs.filter fun f=>decide (s<f.1))
 | [],[],_=>trivial
 | _::_,[],h=>h.elim
 | [],_::_,h=>h.elim
 | w::ws,f::fs,h=>by
   have ih:=Gq.filter s h.2.2
   rw [List.filter_cons,List.filter_cons,h.1]
   split
   ·exact ⟨h.1,h.2.1,ih⟩
   ·exact ih
theorem aeu:∀ {ws:List (Int×Int×Nat)} {i:Nat} {w:Int×Int×Nat},ws[i]?=some w→(bK ws)[i*4]?=some (.int .i64 w.1)∧i*4+4≤(bK ws).length∧((bK ws).drop (i*4)).take 4 = .int .i64 w.1::qC w.2.1 w.2.2
 | [],i,w,h=>by simp at h
 | (d,n,m)::ws,0,w,h=>by
   simp at h; subst h
   simp only [bK]
   refine ⟨rfl,by simp [sG],?_⟩
   simp only [Nat.zero_mul,List.drop_zero,List.take_succ_cons]
   rw [List.take_append_of_le_length (by rw [sG]; omega),aip]
 | (d,n,m)::ws,i+1,w,h=>by
   obtain ⟨h1,h2,h3⟩:=aeu (ws:=ws) (i:=i) (w:=w) (by simpa using h)
   have h4:(qC n m).drop (i*4+3)=[]:=List.drop_of_length_le (by rw [sG]; omega)
   simp only [bK]
   refine ⟨?_,by simp [sG]; omega,?_⟩
   ·rw [show (i+1)*4=i*4+3+1 by omega,List.getElem?_cons_succ,List.getElem?_append_right (by rw [sG]; omega),sG,show i*4+3-3=i*4 by omega]
    exact h1
   ·rw [show (i+1)*4=i*4+3+1 by omega,List.drop_succ_cons,List.drop_append,sG,h4,List.nil_append,show i*4+3-3=i*4 by omega]
    exact h3
theorem ab6 {b:aA} {ws:List (Int×Int×Nat)} {B:List D} (hB:∀ k j,B.all (D.clo k (j+1))=true) {s:Int} {x:D} (hx:∃ n c,x = .sl n c) (hlen:ws.length≤100000):∀ (rest pre acc:List (Int×Int×Nat)) (rD:D) (rM:Mem),ws=pre++rest→acc.length≤pre.length→rD=J3 (acc++rest.filter fun w=>decide (s<w.1))→rM=J4 (acc++rest.filter fun w=>decide (s<w.1)) →
  L.loop [1,2,3,7,8,10,33,34] [1,3,7,8,10] ql 1 [.int .i64 s,.sl ws.length (bK ws),.loc 0 0,x,.bQ,J3 acc,.int .i64 ws.length,.int .i64 pre.length] ([.live B]++J4 acc) =
    some (.exit 0,[.int .i64 s,.loc 0 0,x,.bQ,rD],[.live B]++rM)
 | [],pre,acc,rD,rM,h,_,hD,hM=>by
   rw [List.filter_nil,List.append_nil] at hD hM
   subst hD hM
   obtain ⟨xn,xc,rfl⟩:=hx
   rw [List.append_nil] at h
   subst h
   have hf1:=ET acc
   unfold J3 J4
   generalize bK acc=fc at *
   generalize bK ws=wc at *
   generalize ws.length=N at *
   by_cases h0:acc=[]
   ·rw [if_pos h0,if_pos h0]
    refine au (kG ..) ?_
    simp [jo,hB]
   ·rw [if_neg h0,if_neg h0]
    refine au (kG ..) ?_
    simp [jo,hB,hf1]
 | w::rest,pre,acc,rD,rM,h,ha,hD,hM=>by
   have hx':=hx
   obtain ⟨xn,xc,rfl⟩:=hx'
   have hget:ws[pre.length]?=some w:=by rw [h]; simp
   obtain ⟨q1,q2,q3⟩:=aeu hget
   have hl:ws.length=pre.length+rest.length+1:=by rw [h]; simp; omega
   have hlt:pre.length<ws.length:=by omega
   have hltI:(pre.length:Int)<ws.length:=by omega
   have e1:IntKind.i64.wrap ((pre.length:Int)+1)=((pre.length+1:Nat):Int):=by rw [wrap64 _ (by omega)]; omega
   have hf:=ET acc
   have hfl:=Y9 acc
   have htkf:(bK acc).take (acc.length*4)=bK acc:=List.take_of_length_le (by omega)
   have hA:acc.length+1≤4294967296:=by omega
   obtain ⟨c0,c1,c2,hc,c3,c4,c5,_⟩:=bg w.2.1 w.2.2
   rw [hc] at q3
   by_cases hs:s<w.1
   ·rw [List.filter_cons,decide_eq_true hs,if_pos rfl] at hD hM
    have ih:=ab6 (b:=b) hB (s:=s) (x := .sl xn xc) ⟨_,_,rfl⟩ hlen rest (pre++[w]) (acc++[w]) rD rM (by rw [h]; simp) (by simp; omega) (by rw [hD,List.append_assoc]; rfl) (by rw [hM,List.append_assoc]; rfl)
    rw [List.length_append,List.length_singleton] at ih
    clear hD hM
    have hne:¬ acc++[w]=[]:=by simp
    have hone:bK [w]=[.int .i64 w.1,c0,c1,c2]:=by obtain ⟨a,b,c⟩:=w; simp only [bK,List.append_nil]; rw [hc]
    unfold J3 J4 at ih
    rw [if_neg hne,if_neg hne,aq5,hone,List.length_append,List.length_singleton] at ih
    unfold J3 J4
    clear hl h
    by_cases h0:acc=[]
    ·have hfc0:bK acc=[]:=by rw [h0]; rfl
     have hz:acc.length=0:=by rw [h0]; rfl
     rw [hfc0,hz] at ih
     rw [if_pos h0,if_pos h0]
     generalize bK ws=wc at *
     generalize ws.length=N at *
     generalize pre.length=P at *
     refine au (kG ..) ?_
     simp at ih
     simp [jo,hlt,hltI,q1,q2,q3,hs,e1,hB,c3,c4,c5,aS,Gp,ih]
    ·rw [if_neg h0,if_neg h0]
     generalize bK acc=fc at *
     generalize acc.length=A at *
     generalize bK ws=wc at *
     generalize ws.length=N at *
     generalize pre.length=P at *
     refine au (kG ..) ?_
     simp at ih
     simp [jo,hlt,hltI,q1,q2,q3,hs,e1,hB,hf,hfl,htkf,hA,c3,c4,c5,aS,Gp,iM,ih]
   ·rw [List.filter_cons,decide_eq_false hs,if_neg (by simp)] at hD hM
    have ih:=ab6 (b:=b) hB (s:=s) (x := .sl xn xc) ⟨_,_,rfl⟩ hlen rest (pre++[w]) acc rD rM (by rw [h]; simp) (by simp; omega) hD hM
    rw [List.length_append,List.length_singleton] at ih
    clear hD hM
    unfold J3 J4 at ih ⊢
    clear hl h
    by_cases h0:acc=[]
    ·rw [if_pos h0,if_pos h0] at ih ⊢
     generalize bK ws=wc at *
     generalize ws.length=N at *
     generalize pre.length=P at *
     refine au (kG ..) ?_
     simp at ih
     simp [jo,hlt,hltI,q1,q2,q3,hs,e1,hB,ih]
    ·rw [if_neg h0,if_neg h0] at ih ⊢
     generalize bK acc=fc at *
     generalize acc.length=A at *
     generalize bK ws=wc at *
     generalize ws.length=N at *
     generalize pre.length=P at *
     refine au (kG ..) ?_
     simp at ih
     simp [jo,hlt,hltI,q1,q2,q3,hs,e1,hB,hf,ih]
end Go.Ev.Code
end
section
namespace Go.Ev.Code
open Go Go.Ev
theorem aki {k:Nat} {want:List (Int×Int×Nat)} {fs:List (Int×Rat)} (hW:Gq k want fs) (hk:k≤1000000) (hlen:want.length≤100000) {P C B:List D} (hC:C=P++bK want) (hP:P.length≤100000) (hB:∀ k j,B.all (D.clo k (j+1))=true) (hPc:∀ k j,P.all (D.clo k (j+1))=true):∀ (rest pre:List (Int×Int×Nat)),want=pre++rest →
  L.loop [7,10,80,81] [6] qo 2 [.sl fs.length (dA fs),.aO 1 P.length want.length 4,.int .i64 fs.length,.int .i64 pre.length] [.live B,.live C]=some (.exit 2,[.undef],[.live B,.live C]):=by
 have hWl:=hW.len
 have hCc:∀ k j,C.all (D.clo k (j+1))=true:=fun k j=>by rw [hC,List.all_append,hPc,ET]; rfl
 intro rest
 induction rest with
 | nil =>
   intro pre h
   rw [List.append_nil] at h
   subst h
   rw [← hWl]
   generalize dA fs=fc at *
   generalize want.length=N at *
   generalize P.length=p at *
   clear hC
   refine au (Nv ..) ?_
   simp [Cb,hB,hCc]
 | cons w rest ih =>
   intro pre h
   have hget:want[pre.length]?=some w:=by rw [h]; simp
   obtain ⟨f,hf,hd,hwo⟩:=hW.get hget
   obtain ⟨q1,q2,q3⟩:=aeu hget
   obtain ⟨_,q4⟩:=Y8 hget
   obtain ⟨f1,f2,f3⟩:=TM hf
   have hl:want.length=pre.length+rest.length+1:=by rw [h]; simp; omega
   have hlt:pre.length<want.length:=by omega
   have hltI:(pre.length:Int)<want.length:=by omega
   have e1:IntKind.i64.wrap ((pre.length:Int)+1)=((pre.length+1:Nat):Int):=by rw [wrap64 _ (by omega)]; omega
   have ih:=ih (pre++[w]) (by rw [h]; simp)
   rw [List.length_append,List.length_singleton] at ih
   have htx:=yO hwo hk
   have g1:C[P.length+pre.length*4]?=some (.int .i64 f.1):=by rw [hC,List.getElem?_append_right (by omega),show P.length+pre.length*4-P.length=pre.length*4 by omega,q1,hd]
   have g2:P.length+pre.length*4+1+3≤C.length:=by rw [hC,List.length_append]; omega
   have g3:(C.drop (P.length+pre.length*4+1)).take 3=qC w.2.1 w.2.2:=by
    rw [hC,List.drop_append,List.drop_of_length_le (by omega),List.nil_append,show P.length+pre.length*4+1-P.length=pre.length*4+1 by omega,q4]
   obtain ⟨c0,c1,c2,hc,c3,c4,c5,_⟩:=bg w.2.1 w.2.2
   rw [hc] at g3
   unfold cO at htx
   rw [hc] at htx
   rw [← hWl] at ih ⊢
   generalize pI f.2=tx at *
   generalize f.1=dy at *
   generalize dA fs=fc at *
   generalize want.length=N at *
   clear hC hPc h hl q1 q2 q3 q4 hwo hW
   generalize P.length=p at *
   generalize pre.length=i at *
   refine au (Nv ..) ?_
   simp at ih
   simp [Cb,hlt,hltI,f1,f2,f3,g1,g2,g3,htx,e1,hB,hCc,c3,c4,c5,ih]
end Go.Ev.Code
end
section
namespace Go.Ev.Code
open Go Go.Ev
theorem ag5 {s:Int}:∀ (k:Nat) (l:List (Int×Rat)),(∀ j x,j<k→l[j]?=some x→x.1≤s)→(∀ j x,k≤j→l[j]?=some x→s<x.1)→(l.filter fun f=>decide (s<f.1))=l.drop k
 | 0,[],_,_=>rfl
 | 0,y::ys,h1,h2=>by
   have hy:=h2 0 y (by omega) rfl
   have ih:=ag5 (s:=s) 0 ys (fun j x hj=>by omega) (fun j x hj hx=>h2 (j+1) x (by omega) (by simpa using hx))
   rw [List.filter_cons,decide_eq_true hy,if_pos rfl,ih]
   rfl
 | k+1,[],_,_=>rfl
 | k+1,y::ys,h1,h2=>by
   have hy:=h1 0 y (by omega) rfl
   have ih:=ag5 (s:=s) k ys (fun j x hj hx=>h1 (j+1) x (by omega) (by simpa using hx)) (fun j x hj hx=>h2 (j+1) x (by omega) (by simpa using hx))
   rw [List.filter_cons,decide_eq_false (by omega),if_neg (by simp),ih]
   rfl
theorem atO {b:aA} {s:Int} (h:(leftB b s).1=none):∃ k:Nat,((aW b).2.dropWhile fun p=>decide (p.1≤s))=(aW b).2.drop k∧((aW b).2.filter fun f=>decide (s<f.1))=(aW b).2.drop k∧∃ a,(aW b).2[k]?=some ((aV b s).2,a):=by
 obtain ⟨k,k1,k2,k3,k4,k5,a,k6⟩:=axP h
 obtain ⟨f0,h0,h3,h4⟩:=dX h
 obtain ⟨d1,d2,d3,d4,d5,_⟩:=qh h
 refine ⟨k,k4,ag5 k _ (fun j x hj hx=>?_) (fun j x hj hx=>?_),a,k6⟩
 ·have hg:=List.getElem?_eq_getElem (l:=(aF b).2) (i:=j) (by omega)
  have ha:=aaT f0 hg
  rw [hx] at ha
  have := NP h0 (k-j-1) j hg (by rw [show j+(k-j-1)+1=k by omega]; exact k2)
  rw [Option.some.inj ha]
  simp only
  omega
 ·have hjl:j<(aF b).2.length:=by rw [← k5]; exact (List.getElem?_eq_some_iff.1 hx).1
  have hg:=List.getElem?_eq_getElem (l:=(aF b).2) (i:=j) hjl
  have ha:=aaT f0 hg
  rw [hx] at ha
  rw [Option.some.inj ha]
  simp only
  rcases Nat.lt_or_eq_of_le hj with hlt | rfl
  ·have h5:=NP h0 (j-k-1) k k2 (by rw [show k+(j-k-1)+1=j by omega]; exact hg)
   have h6:=gU h0 (List.mem_of_getElem? hg)
   omega
  ·rw [hg] at k2
   rw [Option.some.inj k2]
   omega
set_option maxHeartbeats 2000000 in
theorem apA {b:aA} (hf0:(aW b).1=none) (hc:b.aY.length≤1000) (hr:b.bJ.length≤1000) {ws:List (Int×Int×Nat)} (hW:Gq 840 ws (aW b).2) (s:Int) :
  L.call CP [aC b,.int .i64 s,.sl ws.length (bK ws)]=some (.bool true):=by
 have hfl:=Y_ (b:=b) (by omega) (by omega) s
 have hbad:=JH hc hr s
 have hp0:=(gY hf0).1
 have hw200:=(dP hp0).2.len
 have hwl:ws.length≤200:=by rw [hW.len,O8 hf0]; exact hw200
 have hBc:=fun k j=>iZ b k j
 have hbl:=kK b
 unfold EU at hfl
 cases hl:(leftB b s).1 with
 | some e =>
   have hne:=Jw hl
   have hnil:(leftB b s).2=[]:=by
    unfold leftB at hl ⊢
    rw [hf0] at hl ⊢
    simp only at hl ⊢
    split at hl
    ·rename_i h; rw [if_pos h]
    ·simp at hl
   rw [hl,hnil] at hfl
   rw [hl] at hbad
   have hsm:=uy (some e) (gW (some e))
   rw [decide_eq_true rfl] at hsm
   have hecl:=fun n=>ac6 (some e) n
   simp only [NC,dA,List.length_nil] at hfl
   obtain ⟨ec,et⟩:=e
   simp only [gW] at hbad hsm hne
   unfold aC at *
   generalize ay b=B at *
   have htk:B.take 9=B:=List.take_of_length_le (by omega)
   generalize bK ws=wc at *
   generalize ws.length=N at *
   rcases et with _ | t
   ·simp only [fD] at *
    refine aj (rY ..) ?_
    simp [nJ,hfl,hbad,hne,hsm,hBc,hbl,htk]
   ·simp only [fD,eY] at *
    refine aj (rY ..) ?_
    simp [nJ,hfl,hbad,hne,hsm,hBc,hbl,htk]
 | none =>
   rw [hl] at hfl hbad
   simp only [gW,fD] at hfl hbad
   obtain ⟨k,e1,e2,a,hk⟩:=atO hl
   have hex:=U1 hl
   obtain ⟨_,_,h1,h2⟩:=dX hl
   have hWf:=hW.filter s
   rw [e2] at hWf
   obtain ⟨fr,hfr⟩:∃ fr,(aW b).2.drop k=((aV b s).2,a)::fr:=by
    obtain ⟨hlt,hg⟩:=List.getElem?_eq_some_iff.1 hk
    exact ⟨_,by rw [List.drop_eq_getElem_cons hlt,hg]⟩
   rw [hfr] at hWf
   have hL2:(leftB b s).2=XR b s (((aV b s).2,a)::fr):=by
    unfold leftB
    rw [hf0]
    simp only
    rw [if_neg (by omega),e1,hfr]
   obtain ⟨rn,rd,hwr,hrd⟩:=Rl (dK hp0) hr
   have hfil:=fun x (hx:∃ n c,x=D.sl n c)=>ab6 (b:=b) (ws:=ws) (B:=ay b) hBc (s:=s) (x:=x) hx (by omega) ws [] [] _ _ rfl (Nat.le_refl _) rfl rfl
   rw [List.nil_append] at hfil
   have hwfl:(ws.filter fun w=>decide (s<w.1)).length≤200:=Nat.le_trans (List.length_filter_le _ _) hwl
   generalize hwant:(ws.filter fun w=>decide (s<w.1))=want at *
   match want,hWf with
   | w::wr,hWf =>
     obtain ⟨hw1,hw2,hw3⟩:=hWf
     obtain ⟨c0,c1,c2,hcc,c3,c4,c5,_⟩:=bg w.2.1 w.2.2
     have hcells:bK (w::wr) = .int .i64 w.1::([c0,c1,c2]++bK wr):=by obtain ⟨x,y,z⟩:=w; simp only [bK]; rw [hcc]
     have hexd:O7 b s=true↔0<b.ex∧(aV b s).2-b.ex≤s:=by unfold O7; simp
     unfold J3 J4 at hfil
     simp only [List.cons_ne_nil,if_false,if_true,List.nil_append] at hfil
     cases hxb:O7 b s with
     | false =>
       rw [hxb] at hex
       have hL3:XR b s (((aV b s).2,a)::fr)=((aV b s).2,a)::fr:=by
        have hn:¬ (0<b.ex∧(aV b s).2-b.ex≤s):=fun h=>by have := hexd.2 h; rw [hxb] at this; simp at this
        unfold XR
        by_cases h0:0<b.ex
        ·rw [if_pos h0]
         have h3:¬ (aV b s).2-b.ex≤s:=fun h=>hn ⟨h0,h⟩
         cases fr with
         | nil=>simp only; rw [if_neg h3]
         | cons q r=>simp only; rw [if_neg h3]
        ·rw [if_neg h0]
       rw [hL2,hL3] at hfl
       have hWW:Gq 840 (w::wr) (((aV b s).2,a)::fr):=⟨hw1,hw2,hw3⟩
       have hcmp:=aki hWW (by omega) (by omega) (P:=[]) (C:=bK (w::wr)) (B:=ay b) rfl (by simp) hBc (fun _ _=>rfl) (w::wr) [] rfl
       have hln:=hWW.len
       have hfil:=hfil (NC (((aV b s).2,a)::fr)) ⟨_,_,rfl⟩
       unfold NC at *
       have hWc:=ET (w::wr)
       rw [← hln] at hfl hfil hcmp
       have hN0:0<(w::wr).length:=by simp
       clear hL2 hL3 hWf hW hexd hw1 hw2 hw3 hcells hWW hwant
       unfold aC at *
       generalize ay b=B at *
       have htk:B.take 9=B:=List.take_of_length_le (by omega)
       generalize bK ws=wc at *
       generalize ws.length=N at *
       generalize bK (w::wr)=cw at *
       generalize (w::wr).length=M at *
       generalize dA (((aV b s).2,a)::fr)=fc at *
       refine aj (rY ..) ?_
       simp at hfil hcmp
       simp [nJ,hfl,hbad,hfil,hex,hcmp,hBc,hbl,htk,hWc]
     | true =>
       rw [hxb] at hex
       obtain ⟨x1,x2⟩:=hexd.1 hxb
       cases fr with
       | nil =>
         cases wr with
         | cons w2 wr2=>exact hw3.elim
         | nil =>
           have hL3:XR b s [((aV b s).2,a)]=[((aV b s).2,fJ b)]:=by
            unfold XR
            rw [if_pos x1]
            simp only
            rw [if_pos x2]
           rw [hL2,hL3] at hfl
           have hWW:Gq 840 [(w.1,rn,rd)] [((aV b s).2,fJ b)]:=⟨hw1,hwr.mono (by omega),trivial⟩
           obtain ⟨r0,r1,r2,hrr,r3,r4,r5,_⟩:=bg rn rd
           have hC2:bK [(w.1,rn,rd)]=[.int .i64 w.1,r0,r1,r2]:=by simp only [bK,List.append_nil]; rw [hrr]
           have hcmp:=aki hWW (by omega) (by simp) (P:=[]) (C:=bK [(w.1,rn,rd)]) (B:=ay b) rfl (by simp) hBc (fun _ _=>rfl) [(w.1,rn,rd)] [] rfl
           have hfil:=hfil (NC [((aV b s).2,fJ b)]) ⟨_,_,rfl⟩
           rw [hC2] at hcmp
           rw [hcells] at hfil
           unfold NC at *
           unfold cO at hrd
           rw [hrr] at hrd
           clear hL2 hL3 hWf hW hexd hw1 hw2 hw3 hcells hWW hwant hC2 hwr
           unfold aC at *
           generalize ay b=B at *
           have htk:B.take 9=B:=List.take_of_length_le (by omega)
           generalize bK ws=wc at *
           generalize ws.length=N at *
           generalize dA [((aV b s).2,fJ b)]=fc at *
           simp only [List.length_cons,List.length_nil,bK] at *
           refine aj (rY ..) ?_
           simp at hfil hcmp
           simp [nJ,hfl,hbad,hfil,hex,hrd,hcmp,hBc,hbl,htk,aS,c3,c4,c5,r3,r4,r5,iM]
       | cons q r =>
         cases wr with
         | nil=>exact hw3.elim
         | cons w2 wr2 =>
           have hL3:XR b s (((aV b s).2,a)::q::r)=q::r:=by
            unfold XR
            rw [if_pos x1]
            simp only
            rw [if_pos x2]
           rw [hL2,hL3] at hfl
           have hcmp:=aki hw3 (by omega) (by simp at hwfl ⊢; omega) (P:=[.int .i64 w.1,c0,c1,c2]) (C:=bK (w::w2::wr2)) (B:=ay b) (by rw [hcells]; rfl) (by simp) hBc (fun k j=>by simp [c3,c4,c5]) (w2::wr2) [] rfl
           have hfil:=hfil (NC (q::r)) ⟨_,_,rfl⟩
           have hln:=Gq.len hw3
           unfold NC at *
           have hWc:=ET (w::w2::wr2)
           have hM2:(w::w2::wr2).length=(w2::wr2).length+1:=rfl
           have hMp:0<(w2::wr2).length:=by simp
           rw [hM2] at hfil
           rw [← hln] at hfl hfil hcmp
           clear hL2 hL3 hWf hW hexd hw1 hw2 hw3 hcells hwant hM2
           unfold aC at *
           generalize ay b=B at *
           have htk:B.take 9=B:=List.take_of_length_le (by omega)
           generalize bK ws=wc at *
           generalize ws.length=N at *
           generalize bK (w::w2::wr2)=cw at *
           generalize (w2::wr2).length=M at *
           generalize dA (q::r)=fc at *
           have hb:gK true false (M+1) [.int .i64 1]=some (1,M+1):=by
            have : (1:Int)≤(M:Int)+1:=by omega
            simp [gK,bnd,this]
           have h1M:(1:Int)<(M:Int)+1:=by omega
           refine aj (rY ..) ?_
           simp at hfil hcmp
           simp [nJ,hfl,hbad,hfil,hex,hcmp,hBc,hbl,htk,hWc,hMp,h1M,hb]
   | [],hWf=>exact hWf.elim
end Go.Ev.Code
end
section
namespace Go.Ev.Code
open Go Go.Ev
theorem aBk {k:Nat} {ws:List (Int×Int×Nat)} {fs:List (Int×Rat)} (hW:Gq k ws fs) (hk:k≤1000000) (hlen:ws.length≤100000) {B:List D} (hB:∀ k j,B.all (D.clo k (j+1))=true) (s u v:Int):∀ (rest pre:List (Int×Int×Nat)),ws=pre++rest →
  L.loop [1,2,3,4,10,13,68,69] [1,2,3,4,8,13] lY 1 [.int .i64 s,.int .i64 u,.int .i64 v,.loc 0 0,.sl ws.length (dA fs),.sl ws.length (bK ws),.int .i64 ws.length,.int .i64 pre.length] [.live B] =
    some (.exit 0,[.int .i64 s,.int .i64 u,.int .i64 v,.loc 0 0,.undef,.sl ws.length (bK ws)],[.live B]):=by
 have hWl:=hW.len
 intro rest
 induction rest with
 | nil =>
   intro pre h
   rw [List.append_nil] at h
   subst h
   generalize dA fs=fc at *
   generalize bK ws=wc at *
   generalize ws.length=N at *
   refine au (Iy ..) ?_
   simp [xg,hB]
 | cons w rest ih =>
   intro pre h
   have hget:ws[pre.length]?=some w:=by rw [h]; simp
   obtain ⟨f,hf,hd,hwo⟩:=hW.get hget
   obtain ⟨q1,q2,q3⟩:=aeu hget
   obtain ⟨q5,q4⟩:=Y8 hget
   obtain ⟨f1,f2,f3⟩:=TM hf
   have hl:ws.length=pre.length+rest.length+1:=by rw [h]; simp; omega
   have hlt:pre.length<ws.length:=by omega
   have hltI:(pre.length:Int)<ws.length:=by omega
   have e1:IntKind.i64.wrap ((pre.length:Int)+1)=((pre.length+1:Nat):Int):=by rw [wrap64 _ (by omega)]; omega
   have ih:=ih (pre++[w]) (by rw [h]; simp)
   rw [List.length_append,List.length_singleton] at ih
   have htx:=yO hwo hk
   rw [hd] at q1
   obtain ⟨c0,c1,c2,hc,c3,c4,c5,_⟩:=bg w.2.1 w.2.2
   rw [hc] at q4
   unfold cO at htx
   rw [hc] at htx
   generalize pI f.2=tx at *
   generalize f.1=dy at *
   generalize dA fs=fc at *
   clear h hl q2 q3 hwo hW hget
   generalize bK ws=wc at *
   generalize ws.length=N at *
   generalize pre.length=i at *
   refine au (Iy ..) ?_
   simp at ih
   simp [xg,hlt,hltI,f1,f2,f3,q1,q4,q5,htx,e1,hB,c3,c4,c5,ih]
theorem ar9 {b:aA} (h:(aW b).1=none) {p:Int×Int} (hp:p∈(aF b).2) {x y:Int} (ho:x<p.1∨y<x∨p.2<y):jW b p x y = .error 6:=by
 obtain ⟨_,_,d3⟩:=gU (gY h).1 hp
 have hv:=vV h hp (Int.le_refl p.1) (by omega) (Int.le_refl p.2)
 unfold jW at hv ⊢
 by_cases hc:b.count=4
 ·rw [if_pos hc] at hv ⊢
  cases hq:nP b p with
  | none=>rw [hq] at hv; simp at hv
  | some l=>simp only; rw [if_pos ho]
 ·rw [if_neg hc,if_pos ho]
set_option maxHeartbeats 2000000 in
theorem avZ (hbeg:L.call iq []=some (.bool true)) (b0:aA) (s u v:Int):L.call w_ [aC b0,.int .i64 s,.int .i64 u,.int .i64 v]=some (.bool true):=by
 have hcut:=QG b0
 have hlen:(nG b0).aY.length≤1000∧(nG b0).bJ.length≤1000:=by unfold nG; simp; omega
 generalize nG b0=b at *
 obtain ⟨hc,hr⟩:=hlen
 have hbad:=JH hc hr b.issue
 have hof:=alf (b:=b) (by omega) (by omega)
 unfold EU at hof
 cases hl:(leftB b b.issue).1 with
 | some e =>
   have hne:=Jw hl
   rw [hl] at hbad
   have hf0:(aW b).1=some e:=by
    cases hf:(aW b).1 with
    | none =>
      exfalso
      obtain ⟨z1,z2,z3⟩:=Kq (bV (dK (gY hf).1)).1
      have := K_ hf (s:=b.issue) (Int.le_refl _) z3
      rw [hl] at this
      simp at this
    | some e' =>
      unfold leftB at hl
      rw [hf] at hl
      simpa using hl
   have hnil:=an5 hf0
   rw [hf0,hnil] at hof
   have hsm:=uy (some e) (gW (some e))
   rw [decide_eq_true rfl] at hsm
   simp only [NC,dA,List.length_nil] at hof
   obtain ⟨ec,et⟩:=e
   simp only [gW] at hbad hsm hne
   obtain ⟨i,mt,fq,c,rd',n,st,en,ex⟩:=b
   obtain ⟨i',mt',fq',c',rd'',n',st',en',ex'⟩:=b0
   unfold aC ay at *
   simp only at *
   rcases et with _ | t
   ·simp only [fD] at *
    refine aj (Bl ..) ?_
    simp [uq,hbeg,hcut,hof,hbad,hne,hsm]
   ·simp only [fD,eY] at *
    refine aj (Bl ..) ?_
    simp [uq,hbeg,hcut,hof,hbad,hne,hsm]
 | none =>
   rw [hl] at hbad
   simp only [gW] at hbad
   obtain ⟨hf0,hp0,_,_⟩:=dX hl
   have hchk:=dK hp0
   rw [hf0] at hof
   obtain ⟨ws,hW,hfl⟩:=(Ub hp0 hc hr).1 hf0
   have hw:=(dP hp0).2
   have hplen:=hw.len
   have hwl:ws.length≤200:=by rw [hW.len,O8 hf0]; exact hplen
   have hcmp:=aBk hW (by omega) (by omega) (B:=ay b) (fun k j=>iZ b k j) s u v ws [] rfl
   have hleft:=apA hf0 hc hr hW s
   have hWl:=hW.len
   unfold NC at hof
   rw [← hWl] at hof
   simp only [fD] at hof
   have hpl:=aa_ hp0
   have hpos:0<(aF b).2.length:=List.length_pos_iff.2 hw.ne
   obtain ⟨k,hk⟩:∃ k:Nat,(k:Int)=Int.tmod (u % 1024) (aF b).2.length:=⟨(Int.tmod (u % 1024) (aF b).2.length).toNat,by
    rw [Int.tmod_eq_emod_of_nonneg (Int.emod_nonneg _ (by decide))]
    have := Int.emod_nonneg (u % 1024) (show ((aF b).2.length:Int)≠0 by omega)
    omega⟩
   have hklt:k<(aF b).2.length:=by
    have h1:=Int.tmod_eq_emod_of_nonneg (b:=((aF b).2.length:Int)) (Int.emod_nonneg u (show (1024:Int)≠0 by decide))
    have h2:=Int.emod_lt_of_pos (u % 1024) (show (0:Int)<((aF b).2.length:Int) by omega)
    omega
   obtain ⟨p,hp⟩:∃ p,(aF b).2[k]?=some p:=⟨_,List.getElem?_eq_getElem hklt⟩
   have hmem:=List.mem_of_getElem? hp
   obtain ⟨d1,d2,d3⟩:=gU hp0 hmem
   have hg:=mP hp
   have tm:∀ (z N:Int),0<N→∃ w:Int,Int.tmod (z % 1024) N=w∧0≤w∧w<N:=by
    intro z N hN
    refine ⟨_,rfl,?_⟩
    rw [Int.tmod_eq_emod_of_nonneg (Int.emod_nonneg _ (by decide))]
    exact ⟨Int.emod_nonneg _ (by omega),Int.emod_lt_of_pos _ (by omega)⟩
   obtain ⟨z,hz⟩:∃ z:Int,∀ m:Mem,tV false [.int .i64 u,.int .u64 10] m=some (.int .i64 z,m):=⟨_,fun m=>rfl⟩
   obtain ⟨wx,hwx,wx0,wx1⟩:=tm z (p.2-p.1+1) (by omega)
   obtain ⟨x,hx⟩:∃ x,x=p.1+wx:=⟨_,rfl⟩
   obtain ⟨wy,hwy,wy0,wy1⟩:=tm v (p.2-x+1) (by omega)
   obtain ⟨y,hy⟩:∃ y,y=x+wy:=⟨_,rfl⟩
   have e1:IntKind.i64.wrap (p.2-p.1)=p.2-p.1:=wrap64 _ (by omega)
   have e2:IntKind.i64.wrap (p.2-p.1+1)=p.2-p.1+1:=wrap64 _ (by omega)
   have e3:IntKind.i64.wrap (p.1+wx)=x:=by rw [wrap64 _ (by omega)]; omega
   have e4:IntKind.i64.wrap (p.2-x)=p.2-x:=wrap64 _ (by omega)
   have e5:IntKind.i64.wrap (p.2-x+1)=p.2-x+1:=wrap64 _ (by omega)
   have e6:IntKind.i64.wrap (x+wy)=y:=by rw [wrap64 _ (by omega)]; omega
   have e7:IntKind.i64.wrap (p.1-1)=p.1-1:=wrap64 _ (by omega)
   have e8:IntKind.i64.wrap (p.2+1)=p.2+1:=wrap64 _ (by omega)
   have f1:=yD hp0 (by omega:b.aY.length≤1000000) (by omega) d1 d2 d3 x y
   have f2:=yD hp0 (by omega:b.aY.length≤1000000) (by omega) d1 d2 d3 (p.1-1) y
   have f3:=yD hp0 (by omega:b.aY.length≤1000000) (by omega) d1 d2 d3 x (p.2+1)
   have hpv:=vV hf0 hmem (x:=x) (y:=y) (by omega) (by omega) (by omega)
   have hRB:=akr hf0 hmem (x:=x) (y:=y) (by omega) (by omega) (by omega)
   rw [hpv] at f1
   rw [ar9 hf0 hmem (.inl (by omega))] at f2
   rw [ar9 hf0 hmem (.inr (.inr (by omega)))] at f3
   obtain ⟨pn,pd,wp,hrp⟩:=(Xi hchk d1 d2 d3 (x:=x) (y:=y) (by omega) (by omega) (by omega) (N:=2) (fun l hl=>OO hp0 hmem hl) (by omega)).1 _ hpv
   have t1:=lG hRB (by omega) (by omega)
   have t2:=yO wp (by omega)
   have hsm:=uy (some (6,none)) 6
   rw [show decide (gW (some (6,none))=6)=true from rfl] at hsm
   simp only [JF,fD] at f1 f2 f3 hsm
   obtain ⟨c0,c1,c2,hcc,c3,c4,c5,_⟩:=bg pn pd
   unfold cO at hrp t2
   rw [hcc] at hrp t2
   have hand:∀ (m:Mem) (a:Int),eX .and [.int .i64 a,.int .i64 1023] m=some (.int .i64 (a % 1024),m):=fun m a=>aBn a
   have hLn:¬ ((aF b).2.length:Int)=0:=by omega
   have hNx:¬ p.2-p.1+1=0:=by omega
   have hNy:¬ p.2-x+1=0:=by omega
   clear hx hy hpv hRB wp hW hw hmem hp hf0 hl hp0 hchk tm
   generalize kF b p x y=pv at *
   generalize pI pv=tx at *
   obtain ⟨p1,p2⟩:=p
   simp only at *
   obtain ⟨g1,g2,g3,g4⟩:=hg
   unfold pD dO at *
   simp only at *
   generalize (aF b).2.length=M at *
   generalize aX (aF b).2=pc at *
   generalize dA (aW b).2=fc at *
   generalize bK ws=wc at *
   generalize ws.length=N at *
   have hkI:(k:Int)<M:=by omega
   have hrem1:∀ m:Mem,eX .rem [.int .i64 (u % 1024),.int .i64 (M:Int)] m=some (.int .i64 (k:Int),m):=fun m=>by
    show (bif IntKind.i64==IntKind.i64 then (Ev.mF .rem .i64 (u % 1024) (M:Int)).bind fun d=>some (d,m) else none)=_
    simp only [beq_self_eq_true,cond_true,Ev.mF]
    rw [if_neg hLn,← hk]; rfl
   have hrem2:∀ m:Mem,eX .rem [.int .i64 (z % 1024),.int .i64 (p2-p1+1)] m=some (.int .i64 wx,m):=fun m=>by
    show (bif IntKind.i64==IntKind.i64 then (Ev.mF .rem .i64 (z % 1024) (p2-p1+1)).bind fun d=>some (d,m) else none)=_
    simp only [beq_self_eq_true,cond_true,Ev.mF]
    rw [if_neg hNx,hwx]; rfl
   have hrem3:∀ m:Mem,eX .rem [.int .i64 (v % 1024),.int .i64 (p2-x+1)] m=some (.int .i64 wy,m):=fun m=>by
    show (bif IntKind.i64==IntKind.i64 then (Ev.mF .rem .i64 (v % 1024) (p2-x+1)).bind fun d=>some (d,m) else none)=_
    simp only [beq_self_eq_true,cond_true,Ev.mF]
    rw [if_neg hNy,hwy]; rfl
   clear hwx hwy hk
   obtain ⟨i,mt,fq,c,rd',n,st,en,ex⟩:=b
   obtain ⟨i',mt',fq',c',rd'',n',st',en',ex'⟩:=b0
   unfold aC ay at *
   simp only at *
   refine aj (Bl ..) ?_
   simp at hcmp
   simp [uq,hbeg,hcut,hof,hbad,hfl,hcmp,hpl,hand,hz,hrem1,hrem2,hrem3,hklt,hkI,g1,g2,g3,g4,e1,e2,e3,e4,e5,e6,e7,e8,f1,f2,f3,hrp,t1,t2,hsm,hleft,aS,c3,c4,c5]
end Go.Ev.Code
end
