/- A part of the proof of accrAll_card, flowAll_card, priceAll_card. -/
import Derived.Test.YtfkdcfbleblgoaaGreatDoorCXZ00
import Derived.Test.YtfkdcfbleblgoaaGreatDoorCXZ12
set_option linter.unusedVariables false
set_option linter.unusedSimpArgs false
section
namespace Go.Ev.Code
open Go Go.Ev
theorem aa5 {R B:Nat} (hB:0<B) (fR:nK R) (hfit:∀ x,x≤1000000000→nK (B*x)) (fB:nK B):∀ (f lo hi:Nat),hi-lo≤f+1→lo<hi→hi≤1000000000→B*lo≤R→R<B*hi →
  L.loop [0,1,5,6] [5] sN 0 [n9 R,n9 B,.int .u64 lo,.int .u64 hi] []=some (.exit 0,[.int .u64 (R / B:Nat)],[])
 | 0,lo,hi,hf,hlt,hh,h1,h2=>by
   have hhi:hi=lo+1:=by omega
   subst hhi
   have hq:R / B=lo:=Nat.div_eq_of_lt_le (by rw [Nat.mul_comm]; exact h1) (by rw [Nat.mul_comm]; exact h2)
   rw [hq]
   have e1:IntKind.u64.wrap (((lo+1:Nat):Int)-lo)=1:=by rw [dJ _ (by omega)]; omega
   unfold n9 aQ
   generalize (ah R).length=N1 at *
   generalize (ah R).map ak=l1 at *
   generalize (ah B).length=N2 at *
   generalize (ah B).map ak=l2 at *
   generalize ((lo+1:Nat):Int)=hz at *
   refine au (Dj ..) ?_
   simp [vK,e1]
 | f+1,lo,hi,hf,hlt,hh,h1,h2=>by
   by_cases hone:hi-lo≤1
   ·exact aa5 hB fR hfit fB 0 lo hi (by omega) hlt hh h1 h2
   obtain ⟨mid,hm⟩:∃ mid,mid=(lo+hi) / 2:=⟨_,rfl⟩
   have hm1:lo<mid:=by omega
   have hm2:mid<hi:=by omega
   have ho:=jF (x:=mid) (by omega)
   have fm:nK mid:=by
    unfold nK
    exact Nat.le_trans (aez (k:=2) (by unfold T9; omega)) (by omega)
   have hml:=uj fB fm
   have hcm:=U2 (hfit mid (by omega)) fR
   have e1:IntKind.u64.wrap ((hi:Int)-lo)=(hi:Int)-lo:=dJ _ (by omega)
   have e2:IntKind.u64.wrap ((lo:Int)+hi)=(lo:Int)+hi:=dJ _ (by omega)
   have e3:Int.tdiv ((lo:Int)+hi) 2=(mid:Int):=by rw [Int.tdiv_eq_ediv_of_nonneg (by omega)]; omega
   have e4:IntKind.u64.wrap (mid:Int)=(mid:Int):=dJ _ (by omega)
   have hgt:(1:Int)<(hi:Int)-lo:=by omega
   by_cases hc:B*mid≤R
   ·have ih:=aa5 hB fR hfit fB f mid hi (by omega) hm2 hh hc h2
    have hle:fM (B*mid) R≤0:=by unfold fM; split <;> (try split) <;> omega
    generalize fM (B*mid) R=cm at *
    unfold n9 aQ at *
    generalize (ah (B*mid)).length=N3 at *
    generalize (ah (B*mid)).map ak=l3 at *
    generalize (ah R).length=N1 at *
    generalize (ah R).map ak=l1 at *
    generalize (ah B).length=N2 at *
    generalize (ah B).map ak=l2 at *
    generalize (ah mid).length=N4 at *
    generalize (ah mid).map ak=l4 at *
    clear hm
    refine au (Dj ..) ?_
    simp [vK,e1,e2,e3,e4,hgt,ho,hml,hcm,hle,ih]
   ·have ih:=aa5 hB fR hfit fB f lo mid (by omega) hm1 (by omega) h1 (by omega)
    have hle:¬ fM (B*mid) R≤0:=by unfold fM; split <;> (try split) <;> omega
    generalize fM (B*mid) R=cm at *
    unfold n9 aQ at *
    generalize (ah (B*mid)).length=N3 at *
    generalize (ah (B*mid)).map ak=l3 at *
    generalize (ah R).length=N1 at *
    generalize (ah R).map ak=l1 at *
    generalize (ah B).length=N2 at *
    generalize (ah B).map ak=l2 at *
    generalize (ah mid).length=N4 at *
    generalize (ah mid).map ak=l4 at *
    clear hm
    refine au (Dj ..) ?_
    simp [vK,e1,e2,e3,e4,hgt,ho,hml,hcm,hle,ih]
theorem asn {R B:Nat} (hB:0<B) (hR:R<B*1000000000) {k:Nat} (hk:NB k B) (hk2:k≤19000000):L.call yS [n9 R,n9 B]=some (.int .u64 (R / B:Nat)):=by
 have hfit:∀ x,x≤1000000000→nK (B*x):=fun x hx=>(hk.mul (show NB 64 x by unfold NB; omega)).iH (by omega)
 have fB:nK B:=hk.iH (by omega)
 have fR:nK R:=NB.iH (k:=k+64) (by
  unfold NB at *
  have h1:B*1000000000<2^k*1000000000:=Nat.mul_lt_mul_of_pos_right hk (by omega)
  have h2:2^k*1000000000≤2^k*2^64:=Nat.mul_le_mul_left _ (by omega)
  rw [Nat.pow_add]; exact Nat.lt_trans hR (Nat.lt_of_lt_of_le h1 h2)) (by omega)
 have hl:=fun lo hi h1 h2 h3 h4=>aa5 hB fR hfit fB 1000000000 lo hi (by omega) h1 h2 h3 h4
 have cR:=iL R
 have cB:=iL B
 have vR:=iV R
 have vB:=iV B
 have lR:=fR
 have lB:=fB
 unfold nK at lR lB
 have hBne:ah B≠[]:=amZ (by omega)
 have hBlen:0<(ah B).length:=List.length_pos_iff.2 hBne
 rcases Nat.lt_trichotomy (ah R).length (ah B).length with hlen | hlen | hlen
 ·have hlt:=aaK cR.1 cB hlen
  rw [vR,vB] at hlt
  have hq:R / B=0:=Nat.div_eq_of_lt hlt
  rw [hq]
  clear hl
  unfold n9 aQ
  have hlI:((ah R).length:Int)<(ah B).length:=by omega
  generalize (ah R).length=N1 at *
  generalize (ah R).map ak=l1 at *
  generalize (ah B).length=N2 at *
  generalize (ah B).map ak=l2 at *
  refine aj (IZ ..) ?_
  simp [Ba,hlen,hlI]
 ·
  obtain ⟨n,hn⟩:∃ n,(ah B).length=n+1:=⟨(ah B).length-1,by omega⟩
  obtain ⟨u,hu⟩:∃ u,(ah R)[n]?=some u:=⟨_,List.getElem?_eq_getElem (by omega)⟩
  obtain ⟨v,hv⟩:∃ v,(ah B)[n]?=some v:=⟨_,List.getElem?_eq_getElem (by omega)⟩
  have a1:=Bg hu
  have b1:=Bg hv
  rw [List.take_of_length_le (by omega),vR] at a1
  rw [List.take_of_length_le (by omega),vB] at b1
  have a2:=JW cR.1 (k:=n)
  have b2:=JW cB.1 (k:=n)
  have hu9:=cR.1.get hu
  have hv9:=cB.1.get hv
  have hv0:0<v:=by
   have h:=cB.2 hBne
   have hg:(ah B).getLast hBne=v:=by
    rw [List.getLast_eq_getElem]
    have := (List.getElem?_eq_some_iff.1 hv).2
    rw [← this]
    congr 1
    omega
   rw [hg] at h
   omega
  have hq:R<B*(u / v+1):=by
   have h1:u<v*(u / v+1):=by
    have := Nat.lt_mul_div_succ u hv0
    exact this
   obtain ⟨q,hq⟩:∃ q,q=u / v+1:=⟨_,rfl⟩
   rw [← hq] at h1 ⊢
   have h2:R<T9^n*(u+1):=by rw [a1,Nat.mul_add,Nat.mul_one]; omega
   have h3:T9^n*(u+1)≤T9^n*(v*q):=Nat.mul_le_mul_left _ h1
   have h4:T9^n*v≤B:=by omega
   have h5:T9^n*v*q≤B*q:=Nat.mul_le_mul_right _ h4
   rw [Nat.mul_assoc] at h5
   omega
  have hq9:u / v≤u:=Nat.div_le_self _ _
  have e2:Int.tdiv (u:Int) (v:Int)=((u / v:Nat):Int):=by rw [Int.tdiv_eq_ediv_of_nonneg (by omega)]; rfl
  unfold T9 at hu9 hv9
  generalize u / v=uv at *
  have hl:=hl 0 (uv+1) (by omega) (by omega) (by omega) hq
  obtain ⟨p,p1,p2⟩:=(uw.sl [] (ah R)).read .i64 (i:=(n:Int)) (by omega) (by simpa using hu)
  obtain ⟨q,q1,q2⟩:=(uw.sl [] (ah B)).read .i64 (i:=(n:Int)) (by omega) (by simpa using hv)
  have e1:IntKind.i64.wrap (((ah B).length:Int)-1)=(n:Int):=by rw [wrap64 _ (by omega)]; omega
  have e3:IntKind.u64.wrap (uv:Int)=(uv:Int):=dJ _ (by omega)
  have e4:IntKind.u64.wrap ((uv:Int)+1)=((uv+1:Nat):Int):=by rw [dJ _ (by omega)]; omega
  have hv0':¬ v=0:=by omega
  have hv0I:¬ (v:Int)=0:=by omega
  have hlI:((ah R).length:Int)=(ah B).length:=by omega
  clear a1 b1 a2 b2 hq hq9 cR cB vR vB hfit
  generalize ((uv+1:Nat):Int)=hz at *
  generalize (uv:Int)=qz at *
  rw [show ((0:Nat):Int)=0 from rfl] at hl
  have p1':=p1
  have q1':=q1
  unfold n9 aQ at *
  rw [hlen] at *
  generalize (ah R).map ak=l1 at *
  generalize (ah B).length=N2 at *
  generalize (ah B).map ak=l2 at *
  refine aj (IZ ..) ?_
  simp [Ba,e1,p1,p2,q1,q2,e2,e3,e4,hv0',hv0I,hl]
 ·have hl:=hl 0 1000000000 (by omega) (by omega) (by omega) hR
  have h1:¬ (ah R).length<(ah B).length:=by omega
  have h2:¬ ((ah R).length:Int)<(ah B).length:=by omega
  have h3:¬ (ah R).length=(ah B).length:=by omega
  have h4:¬ ((ah R).length:Int)=(ah B).length:=by omega
  clear hfit
  rw [show ((0:Nat):Int)=0 from rfl,show ((1000000000:Nat):Int)=1000000000 from rfl] at hl
  unfold n9 aQ at *
  generalize (ah R).length=N1 at *
  generalize (ah R).map ak=l1 at *
  generalize (ah B).length=N2 at *
  generalize (ah B).map ak=l2 at *
  refine aj (IZ ..) ?_
  simp [Ba,h1,h2,h3,h4,hl]
end Go.Ev.Code
end
section
namespace Go.Ev.Code
open Go Go.Ev
def ae4 (rd:Option (List Nat)):D:=match rd with
 | none => .dh
 | some rl=>aQ rl
theorem axC {la qs:List Nat} {rd:Option (List Nat)} {B i N d q RB2 R2:Nat} {X:Ex×List D×Mem} (hi:la[i]?=some d) (hil:i<la.length) (hrl:(rd.getD []).length+1≤1000000000)
 (ht:L.call iI [aQ (d::rd.getD [])]=some (n9 RB2)) (hm:L.call yS [n9 RB2,n9 B]=some (.int .u64 q)) (ho:L.call mY [.int .u64 q]=some (n9 q)) (hml:L.call mX [n9 B,n9 q]=some (n9 (B*q)))
 (hs:L.call vG [n9 RB2,n9 (B*q)]=some (n9 R2)) (hq:qs.length=N) (hiN:i<N) (hN:N≤1000000000)
 (hX:L.loop [0,1,6,7,8] [6,7] kY 1 [aQ la,n9 B,n9 R2,.aO 0 0 N 1,.int .i64 ((i:Int)-1)] [.live ((qs.set i q).map ak)]=some X) :
 L.loop [0,1,6,7,8] [6,7] kY 1 [aQ la,n9 B,ae4 rd,.aO 0 0 N 1,.int .i64 i] [.live (qs.map ak)]=some X:=by
 obtain ⟨p,p1,p2⟩:=(uw.sl [.live (qs.map ak),.free,.free] la).read .i64 (i:=(i:Int)) (by omega) (by simpa using hi)
 have hiI:(i:Int)<N:=by omega
 have hqm:i<(qs.map ak).length:=by simp [hq]; omega
 have hqm2:i+1≤(qs.map ak).length:=by simp [hq]; omega
 have e1:IntKind.i64.wrap ((i:Int)-1)=(i:Int)-1:=wrap64 _ (by omega)
 have hlen:1+(rd.getD []).length≤4294967296:=by omega
 have hql:(qs.map ak).length=N:=by simp [hq]
 have hqc:((qs.map ak).set i (.int .u64 (q:Int))).all (D.clo 1 12)=true:=by
  rw [show D.int .u64 (q:Int)=ak q from rfl,← List.map_set,List.all_map]
  exact auJ 1 11 _
 simp only [List.map_set] at hX
 generalize qs.map ak=qm at *
 simp only [ak] at hX ht
 simp only [aQ,n9,List.map_cons,List.length_cons] at *
 generalize (ah RB2).length=N1 at *
 generalize (ah RB2).map ak=l1 at *
 generalize (ah B).length=N2 at *
 generalize (ah B).map ak=l2 at *
 generalize (ah q).length=N3 at *
 generalize (ah q).map ak=l3 at *
 generalize (ah (B*q)).length=N4 at *
 generalize (ah (B*q)).map ak=l4 at *
 generalize (ah R2).length=N5 at *
 generalize (ah R2).map ak=l5 at *
 cases rd with
 | none =>
   simp only [ae4,Option.getD_none,List.map_nil,List.length_nil] at *
   refine au (wP ..) ?_
   simp at ht hX
   simp [qM,p1,p2,hiI,hqm,hqm2,e1,f_,hqc,ht,hm,ho,hml,hs,aS,iM,hX]
 | some rl =>
   simp only [ae4,Option.getD_some,aQ] at *
   have htk:(rl.map ak).take rl.length=rl.map ak:=lD _ _ (Nat.le_refl _)
   have hrm:(rl.map ak).length=rl.length:=by simp
   have hz:∀ n m,jd (fz (n+1)) (rl.map ak) m=some (rl.map ak,m):=fun n m=>auS n rl m
   generalize rl.map ak=rm at *
   have e2:rl.length+1=1+rl.length:=by omega
   rw [e2] at ht
   have htk2:List.take (1+rl.length) (D.int .u64 (d:Int)::rm)=D.int .u64 (d:Int)::rm:=List.take_of_length_le (by simp [hrm]; omega)
   have hle2:1+rl.length≤rl.length+1:=by omega
   refine au (wP ..) ?_
   simp at ht hX
   simp [qM,p1,p2,hiI,hqm,hqm2,e1,f_,hqc,hlen,htk,htk2,hle2,hrm,hz,ht,hm,ho,hml,hs,aS,iM,hX]
theorem anV {A B k:Nat} (hB:0<B) (nA:NB k A) (nB:NB k B) (hk:k≤10000000):∀ (i:Nat) (qs:List Nat) (rd:Option (List Nat)),i≤(ah A).length→qs.length=(ah A).length→dG (qs.drop i)→bH (qs.drop i)=bH ((ah A).drop i) / B →
  ((i=(ah A).length∧rd=none)∨rd=some (ah (bH ((ah A).drop i) % B))) →
  ∃ qs' rd',qs'.length=(ah A).length∧dG qs'∧bH qs'=A / B∧((rd'=none∧A % B=0)∨rd'=some (ah (A % B))) ∧
    L.loop [0,1,6,7,8] [6,7] kY 1 [n9 A,n9 B,ae4 rd,.aO 0 0 (ah A).length 1,.int .i64 ((i:Int)-1)] [.live (qs.map ak)]=some (.exit 0,[ae4 rd',.aO 0 0 (ah A).length 1],[.live (qs'.map ak)])
 | 0,qs,rd,hi,hq,hs,hv,hr=>by
   rw [List.drop_zero] at hs hv
   rw [List.drop_zero,iV] at hv hr
   refine ⟨qs,rd,hq,hs,hv,?_,?_⟩
   ·rcases hr with ⟨h1,h2⟩ | h
    ·left
     have : ah A=[]:=List.eq_nil_of_length_eq_zero h1.symm
     have h0:A=0:=by rw [← iV A,this]; rfl
     exact ⟨h2,by rw [h0]; exact Nat.zero_mod B⟩
    ·exact .inr h
   ·have hqc:(qs.map ak).all (D.clo 1 12)=true:=by rw [List.all_map]; exact auJ 1 11 _
    clear hs hv hr hi hq
    generalize qs.map ak=qm at *
    cases rd with
    | none =>
      simp only [ae4]
      unfold n9 aQ
      refine au (wP ..) ?_
      simp [qM,hqc]
    | some rl =>
      simp only [ae4]
      unfold n9 aQ
      refine au (wP ..) ?_
      simp [qM,hqc]
 | i+1,qs,rd,hi,hq,hs,hv,hr=>by
   have cA:=iL A
   have fA:(ah A).length≤1000000000:=nA.iH (by omega)
   obtain ⟨d,hd⟩:∃ d,(ah A)[i]?=some d:=⟨_,List.getElem?_eq_getElem hi⟩
   have hd9:d<T9:=cA.1.get hd
   have hdrop:(ah A).drop i=d::(ah A).drop (i+1):=by
    rw [List.drop_eq_getElem_cons hi]
    congr 1
    exact (List.getElem?_eq_some_iff.1 hd).2
   obtain ⟨H,hH⟩:∃ H,H=bH ((ah A).drop (i+1)):=⟨_,rfl⟩
   rw [← hH] at hv hr
   have hval:bH ((ah A).drop i)=d+T9*H:=by rw [hdrop,ni,hH]
   have hRB:H % B<B:=Nat.mod_lt _ hB
   have hrl:rd.getD []=ah (H % B):=by
    rcases hr with ⟨h1,h2⟩ | h
    ·have : H=0:=by rw [hH,List.drop_of_length_le (by omega)]; rfl
     rw [h2,this,Nat.zero_mod,oI]; rfl
    ·rw [h]; rfl
   obtain ⟨R,hR⟩:∃ R,R=H % B:=⟨_,rfl⟩
   rw [← hR] at hRB hrl
   have nR:NB k R:=Nat.lt_trans hRB nB
   have fR:(ah R).length≤900000000:=by
    have h1:R<T9^(k+1):=by
     have h2:R<2^k:=nR
     have h3:(2:Nat)^k≤2^(k+1):=Nat.pow_le_pow_right (by decide) (by omega)
     have h4:(2:Nat)^(k+1)≤T9^(k+1):=Nat.pow_le_pow_left (by unfold T9; omega) _
     omega
    have := aez h1
    omega
   have hlt:d+T9*R<B*1000000000:=by
    have h1:T9*(R+1)≤T9*B:=Nat.mul_le_mul_left _ hRB
    rw [Nat.mul_add,Nat.mul_one] at h1
    rw [Nat.mul_comm B 1000000000]
    show d+T9*R<T9*B
    omega
   have hsd:dG (d::ah R):=by
    intro x hx
    rcases List.mem_cons.1 hx with rfl | hx
    ·exact hd9
    ·exact (iL R).1 x hx
   have ht:=D6 (d::ah R) hsd (by unfold maxL; rw [List.length_cons]; omega)
   rw [ni,iV] at ht
   obtain ⟨Z,hZ⟩:∃ Z,Z=d+T9*R:=⟨_,rfl⟩
   rw [← hZ] at ht hlt
   have hm:=asn hB hlt nB (by omega)
   obtain ⟨q,hqd⟩:∃ q,q=Z / B:=⟨_,rfl⟩
   rw [← hqd] at hm
   have hq9:q<1000000000:=by rw [hqd]; exact (Nat.div_lt_iff_lt_mul hB).2 (by rw [Nat.mul_comm]; exact hlt)
   have ho:=jF (x:=q) (by omega)
   have nq:NB 64 q:=by unfold NB; omega
   have hml:=uj (nB.iH (by omega)) (nq.iH (by omega))
   have hle:B*q≤Z:=by rw [hqd]; exact Nat.mul_div_le Z B
   have nZ:NB (k+64) Z:=by
    unfold NB at *
    have h1:B*1000000000<2^k*1000000000:=Nat.mul_lt_mul_of_pos_right nB (by omega)
    have h2:2^k*1000000000≤2^k*2^64:=Nat.mul_le_mul_left _ (by omega)
    rw [Nat.pow_add]; exact Nat.lt_trans hlt (Nat.lt_of_lt_of_le h1 h2)
   have hsb:=acu (nZ.iH (by omega)) ((nB.mul nq).iH (by omega)) hle
   have hmod:Z-B*q=Z % B:=by have := Nat.div_add_mod Z B; rw [← hqd] at this; omega
   rw [hmod] at hsb
   have hsplit:d+T9*H=B*(T9*(H / B))+Z:=by
    have h1:=Nat.div_add_mod H B
    rw [← hR] at h1
    have h2:T9*H=T9*(B*(H / B))+T9*R:=by rw [← Nat.mul_add,h1]
    rw [h2,hZ,Nat.mul_left_comm T9 B]
    omega
   have hdiv:(d+T9*H) / B=q+T9*(H / B):=by rw [hsplit,Nat.mul_add_div hB,hqd,Nat.add_comm]
   have hmod2:(d+T9*H) % B=Z % B:=by rw [hsplit,Nat.mul_add_mod]
   have hilt:i<qs.length:=by omega
   have hdq:(qs.set i q).drop i=q::qs.drop (i+1):=by
    rw [List.drop_eq_getElem_cons (by rw [List.length_set]; exact hilt)]
    rw [List.getElem_set_self,List.drop_set_of_lt (by omega)]
   obtain ⟨qs',rd',z1,z2,z3,z4,z5⟩:=anV hB nA nB hk i (qs.set i q) (some (ah (Z % B))) (by omega) (by rw [List.length_set]; exact hq)
    (by
     rw [hdq]
     intro x hx
     rcases List.mem_cons.1 hx with rfl | hx
     ·exact hq9
     ·exact hs x hx)
    (by rw [hdq,ni,hv,hval,hdiv]) (.inr (by rw [hval,hmod2]))
   refine ⟨qs',rd',z1,z2,z3,z4,?_⟩
   rw [show ((i+1:Nat):Int)-1=(i:Int) by omega]
   exact axC (rd:=rd) hd hi (by rw [hrl]; omega) (by rw [hrl]; exact ht) hm ho hml hsb hq (by omega) fA z5
theorem U3 {A B k:Nat} (hB:0<B) (nA:NB k A) (nB:NB k B) (hk:k≤10000000):L.call AO [n9 A,n9 B]=some (.aG [n9 (A / B),n9 (A % B)]):=by
 have fA:(ah A).length≤1000000000:=nA.iH (by omega)
 obtain ⟨qs,rd,z1,z2,z3,z4,z5⟩:=anV hB nA nB hk (ah A).length (List.replicate (ah A).length 0) none (Nat.le_refl _) (by simp) (by rw [List.drop_of_length_le (by simp)]; intro x hx; simp at hx)
  (by rw [List.drop_of_length_le (by simp),List.drop_of_length_le (Nat.le_refl _)]; simp) (.inl ⟨rfl,rfl⟩)
 have ht:=D6 qs z2 (by unfold maxL; omega)
 rw [z3] at ht
 have e1:IntKind.i64.wrap (((ah A).length:Int)-1)=((ah A).length:Int)-1:=wrap64 _ (by omega)
 have hz0:(List.replicate (ah A).length 0).map ak=List.replicate (ah A).length (.int .u64 0):=by simp [ak]
 rw [hz0] at z5
 have htk:(qs.map ak).take (ah A).length=qs.map ak:=by rw [← z1]; exact lD _ _ (Nat.le_refl _)
 have hqm:(qs.map ak).length=(ah A).length:=by rw [List.length_map,z1]
 have hmx:(ah A).length≤4294967296:=by omega
 have hmxI:((ah A).length:Int)≤4294967296:=by omega
 have hfz:∀ n m,jd (fz (n+1)) (qs.map ak) m=some (qs.map ak,m):=fun n m=>auS n qs m
 simp only [aQ] at ht
 rw [z1] at ht
 clear z1 z2 z3 hz0
 rcases z4 with ⟨rfl,hr0⟩ | rfl
 ·rw [hr0]
  simp only [ae4] at z5
  unfold n9 aQ at *
  generalize qs.map ak=qm at *
  generalize (ah (A / B)).length=N1 at *
  generalize (ah (A / B)).map ak=l1 at *
  generalize (ah A).length=N2 at *
  generalize (ah A).map ak=l2 at *
  generalize (ah B).length=N3 at *
  generalize (ah B).map ak=l3 at *
  refine aj (XB ..) ?_
  simp [Nr,f_,hmx,hmxI,e1,z5,htk,hqm,hfz,ht]
 ·simp only [ae4] at z5
  unfold n9 aQ at *
  generalize qs.map ak=qm at *
  generalize (ah (A / B)).length=N1 at *
  generalize (ah (A / B)).map ak=l1 at *
  generalize (ah (A % B)).length=N4 at *
  generalize (ah (A % B)).map ak=l4 at *
  generalize (ah A).length=N2 at *
  generalize (ah A).map ak=l2 at *
  generalize (ah B).length=N3 at *
  generalize (ah B).map ak=l3 at *
  refine aj (XB ..) ?_
  simp [Nr,f_,hmx,hmxI,e1,z5,htk,hqm,hfz,ht]
theorem an9 {k:Nat} (hk:k≤10000000):∀ (f a b:Nat),b<f→NB k a→NB k b→L.loop [0,1] [0] uN 0 [n9 a,n9 b] []=some (.exit 0,[n9 (Nat.gcd b a)],[])
 | 0,a,b,h,_,_=>by omega
 | f+1,a,b,h,na,nb=>by
   rcases Nat.eq_zero_or_pos b with h0 | h0
   ·subst h0
    rw [Nat.gcd_zero_left]
    unfold n9 aQ
    generalize (ah a).length=N1 at *
    generalize (ah a).map ak=l1 at *
    refine au (P6 ..) ?_
    simp [F7]
   ·have hd:=U3 h0 na nb hk
    have hlt:=Nat.mod_lt a h0
    have ih:=an9 hk f b (a % b) (by omega) nb (Nat.lt_trans hlt nb)
    rw [← Nat.gcd_rec] at ih
    have hl:=List.length_pos_iff.2 (amZ (n:=b) (by omega))
    have hlI:(0:Int)<((ah b).length:Int):=by omega
    unfold n9 aQ at *
    generalize (ah a).length=N1 at *
    generalize (ah a).map ak=l1 at *
    generalize (ah b).length=N2 at *
    generalize (ah b).map ak=l2 at *
    generalize (ah (a / b)).length=N3 at *
    generalize (ah (a / b)).map ak=l3 at *
    generalize (ah (a % b)).length=N4 at *
    generalize (ah (a % b)).map ak=l4 at *
    generalize (ah (Nat.gcd b a)).length=N5 at *
    generalize (ah (Nat.gcd b a)).map ak=l5 at *
    refine au (P6 ..) ?_
    simp [F7,hl,hlI,hd,ih]
theorem aul {a b k:Nat} (na:NB k a) (nb:NB k b) (hk:k≤10000000):L.call IJ [n9 a,n9 b]=some (n9 (Nat.gcd b a)):=by
 have hl:=an9 hk (b+1) a b (by omega) na nb
 unfold n9 aQ at *
 generalize (ah a).length=N1 at *
 generalize (ah a).map ak=l1 at *
 generalize (ah b).length=N2 at *
 generalize (ah b).map ak=l2 at *
 generalize (ah (Nat.gcd b a)).length=N5 at *
 generalize (ah (Nat.gcd b a)).map ak=l5 at *
 refine aj (aiA ..) ?_
 simp [XG,hl]
end Go.Ev.Code
end
section
namespace Go.Ev.Code
open Go Go.Ev
theorem ar6:∀ (k j n:Nat),fV (j+k) n=fV j (n / 10^k)++fV k (n % 10^k)
 | 0,j,n=>by simp [fV]
 | k+1,j,n=>by
   show fV (j+k) (n / 10)++[dg (n % 10)]=_
   rw [ar6 k j (n / 10)]
   show _=fV j (n / 10^(k+1))++(fV k (n % 10^(k+1) / 10)++[dg (n % 10^(k+1) % 10)])
   have h1:n / 10 / 10^k=n / 10^(k+1):=by rw [Nat.div_div_eq_div_mul,Nat.pow_succ,Nat.mul_comm]
   have h2:n % 10^(k+1) % 10=n % 10:=Nat.mod_mod_of_dvd n ⟨10^k,by rw [Nat.pow_succ,Nat.mul_comm]⟩
   have h3:n % 10^(k+1) / 10=n / 10 % 10^k:=by rw [Nat.pow_succ,Nat.mul_comm,Nat.mod_mul_right_div_self]
   rw [h1,h2,h3,List.append_assoc]
theorem ayh {x H j:Nat} (hx:x<T9):fV (j+9) (x+T9*H)=fV j H++fV 9 x:=by
 rw [ar6 9 j]
 have e:(10:Nat)^9=T9:=by decide
 rw [e,Nat.add_mul_div_left _ _ rZ,Nat.div_eq_of_lt hx,Nat.zero_add,Nat.add_mul_mod_self_left,Nat.mod_eq_of_lt hx]
theorem ar7:∀ k x,(fV k x).length=k
 | 0,x=>rfl
 | k+1,x=>by show (fV k (x / 10)++[dg (x % 10)]).length=_; simp [ar7 k]
theorem arT {l:List Nat} (hs:dG l) (hl:l.length≤100000000):∀ (rest pre:List Nat) (acc:List UInt8),l=pre++rest→acc.length=9*pre.length →
  L.loop [0,3,4] [3] iR 0 [aQ l,.str acc,.int .i64 pre.length] []=some (.exit 0,[.str (fV (9*rest.length) (bH rest)++acc)],[])
 | [],pre,acc,h,ha=>by
   rw [List.append_nil] at h
   subst h
   simp only [List.length_nil,Nat.mul_zero,asQ,fV,List.nil_append]
   unfold aQ
   generalize l.map ak=lm at *
   generalize l.length=n at *
   refine au (lT ..) ?_
   simp [jU]
 | x::rest,pre,acc,h,ha=>by
   have hx:x<T9:=hs x (by rw [h]; simp)
   have hget:l[pre.length]?=some x:=by rw [h]; simp
   have hpl:pre.length<l.length:=by rw [h]; simp
   have hll:l.length=pre.length+rest.length+1:=by rw [h]; simp; omega
   have hpd:=ar7 9 x
   have ih:=arT hs hl rest (pre++[x]) (fV 9 x++acc) (by rw [h]; simp) (by simp [hpd,ha]; omega)
   have l1:=arS (l:=aQ l) ⟨_,_,rfl⟩ pre.length 9 x acc (by omega) hx (by omega)
   have hres:fV (9*(x::rest).length) (bH (x::rest))++acc=fV (9*rest.length) (bH rest)++(fV 9 x++acc):=by
    rw [List.length_cons,show 9*(rest.length+1)=9*rest.length+9 by omega,ni,ayh hx,List.append_assoc]
   rw [hres]
   rw [List.length_append,List.length_singleton] at ih
   obtain ⟨p,p1,p2⟩:=(uw.sl [] l).read .i64 (i:=(pre.length:Int)) (by omega) (by simpa using hget)
   have e1:IntKind.i64.wrap ((pre.length:Int)+1)=((pre.length+1:Nat):Int):=by rw [wrap64 _ (by omega)]; omega
   have hltI:(pre.length:Int)<l.length:=by omega
   generalize fV 9 x++acc=acc2 at *
   generalize fV (9*rest.length) (bH rest)++acc2=res at *
   rw [show (9:Int)-((9:Nat):Int)=0 by omega] at l1
   clear hres hs hl
   generalize ((pre.length+1:Nat):Int)=pn at *
   unfold aQ at *
   refine au (lT ..) ?_
   simp [jU,hpl,hltI,p1,p2,l1,e1,ih]
theorem Rn {x k:Nat} (hx:NB k x) (hk:k≤10000000):L.call oO [n9 x]=some (.str (txt x)):=by
 by_cases h0:x=0
 ·subst h0
  have h:=adB (x:=0) (by omega)
  exact h
 ·have cx:=iL x
  have vx:=iV x
  have hlen:(ah x).length≤k+1:=by
   refine aez (Nat.lt_of_lt_of_le hx ?_)
   have h1:(2:Nat)^k≤2^(k+1):=Nat.pow_le_pow_right (by decide) (by omega)
   have h2:(2:Nat)^(k+1)≤T9^(k+1):=Nat.pow_le_pow_left (by unfold T9; omega) _
   exact Nat.le_trans h1 h2
  have l2:=arT cx.1 (by omega) (ah x) [] [] rfl rfl
  rw [vx,List.append_nil] at l2
  have hlt:x<10^(9*(ah x).length):=by
   have h1:=ait cx.1
   rw [vx] at h1
   have e:T9^(ah x).length=10^(9*(ah x).length):=by rw [Nat.pow_mul]; rfl
   omega
  have l3:=arU (9*(ah x).length) (x:=x) (by omega) hlt (by omega)
  have hne:txt x≠[]:=by
   intro h
   have := xR x
   rw [h] at this
   simp at this
  generalize txt x=tx at *
  generalize fV (9*(ah x).length) x=pd at *
  clear cx vx hlen hlt
  unfold n9
  unfold aQ at *
  generalize (ah x).map ak=lm at *
  generalize (ah x).length=n at *
  simp at l2
  refine aj (Ef ..) ?_
  simp [xq,l2,l3,hne]
theorem ah0 {x k:Nat} (hx:NB k x):(txt x).length≤k+1:=by
 refine yu (k+1) (by omega) ?_
 have h1:(2:Nat)^k≤2^(k+1):=Nat.pow_le_pow_right (by decide) (by omega)
 have h2:(2:Nat)^(k+1)≤10^(k+1):=Nat.pow_le_pow_left (by decide) _
 exact Nat.lt_of_lt_of_le hx (Nat.le_trans h1 h2)
theorem anc {z:Int} {k:Nat} (hz:IB k z) (hk:k≤1000000):L.call AP [lV z]=some (.str (wu z)):=by
 have ht:=Rn (x:=z.natAbs) hz (by omega)
 have hb:=ah0 (x:=z.natAbs) hz
 have hb2:1+(txt z.natAbs).length≤1099511627776:=by omega
 unfold wu lV iC
 unfold n9 aQ at *
 generalize (ah z.natAbs).length=N1 at *
 generalize (ah z.natAbs).map ak=l1 at *
 generalize txt z.natAbs=tx at *
 by_cases h:z<0
 ·rw [if_pos h,decide_eq_true h]
  refine aj (P7 ..) ?_
  simp [F8,ht,hb2]
 ·rw [if_neg h,decide_eq_false h]
  refine aj (P7 ..) ?_
  simp [F8,ht]
theorem Wo.low {k:Nat} {n:Int} {d:Nat} {q:Rat} (a:Wo k n d q):q.num=(if n<0 then -((n.natAbs / Nat.gcd d n.natAbs:Nat):Int) else ((n.natAbs / Nat.gcd d n.natAbs:Nat):Int))∧q.den=d / Nat.gcd d n.natAbs:=by
 have hd:d≠0:=by have := a.pos; omega
 have hv:=a.val
 rw [Rat.divInt_ofNat] at hv
 have hn:=Rat.num_mkRat n d
 have hdn:=Rat.den_mkRat n d
 rw [hv,if_neg hd] at hn hdn
 refine ⟨?_,hdn⟩
 rw [hn]
 have hg:((Nat.gcd d n.natAbs:Nat):Int) ∣ n:=Int.ofNat_dvd_left.2 (Nat.gcd_dvd_right ..)
 split
 ·rename_i h
  have e:n = -(n.natAbs:Int):=by omega
  rw [show n / ((Nat.gcd d n.natAbs:Nat):Int) = -((n.natAbs:Int) / ((Nat.gcd d n.natAbs:Nat):Int)) by
   conv=>lhs; rw [e]
   rw [Int.natAbs_neg,Int.natAbs_natCast,Int.neg_ediv_of_dvd (Int.ofNat_dvd.2 (Nat.gcd_dvd_right ..))]]
  rfl
 ·rename_i h
  have e:n=(n.natAbs:Int):=by omega
  conv=>lhs; rw [e]
  rfl
theorem aum {k:Nat} {n:Int} {d:Nat} {q:Rat} (a:Wo k n d q) (hk:k≤10000000):L.call CV [cO n d]=some (cO q.num q.den):=by
 obtain ⟨h1,h2⟩:=a.low
 have hg:=aul (a:=n.natAbs) (b:=d) a.qb.1 a.qb.2 hk
 have gp:0<Nat.gcd d n.natAbs:=Nat.gcd_pos_of_pos_left _ a.pos
 have ng:NB k (Nat.gcd d n.natAbs):=Nat.lt_of_le_of_lt (Nat.gcd_le_left _ a.pos) a.qb.2
 have d1:=U3 gp (A:=n.natAbs) a.qb.1 ng hk
 have d2:=U3 gp (A:=d) a.qb.2 ng hk
 have hi:=He (decide (n<0)) (n.natAbs / Nat.gcd d n.natAbs)
 simp only [decide_eq_true_eq] at hi
 rw [← h1] at hi
 rw [← h2] at d2
 clear h1 h2
 generalize q.num=qn at *
 generalize q.den=qd at *
 generalize n.natAbs / Nat.gcd d n.natAbs=x1 at *
 generalize n.natAbs % Nat.gcd d n.natAbs=x2 at *
 generalize d % Nat.gcd d n.natAbs=x3 at *
 generalize Nat.gcd d n.natAbs=g at *
 clear a ng gp
 unfold cO qC
 unfold lV iC at hi
 generalize decide (n<0)=b0 at *
 generalize decide (qn<0)=b1 at *
 unfold n9 aQ at *
 generalize (ah n.natAbs).length=N1 at *
 generalize (ah n.natAbs).map ak=l1 at *
 generalize (ah qn.natAbs).length=N2 at *
 generalize (ah qn.natAbs).map ak=l2 at *
 generalize (ah qd).length=N3 at *
 generalize (ah qd).map ak=l3 at *
 generalize (ah d).length=N4 at *
 generalize (ah d).map ak=l4 at *
 generalize (ah g).length=N5 at *
 generalize (ah g).map ak=l5 at *
 generalize (ah x1).length=N6 at *
 generalize (ah x1).map ak=l6 at *
 generalize (ah x2).length=N7 at *
 generalize (ah x2).map ak=l7 at *
 generalize (ah x3).length=N8 at *
 generalize (ah x3).map ak=l8 at *
 refine aj (afT ..) ?_
 simp [SN,hg,d1,d2,hi,aS]
theorem yO {k:Nat} {n:Int} {d:Nat} {q:Rat} (a:Wo k n d q) (hk:k≤1000000):L.call AU [cO n d]=some (.str (pI q)):=by
 have hl:=aum a (by omega)
 obtain ⟨h1,h2⟩:=a.low
 have nn:IB k q.num:=by
  have h3:q.num.natAbs≤n.natAbs:=by
   rw [h1]
   split
   ·rw [Int.natAbs_neg,Int.natAbs_natCast]; exact Nat.div_le_self _ _
   ·rw [Int.natAbs_natCast]; exact Nat.div_le_self _ _
  exact Nat.lt_of_le_of_lt h3 a.qb.1
 have nd:NB k q.den:=by rw [h2]; exact Nat.lt_of_le_of_lt (Nat.div_le_self _ _) a.qb.2
 have t1:=anc nn hk
 have t2:=Rn nd (by omega)
 have o1:=jF (x:=1) (by omega)
 have hcm:=U2 (a:=q.den) (b:=1) (nd.iH (by omega)) ((show NB 64 1 by unfold NB; decide).iH (by omega))
 have hb1:(wu q.num).length≤1000002:=by
  unfold wu
  have := ah0 (x:=q.num.natAbs) nn
  split <;> simp <;> omega
 have hb2:=ah0 nd
 rw [show ((1:Nat):Int)=1 from rfl] at o1
 have hpos:=q.den_pos
 unfold pI
 clear h1 h2 a
 generalize wu q.num=tn at *
 generalize txt q.den=td at *
 have hs1:tn.length+1≤1099511627776:=by omega
 have hs2:tn.length+(td.length+1)≤1099511627776:=by omega
 have hs3:tn.length+1+td.length≤1099511627776:=by omega
 unfold cO qC at *
 unfold lV iC at *
 by_cases hd1:q.den=1
 ·rw [if_pos hd1]
  rw [hd1] at hl hcm t2
  rw [show fM 1 1=0 from rfl] at hcm
  clear nn nd
  generalize q.num=qn at *
  unfold n9 aQ at *
  generalize decide (n<0)=b0 at *
  generalize decide (qn<0)=b1 at *
  generalize (ah n.natAbs).length=N1 at *
  generalize (ah n.natAbs).map ak=l1 at *
  generalize (ah qn.natAbs).length=N2 at *
  generalize (ah qn.natAbs).map ak=l2 at *
  generalize (ah d).length=N4 at *
  generalize (ah d).map ak=l4 at *
  generalize (ah 1).length=N3 at *
  generalize (ah 1).map ak=l3 at *
  refine aj (P_ ..) ?_
  simp [Gg,hl,o1,hcm,t1,aS]
 ·rw [if_neg hd1]
  have hne:¬ fM q.den 1=0:=by unfold fM; split <;> (try split) <;> omega
  clear nn nd
  generalize fM q.den 1=cm at *
  generalize q.num=qn at *
  generalize q.den=qd at *
  unfold n9 aQ at *
  generalize decide (n<0)=b0 at *
  generalize decide (qn<0)=b1 at *
  generalize (ah n.natAbs).length=N1 at *
  generalize (ah n.natAbs).map ak=l1 at *
  generalize (ah qn.natAbs).length=N2 at *
  generalize (ah qn.natAbs).map ak=l2 at *
  generalize (ah d).length=N4 at *
  generalize (ah d).map ak=l4 at *
  generalize (ah 1).length=N3 at *
  generalize (ah 1).map ak=l3 at *
  generalize (ah qd).length=N5 at *
  generalize (ah qd).map ak=l5 at *
  refine aj (P_ ..) ?_
  simp [Gg,hl,o1,hcm,hne,t1,t2,hs1,hs2,hs3,aS]
end Go.Ev.Code
end
