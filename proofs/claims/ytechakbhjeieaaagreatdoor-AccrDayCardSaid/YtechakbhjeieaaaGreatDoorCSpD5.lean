/- Part of accrDay_card. -/
import Derived.Test.YtechakbhjeieaaaGreatDoorCSpD4
set_option linter.unusedVariables false
set_option linter.unusedSimpArgs false
section
namespace Go.Ev.Code
open Go Go.Ev
theorem z_ (b:aQ) {k:Nat} (hk:k≤100000):L.call iQ [aX b,.int .i64 k]=some (okD (anch b k)):=by
 have hm:=Lm b
 have ha:=G8 b.b_ (-(k:Int)*months b) b.ends
 have hmc:=rC b
 have e1:IntKind.i64.wrap (-(k:Int)) = -(k:Int):=wrap64 _ (by omega)
 have e0:IntKind.i64.wrap (0-(k:Int)) = -(k:Int):=by rw [wrap64 _ (by omega)]; omega
 have e2:IntKind.i64.wrap (-(k:Int)*months b) = -(k:Int)*months b:=by
  refine wrap64 _ ?_
  rcases hmc with h | h | h | h | h <;> rw [h] <;> omega
 unfold anch
 generalize hx : -(k:Int)*months b=x at *
 generalize hr:r_ b.b_ x b.ends=r at *
 generalize months b=mo at *
 obtain ⟨i,m,f,c,rd,n,s,e,ex⟩:=b
 unfold aX aO at *
 simp only at *
 refine aN VW rfl (VP ..) ?_
 have e2':IntKind.i64.wrap (-((k:Int)*mo))=x:=by rw [← e2,← hx,Int.neg_mul]
 have hx' : -((k:Int)*mo)=x:=by rw [← hx,Int.neg_mul]
 cases r with
 | none=>simp [okD] at ha; simp [BL,hm,e0,e1,e2,e2',hx,hx',ha,okD]
 | some d=>simp [okD] at ha; simp [BL,hm,e0,e1,e2,e2',hx,hx',ha,okD]
theorem arX {b:aQ} {K:Nat} (hK:K≤90000) (hgo:∀ i,i<K→∃ d,anch b i=some d∧b.issue≤(d:Int)) (hst:∀ d,anch b K=some d→(d:Int)<b.issue):∀ (j k:Nat),k+j=K→1≤k →
  L.loop [1,4,5] [1,4] jm 1 [.loc 0 0,.bf 1 0 k 1,.int .i64 k] [.live (aO b),.live (ints (eH b k))] =
    some (.exit 0,[.loc 0 0,.bf 1 0 K 1],[.live (aO b),.live (ints (eH b K))]):=by
 intro j
 induction j with
 | zero =>
   intro k hk h1
   have hkK:k=K:=by omega
   subst hkK
   have ha:=z_ b (k:=k) (by omega)
   have hcl:=Ap (eH b k) 1 11
   have hl:(ints (eH b k)).length=k:=by rw [yt,qU]
   generalize ints (eH b k)=l at *
   generalize hr:anch b k=r at *
   obtain ⟨i,m,f,c,rd,n,s,e,ex⟩:=b
   unfold aX aO at *
   simp only at *
   refine aJ (Ai ..) ?_
   cases r with
   | none=>simp [okD] at ha; simp [o_,ha,hcl]
   | some d =>
     have g:(d:Int)<i:=hst d rfl
     simp [okD] at ha; simp [o_,ha,g,hcl]
 | succ j ih =>
   intro k hk h1
   have hn:=ih (k+1) (by omega) (by omega)
   have ha:=z_ b (k:=k) (by omega)
   obtain ⟨d,hd,hdi⟩:=hgo k (by omega)
   rw [TV,hd,Option.getD_some,acJ] at hn
   rw [hd] at ha
   have hcl:=Ap (eH b k) 1 11
   have hl:(ints (eH b k)).length=k:=by rw [yt,qU]
   generalize ints (eH b k)=l at *
   generalize ints (eH b K)=lK at *
   have htk:l.take k=l:=List.take_of_length_le (by omega)
   have hlen:k+1≤4294967296:=by omega
   have e1:IntKind.i64.wrap ((k:Int)+1)=((k+1:Nat):Int):=by rw [wrap64 _ (by omega)]; omega
   obtain ⟨i,m,f,c,rd,n,s,e,ex⟩:=b
   unfold aX aO at *
   simp only at *
   simp [okD] at ha hn
   have g:¬ (d:Int)<i:=by omega
   refine aJ (Ai ..) ?_
   simp [o_,ha,g,hcl,htk,hl,hlen,e1,iM,hn]
theorem amx {b:aQ} {K:Nat} (hK:K≤90000) (h1:1≤K) (hgo:∀ i,i<K→∃ d,anch b i=some d∧b.issue≤(d:Int)) (hst:∀ d,anch b K=some d→(d:Int)<b.issue) :
  L.loop [1,4,5] [1,4] jm 1 [.loc 0 0,.bH,.int .i64 0] [.live (aO b)] =
    some (.exit 0,[.loc 0 0,.bf 1 0 K 1],[.live (aO b),.live (ints (eH b K))]):=by
 have hn:=arX hK hgo hst (K-1) 1 (by omega) (by omega)
 have ha:=z_ b (k:=0) (by omega)
 obtain ⟨d,hd,hdi⟩:=hgo 0 (by omega)
 rw [show eH b 1=[(anch b 0).getD 0] by simp [eH],hd,Option.getD_some,show ((1:Nat):Int)=1 from rfl] at hn
 rw [hd] at ha
 generalize ints (eH b K)=lK at *
 obtain ⟨i,m,f,c,rd,n,s,e,ex⟩:=b
 unfold aX aO at *
 simp only at *
 simp [okD,ints] at ha hn
 have g:¬ (d:Int)<i:=by omega
 refine aJ (Ai ..) ?_
 simp [o_,ha,g,iM,wrap64,hn]
theorem arY {b:aQ} {days:List Nat} (hd:days.length≤90000):∀ (r:List Nat) (f:Nat) (done:List Nat) (acc:List (Int×Int)),days=r.reverse++f::done→acc≠[]→acc.length+r.length≤90000 →
  L.loop [1,4,8,9] [1,4,8] iE 2 [.loc 0 0,.bf 1 0 days.length 1,.bf 2 0 acc.length 2,.int .i64 r.length] [.live (aO b),.live (ints days),.live (bI acc)] =
    some (.exit 2,[.loc 0 0,.bf 1 0 days.length 1,.bf 2 0 (acc.length+r.length) 2],[.live (aO b),.live (ints days),.live (bI (acc++dZ f r))]):=by
 have hcl:=Ap days 2 11
 have hbc:=mF b 2
 intro r
 induction r with
 | nil =>
   intro f done acc hdd hne hal
   have hpc:=jB acc 2 11
   simp only [dZ,List.append_nil,List.length_nil,Nat.add_zero]
   generalize aO b=B at *
   generalize bI acc=pc at *
   generalize ints days=id at *
   generalize days.length=K at *
   refine aJ (tY ..) ?_
   simp [pF,hcl,hbc,hpc]
 | cons q r ih =>
   intro f done acc hdd hne hal
   rw [List.length_cons] at hal
   have hdd2:days=r.reverse++q::(f::done):=by rw [hdd]; simp
   have hn:=ih q (f::done) (acc++[((f:Int),(q:Int))]) hdd2 (by simp) (by simp; omega)
   have hmk:acc++dZ f (q::r)=acc++[((f:Int),(q:Int))]++dZ q r:=by simp [dZ]
   rw [← hmk] at hn
   have hl2:days.length=r.length+1+(done.length+1):=by rw [hdd]; simp; omega
   have g1:(ints days)[r.length+1]?=some (.int .i64 f):=by rw [hdd]; simp [ints]
   have g2:(ints days)[r.length]?=some (.int .i64 q):=by rw [hdd2]; simp [ints]
   have hpc:=jB acc 2 11
   rw [acR] at hn
   have hpl:=CZ acc
   rw [show bI [((f:Int),(q:Int))]=[.int .i64 f,.int .i64 q] from rfl,List.length_append,List.length_singleton,show acc.length+1+r.length=acc.length+(r.length+1) by omega] at hn
   have htk:(bI acc).take (acc.length*2)=bI acc:=List.take_of_length_le (by omega)
   have hlen:acc.length+1≤4294967296:=by omega
   rw [List.length_cons]
   obtain ⟨P,hP⟩:∃ P,P=r.length+1:=⟨_,rfl⟩
   have e1:IntKind.i64.wrap ((P:Int)-1)=(r.length:Int):=by rw [wrap64 _ (by omega)]; omega
   rw [← hP] at g1 hn ⊢
   have h1:P<days.length:=by omega
   have h2:r.length<days.length:=by omega
   have h1I:(P:Int)<(days.length:Int):=by omega
   have h2I:(r.length:Int)<(days.length:Int):=by omega
   have h0:(0:Int)<(P:Int):=by omega
   have h0n:0<P:=by omega
   clear hmk hdd hdd2 ih hP hl2
   generalize bI (acc++dZ f (q::r))=pz at *
   generalize bI acc=pc at *
   generalize aO b=B at *
   generalize ints days=id at *
   generalize days.length=K at *
   generalize acc.length=M at *
   generalize r.length=R at *
   refine aJ (tY ..) ?_
   simp [pF,hcl,hbc,hpc,h0,h0n,h1,h2,h1I,h2I,g1,g2,e1,qE,htk,hpl,hlen,hn]
theorem amy {b:aQ} {days:List Nat} (hd:days.length≤90000) {q:Nat} {r:List Nat} {f:Nat} (hdd:days=(q::r).reverse++[f]) :
  L.loop [1,4,8,9] [1,4,8] iE 2 [.loc 0 0,.bf 1 0 days.length 1,.bH,.int .i64 ((r.length+1:Nat):Int)] [.live (aO b),.live (ints days)] =
    some (.exit 2,[.loc 0 0,.bf 1 0 days.length 1,.bf 2 0 (r.length+1) 2],[.live (aO b),.live (ints days),.live (bI (dZ f (q::r)))]):=by
 have hcl:=Ap days 2 11
 have hbc:=mF b 2
 have hdd2:days=r.reverse++q::[f]:=by rw [hdd]; simp
 have hl2:days.length=r.length+2:=by rw [hdd]; simp
 have hn:=arY (b:=b) hd r q [f] [((f:Int),(q:Int))] hdd2 (by simp) (by simp; omega)
 rw [show [((f:Int),(q:Int))]++dZ q r=dZ f (q::r) from rfl,show bI [((f:Int),(q:Int))]=[.int .i64 f,.int .i64 q] from rfl,List.length_singleton,Nat.add_comm 1 r.length] at hn
 have g1:(ints days)[r.length+1]?=some (.int .i64 f):=by rw [hdd]; simp [ints]
 have g2:(ints days)[r.length]?=some (.int .i64 q):=by rw [hdd2]; simp [ints]
 obtain ⟨P,hP⟩:∃ P,P=r.length+1:=⟨_,rfl⟩
 have e1:IntKind.i64.wrap ((P:Int)-1)=(r.length:Int):=by rw [wrap64 _ (by omega)]; omega
 rw [← hP] at g1 hn ⊢
 have h1:P<days.length:=by omega
 have h2:r.length<days.length:=by omega
 have h1I:(P:Int)<(days.length:Int):=by omega
 have h2I:(r.length:Int)<(days.length:Int):=by omega
 have h0:(0:Int)<(P:Int):=by omega
 have h0n:0<P:=by omega
 clear hdd hdd2 hP hl2
 generalize bI (dZ f (q::r))=pz at *
 generalize aO b=B at *
 generalize ints days=id at *
 generalize days.length=K at *
 generalize r.length=R at *
 refine aJ (tY ..) ?_
 simp [pF,hcl,hbc,h0,h0n,h1,h2,h1I,h2I,g1,g2,e1,qE,hn]
def RZ:Err×List (Int×Int)→D
 | (none,ps) => .bg [eu ps,.bool true]
 | (some _,_) => .bg [.sl 0 [],.bool false]
theorem O6 {b:aQ} (hchk:chk b=none):L.call dY [aX b]=some (RZ (aZ b)):=by
 have hm:=(dX hchk).2.1
 obtain ⟨k1,k2,k3⟩:=Ht hm
 have kp:=JO hchk
 have k199:=apo hchk
 unfold aZ
 rw [hchk]
 simp only
 by_cases hh:MJ b=true
 ·
  rw [if_pos hh]
  obtain ⟨c,hc,hci⟩:∃ c,anch b (bT b)=some c∧(c:Int)=b.issue:=by
   unfold MJ at hh
   split at hh
   ·rename_i d hd; exact ⟨d,hd,by simpa using hh⟩
   ·simp at hh
  have hgo:∀ i,i<bT b+1→∃ d,anch b i=some d∧b.issue≤(d:Int):=by
   intro i hi
   rcases Nat.lt_or_eq_of_le (Nat.lt_succ_iff.1 hi) with h | h
   ·obtain ⟨d,h1,h2⟩:=k1 i h
    exact ⟨d,h1,by omega⟩
   ·rw [h]; exact ⟨c,hc,by omega⟩
  have hst:∀ d,anch b (bT b+1)=some d→(d:Int)<b.issue:=by
   intro d hd
   have := aaJ hm (Nat.lt_succ_self _) hc hd
   omega
  have l1:=amx (b:=b) (K:=bT b+1) (by omega) (by omega) hgo hst
  have hraw:dW b=dZ c (eH b (bT b)).reverse:=by unfold dW; rw [hci]
  have hne:(eH b (bT b)).reverse≠[]:=by
   intro h
   have := congrArg List.length h
   rw [List.length_reverse,qU] at this
   simp at this; omega
  obtain ⟨q,r,hqr⟩:=List.exists_cons_of_ne_nil hne
  have hdd:eH b (bT b+1)=(q::r).reverse++[c]:=by rw [← hqr,List.reverse_reverse,TV,hc]; rfl
  have hlen:=qU b (bT b+1)
  have hrl:r.length+1=bT b:=by
   have := congrArg List.length hqr
   rw [List.length_reverse,qU] at this
   simp at this; omega
  have l2:=amy (b:=b) (days:=eH b (bT b+1)) (by omega) hdd
  rw [hlen,hrl] at l2
  rw [hqr] at hraw
  rw [← hraw] at l2
  have hg:(ints (eH b (bT b+1)))[bT b]?=some (.int .i64 c):=by
   rw [TV,hc,acJ,Option.getD_some,List.getElem?_append_right (by rw [yt,qU]; omega),yt,qU]
   simp
  have hpl:=CZ (dW b)
  have hrp:=uG b
  rw [hrp] at hpl
  have htk:(bI (dW b)).take (bT b*2)=bI (dW b):=List.take_of_length_le (by omega)
  have hfz:∀ m,lG (fz 10) (bI (dW b)) m=some (bI (dW b),m):=fun m=>Jj (dW b) 9 m
  have hpc:=jB (dW b) 0 11
  show L.call dY [aX b]=some (D.bg [eu (dW b),.bool true])
  unfold eu
  rw [hrp]
  generalize bI (dW b)=pc at *
  generalize ints (eH b (bT b+1))=id at *
  clear hgo hst k1 k2 hdd hqr hraw hne hrl hlen hc
  generalize bT b=K at *
  have e1:IntKind.i64.wrap (((K+1:Nat):Int)-1)=(K:Int):=by rw [wrap64 _ (by omega)]; omega
  have e1':IntKind.i64.wrap ((K:Int)+1-1)=(K:Int):=by rw [wrap64 _ (by omega)]; omega
  have e1'':IntKind.i64.wrap (K:Int)=(K:Int):=wrap64 _ (by omega)
  have hKI:(K:Int)<(K:Int)+1:=by omega
  obtain ⟨i,m,f,cp,rd,n,s,e,ex⟩:=b
  unfold aX aO at *
  simp only at *
  refine aN Ed rfl (Eb ..) ?_
  simp [jM,l1,e1,e1',e1'',l2,hg,hKI,hci,hpc,hpl,hfz,htk]
 ·rw [if_neg hh]
  have hgo:∀ i,i<bT b→∃ d,anch b i=some d∧b.issue≤(d:Int):=by
   intro i hi
   obtain ⟨d,h1,h2⟩:=k1 i hi
   exact ⟨d,h1,by omega⟩
  have hst:∀ d,anch b (bT b)=some d→(d:Int)<b.issue:=by
   intro d hd
   have h1:¬ b.issue<(d:Int):=fun h=>k2 ⟨d,hd,h⟩
   have h2:(d:Int)≠b.issue:=by
    intro h
    apply hh
    unfold MJ
    rw [hd]
    simpa using h
   omega
  have l1:=amx (b:=b) (K:=bT b) (by omega) kp hgo hst
  have hlen:=qU b (bT b)
  have hne:(eH b (bT b)).reverse≠[]:=by
   intro h
   have := congrArg List.length h
   rw [List.length_reverse,hlen] at this
   simp at this; omega
  obtain ⟨c,r0,hqr⟩:=List.exists_cons_of_ne_nil hne
  have hdd0:eH b (bT b)=r0.reverse++[c]:=by
   have := congrArg List.reverse hqr
   rw [List.reverse_reverse] at this
   rw [this]; simp
  have hrl:r0.length+1=bT b:=by
   have := congrArg List.length hqr
   rw [List.length_reverse,hlen] at this
   simp at this; omega
  have hraw:dW b=(b.issue,(c:Int))::dZ c r0:=by unfold dW; rw [hqr]; rfl
  have hg:(ints (eH b (bT b)))[r0.length]?=some (.int .i64 c):=by
   rw [hdd0]; simp [ints]
  have hci:¬ (c:Int)=b.issue:=by
   intro h
   have h1:=k1 (bT b-1) (by omega)
   obtain ⟨d,h2,h3⟩:=h1
   have h4:(eH b (bT b))[bT b-1]?=some d:=by
    unfold eH
    rw [List.getElem?_map,List.getElem?_range (by omega)]
    simp [h2]
   rw [hdd0,show bT b-1=r0.length by omega] at h4
   simp at h4
   omega
  rw [hraw]
  have hb2:=mF b 2
  cases r0 with
  | nil =>
    have hK:bT b=1:=by simpa using hrl.symm
    rw [hK] at l1 hg
    simp only [List.length_nil] at hg
    have l2:L.loop [1,4,8,9] [1,4,8] iE 2 [.loc 0 0,.bf 1 0 1 1,.bH,.int .i64 0] [.live (aO b),.live (ints (eH b 1))] =
      some (.exit 2,[.loc 0 0,.bf 1 0 1 1,.bH],[.live (aO b),.live (ints (eH b 1))]):=by
     have hcl:=Ap (eH b 1) 2 11
     generalize ints (eH b 1)=id at *
     generalize aO b=B at *
     refine aJ (tY ..) ?_
     simp [pF,hcl,hb2]
    simp only [dZ]
    generalize ints (eH b 1)=id at *
    clear hgo hst k1 k2 hqr hraw hne hrl hlen hdd0
    have e0:IntKind.i64.wrap 0=0:=by decide
    obtain ⟨i,m,f,cp,rd,n,s,e,ex⟩:=b
    unfold aX aO at *
    simp only at *
    refine aN Ed rfl (Eb ..) ?_
    by_cases hs0:s=0
    ·subst hs0
     simp [jM,l1,e0,l2,hg,hci,RZ]
    ·by_cases hs2:s=2
     ·subst hs2
      simp [jM,l1,e0,l2,hg,hci,RZ,eu,bI,qE]
     ·simp [jM,l1,e0,l2,hg,hci,RZ,hs0,hs2,eu,bI,qE]
  | cons q r =>
    rw [List.length_cons] at hrl hg
    have l2:=amy (b:=b) (days:=eH b (bT b)) (by omega) hdd0
    rw [hlen] at l2
    have hK2:bT b=r.length+1+1:=hrl.symm
    have hml:=Xx c (q::r)
    rw [List.length_cons] at hml
    show L.call dY [aX b]=some (RZ (if b.stub=0 then (some (5,Eu),[]) else if b.stub=2 then (none,(b.issue,(q:Int))::dZ q r) else (none,(b.issue,(c:Int))::dZ c (q::r))))
    obtain ⟨p,hp⟩:∃ p,p=dZ c (q::r):=⟨_,rfl⟩
    rw [← hp] at l2 hml ⊢
    have hp0:p=((c:Int),(q:Int))::dZ q r:=hp
    have hmr:=Xx q r
    have hpl:=CZ p
    rw [hml] at hpl
    have hpr:=CZ (dZ q r)
    rw [hmr] at hpr
    have hpe:bI p = .int .i64 c :: .int .i64 q::bI (dZ q r):=by rw [hp0]; rfl
    have htk:(bI p).take ((r.length+1)*2)=bI p:=List.take_of_length_le (by omega)
    have hfz:∀ m,lG (fz 10) (bI p) m=some (bI p,m):=fun m=>Jj p 9 m
    have hpc:=jB p 0 11
    have hfr:∀ m,lG (fz 10) (bI (dZ q r)) m=some (bI (dZ q r),m):=fun m=>Jj _ 9 m
    have hpcr:=jB (dZ q r) 0 11
    have htr:(bI (dZ q r)).take (r.length*2)=bI (dZ q r):=List.take_of_length_le (by omega)
    rw [hK2] at l1 l2 hg
    generalize ints (eH b (r.length+1+1))=id at *
    clear hgo hst k1 k2 hqr hraw hne hlen hdd0 hp
    have e1:IntKind.i64.wrap (((r.length+1+1:Nat):Int)-1)=((r.length+1:Nat):Int):=by rw [wrap64 _ (by omega)]; omega
    have h1:r.length+1<r.length+1+1:=by omega
    have h1I:((r.length+1:Nat):Int)<((r.length+1+1:Nat):Int):=by omega
    have h0I:(0:Int)<((r.length+1:Nat):Int):=by omega
    have hR2:(r.length+1)*2=r.length*2+1+1:=by omega
    have hmx:r.length+1≤4294967296:=by omega
    have hmx2:1+(r.length+1)≤4294967296:=by omega
    obtain ⟨P,hP⟩:∃ P,P=r.length+1:=⟨_,rfl⟩
    obtain ⟨P2,hP2⟩:∃ P2,P2=r.length+1+1:=⟨_,rfl⟩
    rw [← hP2] at l1 l2 e1 h1 h1I
    rw [← hP] at l2 hg e1 h1 h1I h0I htk hpl hmx hmx2 hR2 hml
    have h0n:0<P:=by omega
    obtain ⟨i,m,f,cp,rd,n,s,e,ex⟩:=b
    unfold aX aO at *
    simp only at *
    refine aN Ed rfl (Eb ..) ?_
    by_cases hs0:s=0
    ·subst hs0
     rw [if_pos rfl]
     simp [jM,l1,e1,l2,hg,h1,h1I,hci,RZ]
    ·rw [if_neg hs0]
     by_cases hs2:s=2
     ·subst hs2
      rw [if_pos rfl]
      rw [hpe] at l2
      have hb1:P*2≤(bI (dZ q r)).length+1+1:=by omega
      have hPr:r.length+1=P:=hP.symm
      simp [jM,l1,e1,l2,hg,h1,h1I,h0I,h0n,hci,RZ,eu,bI,hfr,hpcr,htr,hR2,hb1,hpr,hmr,hPr]
     ·rw [if_neg hs2]
      have h1P:1+P=P+1:=Nat.add_comm 1 P
      have hP13:(P+1)*2=P*2+1+1:=by omega
      have hP5:P≤4294967295:=by omega
      simp [jM,l1,e1,l2,hg,h1,h1I,h0I,h0n,hci,RZ,hs0,hs2,eu,bI,qE,hpc,hfz,htk,hpl,hmx,hmx2,hml,h1P,hP13,hP5]
end Go.Ev.Code
end
section
namespace Go.Ev.Code
open Go Go.Ev
theorem ZG (s:List UInt8) {n:Nat} (hn:n≤1000000):L.call mP [.str s,.int .i64 n]=some (.str (s.take n)):=by
 have hb:oW false true s.length [.int .i64 (min (s.length:Int) n)]=some (0,min s.length n):=by
  have h1:(0:Int)≤min (s.length:Int) n:=by omega
  have h2:min (s.length:Int) n≤s.length:=by omega
  have h3:(min (s.length:Int) n).toNat=min s.length n:=by omega
  simp only [oW,bnd,h1,h2,and_self,if_true,h3,Option.bind_some]
 have ht:s.take (min s.length n)=s.take n:=by
  rcases Nat.le_total s.length n with h | h
  ·rw [Nat.min_eq_left h,List.take_of_length_le (Nat.le_refl _),List.take_of_length_le h]
  ·rw [Nat.min_eq_right h]
 refine aN Zb rfl (Y0 ..) ?_
 simp [OM,hb,ht]
def Qp (b:aQ):aQ:={ b with dH:=b.dH.take 30,dM:=b.dM.take 30 }
theorem ajw (b:aQ):L.call pR [aX b]=some (aX (Qp b)):=by
 obtain ⟨i,m,f,c,rd,n,s,e,ex⟩:=b
 have h1:=ZG c (n:=30) (by decide)
 have h2:=ZG rd (n:=30) (by decide)
 unfold Qp aX aO
 simp only
 simp at h1 h2
 refine aN Za rfl (YZ ..) ?_
 simp [OL,h1,h2]
end Go.Ev.Code
end
section
namespace Go.Ev.Code
open Go Go.Ev
theorem auY (p:Nat):NB (4*p+1) (10^p):=by
 unfold NB
 have h1:10^p≤16^p:=Nat.pow_le_pow_left (by decide) p
 have h2:(16:Nat)^p=2^(4*p):=by rw [Nat.pow_mul]
 have h3:(2:Nat)^(4*p)<2^(4*p+1):=Nat.pow_lt_pow_right (by decide) (by omega)
 omega
theorem amf {s:List UInt8} {n:Int} {p:Nat} (h:Jk s=some (n,p)):QB 300 n (10^p)∧p≤20:=by
 unfold Jk at h
 split at h <;> try (simp at h; done)
 rename_i hs
 have hcl:=Xl 46 (iY s).2
 have hsl:=U3 s
 generalize (iY s).1=ng at *
 have hp0:=fun h=>(Cm (c:=46) (s:=(iY s).2) h).2
 generalize (je 46 (iY s).2).2.2=pt at *
 generalize hw:(je 46 (iY s).2).1=w at *
 generalize hr:(je 46 (iY s).2).2.1=r at *
 unfold xM at h
 split at h <;> try (simp at h; done)
 rename_i hc
 have hw4:=hc.1.2.2.2
 have hrD:r.all jH=true:=by
  cases pt with
  | true=>exact (hc.2.1 rfl).2.2
  | false =>
    have := hp0 rfl
    rw [this]; rfl
 have hall:(w++r).all jH=true:=by rw [List.all_append,hw4,hrD]; rfl
 have hlt:=Qu hall
 have hl:(w++r).length≤60:=by rw [List.length_append]; omega
 have hr20:r.length≤20:=by
  cases pt with
  | true=>exact (hc.2.1 rfl).2.1
  | false =>
    have := hp0 rfl
    rw [this]; simp
 simp at h
 obtain ⟨h1,h2⟩:=h
 subst h2
 have hnb:NB 240 (cZ 0 (w++r)):=(aax hlt).mono (by omega)
 refine ⟨⟨?_,(auY _).mono (by omega)⟩,hr20⟩
 have : n.natAbs=cZ 0 (w++r):=by rw [← h1]; split <;> simp
 unfold IB
 rw [this]
 exact hnb.mono (by omega)
def wiD (s:List UInt8) (lo hi:Int) (fr:Bool):D:=match Jk s with
 | none => .bg [lU 0 1,.int .i64 1]
 | some (n,p)=>if 6<p∨n-lo*(10^p:Nat)<0∨(n-lo*(10^p:Nat)=0∧fr=false)∨0<n-hi*(10^p:Nat) then .bg [lU 0 1,.int .i64 5] else .bg [lU n (10^p),.int .i64 0]
theorem ar2 {z:Int}:Pv z<0↔z<0:=by unfold Pv; split <;> (try split) <;> omega
theorem apT {z:Int}:Pv z=0↔z=0:=by unfold Pv; split <;> (try split) <;> omega
theorem ar4 {z:Int}:0<Pv z↔0<z:=by unfold Pv; split <;> (try split) <;> omega
set_option maxHeartbeats 1000000 in
theorem Et {s:List UInt8} (hs:s.length≤1000) {lo hi:Int} (hlo:0≤lo∧lo≤1000) (hhi:0≤hi∧hi≤1000) (fr:Bool):L.call dR [.str s,.int .i64 lo,.int .i64 hi,.bool fr]=some (wiD s lo hi fr):=by
 have hg:=afq hs
 have hq := @amf s
 have h0:=I_ (n:=0) (by omega)
 have hl:=I_ (n:=lo) (by omega)
 have hh:=I_ (n:=hi) (by omega)
 unfold wiD
 cases hgd:Jk s with
 | none =>
   rw [hgd] at hg
   simp only [gdD] at hg
   unfold qZ at hg
   unfold lU qC at *
   simp only [n9,bG] at *
   generalize decide ((0:Int)<0)=b0 at *
   generalize (aS (0:Int).natAbs).length=N1 at *
   generalize (aS (0:Int).natAbs).map aH=l1 at *
   generalize (aS 1).length=N2 at *
   generalize (aS 1).map aH=l2 at *
   refine aN JB rfl (Jy ..) ?_
   simp [g_,hg,h0,cu]
 | some np =>
   obtain ⟨n,p⟩:=np
   rw [hgd] at hg
   simp only [gdD] at hg
   obtain ⟨q1,q2⟩:=hq hgd
   have hqb:QB 64 lo 1:=⟨jQ (by omega),by unfold NB; decide⟩
   have hqh:QB 64 hi 1:=⟨jQ (by omega),by unfold NB; decide⟩
   have o1:=Yg q1 hqb (by omega)
   have o2:=Yg q1 hqh (by omega)
   rw [Int.natCast_one,Int.mul_one] at o1 o2
   have z1 := @ar2 (n-lo*((10^p:Nat):Int))
   have z2 := @apT (n-lo*((10^p:Nat):Int))
   have z3 := @ar4 (n-hi*((10^p:Nat):Int))
   simp only
   generalize Pv (n-lo*((10^p:Nat):Int))=s1 at *
   generalize Pv (n-hi*((10^p:Nat):Int))=s2 at *
   generalize n-lo*((10^p:Nat):Int)=d1 at *
   generalize n-hi*((10^p:Nat):Int)=d2 at *
   simp only [← z1,← z2,← z3]
   clear z1 z2 z3 q1 hgd hq hqb hqh
   generalize 10^p=tp at *
   unfold lU qC at *
   simp only [n9,bG] at *
   generalize decide ((0:Int)<0)=b0 at *
   generalize decide (n<0)=b1 at *
   generalize decide (lo<0)=b2 at *
   generalize decide (hi<0)=b3 at *
   generalize (aS (0:Int).natAbs).length=N1 at *
   generalize (aS (0:Int).natAbs).map aH=l1 at *
   generalize (aS 1).length=N2 at *
   generalize (aS 1).map aH=l2 at *
   generalize (aS n.natAbs).length=N3 at *
   generalize (aS n.natAbs).map aH=l3 at *
   generalize (aS lo.natAbs).length=N4 at *
   generalize (aS lo.natAbs).map aH=l4 at *
   generalize (aS hi.natAbs).length=N5 at *
   generalize (aS hi.natAbs).map aH=l5 at *
   generalize (aS tp).length=N6 at *
   generalize (aS tp).map aH=l6 at *
   refine aN JB rfl (Jy ..) ?_
   by_cases c1:6<p
   ·have c1I:(6:Int)<p:=by omega
    rw [if_pos (.inl c1)]
    simp [g_,hg,h0,hl,o1,c1,c1I,cu]
   have c1I:¬ (6:Int)<p:=by omega
   by_cases c2:s1<0
   ·rw [if_pos (.inr (.inl c2))]
    simp [g_,hg,h0,hl,o1,c1,c1I,c2,cu]
   by_cases c3:s1=0
   ·cases fr with
    | false =>
      rw [if_pos (.inr (.inr (.inl ⟨c3,rfl⟩)))]
      simp [g_,hg,h0,hl,o1,c1,c1I,c2,c3,cu]
    | true =>
      by_cases c4:0<s2
      ·rw [if_pos (.inr (.inr (.inr c4)))]
       simp [g_,hg,h0,hl,hh,o1,o2,c1,c1I,c2,c3,c4,cu]
      ·rw [if_neg (by intro h; rcases h with h | h | h | h; exact c1 h; exact c2 h; simp at h; exact c4 h)]
       simp [g_,hg,h0,hl,hh,o1,o2,c1,c1I,c2,c3,c4,cu]
   ·by_cases c4:0<s2
    ·rw [if_pos (.inr (.inr (.inr c4)))]
     simp [g_,hg,h0,hl,hh,o1,o2,c1,c1I,c2,c3,c4,cu]
    ·rw [if_neg (by intro h; rcases h with h | h | h | h; exact c1 h; exact c2 h; exact c3 h.1; exact c4 h)]
     simp [g_,hg,h0,hl,hh,o1,o2,c1,c1I,c2,c3,c4,cu]
end Go.Ev.Code
end
section
namespace Go.Ev.Code
open Go Go.Ev
def Q8 (d:Int):List (Int×Int)→Nat→Int
 | [],_ => -1
 | p::r,i=>if p.1≤d∧d<p.2 then (i:Int) else Q8 d r (i+1)
def V_ (ps:List (Int×Int)) (d:Int):Int:=Q8 d ps 0
theorem alI (p:Int×Int) (d:Int):L.call zX [pD p,.ref [.int .i64 d] 0]=some (.bool (decide (p.1≤d∧d<p.2))):=by
 obtain ⟨p1,p2⟩:=p
 unfold pD
 simp only
 refine aN akZ rfl (akP ..) ?_
 by_cases h1:p1≤d
 ·by_cases h2:d<p2 <;> simp [VD,h1,h2]
 ·simp [VD,h1]
def atR (z:Int):Ex×List D×Mem:=if z = -1 then (.exit 0,[.undef],[]) else (.ret,[.int .i64 z],[])
theorem at_loop {d:Int} (all:List (Int×Int)) (hn:all.length≤1000000):∀ (l pre:List (Int×Int)),all=pre++l →
  L.loop [0,1,7,8] [4] fK 0 [eu all,.func zX [.ref [.int .i64 d] 0],.int .i64 all.length,.int .i64 pre.length] [] =
    some (atR (Q8 d l pre.length)):=by
 intro l
 induction l with
 | nil =>
   intro pre hal
   rw [List.append_nil] at hal
   subst hal
   simp only [Q8,atR,if_true]
   unfold eu
   generalize bI all=pc at *
   generalize all.length=n at *
   refine aJ (xW ..) ?_
   simp [kV]
 | cons p r ih =>
   intro pre hal
   have hg:=vO (ps:=all) (i:=pre.length) (p:=p) (by rw [hal]; simp)
   have hlt:pre.length<all.length:=by rw [hal]; simp
   have h1:=alI p d
   have hn2:=ih (pre++[p]) (by rw [hal]; simp)
   rw [List.length_append,List.length_singleton,show ((pre.length+1:Nat):Int)=(pre.length:Int)+1 by omega] at hn2
   have e1:IntKind.i64.wrap ((pre.length:Int)+1)=(pre.length:Int)+1:=wrap64 _ (by omega)
   simp only [Q8]
   obtain ⟨p1,p2⟩:=p
   unfold pD at h1
   unfold eu at *
   simp only at *
   obtain ⟨g1,g2,g3,g4⟩:=hg
   generalize bI all=pc at *
   generalize all.length=n at *
   generalize pre.length=P at *
   generalize Q8 d r (P+1)=z at *
   have hltI:(P:Int)<n:=by omega
   have hneg:¬ (P:Int) = -1:=by omega
   refine aJ (xW ..) ?_
   by_cases h:p1≤d∧d<p2
   ·rw [decide_eq_true h] at h1
    rw [if_pos h]
    unfold atR
    rw [if_neg hneg]
    simp [kV,hlt,hltI,g1,g2,g3,g4,h1]
   ·rw [decide_eq_false h] at h1
    rw [if_neg h]
    simp [kV,hlt,hltI,g1,g2,g3,g4,h1,e1,hn2]
theorem anT {ps:List (Int×Int)} (hn:ps.length≤1000000) (d:Int):L.call DX [eu ps,.int .i64 d]=some (.int .i64 (V_ ps d)):=by
 have hl:=at_loop (d:=d) ps hn ps [] rfl
 simp only [List.length_nil] at hl
 have hi:L.call gW [eu ps,.func zX [.ref [.int .i64 d] 0]]=some (.int .i64 (V_ ps d)):=by
  unfold V_
  unfold eu at *
  generalize Q8 d ps 0=z at *
  generalize bI ps=pc at *
  generalize ps.length=n at *
  refine aN LW rfl (LV ..) ?_
  unfold atR at hl
  by_cases hz:z = -1
  ·rw [if_pos hz] at hl
   subst hz
   simp at hl
   simp [sG,hl]
  ·rw [if_neg hz] at hl
   simp at hl
   simp [sG,hl]
 have hfz:∀ m,lG (fz 11) (bI ps) m=some (bI ps,m):=fun m=>Jj ps 10 m
 generalize V_ ps d=z at *
 unfold eu at *
 generalize bI ps=pc at *
 generalize ps.length=n at *
 refine aN aoH rfl (aoy ..) ?_
 simp [agJ,hfz,hi]
theorem aoP {d:Int}:∀ (l:List (Int×Int)) (i:Nat),(∀ (j:Nat) (p q:Int×Int),l[j]?=some q→l[j+1]?=some p→p.1=q.2)→(∀ p,l[0]?=some p→p.1≤d)→(∃ p,l[l.length-1]?=some p∧d<p.2) →
  ∃ (k:Nat) (p:Int×Int),l[k]?=some p∧p.1≤d∧d<p.2∧Q8 d l i=(i:Int)+k
 | [],i,_,_,h=>by obtain ⟨p,hp,_⟩:=h; simp at hp
 | p::r,i,hnx,h0,hl=>by
   have hp:=h0 p rfl
   by_cases h:d<p.2
   ·exact ⟨0,p,rfl,hp,h,by simp only [Q8]; rw [if_pos ⟨hp,h⟩]; simp⟩
   ·cases r with
    | nil =>
      obtain ⟨x,hx,hd⟩:=hl
      simp at hx
      subst hx
      exact absurd hd h
    | cons q r =>
      obtain ⟨k,x,h1,h2,h3,h4⟩:=aoP (d:=d) (q::r) (i+1) (fun j p q hq hp=>hnx (j+1) p q (by simpa using hq) (by simpa using hp))
       (fun x hx=>by
        have hx:q=x:=by simpa using hx
        have h5:q.1=p.2:=hnx 0 q p rfl rfl
        rw [← hx,h5]; omega) (by
        obtain ⟨x,hx,hd⟩:=hl
        exact ⟨x,by simpa using hx,hd⟩)
      refine ⟨k+1,x,by simpa using h1,h2,h3,?_⟩
      simp only [Q8] at h4 ⊢
      rw [if_neg (fun h5=>h h5.2),h4]
      omega
def iZ (b:aQ) (s:Int):Int×Int:=((aZ b).2[(V_ (aZ b).2 s).toNat]?).getD (0,0)
theorem Jm {b:aQ} {s:Int} (h:(leftB b s).1=none):(dP b).1=none∧(aZ b).1=none∧b.issue≤s∧s<b.b_:=by
 unfold leftB at h
 split at h
 ·simp at h
 ·rename_i h0
  split at h
  ·simp at h
  ·exact ⟨h0,(tq h0).1,by omega,by omega⟩
theorem Qx {b:aQ} {s:Int} (h0:(aZ b).1=none) (h1:b.issue≤s) (h2:s<b.b_):∃ k:Nat,V_ (aZ b).2 s=k∧(aZ b).2[k]?=some (iZ b s)∧(iZ b s).1≤s∧s<(iZ b s).2:=by
 have hw:=(iD h0).2
 obtain ⟨k,p,g1,g2,g3,g4⟩:=aoP (d:=s) (aZ b).2 0 (fun j p q hq hp=>(hw.next j p q hq hp).1) (fun p hp=>by rw [hw.first p hp]; exact h1) (by
  have hpos:0<(aZ b).2.length:=List.length_pos_iff.2 hw.ne
  have hg:=List.getElem?_eq_getElem (l:=(aZ b).2) (i:=(aZ b).2.length-1) (by omega)
  exact ⟨_,hg,by rw [hw.last _ hg]; exact h2⟩)
 have hk:V_ (aZ b).2 s=k:=by unfold V_; rw [g4]; simp
 have hp:iZ b s=p:=by
  unfold iZ
  rw [hk,Int.toNat_natCast,g1]; rfl
 exact ⟨k,hk,by rw [hp]; exact g1,by rw [hp]; exact g2,by rw [hp]; exact g3⟩
def ain (b:aQ) (s:Int):D:=match (leftB b s).1 with
 | some e => .bg [.agg [.int .i64 0,.int .i64 0],Dw (some e)]
 | none => .bg [pD (iZ b s),.aK]
theorem V8 {b:aQ} (hc:b.dH.length≤1000000) (hr:b.dM.length≤1000000) (s:Int):L.call w_ [aX b,.int .i64 s]=some (ain b s):=by
 have hl:=ajm hc hr s
 have hpl:=KX hc hr
 have hbc:=fun n=>mF b n
 have hbl:=rW b
 have hbd:=ql b 0 10
 unfold ain
 unfold P8 flD at hl
 have hfcl:=JM (leftB b s).2 0 11
 cases he:(leftB b s).1 with
 | some e =>
   rw [he] at hl
   generalize (leftB b s).2.length=N at *
   generalize fP (leftB b s).2=fc at *
   unfold aX at *
   generalize aO b=B at *
   have htk:B.take 9=B:=List.take_of_length_le (by omega)
   rcases e with ⟨c,_ | t⟩
   ·simp only [Dw] at *
    refine aN O1 rfl (OY ..) ?_
    simp [Ja,hl,hbc,hbl,hbd,htk]
   ·simp only [Dw,jf] at *
    refine aN O1 rfl (OY ..) ?_
    simp [Ja,hl,hbc,hbl,hbd,htk]
 | none =>
   rw [he] at hl
   obtain ⟨h1,h2,h3,h4⟩:=Jm he
   obtain ⟨k,k1,k2,k3,k4⟩:=Qx h2 h3 h4
   have hplen:=(iD h2).2.len
   have hat:=anT (ps:=(aZ b).2) (by omega) s
   rw [k1] at hat
   have hg:=vO k2
   have hklt:k<(aZ b).2.length:=(List.getElem?_eq_some_iff.1 k2).1
   unfold Bf at hpl
   rw [h2] at hpl
   simp only [fE] at hpl
   simp only [Dw] at hl
   have hpcl:=jB (aZ b).2 0 11
   have hpcl':=jB (aZ b).2 0 10
   unfold eu at *
   unfold pD
   generalize iZ b s=p at *
   obtain ⟨p1,p2⟩:=p
   simp only at *
   obtain ⟨g1,g2,g3,g4⟩:=hg
   generalize (leftB b s).2.length=N at *
   generalize fP (leftB b s).2=fc at *
   generalize (aZ b).2.length=M at *
   generalize bI (aZ b).2=pc at *
   unfold aX at *
   generalize aO b=B at *
   have htk:B.take 9=B:=List.take_of_length_le (by omega)
   have hkI:(k:Int)<M:=by omega
   refine aN O1 rfl (OY ..) ?_
   simp [Ja,hl,hbc,hbl,hbd,htk,hpl,hat,hklt,hkI,g1,g2,g3,g4]
def Ox (b:aQ) (s:Int):Bool:=decide (0<b.ex) && decide ((iZ b s).2-b.ex≤s)
def exD (b:aQ) (s:Int):D:=match (leftB b s).1 with
 | some e => .bg [.bool false,Dw (some e)]
 | none => .bg [.bool (Ox b s),.aK]
theorem RH {b:aQ} {s:Int} (h:(leftB b s).1=none):bn (iZ b s).1∧bn (iZ b s).2∧(iZ b s).1<(iZ b s).2∧(iZ b s).1≤s∧s<(iZ b s).2∧(iZ b s)∈(aZ b).2:=by
 obtain ⟨h1,h2,h3,h4⟩:=Jm h
 obtain ⟨k,k1,k2,k3,k4⟩:=Qx h2 h3 h4
 have hm:=List.mem_of_getElem? k2
 have := kC h2 hm
 exact ⟨this.1,this.2.1,this.2.2,k3,k4,hm⟩
theorem am5 {b:aQ} (hc:b.dH.length≤1000000) (hr:b.dM.length≤1000000) (s:Int):L.call FP [aX b,.int .i64 s]=some (exD b s):=by
 have hp:=V8 hc hr s
 unfold ain at hp
 unfold exD
 cases he:(leftB b s).1 with
 | some e =>
   rw [he] at hp
   have hecl:=ama (some e) 0
   obtain ⟨i,m,fq,c,rd,n,st,en,ex⟩:=b
   unfold aX aO at *
   simp only at *
   rcases e with ⟨c,_ | t⟩
   ·simp only [Dw] at *
    refine aN Y8 rfl (YQ ..) ?_
    simp [OI,hp]
   ·simp only [Dw,jf] at *
    refine aN Y8 rfl (YQ ..) ?_
    simp [OI,hp]
 | none =>
   rw [he] at hp
   obtain ⟨d1,d2,d3,d4,d5,d6⟩:=RH he
   have hex:=aiY (mJ (Jm he).2.1)
   unfold Ox
   unfold pD at hp
   generalize iZ b s=p at *
   obtain ⟨p1,p2⟩:=p
   simp only at *
   have e1:IntKind.i64.wrap (p2-b.ex)=p2-b.ex:=wrap64 _ (by omega)
   obtain ⟨i,m,fq,c,rd,n,st,en,ex⟩:=b
   unfold aX aO at *
   simp only at *
   refine aN Y8 rfl (YQ ..) ?_
   by_cases h1:0<ex
   ·by_cases h2:p2-ex≤s <;> simp [OI,hp,h1,e1,h2]
   ·simp [OI,hp,h1]
def KW (b:aQ) (p:Int×Int) (x y:Int):Rat:=match nY b p x y with
 | .ok q=>q
 | .error _=>0
def XF (b:aQ) (p:Int×Int):Rat:=match sD b p with
 | .ok q=>q
 | .error _=>0
def yT (b:aQ) (p:Int×Int) (s:Int):Rat:=if b.count=4∧regular b p=true then XF b p*Rat.divInt (s-p.1) (p.2-p.1) else LZ b*KW b p p.1 s
def B_ (b:aQ) (s:Int):Rat:=if Ox b s=true then yT b (iZ b s) s-XF b (iZ b s) else yT b (iZ b s) s
theorem afj {b:aQ} {p:Int×Int} {q:Rat} (h:sD b p = .ok q):XF b p=q:=by unfold XF; rw [h]
theorem acQ {b:aQ} {p:Int×Int} {x y:Int} {q:Rat} (h:nY b p x y = .ok q):KW b p x y=q:=by unfold KW; rw [h]
theorem ad3 {b:aQ} (h:(dP b).1=none) {p:Int×Int} (hp:p∈(aZ b).2):∃ q,sD b p = .ok q:=by
 obtain ⟨h0,p0,r,q,hps,hq,_⟩:=tq h
 obtain ⟨i,hi⟩:=List.getElem?_of_mem hp
 have hw:=(iD h0).2
 cases i with
 | zero =>
   rw [hps] at hi
   have hi:p0=p:=by simpa using hi
   rw [← hi]; exact ⟨q,hq⟩
 | succ i =>
   have hlt:i+1<(aZ b).2.length:=(List.getElem?_eq_some_iff.1 hi).1
   have hg:=List.getElem?_eq_getElem (l:=(aZ b).2) (i:=i) (by omega)
   have := (hw.next i p _ hg hi).2
   unfold sD
   rw [if_pos this]
   exact ⟨_,rfl⟩
theorem afi {b:aQ} (h:(dP b).1=none) {p:Int×Int} (hp:p∈(aZ b).2) {x y:Int} (h1:p.1≤x) (h2:x≤y) (h3:y≤p.2):b.count=4∧regular b p=true∨∃ q,nY b p x y = .ok q:=by
 obtain ⟨q,hq⟩:=ad3 h hp
 by_cases hc:b.count=4
 ·by_cases hr:regular b p=true
  ·exact .inl ⟨hc,hr⟩
  ·right
   unfold sD at hq
   rw [if_neg hr] at hq
   unfold nY at hq ⊢
   rw [if_pos hc] at hq ⊢
   cases hqs:sF b p with
   | none=>rw [hqs] at hq; simp at hq
   | some l =>
     simp only
     rw [if_neg (by omega)]
     exact ⟨_,rfl⟩
 ·right
  unfold nY
  rw [if_neg hc,if_neg (by omega)]
  exact ⟨_,rfl⟩
theorem aiN {b:aQ} (h:(dP b).1=none) (hc:b.dH.length≤1000000) (hr:b.dM.length≤1000000) {p:Int×Int} (hp:p∈(aZ b).2) {s:Int} (h1:p.1≤s) (h2:s≤p.2) :
  L.call EK [aX b,pD p,.int .i64 s]=some (.bg [dV (yT b p s),.aK])∧RB 240000 (yT b p s):=by
 have h0:=(tq h).1
 have hchk:=mJ h0
 obtain ⟨d1,d2,d3⟩:=kC h0 hp
 obtain ⟨q,hq⟩:=ad3 h hp
 have hqB:=aaV hchk d1 d2 hq (n:=3600) (fun l hl=>(Gq hchk d2 hl).2)
 have hpay:=Vg h0 hc hr d1 d2 d3
 have hreg:=KY hc hr p
 have hpart:=Zz h0 hc hr d1 d2 d3 p.1 s
 have hcp:=FQ hc hr
 have e1:IntKind.i64.wrap (s-p.1)=s-p.1:=wrap64 _ (by omega)
 have e2:IntKind.i64.wrap (p.2-p.1)=p.2-p.1:=wrap64 _ (by omega)
 have hof:L.call lV [.int .i64 (s-p.1),.int .i64 (p.2-p.1)]=some (.bg [dV (Rat.divInt (s-p.1) (p.2-p.1)),.aK]):=Fq (by omega) (by omega) (by omega)
 have hofB:RB 64 (Rat.divInt (s-p.1) (p.2-p.1)):=xg (jQ (by omega)) (jQ (by omega)) (by omega)
 have hpo:=afi h hp (Int.le_refl _) h1 h2
 have hbc:=fun n=>mF b n
 rw [hq] at hpay
 simp only [Hz] at hpay
 unfold yT
 rw [afj hq]
 by_cases hcr:b.count=4∧regular b p=true
 ·rw [if_pos hcr]
  have hmul:=Lj hqB hofB (by omega)
  refine ⟨?_,(hqB.mul hofB).mono (by omega)⟩
  obtain ⟨hc4,hrg⟩:=hcr
  rw [hrg] at hreg
  obtain ⟨p1,p2⟩:=p
  unfold pD at *
  simp only at *
  generalize q*Rat.divInt (s-p1) (p2-p1)=v at *
  generalize Rat.divInt (s-p1) (p2-p1)=w at *
  obtain ⟨i,m,fq,c,rd,n,st,en,ex⟩:=b
  unfold aX aO at *
  simp only at *
  subst hc4
  refine aN abp rfl (abm ..) ?_
  simp [Oc,hreg,hpay,e1,e2,hof,hmul]
 ·rw [if_neg hcr]
  obtain ⟨v,hv⟩:=hpo.resolve_left hcr
  have hvB:=XE hchk d1 d2 hv (n:=3600) (fun l hl=>(Gq hchk d2 hl).2)
  have hmul:=Lj (Ri b) hvB (by omega)
  rw [acQ hv]
  refine ⟨?_,((Ri b).mul hvB).mono (by omega)⟩
  rw [hv] at hpart
  simp only [Hz] at hpart
  generalize LZ b*v=w at *
  generalize LZ b=cq at *
  generalize regular b p=rg at *
  obtain ⟨p1,p2⟩:=p
  unfold pD at *
  simp only at *
  obtain ⟨i,m,fq,c,rd,n,st,en,ex⟩:=b
  unfold aX aO at *
  simp only at *
  refine aN abp rfl (abm ..) ?_
  by_cases hn:n=4
  ·have hrg:rg=false:=by
    cases rg with
    | false=>rfl
    | true=>exact absurd ⟨hn,rfl⟩ hcr
   subst hrg
   subst hn
   simp [Oc,hreg,hpart,hcp,hmul]
  ·simp [Oc,hn,hpart,hcp,hmul]
def aqv (b:aQ) (s:Int):D:=match (leftB b s).1 with
 | some e => .bg [.aY,Dw (some e)]
 | none => .bg [dV (B_ b s),.aK]
theorem am6 {b:aQ} (hc:b.dH.length≤1000000) (hr:b.dM.length≤1000000) (s:Int):L.call yZ [aX b,.int .i64 s]=some (aqv b s)∧((leftB b s).1=none→RB 480000 (B_ b s)):=by
 have hp:=V8 hc hr s
 have hx:=am5 hc hr s
 unfold ain at hp
 unfold aqv
 unfold exD at hx
 cases he:(leftB b s).1 with
 | some e =>
   refine ⟨?_,fun h=>by simp at h⟩
   rw [he] at hp
   obtain ⟨i,m,fq,c,rd,n,st,en,ex⟩:=b
   unfold aX aO at *
   simp only at *
   rcases e with ⟨c,_ | t⟩
   ·simp only [Dw] at *
    refine aN Y9 rfl (YR ..) ?_
    simp [OJ,hp]
   ·simp only [Dw,jf] at *
    refine aN Y9 rfl (YR ..) ?_
    simp [OJ,hp]
 | none =>
   rw [he] at hp hx
   obtain ⟨d1,d2,d3,d4,d5,d6⟩:=RH he
   obtain ⟨f0,h0,_,_⟩:=Jm he
   have hchk:=mJ h0
   obtain ⟨hg,hgB⟩:=aiN f0 hc hr d6 d4 (by omega)
   obtain ⟨q,hq⟩:=ad3 f0 d6
   have hqB:=aaV hchk d1 d2 hq (n:=3600) (fun l hl=>(Gq hchk d2 hl).2)
   have hpay:=Vg h0 hc hr d1 d2 d3
   rw [hq] at hpay
   simp only [Hz] at hpay
   have hsub:=aeb hgB hqB (by omega)
   unfold B_
   rw [afj hq]
   constructor
   ·generalize yT b (iZ b s) s-q=v at *
    generalize yT b (iZ b s) s=g at *
    unfold pD at *
    generalize iZ b s=p at *
    generalize Ox b s=xb at *
    obtain ⟨p1,p2⟩:=p
    simp only at *
    obtain ⟨i,m,fq,c,rd,n,st,en,ex⟩:=b
    unfold aX aO at *
    simp only at *
    refine aN Y9 rfl (YR ..) ?_
    cases xb with
    | true=>simp [OJ,hp,hg,hx,hpay,hsub]
    | false=>simp [OJ,hp,hg,hx]
   ·intro _
    split
    ·exact (hgB.sub hqB).mono (by omega)
    ·exact hgB.mono (by omega)
end Go.Ev.Code
end
section
namespace Go.Ev.Code
open Go Go.Ev
theorem aj9 {b:aQ} (hchk:chk b=none) {k a:Nat} (hk:k<bT b) (ha:anch b k=some a):quasi b a=anch b (k+1):=by
 have hm:=(dX hchk).2.1
 obtain ⟨g1,g2,g3⟩:=Ht hm
 have hpl:=ad5 hm ha (fun i hi=>by
  obtain ⟨d,hd,_⟩:=g1 i (by omega)
  rw [hd]; rfl) (by omega)
 obtain ⟨d,hd,hdi⟩:=g1 k hk
 rw [ha] at hd
 simp at hd
 subst hd
 unfold quasi
 rw [hpl]
 simp only
 rw [if_neg (by omega)]
theorem agx {b:aQ} (hchk:chk b=none) {k a:Nat} (hk:k<bT b) (ha:anch b k=some a) {st:Int} (h1:st<(a:Int)) (h2:∀ c,anch b (k+1)=some c→(c:Int)≤st) {f:Nat} (hf:((a:Int)-st).toNat≤f) :
  iO b st f a=(anch b (k+1)).map fun c=>[((c:Int),(a:Int))]:=by
 obtain ⟨g,rfl⟩:∃ g,f=g+1:=⟨f-1,by omega⟩
 simp only [iO]
 rw [if_neg (by omega),aj9 hchk hk ha]
 cases hc:anch b (k+1) with
 | none=>rfl
 | some c =>
   have := h2 c hc
   simp only [Option.map_some]
   cases g with
   | zero=>simp [iO]
   | succ g=>simp only [iO]; rw [if_pos this]; rfl
theorem afS {b:aQ} (hchk:chk b=none) {c:Nat} (h:anch b (bT b)=some c):(c:Int)≤b.issue:=by
 obtain ⟨g1,g2,g3⟩:=Ht (dX hchk).2.1
 rcases Int.lt_or_le b.issue c with h1 | h1
 ·exact absurd ⟨c,h,h1⟩ g2
 ·exact h1
theorem ad8 {b:aQ} (hchk:chk b=none) {a:Nat} (ha:anch b (bT b-1)=some a):sF b (b.issue,(a:Int))=(anch b (bT b)).map fun c=>[((c:Int),(a:Int))]:=by
 have kp:=JO hchk
 obtain ⟨x,hx,hxi,_⟩:=qA hchk (k:=bT b-1) (by omega)
 rw [ha] at hx
 simp at hx
 subst hx
 unfold sF
 have h:=agx hchk (k:=bT b-1) (by omega) ha (st:=b.issue) hxi (fun c hc=>by rw [show bT b-1+1=bT b by omega] at hc; exact afS hchk hc) (f:=((a:Int)-b.issue).toNat) (Nat.le_refl _)
 rw [show bT b-1+1=bT b by omega] at h
 exact h
theorem agy {b:aQ} (hchk:chk b=none) {a c:Nat} (hk:2≤bT b) (ha:anch b (bT b-2)=some a) (hc:anch b (bT b-1)=some c) :
  sF b (b.issue,(a:Int))=(anch b (bT b)).map fun d=>[((c:Int),(a:Int)),((d:Int),(c:Int))]:=by
 obtain ⟨x,hx,hxi,hn⟩:=qA hchk (k:=bT b-2) (by omega)
 rw [ha] at hx
 simp at hx
 subst hx
 obtain ⟨z,hz,hza⟩:=hn (by omega)
 rw [show bT b-2+1=bT b-1 by omega,hc] at hz
 simp at hz
 subst hz
 obtain ⟨x,hx,hci,_⟩:=qA hchk (k:=bT b-1) (by omega)
 rw [hc] at hx
 simp at hx
 subst hx
 unfold sF
 simp only
 obtain ⟨f,hf⟩:∃ f,((a:Int)-b.issue).toNat=f+1:=⟨((a:Int)-b.issue).toNat-1,by omega⟩
 rw [hf]
 simp only [iO]
 rw [if_neg (by omega),aj9 hchk (k:=bT b-2) (by omega) ha,show bT b-2+1=bT b-1 by omega,hc]
 simp only
 have h:=agx hchk (k:=bT b-1) (by omega) hc (st:=b.issue) hci (fun d hd=>by rw [show bT b-1+1=bT b by omega] at hd; exact afS hchk hd) (f:=f) (by omega)
 rw [show bT b-1+1=bT b by omega] at h
 rw [h]
 cases anch b (bT b) <;> rfl
theorem aj8 {b:aQ} (hchk:chk b=none) {p:Int×Int} (hlt:p.1<p.2) (hreg:regular b p=true):sF b p=some [p]:=by
 unfold regular at hreg
 rw [hchk] at hreg
 simp only at hreg
 obtain ⟨f,hfu⟩:∃ f,(p.2-p.1).toNat=f+1:=⟨(p.2-p.1).toNat-1,by omega⟩
 unfold sF
 rw [hfu]
 simp only [iO]
 rw [if_neg (by omega)]
 cases hqe:quasi b p.2 with
 | none=>rw [hqe] at hreg; simp at hreg
 | some x =>
   rw [hqe] at hreg
   simp at hreg
   simp only [hreg]
   cases f with
   | zero=>simp [iO]
   | succ f=>simp [iO]
theorem XO {b:aQ} (h:(aZ b).1=none) {p:Int×Int} (hp:p∈(aZ b).2) {l:List (Int×Int)} (hl:sF b p=some l):l.length≤2:=by
 have hw:=iD h
 have hchk:=hw.1
 have hd:=kC h hp
 obtain ⟨i,hi⟩:=List.getElem?_of_mem hp
 have kp:=JO hchk
 have hraw0:∀ {q:Int×Int},(dW b)[0]?=some q→∀ {l},sF b q=some l→l.length≤2:=by
  intro q hq l hl
  rw [y9 (by omega)] at hq
  simp at hq
  obtain ⟨a,ha,_⟩:=qA hchk (k:=bT b-1) (by omega)
  rw [ha] at hq
  simp at hq
  subst hq
  rw [ad8 hchk ha] at hl
  cases hk:anch b (bT b) with
  | none=>rw [hk] at hl; simp at hl
  | some c=>rw [hk] at hl; simp at hl; subst hl; simp
 cases i with
 | succ i =>
   have hlt:i+1<(aZ b).2.length:=(List.getElem?_eq_some_iff.1 hi).1
   have hg:=List.getElem?_eq_getElem (l:=(aZ b).2) (i:=i) (by omega)
   have hr:=(hw.2.next i p _ hg hi).2
   rw [aj8 hchk hd.2.2 hr] at hl
   simp at hl; subst hl; simp
 | zero =>
   unfold aZ at hi
   rw [hchk] at hi
   simp only at hi
   split at hi
   ·exact hraw0 hi hl
   ·split at hi
    ·simp at hi
    ·split at hi
     ·split at hi
      ·rename_i x q r hx
       simp at hi
       subst hi
       have hk2:2≤bT b:=by have := uG b; rw [hx] at this; simp at this; omega
       obtain ⟨a,ha,_⟩:=qA hchk (k:=bT b-2) (by omega)
       obtain ⟨c,hc,_⟩:=qA hchk (k:=bT b-1) (by omega)
       have hq:=y9 (b:=b) (i:=1) (by omega)
       rw [hx] at hq
       simp [show bT b-1-1=bT b-2 by omega,ha] at hq
       rw [hq] at hl
       simp only at hl
       rw [agy hchk hk2 ha hc] at hl
       cases hk:anch b (bT b) with
       | none=>rw [hk] at hl; simp at hl
       | some d=>rw [hk] at hl; simp at hl; subst hl; simp
      ·exact hraw0 hi hl
     ·exact hraw0 hi hl
theorem RI {b:aQ} (h:(aZ b).1=none):∀ (d i:Nat) {p q:Int×Int},(aZ b).2[i]?=some p→(aZ b).2[i+d+1]?=some q→p.2≤q.1
 | 0,i,p,q,hp,hq=>by
   have := ((iD h).2.next i q p hp hq).1
   omega
 | d+1,i,p,q,hp,hq=>by
   have hlt:i+(d+1)+1<(aZ b).2.length:=(List.getElem?_eq_some_iff.1 hq).1
   have hg:=List.getElem?_eq_getElem (l:=(aZ b).2) (i:=i+d+1) (by omega)
   have h1:=RI h d i hp hg
   have h2:=(iD h).2.ord _ _ hg
   have h3:=((iD h).2.next (i+d+1) q _ hg hq).1
   omega
theorem Qw {b:aQ} {s:Int} (h:(aZ b).1=none) {p:Int×Int} (hp:p∈(aZ b).2) (h1:p.1≤s) (h2:s<p.2):iZ b s=p∧b.issue≤s∧s<b.b_:=by
 obtain ⟨i,hi⟩:=List.getElem?_of_mem hp
 have hw:=(iD h).2
 have hil:i<(aZ b).2.length:=(List.getElem?_eq_some_iff.1 hi).1
 have hb:b.issue≤s∧s<b.b_:=by
  constructor
  ·cases i with
   | zero=>rw [← hw.first p hi]; exact h1
   | succ i =>
     have h0:=List.getElem?_eq_getElem (l:=(aZ b).2) (i:=0) (by omega)
     have := RI h i 0 h0 (by rw [Nat.zero_add]; exact hi)
     have h3:=hw.ord _ _ h0
     have h4:=hw.first _ h0
     omega
  ·have hg:=List.getElem?_eq_getElem (l:=(aZ b).2) (i:=(aZ b).2.length-1) (by omega)
   have hl:=hw.last _ hg
   rcases Nat.lt_or_ge i ((aZ b).2.length-1) with h3 | h3
   ·have := RI h ((aZ b).2.length-1-i-1) i hi (by rw [show i+((aZ b).2.length-1-i-1)+1=(aZ b).2.length-1 by omega]; exact hg)
    have h5:=hw.ord _ _ hg
    omega
   ·have : i=(aZ b).2.length-1:=by omega
    rw [this] at hi
    rw [← hl]
    rw [hi] at hg
    rw [← Option.some.inj hg]; exact h2
 obtain ⟨k,k1,k2,k3,k4⟩:=Qx h hb.1 hb.2
 refine ⟨?_,hb⟩
 rcases Nat.lt_trichotomy i k with h3 | h3 | h3
 ·have := RI h (k-i-1) i hi (by rw [show i+(k-i-1)+1=k by omega]; exact k2)
  omega
 ·rw [h3,k2] at hi
  exact Option.some.inj hi
 ·have := RI h (i-k-1) k k2 (by rw [show k+(i-k-1)+1=i by omega]; exact hi)
  omega
end Go.Ev.Code
end
section
namespace Go.Ev.Code
open Go Go.Ev
structure Made (b:aQ) (M:Nat):Prop where
 i1:3000≤b.issue
 i2:b.issue≤92999
 hm:∃ A:Nat,r_ b.issue M false=some A∧b.b_=A
 M1:6≤M
 M2:M≤120
 fr:ED b.d_
 sums:Ag b=none
 ct:1≤b.count∧b.count≤4
 st:1≤b.stub∧b.stub≤2
 ex:0≤b.ex∧b.ex≤30
theorem aus:22890≤mi 3000:=by decide +kernel
theorem arA:mi 92999≤25900:=by decide +kernel
theorem Made.I4 {b:aQ} {M:Nat} (h:Made b M):bn b.issue:=⟨by have := h.i1; omega,by have := h.i2; omega⟩
theorem Made.mi1 {b:aQ} {M:Nat} (h:Made b M):22890≤mi b.issue∧mi b.issue≤25900:=by
 have h1:=Gl h.I4 (b:=92999) (by decide) h.i2
 have h2:=Gl (a:=3000) (by decide) h.I4 h.i1
 have := aus
 have := arA
 omega
theorem Made.miM {b:aQ} {M:Nat} (h:Made b M):mi b.b_=mi b.issue+M∧bn b.b_:=by
 obtain ⟨A,h1,h2⟩:=h.hm
 rw [h2]
 have := DR h1
 exact ⟨by omega,EL h1⟩
theorem Made.lt {b:aQ} {M:Nat} (h:Made b M):b.issue<b.b_:=by
 obtain ⟨h1,h2⟩:=h.miM
 exact Oq h.I4 h2 (by have := h.M1; omega)
theorem Made.mo {b:aQ} {M:Nat} (h:Made b M):months b=1∨months b=3∨months b=6∨months b=12:=by
 unfold months
 rcases h.fr with h3 | h3 | h3 | h3 <;> rw [h3] <;> decide
theorem Made.Vd {b:aQ} {M:Nat} (h:Made b M):chk b=none:=by
 obtain ⟨h1,h2⟩:=h.miM
 have hM:=h.M2
 have hd:zu b=none:=by
  unfold zu
  rw [if_neg (by have := h.I4; simpa using this),if_neg (by simpa using h2),if_neg (by have := h.lt; omega)]
  split
  ·rename_i e he
   have h3:=DR he
   have h4:=Oq h2 (EL he) (by omega)
   rw [if_neg (by omega)]
  ·rfl
 have hmo:=h.mo
 have hp:RG b≤200:=by
  unfold RG
  rw [aeX,Int.tdiv_eq_ediv_of_nonneg (by omega)]
  have e:(mi b.b_:Int)-mi b.issue=M:=by omega
  rw [e]
  rcases hmo with h | h | h | h <;> rw [h] <;> omega
 unfold chk
 rw [hd,h.sums]
 simp only
 rw [if_neg (by omega),if_neg (by have := h.ct; omega),if_neg (by have := h.st; omega),if_neg (by have := h.ex; omega),if_neg (by omega)]
theorem Made.plan {b:aQ} {M:Nat} (h:Made b M):(aZ b).1=none:=by
 unfold aZ
 rw [h.Vd]
 simp only
 split
 ·rfl
 ·rw [if_neg (by have := h.st; omega)]
  split
  ·split <;> rfl
  ·rfl
theorem Made.aic {b:aQ} {M:Nat} (h:Made b M):∃ c,anch b (bT b)=some c:=by
 have kp:=JO h.Vd
 obtain ⟨a,ha,hai,_⟩:=qA h.Vd (k:=bT b-1) (by omega)
 have hb:=h.mi1
 obtain ⟨h1,h2⟩:=h.miM
 have hM:=h.M2
 have hmo:=h.mo
 have had:=Xg ha
 have hge:=Gl h.I4 had (by omega)
 unfold anch at ha ⊢
 have hma:=DR ha
 obtain ⟨k,hk⟩:∃ k,bT b=k+1:=⟨bT b-1,by omega⟩
 rw [hk] at hma ⊢
 rw [Nat.add_sub_cancel] at hma
 have e1 : -((k+1:Nat):Int)*months b = -(k:Int)*months b-months b:=by
  rw [Int.natCast_add,Int.neg_mul,Int.neg_mul,Int.add_mul]; simp; omega
 rw [e1]
 generalize -(k:Int)*months b=z at *
 have hz:z≤0∨0<z:=by omega
 refine afO b.ends h2 (by omega) ?_
 have hmb:=Xw had
 omega
theorem Made.flow {b:aQ} {M:Nat} (h:Made b M):(dP b).1=none:=by
 have h0:=h.plan
 have hchk:=h.Vd
 unfold dP
 rw [h0]
 simp only
 have hw:=(iD h0).2
 cases hps:(aZ b).2 with
 | nil=>exact absurd hps hw.ne
 | cons p r =>
   simp only
   have hmem:p∈(aZ b).2:=by rw [hps]; simp
   obtain ⟨d1,d2,d3⟩:=kC h0 hmem
   have hq:∃ l,sF b p=some l:=by
    obtain ⟨c,hc⟩:=h.aic
    have hraw0:∀ {q:Int×Int},(dW b)[0]?=some q→∃ l,sF b q=some l:=by
     intro q hq
     have kp:=JO hchk
     rw [y9 (by omega)] at hq
     simp at hq
     obtain ⟨a,ha,_⟩:=qA hchk (k:=bT b-1) (by omega)
     rw [ha] at hq
     simp at hq
     subst hq
     rw [ad8 hchk ha,hc]
     exact ⟨_,rfl⟩
    have hi:(aZ b).2[0]?=some p:=by rw [hps]; rfl
    unfold aZ at hi
    rw [hchk] at hi
    simp only at hi
    split at hi
    ·exact hraw0 hi
    ·split at hi
     ·simp at hi
     ·split at hi
      ·split at hi
       ·rename_i x q r hx
        simp at hi
        subst hi
        have hk2:2≤bT b:=by have := uG b; rw [hx] at this; simp at this; omega
        obtain ⟨a,ha,_⟩:=qA hchk (k:=bT b-2) (by omega)
        obtain ⟨e,he,_⟩:=qA hchk (k:=bT b-1) (by omega)
        have hq:=y9 (b:=b) (i:=1) (by omega)
        rw [hx] at hq
        simp [show bT b-1-1=bT b-2 by omega,ha] at hq
        rw [hq]
        simp only
        rw [agy hchk hk2 ha he,hc]
        exact ⟨_,rfl⟩
       ·exact hraw0 hi
      ·exact hraw0 hi
   obtain ⟨l,hl⟩:=hq
   have hv:∃ v,nY b p p.1 p.2 = .ok v:=by
    unfold nY
    by_cases hc:b.count=4
    ·rw [if_pos hc,hl]
     simp only
     rw [if_neg (by omega)]
     exact ⟨_,rfl⟩
    ·rw [if_neg hc,if_neg (by omega)]
     exact ⟨_,rfl⟩
   have : ∃ q,sD b p = .ok q:=by
    obtain ⟨v,hv⟩:=hv
    unfold sD
    rw [hv]
    split
    ·exact ⟨_,rfl⟩
    ·exact ⟨_,rfl⟩
   obtain ⟨q,hq⟩:=this
   rw [hq]
theorem Xt {b:aQ} (h:(dP b).1=none) {s:Int} (h1:b.issue≤s) (h2:s<b.b_):(leftB b s).1=none:=by
 unfold leftB
 rw [h]
 simp only
 rw [if_neg (by omega)]
end Go.Ev.Code
end
section
namespace Go.Ev.Code
open Go Go.Ev
theorem amq {b:aQ} (h:(dP b).1=none) {p:Int×Int} (hp:p∈(aZ b).2):RB 600 (XF b p):=by
 have h0:=(tq h).1
 have hchk:=mJ h0
 obtain ⟨d1,d2,d3⟩:=kC h0 hp
 obtain ⟨q,hq⟩:=ad3 h hp
 rw [afj hq]
 exact (aaV hchk d1 d2 hq (n:=2) (fun l hl=>XO h0 hp hl)).mono (by omega)
theorem ark {b:aQ} (h:(dP b).1=none) {p:Int×Int} (hp:p∈(aZ b).2) {s:Int} (h1:p.1≤s) (h2:s≤p.2):RB 700 (yT b p s):=by
 have h0:=(tq h).1
 have hchk:=mJ h0
 obtain ⟨d1,d2,d3⟩:=kC h0 hp
 have hofB:RB 64 (Rat.divInt (s-p.1) (p.2-p.1)):=xg (jQ (by omega)) (jQ (by omega)) (by omega)
 unfold yT
 by_cases hcr:b.count=4∧regular b p=true
 ·rw [if_pos hcr]
  exact ((amq h hp).mul hofB).mono (by omega)
 ·rw [if_neg hcr]
  obtain ⟨v,hv⟩:=(afi h hp (Int.le_refl _) h1 h2).resolve_left hcr
  rw [acQ hv]
  have := XE hchk d1 d2 hv (n:=2) (fun l hl=>XO h0 hp hl)
  exact ((Ri b).mul this).mono (by omega)
theorem al1 {b:aQ} {s:Int} (h:(leftB b s).1=none):RB 1400 (B_ b s):=by
 obtain ⟨f0,h0,_,_⟩:=Jm h
 obtain ⟨d1,d2,d3,d4,d5,d6⟩:=RH h
 have hg:=ark f0 d6 d4 (by omega:s≤(iZ b s).2)
 have hp:=amq f0 d6
 obtain ⟨j,hj⟩:∃ j:Nat,j=700:=⟨_,rfl⟩
 obtain ⟨k,hk⟩:∃ k:Nat,k=600:=⟨_,rfl⟩
 rw [← hj] at hg
 rw [← hk] at hp
 unfold B_
 split
 ·exact (hg.sub hp).mono (by omega)
 ·exact hg.mono (by omega)
theorem Zk {b:aQ} {s:Int} (h:(leftB b s).1=none) (hc:b.dH.length≤1000000) (hr:b.dM.length≤1000000):L.call yZ [aX b,.int .i64 s]=some (.bg [dV (B_ b s),.aK]):=by
 have := (am6 hc hr s).1
 unfold aqv at this
 rw [h] at this
 exact this
theorem as5 {b:aQ} (h:(aZ b).1=none) {p:Int×Int} (hp:p∈(aZ b).2) {s:Int} (h1:p.1≤s) (h2:s<p.2) (hx:b.ex=0):B_ b s=yT b p s:=by
 unfold B_ Ox
 rw [hx,(Qw h hp h1 h2).1]
 simp
end Go.Ev.Code
end
section
namespace Go.Ev.Code
open Go Go.Ev
end Go.Ev.Code
end
section
namespace Go.Ev.Code
open Go Go.Ev
theorem RF {b:aQ} (h:(dP b).1=none) {p:Int×Int} (hp:p∈(aZ b).2) {x y:Int} (h1:p.1≤x) (h2:x≤y) (h3:y≤p.2):nY b p x y = .ok (KW b p x y):=by
 have h0:=(tq h).1
 have hchk:=mJ h0
 obtain ⟨d1,d2,d3⟩:=kC h0 hp
 have : ∃ q,nY b p x y = .ok q:=by
  rcases afi h hp h1 h2 h3 with ⟨hc,hr⟩ | h4
  ·have hq:=aj8 hchk d3 hr
   unfold nY
   rw [if_pos hc,hq]
   simp only
   rw [if_neg (by omega)]
   exact ⟨_,rfl⟩
  ·exact h4
 obtain ⟨q,hq⟩:=this
 rw [acQ hq]; exact hq
def aaD (b:aQ) (s:Int):Rat:=KW b (iZ b s) (iZ b s).1 (iZ b s).2
def anO (b:aQ) (s:Int):Rat:=KW b (iZ b s) (iZ b s).1 s
def asO (b:aQ) (s:Int):Rat:=if regular b (iZ b s)=true then 1-anO b s / aaD b s else (1-anO b s / aaD b s)*Rat.divInt b.d_ 1*aaD b s
end Go.Ev.Code
end
section
namespace Go.Ev.Code
open Go Go.Ev
theorem avr {y:Nat} (h:1900≤y) (k:Nat):dQ y+365*k≤dQ (y+k):=by
 induction k with
 | zero=>simp only [Nat.mul_zero,Nat.add_zero]; exact Nat.le_refl _
 | succ k ih =>
   have h2:=Cb (y:=y+k) (by omega)
   have h3:=aif (y+k)
   have h4:365≤dw (y+k) 12:=by rw [h3]; split <;> omega
   rw [show y+(k+1)=y+k+1 from rfl,h2,Nat.mul_succ,← Nat.add_assoc]
   exact Nat.add_le_add ih h4
end Go.Ev.Code
end
section
namespace Go.Ev.Code
open Go Go.Ev
theorem am9 {y:Nat} (h:1900≤y) (k:Nat):dQ (y+k)≤dQ y+366*k:=by
 induction k with
 | zero=>simp only [Nat.mul_zero,Nat.add_zero]; exact Nat.le_refl _
 | succ k ih =>
   have h2:=Cb (y:=y+k) (by omega)
   have h4:=(ai5 (y+k)).1
   rw [show y+(k+1)=y+k+1 from rfl,h2,Nat.mul_succ,← Nat.add_assoc]
   exact Nat.add_le_add ih h4
theorem aq0 (y m:Nat) (h1:1≤m) (h2:m≤12):dw y (m-1)+bP y m≤366:=by
 have hm:m=1∨m=2∨m=3∨m=4∨m=5∨m=6∨m=7∨m=8∨m=9∨m=10∨m=11∨m=12:=by omega
 have f2:bP y 2≤29:=by
  show (if leap y=true then 29 else 28)≤29
  split <;> omega
 rcases hm with rfl | rfl | rfl | rfl | rfl | rfl | rfl | rfl | rfl | rfl | rfl | rfl <;> simp only [dw,Nat.reduceSub,Nat.reduceAdd] <;> (generalize hg:bP y 2=g at *) <;> simp only [bP] at * <;> omega
theorem aq2 {a b:Int} (ha:bn a) (hb:bn b) (h:mi b≤mi a+361):b≤a+12100:=by
 obtain ⟨y,m,d,hc,rfl,_⟩:=dU ha
 obtain ⟨y',m',d',hc',rfl,_⟩:=dU hb
 rw [zT hc,zT hc'] at h
 have a1:=hc.y1; have a2:=hc.m1; have a3:=hc.m2; have a5:=hc'.m1; have a6:=hc'.m2
 have g1:=aq0 y' m' a5 a6
 have g2:=hc'.d2
 have g3:=hc.d1
 have hy:y'≤y+31:=by omega
 have g4:dQ y'≤dQ y+11346:=by
  rcases Nat.lt_or_ge y' y with h1 | h1
  ·obtain ⟨k,rfl⟩:∃ k,y=y'+k:=⟨y-y',by omega⟩
   have := avr hc'.y1 k
   exact Nat.le_trans (Nat.le_trans (Nat.le_add_right _ _) this) (Nat.le_add_right _ _)
  ·obtain ⟨k,rfl⟩:∃ k,y'=y+k:=⟨y'-y,by omega⟩
   have := am9 a1 k
   refine Nat.le_trans this (Nat.add_le_add_left ?_ _)
   omega
 have e1:dayOf y' m' d'=dQ y'+dw y' (m'-1)+d'-1:=rfl
 have e2:dayOf y m d=dQ y+dw y (m-1)+d-1:=rfl
 generalize dayOf y' m' d'=u at *
 generalize dayOf y m d=v at *
 generalize dQ y'=b1 at *
 generalize dQ y=b0 at *
 generalize dw y' (m'-1)=c1 at *
 generalize dw y (m-1)=c0 at *
 generalize bP y' m'=ml at *
 omega
theorem thirty {b:aQ} (h:chk b=none):mi b.b_≤mi b.issue+360∧bn b.issue∧bn b.b_:=by
 have hd:=(dX h).1
 unfold zu at hd
 split at hd
 ·simp at hd
 ·rename_i h1
  split at hd
  ·simp at hd
  ·rename_i h2
   have i1:bn b.issue:=Classical.not_not.1 h1
   have i2:bn b.b_:=Classical.not_not.1 h2
   refine ⟨?_,i1,i2⟩
   have hb:=Xw i2
   have hbi:=Xw i1
   split at hd
   ·simp at hd
   ·cases ha:r_ b.issue 360 false with
    | none =>
      rcases Nat.lt_or_ge (mi b.issue+360) 26401 with h4 | h4
      ·obtain ⟨r,hr⟩:=afO (day:=b.issue) (n:=360) false i1 (by omega) (by omega)
       rw [hr] at ha; simp at ha
      ·omega
    | some e =>
      rw [ha] at hd
      simp only at hd
      split at hd
      ·simp at hd
      ·have hm:=DR ha
       have he:bn e:=EL ha
       have := Gl i2 he (by omega)
       omega
def d30 (a:Int):Int:=30*(mi a:Int)+min ((lQ a.toNat).2.2:Int) 30
theorem Ot (a b:Int):Rk a b=d30 b-d30 a:=by
 unfold Rk d30 mi
 omega
theorem aq1 {a b:Int} (ha:bn a) (hb:bn b) (h:a≤b):d30 a≤d30 b:=by
 have hm:=Gl ha hb h
 obtain ⟨y,m,d,hc,rfl,o1⟩:=dU ha
 obtain ⟨y',m',d',hc',rfl,o2⟩:=dU hb
 unfold d30
 rw [o1,o2]
 have e1:=zT hc
 have e2:=zT hc'
 have b1:=hc.d1; have b2:=hc.d2; have b3:=hc'.d1; have b4:=hc'.d2
 have l1:=xP y m
 rcases Nat.lt_or_eq_of_le hm with h1 | h1
 ·simp only; omega
 ·have a2:=hc.m1; have a3:=hc.m2; have a5:=hc'.m1; have a6:=hc'.m2
  rw [e1,e2] at h1
  obtain rfl:m=m':=by omega
  obtain rfl:y=y':=by omega
  have g:d≤d':=by
   have e3:dayOf y m d=dQ y+dw y (m-1)+d-1:=rfl
   have e4:dayOf y m d'=dQ y+dw y (m-1)+d'-1:=rfl
   generalize dayOf y m d=u at *
   generalize dayOf y m d'=v at *
   generalize dQ y=b0 at *
   generalize dw y (m-1)=c0 at *
   omega
  simp only; omega
theorem afZ {k a x y:Int} (hx:bn x) (hy:bn y) (h:x≤y):eG k a x≤eG k a y:=by
 unfold eG
 split
 ·rw [Ot,Ot]
  have := aq1 hx hy h
  omega
 ·omega
theorem af0 (k a:Int):eG k a a=0:=by
 unfold eG
 split
 ·rw [Ot]; omega
 ·omega
theorem ao5 {k a b:Int} (ha:bn a) (hb:bn b) (h:mi b≤mi a+361):eG k a b≤12100:=by
 unfold eG
 split
 ·rw [Ot]
  unfold d30
  have : (0:Int)≤((lQ a.toNat).2.2:Int):=by omega
  omega
 ·have := aq2 ha hb h; omega
theorem xk {a b D:Int} (hD:0<D) (h:a≤b):Rat.divInt a D≤Rat.divInt b D:=by
 rw [Rat.divInt_eq_div,Rat.divInt_eq_div,Rat.div_def,Rat.div_def]
 refine Rat.mul_le_mul_of_nonneg_right (Rat.intCast_le_intCast.2 h) (Rat.le_of_lt ?_)
 rw [Rat.inv_pos]
 exact Rat.intCast_pos.2 hD
theorem divInt_zero (D:Int):Rat.divInt 0 D=0:=by
 rw [Rat.divInt_eq_div,Rat.intCast_zero,Rat.div_def,Rat.zero_mul]
theorem Ns {c D:Int} (hD:0<D):Rat.divInt (c*D) D=(c:Rat):=by
 have hD0:(D:Rat)≠0:=fun h=>by have := Rat.intCast_eq_zero_iff.1 h; omega
 rw [Rat.divInt_eq_div,Rat.intCast_mul]
 generalize (D:Rat)=d at *
 generalize (c:Rat)=e at *
 grind
theorem apO {f x y y':Int} {q:Int×Int} (hf:ED f) (hq:QOk q) (h:y≤y'):yF f x y q≤yF f x y' q:=by
 have := hq.d1; have := hq.d2; have := hq.lt
 have hD:=(hf.mul (a:=q.2-q.1) (by omega) (by omega)).1
 exact xk (by omega) (by omega)
theorem auz {f x y:Int} {q:Int×Int} (hf:ED f) (hq:QOk q):0≤yF f x y q∧yF f x y q≤1:=by
 have := hq.d1; have := hq.d2; have hlt:=hq.lt
 have hD:=(hf.mul (a:=q.2-q.1) (by omega) (by omega)).1
 have hf1:1≤f:=by rcases hf with h | h | h | h <;> omega
 have hge:q.2-q.1≤f*(q.2-q.1):=by
  have := Int.mul_le_mul_of_nonneg_right hf1 (show 0≤q.2-q.1 by omega)
  omega
 unfold yF
 generalize f*(q.2-q.1)=D at *
 constructor
 ·rw [← divInt_zero D]
  exact xk (by omega) (by omega)
 ·have := xk (D:=D) (a:=max (min y q.2-max x q.1) 0) (b:=1*D) (by omega) (by omega)
  rw [Ns (by omega)] at this
  exact this
theorem agO {f x y y':Int} (hf:ED f) (h:y≤y'):∀ {l:List (Int×Int)} {s s':Rat},(∀ q∈l,QOk q)→s≤s'→sumF f x y s l≤sumF f x y' s' l
 | [],s,s',_,hs=>hs
 | q::r,s,s',hl,hs=>by
   have h1:=apO (x:=x) hf (hl q (by simp)) h
   simp only [sumF]
   exact agO hf h (fun z hz=>hl z (by simp [hz])) (by grind)
theorem afw {f x y:Int} (hf:ED f):∀ {l:List (Int×Int)} {s:Rat},(∀ q∈l,QOk q)→s≤sumF f x y s l∧sumF f x y s l≤s+(l.length:Rat)
 | [],s,_=>by
   simp only [sumF,List.length_nil]
   have : ((0:Nat):Rat)=0:=rfl
   rw [this]
   exact ⟨Rat.le_refl,by grind⟩
 | q::r,s,hl=>by
   have h1:=auz (x:=x) (y:=y) hf (hl q (by simp))
   have ih:=afw (x:=x) (y:=y) hf (l:=r) (s:=s+yF f x y q) (fun z hz=>hl z (by simp [hz]))
   simp only [sumF,List.length_cons]
   have e:((r.length+1:Nat):Rat)=(r.length:Rat)+1:=by rw [Rat.natCast_add]; rfl
   rw [e]
   generalize (r.length:Rat)=n at *
   constructor
   ·exact Rat.le_trans (by grind) ih.1
   ·exact Rat.le_trans ih.2 (by grind)
theorem ad1 {b:aQ} (h:(dP b).1=none) {p:Int×Int} (hp:p∈(aZ b).2) {x y:Int} (h1:p.1≤x) (h2:x≤y) (h3:y≤p.2) :
  0≤KW b p p.1 x∧KW b p p.1 x≤KW b p p.1 y∧KW b p p.1 y≤40:=by
 have h0:=(tq h).1
 have hchk:=mJ h0
 have hf:=nP (dX hchk).2.1
 obtain ⟨d1,d2,d3⟩:=kC h0 hp
 have hx:=RF h hp (Int.le_refl p.1) h1 (by omega:x≤p.2)
 have hy:=RF h hp (Int.le_refl p.1) (by omega:p.1≤y) h3
 unfold nY at hx hy
 by_cases hc:b.count=4
 ·rw [if_pos hc] at hx hy
  cases hq:sF b p with
  | none=>rw [hq] at hx; simp at hx
  | some l =>
    have hok:=(Gq hchk d2 hq).1
    have hl2:=XO h0 hp hq
    rw [hq] at hx hy
    simp only at hx hy
    rw [if_neg (by omega)] at hx hy
    have ex:=Except.ok.inj hx
    have ey:=Except.ok.inj hy
    rw [← ex,← ey]
    have bx:=afw (x:=p.1) (y:=x) (s:=Rat.divInt 0 1) hf hok
    have bY:=afw (x:=p.1) (y:=y) (s:=Rat.divInt 0 1) hf hok
    have hz:Rat.divInt 0 1=0:=divInt_zero 1
    have hn:(l.length:Rat)≤2:=by
     have : ((2:Nat):Rat)=2:=rfl
     rw [← this]
     exact Rat.natCast_le_natCast.2 hl2
    refine ⟨by have := bx.1; rw [hz] at this; rw [hz]; exact this,agO hf h2 hok Rat.le_refl,?_⟩
    have := bY.2
    rw [hz] at this
    rw [hz]
    refine Rat.le_trans this ?_
    generalize (l.length:Rat)=n at *
    grind
 ·rw [if_neg hc,if_neg (by omega)] at hx hy
  have ex:=Except.ok.inj hx
  have ey:=Except.ok.inj hy
  rw [← ex,← ey]
  have hw:=(iD h0).2
  obtain ⟨t1,t2,t3⟩:=thirty hchk
  have hi:b.issue≤p.1∧p.2≤b.b_:=by
   obtain ⟨_,g1,_⟩:=Qw h0 hp (s:=p.1) (by omega) (by omega)
   obtain ⟨_,_,g2⟩:=Qw h0 hp (s:=p.2-1) (by omega) (by omega)
   omega
  have dx:bn x:=by omega
  have dy:bn y:=by omega
  have m1:=Gl t2 d1 hi.1
  have m2:=Gl dy t3 (by omega)
  have c1:=afZ (k:=b.count) (a:=p.1) d1 dx h1
  have c2:=afZ (k:=b.count) (a:=p.1) dx dy h2
  have c3:=ao5 (k:=b.count) (a:=p.1) d1 dy (by omega)
  rw [af0] at c1
  unfold I7
  have hD:(0:Int)<(if b.count=3 then 365 else 360)∧(12100:Int)≤40*(if b.count=3 then 365 else 360):=by split <;> omega
  generalize (if b.count=3 then (365:Int) else 360)=D at *
  refine ⟨by rw [← divInt_zero D]; exact xk hD.1 c1,xk hD.1 c2,?_⟩
  have := xk (a:=eG b.count p.1 y) (b:=40*D) hD.1 (by omega)
  rw [Ns hD.1] at this
  exact this
end Go.Ev.Code
end
section
namespace Go.Ev.Code
open Go Go.Ev
def OX (s:List UInt8) (lo hi:Int) (fr:Bool):Int:=match Jk s with
 | none=>1
 | some (n,p)=>if 6<p∨n-lo*(10^p:Nat)<0∨(n-lo*(10^p:Nat)=0∧fr=false)∨0<n-hi*(10^p:Nat) then 5 else 0
def wiN (s:List UInt8) (lo hi:Int) (fr:Bool):Int:=if OX s lo hi fr=0 then ((Jk s).getD (0,0)).1 else 0
def wiM (s:List UInt8) (lo hi:Int) (fr:Bool):Nat:=if OX s lo hi fr=0 then 10^((Jk s).getD (0,0)).2 else 1
theorem akz (s:List UInt8) (lo hi:Int) (fr:Bool):wiD s lo hi fr = .bg [lU (wiN s lo hi fr) (wiM s lo hi fr),.int .i64 (OX s lo hi fr)]:=by
 unfold wiD wiN wiM OX
 cases Jk s with
 | none=>simp
 | some np =>
   obtain ⟨n,p⟩:=np
   simp only [Option.getD_some]
   split
   ·rename_i h; simp [h]
   ·rename_i h; simp [h]
theorem Uc {a b D:Int} (hD:0<D):Rat.divInt a D<Rat.divInt b D↔a<b:=by
 have hi:(0:Rat)<((D:Int):Rat)⁻¹:=Rat.inv_pos.2 (Rat.intCast_pos.2 hD)
 constructor
 ·intro h
  rcases Int.lt_or_le a b with h1 | h1
  ·exact h1
  ·exact absurd h (Rat.not_lt.2 (xk hD h1))
 ·intro h
  rw [Rat.divInt_eq_div,Rat.divInt_eq_div,Rat.div_def,Rat.div_def]
  exact Rat.mul_lt_mul_of_pos_right (Rat.intCast_lt_intCast.2 h) hi
theorem afx (b:aQ):Ag b=if OX b.dH 0 30 true≠0 then some (OX b.dH 0 30 true,D7) else if OX b.dM 0 200 false≠0 then some (OX b.dM 0 200 false,D8) else none:=by
 have tp:∀ p:Nat,(0:Int)<((10^p:Nat):Int):=fun p=>by have : 0<10^p:=Nat.pow_pos (by decide); omega
 have q30e:∀ p:Nat,q30=Rat.divInt (30*((10^p:Nat):Int)) ((10^p:Nat):Int):=fun p=>by
  rw [Ns (tp p)]; decide +kernel
 have q200e:∀ p:Nat,Vq=Rat.divInt (200*((10^p:Nat):Int)) ((10^p:Nat):Int):=fun p=>by
  rw [Ns (tp p)]; decide +kernel
 have neg:∀ (n:Int) (p:Nat),(Rat.divInt n ((10^p:Nat):Int)).num<0↔n<0:=fun n p=>by
  have h:0≤(Rat.divInt n ((10^p:Nat):Int)).num↔0≤Rat.divInt n ((10^p:Nat):Int):=Rat.num_nonneg
  have h2:=Uc (a:=n) (b:=0) (tp p)
  rw [divInt_zero] at h2
  rw [← h2,← Int.not_le,h,Rat.not_le]
 have pos:∀ (n:Int) (p:Nat),(Rat.divInt n ((10^p:Nat):Int)).num≤0↔n≤0:=fun n p=>by
  have h2:=Uc (a:=0) (b:=n) (tp p)
  rw [divInt_zero] at h2
  generalize Rat.divInt n ((10^p:Nat):Int)=q at *
  have h3:0≤(-q).num↔0 ≤ -q:=Rat.num_nonneg
  have h4:(-q).num = -q.num:=rfl
  have h5:0 ≤ -q↔q≤0:=by
   constructor
   ·intro h; have := Rat.add_le_add_left (c:=q) |>.2 h; simpa [Rat.add_neg_cancel,Rat.add_zero] using this
   ·intro h; have := Rat.add_le_add_left (c := -q) |>.2 h; simpa [Rat.neg_add_cancel,Rat.add_zero] using this
  have h6:q≤0↔¬ 0<q:=Rat.not_lt.symm
  rw [h4,h5,h6,h2] at h3
  omega
 unfold Ag OX
 rw [ab9,ab9]
 cases Jk b.dH with
 | none=>simp
 | some np =>
   obtain ⟨n,p⟩:=np
   simp only [Option.map_some]
   have c1:(¬ p≤6∨(Rat.divInt n ((10^p:Nat):Int)).num<0∨q30<Rat.divInt n ((10^p:Nat):Int))↔(6<p∨n-0*((10^p:Nat):Int)<0∨(n-0*((10^p:Nat):Int)=0∧true=false)∨0<n-30*((10^p:Nat):Int)):=by
    rw [neg,q30e p,Uc (tp p)]
    generalize ((10^p:Nat):Int)=T
    simp <;> omega
   by_cases h1:(¬ p≤6∨(Rat.divInt n ((10^p:Nat):Int)).num<0∨q30<Rat.divInt n ((10^p:Nat):Int))
   ·rw [if_pos h1,if_pos (c1.1 h1)]
    simp
   ·rw [if_neg h1,if_neg (fun h=>h1 (c1.2 h))]
    cases Jk b.dM with
    | none=>simp
    | some mk =>
      obtain ⟨m,k⟩:=mk
      simp only [Option.map_some]
      have c2:(¬ k≤6∨(Rat.divInt m ((10^k:Nat):Int)).num≤0∨Vq<Rat.divInt m ((10^k:Nat):Int))↔(6<k∨m-0*((10^k:Nat):Int)<0∨(m-0*((10^k:Nat):Int)=0∧True)∨0<m-200*((10^k:Nat):Int)):=by
       rw [pos,q200e k,Uc (tp k)]
       generalize ((10^k:Nat):Int)=T
       simp <;> omega
      by_cases h2:(¬ k≤6∨(Rat.divInt m ((10^k:Nat):Int)).num≤0∨Vq<Rat.divInt m ((10^k:Nat):Int))
      ·rw [if_pos h2,if_pos (c2.1 h2)]
       simp
      ·rw [if_neg h2,if_neg (fun h=>h2 (c2.2 h))]
       simp
theorem UR {b:aQ} {q1:List D} {e1:Int} {c:Int} {t:List UInt8} (hs:Ag b=some (c,t))
  (w1:L.call dR [.str b.dH,.int .i64 0,.int .i64 30,.bool true]=some (.bg [.agg q1,.int .i64 e1])) (hq1:∃ x l1 c1 l2 c2,q1=[.bool x,.sl l1 c1,.sl l2 c2])
  (hcase:e1≠0∧c=e1∧t=D7∨e1=0∧∃ q2:List D,(∃ x l1 c1 l2 c2,q2=[.bool x,.sl l1 c1,.sl l2 c2])∧c≠0∧t=D8∧L.call dR [.str b.dM,.int .i64 0,.int .i64 200,.bool false]=some (.bg [.agg q2,.int .i64 c])) :
  L.call jl [aX b]=some (jr (chk b)):=by
 have i1:=nZ b.issue
 have i2:=nZ b.b_
 have ha:=G8 b.issue 360 false
 have hm:=Lm b
 unfold chk zu
 rw [hs]
 generalize r_ b.issue 360 false=ad at *
 generalize months b=mo at *
 obtain ⟨i,m,f,cp,r,n,s,e,x⟩:=b
 unfold aX aO at *
 simp only at *
 obtain ⟨x1,l1,k1,l2,k2,rfl⟩:=hq1
 refine aN J_ rfl (J3 ..) ?_
 by_cases d1:bn i
 ·rw [if_neg (fun h=>h d1)]
  rw [decide_eq_true d1] at i1
  by_cases d2:bn m
  ·rw [if_neg (fun h=>h d2)]
   rw [decide_eq_true d2] at i2
   by_cases d3:m≤i
   ·rw [if_pos d3]
    cases ad with
    | none=>simp [okD] at ha; simp [aW,i1,i2,ha,d3,jr,vG]
    | some a=>simp [okD] at ha; simp [aW,i1,i2,ha,d3,jr,vG]
   ·rw [if_neg d3]
    have rest:∀ (a:Int) (ok:Bool),L.call fA [.int .i64 i,.int .i64 360,.bool false]=some (.bg [.int .i64 a,.bool ok])→¬ (ok=true∧a<m) →
      bd (aW [] L (.agg [.int .i64 i,.int .i64 m,.int .i64 f,.str cp,.str r,.int .i64 n,.int .i64 s,.bool e,.int .i64 x])) fin=some (jr (if mo=0 then some (5,U4) else some (c,t))):=by
     intro a ok ha hno
     have hcase2:ok=false∨(ok=true∧¬ a<m):=by
      cases ok with
      | false=>exact .inl rfl
      | true=>exact .inr ⟨rfl,fun h=>hno ⟨rfl,h⟩⟩
     by_cases h0:mo=0
     ·rw [if_pos h0]
      rcases hcase2 with rfl | ⟨rfl,hlt⟩
      ·simp [aW,i1,i2,ha,d3,hm,h0,jr,U4]
      ·simp [aW,i1,i2,ha,d3,hlt,hm,h0,jr,U4]
     rw [if_neg h0]
     rcases hcase with ⟨h1,rfl,rfl⟩ | ⟨rfl,q2,⟨x2,l3,k3,l4,k4,rfl⟩,h1,rfl,w2⟩
     ·rcases hcase2 with rfl | ⟨rfl,hlt⟩
      ·simp [aW,i1,i2,ha,d3,hm,h0,w1,h1,jr,D7,cu]
      ·simp [aW,i1,i2,ha,d3,hlt,hm,h0,w1,h1,jr,D7,cu]
     ·rcases hcase2 with rfl | ⟨rfl,hlt⟩
      ·simp [aW,i1,i2,ha,d3,hm,h0,w1,w2,h1,jr,D8,cu]
      ·simp [aW,i1,i2,ha,d3,hlt,hm,h0,w1,w2,h1,jr,D8,cu]
    cases ad with
    | none=>exact rest 0 false ha (by simp)
    | some a =>
      by_cases d4:(a:Int)<m
      ·simp only [if_pos d4]
       simp [okD] at ha
       simp [aW,i1,i2,ha,d3,d4,jr,vG]
      ·simp only [if_neg d4]
       exact rest a true ha (by simpa using d4)
  ·rw [if_pos d2]
   rw [decide_eq_false d2] at i2
   simp [aW,i1,i2,jr,vG]
 ·rw [if_pos d1]
  rw [decide_eq_false d1] at i1
  simp [aW,i1,jr,aes]
theorem afn {b:aQ} (hc:b.dH.length≤1000) (hr:b.dM.length≤1000):L.call jl [aX b]=some (jr (chk b)):=by
 have w1:=Et hc (lo:=0) (hi:=30) (by omega) (by omega) true
 have w2:=Et hr (lo:=0) (hi:=200) (by omega) (by omega) false
 rw [akz] at w1 w2
 have hs:=afx b
 have hq:∀ n d,∃ x l1 c1 l2 c2,qC n d=[.bool x,.sl l1 c1,.sl l2 c2]:=fun n d=>⟨_,_,_,_,_,rfl⟩
 by_cases h1:OX b.dH 0 30 true=0
 ·rw [if_neg (fun h=>h h1)] at hs
  rw [h1] at w1
  by_cases h2:OX b.dM 0 200 false=0
  ·rw [if_neg (fun h=>h h2)] at hs
   rw [h2] at w2
   exact acX hs w1 w2
  ·rw [if_pos h2] at hs
   exact UR hs w1 (hq _ _) (.inr ⟨rfl,_,hq _ _,h2,rfl,w2⟩)
 ·rw [if_pos h1] at hs
  exact UR hs w1 (hq _ _) (.inl ⟨h1,rfl,rfl⟩)
end Go.Ev.Code
end
