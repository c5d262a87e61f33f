/- A part of the proof of priceAll_card, yieldAll_card, priceSum_card, flowAll_card, accrAll_card. -/
import Derived.Test.YtfkdcfbleblgoaaGreatDoorCSpA
set_option linter.unusedVariables false
set_option linter.unusedSimpArgs false
section
namespace Go.Ev.Code
open Go Go.Ev
theorem asT:∀ {l:List Nat},(∀ i,l.getD i 0=0)→val l=0
 | [],_=>rfl
 | x::xs,h=>by
   have h0:=h 0
   simp at h0
   have := asT (l:=xs) (fun i=>by simpa using h (i+1))
   simp [h0,this]
theorem ZV {u:List Nat} {k:Nat} (h:∀ i,k≤i→u.getD i 0=0):val u=val (u.take k):=by
 have h1:=val_append (u.take k) (u.drop k)
 rw [List.take_append_drop] at h1
 have h2:val (u.drop k)=0:=asT fun i=>by
  have := h (k+i) (by omega)
  simpa [List.getD] using this
 rw [h1,h2]; simp
theorem aDZ {u:List Nat} {k t:Nat} (h:∀ i,k<i→u.getD i 0=0) (ht:u[k]?=some t):val u=val (u.take k)+W^k*t:=by
 rw [ZV (k:=k+1) (fun i hi=>h i hi),jr ht]
theorem azB (u:List Nat) (i:Nat):W^i*u.getD i 0≤val u:=by
 have h1:=val_append (u.take (i+1)) (u.drop (i+1))
 rw [List.take_append_drop] at h1
 rw [h1,kD]
 omega
theorem amT {u:List Nat} {k:Nat} (h:val u<W^k) (i:Nat) (hi:k≤i):u.getD i 0=0:=by
 rcases Nat.eq_zero_or_pos (u.getD i 0) with h1 | h1
 ·exact h1
 ·have h2:=azB u i
  have h3:W^k≤W^i:=Nat.pow_le_pow_right jC hi
  have h4:W^i*1≤W^i*u.getD i 0:=Nat.mul_le_mul_left _ h1
  omega
theorem aCT {u:List Nat} {j k:Nat} (su:Small u) (hj:j≤u.length) (h:∀ i,j+k≤i→u.getD i 0=0):val ((u.drop j).take k)=val u / W^j:=by
 have h1:=val_append (u.take j) (u.drop j)
 rw [List.take_append_drop] at h1
 have hl:(u.take j).length=j:=by simp; omega
 rw [hl] at h1
 have h2:=nV su (k:=j)
 have h3:val (u.drop j)=val ((u.drop j).take k):=ZV fun i hi=>by
  have := h (j+i) (by omega)
  simpa [List.getD] using this
 rw [← h3,h1,Nat.add_mul_div_left _ _ (Nat.pow_pos jC),Nat.div_eq_of_lt h2,Nat.zero_add]
theorem ama {l:List Nat} (h:Small l) (k:Nat):Small (l.drop k):=fun x hx=>h x (List.mem_of_mem_drop hx)
theorem ax5 {v lb:List Nat} {s j n N V R Q mq:Nat} (sv:Small v) (hv:v.length=n+1) (hV:val (v.take n)=V) (hV0:0<V) (hN:j+n<N) (hN2:N≤4000000000) (hR:R<W^(j+1)*V) (hQ:Q=R / (W^j*V)) (hjm:j<mq) (hmq:mq≤4000000000) :
  ∀ (g:Nat) (u qs:List Nat),qs.length=mq→qs[j]?=some g→g<W→Q<g→u.length=N→Small u→val u+W^j*(g*V)=R+W^(j+n+1)→(∀ i,j+n<i→u.getD i 0=0) →
  ∃ u',u'.length=N∧Small u'∧val u'+W^j*(Q*V)=R ∧
    L.loop [1,6,7,8,9,10,11,12] [1,6,7,8,9,10] BP 3 [aQ lb,.int .i64 s,.aO 0 0 N 1,.aO 1 0 n 1,.aO 2 0 mq 1,.int .i64 j,.aO 0 j (n+1) 1,.bool true] (M3 u v qs) =
      some (.exit 2,[aQ lb,.int .i64 s,.aO 0 0 N 1,.aO 1 0 n 1,.aO 2 0 mq 1,.int .i64 j],M3 u' v (qs.set j Q)):=by
 have hVn:V<W^n:=by rw [← hV]; exact nV sv
 have hdm:Q*(W^j*V)≤R:=by rw [hQ]; exact Nat.div_mul_le_self _ _
 have hjV:0<W^j*V:=Nat.mul_pos (Nat.pow_pos jC) hV0
 have hlt:R<(Q+1)*(W^j*V):=by
  rw [hQ]
  have := Nat.lt_mul_div_succ R hjV
  rw [Nat.mul_comm] at this
  exact this
 have hjn:W^j*V≤W^(j+n):=by rw [Nat.pow_add]; exact Nat.mul_le_mul_left _ (Nat.le_of_lt hVn)
 intro g
 induction g with
 | zero=>intro u qs _ _ _ h; omega
 | succ g ih =>
   intro u qs hqs hg hgW hQg hu su hval hhi
   obtain ⟨u1,d,g1,g2,g3,g4,g5,g6⟩:=arL (qs:=qs.set j g) sv hv hN hN2 hu su
   rw [hV] at g4
   have hhi1:∀ i,j+n<i→u1.getD i 0=0:=fun i hi=>by
    rw [List.getD_eq_getElem?_getD,g5 i (by omega),← List.getD_eq_getElem?_getD]; exact hhi i hi
   obtain ⟨t,ht⟩:∃ t,u1[j+n]?=some t:=⟨u1[j+n],List.getElem?_eq_getElem (by omega)⟩
   have ht1:∀ p:j+n<u1.length,u1[j+n]=t:=fun p=>by simpa using (List.getElem?_eq_some_iff.1 ht).2
   have htop:=aDZ hhi1 ht
   have hlow:=nV g2 (k:=j+n)
   have hg1:∀ p:j<qs.length,qs[j]=g+1:=fun p=>by simpa using (List.getElem?_eq_some_iff.1 hg).2
   have hw:IntKind.u64.wrap (((g+1:Nat):Int)-1)=(g:Int):=by
    unfold W at hgW
    rw [dJ _ (by omega)]; omega
   have hsucc:W^j*((g+1)*V)=W^j*(g*V)+W^j*V:=by rw [Nat.add_mul,Nat.mul_add,Nat.one_mul]
   have hc1:W^j*(g*V)=g*(W^j*V):=Nat.mul_left_comm ..
   have hpow:W^(j+n+1)=W^(j+n)*W:=Nat.pow_succ ..
   have main:∃ u',u'.length=N∧Small u'∧val u'+W^j*(Q*V)=R ∧
    L.loop [1,6,7,8,9,10,11,12] [1,6,7,8,9,10] BP 3 [aQ lb,.int .i64 s,.aO 0 0 N 1,.aO 1 0 n 1,.aO 2 0 mq 1,.int .i64 j,.aO 0 j (n+1) 1,.bool (!decide ((t:Int)=0))] (M3 u1 v (qs.set j g)) =
      some (.exit 2,[aQ lb,.int .i64 s,.aO 0 0 N 1,.aO 1 0 n 1,.aO 2 0 mq 1,.int .i64 j],M3 u' v (qs.set j Q)):=by
    rcases Nat.lt_or_ge d 1 with hd | hd
    ·have : d=0:=by omega
     subst this
     have hgQ:Q<g:=by
      rcases Nat.lt_or_ge Q g with h | h
      ·exact h
      ·have h1:g*(W^j*V)≤Q*(W^j*V):=Nat.mul_le_mul_right _ h
       have h2:W^(j+n)*t+val (u1.take (j+n))<W^(j+n)*W:=by
        have : W^(j+n)*(t+1)≤W^(j+n)*W:=Nat.mul_le_mul_left _ (g2.get ht)
        rw [Nat.mul_add] at this
        omega
       omega
     have ht0:t≠0:=by
      rintro rfl
      have h1:g*(W^j*V)≤g*W^(j+n):=Nat.mul_le_mul_left _ hjn
      have h2:g*W^(j+n)≤(W-2)*W^(j+n):=Nat.mul_le_mul_right _ (by omega)
      have h3:(W-2)*W^(j+n)+2*W^(j+n)=W^(j+n)*W:=by
       rw [← Nat.add_mul,Nat.mul_comm]; congr 1
      omega
     obtain ⟨u',p1,p2,p3,p4⟩:=ih u1 (qs.set j g) (by simp [hqs]) (List.getElem?_set_self (by omega)) (by omega) hgQ g1 g2 (by omega) hhi1
     refine ⟨u',p1,p2,p3,?_⟩
     have : (!decide ((t:Int)=0))=true:=by simp; omega
     rw [this,p4,List.set_set]
    ·have : d=1:=by omega
     subst this
     have hgQ:g=Q:=by
      have h1:g*(W^j*V)<(Q+1)*(W^j*V):=by omega
      have := Nat.lt_of_mul_lt_mul_right h1
      omega
     subst hgQ
     have ht0:t=0:=by
      rcases Nat.eq_zero_or_pos t with h | h
      ·exact h
      ·have h1:W^(j+n)*1≤W^(j+n)*t:=Nat.mul_le_mul_left _ h
       rw [Nat.add_mul] at hlt
       omega
     subst ht0
     refine ⟨u1,g1,g2,by omega,au (V_ ..) ?_⟩
     simp [-List.map_set,Ot]
   obtain ⟨u',p1,p2,p3,p4⟩:=main
   refine ⟨u',p1,p2,p3,au (V_ ..) ?_⟩
   generalize g+1=gg at *
   simp [-List.map_set] at p4 g6
   simp (disch:=omega) [-List.map_set,lW,Ot,hqs,hg1,hw,g6,g1,ht1,p4]
theorem aD8 (u v q:List Nat):Cl (M3 u v q):=by simp
theorem aEp {u v q:List Nat} {j k N:Nat} (hu:u.length=N) (hj:j+k≤N):uw (M3 u v q) (.aO 0 j k 1) ((u.drop j).take k):=by
 refine .inr ⟨0,j,(u.take j).map ak,((u.drop j).drop k).map ak,?_,?_,by simp; omega⟩
 ·congr 1; simp; omega
 ·simp only [M3,List.getElem?_cons_zero,Option.some.injEq,Slot.live.injEq]
  rw [← List.map_append,← List.map_append,List.take_append_drop,List.take_append_drop]
theorem aEr {u v q:List Nat} {k:Nat} (hv:k≤v.length):uw (M3 u v q) (.aO 1 0 k 1) (v.take k):=by
 refine .inr ⟨1,0,[],(v.drop k).map ak,?_,?_,rfl⟩
 ·congr 1; simp; omega
 ·simp only [M3,List.getElem?_cons_succ,List.getElem?_cons_zero,Option.some.injEq,Slot.live.injEq,List.nil_append]
  rw [← List.map_append,List.take_append_drop]
set_option maxHeartbeats 1000000 in
theorem ax6 {v lb:List Nat} {s n N V mq A:Nat} (sv:Small v) (hv:v.length=n+1) (hV:val (v.take n)=V) (hV0:0<V) (hn:2≤n) (hN:N=mq+n) (hN2:N≤2000000000) :
  ∀ (j:Nat) (u qs:List Nat),j≤mq→qs.length=mq→u.length=N→Small u→Small qs→val u<W^j*V→(∀ i,i<j→qs[i]?=some 0)→val u+V*val qs=A →
  ∃ u' qs',u'.length=N∧qs'.length=mq∧Small u'∧Small qs'∧val u'<V∧val u'+V*val qs'=A ∧
    L.loop [1,6,7,8,9,10] [1,6,7,9] NH 3 [aQ lb,.int .i64 s,.aO 0 0 N 1,.aO 1 0 n 1,.aO 2 0 mq 1,.int .i64 ((j:Int)-1)] (M3 u v qs) =
      some (.exit 0,[aQ lb,.int .i64 s,.aO 0 0 N 1,.aO 2 0 mq 1],M3 u' v qs'):=by
 intro j
 induction j with
 | zero =>
   intro u qs hj hqs hu su sq hlt hz hA
   refine ⟨u,qs,hu,hqs,su,sq,by simpa using hlt,hA,au (afc ..) ?_⟩
   simp [-List.map_set,Xq]
 | succ j ih =>
   intro u qs hj hqs hu su sq hlt hz hA
   have e0:((j+1:Nat):Int)-1=j:=by omega
   rw [e0]
   have hVn:V<W^n:=by rw [← hV]; exact nV sv
   have hjV:0<W^j*V:=Nat.mul_pos (Nat.pow_pos jC) hV0
   have hub:val u<W^(j+n+1):=by
    refine Nat.lt_of_lt_of_le hlt ?_
    have : W^(j+n+1)=W^(j+1)*W^n:=by rw [← Nat.pow_add]; congr 1; omega
    rw [this]; exact Nat.mul_le_mul_left _ (Nat.le_of_lt hVn)
   have hhi:∀ i,j+n<i→u.getD i 0=0:=fun i hi=>amT hub i hi
   have hmid:val ((u.drop j).take (n+1))=val u / W^j:=aCT su (by omega) (fun i hi=>hhi i (by omega))
   obtain ⟨Q,hQ⟩:∃ Q,Q=val u / (W^j*V):=⟨_,rfl⟩
   have hQW:Q<W:=by
    rw [hQ,Nat.div_lt_iff_lt_mul hjV,← Nat.mul_assoc,← Nat.pow_succ']; exact hlt
   obtain ⟨g,hgW,hgQ,hguess⟩:=arM (aD8 u v qs) (aEp (v:=v) (q:=qs) (j:=j) (k:=n+1) hu (by omega)) (aEr (u:=u) (q:=qs) (k:=n) (by omega)) ((ama su j).take _) (sv.take n)
    (by simp; omega) (by simp; omega) (by simp; omega) (by
     rw [hmid,hV,Nat.div_lt_iff_lt_mul (Nat.pow_pos jC),Nat.mul_right_comm,← Nat.pow_succ']; exact hlt)
   rw [hmid,hV,Nat.div_div_eq_div_mul,← hQ] at hgQ
   obtain ⟨u1,d,g1,g2,g3,g4,g5,g6⟩:=arQ (qs:=qs.set j g) sv hv hgW (N:=N) (j:=j) (by omega) (by omega) hu su
   rw [hV] at g4
   have hhi1:∀ i,j+n<i→u1.getD i 0=0:=fun i hi=>by
    rw [List.getD_eq_getElem?_getD,g5 i (by omega),← List.getD_eq_getElem?_getD]; exact hhi i hi
   have hu1:val u1<W^(j+n+1):=by
    rw [ZV (k:=j+n+1) (fun i hi=>hhi1 i (by omega))]; exact nV g2
   have hdm:Q*(W^j*V)≤val u:=by rw [hQ]; exact Nat.div_mul_le_self _ _
   have hlt2:val u<(Q+1)*(W^j*V):=by
    rw [hQ]
    have := Nat.lt_mul_div_succ (val u) hjV
    rw [Nat.mul_comm] at this
    exact this
   have hc1:∀ x,W^j*(x*V)=x*(W^j*V):=fun x=>Nat.mul_left_comm ..
   have main:∃ u',u'.length=N∧Small u'∧val u'+W^j*(Q*V)=val u ∧
    L.loop [1,6,7,8,9,10,11,12] [1,6,7,8,9,10] BP 3 [aQ lb,.int .i64 s,.aO 0 0 N 1,.aO 1 0 n 1,.aO 2 0 mq 1,.int .i64 j,.aO 0 j (n+1) 1,.bool (decide (d=1))] (M3 u1 v (qs.set j g)) =
      some (.exit 2,[aQ lb,.int .i64 s,.aO 0 0 N 1,.aO 1 0 n 1,.aO 2 0 mq 1,.int .i64 j],M3 u' v (qs.set j Q)):=by
    by_cases hd:d=1
    ·subst hd
     have hQg:Q<g:=by
      rcases Nat.lt_or_ge Q g with h | h
      ·exact h
      ·have h1:g*(W^j*V)≤Q*(W^j*V):=Nat.mul_le_mul_right _ h
       rw [hc1] at g4
       omega
     obtain ⟨u',p1,p2,p3,p4⟩:=ax5 (lb:=lb) (s:=s) (mq:=mq) sv hv hV hV0 (N:=N) (by omega) (by omega) hlt hQ (by omega) (by omega) g u1 (qs.set j g) (by simp [hqs]) (List.getElem?_set_self (by omega)) hgW hQg g1 g2 (by omega) hhi1
     refine ⟨u',p1,p2,p3,?_⟩
     rw [List.set_set] at p4
     exact p4
    ·have : d=0:=by omega
     subst this
     have hQg:g=Q:=by
      have h1:g*(W^j*V)<(Q+1)*(W^j*V):=by rw [hc1] at g4; omega
      have := Nat.lt_of_mul_lt_mul_right h1
      omega
     refine ⟨u1,g1,g2,?_,?_⟩
     ·rw [← hQg,g4,Nat.mul_zero,Nat.add_zero]
     ·rw [← hQg]
      refine au (V_ ..) ?_
      simp [-List.map_set,Ot]
   obtain ⟨u2,p1,p2,p3,p4⟩:=main
   have hset:=tN Q (hz j (by omega))
   obtain ⟨u',qs',q1,q2,q3,q4,q5,q6,q7⟩   := ih u2 (qs.set j Q) (by omega) (by simp [hqs]) p1 p2 (sq.set hQW j) (by
     rw [hc1] at p3
     rw [Nat.add_mul] at hlt2
     omega) (fun i hi=>by rw [List.getElem?_set_ne (by omega)]; exact hz i (by omega)) (by
     rw [← hA]
     have : V*(val (qs.set j Q))=V*val qs+W^j*(Q*V):=by
      have h1:val (qs.set j Q)=val qs+W^j*Q:=by simpa using hset
      rw [h1,Nat.mul_add,Nat.mul_comm V (W^j*Q),Nat.mul_assoc]
     omega)
   refine ⟨u',qs',q1,q2,q3,q4,q5,q6,au (afc ..) ?_⟩
   have e1:IntKind.i64.wrap ((j:Int)-1)=(j:Int)-1:=wrap64 _ (by omega)
   have e2:IntKind.i64.wrap ((j:Int)+n)=((j+n:Nat):Int):=by rw [wrap64 _ (by omega)]; omega
   have e3:IntKind.i64.wrap (((j+n:Nat):Int)+1)=((j+n+1:Nat):Int):=by rw [wrap64 _ (by omega)]; omega
   have hqg:∀ p:j<(qs.set j g).length,(qs.set j g)[j]=g:=fun p=>by simp
   have e4:j+n+1-j=n+1:=by omega
   generalize hjn:j+n=jn at *
   have e3':IntKind.i64.wrap ((jn:Int)+1)=((jn+1:Nat):Int):=e3
   generalize hjn1:jn+1=jn1 at *
   simp [-List.map_set] at hguess g6 p4 q7
   simp (disch:=omega) [-List.map_set,lW,Xq,e2,e3',e4,hguess,hqs,g6,p4,e1,q7]
end Go.Ev.Code
end
section
namespace Go.Ev.Code
open Go Go.Ev
abbrev M4 (u v q r:List Nat):Mem:=[.live (u.map ak),.live (v.map ak),.live (q.map ak),.live (r.map ak)]
theorem anN {x y s:Nat} (hx:x<W) (hs:s<64):(x / 2^s ||| y*2 % W*2^(63-s) % W)<W∧2^s*(x / 2^s ||| y*2 % W*2^(63-s) % W)+x % 2^s=x+W*(y % 2^s):=by
 have e1:y*2 % W*2^(63-s) % W=y*2^(64-s) % W:=by
  rw [Nat.mod_mul_mod,Nat.mul_assoc,← Nat.pow_succ']
  congr 3; omega
 have e2:y*2^(64-s) % W=2^(64-s)*(y % 2^s):=by
  have := avf (x:=y) (s:=64-s) (by omega)
  rw [this]; congr 3; omega
 have h64:2^(64-s)*2^s=W:=by rw [← Nat.pow_add,tY]; congr 1; omega
 have hlt:x / 2^s<2^(64-s):=by rw [Nat.div_lt_iff_lt_mul (Nat.two_pow_pos _),h64]; exact hx
 rw [e1,e2,Nat.or_comm,ar0 hlt]
 have hm:y % 2^s<2^s:=Nat.mod_lt _ (Nat.two_pow_pos _)
 constructor
 ·have : 2^(64-s)*(y % 2^s+1)≤2^(64-s)*2^s:=Nat.mul_le_mul_left _ hm
  rw [h64,Nat.mul_add] at this
  omega
 ·have hdm:=Nat.div_add_mod x (2^s)
  rw [Nat.mul_add,← Nat.mul_assoc,Nat.mul_comm (2^s) (2^(64-s)),h64]
  omega
theorem axe {u v q:List Nat} {s n N mq:Nat} (su:Small u) (hu:u.length=N) (hs:s<64) (hn:n<N) (hN2:N≤4000000000) :
  ∀ (j k:Nat) (r:List Nat),k+j=n→r.length=n→Small r→(∀ i,k≤i→i<n→r[i]?=some 0)→2^s*val r+u.getD 0 0 % 2^s+W^k*u.getD k 0=val (u.take (k+1))+W^k*(u.getD k 0 % 2^s) →
  ∃ r',r'.length=n∧Small r'∧2^s*val r'+u.getD 0 0 % 2^s+W^n*u.getD n 0=val (u.take (n+1))+W^n*(u.getD n 0 % 2^s) ∧
    L.loop [6,7,9,13,86,87] [9,13] NI 4 [.int .i64 s,.aO 0 0 N 1,.aO 2 0 mq 1,.aO 3 0 n 1,.int .i64 n,.int .i64 k] (M4 u v q r)=some (.exit 4,[.aO 2 0 mq 1,.aO 3 0 n 1],M4 u v q r'):=by
 intro j
 induction j with
 | zero =>
   intro k r hk hr sr hz hv
   have : k=n:=by omega
   subst this
   refine ⟨r,hr,sr,hv,au (afd ..) ?_⟩
   simp [-List.map_set,Xr]
 | succ j ih =>
   intro k r hk hr sr hz hv
   have hku:k<u.length:=by omega
   have hku1:k+1<u.length:=by omega
   have hx:=t_ su k
   have hy:=t_ su (k+1)
   have hx1:u[k]=u.getD k 0:=by simp [List.getD,hku]
   have hy1:u[k+1]=u.getD (k+1) 0:=by simp [List.getD,hku1]
   have tu:=kD u (k+1)
   generalize hxx:u.getD k 0=x at *
   generalize hyy:u.getD (k+1) 0=y at *
   obtain ⟨hbW,hb⟩:=anN (y:=y) hx hs
   generalize hcell:(x / 2^s ||| y*2 % W*2^(63-s) % W)=b at *
   have hset:=tN b (hz k (Nat.le_refl _) (by omega))
   obtain ⟨r',g1,g2,g3,g4⟩:=ih (k+1) (r.set k b) (by omega) (by simp [hr]) (sr.set hbW _) (fun i h1 h2=>by rw [List.getElem?_set_ne (by omega)]; exact hz i (by omega) h2) (by
    rw [tu,hyy]
    have h1:val (r.set k b)=val r+W^k*b:=by simpa using hset
    rw [h1,Nat.mul_add]
    have h2:2^s*(W^k*b)+W^k*(x % 2^s)=W^k*x+W^(k+1)*(y % 2^s):=by
     rw [Nat.mul_left_comm,← Nat.mul_add,hb,Nat.mul_add,Nat.pow_succ,Nat.mul_assoc]
    omega)
   refine ⟨r',g1,g2,g3,au (afd ..) ?_⟩
   have e1:IntKind.i64.wrap ((k:Int)+1)=((k+1:Nat):Int):=by rw [wrap64 _ (by omega)]; omega
   have e2:IntKind.i64.wrap (63-(s:Int))=((63-s:Nat):Int):=by rw [wrap64 _ (by omega)]; omega
   obtain ⟨a1,ha1⟩:∃ a,x / 2^s=a:=⟨_,rfl⟩
   obtain ⟨a2,ha2⟩:∃ a,y*2^1 % W=a:=⟨_,rfl⟩
   obtain ⟨a3,ha3⟩:∃ a,a2*2^(63-s) % W=a:=⟨_,rfl⟩
   have f1:∀ m:Mem,tV false [.int .u64 x,.int .i64 s] m=some (.int .u64 (a1:Int),m):=fun m=>by rw [ae8 (by omega),ha1]
   have f2:∀ m:Mem,tV true [.int .u64 y,.int .u64 1] m=some (.int .u64 (a2:Int),m):=fun m=>by
    have := acE (m:=m) (k := .u64) (a:=y) (s:=1) (by omega)
    rw [ha2] at this; exact this
   have f3:∀ m:Mem,tV true [.int .u64 a2,.int .i64 ((63-s:Nat):Int)] m=some (.int .u64 (a3:Int),m):=fun m=>by rw [acE (by omega),ha3]
   have f4:∀ m:Mem,eX .or [.int .u64 a1,.int .u64 a3] m=some (.int .u64 (b:Int),m):=fun m=>by
    rw [orU (by rw [← ha1]; exact Nat.lt_of_le_of_lt (Nat.div_le_self _ _) hx) (by rw [← ha3]; exact Nat.mod_lt _ jC),← hcell,← ha1,← ha3,← ha2]
   generalize hv63:63-s=v63 at *
   have hkn:k<n:=by omega
   have hx2:∀ p:k<u.length,u[k]=x:=fun _=>hx1
   have hy2:∀ p:k+1<u.length,u[k+1]=y:=fun _=>hy1
   clear hx1 hy1
   generalize hk1:k+1=k1 at *
   have hk1N:k1<N:=by omega
   simp (disch:=omega) [-List.map_set,lW,Xr,hkn,hx2,hy2,e1,e2,f1,f2,f3,f4,hr,hu,g4]
theorem at7 {la lb:List Nat} (ca:Canon la) (cb:Canon lb) (hlen:lb.length≤la.length) (h2:2≤lb.length) (hL:la.length≤1000000000) :
  ∃ q r,Small q∧Small r∧q.length≤la.length∧r.length=lb.length∧val q=val la / val lb∧val r=val la % val lb∧L.call aeF [aQ la,aQ lb]=some (.aG [aQ q,aQ r]):=by
 have hne:lb≠[]:=by intro h; rw [h] at h2; simp at h2
 obtain ⟨top,htop⟩:∃ t,lb[lb.length-1]?=some t:=⟨lb[lb.length-1],List.getElem?_eq_getElem (by omega)⟩
 have htW:=cb.1.get htop
 have ht0:top≠0:=by
  have h1:=cb.2 hne
  rw [List.getLast_eq_getElem] at h1
  have h3:=(List.getElem?_eq_some_iff.1 htop).2
  rwa [h3] at h1
 have htop1:∀ p:lb.length-1<lb.length,lb[lb.length-1]=top:=fun p=>by simpa using (List.getElem?_eq_some_iff.1 htop).2
 obtain ⟨s,hs,hlead,hs1,hs2⟩:=au0 htW ht0
 obtain ⟨u,hu1,hu2,hu3,hu4⟩:=arN ca.1 hs (by omega)
 obtain ⟨v,hv1,hv2,hv3,hv4⟩:=arO (pu:=u) cb.1 hs (by omega)
 have hb:val lb=val (lb.take (lb.length-1))+W^(lb.length-1)*top:=by
  have := jr htop
  rwa [List.take_of_length_le (by omega)] at this
 have hblow:=nV cb.1 (k:=lb.length-1)
 have hpw:W^lb.length=W^(lb.length-1)*W:=by rw [← Nat.pow_succ]; congr 1; omega
 have hVlt:val v<W^lb.length:=by
  rw [hv3,hb,Nat.add_mul,Nat.mul_assoc,hpw]
  have h3:2^s ∣ W:=by rw [tY]; exact Nat.pow_dvd_pow 2 (by omega)
  obtain ⟨k,hk⟩:=h3
  have h4:top*2^s+2^s≤W:=by
   have : top+1≤k:=by
    rw [hk,Nat.mul_comm top] at hs2
    exact Nat.lt_of_mul_lt_mul_left hs2
   have h5:=Nat.mul_le_mul_left (2^s) this
   rw [hk,Nat.mul_comm top]; rw [Nat.mul_add] at h5; omega
  have h5:W^(lb.length-1)*(top*2^s+2^s)≤W^(lb.length-1)*W:=Nat.mul_le_mul_left _ h4
  have h6:val (lb.take (lb.length-1))*2^s<W^(lb.length-1)*2^s:=Nat.mul_lt_mul_of_pos_right hblow (Nat.two_pow_pos _)
  rw [Nat.mul_add] at h5
  omega
 have hVhi:=amT hVlt
 have hV:val (v.take lb.length)=val lb*2^s:=by rw [← ZV hVhi,hv3]
 have hVge:W^(lb.length-1)*2^63≤val lb*2^s:=by
  rw [hb,Nat.add_mul,Nat.mul_assoc]
  have := Nat.mul_le_mul_left (W^(lb.length-1)) hs1
  omega
 have hb0:0<val lb:=by
  have := ajz cb hne
  have := Nat.pow_pos (n:=lb.length-1) jC
  omega
 have hV0:0<val lb*2^s:=Nat.mul_pos hb0 (Nat.two_pow_pos _)
 obtain ⟨mq,hmq⟩:∃ mq,mq=la.length-lb.length+1:=⟨_,rfl⟩
 have hult:val u<W^mq*(val lb*2^s):=by
  have h3:val la<W^la.length:=V6 ca.1
  have h4:W^mq*(W^(lb.length-1)*2^63)=W^la.length*2^63:=by rw [← Nat.mul_assoc,← Nat.pow_add,show mq+(lb.length-1)=la.length by omega]
  have h5:=Nat.mul_le_mul_left (W^mq) hVge
  have h6:val la*2^s<W^la.length*2^s:=Nat.mul_lt_mul_of_pos_right h3 (Nat.two_pow_pos _)
  have h7:W^la.length*2^s≤W^la.length*2^63:=Nat.mul_le_mul_left _ (Nat.pow_le_pow_right (by decide) (by omega))
  rw [hu3]
  exact Nat.lt_of_lt_of_le h6 (Nat.le_trans h7 (by rw [← h4]; exact h5))
 obtain ⟨u',qs,p1,p2,p3,p4,p5,p6,p7⟩:=ax6 (lb:=lb) (s:=s) (n:=lb.length) (N:=la.length+1) (mq:=mq) (A:=val u) hv2 hv1 hV hV0 h2 (by omega) (by omega) mq u (List.replicate mq 0) (Nat.le_refl _) (by simp) hu1 hu2 (xQ _) hult
  (fun i hi=>by rw [List.getElem?_replicate,if_pos hi]) (by rw [Ec,Nat.mul_zero,Nat.add_zero])
 obtain ⟨r,g1,g2,g3,g4⟩:=axe (v:=v) (q:=qs) (s:=s) (n:=lb.length) (N:=la.length+1) (mq:=mq) p3 p1 hs (by omega) (by omega) lb.length 0 (List.replicate lb.length 0) (by omega) (by simp) (xQ _)
  (fun i _ hi=>by rw [List.getElem?_replicate,if_pos hi]) (by
   have := kD u' 0
   simp only [List.take_zero,ant,Nat.pow_zero,Nat.one_mul,Nat.zero_add] at this
   rw [Ec,this]; simp; omega)
 have hu'hi:=amT (Nat.lt_trans p5 (by rw [← hV]; exact nV hv2))
 have hR:2^s*val r+u'.getD 0 0 % 2^s=val u':=by
  have h3:=hu'hi lb.length (Nat.le_refl _)
  rw [h3,← ZV (k:=lb.length+1) (fun i hi=>hu'hi i (by omega))] at g3
  simpa using g3
 have hRr:val r=val u' / 2^s:=by
  rw [← hR,Nat.mul_add_div (Nat.two_pow_pos _),Nat.div_eq_of_lt (Nat.mod_lt _ (Nat.two_pow_pos _)),Nat.add_zero]
 have hq:val qs=val la / val lb∧val u'=val la % val lb*2^s:=by
  rw [hu3] at p6
  have h3:val la*2^s / (val lb*2^s)=val qs:=by
   rw [← p6,Nat.add_mul_div_left _ _ hV0,Nat.div_eq_of_lt p5,Nat.zero_add]
  have h4:val la*2^s % (val lb*2^s)=val u':=by
   rw [← p6,Nat.add_mul_mod_self_left,Nat.mod_eq_of_lt p5]
  rw [Nat.mul_div_mul_right _ _ (Nat.two_pow_pos _)] at h3
  rw [Nat.mul_mod_mul_right] at h4
  exact ⟨h3.symm,h4.symm⟩
 have hr:val r=val la % val lb:=by rw [hRr,hq.2,Nat.mul_div_cancel _ (Nat.two_pow_pos _)]
 refine ⟨qs,r,p4,g2,by omega,g1,hq.1,hr,aj (avz ..) ?_⟩
 clear hq hr hRr hR hu'hi g3 p6 hult hVge hV hVhi hVlt hpw hb hblow hs1 hs2 p5 hv3 hu3 hV0
 have e1:IntKind.i64.wrap ((lb.length:Int)-1)=((lb.length-1:Nat):Int):=by rw [wrap64 _ (by omega)]; omega
 have e2:IntKind.i64.wrap ((la.length:Int)-lb.length)=((la.length-lb.length:Nat):Int):=by rw [wrap64 _ (by omega)]; omega
 have e3:IntKind.i64.wrap (((la.length-lb.length:Nat):Int)+1)=(mq:Int):=by rw [wrap64 _ (by omega)]; omega
 have e4:IntKind.i64.wrap ((mq:Int)-1)=(mq:Int)-1:=wrap64 _ (by omega)
 generalize hl1:lb.length-1=l1 at *
 generalize hd1:la.length-lb.length=dl at *
 simp only [M3,M4,aa1] at p7 g4
 have hl1':(l1:Int)<lb.length:=by omega
 have hl1n:l1<lb.length:=by omega
 simp [-List.map_set] at hlead hu4 hv4 p7 g4
 simp (disch:=omega) [-List.map_set,lW,lD,al7,f_,e1,e2,e3,e4,hl1',htop1,hlead,hu4,hv4,p7,g4,p2,g1]
theorem Ae {a b:Nat} (ha:Fit a) (hb:Fit b) (h0:b≠0):L.call BM [dI a,dI b]=some (.aG [dI (a / b),dI (a % b),.bQ]):=by
 have hbne:=OG h0
 have hbl:(limbs b).length≠0:=fun h=>hbne (List.eq_nil_of_length_eq_zero h)
 have hbl':¬ ((limbs b).length:Int)=0:=by omega
 have hcmp:=TS (bP a) (bP b) ha.le hb.le
 have fa:(limbs a).length≤1000000000:=ha
 have fb:(limbs b).length≤1000000000:=hb
 refine aj (ao3 ..) ?_
 by_cases hlt:a<b
 ·have hc0:fM a b<0:=Dp.2 hlt
  have hz:=ru 0 (by decide)
  have hm:=kH (limbs a) (bP a).1 ha.le
  have ed:a / b=0:=Nat.div_eq_of_lt hlt
  have em:a % b=a:=Nat.mod_eq_of_lt hlt
  simp at hcmp hz hm
  simp (disch:=omega) [Oo,hbne,hcmp,hc0,hz,hm,ed,em]
 ·have hc0:¬ fM a b<0:=by rw [Dp]; omega
  have hle:(limbs b).length≤(limbs a).length:=by
   rcases Nat.lt_or_ge (limbs a).length (limbs b).length with h1 | h1
   ·have := YJ (bP a).1 (bP b) h1
    simp at this; omega
   ·exact h1
  by_cases h1:(limbs b).length=1
  ·obtain ⟨d,hd⟩:=List.length_eq_one_iff.1 h1
   have hdb:d=b:=by
    have := dL b
    rw [hd] at this; simpa using this
   have hdW:d<W:=(bP b).1 d (by rw [hd]; simp)
   subst hdb
   obtain ⟨q,q1,q2,q3,q4⟩:=ahs (bP a).1 hdW (by omega) (by omega)
   have hm:=kH q q2 (by unfold maxL; omega)
   have hr:=ru (a % d) (Nat.lt_trans (Nat.mod_lt _ (by omega)) hdW)
   rw [dL] at q3 q4
   rw [q3] at hm
   generalize a % d=r at *
   generalize a / d=qq at *
   rw [hd] at hcmp
   simp [q1] at hcmp q4 hm hr
   simp (disch:=omega) [Oo,hd,hcmp,hc0,q4,hm,hr]
  ·have h1':¬ ((limbs b).length:Int)=1:=by omega
   obtain ⟨q,r,q1,q2,q3,q4,q5,q6,q7⟩:=at7 (bP a) (bP b) hle (by omega) fa
   have hm:=kH q q1 (by unfold maxL; omega)
   have hr:=kH r q2 (by unfold maxL; omega)
   rw [q5,dL,dL] at hm
   rw [q6,dL,dL] at hr
   generalize a % b=rr at *
   generalize a / b=qq at *
   simp at hcmp q7 hm hr
   simp (disch:=omega) [Oo,hbne,h1',hcmp,hc0,q7,hm,hr]
end Go.Ev.Code
end
section
namespace Go.Ev.Code
open Go Go.Ev
def MM (os:List (List Nat)):Mem:=os.map fun o => .live (o.map ak)
@[simp] theorem aG9 (os:List (List Nat)):(MM os).length=os.length:=by simp [MM]
@[simp] theorem aC5 (os:List (List Nat)) (n:Nat):(MM os).all (Us n)=true:=by
  simp only [MM,List.all_map,List.all_eq_true]
  intro o _
  simp
@[simp] theorem aF_ (os:List (List Nat)) (n:Nat):(MM os).take n=MM (os.take n):=by simp [MM,List.map_take]
theorem ap8 {os:List (List Nat)} {b:Nat} {o:List Nat} (h:os[b]?=some o):(MM os)[b]?=some (.live (o.map ak)):=by simp [MM,h]
theorem ah4 {os:List (List Nat)} {b j v:Nat} {o:List Nat} (h:os[b]?=some o) (hv:o[j]?=some v):DY [.loc b j] (MM os)=some (.int .u64 v,MM os):=by
 rw [awq,aBj,ap8 h]
 simp [hv]
theorem ap_ {os:List (List Nat)} {b j v:Nat} {o:List Nat} (h:os[b]?=some o) (hj:j<o.length):yM 1 [.loc b j,.int .u64 v] (MM os)=some (.aG [],MM (os.set b (o.set j v))):=by
 rw [aCm,ap8 h]
 have : j+1≤o.length:=hj
 simp [-List.map_set,this]
 unfold MM
 rw [List.map_set (l:=os)]
theorem ap9 {os:List (List Nat)} {b:Nat} {o P l Q:List Nat} (h:os[b]?=some o) (ho:o=P++(l++Q)):uw (MM os) (.aO b P.length l.length 1) l:=by
 refine .inr ⟨b,P.length,P.map ak,Q.map ak,rfl,?_,by simp⟩
 rw [ap8 h,ho]; simp
theorem aiv {P l Q:List Nat} {i v:Nat} (h:l[i]?=some v):(P++(l++Q))[P.length+i]?=some v:=by
 obtain ⟨hi,rfl⟩:=List.getElem?_eq_some_iff.1 h
 rw [List.getElem?_append_right (by omega),Nat.add_sub_cancel_left,List.getElem?_append_left hi]
 exact List.getElem?_eq_getElem hi
theorem avn {P l Q:List Nat} {i v:Nat} (h:i<l.length):(P++(l++Q)).set (P.length+i) v=P++(l.set i v++Q):=by
 rw [List.set_append_right _ _ (by omega),Nat.add_sub_cancel_left,List.set_append_left _ _ h]
theorem asO:∀ (f x:Nat),x≠0→x<2^f→∃ r,x=2^trail f x*r∧r % 2=1∧trail f x<f
 | 0,x,h0,h=>by simp at h; omega
 | f+1,x,h0,h=>by
   unfold trail
   by_cases h1:x % 2=1
   ·exact ⟨x,by simp [h1],h1,by simp [h1]⟩
   ·obtain ⟨r,g1,g2,g3⟩:=asO f (x / 2) (by omega) (by rw [Nat.pow_succ] at h; omega)
    refine ⟨r,?_,g2,by simp [h1]; omega⟩
    rw [if_neg h1,Nat.pow_succ,Nat.mul_right_comm,← g1]; omega
theorem ay0 {x:Nat} (hx:x<W) (h0:x≠0):∃ t r:Nat,x=2^t*r∧r % 2=1∧t<64∧L.call bits_TrailingZeros64 [ak x]=some (.int .i64 t):=by
 obtain ⟨r,g1,g2,g3⟩:=asO 64 x h0 (by rw [← tY]; exact hx)
 have hp:TT.ku bits_TrailingZeros64 [ak x] []=some (.int .i64 ((trail 64 x:Nat):Int),[]):=by
  rw [aBf]; simp [Vw,LU hx]
 exact ⟨trail 64 x,r,g1,g2,g3,Ls aA' hp (by simp)⟩
theorem ayF {m:Mem} (hc:Cl m) {x:D} {l:List Nat} (hx:uw m x l) (sl:Small l) (hL:l.length≤4000000000) :
  ∀ (j i:Nat),i+j=l.length→val (l.take i)=0→val l≠0→∃ k z,l[k]?=some z∧z≠0∧val (l.take k)=0 ∧
    L.loop [0,3] [0,3] G5 m.length [x,.int .i64 i] m=some (.exit 0,[x,.int .i64 k],m):=by
 intro j
 induction j with
 | zero=>intro i hi h0 hv; rw [List.take_of_length_le (by omega)] at h0; exact absurd h0 hv
 | succ j ih =>
   intro i hi h0 hv
   obtain ⟨z,hz⟩:∃ z,l[i]?=some z:=⟨l[i],List.getElem?_eq_getElem (by omega)⟩
   obtain ⟨p,p1,p2⟩:=hx.read .i64 (i:=(i:Int)) (by omega) (by rw [Int.toNat_natCast]; exact hz)
   have tl:=jr hz
   by_cases hz0:z=0
   ·subst hz0
    obtain ⟨k,z,g1,g2,g3,g4⟩:=ih (i+1) (by omega) (by rw [tl,h0]; simp) hv
    refine ⟨k,z,g1,g2,g3,au (afe ..) ?_⟩
    have e1:IntKind.i64.wrap ((i:Int)+1)=((i+1:Nat):Int):=by rw [wrap64 _ (by omega)]; omega
    generalize i+1=i1 at *
    simp [Xt,p1,p2,e1,hc,hx.fH rfl,g4]
   ·refine ⟨i,z,hz,hz0,h0,au (afe ..) ?_⟩
    have hz0':¬ (z:Int)=0:=by omega
    simp [Xt,p1,p2,hz0,hz0',hc,hx.fH rfl]
theorem Zm {m:Mem} (hc:Cl m) {x:D} {l:List Nat} (hx:uw m x l) (sl:Small l) (hL:l.length≤1000000000) (h0:val l≠0) :
  ∃ t r:Nat,val l=2^t*r∧r % 2=1∧t<64*l.length∧L.bf OL [x] m=some (.int .i64 t,m):=by
 obtain ⟨k,z,g1,g2,g3,g4⟩:=ayF hc hx sl (by omega) l.length 0 (by omega) (by simp) h0
 have hk:=(List.getElem?_eq_some_iff.1 g1).1
 obtain ⟨t,r,q1,q2,q3,q4⟩:=ay0 (sl.get g1) g2
 obtain ⟨p,p1,p2⟩:=hx.read .i64 (i:=(k:Int)) (by omega) (by rw [Int.toNat_natCast]; exact g1)
 have hv:=val_append (l.take (k+1)) (l.drop (k+1))
 rw [List.take_append_drop,jr g1,g3,List.length_take,Nat.min_eq_left hk,Nat.zero_add,Nat.pow_succ,Nat.mul_assoc,← Nat.mul_add] at hv
 have hW64:W=2^t*(2*2^(63-t)):=by rw [← Nat.pow_succ',← Nat.pow_add,tY,show t+(63-t+1)=64 by omega]
 refine ⟨64*k+t,r+2*2^(63-t)*val (l.drop (k+1)),?_,by rw [Nat.mul_assoc]; omega,by omega,oC (avA ..) ?_⟩
 ·have e2:W^k=2^(64*k):=by rw [tY,← Nat.pow_mul]
  rw [hv,q1,e2,Nat.pow_add,Nat.mul_assoc (2^(64*k))]
  congr 1
  rw [Nat.mul_add]
  congr 1
  rw [← Nat.mul_assoc,← hW64]
 ·have e1:IntKind.i64.wrap (64*(k:Int))=((64*k:Nat):Int):=by rw [wrap64 _ (by omega)]; omega
  have e2:IntKind.i64.wrap (((64*k:Nat):Int)+t)=((64*k+t:Nat):Int):=by rw [wrap64 _ (by omega)]; omega
  have g4':L.loop [0,3] [0,3] G5 m.length [x,.int .i64 0] m=_:=g4
  generalize 64*k=k64 at *
  generalize k64+t=kt at *
  simp [al8,g4',e1,p1,p2,q4,e2,hc]
end Go.Ev.Code
end
section
namespace Go.Ev.Code
open Go Go.Ev
@[simp] theorem avq (os:List (List Nat)) (c:Slot):(MM os++[c])[os.length]?=some c:=by
  rw [List.getElem?_append_right (by simp)]; simp
@[simp] theorem aD9 (os:List (List Nat)) (c c':Slot):(MM os++[c]).set os.length c'=MM os++[c']:=by
  have : os.length=(MM os).length:=by simp
  rw [this,List.set_append_right _ _ (Nat.le_refl _)]; simp
@[simp] theorem as5 (os:List (List Nat)) (c:Slot):(MM os++[c]).take os.length=MM os:=List.take_left' (by simp)
theorem akH (os:List (List Nat)):Cl (MM os):=aC5 os _
@[simp] theorem aDQ {α:Type} (os:List α) (b:Nat) (o:α):(os.set b o).take os.length=os.set b o:=List.take_of_length_le (by simp)
theorem awe {os:List (List Nat)} {b:Nat} {o P:List Nat} (h:os[b]?=some o):∀ (l:List Nat) (Q:List Nat),o=P++(l++Q)→l.length≤4000000000 →
  L.loop [0] [0] xC os.length [.aO b P.length l.length 1] (MM os)=some (.exit 0,[.aO b P.length (gq l).length 1],MM os):=by
 have hb:b<os.length:=(List.getElem?_eq_some_iff.1 h).1
 intro l
 refine anh (P:=fun l=>∀ Q,o=P++(l++Q)→l.length≤4000000000→L.loop [0] [0] xC os.length [.aO b P.length l.length 1] (MM os)=some (.exit 0,[.aO b P.length (gq l).length 1],MM os)) ?_ ?_ l
 ·intro Q _ _
  refine au (N_ ..) ?_
  simp (disch:=omega) [vX,gq,lW]
 ·intro l x ih Q hQ hl
  have hl':l.length≤3999999999:=by simp at hl; omega
  have ih':=ih (x::Q) (by rw [hQ]; simp) (by omega)
  obtain ⟨p,p1,p2⟩:=(ap9 h hQ).read .i64 (i:=(l.length:Int)) (v:=x) (by omega) (by simp)
  have e1:IntKind.i64.wrap (((l.length+1:Nat):Int)-1)=(l.length:Int):=by rw [wrap64 _ (by omega)]; omega
  have e0:(0:Int)<((l.length+1:Nat):Int):=by omega
  have hln:(l++[x]).length=l.length+1:=by simp
  rw [hln] at p1 ⊢
  refine au (N_ ..) ?_
  generalize hl1:l.length+1=l1 at *
  by_cases hx:x=0
  ·have ht:gq (l++[x])=gq l:=by subst hx; exact R_ l
   have hx':(x:Int)=0:=by omega
   rw [ht]
   have hz:decide ((x:Int)=0)=true:=by simp [hx]
   have e0':0<l1:=by omega
   simp (disch:=omega) [vX,e0',e1,p1,p2,eq_true hx,lW,ih']
  ·have ht:=ae_ l hx
   have hx':¬ (x:Int)=0:=by omega
   rw [ht,hln]
   have e0':0<l1:=by omega
   simp (disch:=omega) [vX,e0',e1,p1,p2,hx,hx',lW]
theorem Zl {os:List (List Nat)} {b:Nat} {o P l Q:List Nat} (h:os[b]?=some o) (ho:o=P++(l++Q)) (hl:l.length≤4000000000) :
  L.bf mO [.aO b P.length l.length 1] (MM os)=some (.loc os.length 0,MM os++[.live [.aO b P.length (gq l).length 1]]):=by
 have hb:b<os.length:=(List.getElem?_eq_some_iff.1 h).1
 have := awe h l Q ho hl
 refine oC (akN ..) ?_
 simp (disch:=omega) [ae7,this,lW,hb]
theorem az3 {os:List (List Nat)} {b s:Nat} {P l Q:List Nat} (hb:b<os.length) (sl:Small l) (hs:s<64) (hL:l.length≤4000000000) :
  ∀ (j k:Nat) (c:List Nat),k+j=l.length→c.length=l.length→Small c→(∀ i,k≤i→c[i]?=l[i]?)→2^s*val (c.take k)+l.getD 0 0 % 2^s+W^k*l.getD k 0=val (l.take (k+1))+W^k*(l.getD k 0 % 2^s) →
  ∃ c',c'.length=l.length∧Small c'∧2^s*val c'+l.getD 0 0 % 2^s=val l ∧
    L.loop [0,3,14,15] [0] Le os.length [.aO b P.length l.length 1,.int .i64 s,.int .i64 l.length,.int .i64 k] (MM (os.set b (P++(c++Q))))=some (.exit 0,[.aO b P.length l.length 1],MM (os.set b (P++(c'++Q)))):=by
 intro j
 induction j with
 | zero =>
   intro k c hk hc sc hi hv
   have : k=l.length:=by omega
   subst this
   refine ⟨c,hc,sc,?_,au (agf ..) ?_⟩
   ·have : l.getD l.length 0=0:=by simp [List.getD]
    rw [this,List.take_of_length_le (by omega),List.take_of_length_le (by omega)] at hv
    simpa using hv
   ·simp (disch:=omega) [RI,lW,akH]
 | succ j ih =>
   intro k c hk hc sc hi hv
   have hkl:k<l.length:=by omega
   have hx:=t_ sl k
   have hy:=t_ sl (k+1)
   have hx1:c[k]?=some (l.getD k 0):=by rw [hi k (Nat.le_refl _)]; simp [List.getD,hkl]
   have tl:=kD l (k+1)
   have hy1:k+1<l.length→c[k+1]?=some (l.getD (k+1) 0):=fun h=>by rw [hi (k+1) (by omega)]; simp [List.getD,h]
   have hy0:¬ k+1<l.length→l.getD (k+1) 0=0:=fun h=>by simp [List.getD,List.getElem?_eq_none_iff.2 (Nat.le_of_not_lt h)]
   generalize hxx:l.getD k 0=x at *
   generalize hyy:l.getD (k+1) 0=y at *
   obtain ⟨hbW,hbb⟩:=anN (y:=y) hx hs
   generalize hcell:(x / 2^s ||| y*2 % W*2^(63-s) % W)=bb at *
   obtain ⟨c',g1,g2,g3,g4⟩:=ih (k+1) (c.set k bb) (by omega) (by simp [hc]) (sc.set hbW _) (fun i h1=>by rw [List.getElem?_set_ne (by omega)]; exact hi i (by omega)) (by
    rw [tl,hyy,jr (List.getElem?_set_self (by omega)),List.take_set_of_le (by omega),Nat.mul_add]
    have h2:2^s*(W^k*bb)+W^k*(x % 2^s)=W^k*x+W^(k+1)*(y % 2^s):=by
     rw [Nat.mul_left_comm,← Nat.mul_add,hbb,Nat.mul_add,Nat.pow_succ,Nat.mul_assoc]
    omega)
   refine ⟨c',g1,g2,g3,au (agf ..) ?_⟩
   have e1:IntKind.i64.wrap ((k:Int)+1)=((k+1:Nat):Int):=by rw [wrap64 _ (by omega)]; omega
   have e2:IntKind.i64.wrap (63-(s:Int))=((63-s:Nat):Int):=by rw [wrap64 _ (by omega)]; omega
   obtain ⟨a1,ha1⟩:∃ a,x / 2^s=a:=⟨_,rfl⟩
   have f1:∀ m:Mem,tV false [.int .u64 x,.int .i64 s] m=some (.int .u64 (a1:Int),m):=fun m=>by rw [ae8 (by omega),ha1]
   have own:∀ c:List Nat,(os.set b (P++(c++Q)))[b]?=some (P++(c++Q)):=fun c=>List.getElem?_set_self hb
   have w1:∀ (c:List Nat) (v:Nat),k<c.length→yM 1 [.loc b (P.length+k),.int .u64 v] (MM (os.set b (P++(c++Q))))=some (.aG [],MM (os.set b (P++(c.set k v++Q)))):=fun c v hk=>by
    rw [ap_ (own c) (by simp; omega),avn hk,List.set_set]
   have r0:=ah4 (own c) (aiv (P:=P) (Q:=Q) hx1)
   have r1:=ah4 (own (c.set k a1)) (aiv (P:=P) (Q:=Q) (List.getElem?_set_self (a:=a1) (by omega:k<c.length)))
   have w2:=w1 c a1 (by omega)
   by_cases hlt:k+1<l.length
   ·obtain ⟨a2,ha2⟩:∃ a,y*2^1 % W=a:=⟨_,rfl⟩
    obtain ⟨a3,ha3⟩:∃ a,a2*2^(63-s) % W=a:=⟨_,rfl⟩
    have f2:∀ m:Mem,tV true [.int .u64 y,.int .u64 1] m=some (.int .u64 (a2:Int),m):=fun m=>by
     have := acE (m:=m) (k := .u64) (a:=y) (s:=1) (by omega)
     rw [ha2] at this; exact this
    have f3:∀ m:Mem,tV true [.int .u64 a2,.int .i64 ((63-s:Nat):Int)] m=some (.int .u64 (a3:Int),m):=fun m=>by rw [acE (by omega),ha3]
    have f4:∀ m:Mem,eX .or [.int .u64 a1,.int .u64 a3] m=some (.int .u64 (bb:Int),m):=fun m=>by
     rw [orU (by rw [← ha1]; exact Nat.lt_of_le_of_lt (Nat.div_le_self _ _) hx) (by rw [← ha3]; exact Nat.mod_lt _ jC),← hcell,← ha1,← ha3,← ha2]
    have r2:=ah4 (own (c.set k a1)) (aiv (P:=P) (Q:=Q) (i:=k+1) (v:=y) (by rw [List.getElem?_set_ne (by omega)]; exact hy1 hlt))
    have w3:=w1 (c.set k a1) bb (by simp; omega)
    rw [List.set_set] at w3
    generalize hv63:63-s=v63 at *
    generalize hk1:k+1=k1 at *
    have hlt':(k1:Int)<l.length:=by omega
    simp (disch:=omega) [RI,hkl,hlt,hlt',e1,e2,f1,f2,f3,f4,r0,r1,r2,w2,w3,lW,g4,akH]
   ·have y0:=hy0 hlt
    subst y0
    have hbe:bb=a1:=by rw [← hcell,ha1]; simp
    subst hbe
    generalize hk1:k+1=k1 at *
    simp (disch:=omega) [RI,hkl,hlt,e1,e2,f1,r0,r1,w2,lW,g4,akH]
end Go.Ev.Code
end
section
namespace Go.Ev.Code
open Go Go.Ev
@[simp] theorem aF' (os:List (List Nat)) (b:Nat) (o:List Nat) (c:Slot):(MM (os.set b o)++[c])[os.length]?=some c:=by
  have := avq (os.set b o) c
  rwa [List.length_set] at this
@[simp] theorem aFf (os:List (List Nat)) (b:Nat) (o:List Nat) (c:Slot):(MM (os.set b o)++[c]).take os.length=MM (os.set b o):=by
  have := as5 (os.set b o) c
  rwa [List.length_set] at this
theorem ahY (l:List Nat):∃ z,l=gq l++z:=by
 induction l with
 | nil=>exact ⟨[],rfl⟩
 | cons x xs ih =>
   obtain ⟨z,hz⟩:=ih
   simp only [gq,abx]
   split
   ·exact ⟨x::xs,rfl⟩
   ·exact ⟨z,by rw [List.cons_append,← hz]⟩
theorem ab9 {os:List (List Nat)} {b:Nat} {P l Q:List Nat} (hb:b<os.length) (sl:Small l) (hL:l.length≤1000000000) (h0:val l≠0) :
  ∃ (r t:Nat) (P' Q':List Nat),val l=2^t*r∧r % 2=1∧(limbs r).length≤l.length ∧
    L.bf Pe [.aO b P.length l.length 1] (MM (os.set b (P++(l++Q))))=some (.aO b P'.length (limbs r).length 1,MM (os.set b (P'++(limbs r++Q')))):=by
 have own:∀ c:List Nat,(os.set b c)[b]?=some c:=fun c=>List.getElem?_set_self hb
 obtain ⟨t,r,hv,hr,ht,htw⟩:=Zm (akH _) (ap9 (own (P++(l++Q))) rfl) sl hL h0
 have hq:t / 64≤l.length:=by omega
 have hv2:=val_append (l.take (t / 64)) (l.drop (t / 64))
 rw [List.take_append_drop,List.length_take,Nat.min_eq_left hq] at hv2
 have hlt:=nV sl (k:=t / 64)
 have hWq:W^(t / 64)=2^(64*(t / 64)):=by rw [tY,← Nat.pow_mul]
 have hpow:2^t=W^(t / 64)*2^(t % 64):=by rw [hWq,← Nat.pow_add,Nat.div_add_mod]
 have hl2:val (l.drop (t / 64))=2^(t % 64)*r:=by
  have h1:val l / W^(t / 64)=val (l.drop (t / 64)):=by
   rw [hv2,Nat.add_mul_div_left _ _ (Nat.pow_pos jC),Nat.div_eq_of_lt hlt,Nat.zero_add]
  rw [← h1,hv,hpow,Nat.mul_assoc,Nat.mul_div_cancel_left _ (Nat.pow_pos jC)]
 have hP2:(P++l.take (t / 64)).length=P.length+t / 64:=by simp; omega
 have hl2l:(l.drop (t / 64)).length=l.length-t / 64:=by simp
 have hmem:P++(l++Q)=(P++l.take (t / 64))++(l.drop (t / 64)++Q):=by
  rw [List.append_assoc,← List.append_assoc (l.take (t / 64)),List.take_append_drop]
 have s2:=ama sl (t / 64)
 obtain ⟨c,c1,c2,c3,c4⟩:=az3 (P:=P++l.take (t / 64)) (Q:=Q) hb s2 (s:=t % 64) (by omega) (by omega) (l.drop (t / 64)).length 0 (l.drop (t / 64)) (by omega) rfl s2 (fun _ _=>rfl) (by
  have := kD (l.drop (t / 64)) 0
  simp only [List.take_zero,ant,Nat.pow_zero,Nat.one_mul,Nat.zero_add] at this
  rw [this]; simp; omega)
 have hcr:val c=r:=by
  have h1:(2^(t % 64)*val c+(l.drop (t / 64)).getD 0 0 % 2^(t % 64)) / 2^(t % 64)=val c:=by
   rw [Nat.mul_add_div (Nat.two_pow_pos _),Nat.div_eq_of_lt (Nat.mod_lt _ (Nat.two_pow_pos _)),Nat.add_zero]
  rw [← h1,c3,hl2,Nat.mul_div_cancel_left _ (Nat.two_pow_pos _)]
 have htr:gq c=limbs r:=by rw [U9 c2,hcr]
 obtain ⟨z,hz⟩:=ahY c
 rw [htr] at hz
 have hrl:(limbs r).length≤l.length:=by
  have : c.length=(limbs r).length+z.length:=by rw [hz]; simp
  omega
 have hm:=Zl (own ((P++l.take (t / 64))++(c++Q))) rfl (by omega:c.length≤4000000000)
 rw [htr] at hm
 refine ⟨r,t,P++l.take (t / 64),z++Q,hv,hr,hrl,oC (aw5 ..) ?_⟩
 rw [show (P++l.take (t / 64))++(limbs r++(z++Q))=(P++l.take (t / 64))++(c++Q) by rw [hz,List.append_assoc (limbs r)]]
 rw [hP2] at hm c4 ⊢
 rw [hl2l] at c4 c1
 rw [c1] at hm
 rw [← hmem] at c4
 generalize (P++l.take (t / 64))++(c++Q)=o2 at *
 generalize P++(l++Q)=o1 at *
 have e1:Int.tdiv (t:Int) 64=((t / 64:Nat):Int):=rfl
 have e2:Int.tmod (t:Int) 64=((t % 64:Nat):Int):=rfl
 have e3:IntKind.i64.wrap ((t / 64:Nat):Int)=((t / 64:Nat):Int):=wrap64 _ (by omega)
 generalize ht64:t / 64=q at *
 generalize ht65:t % 64=s at *
 have hb2:b<(os.set b o1).length:=by simpa using hb
 have hb3:b<(os.set b o2).length:=by simpa using hb
 generalize hln:l.length-q=ln at *
 have c4':L.loop [0,3,14,15] [0] Le os.length [.aO b (P.length+q) ln 1,.int .i64 s,.int .i64 ln,.int .i64 0] (MM (os.set b o1))=_:=c4
 rw [List.length_set] at hm
 simp (disch:=omega) [aoE,htw,e1,e2,e3,hln,c4',hm,lW,hb]
theorem ax3 {os:List (List Nat)} {b:Nat} {P l Q lb:List Nat} {y:D} (hb:b<os.length) (hy:∀ o,uw (MM (os.set b o)) y lb) (sl:Small l) (sb:Small lb) (hL:l.length≤4000000000) :
  ∀ (j i:Nat) (c:List Nat) (w:Nat),i+j=l.length→c.length=l.length→Small c→w≤1→(∀ k,i≤k→c[k]?=l[k]?)→val (c.take i)+val (lb.take i)=val (l.take i)+W^i*w →
  ∃ c' w',c'.length=l.length∧Small c'∧w'≤1∧val c'+val (lb.take l.length)=val l+W^l.length*w' ∧
    L.loop [0,1,5,9,10] [0] GZ os.length [.aO b P.length l.length 1,y,ak w,.int .i64 l.length,.int .i64 i] (MM (os.set b (P++(c++Q))))=some (.exit 0,[.aO b P.length l.length 1],MM (os.set b (P++(c'++Q)))):=by
 intro j
 induction j with
 | zero =>
   intro i c w hi hc sc hw hk hv
   have : i=l.length:=by omega
   subst this
   refine ⟨c,w,hc,sc,hw,?_,au (afb ..) ?_⟩
   ·rw [List.take_of_length_le (by omega),List.take_of_length_le (Nat.le_refl l.length)] at hv; exact hv
   ·simp (disch:=omega) [Oq,lW]
 | succ j ih =>
   intro i c w hi hc sc hw hk hv
   have hil:i<l.length:=by omega
   have hx:=t_ sl i
   have hyy:=t_ sb i
   have hx1:c[i]?=some (l.getD i 0):=by rw [hk i (Nat.le_refl _)]; simp [List.getD,hil]
   have hy1:i<lb.length→lb[i]?=some (lb.getD i 0):=fun h=>by simp [List.getD,h]
   have hy0:¬ i<lb.length→lb.getD i 0=0:=fun h=>by simp [List.getD,List.getElem?_eq_none_iff.2 (Nat.le_of_not_lt h)]
   have ta:=kD l i
   have tb:=kD lb i
   generalize l.getD i 0=x at *
   generalize lb.getD i 0=v at *
   obtain ⟨s,d,hsub,-,hs,hd,hsd⟩:=ad1 hx hyy hw
   obtain ⟨c',w',g1,g2,g3,g4,g5⟩:=ih (i+1) (c.set i s) d (by omega) (by simp [hc]) (sc.set hs i) hd (fun k h1=>by rw [List.getElem?_set_ne (by omega)]; exact hk k (by omega)) (by
    rw [ta,tb,jr (List.getElem?_set_self (by omega)),List.take_set_of_le (by omega),Nat.pow_succ,Nat.mul_assoc]
    have : W^i*s+W^i*v+W^i*w=W^i*x+W^i*(W*d):=by
     rw [← Nat.mul_add,← Nat.mul_add,← Nat.mul_add,hsd]
    omega)
   refine ⟨c',w',g1,g2,g3,g4,au (afb ..) ?_⟩
   have e1:IntKind.i64.wrap ((i:Int)+1)=((i+1:Nat):Int):=by rw [wrap64 _ (by omega)]; omega
   have own:∀ c:List Nat,(os.set b (P++(c++Q)))[b]?=some (P++(c++Q)):=fun c=>List.getElem?_set_self hb
   have r0:=ah4 (own c) (aiv (P:=P) (Q:=Q) hx1)
   have w1:yM 1 [.loc b (P.length+i),.int .u64 s] (MM (os.set b (P++(c++Q))))=some (.aG [],MM (os.set b (P++(c.set i s++Q)))):=by
    rw [ap_ (own c) (by simp; omega),avn (by omega),List.set_set]
   have yl:=(hy (P++(c++Q))).len
   have yg:=(hy (P++(c.set i s++Q))).fH (base:=os.length) (by simp)
   generalize hi1:i+1=i1 at *
   have hil':(i:Int)<l.length:=by omega
   by_cases hlt:i<lb.length
   ·obtain ⟨p,p1,p2⟩:=(hy (P++(c++Q))).read .i64 (i:=(i:Int)) (by omega) (by rw [Int.toNat_natCast]; exact hy1 hlt)
    simp (disch:=omega) [Oq,hil,hlt,hil',yl,yg,p1,p2,hsub,e1,r0,w1,lW,g5]
   ·have y0:=hy0 hlt
    subst y0
    have hsub0:L.call bits_Sub64 [ak x,.int .u64 0,ak w]=_:=hsub
    simp (disch:=omega) [Oq,hil,hlt,hil',yl,yg,hsub0,e1,r0,w1,lW,g5]
theorem arP {os:List (List Nat)} {b A B:Nat} {P Q:List Nat} {y:D} (hb:b<os.length) (hy:∀ o,uw (MM (os.set b o)) y (limbs B)) (hBA:B≤A) (hL:(limbs A).length≤1000000000) :
  ∃ Q':List Nat,L.bf TU [.aO b P.length (limbs A).length 1,y] (MM (os.set b (P++(limbs A++Q))))=some (.aO b P.length (limbs (A-B)).length 1,MM (os.set b (P++(limbs (A-B)++Q')))):=by
 have own:∀ c:List Nat,(os.set b c)[b]?=some c:=fun c=>List.getElem?_set_self hb
 have ca:=bP A
 have cb:=bP B
 obtain ⟨c,w,h1,h2,h3,h4,h5⟩:=ax3 (P:=P) (Q:=Q) hb hy ca.1 cb.1 (by omega) (limbs A).length 0 (limbs A) 0 (by omega) rfl ca.1 (by omega) (fun _ _=>rfl) (by simp)
 have hle:(limbs B).length≤(limbs A).length:=by
  rcases Nat.lt_or_ge (limbs A).length (limbs B).length with h1 | h1
  ·have := YJ ca.1 cb h1
   simp at this; omega
  ·exact h1
 rw [List.take_of_length_le hle,dL,dL] at h4
 have hlt:=V6 h2
 have hbl:B<W^(limbs A).length:=Nat.lt_of_lt_of_le ahi (Nat.pow_le_pow_right jC hle)
 have hw:w=0:=by
  rcases Nat.lt_or_ge w 1 with h | h
  ·omega
  ·have : w=1:=by omega
   subst this
   rw [h1] at hlt
   omega
 subst hw
 have hcv:val c=A-B:=by omega
 have htr:gq c=limbs (A-B):=by rw [U9 h2,hcv]
 obtain ⟨z,hz⟩:=ahY c
 rw [htr] at hz
 have hm:=Zl (own (P++(c++Q))) rfl (by omega:c.length≤4000000000)
 rw [htr,h1] at hm
 refine ⟨z++Q,oC (avy ..) ?_⟩
 rw [show P++(limbs (A-B)++(z++Q))=P++(c++Q) by rw [hz,List.append_assoc (limbs (A-B))]]
 generalize P++(c++Q)=o2 at *
 generalize P++(limbs A++Q)=o1 at *
 have h5':L.loop [0,1,5,9,10] [0] GZ os.length [.aO b P.length (limbs A).length 1,y,.int .u64 0,.int .i64 (limbs A).length,.int .i64 0] (MM (os.set b o1))=_:=h5
 rw [List.length_set] at hm
 simp (disch:=omega) [al6,h5',hm,lW,hb]
end Go.Ev.Code
end
section
namespace Go.Ev.Code
open Go Go.Ev
theorem auB:TT.fn dV=none:=by kernel_rfl
theorem auC:TT.ku dV=ahv:=by kernel_rfl
theorem ajx {l:List Nat} (os:List (List Nat)) (h:l≠[]) (hl:l.length≤4000000000):L.bf dV [aQ l] (MM os)=some (.aO os.length 0 l.length 1,MM (os++[l])):=by
 refine aio auB ?_
 rw [auC]
 have : 0<l.length:=List.length_pos_iff.2 h
 cases l with
 | nil=>exact absurd rfl h
 | cons x xs =>
   have h2:xs.length+1≤4294967296:=by simp at hl; omega
   simp [ahv,h2,MM]
theorem avp (m:Mem):L.bf dV [aQ []] m=some (aQ [],m):=by
 refine aio auB ?_
 rw [auC]
 rfl
theorem awh (k:Nat) (hk:k≤64000000000):L.call nat_bit [.int .i64 k]=some (dI (2^k)):=by
 have e1:Int.tdiv (k:Int) 64=((k / 64:Nat):Int):=rfl
 have e2:Int.tmod (k:Int) 64=((k % 64:Nat):Int):=rfl
 have e3:IntKind.i64.wrap ((k / 64:Nat):Int)=((k / 64:Nat):Int):=wrap64 _ (by omega)
 have e4:IntKind.i64.wrap (((k / 64:Nat):Int)+1)=((k / 64+1:Nat):Int):=by rw [wrap64 _ (by omega)]; omega
 have hz:(List.replicate (k / 64+1) 0)[k / 64]?=some 0:=by rw [List.getElem?_replicate,if_pos (by omega)]
 have hbit:1*2^(k % 64) % W=2^(k % 64):=by
  rw [Nat.one_mul,tY]; exact Nat.mod_eq_of_lt (Nat.pow_lt_pow_right (by decide) (by omega))
 have hlt:2^(k % 64)<W:=by rw [tY]; exact Nat.pow_lt_pow_right (by decide) (by omega)
 have hset:=tN (2^(k % 64)) hz
 rw [Ec,Nat.mul_zero,Nat.add_zero,Nat.zero_add,tY,← Nat.pow_mul,← Nat.pow_add,Nat.div_add_mod] at hset
 have hm:=kH ((List.replicate (k / 64+1) 0).set (k / 64) (2^(k % 64))) ((xQ _).set hlt _) (by unfold maxL; simp; omega)
 rw [hset] at hm
 have f1:∀ m:Mem,tV true [.int .u64 1,.int .i64 ((k % 64:Nat):Int)] m=some (.int .u64 ((2^(k % 64):Nat):Int),m):=fun m=>by
  have := acE (m:=m) (k := .i64) (a:=1) (s:=k % 64) (by omega)
  rw [hbit] at this; exact this
 refine aj (aw4 ..) ?_
 generalize 2^(k % 64)=v at *
 generalize k % 64=r at *
 generalize hq:k / 64=q at *
 generalize 2^k=pk at *
 have hl:((List.replicate (q+1) 0).set q v).length=q+1:=by simp
 have hw:(List.replicate (q+1) (D.int .u64 0)).set q (D.int .u64 v)=((List.replicate (q+1) 0).set q v).map ak:=by rw [← aa1,adM]
 generalize (List.replicate (q+1) 0).set q v=o at *
 have e5:(((q+1:Nat):Int)).toNat=q+1:=by omega
 have hq1:(q:Int)<((q+1:Nat):Int):=by omega
 rw [aQ,hl] at hm
 generalize hq2:q+1=q1 at *
 simp (disch:=omega) [-List.map_set,aoD,e1,e2,e3,e4,f1,f_,lW,hw,lD,hm,hl]
def Win (os:List (List Nat)) (x:D) (a b:Nat):Prop:=∃ P Q:List Nat,x = .aO b P.length (limbs a).length 1∧os[b]?=some (P++(limbs a++Q))
theorem Win.lst {os:List (List Nat)} {x:D} {a b:Nat} (h:Win os x a b):uw (MM os) x (limbs a):=by
 obtain ⟨P,Q,rfl,h⟩:=h
 exact ap9 h rfl
theorem Win.other {os:List (List Nat)} {x:D} {a b c:Nat} (h:Win os x a b) (hc:c≠b) (o:List Nat):Win (os.set c o) x a b:=by
 obtain ⟨P,Q,rfl,h⟩:=h
 exact ⟨P,Q,rfl,by rw [List.getElem?_set_ne hc]; exact h⟩
theorem aAj {α:Type} {l:List α} {i:Nat} {x:α} (h:l[i]?=some x):l.set i x=l:=by
 obtain ⟨hi,rfl⟩:=List.getElem?_eq_some_iff.1 h
 exact List.set_getElem_self hi
theorem azI {a b r t:Nat} (h:b<a) (hb:b % 2=1) (hr:a-b=2^t*r):Nat.gcd r b=Nat.gcd a b:=by
 have h1:Nat.gcd (a-b) b=Nat.gcd a b:=Nat.gcd_sub_self_left (Nat.le_of_lt h)
 rw [← h1,hr]
 have h2:Nat.Coprime (2^t) b:=by
  apply Nat.Coprime.pow_left
  rw [Nat.coprime_iff_gcd_eq_one,Nat.gcd_rec,hb]; simp
 exact (Nat.Coprime.gcd_mul_left_cancel _ h2).symm
theorem azJ {a b m n:Nat} (ha:a % 2=1) (hb:b % 2=1):Nat.gcd (2^m*a) (2^n*b)=2^min m n*Nat.gcd a b:=by
 have hodd:∀ {c:Nat},c % 2=1→∀ t,Nat.Coprime (2^t) c:=fun {c} hc t=>by
  apply Nat.Coprime.pow_left
  rw [Nat.coprime_iff_gcd_eq_one,Nat.gcd_rec,hc]; simp
 rcases Nat.le_total m n with h | h
 ·rw [Nat.min_eq_left h,show 2^n=2^m*2^(n-m) by rw [← Nat.pow_add]; congr 1; omega,Nat.mul_assoc,Nat.gcd_mul_left]
  congr 1
  exact Nat.Coprime.gcd_mul_left_cancel_right _ (hodd ha _)
 ·rw [Nat.min_eq_right h,show 2^m=2^n*2^(m-n) by rw [← Nat.pow_add]; congr 1; omega,Nat.mul_assoc,Nat.gcd_mul_left]
  congr 1
  exact Nat.Coprime.gcd_mul_left_cancel _ (hodd hb _)
theorem Fit.of_le {a b:Nat} (h:Fit b) (hab:a≤b):Fit a:=by
 unfold Fit at *
 exact Nat.le_trans (ahh (Nat.lt_of_le_of_lt hab ahi)) h
theorem atw {k:Nat} (hk:k≤64000000000):∀ (n a b ia ib:Nat) (os:List (List Nat)) (x y:D),a+b≤n→a % 2=1→b % 2=1→Win os x a ia→Win os y b ib→ia≠ib→os.length=2→Fit a→Fit b→Fit (2^k) →
  ∃ m',L.loop [0,1,5] [4] zL 2 [x,y,.int .i64 k] (MM os)=some (.ret,[dI (Nat.gcd a b*2^k)],m'):=by
 intro n
 induction n with
 | zero=>intro a b ia ib os x y h ha; omega
 | succ n ih =>
   intro a b ia ib os x y hn ha hb hx hy hne hos fa fb fk
   have hc:=aiY (akH os) hx.lst hy.lst (bP a) (bP b) fa.le fb.le
   rw [dL,dL] at hc
   have step:∀ {a b ia ib:Nat} {x y:D},b<a→a+b≤n+1→a % 2=1→b % 2=1→Win os x a ia→Win os y b ib→ia≠ib→Fit a→Fit b →
     ∃ x1 x2 m1 m2 m',L.bf TU [x,y] (MM os)=some (x1,m1)∧L.bf Pe [x1] m1=some (x2,MM m2)∧m2.length=2∧(∃ l,uw (MM m2) x2 l)∧(∃ l,uw (MM m2) y l) ∧
       L.loop [0,1,5] [4] zL 2 [x2,y,.int .i64 k] (MM m2)=some (.ret,[dI (Nat.gcd a b*2^k)],m'):=by
    intro a b ia ib x y hab hab2 ha hb hx hy hne fa fb
    obtain ⟨P,Q,rfl,hox⟩:=hx
    have hia:ia<os.length:=(List.getElem?_eq_some_iff.1 hox).1
    obtain ⟨Q',hl⟩:=arP (b:=ia) (A:=a) (B:=b) (P:=P) (Q:=Q) hia (fun o=>(hy.other hne o).lst) (Nat.le_of_lt hab) fa
    rw [aAj hox] at hl
    have h0:a-b≠0:=by omega
    have fab:Fit (a-b):=fa.of_le (by omega)
    obtain ⟨r,t,P2,Q2,h1,h2,h3,h4⟩:=ab9 (P:=P) (Q:=Q') hia (bP (a-b)).1 fab (by rw [dL]; exact h0)
    rw [dL] at h1
    have hr0:r≤a-b:=by rw [h1]; exact Nat.le_mul_of_pos_left _ (Nat.two_pow_pos _)
    have hw:Win (os.set ia (P2++(limbs r++Q2))) (.aO ia P2.length (limbs r).length 1) r ia:=⟨P2,Q2,rfl,List.getElem?_set_self hia⟩
    have hw2:=hy.other hne (P2++(limbs r++Q2))
    obtain ⟨m',h5⟩:=ih r b ia ib _ _ _ (by omega) h2 hb hw hw2 hne (by simpa using hos) (fab.of_le hr0) fb fk
    rw [azI hab hb h1] at h5
    exact ⟨_,_,_,_,m',hl,h4,by simpa using hos,⟨_,hw.lst⟩,⟨_,hw2.lst⟩,h5⟩
   rcases Nat.lt_trichotomy a b with h | h | h
   ·have hcmp:fM a b = -1:=by unfold fM; rw [if_pos h]
    obtain ⟨x1,x2,m1,m2,m',h1,h2,h3,⟨lx,h4⟩,⟨ly,h5⟩,h6⟩:=step h (by omega) hb ha hy hx (Ne.symm hne) fb fa
    rw [Nat.gcd_comm] at h6
    rw [hcmp] at hc
    refine ⟨m',au (Iu ..) ?_⟩
    have g1:=h4.fH (base:=2) (by simp [h3])
    have g2:=h5.fH (base:=2) (by simp [h3])
    have ht:m2.take 2=m2:=List.take_of_length_le (by omega)
    have hle:2≤m2.length:=by omega
    simp [AV,hc,h1,h2,h3,g1,g2,ht,h6]
   ·subst h
    have hcmp:fM a a=0:=by unfold fM; simp
    rw [hcmp] at hc
    obtain ⟨P,Q,rfl,hox⟩:=hx
    have hm:=Zl hox rfl (by unfold Fit at fa; omega:(limbs a).length≤4000000000)
    rw [aAK (bP a)] at hm
    have hbit:L.call nat_bit [.int .i64 k]=some (.ref [.sl (limbs (2^k)).length ((limbs (2^k)).map ak)] 0):=awh k hk
    have hmul:L.call ug [.ref [.sl (limbs a).length ((limbs a).map ak)] 0,.ref [.sl (limbs (2^k)).length ((limbs (2^k)).map ak)] 0]=some (.ref [.sl (limbs (a*2^k)).length ((limbs (a*2^k)).map ak)] 0):=Ld fa fk
    rw [Nat.gcd_self]
    match os,hos with
    | [o0,o1],_ =>
      have hia:ia=0∨ia=1:=by have := (List.getElem?_eq_some_iff.1 hox).1; simp at this; omega
      have hwin:(List.drop P.length ((P++(limbs a++Q)).map ak)).take (limbs a).length=(limbs a).map ak:=by
       rw [← List.map_drop,← List.map_take]; simp
      have hle:P.length+(limbs a).length≤(P++(limbs a++Q)).length:=by simp
      generalize P++(limbs a++Q)=o at *
      generalize 2^k=pk at *
      rcases hia with rfl | rfl
      ·simp at hox
       subst hox
       refine ⟨[.jc (o0.map ak),.live (o1.map ak)],au (Iu ..) ?_⟩
       simp [MM,QU] at hc hm hbit hmul
       simp [MM,AV,hc,hm,hbit,hmul,hwin,hle,QU]
      ·simp at hox
       subst hox
       refine ⟨[.live (o0.map ak),.jc (o1.map ak)],au (Iu ..) ?_⟩
       simp [MM,QU] at hc hm hbit hmul
       simp [MM,AV,hc,hm,hbit,hmul,hwin,hle,QU]
   ·have hcmp:fM a b=1:=by unfold fM; rw [if_neg (by omega),if_neg (by omega)]
    obtain ⟨x1,x2,m1,m2,m',h1,h2,h3,⟨lx,h4⟩,⟨ly,h5⟩,h6⟩:=step h (by omega) ha hb hx hy hne fa fb
    rw [hcmp] at hc
    refine ⟨m',au (Iu ..) ?_⟩
    have g1:=h4.fH (base:=2) (by simp [h3])
    have g2:=h5.fH (base:=2) (by simp [h3])
    have ht:m2.take 2=m2:=List.take_of_length_le (by omega)
    have hle:2≤m2.length:=by omega
    simp [AV,hc,h1,h2,h3,g1,g2,ht,h6]
end Go.Ev.Code
end
section
namespace Go.Ev.Code
open Go Go.Ev
theorem ajs {t t' r r':Nat} (h:2^t*r=2^t'*r') (hr:r % 2=1) (hr':r' % 2=1):t=t'∧r=r':=by
 have main:∀ {t t' r r':Nat},2^t*r=2^t'*r'→r % 2=1→¬ t<t':=by
  intro t t' r r' h hr hlt
  rw [show 2^t'=2^t*2^(t'-t) by rw [← Nat.pow_add]; congr 1; omega,Nat.mul_assoc] at h
  have h2:=Nat.eq_of_mul_eq_mul_left (Nat.two_pow_pos t) h
  rw [h2,show t'-t=t'-t-1+1 by omega,Nat.pow_succ,Nat.mul_right_comm,Nat.mul_mod_left] at hr
  omega
 have h1:=main h hr
 have h2:=main h.symm hr'
 have : t=t':=by omega
 subst this
 exact ⟨rfl,Nat.eq_of_mul_eq_mul_left (Nat.two_pow_pos t) h⟩
theorem auw {k n:Nat} (h:k<64*n) (hn:n≤1000000000):Fit (2^k):=by
 unfold Fit
 refine Nat.le_trans (ahh (k:=n) ?_) hn
 rw [tY,← Nat.pow_mul]
 exact Nat.pow_lt_pow_right (by decide) h
theorem apD {a b:Nat} (fa:Fit a) (fb:Fit b) (ha:a≠0) (hb:b≠0):L.call QX [aQ (limbs a),aQ (limbs b)]=some (dI (Nat.gcd a b)):=by
 have ca:=bP a
 have cb:=bP b
 have la:(limbs a).length≤1000000000:=fa
 have lb:(limbs b).length≤1000000000:=fb
 obtain ⟨t1,r1,h1,h2,h3,h4⟩:=Zm Cl.nil (uw.sl [] (limbs a)) ca.1 la (by rw [dL]; exact ha)
 obtain ⟨t2,r2,g1,g2,g3,g4⟩:=Zm Cl.nil (uw.sl [] (limbs b)) cb.1 lb (by rw [dL]; exact hb)
 have k1:=ajx [] (OG ha) (by omega)
 obtain ⟨ra,ta,P1,Q1,p1,p2,p3,p4⟩:=ab9 (os:=[limbs a]) (b:=0) (P:=[]) (Q:=[]) (by simp) ca.1 la (by rw [dL]; exact ha)
 have k2:=ajx [P1++(limbs ra++Q1)] (OG hb) (by omega)
 obtain ⟨rb,tb,P2,Q2,q1,q2,q3,q4⟩:=ab9 (os:=[P1++(limbs ra++Q1),limbs b]) (b:=1) (P:=[]) (Q:=[]) (by simp) cb.1 lb (by rw [dL]; exact hb)
 rw [dL] at h1 g1 p1 q1
 obtain ⟨rfl,rfl⟩:=ajs (h1.symm.trans p1) h2 p2
 obtain ⟨rfl,rfl⟩:=ajs (g1.symm.trans q1) g2 q2
 have fra:Fit r1:=fa.of_le (by rw [h1]; exact Nat.le_mul_of_pos_left _ (Nat.two_pow_pos _))
 have frb:Fit r2:=fb.of_le (by rw [g1]; exact Nat.le_mul_of_pos_left _ (Nat.two_pow_pos _))
 have hk:min t1 t2≤64000000000:=by omega
 obtain ⟨m',hl⟩:=atw hk _ r1 r2 0 1 [P1++(limbs r1++Q1),P2++(limbs r2++Q2)] (.aO 0 P1.length (limbs r1).length 1) (.aO 1 P2.length (limbs r2).length 1) (Nat.le_refl _) p2 q2
  ⟨P1,Q1,rfl,rfl⟩ ⟨P2,Q2,rfl,rfl⟩ (by decide) rfl fra frb (auw (n:=(limbs a).length) (by omega) la)
 have hg:Nat.gcd r1 r2*2^min t1 t2=Nat.gcd a b:=by rw [h1,g1,azJ p2 q2,Nat.mul_comm]
 rw [hg] at hl
 have hmin:min (t1:Int) (t2:Int)=((min t1 t2:Nat):Int):=by omega
 refine aj (aqi ..) ?_
 clear hg h1 g1 p1 q1
 generalize min t1 t2=k at *
 simp [MM] at h4 g4 k1 k2 p4 q4 hl
 simp [MM,ahM,h4,g4,k1,k2,p4,q4,hl,hmin]
theorem aeE {a b:Nat} (fa:Fit a) (fb:Fit b):L.call BN [dI a,dI b]=some (dI (Nat.gcd a b)):=by
 have main:∀ {a b:Nat},Fit a→Fit b→¬ a<b→b≠0→(a % b=0→L.call mO [aQ (limbs b)]=some (dI (Nat.gcd a b)))∧(a % b≠0→L.call QX [aQ (limbs b),aQ (limbs (a % b))]=some (dI (Nat.gcd a b))):=by
  intro a b fa fb _ hb
  constructor
  ·intro h
   have := kH (limbs b) (bP b).1 fb.le
   rw [dL] at this
   rw [Nat.gcd_comm,Nat.gcd_rec,h,Nat.gcd_zero_left]; exact this
  ·intro h
   have h1:=apD fb (fb.of_le (Nat.le_of_lt (Nat.mod_lt a (Nat.pos_of_ne_zero hb)))) hb h
   rw [Nat.gcd_comm b,← Nat.gcd_rec,Nat.gcd_comm] at h1
   exact h1
 have hc:=XU fa fb
 refine aj (ao4 ..) ?_
 by_cases hlt:a<b
 ·have hc0:fM a b<0:=Dp.2 hlt
  by_cases h0:a=0
  ·subst h0
   have hm:=kH (limbs b) (bP b).1 fb.le
   simp at hm
   simp [vW,hc,hc0,hm]
  ·obtain ⟨m1,m2⟩:=main fb fa (by omega) h0
   have hd:=Ae fb fa h0
   rw [Nat.gcd_comm b a] at m1 m2
   generalize b % a=r at *
   generalize b / a=q at *
   by_cases hr:r=0
   ·have hm:=m1 hr
    simp at hm
    simp [vW,hc,hc0,h0,hd,hr,hm]
   ·have hm:=m2 hr
    simp at hm
    simp [vW,hc,hc0,h0,hd,hr,hm]
 ·have hc0:¬ fM a b<0:=by rw [Dp]; exact hlt
  by_cases h0:b=0
  ·subst h0
   have hm:=kH (limbs a) (bP a).1 fa.le
   simp at hm
   simp [vW,hc,hc0,hm]
  ·obtain ⟨m1,m2⟩:=main fa fb hlt h0
   have hd:=Ae fa fb h0
   generalize a % b=r at *
   generalize a / b=q at *
   by_cases hr:r=0
   ·have hm:=m1 hr
    simp at hm
    simp [vW,hc,hc0,h0,hd,hr,hm]
   ·have hm:=m2 hr
    simp at hm
    simp [vW,hc,hc0,h0,hd,hr,hm]
end Go.Ev.Code
end
