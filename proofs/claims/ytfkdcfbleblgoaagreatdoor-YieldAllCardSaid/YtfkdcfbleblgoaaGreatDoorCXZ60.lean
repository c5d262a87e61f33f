/- A part of the proof of accrAll_card, priceAll_card, yieldAll_card. -/
import Derived.Test.YtfkdcfbleblgoaaGreatDoorCXZ12
import Derived.Test.YtfkdcfbleblgoaaGreatDoorCXZ20
set_option linter.unusedVariables false
set_option linter.unusedSimpArgs false
section
namespace Go.Ev.Code
open Go Go.Ev
theorem yN {j k:Nat} {n1 n2:Int} {d1 d2:Nat} (a:QB j n1 d1) (b:QB k n2 d2) (hk:j+k≤10000000):L.call yP [cO n1 d1,cO n2 d2]=some (cO (n1*d2-n2*d1) (d1*d2)):=by
 have hm:=afv n2
 have hs:=Hf a b.neg hk
 rw [Int.neg_mul,← Int.sub_eq_add_neg] at hs
 generalize n1*(d2:Int)-n2*(d1:Int)=S at *
 generalize d1*d2=dd at *
 generalize -n2=m2 at *
 unfold cO qC at *
 unfold lV iC at *
 simp only [n9,aQ] at *
 generalize decide (S<0)=b0 at *
 generalize decide (m2<0)=b1 at *
 generalize decide (n1<0)=b3 at *
 generalize decide (n2<0)=b4 at *
 generalize (ah S.natAbs).length=N0 at *
 generalize (ah S.natAbs).map ak=l0 at *
 generalize (ah m2.natAbs).length=N1 at *
 generalize (ah m2.natAbs).map ak=l1 at *
 generalize (ah n1.natAbs).length=N3 at *
 generalize (ah n1.natAbs).map ak=l3 at *
 generalize (ah n2.natAbs).length=N4 at *
 generalize (ah n2.natAbs).map ak=l4 at *
 generalize (ah d1).length=N5 at *
 generalize (ah d1).map ak=l5 at *
 generalize (ah d2).length=N6 at *
 generalize (ah d2).map ak=l6 at *
 generalize (ah dd).length=N7 at *
 generalize (ah dd).map ak=l7 at *
 refine aj (agl ..) ?_
 simp [VW,hm,hs,aS]
end Go.Ev.Code
end
section
namespace Go.Ev.Code
open Go Go.Ev
theorem aqn {b:aA} (h:(aW b).1=none) (hc:b.aY.length≤1000000) (hr:b.bJ.length≤1000000) {p:Int×Int} (hp:p∈(aF b).2) {s:Int} (h1:p.1≤s) (h2:s≤p.2) :
  L.call aaz [aC b,pD p,.int .i64 s]=some (.aG [cZ (QC b p s),.bQ])∧RB 240000 (QC b p s):=by
 have h0:=(gY h).1
 have hchk:=dK h0
 obtain ⟨d1,d2,d3⟩:=gU h0 hp
 obtain ⟨q,hq⟩:=ahx h hp
 have hqB:=aik hchk d1 d2 hq (n:=3600) (fun l hl=>(Lu hchk d2 hl).2)
 have hpay:=UD h0 hc hr d1 d2 d3
 have hreg:=IE hc hr p
 have hpart:=yD h0 hc hr d1 d2 d3 p.1 s
 have hcp:=J5 hc hr
 have e1:IntKind.i64.wrap (s-p.1)=s-p.1:=wrap64 _ (by omega)
 have e2:IntKind.i64.wrap (p.2-p.1)=p.2-p.1:=wrap64 _ (by omega)
 have hof:L.call DZ [.int .i64 (s-p.1),.int .i64 (p.2-p.1)]=some (.aG [cZ (Rat.divInt (s-p.1) (p.2-p.1)),.bQ]):=Aq (by omega) (by omega) (by omega)
 have hofB:RB 64 (Rat.divInt (s-p.1) (p.2-p.1)):=oH (gQ (by omega)) (gQ (by omega)) (by omega)
 have hpo:=am4 h hp (Int.le_refl _) h1 h2
 have hbc:=fun n=>iO b n
 rw [hq] at hpay
 simp only [JF] at hpay
 unfold QC
 rw [Pj hq]
 by_cases hcr:b.count=4∧regular b p=true
 ·rw [if_pos hcr]
  have hmul:=Fp hqB hofB (by omega)
  refine ⟨?_,(hqB.mul hofB).mono (by omega)⟩
  obtain ⟨hc4,hrg⟩:=hcr
  rw [hrg] at hreg
  obtain ⟨p1,p2⟩:=p
  unfold pD at *
  simp only at *
  generalize q*Rat.divInt (s-p1) (p2-p1)=v at *
  generalize Rat.divInt (s-p1) (p2-p1)=w at *
  obtain ⟨i,m,fq,c,rd,n,st,en,ex⟩:=b
  unfold aC ay at *
  simp only at *
  subst hc4
  refine aj (aiN ..) ?_
  simp [U7,hreg,hpay,e1,e2,hof,hmul]
 ·rw [if_neg hcr]
  obtain ⟨v,hv⟩:=hpo.resolve_left hcr
  have hvB:=Zq hchk d1 d2 hv (n:=3600) (fun l hl=>(Lu hchk d2 hl).2)
  have hmul:=Fp (YM b) hvB (by omega)
  rw [aks hv]
  refine ⟨?_,((YM b).mul hvB).mono (by omega)⟩
  rw [hv] at hpart
  simp only [JF] at hpart
  generalize pV b*v=w at *
  generalize pV b=cq at *
  generalize regular b p=rg at *
  obtain ⟨p1,p2⟩:=p
  unfold pD at *
  simp only at *
  obtain ⟨i,m,fq,c,rd,n,st,en,ex⟩:=b
  unfold aC ay at *
  simp only at *
  refine aj (aiN ..) ?_
  by_cases hn:n=4
  ·have hrg:rg=false:=by
    cases rg with
    | false=>rfl
    | true=>exact absurd ⟨hn,rfl⟩ hcr
   subst hrg
   subst hn
   simp [U7,hreg,hpart,hcp,hmul]
  ·simp [U7,hn,hpart,hcp,hmul]
def aqk (b:aA) (s:Int):D:=match (leftB b s).1 with
 | some e => .aG [.iy,fD (some e)]
 | none => .aG [cZ (sS b s),.bQ]
theorem ad3 {b:aA} (hc:b.aY.length≤1000000) (hr:b.bJ.length≤1000000) (s:Int):L.call acZ [aC b,.int .i64 s]=some (aqk b s)∧((leftB b s).1=none→RB 480000 (sS b s)):=by
 have hp:=ac0 hc hr s
 have hx:=ad2 hc hr s
 unfold ap2 at hp
 unfold aqk
 unfold exD at hx
 cases he:(leftB b s).1 with
 | some e =>
   refine ⟨?_,fun h=>by simp at h⟩
   rw [he] at hp
   obtain ⟨i,m,fq,c,rd,n,st,en,ex⟩:=b
   unfold aC ay at *
   simp only at *
   rcases e with ⟨c,_ | t⟩
   ·simp only [fD] at *
    refine aj (af_ ..) ?_
    simp [VQ,hp]
   ·simp only [fD,eY] at *
    refine aj (af_ ..) ?_
    simp [VQ,hp]
 | none =>
   rw [he] at hp hx
   obtain ⟨d1,d2,d3,d4,d5,d6⟩:=qh he
   obtain ⟨f0,h0,_,_⟩:=dX he
   have hchk:=dK h0
   obtain ⟨hg,hgB⟩:=aqn f0 hc hr d6 d4 (by omega)
   obtain ⟨q,hq⟩:=ahx f0 d6
   have hqB:=aik hchk d1 d2 hq (n:=3600) (fun l hl=>(Lu hchk d2 hl).2)
   have hpay:=UD h0 hc hr d1 d2 d3
   rw [hq] at hpay
   simp only [JF] at hpay
   have hsub:=LJ hgB hqB (by omega)
   unfold sS
   rw [Pj hq]
   constructor
   ·generalize QC b (aV b s) s-q=v at *
    generalize QC b (aV b s) s=g at *
    unfold pD at *
    generalize aV b s=p at *
    generalize O7 b s=xb at *
    obtain ⟨p1,p2⟩:=p
    simp only at *
    obtain ⟨i,m,fq,c,rd,n,st,en,ex⟩:=b
    unfold aC ay at *
    simp only at *
    refine aj (af_ ..) ?_
    cases xb with
    | true=>simp [VQ,hp,hg,hx,hpay,hsub]
    | false=>simp [VQ,hp,hg,hx]
   ·intro _
    split
    ·exact (hgB.sub hqB).mono (by omega)
    ·exact hgB.mono (by omega)
end Go.Ev.Code
end
section
namespace Go.Ev.Code
open Go Go.Ev
theorem azA {n1 n2:Int} {d1 d2:Nat} (h1:0<d1) (h2:0<d2):Rat.divInt (n1*d2-n2*d1) ((d1*d2:Nat):Int)=Rat.divInt n1 d1-Rat.divInt n2 d2:=by
 have e1:((d1:Nat):Rat)≠0:=fun h=>by rw [← Rat.intCast_natCast] at h; have := Rat.intCast_eq_zero_iff.1 h; omega
 have e2:((d2:Nat):Rat)≠0:=fun h=>by rw [← Rat.intCast_natCast] at h; have := Rat.intCast_eq_zero_iff.1 h; omega
 rw [Rat.divInt_eq_div,Rat.divInt_eq_div,Rat.divInt_eq_div,Rat.intCast_sub,Rat.intCast_mul,Rat.intCast_mul,Rat.intCast_natCast,Rat.intCast_natCast,Rat.intCast_natCast,Rat.natCast_mul]
 generalize (n1:Rat)=a at *
 generalize (n2:Rat)=b at *
 generalize (d1:Rat)=c at *
 generalize (d2:Rat)=d at *
 grind
theorem Wo.diff {j k:Nat} {n1 n2:Int} {d1 d2:Nat} {q r:Rat} (a:Wo j n1 d1 q) (b:Wo k n2 d2 r):Wo (j+k+1) (n1*d2-n2*d1) (d1*d2) (q-r):=by
 have h:=a.qb.sum b.qb.neg
 rw [Int.neg_mul,← Int.sub_eq_add_neg] at h
 exact ⟨h,Nat.mul_pos a.pos b.pos,by rw [azA a.pos b.pos,a.val,b.val]⟩
theorem ayl {b:aA} {s:Int} (h:(leftB b s).1=none):∃ (k N:Nat) (pc:List D),L.call fQ [aC b]=some (.aG [.sl N pc,.bool true])∧L.call qA [.sl N pc,.int .i64 s]=some (.int .i64 k) ∧
  k<N∧pc[k*2]?=some (.int .i64 (aV b s).1)∧pc[k*2+1]?=some (.int .i64 (aV b s).2)∧k*2+2≤pc.length∧(pc.drop (k*2)).take 2=[.int .i64 (aV b s).1,.int .i64 (aV b s).2]:=by
 obtain ⟨hf0,hp0,h1,h2⟩:=dX h
 have hpl:=aa_ hp0
 have hw:=(dP hp0).2
 obtain ⟨k,hk,hget,h3,h4⟩:=x9 hp0 h1 h2
 have hat:=aco (ps:=(aF b).2) (by have := hw.len; omega) s
 rw [hk] at hat
 obtain ⟨g1,g2,g3,g4⟩:=mP hget
 exact ⟨k,_,_,hpl,hat,(List.getElem?_eq_some_iff.1 hget).1,g1,g2,g3,g4⟩
theorem ahy {b:aA} {s:Int} (h:(leftB b s).1=none) (hc:b.aY.length≤1000) :
  (∃ n d,Wo 530 n d (qg b (aV b s))∧L.call jX [aC b,pD (aV b s)]=some (.aG [cO n d,.bool true])) ∧
  (∀ y,(aV b s).1≤y→y≤(aV b s).2→∃ n d,Wo 194 n d (kF b (aV b s) (aV b s).1 y)∧L.call mQ [aC b,pD (aV b s),.int .i64 (aV b s).1,.int .i64 y]=some (.aG [cO n d,.bool true])):=by
 obtain ⟨hf0,hp0,h1,h2⟩:=dX h
 have hchk:=dK hp0
 obtain ⟨d1,d2,d3,d4,d5,hmem⟩:=qh h
 have h2q:∀ l,nP b (aV b s)=some l→l.length≤2:=fun l hl=>OO hp0 hmem hl
 constructor
 ·have hp:=Zx hchk hc d1 d2 d3 h2q (by omega)
  cases hpb:oq b (aV b s) with
  | ok q =>
    rw [Pj hpb]
    exact hp.1 q hpb
  | error c =>
    exfalso
    obtain ⟨_,r,q,he,hq,_⟩:∃ (x:Unit) (r:List (Int×Int)) (q:Rat),True∧oq b (aV b s) = .ok q∧True:=by
     have hv:=vV hf0 hmem (Int.le_refl (aV b s).1) (by omega) (Int.le_refl (aV b s).2)
     refine ⟨(),[],?_⟩
     unfold oq
     rw [hv]
     split
     ·exact ⟨_,trivial,rfl,trivial⟩
     ·exact ⟨_,trivial,rfl,trivial⟩
    rw [hpb] at hq
    simp at hq
 ·intro y g1 g2
  have hp:=Xi hchk d1 d2 d3 (Int.le_refl _) g1 g2 h2q (by omega)
  exact hp.1 _ (vV hf0 hmem (Int.le_refl _) g1 g2)
set_option maxHeartbeats 2000000 in
theorem OT {b:aA} {s:Int} (h:(leftB b s).1=none) (hc:b.aY.length≤1000):∃ n d,Wo 1200 n d (sS b s)∧L.call qw [aC b,.int .i64 s]=some (cO n d):=by
 obtain ⟨hf0,hp0,h1,h2⟩:=dX h
 have hchk:=dK hp0
 obtain ⟨k,N,pc,hpl,hat,hk,g1,g2,g3,g4⟩:=ayl h
 obtain ⟨⟨pn,pd,wp,hpay⟩,hparts⟩:=ahy h hc
 obtain ⟨d1,d2,d3,d4,d5,hmem⟩:=qh h
 obtain ⟨qn,qd,wq,hpart⟩:=hparts s d4 (by omega)
 obtain ⟨cn,cd,wc,hcp⟩:=abk hchk hc
 have hpr:=nS wc.qb wq.qb (by omega)
 have wpr:=wc.prod wq
 have hrg:=OU hchk (aV b s)
 have hfr:=D5 (n:=s-(aV b s).1) (d:=(aV b s).2-(aV b s).1) (by omega) (by omega)
 have wfr:=Wo.av4 (n:=s-(aV b s).1) (d:=(aV b s).2-(aV b s).1) (by omega) (by omega)
 have hpr2:=nS wp.qb wfr.qb (by omega)
 have wpr2:=wp.prod wfr
 have hex:=U1 h
 have hdf:=yN wpr.qb wp.qb (by omega)
 have hdf2:=yN wpr2.qb wp.qb (by omega)
 have wdf:=wpr.diff wp
 have wdf2:=wpr2.diff wp
 have e1:IntKind.i64.wrap (s-(aV b s).1)=s-(aV b s).1:=wrap64 _ (by omega)
 have e2:IntKind.i64.wrap ((aV b s).2-(aV b s).1)=(aV b s).2-(aV b s).1:=wrap64 _ (by omega)
 have hkI:(k:Int)<N:=by omega
 have hacc:sS b s=(if O7 b s=true then (if b.count=4∧regular b (aV b s)=true then qg b (aV b s)*Rat.divInt (s-(aV b s).1) ((aV b s).2-(aV b s).1) else pV b*kF b (aV b s) (aV b s).1 s)-qg b (aV b s) else (if b.count=4∧regular b (aV b s)=true then qg b (aV b s)*Rat.divInt (s-(aV b s).1) ((aV b s).2-(aV b s).1) else pV b*kF b (aV b s) (aV b s).1 s)):=rfl
 rw [hacc]
 clear hacc hparts hmem d1 d2 d3 d4 d5
 generalize regular b (aV b s)=rg at *
 generalize O7 b s=xb at *
 have key:∀ n d,(xb=true∧(b.count=4∧rg=true)∧n=pn*(s-(aV b s).1)*pd-pn*(pd*((aV b s).2-(aV b s).1).natAbs:Nat)∧d=pd*((aV b s).2-(aV b s).1).natAbs*pd) ∨
   (xb=true∧¬ (b.count=4∧rg=true)∧n=cn*qn*pd-pn*(cd*qd:Nat)∧d=cd*qd*pd) ∨
   (xb=false∧(b.count=4∧rg=true)∧n=pn*(s-(aV b s).1)∧d=pd*((aV b s).2-(aV b s).1).natAbs) ∨
   (xb=false∧¬ (b.count=4∧rg=true)∧n=cn*qn∧d=cd*qd)→L.call qw [aC b,.int .i64 s]=some (cO n d):=by
  intro n d hcase
  obtain ⟨p0,p1,p2,hp,a1,a2,a3,a4,a5,a6⟩:=bg pn pd
  obtain ⟨q0,q1,q2,hq,b1,b2,b3,b4,b5,b6⟩:=bg qn qd
  obtain ⟨c0,c1,c2,hcc,c3,c4,c5,c6,c7,c8⟩:=bg cn cd
  obtain ⟨r0,r1,r2,hr,r3,r4,r5,r6,r7,r8⟩:=bg (cn*qn) (cd*qd)
  obtain ⟨f0,f1,f2,hf,f3,f4,f5,f6,f7,f8⟩:=bg (s-(aV b s).1) ((aV b s).2-(aV b s).1).natAbs
  obtain ⟨t0,t1,t2,ht,t3,t4,t5,t6,t7,t8⟩:=bg (pn*(s-(aV b s).1)) (pd*((aV b s).2-(aV b s).1).natAbs)
  obtain ⟨o0,o1,o2,ho,o3,o4,o5,o6,o7,o8⟩:=bg n d
  clear wp wq wc wpr wfr wpr2 wdf wdf2
  unfold cO pD at *
  rw [hp] at hpay hpr2 hdf hdf2
  rw [hq] at hpart hpr
  rw [hcc] at hcp hpr
  rw [hr] at hpr hdf
  rw [hf] at hfr hpr2
  rw [ht] at hpr2 hdf2
  rw [ho]
  generalize aV b s=p at *
  obtain ⟨u,v⟩:=p
  simp only at *
  generalize hsu:s-u=su at *
  generalize hvu:v-u=vu at *
  obtain ⟨i,mt,fq,cc,rd',cnt,st,en,ex⟩:=b
  unfold aC ay at *
  simp only at *
  refine aj (abB ..) ?_
  rcases hcase with ⟨rfl,⟨rfl,rfl⟩,rfl,rfl⟩ | ⟨rfl,hn,rfl,rfl⟩ | ⟨rfl,⟨rfl,rfl⟩,rfl,rfl⟩ | ⟨rfl,hn,rfl,rfl⟩
  ·rw [ho] at hdf2
   simp [jq,hpl,hat,hk,hkI,g1,g2,g3,g4,hpay,hpart,hcp,hpr,hrg,hsu,hvu,e1,e2,hfr,hpr2,hex,hdf2,aS,a1,a2,a3,b1,b2,b3,c3,c4,c5,f3,f4,f5,r3,r4,r5,t3,t4,t5,o3,o4,o5,o6,o7,o8]
  ·rw [ho] at hdf
   by_cases hc4:cnt=4
   ·subst hc4
    have hrf:rg=false:=by cases rg with
     | true=>exact absurd ⟨rfl,rfl⟩ hn
     | false=>rfl
    subst hrf
    simp [jq,hpl,hat,hk,hkI,g1,g2,g3,g4,hpay,hpart,hcp,hpr,hrg,hsu,hvu,e1,e2,hex,hdf,aS,a1,a2,a3,b1,b2,b3,c3,c4,c5,f3,f4,f5,r3,r4,r5,t3,t4,t5,o3,o4,o5,o6,o7,o8]
   ·simp [jq,hpl,hat,hk,hkI,g1,g2,g3,g4,hpay,hpart,hcp,hpr,hc4,hsu,hvu,e1,e2,hex,hdf,aS,a1,a2,a3,b1,b2,b3,c3,c4,c5,f3,f4,f5,r3,r4,r5,t3,t4,t5,o3,o4,o5,o6,o7,o8]
  ·rw [ho] at ht
   simp at ht
   obtain ⟨rfl,rfl,rfl⟩:=ht
   simp [jq,hpl,hat,hk,hkI,g1,g2,g3,g4,hpay,hpart,hcp,hpr,hrg,hsu,hvu,e1,e2,hfr,hpr2,hex,aS,a1,a2,a3,b1,b2,b3,c3,c4,c5,f3,f4,f5,r3,r4,r5,t3,t4,t5,o3,o4,o5,o6,o7,o8]
  ·rw [ho] at hr
   simp at hr
   obtain ⟨rfl,rfl,rfl⟩:=hr
   by_cases hc4:cnt=4
   ·subst hc4
    have hrf:rg=false:=by cases rg with
     | true=>exact absurd ⟨rfl,rfl⟩ hn
     | false=>rfl
    subst hrf
    simp [jq,hpl,hat,hk,hkI,g1,g2,g3,g4,hpay,hpart,hcp,hpr,hrg,hsu,hvu,e1,e2,hex,aS,a1,a2,a3,b1,b2,b3,c3,c4,c5,f3,f4,f5,r3,r4,r5,t3,t4,t5,o3,o4,o5,o6,o7,o8]
   ·simp [jq,hpl,hat,hk,hkI,g1,g2,g3,g4,hpay,hpart,hcp,hpr,hc4,hsu,hvu,e1,e2,hex,aS,a1,a2,a3,b1,b2,b3,c3,c4,c5,f3,f4,f5,r3,r4,r5,t3,t4,t5,o3,o4,o5,o6,o7,o8]
 cases xb with
 | true =>
   rw [if_pos rfl]
   by_cases hcr:b.count=4∧rg=true
   ·rw [if_pos hcr]
    exact ⟨_,_,wdf2.mono (by omega),key _ _ (.inl ⟨rfl,hcr,rfl,rfl⟩)⟩
   ·rw [if_neg hcr]
    exact ⟨_,_,wdf.mono (by omega),key _ _ (.inr (.inl ⟨rfl,hcr,rfl,rfl⟩))⟩
 | false =>
   rw [if_neg (by simp)]
   by_cases hcr:b.count=4∧rg=true
   ·rw [if_pos hcr]
    exact ⟨_,_,wpr2.mono (by omega),key _ _ (.inr (.inr (.inl ⟨rfl,hcr,rfl,rfl⟩)))⟩
   ·rw [if_neg hcr]
    exact ⟨_,_,wpr.mono (by omega),key _ _ (.inr (.inr (.inr ⟨rfl,hcr,rfl,rfl⟩)))⟩
end Go.Ev.Code
end
