/- A part of the proof of priceAll_card, yieldAll_card. -/
import Derived.Test.YtfkdcfbleblgoaaGreatDoorCXZ60
import Derived.Test.YtfkdcfbleblgoaaGreatDoorCXZ70
import Derived.Test.YtfkdcfbleblgoaaGreatDoorCXZ80
set_option linter.unusedVariables false
set_option linter.unusedSimpArgs false
section
namespace Go.Ev.Code
open Go Go.Ev
theorem ahG (n:Int) (d:Nat):L.call uS [cO n d]=some (.int .i64 (wo n)):=by
 have h0:=aaX n.natAbs
 unfold wo
 unfold cO qC
 simp only [n9,aQ] at *
 generalize (ah n.natAbs).length=N3 at *
 generalize (ah n.natAbs).map ak=l3 at *
 generalize (ah d).length=N4 at *
 generalize (ah d).map ak=l4 at *
 refine aj (adX ..) ?_
 by_cases hz0:n=0
 ·have hN:N3=0:=h0.2 (by omega)
  subst hN
  rw [if_pos hz0]
  simp [xu]
 ·have hN:N3≠0:=fun h=>hz0 (by have := h0.1 h; omega)
  have hNI:¬ (N3:Int)=0:=by omega
  rw [if_neg hz0]
  by_cases hn:n<0
  ·rw [if_pos hn,decide_eq_true hn]
   simp [xu,hN,hNI]
  ·rw [if_neg hn,decide_eq_false hn]
   simp [xu,hN,hNI]
end Go.Ev.Code
end
section
namespace Go.Ev.Code
open Go Go.Ev
theorem azN {b:aA} (h:(aW b).1=none) {p:Int×Int} (hp:p∈(aF b).2) {s:Int} (h1:p.1≤s) (h2:s≤p.2):RB 700 (QC b p s):=by
 have h0:=(gY h).1
 have hchk:=dK h0
 obtain ⟨d1,d2,d3⟩:=gU h0 hp
 have hofB:RB 64 (Rat.divInt (s-p.1) (p.2-p.1)):=oH (gQ (by omega)) (gQ (by omega)) (by omega)
 unfold QC
 by_cases hcr:b.count=4∧regular b p=true
 ·rw [if_pos hcr]
  exact ((adt h hp).mul hofB).mono (by omega)
 ·rw [if_neg hcr]
  obtain ⟨v,hv⟩:=(am4 h hp (Int.le_refl _) h1 h2).resolve_left hcr
  rw [aks hv]
  have := Zq hchk d1 d2 hv (n:=2) (fun l hl=>OO h0 hp hl)
  exact ((YM b).mul this).mono (by omega)
theorem aBg {b:aA} {s:Int} (h:(leftB b s).1=none):RB 1400 (sS b s):=by
 obtain ⟨f0,h0,_,_⟩:=dX h
 obtain ⟨d1,d2,d3,d4,d5,d6⟩:=qh h
 have hg:=azN f0 d6 d4 (by omega:s≤(aV b s).2)
 have hp:=adt f0 d6
 obtain ⟨j,hj⟩:∃ j:Nat,j=700:=⟨_,rfl⟩
 obtain ⟨k,hk⟩:∃ k:Nat,k=600:=⟨_,rfl⟩
 rw [← hj] at hg
 rw [← hk] at hp
 unfold sS
 split
 ·exact (hg.sub hp).mono (by omega)
 ·exact hg.mono (by omega)
theorem axa {b:aA} {s:Int} (h:(leftB b s).1=none) (hc:b.aY.length≤1000000) (hr:b.bJ.length≤1000000):L.call acZ [aC b,.int .i64 s]=some (.aG [cZ (sS b s),.bQ]):=by
 have := (ad3 hc hr s).1
 unfold aqk at this
 rw [h] at this
 exact this
end Go.Ev.Code
end
section
namespace Go.Ev.Code
open Go Go.Ev
def CB (n:Int) (d:Nat):Int:=if n<0 then -(d:Int) else d
theorem ag6 (n:Int) (d:Nat):(CB n d).natAbs=d:=by unfold CB; split <;> simp
theorem axO {n:Int} {d:Nat} (h:0<d):decide (CB n d<0)=decide (n<0):=by
 unfold CB
 split
 ·rename_i h1; rw [decide_eq_true (by omega),decide_eq_true h1]
 ·rename_i h1; rw [decide_eq_false (by omega),decide_eq_false h1]
theorem az9 {n1 n2:Int} {d1 d2:Nat} (h1:0<d1) (h2:0<d2) (h0:n2≠0):Rat.divInt (n1*CB n2 d2) ((d1*n2.natAbs:Nat):Int)=Rat.divInt n1 d1 / Rat.divInt n2 d2:=by
 have e1:((d1:Nat):Rat)≠0:=fun h=>by rw [← Rat.intCast_natCast] at h; have := Rat.intCast_eq_zero_iff.1 h; omega
 have e2:((d2:Nat):Rat)≠0:=fun h=>by rw [← Rat.intCast_natCast] at h; have := Rat.intCast_eq_zero_iff.1 h; omega
 have e3:((n2:Int):Rat)≠0:=fun h=>h0 (Rat.intCast_eq_zero_iff.1 h)
 have e4:((n1*CB n2 d2:Int):Rat)*((n2:Int):Rat)=((n1:Int):Rat)*((d2:Nat):Rat)*((n2.natAbs:Nat):Rat):=by
  rw [← Rat.intCast_natCast,← Rat.intCast_natCast,← Rat.intCast_mul,← Rat.intCast_mul,← Rat.intCast_mul]
  congr 1
  unfold CB
  rcases Int.lt_or_le n2 0 with h | h
  ·rw [if_pos h,show ((n2.natAbs:Nat):Int) = -n2 by omega,Int.mul_neg,Int.neg_mul,Int.mul_neg]
  ·rw [if_neg (by omega),show ((n2.natAbs:Nat):Int)=n2 by omega]
 have e5:((n2.natAbs:Nat):Rat)≠0:=fun h=>by rw [← Rat.intCast_natCast] at h; have := Rat.intCast_eq_zero_iff.1 h; omega
 rw [Rat.divInt_eq_div,Rat.divInt_eq_div,Rat.divInt_eq_div,Rat.intCast_natCast,Rat.intCast_natCast,Rat.intCast_natCast,Rat.natCast_mul]
 generalize ((n1*CB n2 d2:Int):Rat)=x at *
 generalize (n1:Rat)=a at *
 generalize (n2:Rat)=b at *
 generalize (d1:Rat)=c at *
 generalize (d2:Rat)=d at *
 generalize ((n2.natAbs:Nat):Rat)=e at *
 grind
theorem Wo.aDw {k:Nat} {n:Int} {d:Nat} {q:Rat} (a:Wo k n d q):n=0↔q=0:=by
 have hd:((d:Nat):Int)≠0:=by have := a.pos; omega
 rw [← a.val]
 constructor
 ·rintro rfl; exact divInt_zero _
 ·intro h
  rw [Rat.divInt_eq_div] at h
  have e:(((d:Nat):Int):Rat)≠0:=fun h=>hd (Rat.intCast_eq_zero_iff.1 h)
  apply Rat.intCast_eq_zero_iff.1
  generalize (((d:Nat):Int):Rat)=x at *
  generalize (n:Rat)=y at *
  grind
theorem Wo.quot {j k:Nat} {n1 n2:Int} {d1 d2:Nat} {q r:Rat} (a:Wo j n1 d1 q) (b:Wo k n2 d2 r) (h0:r≠0):Wo (j+k) (n1*CB n2 d2) (d1*n2.natAbs) (q / r):=by
 have hn:n2≠0:=fun h=>h0 (b.aDw.1 h)
 have hz:IB k (CB n2 d2):=by unfold IB; rw [ag6]; exact b.qb.2
 exact ⟨⟨a.qb.1.mul hz,a.qb.2.mul b.qb.1⟩,Nat.mul_pos a.pos (by omega),by rw [az9 a.pos b.pos hn,a.val,b.val]⟩
theorem ahF {j k:Nat} {n1 n2:Int} {d1 d2:Nat} (a:QB j n1 d1) (b:QB k n2 d2) (hd:0<d2) (hk:j+k≤10000000):L.call yR [cO n1 d1,cO n2 d2]=some (cO (n1*CB n2 d2) (d1*n2.natAbs)):=by
 have hz:IB k (CB n2 d2):=by unfold IB; rw [ag6]; exact b.2
 have t1:=zQ (x:=n1) (y:=CB n2 d2) (a.1.iH (by omega)) (hz.iH (by omega))
 have ml:=uj (a.2.iH (by omega)) (b.1.iH (by omega))
 have hfn:=axO (n:=n2) hd
 have hfa:=ag6 n2 d2
 generalize n1*CB n2 d2=S at *
 generalize d1*n2.natAbs=dd at *
 unfold cO qC at *
 unfold lV iC at *
 rw [hfn,hfa] at t1
 simp only [n9,aQ] at *
 generalize decide (S<0)=b0 at *
 generalize decide (n1<0)=b3 at *
 generalize decide (n2<0)=b4 at *
 generalize (ah S.natAbs).length=N0 at *
 generalize (ah S.natAbs).map ak=l0 at *
 generalize (ah n1.natAbs).length=N3 at *
 generalize (ah n1.natAbs).map ak=l3 at *
 generalize (ah n2.natAbs).length=N4 at *
 generalize (ah n2.natAbs).map ak=l4 at *
 generalize (ah d1).length=N5 at *
 generalize (ah d1).map ak=l5 at *
 generalize (ah d2).length=N6 at *
 generalize (ah d2).map ak=l6 at *
 generalize (ah dd).length=N7 at *
 generalize (ah dd).map ak=l7 at *
 refine aj (agp ..) ?_
 simp [VZ,t1,ml,aS]
end Go.Ev.Code
end
section
namespace Go.Ev.Code
open Go Go.Ev
theorem abJ {b:aA} {s y:Int} {e:Er} (h:jw b s y = .error e):e≠none:=by
 unfold jw at h
 split at h
 ·simp at h; rw [← h]; simp
 ·split at h
  ·simp at h; rw [← h]; simp
  ·split at h
   ·simp at h; rw [← h]; simp
   ·simp at h
theorem ai2 {b:aA} {s y:Int} {q:Rat} (h:jw b s y = .ok q):(leftB b s).1=none:=by
 unfold jw at h
 split at h
 ·simp at h
 ·assumption
end Go.Ev.Code
end
section
namespace Go.Ev.Code
open Go Go.Ev
theorem Wo.whole {n:Int} (hn : -9223372036854775808≤n∧n≤9223372036854775807):Wo 64 n 1 (Rat.divInt n 1):=⟨⟨gQ hn,by unfold NB; decide⟩,by omega,rfl⟩
theorem au5:Rat.divInt 1 1=1:=by decide +kernel
theorem aAk {k:Nat} {n:Int} {d:Nat} {q:Rat} (a:Wo k n d q):wo n=0↔q=0:=by rw [aoG]; exact a.aDw
set_option maxHeartbeats 2000000 in
theorem afu {b:aA} {s:Int} (h:(leftB b s).1=none) (hc:b.aY.length≤1000) :
  (dF b s≠0→∃ n d,Wo 720 n d (dB b s)∧L.call mV [aC b,.int .i64 s]=some (.aG [cO n d,.bool true])) ∧
  (dF b s=0→L.call mV [aC b,.int .i64 s]=some (.aG [cO 0 1,.bool false])):=by
 obtain ⟨hf0,hp0,h1,h2⟩:=dX h
 have hchk:=dK hp0
 have hf:=dZ (bV hchk).2.1
 have hfb:1≤b.bG∧b.bG≤12:=by rcases hf with h | h | h | h <;> omega
 obtain ⟨k,N,pc,hpl,hat,hk,g1,g2,g3,g4⟩:=ayl h
 obtain ⟨_,hparts⟩:=ahy h hc
 obtain ⟨d1,d2,d3,d4,d5,hmem⟩:=qh h
 obtain ⟨an,ad,wa,hall⟩:=hparts (aV b s).2 (by omega) (Int.le_refl _)
 obtain ⟨gn,gd,wg,hgone⟩:=hparts s d4 (by omega)
 change Wo 194 an ad (dF b s) at wa
 change Wo 194 gn gd (wY b s) at wg
 have hsg:=ahG an ad
 have hs0:=aAk wa
 have hw0:=nY (n:=0) (by omega)
 have hkI:(k:Int)<N:=by omega
 constructor
 ·intro h0
  have hw1:=nY (n:=1) (by omega)
  have hwf:=nY (n:=b.bG) (by omega)
  have hq:=ahF wg.qb wa.qb wa.pos (by omega)
  have wq:=wg.quot wa h0
  have ww1:=Wo.whole (n:=1) (by omega)
  have wwf:=Wo.whole (n:=b.bG) (by omega)
  have hdf:=yN ww1.qb wq.qb (by omega)
  have wdf:=ww1.diff wq
  have hpr1:=nS wwf.qb wa.qb (by omega)
  have wpr1:=wwf.prod wa
  have hpr2:=nS wdf.qb wpr1.qb (by omega)
  have wpr2:=wdf.prod wpr1
  have hrg:=OU hchk (aV b s)
  have hwv:dB b s=if regular b (aV b s)=true then 1-wY b s / dF b s else (1-wY b s / dF b s)*(Rat.divInt b.bG 1*dF b s):=by
   unfold dB
   split
   ·rfl
   ·rw [Rat.mul_assoc]
  rw [hwv]
  rw [au5] at wdf wpr2
  have hsn:¬ wo an=0:=fun h=>h0 (hs0.1 h)
  clear hwv hs0 hparts hmem h0
  generalize regular b (aV b s)=rg at *
  generalize CB an ad=fz' at *
  generalize wo an=sg at *
  have key:∀ n d,(rg=true∧n=1*(gd*an.natAbs:Nat)-gn*fz'*(1:Nat)∧d=1*(gd*an.natAbs))∨(rg=false∧n=(1*(gd*an.natAbs:Nat)-gn*fz'*(1:Nat))*(b.bG*an)∧d=1*(gd*an.natAbs)*(1*ad)) →
    L.call mV [aC b,.int .i64 s]=some (.aG [cO n d,.bool true]):=by
   intro n d hcase
   obtain ⟨p0,p1,p2,hp,a1,a2,a3,a4,a5,a6⟩:=bg an ad
   obtain ⟨q0,q1,q2,hqq,b1,b2,b3,b4,b5,b6⟩:=bg gn gd
   obtain ⟨c0,c1,c2,hcc,c3,c4,c5,c6,c7,c8⟩:=bg (gn*fz') (gd*an.natAbs)
   obtain ⟨r0,r1,r2,hr,r3,r4,r5,r6,r7,r8⟩:=bg (1*((gd*an.natAbs:Nat):Int)-gn*fz'*(1:Nat)) (1*(gd*an.natAbs))
   obtain ⟨f0,f1,f2,hff,f3,f4,f5,f6,f7,f8⟩:=bg (b.bG*an) (1*ad)
   obtain ⟨t0,t1,t2,ht,t3,t4,t5,t6,t7,t8⟩:=bg 1 1
   obtain ⟨u0,u1,u2,hu,u3,u4,u5,u6,u7,u8⟩:=bg b.bG 1
   obtain ⟨o0,o1,o2,ho,o3,o4,o5,o6,o7,o8⟩:=bg n d
   clear wa wg wq ww1 wwf wdf wpr1 wpr2 hw0
   unfold cO pD at *
   rw [hp] at hall hsg hq hpr1
   rw [hqq] at hgone hq
   rw [hcc] at hq hdf
   rw [hr] at hdf hpr2
   rw [hff] at hpr1 hpr2
   rw [ht] at hw1 hdf
   rw [hu] at hwf hpr1
   rw [ho]
   generalize aV b s=p at *
   obtain ⟨u,v⟩:=p
   simp only at *
   obtain ⟨i,mt,fq,cc,rd',cnt,st,en,ex⟩:=b
   unfold aC ay at *
   simp only at *
   refine aj (Sm ..) ?_
   rcases hcase with ⟨rfl,rfl,rfl⟩ | ⟨rfl,rfl,rfl⟩
   ·rw [ho] at hr
    simp at hr
    obtain ⟨rfl,rfl,rfl⟩:=hr
    simp [zf,hpl,hat,hk,hkI,g1,g2,g3,g4,hall,hgone,hsg,hsn,hw1,hq,hdf,hrg,aS,a1,a2,a3,b1,b2,b3,c3,c4,c5,t3,t4,t5,o3,o4,o5,o6,o7,o8]
   ·rw [ho] at hpr2
    simp [zf,hpl,hat,hk,hkI,g1,g2,g3,g4,hall,hgone,hsg,hsn,hw1,hwf,hq,hdf,hrg,hpr1,hpr2,aS,a1,a2,a3,b1,b2,b3,c3,c4,c5,f3,f4,f5,r3,r4,r5,t3,t4,t5,u3,u4,u5,o3,o4,o5,o6,o7,o8]
  cases rg with
  | true =>
    rw [if_pos rfl]
    exact ⟨_,_,wdf.mono (by omega),key _ _ (.inl ⟨rfl,rfl,rfl⟩)⟩
  | false =>
    rw [if_neg (by simp)]
    exact ⟨_,_,wpr2.mono (by omega),key _ _ (.inr ⟨rfl,rfl,rfl⟩)⟩
 ·intro h0
  have hsn:=hs0.2 h0
  rw [hsn] at hsg
  obtain ⟨p0,p1,p2,hp,a1,a2,a3,a4,a5,a6⟩:=bg an ad
  obtain ⟨q0,q1,q2,hqq,b1,b2,b3,b4,b5,b6⟩:=bg gn gd
  obtain ⟨o0,o1,o2,ho,o3,o4,o5,o6,o7,o8⟩:=bg 0 1
  clear wa wg hparts hmem
  unfold cO pD at *
  rw [hp] at hall hsg
  rw [hqq] at hgone
  rw [ho] at hw0 ⊢
  generalize aV b s=p at *
  obtain ⟨u,v⟩:=p
  simp only at *
  obtain ⟨i,mt,fq,cc,rd',cnt,st,en,ex⟩:=b
  unfold aC ay at *
  simp only at *
  refine aj (Sm ..) ?_
  simp [zf,hpl,hat,hk,hkI,g1,g2,g3,g4,hall,hgone,hsg,hw0,aS,a1,a2,a3,b1,b2,b3,o3,o4,o5,o6,o7,o8]
theorem alV {b:aA} (hf:vO b.bG) {y:Int} (h1 : -2000000≤y) (h2:y≤100000000):L.call y8 [aC b,.int .i64 y]=some (cO (bC b+y) (bC b).natAbs)∧Wo 64 (bC b+y) (bC b).natAbs (Rat.divInt (bC b+y) (bC b)):=by
 have hfb:1≤b.bG∧b.bG≤12:=by rcases hf with h | h | h | h <;> omega
 unfold bC
 have hfr:=D5 (n:=100000000*b.bG+y) (d:=100000000*b.bG) (by omega) (by omega)
 refine ⟨?_,Wo.av4 (by omega) (by omega)⟩
 have e1:IntKind.i64.wrap (100000000*b.bG)=100000000*b.bG:=wrap64 _ (by omega)
 have e2:IntKind.i64.wrap (100000000*b.bG+y)=100000000*b.bG+y:=wrap64 _ (by omega)
 obtain ⟨o0,o1,o2,ho,o3,o4,o5,o6,o7,o8⟩:=bg (100000000*b.bG+y) (100000000*b.bG).natAbs
 unfold cO at *
 rw [ho] at hfr ⊢
 obtain ⟨i,mt,fq,cc,rd',cnt,st,en,ex⟩:=b
 unfold aC ay at *
 simp only at *
 refine aj (acT ..) ?_
 simp [PL,e1,e2,hfr,aS,o3,o4,o5,o6,o7,o8]
theorem adz {j k:Nat} {wn vn:Int} {wd vd:Nat} {w v:Rat} (ww:Wo j wn wd w) (wv:Wo k vn vd v) (hj:j≤1000) (hk:k≤1000) :
  ∃ n d,Wo (j+k+200) n d (1+w*(v-1))∧L.call Az [cO wn wd,cO vn vd]=some (cO n d):=by
 have hw1:=nY (n:=1) (by omega)
 have ww1:=Wo.whole (n:=1) (by omega)
 have hdf:=yN wv.qb ww1.qb (by omega)
 have wdf:=wv.diff ww1
 have hpr:=nS ww.qb wdf.qb (by omega)
 have wpr:=ww.prod wdf
 have hsm:=Hf ww1.qb wpr.qb (by omega)
 have wsm:=ww1.sum wpr
 rw [au5] at wsm
 refine ⟨_,_,wsm.mono (by omega),?_⟩
 obtain ⟨p0,p1,p2,hp,a1,a2,a3,a4,a5,a6⟩:=bg wn wd
 obtain ⟨q0,q1,q2,hqq,b1,b2,b3,b4,b5,b6⟩:=bg vn vd
 obtain ⟨t0,t1,t2,ht,t3,t4,t5,t6,t7,t8⟩:=bg 1 1
 clear ww wv ww1 wdf wpr wsm
 unfold cO at *
 rw [hp] at hpr
 rw [hqq] at hdf
 rw [ht] at hw1 hdf hsm
 rw [hp,hqq]
 obtain ⟨r0,r1,r2,hr,r3,r4,r5,r6,r7,r8⟩:=bg (vn*(1:Nat)-1*(vd:Int)) (vd*1)
 obtain ⟨f0,f1,f2,hff,f3,f4,f5,f6,f7,f8⟩:=bg (wn*(vn*(1:Nat)-1*(vd:Int))) (wd*(vd*1))
 rw [hr] at hdf hpr
 rw [hff] at hpr hsm
 obtain ⟨o0,o1,o2,ho,o3,o4,o5,o6,o7,o8⟩:=bg (1*((wd*(vd*1):Nat):Int)+wn*(vn*(1:Nat)-1*(vd:Int))*(1:Nat)) (1*(wd*(vd*1)))
 rw [ho] at hsm ⊢
 refine aj (adU ..) ?_
 simp [RQ,hw1,hdf,hpr,hsm,aS,t3,t4,t5,r3,r4,r5,f3,f4,f5,a1,a2,a3,b1,b2,b3,o3,o4,o5,o6,o7,o8]
theorem Gq.ay6 {k:Nat}:∀ {ws:List (Int×Int×Nat)} {fs:List (Int×Rat)},Gq k ws fs→Yl k ws (fs.map Prod.snd)
 | [],[],_=>trivial
 | _::_,_::_,h=>⟨h.2.1,h.2.2.ay6⟩
 | [],_::_,h=>h.elim
 | _::_,[],h=>h.elim
theorem axN (l:List (Int×Int×Nat)) (n:Nat):bK (l.drop n)=(bK l).drop (n*4):=by
 induction l generalizing n with
 | nil=>simp [bK]
 | cons x xs ih =>
   obtain ⟨a,b,c⟩:=x
   cases n with
   | zero=>simp
   | succ n =>
     rw [List.drop_succ_cons,ih]
     simp only [bK]
     rw [show (n+1)*4=n*4+3+1 by omega,List.drop_succ_cons,List.drop_append,sG]
     have h1:(qC b c).drop (n*4+3)=[]:=List.drop_of_length_le (by rw [sG]; omega)
     rw [show n*4+3-3=n*4 by omega,h1]
     rfl
end Go.Ev.Code
end
section
namespace Go.Ev.Code
open Go Go.Ev
theorem aCj {b:aA} {s:Int} (h:(leftB b s).1=none):∃ (k:Nat) (pc:List D),Sz (aF b).2 s=k∧L.call fQ [aC b]=some (.aG [.sl (aF b).2.length pc,.bool true])∧L.call qA [.sl (aF b).2.length pc,.int .i64 s]=some (.int .i64 k) ∧
  k<(aF b).2.length∧(aF b).2.length≤200∧pc[k*2]?=some (.int .i64 (aV b s).1)∧pc[k*2+1]?=some (.int .i64 (aV b s).2)∧k*2+2≤pc.length∧(pc.drop (k*2)).take 2=[.int .i64 (aV b s).1,.int .i64 (aV b s).2]:=by
 obtain ⟨hf0,hp0,h1,h2⟩:=dX h
 have hpl:=aa_ hp0
 have hw:=(dP hp0).2
 obtain ⟨k,hk,hget,h3,h4⟩:=x9 hp0 h1 h2
 have hat:=aco (ps:=(aF b).2) (by have := hw.len; omega) s
 rw [hk] at hat
 obtain ⟨g1,g2,g3,g4⟩:=mP hget
 exact ⟨k,_,hk,hpl,hat,(List.getElem?_eq_some_iff.1 hget).1,hw.len,g1,g2,g3,g4⟩
set_option maxHeartbeats 2000000 in
theorem apH {b:aA} {s:Int} (h:(leftB b s).1=none) (hc:b.aY.length≤1000) (hr:b.bJ.length≤1000) :
  ∃ ws,Yl 1400 ws (dD b s)∧ws≠[]∧ws.length≤200∧L.call CS [aC b,.int .i64 s]=some (.sl ws.length (bK ws)):=by
 obtain ⟨hf0,hp0,h1,h2⟩:=dX h
 obtain ⟨k,pc,hkk,hpl,hat,hk,hN,g1,g2,g3,g4⟩:=aCj h
 obtain ⟨⟨pn,pd,wp,hpay⟩,_⟩:=ahy h hc
 obtain ⟨ws0,hW,hfl⟩:=(Ub hp0 hc hr).1 hf0
 have hl0:ws0.length=(aF b).2.length:=by rw [hW.len,O8 hf0]
 have hWd:=hW.drop k
 have hex:=U1 h
 rw [hl0] at hfl
 generalize (aF b).2.length=N at *
 have hkI:(k:Int)<N:=by omega
 obtain ⟨w,wr,hwr⟩:∃ w wr,ws0.drop k=w::wr:=by
  cases hd:ws0.drop k with
  | nil=>have := congrArg List.length hd; rw [List.length_drop] at this; simp at this; omega
  | cons w wr=>exact ⟨w,wr,rfl⟩
 have hM:wr.length+1=N-k:=by
  have := congrArg List.length hwr
  rw [List.length_drop] at this
  simp at this
  omega
 obtain ⟨dd,xn,xd⟩:=w
 have hcells:(bK ws0).drop (k*4) = .int .i64 dd::(qC xn xd++bK wr):=by rw [← axN,hwr]; rfl
 have hfcl:=Y9 ws0
 have hlen1:k*4+(N-k)*4≤(bK ws0).length:=by rw [hfcl,hl0]; omega
 have htl:=ET wr
 have hfz:=aq9 wr
 have htll:=Y9 wr
 obtain ⟨f,fr,hfr⟩:∃ f fr,(aW b).2.drop k=f::fr:=by
  rw [hwr] at hWd
  cases hd:(aW b).2.drop k with
  | nil=>rw [hd] at hWd; exact hWd.elim
  | cons f fr=>exact ⟨f,fr,rfl⟩
 rw [hwr,hfr] at hWd
 obtain ⟨hW1,hW2,hW3⟩:=hWd
 simp only at hW2
 have hamt:dD b s=if O7 b s=true then (f.2-qg b (aV b s))::fr.map Prod.snd else f.2::fr.map Prod.snd:=by
  unfold dD
  rw [hkk,Int.toNat_natCast,hfr]
  rfl
 have hb5:(k:Int)≤N:=by omega
 have hkk2:((N:Nat):Int)-k=((N-k:Nat):Int):=by omega
 have hb:gK true false N [.int .i64 (k:Int)]=some (k,N):=by simp [hb5]
 obtain ⟨p0,p1,p2,hp,a1,a2,a3,a4,a5,a6⟩:=bg pn pd
 obtain ⟨x0,x1,x2,hx,b1,b2,b3,b4,b5,b6⟩:=bg xn xd
 rw [hx] at hcells
 have htkc:((bK ws0).drop (k*4)).take ((N-k)*4) = .int .i64 dd::([x0,x1,x2]++bK wr):=by
  rw [hcells]
  exact List.take_of_length_le (by simp [htll]; omega)
 have htk2:∀ (y0 y1 y2:D),List.take ((N-k)*4) (.int .i64 dd::y0::y1::y2::bK wr) = .int .i64 dd::y0::y1::y2::bK wr:=fun _ _ _=>List.take_of_length_le (by simp [htll]; omega)
 have hM0:¬ N-k=0:=by omega
 have hMI:(0:Int)<((N-k:Nat):Int):=by omega
 have hMN:0<N-k:=by omega
 have hM4:N-k≤4294967296:=by omega
 have hMl:(N-k)*4≤(bK wr).length+1+1+1+1:=by rw [htll]; omega
 rw [hamt]
 clear hamt hW hl0 hcells hW1
 cases hxb:O7 b s with
 | true =>
   rw [if_pos rfl]
   rw [hxb] at hex
   have hdf:=yN hW2.qb wp.qb (by omega)
   refine ⟨(dd,xn*pd-pn*xd,xd*pd)::wr,⟨(hW2.diff wp).mono (by omega),hW3.ay6.mono (by omega)⟩,by simp,by simp; omega,?_⟩
   obtain ⟨o0,o1,o2,ho,o3,o4,o5,o6,o7,o8⟩:=bg (xn*pd-pn*xd) (xd*pd)
   have hres:bK ((dd,xn*pd-pn*xd,xd*pd)::wr) = .int .i64 dd::o0::o1::o2::bK wr:=by simp only [bK]; rw [ho]; rfl
   rw [hres,List.length_cons,hM]
   clear hres wp hW2 hW3 hxb
   unfold cO pD at *
   rw [hp] at hpay hdf
   rw [hx,ho] at hdf
   generalize aV b s=p at *
   obtain ⟨u,v⟩:=p
   simp only at *
   generalize bK ws0=fc at *
   generalize bK wr=tl at *
   generalize hNk:N-k=M at *
   obtain ⟨i,mt,fq,cc,rd',cnt,st,en,ex⟩:=b
   unfold aC ay at *
   simp only at *
   refine aj (Sl ..) ?_
   simp [Io,hNk,hpl,hfl,hat,hb5,hkI,hk,hlen1,htkc,htk2,hM0,hMI,hMN,hM4,hMl,hex,g1,g2,g3,g4,hpay,hdf,aS,Gp,htl,hfz,a1,a2,a3,b1,b2,b3,b4,b5,b6,o3,o4,o5,o6,o7,o8,iM]
 | false =>
   rw [if_neg (by simp)]
   rw [hxb] at hex
   refine ⟨(dd,xn,xd)::wr,⟨hW2.mono (by omega),hW3.ay6.mono (by omega)⟩,by simp,by simp; omega,?_⟩
   have hres:bK ((dd,xn,xd)::wr) = .int .i64 dd::x0::x1::x2::bK wr:=by simp only [bK]; rw [hx]; rfl
   rw [hres,List.length_cons,hM]
   clear hres wp hW2 hW3 hxb
   unfold cO pD at *
   generalize bK ws0=fc at *
   generalize bK wr=tl at *
   generalize hNk:N-k=M at *
   obtain ⟨i,mt,fq,cc,rd',cnt,st,en,ex⟩:=b
   unfold aC ay at *
   simp only at *
   refine aj (Sl ..) ?_
   simp [Io,hNk,hpl,hfl,hat,hb5,hkI,hk,hlen1,htkc,htk2,hM0,hMI,hMN,hM4,hMl,hex,aS,Gp,htl,hfz,b1,b2,b3,b4,b5,b6,iM]
end Go.Ev.Code
end
section
namespace Go.Ev.Code
open Go Go.Ev
def o9:List (Int×Int×Nat)→List D
 | []=>[]
 | (_,n,m)::r=>qC n m++o9 r
theorem axG (l r:List (Int×Int×Nat)):o9 (l++r)=o9 l++o9 r:=by
 induction l with
 | nil=>rfl
 | cons x xs ih=>obtain ⟨a,b,c⟩:=x; simp [o9,ih]
theorem anZ (l:List (Int×Int×Nat)):(o9 l).length=l.length*3:=by
 induction l with
 | nil=>rfl
 | cons x xs ih=>obtain ⟨a,b,c⟩:=x; simp [o9,ih,sG]; omega
theorem agG (l:List (Int×Int×Nat)) (b n:Nat):(o9 l).all (D.clo b (n+1))=true:=by
 induction l with
 | nil=>rfl
 | cons x xs ih =>
   obtain ⟨p,q,r⟩:=x
   have := Vz q r b n
   simp only [o9,List.all_append,ih,this]
   rfl
theorem axS (l:List (Int×Int×Nat)) (n:Nat) (m:Mem):jd (fz (n+1)) (o9 l) m=some (o9 l,m):=by
 induction l with
 | nil=>rfl
 | cons x xs ih =>
   obtain ⟨p,q,r⟩:=x
   obtain ⟨c0,c1,c2,h,hc⟩:=lX q r
   obtain ⟨_,_,_,hf⟩:=hc 0 n
   simp only [o9]
   rw [h]
   simp [hf,ih]
def qN:List D:=[.bool false,.dh,.dh]
theorem as3 (a b c:D):zeros 1 [a,b,c]=[a,b,c]:=by rfl
def aaP (l:List (Int×Int×Nat)):D:=if l=[] then .dh else .aO 5 0 l.length 3
def aaQ (l:List (Int×Int×Nat)):Mem:=if l=[] then [] else [.live (o9 l)]
theorem Yl.mid {k:Nat}:∀ {p:List (Int×Int×Nat)} {pa:List Rat} {w:Int×Int×Nat} {a:Rat} {s:List (Int×Int×Nat)} {sa:List Rat},pa.length=p.length→Yl k (p++w::s) (pa++a::sa)→Wo k w.2.1 w.2.2 a
 | [],[],_,_,_,_,_,h=>h.1
 | _::_,_::_,_,_,_,_,hl,h=>Yl.mid (by simpa using hl) h.2
 | [],_::_,_,_,_,_,hl,h=>by simp at hl
 | _::_,[],_,_,_,_,hl,h=>by simp at hl
set_option maxHeartbeats 4000000 in
theorem awR {ws pre suf:List (Int×Int×Nat)} {w:Int×Int×Nat} (hws:ws=pre++w::suf) (hlen:ws.length≤200) {n n1 n2 bn:Int} {d d1 d2 bd:Nat} {B0 V0:List D} (hB:∀ k j,B0.all (D.clo k (j+1))=true) (hV:∀ k j,V0.all (D.clo k (j+1))=true)
  (hp:L.call kZ [cO n d,cO bn bd]=some (cO n1 d1)) (hs:L.call mZ [cO n1 d1,cO w.2.1 w.2.2]=some (cO n2 d2)) {R:Ex×List D×Mem}
  (hR:L.loop [6,8,9,10,11,12] [6,9,10] jG 5 [.loc 2 0,.sl ws.length (bK ws),.loc 3 0,aaP (ws.take (suf.length+1)),.loc 4 0,.int .i64 ((pre.length:Int)-1)] ([.live B0,.live V0,.live qN,.live (qC n2 d2),.live (qC bn bd)]++aaQ (ws.take (suf.length+1)))=some R) :
  L.loop [6,8,9,10,11,12] [6,9,10] jG 5 [.loc 2 0,.sl ws.length (bK ws),.loc 3 0,aaP (ws.take suf.length),.loc 4 0,.int .i64 pre.length] ([.live B0,.live V0,.live qN,.live (qC n d),.live (qC bn bd)]++aaQ (ws.take suf.length))=some R:=by
 have hl:ws.length=pre.length+suf.length+1:=by rw [hws]; simp; omega
 obtain ⟨q1,q2⟩:=Y8 (ws:=ws) (i:=pre.length) (w:=w) (by rw [hws]; simp)
 obtain ⟨y,hy⟩:∃ y,ws[suf.length]?=some y:=⟨_,List.getElem?_eq_getElem (by omega)⟩
 obtain ⟨q3,q4⟩:=Y8 hy
 have htk:ws.take (suf.length+1)=ws.take suf.length++[y]:=by rw [List.take_add_one,hy]; rfl
 have hne:¬ ws.take suf.length++[y]=[]:=by simp
 have hlt:(ws.take suf.length).length=suf.length:=by rw [List.length_take]; omega
 unfold aaP aaQ at hR
 rw [htk,if_neg hne,if_neg hne,axG,List.length_append,List.length_singleton,hlt] at hR
 have hone:o9 [y]=qC y.2.1 y.2.2:=by obtain ⟨a,b,c⟩:=y; simp [o9]
 rw [hone] at hR
 obtain ⟨x0,x1,x2,hx,a1,a2,a3,a4,a5,a6⟩:=bg w.2.1 w.2.2
 obtain ⟨y0,y1,y2,hyc,b1,b2,b3,b4,b5,b6⟩:=bg y.2.1 y.2.2
 obtain ⟨s0,s1,s2,hsc,c1,c2,c3,c4,c5,c6⟩:=bg n d
 obtain ⟨k0,k1,k2,hk,e1,e2,e3,e4,e5,e6⟩:=bg bn bd
 obtain ⟨m0,m1,m2,hm,f1,f2,f3,f4,f5,f6⟩:=bg n1 d1
 obtain ⟨t0,t1,t2,ht,g1,g2,g3,g4,g5,g6⟩:=bg n2 d2
 have hel:=anZ (ws.take suf.length)
 rw [hlt] at hel
 have hec:=agG (ws.take suf.length)
 have htke:(o9 (ws.take suf.length)).take (suf.length*3)=o9 (ws.take suf.length):=List.take_of_length_le (by omega)
 unfold cO at hp hs
 rw [hsc,hk,hm] at hp
 rw [hm,hx,ht] at hs
 rw [ht,hk,hyc] at hR
 rw [hsc,hk]
 rw [hx] at q2
 rw [hyc] at q4
 have w1:IntKind.i64.wrap ((ws.length:Int)-1)=(ws.length:Int)-1:=wrap64 _ (by omega)
 have w2:IntKind.i64.wrap ((ws.length:Int)-1-pre.length)=(suf.length:Int):=by rw [wrap64 _ (by omega)]; omega
 have w2':(ws.length:Int)-1-pre.length=(suf.length:Int):=by omega
 have w3:IntKind.i64.wrap ((pre.length:Int)-1)=(pre.length:Int)-1:=wrap64 _ (by omega)
 have w4:IntKind.i64.wrap (suf.length:Int)=(suf.length:Int):=wrap64 _ (by omega)
 have w0:IntKind.i64.wrap 0=0:=wrap64 _ (by omega)
 have i1:(pre.length:Int)<ws.length:=by omega
 have i2:(suf.length:Int)<ws.length:=by omega
 have i3:pre.length<ws.length:=by omega
 have i4:suf.length<ws.length:=by omega
 have i5:suf.length+1≤4294967296:=by omega
 clear hy hws hl hne htk hone
 unfold aaP aaQ
 rw [hlt]
 unfold qN at *
 by_cases h0:ws.take suf.length=[]
 ·rw [if_pos h0,if_pos h0]
  have hz:suf.length=0:=by rw [h0] at hlt; simpa using hlt.symm
  have he:o9 (ws.take suf.length)=[]:=by rw [h0]; rfl
  rw [he,hz] at hR
  rw [hz] at w2 w2' q3 q4 i4 i2
  clear hel hec htke he h0 hlt w4 i5 hz
  generalize bK ws=fc at *
  generalize ws.length=M at *
  generalize pre.length=P at *
  refine au (rJ ..) ?_
  simp at hR q3 q4 w2 w2'
  simp [l9,i1,i2,i3,i4,hp,hs,q1,q2,q3,q4,w0,w1,w2,w2',w3,aS,as3,hB,hV,a1,a2,a3,b1,b2,b3,c1,c2,c3,e1,e2,e3,f1,f2,f3,g1,g2,g3,hR]
 ·rw [if_neg h0,if_neg h0]
  clear h0 hlt
  generalize o9 (ws.take suf.length)=ec at *
  generalize bK ws=fc at *
  generalize ws.length=M at *
  generalize pre.length=P at *
  generalize suf.length=S at *
  refine au (rJ ..) ?_
  simp at hR
  simp [l9,i1,i2,i3,i4,i5,hp,hs,q1,q2,q3,q4,w1,w2,w2',w3,w4,aS,as3,hB,hV,hel,hec,htke,a1,a2,a3,b1,b2,b3,c1,c2,c3,e1,e2,e3,f1,f2,f3,g1,g2,g3,iM,hR]
theorem awQ {ws:List (Int×Int×Nat)} {asx:List Rat} (hA:Yl 1400 ws asx) (hlen:ws.length≤200) {bn:Int} {bd:Nat} {x:Rat} (wb:Wo 64 bn bd x) {B0 V0:List D} (hB:∀ k j,B0.all (D.clo k (j+1))=true) (hV:∀ k j,V0.all (D.clo k (j+1))=true) :
  ∀ (P:Nat) (pre suf:List (Int×Int×Nat)) (pa sa:List Rat) (n:Int) (d:Nat),pre.length=P→ws=pre++suf→asx=pa++sa→pa.length=pre.length→Wo (64+1465*suf.length) n d (og x sa) →
  ∃ n' d',Wo (64+1465*ws.length) n' d' (og x asx)∧L.loop [6,8,9,10,11,12] [6,9,10] jG 5 [.loc 2 0,.sl ws.length (bK ws),.loc 3 0,aaP (ws.take suf.length),.loc 4 0,.int .i64 ((pre.length:Int)-1)] ([.live B0,.live V0,.live qN,.live (qC n d),.live (qC bn bd)]++aaQ (ws.take suf.length)) =
    some (.exit 0,[.loc 2 0,.loc 3 0,aaP ws],[.live B0,.live V0,.live qN,.live (qC n' d'),.live (qC bn bd)]++aaQ ws):=by
 intro P
 induction P with
 | zero =>
   intro pre suf pa sa n d hP hws has hpl hw
   have h1:pre=[]:=List.eq_nil_of_length_eq_zero hP
   subst h1
   have h2:pa=[]:=List.eq_nil_of_length_eq_zero hpl
   subst h2
   rw [List.nil_append] at hws has
   subst hws has
   refine ⟨n,d,hw,?_⟩
   rw [List.take_of_length_le (Nat.le_refl _)]
   obtain ⟨s0,s1,s2,hsc,c1,c2,c3,c4,c5,c6⟩:=bg n d
   obtain ⟨k0,k1,k2,hk,e1,e2,e3,e4,e5,e6⟩:=bg bn bd
   have hec:=agG ws
   rw [hsc,hk]
   unfold qN aaP aaQ
   generalize o9 ws=ec at *
   generalize bK ws=fc at *
   by_cases h0:ws=[]
   ·rw [if_pos h0,if_pos h0]
    generalize ws.length=M at *
    refine au (rJ ..) ?_
    simp [l9,hB,hV,c1,c2,c3,e1,e2,e3]
   ·rw [if_neg h0,if_neg h0]
    generalize ws.length=M at *
    refine au (rJ ..) ?_
    simp [l9,hB,hV,hec,c1,c2,c3,e1,e2,e3]
 | succ P ih =>
   intro pre suf pa sa n d hP hws has hpl hw
   obtain ⟨pre',w,rfl⟩:∃ pre' w,pre=pre'++[w]:=⟨pre.dropLast,pre.getLast (by intro h; rw [h] at hP; simp at hP),(List.dropLast_concat_getLast _).symm⟩
   obtain ⟨pa',a,rfl⟩:∃ pa' a,pa=pa'++[a]:=⟨pa.dropLast,pa.getLast (by intro h; rw [h] at hpl; simp at hpl),(List.dropLast_concat_getLast _).symm⟩
   rw [List.append_assoc] at hws has
   have hl1:pre'.length=P:=by simpa using hP
   have hl2:pa'.length=pre'.length:=by simpa using hpl
   have hwa:Wo 1400 w.2.1 w.2.2 a:=by
    have h:=hA
    rw [hws,has] at h
    exact Yl.mid hl2 h
   have hs1:suf.length≤199:=by have := congrArg List.length hws; simp at this; omega
   have hpr:=nS hw.qb wb.qb (by omega)
   have wpr:=hw.prod wb
   have hsm:=Hf wpr.qb hwa.qb (by omega)
   have wsm:=(wpr.sum hwa).mono (k:=64+1465*(w::suf).length) (by rw [List.length_cons]; omega)
   have hh:og x sa*x+a=og x (a::sa):=by
    simp only [og]
    generalize og x sa=q
    grind
   rw [hh] at wsm
   obtain ⟨n',d',g1,g2⟩:=ih pre' (w::suf) pa' (a::sa) _ _ hl1 hws has hl2 wsm
   refine ⟨n',d',g1,?_⟩
   have hst:=awR (ws:=ws) (pre:=pre') (suf:=suf) (w:=w) hws hlen hB hV hpr hsm g2
   rw [show (((pre'++[w]).length:Nat):Int)-1=(pre'.length:Int) by rw [List.length_append,List.length_singleton]; omega]
   exact hst
set_option maxHeartbeats 2000000 in
theorem ana {b:aA} {s:Int} (h:(leftB b s).1=none) (hc:b.aY.length≤1000) (hr:b.bJ.length≤1000) {vn:Int} {vd:Nat} (hq:QB 64 vn vd) (hvn:0<vn) (hvd:0<vd) :
  ∃ n d M cells,Wo 300000 n d (og (Rat.divInt vd vn) (dD b s))∧L.call AB [aC b,.int .i64 s,cO vn vd]=some (.aG [cO n d,.sl M cells]):=by
 obtain ⟨ws,hA,hne,hlen,hlf⟩:=apH h hc hr
 have wb:Wo 64 (vd:Int) vn.natAbs (Rat.divInt vd vn):=⟨⟨IB.ofNat hq.2,hq.1⟩,by omega,by congr 1; omega⟩
 have hw0:=nY (n:=0) (by omega)
 have w0:Wo (64+1465*([]:List (Int×Int×Nat)).length) 0 1 (og (Rat.divInt vd vn) []):=by
  have := Wo.whole (n:=0) (by omega)
  rw [divInt_zero] at this
  exact this
 obtain ⟨n,d,g1,g2⟩:=awQ hA hlen wb (B0:=ay b) (V0:=qC vn vd) (fun k j=>iZ b k j) (fun k j=>Vz vn vd k j) ws.length ws [] (dD b s) [] 0 1 rfl (by simp) (by simp) hA.len.symm w0
 refine ⟨n,d,ws.length,o9 ws,g1.mono (by omega),?_⟩
 have hb:qC (vd:Int) vn.natAbs=[.bool false,.sl (ah vd).length ((ah vd).map ak),.sl (ah vn.natAbs).length ((ah vn.natAbs).map ak)]:=by
  unfold qC n9 aQ
  rw [decide_eq_false (by omega),Int.natAbs_natCast]
 have hv:qC vn vd=[.bool (decide (vn<0)),.sl (ah vn.natAbs).length ((ah vn.natAbs).map ak),.sl (ah vd).length ((ah vd).map ak)]:=rfl
 obtain ⟨o0,o1,o2,ho,o3,o4,o5,o6,o7,o8⟩:=bg n d
 obtain ⟨z0,z1,z2,hz,z3,z4,z5,z6,z7,z8⟩:=bg 0 1
 have hel:=anZ ws
 have hec:=agG ws
 have hef:=axS ws
 have htke:(o9 ws).take (ws.length*3)=o9 ws:=List.take_of_length_le (by omega)
 unfold aaP aaQ at g2
 simp only [List.take_zero,List.length_nil,if_true] at g2
 rw [if_neg hne,if_neg hne] at g2
 rw [hb,hv,ho,hz] at g2
 have e1:IntKind.i64.wrap ((ws.length:Int)-1)=(ws.length:Int)-1:=wrap64 _ (by omega)
 unfold qN at g2
 unfold cO at *
 rw [ho,hv]
 rw [hz] at hw0
 clear hb hv g1 hA wb w0
 generalize (ah vd).length=N1 at *
 generalize (ah vd).map ak=l1 at *
 generalize (ah vn.natAbs).length=N2 at *
 generalize (ah vn.natAbs).map ak=l2 at *
 generalize decide (vn<0)=b0 at *
 generalize o9 ws=ec at *
 generalize bK ws=fc at *
 generalize ws.length=M at *
 obtain ⟨i,mt,fq,cc,rd',cnt,st,en,ex⟩:=b
 unfold aC ay at *
 simp only at *
 refine aj (adW ..) ?_
 simp at g2
 simp [RU,hlf,hw0,e1,g2,aS,hel,hec,hef,htke,o3,o4,o5,o6,o7,o8,z3,z4,z5,iM]
end Go.Ev.Code
end
section
namespace Go.Ev.Code
open Go Go.Ev
def sD (b:aA) (s y:Int):Except Er Rat:=match jw b s y with
 | .error e => .error e
 | .ok q => .ok (q-sS b s)
theorem Lr {b:aA} (hc:b.aY.length≤1000000) (hr:b.bJ.length≤1000000) (s:Int) {y:Int} (hy : -9223372036854775808≤y∧y≤9223372036854775807) :
  L.call G_ [aC b,.int .i64 s,.int .i64 y]=some (DX (sD b s y))∧(∀ q,sD b s y = .ok q→RB 17000 q):=by
 obtain ⟨hd,hdB⟩:=yc hc hr s hy
 unfold sD
 cases he:jw b s y with
 | error e =>
   refine ⟨?_,fun q h=>by simp at h⟩
   rw [he] at hd
   simp only [DX] at *
   have hne:=abJ he
   obtain ⟨i,m,fq,c,rd,n,st,en,ex⟩:=b
   unfold aC ay at *
   simp only at *
   rcases e with _ | ⟨c,_ | t⟩
   ·exact absurd rfl hne
   ·simp only [fD] at *
    refine aj (Wh ..) ?_
    simp [Ou,hd]
   ·simp only [fD,eY] at *
    refine aj (Wh ..) ?_
    simp [Ou,hd]
 | ok q =>
   rw [he] at hd
   have hl:=ai2 he
   have ha:=axa hl hc hr
   have haB:=aBg hl
   obtain ⟨j,hj⟩:∃ j:Nat,j=1400:=⟨_,rfl⟩
   rw [← hj] at haB
   have hqB:=hdB q he
   have hsub:=LJ hqB haB (by omega)
   refine ⟨?_,fun r h=>by simp at h; rw [← h]; exact (hqB.sub haB).mono (by omega)⟩
   simp only [DX] at *
   generalize q-sS b s=v at *
   generalize sS b s=a at *
   obtain ⟨i,m,fq,c,rd,n,st,en,ex⟩:=b
   unfold aC ay at *
   simp only at *
   refine aj (Wh ..) ?_
   simp [Ou,hd,ha,hsub]
end Go.Ev.Code
end
section
namespace Go.Ev.Code
open Go Go.Ev
theorem aj' {b:aA} (hf:vO b.bG) {y:Int} (h1 : -2000000≤y) (h2:y≤100000000):0<bC b∧0<bC b+y∧bC b≤1200000000:=by
 unfold bC
 rcases hf with h | h | h | h <;> rw [h] <;> omega
theorem azP {b:aA} (hf:vO b.bG) (y:Int) (h1 : -2000000≤y) (h2:y≤100000000):Rat.divInt (bC b+y) (bC b)-1=(y:Rat) / (bC b:Rat):=by
 have hg:=(aj' hf h1 h2).1
 have e:((bC b:Int):Rat)≠0:=fun h=>by have := Rat.intCast_eq_zero_iff.1 h; omega
 rw [Rat.divInt_eq_div,Rat.intCast_add]
 generalize ((bC b:Int):Rat)=G at *
 generalize (y:Rat)=Y at *
 grind
theorem back_eq {b:aA} (hf:vO b.bG) (y:Int) (h1 : -2000000≤y) (h2:y≤100000000):Rat.divInt ((bC b).natAbs:Int) (bC b+y)=zY b y:=by
 have hg:=(aj' hf h1 h2).1
 unfold zY
 rw [Rat.divInt_eq_div,show (((bC b).natAbs:Nat):Int)=bC b by omega]
theorem an7 {b:aA} {s y:Int} (h:(leftB b s).1=none) (h0:dF b s≠0) (h1 : -2000000≤y) (h2:y≤100000000):0<1+dB b s*((y:Rat) / (bC b:Rat)):=by
 have hf:=dZ (bV (dK (dX h).2.1)).2.1
 obtain ⟨w0,w1⟩:=akE h h0
 have ha:=(ad5 hf w0 w1 (z:=y) h1 (Int.le_refl _) h2).1
 generalize 1+dB b s*((y:Rat) / (bC b:Rat))=q at *
 grind
theorem Wo.aCc {k:Nat} {n:Int} {d:Nat} {q:Rat} (a:Wo k n d q) (h:0<q):0<n:=by
 have hd:(0:Int)<(d:Int):=by have := a.pos; omega
 have h2 := @I7 0 n (d:Int) hd
 rw [divInt_zero,a.val] at h2
 exact h2.1 h
theorem Uc (y:Int):L.call Aw [.int .i64 y]=some (.bool (decide (-2000000≤y) && decide (y≤100000000))):=by
 refine aj (adT ..) ?_
 by_cases h1 : -2000000≤y
 ·by_cases h2:y≤100000000 <;> simp [F6,h1,h2]
 ·simp [F6,h1]
set_option maxHeartbeats 2000000 in
theorem adx {b:aA} {s y:Int} (h:(leftB b s).1=none) (hc:b.aY.length≤1000) (hr:b.bJ.length≤1000) (h1 : -2000000≤y) (h2:y≤100000000) :
  (dF b s=0→L.call uK [aC b,.int .i64 s,.int .i64 y]=some (.aG [.agg qZ,.int .i64 3])) ∧
  (dF b s≠0→∃ n d,Wo 310000 n d (oG b s y)∧L.call uK [aC b,.int .i64 s,.int .i64 y]=some (.aG [cO n d,.int .i64 0])):=by
 have hf:=dZ (bV (dK (dX h).2.1)).2.1
 obtain ⟨hw1,hw2⟩:=afu h hc
 obtain ⟨hg,wg⟩:=alV hf h1 h2
 obtain ⟨gp1,gp2,gp3⟩:=aj' hf h1 h2
 constructor
 ·intro h0
  have hw:=hw2 h0
  have w0:Wo 64 0 1 (0:Rat):=by
   have := Wo.whole (n:=0) (by omega)
   rw [divInt_zero] at this
   exact this
  obtain ⟨fn,fd,_,hfr⟩:=adz w0 wg (by omega) (by omega)
  obtain ⟨a0,a1,a2,ha,a3,a4,a5,_⟩:=bg 0 1
  obtain ⟨b0,b1,b2,hb,b3,b4,b5,_⟩:=bg (bC b+y) (bC b).natAbs
  obtain ⟨c0,c1,c2,hcc,c3,c4,c5,_⟩:=bg fn fd
  clear w0 wg hw1 hw2
  unfold cO at *
  rw [ha] at hw hfr
  rw [hb] at hg hfr
  rw [hcc] at hfr
  unfold qZ
  obtain ⟨i,mt,fq,cc,rd',cnt,st,en,ex⟩:=b
  unfold aC ay at *
  simp only at *
  refine aj (PX ..) ?_
  simp [FY,hw,hg,hfr,aS,a3,a4,a5,b3,b4,b5,c3,c4,c5]
 ·intro h0
  obtain ⟨wn,wd,ww,hw⟩:=hw1 h0
  obtain ⟨fn,fd,wf,hfr⟩:=adz ww wg (by omega) (by omega)
  rw [azP hf y h1 h2] at wf
  have hfp:=wf.aCc (an7 h h0 h1 h2)
  have hsg:=ahG fn fd
  have hs1:wo fn=1:=by unfold wo; (repeat' split) <;> omega
  rw [hs1] at hsg
  obtain ⟨sn,sd,M,cells,ws,hwo⟩:=ana h hc hr wg.qb gp2 wg.pos
  rw [back_eq hf y h1 h2] at ws
  have hq:=ahF ws.qb wf.qb wf.pos (by omega)
  have hfne:(1+dB b s*((y:Rat) / (bC b:Rat)))≠0:=fun h5=>by have := an7 h h0 h1 h2; rw [h5] at this; exact absurd this (by decide)
  have wq:=ws.quot wf hfne
  refine ⟨_,_,wq.mono (by omega),?_⟩
  obtain ⟨a0,a1,a2,ha,a3,a4,a5,_⟩:=bg wn wd
  obtain ⟨b0,b1,b2,hb,b3,b4,b5,_⟩:=bg (bC b+y) (bC b).natAbs
  obtain ⟨c0,c1,c2,hcc,c3,c4,c5,_⟩:=bg fn fd
  obtain ⟨e0,e1,e2,he,e3,e4,e5,_⟩:=bg sn sd
  clear ww wf wg ws wq hw1 hw2
  generalize sn*CB fn fd=on at *
  generalize sd*fn.natAbs=od at *
  obtain ⟨o0,o1,o2,ho,o3,o4,o5,o6,o7,o8⟩:=bg on od
  unfold cO at *
  rw [ha] at hw hfr
  rw [hb] at hg hfr hwo
  rw [hcc] at hfr hsg hq
  rw [he] at hwo hq
  rw [ho] at hq ⊢
  obtain ⟨i,mt,fq,cc,rd',cnt,st,en,ex⟩:=b
  unfold aC ay at *
  simp only at *
  refine aj (PX ..) ?_
  simp [FY,hw,hg,hfr,hsg,hwo,hq,aS,a3,a4,a5,b3,b4,b5,c3,c4,c5,e3,e4,e5,o3,o4,o5,o6,o7,o8]
end Go.Ev.Code
end
