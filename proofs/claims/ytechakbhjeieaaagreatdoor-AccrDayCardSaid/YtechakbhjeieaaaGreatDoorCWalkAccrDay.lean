/- Part of accrDay_card. -/
import Derived.Test.YtechakbhjeieaaaGreatDoorCWalkPriceFalls
import Derived.Test.YtechakbhjeieaaaGreatDoorCSpD7
set_option linter.unusedVariables false
set_option linter.unusedSimpArgs false
namespace Go.Ev.Code
open Go Go.Ev
theorem apv {b:aQ} {s:Int} {e:Int×Option (List UInt8)} (h:(leftB b s).1=some e):e.1≠0:=by
 unfold leftB at h
 split at h
 ·rename_i e' h'
  simp at h
  subst h
  unfold dP at h'
  split at h'
  ·rename_i e2 h2
   obtain ⟨c,t⟩:=e2
   simp [anh] at h'
   rw [← h']
   simp only
   cases hchk:chk b with
   | some ct =>
     obtain ⟨c2,t2⟩:=ct
     have := aiX hchk
     unfold aZ at h2
     rw [hchk] at h2
     simp at h2
     rw [← h2.1]; exact this
   | none =>
     have := agu hchk h2
     simp only at this
     omega
  ·split at h'
   ·simp at h'
   ·split at h'
    ·rename_i c hc
     simp at h'
     rw [← h']
     simp only
     unfold sD at hc
     split at hc
     ·simp at hc
     ·split at hc
      ·simp at hc
      ·rename_i c2 hc2
       simp at hc
       subst hc
       unfold nY at hc2
       split at hc2
       ·split at hc2
        ·simp at hc2; omega
        ·split at hc2
         ·simp at hc2; omega
         ·simp at hc2
       ·split at hc2
        ·simp at hc2; omega
        ·simp at hc2
    ·simp at h'
 ·split at h
  ·simp at h
   rw [← h]
   simp
  ·simp at h
theorem apk {b:aQ} (h:(dP b).1=none) {p:Int×Int} (hp:p∈(aZ b).2):yT b p p.1=0:=by
 unfold yT
 split
 ·rw [Int.sub_self,divInt_zero,Rat.mul_zero]
 ·rw [ad2 h hp,Rat.mul_zero]
theorem apj {b:aQ} (h:(dP b).1=none) {p:Int×Int} (hp:p∈(aZ b).2) {s t:Int} (h1:p.1≤s) (h2:s≤t) (h3:t≤p.2):yT b p s≤yT b p t:=by
 obtain ⟨_,_,d3⟩:=kC (tq h).1 hp
 unfold yT
 split
 ·exact Rat.mul_le_mul_of_nonneg_left (xk (by omega) (by omega)) (alH h hp)
 ·exact Rat.mul_le_mul_of_nonneg_left (ad1 h hp h1 h2 h3).2.1 (Xk b)
set_option maxHeartbeats 1000000 in
theorem am4 (hbeg:L.call kD []=some (.bool true)) (b0:aQ) (s:Int):L.call kN [aX b0,.int .i64 s]=some (.bool true):=by
 have hcut:=ajw b0
 have hlen:(Qp b0).dH.length≤1000∧(Qp b0).dM.length≤1000:=by unfold Qp; simp; omega
 generalize Qp b0=b at *
 obtain ⟨hc,hr⟩:=hlen
 have hbad:=aj' hc hr s
 cases hl:(leftB b s).1 with
 | some e =>
   have hne:=apv hl
   rw [hl] at hbad
   obtain ⟨ec,et⟩:=e
   simp only [Xj] at hbad hne
   obtain ⟨i,mt,fq,c,rd',n,st,en,ex⟩:=b
   obtain ⟨i',mt',fq',c',rd'',n',st',en',ex'⟩:=b0
   unfold aX aO at *
   simp only at *
   refine aN Hr rfl (Hl ..) ?_
   simp [iH,hbeg,hcut,hbad,hne]
 | none =>
   rw [hl] at hbad
   simp only [Xj] at hbad
   obtain ⟨hf0,hp0,h1,h2⟩:=Jm hl
   have hpl:=agt hp0
   have hw:=(iD hp0).2
   obtain ⟨k,hk,hget,h3,h4⟩:=Qx hp0 h1 h2
   have hat:=abO (ps:=(aZ b).2) (by have := hw.len; omega) s
   rw [hk] at hat
   have hg:=vO hget
   have hklt:k<(aZ b).2.length:=(List.getElem?_eq_some_iff.1 hget).1
   obtain ⟨d1,d2,d3,_,_,hmem⟩:=RH hl
   obtain ⟨z1,z2,z3⟩:=Qw hp0 hmem (s:=(iZ b s).1) (Int.le_refl _) d3
   have hlz:=Xt hf0 z2 z3
   have hz:=Zk hlz (by omega:b.dH.length≤1000000) (by omega)
   have ha:=Zk hl (by omega:b.dH.length≤1000000) (by omega)
   have hex1:=Vu hlz
   have hex2:=Vu hl
   have hz0:Ox b (iZ b s).1=false→(B_ b (iZ b s).1).num.sign=0:=by
    intro h
    unfold B_
    rw [h,z1,apk hf0 hmem]
    rfl
   have e1:IntKind.i64.wrap (s+1)=s+1:=wrap64 _ (by omega)
   have hnext:s+1<(iZ b s).2→∃ c,L.call yZ [aX b,.int .i64 (s+1)]=some (.bg [dV c,.aK])∧L.call jZ [aX b,.int .i64 (s+1)]=some (.bool (Ox b (s+1))) ∧
     ∃ cm,L.call lC [dV (B_ b s),dV c]=some (.int .i64 cm)∧(Ox b s=Ox b (s+1)→cm≤0):=by
    intro h
    obtain ⟨y1,y2,y3⟩:=Qw hp0 hmem (s:=s+1) (by omega) h
    have hln:=Xt hf0 y2 y3
    refine ⟨_,Zk hln (by omega:b.dH.length≤1000000) (by omega),Vu hln,_,Ql (al1 hl) (al1 hln) (by omega),fun hx=>?_⟩
    have hle:B_ b s≤B_ b (s+1):=by
     have hm:=apj hf0 hmem (s:=s) (t:=s+1) h3 (by omega) (by omega)
     unfold B_
     rw [← hx,y1]
     split
     ·generalize yT b (iZ b s) s=x at *
      generalize yT b (iZ b s) (s+1)=y at *
      generalize XF b (iZ b s)=v at *
      grind
     ·exact hm
    unfold Ve
    by_cases h5:B_ b s<B_ b (s+1)
    ·rw [if_pos h5]; decide
    ·rw [if_neg h5,if_pos (Rat.le_antisymm hle (Rat.not_lt.1 h5))]; decide
   clear hw hget hk hmem hlz z1 z2 z3 hf0 hp0 hl
   generalize B_ b (iZ b s).1=vz at *
   generalize B_ b s=va at *
   generalize Ox b (iZ b s).1=xz at *
   generalize Ox b s=xa at *
   generalize Ox b (s+1)=xc at *
   generalize iZ b s=p at *
   obtain ⟨p1,p2⟩:=p
   unfold eu at *
   simp only at *
   obtain ⟨g1,g2,g3,g4⟩:=hg
   generalize (aZ b).2.length=N at *
   generalize bI (aZ b).2=pc at *
   have hkI:(k:Int)<N:=by omega
   have hzz:xz=true∨(xz=false∧vz.num.sign=0):=by
    cases xz with
    | true=>exact .inl rfl
    | false=>exact .inr ⟨rfl,hz0 rfl⟩
   clear hz0
   obtain ⟨i,mt,fq,c,rd',n,st,en,ex⟩:=b
   obtain ⟨i',mt',fq',c',rd'',n',st',en',ex'⟩:=b0
   unfold aX aO at *
   simp only at *
   refine aN Hr rfl (Hl ..) ?_
   by_cases hlast:p2≤s+1
   ·clear hnext
    rcases hzz with rfl | ⟨rfl,hzs⟩
    ·simp [iH,hbeg,hcut,hbad,hpl,hat,hklt,hkI,g1,g2,g3,g4,hz,ha,hex1,hex2,e1,hlast,cu]
    ·simp [iH,hbeg,hcut,hbad,hpl,hat,hklt,hkI,g1,g2,g3,g4,hz,ha,hex1,hex2,e1,hlast,hzs,cu]
   ·obtain ⟨cv,n1,n2,cm,n3,n4⟩:=hnext (by omega)
    by_cases hx:xa=xc
    ·have hcm:=n4 hx
     subst hx
     rcases hzz with rfl | ⟨rfl,hzs⟩
     ·simp [iH,hbeg,hcut,hbad,hpl,hat,hklt,hkI,g1,g2,g3,g4,hz,ha,hex1,hex2,e1,hlast,n1,n2,n3,hcm,cu]
     ·simp [iH,hbeg,hcut,hbad,hpl,hat,hklt,hkI,g1,g2,g3,g4,hz,ha,hex1,hex2,e1,hlast,hzs,n1,n2,n3,hcm,cu]
    ·have hx2:(xa==xc)=false:=by cases xa <;> cases xc <;> simp_all
     rcases hzz with rfl | ⟨rfl,hzs⟩
     ·simp [iH,hbeg,hcut,hbad,hpl,hat,hklt,hkI,g1,g2,g3,g4,hz,ha,hex1,hex2,e1,hlast,n1,n2,n3,hx,hx2,cu]
     ·simp [iH,hbeg,hcut,hbad,hpl,hat,hklt,hkI,g1,g2,g3,g4,hz,ha,hex1,hex2,e1,hlast,hzs,n1,n2,n3,hx,hx2,cu]
end Go.Ev.Code
