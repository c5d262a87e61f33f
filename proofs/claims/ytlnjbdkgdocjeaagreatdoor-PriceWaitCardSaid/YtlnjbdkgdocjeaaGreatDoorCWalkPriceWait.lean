/- A part of the proof of priceWait_card. -/
import Derived.Test.YtlnjbdkgdocjeaaGreatDoorCWalkAccrDay
set_option linter.unusedVariables false
set_option linter.unusedSimpArgs false
namespace Go.Ev.Code
open Go Go.Ev
theorem agF {b:ay} {s t:Int} (hs:(leftB b s).1=none) (ht:(leftB b t).1=none) (hp:bZ b t=bZ b s) (hst:s≤t) (h0:b_ b s≠0):pI b t≤pI b s:=by
 obtain ⟨hf0,hp0,_,_⟩:=vJ hs
 obtain ⟨_,_,d3,d4,d5,hmem⟩:=Fq hs
 obtain ⟨_,_,_,e4,e5,_⟩:=Fq ht
 rw [hp] at e4 e5
 have hf:=fV (bW (jO hp0)).2.1
 have m1:=WR hf0 hmem (x:=s) (y:=t) d4 hst (by omega)
 have m2:=WR hf0 hmem (x:=t) (y:=(bZ b s).2) e4 (by omega) (by omega)
 have hfn:0≤Rat.divInt b.bK 1:=by
  have := qP (a:=0) (b:=b.bK) (D:=1) (by omega) (by rcases hf with h | h | h | h <;> omega)
  rw [divInt_zero] at this
  exact this
 have hW0:0≤b_ b s:=Rat.le_trans m2.1 m2.2.1
 have hW:0<b_ b s:=Rat.lt_of_le_of_ne hW0 (fun h=>h0 h.symm)
 have hi:0≤(b_ b s)⁻¹:=Rat.le_of_lt (Rat.inv_pos.2 hW)
 have hww:b_ b t=b_ b s:=by unfold b_; rw [hp]
 have hP:ku b s≤ku b t:=by unfold ku; rw [hp]; exact m1.2.1
 have h1:ku b s*(b_ b s)⁻¹≤ku b t*(b_ b s)⁻¹:=Rat.mul_le_mul_of_nonneg_right hP hi
 have h2:1-ku b t*(b_ b s)⁻¹≤1-ku b s*(b_ b s)⁻¹:=by
  generalize ku b t*(b_ b s)⁻¹=x at *
  generalize ku b s*(b_ b s)⁻¹=y at *
  grind
 unfold pI
 rw [hp,hww,Rat.div_def,Rat.div_def]
 split
 ·exact h2
 ·exact Rat.mul_le_mul_of_nonneg_right (Rat.mul_le_mul_of_nonneg_right h2 hfn) hW0
theorem ano {b:ay} {s:Int} (hs:(leftB b s).1=none) (h0:s=(bZ b s).1) (hreg:regular b (bZ b s)=true):pI b s=1:=by
 obtain ⟨hf0,hp0,_,_⟩:=vJ hs
 obtain ⟨_,_,d3,d4,d5,hmem⟩:=Fq hs
 have hps:=adK hf0 hmem
 unfold pI ku
 rw [if_pos hreg]
 have : qI b (bZ b s) (bZ b s).1 s=0:=by
  have h:∀ u,u=(bZ b s).1→qI b (bZ b s) (bZ b s).1 u=0:=fun u hu=>by rw [hu]; exact hps
  exact h s h0
 rw [this,Rat.div_def,Rat.zero_mul]
 grind
theorem aru:Ce (1:Rat)=[49]:=by
 have h:=ars 1
 rw [show (((1:Nat):Int):Rat)=1 from rfl] at h
 rw [h]
 decide +kernel
theorem alS {q:Rat} (h:0≤q):¬ q.num.sign<0:=by
 have h1:0≤q.num:=Rat.num_nonneg.2 h
 rcases Int.lt_or_eq_of_le h1 with h2 | h2
 ·rw [Int.sign_eq_one_of_pos h2]; omega
 ·rw [← h2]; simp
theorem alp {q r:Rat} (h:q≤r):LQ q r≤0:=by
 unfold LQ
 by_cases h5:q<r
 ·rw [if_pos h5]; decide
 ·rw [if_neg h5,if_pos (Rat.le_antisymm h (Rat.not_lt.1 h5))]; decide
set_option maxHeartbeats 1000000 in
theorem ajq (hbeg:L.call kQ []=some (.bool true)) (b0:ay) (s:Int):L.call nR [aC b0,.int .i64 s]=some (.bool true):=by
 have hcut:=aiS b0
 have hlen:(Ov b0).bM.length≤1000∧(Ov b0).dh.length≤1000:=by unfold Ov; simp; omega
 generalize Ov b0=b at *
 obtain ⟨hc,hr⟩:=hlen
 have hbad:=ajz hc hr s
 cases hl:(leftB b s).1 with
 | some e =>
   have hne:=aot hl
   rw [hl] at hbad
   obtain ⟨ec,et⟩:=e
   simp only [GV] at hbad hne
   obtain ⟨i,mt,fq,c,rd',n,st,en,ex⟩:=b
   obtain ⟨i',mt',fq',c',rd'',n',st',en',ex'⟩:=b0
   unfold aC au at *
   simp only at *
   refine ak (r_ ..) ?_
   simp [eX,hbeg,hcut,hbad,hne]
 | none =>
   rw [hl] at hbad
   simp only [GV] at hbad
   obtain ⟨hf0,hp0,h1,h2⟩:=vJ hl
   have hchk:=jO hp0
   have hpl:=aoN hp0
   have hw:=(eF hp0).2
   obtain ⟨k,hk,hget,h3,h4⟩:=Vp hp0 h1 h2
   have hat:=ak4 (ps:=(aF b).2) (by have := hw.len; omega) s
   rw [hk] at hat
   have hg:=sO hget
   have hklt:k<(aF b).2.length:=(List.getElem?_eq_some_iff.1 hget).1
   obtain ⟨d1,d2,d3,_,_,hmem⟩:=Fq hl
   obtain ⟨z1,z2,z3⟩:=OB hp0 hmem (s:=(bZ b s).1) (Int.le_refl _) d3
   have hlz:=Wy hf0 z2 z3
   have hwz:=Na (by omega:b.bM.length≤1000000) (by omega) (bZ b s).1
   have hwa:=Na (by omega:b.bM.length≤1000000) (by omega) s
   have hrg:=Qi hchk (bZ b s)
   have hsame:=aiT (some (3,none)) 3
   have hW1:b_ b (bZ b s).1=b_ b s:=by
    show qI b (bZ b (bZ b s).1) (bZ b (bZ b s).1).1 (bZ b (bZ b s).1).2=b_ b s
    rw [z1]; rfl
   have e1:IntKind.i64.wrap (s+1)=s+1:=wrap64 _ (by omega)
   unfold ahH at hwz hwa
   rw [hlz] at hwz
   rw [hl] at hwa
   simp only at hwz hwa
   rw [hW1] at hwz
   simp only [xJ] at hsame
   by_cases h0:b_ b s=0
   ·rw [if_pos h0] at hwz hwa
    rw [show decide (GV (some (3,none))=3)=true from rfl] at hsame
    clear hw hget hk hmem hlz z1 z2 z3 hf0 hp0 hl hW1 hrg h0
    generalize bZ b s=p at *
    obtain ⟨p1,p2⟩:=p
    unfold cu at *
    simp only at *
    obtain ⟨g1,g2,g3,g4⟩:=hg
    generalize (aF b).2.length=N at *
    generalize aS (aF b).2=pc at *
    have hkI:(k:Int)<N:=by omega
    obtain ⟨i,mt,fq,c,rd',n,st,en,ex⟩:=b
    obtain ⟨i',mt',fq',c',rd'',n',st',en',ex'⟩:=b0
    unfold aC au at *
    simp only at *
    refine ak (r_ ..) ?_
    simp [eX,hbeg,hcut,hbad,hpl,hat,hklt,hkI,g1,g2,g3,g4,hwz,hwa,hsame,bC]
   ·rw [if_neg h0] at hwz hwa
    have h0z:b_ b (bZ b s).1≠0:=by rw [hW1]; exact h0
    have n1:=alS (aj0 hlz h0z).1
    have n2:=alS (aj0 hl h0).1
    have B1:=acF hlz h0z
    have B2:=acF hl h0
    have hcm:=Ib B2 B1 (by omega)
    have hcl:=alp (agF hlz hl (by rw [z1]) h3 h0z)
    have htx:regular b (bZ b s)=true→L.call oD [cO (pI b (bZ b s).1)]=some (.str [49]):=by
     intro h
     have := ano hlz (by rw [z1]) (by rw [z1]; exact h)
     rw [this,← aru]
     exact vV adI (by omega) (by omega)
    have hnext:s+1<(bZ b s).2→∃ c,L.call Hy [aC b,.int .i64 (s+1)]=some (.aH [cO c,.bH])∧∃ cm,L.call rE [cO c,cO (pI b s)]=some (.int .i64 cm)∧cm≤0:=by
     intro h
     obtain ⟨y1,y2,y3⟩:=OB hp0 hmem (s:=s+1) (by omega) h
     have hln:=Wy hf0 y2 y3
     have hW2:b_ b (s+1)=b_ b s:=by unfold b_; rw [y1]
     have h0n:b_ b (s+1)≠0:=by rw [hW2]; exact h0
     have hwn:=Na (by omega:b.bM.length≤1000000) (by omega) (s+1)
     unfold ahH at hwn
     rw [hln] at hwn
     simp only at hwn
     rw [if_neg h0n] at hwn
     exact ⟨_,hwn,_,Ib (acF hln h0n) B2 (by omega),alp (agF hl hln y1 (by omega) h0)⟩
    clear hw hget hk hmem hlz z1 z2 z3 hf0 hp0 hl hW1 h0 h0z B1 B2 hsame
    generalize LQ (pI b s) (pI b (bZ b s).1)=cm at *
    generalize pI b (bZ b s).1=vz at *
    generalize pI b s=va at *
    generalize regular b (bZ b s)=rg at *
    generalize bZ b s=p at *
    obtain ⟨p1,p2⟩:=p
    unfold cu at *
    unfold pD at hrg
    simp only at *
    obtain ⟨g1,g2,g3,g4⟩:=hg
    generalize (aF b).2.length=N at *
    generalize aS (aF b).2=pc at *
    have hkI:(k:Int)<N:=by omega
    have hcl':¬ 0<cm:=by omega
    obtain ⟨i,mt,fq,c,rd',n,st,en,ex⟩:=b
    obtain ⟨i',mt',fq',c',rd'',n',st',en',ex'⟩:=b0
    unfold aC au at *
    simp only at *
    refine ak (r_ ..) ?_
    by_cases hlast:p2≤s+1
    ·clear hnext
     cases rg with
     | true =>
       have htx:=htx rfl
       simp [eX,hbeg,hcut,hbad,hpl,hat,hklt,hkI,g1,g2,g3,g4,hwz,hwa,n1,n2,hcm,hcl',hrg,htx,e1,hlast,bC]
     | false=>simp [eX,hbeg,hcut,hbad,hpl,hat,hklt,hkI,g1,g2,g3,g4,hwz,hwa,n1,n2,hcm,hcl',hrg,e1,hlast,bC]
    ·obtain ⟨cv,j1,cm2,j2,j3⟩:=hnext (by omega)
     cases rg with
     | true =>
       have htx:=htx rfl
       simp [eX,hbeg,hcut,hbad,hpl,hat,hklt,hkI,g1,g2,g3,g4,hwz,hwa,n1,n2,hcm,hcl',hrg,htx,e1,hlast,j1,j2,j3,bC]
     | false=>simp [eX,hbeg,hcut,hbad,hpl,hat,hklt,hkI,g1,g2,g3,g4,hwz,hwa,n1,n2,hcm,hcl',hrg,e1,hlast,j1,j2,j3,bC]
end Go.Ev.Code
