/- A part of the proof of priceAll_card. -/
import Derived.Test.YtfkdcfbleblgoaaGreatDoorCXZ90
import Derived.Test.YtfkdcfbleblgoaaGreatDoorCXZ110
set_option linter.unusedVariables false
set_option linter.unusedSimpArgs false
section
namespace Go.Ev.Code
open Go Go.Ev
theorem avP {b:aA} {s y:Int} {e:Er} (h:jw b s y = .error e):gW e≠0:=by
 unfold jw at h
 split at h
 ·rename_i e' he
  have := Jw he
  simp at h
  subst h
  obtain ⟨c,t⟩:=e'
  exact this
 ·split at h
  ·simp at h; subst h; simp [gW]
  ·split at h
   ·simp at h; subst h; simp [gW]
   ·simp at h
theorem atD {b:aA} {s y:Int} {q:Rat} (h:jw b s y = .ok q):dF b s≠0:=by
 unfold jw at h
 split at h
 ·simp at h
 ·split at h
  ·simp at h
  ·split at h
   ·simp at h
   ·rename_i h3
    exact fun h4=>h3 (.inl h4)
set_option maxHeartbeats 1000000 in
theorem abl {b:aA} (hc:b.aY.length≤1000) (hr:b.bJ.length≤1000) (s y:Int) (cl:Bool) :
  (∀ e,jw b s y = .error e→L.call kX [aC b,.int .i64 s,.int .i64 y,.bool cl]=some (.aG [.agg qZ,.int .i64 (gW e)])) ∧
  (∀ q,jw b s y = .ok q→∃ n d,Wo 320000 n d (if cl=true then q-sS b s else q)∧L.call kX [aC b,.int .i64 s,.int .i64 y,.bool cl]=some (.aG [cO n d,.int .i64 0])):=by
 have hbad:=JH hc hr s
 have hy:=Uc y
 unfold jw
 cases hl:(leftB b s).1 with
 | some e =>
   have hne:=Jw hl
   rw [hl] at hbad
   simp only
   refine ⟨fun e' h=>?_,fun q h=>by simp at h⟩
   simp at h
   subst h
   obtain ⟨ec,et⟩:=e
   simp only [gW] at *
   unfold qZ
   obtain ⟨i,mt,fq,cc,rd',cnt,st,en,ex⟩:=b
   unfold aC ay at *
   simp only at *
   refine aj (iY ..) ?_
   simp [g_,hbad,hne,aS]
 | none =>
   rw [hl] at hbad
   simp only [gW] at hbad
   simp only
   by_cases hyr:y < -2000000∨100000000<y
   ·rw [if_pos hyr]
    have hyf:(decide (-2000000≤y) && decide (y≤100000000))=false:=by
     rcases hyr with h | h
     ·rw [decide_eq_false (by omega)]; rfl
     ·rw [show decide (y≤100000000)=false from decide_eq_false (by omega),Bool.and_false]
    rw [hyf] at hy
    refine ⟨fun e' h=>?_,fun q h=>by simp at h⟩
    simp at h
    subst h
    simp only [gW]
    unfold qZ at *
    obtain ⟨i,mt,fq,cc,rd',cnt,st,en,ex⟩:=b
    unfold aC ay at *
    simp only at *
    refine aj (iY ..) ?_
    simp [g_,hbad,hy,aS]
   ·rw [if_neg hyr]
    have h1 : -2000000≤y:=by omega
    have h2:y≤100000000:=by omega
    rw [decide_eq_true h1,decide_eq_true h2] at hy
    obtain ⟨hd1,hd2⟩:=adx hl hc hr h1 h2
    by_cases h0:dF b s=0
    ·rw [if_pos (.inl h0)]
     have hd:=hd1 h0
     refine ⟨fun e' h=>?_,fun q h=>by simp at h⟩
     simp at h
     subst h
     simp only [gW]
     unfold qZ at *
     clear hd1 hd2
     obtain ⟨i,mt,fq,cc,rd',cnt,st,en,ex⟩:=b
     unfold aC ay at *
     simp only at *
     refine aj (iY ..) ?_
     simp [g_,hbad,hy,hd,aS]
    ·have ha:=aaA hl h0 h1 h2
     rw [if_neg (by intro h; rcases h with h | h; exact h0 h; exact ha h)]
     obtain ⟨dn,dd,wd,hd⟩:=hd2 h0
     refine ⟨fun e' h=>by simp at h,fun q h=>?_⟩
     simp at h
     subst h
     cases cl with
     | true =>
       obtain ⟨an,ad,wa,hacc⟩:=OT hl hc
       have hdf:=yN wd.qb wa.qb (by omega)
       refine ⟨_,_,(wd.diff wa).mono (by omega),?_⟩
       clear wd wa hd1 hd2 ha h0
       generalize dn*(ad:Int)-an*(dd:Int)=on at *
       generalize dd*ad=od at *
       obtain ⟨a0,a1,a2,ha,a3,a4,a5,_⟩:=bg dn dd
       obtain ⟨b0,b1,b2,hb,b3,b4,b5,_⟩:=bg an ad
       obtain ⟨o0,o1,o2,ho,o3,o4,o5,o6,o7,o8⟩:=bg on od
       unfold cO at *
       rw [ha] at hd hdf
       rw [hb] at hacc hdf
       rw [ho] at hdf ⊢
       obtain ⟨i,mt,fq,cc,rd',cnt,st,en,ex⟩:=b
       unfold aC ay at *
       simp only at *
       refine aj (iY ..) ?_
       simp [g_,hbad,hy,hd,hacc,hdf,aS,a3,a4,a5,b3,b4,b5,o3,o4,o5,o6,o7,o8]
     | false =>
       refine ⟨_,_,wd.mono (by omega),?_⟩
       clear wd hd1 hd2 ha h0
       obtain ⟨a0,a1,a2,ha,a3,a4,a5,a6,a7,a8⟩:=bg dn dd
       unfold cO at *
       rw [ha] at hd ⊢
       obtain ⟨i,mt,fq,cc,rd',cnt,st,en,ex⟩:=b
       unfold aC ay at *
       simp only at *
       refine aj (iY ..) ?_
       simp [g_,hbad,hy,hd,aS,a3,a4,a5,a6,a7,a8]
def txE (r:Except Er Rat) (k:Nat) (md:Int):D:=match r with
 | .error e => .aG [.str [],fD e]
 | .ok q => .aG [.str (acw q k md),.bQ]
theorem apG {b:aA} (hc:b.aY.length≤1000000) (hr:b.bJ.length≤1000000) (s:Int) {y:Int} (hy : -9223372036854775808≤y∧y≤9223372036854775807) {k:Nat} (hk:k≤20) {md:Int} (hm:md=1∨md=2∨md=3) :
  L.call XY [aC b,.int .i64 s,.int .i64 y,.int .i64 k,.int .i64 md]=some (txE (sD b s y) k md):=by
 obtain ⟨hp,hRB⟩:=Lr hc hr s hy
 cases he:sD b s y with
 | error e =>
   rw [he] at hp
   have hne:e≠none:=by
    unfold sD at he
    split at he
    ·rename_i e' h'
     simp at he
     subst he
     exact abJ h'
    ·simp at he
   obtain ⟨i,m,fq,c,rd,n,st,en,ex⟩:=b
   unfold aC ay at *
   simp only [txE,DX] at *
   rcases e with _ | ⟨c,_ | t⟩
   ·exact absurd rfl hne
   ·simp only [fD] at *
    refine aj (Yu ..) ?_
    simp [RN,hp]
   ·simp only [fD,eY] at *
    refine aj (Yu ..) ?_
    simp [RN,hp]
 | ok q =>
   rw [he] at hp
   have hR:=agE (hRB q he) (by omega) (by omega) hk hm
   simp only [txE,DX] at *
   generalize acw q k md=t at *
   obtain ⟨i,m,fq,c,rd,n,st,en,ex⟩:=b
   unfold aC ay at *
   simp only at *
   refine aj (Yu ..) ?_
   simp [RN,hp,hR]
end Go.Ev.Code
end
section
namespace Go.Ev.Code
open Go Go.Ev
set_option maxHeartbeats 2000000 in
theorem aug (hbeg:L.call iq []=some (.bool true)) (b0:aA) (s:Int) {y:Int} (hy : -9223372036854775808≤y∧y≤9223372036854775807) (n2 n3:Int):L.call vw [aC b0,.int .i64 s,.int .i64 y,.int .i64 n2,.int .i64 n3]=some (.bool true):=by
 have hcut:=QG b0
 have hlen:(nG b0).aY.length≤1000∧(nG b0).bJ.length≤1000:=by unfold nG; simp; omega
 generalize nG b0=b at *
 obtain ⟨hc,hr⟩:=hlen
 have q1:=JY (n:=n2) (k:=21) (by omega) (by omega)
 have q2:=JY (n:=n3) (k:=3) (by omega) (by omega)
 obtain ⟨k,hk⟩:∃ k:Nat,(k:Int)=n2 % 21:=⟨(n2 % 21).toNat,by omega⟩
 obtain ⟨md,hmd⟩:∃ md:Int,md=1+n3 % 3:=⟨_,rfl⟩
 have hm:md=1∨md=2∨md=3:=by omega
 have hk2:k≤20:=by omega
 have e1:IntKind.i64.wrap (1+n3 % 3)=md:=by rw [wrap64 _ (by omega)]; omega
 rw [← hk] at q1
 obtain ⟨hd,hdB⟩:=yc (by omega:b.aY.length≤1000000) (by omega) s hy
 obtain ⟨hcl,hcB⟩:=Lr (by omega:b.aY.length≤1000000) (by omega) s hy
 have ht:=apG (by omega:b.aY.length≤1000000) (by omega) s hy hk2 hm
 have hw:=afs (by omega:b.aY.length≤1000000) (by omega) s
 obtain ⟨hp1,hp2⟩:=abl hc hr s y false
 obtain ⟨hp3,hp4⟩:=abl hc hr s y true
 unfold sD at hcl hcB ht
 cases he:jw b s y with
 | error e =>
   have hne:=avP he
   have hns:=abJ he
   rw [he] at hd hcl ht
   have hp:=hp1 e he
   have hsm:=uy e (gW e)
   rw [decide_eq_true rfl] at hsm
   clear hk hmd hp1 hp2 hp3 hp4 hdB hcB hw
   unfold qZ at hp
   generalize gW e=ce at *
   obtain ⟨i,mt,fq,c,rd',n,st,en,ex⟩:=b
   obtain ⟨i',mt',fq',c',rd'',n',st',en',ex'⟩:=b0
   unfold aC ay at *
   simp only [txE,DX] at *
   rcases e with _ | ⟨ec,_ | t⟩
   ·exact absurd rfl hns
   ·simp only [fD] at *
    refine aj (zk ..) ?_
    simp [rQ,hbeg,hcut,hne,q1,q2,e1,hd,hcl,ht,hp,hsm,aS]
   ·simp only [fD,eY] at *
    refine aj (zk ..) ?_
    simp [rQ,hbeg,hcut,hne,q1,q2,e1,hd,hcl,ht,hp,hsm,aS]
 | ok q =>
   have hl:=ai2 he
   have h0:=atD he
   rw [he] at hd hcl ht hcB
   obtain ⟨dn,dd,wd,hpd⟩:=hp2 q he
   obtain ⟨cn,cd,wc,hpc⟩:=hp4 q he
   simp only [Bool.false_eq_true,if_false,if_true] at wd wc
   obtain ⟨wn,wdd,ww,hrw⟩:=(afu hl hc).1 h0
   have t1:=lG (hdB q he) (by omega) (by omega)
   have t2:=lG (hcB _ rfl) (by omega) (by omega)
   have t3:=lG (asV hl h0) (by omega) (by omega)
   have u1:=yO wd (by omega)
   have u2:=yO wc (by omega)
   have u3:=yO ww (by omega)
   have u4:=afw wc (by omega) hk2 md
   unfold ap5 at hw
   rw [hl] at hw
   simp only at hw
   rw [if_neg h0] at hw
   clear hk hmd hp1 hp2 hp3 hp4 hdB hcB wd wc ww hl h0 he
   simp only [txE,DX] at *
   generalize q-sS b s=qc at *
   generalize acw qc k md=tr at *
   generalize pI q=s1 at *
   generalize pI qc=s2 at *
   generalize pI (dB b s)=s3 at *
   generalize dB b s=wv at *
   obtain ⟨a0,a1,a2,ha,a3,a4,a5,_⟩:=bg dn dd
   obtain ⟨b0',b1,b2,hb,b3,b4,b5,_⟩:=bg cn cd
   obtain ⟨c0,c1,c2,hcc,c3,c4,c5,_⟩:=bg wn wdd
   unfold cO at hpd hpc hrw u1 u2 u3 u4
   rw [ha] at hpd u1
   rw [hb] at hpc u2 u4
   rw [hcc] at hrw u3
   obtain ⟨i,mt,fq,c,rd',n,st,en,ex⟩:=b
   obtain ⟨i',mt',fq',c',rd'',n',st',en',ex'⟩:=b0
   unfold aC ay at *
   simp only at *
   refine aj (zk ..) ?_
   simp [rQ,hbeg,hcut,q1,q2,e1,hd,hcl,ht,hpd,hpc,hw,hrw,t1,t2,t3,u1,u2,u3,u4,a3,a4,a5,b3,b4,b5,c3,c4,c5,aS]
end Go.Ev.Code
end
section
namespace Go.Ev.Code
open Go Go.Ev
theorem aEj {n:Int} (h:IntKind.i64.has n) : -9223372036854775808≤n∧n≤9223372036854775807:=by
 simp [IntKind.has,IntKind.min,IntKind.max,IntKind.signed,IntKind.bits] at h
 omega
end Go.Ev.Code
end
