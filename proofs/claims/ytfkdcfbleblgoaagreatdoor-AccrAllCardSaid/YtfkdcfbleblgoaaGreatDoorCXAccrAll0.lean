/- A part of the proof of accrAll_card. -/
import Derived.Test.YtfkdcfbleblgoaaGreatDoorCXZ90
set_option linter.unusedVariables false
set_option linter.unusedSimpArgs false
section
namespace Go.Ev.Code
open Go Go.Ev
def txD (e:Er) (q:Rat) (k:Nat) (md:Int):D:=match e with
 | some e => .aG [.str [],fD (some e)]
 | none => .aG [.str (acw q k md),.bQ]
theorem aqm {b:aA} (hc:b.aY.length≤1000000) (hr:b.bJ.length≤1000000) (s:Int) {k:Nat} (hk:k≤20) {md:Int} (hm:md=1∨md=2∨md=3) :
  L.call aay [aC b,.int .i64 s,.int .i64 k,.int .i64 md]=some (txD (leftB b s).1 (sS b s) k md):=by
 obtain ⟨ha,hRB⟩:=ad3 hc hr s
 unfold aqk at ha
 cases he:(leftB b s).1 with
 | some e =>
   rw [he] at ha
   obtain ⟨i,m,fq,c,rd,n,st,en,ex⟩:=b
   unfold aC ay at *
   simp only [txD] at *
   rcases e with ⟨c,_ | t⟩
   ·simp only [fD] at *
    refine aj (abz ..) ?_
    simp [U6,ha]
   ·simp only [fD,eY] at *
    refine aj (abz ..) ?_
    simp [U6,ha]
 | none =>
   rw [he] at ha
   have hR:=agE (hRB he) (by omega) (by omega) hk hm
   simp only [txD] at *
   generalize acw (sS b s) k md=t at *
   generalize sS b s=v at *
   obtain ⟨i,m,fq,c,rd,n,st,en,ex⟩:=b
   unfold aC ay at *
   simp only at *
   refine aj (abz ..) ?_
   simp [U6,ha,hR]
end Go.Ev.Code
end
section
namespace Go.Ev.Code
open Go Go.Ev
set_option maxHeartbeats 1000000 in
theorem avD (hbeg:L.call iq []=some (.bool true)) (b0:aA) (s n2 n3:Int):L.call wZ [aC b0,.int .i64 s,.int .i64 n2,.int .i64 n3]=some (.bool true):=by
 have hcut:=QG b0
 have hlen:(nG b0).aY.length≤1000∧(nG b0).bJ.length≤1000:=by unfold nG; simp; omega
 generalize nG b0=b at *
 obtain ⟨hc,hr⟩:=hlen
 have hbad:=JH hc hr s
 have q1:=JY (n:=n2) (k:=21) (by omega) (by omega)
 have q2:=JY (n:=n3) (k:=3) (by omega) (by omega)
 obtain ⟨k,hk⟩:∃ k:Nat,(k:Int)=n2 % 21:=⟨(n2 % 21).toNat,by omega⟩
 obtain ⟨md,hmd⟩:∃ md:Int,md=1+n3 % 3:=⟨_,rfl⟩
 have hm:md=1∨md=2∨md=3:=by omega
 have hk2:k≤20:=by omega
 have e1:IntKind.i64.wrap (1+n3 % 3)=md:=by rw [wrap64 _ (by omega)]; omega
 rw [← hk] at q1
 have hx:=ad2 (by omega:b.aY.length≤1000000) (by omega) s
 obtain ⟨ha,hRB⟩:=ad3 (by omega:b.aY.length≤1000000) (by omega) s
 have ht:=aqm (by omega:b.aY.length≤1000000) (by omega) s hk2 hm
 unfold aqk at ha
 unfold exD at hx
 cases hl:(leftB b s).1 with
 | some e =>
   have hne:=Jw hl
   rw [hl] at hbad ha hx ht
   have hsm:=uy (some e) (gW (some e))
   rw [decide_eq_true rfl] at hsm
   obtain ⟨ec,et⟩:=e
   clear hk hmd
   obtain ⟨i,mt,fq,c,rd',n,st,en,ex⟩:=b
   obtain ⟨i',mt',fq',c',rd'',n',st',en',ex'⟩:=b0
   unfold aC ay at *
   simp only [txD,gW] at *
   rcases et with _ | t
   ·simp only [fD] at *
    refine aj (Bj ..) ?_
    simp [uo,hbeg,hcut,hbad,hne,q1,q2,e1,ha,hx,ht,hsm,aS]
   ·simp only [fD,eY] at *
    refine aj (Bj ..) ?_
    simp [uo,hbeg,hcut,hbad,hne,q1,q2,e1,ha,hx,ht,hsm,aS]
 | none =>
   rw [hl] at hbad ha hx ht
   have hRB':=hRB hl
   have hex:=U1 hl
   obtain ⟨pn,pd,wp,hac⟩:=OT hl hc
   have t1:=lG hRB' (by omega) (by omega)
   have t2:=yO wp (by omega)
   have t3:=afw wp (by omega) hk2 md
   clear hk hmd hRB hRB' wp hl
   simp only [txD,gW] at *
   generalize acw (sS b s) k md=tr at *
   generalize pI (sS b s)=tq at *
   generalize sS b s=v at *
   generalize O7 b s=xb at *
   obtain ⟨c0,c1,c2,hcc,c3,c4,c5,_⟩:=bg pn pd
   unfold cO at hac t2 t3
   rw [hcc] at hac t2 t3
   obtain ⟨i,mt,fq,c,rd',n,st,en,ex⟩:=b
   obtain ⟨i',mt',fq',c',rd'',n',st',en',ex'⟩:=b0
   unfold aC ay at *
   simp only at *
   refine aj (Bj ..) ?_
   simp [uo,hbeg,hcut,hbad,q1,q2,e1,ha,hx,ht,hex,hac,t1,t2,t3,c3,c4,c5,aS]
end Go.Ev.Code
end
