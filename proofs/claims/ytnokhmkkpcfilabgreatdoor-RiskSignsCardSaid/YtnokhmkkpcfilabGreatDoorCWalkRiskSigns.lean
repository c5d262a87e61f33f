/- A part of the proof of priceFalls_card, riskSigns_card, yieldBack_card, yieldEdge_card, yieldFalls_card. -/
import Derived.Test.YtnokhmkkpcfilabGreatDoorCSpD6
import Derived.Test.YtnokhmkkpcfilabGreatDoorCWalkPriceFalls
set_option linter.unusedVariables false
set_option linter.unusedSimpArgs false
namespace Go.Ev.Code
open Go Go.Ev
theorem ah_ {A:Nat} {l:List Rat} (h:∀ r∈l,0≤r):∀ a∈bD A l,0≤a:=by
 intro a ha
 unfold bD at ha
 obtain ⟨r,hr,rfl⟩:=List.mem_map.1 ha
 exact Int.mul_nonneg (qO.2 (h r hr)) (Int.natCast_nonneg _)
theorem aeH {n d:Int} (hn:0≤n) (hd:0≤d):∀ {l:List Int},(∀ a∈l,0≤a)→0≤(hs n d l).1∧0≤(hs n d l).2∧0≤lt n d l
 | [],_=>by simp [hs,lt]
 | a::t,h=>by
   obtain ⟨h1,h2,h3⟩:=aeH hn hd (l:=t) (fun x hx=>h x (by simp [hx]))
   have ha:=h a (by simp)
   simp only [hs,lt]
   exact ⟨Int.add_nonneg (Int.mul_nonneg h1 hd) (Int.mul_nonneg ha h2),Int.mul_nonneg h2 hn,Int.mul_nonneg (Int.add_nonneg h3 h1) hd⟩
theorem ajw {b:aO} {s y:Int} (h:(leftB b s).1=none) (h0:fQ b s≠0) (h1 : -2000000≤y) (h2:y≤100000000):0≤KC b s y:=by
 have hf:=fU (dK (fG (gY h).2.1)).2.1
 obtain ⟨_,_,_,g0,n0⟩:=D8 hf (y:=y) h1 h2
 obtain ⟨w0,_⟩:=QO h h0
 obtain ⟨p1,p2,p3⟩:=aeH (n:=bK b+y) (d:=bK b) (by omega) (by omega) (ah_ (A:=dJ 1 (dG b s)) (Lr h))
 unfold KC Md Uk
 exact Rat.mul_nonneg (Rat.add_nonneg (Rat.divInt_nonneg p3 p1) w0) (abU hf)
theorem aiy (hbeg:L.call dO []=some (.bool true)) (b0:aO) (s y:Int):L.call jr [aS b0,.int .i64 s,.int .i64 y]=some (.bool true):=by
 have hcut:=CV b0
 obtain ⟨hc,hr⟩:=UG b0
 generalize AY b0=b at *
 have g1:=He y
 have y1:=VF y
 have ey:y % 102000001-2000000=D7 y:=rfl
 rw [ey] at g1
 generalize D7 y=Y at *
 have hm:=(aa5 hc hr s (y:=Y) (by omega)).1
 have hv:=alZ hc hr s Y
 have hx:=adS hc hr s Y
 cases he:adv b s Y with
 | error e =>
   have hne:e≠none:=by
    unfold adv at he
    cases hd:kV b s Y with
    | error e'=>rw [hd] at he; simp only at he; rw [← Except.error.inj he]; exact TM hd
    | ok q =>
      rw [hd] at he
      simp only at he
      split at he
      ·rw [← Except.error.inj he]; simp
      ·simp at he
   rw [he] at hm
   simp only [lY] at hm
   have hvd:∃ d,lY (dvE b s Y) = .aZ d∧∃ u v,d=[u,v]:=by
    cases dvE b s Y with
    | ok q=>exact ⟨_,rfl,_,_,rfl⟩
    | error e=>exact ⟨_,rfl,_,_,rfl⟩
   have hxd:∃ d,lY (Y1 b s Y) = .aZ d∧∃ u v,d=[u,v]:=by
    cases Y1 b s Y with
    | ok q=>exact ⟨_,rfl,_,_,rfl⟩
    | error e=>exact ⟨_,rfl,_,_,rfl⟩
   obtain ⟨_,hv2,u1,v1,rfl⟩:=hvd
   obtain ⟨_,hx2,u2,v2,rfl⟩:=hxd
   rw [hv2] at hv
   rw [hx2] at hx
   clear hv2 hx2
   obtain ⟨i,mt,fq,c,rd',n,st,en,ex⟩:=b
   obtain ⟨i',mt',fq',c',rd'',n',st',en',ex'⟩:=b0
   unfold aS aN at *
   simp only at *
   refine aJ vw rfl (u_ ..) ?_
   rcases e with _ | ⟨c,_ | t⟩
   ·exact absurd rfl hne
   ·simp only [dS] at *
    simp [jM,hbeg,hcut,g1,hm,hv,hx]
   ·simp only [dS,eH] at *
    simp [jM,hbeg,hcut,g1,hm,hv,hx]
 | ok dq =>
   have hdq:∃ q,kV b s Y = .ok q∧dq=KC b s Y:=by
    unfold adv at he
    cases hd:kV b s Y with
    | error e'=>rw [hd] at he; simp at he
    | ok q =>
      rw [hd] at he
      simp only at he
      split at he
      ·simp at he
      ·exact ⟨q,rfl,(Except.ok.inj he).symm⟩
   obtain ⟨q,hq,rfl⟩:=hdq
   obtain ⟨hl,h0,k1,k2,_⟩:=aes hq
   rw [he] at hm
   simp only [lY] at hm
   have hnn:=ajw hl h0 k1 k2
   have hsg:¬ (KC b s Y).num.sign<0:=by
    have := qO.2 hnn
    rw [sign_neg]; omega
   have hsgn:¬ (KC b s Y).num<0:=by have := qO.2 hnn; omega
   have hsign:=Bd (KC b s Y)
   rcases NC b s Y hc hr with ⟨e,hne,h⟩ | ⟨_,_,j1,j2,h,b0',b1',b2'⟩
   ·unfold dvE at hv
    unfold Y1 at hx
    rw [h] at hv hx
    simp only [lY] at hv hx
    generalize (KC b s Y).num.sign=sg at *
    generalize KC b s Y=dv at *
    obtain ⟨i,mt,fq,c,rd',n,st,en,ex⟩:=b
    obtain ⟨i',mt',fq',c',rd'',n',st',en',ex'⟩:=b0
    unfold aS aN at *
    simp only at *
    refine aJ vw rfl (u_ ..) ?_
    rcases e with _ | ⟨c,_ | t⟩
    ·exact absurd rfl hne
    ·simp only [dS] at *
     simp [jM,hbeg,hcut,g1,hm,hv,hx,hsign,hsg]
    ·simp only [dS,eH] at *
     simp [jM,hbeg,hcut,g1,hm,hv,hx,hsign,hsg]
   ·have hpos:=am6 hl h0 k1 k2
    have ht:=am7 hl h0 j1 j2
    have hnz:¬ bn b s Y=0:=fun h=>by rw [h] at hpos; exact Rat.lt_irrefl hpos
    unfold dvE at hv
    unfold Y1 at hx
    rw [h] at hv hx
    simp only at hv hx
    rw [if_neg hnz] at hx
    simp only [lY] at hv hx
    obtain ⟨t1,t2,t3,t4⟩:=ht
    have half:0≤Rat.divInt 1 2:=by decide +kernel
    have big:0≤Rat.divInt 100000000 1:=by decide +kernel
    have two:Rat.divInt 2 1=2:=by decide +kernel
    have nv:0≤(bn b s (Y-10000)-bn b s (Y+10000))*Rat.divInt 1 2:=Rat.mul_nonneg (by grind) half
    have nx:0≤(bn b s (Y-10000)+bn b s (Y+10000)-bn b s Y*Rat.divInt 2 1) / bn b s Y*Rat.divInt 100000000 1:=by
     refine Rat.mul_nonneg ?_ big
     rw [Rat.div_def,two]
     exact Rat.mul_nonneg (by grind) (Rat.le_of_lt (Rat.inv_pos.2 hpos))
    generalize (bn b s (Y-10000)-bn b s (Y+10000))*Rat.divInt 1 2=rv at *
    generalize (bn b s (Y-10000)+bn b s (Y+10000)-bn b s Y*Rat.divInt 2 1) / bn b s Y*Rat.divInt 100000000 1=rx at *
    have sv:=Bd rv
    have sx:=Bd rx
    have sv0:0≤rv.num.sign:=by have := qO.2 nv; rw [Bl]; exact this
    have sx0:0≤rx.num.sign:=by have := qO.2 nx; rw [Bl]; exact this
    clear nv nx t1 t2 t3 t4 h hnz hpos
    generalize rv.num.sign=s1 at *
    generalize rx.num.sign=s2 at *
    generalize (KC b s Y).num.sign=sg at *
    generalize KC b s Y=dv at *
    obtain ⟨i,mt,fq,c,rd',n,st,en,ex⟩:=b
    obtain ⟨i',mt',fq',c',rd'',n',st',en',ex'⟩:=b0
    unfold aS aN at *
    simp only at *
    refine aJ vw rfl (u_ ..) ?_
    simp [jM,hbeg,hcut,g1,hm,hv,hx,hsign,hsg,sv,sx,sv0,sx0]
end Go.Ev.Code
