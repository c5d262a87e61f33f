/- A part of the proof of flowAll_card, yieldAll_card. -/
import Derived.Test.YtfkdcfbleblgoaaGreatDoorCXZ70
set_option linter.unusedVariables false
set_option linter.unusedSimpArgs false
namespace Go.Ev.Code
open Go Go.Ev
theorem alY (each red:Rat):∀ {l:List (Int×Int)} {i:Nat} {p:Int×Int},l[i]?=some p→(fK each red l)[i]?=some (p.2,if i+1=l.length then each+red else each)
 | [],i,p,h=>by simp at h
 | [x],0,p,h=>by simp at h; subst h; simp [fK]
 | [x],i+1,p,h=>by simp at h
 | x::y::r,0,p,h=>by simp at h; subst h; simp [fK]
 | x::y::r,i+1,p,h=>by
   have := alY each red (l:=y::r) (i:=i) (p:=p) (by simpa using h)
   simp only [fK,List.getElem?_cons_succ,List.length_cons] at this ⊢
   rw [this]
   congr 2
   simp
theorem aaT {b:aA} (h:(aW b).1=none) {i:Nat} {p:Int×Int} (hp:(aF b).2[i]?=some p):(aW b).2[i]?=some (p.2,if i+1=(aF b).2.length then qg b p+fJ b else qg b p):=by
 obtain ⟨h0,p0,r,q,hps,hq,hfl⟩:=gY h
 have hw:=(dP h0).2
 cases i with
 | zero =>
   rw [hps] at hp
   have hp:p0=p:=by simpa using hp
   subst hp
   rw [hfl,hps,Pj hq]
   match r with
   | []=>simp [kE]
   | y::r=>simp [kE]
 | succ i =>
   have hlt:i+1<(aF b).2.length:=(List.getElem?_eq_some_iff.1 hp).1
   have hg:=List.getElem?_eq_getElem (l:=(aF b).2) (i:=i) (by omega)
   have hreg:=(hw.next i p _ hg hp).2
   have hpay:qg b p=fP b:=by
    unfold qg oq
    rw [if_pos hreg]
   rw [hpay,hfl]
   rw [hps] at hp ⊢
   match r,hp with
   | [],hp=>simp at hp
   | y::r,hp =>
     have := alY (fP b) (fJ b) (l:=y::r) (i:=i) (p:=p) (by simpa using hp)
     simp only [kE,List.getElem?_cons_succ,List.length_cons] at this ⊢
     rw [this]
     congr 2
     simp
end Go.Ev.Code
