/- A part of the proof of flowAll_card, priceAll_card, yieldAll_card. -/
import Derived.Test.YtfkdcfbleblgoaaGreatDoorCXZ12
import Derived.Test.YtfkdcfbleblgoaaGreatDoorCXZ30
set_option linter.unusedVariables false
set_option linter.unusedSimpArgs false
section
namespace Go.Ev.Code
open Go Go.Ev
theorem Gq.drop {k:Nat}:∀ {ws:List (Int×Int×Nat)} {fs:List (Int×Rat)} (n:Nat),Gq k ws fs→Gq k (ws.drop n) (fs.drop n)
 | ws,fs,0,h=>h
 | [],[],n+1,_=>trivial
 | _::_,_::_,n+1,h=>h.2.2.drop n
 | [],_::_,_+1,h=>h.elim
 | _::_,[],_+1,h=>h.elim
theorem Yl.len {k:Nat}:∀ {ws:List (Int×Int×Nat)} {asx:List Rat},Yl k ws asx→ws.length=asx.length
 | [],[],_=>rfl
 | _::_,_::_,h=>by simp [Yl.len h.2]
 | [],_::_,h=>h.elim
 | _::_,[],h=>h.elim
end Go.Ev.Code
end
section
namespace Go.Ev.Code
open Go Go.Ev
theorem Y8:∀ {ws:List (Int×Int×Nat)} {i:Nat} {w:Int×Int×Nat},ws[i]?=some w→i*4+1+3≤(bK ws).length∧((bK ws).drop (i*4+1)).take 3=qC w.2.1 w.2.2
 | [],i,w,h=>by simp at h
 | (d,n,m)::ws,0,w,h=>by
   simp at h; subst h
   simp only [bK]
   refine ⟨by simp [sG],?_⟩
   simp only [Nat.zero_mul,Nat.zero_add,List.drop_succ_cons,List.drop_zero]
   rw [List.take_append_of_le_length (by rw [sG]; omega),aip]
 | (d,n,m)::ws,i+1,w,h=>by
   obtain ⟨h1,h2⟩:=Y8 (ws:=ws) (i:=i) (w:=w) (by simpa using h)
   simp only [bK]
   refine ⟨by simp [sG]; omega,?_⟩
   rw [show (i+1)*4+1=i*4+1+3+1 by omega,List.drop_succ_cons,List.drop_append,sG]
   have h3:(qC n m).drop (i*4+1+3)=[]:=List.drop_of_length_le (by rw [sG]; omega)
   rw [h3,List.nil_append,show i*4+1+3-3=i*4+1 by omega]
   exact h2
end Go.Ev.Code
end
