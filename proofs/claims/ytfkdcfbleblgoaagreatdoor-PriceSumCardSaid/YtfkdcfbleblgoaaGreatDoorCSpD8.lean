/- A part of the proof of priceAll_card, yieldAll_card, priceSum_card, flowAll_card, accrAll_card. -/
import Derived.Test.YtfkdcfbleblgoaaGreatDoorCSpD7
set_option linter.unusedVariables false
set_option linter.unusedSimpArgs false
section
namespace Go.Ev.Code
open Go Go.Ev
def apW (v:Rat):List Rat→List Rat
 | []=>[]
 | r::t=>(r-v)::t
def dD (b:aA) (s:Int):List Rat:=if O7 b s=true then apW (qg b (aV b s)) (((aW b).2.drop (Sz (aF b).2 s).toNat).map Prod.snd) else ((aW b).2.drop (Sz (aF b).2 s).toNat).map Prod.snd
end Go.Ev.Code
end
section
namespace Go.Ev.Code
open Go Go.Ev
def hs (n d:Int):List Int→Int×Int
 | []=>(0,1)
 | a::t=>((hs n d t).1*d+a*(hs n d t).2,(hs n d t).2*n)
end Go.Ev.Code
end
