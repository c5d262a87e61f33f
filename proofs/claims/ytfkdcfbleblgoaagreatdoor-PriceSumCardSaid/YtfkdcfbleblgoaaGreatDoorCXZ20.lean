/- A part of the proof of accrAll_card, priceAll_card, priceSum_card, yieldAll_card. -/
import Derived.Test.YtfkdcfbleblgoaaGreatDoorCSpD6
set_option linter.unusedVariables false
set_option linter.unusedSimpArgs false
section
namespace Go.Ev.Code
open Go Go.Ev
theorem RB.sub {j k:Nat} {a b:Rat} (ha:RB j a) (hb:RB k b):RB (j+k+1) (a-b):=by rw [Rat.sub_eq_add_neg]; exact ha.add hb.neg
end Go.Ev.Code
end
section
namespace Go.Ev.Code
open Go Go.Ev
theorem auf (p:Int×Int) (d:Int):L.call Pm [pD p,.ref [.int .i64 d] 0]=some (.bool (decide (p.1≤d∧d<p.2))):=by
 obtain ⟨p1,p2⟩:=p
 unfold pD
 simp only
 refine aj (atj ..) ?_
 by_cases h1:p1≤d
 ·by_cases h2:d<p2 <;> simp [acD,h1,h2]
 ·simp [acD,h1]
theorem at_loop {d:Int} (all:List (Int×Int)) (hn:all.length≤1000000):∀ (l pre:List (Int×Int)),all=pre++l →
  L.loop [0,1,7,8] [4] jh 0 [dO all,.func Pm [.ref [.int .i64 d] 0],.int .i64 all.length,.int .i64 pre.length] [] =
    some (atR (YG d l pre.length)):=by
 intro l
 induction l with
 | nil =>
   intro pre hal
   rw [List.append_nil] at hal
   subst hal
   simp only [YG,atR,if_true]
   unfold dO
   generalize aX all=pc at *
   generalize all.length=n at *
   refine au (yw ..) ?_
   simp [jZ]
 | cons p r ih =>
   intro pre hal
   have hg:=mP (ps:=all) (i:=pre.length) (p:=p) (by rw [hal]; simp)
   have hlt:pre.length<all.length:=by rw [hal]; simp
   have h1:=auf p d
   have hn2:=ih (pre++[p]) (by rw [hal]; simp)
   rw [List.length_append,List.length_singleton,show ((pre.length+1:Nat):Int)=(pre.length:Int)+1 by omega] at hn2
   have e1:IntKind.i64.wrap ((pre.length:Int)+1)=(pre.length:Int)+1:=wrap64 _ (by omega)
   simp only [YG]
   obtain ⟨p1,p2⟩:=p
   unfold pD at h1
   unfold dO at *
   simp only at *
   obtain ⟨g1,g2,g3,g4⟩:=hg
   generalize aX all=pc at *
   generalize all.length=n at *
   generalize pre.length=P at *
   generalize YG d r (P+1)=z at *
   have hltI:(P:Int)<n:=by omega
   have hneg:¬ (P:Int) = -1:=by omega
   refine au (yw ..) ?_
   by_cases h:p1≤d∧d<p2
   ·rw [decide_eq_true h] at h1
    rw [if_pos h]
    unfold atR
    rw [if_neg hneg]
    simp [jZ,hlt,hltI,g1,g2,g3,g4,h1]
   ·rw [decide_eq_false h] at h1
    rw [if_neg h]
    simp [jZ,hlt,hltI,g1,g2,g3,g4,h1,e1,hn2]
theorem alL {ps:List (Int×Int)} (hn:ps.length≤1000000) (d:Int):L.call adv [dO ps,.int .i64 d]=some (.int .i64 (Sz ps d)):=by
 have hl:=at_loop (d:=d) ps hn ps [] rfl
 simp only [List.length_nil] at hl
 have hi:L.call jR [dO ps,.func Pm [.ref [.int .i64 d] 0]]=some (.int .i64 (Sz ps d)):=by
  unfold Sz
  unfold dO at *
  generalize YG d ps 0=z at *
  generalize aX ps=pc at *
  generalize ps.length=n at *
  refine aj (Sj ..) ?_
  unfold atR at hl
  by_cases hz:z = -1
  ·rw [if_pos hz] at hl
   subst hz
   simp at hl
   simp [rG,hl]
  ·rw [if_neg hz] at hl
   simp at hl
   simp [rG,hl]
 have hfz:∀ m,jd (fz 11) (aX ps) m=some (aX ps,m):=fun m=>OD ps 10 m
 generalize Sz ps d=z at *
 unfold dO at *
 generalize aX ps=pc at *
 generalize ps.length=n at *
 refine aj (aw7 ..) ?_
 simp [aoF,hfz,hi]
def ap2 (b:aA) (s:Int):D:=match (leftB b s).1 with
 | some e => .aG [.agg [.int .i64 0,.int .i64 0],fD (some e)]
 | none => .aG [pD (aV b s),.bQ]
theorem ac0 {b:aA} (hc:b.aY.length≤1000000) (hr:b.bJ.length≤1000000) (s:Int):L.call Uy [aC b,.int .i64 s]=some (ap2 b s):=by
 have hl:=Y_ hc hr s
 have hpl:=Lm hc hr
 have hbc:=fun n=>iO b n
 have hbl:=kK b
 have hbd:=iZ b 0 10
 unfold ap2
 unfold EU NC at hl
 have hfcl:=GV (leftB b s).2 0 11
 cases he:(leftB b s).1 with
 | some e =>
   rw [he] at hl
   generalize (leftB b s).2.length=N at *
   generalize dA (leftB b s).2=fc at *
   unfold aC at *
   generalize ay b=B at *
   have htk:B.take 9=B:=List.take_of_length_le (by omega)
   rcases e with ⟨c,_ | t⟩
   ·simp only [fD] at *
    refine aj (V8 ..) ?_
    simp [Ol,hl,hbc,hbl,hbd,htk]
   ·simp only [fD,eY] at *
    refine aj (V8 ..) ?_
    simp [Ol,hl,hbc,hbl,hbd,htk]
 | none =>
   rw [he] at hl
   obtain ⟨h1,h2,h3,h4⟩:=dX he
   obtain ⟨k,k1,k2,k3,k4⟩:=x9 h2 h3 h4
   have hplen:=(dP h2).2.len
   have hat:=alL (ps:=(aF b).2) (by omega) s
   rw [k1] at hat
   have hg:=mP k2
   have hklt:k<(aF b).2.length:=(List.getElem?_eq_some_iff.1 k2).1
   unfold Ak at hpl
   rw [h2] at hpl
   simp only [fC] at hpl
   simp only [fD] at hl
   have hpcl:=gZ (aF b).2 0 11
   have hpcl':=gZ (aF b).2 0 10
   unfold dO at *
   unfold pD
   generalize aV b s=p at *
   obtain ⟨p1,p2⟩:=p
   simp only at *
   obtain ⟨g1,g2,g3,g4⟩:=hg
   generalize (leftB b s).2.length=N at *
   generalize dA (leftB b s).2=fc at *
   generalize (aF b).2.length=M at *
   generalize aX (aF b).2=pc at *
   unfold aC at *
   generalize ay b=B at *
   have htk:B.take 9=B:=List.take_of_length_le (by omega)
   have hkI:(k:Int)<M:=by omega
   refine aj (V8 ..) ?_
   simp [Ol,hl,hbc,hbl,hbd,htk,hpl,hat,hklt,hkI,g1,g2,g3,g4]
def exD (b:aA) (s:Int):D:=match (leftB b s).1 with
 | some e => .aG [.bool false,fD (some e)]
 | none => .aG [.bool (O7 b s),.bQ]
theorem ad2 {b:aA} (hc:b.aY.length≤1000000) (hr:b.bJ.length≤1000000) (s:Int):L.call acY [aC b,.int .i64 s]=some (exD b s):=by
 have hp:=ac0 hc hr s
 unfold ap2 at hp
 unfold exD
 cases he:(leftB b s).1 with
 | some e =>
   rw [he] at hp
   have hecl:=ac6 (some e) 0
   obtain ⟨i,m,fq,c,rd,n,st,en,ex⟩:=b
   unfold aC ay at *
   simp only at *
   rcases e with ⟨c,_ | t⟩
   ·simp only [fD] at *
    refine aj (af9 ..) ?_
    simp [VP,hp]
   ·simp only [fD,eY] at *
    refine aj (af9 ..) ?_
    simp [VP,hp]
 | none =>
   rw [he] at hp
   obtain ⟨d1,d2,d3,d4,d5,d6⟩:=qh he
   have hex:=aqC (dK (dX he).2.1)
   unfold O7
   unfold pD at hp
   generalize aV b s=p at *
   obtain ⟨p1,p2⟩:=p
   simp only at *
   have e1:IntKind.i64.wrap (p2-b.ex)=p2-b.ex:=wrap64 _ (by omega)
   obtain ⟨i,m,fq,c,rd,n,st,en,ex⟩:=b
   unfold aC ay at *
   simp only at *
   refine aj (af9 ..) ?_
   by_cases h1:0<ex
   ·by_cases h2:p2-ex≤s <;> simp [VP,hp,h1,e1,h2]
   ·simp [VP,hp,h1]
end Go.Ev.Code
end
