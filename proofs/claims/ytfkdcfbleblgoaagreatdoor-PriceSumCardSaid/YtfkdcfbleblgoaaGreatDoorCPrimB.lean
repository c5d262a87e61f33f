/- A part of the proof of priceAll_card, yieldAll_card, priceSum_card, flowAll_card, accrAll_card. -/
import Derived.Lib.BitFns
import Derived.Lib.TrimByte
import Derived.Lib.Repeat
import Derived.Lib.Join
import Derived.Test.YtfkdcfbleblgoaaGreatDoorCPrimA
import Derived.Test.YtfkdcfbleblgoaaGreatDoorCTab
set_option linter.unusedVariables false
set_option linter.unusedSimpArgs false
section
namespace Go.Ev.Code
open Go Go.Ev Go.RowKit
section
variable {P:Program} {w0:World}
theorem dM.aG {c:Ctx} {ds:List D} {vs:List Value} (h:dM c ds vs):Rep c (.aG ds) (.tuple vs.toArray):=by
 obtain ⟨g,q1,q2,q3⟩:=h.fn
 exact .aG _ _ g (by simpa using q1) q2 q3
theorem zT {c:Ctx} (k:IntKind) (n:Int):Rep c (.int k n) (.int k n) := .b_ _ _ (.int k n)
theorem Hl {c:Ctx} (s:List UInt8):Rep c (.str s) (.string ⟨s.toArray⟩) := .b_ _ _ (.str s)
theorem akx {c:Ctx} (b:Bool):Rep c (.bool b) (.bool b) := .b_ _ _ (.bool b)
theorem ZA {c:Ctx} {d1 d2:D} {v1 v2:Value} (h1:Rep c d1 v1) (h2:Rep c d2 v2):Rep c (.aG [d1,d2]) (.tuple #[v1,v2]):=dM.aG (.cons h1 (.cons h2 .nil))
theorem aAb {c:Ctx} {d1 d2 d3:D} {v1 v2 v3:Value} (h1:Rep c d1 v1) (h2:Rep c d2 v2) (h3:Rep c d3 v3):Rep c (.aG [d1,d2,d3]) (.tuple #[v1,v2,v3]):=dM.aG (.cons h1 (.cons h2 (.cons h3 .nil)))
theorem LM {c:Ctx} {d:D} {vs:List Value} (h:dM c [d] vs):∃ v,vs=[v]∧Rep c d v:=by
 cases h with
 | cons h1 h2=>cases h2; exact ⟨_,rfl,h1⟩
theorem X8 {c:Ctx} {d e:D} {vs:List Value} (h:dM c [d,e] vs):∃ v u,vs=[v,u]∧Rep c d v∧Rep c e u:=by
 cases h with
 | cons h1 h2=>obtain ⟨u,rfl,hu⟩:=LM h2; exact ⟨_,u,rfl,h1,hu⟩
theorem awu {c:Ctx} {d e f:D} {vs:List Value} (h:dM c [d,e,f] vs):∃ v u t,vs=[v,u,t]∧Rep c d v∧Rep c e u∧Rep c f t:=by
 cases h with
 | cons h1 h2=>obtain ⟨u,t,rfl,hu,ht⟩:=X8 h2; exact ⟨_,u,t,rfl,h1,hu,ht⟩
abbrev jD (P:Program) (w0:World) (f:Nat) (p:List D→Mem→RV):Prop:=∀ args m r m',p args m=some (r,m')→IU P w0 f args m r m'
theorem awf {f:Nat} (hfn:rX P f) (H:∀ (x y:Nat),x<18446744073709551616→y<18446744073709551616→∀ w:World,Calls P f #[.int .u64 x,.int .u64 y] w fun e w'=>e = .returned (.tuple #[.int .u64 ((x*y / 18446744073709551616:Nat):Int),.int .u64 ((x*y % 18446744073709551616:Nat):Int)])∧w'=w):jD P w0 f adp:=by
 intro args m r m' h
 unfold adp at h
 split at h <;> try (simp at h; done)
 rename_i m0 x y
 split at h <;> try (simp at h; done)
 rename_i hu
 obtain ⟨⟨x0,x1⟩,y0,y1⟩:=hu
 simp only [Option.some.injEq,Prod.mk.injEq] at h
 obtain ⟨rfl,rfl⟩:=h
 refine abg hfn fun c vs hi hr=>?_
 obtain ⟨v,u,rfl,hv,hu⟩:=X8 hr
 have := hv.cu
 have := hu.cu
 subst v u
 have hc:=H x.toNat y.toNat (by omega) (by omega) c.w
 have e1:((x.toNat:Nat):Int)=x:=by omega
 have e2:((y.toNat:Nat):Int)=y:=by omega
 rw [e1,e2] at hc
 exact ⟨_,ZA (zT _ _) (zT _ _),hc⟩
theorem avE {f:Nat} (H:∀ (x y k:Nat),k≤1→∀ w:World,(callFunc f #[.int .u64 x,.int .u64 y,.int .u64 k]).run P w =
   .ok (.value (.tuple #[.int .u64 (((x+y+k) % 18446744073709551616:Nat):Int),.int .u64 (((x+y+k) / 18446744073709551616:Nat):Int)])) w):jD P w0 f adn:=by
 intro args m r m' h
 unfold adn at h
 split at h <;> try (simp at h; done)
 rename_i m0 x y k
 split at h <;> try (simp at h; done)
 rename_i hu
 obtain ⟨⟨x0,x1⟩,⟨y0,y1⟩,k0,k1⟩:=hu
 simp only [Option.some.injEq,Prod.mk.injEq] at h
 obtain ⟨rfl,rfl⟩:=h
 refine aeQ fun c vs hi hr=>?_
 obtain ⟨v,u,t,rfl,hv,hu,ht⟩:=awu hr
 have := hv.cu
 have := hu.cu
 have := ht.cu
 subst v u t
 have hc:=H x.toNat y.toNat k.toNat (by omega) c.w
 have e1:((x.toNat:Nat):Int)=x:=by omega
 have e2:((y.toNat:Nat):Int)=y:=by omega
 have e3:((k.toNat:Nat):Int)=k:=by omega
 rw [e1,e2,e3] at hc
 exact ⟨_,ZA (zT _ _) (zT _ _),hc⟩
theorem awH {f:Nat} (H:∀ (x y k:Nat),k≤1→∀ w:World,(callFunc f #[.int .u64 x,.int .u64 y,.int .u64 k]).run P w =
   .ok (.value (.tuple #[.int .u64 (((x+18446744073709551616-y-k) % 18446744073709551616:Nat):Int),.int .u64 ((if x<y+k then 1 else 0:Nat):Int)])) w):jD P w0 f adq:=by
 intro args m r m' h
 unfold adq at h
 split at h <;> try (simp at h; done)
 rename_i m0 x y k
 split at h <;> try (simp at h; done)
 rename_i hu
 obtain ⟨⟨x0,x1⟩,⟨y0,y1⟩,k0,k1⟩:=hu
 simp only [Option.some.injEq,Prod.mk.injEq] at h
 obtain ⟨rfl,rfl⟩:=h
 refine aeQ fun c vs hi hr=>?_
 obtain ⟨v,u,t,rfl,hv,hu,ht⟩:=awu hr
 have := hv.cu
 have := hu.cu
 have := ht.cu
 subst v u t
 have hc:=H x.toNat y.toNat k.toNat (by omega) c.w
 have e1:((x.toNat:Nat):Int)=x:=by omega
 have e2:((y.toNat:Nat):Int)=y:=by omega
 have e3:((k.toNat:Nat):Int)=k:=by omega
 rw [e1,e2,e3] at hc
 exact ⟨_,ZA (zT _ _) (zT _ _),hc⟩
end
end Go.Ev.Code
end
section
namespace Go.Ev.Code
open Go Go.Ev Go.RowKit
section
variable {P:Program} {w0:World}
theorem agx:∀ (f x:Nat),x<2^f→Go.Lib.bitLenAux f x=width x
 | 0,x,h=>by
   have : x=0:=by simpa using h
   subst this; rfl
 | f+1,x,h=>by
   unfold Go.Lib.bitLenAux width
   by_cases h0:x=0
   ·simp [h0]
   ·rw [if_neg h0,if_neg h0,agx f (x / 2) (by rw [Nat.pow_succ] at h; omega)]
    unfold width
    by_cases h1:x / 2=0
    ·have : x=1:=by omega
     subst this; rfl
    ·rw [if_neg h1,Nat.log2_def x,if_pos (by omega)]; omega
theorem arv {f:Nat} (hfn:rX P f) (H:∀ (x:Int) (w:World),0≤x→x≤18446744073709551615→Calls P f #[.int .u64 x] w fun e w'=>e = .returned (.int .i64 (64-(Go.Lib.bitLen x.toNat:Int)))∧w'=w):jD P w0 f TV:=by
 intro args m r m' h
 unfold TV at h
 split at h <;> try (simp at h; done)
 rename_i m0 x
 split at h <;> try (simp at h; done)
 rename_i hu
 obtain ⟨x0,x1⟩:=hu
 simp only [Option.some.injEq,Prod.mk.injEq] at h
 obtain ⟨rfl,rfl⟩:=h
 refine abg hfn fun c vs hi hr=>?_
 obtain ⟨v,rfl,hv⟩:=LM hr
 have := hv.cu
 subst v
 have hlt:x.toNat<2^64:=by have : (2:Nat)^64=18446744073709551616:=by decide
                           omega
 have hw:Go.Lib.bitLen x.toNat=width x.toNat:=agx 64 _ hlt
 have hle:width x.toNat≤64:=by
  unfold width
  split
  ·omega
  ·rename_i hx
   have := (Nat.log2_lt hx).2 hlt
   omega
 have hc:=H x c.w x0 (by omega)
 rw [hw,show (64-(width x.toNat:Int))=((64-width x.toNat:Nat):Int) by omega] at hc
 exact ⟨_,zT _ _,hc⟩
theorem amF {f:Nat} (hfn:rX P f) (H:∀ (s p:ByteArray) (w:World),Calls P f #[.string s,.string p] w fun e w'=>e = .returned (.tuple #[.string ⟨(Go.Lib.trimPrefix s.data.toList p.data.toList).toArray⟩,.bool (Go.Lib.hasPrefix s.data.toList p.data.toList)])∧w'=w):jD P w0 f Lj:=by
 intro args m r m' h
 unfold Lj at h
 split at h <;> try (simp at h; done)
 rename_i m0 s p
 have h':r = .aG [.str (Go.Lib.trimPrefix s p),.bool (Go.Lib.hasPrefix s p)]∧m'=m:=by
  unfold Go.Lib.trimPrefix Go.Lib.hasPrefix
  split at h
  ·rename_i hp
   simp only [Option.some.injEq,Prod.mk.injEq] at h
   obtain ⟨rfl,rfl⟩:=h
   simp [hp]
  ·rename_i hp
   simp only [Option.some.injEq,Prod.mk.injEq] at h
   obtain ⟨rfl,rfl⟩:=h
   simp [hp]
 obtain ⟨rfl,rfl⟩:=h'
 refine abg hfn fun c vs hi hr=>?_
 obtain ⟨v,u,rfl,hv,hu⟩:=X8 hr
 have := hv.jv
 have := hu.jv
 subst v u
 have hc:=H ⟨s.toArray⟩ ⟨p.toArray⟩ c.w
 exact ⟨_,ZA (Hl _) (akx _),by simpa using hc⟩
end
end Go.Ev.Code
end
section
namespace Go.Ev.Code
open Go Go.Ev Go.RowKit
section
variable {P:Program} {w0:World}
theorem asI (p:UInt8→Bool) (s:List UInt8):strip p s=s.dropWhile p:=by
 induction s with
 | nil=>rfl
 | cons b bs ih =>
   simp only [strip,List.dropWhile]
   cases p b <;> simp [ih]
theorem apN {f:Nat} (hfn:rX P f) (H:∀ (s:ByteArray) (c:UInt8),c.toNat<128→∀ (w:World),Calls P f #[.string s,.string ⟨#[c]⟩] w fun e w'=>e = .returned (.string ⟨(Go.Lib.trimLeftB s.data.toList c).toArray⟩)∧w'=w):jD P w0 f Ph:=by
 intro args m r m' h
 unfold Ph at h
 split at h <;> try (simp at h; done)
 rename_i s c
 split at h <;> try (simp at h; done)
 rename_i hu
 simp only [Option.some.injEq,Prod.mk.injEq] at h
 obtain ⟨rfl,rfl⟩:=h
 refine abg hfn fun cx vs hi hr=>?_
 obtain ⟨v,u,rfl,hv,hu2⟩:=X8 hr
 have := hv.jv
 have := hu2.jv
 subst v u
 have hc:=H ⟨s.toArray⟩ c hu.1 cx.w
 have he:Go.Lib.trimLeftB s c=strip (fun b=>b==c) s:=by
  rw [asI]; rfl
 refine ⟨_,Hl _,?_⟩
 simpa [he] using hc
theorem aup {f:Nat} (hfn:rX P f) (H:∀ (s:ByteArray) (c:Nat) (w:World),c≤9223372036854775807→s.size*c≤140737488355328→Calls P f #[.string s,.int .i64 c] w fun e w'=>e = .returned (.string ⟨(Go.Lib.repeatL s.data.toList c).toArray⟩)∧Below w.heap.size w w'):jD P w0 f Ye:=by
 intro args m r m' h
 unfold Ye at h
 split at h <;> try (simp at h; done)
 rename_i s n
 split at h <;> try (simp at h; done)
 rename_i hu
 obtain ⟨n0,n1,hl⟩:=hu
 simp only [Option.some.injEq,Prod.mk.injEq] at h
 obtain ⟨rfl,rfl⟩:=h
 refine alP hfn fun cx vs hi hr=>?_
 obtain ⟨v,u,rfl,hv,hu2⟩:=X8 hr
 have := hv.jv
 have := hu2.cu
 subst v u
 have he:∀ k,Go.Lib.repeatL s k=(List.replicate k s).flatten:=by
  intro k
  induction k with
  | zero=>rfl
  | succ k ih=>simp [Go.Lib.repeatL,ih,List.replicate_succ]
 have hsz:(⟨s.toArray⟩:ByteArray).size=s.length:=by simp [ByteArray.size]
 have hmul:s.length*n.toNat≤1000*1000000:=Nat.mul_le_mul hl (by omega)
 have hc:=H ⟨s.toArray⟩ n.toNat cx.w (by omega) (by rw [hsz]; omega)
 have e1:((n.toNat:Nat):Int)=n:=by omega
 rw [e1] at hc
 refine ⟨_,fun c'=>Hl _,?_⟩
 simpa [he] using hc
end
end Go.Ev.Code
end
section
namespace Go.Ev.Code
open Go Go.Ev Go.RowKit
section
variable {P:Program} {w0:World}
theorem aoL:∀ {cs:List D} {ss:List (List UInt8)},strs cs=some ss→cs=ss.map D.str
 | [],ss,h=>by simp [strs] at h; subst h; rfl
 | d::ds,ss,h=>by
   cases d
   case str x =>
    simp only [strs,Option.bind_eq_some_iff,Option.some.injEq] at h
    obtain ⟨r,hr,rfl⟩:=h
    rw [aoL hr]; rfl
   all_goals simp [strs] at h
theorem join_eq (sep:List UInt8):∀ ss:List (List UInt8),Go.Lib.join ss sep=EW sep ss
 | []=>rfl
 | [x]=>by simp [Go.Lib.join,EW]
 | x::y::xs=>by
   have := join_eq sep (y::xs)
   simp [Go.Lib.join,EW] at this ⊢
   simp [this]
theorem axY {f:Nat} (hfn:rX P f)
  (H0:∀ (a:Option Addr) (c:Nat) (sep:ByteArray) (w:World),Calls P f #[.slice a 0 c,.string sep] w fun e w'=>e = .returned (.string ⟨#[]⟩)∧w'=w)
  (H:∀ (bk o c:Nat) (xs:List ByteArray) (sep:ByteArray) (w:World),(∀ (j:Nat) x,xs[j]?=some x→w.cell? ⟨bk,o+j,none⟩=some (.string x))→bk<w.heap.size→xs.length≤140737488355328→xs.length≤c →
   (Go.Lib.join (xs.map (·.data.toList)) sep.data.toList).length≤140737488355328 →
   Calls P f #[.slice (some ⟨bk,o,none⟩) xs.length c,.string sep] w fun e w'=>e = .returned (.string ⟨(Go.Lib.join (xs.map (·.data.toList)) sep.data.toList).toArray⟩)∧Below w.heap.size w w'):∀ args m r m',aeJ args m=some (r,m')→(∃ n cs s,args=[.sl n cs,.str s]∧cs.length≤140737488355328)→IU P w0 f args m r m':=by
 intro args m r m' h hsz
 unfold aeJ at h
 split at h <;> try (simp at h; done)
 ·rename_i n cs sep
  obtain ⟨n',cs',s',he,hsz⟩:=hsz
  simp at he
  obtain ⟨⟨rfl,rfl⟩,rfl⟩:=he
  rw [Option.bind_eq_some_iff] at h
  obtain ⟨ss,hss,h⟩:=h
  split at h <;> try (simp at h; done)
  rename_i hu
  obtain ⟨rfl,_,hl⟩:=hu
  simp only [Option.some.injEq,Prod.mk.injEq] at h
  obtain ⟨rfl,rfl⟩:=h
  have hcs:=aoL hss
  refine alP hfn fun cx vs hi hr=>?_
  obtain ⟨v,u,rfl,hv,hu2⟩:=X8 hr
  have := hu2.jv
  subst u
  refine ⟨_,fun c'=>Hl _,?_⟩
  rcases hv.GH with ⟨h0,hc0,rfl⟩ | ⟨blk,st,cap,vals,T,fr,g,rfl,hcap,hS,hb,hg,hgr⟩
  ·subst hc0
   have : ss=[]:=by cases ss with | nil=>rfl | cons _ _=>simp at hcs
   subst this
   refine (H0 none 0 ⟨sep.toArray⟩ cx.w).mono ?_
   rintro e w' ⟨rfl,rfl⟩
   exact ⟨by simp [EW],Below.refl _ _⟩
  ·have hlen:(ss.map fun s=>(⟨s.toArray⟩:ByteArray)).length=cs.length:=by rw [hcs]; simp
   have hmap:(ss.map fun s=>(⟨s.toArray⟩:ByteArray)).map (·.data.toList)=ss:=by
    rw [List.map_map,show ((fun x:ByteArray=>x.data.toList) ∘ fun s:List UInt8=>(⟨s.toArray⟩:ByteArray))=id from rfl,List.map_id]
   have hc:=H blk st cap (ss.map fun s=>(⟨s.toArray⟩:ByteArray)) ⟨sep.toArray⟩ cx.w (fun j x hx=>by
    rw [List.getElem?_map,Option.map_eq_some_iff] at hx
    obtain ⟨s,hs,rfl⟩:=hx
    have hd:cs[j]?=some (.str s):=by rw [hcs]; simp [hs]
    have hj:j<cs.length:=(List.getElem?_eq_some_iff.1 hd).1
    have hF:=hgr j _ hd
    have hv:g j = .string ⟨s.toArray⟩:=(Rep.b_ _ _ hF:Rep cx (.str s) (g j)).jv
    have := (hg j hj).1
    rw [hv] at this
    simpa [World.cell?,hb] using this) (hi.lt _ hS) (by rw [hlen]; exact hsz) (by rw [hlen]; exact hcap) (by
     rw [hmap,join_eq]
     have : (EW sep ss).length≤1000000:=hl
     show (EW sep ss).length≤_
     omega)
   rw [hmap,hlen] at hc
   refine hc.mono ?_
   rintro e w' ⟨rfl,hbl⟩
   exact ⟨by rw [join_eq],hbl⟩
end
end Go.Ev.Code
end
