/- A part of the proof of priceAll_card, yieldAll_card, priceSum_card, flowAll_card, accrAll_card. -/
import Derived.Shelf.Strings.SlTrimAscii
import Derived.Shelf.Spec.BitsCarry
import Derived.Shelf.Spec.TrailingZeros
import Derived.Lib.AppendIntMem
import Derived.Test.YtfkdcfbleblgoaaGreatDoorCErrA
import Derived.Test.YtfkdcfbleblgoaaGreatDoorCPrimB
import Derived.Test.YtfkdcfbleblgoaaGreatDoorCShelf
set_option linter.unusedVariables false
set_option linter.unusedSimpArgs false
section
namespace Go.Ev.Code
open Go Go.Ev Go.Proofs Go.RowKit Go.Extern
theorem aaC {w0:World} {c:Ctx} (hB:Base w0 c) {a:Addr} {v:Value} (h:w0.cell? a=some v):c.w.cell? a=some v:=by
 have hlt:a.block<w0.heap.size:=by
  rcases Nat.lt_or_ge a.block w0.heap.size with h1 | h1
  ·exact h1
  ·simp [World.cell?,Array.getElem?_eq_none h1] at h
 have := (hB a.block hlt).2
 rw [← h]
 simp only [World.cell?,this]
theorem axQ {f:Nat} {fn:Func} (h1:Tryz.prog.funcs[f]?=some fn) (h2:fn.body.isSome=true) (h3:(fn.name == "runtime.NumGoroutine")=false):rX Tryz.prog f:=⟨fn,h1,h2,h3⟩
theorem ahz {P:Program} {w0:World} {f:Nat} {args:List D} {m:Mem} {r:D} (hfn:rX P f)
  (h:∀ (c:Ctx) (vs:List Value),Base w0 c→Inv c m→dM c args vs→∃ v,(∀ c':Ctx,Rep c' r v)∧Calls P f vs.toArray c.w fun e w'=>e = .returned v∧Below c.w.heap.size c.w w'):IU P w0 f args m r m:=by
 refine fun c vs hB hi hr => .inl ⟨hfn,?_⟩
 obtain ⟨v,hv,hc⟩:=h c vs hB hi hr
 refine hc.mono ?_
 rintro e w' ⟨rfl,hbl⟩
 obtain ⟨h1,h2,h3⟩:=akT hi hbl
 exact ⟨v,{ c with w:=w' },rfl,rfl,hv _,h2,h3⟩
theorem axt {w0:World} (hT:ErrAs.lJ w0):jD Tryz.prog w0 wS ap0:=by
 have hfn:rX Tryz.prog wS:=axQ Tryz.func35 (by kernel_rfl) (by kernel_rfl)
 intro args m r m' h
 unfold ap0 at h
 split at h <;> try (simp at h; done)
 ·simp only [Option.some.injEq,Prod.mk.injEq] at h
  obtain ⟨rfl,rfl⟩:=h
  refine ahz hfn fun c vs hB hi hr=>?_
  obtain ⟨v,rfl,hv⟩:=LM hr
  have := hv.yG
  subst this
  exact ⟨_,fun c'=>zT _ _,ErrAs.code_nil c.w⟩
 ·rename_i t d
  split at h
  ·rename_i ht
   subst ht
   split at h <;> try (simp at h; done)
   rename_i n
   simp only [Option.some.injEq,Prod.mk.injEq] at h
   obtain ⟨rfl,rfl⟩:=h
   refine ahz hfn fun c vs hB hi hr=>?_
   obtain ⟨v,rfl,hv⟩:=LM hr
   obtain ⟨u,rfl,hu⟩:=hv.ig
   have := hu.cu
   subst this
   exact ⟨_,fun c'=>zT _ _,ErrAs.avL n c.w (aaC hB hT)⟩
  ·split at h <;> try (simp at h; done)
   rename_i ht
   subst ht
   split at h <;> try (simp at h; done)
   rename_i n cs
   simp only [Option.some.injEq,Prod.mk.injEq] at h
   obtain ⟨rfl,rfl⟩:=h
   refine ahz hfn fun c vs hB hi hr=>?_
   obtain ⟨v,rfl,hv⟩:=LM hr
   obtain ⟨u,rfl,hu⟩:=hv.ig
   obtain ⟨blk,st,cs',T,fr,g,rfl,hS,hb,hg,hgr⟩:=hu.Hg
   have h0:=(hg 0 (by simp)).1
   have hF:=hgr 0 (.int .i64 n) rfl
   have hv0:g 0 = .int .i64 n:=(Rep.b_ _ _ hF:Rep c (.int .i64 n) (g 0)).cu
   rw [hv0] at h0
   refine ⟨_,fun c'=>zT _ _,ErrAs.avK n ⟨blk,st+0,none⟩ c.w (aaC hB hT) ?_⟩
   simpa [World.cell?,hb] using h0
theorem auy {w0:World}:jD Tryz.prog w0 mW am3:=by
 intro args m r m' h
 unfold am3 at h
 split at h <;> try (simp at h; done)
 rename_i t k n
 split at h <;> try (simp at h; done)
 rename_i ht
 subst ht
 simp only [Option.some.injEq,Prod.mk.injEq] at h
 obtain ⟨rfl,rfl⟩:=h
 refine aeQ fun c vs hi hr=>?_
 obtain ⟨v,rfl,hv⟩:=LM hr
 obtain ⟨u,rfl,hu⟩:=hv.ig
 have h10 := @run_callFunc_extern Tryz.prog 237 _ ReflectliteType.typeOf Tryz.func237 (by kernel_rfl) (by kernel_rfl) (by kernel_rfl) (by kernel_rfl)
 refine ⟨.iface 287 (.agg #[.pointer (some ⟨16,194,none⟩)]),?_,?_⟩
 ·exact .iface _ _ _ (.agg _ _ (fun _ => .pointer (some ⟨16,194,none⟩)) rfl (fun j hj=>by
   have : j=0:=by simp at hj; omega
   subst this; exact ⟨rfl,rfl⟩) (fun j d hd=>by
   match j,hd with
   | 0,hd=>simp at hd; subst hd; exact .b_ _ _ (.raw _ _)))
 ·show (callFunc 237 #[.iface 194 u]).run Tryz.prog c.w=_
  rw [h10]
  have := ErrAs.avm u c.w
  simp [this]
theorem atx (w:World):(ReflectliteType.method (fun t=>do Rtype.noPackHeld "Comparable" t; pure (.bool (← typeInfo t).comparable)) #[.agg #[.pointer (some ⟨16,194,none⟩)]]).run Tryz.prog w = .ok (.bool true) w:=by kernel_rfl
theorem ak0 {w0:World}:jD Tryz.prog w0 fO acd:=by
 intro args m r m' h
 unfold acd at h
 split at h <;> try (simp at h; done)
 rename_i b t
 split at h <;> try (simp at h; done)
 rename_i ht
 obtain ⟨rfl,rfl⟩:=ht
 simp only [Option.some.injEq,Prod.mk.injEq] at h
 obtain ⟨rfl,rfl⟩:=h
 refine aeQ fun c vs hi hr=>?_
 obtain ⟨v,rfl,hv⟩:=LM hr
 obtain ⟨us,g,rfl,hl,hg,hgr⟩:=hv.O4
 have h10 := @run_callFunc_extern Tryz.prog 353 _ (ReflectliteType.method (fun t=>do Rtype.noPackHeld "Comparable" t; pure (.bool (← typeInfo t).comparable))) Tryz.func353 (by kernel_rfl) (by kernel_rfl) (by kernel_rfl) (by kernel_rfl)
 have h0:=(hg 0 (by simp)).1
 have hv0:g 0 = .pointer (some ⟨16,194,none⟩):=(hgr 0 _ rfl).au'
 rw [hv0] at h0
 have hus:us = #[.pointer (some ⟨16,194,none⟩)]:=by
  apply Array.ext'
  have hl':us.toList.length=1:=by simpa using hl
  match hu:us.toList,hl' with
  | [x],_ =>
    rw [← Array.getElem?_toList,hu] at h0
    simpa using h0
 subst hus
 refine ⟨.bool true,akx _,?_⟩
 show (callFunc 353 #[.agg #[.pointer (some ⟨16,194,none⟩)]]).run Tryz.prog c.w=_
 rw [h10,atx]
 rfl
end Go.Ev.Code
end
section
namespace Go.Ev.Code
open Go Go.Ev Go.Proofs Go.RowKit Go.Extern
def Grew (w w':World):Prop:=Out w w'∧w.heap.size≤w'.heap.size∧∀ b,b<w.heap.size→w'.heap[b]?=w.heap[b]?
theorem avR (n:Nat):∀ (w:World),(w.drewN n).heap=w.heap∧(w.drewN n).os=w.os∧(w.drewN n).output=w.output:=by
 induction n with
 | zero=>intro w; exact ⟨rfl,rfl,rfl⟩
 | succ n ih =>
   intro w
   obtain ⟨h1,h2,h3⟩:=ih w
   refine ⟨?_,?_,?_⟩ <;> first | exact h1 | exact h2 | exact h3 | (simp [World.drewN] at *; first | exact h1 | exact h2 | exact h3)
theorem Grew.drewN {w w':World} (h:Grew w w') (n:Nat):Grew w (w'.drewN n):=by
 obtain ⟨h1,h2,h3⟩:=avR n w'
 exact ⟨⟨h2.trans h.1.1,h3.trans h.1.2⟩,by rw [h1]; exact h.2.1,fun b hb=>by rw [h1]; exact h.2.2 b hb⟩
theorem Grew.refl (w:World):Grew w w:=⟨.refl w,Nat.le_refl _,fun _ _=>rfl⟩
theorem Grew.trans {a b c:World} (h:Grew a b) (k:Grew b c):Grew a c :=
 ⟨h.1.trans k.1,Nat.le_trans h.2.1 k.2.1,fun i hi=>(k.2.2 i (Nat.lt_of_lt_of_le hi h.2.1)).trans (h.2.2 i hi)⟩
theorem Grew.alloc {w w':World} (h:Grew w w') (o:Obj):Grew w (w'.alloc o) :=
 h.trans ⟨⟨rfl,rfl⟩,by simp,fun b hb=>Below.heap_alloc _ _ _ hb⟩
theorem Grew.grow {w w':World} (h:Grew w w') (os:Array Obj):Grew w (Sort.grow w' os) :=
 h.trans ⟨⟨rfl,rfl⟩,by simp [Sort.grow],fun b hb=>by
   show (w'.heap++os)[b]?=_
   rw [Array.getElem?_append_left hb]⟩
theorem Grew.freeze {w w':World} (h:Grew w w') {a:Addr} (ha:w.heap.size≤a.block) (n:Nat):Grew w (w'.freeze a n):=by
 unfold World.freeze
 split
 ·exact h
 ·refine ⟨⟨h.1.1,h.1.2⟩,by simpa using h.2.1,fun b hb=>?_⟩
  rw [← h.2.2 b hb]
  simp only [Array.getElem?_modify]
  rw [if_neg (by omega)]
theorem JE {P:Program} {w0:World} {f:Nat} {args:List D} {m:Mem} {r:D} (hfn:rX P f)
  (h:∀ (c:Ctx) (vs:List Value),Base w0 c→Inv c m→dM c args vs→∃ v,(∀ c':Ctx,Rep c' r v)∧Calls P f vs.toArray c.w fun e w'=>e = .returned v∧Grew c.w w'):IU P w0 f args m r m:=by
 refine fun c vs hB hi hr => .inl ⟨hfn,?_⟩
 obtain ⟨v,hv,hc⟩:=h c vs hB hi hr
 refine hc.mono ?_
 rintro e w' ⟨rfl,ho,hs,hb⟩
 obtain ⟨h1,h2⟩:=hi.more c.S w' (fun _ h=>h) (fun _ h => .inl h) (fun b hb=>Nat.lt_of_lt_of_le (hi.lt b hb) hs) hs hb ho
 exact ⟨v,{ c with w:=w' },rfl,rfl,hv _,h1,h2⟩
variable {w0:World}
theorem here (f:Nat) (fn:Func) (h1:Tryz.prog.funcs[f]?=some fn) (h2:(fn.body.isSome && !(fn.name == "runtime.NumGoroutine"))=true):rX Tryz.prog f:=by
 simp only [Bool.and_eq_true,Bool.not_eq_true'] at h2
 exact ⟨fn,h1,h2.1,h2.2⟩
theorem azX:jD Tryz.prog w0 bits_Mul64 adp:=awf (here _ _ Tryz.func230 (by kernel_rfl)) fun x y hx hy w=>Tryz.bits_Mul64 x y hx hy w
theorem awc:jD Tryz.prog w0 bits_LeadingZeros64 TV:=arv (here _ _ Tryz.func278 (by kernel_rfl)) fun x w h0 h1=>Tryz.bits_LeadingZeros64 x w h0 h1
theorem ay2:jD Tryz.prog w0 bits_Add64 adn:=avE fun x y k hk w=>by
 show (callFunc 231 _).run Tryz.prog w=_
 rw [run_callFunc_extern Tryz.func231 (by kernel_rfl) (by kernel_rfl) (by kernel_rfl) (e:=add64Entry) (by kernel_rfl),run_add64 x y k (by omega) (by omega) (by omega) (by omega)]
 simp only [Result.andThen]
 congr 5 <;> omega
theorem aAH:jD Tryz.prog w0 bits_Sub64 adq:=awH fun x y k hk w=>by
 show (callFunc 236 _).run Tryz.prog w=_
 rw [run_callFunc_extern Tryz.func236 (by kernel_rfl) (by kernel_rfl) (by kernel_rfl) (e:=sub64Entry) (by kernel_rfl),run_sub64 x y k hk]
 rfl
theorem aqK:jD Tryz.prog w0 strings_CutPrefix Lj:=amF (here _ _ Tryz.func90 (by kernel_rfl)) fun s p w=>Tryz.strings_CutPrefix s p w
theorem aut:jD Tryz.prog w0 lC Ph:=apN (here _ _ Tryz.func94 (by kernel_rfl)) fun s c hc w=>Tryz.strings_TrimLeft_one s c hc w
theorem ayq:jD Tryz.prog w0 strings_Repeat Ye:=aup (here _ _ Tryz.func218 (by kernel_rfl)) fun s c w h1 h2=>Tryz.strings_Repeat s c w h1 h2
theorem aB7:jD Tryz.prog w0 strings_Join aeJ:=by
 intro args m r m' h
 refine axY (here _ _ Tryz.func220 (by kernel_rfl)) (fun a c sep w=>Tryz.strings_Join_none a c sep w) (fun bk o c xs sep w h1 h2 h3 h4 h5=>Tryz.strings_Join bk o c xs sep w h1 h2 h3 h4 h5) args m r m' h ?_
 unfold aeJ at h
 split at h <;> try (simp at h; done)
 rename_i n cs sep
 rw [Option.bind_eq_some_iff] at h
 obtain ⟨ss,hss,h⟩:=h
 split at h <;> try (simp at h; done)
 rename_i hu
 exact ⟨n,cs,sep,rfl,by have := hu.1; have := hu.2.1; omega⟩
theorem ai0 (c:UInt8):∀ (s acc:List UInt8),cutAt c acc s=if 0≤Go.Lib.index s [c] then some (acc.reverse++s.take (Go.Lib.index s [c]).toNat,s.drop ((Go.Lib.index s [c]).toNat+1)) else none
 | [],acc=>by simp [cutAt,Go.Lib.index]
 | b::l,acc=>by
   have hge:=Go.Lib.index_ge l [c]
   unfold cutAt Go.Lib.index
   by_cases hb:b=c
   ·subst hb
    simp
   ·have h1:(b==c)=false:=by simpa using hb
    have h2:(c==b)=false:=by simpa using fun e=>hb e.symm
    rw [ai0 c l (b::acc)]
    simp only [h1,List.isPrefixOf,h2,Bool.false_and,if_false,Bool.false_eq_true]
    by_cases hi:Go.Lib.index l [c] = -1
    ·simp [hi]
    ·have h0:0≤Go.Lib.index l [c]:=by omega
     have h3:(Go.Lib.index l [c] == -1)=false:=by simpa using hi
     have h4:(Go.Lib.index l [c]+1).toNat=(Go.Lib.index l [c]).toNat+1:=by omega
     simp only [h3,Bool.false_eq_true,if_false,if_pos h0,if_pos (show 0≤Go.Lib.index l [c]+1 by omega),h4]
     simp
def awY (w:World):Prop:=∃ m:Int,w.cell? ⟨1,0,none⟩=some (.int .i64 m)
theorem aDn (hM:awY w0):jD Tryz.prog w0 strings_Cut ar2:=by
 intro args m r m' h
 unfold ar2 at h
 split at h <;> try (simp at h; done)
 rename_i s sep
 split at h <;> try (simp at h; done)
 rename_i hl
 have hr:r = .aG [.str (Go.Lib.cut s [sep]).1,.str (Go.Lib.cut s [sep]).2.1,.bool (Go.Lib.cut s [sep]).2.2]∧m'=m:=by
  rw [ai0] at h
  unfold Go.Lib.cut
  split at h
  ·rename_i a b he
   split at he <;> simp at he
   rename_i h0
   obtain ⟨rfl,rfl⟩:=he
   simp only [Option.some.injEq,Prod.mk.injEq] at h
   simp [h0,← h.1,h.2]
  ·rename_i he
   split at he <;> simp at he
   rename_i h0
   simp only [Option.some.injEq,Prod.mk.injEq] at h
   simp [h0,← h.1,h.2]
 obtain ⟨rfl,rfl⟩:=hr
 refine JE (here _ _ Tryz.func91 (by kernel_rfl)) fun cx vs hB hi hr=>?_
 obtain ⟨v,u,rfl,hv,hu⟩:=X8 hr
 have := hv.jv
 have := hu.jv
 subst v u
 obtain ⟨mx,hmx⟩:=hM
 refine ⟨_,fun c'=>aAb (Hl _) (Hl _) (akx _),(Tryz.strings_Cut ⟨s.toArray⟩ ⟨#[sep]⟩ mx cx.w (by simpa [ByteArray.size] using hl) (aaC hB hmx)).mono ?_⟩
 rintro e w' ⟨rfl,n,rfl⟩
 exact ⟨by simp,(Grew.refl _).drewN n⟩
theorem awL (cs:ByteArray) (w:World):Calls Tryz.prog 92 #[.string ⟨#[]⟩,.string cs] w fun e w'=>e = .returned (.string ⟨#[]⟩)∧Grew w w':=by
 have h1:((⟨#[]⟩:ByteArray).toList.isEmpty)=true:=by rw [Go.Lib.toList_data]; rfl
 go_enter Tryz.func92,Tryz.ntmps92
 go_wp2
 go_ret
 exact ⟨rfl,Grew.refl _⟩
theorem aCV:∀ w,(zeroValue 206).run Tryz.prog w = .ok (.agg (Array.replicate 256 (.bool false))) w:=fun w=>by kernel_rfl
theorem auv (s:List UInt8):Go.Lib.trimS s nH=strip (fun b=>nH.contains b) (strip (fun b=>nH.contains b) s.reverse).reverse:=by
 simp only [Go.Lib.trimS,Go.Lib.trimLeftS,Go.Lib.trimRightS,asI]
theorem aCP:jD Tryz.prog w0 qQ pTrim:=by
 intro args m r m' h
 unfold pTrim at h
 split at h <;> try (simp at h; done)
 rename_i s cs
 split at h <;> try (simp at h; done)
 rename_i hu
 obtain ⟨rfl,hl⟩:=hu
 simp only [Option.some.injEq,Prod.mk.injEq] at h
 obtain ⟨rfl,rfl⟩:=h
 refine JE (here _ _ Tryz.func92 (by kernel_rfl)) fun cx vs hB hi hr=>?_
 obtain ⟨v,u,rfl,hv,hu⟩:=X8 hr
 have := hv.jv
 have := hu.jv
 subst v u
 refine ⟨_,fun c'=>Hl _,?_⟩
 rw [← auv]
 cases s with
 | nil=>exact awL _ _
 | cons b bs =>
   refine (Any.strings_Trim_set Tryz.lays160 aCV (by kernel_rfl) ⟨(b::bs).toArray⟩ ⟨nH.toArray⟩ cx.w (by decide) (by simp [ByteArray.size]) (by simp [ByteArray.size] at hl ⊢; omega) (by decide) (fun j b hb=>?_)).mono ?_
   ·have : ∀ x∈nH,x.toNat<128:=by decide
    exact this b (List.mem_of_getElem? hb)
   ·rintro e w' ⟨rfl,q,rfl⟩
    exact ⟨rfl,(((Grew.refl _).alloc _).alloc _).drewN q⟩
theorem afl:∀ (f n:Nat) (acc:List UInt8),n<10^(f+1)→decDigits (f+1) n acc=Go.Lib.decDigits n++acc
 | 0,n,acc,h=>by
   have h10:n<10:=by simpa using h
   have : n / 10=0:=by omega
   have e:n % 10=n:=by omega
   rw [Go.Lib.decDigits,dif_pos h10]
   unfold decDigits
   rw [if_pos this,e]; rfl
 | f+1,n,acc,h=>by
   rw [Go.Lib.decDigits]
   unfold decDigits
   by_cases h10:n<10
   ·have : n / 10=0:=by omega
    have e:n % 10=n:=by omega
    rw [if_pos this,dif_pos h10,e]; rfl
   ·have : ¬ n / 10=0:=by omega
    rw [if_neg this,dif_neg h10,afl f (n / 10) _ (by rw [Nat.pow_succ] at h; omega)]
    simp
theorem ai1 {n:Nat} (h:n<10^100):GN n=Go.Lib.decDigits n:=by
 unfold GN
 rw [afl 99 n [] h]; simp
theorem auX (hT:Go.Lib.TabIs Tryz.prog w0 "internal/strconv.uint64pow10" IntKind.u64 Go.Lib.pow10Tab):jD Tryz.prog w0 strconv_Itoa ap1:=by
 intro args m r m' h
 unfold ap1 at h
 split at h <;> try (simp at h; done)
 rename_i n
 split at h <;> try (simp at h; done)
 rename_i hn
 simp only [Option.some.injEq,Prod.mk.injEq] at h
 obtain ⟨rfl,rfl⟩:=h
 refine JE (here _ _ Tryz.func292 (by kernel_rfl)) fun cx vs hB hi hr=>?_
 obtain ⟨v,rfl,hv⟩:=LM hr
 have := hv.cu
 subst v
 have hlt:n.natAbs<10^100:=Nat.lt_of_le_of_lt (show n.natAbs≤9223372036854775808 by omega) (by decide)
 have he:(if n<0 then 45::GN n.natAbs else GN n.natAbs)=Go.Lib.itoa n:=by
  unfold Go.Lib.itoa
  rw [ai1 hlt]
  split
  ·rfl
  ·rw [show n.natAbs=n.toNat by omega]
 refine ⟨_,fun c'=>Hl _,?_⟩
 rw [he]
 have hT':Go.Lib.TabIs Tryz.prog cx.w "internal/strconv.uint64pow10" IntKind.u64 Go.Lib.pow10Tab:=by
  unfold Go.Lib.TabIs World.var? at hT ⊢
  rw [Option.bind_eq_some_iff] at hT ⊢
  obtain ⟨g,hg,hT⟩:=hT
  refine ⟨g,hg,?_⟩
  have hlt:g<w0.heap.size:=by
   rcases Nat.lt_or_ge g w0.heap.size with h1 | h1
   ·exact h1
   ·simp [Array.getElem?_eq_none h1] at hT
  rw [(hB g hlt).2]; exact hT
 refine (Tryz.strconv_Itoa n hn.1 hn.2 cx.w hT').mono ?_
 rintro e w' ⟨rfl,k,os,rfl⟩
 exact ⟨rfl,((Grew.refl _).drewN k).grow os⟩
theorem aon:∀ (s:List UInt8) (acc n:Nat),acc*10^s.length+10^s.length≤10^18→NK acc s=some n→Go.Lib.parseUintM (2^64-1) acc s = .ok n
 | [],acc,n,hb,h=>by
   simp [NK] at h
   subst h
   rfl
 | b::bs,acc,n,hb,h=>by
   unfold NK at h
   split at h <;> try (simp at h; done)
   rename_i hd
   have hp:1≤10^bs.length:=Nat.one_le_pow _ _ (by decide)
   have h1:acc*10+(b.toNat-48)+1≤acc*10+10:=by omega
   have h2:(acc*10+(b.toNat-48)+1)*10^bs.length≤(acc*10+10)*10^bs.length:=Nat.mul_le_mul_right _ h1
   have h3:(acc*10+10)*10^bs.length=acc*10^(b::bs).length+10^(b::bs).length:=by
    simp only [List.length_cons,Nat.pow_succ,Nat.add_mul,Nat.mul_assoc]
    rw [Nat.mul_comm 10]
   have h4:(acc*10+(b.toNat-48))*10^bs.length+10^bs.length≤10^18:=by
    rw [Nat.add_mul,Nat.one_mul] at h2; omega
   have h5:acc*10+(b.toNat-48)+1≤10^18:=by
    refine Nat.le_trans (Nat.le_trans (Nat.le_mul_of_pos_right _ hp) h2) (by rw [h3]; exact hb)
   have h18:(10:Nat)^18=1000000000000000000:=by decide
   have h64:(2:Nat)^64-1=18446744073709551615:=by decide
   unfold Go.Lib.parseUintM
   rw [if_pos hd,if_neg (by omega),if_neg (by omega)]
   exact aon bs _ n h4 h
theorem az5:jD Tryz.prog w0 kM ahw:=by
 intro args m r m' h
 unfold ahw at h
 split at h <;> try (simp at h; done)
 rename_i s
 split at h <;> try (simp at h; done)
 rename_i hs
 obtain ⟨hne,hl⟩:=hs
 rw [Option.bind_eq_some_iff] at h
 obtain ⟨n,hn,h⟩:=h
 simp only [Option.some.injEq,Prod.mk.injEq] at h
 obtain ⟨rfl,rfl⟩:=h
 refine JE (here _ _ Tryz.func174 (by kernel_rfl)) fun cx vs hB hi hr=>?_
 obtain ⟨v,u,t,rfl,hv,hu,ht⟩:=awu hr
 have := hv.jv
 have := hu.cu
 have := ht.cu
 subst v u t
 have hp:Go.Lib.parseUintB 64 s = .ok n:=by
  unfold Go.Lib.parseUintB
  rw [if_neg hne]
  refine aon s 0 n ?_ hn
  rw [Nat.zero_mul,Nat.zero_add]
  exact Nat.pow_le_pow_right (by decide) hl
 refine ⟨_,fun c'=>ZA (zT _ _) (.b_ _ _ .bQ),(Tryz.strconv_ParseUint_10_at64_ok ⟨s.toArray⟩ (by simp [ByteArray.size]; omega) n (by simpa using hp) cx.w).mono ?_⟩
 rintro e w' ⟨rfl,hw⟩
 refine ⟨rfl,?_⟩
 rcases hw with rfl | rfl
 ·exact Grew.refl _
 ·unfold Go.Lib.bytesWorld
  refine Grew.freeze (Grew.alloc ?_ _) (Nat.le_refl _) 1
  exact (Grew.refl cx.w).drewN 1
end Go.Ev.Code
end
section
namespace Go.Ev.Code
open Go Go.Ev Go.Proofs Go.RowKit Go.Extern
variable {w0:World}
section
open Go.Sort Go.Lib
set_option maxHeartbeats 6400000 in
set_option maxRecDepth 100000 in
theorem atQ (u:Nat) (hu64:u<18446744073709551616) (w:World) (htab:Go.Lib.TabIs Tryz.prog w "internal/strconv.uint64pow10" .u64 Go.Lib.pow10Tab) :
  Calls Tryz.prog 254 #[.int .u64 u,.int .i64 10] w fun e w'=>e = .returned (.string ⟨(Go.Lib.decDigits u).toArray⟩)∧Grew w w':=by
 by_cases hs:u<100
 ·go_enter Tryz.func254,Tryz.ntmps254
  go_wp2_with (go_at_call 293; refine (Tryz.internal_strconv_small u hs _).mono ?_; rintro e w' ⟨rfl,rfl⟩)
  go_ret
  exact ⟨rfl,Grew.refl _⟩
 ·have hu1:1≤u:=by omega
  have hnd20:Go.Lib.nDigits u≤20:=by have := Go.Lib.numDigits_eq u hu1 hu64; split at this <;> omega
  have hb3:Go.Lib.nDigits u≤24:=by omega
  have hal:Tryz.prog.arrayLen 338=24:=by simp [Program.arrayLen,Tryz.underlying338]
  have hsl1:∀ W,(Instr.sliceAt 338 (.pointer (some ⟨w.heap.size,0,none⟩)) none (some (.int .i64 (Go.Lib.nDigits u:Int))) none).run Tryz.prog W = .ok (.slice (some ⟨w.heap.size,0,none⟩) (Go.Lib.nDigits u) 24) W:=fun W=>by
   rw [run_sliceAt_array_h W 338 ⟨w.heap.size,0,none⟩ (by simp [Program.arrayLen,Program.elem,Tryz.underlying338]) .i64 (Go.Lib.nDigits u:Int) (by omega) (by rw [hal]; omega)]
   go_simp
   try omega
  have hH0:=Go.Lib.holds_zero0 w 338 (Go.Lib.nDigits u) (by omega)
  have hfmt:=Tryz.internal_strconv_formatBase10 w.heap.size 0 24 u (Array.replicate (Go.Lib.nDigits u) 0) (w.alloc (.cells Go.Lib.zeros24 338)) hH0 (by rw [Array.size_replicate]; exact Go.Lib.lt_pow_nDigits u) hu64 (by rw [Array.size_replicate]; omega)
  rw [Array.size_replicate] at hfmt
  have HH0:=Lib.hid hH0
  clear hH0 hal
  go_enter Tryz.func254,Tryz.ntmps254
  go_wp2_with (first
   | (go_at_call 294; refine (Tryz.internal_strconv_numDigits u hu1 hu64 _ (Go.Lib.tabIs_alloc htab _)).mono ?_; rintro e w' ⟨rfl,rfl⟩))
  go_at_call 295
  refine hfmt.mono ?_
  rintro e w' ⟨rfl,k,v',dk,rfl,hF⟩
  have hcv:(convert 191 9 (.slice (some ⟨w.heap.size,0,none⟩) (Go.Lib.nDigits u) 24)).run Tryz.prog ((putRow (fun (b:UInt8)=>Value.int .u8 (b.toNat:Int)) (w.alloc (.cells Go.Lib.zeros24 338)) w.heap.size 0 dk).drewN k) = .ok (.string ⟨(Go.Lib.decDigits u).toArray⟩) ((putRow (fun (b:UInt8)=>Value.int .u8 (b.toNat:Int)) (w.alloc (.cells Go.Lib.zeros24 338)) w.heap.size 0 dk).drewN k):=by
   have h:=run_convert_bytes_back (P:=Tryz.prog) ((putRow (fun (b:UInt8)=>Value.int .u8 (b.toNat:Int)) (w.alloc (.cells Go.Lib.zeros24 338)) w.heap.size 0 dk).drewN k) 191 9 5 ⟨w.heap.size,0,none⟩ 24 (Go.Lib.decDigits u) Tryz.underlying191 Tryz.underlying5 Tryz.underlying9 (fun j hj=>by
    rw [Go.Lib.row_is_numeral hF j hj,Go.Lib.add_plain,World.cell?_drewN]
    exact cell?_putRow (fun (b:UInt8)=>Value.int .u8 (b.toNat:Int)) _ w.heap.size 0 _ dk HH0.out (by rw [hF.size,Array.size_replicate]) j (by rw [hF.size]; rw [Go.Lib.decDigits_length] at hj; exact hj))
   rw [Go.Lib.decDigits_length] at h
   exact h
  go_wp2
  go_ret
  obtain ⟨os,eo⟩:=Go.Lib.fin_at w (.cells Go.Lib.zeros24 338) dk k 0
  refine ⟨rfl,?_⟩
  rw [eo]
  exact ((Grew.refl _).drewN k).grow os
end
theorem asL {c:Ctx} {name:String} {k:IntKind} {zs:List Int} (hB:Base w0 c) (hT:Go.Lib.TabIs Tryz.prog w0 name k zs):Go.Lib.TabIs Tryz.prog c.w name k zs:=by
 unfold Go.Lib.TabIs World.var? at hT ⊢
 rw [Option.bind_eq_some_iff] at hT ⊢
 obtain ⟨g,hg,hT⟩:=hT
 refine ⟨g,hg,?_⟩
 have hlt:g<w0.heap.size:=by
  rcases Nat.lt_or_ge g w0.heap.size with h1 | h1
  ·exact h1
  ·simp [Array.getElem?_eq_none h1] at hT
 rw [(hB g hlt).2]; exact hT
theorem atS (u:Nat) (hu64:u<18446744073709551616) (w:World) (htab:Go.Lib.TabIs Tryz.prog w "internal/strconv.uint64pow10" .u64 Go.Lib.pow10Tab) :
  Calls Tryz.prog 217 #[.int .u64 u,.int .i64 10] w fun e w'=>e = .returned (.string ⟨(Go.Lib.decDigits u).toArray⟩)∧Grew w w':=by
 have HT:=Lib.hid htab
 clear htab
 go_enter Tryz.func217,Tryz.ntmps217
 go_wp2_with (go_at_call 254; refine (atQ u hu64 _ HT.out).mono ?_; rintro e w' ⟨rfl,hgr⟩)
 go_ret
 exact ⟨rfl,by assumption⟩
theorem axR (hT:Go.Lib.TabIs Tryz.prog w0 "internal/strconv.uint64pow10" IntKind.u64 Go.Lib.pow10Tab):jD Tryz.prog w0 ji ado:=by
 intro args m r m' h
 unfold ado at h
 split at h <;> try (simp at h; done)
 rename_i x
 split at h <;> try (simp at h; done)
 rename_i hx
 simp only [Option.some.injEq,Prod.mk.injEq] at h
 obtain ⟨rfl,rfl⟩:=h
 refine JE (here _ _ Tryz.func217 (by kernel_rfl)) fun cx vs hB hi hr=>?_
 obtain ⟨v,u,rfl,hv,hu⟩:=X8 hr
 have := hv.cu
 have := hu.cu
 subst v u
 obtain ⟨h0,h1⟩:=hx
 have e1:((x.toNat:Nat):Int)=x:=by omega
 have hc:=atS x.toNat (by omega) cx.w (asL hB hT)
 rw [e1] at hc
 refine ⟨_,fun c'=>Hl _,?_⟩
 rw [ai1 (Nat.lt_of_lt_of_le (show x.toNat<18446744073709551616 by omega) (by decide))]
 exact hc
def aDb (w:World):Prop:=∀ j,j<Go.Lib.deBruijn64tab.length→w.cell? ⟨9,j,none⟩=some (.int .u8 (Go.Lib.deBruijn64tab.getD j 0))
set_option maxHeartbeats 1000000 in
theorem tz64_core (x k idx:Nat) (w:World) (hx0:((x:Int)==0)=false)
  (key:IntKind.u64.wrap (bits BinOp.and IntKind.u64 (x:Int) (IntKind.u64.wrap (-(x:Int)))*285870213051353865) / 288230376151711744=(idx:Int))
  (hi:idx<64) (hk:k<64) (hcell:w.cell? ⟨9,idx,none⟩=some (.int .u8 k)) :
  Calls Tryz.prog 306 #[.int .u64 x] w fun e w'=>e = .returned (.int .i64 k)∧w'=w:=by
 go_enter Tryz.func306,Tryz.ntmps306
 go_wp2_with (simp only [key])
 go_ret
 exact ⟨rfl,rfl⟩
theorem tz64_zero (w:World):Calls Tryz.prog 306 #[.int .u64 0] w fun e w'=>e = .returned (.int .i64 64)∧w'=w:=by
 go_enter Tryz.func306,Tryz.ntmps306
 go_wp2
 go_ret
 exact ⟨rfl,rfl⟩
theorem aoO:∀ (f x:Nat),trail f x=Go.Lib.ctzFrom f x
 | 0,x=>rfl
 | f+1,x=>by
   unfold trail Go.Lib.ctzFrom
   rw [aoO f (x / 2)]
   split
   ·rfl
   ·omega
theorem amh:∀ f,trail f 0=f
 | 0=>rfl
 | f+1=>by unfold trail; simp [amh f]
theorem aus (hT:aDb w0):jD Tryz.prog w0 bits_TrailingZeros64 Vw:=by
 intro args m r m' h
 unfold Vw at h
 split at h <;> try (simp at h; done)
 rename_i x
 split at h <;> try (simp at h; done)
 rename_i hx
 simp only [Option.some.injEq,Prod.mk.injEq] at h
 obtain ⟨rfl,rfl⟩:=h
 obtain ⟨h0,h1⟩:=hx
 refine JE (here _ _ Tryz.func306 (by kernel_rfl)) fun cx vs hB hi hr=>?_
 obtain ⟨v,rfl,hv⟩:=LM hr
 have := hv.cu
 subst v
 refine ⟨_,fun c'=>zT _ _,?_⟩
 have e1:((x.toNat:Nat):Int)=x:=by omega
 generalize hn:x.toNat=n at *
 subst x
 have hlt:n<18446744073709551616:=by omega
 by_cases hn0:n=0
 ·subst hn0
  rw [amh]
  refine (tz64_zero cx.w).mono ?_
  rintro e w' ⟨rfl,rfl⟩
  exact ⟨rfl,Grew.refl _⟩
 ·obtain ⟨hlow,hk⟩:=Go.Lib.lowest_bit 64 n hn0 hlt
  obtain ⟨hi',htab⟩:=Go.Lib.deBruijn64_at _ hk
  have hcell:=aaC hB (hT _ hi')
  rw [htab] at hcell
  refine (tz64_core n _ _ cx.w (by simp; omega) (tz64_key n _ hlt hn0 hlow) hi' hk hcell).mono ?_
  rintro e w' ⟨rfl,rfl⟩
  refine ⟨?_,Grew.refl _⟩
  rw [aoO,show Go.Lib.ctz 64 n=Go.Lib.ctzFrom 64 n from if_neg hn0]
end Go.Ev.Code
end
section
namespace Go.Ev.Code
open Go Go.Ev Go.Proofs Go.RowKit Go.Extern
variable {w0:World}
theorem aEl:(Tryz.prog.info? 113).map (fun i=>(i.zero,i.size,i.bytes))=some (some (.int .u64 0),1,8):=by kernel_rfl
theorem aEE (w:World):(Go.sizeOf 113).run Tryz.prog w = .ok 1 w:=by kernel_rfl
theorem anQ (b off n c:Nat) (news:List Value) (w:World) (hl:news.length=n) (hn:n≤4294967296) (hc:∀ (j:Nat) (u:Value),news[j]?=some u→w.cell? ⟨b,off+j,none⟩=some u) (ho:∀ u∈news,u.oneCell'=true) :
  Calls Tryz.prog dV #[.slice (some ⟨b,off,none⟩) n c] w fun e w'=>∃ v',e = .returned v'∧w'.ownsRow w.heap.size 113 1 v' n news∧v' ≠ .slice none 0 0∧Below w.heap.size w w':=by
 obtain ⟨i0,hi,hz0,hz1,hz2⟩:=info_parts aEl
 exact Tryz.slices_Clone i0 (.int .u64 0) 1 8 hi hz0 hz1 hz2 rfl (by decide) aEE b off n c news w (by omega) (by unfold maxLen; omega) (by omega) hc ho
theorem azt:jD Tryz.prog w0 dV ahv:=by
 have hfn:rX Tryz.prog dV:=here _ _ Tryz.func214 (by kernel_rfl)
 intro args m r m' h
 unfold ahv at h
 split at h <;> try (simp at h; done)
 ·simp only [Option.some.injEq,Prod.mk.injEq] at h
  obtain ⟨rfl,rfl⟩:=h
  refine fun cx vs hB hi hr => .inl ⟨hfn,?_⟩
  obtain ⟨v,rfl,hv⟩:=LM hr
  rcases hv.GH with ⟨_,_,rfl⟩ | ⟨blk,st,cap,vals,T,fr,g,rfl,hcap,hS,hb,hg,hgr⟩
  ·refine (Tryz.slices_Clone_nil 0 0 cx.w).mono ?_
   rintro e w' ⟨rfl,rfl⟩
   exact ⟨_,cx,rfl,rfl,.b_ _ _ .sl0,hi,.refl cx m⟩
  ·refine (anQ blk st 0 cap [] cx.w rfl (by decide) (fun j u hu=>by simp at hu) (fun u hu=>by simp at hu)).mono ?_
   rintro e w' ⟨v',rfl,hown,hne,hbl⟩
   rcases hown.2 with ⟨rfl,_⟩ | ⟨gb,cp,cur,rfl,hge,hgb,hle,_,_,_⟩
   ·exact absurd rfl hne
   ·obtain ⟨h1,h2⟩:=hi.more (fun b=>cx.S b∨b=gb) w' (fun _ h => .inl h) (fun b h=>h.imp id (fun e=>by omega)) (by
     rintro b (h | rfl)
     ·exact Nat.lt_of_lt_of_le (hi.lt b h) hbl.size
     ·exact lt_of_heap hgb) hbl.size hbl.block ⟨hbl.os,hbl.output⟩
    refine ⟨_,_,rfl,rfl,?_,h1,h2⟩
    refine .b_ _ _ ?_
    exact .sl 0 [] gb 0 cp cur 113 _ (fun _ => .nilIface) (.inr rfl) (Nat.zero_le _) hgb (fun j hj=>by simp at hj) (fun j d hd=>by simp at hd)
 ·rename_i n cs _
  split at h <;> try (simp at h; done)
  rename_i hc
  obtain ⟨hpos,hlen,hmax⟩:=hc
  simp only [Option.some.injEq,Prod.mk.injEq] at h
  obtain ⟨rfl,rfl⟩:=h
  refine fun cx vs hB hi hr => .inl ⟨hfn,?_⟩
  obtain ⟨v,rfl,hv⟩:=LM hr
  rcases hv.GH with ⟨h0,_,_⟩ | ⟨blk,st,cap,vals,T,fr,g,rfl,hcap,hS,hb,hg,hgr⟩
  ·omega
  ·have hnews:∀ j:Nat,j<n→((List.range n).map g)[j]?=some (g j):=fun j hj=>by simp [hj]
   refine (anQ blk st n cap ((List.range n).map g) cx.w (by simp) hmax (fun j u hu=>?_) (fun u hu=>?_)).mono ?_
   ·have hj:j<n:=by simpa using (List.getElem?_eq_some_iff.1 hu).1
    rw [hnews j hj] at hu
    obtain rfl:=Option.some.inj hu
    have := (hg j (by omega)).1
    simpa [World.cell?,hb] using this
   ·obtain ⟨j,hj,rfl⟩:=List.mem_map.1 hu
    exact (hg j (by have := List.mem_range.1 hj; omega)).2
   ·rintro e w' ⟨v',rfl,hown,hne,hbl⟩
    rcases hown.2 with ⟨rfl,_⟩ | ⟨gb,cp,cur,rfl,hge,hgb,hle,_,hsz,htk⟩
    ·exact absurd rfl hne
    ·obtain ⟨h1,h2⟩:=hi.more cx.S w' (fun _ h=>h) (fun _ h => .inl h) (fun b h=>Nat.lt_of_lt_of_le (hi.lt b h) hbl.size) hbl.size hbl.block ⟨hbl.os,hbl.output⟩
     have hcur:∀ j:Nat,j<n→cur[0+j]?=some (g j):=fun j hj=>by
      have := hnews j hj
      rw [← htk,List.getElem?_take,if_pos (by omega)] at this
      simpa using this
     have h1g:=h1.grow 1
     have hfree:(m++List.replicate 1 Slot.free)[m.length]?=some .free:=by simp
     have hnm:∀ b,Nu cx m b→b<cx.w.heap.size:=by
      rintro b (⟨i,cells,hm,rfl⟩ | ⟨i,ks,hm,rfl⟩)
      ·obtain ⟨_,_,_,_,hb',_⟩:=hi.live i cells hm
       exact lt_of_heap hb'
      ·obtain ⟨_,_,_,_,hb',_⟩:=hi.maps i ks hm
       exact lt_of_heap hb'
     obtain ⟨c',hw,hi',hext,hmut,hS',hL',hβ',hz'⟩:=h1g.ap4 hfree gb 0 (fun h=>by have := hi.lt gb h; omega) (fun h=>by have := hnm gb h.grow; omega) cs cur 113 w' rfl (fun _ _=>rfl) hgb (fun j d hd=>by
      have hj:j<cs.length:=(List.getElem?_eq_some_iff.1 hd).1
      exact ⟨g j,hcur j (by omega),(Rep.b_ _ _ (hgr j d hd):Rep cx d (g j)).mono h2.ext,(hg j hj).2⟩)
     have hset:(m++List.replicate 1 Slot.free).set m.length (.live cs)=m++[.live cs]:=by
      rw [List.set_append_right _ _ (Nat.le_refl _)]; simp
     rw [hset] at hi' hmut
     refine ⟨_,c',rfl,hw,?_,hi',?_⟩
     ·have hrep:=Rep.aO (c:=c') m.length 0 n 1 cp ⟨gb,0,none⟩ hL' hle ⟨by rw [hβ'],rfl⟩ (.inr ⟨by rw [hβ'],by rw [hβ',hz']; simp; omega⟩)
      exact hrep
     ·refine ⟨h2.ext.trans hext,by rw [hw]; exact hbl.size,fun b hb' _=>by rw [hw]; exact hbl.block b hb',fun b hb'=>?_,fun b hb' => .inl (by rw [hS'] at hb'; exact hb'),by rw [hw]; exact ⟨hbl.os,hbl.output⟩⟩
      rcases hmut b hb' with rfl | hm
      ·exact .inl hge
      ·exact .inr hm.grow
end Go.Ev.Code
end
