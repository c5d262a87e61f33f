/- A part of the proof of priceWait_card. -/
import Derived.Shelf.Strings.SlTrimAscii
import Derived.Shelf.Spec.BitsCarry
import Derived.Shelf.Spec.TrailingZeros
import Derived.Test.YtlnjbdkgdocjeaaGreatDoorCPrimsA
import Derived.Test.YtlnjbdkgdocjeaaGreatDoorCShelf
set_option linter.unusedVariables false
set_option linter.unusedSimpArgs false
namespace Go.Ev.Code
open Go Go.Ev Go.Proofs Go.RowKit Go.Extern
def Grew (w w':World):Prop:=Out w w'∧w.heap.size≤w'.heap.size∧∀ b,b<w.heap.size→w'.heap[b]?=w.heap[b]?
theorem amo (n:Nat):∀ (w:World),(w.drewN n).heap=w.heap∧(w.drewN n).os=w.os∧(w.drewN n).output=w.output:=by
 induction n with
 | zero=>intro w; exact ⟨rfl,rfl,rfl⟩
 | succ n ih =>
   intro w
   obtain ⟨h1,h2,h3⟩:=ih w
   refine ⟨?_,?_,?_⟩ <;> first | exact h1 | exact h2 | exact h3 | (simp [World.drewN] at *; first | exact h1 | exact h2 | exact h3)
theorem Grew.drewN {w w':World} (h:Grew w w') (n:Nat):Grew w (w'.drewN n):=by
 obtain ⟨h1,h2,h3⟩:=amo n w'
 exact ⟨⟨h2.trans h.1.1,h3.trans h.1.2⟩,by rw [h1]; exact h.2.1,fun b hb=>by rw [h1]; exact h.2.2 b hb⟩
theorem Grew.refl (w:World):Grew w w:=⟨.refl w,Nat.le_refl _,fun _ _=>rfl⟩
theorem Grew.trans {a b c:World} (h:Grew a b) (k:Grew b c):Grew a c :=
 ⟨h.1.trans k.1,Nat.le_trans h.2.1 k.2.1,fun i hi=>(k.2.2 i (Nat.lt_of_lt_of_le hi h.2.1)).trans (h.2.2 i hi)⟩
theorem Grew.alloc {w w':World} (h:Grew w w') (o:Obj):Grew w (w'.alloc o) :=
 h.trans ⟨⟨rfl,rfl⟩,by simp,fun b hb=>Below.heap_alloc _ _ _ hb⟩
theorem Grew.grow {w w':World} (h:Grew w w') (os:Array Obj):Grew w (Sort.grow w' os) :=
 h.trans ⟨⟨rfl,rfl⟩,by simp [Sort.grow],fun b hb=>by
   show (w'.heap++os)[b]?=_
   rw [Array.getElem?_append_left hb]⟩
theorem Grew.freeze {w w':World} (h:Grew w w') {a:Addr} (ha:w.heap.size≤a.block) (n:Nat):Grew w (w'.freeze a n):=by
 unfold World.freeze
 split
 ·exact h
 ·refine ⟨⟨h.1.1,h.1.2⟩,by simpa using h.2.1,fun b hb=>?_⟩
  rw [← h.2.2 b hb]
  simp only [Array.getElem?_modify]
  rw [if_neg (by omega)]
theorem BN {P:Program} {w0:World} {f:Nat} {args:List D} {m:Mem} {r:D} (hfn:mW P f)
  (h:∀ (c:Ctx) (vs:List Value),Base w0 c→Inv c m→bU c args vs→∃ v,(∀ c':Ctx,Rep c' r v)∧Calls P f vs.toArray c.w fun e w'=>e = .returned v∧Grew c.w w'):AO P w0 f args m r m:=by
 refine fun c vs hB hi hr => .inl ⟨hfn,?_⟩
 obtain ⟨v,hv,hc⟩:=h c vs hB hi hr
 refine hc.mono ?_
 rintro e w' ⟨rfl,ho,hs,hb⟩
 obtain ⟨h1,h2⟩:=hi.more c.S w' (fun _ h=>h) (fun _ h => .inl h) (fun b hb=>Nat.lt_of_lt_of_le (hi.lt b hb) hs) hs hb ho
 exact ⟨v,{ c with w:=w' },rfl,rfl,hv _,h1,h2⟩
variable {w0:World}
theorem here (f:Nat) (fn:Func) (h1:Tryz.prog.funcs[f]?=some fn) (h2:(fn.body.isSome && !(fn.name == "runtime.NumGoroutine"))=true):mW Tryz.prog f:=by
 simp only [Bool.and_eq_true,Bool.not_eq_true'] at h2
 exact ⟨fn,h1,h2.1,h2.2⟩
theorem aqt:gQ Tryz.prog w0 bits_Mul64 Vm:=amO (here _ _ Tryz.func143 (by kernel_rfl)) fun x y hx hy w=>Tryz.bits_Mul64 x y hx hy w
theorem amK:gQ Tryz.prog w0 bits_LeadingZeros64 JA:=aiY (here _ _ Tryz.func207 (by kernel_rfl)) fun x w h0 h1=>Tryz.bits_LeadingZeros64 x w h0 h1
theorem apw:gQ Tryz.prog w0 bits_Add64 Vk:=ame fun x y k hk w=>by
 show (callFunc 144 _).run Tryz.prog w=_
 rw [run_callFunc_extern Tryz.func144 (by kernel_rfl) (by kernel_rfl) (by kernel_rfl) (e:=add64Entry) (by kernel_rfl),run_add64 x y k (by omega) (by omega) (by omega) (by omega)]
 simp only [Result.andThen]
 congr 5 <;> omega
theorem arl:gQ Tryz.prog w0 bits_Sub64 Vo:=anh fun x y k hk w=>by
 show (callFunc 156 _).run Tryz.prog w=_
 rw [run_callFunc_extern Tryz.func156 (by kernel_rfl) (by kernel_rfl) (by kernel_rfl) (e:=sub64Entry) (by kernel_rfl),run_sub64 x y k hk]
 rfl
theorem aik:gQ Tryz.prog w0 strings_CutPrefix C9:=aeH (here _ _ Tryz.func173 (by kernel_rfl)) fun s p w=>Tryz.strings_CutPrefix s p w
theorem alb:gQ Tryz.prog w0 jo F7:=ahu (here _ _ Tryz.func175 (by kernel_rfl)) fun s c hc w=>Tryz.strings_TrimLeft_one s c hc w
theorem aoS:gQ Tryz.prog w0 strings_Repeat OA:=ak9 (here _ _ Tryz.func149 (by kernel_rfl)) fun s c w h1 h2=>Tryz.strings_Repeat s c w h1 h2
theorem asN:gQ Tryz.prog w0 strings_Join WQ:=by
 intro args m r m' h
 refine aom (here _ _ Tryz.func151 (by kernel_rfl)) (fun a c sep w=>Tryz.strings_Join_none a c sep w) (fun bk o c xs sep w h1 h2 h3 h4 h5=>Tryz.strings_Join bk o c xs sep w h1 h2 h3 h4 h5) args m r m' h ?_
 unfold WQ at h
 split at h <;> try (simp at h; done)
 rename_i n cs sep
 rw [Option.bind_eq_some_iff] at h
 obtain ⟨ss,hss,h⟩:=h
 split at h <;> try (simp at h; done)
 rename_i hu
 exact ⟨n,cs,sep,rfl,by have := hu.1; have := hu.2.1; omega⟩
theorem aaT (c:UInt8):∀ (s acc:List UInt8),cutAt c acc s=if 0≤Go.Lib.index s [c] then some (acc.reverse++s.take (Go.Lib.index s [c]).toNat,s.drop ((Go.Lib.index s [c]).toNat+1)) else none
 | [],acc=>by simp [cutAt,Go.Lib.index]
 | b::l,acc=>by
   have hge:=Go.Lib.index_ge l [c]
   unfold cutAt Go.Lib.index
   by_cases hb:b=c
   ·subst hb
    simp
   ·have h1:(b==c)=false:=by simpa using hb
    have h2:(c==b)=false:=by simpa using fun e=>hb e.symm
    rw [aaT c l (b::acc)]
    simp only [h1,List.isPrefixOf,h2,Bool.false_and,if_false,Bool.false_eq_true]
    by_cases hi:Go.Lib.index l [c] = -1
    ·simp [hi]
    ·have h0:0≤Go.Lib.index l [c]:=by omega
     have h3:(Go.Lib.index l [c] == -1)=false:=by simpa using hi
     have h4:(Go.Lib.index l [c]+1).toNat=(Go.Lib.index l [c]).toNat+1:=by omega
     simp only [h3,Bool.false_eq_true,if_false,if_pos h0,if_pos (show 0≤Go.Lib.index l [c]+1 by omega),h4]
     simp
def anz (w:World):Prop:=∃ m:Int,w.cell? ⟨4,0,none⟩=some (.int .i64 m)
theorem auF (hM:anz w0):gQ Tryz.prog w0 strings_Cut ajl:=by
 intro args m r m' h
 unfold ajl at h
 split at h <;> try (simp at h; done)
 rename_i s sep
 split at h <;> try (simp at h; done)
 rename_i hl
 have hr:r = .aH [.str (Go.Lib.cut s [sep]).1,.str (Go.Lib.cut s [sep]).2.1,.bool (Go.Lib.cut s [sep]).2.2]∧m'=m:=by
  rw [aaT] at h
  unfold Go.Lib.cut
  split at h
  ·rename_i a b he
   split at he <;> simp at he
   rename_i h0
   obtain ⟨rfl,rfl⟩:=he
   simp only [Option.some.injEq,Prod.mk.injEq] at h
   simp [h0,← h.1,h.2]
  ·rename_i he
   split at he <;> simp at he
   rename_i h0
   simp only [Option.some.injEq,Prod.mk.injEq] at h
   simp [h0,← h.1,h.2]
 obtain ⟨rfl,rfl⟩:=hr
 refine BN (here _ _ Tryz.func152 (by kernel_rfl)) fun cx vs hB hi hr=>?_
 obtain ⟨v,u,rfl,hv,hu⟩:=Oo hr
 have := hv.gu
 have := hu.gu
 subst v u
 obtain ⟨mx,hmx⟩:=hM
 refine ⟨_,fun c'=>aqJ (zU _) (zU _) (acB _),(Tryz.strings_Cut ⟨s.toArray⟩ ⟨#[sep]⟩ mx cx.w (by simpa [ByteArray.size] using hl) (Rz hB hmx)).mono ?_⟩
 rintro e w' ⟨rfl,n,rfl⟩
 exact ⟨by simp,(Grew.refl _).drewN n⟩
theorem anl (cs:ByteArray) (w:World):Calls Tryz.prog 174 #[.string ⟨#[]⟩,.string cs] w fun e w'=>e = .returned (.string ⟨#[]⟩)∧Grew w w':=by
 have h1:((⟨#[]⟩:ByteArray).toList.isEmpty)=true:=by rw [Go.Lib.toList_data]; rfl
 go_enter Tryz.func174,Tryz.ntmps174
 go_wp2
 go_ret
 exact ⟨rfl,Grew.refl _⟩
theorem aua:∀ w,(zeroValue 289).run Tryz.prog w = .ok (.agg (Array.replicate 256 (.bool false))) w:=fun w=>by kernel_rfl
theorem ald (s:List UInt8):Go.Lib.trimS s jQ=strip (fun b=>jQ.contains b) (strip (fun b=>jQ.contains b) s.reverse).reverse:=by
 simp only [Go.Lib.trimS,Go.Lib.trimLeftS,Go.Lib.trimRightS,ajP]
theorem atW:gQ Tryz.prog w0 oP pTrim:=by
 intro args m r m' h
 unfold pTrim at h
 split at h <;> try (simp at h; done)
 rename_i s cs
 split at h <;> try (simp at h; done)
 rename_i hu
 obtain ⟨rfl,hl⟩:=hu
 simp only [Option.some.injEq,Prod.mk.injEq] at h
 obtain ⟨rfl,rfl⟩:=h
 refine BN (here _ _ Tryz.func174 (by kernel_rfl)) fun cx vs hB hi hr=>?_
 obtain ⟨v,u,rfl,hv,hu⟩:=Oo hr
 have := hv.gu
 have := hu.gu
 subst v u
 refine ⟨_,fun c'=>zU _,?_⟩
 rw [← ald]
 cases s with
 | nil=>exact anl _ _
 | cons b bs =>
   refine (Any.strings_Trim_set Tryz.lays160 aua (by kernel_rfl) ⟨(b::bs).toArray⟩ ⟨jQ.toArray⟩ cx.w (by decide) (by simp [ByteArray.size]) (by simp [ByteArray.size] at hl ⊢; omega) (by decide) (fun j b hb=>?_)).mono ?_
   ·have : ∀ x∈jQ,x.toNat<128:=by decide
    exact this b (List.mem_of_getElem? hb)
   ·rintro e w' ⟨rfl,q,rfl⟩
    exact ⟨rfl,(((Grew.refl _).alloc _).alloc _).drewN q⟩
theorem Xt:∀ (f n:Nat) (acc:List UInt8),n<10^(f+1)→decDigits (f+1) n acc=Go.Lib.decDigits n++acc
 | 0,n,acc,h=>by
   have h10:n<10:=by simpa using h
   have : n / 10=0:=by omega
   have e:n % 10=n:=by omega
   rw [Go.Lib.decDigits,dif_pos h10]
   unfold decDigits
   rw [if_pos this,e]; rfl
 | f+1,n,acc,h=>by
   rw [Go.Lib.decDigits]
   unfold decDigits
   by_cases h10:n<10
   ·have : n / 10=0:=by omega
    have e:n % 10=n:=by omega
    rw [if_pos this,dif_pos h10,e]; rfl
   ·have : ¬ n / 10=0:=by omega
    rw [if_neg this,dif_neg h10,Xt f (n / 10) _ (by rw [Nat.pow_succ] at h; omega)]
    simp
theorem aaU {n:Nat} (h:n<10^100):zG n=Go.Lib.decDigits n:=by
 unfold zG
 rw [Xt 99 n [] h]; simp
theorem alC (hT:Go.Lib.TabIs Tryz.prog w0 "internal/strconv.uint64pow10" IntKind.u64 Go.Lib.pow10Tab):gQ Tryz.prog w0 strconv_Itoa ahE:=by
 intro args m r m' h
 unfold ahE at h
 split at h <;> try (simp at h; done)
 rename_i n
 split at h <;> try (simp at h; done)
 rename_i hn
 simp only [Option.some.injEq,Prod.mk.injEq] at h
 obtain ⟨rfl,rfl⟩:=h
 refine BN (here _ _ Tryz.func223 (by kernel_rfl)) fun cx vs hB hi hr=>?_
 obtain ⟨v,rfl,hv⟩:=Dj hr
 have := hv.bg
 subst v
 have hlt:n.natAbs<10^100:=Nat.lt_of_le_of_lt (show n.natAbs≤9223372036854775808 by omega) (by decide)
 have he:(if n<0 then 45::zG n.natAbs else zG n.natAbs)=Go.Lib.itoa n:=by
  unfold Go.Lib.itoa
  rw [aaU hlt]
  split
  ·rfl
  ·rw [show n.natAbs=n.toNat by omega]
 refine ⟨_,fun c'=>zU _,?_⟩
 rw [he]
 have hT':Go.Lib.TabIs Tryz.prog cx.w "internal/strconv.uint64pow10" IntKind.u64 Go.Lib.pow10Tab:=by
  unfold Go.Lib.TabIs World.var? at hT ⊢
  rw [Option.bind_eq_some_iff] at hT ⊢
  obtain ⟨g,hg,hT⟩:=hT
  refine ⟨g,hg,?_⟩
  have hlt:g<w0.heap.size:=by
   rcases Nat.lt_or_ge g w0.heap.size with h1 | h1
   ·exact h1
   ·simp [Array.getElem?_eq_none h1] at hT
  rw [(hB g hlt).2]; exact hT
 refine (Tryz.strconv_Itoa n hn.1 hn.2 cx.w hT').mono ?_
 rintro e w' ⟨rfl,k,os,rfl⟩
 exact ⟨rfl,((Grew.refl _).drewN k).grow os⟩
theorem af_:∀ (s:List UInt8) (acc n:Nat),acc*10^s.length+10^s.length≤10^18→Es acc s=some n→Go.Lib.parseUintM (2^64-1) acc s = .ok n
 | [],acc,n,hb,h=>by
   simp [Es] at h
   subst h
   rfl
 | b::bs,acc,n,hb,h=>by
   unfold Es at h
   split at h <;> try (simp at h; done)
   rename_i hd
   have hp:1≤10^bs.length:=Nat.one_le_pow _ _ (by decide)
   have h1:acc*10+(b.toNat-48)+1≤acc*10+10:=by omega
   have h2:(acc*10+(b.toNat-48)+1)*10^bs.length≤(acc*10+10)*10^bs.length:=Nat.mul_le_mul_right _ h1
   have h3:(acc*10+10)*10^bs.length=acc*10^(b::bs).length+10^(b::bs).length:=by
    simp only [List.length_cons,Nat.pow_succ,Nat.add_mul,Nat.mul_assoc]
    rw [Nat.mul_comm 10]
   have h4:(acc*10+(b.toNat-48))*10^bs.length+10^bs.length≤10^18:=by
    rw [Nat.add_mul,Nat.one_mul] at h2; omega
   have h5:acc*10+(b.toNat-48)+1≤10^18:=by
    refine Nat.le_trans (Nat.le_trans (Nat.le_mul_of_pos_right _ hp) h2) (by rw [h3]; exact hb)
   have h18:(10:Nat)^18=1000000000000000000:=by decide
   have h64:(2:Nat)^64-1=18446744073709551615:=by decide
   unfold Go.Lib.parseUintM
   rw [if_pos hd,if_neg (by omega),if_neg (by omega)]
   exact af_ bs _ n h4 h
theorem aqA:gQ Tryz.prog w0 iR Zp:=by
 intro args m r m' h
 unfold Zp at h
 split at h <;> try (simp at h; done)
 rename_i s
 split at h <;> try (simp at h; done)
 rename_i hs
 obtain ⟨hne,hl⟩:=hs
 rw [Option.bind_eq_some_iff] at h
 obtain ⟨n,hn,h⟩:=h
 simp only [Option.some.injEq,Prod.mk.injEq] at h
 obtain ⟨rfl,rfl⟩:=h
 refine BN (here _ _ Tryz.func202 (by kernel_rfl)) fun cx vs hB hi hr=>?_
 obtain ⟨v,u,t,rfl,hv,hu,ht⟩:=am6 hr
 have := hv.gu
 have := hu.bg
 have := ht.bg
 subst v u t
 have hp:Go.Lib.parseUintB 64 s = .ok n:=by
  unfold Go.Lib.parseUintB
  rw [if_neg hne]
  refine af_ s 0 n ?_ hn
  rw [Nat.zero_mul,Nat.zero_add]
  exact Nat.pow_le_pow_right (by decide) hl
 refine ⟨_,fun c'=>Qm (uz _ _) (.bG _ _ .bH),(Tryz.strconv_ParseUint_10_at64_ok ⟨s.toArray⟩ (by simp [ByteArray.size]; omega) n (by simpa using hp) cx.w).mono ?_⟩
 rintro e w' ⟨rfl,hw⟩
 refine ⟨rfl,?_⟩
 rcases hw with rfl | rfl
 ·exact Grew.refl _
 ·unfold Go.Lib.bytesWorld
  refine Grew.freeze (Grew.alloc ?_ _) (Nat.le_refl _) 1
  exact (Grew.refl cx.w).drewN 1
end Go.Ev.Code
