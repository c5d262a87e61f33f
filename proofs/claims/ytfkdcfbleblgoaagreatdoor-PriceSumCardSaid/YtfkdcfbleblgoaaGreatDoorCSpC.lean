/- A part of the proof of priceAll_card, yieldAll_card, priceSum_card, flowAll_card, accrAll_card. -/
import Derived.Test.YtfkdcfbleblgoaaGreatDoorCSpB
set_option linter.unusedVariables false
set_option linter.unusedSimpArgs false
section
namespace Go.Ev.Code
open Go Go.Ev
def dg (n:Nat):UInt8:=UInt8.ofNat (48+n)
def txt (n:Nat):List UInt8:=if h:n<10 then [dg n] else txt (n / 10)++[dg (n % 10)]
 termination_by n
 decreasing_by omega
def fV:Nat→Nat→List UInt8
 | 0,_=>[]
 | k+1,n=>fV k (n / 10)++[dg (n % 10)]
theorem oU {n:Nat} (h:n<10):txt n=[dg n]:=by rw [txt]; simp [h]
theorem JR {n:Nat} (h:10≤n):txt n=txt (n / 10)++[dg (n % 10)]:=by rw [txt]; simp [Nat.not_lt.2 h]
theorem ah1:∀ (k:Nat) {n:Nat},10^k≤n→txt n=txt (n / 10^k)++fV k (n % 10^k)
 | 0,n,_=>by simp [fV]
 | k+1,n,h=>by
   have h10:10≤n:=Nat.le_trans (by rw [Nat.pow_succ]; have := Nat.pow_pos (n:=k) (show 0<10 by decide); omega) h
   have h1:10^k≤n / 10:=by rw [Nat.le_div_iff_mul_le (by decide),← Nat.pow_succ]; exact h
   have e1:n % 10^(k+1) / 10=n / 10 % 10^k:=by
    rw [Nat.pow_succ,Nat.mul_comm,Nat.mod_mul_right_div_self]
   have e2:n % 10^(k+1) % 10=n % 10:=Nat.mod_mod_of_dvd _ (Nat.dvd_of_pow_dvd (show 1≤k+1 by omega) (Nat.dvd_refl _))
   rw [JR h10,ah1 k h1,Nat.div_div_eq_div_mul,← Nat.pow_succ',fV,e1,e2,List.append_assoc]
theorem xR (n:Nat):0<(txt n).length:=by
 rw [txt]; split <;> simp
theorem yu:∀ (k:Nat) {n:Nat},1≤k→n<10^k→(txt n).length≤k
 | 0,_,h,_=>by omega
 | k+1,n,_,h=>by
   by_cases h10:n<10
   ·rw [oU h10]; simp
   ·rw [JR (by omega)]
    have h1:n / 10<10^k:=by rw [Nat.div_lt_iff_lt_mul (by decide),← Nat.pow_succ]; exact h
    have hk:1≤k:=by
     rcases Nat.eq_zero_or_pos k with rfl | h
     ·simp at h1; omega
     ·exact h
    have := yu k hk h1
    simp; omega
theorem alH:∀ (k:Nat) {n:Nat},1≤k→n<10^k→fV k n=List.replicate (k-(txt n).length) 48++txt n
 | 0,_,h,_=>by omega
 | k+1,n,_,h=>by
   rw [fV]
   have h1:n / 10<10^k:=by rw [Nat.div_lt_iff_lt_mul (by decide),← Nat.pow_succ]; exact h
   by_cases h10:n<10
   ·rw [oU h10,Nat.div_eq_of_lt h10,Nat.mod_eq_of_lt h10]
    rcases Nat.eq_zero_or_pos k with rfl | hk
    ·simp [fV]
    ·rw [alH k hk (by exact Nat.pow_pos (by decide)),oU (by decide)]
     have e:dg 0=48:=by decide
     have : k+1-[dg n].length=(k-[dg 0].length)+1:=by simp; omega
     rw [this,List.replicate_succ',e]
   ·have hk:1≤k:=by
     rcases Nat.eq_zero_or_pos k with rfl | h
     ·simp at h1; omega
     ·exact h
    have e:k+1-(txt (n / 10)++[dg (n % 10)]).length=k-(txt (n / 10)).length:=by simp
    rw [alH k hk h1,JR (n:=n) (by omega),List.append_assoc,e]
theorem decDigits_eq:∀ (f n:Nat) (acc:List UInt8),1≤f→n<10^f→decDigits f n acc=txt n++acc
 | 0,_,_,h,_=>by omega
 | f+1,n,acc,_,h=>by
   unfold decDigits
   by_cases h10:n<10
   ·have : n / 10=0:=Nat.div_eq_of_lt h10
    rw [if_pos this,oU h10,Nat.mod_eq_of_lt h10]; rfl
   ·have hne:n / 10≠0:=by omega
    have h1:n / 10<10^f:=by rw [Nat.div_lt_iff_lt_mul (by decide),← Nat.pow_succ]; exact h
    have hf:1≤f:=by
     rcases Nat.eq_zero_or_pos f with rfl | h
     ·simp at h1; omega
     ·exact h
    rw [if_neg hne,decDigits_eq f _ _ hf h1,JR (n:=n) (by omega),List.append_assoc]; rfl
theorem avN {n:Nat} (h:n<10^100):GN n=txt n:=by
 unfold GN
 rw [decDigits_eq 100 n [] (by decide) h,List.append_nil]
theorem ayS:TT.fn ji=none:=by kernel_rfl
theorem ayU:TT.ku ji=ado:=by kernel_rfl
theorem ayT:TT.fn strings_Repeat=none:=by kernel_rfl
theorem ayV:TT.ku strings_Repeat=Ye:=by kernel_rfl
theorem aC7:TT.fn strings_Join=none:=by kernel_rfl
theorem aC_:TT.ku strings_Join=aeJ:=by kernel_rfl
theorem awX {n:Nat} (h:n<W):L.call ji [ak n,.int .i64 10]=some (.str (txt n)):=by
 have hp:TT.ku ji [ak n,.int .i64 10] []=some (.str (txt n),[]):=by
  rw [ayU]
  have : GN n=txt n:=avN (Nat.lt_trans h (by decide))
  simp [ado,LU h,this]
 exact Ls ayS hp (by simp)
theorem af8 {s:List UInt8} {n:Nat} (hn:n≤1000000) (hs:s.length≤1000):L.call strings_Repeat [.str s,.int .i64 n]=some (.str (List.replicate n s).flatten):=by
 have hp:TT.ku strings_Repeat [.str s,.int .i64 n] []=some (.str (List.replicate n s).flatten,[]):=by
  rw [ayV]
  have : (0:Int)≤n∧(n:Int)≤1000000:=by omega
  simp [Ye,this,hs]
 exact Ls ayT hp (by simp)
theorem ahe:∀ ss:List (List UInt8),EW [] ss=ss.flatten
 | []=>rfl
 | [x]=>by simp [EW]
 | x::y::xs=>by rw [EW,ahe (y::xs)]; simp
theorem avh:∀ ss:List (List UInt8),strs (ss.map D.str)=some ss
 | []=>rfl
 | s::ss=>by simp [strs,avh ss]
theorem aA6 {ss:List (List UInt8)} {sep:List UInt8} (h:(EW sep ss).length≤1000000) (hn:ss.length≤4294967296):L.call strings_Join [.sl ss.length (ss.map D.str),.str sep]=some (.str (EW sep ss)):=by
 have hp:TT.ku strings_Join [.sl ss.length (ss.map D.str),.str sep] []=some (.str (EW sep ss),[]):=by
  rw [aC_]
  simp [aeJ,avh,h,hn]
 exact Ls aC7 hp (by simp)
end Go.Ev.Code
end
section
namespace Go.Ev.Code
open Go Go.Ev
theorem au7 (pre:Mem) (c:Slot):(pre++[c])[pre.length]?=some c:=by
 rw [List.getElem?_append_right (Nat.le_refl _)]; simp
theorem au8 (pre:Mem) (c c':Slot):(pre++[c]).set pre.length c'=pre++[c']:=by
 rw [List.set_append_right _ _ (Nat.le_refl _)]; simp
def Yk (b:Nat) (cs:List D):Prop:=∀ d∈cs,D.clo b 12 d=true∧eH d=some [d]
theorem Yk.set {b:Nat} {cs:List D} (h:Yk b cs) {d:D} (hd:D.clo b 12 d=true∧eH d=some [d]) (i:Nat):Yk b (cs.set i d):=fun x hx=>by
 rcases List.mem_or_eq_of_mem_set hx with h1 | h1
 ·exact h x h1
 ·rw [h1]; exact hd
theorem Yk.all {b:Nat} {cs:List D} (h:Yk b cs):cs.all (D.clo b 12)=true:=by
 rw [List.all_eq_true]; exact fun x hx=>(h x hx).1
def Turned (l c:List D) (i j:Int):Prop:=c.length=l.length∧∀ k:Nat,k<l.length→c[k]?=if (k:Int)<i∨j<k then l[l.length-1-k]? else l[k]?
theorem awy {pre:Mem} {l:List D} (hp:pre.all (Us (pre.length+1))=true) (hL:l.length≤4000000000) :
  ∀ (n i:Nat) (j:Int) (c:List D),(j-i).toNat≤n→(i:Int)+j=(l.length:Int)-1→Yk (pre.length+1) c→Turned l c i j →
  L.loop [0,2,3] [] iK (pre.length+1) [.aO pre.length 0 l.length 1,.int .i64 i,.int .i64 j] (pre++[.live c])=some (.exit 0,[],pre++[.live l.reverse]):=by
 intro n
 have fin:∀ (i:Nat) (j:Int) (c:List D),¬ (i:Int)<j→(i:Int)+j=(l.length:Int)-1→Turned l c i j→c=l.reverse:=by
  intro i j c hlt hs ht
  apply List.ext_getElem?
  intro k
  by_cases hk:k<l.length
  ·rw [ht.2 k hk,List.getElem?_reverse hk]
   split
   ·rfl
   ·have : k=l.length-1-k:=by omega
    rw [← this]
  ·rw [List.getElem?_eq_none (by rw [ht.1]; omega),List.getElem?_eq_none (by simp; omega)]
 have base:∀ (i:Nat) (j:Int) (c:List D),¬ (i:Int)<j→(i:Int)+j=(l.length:Int)-1→Yk (pre.length+1) c→Turned l c i j→L.loop [0,2,3] [] iK (pre.length+1) [.aO pre.length 0 l.length 1,.int .i64 i,.int .i64 j] (pre++[.live c])=some (.exit 0,[],pre++[.live l.reverse]):=by
  intro i j c hlt hs hcl ht
  rw [fin i j c hlt hs ht] at hcl ⊢
  refine au (Gs ..) ?_
  have ha:=hcl.all
  have hd:decide ((i:Int)<j)=false:=by simpa using hlt
  have htk:(pre++[Slot.live l.reverse]).take (pre.length+1)=pre++[.live l.reverse]:=List.take_of_length_le (by simp)
  have hlr:l.reverse.all (D.clo (pre.length+1) 12)=l.all (D.clo (pre.length+1) 12):=List.all_reverse
  rw [hlr] at ha
  simp [vZ,hlt,ha,hp,htk]
 induction n with
 | zero=>intro i j c hn hs hcl ht; exact base i j c (by omega) hs hcl ht
 | succ n ih =>
   intro i j c hn hs hcl ht
   by_cases hlt:(i:Int)<j
   ·obtain ⟨jn,rfl⟩:∃ jn:Nat,j=jn:=⟨j.toNat,by omega⟩
    have hjl:jn<l.length:=by omega
    have hil:i<l.length:=by omega
    obtain ⟨x,hx⟩:∃ x,c[i]?=some x:=⟨c[i]'(by rw [ht.1]; exact hil),List.getElem?_eq_getElem _⟩
    obtain ⟨y,hy⟩:∃ y,c[jn]?=some y:=⟨c[jn]'(by rw [ht.1]; exact hjl),List.getElem?_eq_getElem _⟩
    have hcx:=hcl x (List.mem_of_getElem? hx)
    have hcy:=hcl y (List.mem_of_getElem? hy)
    have ht':Turned l ((c.set i y).set jn x) ((i+1:Nat):Int) ((jn:Int)-1):=by
     refine ⟨by simp [ht.1],fun k hk=>?_⟩
     have hi1:=ht.2 i hil
     have hj1:=ht.2 jn hjl
     rw [if_neg (by omega)] at hi1 hj1
     by_cases h1:k=jn
     ·subst h1
      rw [List.getElem?_set_self (by simp [ht.1]; omega),if_pos (by omega),← hx,hi1]
      congr 1; omega
     ·rw [List.getElem?_set_ne (by omega)]
      by_cases h2:k=i
      ·subst h2
       rw [List.getElem?_set_self (by rw [ht.1]; omega),if_pos (by omega),← hy,hj1]
       congr 1; omega
      ·rw [List.getElem?_set_ne (by omega),ht.2 k hk]
       by_cases h3:(k:Int)<i∨(jn:Int)<k
       ·rw [if_pos h3,if_pos (by omega)]
       ·rw [if_neg h3,if_neg (by omega)]
    have hcl':=(hcl.set hcy i).set hcx jn
    have h2:=ih (i+1) ((jn:Int)-1) ((c.set i y).set jn x) (by omega) (by omega) hcl' ht'
    refine au (Gs ..) ?_
    have e1:IntKind.i64.wrap ((i:Int)+1)=((i+1:Nat):Int):=by rw [wrap64 _ (by omega)]; omega
    have e2:IntKind.i64.wrap ((jn:Int)-1)=(jn:Int)-1:=wrap64 _ (by omega)
    have hlt':i<jn:=by omega
    have w1:i+1≤c.length:=by rw [ht.1]; omega
    have w2:jn+1≤c.length:=by rw [ht.1]; omega
    have ha:=hcl'.all
    have hcx2:∀ p:i<c.length,c[i]=x:=fun p=>by simpa using (List.getElem?_eq_some_iff.1 hx).2
    have hcy2:∀ p:jn<c.length,c[jn]=y:=fun p=>by simpa using (List.getElem?_eq_some_iff.1 hy).2
    have htk:∀ z,(pre++[z]).take (pre.length+1)=pre++[z]:=fun z=>List.take_of_length_le (by simp)
    generalize hi1:i+1=i1 at *
    simp (disch:=omega) [vZ,hlt',e1,e2,au7,au8,hx,hy,hcx.2,hcy.2,hcx2,hcy2,w1,w2,ha,hp,htk,lW,h2]
   ·exact base i j c hlt hs hcl ht
theorem aAd {pre:Mem} {l:List D} (hp:pre.all (Us (pre.length+1))=true) (hL:l.length≤4000000000) (hcl:Yk (pre.length+1) l) :
  L.bf slices_Reverse_string [.aO pre.length 0 l.length 1] (pre++[.live l])=some (.aG [],pre++[.live l.reverse]):=by
 have h:=awy hp hL _ 0 ((l.length:Int)-1) l (Nat.le_refl _) (by omega) hcl ⟨rfl,fun k hk=>by rw [if_neg (by omega)]⟩
 have h':L.loop [0,2,3] [] iK (pre.length+1) [.aO pre.length 0 l.length 1,.int .i64 0,.int .i64 ((l.length:Int)-1)] (pre++[.live l])=_:=h
 have e1:IntKind.i64.wrap ((l.length:Int)-1)=(l.length:Int)-1:=wrap64 _ (by omega)
 have htk:∀ z,(pre++[z]).take (pre.length+1)=pre++[z]:=fun z=>List.take_of_length_le (by simp)
 have ha:l.reverse.all (D.clo (pre.length+1) 12)=true:=by rw [List.all_reverse]; exact hcl.all
 refine oC (Z4 ..) ?_
 simp [L6,e1,h',hp,ha,htk]
theorem awx {pre:Mem} {l:List D} (hp:pre.all (Us (pre.length+1))=true) (hL:l.length≤4000000000) :
  ∀ (n i:Nat) (j:Int) (c:List D),(j-i).toNat≤n→(i:Int)+j=(l.length:Int)-1→Yk (pre.length+1) c→Turned l c i j →
  L.loop [0,2,3] [] jK (pre.length+1) [.aO pre.length 0 l.length 1,.int .i64 i,.int .i64 j] (pre++[.live c])=some (.exit 0,[],pre++[.live l.reverse]):=by
 intro n
 have fin:∀ (i:Nat) (j:Int) (c:List D),¬ (i:Int)<j→(i:Int)+j=(l.length:Int)-1→Turned l c i j→c=l.reverse:=by
  intro i j c hlt hs ht
  apply List.ext_getElem?
  intro k
  by_cases hk:k<l.length
  ·rw [ht.2 k hk,List.getElem?_reverse hk]
   split
   ·rfl
   ·have : k=l.length-1-k:=by omega
    rw [← this]
  ·rw [List.getElem?_eq_none (by rw [ht.1]; omega),List.getElem?_eq_none (by simp; omega)]
 have base:∀ (i:Nat) (j:Int) (c:List D),¬ (i:Int)<j→(i:Int)+j=(l.length:Int)-1→Yk (pre.length+1) c→Turned l c i j→L.loop [0,2,3] [] jK (pre.length+1) [.aO pre.length 0 l.length 1,.int .i64 i,.int .i64 j] (pre++[.live c])=some (.exit 0,[],pre++[.live l.reverse]):=by
  intro i j c hlt hs hcl ht
  rw [fin i j c hlt hs ht] at hcl ⊢
  refine au (LY ..) ?_
  have ha:=hcl.all
  have hd:decide ((i:Int)<j)=false:=by simpa using hlt
  have htk:(pre++[Slot.live l.reverse]).take (pre.length+1)=pre++[.live l.reverse]:=List.take_of_length_le (by simp)
  have hlr:l.reverse.all (D.clo (pre.length+1) 12)=l.all (D.clo (pre.length+1) 12):=List.all_reverse
  rw [hlr] at ha
  simp [zG,hlt,ha,hp,htk]
 induction n with
 | zero=>intro i j c hn hs hcl ht; exact base i j c (by omega) hs hcl ht
 | succ n ih =>
   intro i j c hn hs hcl ht
   by_cases hlt:(i:Int)<j
   ·obtain ⟨jn,rfl⟩:∃ jn:Nat,j=jn:=⟨j.toNat,by omega⟩
    have hjl:jn<l.length:=by omega
    have hil:i<l.length:=by omega
    obtain ⟨x,hx⟩:∃ x,c[i]?=some x:=⟨c[i]'(by rw [ht.1]; exact hil),List.getElem?_eq_getElem _⟩
    obtain ⟨y,hy⟩:∃ y,c[jn]?=some y:=⟨c[jn]'(by rw [ht.1]; exact hjl),List.getElem?_eq_getElem _⟩
    have hcx:=hcl x (List.mem_of_getElem? hx)
    have hcy:=hcl y (List.mem_of_getElem? hy)
    have ht':Turned l ((c.set i y).set jn x) ((i+1:Nat):Int) ((jn:Int)-1):=by
     refine ⟨by simp [ht.1],fun k hk=>?_⟩
     have hi1:=ht.2 i hil
     have hj1:=ht.2 jn hjl
     rw [if_neg (by omega)] at hi1 hj1
     by_cases h1:k=jn
     ·subst h1
      rw [List.getElem?_set_self (by simp [ht.1]; omega),if_pos (by omega),← hx,hi1]
      congr 1; omega
     ·rw [List.getElem?_set_ne (by omega)]
      by_cases h2:k=i
      ·subst h2
       rw [List.getElem?_set_self (by rw [ht.1]; omega),if_pos (by omega),← hy,hj1]
       congr 1; omega
      ·rw [List.getElem?_set_ne (by omega),ht.2 k hk]
       by_cases h3:(k:Int)<i∨(jn:Int)<k
       ·rw [if_pos h3,if_pos (by omega)]
       ·rw [if_neg h3,if_neg (by omega)]
    have hcl':=(hcl.set hcy i).set hcx jn
    have h2:=ih (i+1) ((jn:Int)-1) ((c.set i y).set jn x) (by omega) (by omega) hcl' ht'
    refine au (LY ..) ?_
    have e1:IntKind.i64.wrap ((i:Int)+1)=((i+1:Nat):Int):=by rw [wrap64 _ (by omega)]; omega
    have e2:IntKind.i64.wrap ((jn:Int)-1)=(jn:Int)-1:=wrap64 _ (by omega)
    have hlt':i<jn:=by omega
    have w1:i+1≤c.length:=by rw [ht.1]; omega
    have w2:jn+1≤c.length:=by rw [ht.1]; omega
    have ha:=hcl'.all
    have hcx2:∀ p:i<c.length,c[i]=x:=fun p=>by simpa using (List.getElem?_eq_some_iff.1 hx).2
    have hcy2:∀ p:jn<c.length,c[jn]=y:=fun p=>by simpa using (List.getElem?_eq_some_iff.1 hy).2
    have htk:∀ z,(pre++[z]).take (pre.length+1)=pre++[z]:=fun z=>List.take_of_length_le (by simp)
    generalize hi1:i+1=i1 at *
    simp (disch:=omega) [zG,hlt',e1,e2,au7,au8,hx,hy,hcx.2,hcy.2,hcx2,hcy2,w1,w2,ha,hp,htk,lW,h2]
   ·exact base i j c hlt hs hcl ht
theorem aAc {pre:Mem} {l:List D} (hp:pre.all (Us (pre.length+1))=true) (hL:l.length≤4000000000) (hcl:Yk (pre.length+1) l) :
  L.bf slices_Reverse_int [.aO pre.length 0 l.length 1] (pre++[.live l])=some (.aG [],pre++[.live l.reverse]):=by
 have h:=awx hp hL _ 0 ((l.length:Int)-1) l (Nat.le_refl _) (by omega) hcl ⟨rfl,fun k hk=>by rw [if_neg (by omega)]⟩
 have h':L.loop [0,2,3] [] jK (pre.length+1) [.aO pre.length 0 l.length 1,.int .i64 0,.int .i64 ((l.length:Int)-1)] (pre++[.live l])=_:=h
 have e1:IntKind.i64.wrap ((l.length:Int)-1)=(l.length:Int)-1:=wrap64 _ (by omega)
 have htk:∀ z,(pre++[z]).take (pre.length+1)=pre++[z]:=fun z=>List.take_of_length_le (by simp)
 have ha:l.reverse.all (D.clo (pre.length+1) 12)=true:=by rw [List.all_reverse]; exact hcl.all
 refine oC (adZ ..) ?_
 simp [RX,e1,h',hp,ha,htk]
end Go.Ev.Code
end
section
namespace Go.Ev.Code
open Go Go.Ev
def piece (v:Nat):List UInt8:=if v<10^18 then txt v else fV 18 (v % 10^18)
theorem aoP {v:Nat} (h:v≠0):txt v=(if v / 10^18=0 then [] else txt (v / 10^18))++piece v:=by
 unfold piece
 by_cases h1:v<10^18
 ·rw [if_pos h1,if_pos (Nat.div_eq_of_lt h1),List.nil_append]
 ·have : v / 10^18≠0:=by
   have := Nat.div_pos (Nat.le_of_not_lt h1) (show 0<10^18 by decide)
   omega
  rw [if_neg h1,if_neg this]
  exact ah1 18 (Nat.le_of_not_lt h1)
@[simp] theorem aFv (b n:Nat) (l:List (List UInt8)):l.all (D.clo b (n+1) ∘ D.str)=true:=by simp
@[simp] theorem aGs (n:Nat) (l:List (List UInt8)) (m:Mem):jd (fz (n+1)) (l.map D.str) m=some (l.map D.str,m):=by
  induction l with
  | nil=>rfl
  | cons x xs ih=>simp [ih]
theorem ajk {v:Nat} (hv:Fit v):∃ q:List Nat,L.call Pg [aQ (limbs v),.int .u64 1000000000000000000]=some (.aG [aQ q,ak (v % 10^18)])∧L.call mO [aQ q]=some (dI (v / 10^18))∧q.length=(limbs v).length ∧
  L.call ji [ak (v % 10^18),.int .i64 10]=some (.str (txt (v % 10^18))):=by
 have fv:(limbs v).length≤1000000000:=hv
 obtain ⟨q,q1,q2,q3,q4⟩:=ahs (d:=1000000000000000000) (bP v).1 (by decide) (by decide) (by omega)
 have hm:=kH q q2 (by unfold maxL; omega)
 rw [q3,dL] at hm
 rw [dL] at q4
 exact ⟨q,q4,hm,q1,awX (Nat.lt_trans (Nat.mod_lt _ (by decide)) (by decide))⟩
theorem ayD {X:Slot} (hX:Us 1 X=true):∀ (j v:Nat) (ss:List (List UInt8)),v<10^(18*j)→Fit v→ss≠[]→ss.length+j≤4000000 →
  ∃ ss':List (List UInt8),ss'≠[]∧ss'.length≤4000000∧ss'.reverse.flatten=(if v=0 then [] else txt v)++ss.reverse.flatten ∧
    L.loop [3,4] [3] pY 1 [.aO 1 0 ss.length 1,aQ (limbs v)] [X,.live (ss.map D.str)]=some (.exit 0,[.aO 1 0 ss'.length 1],[X,.live (ss'.map D.str)]):=by
 intro j
 induction j with
 | zero =>
   intro v ss hv _ hne hl
   have : v=0:=by simpa using hv
   subst this
   refine ⟨ss,hne,by omega,by simp,au (wz ..) ?_⟩
   simp [kL,hX]
 | succ j ih =>
   intro v ss hv hf hne hl
   by_cases h0:v=0
   ·subst h0
    refine ⟨ss,hne,by omega,by simp,au (wz ..) ?_⟩
    simp [kL,hX]
   ·have hq:v / 10^18<10^(18*j):=by
     rw [Nat.div_lt_iff_lt_mul (by decide),← Nat.pow_add]; exact hv
    obtain ⟨ss',g1,g2,g3,g4⟩:=ih (v / 10^18) (ss++[piece v]) hq (hf.of_le (Nat.div_le_self _ _)) (by simp) (by simp; omega)
    obtain ⟨q,c1,c2,c3,c4⟩:=ajk hf
    refine ⟨ss',g1,g2,?_,au (wz ..) ?_⟩
    ·rw [g3,if_neg h0,aoP h0]; simp
    ·have hvl:limbs v≠[]:=OG h0
     have hvl':0<(limbs v).length:=List.length_pos_iff.2 hvl
     have hlen:ss.length+1≤4294967296:=by omega
     have htk:(ss.map D.str).take ss.length=ss.map D.str:=List.take_of_length_le (by simp)
     have hr:v % 10^18<10^18:=Nat.mod_lt _ (by decide)
     by_cases h1:v<10^18
     ·have e1:v / 10^18=0:=Nat.div_eq_of_lt h1
      have e2:v % 10^18=v:=Nat.mod_eq_of_lt h1
      have e3:piece v=txt v:=by unfold piece; rw [if_pos h1]
      rw [e1] at g4 c2
      rw [e2] at c1 c4
      rw [e3] at g4
      simp [c3] at c1 c2 g4
      simp [kL,hvl,hvl',htk,c1,c2,c4,QU,hlen,hX,f_,g4]
     ·have hd0:v / 10^18≠0:=by
       have := Nat.div_pos (Nat.le_of_not_lt h1) (show 0<10^18 by decide)
       omega
      have hdl:limbs (v / 10^18)≠[]:=OG hd0
      have hdl':0<(limbs (v / 10^18)).length:=List.length_pos_iff.2 hdl
      have htl:=yu 18 (by decide) hr
      have hpad:=alH 18 (by decide) hr
      have e3:piece v=List.replicate (18-(txt (v % 10^18)).length) 48++txt (v % 10^18):=by unfold piece; rw [if_neg h1,hpad]
      have e4:IntKind.i64.wrap (18-((txt (v % 10^18)).length:Int))=((18-(txt (v % 10^18)).length:Nat):Int):=by rw [wrap64 _ (by omega)]; omega
      have hrep:=af8 (s:=[48]) (n:=18-(txt (v % 10^18)).length) (by omega) (by simp)
      have e5:(List.replicate (18-(txt (v % 10^18)).length) [(48:UInt8)]).flatten=List.replicate (18-(txt (v % 10^18)).length) 48:=by simp
      rw [e5] at hrep
      rw [e3] at g4
      generalize txt (v % 10^18)=tr at *
      generalize hk:18-tr.length=k at *
      have hlk:k+tr.length≤1099511627776:=by omega
      generalize v / 10^18=w at *
      generalize v % 10^18=r at *
      simp [c3] at c1 c2 g4
      simp [kL,hvl,hdl,hvl',hdl',htk,c1,c2,c4,QU,hlen,hX,f_,e4,hrep,hlk,g4]
def Wri (n:Nat):Prop:=∃ k:Nat,1≤k∧k≤900000∧n<10^k
theorem ab8 {v:Nat} (hf:Fit v) (hw:Wri v):L.call yF [dI v]=some (.str (txt v)):=by
 refine aj (amo ..) ?_
 by_cases h0:v=0
 ·subst h0
  have hc:=avp []
  have hl:L.loop [3,4] [3] pY 0 [.dh,aQ []] []=some (.exit 0,[.dh],[]):=by
   refine au (wz ..) ?_
   simp [kL]
  have ht:txt 0=[48]:=by rw [oU (by decide)]; rfl
  simp at hc hl
  simp [Uk,hc,hl,ht]
 ·have hvl:limbs v≠[]:=OG h0
  have hvl':0<(limbs v).length:=List.length_pos_iff.2 hvl
  have fv:(limbs v).length≤1000000000:=hf
  have hc:=ajx [] hvl (by omega)
  obtain ⟨k,hk1,hk2,hw⟩:=hw
  have hq:v / 10^18<10^(18*k):=Nat.lt_of_lt_of_le (Nat.lt_of_le_of_lt (Nat.div_le_self _ _) hw) (Nat.pow_le_pow_right (by decide) (by omega))
  obtain ⟨ss',g1,g2,g3,g4⟩:=ayD (X := .jc ((limbs v).map ak)) rfl k (v / 10^18) [piece v] hq (hf.of_le (Nat.div_le_self _ _)) (by simp) (by simp; omega)
  obtain ⟨q,c1,c2,c3,c4⟩:=ajk hf
  have hr:v % 10^18<10^18:=Nat.mod_lt _ (by decide)
  have htxt:ss'.reverse.flatten=txt v:=by rw [g3,aoP h0]; simp
  have hlen1:((txt v).length)≤k:=yu k hk1 hw
  have hj:=aA6 (ss:=ss'.reverse) (sep:=[]) (by rw [ahe,htxt]; omega) (by simp; omega)
  rw [ahe,htxt] at hj
  have hss:0<ss'.length:=List.length_pos_iff.2 g1
  have hrev:=aAd (pre:=[.jc ((limbs v).map ak)]) (l:=ss'.map D.str) rfl (by simp; omega) (fun d hd=>by
   obtain ⟨s,_,rfl⟩:=List.mem_map.1 hd
   exact ⟨rfl,rfl⟩)
  have htake:((limbs v).map ak).take (limbs v).length=(limbs v).map ak:=List.take_of_length_le (by simp)
  have first:L.loop [3,4] [3] pY 1 [.dh,.aO 0 0 (limbs v).length 1] [.live ((limbs v).map ak)]=some (.exit 0,[.aO 1 0 ss'.length 1],[.jc ((limbs v).map ak),.live (ss'.map D.str)]):=by
   refine au (wz ..) ?_
   by_cases h1:v<10^18
   ·have e1:v / 10^18=0:=Nat.div_eq_of_lt h1
    have e2:v % 10^18=v:=Nat.mod_eq_of_lt h1
    have e3:piece v=txt v:=by unfold piece; rw [if_pos h1]
    rw [e1] at g4 c2
    rw [e2] at c1 c4
    rw [e3] at g4
    simp [c3] at c1 c2 g4
    simp [kL,hvl,hvl',htake,c1,c2,c4,QU,f_,g4]
   ·have hd0:v / 10^18≠0:=by
     have := Nat.div_pos (Nat.le_of_not_lt h1) (show 0<10^18 by decide)
     omega
    have hdl:limbs (v / 10^18)≠[]:=OG hd0
    have hdl':0<(limbs (v / 10^18)).length:=List.length_pos_iff.2 hdl
    have htl:=yu 18 (by decide) hr
    have hpad:=alH 18 (by decide) hr
    have e3:piece v=List.replicate (18-(txt (v % 10^18)).length) 48++txt (v % 10^18):=by unfold piece; rw [if_neg h1,hpad]
    have e4:IntKind.i64.wrap (18-((txt (v % 10^18)).length:Int))=((18-(txt (v % 10^18)).length:Nat):Int):=by rw [wrap64 _ (by omega)]; omega
    have hrep:=af8 (s:=[48]) (n:=18-(txt (v % 10^18)).length) (by omega) (by simp)
    have e5:(List.replicate (18-(txt (v % 10^18)).length) [(48:UInt8)]).flatten=List.replicate (18-(txt (v % 10^18)).length) 48:=by simp
    rw [e5] at hrep
    rw [e3] at g4
    generalize txt (v % 10^18)=tr at *
    generalize hk:18-tr.length=k at *
    have hlk:k+tr.length≤1099511627776:=by omega
    generalize v / 10^18=w at *
    generalize v % 10^18=r at *
    simp [c3] at c1 c2 g4
    simp [kL,hvl,hdl,hvl',hdl',htake,c1,c2,c4,QU,f_,e4,hrep,hlk,g4]
  have hrl:(ss'.map D.str).reverse=ss'.reverse.map D.str:=by rw [List.map_reverse]
  have htake2:(ss'.reverse.map D.str).take ss'.length=ss'.reverse.map D.str:=List.take_of_length_le (by simp)
  rw [hrl] at hrev
  rw [List.length_reverse] at hj
  have hsl:ss'.reverse.length=ss'.length:=by simp
  generalize ss'.reverse=sr at *
  simp [MM] at hc first hrev
  simp [Uk,hc,first,hss,g1,hrev,hsl,htake2,hj]
end Go.Ev.Code
end
section
namespace Go.Ev.Code
open Go Go.Ev
def Zc (z:Int):List D:=[.bool (decide (z<0)),dI z.natAbs]
abbrev intD (z:Int):D := .ref (Zc z) 0
def NB (k n:Nat):Prop:=n<2^k
def IB (k:Nat) (z:Int):Prop:=NB k z.natAbs
theorem NB.mono {j k n:Nat} (h:NB j n) (hk:j≤k):NB k n:=Nat.lt_of_lt_of_le h (Nat.pow_le_pow_right (by decide) hk)
theorem NB.le {k n m:Nat} (h:NB k n) (hm:m≤n):NB k m:=Nat.lt_of_le_of_lt hm h
theorem NB.fit {k n:Nat} (h:NB k n) (hk:k≤900000):Fit n:=by
 unfold Fit
 refine Nat.le_trans (ahh (k:=k) (Nat.lt_of_lt_of_le h (Nat.pow_le_pow_left (by decide) k))) (by omega)
theorem NB.wri {k n:Nat} (h:NB k n) (hk:k≤900000) (h1:1≤k):Wri n :=
 ⟨k,h1,hk,Nat.lt_of_lt_of_le h (Nat.pow_le_pow_left (by decide) k)⟩
theorem NB.mul {j k a b:Nat} (ha:NB j a) (hb:NB k b):NB (j+k) (a*b):=by
 unfold NB at *
 rw [Nat.pow_add]; exact Nat.mul_lt_mul'' ha hb
theorem NB.add {j k a b:Nat} (ha:NB j a) (hb:NB k b):NB (max j k+1) (a+b):=by
 have h1:=ha.mono (Nat.le_max_left j k)
 have h2:=hb.mono (Nat.le_max_right j k)
 unfold NB at *
 rw [Nat.pow_succ]; omega
theorem IB.mono {j k:Nat} {z:Int} (h:IB j z) (hk:j≤k):IB k z:=NB.mono h hk
theorem IB.fit {k:Nat} {z:Int} (h:IB k z) (hk:k≤900000):Fit z.natAbs:=NB.fit h hk
theorem IB.mul {j k:Nat} {a b:Int} (ha:IB j a) (hb:IB k b):IB (j+k) (a*b):=by
 unfold IB; rw [Int.natAbs_mul]; exact NB.mul ha hb
theorem IB.add {j k:Nat} {a b:Int} (ha:IB j a) (hb:IB k b):IB (max j k+1) (a+b) :=
 NB.le (NB.add ha hb) (Int.natAbs_add_le a b)
theorem IB.neg {k:Nat} {z:Int} (h:IB k z):IB k (-z):=by unfold IB; rw [Int.natAbs_neg]; exact h
theorem IB.ofNat {k n:Nat} (h:NB k n):IB k (n:Int):=by unfold IB; simpa using h
@[simp] theorem Fe (s:Bool) (n:Nat):L.call Lh [.bool s,dI n]=some (intD (if s then -(n:Int) else n)):=by
  refine aj (aw6 ..) ?_
  cases s with
  | false =>
    have : ¬ (n:Int)<0:=by omega
    simp [abt,Zc,this]
  | true =>
    by_cases hn:n=0
    ·subst hn
     simp [abt,Zc]
    ·have hpos:0<n:=by omega
     simp [abt,Zc,hn,hpos]
@[simp] theorem Ai (z:Int):L.call BR [intD z]=some (dI z.natAbs):=by
  refine aj (ao9 ..) ?_
  simp [afD,Zc]
@[simp] theorem G8 (z:Int):L.call uF [intD z]=some (.int .i64 z.sign):=by
  refine aj (amr ..) ?_
  rcases Int.lt_trichotomy z 0 with h | h | h
  ·have h1:z.sign = -1:=Int.sign_eq_neg_one_of_neg h
   have h2:¬ z=0:=by omega
   simp [LP,h1,h2,Zc,h]
  ·subst h
   simp [LP]
  ·have h1:z.sign=1:=Int.sign_eq_one_of_pos h
   have h2:¬ z=0:=by omega
   have h3:¬ z<0:=by omega
   simp [LP,h1,h2,Zc,h3]
theorem sign_neg {z:Int}:z.sign<0↔z<0:=by
 rcases Int.lt_trichotomy z 0 with h | h | h
 ·simp [Int.sign_eq_neg_one_of_neg h,h]
 ·simp [h]
 ·simp [Int.sign_eq_one_of_pos h]; omega
theorem U8 {z:Int}:0≤z.sign↔0≤z:=by have := @sign_neg z; omega
@[simp] theorem awi (z:Int):L.call BU [intD z]=some (intD (-z)):=by
  refine aj (apd ..) ?_
  by_cases h:0≤z
  ·have e : -(z.natAbs:Int) = -z:=by omega
   simp [Xv,U8,h,e]
  ·have e:(z.natAbs:Int) = -z:=by omega
   simp [Xv,U8,h,e]
theorem Fb {a b:Int} {j k:Nat} (ha:IB j a) (hb:IB k b) (hj:j≤900000) (hk:k≤900000):L.call xE [intD a,intD b]=some (intD (a+b)):=by
 have hadd:=QV (ha.fit hj) (hb.fit hk)
 have hcmp:=XU (ha.fit hj) (hb.fit hk)
 refine aj (ao_ ..) ?_
 by_cases h1:a<0 <;> by_cases h2:b<0
 ·have e : -((a.natAbs+b.natAbs:Nat):Int)=a+b:=by omega
  generalize a.natAbs+b.natAbs=s at *
  simp [vY,sign_neg,h1,h2,hadd,e]
 ·by_cases h3:a.natAbs<b.natAbs
  ·have hs:=QW (hb.fit hk) (ha.fit hj) (Nat.le_of_lt h3)
   have e:((b.natAbs-a.natAbs:Nat):Int)=a+b:=by omega
   generalize b.natAbs-a.natAbs=s at *
   simp [vY,sign_neg,h1,h2,hcmp,Dp,h3,hs,e]
  ·have hs:=QW (ha.fit hj) (hb.fit hk) (Nat.le_of_not_lt h3)
   have e : -((a.natAbs-b.natAbs:Nat):Int)=a+b:=by omega
   generalize a.natAbs-b.natAbs=s at *
   simp [vY,sign_neg,h1,h2,hcmp,Dp,h3,hs,e]
 ·by_cases h3:a.natAbs<b.natAbs
  ·have hs:=QW (hb.fit hk) (ha.fit hj) (Nat.le_of_lt h3)
   have e : -((b.natAbs-a.natAbs:Nat):Int)=a+b:=by omega
   generalize b.natAbs-a.natAbs=s at *
   simp [vY,sign_neg,h1,h2,hcmp,Dp,h3,hs,e]
  ·have hs:=QW (ha.fit hj) (hb.fit hk) (Nat.le_of_not_lt h3)
   have e:((a.natAbs-b.natAbs:Nat):Int)=a+b:=by omega
   generalize a.natAbs-b.natAbs=s at *
   simp [vY,sign_neg,h1,h2,hcmp,Dp,h3,hs,e]
 ·have e:((a.natAbs+b.natAbs:Nat):Int)=a+b:=by omega
  generalize a.natAbs+b.natAbs=s at *
  simp [vY,sign_neg,h1,h2,hadd,e]
theorem alG {a b:Int} {j k:Nat} (ha:IB j a) (hb:IB k b) (hj:j≤900000) (hk:k≤900000):L.call G7 [intD a,intD b]=some (intD (a-b)):=by
 have := Fb ha hb.neg hj hk
 refine aj (ape ..) ?_
 rw [Int.sub_eq_add_neg]
 simp [afG,this]
theorem aeH {a b:Int} {j k:Nat} (ha:IB j a) (hb:IB k b) (hj:j≤900000) (hk:k≤900000):L.call G6 [intD a,intD b]=some (.int .i64 (a-b).sign):=by
 have := alG ha hb hj hk
 refine aj (apa ..) ?_
 simp [afE,this]
theorem NZ {a b:Int}:IntKind.i64.wrap (a.sign*b.sign)<0↔a*b<0:=by
 rw [← Int.sign_mul,wrap64 _ (by rcases Int.sign_trichotomy (a*b) with h | h | h <;> rw [h] <;> decide)]
 exact sign_neg
theorem eF {a b:Int} {j k:Nat} (ha:IB j a) (hb:IB k b) (hj:j≤900000) (hk:k≤900000):L.call xG [intD a,intD b]=some (intD (a*b)):=by
 have hm:=Ld (ha.fit hj) (hb.fit hk)
 rw [← Int.natAbs_mul] at hm
 refine aj (apc ..) ?_
 by_cases h:a*b<0
 ·have e : -((a*b).natAbs:Int)=a*b:=by omega
  have hd:decide (IntKind.i64.wrap (a.sign*b.sign)<0)=true:=by simpa [NZ] using h
  generalize a*b=p at *
  simp [Xu,hd,hm,e]
 ·have e:((a*b).natAbs:Int)=a*b:=by omega
  have hd:decide (IntKind.i64.wrap (a.sign*b.sign)<0)=false:=by simpa [NZ] using h
  generalize a*b=p at *
  simp [Xu,hd,hm,e]
theorem Aj (n:Int) (h : -9223372036854775808≤n∧n≤9223372036854775807):L.call Vu [.int .i64 n]=some (intD n):=by
 refine aj (ayX ..) ?_
 by_cases h0:n<0
 ·have e1:IntKind.u64.wrap (0-IntKind.u64.wrap n)=(n.natAbs:Int):=by
   simp [IntKind.wrap,IntKind.signed,IntKind.bits]; omega
  have hof:=ru n.natAbs (by unfold W; omega)
  have e2 : -(n.natAbs:Int)=n:=by omega
  generalize hk:n.natAbs=k at *
  have e1':IntKind.u64.wrap (-IntKind.u64.wrap n)=(k:Int):=by rw [← e1]; congr 1; omega
  simp [akz,h0,e1',hof,e2]
 ·obtain ⟨k,rfl⟩:∃ k:Nat,n=k:=⟨n.toNat,by omega⟩
  have e1:IntKind.u64.wrap (k:Int)=(k:Int):=dJ _ (by omega)
  have hof:=ru k (by unfold W; omega)
  simp [akz,h0,e1,hof]
def wu (z:Int):List UInt8:=if z<0 then 45::txt z.natAbs else txt z.natAbs
theorem ab_ {z:Int} {k:Nat} (h:IB k z) (hk:k≤900000) (h1:1≤k):L.call uG [intD z]=some (.str (wu z)):=by
 have ht:=ab8 (h.fit hk) (NB.wri h hk h1)
 have hl:(txt z.natAbs).length≤900000:=by
  obtain ⟨j,j1,j2,j3⟩:=NB.wri h hk h1
  exact Nat.le_trans (yu j j1 j3) j2
 have hl2:1+(txt z.natAbs).length≤1099511627776:=by omega
 refine aj (ams ..) ?_
 by_cases h0:z<0
 ·simp [Uo,sign_neg,h0,ht,wu,hl2]
 ·simp [Uo,sign_neg,h0,ht,wu]
end Go.Ev.Code
end
section
namespace Go.Ev.Code
open Go Go.Ev
def am9 (q:Rat):List D:=[intD q.num,intD (q.den:Int)]
abbrev cZ (q:Rat):D := .ref (am9 q) 0
def RB (k:Nat) (q:Rat):Prop:=NB k q.num.natAbs∧NB k q.den
theorem RB.mono {j k:Nat} {q:Rat} (h:RB j q) (hk:j≤k):RB k q:=⟨h.1.mono hk,h.2.mono hk⟩
theorem RB.num {k:Nat} {q:Rat} (h:RB k q):IB k q.num:=h.1
theorem RB.den {k:Nat} {q:Rat} (h:RB k q):IB k (q.den:Int):=IB.ofNat h.2
theorem oH {n d:Int} {k:Nat} (hn:IB k n) (hd:IB k d) (h0:d≠0):RB k (Rat.divInt n d):=by
 have hg:0<Int.gcd d n:=Int.gcd_pos_of_ne_zero_left _ h0
 constructor
 ·refine NB.le hn ?_
  rw [Rat.num_divInt,Int.natAbs_ediv_of_dvd (Int.dvd_trans (Int.gcd_dvd_right ..) (Int.dvd_mul_left ..)),Int.natAbs_mul]
  have : d.sign.natAbs=1:=Int.natAbs_sign_of_ne_zero h0
  rw [this,Nat.one_mul]
  exact Nat.div_le_self _ _
 ·refine NB.le hd ?_
  rw [Rat.den_divInt,if_neg h0]
  exact Nat.div_le_self _ _
theorem Fq {n d:Int} {j k:Nat} (hn:IB j n) (hd:IB k d) (hj:j≤900000) (hk:k≤900000) (h0:d≠0):L.call LH [intD n,intD d]=some (.aG [cZ (Rat.divInt n d),.bQ]):=by
 have fn:=hn.fit hj
 have fd:=hd.fit hk
 have hgcd:=aeE fn fd
 have hg0:Nat.gcd n.natAbs d.natAbs≠0:=by
  have := Nat.gcd_pos_of_pos_right n.natAbs (Int.natAbs_pos.2 h0)
  omega
 have fg:Fit (Nat.gcd n.natAbs d.natAbs):=fd.of_le (Nat.le_of_dvd (Int.natAbs_pos.2 h0) (Nat.gcd_dvd_right ..))
 have d1:=Ae fn fg hg0
 have d2:=Ae fd fg hg0
 have hs:¬ d.sign=0:=by rw [Int.sign_eq_zero_iff_zero]; exact h0
 have hgc:Int.gcd d n=Nat.gcd n.natAbs d.natAbs:=Nat.gcd_comm ..
 have hden:((Rat.divInt n d).den:Int)=((d.natAbs / Nat.gcd n.natAbs d.natAbs:Nat):Int):=by rw [Rat.den_divInt,if_neg h0,hgc]
 have hnum:(Rat.divInt n d).num=if n*d<0 then -((n.natAbs / Nat.gcd n.natAbs d.natAbs:Nat):Int) else ((n.natAbs / Nat.gcd n.natAbs d.natAbs:Nat):Int):=by
  rw [Rat.num_divInt,hgc]
  have hdv:((Nat.gcd n.natAbs d.natAbs:Nat):Int) ∣ (n.natAbs:Int):=Int.natCast_dvd_natCast.2 (Nat.gcd_dvd_left ..)
  have h1:(d.sign*n).natAbs=n.natAbs:=by rw [Int.natAbs_mul,Int.natAbs_sign_of_ne_zero h0,Nat.one_mul]
  have h2:d.sign*n<0↔n*d<0:=by
   rcases Int.lt_trichotomy d 0 with h | h | h
   ·rw [Int.sign_eq_neg_one_of_neg h]
    constructor
    ·intro h3; exact Int.mul_neg_of_pos_of_neg (by omega) h
    ·intro h3
     rcases Int.lt_trichotomy n 0 with h4 | h4 | h4
     ·have := Int.mul_pos_of_neg_of_neg h4 h; omega
     ·subst h4; simp at h3
     ·omega
   ·exact absurd h h0
   ·rw [Int.sign_eq_one_of_pos h]
    constructor
    ·intro h3; exact Int.mul_neg_of_neg_of_pos (by omega) h
    ·intro h3
     rcases Int.lt_trichotomy n 0 with h4 | h4 | h4
     ·omega
     ·subst h4; simp at h3
     ·have := Int.mul_pos h4 h; omega
  split
  ·rename_i h3
   have h4:d.sign*n = -(n.natAbs:Int):=by have := h2.2 h3; omega
   rw [h4,Int.neg_ediv_of_dvd hdv,Int.natCast_ediv]
  ·rename_i h3
   have h4:d.sign*n=(n.natAbs:Int):=by have := mt h2.1 h3; omega
   rw [h4,Int.natCast_ediv]
 refine aj (anF ..) ?_
 unfold cZ am9
 rw [hden,hnum]
 generalize n.natAbs / Nat.gcd n.natAbs d.natAbs=a at *
 generalize d.natAbs / Nat.gcd n.natAbs d.natAbs=b at *
 generalize n.natAbs % Nat.gcd n.natAbs d.natAbs=a' at *
 generalize d.natAbs % Nat.gcd n.natAbs d.natAbs=b' at *
 by_cases h:n*d<0
 ·have hdc:decide (IntKind.i64.wrap (n.sign*d.sign)<0)=true:=by simpa [NZ] using h
  have hl:(n.sign*d.sign)=(n*d).sign:=(Int.sign_mul ..).symm
  simp [abu,hs,hgcd,d1,d2,NZ,h]
 ·simp [abu,hs,hgcd,d1,d2,NZ,h]
theorem U0 {n d:Int} {j k:Nat} (hn:IB j n) (hd:IB k d) (hj:j≤900000) (hk:k≤900000) (h0:d≠0):L.call OQ [intD n,intD d]=some (cZ (Rat.divInt n d)):=by
 have := Fq hn hd hj hk h0
 refine aj (avC ..) ?_
 simp [al9,this]
theorem gQ {n:Int} (h : -9223372036854775808≤n∧n≤9223372036854775807):IB 64 n:=by
 unfold IB NB; have : (2:Nat)^64=18446744073709551616:=by decide
 omega
theorem Aq {n d:Int} (hn : -9223372036854775808≤n∧n≤9223372036854775807) (hd : -9223372036854775808≤d∧d≤9223372036854775807) (h0:d≠0) :
  L.call DZ [.int .i64 n,.int .i64 d]=some (.aG [cZ (Rat.divInt n d),.bQ]):=by
 have := Fq (gQ hn) (gQ hd) (by omega) (by omega) h0
 refine aj (ayY ..) ?_
 simp [asz,Aj n hn,Aj d hd,this]
@[simp] theorem Rj (q:Rat):L.call xP [cZ q]=some (intD q.num):=by
  refine aj (apl ..) ?_
  simp [afK,am9]
@[simp] theorem LG (q:Rat):L.call xM [cZ q]=some (intD (q.den:Int)):=by
  refine aj (apj ..) ?_
  simp [afI,am9]
@[simp] theorem acn (q:Rat):L.call qj [cZ q]=some (.int .i64 q.num.sign):=by
  refine aj (amy ..) ?_
  simp [adL]
theorem Qs (q:Rat):(q.den:Int)≠0:=by have := q.den_nz; omega
theorem add_eq (a b:Rat):a+b=Rat.divInt (a.num*b.den+b.num*a.den) ((a.den:Int)*b.den):=by
 have := Rat.divInt_add_divInt a.num b.num (Qs a) (Qs b)
 rwa [Rat.num_divInt_den,Rat.num_divInt_den] at this
theorem atn {a b:Rat} (h:(a.den:Int)=b.den):a+b=Rat.divInt (a.num+b.num) (a.den:Int):=by
 rw [add_eq,← h,← Int.add_mul,Rat.divInt_mul_right (Qs a)]
theorem mul_eq (a b:Rat):a*b=Rat.divInt (a.num*b.num) ((a.den:Int)*b.den):=by
 have := Rat.divInt_mul_divInt a.num b.num (d₁:=a.den) (d₂:=b.den)
 rwa [Rat.num_divInt_den,Rat.num_divInt_den] at this
theorem ahn {a b:Rat}:(a.den:Int)*b.den≠0:=Int.mul_ne_zero (Qs a) (Qs b)
theorem RB.add {j k:Nat} {a b:Rat} (ha:RB j a) (hb:RB k b):RB (j+k+1) (a+b):=by
 rw [add_eq]
 refine oH ?_ ((ha.den.mul hb.den).mono (by omega)) ahn
 refine (IB.add (ha.num.mul hb.den) (hb.num.mul ha.den)).mono (by omega)
theorem RB.mul {j k:Nat} {a b:Rat} (ha:RB j a) (hb:RB k b):RB (j+k) (a*b):=by
 rw [mul_eq]
 exact oH (ha.num.mul hb.num) (ha.den.mul hb.den) ahn
theorem RB.neg {k:Nat} {a:Rat} (h:RB k a):RB k (-a):=⟨by show NB k (-a.num).natAbs; rw [Int.natAbs_neg]; exact h.1,h.2⟩
theorem LD {a b:Rat} {j k:Nat} (ha:RB j a) (hb:RB k b) (h:j+k+1≤900000):L.call xJ [cZ a,cZ b]=some (cZ (a+b)):=by
 have hc:=aeH ha.den hb.den (by omega) (by omega)
 have m1:=eF ha.num hb.den (by omega) (by omega)
 have m2:=eF hb.num ha.den (by omega) (by omega)
 have m3:=eF ha.den hb.den (by omega) (by omega)
 have a1:=Fb (ha.num.mul hb.den) (hb.num.mul ha.den) (by omega) (by omega)
 have s1:=U0 ((IB.add (ha.num.mul hb.den) (hb.num.mul ha.den)).mono (show _≤j+k+1 by omega)) (ha.den.mul hb.den) h (by omega) ahn
 rw [← add_eq] at s1
 refine aj (apg ..) ?_
 by_cases he:(a.den:Int)=b.den
 ·have a2:=Fb ha.num hb.num (by omega) (by omega)
  have s2:=U0 ((IB.add ha.num hb.num).mono (show _≤j+k+1 by omega)) ha.den h (by omega) (Qs a)
  rw [← atn he] at s2
  rw [he] at hc s2
  generalize a.num+b.num=n at *
  simp [Xx,he,hc,a2,s2]
 ·have hs:¬ ((a.den:Int)-b.den).sign=0:=by rw [Int.sign_eq_zero_iff_zero]; omega
  generalize a.num*b.den+b.num*a.den=n at *
  generalize a.num*b.den=n1 at *
  generalize b.num*a.den=n2 at *
  generalize (a.den:Int)*b.den=d at *
  generalize ((a.den:Int)-b.den).sign=sg at *
  simp [Xx,hc,hs,m1,m2,m3,a1,s1]
theorem LJ {a b:Rat} {j k:Nat} (ha:RB j a) (hb:RB k b) (h:j+k+1≤900000):L.call BZ [cZ a,cZ b]=some (cZ (a-b)):=by
 have hadd:L.call xJ [cZ a,.ref [intD (-b.num),intD (b.den:Int)] 0]=some (cZ (a + -b)):=LD ha hb.neg h
 refine aj (apm ..) ?_
 rw [Rat.sub_eq_add_neg]
 simp [afL,hadd]
theorem Fp {a b:Rat} {j k:Nat} (ha:RB j a) (hb:RB k b) (h:j+k≤900000):L.call BX [cZ a,cZ b]=some (cZ (a*b)):=by
 have m1:=eF ha.num hb.num (by omega) (by omega)
 have m3:=eF ha.den hb.den (by omega) (by omega)
 have s1:=U0 (ha.num.mul hb.num) (ha.den.mul hb.den) h h ahn
 rw [← mul_eq] at s1
 refine aj (apk ..) ?_
 generalize a.num*b.num=n at *
 generalize (a.den:Int)*b.den=d at *
 simp [afJ,m1,m3,s1]
end Go.Ev.Code
end
section
namespace Go.Ev.Code
open Go Go.Ev
theorem aey {b:Rat} (h:b≠0):b.num≠0:=fun h0=>h (by
 have := Rat.num_divInt_den b
 rw [h0] at this
 rw [← this,Rat.zero_divInt])
theorem div_eq {a b:Rat} (h:b≠0):a / b=Rat.divInt (a.num*b.den) ((a.den:Int)*b.num):=by
 have hb:=aey h
 have h1:b⁻¹=Rat.divInt b.den b.num:=by
  have := Rat.inv_divInt b.num b.den
  rw [Rat.num_divInt_den] at this
  exact this
 rw [Rat.div_def,h1]
 have := Rat.divInt_mul_divInt a.num (b.den:Int) (d₁:=a.den) (d₂:=b.num)
 rwa [Rat.num_divInt_den] at this
theorem alT {a b:Rat} {j k:Nat} (ha:RB j a) (hb:RB k b) (h:j+k≤900000) (h0:b≠0):L.call xO [cZ a,cZ b]=some (.aG [cZ (a / b),.bQ]):=by
 have m1:=eF ha.num hb.den (by omega) (by omega)
 have m2:=eF ha.den hb.num (by omega) (by omega)
 have n1:=Fq (ha.num.mul hb.den) (ha.den.mul hb.num) h h (Int.mul_ne_zero (Qs a) (aey h0))
 rw [← div_eq h0] at n1
 refine aj (aff ..) ?_
 generalize a.num*b.den=n at *
 generalize (a.den:Int)*b.num=d at *
 simp [Xy,m1,m2,n1]
def zo (a b:Rat):Int:=if a<b then -1 else if a=b then 0 else 1
theorem Fj {a b:Rat} {j k:Nat} (ha:RB j a) (hb:RB k b) (h:j+k≤900000):L.call xK [cZ a,cZ b]=some (.int .i64 (zo a b)):=by
 have m1:=eF ha.num hb.den (by omega) (by omega)
 have m2:=eF hb.num ha.den (by omega) (by omega)
 have c:=aeH (ha.num.mul hb.den) (hb.num.mul ha.den) (by omega) (by omega)
 have e:(a.num*b.den-b.num*a.den).sign=zo a b:=by
  unfold zo
  have hlt:=Rat.lt_iff a b
  have hle:=Rat.le_iff b a
  split
  ·rename_i h1
   have := hlt.1 h1
   exact Int.sign_eq_neg_one_of_neg (by omega)
  ·rename_i h1
   have h2:=mt hlt.2 h1
   split
   ·rename_i h3
    subst h3
    simp
   ·rename_i h3
    have h4:a.num*b.den≠b.num*a.den:=fun h5=>h3 (by
     have h6:b≤a:=hle.2 (by omega)
     have h7:a≤b:=(Rat.le_iff a b).2 (by omega)
     exact Rat.le_antisymm h7 h6)
    exact Int.sign_eq_one_of_pos (by omega)
 rw [e] at c
 refine aj (aph ..) ?_
 generalize a.num*b.den=n at *
 generalize b.num*a.den=d at *
 generalize zo a b=r at *
 simp [afH,m1,m2,c]
def pI (q:Rat):List UInt8:=if q.den=1 then wu q.num else wu q.num++47::txt q.den
theorem anr {n:Nat}:txt n=[49]↔n=1:=by
 constructor
 ·intro h
  by_cases h10:n<10
  ·rw [oU h10] at h
   have : dg n=49:=by simpa using h
   unfold dg at this
   have h2:=congrArg UInt8.toNat this
   simp at h2
   omega
  ·rw [JR (by omega)] at h
   have h3:=congrArg List.length h
   have h4:=xR (n / 10)
   simp at h3
   rw [h3] at h4
   exact absurd h4 (by decide)
 ·rintro rfl; rw [oU (by decide)]; rfl
theorem akB {z:Int} {k:Nat} (h:IB k z) (hk:k≤900000) (h1:1≤k):(wu z).length≤900001:=by
 obtain ⟨j,j1,j2,j3⟩:=NB.wri h hk h1
 have := yu j j1 j3
 unfold wu
 split <;> simp <;> omega
theorem lG {q:Rat} {k:Nat} (h:RB k q) (hk:k≤900000) (h1:1≤k):L.call uI [cZ q]=some (.str (pI q)):=by
 have t1:=ab_ h.num hk h1
 have t2:=ab_ h.den hk h1
 have e:wu (q.den:Int)=txt q.den:=by unfold wu; rw [if_neg (by omega)]; simp
 have l1:=akB h.num hk h1
 have l2:=akB h.den hk h1
 rw [e] at t2 l2
 refine aj (amz ..) ?_
 by_cases hd:q.den=1
 ·have h2:txt q.den=[49]:=anr.2 hd
  have t2':L.call uG [intD 1]=some (.str [49]):=by rw [h2,hd] at t2; exact t2
  simp [Ur,t1,t2',pI,hd]
 ·have h2:¬ txt q.den=[49]:=fun h=>hd (anr.1 h)
  have b1:(wu q.num).length+1≤1099511627776:=by omega
  have b2:(wu q.num).length+1+(txt q.den).length≤1099511627776:=by omega
  simp [Ur,t1,t2,h2,pI,hd,b1,b2]
end Go.Ev.Code
end
section
namespace Go.Ev.Code
open Go Go.Ev
def iW (b:UInt8):Bool:=decide (48≤b.toNat∧b.toNat≤57)
def awG (n:Nat) (b:UInt8):Nat:=n*10+(b.toNat-48)
theorem aAF (n:Nat) (b:UInt8):awG n b=n*10+(b.toNat-48):=rfl
attribute [irreducible] awG
def bZ (n:Nat) (s:List UInt8):Nat:=s.foldl awG n
theorem sZ (n:Nat):bZ n []=n:=by simp only [bZ,List.foldl_nil]
theorem rC (n:Nat) (b:UInt8) (bs:List UInt8):bZ n (b::bs)=bZ (n*10+(b.toNat-48)) bs:=by
 simp only [bZ,List.foldl_cons,aAF]
attribute [irreducible] bZ
def uY (s:List UInt8):Prop:=s≠[]∧s.length≤4000∧¬ (1<s.length∧s[0]?=some 48)∧s.all iW=true
theorem avM (b:UInt8):nH.contains b=iW b:=by
 have h:∀ n:Nat,n<256→nH.contains (UInt8.ofNat n)=iW (UInt8.ofNat n):=by decide +kernel
 have := h b.toNat (by have := b.toNat_lt; omega)
 simpa using this
theorem aAG (p:UInt8→Bool) (s:List UInt8):strip p s=s.dropWhile p:=by
 induction s with
 | nil=>rfl
 | cons b bs ih =>
   simp only [strip,List.dropWhile]
   cases p b <;> simp [ih]
theorem strip_nil (p:UInt8→Bool) (s:List UInt8):strip p s=[]↔s.all p=true:=by
 induction s with
 | nil=>simp [strip]
 | cons b bs ih =>
   simp only [strip,List.all_cons,Bool.and_eq_true]
   cases h:p b <;> simp [ih]
theorem amb (p:UInt8→Bool) (s:List UInt8) {b:UInt8} {bs:List UInt8} (h:strip p s=b::bs):p b=false:=by
 induction s with
 | nil=>simp [strip] at h
 | cons x xs ih =>
   simp only [strip] at h
   split at h
   ·exact ih h
   ·rename_i hx
    simp at h
    rw [← h.1]; simpa using hx
theorem aAL (p:UInt8→Bool) (s:List UInt8):strip p (strip p s.reverse).reverse=[]↔s.all p=true:=by
 rw [strip_nil,List.all_reverse,← List.all_reverse (l:=s)]
 constructor
 ·intro h
  cases hs:strip p s.reverse with
  | nil=>exact (strip_nil p _).1 hs
  | cons b bs =>
    rw [hs] at h
    have := amb p _ hs
    simp [this] at h
 ·intro h
  rw [(strip_nil p _).2 h]; rfl
theorem aC9:TT.fn qQ=none:=by kernel_rfl
theorem aDa:TT.ku qQ=pTrim:=by kernel_rfl
theorem ah6 {s:List UInt8} (h:s.length≤1000000):∃ r:List UInt8,(r=[]↔s.all iW=true)∧L.call qQ [.str s,.str [48,49,50,51,52,53,54,55,56,57]]=some (.str r):=by
 have hp:TT.ku qQ [.str s,.str nH] []=some (.str (strip (fun b=>nH.contains b) (strip (fun b=>nH.contains b) s.reverse).reverse),[]):=by
  rw [aDa]
  simp only [pTrim,h,and_true,if_true]
 have hi:strip (fun b=>nH.contains b) (strip (fun b=>nH.contains b) s.reverse).reverse=[]↔s.all iW=true:=by
  have : (fun b=>nH.contains b)=iW:=funext avM
  rw [aAL,this]
 generalize strip (fun b=>nH.contains b) (strip (fun b=>nH.contains b) s.reverse).reverse=r at *
 exact ⟨r,hi,Ls aC9 hp (by simp)⟩
theorem aud (n:Nat) (b:UInt8) (bs:List UInt8) (h:iW b=true):NK n (b::bs)=NK (n*10+(b.toNat-48)) bs:=by
 have h1:48≤b.toNat∧b.toNat≤57:=of_decide_eq_true h
 rw [NK,if_pos h1]
theorem ayi (s:List UInt8) (n:Nat) (h:s.all iW=true):NK n s=some (bZ n s):=by
 induction s generalizing n with
 | nil=>simp [NK,sZ]
 | cons b bs ih =>
   have h':iW b=true∧bs.all iW=true:=by rw [← Bool.and_eq_true,← List.all_cons]; exact h
   rw [rC,aud n b bs h'.1]
   exact ih _ h'.2
theorem aA9:TT.fn kM=none:=by kernel_rfl
theorem aBd:TT.ku kM=ahw:=by kernel_rfl
theorem Parse_ok {s:List UInt8} (h0:s≠[]) (hl:s.length≤18) (hd:s.all iW=true):L.call kM [.str s,.int .i64 10,.int .i64 64]=some (.aG [ak (bZ 0 s),.bQ]):=by
 have hp:TT.ku kM [.str s,.int .i64 10,.int .i64 64] []=some (.aG [ak (bZ 0 s),.bQ],[]):=by
  rw [aBd]
  simp [ahw,h0,hl,ayi s 0 hd]
 exact Ls aA9 hp (by simp)
theorem Zn (n:Nat) (a b:List UInt8):bZ n (a++b)=bZ (bZ n a) b:=by
 induction a generalizing n with
 | nil=>simp [sZ]
 | cons x xs ih=>simp [rC,ih]
theorem aa8 (n:Nat) (s:List UInt8):bZ n s=n*10^s.length+bZ 0 s:=by
 induction s generalizing n with
 | nil=>simp [sZ]
 | cons b bs ih =>
   simp only [rC,List.length_cons,Nat.zero_mul,Nat.zero_add]
   rw [ih,ih (b.toNat-48),Nat.pow_succ,Nat.add_mul,Nat.mul_assoc,Nat.mul_comm 10]; omega
theorem Yd {s:List UInt8} (h:s.all iW=true):bZ 0 s<10^s.length:=by
 induction s with
 | nil=>simp [sZ]
 | cons b bs ih =>
   simp only [List.all_cons,Bool.and_eq_true] at h
   have h1:48≤b.toNat∧b.toNat≤57:=by simpa [iW] using h.1
   have := ih h.2
   simp only [rC,List.length_cons,Nat.zero_mul,Nat.zero_add]
   rw [aa8,Nat.pow_succ]
   have h2:(b.toNat-48)*10^bs.length≤9*10^bs.length:=Nat.mul_le_mul_right _ (by omega)
   omega
theorem ahW {n k:Nat} (h:n<10^k):NB (4*k) n:=by
 unfold NB
 refine Nat.lt_of_lt_of_le h ?_
 rw [Nat.pow_mul]; exact Nat.pow_le_pow_left (by decide) k
def unit:Nat:=1000000000000000000
theorem nbU:NB 60 unit:=by unfold NB unit; decide
theorem aFz:Fit unit:=nbU.fit (by omega)
theorem unit_eq:unit=10^18:=by decide
theorem aCR:L.call Jz [.int .u64 1000000000000000000]=some (dI unit):=ru unit (by decide)
attribute [irreducible] unit
theorem azL:∀ (k:Nat) (s:List UInt8) (out first:Nat),s.length=first+18*k→1≤first→first≤18→s.all iW=true→out<10^(4000-s.length)→s.length≤4000→first=18∨out=0 →
  L.loop [0,5,6,7] [5] Af 0 [.str s,dI out,dI unit,.int .i64 first] []=some (.exit 0,[dI (bZ out s)],[]):=by
 intro k
 have last:∀ (out:Nat),L.loop [0,5,6,7] [5] Af 0 [.str [],dI out,dI unit,.int .i64 18] []=some (.exit 0,[dI out],[]):=fun out=>by
  refine au (agd ..) ?_
  simp [ZN]
 have step:∀ (s:List UInt8) (out first:Nat),1≤first→first≤18→first≤s.length→s.all iW=true→out<10^(4000-s.length)→s.length≤4000 →
   L.loop [0,5,6,7] [5] Af 0 [.str (s.drop first),dI (bZ out (s.take first)),dI unit,.int .i64 18] []=some (.exit 0,[dI (bZ out s)],[])→first=18∨out=0 →
   L.loop [0,5,6,7] [5] Af 0 [.str s,dI out,dI unit,.int .i64 first] []=some (.exit 0,[dI (bZ out s)],[]):=by
  intro s out first h1 h2 h3 hd hout hs hnext hcase
  have hne:s≠[]:=by intro h; rw [h] at h3; simp at h3; omega
  have htd:(s.take first).all iW=true:=by rw [List.all_eq_true] at hd ⊢; exact fun x hx=>hd x (List.mem_of_mem_take hx)
  have htl:(s.take first).length=first:=by simp; omega
  have hp:=Parse_ok (s:=s.take first) (by intro h; rw [h] at htl; simp at htl; omega) (by omega) htd
  have hv:=Yd htd
  rw [htl] at hv
  have hvW:bZ 0 (s.take first)<W:=Nat.lt_of_lt_of_le hv (Nat.le_trans (Nat.pow_le_pow_right (by decide) h2) (by decide))
  have hof:=ru _ hvW
  have ob:NB (4*4000) out:=(ahW hout).mono (by omega)
  have hm:=Ld (ob.fit (by omega)) aFz
  have ha:=QV ((ob.mul nbU).fit (by omega)) ((show NB 64 (bZ 0 (s.take first)) by unfold NB; rw [← tY]; exact hvW).fit (by omega))
  have hval:out*unit+bZ 0 (s.take first)=bZ out (s.take first):=by
   rw [aa8 out,htl]
   rcases hcase with rfl | rfl
   ·rw [unit_eq]
   ·simp
  rw [hval] at ha
  generalize bZ out (s.take first)=o2 at *
  generalize bZ 0 (s.take first)=v at *
  generalize out*unit=o1 at *
  have hf1:(first:Int)≤s.length:=by omega
  have hdt:(s.drop first).take (s.length-first)=s.drop first:=List.take_of_length_le (by simp)
  refine au (agd ..) ?_
  simp (disch:=omega) [ZN,hne,hp,hof,hm,ha,hdt,hnext]
 induction k with
 | zero =>
   intro s out first hs h1 h2 hd hout hl hc
   have hf:first=s.length:=by omega
   refine step s out first h1 h2 (by omega) hd hout hl ?_ hc
   rw [hf,List.take_length,List.drop_length]
   exact last _
 | succ k ih =>
   intro s out first hs h1 h2 hd hout hl hc
   refine step s out first h1 h2 (by omega) hd hout hl ?_ hc
   have h18:18≤(s.drop first).length:=by simp; omega
   have htd:(s.take first).all iW=true:=by rw [List.all_eq_true] at hd ⊢; exact fun x hx=>hd x (List.mem_of_mem_take hx)
   have hdd:(s.drop first).all iW=true:=by rw [List.all_eq_true] at hd ⊢; exact fun x hx=>hd x (List.mem_of_mem_drop hx)
   have htl:(s.take first).length=first:=by simp; omega
   have := ih (s.drop first) (bZ out (s.take first)) 18 (by simp; omega) (by omega) (by omega) hdd (by
    have h3:=Yd htd
    rw [htl] at h3
    rw [aa8,htl]
    have h4:10^(4000-(s.drop first).length)=10^(4000-s.length)*10^first:=by rw [← Nat.pow_add]; congr 1; simp; omega
    rw [h4]
    have h5:(out+1)*10^first≤10^(4000-s.length)*10^first:=Nat.mul_le_mul_right _ hout
    rw [Nat.add_mul,Nat.one_mul] at h5
    omega) (by simp; omega) (.inl rfl)
   rw [← Zn,List.take_append_drop] at this
   exact this
theorem E8 {s:List UInt8} (h:uY s):L.call DJ [.str s]=some (.aG [dI (bZ 0 s),.bQ]):=by
 obtain ⟨h0,h1,h2,h3⟩:=h
 have hpos:0<s.length:=List.length_pos_iff.2 h0
 obtain ⟨r,hr,ht⟩:=ah6 (s:=s) (by omega)
 have hr0:=hr.2 h3
 subst hr0
 have hz:=ru 0 (by decide)
 have hz':L.call Jz [.int .u64 0]=some (dI 0):=hz
 have hl:=azL ((s.length-1) / 18) s 0 ((s.length-1) % 18+1) (by omega) (by omega) (by omega) h3 (Nat.pow_pos (by decide)) h1 (.inr rfl)
 have e1:IntKind.i64.wrap ((s.length:Int)-1)=((s.length-1:Nat):Int):=by rw [wrap64 _ (by omega)]; omega
 have e2:Int.tmod ((s.length-1:Nat):Int) 18=(((s.length-1) % 18:Nat):Int):=rfl
 have e3:IntKind.i64.wrap ((((s.length-1) % 18:Nat):Int)+1)=(((s.length-1) % 18+1:Nat):Int):=by rw [wrap64 _ (by omega)]; omega
 have hu:=aCR
 have hg:¬ (4000:Int)<s.length:=by omega
 have hg':¬ 4000<s.length:=by omega
 generalize bZ 0 s=v at *
 generalize (s.length-1) % 18+1=fst at *
 generalize (s.length-1) % 18=md at *
 generalize s.length-1=l1 at *
 refine aj (anB ..) ?_
 by_cases hl1:1<s.length
 ·have hl1':(1:Int)<s.length:=by omega
  have hh:¬ s[0]?=some 48:=fun h=>h2 ⟨hl1,h⟩
  obtain ⟨b,hb⟩:∃ b,s[0]?=some b:=⟨s[0],List.getElem?_eq_getElem hpos⟩
  have hb0:s[0]=b:=by simpa using (List.getElem?_eq_some_iff.1 hb).2
  have hbn:¬ b.toNat=48:=fun h=>hh (by rw [hb]; congr 1; exact UInt8.toNat_inj.1 h)
  have hbn':¬ (b.toNat:Int)=48:=by omega
  simp (disch:=omega) [Eb,h0,hg,hg',hl1,hl1',hb,hb0,hbn,hbn',ht,hz',hu,e1,e2,e3,hl]
 ·have hl1':¬ (1:Int)<s.length:=by omega
  simp (disch:=omega) [Eb,h0,hg,hg',hl1,hl1',ht,hz',hu,e1,e2,e3,hl]
theorem ai9 {s:List UInt8} (h:¬ uY s) (hs:s.length≤1000000):L.call DJ [.str s]=some (.aG [.iy,BD 1]):=by
 obtain ⟨r,hr,ht⟩:=ah6 hs
 refine aj (anB ..) ?_
 by_cases h0:s=[]
 ·subst h0
  simp (disch:=omega) [Eb,bM]
 ·have hpos:0<s.length:=List.length_pos_iff.2 h0
  by_cases h1:4000<s.length
  ·have h1':(4000:Int)<s.length:=by omega
   simp (disch:=omega) [Eb,bM,h0,h1,h1']
  ·by_cases hl1:1<s.length
   ·have hl1':(1:Int)<s.length:=by omega
    have h1':¬ (4000:Int)<s.length:=by omega
    obtain ⟨b,hb⟩:∃ b,s[0]?=some b:=⟨s[0],List.getElem?_eq_getElem hpos⟩
    have hb0:s[0]=b:=by simpa using (List.getElem?_eq_some_iff.1 hb).2
    by_cases hh:b.toNat=48
    ·have hh':(b.toNat:Int)=48:=by omega
     simp (disch:=omega) [Eb,bM,h0,h1,h1',hl1,hl1',hb,hb0,hh,hh']
    ·have hh':¬ (b.toNat:Int)=48:=by omega
     have hr0:¬ r=[]:=fun h3=>h ⟨h0,by omega,fun h4=>hh (by have := h4.2; rw [hb] at this; simp at this; rw [this]; rfl),hr.1 h3⟩
     simp (disch:=omega) [Eb,bM,h0,h1,h1',hl1,hl1',hb,hb0,hh,hh',ht,hr0]
   ·have hl1':¬ (1:Int)<s.length:=by omega
    have h1':¬ (4000:Int)<s.length:=by omega
    have hr0:¬ r=[]:=fun h3=>h ⟨h0,by omega,fun h4=>hl1 h4.1,hr.1 h3⟩
    simp (disch:=omega) [Eb,bM,h0,h1,h1',hl1,hl1',ht,hr0]
end Go.Ev.Code
end
section
namespace Go.Ev.Code
open Go Go.Ev
theorem aDf {m:Mem} {k:Nat} (h:k≤4294967296):eX .and [.int .i64 k,.int .i64 1] m=some (.int .i64 ((k % 2:Nat):Int),m):=by
 rw [aDI]
 have h1:(BitVec.ofInt IntKind.i64.bits (k:Int)).toNat=k:=by
  show (BitVec.ofInt 64 (k:Int)).toNat=k
  rw [BitVec.toNat_ofInt]
  omega
 have h2:(BitVec.ofInt IntKind.i64.bits 1).toNat=1:=by decide
 rw [BitVec.toNat_and,h1,h2,Nat.and_one_is_mod,wrap64 _ (by omega)]
theorem aDM {m:Mem} {k:Nat}:tV false [.int .i64 k,.int .u64 1] m=some (.int .i64 ((k / 2:Nat):Int),m):=by
 rw [aDK _ _ _ _ (by omega)]
 have : ((k:Int).fdiv (2^(min (Int.toNat 1) IntKind.i64.bits)))=((k / 2:Nat):Int):=by
  show (k:Int).fdiv 2=_
  rw [Int.fdiv_eq_ediv_of_nonneg _ (by omega)]; omega
 rw [this]
theorem az7:∀ (k a b:Nat),k≤4294967296→a≠0→b≠0→NB 900000 (a*b^k)→NB 900000 b →
  L.loop [1,5,6] [5] xZ 0 [.int .i64 k,dI a,dI b] []=some (.exit 0,[dI (a*b^k)],[]):=by
 intro k
 induction k using Nat.strongRecOn with
 | _ k ih =>
 intro a b hk ha hb hn hbb
 by_cases h0:k=0
 ·subst h0
  refine au (Ed ..) ?_
  simp [yV]
 have hpos:0<k:=by omega
 have hab:a*b≤a*b^k:=Nat.mul_le_mul_left _ (Nat.le_pow hpos)
 have fa:Fit a:=(hn.le (Nat.le_trans (Nat.le_mul_of_pos_right _ (Nat.pos_of_ne_zero hb)) hab)).fit (Nat.le_refl _)
 have fb:Fit b:=hbb.fit (Nat.le_refl _)
 have hm1:=Ld fa fb
 have hm2:=Ld fb fb
 have f1:∀ m:Mem,eX .and [.int .i64 k,.int .i64 1] m=some (.int .i64 ((k % 2:Nat):Int),m):=fun m=>aDf hk
 have f2:∀ m:Mem,tV false [.int .i64 k,.int .u64 1] m=some (.int .i64 ((k / 2:Nat):Int),m):=fun m=>aDM
 have hsq:1<k→NB 900000 (b*b):=fun h=>by
  refine hn.le ?_
  have : b^2≤b^k:=Nat.pow_le_pow_right (Nat.pos_of_ne_zero hb) h
  have h2:b^k≤a*b^k:=Nat.le_mul_of_pos_left _ (Nat.pos_of_ne_zero ha)
  rw [Nat.pow_two] at this
  exact Nat.le_trans this h2
 have hstep:∀ a' b',a'≠0→b'≠0→a'*b'^(k / 2)=a*b^k→NB 900000 b' →
   L.loop [1,5,6] [5] xZ 0 [.int .i64 ((k / 2:Nat):Int),dI a',dI b'] []=some (.exit 0,[dI (a*b^k)],[]):=by
  intro a' b' h1 h2 h3 h4
  have := ih (k / 2) (by omega) a' b' (by omega) h1 h2 (by rw [h3]; exact hn) h4
  rw [h3] at this
  exact this
 have hbk:b^k=b^(k % 2)*(b*b)^(k / 2):=by
  rw [← Nat.pow_two,← Nat.pow_mul,← Nat.pow_add]; congr 1; omega
 have hpI:(0:Int)<k:=by omega
 by_cases hk1:1<k
 ·have hk1':(1:Int)<k:=by omega
  have hbb2:b*b≠0:=Nat.mul_ne_zero hb hb
  by_cases ho:k % 2=1
  ·have hnext:=hstep (a*b) (b*b) (Nat.mul_ne_zero ha hb) hbb2 (by rw [hbk,ho,Nat.pow_one,Nat.mul_assoc]) (hsq hk1)
   have hoI:((k % 2:Nat):Int)=1:=by omega
   generalize k % 2=k2 at *
   generalize k / 2=kh at *
   refine au (Ed ..) ?_
   generalize a*b^k=r at *
   generalize a*b=ab at *
   generalize b*b=b2 at *
   simp (disch:=omega) [yV,hpI,hpos,f1,f2,hk1,hk1',ho,hoI,hm1,hm2,hnext]
  ·have hnext:=hstep a (b*b) ha hbb2 (by rw [hbk,show k % 2=0 by omega,Nat.pow_zero,Nat.one_mul]) (hsq hk1)
   have hoI:¬ ((k % 2:Nat):Int)=1:=by omega
   generalize k % 2=k2 at *
   generalize k / 2=kh at *
   refine au (Ed ..) ?_
   generalize a*b^k=r at *
   generalize a*b=ab at *
   generalize b*b=b2 at *
   simp (disch:=omega) [yV,hpI,hpos,f1,f2,hk1,hk1',ho,hoI,hm1,hm2,hnext]
 ·have hk1e:k=1:=by omega
  subst hk1e
  have hnext:=hstep (a*b) b (Nat.mul_ne_zero ha hb) hb (by simp) hbb
  simp at hnext
  refine au (Ed ..) ?_
  have f1':=fun m=>f1 m
  simp at f1' f2
  rw [Nat.pow_one]
  generalize a*b=ab at *
  simp (disch:=omega) [yV,f1',f2,hm1,hnext]
theorem awg {b k:Nat} (hk:k≤4294967296) (hb:b≠0) (hn:NB 900000 (b^k)) (hbb:NB 900000 b):L.call NG [dI b,.int .i64 k]=some (dI (b^k)):=by
 have h1:=ru 1 (by decide)
 have h1':L.call Jz [.int .u64 1]=some (dI 1):=h1
 have hl:=az7 k 1 b hk (by decide) hb (by rw [Nat.one_mul]; exact hn) hbb
 rw [Nat.one_mul] at hl
 generalize b^k=r at *
 refine aj (ao6 ..) ?_
 simp [afB,h1',hl]
end Go.Ev.Code
end
section
namespace Go.Ev.Code
open Go Go.Ev
theorem as6:TT.fn strings_CutPrefix=none:=by kernel_rfl
theorem as7:TT.ku strings_CutPrefix=Lj:=by kernel_rfl
theorem af7 (s p:List UInt8):L.call strings_CutPrefix [.str s,.str p]=some (if p.isPrefixOf s then .aG [.str (s.drop p.length),.bool true] else .aG [.str s,.bool false]):=by
 have hp:TT.ku strings_CutPrefix [.str s,.str p] []=some (if p.isPrefixOf s then .aG [.str (s.drop p.length),.bool true] else .aG [.str s,.bool false],[]):=by
  rw [as7]
  simp only [Lj]
  split <;> rfl
 refine Ls as6 hp ?_
 split <;> simp
theorem aD_:TT.fn strings_Cut=none:=by kernel_rfl
theorem aD':TT.ku strings_Cut=ar2:=by kernel_rfl
def iG (c:UInt8) (s:List UInt8):List UInt8×List UInt8×Bool:=match cutAt c [] s with
 | some (a,b)=>(a,b,true)
 | none=>(s,[],false)
theorem awW {s:List UInt8} (h:s.length<4294967281) (c:UInt8):L.call strings_Cut [.str s,.str [c]]=some (.aG [.str (iG c s).1,.str (iG c s).2.1,.bool (iG c s).2.2]):=by
 have hp:TT.ku strings_Cut [.str s,.str [c]] []=some (.aG [.str (iG c s).1,.str (iG c s).2.1,.bool (iG c s).2.2],[]):=by
  rw [aD']
  simp only [ar2,h,if_true,iG]
  cases hc:cutAt c [] s with
  | none=>rfl
  | some ab=>rfl
 exact Ls aD_ hp (by simp)
theorem ak4 {c:UInt8}:∀ {s acc a b:List UInt8},cutAt c acc s=some (a,b)→∃ x,a=acc.reverse++x∧s=x++c::b∧c ∉ x
 | [],acc,a,b,h=>by simp [cutAt] at h
 | y::ys,acc,a,b,h=>by
   simp only [cutAt] at h
   split at h
   ·rename_i hy
    simp at h hy
    obtain ⟨rfl,rfl⟩:=h
    exact ⟨[],by simp,by simp [hy],by simp⟩
   ·rename_i hy
    obtain ⟨x,h1,h2,h3⟩:=ak4 h
    refine ⟨y::x,by simp [h1],by simp [h2],?_⟩
    simp at hy
    simp [h3,Ne.symm hy]
theorem agB {c:UInt8} {s:List UInt8} (h:(iG c s).2.2=true):s=(iG c s).1++c::(iG c s).2.1∧c ∉ (iG c s).1:=by
 unfold iG at *
 cases hc:cutAt c [] s with
 | none=>rw [hc] at h; simp at h
 | some ab =>
   obtain ⟨a,b⟩:=ab
   obtain ⟨x,h1,h2,h3⟩:=ak4 hc
   simp at h1
   subst h1
   exact ⟨h2,h3⟩
theorem Ej {c:UInt8} {s:List UInt8} (h:(iG c s).2.2=false):(iG c s).1=s∧(iG c s).2.1=[]:=by
 unfold iG at *
 cases hc:cutAt c [] s with
 | none=>simp
 | some ab=>obtain ⟨a,b⟩:=ab; rw [hc] at h; simp at h
theorem aeb (c:UInt8) (s:List UInt8):(iG c s).1.length≤s.length∧(iG c s).2.1.length≤s.length∧(iG c s).1.length+(iG c s).2.1.length≤s.length:=by
 cases h:(iG c s).2.2 with
 | true =>
   have := congrArg List.length (agB h).1
   simp at this
   omega
 | false=>rw [(Ej h).1,(Ej h).2]; simp
theorem avr:TT.fn lC=none:=by kernel_rfl
theorem avt:TT.ku lC=Ph:=by kernel_rfl
theorem atm {s:List UInt8} (h:s.length≤1000000) (c:UInt8) (hc:c.toNat<128):L.call lC [.str s,.str [c]]=some (.str (strip (fun b=>b==c) s)):=by
 have hp:TT.ku lC [.str s,.str [c]] []=some (.str (strip (fun b=>b==c) s),[]):=by
  rw [avt]
  simp only [Ph,h,hc,and_self,if_true]
 exact Ls avr hp (by simp)
theorem ak_ {k:Nat} (h:k≤200000):L.call ac4 [.int .i64 k]=some (intD ((10^k:Nat):Int)):=by
 have h1:=ru 10 (by decide)
 have h1':L.call Jz [.int .u64 10]=some (dI 10):=h1
 have hn:NB 900000 (10^k):=by
  refine NB.mono (j:=4*k+1) ?_ (by omega)
  unfold NB
  have : 10^k≤(2^4)^k:=Nat.pow_le_pow_left (by decide) k
  rw [← Nat.pow_mul] at this
  exact Nat.lt_of_le_of_lt this (Nat.pow_lt_pow_right (by decide) (by omega))
 have h2:=awg (b:=10) (k:=k) (by omega) (by decide) hn ((show NB 4 10 by unfold NB; decide).mono (by decide))
 generalize 10^k=r at *
 refine aj (aw3 ..) ?_
 simp [aoC,h1',h2]
theorem amc (s:List UInt8):bZ 0 (strip (fun b=>b==48) s)=bZ 0 s:=by
 induction s with
 | nil=>simp [strip]
 | cons b bs ih =>
   by_cases h:b=48
   ·subst h
    rw [rC]
    simpa [strip] using ih
   ·simp [strip,h]
theorem asJ (p:UInt8→Bool) (s:List UInt8):strip p s <:+ s:=by rw [aAG]; exact List.dropWhile_suffix p
theorem ayC {s:List UInt8} (h:s.all iW=true) (hl:s.length≤4000) (hne:strip (fun b=>b==48) s≠[]):uY (strip (fun b=>b==48) s):=by
 have hsub:=asJ (fun b=>b==48) s
 refine ⟨hne,Nat.le_trans hsub.length_le hl,?_,?_⟩
 ·rintro ⟨_,h2⟩
  cases hc:strip (fun b=>b==48) s with
  | nil=>exact hne hc
  | cons b bs =>
    have := amb _ s hc
    rw [hc] at h2
    simp at h2 this
    exact this h2
 ·rw [List.all_eq_true] at h ⊢
  exact fun x hx=>h x (hsub.subset hx)
instance (s:List UInt8):Decidable (uY s):=inferInstanceAs (Decidable (_∧_))
def iF (s:List UInt8):Bool×List UInt8:=if [45].isPrefixOf s then (true,s.drop 1) else (false,s)
theorem abv (s:List UInt8):(iF s).2.length≤s.length:=by unfold iF; split <;> simp
def En (neg:Bool) (w r:List UInt8) (point:Bool):Option (Rat×Nat) :=
 if uY w∧(point=true→r≠[]∧r.length≤20∧r.all iW=true)∧¬ (neg=true∧bZ 0 (w++r)=0) then
  some (Rat.divInt (if neg then -(bZ 0 (w++r):Int) else bZ 0 (w++r)) ((10^r.length:Nat):Int),r.length) else none
def oZ (s:List UInt8):Option (Rat×Nat) :=
 if s.length≤60 then En (iF s).1 (iG 46 (iF s).2).1 (iG 46 (iF s).2).2.1 (iG 46 (iF s).2).2.2 else none
def Hy:Option (Rat×Nat)→D
 | some (q,n) => .aG [cZ q,.int .i64 n,.bQ]
 | none => .aG [.iy,.int .i64 0,BD 1]
theorem awV (s:List UInt8):L.call strings_CutPrefix [.str s,.str [45]]=some (.aG [.str (iF s).2,.bool (iF s).1]):=by
 rw [af7]
 unfold iF
 split <;> rfl
end Go.Ev.Code
end
section
namespace Go.Ev.Code
open Go Go.Ev
theorem au4 {s:List UInt8} (h:s.all iW=true) {k:Nat} (hk:4*s.length≤k):NB k (bZ 0 s):=(ahW (Yd h)).mono hk
theorem avk (k:Nat):((10^k:Nat):Int)≠0:=by have : 0<10^k:=Nat.pow_pos (by decide); omega
theorem ahV (k:Nat):IB (4*k+1) ((10^k:Nat):Int):=by
 refine IB.ofNat ?_
 unfold NB
 have : 10^k≤(2^4)^k:=Nat.pow_le_pow_left (by decide) k
 rw [← Nat.pow_mul] at this
 exact Nat.lt_of_le_of_lt this (Nat.pow_lt_pow_right (by decide) (by omega))
theorem aCU:L.call DJ [.str [48]]=some (.aG [dI 0,.bQ]):=by
 have := E8 (s:=[48]) (by decide)
 rw [show bZ 0 [48]=0 by simp [rC,sZ]] at this
 exact this
theorem agD {s t w r:List UInt8} {neg point:Bool} (h1:L.call strings_CutPrefix [.str s,.str [45]]=some (.aG [.str t,.bool neg]))
  (h2:L.call strings_Cut [.str t,.str [46]]=some (.aG [.str w,.str r,.bool point])) (hs:s.length≤60) (hw:w.length≤s.length) (hr:r.length≤20)
  (hp:point=false→r=[]) (hd:r.all iW=true) (hn:uY w) (hg:point=true→r≠[]):L.call GR [.str s]=some (Hy (En neg w r point)):=by
 have had:(w++r).all iW=true:=by rw [List.all_append,hn.2.2.2,hd]; rfl
 have hal:(w++r).length≤80:=by simp; omega
 obtain ⟨tr,htr,hT⟩:=ah6 (s:=r) (by omega)
 have htr':=htr.2 hd
 subst htr'
 have hG:=E8 hn
 have hL:=atm (s:=w++r) (by omega) 48 (by decide)
 have hz:=aCU
 have hall:∃ v,bZ 0 (w++r)=v∧(strip (fun b=>b==48) (w++r)=[]→v=0)∧(strip (fun b=>b==48) (w++r)≠[]→L.call DJ [.str (strip (fun b=>b==48) (w++r))]=some (.aG [dI v,.bQ])):=by
  refine ⟨_,rfl,fun h=>?_,fun h=>?_⟩
  ·rw [← amc,h,sZ]
  ·rw [E8 (ayC had (by omega) h),amc]
 obtain ⟨v,hv,hv0,hv1⟩:=hall
 have hvb:NB 320 v:=by rw [← hv]; exact au4 had (by omega)
 have hib:IB 320 (if neg then -(v:Int) else v):=by
  cases neg
  ·exact IB.ofNat hvb
  ·exact (IB.ofNat hvb).neg
 have hten:=ak_ (k:=r.length) (by omega)
 have hnew:=Fq hib (ahV r.length) (by omega) (by omega) (avk _)
 have hs':¬ 60<s.length:=by omega
 have hsI:¬ (60:Int)<s.length:=by omega
 have hr':¬ 20<r.length:=by omega
 have hwr:w.length+r.length≤1099511627776:=by omega
 have hrI:¬ (20:Int)<r.length:=by omega
 have hcond:(point=true→r≠[]∧r.length≤20∧r.all iW=true):=fun h=>⟨hg h,hr,hd⟩
 have hpp:En neg w r point=if ¬ (neg=true∧v=0) then some (Rat.divInt (if neg then -(v:Int) else v) ((10^r.length:Nat):Int),r.length) else none:=by
  unfold En
  rw [hv]
  by_cases hz:neg=true∧v=0
  ·rw [if_neg (fun h=>h.2.2 hz),if_neg (fun h=>h hz)]
  ·rw [if_pos ⟨hn,hcond,hz⟩,if_pos hz]
 rw [hpp]
 refine aj (anA ..) ?_
 have hpt:point=true∧¬ r=[]∨point=false:=by
  cases hpp:point
  ·exact .inr rfl
  ·exact .inl ⟨rfl,hg hpp⟩
 generalize hten2:((10^r.length:Nat):Int)=ten at *
 generalize hst:strip (fun b=>b==48) (w++r)=st at *
 generalize bZ 0 w=nw at *
 by_cases hst0:st=[]
 ·have hvz:=hv0 hst0
  subst hst0
  subst hvz
  rcases hpt with ⟨hpt,hrn⟩ | hpt
  ·subst hpt
   cases neg with
   | false =>
     simp at hnew
     simp (disch:=omega) [jQ,h1,h2,hs',hsI,hwr,hr',hrI,hrn,hT,hG,hz,hL,hten,hnew,Hy]
   | true=>simp (disch:=omega) [jQ,h1,h2,hs',hsI,hwr,hr',hrI,hrn,hT,hG,hz,hL,Hy,bM]
  ·subst hpt
   cases neg with
   | false =>
     simp at hnew
     simp (disch:=omega) [jQ,h1,h2,hs',hsI,hwr,hr',hrI,hT,hG,hz,hL,hten,hnew,Hy]
   | true=>simp (disch:=omega) [jQ,h1,h2,hs',hsI,hwr,hr',hrI,hT,hG,hz,hL,Hy,bM]
 ·have hvn:=hv1 hst0
  rcases hpt with ⟨hpt,hrn⟩ | hpt
  ·subst hpt
   cases neg with
   | false =>
     simp at hnew
     simp (disch:=omega) [jQ,h1,h2,hs',hsI,hwr,hr',hrI,hrn,hT,hG,hz,hL,hten,hnew,Hy,hst0,hvn]
   | true =>
     simp at hnew
     by_cases hvz:v=0
     ·subst hvz
      simp (disch:=omega) [jQ,h1,h2,hs',hsI,hwr,hr',hrI,hrn,hT,hG,hz,hL,Hy,bM,hst0,hvn]
     ·simp (disch:=omega) [jQ,h1,h2,hs',hsI,hwr,hr',hrI,hrn,hT,hG,hz,hL,hten,hnew,Hy,hst0,hvn,hvz]
  ·subst hpt
   cases neg with
   | false =>
     simp at hnew
     simp (disch:=omega) [jQ,h1,h2,hs',hsI,hwr,hr',hrI,hT,hG,hz,hL,hten,hnew,Hy,hst0,hvn]
   | true =>
     simp at hnew
     by_cases hvz:v=0
     ·subst hvz
      simp (disch:=omega) [jQ,h1,h2,hs',hsI,hwr,hr',hrI,hT,hG,hz,hL,Hy,bM,hst0,hvn]
     ·simp (disch:=omega) [jQ,h1,h2,hs',hsI,hwr,hr',hrI,hT,hG,hz,hL,hten,hnew,Hy,hst0,hvn,hvz]
set_option maxHeartbeats 1000000 in
theorem atA {s t w r:List UInt8} {neg point:Bool} (h1:L.call strings_CutPrefix [.str s,.str [45]]=some (.aG [.str t,.bool neg]))
  (h2:L.call strings_Cut [.str t,.str [46]]=some (.aG [.str w,.str r,.bool point])) (hs:s.length≤1000000) (hw:w.length≤s.length) (hr:r.length≤s.length)
  (hb:60<s.length∨¬ uY w∨(point=true∧(r=[]∨20<r.length∨¬ r.all iW=true))):L.call GR [.str s]=some (.aG [.iy,.int .i64 0,BD 1]):=by
 obtain ⟨tr,htr,hT⟩:=ah6 (s:=r) (by omega)
 have hG:∃ a b,L.call DJ [.str w]=some (.aG [a,b])∧((b = .bQ∧uY w)∨(b=BD 1∧¬ uY w)):=by
  by_cases h:uY w
  ·exact ⟨_,_,E8 h,.inl ⟨rfl,h⟩⟩
  ·exact ⟨_,_,ai9 h (by omega),.inr ⟨rfl,h⟩⟩
 obtain ⟨a,b,hG,hab⟩:=hG
 refine aj (anA ..) ?_
 by_cases h60:60<s.length
 ·have h60':(60:Int)<s.length:=by omega
  simp (disch:=omega) [jQ,h1,h2,h60,h60',hG,bM]
 have h60':¬ (60:Int)<s.length:=by omega
 by_cases hpt:point=true
 ·subst hpt
  by_cases hr0:r=[]
  ·subst hr0
   simp (disch:=omega) [jQ,h1,h2,h60,h60',hG,bM]
  by_cases hr2:20<r.length
  ·have hr2':(20:Int)<r.length:=by omega
   simp (disch:=omega) [jQ,h1,h2,h60,h60',hr0,hr2,hr2',hG,bM]
  have hr2':¬ (20:Int)<r.length:=by omega
  by_cases hrd:r.all iW=true
  ·have hnw:¬ uY w:=by
    rcases hb with h | h | ⟨_,h | h | h⟩
    ·exact absurd h h60
    ·exact h
    ·exact absurd h hr0
    ·exact absurd h hr2
    ·exact absurd hrd h
   rcases hab with ⟨_,h⟩ | ⟨rfl,_⟩
   ·exact absurd h hnw
   have := htr.2 hrd
   subst this
   simp (disch:=omega) [jQ,h1,h2,h60,h60',hr0,hr2,hr2',hT,hG,bM]
  ·have htn:¬ tr=[]:=fun h=>hrd (htr.1 h)
   simp (disch:=omega) [jQ,h1,h2,h60,h60',hr0,hr2,hr2',hT,htn,hG,bM]
 ·have hpf:point=false:=by simpa using hpt
  subst hpf
  have hnw:¬ uY w:=by
   rcases hb with h | h | ⟨h,_⟩
   ·exact absurd h h60
   ·exact h
   ·simp at h
  rcases hab with ⟨_,h⟩ | ⟨rfl,_⟩
  ·exact absurd h hnw
  simp (disch:=omega) [jQ,h1,h2,h60,h60',hG,bM]
theorem Qq {s:List UInt8} (hs:s.length≤1000000):L.call GR [.str s]=some (Hy (oZ s)):=by
 have h1:=awV s
 have hl:=abv s
 have h2:=awW (s:=(iF s).2) (by omega) 46
 have hbl:=aeb 46 (iF s).2
 have hf := @Ej 46 (iF s).2
 unfold oZ
 generalize (iF s).2=t at *
 generalize (iF s).1=neg at *
 generalize (iG 46 t).1=w at *
 generalize (iG 46 t).2.1=r at *
 generalize (iG 46 t).2.2=point at *
 by_cases hb:60<s.length∨¬ uY w∨(point=true∧(r=[]∨20<r.length∨¬ r.all iW=true))
 ·rw [atA h1 h2 hs (by omega) (by omega) hb]
  by_cases h60:s.length≤60
  ·have : En neg w r point=none:=by
    unfold En
    rw [if_neg]
    rintro ⟨q1,q2,q3⟩
    rcases hb with h | h | ⟨h3,h⟩
    ·omega
    ·exact h q1
    ·obtain ⟨a1,a2,a3⟩:=q2 h3
     rcases h with h | h | h
     ·exact a1 h
     ·omega
     ·exact h a3
   rw [if_pos h60,this]; rfl
  ·rw [if_neg h60]; rfl
 ·have g1:¬ 60<s.length:=fun h=>hb (.inl h)
  have g2:uY w:=Classical.not_not.1 fun h=>hb (.inr (.inl h))
  have g3:point=true→r≠[]:=fun h h'=>hb (.inr (.inr ⟨h,.inl h'⟩))
  have g4:point=true→r.length≤20:=fun h=>Nat.le_of_not_lt fun h'=>hb (.inr (.inr ⟨h,.inr (.inl h')⟩))
  have g5:point=true→r.all iW=true:=fun h=>Classical.not_not.1 fun h'=>hb (.inr (.inr ⟨h,.inr (.inr h')⟩))
  have g6:point=false→r=[]:=fun h=>(hf h).2
  rw [if_pos (by omega)]
  cases point with
  | true=>exact agD h1 h2 (by omega) (by omega) (g4 rfl) g6 (g5 rfl) g2 g3
  | false =>
    have := g6 rfl
    exact agD h1 h2 (by omega) (by omega) (by rw [this]; simp) g6 (by rw [this]; rfl) g2 g3
end Go.Ev.Code
end
