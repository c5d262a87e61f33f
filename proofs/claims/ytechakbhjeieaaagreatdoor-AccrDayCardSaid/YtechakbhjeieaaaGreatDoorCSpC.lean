/- Part of accrDay_card. -/
import Derived.Test.YtechakbhjeieaaaGreatDoorCSpB
set_option linter.unusedVariables false
set_option linter.unusedSimpArgs false
section
namespace Go.Ev.Code
open Go Go.Ev
def dg (n:Nat):UInt8:=UInt8.ofNat (48+n)
def txt (n:Nat):List UInt8:=if h:n<10 then [dg n] else txt (n / 10)++[dg (n % 10)]
 termination_by n
 decreasing_by omega
def Z5:Nat→Nat→List UInt8
 | 0,_=>[]
 | k+1,n=>Z5 k (n / 10)++[dg (n % 10)]
theorem SH {n:Nat} (h:n<10):txt n=[dg n]:=by rw [txt]; simp [h]
theorem aaA {n:Nat} (h:10≤n):txt n=txt (n / 10)++[dg (n % 10)]:=by rw [txt]; simp [Nat.not_lt.2 h]
theorem agT:∀ (k:Nat) {n:Nat},10^k≤n→txt n=txt (n / 10^k)++Z5 k (n % 10^k)
 | 0,n,_=>by simp [Z5]
 | k+1,n,h=>by
   have h10:10≤n:=Nat.le_trans (by rw [Nat.pow_succ]; have := Nat.pow_pos (n:=k) (show 0<10 by decide); omega) h
   have h1:10^k≤n / 10:=by rw [Nat.le_div_iff_mul_le (by decide),← Nat.pow_succ]; exact h
   have e1:n % 10^(k+1) / 10=n / 10 % 10^k:=by
    rw [Nat.pow_succ,Nat.mul_comm,Nat.mod_mul_right_div_self]
   have e2:n % 10^(k+1) % 10=n % 10:=Nat.mod_mod_of_dvd _ (Nat.dvd_of_pow_dvd (show 1≤k+1 by omega) (Nat.dvd_refl _))
   rw [aaA h10,agT k h1,Nat.div_div_eq_div_mul,← Nat.pow_succ',Z5,e1,e2,List.append_assoc]
theorem alW (n:Nat):0<(txt n).length:=by
 rw [txt]; split <;> simp
theorem QC:∀ (k:Nat) {n:Nat},1≤k→n<10^k→(txt n).length≤k
 | 0,_,h,_=>by omega
 | k+1,n,_,h=>by
   by_cases h10:n<10
   ·rw [SH h10]; simp
   ·rw [aaA (by omega)]
    have h1:n / 10<10^k:=by rw [Nat.div_lt_iff_lt_mul (by decide),← Nat.pow_succ]; exact h
    have hk:1≤k:=by
     rcases Nat.eq_zero_or_pos k with rfl | h
     ·simp at h1; omega
     ·exact h
    have := QC k hk h1
    simp; omega
theorem adZ:∀ (k:Nat) {n:Nat},1≤k→n<10^k→Z5 k n=List.replicate (k-(txt n).length) 48++txt n
 | 0,_,h,_=>by omega
 | k+1,n,_,h=>by
   rw [Z5]
   have h1:n / 10<10^k:=by rw [Nat.div_lt_iff_lt_mul (by decide),← Nat.pow_succ]; exact h
   by_cases h10:n<10
   ·rw [SH h10,Nat.div_eq_of_lt h10,Nat.mod_eq_of_lt h10]
    rcases Nat.eq_zero_or_pos k with rfl | hk
    ·simp [Z5]
    ·rw [adZ k hk (by exact Nat.pow_pos (by decide)),SH (by decide)]
     have e:dg 0=48:=by decide
     have : k+1-[dg n].length=(k-[dg 0].length)+1:=by simp; omega
     rw [this,List.replicate_succ',e]
   ·have hk:1≤k:=by
     rcases Nat.eq_zero_or_pos k with rfl | h
     ·simp at h1; omega
     ·exact h
    have e:k+1-(txt (n / 10)++[dg (n % 10)]).length=k-(txt (n / 10)).length:=by simp
    rw [adZ k hk h1,aaA (n:=n) (by omega),List.append_assoc,e]
theorem decDigits_eq:∀ (f n:Nat) (acc:List UInt8),1≤f→n<10^f→decDigits f n acc=txt n++acc
 | 0,_,_,h,_=>by omega
 | f+1,n,acc,_,h=>by
   unfold decDigits
   by_cases h10:n<10
   ·have : n / 10=0:=Nat.div_eq_of_lt h10
    rw [if_pos this,SH h10,Nat.mod_eq_of_lt h10]; rfl
   ·have hne:n / 10≠0:=by omega
    have h1:n / 10<10^f:=by rw [Nat.div_lt_iff_lt_mul (by decide),← Nat.pow_succ]; exact h
    have hf:1≤f:=by
     rcases Nat.eq_zero_or_pos f with rfl | h
     ·simp at h1; omega
     ·exact h
    rw [if_neg hne,decDigits_eq f _ _ hf h1,aaA (n:=n) (by omega),List.append_assoc]; rfl
theorem ane {n:Nat} (h:n<10^100):DU n=txt n:=by
 unfold DU
 rw [decDigits_eq 100 n [] (by decide) h,List.append_nil]
theorem aqi:TT.fn gX=none:=by kernel_rfl
theorem aqk:TT.lM gX=Wy:=by kernel_rfl
theorem aqj:TT.fn strings_Repeat=none:=by kernel_rfl
theorem aql:TT.lM strings_Repeat=Qv:=by kernel_rfl
theorem avg:TT.fn strings_Join=none:=by kernel_rfl
theorem avj:TT.lM strings_Join=XD:=by kernel_rfl
theorem aoo {n:Nat} (h:n<W):L.call gX [aH n,.int .i64 10]=some (.str (txt n)):=by
 have hp:TT.lM gX [aH n,.int .i64 10] []=some (.str (txt n),[]):=by
  rw [aqk]
  have : DU n=txt n:=ane (Nat.lt_trans h (by decide))
  simp [Wy,Gx h,this]
 exact NY aqi hp (by simp)
theorem afC {s:List UInt8} {n:Nat} (hn:n≤1000000) (hs:s.length≤1000):L.call strings_Repeat [.str s,.int .i64 n]=some (.str (List.replicate n s).flatten):=by
 have hp:TT.lM strings_Repeat [.str s,.int .i64 n] []=some (.str (List.replicate n s).flatten,[]):=by
  rw [aql]
  have : (0:Int)≤n∧(n:Int)≤1000000:=by omega
  simp [Qv,this,hs]
 exact NY aqj hp (by simp)
theorem ZF:∀ ss:List (List UInt8),CS [] ss=ss.flatten
 | []=>rfl
 | [x]=>by simp [CS]
 | x::y::xs=>by rw [CS,ZF (y::xs)]; simp
theorem amC:∀ ss:List (List UInt8),strs (ss.map D.str)=some ss
 | []=>rfl
 | s::ss=>by simp [strs,amC ss]
theorem asT {ss:List (List UInt8)} {sep:List UInt8} (h:(CS sep ss).length≤1000000) (hn:ss.length≤4294967296):L.call strings_Join [.sl ss.length (ss.map D.str),.str sep]=some (.str (CS sep ss)):=by
 have hp:TT.lM strings_Join [.sl ss.length (ss.map D.str),.str sep] []=some (.str (CS sep ss),[]):=by
  rw [avj]
  simp [XD,amC,h,hn]
 exact NY avg hp (by simp)
end Go.Ev.Code
end
section
namespace Go.Ev.Code
open Go Go.Ev
theorem amr (pre:Mem) (c:Slot):(pre++[c])[pre.length]?=some c:=by
 rw [List.getElem?_append_right (Nat.le_refl _)]; simp
theorem ams (pre:Mem) (c c':Slot):(pre++[c]).set pre.length c'=pre++[c']:=by
 rw [List.set_append_right _ _ (Nat.le_refl _)]; simp
def QE (b:Nat) (cs:List D):Prop:=∀ d∈cs,D.clo b 12 d=true∧fO d=some [d]
theorem QE.set {b:Nat} {cs:List D} (h:QE b cs) {d:D} (hd:D.clo b 12 d=true∧fO d=some [d]) (i:Nat):QE b (cs.set i d):=fun x hx=>by
 rcases List.mem_or_eq_of_mem_set hx with h1 | h1
 ·exact h x h1
 ·rw [h1]; exact hd
theorem QE.all {b:Nat} {cs:List D} (h:QE b cs):cs.all (D.clo b 12)=true:=by
 rw [List.all_eq_true]; exact fun x hx=>(h x hx).1
def Turned (l c:List D) (i j:Int):Prop:=c.length=l.length∧∀ k:Nat,k<l.length→c[k]?=if (k:Int)<i∨j<k then l[l.length-1-k]? else l[k]?
theorem an5 {pre:Mem} {l:List D} (hp:pre.all (Nj (pre.length+1))=true) (hL:l.length≤4000000000) :
  ∀ (n i:Nat) (j:Int) (c:List D),(j-i).toNat≤n→(i:Int)+j=(l.length:Int)-1→QE (pre.length+1) c→Turned l c i j →
  L.loop [0,2,3] [] fM (pre.length+1) [.bf pre.length 0 l.length 1,.int .i64 i,.int .i64 j] (pre++[.live c])=some (.exit 0,[],pre++[.live l.reverse]):=by
 intro n
 have fin:∀ (i:Nat) (j:Int) (c:List D),¬ (i:Int)<j→(i:Int)+j=(l.length:Int)-1→Turned l c i j→c=l.reverse:=by
  intro i j c hlt hs ht
  apply List.ext_getElem?
  intro k
  by_cases hk:k<l.length
  ·rw [ht.2 k hk,List.getElem?_reverse hk]
   split
   ·rfl
   ·have : k=l.length-1-k:=by omega
    rw [← this]
  ·rw [List.getElem?_eq_none (by rw [ht.1]; omega),List.getElem?_eq_none (by simp; omega)]
 have base:∀ (i:Nat) (j:Int) (c:List D),¬ (i:Int)<j→(i:Int)+j=(l.length:Int)-1→QE (pre.length+1) c→Turned l c i j→L.loop [0,2,3] [] fM (pre.length+1) [.bf pre.length 0 l.length 1,.int .i64 i,.int .i64 j] (pre++[.live c])=some (.exit 0,[],pre++[.live l.reverse]):=by
  intro i j c hlt hs hcl ht
  rw [fin i j c hlt hs ht] at hcl ⊢
  refine aJ (Du ..) ?_
  have ha:=hcl.all
  have hd:decide ((i:Int)<j)=false:=by simpa using hlt
  have htk:(pre++[Slot.live l.reverse]).take (pre.length+1)=pre++[.live l.reverse]:=List.take_of_length_le (by simp)
  have hlr:l.reverse.all (D.clo (pre.length+1) 12)=l.all (D.clo (pre.length+1) 12):=List.all_reverse
  rw [hlr] at ha
  simp [vV,hlt,ha,hp,htk]
 induction n with
 | zero=>intro i j c hn hs hcl ht; exact base i j c (by omega) hs hcl ht
 | succ n ih =>
   intro i j c hn hs hcl ht
   by_cases hlt:(i:Int)<j
   ·obtain ⟨jn,rfl⟩:∃ jn:Nat,j=jn:=⟨j.toNat,by omega⟩
    have hjl:jn<l.length:=by omega
    have hil:i<l.length:=by omega
    obtain ⟨x,hx⟩:∃ x,c[i]?=some x:=⟨c[i]'(by rw [ht.1]; exact hil),List.getElem?_eq_getElem _⟩
    obtain ⟨y,hy⟩:∃ y,c[jn]?=some y:=⟨c[jn]'(by rw [ht.1]; exact hjl),List.getElem?_eq_getElem _⟩
    have hcx:=hcl x (List.mem_of_getElem? hx)
    have hcy:=hcl y (List.mem_of_getElem? hy)
    have ht':Turned l ((c.set i y).set jn x) ((i+1:Nat):Int) ((jn:Int)-1):=by
     refine ⟨by simp [ht.1],fun k hk=>?_⟩
     have hi1:=ht.2 i hil
     have hj1:=ht.2 jn hjl
     rw [if_neg (by omega)] at hi1 hj1
     by_cases h1:k=jn
     ·subst h1
      rw [List.getElem?_set_self (by simp [ht.1]; omega),if_pos (by omega),← hx,hi1]
      congr 1; omega
     ·rw [List.getElem?_set_ne (by omega)]
      by_cases h2:k=i
      ·subst h2
       rw [List.getElem?_set_self (by rw [ht.1]; omega),if_pos (by omega),← hy,hj1]
       congr 1; omega
      ·rw [List.getElem?_set_ne (by omega),ht.2 k hk]
       by_cases h3:(k:Int)<i∨(jn:Int)<k
       ·rw [if_pos h3,if_pos (by omega)]
       ·rw [if_neg h3,if_neg (by omega)]
    have hcl':=(hcl.set hcy i).set hcx jn
    have h2:=ih (i+1) ((jn:Int)-1) ((c.set i y).set jn x) (by omega) (by omega) hcl' ht'
    refine aJ (Du ..) ?_
    have e1:IntKind.i64.wrap ((i:Int)+1)=((i+1:Nat):Int):=by rw [wrap64 _ (by omega)]; omega
    have e2:IntKind.i64.wrap ((jn:Int)-1)=(jn:Int)-1:=wrap64 _ (by omega)
    have hlt':i<jn:=by omega
    have w1:i+1≤c.length:=by rw [ht.1]; omega
    have w2:jn+1≤c.length:=by rw [ht.1]; omega
    have ha:=hcl'.all
    have hcx2:∀ p:i<c.length,c[i]=x:=fun p=>by simpa using (List.getElem?_eq_some_iff.1 hx).2
    have hcy2:∀ p:jn<c.length,c[jn]=y:=fun p=>by simpa using (List.getElem?_eq_some_iff.1 hy).2
    have htk:∀ z,(pre++[z]).take (pre.length+1)=pre++[z]:=fun z=>List.take_of_length_le (by simp)
    generalize hi1:i+1=i1 at *
    simp (disch:=omega) [vV,hlt',e1,e2,amr,ams,hx,hy,hcx.2,hcy.2,hcx2,hcy2,w1,w2,ha,hp,htk,oC,h2]
   ·exact base i j c hlt hs hcl ht
theorem arS {pre:Mem} {l:List D} (hp:pre.all (Nj (pre.length+1))=true) (hL:l.length≤4000000000) (hcl:QE (pre.length+1) l) :
  L.bK slices_Reverse_string [.bf pre.length 0 l.length 1] (pre++[.live l])=some (.bg [],pre++[.live l.reverse]):=by
 have h:=an5 hp hL _ 0 ((l.length:Int)-1) l (Nat.le_refl _) (by omega) hcl ⟨rfl,fun k hk=>by rw [if_neg (by omega)]⟩
 have h':L.loop [0,2,3] [] fM (pre.length+1) [.bf pre.length 0 l.length 1,.int .i64 0,.int .i64 ((l.length:Int)-1)] (pre++[.live l])=_:=h
 have e1:IntKind.i64.wrap ((l.length:Int)-1)=(l.length:Int)-1:=wrap64 _ (by omega)
 have htk:∀ z,(pre++[z]).take (pre.length+1)=pre++[z]:=fun z=>List.take_of_length_le (by simp)
 have ha:l.reverse.all (D.clo (pre.length+1) 12)=true:=by rw [List.all_reverse]; exact hcl.all
 refine qm SY rfl (SV ..) ?_
 simp [GH,e1,h',hp,ha,htk]
theorem an4 {pre:Mem} {l:List D} (hp:pre.all (Nj (pre.length+1))=true) (hL:l.length≤4000000000) :
  ∀ (n i:Nat) (j:Int) (c:List D),(j-i).toNat≤n→(i:Int)+j=(l.length:Int)-1→QE (pre.length+1) c→Turned l c i j →
  L.loop [0,2,3] [] ig (pre.length+1) [.bf pre.length 0 l.length 1,.int .i64 i,.int .i64 j] (pre++[.live c])=some (.exit 0,[],pre++[.live l.reverse]):=by
 intro n
 have fin:∀ (i:Nat) (j:Int) (c:List D),¬ (i:Int)<j→(i:Int)+j=(l.length:Int)-1→Turned l c i j→c=l.reverse:=by
  intro i j c hlt hs ht
  apply List.ext_getElem?
  intro k
  by_cases hk:k<l.length
  ·rw [ht.2 k hk,List.getElem?_reverse hk]
   split
   ·rfl
   ·have : k=l.length-1-k:=by omega
    rw [← this]
  ·rw [List.getElem?_eq_none (by rw [ht.1]; omega),List.getElem?_eq_none (by simp; omega)]
 have base:∀ (i:Nat) (j:Int) (c:List D),¬ (i:Int)<j→(i:Int)+j=(l.length:Int)-1→QE (pre.length+1) c→Turned l c i j→L.loop [0,2,3] [] ig (pre.length+1) [.bf pre.length 0 l.length 1,.int .i64 i,.int .i64 j] (pre++[.live c])=some (.exit 0,[],pre++[.live l.reverse]):=by
  intro i j c hlt hs hcl ht
  rw [fin i j c hlt hs ht] at hcl ⊢
  refine aJ (Gz ..) ?_
  have ha:=hcl.all
  have hd:decide ((i:Int)<j)=false:=by simpa using hlt
  have htk:(pre++[Slot.live l.reverse]).take (pre.length+1)=pre++[.live l.reverse]:=List.take_of_length_le (by simp)
  have hlr:l.reverse.all (D.clo (pre.length+1) 12)=l.all (D.clo (pre.length+1) 12):=List.all_reverse
  rw [hlr] at ha
  simp [yY,hlt,ha,hp,htk]
 induction n with
 | zero=>intro i j c hn hs hcl ht; exact base i j c (by omega) hs hcl ht
 | succ n ih =>
   intro i j c hn hs hcl ht
   by_cases hlt:(i:Int)<j
   ·obtain ⟨jn,rfl⟩:∃ jn:Nat,j=jn:=⟨j.toNat,by omega⟩
    have hjl:jn<l.length:=by omega
    have hil:i<l.length:=by omega
    obtain ⟨x,hx⟩:∃ x,c[i]?=some x:=⟨c[i]'(by rw [ht.1]; exact hil),List.getElem?_eq_getElem _⟩
    obtain ⟨y,hy⟩:∃ y,c[jn]?=some y:=⟨c[jn]'(by rw [ht.1]; exact hjl),List.getElem?_eq_getElem _⟩
    have hcx:=hcl x (List.mem_of_getElem? hx)
    have hcy:=hcl y (List.mem_of_getElem? hy)
    have ht':Turned l ((c.set i y).set jn x) ((i+1:Nat):Int) ((jn:Int)-1):=by
     refine ⟨by simp [ht.1],fun k hk=>?_⟩
     have hi1:=ht.2 i hil
     have hj1:=ht.2 jn hjl
     rw [if_neg (by omega)] at hi1 hj1
     by_cases h1:k=jn
     ·subst h1
      rw [List.getElem?_set_self (by simp [ht.1]; omega),if_pos (by omega),← hx,hi1]
      congr 1; omega
     ·rw [List.getElem?_set_ne (by omega)]
      by_cases h2:k=i
      ·subst h2
       rw [List.getElem?_set_self (by rw [ht.1]; omega),if_pos (by omega),← hy,hj1]
       congr 1; omega
      ·rw [List.getElem?_set_ne (by omega),ht.2 k hk]
       by_cases h3:(k:Int)<i∨(jn:Int)<k
       ·rw [if_pos h3,if_pos (by omega)]
       ·rw [if_neg h3,if_neg (by omega)]
    have hcl':=(hcl.set hcy i).set hcx jn
    have h2:=ih (i+1) ((jn:Int)-1) ((c.set i y).set jn x) (by omega) (by omega) hcl' ht'
    refine aJ (Gz ..) ?_
    have e1:IntKind.i64.wrap ((i:Int)+1)=((i+1:Nat):Int):=by rw [wrap64 _ (by omega)]; omega
    have e2:IntKind.i64.wrap ((jn:Int)-1)=(jn:Int)-1:=wrap64 _ (by omega)
    have hlt':i<jn:=by omega
    have w1:i+1≤c.length:=by rw [ht.1]; omega
    have w2:jn+1≤c.length:=by rw [ht.1]; omega
    have ha:=hcl'.all
    have hcx2:∀ p:i<c.length,c[i]=x:=fun p=>by simpa using (List.getElem?_eq_some_iff.1 hx).2
    have hcy2:∀ p:jn<c.length,c[jn]=y:=fun p=>by simpa using (List.getElem?_eq_some_iff.1 hy).2
    have htk:∀ z,(pre++[z]).take (pre.length+1)=pre++[z]:=fun z=>List.take_of_length_le (by simp)
    generalize hi1:i+1=i1 at *
    simp (disch:=omega) [yY,hlt',e1,e2,amr,ams,hx,hy,hcx.2,hcy.2,hcx2,hcy2,w1,w2,ha,hp,htk,oC,h2]
   ·exact base i j c hlt hs hcl ht
theorem arR {pre:Mem} {l:List D} (hp:pre.all (Nj (pre.length+1))=true) (hL:l.length≤4000000000) (hcl:QE (pre.length+1) l) :
  L.bK slices_Reverse_int [.bf pre.length 0 l.length 1] (pre++[.live l])=some (.bg [],pre++[.live l.reverse]):=by
 have h:=an4 hp hL _ 0 ((l.length:Int)-1) l (Nat.le_refl _) (by omega) hcl ⟨rfl,fun k hk=>by rw [if_neg (by omega)]⟩
 have h':L.loop [0,2,3] [] ig (pre.length+1) [.bf pre.length 0 l.length 1,.int .i64 0,.int .i64 ((l.length:Int)-1)] (pre++[.live l])=_:=h
 have e1:IntKind.i64.wrap ((l.length:Int)-1)=(l.length:Int)-1:=wrap64 _ (by omega)
 have htk:∀ z,(pre++[z]).take (pre.length+1)=pre++[z]:=fun z=>List.take_of_length_le (by simp)
 have ha:l.reverse.all (D.clo (pre.length+1) 12)=true:=by rw [List.all_reverse]; exact hcl.all
 refine qm Xe rfl (Xa ..) ?_
 simp [LM,e1,h',hp,ha,htk]
end Go.Ev.Code
end
section
namespace Go.Ev.Code
open Go Go.Ev
def piece (v:Nat):List UInt8:=if v<10^18 then txt v else Z5 18 (v % 10^18)
theorem agS {v:Nat} (h:v≠0):txt v=(if v / 10^18=0 then [] else txt (v / 10^18))++piece v:=by
 unfold piece
 by_cases h1:v<10^18
 ·rw [if_pos h1,if_pos (Nat.div_eq_of_lt h1),List.nil_append]
 ·have : v / 10^18≠0:=by
   have := Nat.div_pos (Nat.le_of_not_lt h1) (show 0<10^18 by decide)
   omega
  rw [if_neg h1,if_neg this]
  exact agT 18 (Nat.le_of_not_lt h1)
@[simp] theorem axM (b n:Nat) (l:List (List UInt8)):l.all (D.clo b (n+1) ∘ D.str)=true:=by simp
@[simp] theorem ayI (n:Nat) (l:List (List UInt8)) (m:Mem):lG (fz (n+1)) (l.map D.str) m=some (l.map D.str,m):=by
  induction l with
  | nil=>rfl
  | cons x xs ih=>simp [ih]
theorem abS {v:Nat} (hv:Fit v):∃ q:List Nat,L.call zW [bG (limbs v),.int .u64 1000000000000000000]=some (.bg [bG q,aH (v % 10^18)])∧L.call gJ [bG q]=some (dJ (v / 10^18))∧q.length=(limbs v).length ∧
  L.call gX [aH (v % 10^18),.int .i64 10]=some (.str (txt (v % 10^18))):=by
 have fv:(limbs v).length≤1000000000:=hv
 obtain ⟨q,q1,q2,q3,q4⟩:=ZU (d:=1000000000000000000) (bU v).1 (by decide) (by decide) (by omega)
 have hm:=lq q q2 (by unfold maxL; omega)
 rw [q3,dK] at hm
 rw [dK] at q4
 exact ⟨q,q4,hm,q1,aoo (Nat.lt_trans (Nat.mod_lt _ (by decide)) (by decide))⟩
theorem ap9 {X:Slot} (hX:Nj 1 X=true):∀ (j v:Nat) (ss:List (List UInt8)),v<10^(18*j)→Fit v→ss≠[]→ss.length+j≤4000000 →
  ∃ ss':List (List UInt8),ss'≠[]∧ss'.length≤4000000∧ss'.reverse.flatten=(if v=0 then [] else txt v)++ss.reverse.flatten ∧
    L.loop [3,4] [3] lT 1 [.bf 1 0 ss.length 1,bG (limbs v)] [X,.live (ss.map D.str)]=some (.exit 0,[.bf 1 0 ss'.length 1],[X,.live (ss'.map D.str)]):=by
 intro j
 induction j with
 | zero =>
   intro v ss hv _ hne hl
   have : v=0:=by simpa using hv
   subst this
   refine ⟨ss,hne,by omega,by simp,aJ (vW ..) ?_⟩
   simp [lJ,hX]
 | succ j ih =>
   intro v ss hv hf hne hl
   by_cases h0:v=0
   ·subst h0
    refine ⟨ss,hne,by omega,by simp,aJ (vW ..) ?_⟩
    simp [lJ,hX]
   ·have hq:v / 10^18<10^(18*j):=by
     rw [Nat.div_lt_iff_lt_mul (by decide),← Nat.pow_add]; exact hv
    obtain ⟨ss',g1,g2,g3,g4⟩:=ih (v / 10^18) (ss++[piece v]) hq (hf.of_le (Nat.div_le_self _ _)) (by simp) (by simp; omega)
    obtain ⟨q,c1,c2,c3,c4⟩:=abS hf
    refine ⟨ss',g1,g2,?_,aJ (vW ..) ?_⟩
    ·rw [g3,if_neg h0,agS h0]; simp
    ·have hvl:limbs v≠[]:=Jo h0
     have hvl':0<(limbs v).length:=List.length_pos_iff.2 hvl
     have hlen:ss.length+1≤4294967296:=by omega
     have htk:(ss.map D.str).take ss.length=ss.map D.str:=List.take_of_length_le (by simp)
     have hr:v % 10^18<10^18:=Nat.mod_lt _ (by decide)
     by_cases h1:v<10^18
     ·have e1:v / 10^18=0:=Nat.div_eq_of_lt h1
      have e2:v % 10^18=v:=Nat.mod_eq_of_lt h1
      have e3:piece v=txt v:=by unfold piece; rw [if_pos h1]
      rw [e1] at g4 c2
      rw [e2] at c1 c4
      rw [e3] at g4
      simp [c3] at c1 c2 g4
      simp [lJ,hvl,hvl',htk,c1,c2,c4,KQ,hlen,hX,iM,g4]
     ·have hd0:v / 10^18≠0:=by
       have := Nat.div_pos (Nat.le_of_not_lt h1) (show 0<10^18 by decide)
       omega
      have hdl:limbs (v / 10^18)≠[]:=Jo hd0
      have hdl':0<(limbs (v / 10^18)).length:=List.length_pos_iff.2 hdl
      have htl:=QC 18 (by decide) hr
      have hpad:=adZ 18 (by decide) hr
      have e3:piece v=List.replicate (18-(txt (v % 10^18)).length) 48++txt (v % 10^18):=by unfold piece; rw [if_neg h1,hpad]
      have e4:IntKind.i64.wrap (18-((txt (v % 10^18)).length:Int))=((18-(txt (v % 10^18)).length:Nat):Int):=by rw [wrap64 _ (by omega)]; omega
      have hrep:=afC (s:=[48]) (n:=18-(txt (v % 10^18)).length) (by omega) (by simp)
      have e5:(List.replicate (18-(txt (v % 10^18)).length) [(48:UInt8)]).flatten=List.replicate (18-(txt (v % 10^18)).length) 48:=by simp
      rw [e5] at hrep
      rw [e3] at g4
      generalize txt (v % 10^18)=tr at *
      generalize hk:18-tr.length=k at *
      have hlk:k+tr.length≤1099511627776:=by omega
      generalize v / 10^18=w at *
      generalize v % 10^18=r at *
      simp [c3] at c1 c2 g4
      simp [lJ,hvl,hdl,hvl',hdl',htk,c1,c2,c4,KQ,hlen,hX,iM,e4,hrep,hlk,g4]
def Wri (n:Nat):Prop:=∃ k:Nat,1≤k∧k≤900000∧n<10^k
theorem abN {v:Nat} (hf:Fit v) (hw:Wri v):L.call jR [dJ v]=some (.str (txt v)):=by
 refine aN aeN rfl (aeC ..) ?_
 by_cases h0:v=0
 ·subst h0
  have hc:=amL []
  have hl:L.loop [3,4] [3] lT 0 [.bH,bG []] []=some (.exit 0,[.bH],[]):=by
   refine aJ (vW ..) ?_
   simp [lJ]
  have ht:txt 0=[48]:=by rw [SH (by decide)]; rfl
  simp at hc hl
  simp [MZ,hc,hl,ht]
 ·have hvl:limbs v≠[]:=Jo h0
  have hvl':0<(limbs v).length:=List.length_pos_iff.2 hvl
  have fv:(limbs v).length≤1000000000:=hf
  have hc:=ab2 [] hvl (by omega)
  obtain ⟨k,hk1,hk2,hw⟩:=hw
  have hq:v / 10^18<10^(18*k):=Nat.lt_of_lt_of_le (Nat.lt_of_le_of_lt (Nat.div_le_self _ _) hw) (Nat.pow_le_pow_right (by decide) (by omega))
  obtain ⟨ss',g1,g2,g3,g4⟩:=ap9 (X := .jh ((limbs v).map aH)) rfl k (v / 10^18) [piece v] hq (hf.of_le (Nat.div_le_self _ _)) (by simp) (by simp; omega)
  obtain ⟨q,c1,c2,c3,c4⟩:=abS hf
  have hr:v % 10^18<10^18:=Nat.mod_lt _ (by decide)
  have htxt:ss'.reverse.flatten=txt v:=by rw [g3,agS h0]; simp
  have hlen1:((txt v).length)≤k:=QC k hk1 hw
  have hj:=asT (ss:=ss'.reverse) (sep:=[]) (by rw [ZF,htxt]; omega) (by simp; omega)
  rw [ZF,htxt] at hj
  have hss:0<ss'.length:=List.length_pos_iff.2 g1
  have hrev:=arS (pre:=[.jh ((limbs v).map aH)]) (l:=ss'.map D.str) rfl (by simp; omega) (fun d hd=>by
   obtain ⟨s,_,rfl⟩:=List.mem_map.1 hd
   exact ⟨rfl,rfl⟩)
  have htake:((limbs v).map aH).take (limbs v).length=(limbs v).map aH:=List.take_of_length_le (by simp)
  have first:L.loop [3,4] [3] lT 1 [.bH,.bf 0 0 (limbs v).length 1] [.live ((limbs v).map aH)]=some (.exit 0,[.bf 1 0 ss'.length 1],[.jh ((limbs v).map aH),.live (ss'.map D.str)]):=by
   refine aJ (vW ..) ?_
   by_cases h1:v<10^18
   ·have e1:v / 10^18=0:=Nat.div_eq_of_lt h1
    have e2:v % 10^18=v:=Nat.mod_eq_of_lt h1
    have e3:piece v=txt v:=by unfold piece; rw [if_pos h1]
    rw [e1] at g4 c2
    rw [e2] at c1 c4
    rw [e3] at g4
    simp [c3] at c1 c2 g4
    simp [lJ,hvl,hvl',htake,c1,c2,c4,KQ,iM,g4]
   ·have hd0:v / 10^18≠0:=by
     have := Nat.div_pos (Nat.le_of_not_lt h1) (show 0<10^18 by decide)
     omega
    have hdl:limbs (v / 10^18)≠[]:=Jo hd0
    have hdl':0<(limbs (v / 10^18)).length:=List.length_pos_iff.2 hdl
    have htl:=QC 18 (by decide) hr
    have hpad:=adZ 18 (by decide) hr
    have e3:piece v=List.replicate (18-(txt (v % 10^18)).length) 48++txt (v % 10^18):=by unfold piece; rw [if_neg h1,hpad]
    have e4:IntKind.i64.wrap (18-((txt (v % 10^18)).length:Int))=((18-(txt (v % 10^18)).length:Nat):Int):=by rw [wrap64 _ (by omega)]; omega
    have hrep:=afC (s:=[48]) (n:=18-(txt (v % 10^18)).length) (by omega) (by simp)
    have e5:(List.replicate (18-(txt (v % 10^18)).length) [(48:UInt8)]).flatten=List.replicate (18-(txt (v % 10^18)).length) 48:=by simp
    rw [e5] at hrep
    rw [e3] at g4
    generalize txt (v % 10^18)=tr at *
    generalize hk:18-tr.length=k at *
    have hlk:k+tr.length≤1099511627776:=by omega
    generalize v / 10^18=w at *
    generalize v % 10^18=r at *
    simp [c3] at c1 c2 g4
    simp [lJ,hvl,hdl,hvl',hdl',htake,c1,c2,c4,KQ,iM,e4,hrep,hlk,g4]
  have hrl:(ss'.map D.str).reverse=ss'.reverse.map D.str:=by rw [List.map_reverse]
  have htake2:(ss'.reverse.map D.str).take ss'.length=ss'.reverse.map D.str:=List.take_of_length_le (by simp)
  rw [hrl] at hrev
  rw [List.length_reverse] at hj
  have hsl:ss'.reverse.length=ss'.length:=by simp
  generalize ss'.reverse=sr at *
  simp [MM] at hc first hrev
  simp [MZ,hc,first,hss,g1,hrev,hsl,htake2,hj]
end Go.Ev.Code
end
section
namespace Go.Ev.Code
open Go Go.Ev
def Ro (z:Int):List D:=[.bool (decide (z<0)),dJ z.natAbs]
abbrev intD (z:Int):D := .ref (Ro z) 0
def NB (k n:Nat):Prop:=n<2^k
def IB (k:Nat) (z:Int):Prop:=NB k z.natAbs
theorem NB.mono {j k n:Nat} (h:NB j n) (hk:j≤k):NB k n:=Nat.lt_of_lt_of_le h (Nat.pow_le_pow_right (by decide) hk)
theorem NB.le {k n m:Nat} (h:NB k n) (hm:m≤n):NB k m:=Nat.lt_of_le_of_lt hm h
theorem NB.fit {k n:Nat} (h:NB k n) (hk:k≤900000):Fit n:=by
 unfold Fit
 refine Nat.le_trans (ZL (k:=k) (Nat.lt_of_lt_of_le h (Nat.pow_le_pow_left (by decide) k))) (by omega)
theorem NB.wri {k n:Nat} (h:NB k n) (hk:k≤900000) (h1:1≤k):Wri n :=
 ⟨k,h1,hk,Nat.lt_of_lt_of_le h (Nat.pow_le_pow_left (by decide) k)⟩
theorem NB.mul {j k a b:Nat} (ha:NB j a) (hb:NB k b):NB (j+k) (a*b):=by
 unfold NB at *
 rw [Nat.pow_add]; exact Nat.mul_lt_mul'' ha hb
theorem NB.add {j k a b:Nat} (ha:NB j a) (hb:NB k b):NB (max j k+1) (a+b):=by
 have h1:=ha.mono (Nat.le_max_left j k)
 have h2:=hb.mono (Nat.le_max_right j k)
 unfold NB at *
 rw [Nat.pow_succ]; omega
theorem IB.mono {j k:Nat} {z:Int} (h:IB j z) (hk:j≤k):IB k z:=NB.mono h hk
theorem IB.fit {k:Nat} {z:Int} (h:IB k z) (hk:k≤900000):Fit z.natAbs:=NB.fit h hk
theorem IB.mul {j k:Nat} {a b:Int} (ha:IB j a) (hb:IB k b):IB (j+k) (a*b):=by
 unfold IB; rw [Int.natAbs_mul]; exact NB.mul ha hb
theorem IB.add {j k:Nat} {a b:Int} (ha:IB j a) (hb:IB k b):IB (max j k+1) (a+b) :=
 NB.le (NB.add ha hb) (Int.natAbs_add_le a b)
theorem IB.neg {k:Nat} {z:Int} (h:IB k z):IB k (-z):=by unfold IB; rw [Int.natAbs_neg]; exact h
theorem IB.ofNat {k n:Nat} (h:NB k n):IB k (n:Int):=by unfold IB; simpa using h
@[simp] theorem anL (s:Bool) (n:Nat):L.call jd [.bool s,dJ n]=some (intD (if s then -(n:Int) else n)):=by
  refine aN aoG rfl (aox ..) ?_
  cases s with
  | false =>
    have : ¬ (n:Int)<0:=by omega
    simp [U2,Ro,this]
  | true =>
    by_cases hn:n=0
    ·subst hn
     simp [U2,Ro]
    ·have hpos:0<n:=by omega
     simp [U2,Ro,hn,hpos]
@[simp] theorem anJ (z:Int):L.call bW [intD z]=some (dJ z.natAbs):=by
  refine aN ahC rfl (aha ..) ?_
  simp [Yn,Ro]
@[simp] theorem alF (z:Int):L.call dG [intD z]=some (.int .i64 z.sign):=by
  refine aN aeP rfl (aeE ..) ?_
  rcases Int.lt_trichotomy z 0 with h | h | h
  ·have h1:z.sign = -1:=Int.sign_eq_neg_one_of_neg h
   have h2:¬ z=0:=by omega
   simp [Gv,h1,h2,Ro,h]
  ·subst h
   simp [Gv]
  ·have h1:z.sign=1:=Int.sign_eq_one_of_pos h
   have h2:¬ z=0:=by omega
   have h3:¬ z<0:=by omega
   simp [Gv,h1,h2,Ro,h3]
theorem sign_neg {z:Int}:z.sign<0↔z<0:=by
 rcases Int.lt_trichotomy z 0 with h | h | h
 ·simp [Int.sign_eq_neg_one_of_neg h,h]
 ·simp [h]
 ·simp [Int.sign_eq_one_of_pos h]; omega
theorem abW {z:Int}:0≤z.sign↔0≤z:=by have := @sign_neg z; omega
@[simp] theorem anK (z:Int):L.call qN [intD z]=some (intD (-z)):=by
  refine aN ahG rfl (ahe ..) ?_
  by_cases h:0≤z
  ·have e : -(z.natAbs:Int) = -z:=by omega
   simp [Pn,abW,h,e]
  ·have e:(z.natAbs:Int) = -z:=by omega
   simp [Pn,abW,h,e]
theorem Qc {a b:Int} {j k:Nat} (ha:IB j a) (hb:IB k b) (hj:j≤900000) (hk:k≤900000):L.call iG [intD a,intD b]=some (intD (a+b)):=by
 have hadd:=Xz (ha.fit hj) (hb.fit hk)
 have hcmp:=XA (ha.fit hj) (hb.fit hk)
 refine aN ahD rfl (ahb ..) ?_
 by_cases h1:a<0 <;> by_cases h2:b<0
 ·have e : -((a.natAbs+b.natAbs:Nat):Int)=a+b:=by omega
  generalize a.natAbs+b.natAbs=s at *
  simp [vU,sign_neg,h1,h2,hadd,e]
 ·by_cases h3:a.natAbs<b.natAbs
  ·have hs:=KU (hb.fit hk) (ha.fit hj) (Nat.le_of_lt h3)
   have e:((b.natAbs-a.natAbs:Nat):Int)=a+b:=by omega
   generalize b.natAbs-a.natAbs=s at *
   simp [vU,sign_neg,h1,h2,hcmp,Bz,h3,hs,e]
  ·have hs:=KU (ha.fit hj) (hb.fit hk) (Nat.le_of_not_lt h3)
   have e : -((a.natAbs-b.natAbs:Nat):Int)=a+b:=by omega
   generalize a.natAbs-b.natAbs=s at *
   simp [vU,sign_neg,h1,h2,hcmp,Bz,h3,hs,e]
 ·by_cases h3:a.natAbs<b.natAbs
  ·have hs:=KU (hb.fit hk) (ha.fit hj) (Nat.le_of_lt h3)
   have e : -((b.natAbs-a.natAbs:Nat):Int)=a+b:=by omega
   generalize b.natAbs-a.natAbs=s at *
   simp [vU,sign_neg,h1,h2,hcmp,Bz,h3,hs,e]
  ·have hs:=KU (ha.fit hj) (hb.fit hk) (Nat.le_of_not_lt h3)
   have e:((a.natAbs-b.natAbs:Nat):Int)=a+b:=by omega
   generalize a.natAbs-b.natAbs=s at *
   simp [vU,sign_neg,h1,h2,hcmp,Bz,h3,hs,e]
 ·have e:((a.natAbs+b.natAbs:Nat):Int)=a+b:=by omega
  generalize a.natAbs+b.natAbs=s at *
  simp [vU,sign_neg,h1,h2,hadd,e]
theorem adY {a b:Int} {j k:Nat} (ha:IB j a) (hb:IB k b) (hj:j≤900000) (hk:k≤900000):L.call uz [intD a,intD b]=some (intD (a-b)):=by
 have := Qc ha hb.neg hj hk
 refine aN ahH rfl (ahf ..) ?_
 rw [Int.sub_eq_add_neg]
 simp [Yp,this]
theorem XB {a b:Int} {j k:Nat} (ha:IB j a) (hb:IB k b) (hj:j≤900000) (hk:k≤900000):L.call qM [intD a,intD b]=some (.int .i64 (a-b).sign):=by
 have := adY ha hb hj hk
 refine aN ahE rfl (ahc ..) ?_
 simp [Yo,this]
theorem H8 {a b:Int}:IntKind.i64.wrap (a.sign*b.sign)<0↔a*b<0:=by
 rw [← Int.sign_mul,wrap64 _ (by rcases Int.sign_trichotomy (a*b) with h | h | h <;> rw [h] <;> decide)]
 exact sign_neg
theorem uD {a b:Int} {j k:Nat} (ha:IB j a) (hb:IB k b) (hj:j≤900000) (hk:k≤900000):L.call bZ [intD a,intD b]=some (intD (a*b)):=by
 have hm:=Gm (ha.fit hj) (hb.fit hk)
 rw [← Int.natAbs_mul] at hm
 refine aN ahF rfl (ahd ..) ?_
 by_cases h:a*b<0
 ·have e : -((a*b).natAbs:Int)=a*b:=by omega
  have hd:decide (IntKind.i64.wrap (a.sign*b.sign)<0)=true:=by simpa [H8] using h
  generalize a*b=p at *
  simp [Pm,hd,hm,e]
 ·have e:((a*b).natAbs:Int)=a*b:=by omega
  have hd:decide (IntKind.i64.wrap (a.sign*b.sign)<0)=false:=by simpa [H8] using h
  generalize a*b=p at *
  simp [Pm,hd,hm,e]
theorem ZW (n:Int) (h : -9223372036854775808≤n∧n≤9223372036854775807):L.call jT [.int .i64 n]=some (intD n):=by
 refine aN aqs rfl (aqn ..) ?_
 by_cases h0:n<0
 ·have e1:IntKind.u64.wrap (0-IntKind.u64.wrap n)=(n.natAbs:Int):=by
   simp [IntKind.wrap,IntKind.signed,IntKind.bits]; omega
  have hof:=xA n.natAbs (by unfold W; omega)
  have e2 : -(n.natAbs:Int)=n:=by omega
  generalize hk:n.natAbs=k at *
  have e1':IntKind.u64.wrap (-IntKind.u64.wrap n)=(k:Int):=by rw [← e1]; congr 1; omega
  simp [ac0,h0,e1',hof,e2]
 ·obtain ⟨k,rfl⟩:∃ k:Nat,n=k:=⟨n.toNat,by omega⟩
  have e1:IntKind.u64.wrap (k:Int)=(k:Int):=eX _ (by omega)
  have hof:=xA k (by unfold W; omega)
  simp [ac0,h0,e1,hof]
def Px (z:Int):List UInt8:=if z<0 then 45::txt z.natAbs else txt z.natAbs
theorem Vk {z:Int} {k:Nat} (h:IB k z) (hk:k≤900000) (h1:1≤k):L.call jS [intD z]=some (.str (Px z)):=by
 have ht:=abN (h.fit hk) (NB.wri h hk h1)
 have hl:(txt z.natAbs).length≤900000:=by
  obtain ⟨j,j1,j2,j3⟩:=NB.wri h hk h1
  exact Nat.le_trans (QC j j1 j3) j2
 have hl2:1+(txt z.natAbs).length≤1099511627776:=by omega
 refine aN aeQ rfl (aeF ..) ?_
 by_cases h0:z<0
 ·simp [Nc,sign_neg,h0,ht,Px,hl2]
 ·simp [Nc,sign_neg,h0,ht,Px]
end Go.Ev.Code
end
section
namespace Go.Ev.Code
open Go Go.Ev
def afm (q:Rat):List D:=[intD q.num,intD (q.den:Int)]
abbrev dV (q:Rat):D := .ref (afm q) 0
def RB (k:Nat) (q:Rat):Prop:=NB k q.num.natAbs∧NB k q.den
theorem RB.mono {j k:Nat} {q:Rat} (h:RB j q) (hk:j≤k):RB k q:=⟨h.1.mono hk,h.2.mono hk⟩
theorem RB.num {k:Nat} {q:Rat} (h:RB k q):IB k q.num:=h.1
theorem RB.den {k:Nat} {q:Rat} (h:RB k q):IB k (q.den:Int):=IB.ofNat h.2
theorem xg {n d:Int} {k:Nat} (hn:IB k n) (hd:IB k d) (h0:d≠0):RB k (Rat.divInt n d):=by
 have hg:0<Int.gcd d n:=Int.gcd_pos_of_ne_zero_left _ h0
 constructor
 ·refine NB.le hn ?_
  rw [Rat.num_divInt,Int.natAbs_ediv_of_dvd (Int.dvd_trans (Int.gcd_dvd_right ..) (Int.dvd_mul_left ..)),Int.natAbs_mul]
  have : d.sign.natAbs=1:=Int.natAbs_sign_of_ne_zero h0
  rw [this,Nat.one_mul]
  exact Nat.div_le_self _ _
 ·refine NB.le hd ?_
  rw [Rat.den_divInt,if_neg h0]
  exact Nat.div_le_self _ _
theorem Ll {n d:Int} {j k:Nat} (hn:IB j n) (hd:IB k d) (hj:j≤900000) (hk:k≤900000) (h0:d≠0):L.call rP [intD n,intD d]=some (.bg [dV (Rat.divInt n d),.aK]):=by
 have fn:=hn.fit hj
 have fd:=hd.fit hk
 have hgcd:=adW fn fd
 have hg0:Nat.gcd n.natAbs d.natAbs≠0:=by
  have := Nat.gcd_pos_of_pos_right n.natAbs (Int.natAbs_pos.2 h0)
  omega
 have fg:Fit (Nat.gcd n.natAbs d.natAbs):=fd.of_le (Nat.le_of_dvd (Int.natAbs_pos.2 h0) (Nat.gcd_dvd_right ..))
 have d1:=KR fn fg hg0
 have d2:=KR fd fg hg0
 have hs:¬ d.sign=0:=by rw [Int.sign_eq_zero_iff_zero]; exact h0
 have hgc:Int.gcd d n=Nat.gcd n.natAbs d.natAbs:=Nat.gcd_comm ..
 have hden:((Rat.divInt n d).den:Int)=((d.natAbs / Nat.gcd n.natAbs d.natAbs:Nat):Int):=by rw [Rat.den_divInt,if_neg h0,hgc]
 have hnum:(Rat.divInt n d).num=if n*d<0 then -((n.natAbs / Nat.gcd n.natAbs d.natAbs:Nat):Int) else ((n.natAbs / Nat.gcd n.natAbs d.natAbs:Nat):Int):=by
  rw [Rat.num_divInt,hgc]
  have hdv:((Nat.gcd n.natAbs d.natAbs:Nat):Int) ∣ (n.natAbs:Int):=Int.natCast_dvd_natCast.2 (Nat.gcd_dvd_left ..)
  have h1:(d.sign*n).natAbs=n.natAbs:=by rw [Int.natAbs_mul,Int.natAbs_sign_of_ne_zero h0,Nat.one_mul]
  have h2:d.sign*n<0↔n*d<0:=by
   rcases Int.lt_trichotomy d 0 with h | h | h
   ·rw [Int.sign_eq_neg_one_of_neg h]
    constructor
    ·intro h3; exact Int.mul_neg_of_pos_of_neg (by omega) h
    ·intro h3
     rcases Int.lt_trichotomy n 0 with h4 | h4 | h4
     ·have := Int.mul_pos_of_neg_of_neg h4 h; omega
     ·subst h4; simp at h3
     ·omega
   ·exact absurd h h0
   ·rw [Int.sign_eq_one_of_pos h]
    constructor
    ·intro h3; exact Int.mul_neg_of_neg_of_pos (by omega) h
    ·intro h3
     rcases Int.lt_trichotomy n 0 with h4 | h4 | h4
     ·omega
     ·subst h4; simp at h3
     ·have := Int.mul_pos h4 h; omega
  split
  ·rename_i h3
   have h4:d.sign*n = -(n.natAbs:Int):=by have := h2.2 h3; omega
   rw [h4,Int.neg_ediv_of_dvd hdv,Int.natCast_ediv]
  ·rename_i h3
   have h4:d.sign*n=(n.natAbs:Int):=by have := mt h2.1 h3; omega
   rw [h4,Int.natCast_ediv]
 refine aN aoI rfl (aoz ..) ?_
 unfold dV afm
 rw [hden,hnum]
 generalize n.natAbs / Nat.gcd n.natAbs d.natAbs=a at *
 generalize d.natAbs / Nat.gcd n.natAbs d.natAbs=b at *
 generalize n.natAbs % Nat.gcd n.natAbs d.natAbs=a' at *
 generalize d.natAbs % Nat.gcd n.natAbs d.natAbs=b' at *
 by_cases h:n*d<0
 ·have hdc:decide (IntKind.i64.wrap (n.sign*d.sign)<0)=true:=by simpa [H8] using h
  have hl:(n.sign*d.sign)=(n*d).sign:=(Int.sign_mul ..).symm
  simp [aas,hs,hgcd,d1,d2,H8,h]
 ·simp [aas,hs,hgcd,d1,d2,H8,h]
theorem N9 {n d:Int} {j k:Nat} (hn:IB j n) (hd:IB k d) (hj:j≤900000) (hk:k≤900000) (h0:d≠0):L.call yG [intD n,intD d]=some (dV (Rat.divInt n d)):=by
 have := Ll hn hd hj hk h0
 refine aN am3 rfl (amW ..) ?_
 simp [aem,this]
theorem jQ {n:Int} (h : -9223372036854775808≤n∧n≤9223372036854775807):IB 64 n:=by
 unfold IB NB; have : (2:Nat)^64=18446744073709551616:=by decide
 omega
theorem Fq {n d:Int} (hn : -9223372036854775808≤n∧n≤9223372036854775807) (hd : -9223372036854775808≤d∧d≤9223372036854775807) (h0:d≠0) :
  L.call lV [.int .i64 n,.int .i64 d]=some (.bg [dV (Rat.divInt n d),.aK]):=by
 have := Ll (jQ hn) (jQ hd) (by omega) (by omega) h0
 refine aN aqt rfl (aqo ..) ?_
 simp [akj,ZW n hn,ZW d hd,this]
@[simp] theorem anY (q:Rat):L.call dI [dV q]=some (intD q.num):=by
  refine aN ahO rfl (ahm ..) ?_
  simp [Yv,afm]
@[simp] theorem anW (q:Rat):L.call dh [dV q]=some (intD (q.den:Int)):=by
  refine aN ahL rfl (ahj ..) ?_
  simp [Yr,afm]
@[simp] theorem Vt (q:Rat):L.call jU [dV q]=some (.int .i64 q.num.sign):=by
  refine aN aeT rfl (aeI ..) ?_
  simp [WS]
theorem Rl (q:Rat):(q.den:Int)≠0:=by have := q.den_nz; omega
theorem add_eq (a b:Rat):a+b=Rat.divInt (a.num*b.den+b.num*a.den) ((a.den:Int)*b.den):=by
 have := Rat.divInt_add_divInt a.num b.num (Rl a) (Rl b)
 rwa [Rat.num_divInt_den,Rat.num_divInt_den] at this
theorem ak1 {a b:Rat} (h:(a.den:Int)=b.den):a+b=Rat.divInt (a.num+b.num) (a.den:Int):=by
 rw [add_eq,← h,← Int.add_mul,Rat.divInt_mul_right (Rl a)]
theorem mul_eq (a b:Rat):a*b=Rat.divInt (a.num*b.num) ((a.den:Int)*b.den):=by
 have := Rat.divInt_mul_divInt a.num b.num (d₁:=a.den) (d₂:=b.den)
 rwa [Rat.num_divInt_den,Rat.num_divInt_den] at this
theorem adV {a b:Rat}:(a.den:Int)*b.den≠0:=Int.mul_ne_zero (Rl a) (Rl b)
theorem RB.add {j k:Nat} {a b:Rat} (ha:RB j a) (hb:RB k b):RB (j+k+1) (a+b):=by
 rw [add_eq]
 refine xg ?_ ((ha.den.mul hb.den).mono (by omega)) adV
 refine (IB.add (ha.num.mul hb.den) (hb.num.mul ha.den)).mono (by omega)
theorem RB.mul {j k:Nat} {a b:Rat} (ha:RB j a) (hb:RB k b):RB (j+k) (a*b):=by
 rw [mul_eq]
 exact xg (ha.num.mul hb.num) (ha.den.mul hb.den) adV
theorem RB.neg {k:Nat} {a:Rat} (h:RB k a):RB k (-a):=⟨by show NB k (-a.num).natAbs; rw [Int.natAbs_neg]; exact h.1,h.2⟩
theorem RB.sub {j k:Nat} {a b:Rat} (ha:RB j a) (hb:RB k b):RB (j+k+1) (a-b):=by rw [Rat.sub_eq_add_neg]; exact ha.add hb.neg
theorem Lh {a b:Rat} {j k:Nat} (ha:RB j a) (hb:RB k b) (h:j+k+1≤900000):L.call lu [dV a,dV b]=some (dV (a+b)):=by
 have hc:=XB ha.den hb.den (by omega) (by omega)
 have m1:=uD ha.num hb.den (by omega) (by omega)
 have m2:=uD hb.num ha.den (by omega) (by omega)
 have m3:=uD ha.den hb.den (by omega) (by omega)
 have a1:=Qc (ha.num.mul hb.den) (hb.num.mul ha.den) (by omega) (by omega)
 have s1:=N9 ((IB.add (ha.num.mul hb.den) (hb.num.mul ha.den)).mono (show _≤j+k+1 by omega)) (ha.den.mul hb.den) h (by omega) adV
 rw [← add_eq] at s1
 refine aN ahJ rfl (ahh ..) ?_
 by_cases he:(a.den:Int)=b.den
 ·have a2:=Qc ha.num hb.num (by omega) (by omega)
  have s2:=N9 ((IB.add ha.num hb.num).mono (show _≤j+k+1 by omega)) ha.den h (by omega) (Rl a)
  rw [← ak1 he] at s2
  rw [he] at hc s2
  generalize a.num+b.num=n at *
  simp [Pq,he,hc,a2,s2]
 ·have hs:¬ ((a.den:Int)-b.den).sign=0:=by rw [Int.sign_eq_zero_iff_zero]; omega
  generalize a.num*b.den+b.num*a.den=n at *
  generalize a.num*b.den=n1 at *
  generalize b.num*a.den=n2 at *
  generalize (a.den:Int)*b.den=d at *
  generalize ((a.den:Int)-b.den).sign=sg at *
  simp [Pq,hc,hs,m1,m2,m3,a1,s1]
theorem aeb {a b:Rat} {j k:Nat} (ha:RB j a) (hb:RB k b) (h:j+k+1≤900000):L.call nR [dV a,dV b]=some (dV (a-b)):=by
 have hadd:L.call lu [dV a,.ref [intD (-b.num),intD (b.den:Int)] 0]=some (dV (a + -b)):=Lh ha hb.neg h
 refine aN ahP rfl (ahn ..) ?_
 rw [Rat.sub_eq_add_neg]
 simp [Yw,hadd]
theorem Lj {a b:Rat} {j k:Nat} (ha:RB j a) (hb:RB k b) (h:j+k≤900000):L.call jC [dV a,dV b]=some (dV (a*b)):=by
 have m1:=uD ha.num hb.num (by omega) (by omega)
 have m3:=uD ha.den hb.den (by omega) (by omega)
 have s1:=N9 (ha.num.mul hb.num) (ha.den.mul hb.den) h h adV
 rw [← mul_eq] at s1
 refine aN ahN rfl (ahl ..) ?_
 generalize a.num*b.num=n at *
 generalize (a.den:Int)*b.den=d at *
 simp [Yu,m1,m3,s1]
end Go.Ev.Code
end
section
namespace Go.Ev.Code
open Go Go.Ev
theorem adJ {b:Rat} (h:b≠0):b.num≠0:=fun h0=>h (by
 have := Rat.num_divInt_den b
 rw [h0] at this
 rw [← this,Rat.zero_divInt])
theorem div_eq {a b:Rat} (h:b≠0):a / b=Rat.divInt (a.num*b.den) ((a.den:Int)*b.num):=by
 have hb:=adJ h
 have h1:b⁻¹=Rat.divInt b.den b.num:=by
  have := Rat.inv_divInt b.num b.den
  rw [Rat.num_divInt_den] at this
  exact this
 rw [Rat.div_def,h1]
 have := Rat.divInt_mul_divInt a.num (b.den:Int) (d₁:=a.den) (d₂:=b.num)
 rwa [Rat.num_divInt_den] at this
theorem anX {a b:Rat} {j k:Nat} (ha:RB j a) (hb:RB k b) (h:j+k≤900000) (h0:b≠0):L.call qO [dV a,dV b]=some (.bg [dV (a / b),.aK]):=by
 have m1:=uD ha.num hb.den (by omega) (by omega)
 have m2:=uD ha.den hb.num (by omega) (by omega)
 have n1:=Ll (ha.num.mul hb.den) (ha.den.mul hb.num) h h (Int.mul_ne_zero (Rl a) (adJ h0))
 rw [← div_eq h0] at n1
 refine aN ahM rfl (ahk ..) ?_
 generalize a.num*b.den=n at *
 generalize (a.den:Int)*b.num=d at *
 simp [Yt,m1,m2,n1]
def Ve (a b:Rat):Int:=if a<b then -1 else if a=b then 0 else 1
theorem Ql {a b:Rat} {j k:Nat} (ha:RB j a) (hb:RB k b) (h:j+k≤900000):L.call lC [dV a,dV b]=some (.int .i64 (Ve a b)):=by
 have m1:=uD ha.num hb.den (by omega) (by omega)
 have m2:=uD hb.num ha.den (by omega) (by omega)
 have c:=XB (ha.num.mul hb.den) (hb.num.mul ha.den) (by omega) (by omega)
 have e:(a.num*b.den-b.num*a.den).sign=Ve a b:=by
  unfold Ve
  have hlt:=Rat.lt_iff a b
  have hle:=Rat.le_iff b a
  split
  ·rename_i h1
   have := hlt.1 h1
   exact Int.sign_eq_neg_one_of_neg (by omega)
  ·rename_i h1
   have h2:=mt hlt.2 h1
   split
   ·rename_i h3
    subst h3
    simp
   ·rename_i h3
    have h4:a.num*b.den≠b.num*a.den:=fun h5=>h3 (by
     have h6:b≤a:=hle.2 (by omega)
     have h7:a≤b:=(Rat.le_iff a b).2 (by omega)
     exact Rat.le_antisymm h7 h6)
    exact Int.sign_eq_one_of_pos (by omega)
 rw [e] at c
 refine aN ahK rfl (ahi ..) ?_
 generalize a.num*b.den=n at *
 generalize b.num*a.den=d at *
 generalize Ve a b=r at *
 simp [Yq,m1,m2,c]
def LU (q:Rat):List UInt8:=if q.den=1 then Px q.num else Px q.num++47::txt q.den
theorem amH {n:Nat}:txt n=[49]↔n=1:=by
 constructor
 ·intro h
  by_cases h10:n<10
  ·rw [SH h10] at h
   have : dg n=49:=by simpa using h
   unfold dg at this
   have h2:=congrArg UInt8.toNat this
   simp at h2
   omega
  ·rw [aaA (by omega)] at h
   have h3:=congrArg List.length h
   have h4:=alW (n / 10)
   simp at h3
   rw [h3] at h4
   exact absurd h4 (by decide)
 ·rintro rfl; rw [SH (by decide)]; rfl
theorem akv {z:Int} {k:Nat} (h:IB k z) (hk:k≤900000) (h1:1≤k):(Px z).length≤900001:=by
 obtain ⟨j,j1,j2,j3⟩:=NB.wri h hk h1
 have := QC j j1 j3
 unfold Px
 split <;> simp <;> omega
theorem DZ {q:Rat} {k:Nat} (h:RB k q) (hk:k≤900000) (h1:1≤k):L.call gK [dV q]=some (.str (LU q)):=by
 have t1:=Vk h.num hk h1
 have t2:=Vk h.den hk h1
 have e:Px (q.den:Int)=txt q.den:=by unfold Px; rw [if_neg (by omega)]; simp
 have l1:=akv h.num hk h1
 have l2:=akv h.den hk h1
 rw [e] at t2 l2
 refine aN aeU rfl (aeJ ..) ?_
 by_cases hd:q.den=1
 ·have h2:txt q.den=[49]:=amH.2 hd
  have t2':L.call jS [intD 1]=some (.str [49]):=by rw [h2,hd] at t2; exact t2
  simp [Nh,t1,t2',LU,hd]
 ·have h2:¬ txt q.den=[49]:=fun h=>hd (amH.1 h)
  have b1:(Px q.num).length+1≤1099511627776:=by omega
  have b2:(Px q.num).length+1+(txt q.den).length≤1099511627776:=by omega
  simp [Nh,t1,t2,h2,LU,hd,b1,b2]
end Go.Ev.Code
end
section
namespace Go.Ev.Code
open Go Go.Ev
def jH (b:UInt8):Bool:=decide (48≤b.toNat∧b.toNat≤57)
def aoa (n:Nat) (b:UInt8):Nat:=n*10+(b.toNat-48)
theorem asq (n:Nat) (b:UInt8):aoa n b=n*10+(b.toNat-48):=rfl
attribute [irreducible] aoa
def cZ (n:Nat) (s:List UInt8):Nat:=s.foldl aoa n
theorem Aw (n:Nat):cZ n []=n:=by simp only [cZ,List.foldl_nil]
theorem BQ (n:Nat) (b:UInt8) (bs:List UInt8):cZ n (b::bs)=cZ (n*10+(b.toNat-48)) bs:=by
 simp only [cZ,List.foldl_cons,asq]
attribute [irreducible] cZ
def wH (s:List UInt8):Prop:=s≠[]∧s.length≤4000∧¬ (1<s.length∧s[0]?=some 48)∧s.all jH=true
theorem anb (b:UInt8):oQ.contains b=jH b:=by
 have h:∀ n:Nat,n<256→oQ.contains (UInt8.ofNat n)=jH (UInt8.ofNat n):=by decide +kernel
 have := h b.toNat (by have := b.toNat_lt; omega)
 simpa using this
theorem asr (p:UInt8→Bool) (s:List UInt8):strip p s=s.dropWhile p:=by
 induction s with
 | nil=>rfl
 | cons b bs ih =>
   simp only [strip,List.dropWhile]
   cases p b <;> simp [ih]
theorem strip_nil (p:UInt8→Bool) (s:List UInt8):strip p s=[]↔s.all p=true:=by
 induction s with
 | nil=>simp [strip]
 | cons b bs ih =>
   simp only [strip,List.all_cons,Bool.and_eq_true]
   cases h:p b <;> simp [ih]
theorem aep (p:UInt8→Bool) (s:List UInt8) {b:UInt8} {bs:List UInt8} (h:strip p s=b::bs):p b=false:=by
 induction s with
 | nil=>simp [strip] at h
 | cons x xs ih =>
   simp only [strip] at h
   split at h
   ·exact ih h
   ·rename_i hx
    simp at h
    rw [← h.1]; simpa using hx
theorem asy (p:UInt8→Bool) (s:List UInt8):strip p (strip p s.reverse).reverse=[]↔s.all p=true:=by
 rw [strip_nil,List.all_reverse,← List.all_reverse (l:=s)]
 constructor
 ·intro h
  cases hs:strip p s.reverse with
  | nil=>exact (strip_nil p _).1 hs
  | cons b bs =>
    rw [hs] at h
    have := aep p _ hs
    simp [this] at h
 ·intro h
  rw [(strip_nil p _).2 h]; rfl
theorem avi:TT.fn nK=none:=by kernel_rfl
theorem avl:TT.lM nK=pTrim:=by kernel_rfl
theorem aaG {s:List UInt8} (h:s.length≤1000000):∃ r:List UInt8,(r=[]↔s.all jH=true)∧L.call nK [.str s,.str [48,49,50,51,52,53,54,55,56,57]]=some (.str r):=by
 have hp:TT.lM nK [.str s,.str oQ] []=some (.str (strip (fun b=>oQ.contains b) (strip (fun b=>oQ.contains b) s.reverse).reverse),[]):=by
  rw [avl]
  simp only [pTrim,h,and_true,if_true]
 have hi:strip (fun b=>oQ.contains b) (strip (fun b=>oQ.contains b) s.reverse).reverse=[]↔s.all jH=true:=by
  have : (fun b=>oQ.contains b)=jH:=funext anb
  rw [asy,this]
 generalize strip (fun b=>oQ.contains b) (strip (fun b=>oQ.contains b) s.reverse).reverse=r at *
 exact ⟨r,hi,NY avi hp (by simp)⟩
theorem alG (n:Nat) (b:UInt8) (bs:List UInt8) (h:jH b=true):Hw n (b::bs)=Hw (n*10+(b.toNat-48)) bs:=by
 have h1:48≤b.toNat∧b.toNat≤57:=of_decide_eq_true h
 rw [Hw,if_pos h1]
theorem apM (s:List UInt8) (n:Nat) (h:s.all jH=true):Hw n s=some (cZ n s):=by
 induction s generalizing n with
 | nil=>simp [Hw,Aw]
 | cons b bs ih =>
   have h':jH b=true∧bs.all jH=true:=by rw [← Bool.and_eq_true,← List.all_cons]; exact h
   rw [BQ,alG n b bs h'.1]
   exact ih _ h'.2
theorem asW:TT.fn iW=none:=by kernel_rfl
theorem as2:TT.lM iW=Z4:=by kernel_rfl
theorem Parse_ok {s:List UInt8} (h0:s≠[]) (hl:s.length≤18) (hd:s.all jH=true):L.call iW [.str s,.int .i64 10,.int .i64 64]=some (.bg [aH (cZ 0 s),.aK]):=by
 have hp:TT.lM iW [.str s,.int .i64 10,.int .i64 64] []=some (.bg [aH (cZ 0 s),.aK],[]):=by
  rw [as2]
  simp [Z4,h0,hl,apM s 0 hd]
 exact NY asW hp (by simp)
theorem acP (n:Nat) (a b:List UInt8):cZ n (a++b)=cZ (cZ n a) b:=by
 induction a generalizing n with
 | nil=>simp [Aw]
 | cons x xs ih=>simp [BQ,ih]
theorem UE (n:Nat) (s:List UInt8):cZ n s=n*10^s.length+cZ 0 s:=by
 induction s generalizing n with
 | nil=>simp [Aw]
 | cons b bs ih =>
   simp only [BQ,List.length_cons,Nat.zero_mul,Nat.zero_add]
   rw [ih,ih (b.toNat-48),Nat.pow_succ,Nat.add_mul,Nat.mul_assoc,Nat.mul_comm 10]; omega
theorem Qu {s:List UInt8} (h:s.all jH=true):cZ 0 s<10^s.length:=by
 induction s with
 | nil=>simp [Aw]
 | cons b bs ih =>
   simp only [List.all_cons,Bool.and_eq_true] at h
   have h1:48≤b.toNat∧b.toNat≤57:=by simpa [jH] using h.1
   have := ih h.2
   simp only [BQ,List.length_cons,Nat.zero_mul,Nat.zero_add]
   rw [UE,Nat.pow_succ]
   have h2:(b.toNat-48)*10^bs.length≤9*10^bs.length:=Nat.mul_le_mul_right _ (by omega)
   omega
theorem aax {n k:Nat} (h:n<10^k):NB (4*k) n:=by
 unfold NB
 refine Nat.lt_of_lt_of_le h ?_
 rw [Nat.pow_mul]; exact Nat.pow_le_pow_left (by decide) k
def unit:Nat:=1000000000000000000
theorem nbU:NB 60 unit:=by unfold NB unit; decide
theorem axQ:Fit unit:=nbU.fit (by omega)
theorem unit_eq:unit=10^18:=by decide
theorem au1:L.call ji [.int .u64 1000000000000000000]=some (dJ unit):=xA unit (by decide)
attribute [irreducible] unit
theorem ari:∀ (k:Nat) (s:List UInt8) (out first:Nat),s.length=first+18*k→1≤first→first≤18→s.all jH=true→out<10^(4000-s.length)→s.length≤4000→first=18∨out=0 →
  L.loop [0,5,6,7] [5] uq 0 [.str s,dJ out,dJ unit,.int .i64 first] []=some (.exit 0,[dJ (cZ out s)],[]):=by
 intro k
 have last:∀ (out:Nat),L.loop [0,5,6,7] [5] uq 0 [.str [],dJ out,dJ unit,.int .i64 18] []=some (.exit 0,[dJ out],[]):=fun out=>by
  refine aJ (YW ..) ?_
  simp [SB]
 have step:∀ (s:List UInt8) (out first:Nat),1≤first→first≤18→first≤s.length→s.all jH=true→out<10^(4000-s.length)→s.length≤4000 →
   L.loop [0,5,6,7] [5] uq 0 [.str (s.drop first),dJ (cZ out (s.take first)),dJ unit,.int .i64 18] []=some (.exit 0,[dJ (cZ out s)],[])→first=18∨out=0 →
   L.loop [0,5,6,7] [5] uq 0 [.str s,dJ out,dJ unit,.int .i64 first] []=some (.exit 0,[dJ (cZ out s)],[]):=by
  intro s out first h1 h2 h3 hd hout hs hnext hcase
  have hne:s≠[]:=by intro h; rw [h] at h3; simp at h3; omega
  have htd:(s.take first).all jH=true:=by rw [List.all_eq_true] at hd ⊢; exact fun x hx=>hd x (List.mem_of_mem_take hx)
  have htl:(s.take first).length=first:=by simp; omega
  have hp:=Parse_ok (s:=s.take first) (by intro h; rw [h] at htl; simp at htl; omega) (by omega) htd
  have hv:=Qu htd
  rw [htl] at hv
  have hvW:cZ 0 (s.take first)<W:=Nat.lt_of_lt_of_le hv (Nat.le_trans (Nat.pow_le_pow_right (by decide) h2) (by decide))
  have hof:=xA _ hvW
  have ob:NB (4*4000) out:=(aax hout).mono (by omega)
  have hm:=Gm (ob.fit (by omega)) axQ
  have ha:=Xz ((ob.mul nbU).fit (by omega)) ((show NB 64 (cZ 0 (s.take first)) by unfold NB; rw [← tZ]; exact hvW).fit (by omega))
  have hval:out*unit+cZ 0 (s.take first)=cZ out (s.take first):=by
   rw [UE out,htl]
   rcases hcase with rfl | rfl
   ·rw [unit_eq]
   ·simp
  rw [hval] at ha
  generalize cZ out (s.take first)=o2 at *
  generalize cZ 0 (s.take first)=v at *
  generalize out*unit=o1 at *
  have hf1:(first:Int)≤s.length:=by omega
  have hdt:(s.drop first).take (s.length-first)=s.drop first:=List.take_of_length_le (by simp)
  refine aJ (YW ..) ?_
  simp (disch:=omega) [SB,hne,hp,hof,hm,ha,hdt,hnext]
 induction k with
 | zero =>
   intro s out first hs h1 h2 hd hout hl hc
   have hf:first=s.length:=by omega
   refine step s out first h1 h2 (by omega) hd hout hl ?_ hc
   rw [hf,List.take_length,List.drop_length]
   exact last _
 | succ k ih =>
   intro s out first hs h1 h2 hd hout hl hc
   refine step s out first h1 h2 (by omega) hd hout hl ?_ hc
   have h18:18≤(s.drop first).length:=by simp; omega
   have htd:(s.take first).all jH=true:=by rw [List.all_eq_true] at hd ⊢; exact fun x hx=>hd x (List.mem_of_mem_take hx)
   have hdd:(s.drop first).all jH=true:=by rw [List.all_eq_true] at hd ⊢; exact fun x hx=>hd x (List.mem_of_mem_drop hx)
   have htl:(s.take first).length=first:=by simp; omega
   have := ih (s.drop first) (cZ out (s.take first)) 18 (by simp; omega) (by omega) (by omega) hdd (by
    have h3:=Qu htd
    rw [htl] at h3
    rw [UE,htl]
    have h4:10^(4000-(s.drop first).length)=10^(4000-s.length)*10^first:=by rw [← Nat.pow_add]; congr 1; simp; omega
    rw [h4]
    have h5:(out+1)*10^first≤10^(4000-s.length)*10^first:=Nat.mul_le_mul_right _ hout
    rw [Nat.add_mul,Nat.one_mul] at h5
    omega) (by simp; omega) (.inl rfl)
   rw [← acP,List.take_append_drop] at this
   exact this
theorem KT {s:List UInt8} (h:wH s):L.call oU [.str s]=some (.bg [dJ (cZ 0 s),.aK]):=by
 obtain ⟨h0,h1,h2,h3⟩:=h
 have hpos:0<s.length:=List.length_pos_iff.2 h0
 obtain ⟨r,hr,ht⟩:=aaG (s:=s) (by omega)
 have hr0:=hr.2 h3
 subst hr0
 have hz:=xA 0 (by decide)
 have hz':L.call ji [.int .u64 0]=some (dJ 0):=hz
 have hl:=ari ((s.length-1) / 18) s 0 ((s.length-1) % 18+1) (by omega) (by omega) (by omega) h3 (Nat.pow_pos (by decide)) h1 (.inr rfl)
 have e1:IntKind.i64.wrap ((s.length:Int)-1)=((s.length-1:Nat):Int):=by rw [wrap64 _ (by omega)]; omega
 have e2:Int.tmod ((s.length-1:Nat):Int) 18=(((s.length-1) % 18:Nat):Int):=rfl
 have e3:IntKind.i64.wrap ((((s.length-1) % 18:Nat):Int)+1)=(((s.length-1) % 18+1:Nat):Int):=by rw [wrap64 _ (by omega)]; omega
 have hu:=au1
 have hg:¬ (4000:Int)<s.length:=by omega
 have hg':¬ 4000<s.length:=by omega
 generalize cZ 0 s=v at *
 generalize (s.length-1) % 18+1=fst at *
 generalize (s.length-1) % 18=md at *
 generalize s.length-1=l1 at *
 refine aN afJ rfl (afF ..) ?_
 by_cases hl1:1<s.length
 ·have hl1':(1:Int)<s.length:=by omega
  have hh:¬ s[0]?=some 48:=fun h=>h2 ⟨hl1,h⟩
  obtain ⟨b,hb⟩:∃ b,s[0]?=some b:=⟨s[0],List.getElem?_eq_getElem hpos⟩
  have hb0:s[0]=b:=by simpa using (List.getElem?_eq_some_iff.1 hb).2
  have hbn:¬ b.toNat=48:=fun h=>hh (by rw [hb]; congr 1; exact UInt8.toNat_inj.1 h)
  have hbn':¬ (b.toNat:Int)=48:=by omega
  simp (disch:=omega) [BR,h0,hg,hg',hl1,hl1',hb,hb0,hbn,hbn',ht,hz',hu,e1,e2,e3,hl]
 ·have hl1':¬ (1:Int)<s.length:=by omega
  simp (disch:=omega) [BR,h0,hg,hg',hl1,hl1',ht,hz',hu,e1,e2,e3,hl]
theorem abM {s:List UInt8} (h:¬ wH s) (hs:s.length≤1000000):L.call oU [.str s]=some (.bg [.aY,EU 1]):=by
 obtain ⟨r,hr,ht⟩:=aaG hs
 refine aN afJ rfl (afF ..) ?_
 by_cases h0:s=[]
 ·subst h0
  simp (disch:=omega) [BR,dD]
 ·have hpos:0<s.length:=List.length_pos_iff.2 h0
  by_cases h1:4000<s.length
  ·have h1':(4000:Int)<s.length:=by omega
   simp (disch:=omega) [BR,dD,h0,h1,h1']
  ·by_cases hl1:1<s.length
   ·have hl1':(1:Int)<s.length:=by omega
    have h1':¬ (4000:Int)<s.length:=by omega
    obtain ⟨b,hb⟩:∃ b,s[0]?=some b:=⟨s[0],List.getElem?_eq_getElem hpos⟩
    have hb0:s[0]=b:=by simpa using (List.getElem?_eq_some_iff.1 hb).2
    by_cases hh:b.toNat=48
    ·have hh':(b.toNat:Int)=48:=by omega
     simp (disch:=omega) [BR,dD,h0,h1,h1',hl1,hl1',hb,hb0,hh,hh']
    ·have hh':¬ (b.toNat:Int)=48:=by omega
     have hr0:¬ r=[]:=fun h3=>h ⟨h0,by omega,fun h4=>hh (by have := h4.2; rw [hb] at this; simp at this; rw [this]; rfl),hr.1 h3⟩
     simp (disch:=omega) [BR,dD,h0,h1,h1',hl1,hl1',hb,hb0,hh,hh',ht,hr0]
   ·have hl1':¬ (1:Int)<s.length:=by omega
    have h1':¬ (4000:Int)<s.length:=by omega
    have hr0:¬ r=[]:=fun h3=>h ⟨h0,by omega,fun h4=>hl1 h4.1,hr.1 h3⟩
    simp (disch:=omega) [BR,dD,h0,h1,h1',hl1,hl1',ht,hr0]
end Go.Ev.Code
end
section
namespace Go.Ev.Code
open Go Go.Ev
theorem avq {m:Mem} {k:Nat} (h:k≤4294967296):gI .and [.int .i64 k,.int .i64 1] m=some (.int .i64 ((k % 2:Nat):Int),m):=by
 rw [avZ]
 have h1:(BitVec.ofInt IntKind.i64.bits (k:Int)).toNat=k:=by
  show (BitVec.ofInt 64 (k:Int)).toNat=k
  rw [BitVec.toNat_ofInt]
  omega
 have h2:(BitVec.ofInt IntKind.i64.bits 1).toNat=1:=by decide
 rw [BitVec.toNat_and,h1,h2,Nat.and_one_is_mod,wrap64 _ (by omega)]
theorem av3 {m:Mem} {k:Nat}:vg false [.int .i64 k,.int .u64 1] m=some (.int .i64 ((k / 2:Nat):Int),m):=by
 rw [av2 _ _ _ _ (by omega)]
 have : ((k:Int).fdiv (2^(min (Int.toNat 1) IntKind.i64.bits)))=((k / 2:Nat):Int):=by
  show (k:Int).fdiv 2=_
  rw [Int.fdiv_eq_ediv_of_nonneg _ (by omega)]; omega
 rw [this]
theorem arL:∀ (k a b:Nat),k≤4294967296→a≠0→b≠0→NB 900000 (a*b^k)→NB 900000 b →
  L.loop [1,5,6] [5] qw 0 [.int .i64 k,dJ a,dJ b] []=some (.exit 0,[dJ (a*b^k)],[]):=by
 intro k
 induction k using Nat.strongRecOn with
 | _ k ih =>
 intro a b hk ha hb hn hbb
 by_cases h0:k=0
 ·subst h0
  refine aJ (BX ..) ?_
  simp [yH]
 have hpos:0<k:=by omega
 have hab:a*b≤a*b^k:=Nat.mul_le_mul_left _ (Nat.le_pow hpos)
 have fa:Fit a:=(hn.le (Nat.le_trans (Nat.le_mul_of_pos_right _ (Nat.pos_of_ne_zero hb)) hab)).fit (Nat.le_refl _)
 have fb:Fit b:=hbb.fit (Nat.le_refl _)
 have hm1:=Gm fa fb
 have hm2:=Gm fb fb
 have f1:∀ m:Mem,gI .and [.int .i64 k,.int .i64 1] m=some (.int .i64 ((k % 2:Nat):Int),m):=fun m=>avq hk
 have f2:∀ m:Mem,vg false [.int .i64 k,.int .u64 1] m=some (.int .i64 ((k / 2:Nat):Int),m):=fun m=>av3
 have hsq:1<k→NB 900000 (b*b):=fun h=>by
  refine hn.le ?_
  have : b^2≤b^k:=Nat.pow_le_pow_right (Nat.pos_of_ne_zero hb) h
  have h2:b^k≤a*b^k:=Nat.le_mul_of_pos_left _ (Nat.pos_of_ne_zero ha)
  rw [Nat.pow_two] at this
  exact Nat.le_trans this h2
 have hstep:∀ a' b',a'≠0→b'≠0→a'*b'^(k / 2)=a*b^k→NB 900000 b' →
   L.loop [1,5,6] [5] qw 0 [.int .i64 ((k / 2:Nat):Int),dJ a',dJ b'] []=some (.exit 0,[dJ (a*b^k)],[]):=by
  intro a' b' h1 h2 h3 h4
  have := ih (k / 2) (by omega) a' b' (by omega) h1 h2 (by rw [h3]; exact hn) h4
  rw [h3] at this
  exact this
 have hbk:b^k=b^(k % 2)*(b*b)^(k / 2):=by
  rw [← Nat.pow_two,← Nat.pow_mul,← Nat.pow_add]; congr 1; omega
 have hpI:(0:Int)<k:=by omega
 by_cases hk1:1<k
 ·have hk1':(1:Int)<k:=by omega
  have hbb2:b*b≠0:=Nat.mul_ne_zero hb hb
  by_cases ho:k % 2=1
  ·have hnext:=hstep (a*b) (b*b) (Nat.mul_ne_zero ha hb) hbb2 (by rw [hbk,ho,Nat.pow_one,Nat.mul_assoc]) (hsq hk1)
   have hoI:((k % 2:Nat):Int)=1:=by omega
   generalize k % 2=k2 at *
   generalize k / 2=kh at *
   refine aJ (BX ..) ?_
   generalize a*b^k=r at *
   generalize a*b=ab at *
   generalize b*b=b2 at *
   simp (disch:=omega) [yH,hpI,hpos,f1,f2,hk1,hk1',ho,hoI,hm1,hm2,hnext]
  ·have hnext:=hstep a (b*b) ha hbb2 (by rw [hbk,show k % 2=0 by omega,Nat.pow_zero,Nat.one_mul]) (hsq hk1)
   have hoI:¬ ((k % 2:Nat):Int)=1:=by omega
   generalize k % 2=k2 at *
   generalize k / 2=kh at *
   refine aJ (BX ..) ?_
   generalize a*b^k=r at *
   generalize a*b=ab at *
   generalize b*b=b2 at *
   simp (disch:=omega) [yH,hpI,hpos,f1,f2,hk1,hk1',ho,hoI,hm1,hm2,hnext]
 ·have hk1e:k=1:=by omega
  subst hk1e
  have hnext:=hstep (a*b) b (Nat.mul_ne_zero ha hb) hb (by simp) hbb
  simp at hnext
  refine aJ (BX ..) ?_
  have f1':=fun m=>f1 m
  simp at f1' f2
  rw [Nat.pow_one]
  generalize a*b=ab at *
  simp (disch:=omega) [yH,f1',f2,hm1,hnext]
theorem anH {b k:Nat} (hk:k≤4294967296) (hb:b≠0) (hn:NB 900000 (b^k)) (hbb:NB 900000 b):L.call uw [dJ b,.int .i64 k]=some (dJ (b^k)):=by
 have h1:=xA 1 (by decide)
 have h1':L.call ji [.int .u64 1]=some (dJ 1):=h1
 have hl:=arL k 1 b hk (by decide) hb (by rw [Nat.one_mul]; exact hn) hbb
 rw [Nat.one_mul] at hl
 generalize b^k=r at *
 refine aN ahz rfl (ag9 ..) ?_
 simp [Yl,h1',hl]
end Go.Ev.Code
end
section
namespace Go.Ev.Code
open Go Go.Ev
theorem akE:TT.fn strings_CutPrefix=none:=by kernel_rfl
theorem akF:TT.lM strings_CutPrefix=Gn:=by kernel_rfl
theorem aiq (s p:List UInt8):L.call strings_CutPrefix [.str s,.str p]=some (if p.isPrefixOf s then .bg [.str (s.drop p.length),.bool true] else .bg [.str s,.bool false]):=by
 have hp:TT.lM strings_CutPrefix [.str s,.str p] []=some (if p.isPrefixOf s then .bg [.str (s.drop p.length),.bool true] else .bg [.str s,.bool false],[]):=by
  rw [akF]
  simp only [Gn]
  split <;> rfl
 refine NY akE hp ?_
 split <;> simp
theorem awq:TT.fn strings_Cut=none:=by kernel_rfl
theorem awr:TT.lM strings_Cut=ajY:=by kernel_rfl
def je (c:UInt8) (s:List UInt8):List UInt8×List UInt8×Bool:=match cutAt c [] s with
 | some (a,b)=>(a,b,true)
 | none=>(s,[],false)
theorem ave {s:List UInt8} (h:s.length<4294967281) (c:UInt8):L.call strings_Cut [.str s,.str [c]]=some (.bg [.str (je c s).1,.str (je c s).2.1,.bool (je c s).2.2]):=by
 have hp:TT.lM strings_Cut [.str s,.str [c]] []=some (.bg [.str (je c s).1,.str (je c s).2.1,.bool (je c s).2.2],[]):=by
  rw [awr]
  simp only [ajY,h,if_true,je]
  cases hc:cutAt c [] s with
  | none=>rfl
  | some ab=>rfl
 exact NY awq hp (by simp)
theorem ads {c:UInt8}:∀ {s acc a b:List UInt8},cutAt c acc s=some (a,b)→∃ x,a=acc.reverse++x∧s=x++c::b∧c ∉ x
 | [],acc,a,b,h=>by simp [cutAt] at h
 | y::ys,acc,a,b,h=>by
   simp only [cutAt] at h
   split at h
   ·rename_i hy
    simp at h hy
    obtain ⟨rfl,rfl⟩:=h
    exact ⟨[],by simp,by simp [hy],by simp⟩
   ·rename_i hy
    obtain ⟨x,h1,h2,h3⟩:=ads h
    refine ⟨y::x,by simp [h1],by simp [h2],?_⟩
    simp at hy
    simp [h3,Ne.symm hy]
theorem Zr {c:UInt8} {s:List UInt8} (h:(je c s).2.2=true):s=(je c s).1++c::(je c s).2.1∧c ∉ (je c s).1:=by
 unfold je at *
 cases hc:cutAt c [] s with
 | none=>rw [hc] at h; simp at h
 | some ab =>
   obtain ⟨a,b⟩:=ab
   obtain ⟨x,h1,h2,h3⟩:=ads hc
   simp at h1
   subst h1
   exact ⟨h2,h3⟩
theorem Cm {c:UInt8} {s:List UInt8} (h:(je c s).2.2=false):(je c s).1=s∧(je c s).2.1=[]:=by
 unfold je at *
 cases hc:cutAt c [] s with
 | none=>simp
 | some ab=>obtain ⟨a,b⟩:=ab; rw [hc] at h; simp at h
theorem Xl (c:UInt8) (s:List UInt8):(je c s).1.length≤s.length∧(je c s).2.1.length≤s.length∧(je c s).1.length+(je c s).2.1.length≤s.length:=by
 cases h:(je c s).2.2 with
 | true =>
   have := congrArg List.length (Zr h).1
   simp at this
   omega
 | false=>rw [(Cm h).1,(Cm h).2]; simp
theorem amN:TT.fn jE=none:=by kernel_rfl
theorem amP:TT.lM jE=JR:=by kernel_rfl
theorem ak0 {s:List UInt8} (h:s.length≤1000000) (c:UInt8) (hc:c.toNat<128):L.call jE [.str s,.str [c]]=some (.str (strip (fun b=>b==c) s)):=by
 have hp:TT.lM jE [.str s,.str [c]] []=some (.str (strip (fun b=>b==c) s),[]):=by
  rw [amP]
  simp only [JR,h,hc,and_self,if_true]
 exact NY amN hp (by simp)
theorem anf {k:Nat} (h:k≤200000):L.call JI [.int .i64 k]=some (intD ((10^k:Nat):Int)):=by
 have h1:=xA 10 (by decide)
 have h1':L.call ji [.int .u64 10]=some (dJ 10):=h1
 have hn:NB 900000 (10^k):=by
  refine NB.mono (j:=4*k+1) ?_ (by omega)
  unfold NB
  have : 10^k≤(2^4)^k:=Nat.pow_le_pow_left (by decide) k
  rw [← Nat.pow_mul] at this
  exact Nat.lt_of_le_of_lt this (Nat.pow_lt_pow_right (by decide) (by omega))
 have h2:=anH (b:=10) (k:=k) (by omega) (by decide) hn ((show NB 4 10 by unfold NB; decide).mono (by decide))
 generalize 10^k=r at *
 refine aN aoD rfl (aou ..) ?_
 simp [agG,h1',h2]
theorem aer (s:List UInt8):cZ 0 (strip (fun b=>b==48) s)=cZ 0 s:=by
 induction s with
 | nil=>simp [strip]
 | cons b bs ih =>
   by_cases h:b=48
   ·subst h
    rw [BQ]
    simpa [strip] using ih
   ·simp [strip,h]
theorem akp (p:UInt8→Bool) (s:List UInt8):strip p s <:+ s:=by rw [asr]; exact List.dropWhile_suffix p
theorem ap7 {s:List UInt8} (h:s.all jH=true) (hl:s.length≤4000) (hne:strip (fun b=>b==48) s≠[]):wH (strip (fun b=>b==48) s):=by
 have hsub:=akp (fun b=>b==48) s
 refine ⟨hne,Nat.le_trans hsub.length_le hl,?_,?_⟩
 ·rintro ⟨_,h2⟩
  cases hc:strip (fun b=>b==48) s with
  | nil=>exact hne hc
  | cons b bs =>
    have := aep _ s hc
    rw [hc] at h2
    simp at h2 this
    exact this h2
 ·rw [List.all_eq_true] at h ⊢
  exact fun x hx=>h x (hsub.subset hx)
instance (s:List UInt8):Decidable (wH s):=inferInstanceAs (Decidable (_∧_))
def iY (s:List UInt8):Bool×List UInt8:=if [45].isPrefixOf s then (true,s.drop 1) else (false,s)
theorem U3 (s:List UInt8):(iY s).2.length≤s.length:=by unfold iY; split <;> simp
def ET (neg:Bool) (w r:List UInt8) (point:Bool):Option (Rat×Nat) :=
 if wH w∧(point=true→r≠[]∧r.length≤20∧r.all jH=true)∧¬ (neg=true∧cZ 0 (w++r)=0) then
  some (Rat.divInt (if neg then -(cZ 0 (w++r):Int) else cZ 0 (w++r)) ((10^r.length:Nat):Int),r.length) else none
def yL (s:List UInt8):Option (Rat×Nat) :=
 if s.length≤60 then ET (iY s).1 (je 46 (iY s).2).1 (je 46 (iY s).2).2.1 (je 46 (iY s).2).2.2 else none
def Jh:Option (Rat×Nat)→D
 | some (q,n) => .bg [dV q,.int .i64 n,.aK]
 | none => .bg [.aY,.int .i64 0,EU 1]
theorem aon (s:List UInt8):L.call strings_CutPrefix [.str s,.str [45]]=some (.bg [.str (iY s).2,.bool (iY s).1]):=by
 rw [aiq]
 unfold iY
 split <;> rfl
end Go.Ev.Code
end
section
namespace Go.Ev.Code
open Go Go.Ev
theorem amn {s:List UInt8} (h:s.all jH=true) {k:Nat} (hk:4*s.length≤k):NB k (cZ 0 s):=(aax (Qu h)).mono hk
theorem amF (k:Nat):((10^k:Nat):Int)≠0:=by have : 0<10^k:=Nat.pow_pos (by decide); omega
theorem ap8 (k:Nat):IB (4*k+1) ((10^k:Nat):Int):=by
 refine IB.ofNat ?_
 unfold NB
 have : 10^k≤(2^4)^k:=Nat.pow_le_pow_left (by decide) k
 rw [← Nat.pow_mul] at this
 exact Nat.lt_of_le_of_lt this (Nat.pow_lt_pow_right (by decide) (by omega))
theorem au5:L.call oU [.str [48]]=some (.bg [dJ 0,.aK]):=by
 have := KT (s:=[48]) (by decide)
 rw [show cZ 0 [48]=0 by simp [BQ,Aw]] at this
 exact this
theorem Zt {s t w r:List UInt8} {neg point:Bool} (h1:L.call strings_CutPrefix [.str s,.str [45]]=some (.bg [.str t,.bool neg]))
  (h2:L.call strings_Cut [.str t,.str [46]]=some (.bg [.str w,.str r,.bool point])) (hs:s.length≤60) (hw:w.length≤s.length) (hr:r.length≤20)
  (hp:point=false→r=[]) (hd:r.all jH=true) (hn:wH w) (hg:point=true→r≠[]):L.call y5 [.str s]=some (Jh (ET neg w r point)):=by
 have had:(w++r).all jH=true:=by rw [List.all_append,hn.2.2.2,hd]; rfl
 have hal:(w++r).length≤80:=by simp; omega
 obtain ⟨tr,htr,hT⟩:=aaG (s:=r) (by omega)
 have htr':=htr.2 hd
 subst htr'
 have hG:=KT hn
 have hL:=ak0 (s:=w++r) (by omega) 48 (by decide)
 have hz:=au5
 have hall:∃ v,cZ 0 (w++r)=v∧(strip (fun b=>b==48) (w++r)=[]→v=0)∧(strip (fun b=>b==48) (w++r)≠[]→L.call oU [.str (strip (fun b=>b==48) (w++r))]=some (.bg [dJ v,.aK])):=by
  refine ⟨_,rfl,fun h=>?_,fun h=>?_⟩
  ·rw [← aer,h,Aw]
  ·rw [KT (ap7 had (by omega) h),aer]
 obtain ⟨v,hv,hv0,hv1⟩:=hall
 have hvb:NB 320 v:=by rw [← hv]; exact amn had (by omega)
 have hib:IB 320 (if neg then -(v:Int) else v):=by
  cases neg
  ·exact IB.ofNat hvb
  ·exact (IB.ofNat hvb).neg
 have hten:=anf (k:=r.length) (by omega)
 have hnew:=Ll hib (ap8 r.length) (by omega) (by omega) (amF _)
 have hs':¬ 60<s.length:=by omega
 have hsI:¬ (60:Int)<s.length:=by omega
 have hr':¬ 20<r.length:=by omega
 have hwr:w.length+r.length≤1099511627776:=by omega
 have hrI:¬ (20:Int)<r.length:=by omega
 have hcond:(point=true→r≠[]∧r.length≤20∧r.all jH=true):=fun h=>⟨hg h,hr,hd⟩
 have hpp:ET neg w r point=if ¬ (neg=true∧v=0) then some (Rat.divInt (if neg then -(v:Int) else v) ((10^r.length:Nat):Int),r.length) else none:=by
  unfold ET
  rw [hv]
  by_cases hz:neg=true∧v=0
  ·rw [if_neg (fun h=>h.2.2 hz),if_neg (fun h=>h hz)]
  ·rw [if_pos ⟨hn,hcond,hz⟩,if_pos hz]
 rw [hpp]
 refine aN afI rfl (afE ..) ?_
 have hpt:point=true∧¬ r=[]∨point=false:=by
  cases hpp:point
  ·exact .inr rfl
  ·exact .inl ⟨rfl,hg hpp⟩
 generalize hten2:((10^r.length:Nat):Int)=ten at *
 generalize hst:strip (fun b=>b==48) (w++r)=st at *
 generalize cZ 0 w=nw at *
 by_cases hst0:st=[]
 ·have hvz:=hv0 hst0
  subst hst0
  subst hvz
  rcases hpt with ⟨hpt,hrn⟩ | hpt
  ·subst hpt
   cases neg with
   | false =>
     simp at hnew
     simp (disch:=omega) [kH,h1,h2,hs',hsI,hwr,hr',hrI,hrn,hT,hG,hz,hL,hten,hnew,Jh]
   | true=>simp (disch:=omega) [kH,h1,h2,hs',hsI,hwr,hr',hrI,hrn,hT,hG,hz,hL,Jh,dD]
  ·subst hpt
   cases neg with
   | false =>
     simp at hnew
     simp (disch:=omega) [kH,h1,h2,hs',hsI,hwr,hr',hrI,hT,hG,hz,hL,hten,hnew,Jh]
   | true=>simp (disch:=omega) [kH,h1,h2,hs',hsI,hwr,hr',hrI,hT,hG,hz,hL,Jh,dD]
 ·have hvn:=hv1 hst0
  rcases hpt with ⟨hpt,hrn⟩ | hpt
  ·subst hpt
   cases neg with
   | false =>
     simp at hnew
     simp (disch:=omega) [kH,h1,h2,hs',hsI,hwr,hr',hrI,hrn,hT,hG,hz,hL,hten,hnew,Jh,hst0,hvn]
   | true =>
     simp at hnew
     by_cases hvz:v=0
     ·subst hvz
      simp (disch:=omega) [kH,h1,h2,hs',hsI,hwr,hr',hrI,hrn,hT,hG,hz,hL,Jh,dD,hst0,hvn]
     ·simp (disch:=omega) [kH,h1,h2,hs',hsI,hwr,hr',hrI,hrn,hT,hG,hz,hL,hten,hnew,Jh,hst0,hvn,hvz]
  ·subst hpt
   cases neg with
   | false =>
     simp at hnew
     simp (disch:=omega) [kH,h1,h2,hs',hsI,hwr,hr',hrI,hT,hG,hz,hL,hten,hnew,Jh,hst0,hvn]
   | true =>
     simp at hnew
     by_cases hvz:v=0
     ·subst hvz
      simp (disch:=omega) [kH,h1,h2,hs',hsI,hwr,hr',hrI,hT,hG,hz,hL,Jh,dD,hst0,hvn]
     ·simp (disch:=omega) [kH,h1,h2,hs',hsI,hwr,hr',hrI,hT,hG,hz,hL,hten,hnew,Jh,hst0,hvn,hvz]
set_option maxHeartbeats 1000000 in
theorem ak' {s t w r:List UInt8} {neg point:Bool} (h1:L.call strings_CutPrefix [.str s,.str [45]]=some (.bg [.str t,.bool neg]))
  (h2:L.call strings_Cut [.str t,.str [46]]=some (.bg [.str w,.str r,.bool point])) (hs:s.length≤1000000) (hw:w.length≤s.length) (hr:r.length≤s.length)
  (hb:60<s.length∨¬ wH w∨(point=true∧(r=[]∨20<r.length∨¬ r.all jH=true))):L.call y5 [.str s]=some (.bg [.aY,.int .i64 0,EU 1]):=by
 obtain ⟨tr,htr,hT⟩:=aaG (s:=r) (by omega)
 have hG:∃ a b,L.call oU [.str w]=some (.bg [a,b])∧((b = .aK∧wH w)∨(b=EU 1∧¬ wH w)):=by
  by_cases h:wH w
  ·exact ⟨_,_,KT h,.inl ⟨rfl,h⟩⟩
  ·exact ⟨_,_,abM h (by omega),.inr ⟨rfl,h⟩⟩
 obtain ⟨a,b,hG,hab⟩:=hG
 refine aN afI rfl (afE ..) ?_
 by_cases h60:60<s.length
 ·have h60':(60:Int)<s.length:=by omega
  simp (disch:=omega) [kH,h1,h2,h60,h60',hG,dD]
 have h60':¬ (60:Int)<s.length:=by omega
 by_cases hpt:point=true
 ·subst hpt
  by_cases hr0:r=[]
  ·subst hr0
   simp (disch:=omega) [kH,h1,h2,h60,h60',hG,dD]
  by_cases hr2:20<r.length
  ·have hr2':(20:Int)<r.length:=by omega
   simp (disch:=omega) [kH,h1,h2,h60,h60',hr0,hr2,hr2',hG,dD]
  have hr2':¬ (20:Int)<r.length:=by omega
  by_cases hrd:r.all jH=true
  ·have hnw:¬ wH w:=by
    rcases hb with h | h | ⟨_,h | h | h⟩
    ·exact absurd h h60
    ·exact h
    ·exact absurd h hr0
    ·exact absurd h hr2
    ·exact absurd hrd h
   rcases hab with ⟨_,h⟩ | ⟨rfl,_⟩
   ·exact absurd h hnw
   have := htr.2 hrd
   subst this
   simp (disch:=omega) [kH,h1,h2,h60,h60',hr0,hr2,hr2',hT,hG,dD]
  ·have htn:¬ tr=[]:=fun h=>hrd (htr.1 h)
   simp (disch:=omega) [kH,h1,h2,h60,h60',hr0,hr2,hr2',hT,htn,hG,dD]
 ·have hpf:point=false:=by simpa using hpt
  subst hpf
  have hnw:¬ wH w:=by
   rcases hb with h | h | ⟨h,_⟩
   ·exact absurd h h60
   ·exact h
   ·simp at h
  rcases hab with ⟨_,h⟩ | ⟨rfl,_⟩
  ·exact absurd h hnw
  simp (disch:=omega) [kH,h1,h2,h60,h60',hG,dD]
theorem adw {s:List UInt8} (hs:s.length≤1000000):L.call y5 [.str s]=some (Jh (yL s)):=by
 have h1:=aon s
 have hl:=U3 s
 have h2:=ave (s:=(iY s).2) (by omega) 46
 have hbl:=Xl 46 (iY s).2
 have hf := @Cm 46 (iY s).2
 unfold yL
 generalize (iY s).2=t at *
 generalize (iY s).1=neg at *
 generalize (je 46 t).1=w at *
 generalize (je 46 t).2.1=r at *
 generalize (je 46 t).2.2=point at *
 by_cases hb:60<s.length∨¬ wH w∨(point=true∧(r=[]∨20<r.length∨¬ r.all jH=true))
 ·rw [ak' h1 h2 hs (by omega) (by omega) hb]
  by_cases h60:s.length≤60
  ·have : ET neg w r point=none:=by
    unfold ET
    rw [if_neg]
    rintro ⟨q1,q2,q3⟩
    rcases hb with h | h | ⟨h3,h⟩
    ·omega
    ·exact h q1
    ·obtain ⟨a1,a2,a3⟩:=q2 h3
     rcases h with h | h | h
     ·exact a1 h
     ·omega
     ·exact h a3
   rw [if_pos h60,this]; rfl
  ·rw [if_neg h60]; rfl
 ·have g1:¬ 60<s.length:=fun h=>hb (.inl h)
  have g2:wH w:=Classical.not_not.1 fun h=>hb (.inr (.inl h))
  have g3:point=true→r≠[]:=fun h h'=>hb (.inr (.inr ⟨h,.inl h'⟩))
  have g4:point=true→r.length≤20:=fun h=>Nat.le_of_not_lt fun h'=>hb (.inr (.inr ⟨h,.inr (.inl h')⟩))
  have g5:point=true→r.all jH=true:=fun h=>Classical.not_not.1 fun h'=>hb (.inr (.inr ⟨h,.inr (.inr h')⟩))
  have g6:point=false→r=[]:=fun h=>(hf h).2
  rw [if_pos (by omega)]
  cases point with
  | true=>exact Zt h1 h2 (by omega) (by omega) (g4 rfl) g6 (g5 rfl) g2 g3
  | false =>
    have := g6 rfl
    exact Zt h1 h2 (by omega) (by omega) (by rw [this]; simp) g6 (by rw [this]; rfl) g2 g3
end Go.Ev.Code
end
