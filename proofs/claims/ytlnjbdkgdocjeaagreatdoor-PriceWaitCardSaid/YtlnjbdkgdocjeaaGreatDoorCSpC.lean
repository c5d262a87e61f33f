/- A part of the proof of priceWait_card. -/
import Derived.Test.YtlnjbdkgdocjeaaGreatDoorCSpB
set_option linter.unusedVariables false
set_option linter.unusedSimpArgs false
section
namespace Go.Ev.Code
open Go Go.Ev
def dg (n:Nat):UInt8:=UInt8.ofNat (48+n)
def txt (n:Nat):List UInt8:=if h:n<10 then [dg n] else txt (n / 10)++[dg (n % 10)]
 termination_by n
 decreasing_by omega
def Zq:Nat→Nat→List UInt8
 | 0,_=>[]
 | k+1,n=>Zq k (n / 10)++[dg (n % 10)]
theorem QE {n:Nat} (h:n<10):txt n=[dg n]:=by rw [txt]; simp [h]
theorem ZV {n:Nat} (h:10≤n):txt n=txt (n / 10)++[dg (n % 10)]:=by rw [txt]; simp [Nat.not_lt.2 h]
theorem agD:∀ (k:Nat) {n:Nat},10^k≤n→txt n=txt (n / 10^k)++Zq k (n % 10^k)
 | 0,n,_=>by simp [Zq]
 | k+1,n,h=>by
   have h10:10≤n:=Nat.le_trans (by rw [Nat.pow_succ]; have := Nat.pow_pos (n:=k) (show 0<10 by decide); omega) h
   have h1:10^k≤n / 10:=by rw [Nat.le_div_iff_mul_le (by decide),← Nat.pow_succ]; exact h
   have e1:n % 10^(k+1) / 10=n / 10 % 10^k:=by
    rw [Nat.pow_succ,Nat.mul_comm,Nat.mod_mul_right_div_self]
   have e2:n % 10^(k+1) % 10=n % 10:=Nat.mod_mod_of_dvd _ (Nat.dvd_of_pow_dvd (show 1≤k+1 by omega) (Nat.dvd_refl _))
   rw [ZV h10,agD k h1,Nat.div_div_eq_div_mul,← Nat.pow_succ',Zq,e1,e2,List.append_assoc]
theorem alf (n:Nat):0<(txt n).length:=by
 rw [txt]; split <;> simp
theorem OH:∀ (k:Nat) {n:Nat},1≤k→n<10^k→(txt n).length≤k
 | 0,_,h,_=>by omega
 | k+1,n,_,h=>by
   by_cases h10:n<10
   ·rw [QE h10]; simp
   ·rw [ZV (by omega)]
    have h1:n / 10<10^k:=by rw [Nat.div_lt_iff_lt_mul (by decide),← Nat.pow_succ]; exact h
    have hk:1≤k:=by
     rcases Nat.eq_zero_or_pos k with rfl | h
     ·simp at h1; omega
     ·exact h
    have := OH k hk h1
    simp; omega
theorem adJ:∀ (k:Nat) {n:Nat},1≤k→n<10^k→Zq k n=List.replicate (k-(txt n).length) 48++txt n
 | 0,_,h,_=>by omega
 | k+1,n,_,h=>by
   rw [Zq]
   have h1:n / 10<10^k:=by rw [Nat.div_lt_iff_lt_mul (by decide),← Nat.pow_succ]; exact h
   by_cases h10:n<10
   ·rw [QE h10,Nat.div_eq_of_lt h10,Nat.mod_eq_of_lt h10]
    rcases Nat.eq_zero_or_pos k with rfl | hk
    ·simp [Zq]
    ·rw [adJ k hk (by exact Nat.pow_pos (by decide)),QE (by decide)]
     have e:dg 0=48:=by decide
     have : k+1-[dg n].length=(k-[dg 0].length)+1:=by simp; omega
     rw [this,List.replicate_succ',e]
   ·have hk:1≤k:=by
     rcases Nat.eq_zero_or_pos k with rfl | h
     ·simp at h1; omega
     ·exact h
    have e:k+1-(txt (n / 10)++[dg (n % 10)]).length=k-(txt (n / 10)).length:=by simp
    rw [adJ k hk h1,ZV (n:=n) (by omega),List.append_assoc,e]
theorem decDigits_eq:∀ (f n:Nat) (acc:List UInt8),1≤f→n<10^f→decDigits f n acc=txt n++acc
 | 0,_,_,h,_=>by omega
 | f+1,n,acc,_,h=>by
   unfold decDigits
   by_cases h10:n<10
   ·have : n / 10=0:=Nat.div_eq_of_lt h10
    rw [if_pos this,QE h10,Nat.mod_eq_of_lt h10]; rfl
   ·have hne:n / 10≠0:=by omega
    have h1:n / 10<10^f:=by rw [Nat.div_lt_iff_lt_mul (by decide),← Nat.pow_succ]; exact h
    have hf:1≤f:=by
     rcases Nat.eq_zero_or_pos f with rfl | h
     ·simp at h1; omega
     ·exact h
    rw [if_neg hne,decDigits_eq f _ _ hf h1,ZV (n:=n) (by omega),List.append_assoc]; rfl
theorem amm {n:Nat} (h:n<10^100):zG n=txt n:=by
 unfold zG
 rw [decDigits_eq 100 n [] (by decide) h,List.append_nil]
theorem apk:TT.fn fP=none:=by kernel_rfl
theorem apm:TT.iI fP=Vl:=by kernel_rfl
theorem apl:TT.fn strings_Repeat=none:=by kernel_rfl
theorem apn:TT.iI strings_Repeat=OA:=by kernel_rfl
theorem aum:TT.fn strings_Join=none:=by kernel_rfl
theorem aup:TT.iI strings_Join=WQ:=by kernel_rfl
theorem anx {n:Nat} (h:n<W):L.call fP [ah n,.int .i64 10]=some (.str (txt n)):=by
 have hp:TT.iI fP [ah n,.int .i64 10] []=some (.str (txt n),[]):=by
  rw [apm]
  have : zG n=txt n:=amm (Nat.lt_trans h (by decide))
  simp [Vl,Dn h,this]
 exact Df apk hp (by simp)
theorem afq {s:List UInt8} {n:Nat} (hn:n≤1000000) (hs:s.length≤1000):L.call strings_Repeat [.str s,.int .i64 n]=some (.str (List.replicate n s).flatten):=by
 have hp:TT.iI strings_Repeat [.str s,.int .i64 n] []=some (.str (List.replicate n s).flatten,[]):=by
  rw [apn]
  have : (0:Int)≤n∧(n:Int)≤1000000:=by omega
  simp [OA,this,hs]
 exact Df apl hp (by simp)
theorem Y3:∀ ss:List (List UInt8),yB [] ss=ss.flatten
 | []=>rfl
 | [x]=>by simp [yB]
 | x::y::xs=>by rw [yB,Y3 (y::xs)]; simp
theorem alU:∀ ss:List (List UInt8),strs (ss.map D.str)=some ss
 | []=>rfl
 | s::ss=>by simp [strs,alU ss]
theorem arO {ss:List (List UInt8)} {sep:List UInt8} (h:(yB sep ss).length≤1000000) (hn:ss.length≤4294967296):L.call strings_Join [.sl ss.length (ss.map D.str),.str sep]=some (.str (yB sep ss)):=by
 have hp:TT.iI strings_Join [.sl ss.length (ss.map D.str),.str sep] []=some (.str (yB sep ss),[]):=by
  rw [aup]
  simp [WQ,alU,h,hn]
 exact Df aum hp (by simp)
end Go.Ev.Code
end
section
namespace Go.Ev.Code
open Go Go.Ev
theorem alJ (pre:Mem) (c:Slot):(pre++[c])[pre.length]?=some c:=by
 rw [List.getElem?_append_right (Nat.le_refl _)]; simp
theorem alK (pre:Mem) (c c':Slot):(pre++[c]).set pre.length c'=pre++[c']:=by
 rw [List.set_append_right _ _ (Nat.le_refl _)]; simp
def OJ (b:Nat) (cs:List D):Prop:=∀ d∈cs,D.clo b 12 d=true∧dO d=some [d]
theorem OJ.set {b:Nat} {cs:List D} (h:OJ b cs) {d:D} (hd:D.clo b 12 d=true∧dO d=some [d]) (i:Nat):OJ b (cs.set i d):=fun x hx=>by
 rcases List.mem_or_eq_of_mem_set hx with h1 | h1
 ·exact h x h1
 ·rw [h1]; exact hd
theorem OJ.all {b:Nat} {cs:List D} (h:OJ b cs):cs.all (D.clo b 12)=true:=by
 rw [List.all_eq_true]; exact fun x hx=>(h x hx).1
def Turned (l c:List D) (i j:Int):Prop:=c.length=l.length∧∀ k:Nat,k<l.length→c[k]?=if (k:Int)<i∨j<k then l[l.length-1-k]? else l[k]?
theorem am_ {pre:Mem} {l:List D} (hp:pre.all (JW (pre.length+1))=true) (hL:l.length≤4000000000) :
  ∀ (n i:Nat) (j:Int) (c:List D),(j-i).toNat≤n→(i:Int)+j=(l.length:Int)-1→OJ (pre.length+1) c→Turned l c i j →
  L.loop [0,2,3] [] eY (pre.length+1) [.aG pre.length 0 l.length 1,.int .i64 i,.int .i64 j] (pre++[.live c])=some (.exit 0,[],pre++[.live l.reverse]):=by
 intro n
 have fin:∀ (i:Nat) (j:Int) (c:List D),¬ (i:Int)<j→(i:Int)+j=(l.length:Int)-1→Turned l c i j→c=l.reverse:=by
  intro i j c hlt hs ht
  apply List.ext_getElem?
  intro k
  by_cases hk:k<l.length
  ·rw [ht.2 k hk,List.getElem?_reverse hk]
   split
   ·rfl
   ·have : k=l.length-1-k:=by omega
    rw [← this]
  ·rw [List.getElem?_eq_none (by rw [ht.1]; omega),List.getElem?_eq_none (by simp; omega)]
 have base:∀ (i:Nat) (j:Int) (c:List D),¬ (i:Int)<j→(i:Int)+j=(l.length:Int)-1→OJ (pre.length+1) c→Turned l c i j→L.loop [0,2,3] [] eY (pre.length+1) [.aG pre.length 0 l.length 1,.int .i64 i,.int .i64 j] (pre++[.live c])=some (.exit 0,[],pre++[.live l.reverse]):=by
  intro i j c hlt hs hcl ht
  rw [fin i j c hlt hs ht] at hcl ⊢
  refine aj (y8 ..) ?_
  have ha:=hcl.all
  have hd:decide ((i:Int)<j)=false:=by simpa using hlt
  have htk:(pre++[Slot.live l.reverse]).take (pre.length+1)=pre++[.live l.reverse]:=List.take_of_length_le (by simp)
  have hlr:l.reverse.all (D.clo (pre.length+1) 12)=l.all (D.clo (pre.length+1) 12):=List.all_reverse
  rw [hlr] at ha
  simp [pX,hlt,ha,hp,htk]
 induction n with
 | zero=>intro i j c hn hs hcl ht; exact base i j c (by omega) hs hcl ht
 | succ n ih =>
   intro i j c hn hs hcl ht
   by_cases hlt:(i:Int)<j
   ·obtain ⟨jn,rfl⟩:∃ jn:Nat,j=jn:=⟨j.toNat,by omega⟩
    have hjl:jn<l.length:=by omega
    have hil:i<l.length:=by omega
    obtain ⟨x,hx⟩:∃ x,c[i]?=some x:=⟨c[i]'(by rw [ht.1]; exact hil),List.getElem?_eq_getElem _⟩
    obtain ⟨y,hy⟩:∃ y,c[jn]?=some y:=⟨c[jn]'(by rw [ht.1]; exact hjl),List.getElem?_eq_getElem _⟩
    have hcx:=hcl x (List.mem_of_getElem? hx)
    have hcy:=hcl y (List.mem_of_getElem? hy)
    have ht':Turned l ((c.set i y).set jn x) ((i+1:Nat):Int) ((jn:Int)-1):=by
     refine ⟨by simp [ht.1],fun k hk=>?_⟩
     have hi1:=ht.2 i hil
     have hj1:=ht.2 jn hjl
     rw [if_neg (by omega)] at hi1 hj1
     by_cases h1:k=jn
     ·subst h1
      rw [List.getElem?_set_self (by simp [ht.1]; omega),if_pos (by omega),← hx,hi1]
      congr 1; omega
     ·rw [List.getElem?_set_ne (by omega)]
      by_cases h2:k=i
      ·subst h2
       rw [List.getElem?_set_self (by rw [ht.1]; omega),if_pos (by omega),← hy,hj1]
       congr 1; omega
      ·rw [List.getElem?_set_ne (by omega),ht.2 k hk]
       by_cases h3:(k:Int)<i∨(jn:Int)<k
       ·rw [if_pos h3,if_pos (by omega)]
       ·rw [if_neg h3,if_neg (by omega)]
    have hcl':=(hcl.set hcy i).set hcx jn
    have h2:=ih (i+1) ((jn:Int)-1) ((c.set i y).set jn x) (by omega) (by omega) hcl' ht'
    refine aj (y8 ..) ?_
    have e1:IntKind.i64.wrap ((i:Int)+1)=((i+1:Nat):Int):=by rw [wrap64 _ (by omega)]; omega
    have e2:IntKind.i64.wrap ((jn:Int)-1)=(jn:Int)-1:=wrap64 _ (by omega)
    have hlt':i<jn:=by omega
    have w1:i+1≤c.length:=by rw [ht.1]; omega
    have w2:jn+1≤c.length:=by rw [ht.1]; omega
    have ha:=hcl'.all
    have hcx2:∀ p:i<c.length,c[i]=x:=fun p=>by simpa using (List.getElem?_eq_some_iff.1 hx).2
    have hcy2:∀ p:jn<c.length,c[jn]=y:=fun p=>by simpa using (List.getElem?_eq_some_iff.1 hy).2
    have htk:∀ z,(pre++[z]).take (pre.length+1)=pre++[z]:=fun z=>List.take_of_length_le (by simp)
    generalize hi1:i+1=i1 at *
    simp (disch:=omega) [pX,hlt',e1,e2,alJ,alK,hx,hy,hcx.2,hcy.2,hcx2,hcy2,w1,w2,ha,hp,htk,jF,h2]
   ·exact base i j c hlt hs hcl ht
theorem aqL {pre:Mem} {l:List D} (hp:pre.all (JW (pre.length+1))=true) (hL:l.length≤4000000000) (hcl:OJ (pre.length+1) l) :
  L.aU slices_Reverse_string [.aG pre.length 0 l.length 1] (pre++[.live l])=some (.aH [],pre++[.live l.reverse]):=by
 have h:=am_ hp hL _ 0 ((l.length:Int)-1) l (Nat.le_refl _) (by omega) hcl ⟨rfl,fun k hk=>by rw [if_neg (by omega)]⟩
 have h':L.loop [0,2,3] [] eY (pre.length+1) [.aG pre.length 0 l.length 1,.int .i64 0,.int .i64 ((l.length:Int)-1)] (pre++[.live l])=_:=h
 have e1:IntKind.i64.wrap ((l.length:Int)-1)=(l.length:Int)-1:=wrap64 _ (by omega)
 have htk:∀ z,(pre++[z]).take (pre.length+1)=pre++[z]:=fun z=>List.take_of_length_le (by simp)
 have ha:l.reverse.all (D.clo (pre.length+1) 12)=true:=by rw [List.all_reverse]; exact hcl.all
 refine kL (QM ..) ?_
 simp [Du,e1,h',hp,ha,htk]
theorem am9 {pre:Mem} {l:List D} (hp:pre.all (JW (pre.length+1))=true) (hL:l.length≤4000000000) :
  ∀ (n i:Nat) (j:Int) (c:List D),(j-i).toNat≤n→(i:Int)+j=(l.length:Int)-1→OJ (pre.length+1) c→Turned l c i j →
  L.loop [0,2,3] [] gZ (pre.length+1) [.aG pre.length 0 l.length 1,.int .i64 i,.int .i64 j] (pre++[.live c])=some (.exit 0,[],pre++[.live l.reverse]):=by
 intro n
 have fin:∀ (i:Nat) (j:Int) (c:List D),¬ (i:Int)<j→(i:Int)+j=(l.length:Int)-1→Turned l c i j→c=l.reverse:=by
  intro i j c hlt hs ht
  apply List.ext_getElem?
  intro k
  by_cases hk:k<l.length
  ·rw [ht.2 k hk,List.getElem?_reverse hk]
   split
   ·rfl
   ·have : k=l.length-1-k:=by omega
    rw [← this]
  ·rw [List.getElem?_eq_none (by rw [ht.1]; omega),List.getElem?_eq_none (by simp; omega)]
 have base:∀ (i:Nat) (j:Int) (c:List D),¬ (i:Int)<j→(i:Int)+j=(l.length:Int)-1→OJ (pre.length+1) c→Turned l c i j→L.loop [0,2,3] [] gZ (pre.length+1) [.aG pre.length 0 l.length 1,.int .i64 i,.int .i64 j] (pre++[.live c])=some (.exit 0,[],pre++[.live l.reverse]):=by
  intro i j c hlt hs hcl ht
  rw [fin i j c hlt hs ht] at hcl ⊢
  refine aj (Dt ..) ?_
  have ha:=hcl.all
  have hd:decide ((i:Int)<j)=false:=by simpa using hlt
  have htk:(pre++[Slot.live l.reverse]).take (pre.length+1)=pre++[.live l.reverse]:=List.take_of_length_le (by simp)
  have hlr:l.reverse.all (D.clo (pre.length+1) 12)=l.all (D.clo (pre.length+1) 12):=List.all_reverse
  rw [hlr] at ha
  simp [uf,hlt,ha,hp,htk]
 induction n with
 | zero=>intro i j c hn hs hcl ht; exact base i j c (by omega) hs hcl ht
 | succ n ih =>
   intro i j c hn hs hcl ht
   by_cases hlt:(i:Int)<j
   ·obtain ⟨jn,rfl⟩:∃ jn:Nat,j=jn:=⟨j.toNat,by omega⟩
    have hjl:jn<l.length:=by omega
    have hil:i<l.length:=by omega
    obtain ⟨x,hx⟩:∃ x,c[i]?=some x:=⟨c[i]'(by rw [ht.1]; exact hil),List.getElem?_eq_getElem _⟩
    obtain ⟨y,hy⟩:∃ y,c[jn]?=some y:=⟨c[jn]'(by rw [ht.1]; exact hjl),List.getElem?_eq_getElem _⟩
    have hcx:=hcl x (List.mem_of_getElem? hx)
    have hcy:=hcl y (List.mem_of_getElem? hy)
    have ht':Turned l ((c.set i y).set jn x) ((i+1:Nat):Int) ((jn:Int)-1):=by
     refine ⟨by simp [ht.1],fun k hk=>?_⟩
     have hi1:=ht.2 i hil
     have hj1:=ht.2 jn hjl
     rw [if_neg (by omega)] at hi1 hj1
     by_cases h1:k=jn
     ·subst h1
      rw [List.getElem?_set_self (by simp [ht.1]; omega),if_pos (by omega),← hx,hi1]
      congr 1; omega
     ·rw [List.getElem?_set_ne (by omega)]
      by_cases h2:k=i
      ·subst h2
       rw [List.getElem?_set_self (by rw [ht.1]; omega),if_pos (by omega),← hy,hj1]
       congr 1; omega
      ·rw [List.getElem?_set_ne (by omega),ht.2 k hk]
       by_cases h3:(k:Int)<i∨(jn:Int)<k
       ·rw [if_pos h3,if_pos (by omega)]
       ·rw [if_neg h3,if_neg (by omega)]
    have hcl':=(hcl.set hcy i).set hcx jn
    have h2:=ih (i+1) ((jn:Int)-1) ((c.set i y).set jn x) (by omega) (by omega) hcl' ht'
    refine aj (Dt ..) ?_
    have e1:IntKind.i64.wrap ((i:Int)+1)=((i+1:Nat):Int):=by rw [wrap64 _ (by omega)]; omega
    have e2:IntKind.i64.wrap ((jn:Int)-1)=(jn:Int)-1:=wrap64 _ (by omega)
    have hlt':i<jn:=by omega
    have w1:i+1≤c.length:=by rw [ht.1]; omega
    have w2:jn+1≤c.length:=by rw [ht.1]; omega
    have ha:=hcl'.all
    have hcx2:∀ p:i<c.length,c[i]=x:=fun p=>by simpa using (List.getElem?_eq_some_iff.1 hx).2
    have hcy2:∀ p:jn<c.length,c[jn]=y:=fun p=>by simpa using (List.getElem?_eq_some_iff.1 hy).2
    have htk:∀ z,(pre++[z]).take (pre.length+1)=pre++[z]:=fun z=>List.take_of_length_le (by simp)
    generalize hi1:i+1=i1 at *
    simp (disch:=omega) [uf,hlt',e1,e2,alJ,alK,hx,hy,hcx.2,hcy.2,hcx2,hcy2,w1,w2,ha,hp,htk,jF,h2]
   ·exact base i j c hlt hs hcl ht
theorem aqK {pre:Mem} {l:List D} (hp:pre.all (JW (pre.length+1))=true) (hL:l.length≤4000000000) (hcl:OJ (pre.length+1) l) :
  L.aU slices_Reverse_int [.aG pre.length 0 l.length 1] (pre++[.live l])=some (.aH [],pre++[.live l.reverse]):=by
 have h:=am9 hp hL _ 0 ((l.length:Int)-1) l (Nat.le_refl _) (by omega) hcl ⟨rfl,fun k hk=>by rw [if_neg (by omega)]⟩
 have h':L.loop [0,2,3] [] gZ (pre.length+1) [.aG pre.length 0 l.length 1,.int .i64 0,.int .i64 ((l.length:Int)-1)] (pre++[.live l])=_:=h
 have e1:IntKind.i64.wrap ((l.length:Int)-1)=(l.length:Int)-1:=wrap64 _ (by omega)
 have htk:∀ z,(pre++[z]).take (pre.length+1)=pre++[z]:=fun z=>List.take_of_length_le (by simp)
 have ha:l.reverse.all (D.clo (pre.length+1) 12)=true:=by rw [List.all_reverse]; exact hcl.all
 refine kL (VN ..) ?_
 simp [II,e1,h',hp,ha,htk]
end Go.Ev.Code
end
section
namespace Go.Ev.Code
open Go Go.Ev
def piece (v:Nat):List UInt8:=if v<10^18 then txt v else Zq 18 (v % 10^18)
theorem agC {v:Nat} (h:v≠0):txt v=(if v / 10^18=0 then [] else txt (v / 10^18))++piece v:=by
 unfold piece
 by_cases h1:v<10^18
 ·rw [if_pos h1,if_pos (Nat.div_eq_of_lt h1),List.nil_append]
 ·have : v / 10^18≠0:=by
   have := Nat.div_pos (Nat.le_of_not_lt h1) (show 0<10^18 by decide)
   omega
  rw [if_neg h1,if_neg this]
  exact agD 18 (Nat.le_of_not_lt h1)
@[simp] theorem awX (b n:Nat) (l:List (List UInt8)):l.all (D.clo b (n+1) ∘ D.str)=true:=by simp
@[simp] theorem axV (n:Nat) (l:List (List UInt8)) (m:Mem):iO (fz (n+1)) (l.map D.str) m=some (l.map D.str,m):=by
  induction l with
  | nil=>rfl
  | cons x xs ih=>simp [ih]
theorem abe {v:Nat} (hv:Fit v):∃ q:List Nat,L.call F5 [aQ (limbs v),.int .u64 1000000000000000000]=some (.aH [aQ q,ah (v % 10^18)])∧L.call jf [aQ q]=some (bP (v / 10^18))∧q.length=(limbs v).length ∧
  L.call fP [ah (v % 10^18),.int .i64 10]=some (.str (txt (v % 10^18))):=by
 have fv:(limbs v).length≤1000000000:=hv
 obtain ⟨q,q1,q2,q3,q4⟩:=Zi (d:=1000000000000000000) (aY v).1 (by decide) (by decide) (by omega)
 have hm:=iL q q2 (by unfold maxL; omega)
 rw [q3,bQ] at hm
 rw [bQ] at q4
 exact ⟨q,q4,hm,q1,anx (Nat.lt_trans (Nat.mod_lt _ (by decide)) (by decide))⟩
theorem ao9 {X:Slot} (hX:JW 1 X=true):∀ (j v:Nat) (ss:List (List UInt8)),v<10^(18*j)→Fit v→ss≠[]→ss.length+j≤4000000 →
  ∃ ss':List (List UInt8),ss'≠[]∧ss'.length≤4000000∧ss'.reverse.flatten=(if v=0 then [] else txt v)++ss.reverse.flatten ∧
    L.loop [3,4] [3] lM 1 [.aG 1 0 ss.length 1,aQ (limbs v)] [X,.live (ss.map D.str)]=some (.exit 0,[.aG 1 0 ss'.length 1],[X,.live (ss'.map D.str)]):=by
 intro j
 induction j with
 | zero =>
   intro v ss hv _ hne hl
   have : v=0:=by simpa using hv
   subst this
   refine ⟨ss,hne,by omega,by simp,aj (pY ..) ?_⟩
   simp [iQ,hX]
 | succ j ih =>
   intro v ss hv hf hne hl
   by_cases h0:v=0
   ·subst h0
    refine ⟨ss,hne,by omega,by simp,aj (pY ..) ?_⟩
    simp [iQ,hX]
   ·have hq:v / 10^18<10^(18*j):=by
     rw [Nat.div_lt_iff_lt_mul (by decide),← Nat.pow_add]; exact hv
    obtain ⟨ss',g1,g2,g3,g4⟩:=ih (v / 10^18) (ss++[piece v]) hq (hf.of_le (Nat.div_le_self _ _)) (by simp) (by simp; omega)
    obtain ⟨q,c1,c2,c3,c4⟩:=abe hf
    refine ⟨ss',g1,g2,?_,aj (pY ..) ?_⟩
    ·rw [g3,if_neg h0,agC h0]; simp
    ·have hvl:limbs v≠[]:=Fg h0
     have hvl':0<(limbs v).length:=List.length_pos_iff.2 hvl
     have hlen:ss.length+1≤4294967296:=by omega
     have htk:(ss.map D.str).take ss.length=ss.map D.str:=List.take_of_length_le (by simp)
     have hr:v % 10^18<10^18:=Nat.mod_lt _ (by decide)
     by_cases h1:v<10^18
     ·have e1:v / 10^18=0:=Nat.div_eq_of_lt h1
      have e2:v % 10^18=v:=Nat.mod_eq_of_lt h1
      have e3:piece v=txt v:=by unfold piece; rw [if_pos h1]
      rw [e1] at g4 c2
      rw [e2] at c1 c4
      rw [e3] at g4
      simp [c3] at c1 c2 g4
      simp [iQ,hvl,hvl',htk,c1,c2,c4,Hl,hlen,hX,fA,g4]
     ·have hd0:v / 10^18≠0:=by
       have := Nat.div_pos (Nat.le_of_not_lt h1) (show 0<10^18 by decide)
       omega
      have hdl:limbs (v / 10^18)≠[]:=Fg hd0
      have hdl':0<(limbs (v / 10^18)).length:=List.length_pos_iff.2 hdl
      have htl:=OH 18 (by decide) hr
      have hpad:=adJ 18 (by decide) hr
      have e3:piece v=List.replicate (18-(txt (v % 10^18)).length) 48++txt (v % 10^18):=by unfold piece; rw [if_neg h1,hpad]
      have e4:IntKind.i64.wrap (18-((txt (v % 10^18)).length:Int))=((18-(txt (v % 10^18)).length:Nat):Int):=by rw [wrap64 _ (by omega)]; omega
      have hrep:=afq (s:=[48]) (n:=18-(txt (v % 10^18)).length) (by omega) (by simp)
      have e5:(List.replicate (18-(txt (v % 10^18)).length) [(48:UInt8)]).flatten=List.replicate (18-(txt (v % 10^18)).length) 48:=by simp
      rw [e5] at hrep
      rw [e3] at g4
      generalize txt (v % 10^18)=tr at *
      generalize hk:18-tr.length=k at *
      have hlk:k+tr.length≤1099511627776:=by omega
      generalize v / 10^18=w at *
      generalize v % 10^18=r at *
      simp [c3] at c1 c2 g4
      simp [iQ,hvl,hdl,hvl',hdl',htk,c1,c2,c4,Hl,hlen,hX,fA,e4,hrep,hlk,g4]
def Wri (n:Nat):Prop:=∃ k:Nat,1≤k∧k≤900000∧n<10^k
theorem aa3 {v:Nat} (hf:Fit v) (hw:Wri v):L.call n_ [bP v]=some (.str (txt v)):=by
 refine ak (aer ..) ?_
 by_cases h0:v=0
 ·subst h0
  have hc:=al3 []
  have hl:L.loop [3,4] [3] lM 0 [.bJ,aQ []] []=some (.exit 0,[.bJ],[]):=by
   refine aj (pY ..) ?_
   simp [iQ]
  have ht:txt 0=[48]:=by rw [QE (by decide)]; rfl
  simp at hc hl
  simp [JM,hc,hl,ht]
 ·have hvl:limbs v≠[]:=Fg h0
  have hvl':0<(limbs v).length:=List.length_pos_iff.2 hvl
  have fv:(limbs v).length≤1000000000:=hf
  have hc:=abp [] hvl (by omega)
  obtain ⟨k,hk1,hk2,hw⟩:=hw
  have hq:v / 10^18<10^(18*k):=Nat.lt_of_lt_of_le (Nat.lt_of_le_of_lt (Nat.div_le_self _ _) hw) (Nat.pow_le_pow_right (by decide) (by omega))
  obtain ⟨ss',g1,g2,g3,g4⟩:=ao9 (X := .fH ((limbs v).map ah)) rfl k (v / 10^18) [piece v] hq (hf.of_le (Nat.div_le_self _ _)) (by simp) (by simp; omega)
  obtain ⟨q,c1,c2,c3,c4⟩:=abe hf
  have hr:v % 10^18<10^18:=Nat.mod_lt _ (by decide)
  have htxt:ss'.reverse.flatten=txt v:=by rw [g3,agC h0]; simp
  have hlen1:((txt v).length)≤k:=OH k hk1 hw
  have hj:=arO (ss:=ss'.reverse) (sep:=[]) (by rw [Y3,htxt]; omega) (by simp; omega)
  rw [Y3,htxt] at hj
  have hss:0<ss'.length:=List.length_pos_iff.2 g1
  have hrev:=aqL (pre:=[.fH ((limbs v).map ah)]) (l:=ss'.map D.str) rfl (by simp; omega) (fun d hd=>by
   obtain ⟨s,_,rfl⟩:=List.mem_map.1 hd
   exact ⟨rfl,rfl⟩)
  have htake:((limbs v).map ah).take (limbs v).length=(limbs v).map ah:=List.take_of_length_le (by simp)
  have first:L.loop [3,4] [3] lM 1 [.bJ,.aG 0 0 (limbs v).length 1] [.live ((limbs v).map ah)]=some (.exit 0,[.aG 1 0 ss'.length 1],[.fH ((limbs v).map ah),.live (ss'.map D.str)]):=by
   refine aj (pY ..) ?_
   by_cases h1:v<10^18
   ·have e1:v / 10^18=0:=Nat.div_eq_of_lt h1
    have e2:v % 10^18=v:=Nat.mod_eq_of_lt h1
    have e3:piece v=txt v:=by unfold piece; rw [if_pos h1]
    rw [e1] at g4 c2
    rw [e2] at c1 c4
    rw [e3] at g4
    simp [c3] at c1 c2 g4
    simp [iQ,hvl,hvl',htake,c1,c2,c4,Hl,fA,g4]
   ·have hd0:v / 10^18≠0:=by
     have := Nat.div_pos (Nat.le_of_not_lt h1) (show 0<10^18 by decide)
     omega
    have hdl:limbs (v / 10^18)≠[]:=Fg hd0
    have hdl':0<(limbs (v / 10^18)).length:=List.length_pos_iff.2 hdl
    have htl:=OH 18 (by decide) hr
    have hpad:=adJ 18 (by decide) hr
    have e3:piece v=List.replicate (18-(txt (v % 10^18)).length) 48++txt (v % 10^18):=by unfold piece; rw [if_neg h1,hpad]
    have e4:IntKind.i64.wrap (18-((txt (v % 10^18)).length:Int))=((18-(txt (v % 10^18)).length:Nat):Int):=by rw [wrap64 _ (by omega)]; omega
    have hrep:=afq (s:=[48]) (n:=18-(txt (v % 10^18)).length) (by omega) (by simp)
    have e5:(List.replicate (18-(txt (v % 10^18)).length) [(48:UInt8)]).flatten=List.replicate (18-(txt (v % 10^18)).length) 48:=by simp
    rw [e5] at hrep
    rw [e3] at g4
    generalize txt (v % 10^18)=tr at *
    generalize hk:18-tr.length=k at *
    have hlk:k+tr.length≤1099511627776:=by omega
    generalize v / 10^18=w at *
    generalize v % 10^18=r at *
    simp [c3] at c1 c2 g4
    simp [iQ,hvl,hdl,hvl',hdl',htake,c1,c2,c4,Hl,fA,e4,hrep,hlk,g4]
  have hrl:(ss'.map D.str).reverse=ss'.reverse.map D.str:=by rw [List.map_reverse]
  have htake2:(ss'.reverse.map D.str).take ss'.length=ss'.reverse.map D.str:=List.take_of_length_le (by simp)
  rw [hrl] at hrev
  rw [List.length_reverse] at hj
  have hsl:ss'.reverse.length=ss'.length:=by simp
  generalize ss'.reverse=sr at *
  simp [MM] at hc first hrev
  simp [JM,hc,first,hss,g1,hrev,hsl,htake2,hj]
end Go.Ev.Code
end
section
namespace Go.Ev.Code
open Go Go.Ev
def PU (z:Int):List D:=[.bool (decide (z<0)),bP z.natAbs]
abbrev intD (z:Int):D := .ref (PU z) 0
def NB (k n:Nat):Prop:=n<2^k
def IB (k:Nat) (z:Int):Prop:=NB k z.natAbs
theorem NB.mono {j k n:Nat} (h:NB j n) (hk:j≤k):NB k n:=Nat.lt_of_lt_of_le h (Nat.pow_le_pow_right (by decide) hk)
theorem NB.le {k n m:Nat} (h:NB k n) (hm:m≤n):NB k m:=Nat.lt_of_le_of_lt hm h
theorem NB.fit {k n:Nat} (h:NB k n) (hk:k≤900000):Fit n:=by
 unfold Fit
 refine Nat.le_trans (Y9 (k:=k) (Nat.lt_of_lt_of_le h (Nat.pow_le_pow_left (by decide) k))) (by omega)
theorem NB.wri {k n:Nat} (h:NB k n) (hk:k≤900000) (h1:1≤k):Wri n :=
 ⟨k,h1,hk,Nat.lt_of_lt_of_le h (Nat.pow_le_pow_left (by decide) k)⟩
theorem NB.mul {j k a b:Nat} (ha:NB j a) (hb:NB k b):NB (j+k) (a*b):=by
 unfold NB at *
 rw [Nat.pow_add]; exact Nat.mul_lt_mul'' ha hb
theorem NB.add {j k a b:Nat} (ha:NB j a) (hb:NB k b):NB (max j k+1) (a+b):=by
 have h1:=ha.mono (Nat.le_max_left j k)
 have h2:=hb.mono (Nat.le_max_right j k)
 unfold NB at *
 rw [Nat.pow_succ]; omega
theorem IB.mono {j k:Nat} {z:Int} (h:IB j z) (hk:j≤k):IB k z:=NB.mono h hk
theorem IB.fit {k:Nat} {z:Int} (h:IB k z) (hk:k≤900000):Fit z.natAbs:=NB.fit h hk
theorem IB.mul {j k:Nat} {a b:Int} (ha:IB j a) (hb:IB k b):IB (j+k) (a*b):=by
 unfold IB; rw [Int.natAbs_mul]; exact NB.mul ha hb
theorem IB.add {j k:Nat} {a b:Int} (ha:IB j a) (hb:IB k b):IB (max j k+1) (a+b) :=
 NB.le (NB.add ha hb) (Int.natAbs_add_le a b)
theorem IB.neg {k:Nat} {z:Int} (h:IB k z):IB k (-z):=by unfold IB; rw [Int.natAbs_neg]; exact h
theorem IB.ofNat {k n:Nat} (h:NB k n):IB k (n:Int):=by unfold IB; simpa using h
@[simp] theorem amT (s:Bool) (n:Nat):L.call F6 [.bool s,bP n]=some (intD (if s then -(n:Int) else n)):=by
  refine ak (anH ..) ?_
  cases s with
  | false =>
    have : ¬ (n:Int)<0:=by omega
    simp [Tn,PU,this]
  | true =>
    by_cases hn:n=0
    ·subst hn
     simp [Tn,PU]
    ·have hpos:0<n:=by omega
     simp [Tn,PU,hn,hpos]
@[simp] theorem amR (z:Int):L.call qY [intD z]=some (bP z.natAbs):=by
  refine ak (agX ..) ?_
  simp [XG,PU]
@[simp] theorem akY (z:Int):L.call oq [intD z]=some (.int .i64 z.sign):=by
  refine ak (aeu ..) ?_
  rcases Int.lt_trichotomy z 0 with h | h | h
  ·have h1:z.sign = -1:=Int.sign_eq_neg_one_of_neg h
   have h2:¬ z=0:=by omega
   simp [Dk,h1,h2,PU,h]
  ·subst h
   simp [Dk]
  ·have h1:z.sign=1:=Int.sign_eq_one_of_pos h
   have h2:¬ z=0:=by omega
   have h3:¬ z<0:=by omega
   simp [Dk,h1,h2,PU,h3]
theorem sign_neg {z:Int}:z.sign<0↔z<0:=by
 rcases Int.lt_trichotomy z 0 with h | h | h
 ·simp [Int.sign_eq_neg_one_of_neg h,h]
 ·simp [h]
 ·simp [Int.sign_eq_one_of_pos h]; omega
theorem abk {z:Int}:0≤z.sign↔0≤z:=by have := @sign_neg z; omega
@[simp] theorem amS (z:Int):L.call vU [intD z]=some (intD (-z)):=by
  refine ak (ag1 ..) ?_
  by_cases h:0≤z
  ·have e : -(z.natAbs:Int) = -z:=by omega
   simp [Nw,abk,h,e]
  ·have e:(z.natAbs:Int) = -z:=by omega
   simp [Nw,abk,h,e]
theorem Oa {a b:Int} {j k:Nat} (ha:IB j a) (hb:IB k b) (hj:j≤900000) (hk:k≤900000):L.call vT [intD a,intD b]=some (intD (a+b)):=by
 have hadd:=WH (ha.fit hj) (hb.fit hk)
 have hcmp:=WI (ha.fit hj) (hb.fit hk)
 refine ak (agY ..) ?_
 by_cases h1:a<0 <;> by_cases h2:b<0
 ·have e : -((a.natAbs+b.natAbs:Nat):Int)=a+b:=by omega
  generalize a.natAbs+b.natAbs=s at *
  simp [pW,sign_neg,h1,h2,hadd,e]
 ·by_cases h3:a.natAbs<b.natAbs
  ·have hs:=Hr (hb.fit hk) (ha.fit hj) (Nat.le_of_lt h3)
   have e:((b.natAbs-a.natAbs:Nat):Int)=a+b:=by omega
   generalize b.natAbs-a.natAbs=s at *
   simp [pW,sign_neg,h1,h2,hcmp,wM,h3,hs,e]
  ·have hs:=Hr (ha.fit hj) (hb.fit hk) (Nat.le_of_not_lt h3)
   have e : -((a.natAbs-b.natAbs:Nat):Int)=a+b:=by omega
   generalize a.natAbs-b.natAbs=s at *
   simp [pW,sign_neg,h1,h2,hcmp,wM,h3,hs,e]
 ·by_cases h3:a.natAbs<b.natAbs
  ·have hs:=Hr (hb.fit hk) (ha.fit hj) (Nat.le_of_lt h3)
   have e : -((b.natAbs-a.natAbs:Nat):Int)=a+b:=by omega
   generalize b.natAbs-a.natAbs=s at *
   simp [pW,sign_neg,h1,h2,hcmp,wM,h3,hs,e]
  ·have hs:=Hr (ha.fit hj) (hb.fit hk) (Nat.le_of_not_lt h3)
   have e:((a.natAbs-b.natAbs:Nat):Int)=a+b:=by omega
   generalize a.natAbs-b.natAbs=s at *
   simp [pW,sign_neg,h1,h2,hcmp,wM,h3,hs,e]
 ·have e:((a.natAbs+b.natAbs:Nat):Int)=a+b:=by omega
  generalize a.natAbs+b.natAbs=s at *
  simp [pW,sign_neg,h1,h2,hadd,e]
theorem adH {a b:Int} {j k:Nat} (ha:IB j a) (hb:IB k b) (hj:j≤900000) (hk:k≤900000):L.call zO [intD a,intD b]=some (intD (a-b)):=by
 have := Oa ha hb.neg hj hk
 refine ak (ag2 ..) ?_
 rw [Int.sub_eq_add_neg]
 simp [XI,this]
theorem WM {a b:Int} {j k:Nat} (ha:IB j a) (hb:IB k b) (hj:j≤900000) (hk:k≤900000):L.call zN [intD a,intD b]=some (.int .i64 (a-b).sign):=by
 have := adH ha hb hj hk
 refine ak (agZ ..) ?_
 simp [XH,this]
theorem ED {a b:Int}:IntKind.i64.wrap (a.sign*b.sign)<0↔a*b<0:=by
 rw [← Int.sign_mul,wrap64 _ (by rcases Int.sign_trichotomy (a*b) with h | h | h <;> rw [h] <;> decide)]
 exact sign_neg
theorem j_ {a b:Int} {j k:Nat} (ha:IB j a) (hb:IB k b) (hj:j≤900000) (hk:k≤900000):L.call ru [intD a,intD b]=some (intD (a*b)):=by
 have hm:=CY (ha.fit hj) (hb.fit hk)
 rw [← Int.natAbs_mul] at hm
 refine ak (ag0 ..) ?_
 by_cases h:a*b<0
 ·have e : -((a*b).natAbs:Int)=a*b:=by omega
  have hd:decide (IntKind.i64.wrap (a.sign*b.sign)<0)=true:=by simpa [ED] using h
  generalize a*b=p at *
  simp [Nv,hd,hm,e]
 ·have e:((a*b).natAbs:Int)=a*b:=by omega
  have hd:decide (IntKind.i64.wrap (a.sign*b.sign)<0)=false:=by simpa [ED] using h
  generalize a*b=p at *
  simp [Nv,hd,hm,e]
theorem Zm (n:Int) (h : -9223372036854775808≤n∧n≤9223372036854775807):L.call P7 [.int .i64 n]=some (intD n):=by
 refine ak (apq ..) ?_
 by_cases h0:n<0
 ·have e1:IntKind.u64.wrap (0-IntKind.u64.wrap n)=(n.natAbs:Int):=by
   simp [IntKind.wrap,IntKind.signed,IntKind.bits]; omega
  have hof:=qW n.natAbs (by unfold W; omega)
  have e2 : -(n.natAbs:Int)=n:=by omega
  generalize hk:n.natAbs=k at *
  have e1':IntKind.u64.wrap (-IntKind.u64.wrap n)=(k:Int):=by rw [← e1]; congr 1; omega
  simp [acD,h0,e1',hof,e2]
 ·obtain ⟨k,rfl⟩:∃ k:Nat,n=k:=⟨n.toNat,by omega⟩
  have e1:IntKind.u64.wrap (k:Int)=(k:Int):=dJ _ (by omega)
  have hof:=qW k (by unfold W; omega)
  simp [acD,h0,e1,hof]
def JY (z:Int):List UInt8:=if z<0 then 45::txt z.natAbs else txt z.natAbs
theorem Ug {z:Int} {k:Nat} (h:IB k z) (hk:k≤900000) (h1:1≤k):L.call ou [intD z]=some (.str (JY z)):=by
 have ht:=aa3 (h.fit hk) (NB.wri h hk h1)
 have hl:(txt z.natAbs).length≤900000:=by
  obtain ⟨j,j1,j2,j3⟩:=NB.wri h hk h1
  exact Nat.le_trans (OH j j1 j3) j2
 have hl2:1+(txt z.natAbs).length≤1099511627776:=by omega
 refine ak (aev ..) ?_
 by_cases h0:z<0
 ·simp [JU,sign_neg,h0,ht,JY,hl2]
 ·simp [JU,sign_neg,h0,ht,JY]
end Go.Ev.Code
end
section
namespace Go.Ev.Code
open Go Go.Ev
def ae7 (q:Rat):List D:=[intD q.num,intD (q.den:Int)]
abbrev cO (q:Rat):D := .ref (ae7 q) 0
def RB (k:Nat) (q:Rat):Prop:=NB k q.num.natAbs∧NB k q.den
theorem RB.mono {j k:Nat} {q:Rat} (h:RB j q) (hk:j≤k):RB k q:=⟨h.1.mono hk,h.2.mono hk⟩
theorem RB.num {k:Nat} {q:Rat} (h:RB k q):IB k q.num:=h.1
theorem RB.den {k:Nat} {q:Rat} (h:RB k q):IB k (q.den:Int):=IB.ofNat h.2
theorem qO {n d:Int} {k:Nat} (hn:IB k n) (hd:IB k d) (h0:d≠0):RB k (Rat.divInt n d):=by
 have hg:0<Int.gcd d n:=Int.gcd_pos_of_ne_zero_left _ h0
 constructor
 ·refine NB.le hn ?_
  rw [Rat.num_divInt,Int.natAbs_ediv_of_dvd (Int.dvd_trans (Int.gcd_dvd_right ..) (Int.dvd_mul_left ..)),Int.natAbs_mul]
  have : d.sign.natAbs=1:=Int.natAbs_sign_of_ne_zero h0
  rw [this,Nat.one_mul]
  exact Nat.div_le_self _ _
 ·refine NB.le hd ?_
  rw [Rat.den_divInt,if_neg h0]
  exact Nat.div_le_self _ _
theorem Ie {n d:Int} {j k:Nat} (hn:IB j n) (hd:IB k d) (hj:j≤900000) (hk:k≤900000) (h0:d≠0):L.call F9 [intD n,intD d]=some (.aH [cO (Rat.divInt n d),.bH]):=by
 have fn:=hn.fit hj
 have fd:=hd.fit hk
 have hgcd:=adD fn fd
 have hg0:Nat.gcd n.natAbs d.natAbs≠0:=by
  have := Nat.gcd_pos_of_pos_right n.natAbs (Int.natAbs_pos.2 h0)
  omega
 have fg:Fit (Nat.gcd n.natAbs d.natAbs):=fd.of_le (Nat.le_of_dvd (Int.natAbs_pos.2 h0) (Nat.gcd_dvd_right ..))
 have d1:=Ho fn fg hg0
 have d2:=Ho fd fg hg0
 have hs:¬ d.sign=0:=by rw [Int.sign_eq_zero_iff_zero]; exact h0
 have hgc:Int.gcd d n=Nat.gcd n.natAbs d.natAbs:=Nat.gcd_comm ..
 have hden:((Rat.divInt n d).den:Int)=((d.natAbs / Nat.gcd n.natAbs d.natAbs:Nat):Int):=by rw [Rat.den_divInt,if_neg h0,hgc]
 have hnum:(Rat.divInt n d).num=if n*d<0 then -((n.natAbs / Nat.gcd n.natAbs d.natAbs:Nat):Int) else ((n.natAbs / Nat.gcd n.natAbs d.natAbs:Nat):Int):=by
  rw [Rat.num_divInt,hgc]
  have hdv:((Nat.gcd n.natAbs d.natAbs:Nat):Int) ∣ (n.natAbs:Int):=Int.natCast_dvd_natCast.2 (Nat.gcd_dvd_left ..)
  have h1:(d.sign*n).natAbs=n.natAbs:=by rw [Int.natAbs_mul,Int.natAbs_sign_of_ne_zero h0,Nat.one_mul]
  have h2:d.sign*n<0↔n*d<0:=by
   rcases Int.lt_trichotomy d 0 with h | h | h
   ·rw [Int.sign_eq_neg_one_of_neg h]
    constructor
    ·intro h3; exact Int.mul_neg_of_pos_of_neg (by omega) h
    ·intro h3
     rcases Int.lt_trichotomy n 0 with h4 | h4 | h4
     ·have := Int.mul_pos_of_neg_of_neg h4 h; omega
     ·subst h4; simp at h3
     ·omega
   ·exact absurd h h0
   ·rw [Int.sign_eq_one_of_pos h]
    constructor
    ·intro h3; exact Int.mul_neg_of_neg_of_pos (by omega) h
    ·intro h3
     rcases Int.lt_trichotomy n 0 with h4 | h4 | h4
     ·omega
     ·subst h4; simp at h3
     ·have := Int.mul_pos h4 h; omega
  split
  ·rename_i h3
   have h4:d.sign*n = -(n.natAbs:Int):=by have := h2.2 h3; omega
   rw [h4,Int.neg_ediv_of_dvd hdv,Int.natCast_ediv]
  ·rename_i h3
   have h4:d.sign*n=(n.natAbs:Int):=by have := mt h2.1 h3; omega
   rw [h4,Int.natCast_ediv]
 refine ak (afv ..) ?_
 unfold cO ae7
 rw [hden,hnum]
 generalize n.natAbs / Nat.gcd n.natAbs d.natAbs=a at *
 generalize d.natAbs / Nat.gcd n.natAbs d.natAbs=b at *
 generalize n.natAbs % Nat.gcd n.natAbs d.natAbs=a' at *
 generalize d.natAbs % Nat.gcd n.natAbs d.natAbs=b' at *
 by_cases h:n*d<0
 ·have hdc:decide (IntKind.i64.wrap (n.sign*d.sign)<0)=true:=by simpa [ED] using h
  have hl:(n.sign*d.sign)=(n*d).sign:=(Int.sign_mul ..).symm
  simp [Tq,hs,hgcd,d1,d2,ED,h]
 ·simp [Tq,hs,hgcd,d1,d2,ED,h]
theorem ak3 (n:Int):L.call F9 [intD n,intD 0]=some (.aH [.fZ,wO 3]):=by
 refine ak (afv ..) ?_
 simp [Tq,bD]
theorem Kw {n d:Int} {j k:Nat} (hn:IB j n) (hd:IB k d) (hj:j≤900000) (hk:k≤900000) (h0:d≠0):L.call JE [intD n,intD d]=some (cO (Rat.divInt n d)):=by
 have := Ie hn hd hj hk h0
 refine ak (amd ..) ?_
 simp [aeb,this]
theorem iT {n:Int} (h : -9223372036854775808≤n∧n≤9223372036854775807):IB 64 n:=by
 unfold IB NB; have : (2:Nat)^64=18446744073709551616:=by decide
 omega
theorem xM {n d:Int} (hn : -9223372036854775808≤n∧n≤9223372036854775807) (hd : -9223372036854775808≤d∧d≤9223372036854775807) (h0:d≠0) :
  L.call BQ [.int .i64 n,.int .i64 d]=some (.aH [cO (Rat.divInt n d),.bH]):=by
 have := Ie (iT hn) (iT hd) (by omega) (by omega) h0
 refine ak (apr ..) ?_
 simp [ajI,Zm n hn,Zm d hd,this]
@[simp] theorem am3 (q:Rat):L.call rH [cO q]=some (intD q.num):=by
  refine ak (ag8 ..) ?_
  simp [XM,ae7]
@[simp] theorem am2 (q:Rat):L.call rF [cO q]=some (intD (q.den:Int)):=by
  refine ak (ag6 ..) ?_
  simp [XK,ae7]
@[simp] theorem Ur (q:Rat):L.call oC [cO q]=some (.int .i64 q.num.sign):=by
  refine ak (aey ..) ?_
  simp [VB]
theorem KL (q:Rat):(q.den:Int)≠0:=by have := q.den_nz; omega
theorem add_eq (a b:Rat):a+b=Rat.divInt (a.num*b.den+b.num*a.den) ((a.den:Int)*b.den):=by
 have := Rat.divInt_add_divInt a.num b.num (KL a) (KL b)
 rwa [Rat.num_divInt_den,Rat.num_divInt_den] at this
theorem akm {a b:Rat} (h:(a.den:Int)=b.den):a+b=Rat.divInt (a.num+b.num) (a.den:Int):=by
 rw [add_eq,← h,← Int.add_mul,Rat.divInt_mul_right (KL a)]
theorem mul_eq (a b:Rat):a*b=Rat.divInt (a.num*b.num) ((a.den:Int)*b.den):=by
 have := Rat.divInt_mul_divInt a.num b.num (d₁:=a.den) (d₂:=b.den)
 rwa [Rat.num_divInt_den,Rat.num_divInt_den] at this
theorem adC {a b:Rat}:(a.den:Int)*b.den≠0:=Int.mul_ne_zero (KL a) (KL b)
theorem RB.add {j k:Nat} {a b:Rat} (ha:RB j a) (hb:RB k b):RB (j+k+1) (a+b):=by
 rw [add_eq]
 refine qO ?_ ((ha.den.mul hb.den).mono (by omega)) adC
 refine (IB.add (ha.num.mul hb.den) (hb.num.mul ha.den)).mono (by omega)
theorem RB.mul {j k:Nat} {a b:Rat} (ha:RB j a) (hb:RB k b):RB (j+k) (a*b):=by
 rw [mul_eq]
 exact qO (ha.num.mul hb.num) (ha.den.mul hb.den) adC
theorem RB.neg {k:Nat} {a:Rat} (h:RB k a):RB k (-a):=⟨by show NB k (-a.num).natAbs; rw [Int.natAbs_neg]; exact h.1,h.2⟩
theorem RB.sub {j k:Nat} {a b:Rat} (ha:RB j a) (hb:RB k b):RB (j+k+1) (a-b):=by rw [Rat.sub_eq_add_neg]; exact ha.add hb.neg
theorem Ia {a b:Rat} {j k:Nat} (ha:RB j a) (hb:RB k b) (h:j+k+1≤900000):L.call rD [cO a,cO b]=some (cO (a+b)):=by
 have hc:=WM ha.den hb.den (by omega) (by omega)
 have m1:=j_ ha.num hb.den (by omega) (by omega)
 have m2:=j_ hb.num ha.den (by omega) (by omega)
 have m3:=j_ ha.den hb.den (by omega) (by omega)
 have a1:=Oa (ha.num.mul hb.den) (hb.num.mul ha.den) (by omega) (by omega)
 have s1:=Kw ((IB.add (ha.num.mul hb.den) (hb.num.mul ha.den)).mono (show _≤j+k+1 by omega)) (ha.den.mul hb.den) h (by omega) adC
 rw [← add_eq] at s1
 refine ak (ag4 ..) ?_
 by_cases he:(a.den:Int)=b.den
 ·have a2:=Oa ha.num hb.num (by omega) (by omega)
  have s2:=Kw ((IB.add ha.num hb.num).mono (show _≤j+k+1 by omega)) ha.den h (by omega) (KL a)
  rw [← akm he] at s2
  rw [he] at hc s2
  generalize a.num+b.num=n at *
  simp [Nz,he,hc,a2,s2]
 ·have hs:¬ ((a.den:Int)-b.den).sign=0:=by rw [Int.sign_eq_zero_iff_zero]; omega
  generalize a.num*b.den+b.num*a.den=n at *
  generalize a.num*b.den=n1 at *
  generalize b.num*a.den=n2 at *
  generalize (a.den:Int)*b.den=d at *
  generalize ((a.den:Int)-b.den).sign=sg at *
  simp [Nz,hc,hs,m1,m2,m3,a1,s1]
theorem adZ {a b:Rat} {j k:Nat} (ha:RB j a) (hb:RB k b) (h:j+k+1≤900000):L.call zS [cO a,cO b]=some (cO (a-b)):=by
 have hadd:L.call rD [cO a,.ref [intD (-b.num),intD (b.den:Int)] 0]=some (cO (a + -b)):=Ia ha hb.neg h
 refine ak (ag9 ..) ?_
 rw [Rat.sub_eq_add_neg]
 simp [XO,hadd]
theorem Ic {a b:Rat} {j k:Nat} (ha:RB j a) (hb:RB k b) (h:j+k≤900000):L.call zQ [cO a,cO b]=some (cO (a*b)):=by
 have m1:=j_ ha.num hb.num (by omega) (by omega)
 have m3:=j_ ha.den hb.den (by omega) (by omega)
 have s1:=Kw (ha.num.mul hb.num) (ha.den.mul hb.den) h h adC
 rw [← mul_eq] at s1
 refine ak (ag7 ..) ?_
 generalize a.num*b.num=n at *
 generalize (a.den:Int)*b.den=d at *
 simp [XL,m1,m3,s1]
end Go.Ev.Code
end
section
namespace Go.Ev.Code
open Go Go.Ev
theorem Wx {b:Rat} (h:b≠0):b.num≠0:=fun h0=>h (by
 have := Rat.num_divInt_den b
 rw [h0] at this
 rw [← this,Rat.zero_divInt])
theorem div_eq {a b:Rat} (h:b≠0):a / b=Rat.divInt (a.num*b.den) ((a.den:Int)*b.num):=by
 have hb:=Wx h
 have h1:b⁻¹=Rat.divInt b.den b.num:=by
  have := Rat.inv_divInt b.num b.den
  rw [Rat.num_divInt_den] at this
  exact this
 rw [Rat.div_def,h1]
 have := Rat.divInt_mul_divInt a.num (b.den:Int) (d₁:=a.den) (d₂:=b.num)
 rwa [Rat.num_divInt_den] at this
theorem RB.div {j k:Nat} {a b:Rat} (ha:RB j a) (hb:RB k b) (h:b≠0):RB (j+k) (a / b):=by
 rw [div_eq h]
 exact qO (ha.num.mul hb.den) (ha.den.mul hb.num) (Int.mul_ne_zero (KL a) (Wx h))
theorem adY {a b:Rat} {j k:Nat} (ha:RB j a) (hb:RB k b) (h:j+k≤900000) (h0:b≠0):L.call rG [cO a,cO b]=some (.aH [cO (a / b),.bH]):=by
 have m1:=j_ ha.num hb.den (by omega) (by omega)
 have m2:=j_ ha.den hb.num (by omega) (by omega)
 have n1:=Ie (ha.num.mul hb.den) (ha.den.mul hb.num) h h (Int.mul_ne_zero (KL a) (Wx h0))
 rw [← div_eq h0] at n1
 refine ak (Xm ..) ?_
 generalize a.num*b.den=n at *
 generalize (a.den:Int)*b.num=d at *
 simp [NC,m1,m2,n1]
theorem ak2 {a:Rat} {j:Nat} (ha:RB j a) (h:j≤899000):L.call rG [cO a,cO 0]=some (.aH [.fZ,wO 3]):=by
 have h0:RB 1 (0:Rat):=⟨by unfold NB; decide,by unfold NB; decide⟩
 have m1:=j_ ha.num h0.den (by omega) (by omega)
 have m2:=j_ ha.den h0.num (by omega) (by omega)
 have e:(a.den:Int)*(0:Rat).num=0:=by simp
 rw [e] at m2
 refine ak (Xm ..) ?_
 generalize a.num*((0:Rat).den:Int)=n at *
 simp [NC] at m1 m2 ⊢
 simp [m1,m2,ak3]
def LQ (a b:Rat):Int:=if a<b then -1 else if a=b then 0 else 1
theorem Ib {a b:Rat} {j k:Nat} (ha:RB j a) (hb:RB k b) (h:j+k≤900000):L.call rE [cO a,cO b]=some (.int .i64 (LQ a b)):=by
 have m1:=j_ ha.num hb.den (by omega) (by omega)
 have m2:=j_ hb.num ha.den (by omega) (by omega)
 have c:=WM (ha.num.mul hb.den) (hb.num.mul ha.den) (by omega) (by omega)
 have e:(a.num*b.den-b.num*a.den).sign=LQ a b:=by
  unfold LQ
  have hlt:=Rat.lt_iff a b
  have hle:=Rat.le_iff b a
  split
  ·rename_i h1
   have := hlt.1 h1
   exact Int.sign_eq_neg_one_of_neg (by omega)
  ·rename_i h1
   have h2:=mt hlt.2 h1
   split
   ·rename_i h3
    subst h3
    simp
   ·rename_i h3
    have h4:a.num*b.den≠b.num*a.den:=fun h5=>h3 (by
     have h6:b≤a:=hle.2 (by omega)
     have h7:a≤b:=(Rat.le_iff a b).2 (by omega)
     exact Rat.le_antisymm h7 h6)
    exact Int.sign_eq_one_of_pos (by omega)
 rw [e] at c
 refine ak (ag5 ..) ?_
 generalize a.num*b.den=n at *
 generalize b.num*a.den=d at *
 generalize LQ a b=r at *
 simp [XJ,m1,m2,c]
def Ce (q:Rat):List UInt8:=if q.den=1 then JY q.num else JY q.num++47::txt q.den
theorem alZ {n:Nat}:txt n=[49]↔n=1:=by
 constructor
 ·intro h
  by_cases h10:n<10
  ·rw [QE h10] at h
   have : dg n=49:=by simpa using h
   unfold dg at this
   have h2:=congrArg UInt8.toNat this
   simp at h2
   omega
  ·rw [ZV (by omega)] at h
   have h3:=congrArg List.length h
   have h4:=alf (n / 10)
   simp at h3
   rw [h3] at h4
   exact absurd h4 (by decide)
 ·rintro rfl; rw [QE (by decide)]; rfl
theorem ajW {z:Int} {k:Nat} (h:IB k z) (hk:k≤900000) (h1:1≤k):(JY z).length≤900001:=by
 obtain ⟨j,j1,j2,j3⟩:=NB.wri h hk h1
 have := OH j j1 j3
 unfold JY
 split <;> simp <;> omega
theorem vV {q:Rat} {k:Nat} (h:RB k q) (hk:k≤900000) (h1:1≤k):L.call oD [cO q]=some (.str (Ce q)):=by
 have t1:=Ug h.num hk h1
 have t2:=Ug h.den hk h1
 have e:JY (q.den:Int)=txt q.den:=by unfold JY; rw [if_neg (by omega)]; simp
 have l1:=ajW h.num hk h1
 have l2:=ajW h.den hk h1
 rw [e] at t2 l2
 refine ak (aez ..) ?_
 by_cases hd:q.den=1
 ·have h2:txt q.den=[49]:=alZ.2 hd
  have t2':L.call ou [intD 1]=some (.str [49]):=by rw [h2,hd] at t2; exact t2
  simp [JV,t1,t2',Ce,hd]
 ·have h2:¬ txt q.den=[49]:=fun h=>hd (alZ.1 h)
  have b1:(JY q.num).length+1≤1099511627776:=by omega
  have b2:(JY q.num).length+1+(txt q.den).length≤1099511627776:=by omega
  simp [JV,t1,t2,h2,Ce,hd,b1,b2]
end Go.Ev.Code
end
section
namespace Go.Ev.Code
open Go Go.Ev
def gB (b:UInt8):Bool:=decide (48≤b.toNat∧b.toNat≤57)
def ang (n:Nat) (b:UInt8):Nat:=n*10+(b.toNat-48)
theorem arj (n:Nat) (b:UInt8):ang n b=n*10+(b.toNat-48):=rfl
attribute [irreducible] ang
def bn (n:Nat) (s:List UInt8):Nat:=s.foldl ang n
theorem vS (n:Nat):bn n []=n:=by simp only [bn,List.foldl_nil]
theorem xK (n:Nat) (b:UInt8) (bs:List UInt8):bn n (b::bs)=bn (n*10+(b.toNat-48)) bs:=by
 simp only [bn,List.foldl_cons,arj]
attribute [irreducible] bn
def qA (s:List UInt8):Prop:=s≠[]∧s.length≤4000∧¬ (1<s.length∧s[0]?=some 48)∧s.all gB=true
theorem amk (b:UInt8):jQ.contains b=gB b:=by
 have h:∀ n:Nat,n<256→jQ.contains (UInt8.ofNat n)=gB (UInt8.ofNat n):=by decide +kernel
 have := h b.toNat (by have := b.toNat_lt; omega)
 simpa using this
theorem ark (p:UInt8→Bool) (s:List UInt8):strip p s=s.dropWhile p:=by
 induction s with
 | nil=>rfl
 | cons b bs ih =>
   simp only [strip,List.dropWhile]
   cases p b <;> simp [ih]
theorem strip_nil (p:UInt8→Bool) (s:List UInt8):strip p s=[]↔s.all p=true:=by
 induction s with
 | nil=>simp [strip]
 | cons b bs ih =>
   simp only [strip,List.all_cons,Bool.and_eq_true]
   cases h:p b <;> simp [ih]
theorem aee (p:UInt8→Bool) (s:List UInt8) {b:UInt8} {bs:List UInt8} (h:strip p s=b::bs):p b=false:=by
 induction s with
 | nil=>simp [strip] at h
 | cons x xs ih =>
   simp only [strip] at h
   split at h
   ·exact ih h
   ·rename_i hx
    simp at h
    rw [← h.1]; simpa using hx
theorem arq (p:UInt8→Bool) (s:List UInt8):strip p (strip p s.reverse).reverse=[]↔s.all p=true:=by
 rw [strip_nil,List.all_reverse,← List.all_reverse (l:=s)]
 constructor
 ·intro h
  cases hs:strip p s.reverse with
  | nil=>exact (strip_nil p _).1 hs
  | cons b bs =>
    rw [hs] at h
    have := aee p _ hs
    simp [this] at h
 ·intro h
  rw [(strip_nil p _).2 h]; rfl
theorem auo:TT.fn oP=none:=by kernel_rfl
theorem aur:TT.iI oP=pTrim:=by kernel_rfl
theorem Z5 {s:List UInt8} (h:s.length≤1000000):∃ r:List UInt8,(r=[]↔s.all gB=true)∧L.call oP [.str s,.str [48,49,50,51,52,53,54,55,56,57]]=some (.str r):=by
 have hp:TT.iI oP [.str s,.str jQ] []=some (.str (strip (fun b=>jQ.contains b) (strip (fun b=>jQ.contains b) s.reverse).reverse),[]):=by
  rw [aur]
  simp only [pTrim,h,and_true,if_true]
 have hi:strip (fun b=>jQ.contains b) (strip (fun b=>jQ.contains b) s.reverse).reverse=[]↔s.all gB=true:=by
  have : (fun b=>jQ.contains b)=gB:=funext amk
  rw [arq,this]
 generalize strip (fun b=>jQ.contains b) (strip (fun b=>jQ.contains b) s.reverse).reverse=r at *
 exact ⟨r,hi,Df auo hp (by simp)⟩
theorem akZ (n:Nat) (b:UInt8) (bs:List UInt8) (h:gB b=true):Es n (b::bs)=Es (n*10+(b.toNat-48)) bs:=by
 have h1:48≤b.toNat∧b.toNat≤57:=of_decide_eq_true h
 rw [Es,if_pos h1]
theorem aoL (s:List UInt8) (n:Nat) (h:s.all gB=true):Es n s=some (bn n s):=by
 induction s generalizing n with
 | nil=>simp [Es,vS]
 | cons b bs ih =>
   have h':gB b=true∧bs.all gB=true:=by rw [← Bool.and_eq_true,← List.all_cons]; exact h
   rw [xK,akZ n b bs h'.1]
   exact ih _ h'.2
theorem arR:TT.fn iR=none:=by kernel_rfl
theorem arW:TT.iI iR=Zp:=by kernel_rfl
theorem Parse_ok {s:List UInt8} (h0:s≠[]) (hl:s.length≤18) (hd:s.all gB=true):L.call iR [.str s,.int .i64 10,.int .i64 64]=some (.aH [ah (bn 0 s),.bH]):=by
 have hp:TT.iI iR [.str s,.int .i64 10,.int .i64 64] []=some (.aH [ah (bn 0 s),.bH],[]):=by
  rw [arW]
  simp [Zp,h0,hl,aoL s 0 hd]
 exact Df arR hp (by simp)
theorem acn (n:Nat) (a b:List UInt8):bn n (a++b)=bn (bn n a) b:=by
 induction a generalizing n with
 | nil=>simp [vS]
 | cons x xs ih=>simp [xK,ih]
theorem SC (n:Nat) (s:List UInt8):bn n s=n*10^s.length+bn 0 s:=by
 induction s generalizing n with
 | nil=>simp [vS]
 | cons b bs ih =>
   simp only [xK,List.length_cons,Nat.zero_mul,Nat.zero_add]
   rw [ih,ih (b.toNat-48),Nat.pow_succ,Nat.add_mul,Nat.mul_assoc,Nat.mul_comm 10]; omega
theorem Oz {s:List UInt8} (h:s.all gB=true):bn 0 s<10^s.length:=by
 induction s with
 | nil=>simp [vS]
 | cons b bs ih =>
   simp only [List.all_cons,Bool.and_eq_true] at h
   have h1:48≤b.toNat∧b.toNat≤57:=by simpa [gB] using h.1
   have := ih h.2
   simp only [xK,List.length_cons,Nat.zero_mul,Nat.zero_add]
   rw [SC,Nat.pow_succ]
   have h2:(b.toNat-48)*10^bs.length≤9*10^bs.length:=Nat.mul_le_mul_right _ (by omega)
   omega
theorem ZR {n k:Nat} (h:n<10^k):NB (4*k) n:=by
 unfold NB
 refine Nat.lt_of_lt_of_le h ?_
 rw [Nat.pow_mul]; exact Nat.pow_le_pow_left (by decide) k
def unit:Nat:=1000000000000000000
theorem nbU:NB 60 unit:=by unfold NB unit; decide
theorem aw1:Fit unit:=nbU.fit (by omega)
theorem unit_eq:unit=10^18:=by decide
theorem atY:L.call zl [.int .u64 1000000000000000000]=some (bP unit):=qW unit (by decide)
attribute [irreducible] unit
theorem aqd:∀ (k:Nat) (s:List UInt8) (out first:Nat),s.length=first+18*k→1≤first→first≤18→s.all gB=true→out<10^(4000-s.length)→s.length≤4000→first=18∨out=0 →
  L.loop [0,5,6,7] [5] uM 0 [.str s,bP out,bP unit,.int .i64 first] []=some (.exit 0,[bP (bn out s)],[]):=by
 intro k
 have last:∀ (out:Nat),L.loop [0,5,6,7] [5] uM 0 [.str [],bP out,bP unit,.int .i64 18] []=some (.exit 0,[bP out],[]):=fun out=>by
  refine aj (Yd ..) ?_
  simp [Qz]
 have step:∀ (s:List UInt8) (out first:Nat),1≤first→first≤18→first≤s.length→s.all gB=true→out<10^(4000-s.length)→s.length≤4000 →
   L.loop [0,5,6,7] [5] uM 0 [.str (s.drop first),bP (bn out (s.take first)),bP unit,.int .i64 18] []=some (.exit 0,[bP (bn out s)],[])→first=18∨out=0 →
   L.loop [0,5,6,7] [5] uM 0 [.str s,bP out,bP unit,.int .i64 first] []=some (.exit 0,[bP (bn out s)],[]):=by
  intro s out first h1 h2 h3 hd hout hs hnext hcase
  have hne:s≠[]:=by intro h; rw [h] at h3; simp at h3; omega
  have htd:(s.take first).all gB=true:=by rw [List.all_eq_true] at hd ⊢; exact fun x hx=>hd x (List.mem_of_mem_take hx)
  have htl:(s.take first).length=first:=by simp; omega
  have hp:=Parse_ok (s:=s.take first) (by intro h; rw [h] at htl; simp at htl; omega) (by omega) htd
  have hv:=Oz htd
  rw [htl] at hv
  have hvW:bn 0 (s.take first)<W:=Nat.lt_of_lt_of_le hv (Nat.le_trans (Nat.pow_le_pow_right (by decide) h2) (by decide))
  have hof:=qW _ hvW
  have ob:NB (4*4000) out:=(ZR hout).mono (by omega)
  have hm:=CY (ob.fit (by omega)) aw1
  have ha:=WH ((ob.mul nbU).fit (by omega)) ((show NB 64 (bn 0 (s.take first)) by unfold NB; rw [← nK]; exact hvW).fit (by omega))
  have hval:out*unit+bn 0 (s.take first)=bn out (s.take first):=by
   rw [SC out,htl]
   rcases hcase with rfl | rfl
   ·rw [unit_eq]
   ·simp
  rw [hval] at ha
  generalize bn out (s.take first)=o2 at *
  generalize bn 0 (s.take first)=v at *
  generalize out*unit=o1 at *
  have hf1:(first:Int)≤s.length:=by omega
  have hdt:(s.drop first).take (s.length-first)=s.drop first:=List.take_of_length_le (by simp)
  refine aj (Yd ..) ?_
  simp (disch:=omega) [Qz,hne,hp,hof,hm,ha,hdt,hnext]
 induction k with
 | zero =>
   intro s out first hs h1 h2 hd hout hl hc
   have hf:first=s.length:=by omega
   refine step s out first h1 h2 (by omega) hd hout hl ?_ hc
   rw [hf,List.take_length,List.drop_length]
   exact last _
 | succ k ih =>
   intro s out first hs h1 h2 hd hout hl hc
   refine step s out first h1 h2 (by omega) hd hout hl ?_ hc
   have h18:18≤(s.drop first).length:=by simp; omega
   have htd:(s.take first).all gB=true:=by rw [List.all_eq_true] at hd ⊢; exact fun x hx=>hd x (List.mem_of_mem_take hx)
   have hdd:(s.drop first).all gB=true:=by rw [List.all_eq_true] at hd ⊢; exact fun x hx=>hd x (List.mem_of_mem_drop hx)
   have htl:(s.take first).length=first:=by simp; omega
   have := ih (s.drop first) (bn out (s.take first)) 18 (by simp; omega) (by omega) (by omega) hdd (by
    have h3:=Oz htd
    rw [htl] at h3
    rw [SC,htl]
    have h4:10^(4000-(s.drop first).length)=10^(4000-s.length)*10^first:=by rw [← Nat.pow_add]; congr 1; simp; omega
    rw [h4]
    have h5:(out+1)*10^first≤10^(4000-s.length)*10^first:=Nat.mul_le_mul_right _ hout
    rw [Nat.add_mul,Nat.one_mul] at h5
    omega) (by simp; omega) (.inl rfl)
   rw [← acn,List.take_append_drop] at this
   exact this
theorem Hq {s:List UInt8} (h:qA s):L.call zI [.str s]=some (.aH [bP (bn 0 s),.bH]):=by
 obtain ⟨h0,h1,h2,h3⟩:=h
 have hpos:0<s.length:=List.length_pos_iff.2 h0
 obtain ⟨r,hr,ht⟩:=Z5 (s:=s) (by omega)
 have hr0:=hr.2 h3
 subst hr0
 have hz:=qW 0 (by decide)
 have hz':L.call zl [.int .u64 0]=some (bP 0):=hz
 have hl:=aqd ((s.length-1) / 18) s 0 ((s.length-1) % 18+1) (by omega) (by omega) (by omega) h3 (Nat.pow_pos (by decide)) h1 (.inr rfl)
 have e1:IntKind.i64.wrap ((s.length:Int)-1)=((s.length-1:Nat):Int):=by rw [wrap64 _ (by omega)]; omega
 have e2:Int.tmod ((s.length-1:Nat):Int) 18=(((s.length-1) % 18:Nat):Int):=rfl
 have e3:IntKind.i64.wrap ((((s.length-1) % 18:Nat):Int)+1)=(((s.length-1) % 18+1:Nat):Int):=by rw [wrap64 _ (by omega)]; omega
 have hu:=atY
 have hg:¬ (4000:Int)<s.length:=by omega
 have hg':¬ 4000<s.length:=by omega
 generalize bn 0 s=v at *
 generalize (s.length-1) % 18+1=fst at *
 generalize (s.length-1) % 18=md at *
 generalize s.length-1=l1 at *
 refine ak (aft ..) ?_
 by_cases hl1:1<s.length
 ·have hl1':(1:Int)<s.length:=by omega
  have hh:¬ s[0]?=some 48:=fun h=>h2 ⟨hl1,h⟩
  obtain ⟨b,hb⟩:∃ b,s[0]?=some b:=⟨s[0],List.getElem?_eq_getElem hpos⟩
  have hb0:s[0]=b:=by simpa using (List.getElem?_eq_some_iff.1 hb).2
  have hbn:¬ b.toNat=48:=fun h=>hh (by rw [hb]; congr 1; exact UInt8.toNat_inj.1 h)
  have hbn':¬ (b.toNat:Int)=48:=by omega
  simp (disch:=omega) [xO,h0,hg,hg',hl1,hl1',hb,hb0,hbn,hbn',ht,hz',hu,e1,e2,e3,hl]
 ·have hl1':¬ (1:Int)<s.length:=by omega
  simp (disch:=omega) [xO,h0,hg,hg',hl1,hl1',ht,hz',hu,e1,e2,e3,hl]
theorem aa2 {s:List UInt8} (h:¬ qA s) (hs:s.length≤1000000):L.call zI [.str s]=some (.aH [.fZ,wO 1]):=by
 obtain ⟨r,hr,ht⟩:=Z5 hs
 refine ak (aft ..) ?_
 by_cases h0:s=[]
 ·subst h0
  simp (disch:=omega) [xO,bD]
 ·have hpos:0<s.length:=List.length_pos_iff.2 h0
  by_cases h1:4000<s.length
  ·have h1':(4000:Int)<s.length:=by omega
   simp (disch:=omega) [xO,bD,h0,h1,h1']
  ·by_cases hl1:1<s.length
   ·have hl1':(1:Int)<s.length:=by omega
    have h1':¬ (4000:Int)<s.length:=by omega
    obtain ⟨b,hb⟩:∃ b,s[0]?=some b:=⟨s[0],List.getElem?_eq_getElem hpos⟩
    have hb0:s[0]=b:=by simpa using (List.getElem?_eq_some_iff.1 hb).2
    by_cases hh:b.toNat=48
    ·have hh':(b.toNat:Int)=48:=by omega
     simp (disch:=omega) [xO,bD,h0,h1,h1',hl1,hl1',hb,hb0,hh,hh']
    ·have hh':¬ (b.toNat:Int)=48:=by omega
     have hr0:¬ r=[]:=fun h3=>h ⟨h0,by omega,fun h4=>hh (by have := h4.2; rw [hb] at this; simp at this; rw [this]; rfl),hr.1 h3⟩
     simp (disch:=omega) [xO,bD,h0,h1,h1',hl1,hl1',hb,hb0,hh,hh',ht,hr0]
   ·have hl1':¬ (1:Int)<s.length:=by omega
    have h1':¬ (4000:Int)<s.length:=by omega
    have hr0:¬ r=[]:=fun h3=>h ⟨h0,by omega,fun h4=>hl1 h4.1,hr.1 h3⟩
    simp (disch:=omega) [xO,bD,h0,h1,h1',hl1,hl1',ht,hr0]
end Go.Ev.Code
end
section
namespace Go.Ev.Code
open Go Go.Ev
theorem auw {m:Mem} {k:Nat} (h:k≤4294967296):dV .and [.int .i64 k,.int .i64 1] m=some (.int .i64 ((k % 2:Nat):Int),m):=by
 rw [au8]
 have h1:(BitVec.ofInt IntKind.i64.bits (k:Int)).toNat=k:=by
  show (BitVec.ofInt 64 (k:Int)).toNat=k
  rw [BitVec.toNat_ofInt]
  omega
 have h2:(BitVec.ofInt IntKind.i64.bits 1).toNat=1:=by decide
 rw [BitVec.toNat_and,h1,h2,Nat.and_one_is_mod,wrap64 _ (by omega)]
theorem au' {m:Mem} {k:Nat}:oV false [.int .i64 k,.int .u64 1] m=some (.int .i64 ((k / 2:Nat):Int),m):=by
 rw [au_ _ _ _ _ (by omega)]
 have : ((k:Int).fdiv (2^(min (Int.toNat 1) IntKind.i64.bits)))=((k / 2:Nat):Int):=by
  show (k:Int).fdiv 2=_
  rw [Int.fdiv_eq_ediv_of_nonneg _ (by omega)]; omega
 rw [this]
theorem aqE:∀ (k a b:Nat),k≤4294967296→a≠0→b≠0→NB 900000 (a*b^k)→NB 900000 b →
  L.loop [1,5,6] [5] rV 0 [.int .i64 k,bP a,bP b] []=some (.exit 0,[bP (a*b^k)],[]):=by
 intro k
 induction k using Nat.strongRecOn with
 | _ k ih =>
 intro a b hk ha hb hn hbb
 by_cases h0:k=0
 ·subst h0
  refine aj (xQ ..) ?_
  simp [sZ]
 have hpos:0<k:=by omega
 have hab:a*b≤a*b^k:=Nat.mul_le_mul_left _ (Nat.le_pow hpos)
 have fa:Fit a:=(hn.le (Nat.le_trans (Nat.le_mul_of_pos_right _ (Nat.pos_of_ne_zero hb)) hab)).fit (Nat.le_refl _)
 have fb:Fit b:=hbb.fit (Nat.le_refl _)
 have hm1:=CY fa fb
 have hm2:=CY fb fb
 have f1:∀ m:Mem,dV .and [.int .i64 k,.int .i64 1] m=some (.int .i64 ((k % 2:Nat):Int),m):=fun m=>auw hk
 have f2:∀ m:Mem,oV false [.int .i64 k,.int .u64 1] m=some (.int .i64 ((k / 2:Nat):Int),m):=fun m=>au'
 have hsq:1<k→NB 900000 (b*b):=fun h=>by
  refine hn.le ?_
  have : b^2≤b^k:=Nat.pow_le_pow_right (Nat.pos_of_ne_zero hb) h
  have h2:b^k≤a*b^k:=Nat.le_mul_of_pos_left _ (Nat.pos_of_ne_zero ha)
  rw [Nat.pow_two] at this
  exact Nat.le_trans this h2
 have hstep:∀ a' b',a'≠0→b'≠0→a'*b'^(k / 2)=a*b^k→NB 900000 b' →
   L.loop [1,5,6] [5] rV 0 [.int .i64 ((k / 2:Nat):Int),bP a',bP b'] []=some (.exit 0,[bP (a*b^k)],[]):=by
  intro a' b' h1 h2 h3 h4
  have := ih (k / 2) (by omega) a' b' (by omega) h1 h2 (by rw [h3]; exact hn) h4
  rw [h3] at this
  exact this
 have hbk:b^k=b^(k % 2)*(b*b)^(k / 2):=by
  rw [← Nat.pow_two,← Nat.pow_mul,← Nat.pow_add]; congr 1; omega
 have hpI:(0:Int)<k:=by omega
 by_cases hk1:1<k
 ·have hk1':(1:Int)<k:=by omega
  have hbb2:b*b≠0:=Nat.mul_ne_zero hb hb
  by_cases ho:k % 2=1
  ·have hnext:=hstep (a*b) (b*b) (Nat.mul_ne_zero ha hb) hbb2 (by rw [hbk,ho,Nat.pow_one,Nat.mul_assoc]) (hsq hk1)
   have hoI:((k % 2:Nat):Int)=1:=by omega
   generalize k % 2=k2 at *
   generalize k / 2=kh at *
   refine aj (xQ ..) ?_
   generalize a*b^k=r at *
   generalize a*b=ab at *
   generalize b*b=b2 at *
   simp (disch:=omega) [sZ,hpI,hpos,f1,f2,hk1,hk1',ho,hoI,hm1,hm2,hnext]
  ·have hnext:=hstep a (b*b) ha hbb2 (by rw [hbk,show k % 2=0 by omega,Nat.pow_zero,Nat.one_mul]) (hsq hk1)
   have hoI:¬ ((k % 2:Nat):Int)=1:=by omega
   generalize k % 2=k2 at *
   generalize k / 2=kh at *
   refine aj (xQ ..) ?_
   generalize a*b^k=r at *
   generalize a*b=ab at *
   generalize b*b=b2 at *
   simp (disch:=omega) [sZ,hpI,hpos,f1,f2,hk1,hk1',ho,hoI,hm1,hm2,hnext]
 ·have hk1e:k=1:=by omega
  subst hk1e
  have hnext:=hstep (a*b) b (Nat.mul_ne_zero ha hb) hb (by simp) hbb
  simp at hnext
  refine aj (xQ ..) ?_
  have f1':=fun m=>f1 m
  simp at f1' f2
  rw [Nat.pow_one]
  generalize a*b=ab at *
  simp (disch:=omega) [sZ,f1',f2,hm1,hnext]
theorem amP {b k:Nat} (hk:k≤4294967296) (hb:b≠0) (hn:NB 900000 (b^k)) (hbb:NB 900000 b):L.call En [bP b,.int .i64 k]=some (bP (b^k)):=by
 have h1:=qW 1 (by decide)
 have h1':L.call zl [.int .u64 1]=some (bP 1):=h1
 have hl:=aqE k 1 b hk (by decide) hb (by rw [Nat.one_mul]; exact hn) hbb
 rw [Nat.one_mul] at hl
 generalize b^k=r at *
 refine ak (agU ..) ?_
 simp [XE,h1',hl]
end Go.Ev.Code
end
section
namespace Go.Ev.Code
open Go Go.Ev
theorem aj9:TT.fn strings_CutPrefix=none:=by kernel_rfl
theorem aj_:TT.iI strings_CutPrefix=C9:=by kernel_rfl
theorem ahI (s p:List UInt8):L.call strings_CutPrefix [.str s,.str p]=some (if p.isPrefixOf s then .aH [.str (s.drop p.length),.bool true] else .aH [.str s,.bool false]):=by
 have hp:TT.iI strings_CutPrefix [.str s,.str p] []=some (if p.isPrefixOf s then .aH [.str (s.drop p.length),.bool true] else .aH [.str s,.bool false],[]):=by
  rw [aj_]
  simp only [C9]
  split <;> rfl
 refine Df aj9 hp ?_
 split <;> simp
theorem avx:TT.fn strings_Cut=none:=by kernel_rfl
theorem avy:TT.iI strings_Cut=ajl:=by kernel_rfl
def fG (c:UInt8) (s:List UInt8):List UInt8×List UInt8×Bool:=match cutAt c [] s with
 | some (a,b)=>(a,b,true)
 | none=>(s,[],false)
theorem auk {s:List UInt8} (h:s.length<4294967281) (c:UInt8):L.call strings_Cut [.str s,.str [c]]=some (.aH [.str (fG c s).1,.str (fG c s).2.1,.bool (fG c s).2.2]):=by
 have hp:TT.iI strings_Cut [.str s,.str [c]] []=some (.aH [.str (fG c s).1,.str (fG c s).2.1,.bool (fG c s).2.2],[]):=by
  rw [avy]
  simp only [ajl,h,if_true,fG]
  cases hc:cutAt c [] s with
  | none=>rfl
  | some ab=>rfl
 exact Df avx hp (by simp)
theorem ac4 {c:UInt8}:∀ {s acc a b:List UInt8},cutAt c acc s=some (a,b)→∃ x,a=acc.reverse++x∧s=x++c::b∧c ∉ x
 | [],acc,a,b,h=>by simp [cutAt] at h
 | y::ys,acc,a,b,h=>by
   simp only [cutAt] at h
   split at h
   ·rename_i hy
    simp at h hy
    obtain ⟨rfl,rfl⟩:=h
    exact ⟨[],by simp,by simp [hy],by simp⟩
   ·rename_i hy
    obtain ⟨x,h1,h2,h3⟩:=ac4 h
    refine ⟨y::x,by simp [h1],by simp [h2],?_⟩
    simp at hy
    simp [h3,Ne.symm hy]
theorem Yw {c:UInt8} {s:List UInt8} (h:(fG c s).2.2=true):s=(fG c s).1++c::(fG c s).2.1∧c ∉ (fG c s).1:=by
 unfold fG at *
 cases hc:cutAt c [] s with
 | none=>rw [hc] at h; simp at h
 | some ab =>
   obtain ⟨a,b⟩:=ab
   obtain ⟨x,h1,h2,h3⟩:=ac4 hc
   simp at h1
   subst h1
   exact ⟨h2,h3⟩
theorem xY {c:UInt8} {s:List UInt8} (h:(fG c s).2.2=false):(fG c s).1=s∧(fG c s).2.1=[]:=by
 unfold fG at *
 cases hc:cutAt c [] s with
 | none=>simp
 | some ab=>obtain ⟨a,b⟩:=ab; rw [hc] at h; simp at h
theorem VX (c:UInt8) (s:List UInt8):(fG c s).1.length≤s.length∧(fG c s).2.1.length≤s.length∧(fG c s).1.length+(fG c s).2.1.length≤s.length:=by
 cases h:(fG c s).2.2 with
 | true =>
   have := congrArg List.length (Yw h).1
   simp at this
   omega
 | false=>rw [(xY h).1,(xY h).2]; simp
theorem al5:TT.fn jo=none:=by kernel_rfl
theorem al7:TT.iI jo=F7:=by kernel_rfl
theorem akl {s:List UInt8} (h:s.length≤1000000) (c:UInt8) (hc:c.toNat<128):L.call jo [.str s,.str [c]]=some (.str (strip (fun b=>b==c) s)):=by
 have hp:TT.iI jo [.str s,.str [c]] []=some (.str (strip (fun b=>b==c) s),[]):=by
  rw [al7]
  simp only [F7,h,hc,and_self,if_true]
 exact Df al5 hp (by simp)
theorem amn {k:Nat} (h:k≤200000):L.call U4 [.int .i64 k]=some (intD ((10^k:Nat):Int)):=by
 have h1:=qW 10 (by decide)
 have h1':L.call zl [.int .u64 10]=some (bP 10):=h1
 have hn:NB 900000 (10^k):=by
  refine NB.mono (j:=4*k+1) ?_ (by omega)
  unfold NB
  have : 10^k≤(2^4)^k:=Nat.pow_le_pow_left (by decide) k
  rw [← Nat.pow_mul] at this
  exact Nat.lt_of_le_of_lt this (Nat.pow_lt_pow_right (by decide) (by omega))
 have h2:=amP (b:=10) (k:=k) (by omega) (by decide) hn ((show NB 4 10 by unfold NB; decide).mono (by decide))
 generalize 10^k=r at *
 refine ak (anE ..) ?_
 simp [agq,h1',h2]
theorem aef (s:List UInt8):bn 0 (strip (fun b=>b==48) s)=bn 0 s:=by
 induction s with
 | nil=>simp [strip]
 | cons b bs ih =>
   by_cases h:b=48
   ·subst h
    rw [xK]
    simpa [strip] using ih
   ·simp [strip,h]
theorem ajQ (p:UInt8→Bool) (s:List UInt8):strip p s <:+ s:=by rw [ark]; exact List.dropWhile_suffix p
theorem ao7 {s:List UInt8} (h:s.all gB=true) (hl:s.length≤4000) (hne:strip (fun b=>b==48) s≠[]):qA (strip (fun b=>b==48) s):=by
 have hsub:=ajQ (fun b=>b==48) s
 refine ⟨hne,Nat.le_trans hsub.length_le hl,?_,?_⟩
 ·rintro ⟨_,h2⟩
  cases hc:strip (fun b=>b==48) s with
  | nil=>exact hne hc
  | cons b bs =>
    have := aee _ s hc
    rw [hc] at h2
    simp at h2 this
    exact this h2
 ·rw [List.all_eq_true] at h ⊢
  exact fun x hx=>h x (hsub.subset hx)
instance (s:List UInt8):Decidable (qA s):=inferInstanceAs (Decidable (_∧_))
def fE (s:List UInt8):Bool×List UInt8:=if [45].isPrefixOf s then (true,s.drop 1) else (false,s)
theorem Tt (s:List UInt8):(fE s).2.length≤s.length:=by unfold fE; split <;> simp
def AZ (neg:Bool) (w r:List UInt8) (point:Bool):Option (Rat×Nat) :=
 if qA w∧(point=true→r≠[]∧r.length≤20∧r.all gB=true)∧¬ (neg=true∧bn 0 (w++r)=0) then
  some (Rat.divInt (if neg then -(bn 0 (w++r):Int) else bn 0 (w++r)) ((10^r.length:Nat):Int),r.length) else none
def tJ (s:List UInt8):Option (Rat×Nat) :=
 if s.length≤60 then AZ (fE s).1 (fG 46 (fE s).2).1 (fG 46 (fE s).2).2.1 (fG 46 (fE s).2).2.2 else none
def EZ:Option (Rat×Nat)→D
 | some (q,n) => .aH [cO q,.int .i64 n,.bH]
 | none => .aH [.fZ,.int .i64 0,wO 1]
theorem anw (s:List UInt8):L.call strings_CutPrefix [.str s,.str [45]]=some (.aH [.str (fE s).2,.bool (fE s).1]):=by
 rw [ahI]
 unfold fE
 split <;> rfl
end Go.Ev.Code
end
section
namespace Go.Ev.Code
open Go Go.Ev
theorem alH {s:List UInt8} (h:s.all gB=true) {k:Nat} (hk:4*s.length≤k):NB k (bn 0 s):=(ZR (Oz h)).mono hk
theorem alX (k:Nat):((10^k:Nat):Int)≠0:=by have : 0<10^k:=Nat.pow_pos (by decide); omega
theorem ao8 (k:Nat):IB (4*k+1) ((10^k:Nat):Int):=by
 refine IB.ofNat ?_
 unfold NB
 have : 10^k≤(2^4)^k:=Nat.pow_le_pow_left (by decide) k
 rw [← Nat.pow_mul] at this
 exact Nat.lt_of_le_of_lt this (Nat.pow_lt_pow_right (by decide) (by omega))
theorem at7:L.call zI [.str [48]]=some (.aH [bP 0,.bH]):=by
 have := Hq (s:=[48]) (by decide)
 rw [show bn 0 [48]=0 by simp [xK,vS]] at this
 exact this
theorem Yy {s t w r:List UInt8} {neg point:Bool} (h1:L.call strings_CutPrefix [.str s,.str [45]]=some (.aH [.str t,.bool neg]))
  (h2:L.call strings_Cut [.str t,.str [46]]=some (.aH [.str w,.str r,.bool point])) (hs:s.length≤60) (hw:w.length≤s.length) (hr:r.length≤20)
  (hp:point=false→r=[]) (hd:r.all gB=true) (hn:qA w) (hg:point=true→r≠[]):L.call CU [.str s]=some (EZ (AZ neg w r point)):=by
 have had:(w++r).all gB=true:=by rw [List.all_append,hn.2.2.2,hd]; rfl
 have hal:(w++r).length≤80:=by simp; omega
 obtain ⟨tr,htr,hT⟩:=Z5 (s:=r) (by omega)
 have htr':=htr.2 hd
 subst htr'
 have hG:=Hq hn
 have hL:=akl (s:=w++r) (by omega) 48 (by decide)
 have hz:=at7
 have hall:∃ v,bn 0 (w++r)=v∧(strip (fun b=>b==48) (w++r)=[]→v=0)∧(strip (fun b=>b==48) (w++r)≠[]→L.call zI [.str (strip (fun b=>b==48) (w++r))]=some (.aH [bP v,.bH])):=by
  refine ⟨_,rfl,fun h=>?_,fun h=>?_⟩
  ·rw [← aef,h,vS]
  ·rw [Hq (ao7 had (by omega) h),aef]
 obtain ⟨v,hv,hv0,hv1⟩:=hall
 have hvb:NB 320 v:=by rw [← hv]; exact alH had (by omega)
 have hib:IB 320 (if neg then -(v:Int) else v):=by
  cases neg
  ·exact IB.ofNat hvb
  ·exact (IB.ofNat hvb).neg
 have hten:=amn (k:=r.length) (by omega)
 have hnew:=Ie hib (ao8 r.length) (by omega) (by omega) (alX _)
 have hs':¬ 60<s.length:=by omega
 have hsI:¬ (60:Int)<s.length:=by omega
 have hr':¬ 20<r.length:=by omega
 have hwr:w.length+r.length≤1099511627776:=by omega
 have hrI:¬ (20:Int)<r.length:=by omega
 have hcond:(point=true→r≠[]∧r.length≤20∧r.all gB=true):=fun h=>⟨hg h,hr,hd⟩
 have hpp:AZ neg w r point=if ¬ (neg=true∧v=0) then some (Rat.divInt (if neg then -(v:Int) else v) ((10^r.length:Nat):Int),r.length) else none:=by
  unfold AZ
  rw [hv]
  by_cases hz:neg=true∧v=0
  ·rw [if_neg (fun h=>h.2.2 hz),if_neg (fun h=>h hz)]
  ·rw [if_pos ⟨hn,hcond,hz⟩,if_pos hz]
 rw [hpp]
 refine ak (afs ..) ?_
 have hpt:point=true∧¬ r=[]∨point=false:=by
  cases hpp:point
  ·exact .inr rfl
  ·exact .inl ⟨rfl,hg hpp⟩
 generalize hten2:((10^r.length:Nat):Int)=ten at *
 generalize hst:strip (fun b=>b==48) (w++r)=st at *
 generalize bn 0 w=nw at *
 by_cases hst0:st=[]
 ·have hvz:=hv0 hst0
  subst hst0
  subst hvz
  rcases hpt with ⟨hpt,hrn⟩ | hpt
  ·subst hpt
   cases neg with
   | false =>
     simp at hnew
     simp (disch:=omega) [iq,h1,h2,hs',hsI,hwr,hr',hrI,hrn,hT,hG,hz,hL,hten,hnew,EZ]
   | true=>simp (disch:=omega) [iq,h1,h2,hs',hsI,hwr,hr',hrI,hrn,hT,hG,hz,hL,EZ,bD]
  ·subst hpt
   cases neg with
   | false =>
     simp at hnew
     simp (disch:=omega) [iq,h1,h2,hs',hsI,hwr,hr',hrI,hT,hG,hz,hL,hten,hnew,EZ]
   | true=>simp (disch:=omega) [iq,h1,h2,hs',hsI,hwr,hr',hrI,hT,hG,hz,hL,EZ,bD]
 ·have hvn:=hv1 hst0
  rcases hpt with ⟨hpt,hrn⟩ | hpt
  ·subst hpt
   cases neg with
   | false =>
     simp at hnew
     simp (disch:=omega) [iq,h1,h2,hs',hsI,hwr,hr',hrI,hrn,hT,hG,hz,hL,hten,hnew,EZ,hst0,hvn]
   | true =>
     simp at hnew
     by_cases hvz:v=0
     ·subst hvz
      simp (disch:=omega) [iq,h1,h2,hs',hsI,hwr,hr',hrI,hrn,hT,hG,hz,hL,EZ,bD,hst0,hvn]
     ·simp (disch:=omega) [iq,h1,h2,hs',hsI,hwr,hr',hrI,hrn,hT,hG,hz,hL,hten,hnew,EZ,hst0,hvn,hvz]
  ·subst hpt
   cases neg with
   | false =>
     simp at hnew
     simp (disch:=omega) [iq,h1,h2,hs',hsI,hwr,hr',hrI,hT,hG,hz,hL,hten,hnew,EZ,hst0,hvn]
   | true =>
     simp at hnew
     by_cases hvz:v=0
     ·subst hvz
      simp (disch:=omega) [iq,h1,h2,hs',hsI,hwr,hr',hrI,hT,hG,hz,hL,EZ,bD,hst0,hvn]
     ·simp (disch:=omega) [iq,h1,h2,hs',hsI,hwr,hr',hrI,hT,hG,hz,hL,hten,hnew,EZ,hst0,hvn,hvz]
set_option maxHeartbeats 1000000 in
theorem akw {s t w r:List UInt8} {neg point:Bool} (h1:L.call strings_CutPrefix [.str s,.str [45]]=some (.aH [.str t,.bool neg]))
  (h2:L.call strings_Cut [.str t,.str [46]]=some (.aH [.str w,.str r,.bool point])) (hs:s.length≤1000000) (hw:w.length≤s.length) (hr:r.length≤s.length)
  (hb:60<s.length∨¬ qA w∨(point=true∧(r=[]∨20<r.length∨¬ r.all gB=true))):L.call CU [.str s]=some (.aH [.fZ,.int .i64 0,wO 1]):=by
 obtain ⟨tr,htr,hT⟩:=Z5 (s:=r) (by omega)
 have hG:∃ a b,L.call zI [.str w]=some (.aH [a,b])∧((b = .bH∧qA w)∨(b=wO 1∧¬ qA w)):=by
  by_cases h:qA w
  ·exact ⟨_,_,Hq h,.inl ⟨rfl,h⟩⟩
  ·exact ⟨_,_,aa2 h (by omega),.inr ⟨rfl,h⟩⟩
 obtain ⟨a,b,hG,hab⟩:=hG
 refine ak (afs ..) ?_
 by_cases h60:60<s.length
 ·have h60':(60:Int)<s.length:=by omega
  simp (disch:=omega) [iq,h1,h2,h60,h60',hG,bD]
 have h60':¬ (60:Int)<s.length:=by omega
 by_cases hpt:point=true
 ·subst hpt
  by_cases hr0:r=[]
  ·subst hr0
   simp (disch:=omega) [iq,h1,h2,h60,h60',hG,bD]
  by_cases hr2:20<r.length
  ·have hr2':(20:Int)<r.length:=by omega
   simp (disch:=omega) [iq,h1,h2,h60,h60',hr0,hr2,hr2',hG,bD]
  have hr2':¬ (20:Int)<r.length:=by omega
  by_cases hrd:r.all gB=true
  ·have hnw:¬ qA w:=by
    rcases hb with h | h | ⟨_,h | h | h⟩
    ·exact absurd h h60
    ·exact h
    ·exact absurd h hr0
    ·exact absurd h hr2
    ·exact absurd hrd h
   rcases hab with ⟨_,h⟩ | ⟨rfl,_⟩
   ·exact absurd h hnw
   have := htr.2 hrd
   subst this
   simp (disch:=omega) [iq,h1,h2,h60,h60',hr0,hr2,hr2',hT,hG,bD]
  ·have htn:¬ tr=[]:=fun h=>hrd (htr.1 h)
   simp (disch:=omega) [iq,h1,h2,h60,h60',hr0,hr2,hr2',hT,htn,hG,bD]
 ·have hpf:point=false:=by simpa using hpt
  subst hpf
  have hnw:¬ qA w:=by
   rcases hb with h | h | ⟨h,_⟩
   ·exact absurd h h60
   ·exact h
   ·simp at h
  rcases hab with ⟨_,h⟩ | ⟨rfl,_⟩
  ·exact absurd h hnw
  simp (disch:=omega) [iq,h1,h2,h60,h60',hG,bD]
theorem ac9 {s:List UInt8} (hs:s.length≤1000000):L.call CU [.str s]=some (EZ (tJ s)):=by
 have h1:=anw s
 have hl:=Tt s
 have h2:=auk (s:=(fE s).2) (by omega) 46
 have hbl:=VX 46 (fE s).2
 have hf := @xY 46 (fE s).2
 unfold tJ
 generalize (fE s).2=t at *
 generalize (fE s).1=neg at *
 generalize (fG 46 t).1=w at *
 generalize (fG 46 t).2.1=r at *
 generalize (fG 46 t).2.2=point at *
 by_cases hb:60<s.length∨¬ qA w∨(point=true∧(r=[]∨20<r.length∨¬ r.all gB=true))
 ·rw [akw h1 h2 hs (by omega) (by omega) hb]
  by_cases h60:s.length≤60
  ·have : AZ neg w r point=none:=by
    unfold AZ
    rw [if_neg]
    rintro ⟨q1,q2,q3⟩
    rcases hb with h | h | ⟨h3,h⟩
    ·omega
    ·exact h q1
    ·obtain ⟨a1,a2,a3⟩:=q2 h3
     rcases h with h | h | h
     ·exact a1 h
     ·omega
     ·exact h a3
   rw [if_pos h60,this]; rfl
  ·rw [if_neg h60]; rfl
 ·have g1:¬ 60<s.length:=fun h=>hb (.inl h)
  have g2:qA w:=Classical.not_not.1 fun h=>hb (.inr (.inl h))
  have g3:point=true→r≠[]:=fun h h'=>hb (.inr (.inr ⟨h,.inl h'⟩))
  have g4:point=true→r.length≤20:=fun h=>Nat.le_of_not_lt fun h'=>hb (.inr (.inr ⟨h,.inr (.inl h')⟩))
  have g5:point=true→r.all gB=true:=fun h=>Classical.not_not.1 fun h'=>hb (.inr (.inr ⟨h,.inr (.inr h')⟩))
  have g6:point=false→r=[]:=fun h=>(hf h).2
  rw [if_pos (by omega)]
  cases point with
  | true=>exact Yy h1 h2 (by omega) (by omega) (g4 rfl) g6 (g5 rfl) g2 g3
  | false =>
    have := g6 rfl
    exact Yy h1 h2 (by omega) (by omega) (by rw [this]; simp) g6 (by rw [this]; rfl) g2 g3
end Go.Ev.Code
end
