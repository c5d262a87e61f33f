/- A part of the proof of accrAll_card, flowAll_card, priceAll_card, yieldAll_card. -/
import Derived.Test.YtfkdcfbleblgoaaGreatDoorCXZ10
set_option linter.unusedVariables false
set_option linter.unusedSimpArgs false
section
namespace Go.Ev.Code
open Go Go.Ev
def Gr (x:D) (m:Mem) (l:List Nat):Prop:=x = .dh∧m=[]∧l=[]∨x = .aO 0 0 l.length 1∧m=[.live (l.map ak)]
theorem aif {b:UInt8}:iW b=true↔48≤b.toNat∧b.toNat≤57:=by unfold iW; simp
theorem ara {s:List UInt8} (hs:s.length≤100000) {x:D} {m:Mem} {l:List Nat} (hg:Gr x m l):∀ (c pre suf:List UInt8) (d j:Nat),s=pre++(c++suf)→d<10^j→j+c.length≤9 →
  (c.all iW=true→L.loop [0,4,5,6,7] [0,2,3,4,5,6] jA m.length [.str s,x,.int .i64 ((pre.length+c.length:Nat):Int),.int .u64 d,.int .i64 pre.length] m=some (.exit 2,[.str s,.undef,.undef,x,.int .i64 ((pre.length+c.length:Nat):Int),.int .u64 (bZ d c)],m)) ∧
  (c.all iW=false→∃ v,L.loop [0,4,5,6,7] [0,2,3,4,5,6] jA m.length [.str s,x,.int .i64 ((pre.length+c.length:Nat):Int),.int .u64 d,.int .i64 pre.length] m=some (.ret,[.str s,.dh,.bool false,x,.int .i64 ((pre.length+c.length:Nat):Int),v],m))
 | [],pre,suf,d,j,he,hd,hj=>by
   refine ⟨fun _=>?_,fun h=>by simp at h⟩
   rw [sZ,List.length_nil,Nat.add_zero]
   refine au (Dh ..) ?_
   rcases hg with ⟨rfl,rfl,rfl⟩ | ⟨rfl,rfl⟩
   ·simp [gI]
   ·simp [gI]
 | b::c,pre,suf,d,j,he,hd,hj=>by
   rw [List.length_cons] at hj
   have hb:=b.toNat_lt
   have hlt:(pre.length:Int)<((pre.length+(c.length+1):Nat):Int):=by omega
   have hltn:pre.length<pre.length+(c.length+1):=by omega
   have hget:s[pre.length]?=some b:=by rw [he]; simp
   have hps:pre.length<s.length:=by rw [he]; simp
   have hpsI:(pre.length:Int)<s.length:=by omega
   have hgi:∀ p:pre.length<s.length,s[pre.length]=b:=fun p=>by simpa using (List.getElem?_eq_some_iff.1 hget).2
   by_cases hd1:iW b=true
   ·have hbd:=aif.1 hd1
    obtain ⟨e,hE⟩:∃ e,e=b.toNat-48:=⟨_,rfl⟩
    have hd2:d*10+e<10^(j+1):=by rw [Nat.pow_succ]; omega
    have ih:=ara hs hg c (pre++[b]) suf (d*10+e) (j+1) (by rw [he]; simp) hd2 (by omega)
    rw [List.length_append,List.length_singleton,show pre.length+1+c.length=pre.length+(c.length+1) by omega] at ih
    have hdl:d<10^9:=Nat.lt_of_lt_of_le hd (Nat.pow_le_pow_right (by decide) (by omega))
    have hdl2:d<1000000000:=hdl
    have e1:IntKind.u64.wrap ((d:Int)*10)=(d:Int)*10:=dJ _ (by omega)
    have e2:IntKind.u8.wrap ((b.toNat:Int)-48)=(e:Int):=by
     simp [IntKind.wrap,IntKind.signed,IntKind.bits]; omega
    have e3:IntKind.u64.wrap (e:Int)=(e:Int):=dJ _ (by omega)
    have e4:IntKind.u64.wrap ((d:Int)*10+e)=((d*10+e:Nat):Int):=by rw [dJ _ (by omega)]; omega
    have e5:IntKind.i64.wrap ((pre.length:Int)+1)=((pre.length+1:Nat):Int):=by rw [wrap64 _ (by omega)]; omega
    have n1:¬ (b.toNat:Int)<48:=by omega
    have n2:¬ (57:Int)<(b.toNat:Int):=by omega
    have n3:¬ b.toNat<48:=by omega
    have n4:¬ 57<b.toNat:=by omega
    rw [List.length_cons,List.all_cons,hd1,Bool.true_and,rC,← hE]
    have step:∀ R,L.loop [0,4,5,6,7] [0,2,3,4,5,6] jA m.length [.str s,x,.int .i64 ((pre.length+(c.length+1):Nat):Int),.int .u64 ((d*10+e:Nat):Int),.int .i64 ((pre.length+1:Nat):Int)] m=some R →
      L.loop [0,4,5,6,7] [0,2,3,4,5,6] jA m.length [.str s,x,.int .i64 ((pre.length+(c.length+1):Nat):Int),.int .u64 d,.int .i64 pre.length] m=some R:=by
     intro R hR
     clear ih
     generalize ((pre.length+(c.length+1):Nat):Int)=en at *
     generalize ((d*10+e:Nat):Int)=dn at *
     generalize ((pre.length+1:Nat):Int)=pn at *
     generalize (d:Int)=dz at *
     generalize (e:Int)=ez at *
     refine au (Dh ..) ?_
     rcases hg with ⟨rfl,rfl,rfl⟩ | ⟨rfl,rfl⟩
     ·simp at hR
      simp [gI,hlt,hps,hpsI,hgi,n1,n2,n3,n4,e1,e2,e3,e4,e5,hR]
     ·simp at hR
      simp [gI,hlt,hps,hpsI,hgi,n1,n2,n3,n4,e1,e2,e3,e4,e5,hR]
    refine ⟨fun h=>step _ (ih.1 h),fun h=>?_⟩
    obtain ⟨v,hv⟩:=ih.2 h
    exact ⟨v,step _ hv⟩
   ·have hd0:iW b=false:=by simpa using hd1
    refine ⟨fun h=>by rw [List.all_cons,hd0] at h; simp at h,fun _=>⟨.int .u64 d,?_⟩⟩
    have hn:b.toNat<48∨¬ b.toNat<48∧57<b.toNat:=by
     have := mt aif.2 hd1
     omega
    rw [List.length_cons]
    generalize ((pre.length+(c.length+1):Nat):Int)=en at *
    generalize (d:Int)=dz at *
    refine au (Dh ..) ?_
    rcases hn with hn | ⟨hn1,hn2⟩
    ·have hnI:(b.toNat:Int)<48:=by omega
     rcases hg with ⟨rfl,rfl,rfl⟩ | ⟨rfl,rfl⟩
     ·simp [gI,hlt,hps,hpsI,hgi,hn,hnI]
     ·simp [gI,hlt,hps,hpsI,hgi,hn,hnI]
    ·have n1:¬ (b.toNat:Int)<48:=by omega
     have n2:(57:Int)<(b.toNat:Int):=by omega
     rcases hg with ⟨rfl,rfl,rfl⟩ | ⟨rfl,rfl⟩
     ·simp [gI,hlt,hps,hpsI,hgi,hn1,hn2,n1,n2]
     ·simp [gI,hlt,hps,hpsI,hgi,hn1,hn2,n1,n2]
theorem aB3 {s:List UInt8} {x:D} {m:Mem} {l:List Nat} (hg:Gr x m l) {z:Int} (hz:z≤0):L.loop [0,4,5] [2,3,4] gJ 0 [.str s,x,.int .i64 z] m=some (.exit 0,[.undef,.undef,x],m):=by
 have h:¬ 0<z:=by omega
 refine au (Di ..) ?_
 rcases hg with ⟨rfl,rfl,rfl⟩ | ⟨rfl,rfl⟩
 ·simp [jJ,h]
 ·simp [jJ,h]
theorem azM {s:List UInt8} (hs:s.length≤100000) {x:D} {m:Mem} {l:List Nat} (hg:Gr x m l) (hl:l.length≤100000) {c pre suf:List UInt8} (he:s=pre++(c++suf)) (hc:c≠[]) (h9:c.length≤9) (h9':c.length=9∨pre=[]) :
  (c.all iW=true→∀ R,L.loop [0,4,5] [2,3,4] gJ 0 [.str s,.aO 0 0 (l++[bZ 0 c]).length 1,.int .i64 ((pre.length:Int)+c.length-9)] [.live ((l++[bZ 0 c]).map ak)]=some R →
    L.loop [0,4,5] [2,3,4] gJ 0 [.str s,x,.int .i64 ((pre.length+c.length:Nat):Int)] m=some R) ∧
  (c.all iW=false→∃ y,L.loop [0,4,5] [2,3,4] gJ 0 [.str s,x,.int .i64 ((pre.length+c.length:Nat):Int)] m=some (.ret,[.dh,.bool false,y],m)):=by
 have hcl:=List.length_pos_iff.2 hc
 have hsl:s.length=pre.length+(c.length+suf.length):=by rw [he]; simp
 obtain ⟨f1,f2⟩:=ara hs hg c pre suf 0 0 he (by decide) (by omega)
 have e1:IntKind.i64.wrap (((pre.length+c.length:Nat):Int)-9)=(pre.length:Int)+c.length-9:=by rw [wrap64 _ (by omega)]; omega
 have e2:max ((pre.length:Int)+c.length-9) 0=(pre.length:Int):=by
  rcases h9' with h | h
  ·rw [h]; omega
  ·rw [h]; simp; omega
 have hp:(0:Int)<((pre.length+c.length:Nat):Int):=by omega
 rw [show ((0:Nat):Int)=0 from rfl] at f1 f2
 constructor
 ·intro h R hR
  have f1:=f1 h
  have hlen:l.length+1≤4294967296:=by omega
  have htk:=lD l l.length (Nat.le_refl _)
  rw [Zh,List.length_append,List.length_singleton] at hR
  generalize bZ 0 c=v at *
  generalize ((pre.length+c.length:Nat):Int)=en at *
  generalize (pre.length:Int)+c.length-9=e9 at *
  generalize (pre.length:Int)=pn at *
  refine au (Di ..) ?_
  rcases hg with ⟨rfl,rfl,rfl⟩ | ⟨rfl,rfl⟩
  ·try simp at hR
   try simp at f1
   simp [jJ,hp,e1,e2,f1,f_,hR]
  ·try simp at hR
   try simp at f1
   simp [jJ,hp,e1,e2,f1,f_,hlen,htk,hR]
 ·intro h
  obtain ⟨v,f2⟩:=f2 h
  refine ⟨x,?_⟩
  generalize ((pre.length+c.length:Nat):Int)=en at *
  generalize (pre.length:Int)+c.length-9=e9 at *
  generalize (pre.length:Int)=pn at *
  refine au (Di ..) ?_
  rcases hg with ⟨rfl,rfl,rfl⟩ | ⟨rfl,rfl⟩
  ·try simp at f2
   simp [jJ,hp,e1,e2,f2]
  ·try simp at f2
   simp [jJ,hp,e1,e2,f2]
theorem aF4 (n:Nat):10^(9*n)=T9^n:=by rw [Nat.pow_mul]; rfl
theorem ajM {s:List UInt8} (hs:s.length≤100000):∀ (f e:Nat) (x:D) (m:Mem) (l:List Nat),Gr x m l→e≤f→s.length=e+9*l.length→dG l→bH l=bZ 0 (s.drop e)→1≤e →
  ((s.take e).all iW=true→∃ l',dG l'∧bH l'=bZ 0 s∧l'.length≤100000∧L.loop [0,4,5] [2,3,4] gJ 0 [.str s,x,.int .i64 e] m=some (.exit 0,[.undef,.undef,.aO 0 0 l'.length 1],[.live (l'.map ak)])) ∧
  ((s.take e).all iW=false→∃ y m',L.loop [0,4,5] [2,3,4] gJ 0 [.str s,x,.int .i64 e] m=some (.ret,[.dh,.bool false,y],m'))
 | 0,e,x,m,l,hg,hf,hl,sl,hv,h1=>by omega
 | f+1,e,x,m,l,hg,hf,hl,sl,hv,h1=>by
   obtain ⟨c,hc⟩:∃ c,c=(s.take e).drop (e-9):=⟨_,rfl⟩
   obtain ⟨pre,hpre⟩:∃ pre,pre=s.take (e-9):=⟨_,rfl⟩
   have hcl:c.length=e-(e-9):=by rw [hc,List.length_drop,List.length_take]; omega
   have hpl:pre.length=e-9:=by rw [hpre,List.length_take]; omega
   have hte:s.take e=pre++c:=by
    have h:=(List.take_append_drop (e-9) (s.take e)).symm
    rw [List.take_take,Nat.min_eq_left (by omega),← hpre,← hc] at h
    exact h
   have he:s=pre++(c++s.drop e):=by
    rw [← List.append_assoc,← hte,List.take_append_drop]
   have hsum:pre.length+c.length=e:=by omega
   obtain ⟨r1,r2⟩:=azM hs hg (by omega) he (by intro h; rw [h] at hcl; simp at hcl; omega) (by omega) (by
    rcases Nat.lt_or_ge e 9 with h | h
    ·right; exact List.eq_nil_of_length_eq_zero (by omega)
    ·left; omega)
   rw [hsum] at r1 r2
   have hall:(s.take e).all iW=(pre.all iW && c.all iW):=by rw [hte,List.all_append]
   rw [hall]
   cases hcd:c.all iW with
   | false =>
     refine ⟨fun h=>by simp at h,fun _=>?_⟩
     obtain ⟨y,hy⟩:=r2 hcd
     exact ⟨y,m,hy⟩
   | true =>
     rw [Bool.and_true]
     have hcn:bZ 0 c<T9:=by
      have h1:=Yd hcd
      refine Nat.lt_of_lt_of_le h1 ?_
      show 10^c.length≤10^9
      exact Nat.pow_le_pow_right (by decide) (by omega)
     have sl2:dG (l++[bZ 0 c]):=sl.snoc hcn
     have hdrop:s.drop (e-9)=c++s.drop e:=by
      conv=>lhs; rw [he]
      rw [List.drop_append_of_le_length (by omega),← hpl,List.drop_length,List.nil_append]
     have hv2:bH (l++[bZ 0 c])=bZ 0 (s.drop (e-9)):=by
      have hn:bZ 0 (c++s.drop e)=bZ 0 c*10^(s.drop e).length+bZ 0 (s.drop e):=by rw [Zn]; exact aa8 _ _
      rw [aby,hdrop,hn,← hv,List.length_drop,show s.length-e=9*l.length by omega,aF4,Nat.mul_comm,Nat.add_comm]
     rcases Nat.lt_or_ge 9 e with h9 | h9
     ·obtain ⟨i1,i2⟩:=ajM hs f (e-9) (.aO 0 0 (l++[bZ 0 c]).length 1) [.live ((l++[bZ 0 c]).map ak)] (l++[bZ 0 c]) (.inr ⟨rfl,rfl⟩) (by omega) (by simp; omega) sl2 hv2 (by omega)
      have ez:(pre.length:Int)+c.length-9=((e-9:Nat):Int):=by omega
      rw [ez] at r1
      rw [← hpre] at i1 i2
      constructor
      ·intro h
       obtain ⟨l',a1,a2,a3,a4⟩:=i1 h
       exact ⟨l',a1,a2,a3,r1 hcd _ a4⟩
      ·intro h
       obtain ⟨y,m',a4⟩:=i2 h
       exact ⟨y,m',r1 hcd _ a4⟩
     ·have hp0:pre=[]:=List.eq_nil_of_length_eq_zero (by omega)
      rw [show e-9=0 by omega,List.drop_zero] at hv2
      have hst:=aB3 (s:=s) (x := .aO 0 0 (l++[bZ 0 c]).length 1) (m:=[.live ((l++[bZ 0 c]).map ak)]) (l:=l++[bZ 0 c]) (.inr ⟨rfl,rfl⟩) (z:=(pre.length:Int)+c.length-9) (by omega)
      refine ⟨fun _=>⟨l++[bZ 0 c],sl2,hv2,by simp; omega,r1 hcd _ hst⟩,fun h=>?_⟩
      rw [hp0] at h
      simp at h
theorem anb {s:List UInt8} (h:uY s):L.call yQ [.str s]=some (.aG [n9 (bZ 0 s),.bool true]):=by
 obtain ⟨h1,h2,h3,h4⟩:=h
 have hp:=List.length_pos_iff.2 h1
 obtain ⟨i1,_⟩:=ajM (s:=s) (by omega) s.length s.length .dh [] [] (.inl ⟨rfl,rfl,rfl⟩) (Nat.le_refl _) (by simp) (fun x hx=>by simp at hx) (by rw [List.drop_length,sZ]; rfl) hp
 rw [List.take_length] at i1
 obtain ⟨l,a1,a2,a3,a4⟩:=i1 h4
 have ht:=D6 l a1 (by unfold maxL; omega)
 rw [a2] at ht
 have n1:¬ (s.length:Int)<1:=by omega
 have n2:¬ (4000:Int)<s.length:=by omega
 have n3:¬ s.length<1:=by omega
 have n4:¬ 4000<s.length:=by omega
 have htk:=lD l l.length (Nat.le_refl _)
 simp only [n9,aQ] at ht ⊢
 generalize (ah (bZ 0 s)).length=NR at *
 generalize (ah (bZ 0 s)).map ak=lR at *
 refine aj (Va ..) ?_
 by_cases hl1:1<s.length
 ·have hl1I:(1:Int)<s.length:=by omega
  have h0:∀ p:0<s.length,s[0]≠48:=fun p hc=>h3 ⟨hl1,by rw [List.getElem?_eq_getElem p,hc]⟩
  have h0':∀ p:0<s.length,¬ s[0].toNat=48:=fun p hc=>h0 p (by
   have : s[0]=UInt8.ofNat 48:=by rw [← hc]; simp
   simpa using this)
  have h0'':∀ p:0<s.length,¬ (s[0].toNat:Int)=48:=fun p hc=>h0' p (by omega)
  simp [lu,n1,n2,n3,n4,hl1,hl1I,hp,h0,h0',h0'',a4,htk,ht]
 ·have hl1I:¬ (1:Int)<s.length:=by omega
  simp [lu,n1,n2,n3,n4,hl1,hl1I,a4,htk,ht]
theorem apI {s:List UInt8} (h:¬ uY s) (hs:s.length≤1000):L.call yQ [.str s]=some (.aG [.sl 0 [],.bool false]):=by
 refine aj (Va ..) ?_
 by_cases h0:s=[]
 ·subst h0
  simp [lu]
 have hp:=List.length_pos_iff.2 h0
 have n1:¬ (s.length:Int)<1:=by omega
 have n2:¬ (4000:Int)<s.length:=by omega
 have n3:¬ s.length<1:=by omega
 have n4:¬ 4000<s.length:=by omega
 by_cases hz:1<s.length∧s[0]?=some 48
 ·have hl1I:(1:Int)<s.length:=by omega
  have hz2:∀ p:0<s.length,s[0]=48:=fun p=>by simpa using (List.getElem?_eq_some_iff.1 hz.2).2
  simp [lu,n1,n2,n3,n4,hz.1,hl1I,hp,hz2]
 ·have hall:s.all iW=false:=by
   cases ha:s.all iW with
   | false=>rfl
   | true=>exact absurd ⟨h0,by omega,hz,ha⟩ h
  obtain ⟨_,i2⟩:=ajM (s:=s) (by omega) s.length s.length .dh [] [] (.inl ⟨rfl,rfl,rfl⟩) (Nat.le_refl _) (by simp) (fun x hx=>by simp at hx) (by rw [List.drop_length,sZ]; rfl) hp
  rw [List.take_length] at i2
  obtain ⟨y,m',a4⟩:=i2 hall
  by_cases hl1:1<s.length
  ·have hl1I:(1:Int)<s.length:=by omega
   have h0:∀ p:0<s.length,s[0]≠48:=fun p hc=>hz ⟨hl1,by rw [List.getElem?_eq_getElem p,hc]⟩
   have h0':∀ p:0<s.length,¬ s[0].toNat=48:=fun p hc=>h0 p (by
    have : s[0]=UInt8.ofNat 48:=by rw [← hc]; simp
    simpa using this)
   have h0'':∀ p:0<s.length,¬ (s[0].toNat:Int)=48:=fun p hc=>h0' p (by omega)
   simp [lu,n1,n2,n3,n4,hl1,hl1I,hp,h0,h0',h0'',a4]
  ·have hl1I:¬ (1:Int)<s.length:=by omega
   simp [lu,n1,n2,n3,n4,hl1,hl1I,a4]
end Go.Ev.Code
end
section
namespace Go.Ev.Code
open Go Go.Ev
def qZ:List D:=[.bool false,.sl 0 [],.sl 0 []]
theorem amR {s t:List UInt8} (ht:t.length≤1000) {ng:Bool} {R:Ex×List D×Mem}:∀ (w pre suf:List UInt8),t=pre++(w++suf)→46 ∉ w →
  L.loop [0,2,5,6,7] [0,2,5,6,7] iQ 1 [.str s,.loc 0 0,.str t,.bool ng,.int .i64 ((pre.length+w.length:Nat):Int)] [.live qZ]=some R →
  L.loop [0,2,5,6,7] [0,2,5,6,7] iQ 1 [.str s,.loc 0 0,.str t,.bool ng,.int .i64 pre.length] [.live qZ]=some R
 | [],pre,suf,he,hn,h=>by simpa using h
 | b::w,pre,suf,he,hn,h=>by
   have hb:b≠46:=fun h=>hn (by simp [h])
   have hbn:¬ b.toNat=46:=fun h=>hb (by
    have : b=UInt8.ofNat 46:=by rw [← h]; simp
    simpa using this)
   have hbI:¬ (b.toNat:Int)=46:=by omega
   have hget:t[pre.length]?=some b:=by rw [he]; simp
   have hlt:pre.length<t.length:=by rw [he]; simp
   have hltI:(pre.length:Int)<t.length:=by omega
   have hgi:∀ p:pre.length<t.length,t[pre.length]=b:=fun p=>by simpa using (List.getElem?_eq_some_iff.1 hget).2
   have ih:=amR (s:=s) ht (ng:=ng) (R:=R) w (pre++[b]) suf (by rw [he]; simp) (fun h=>hn (by simp [h])) (by
    rw [List.length_append,List.length_singleton,show pre.length+1+w.length=pre.length+(b::w).length by simp; omega]; exact h)
   rw [List.length_append,List.length_singleton] at ih
   have e5:IntKind.i64.wrap ((pre.length:Int)+1)=((pre.length+1:Nat):Int):=by rw [wrap64 _ (by omega)]; omega
   clear h
   unfold qZ at *
   simp at ih
   refine au (LW ..) ?_
   simp [rV,hlt,hltI,hgi,hb,hbn,hbI,e5,ih]
theorem azK {s t:List UInt8} (ht:t.length≤1000) (ng:Bool):L.loop [0,2,5,6,7] [0,2,5,6,7] iQ 1 [.str s,.loc 0 0,.str t,.bool ng,.int .i64 0] [.live qZ] =
  some (.exit 0,[.str s,.loc 0 0,.str t,.bool ng,.int .i64 (iG 46 t).1.length],[.live qZ]):=by
 have hstop:∀ k:Nat,k=t.length∨t[k]?=some 46→L.loop [0,2,5,6,7] [0,2,5,6,7] iQ 1 [.str s,.loc 0 0,.str t,.bool ng,.int .i64 k] [.live qZ] =
   some (.exit 0,[.str s,.loc 0 0,.str t,.bool ng,.int .i64 k],[.live qZ]):=by
  intro k hk
  unfold qZ
  refine au (LW ..) ?_
  rcases hk with rfl | hk
  ·simp [rV]
  ·have hlt:k<t.length:=(List.getElem?_eq_some_iff.1 hk).1
   have hltI:(k:Int)<t.length:=by omega
   have hgi:∀ p:k<t.length,t[k]=46:=fun p=>by simpa using (List.getElem?_eq_some_iff.1 hk).2
   simp [rV,hlt,hltI,hgi]
 cases hc:(iG 46 t).2.2 with
 | true =>
   obtain ⟨h1,h2⟩:=agB hc
   generalize (iG 46 t).1=w at *
   generalize (iG 46 t).2.1=r at *
   have h3:=hstop w.length (.inr (by rw [h1]; simp))
   exact amR ht w [] (46::r) (by simpa using h1) h2 (by simpa using h3)
 | false =>
   have h1:=(Ej hc).1
   have h2:46 ∉ t:=by
    intro hm
    obtain ⟨a,b,hab,hna⟩:=List.eq_append_cons_of_mem hm
    have := aaL a [] b hna
    unfold iG at hc
    rw [hab,this] at hc
    simp at hc
   rw [h1]
   have h3:=hstop t.length (.inl rfl)
   exact amR ht t [] [] (by simp) h2 (by simpa using h3)
theorem aq_ {t:List UInt8} (ht:t.length≤1000) (ng:Bool) (pl:Int):∀ (c pre:List UInt8) (n j:Nat),t=pre++c→n<10^j→j+c.length≤2000 →
  (c.all iW=true→L.loop [2,5,6,8,9,11] [2,3,4,6,8,9] eP 1 [.loc 0 0,.str t,.bool ng,.int .i64 pl,n9 n,.int .i64 pre.length] [.live qZ]=some (.exit 2,[.loc 0 0,.undef,.undef,.bool ng,.int .i64 pl,n9 (bZ n c)],[.live qZ])) ∧
  (c.all iW=false→∃ v,L.loop [2,5,6,8,9,11] [2,3,4,6,8,9] eP 1 [.loc 0 0,.str t,.bool ng,.int .i64 pl,n9 n,.int .i64 pre.length] [.live qZ]=some (.ret,[.loc 0 0,.int .i64 0,.bool false,.bool ng,.int .i64 pl,v],[.live qZ]))
 | [],pre,n,j,he,hd,hj=>by
   refine ⟨fun _=>?_,fun h=>by simp at h⟩
   rw [sZ]
   have hl:t.length=pre.length:=by rw [he]; simp
   have h1:¬ (pre.length:Int)<t.length:=by omega
   have h2:¬ pre.length<t.length:=by omega
   unfold qZ
   refine au (rO ..) ?_
   simp [jT,h1,h2]
 | b::c,pre,n,j,he,hd,hj=>by
   rw [List.length_cons] at hj
   have hb:=b.toNat_lt
   have hget:t[pre.length]?=some b:=by rw [he]; simp
   have hlt:pre.length<t.length:=by rw [he]; simp
   have hltI:(pre.length:Int)<t.length:=by omega
   have hgi:∀ p:pre.length<t.length,t[pre.length]=b:=fun p=>by simpa using (List.getElem?_eq_some_iff.1 hget).2
   by_cases hd1:iW b=true
   ·have hbd:=aif.1 hd1
    obtain ⟨e,hE⟩:∃ e,e=b.toNat-48:=⟨_,rfl⟩
    have hd2:n*10+e<10^(j+1):=by rw [Nat.pow_succ]; omega
    obtain ⟨i1,i2⟩:=aq_ ht ng pl c (pre++[b]) (n*10+e) (j+1) (by rw [he]; simp) hd2 (by omega)
    rw [List.length_append,List.length_singleton] at i1 i2
    have ho:=jF (x:=10) (by omega)
    have hm:=uj (a:=n) (b:=10) ((ahW hd).iH (by omega)) ((show NB 4 10 by unfold NB; decide).iH (by omega))
    have ho2:=jF (x:=e) (by omega)
    have ha:=acp (a:=n*10) (b:=e) ((NB.mul (ahW hd) (show NB 4 10 by unfold NB; decide)).iH (by omega)) ((show NB 64 e by unfold NB; omega).iH (by omega))
    rw [show ((10:Nat):Int)=10 from rfl] at ho
    have e2:IntKind.u8.wrap ((b.toNat:Int)-48)=(e:Int):=by
     simp [IntKind.wrap,IntKind.signed,IntKind.bits]; omega
    have e3:IntKind.u64.wrap (e:Int)=(e:Int):=dJ _ (by omega)
    have e5:IntKind.i64.wrap ((pre.length:Int)+1)=((pre.length+1:Nat):Int):=by rw [wrap64 _ (by omega)]; omega
    have n1:¬ (b.toNat:Int)<48:=by omega
    have n2:¬ (57:Int)<(b.toNat:Int):=by omega
    have n3:¬ b.toNat<48:=by omega
    have n4:¬ 57<b.toNat:=by omega
    rw [List.all_cons,hd1,Bool.true_and,rC,← hE]
    have step:∀ R,L.loop [2,5,6,8,9,11] [2,3,4,6,8,9] eP 1 [.loc 0 0,.str t,.bool ng,.int .i64 pl,n9 (n*10+e),.int .i64 ((pre.length+1:Nat):Int)] [.live qZ]=some R →
      L.loop [2,5,6,8,9,11] [2,3,4,6,8,9] eP 1 [.loc 0 0,.str t,.bool ng,.int .i64 pl,n9 n,.int .i64 pre.length] [.live qZ]=some R:=by
     intro R hR
     clear i1 i2
     unfold qZ at *
     simp only [n9,aQ] at *
     generalize ((pre.length+1:Nat):Int)=pn at *
     generalize (ah (n*10+e)).length=N1 at *
     generalize (ah (n*10+e)).map ak=l1 at *
     generalize (ah (n*10)).length=N2 at *
     generalize (ah (n*10)).map ak=l2 at *
     generalize (ah n).length=N3 at *
     generalize (ah n).map ak=l3 at *
     generalize (ah 10).length=N4 at *
     generalize (ah 10).map ak=l4 at *
     generalize (ah e).length=N5 at *
     generalize (ah e).map ak=l5 at *
     generalize (e:Int)=ez at *
     refine au (rO ..) ?_
     try simp at hR
     simp [jT,hlt,hltI,hgi,n1,n2,n3,n4,ho,hm,e2,e3,ho2,ha,e5,hR]
    refine ⟨fun h=>step _ (i1 h),fun h=>?_⟩
    obtain ⟨v,hv⟩:=i2 h
    exact ⟨v,step _ hv⟩
   ·have hd0:iW b=false:=by simpa using hd1
    refine ⟨fun h=>by rw [List.all_cons,hd0] at h; simp at h,fun _=>⟨n9 n,?_⟩⟩
    have hn:b.toNat<48∨¬ b.toNat<48∧57<b.toNat:=by
     have := mt aif.2 hd1
     omega
    unfold qZ
    simp only [n9,aQ] at *
    generalize (ah n).length=N3 at *
    generalize (ah n).map ak=l3 at *
    refine au (rO ..) ?_
    rcases hn with hn | ⟨hn1,hn2⟩
    ·have hnI:(b.toNat:Int)<48:=by omega
     simp [jT,hlt,hltI,hgi,hn,hnI,aS]
    ·have n1:¬ (b.toNat:Int)<48:=by omega
     have n2:(57:Int)<(b.toNat:Int):=by omega
     simp [jT,hlt,hltI,hgi,hn1,hn2,n1,n2,aS]
def xU (neg:Bool) (w r:List UInt8) (point:Bool):Option (Int×Nat) :=
 if uY w∧(point=true→r≠[]∧r.length≤20∧r.all iW=true)∧¬ (neg=true∧bZ 0 (w++r)=0) then
  some ((if neg then -(bZ 0 (w++r):Int) else bZ 0 (w++r)),r.length) else none
def MV (s:List UInt8):Option (Int×Nat) :=
 if s.length≤60 then xU (iF s).1 (iG 46 (iF s).2).1 (iG 46 (iF s).2).2.1 (iG 46 (iF s).2).2.2 else none
theorem aed (s:List UInt8):oZ s=(MV s).map fun p=>(Rat.divInt p.1 ((10^p.2:Nat):Int),p.2):=by
 unfold oZ MV
 split
 ·unfold En xU
  split <;> rfl
 ·rfl
def gdD:Option (Int×Nat)→D
 | some (n,p) => .aG [cO n (10^p),.int .i64 p,.bool true]
 | none => .aG [.agg qZ,.int .i64 0,.bool false]
theorem asM {p:Nat} (h:p≤100):L.call AQ [n9 10,.int .i64 p]=some (n9 (10^p)):=by
 obtain ⟨K,hK⟩:∃ K:Nat,K=1000:=⟨_,rfl⟩
 refine aun (K:=K) (fun i hi=>?_) (by unfold NB; exact Nat.lt_of_lt_of_le (by decide:10<2^4) (Nat.pow_le_pow_right (by decide) (by omega))) (by omega) (by omega)
 unfold NB
 have h1:10^i≤16^i:=Nat.pow_le_pow_left (by decide) i
 have h2:(16:Nat)^i=2^(4*i):=by rw [Nat.pow_mul]
 have h3:(2:Nat)^(4*i)<2^K:=Nat.pow_lt_pow_right (by decide) (by omega)
 omega
theorem aB' {b:UInt8} {n:Nat} (hn:n<256) (h:b≠UInt8.ofNat n):¬ b.toNat=n∧¬ (b.toNat:Int)=n:=by
 have : ¬ b.toNat=n:=fun e=>h (by rw [← e]; simp)
 exact ⟨this,by omega⟩
theorem awF (s:List UInt8):((iF s).1=true∧s≠[]∧(∀ p:0<s.length,s[0]=45)∧(iF s).2=s.tail∧0<s.length)∨((iF s).1=false∧(iF s).2=s∧(s=[]∨s≠[]∧0<s.length∧∀ p:0<s.length,s[0]≠45∧¬ s[0].toNat=45∧¬ (s[0].toNat:Int)=45)):=by
 unfold iF
 match s with
 | []=>right; simp [List.isPrefixOf]
 | b::r =>
   by_cases hb:b=45
   ·subst hb; left; simp [List.isPrefixOf]
   ·right
    have : List.isPrefixOf [45] (b::r)=false:=by simp [List.isPrefixOf,Ne.symm hb]
    rw [this]
    have h2:=aB' (b:=b) (n:=45) (by decide) hb
    refine ⟨rfl,rfl,.inr ⟨by simp,by simp,fun p=>?_⟩⟩
    simp only [List.getElem_cons_zero]
    exact ⟨hb,h2.1,h2.2⟩
set_option maxHeartbeats 2000000 in
theorem adA {s:List UInt8} (hs:s.length≤1000):L.call uO [.str s]=some (gdD (MV s)):=by
 have hsl:=abv s
 have hsign:=awF s
 unfold MV
 generalize (iF s).1=ng at *
 generalize (iF s).2=t at *
 have hcl:=aeb 46 t
 have hl1:=azK (s:=s) (t:=t) (by omega) ng
 have hc1:=fun h=>agB (c:=46) (s:=t) h
 have hc0:=fun h=>Ej (c:=46) (s:=t) h
 generalize (iG 46 t).1=w at *
 generalize (iG 46 t).2.1=r at *
 generalize (iG 46 t).2.2=pt at *
 have hplace:(pt=true∧t=w++46::r)∨(pt=false∧w=t∧r=[]):=by
  cases pt with
  | true=>exact .inl ⟨rfl,(hc1 rfl).1⟩
  | false=>exact .inr ⟨rfl,hc0 rfl⟩
 have hpl:max 0 ((t.length:Int)-w.length-1)=(r.length:Int):=by
  rcases hplace with ⟨_,h⟩ | ⟨_,h,h2⟩
  ·rw [h]; simp; omega
  ·rw [h,h2]; simp; try omega
 have e1:IntKind.i64.wrap ((t.length:Int)-w.length)=(t.length:Int)-w.length:=wrap64 _ (by omega)
 have e2:IntKind.i64.wrap ((t.length:Int)-w.length-1)=(t.length:Int)-w.length-1:=wrap64 _ (by omega)
 have e3:IntKind.i64.wrap ((w.length:Int)+1)=((w.length+1:Nat):Int):=by rw [wrap64 _ (by omega)]; omega
 have htake:t.take w.length=w:=by
  rcases hplace with ⟨_,h⟩ | ⟨_,h,_⟩
  ·rw [h]; simp
  ·rw [h]; simp
 have hwt:(w.length:Int)≤t.length:=by omega
 have hbn:gK false true t.length [.int .i64 (w.length:Int)]=some (0,w.length):=by simp [gK,bnd,hwt]
 have hlt:(w.length:Int)<t.length↔pt=true:=by
  rcases hplace with ⟨h1,h⟩ | ⟨h1,h,_⟩
  ·rw [h1,h]; simp; omega
  ·rw [h1,h]; simp
 have hltn:w.length<t.length↔pt=true:=by rw [← hlt]; omega
 have hb1:s≠[]→gK true false s.length [.int .i64 1]=some (1,s.length):=by
  intro h
  have h1:=List.length_pos_iff.2 h
  have : (1:Int)≤(s.length:Int):=by omega
  simp [gK,bnd,this]
 have htl:t=s.tail→s.tail.take (s.length-1)=t∧(s.drop 1).take (s.length-1)=t∧s.tail=t∧t.take (s.length-1)=t:=fun h=>by
  have h1:s.tail.take (s.length-1)=s.tail:=List.take_of_length_le (by simp)
  rw [h,List.drop_one]
  exact ⟨h1,h1,rfl,h1⟩
 have zt:=jF (x:=10) (by omega)
 rw [show ((10:Nat):Int)=10 from rfl] at zt
 by_cases h60:s.length≤60
 ·rw [if_pos h60]
  have hs1:¬ (60:Int)<s.length:=by omega
  have hs2:¬ 60<s.length:=by omega
  by_cases hpr:pt=true∧(r.length<1∨20<r.length)
  ·have hnone:xU ng w r pt=none:=by
    unfold xU
    rw [if_neg]
    intro h
    have := h.2.1 hpr.1
    have := List.length_pos_iff.2 this.1
    omega
   rw [hnone]
   have h1:=hlt.2 hpr.1
   have h2:=hltn.2 hpr.1
   have hcase:(r.length:Int)<1∨¬ (r.length:Int)<1∧(20:Int)<r.length:=by omega
   have hcn:(r.length<1∨¬ r.length<1∧20<r.length):=by omega
   clear hplace hc1 hc0 hsl hcl htake hbn hlt hltn hpr hnone
   unfold gdD qZ at *
   refine aj (lI ..) ?_
   rcases hsign with ⟨rfl,hne,h0,htt,hp⟩ | ⟨rfl,rfl,rfl | ⟨hne,hp,h0⟩⟩
   ·have hb1:=hb1 hne
    have ⟨htl,htl2,htl3,htl4⟩:=htl htt
    rcases hcase with hcase | ⟨hc2,hcase⟩
    ·simp [bF,hne,hp,h0,hb1,htl,htl2,htl3,htl4,hl1,e1,e2,hpl,hs1,hs2,h1,h2,hcase,aS]
    ·simp [bF,hne,hp,h0,hb1,htl,htl2,htl3,htl4,hl1,e1,e2,hpl,hs1,hs2,h1,h2,hc2,hcase,aS]
   ·simp at h2
   ·rcases hcase with hcase | ⟨hc2,hcase⟩
    ·simp [bF,hne,hp,h0,hl1,e1,e2,hpl,hs1,hs2,h1,h2,hcase,aS]
    ·simp [bF,hne,hp,h0,hl1,e1,e2,hpl,hs1,hs2,h1,h2,hc2,hcase,aS]
  ·have hok:(¬ (w.length:Int)<t.length)∨((w.length:Int)<t.length∧¬ (r.length:Int)<1∧¬ (20:Int)<r.length):=by
    by_cases h:pt=true
    ·right
     have hq:¬ (r.length<1∨20<r.length):=fun h5=>hpr ⟨h,h5⟩
     exact ⟨hlt.2 h,by omega,by omega⟩
    ·left; exact fun h2=>h (hlt.1 h2)
   by_cases hw:uY w
   ·have hg:=anb hw
    have hwD:=hw.2.2.2
    have hwl:w.length≤60:=by omega
    have hstop:∀ (k:Nat) (v:Nat),t.length≤k→L.loop [2,5,6,8,9,11] [2,3,4,6,8,9] eP 1 [.loc 0 0,.str t,.bool ng,.int .i64 r.length,n9 v,.int .i64 k] [.live qZ]=some (.exit 2,[.loc 0 0,.undef,.undef,.bool ng,.int .i64 r.length,n9 v],[.live qZ]):=by
     intro k v hk
     have h1:¬ (k:Int)<t.length:=by omega
     have h2:¬ k<t.length:=by omega
     unfold qZ
     refine au (rO ..) ?_
     simp [jT,h1,h2]
    have hl2:(r.all iW=true→L.loop [2,5,6,8,9,11] [2,3,4,6,8,9] eP 1 [.loc 0 0,.str t,.bool ng,.int .i64 r.length,n9 (bZ 0 w),.int .i64 ((w.length+1:Nat):Int)] [.live qZ]=some (.exit 2,[.loc 0 0,.undef,.undef,.bool ng,.int .i64 r.length,n9 (bZ 0 (w++r))],[.live qZ])) ∧
      (r.all iW=false→∃ v,L.loop [2,5,6,8,9,11] [2,3,4,6,8,9] eP 1 [.loc 0 0,.str t,.bool ng,.int .i64 r.length,n9 (bZ 0 w),.int .i64 ((w.length+1:Nat):Int)] [.live qZ]=some (.ret,[.loc 0 0,.int .i64 0,.bool false,.bool ng,.int .i64 r.length,v],[.live qZ])):=by
     rcases hplace with ⟨_,h⟩ | ⟨_,h,h2⟩
     ·have := aq_ (t:=t) (by omega) ng (r.length:Int) r (w++[46]) (bZ 0 w) w.length (by rw [h]; simp) (Yd hwD) (by
       have : t.length=w.length+(r.length+1):=by rw [h]; simp
       omega)
      rw [List.length_append,List.length_singleton,← Zn] at this
      exact this
     ·rw [h2,List.append_nil]
      exact ⟨fun _=>by rw [h2] at hstop; exact hstop _ _ (by rw [h]; omega),fun h=>by simp at h⟩
    clear hstop
    cases hrd:r.all iW with
    | false =>
      obtain ⟨v,hl2⟩:=hl2.2 hrd
      have hpt:pt=true:=by
       rcases hplace with ⟨h,_⟩ | ⟨_,_,h2⟩
       ·exact h
       ·rw [h2] at hrd; simp at hrd
      have hnone:xU ng w r pt=none:=by
       unfold xU
       rw [if_neg]
       intro h
       have := (h.2.1 hpt).2.2
       rw [hrd] at this
       simp at this
      rw [hnone]
      have hltx:=hlt
      clear hplace hc1 hc0 hsl hcl hlt hltn hpr hnone hw
      unfold gdD qZ at *
      simp only [n9,aQ] at *
      generalize (ah (bZ 0 w)).length=N1 at *
      generalize (ah (bZ 0 w)).map ak=l1 at *
      generalize ((w.length+1:Nat):Int)=w1 at *
      refine aj (lI ..) ?_
      rcases hsign with ⟨rfl,hne,h0,htt,hp⟩ | ⟨rfl,rfl,rfl | ⟨hne,hp,h0⟩⟩
      ·have hb1:=hb1 hne
       have ⟨htl,htl2,htl3,htl4⟩:=htl htt
       rcases hok with h1 | ⟨h1,h2,h3⟩
       ·simp [bF,hne,hp,h0,hb1,htl,htl2,htl3,htl4,hl1,e1,e2,e3,hpl,hs1,hs2,h1,hbn,htake,hg,hl2,aS]
       ·simp [bF,hne,hp,h0,hb1,htl,htl2,htl3,htl4,hl1,e1,e2,e3,hpl,hs1,hs2,h1,h2,h3,hbn,htake,hg,hl2,aS]
      ·exfalso
       rcases hok with h1 | ⟨h1,_,_⟩
       ·exact h1 (by simpa using hltx.2 hpt)
       ·simp at h1; omega
      ·rcases hok with h1 | ⟨h1,h2,h3⟩
       ·simp [bF,hne,hp,h0,hl1,e1,e2,e3,hpl,hs1,hs2,h1,hbn,htake,hg,hl2,aS]
       ·simp [bF,hne,hp,h0,hl1,e1,e2,e3,hpl,hs1,hs2,h1,h2,h3,hbn,htake,hg,hl2,aS]
    | true =>
      have hl2:=hl2.1 hrd
      have hrl:r.length≤60:=by omega
      have hrl20:r.length≤100:=by omega
      have hpw:=asM hrl20
      have hnil:s≠[]:=by
       intro h
       rw [h] at hsl
       simp at hsl
       rw [hsl] at htake
       simp at htake
       exact hw.1 (by first | exact htake.symm | exact htake)
      have h0len:=aaX (bZ 0 (w++r))
      by_cases hz:ng=true∧bZ 0 (w++r)=0
      ·have hnone:xU ng w r pt=none:=by
        unfold xU
        rw [if_neg]
        exact fun h=>h.2.2 hz
       rw [hnone]
       have hN:=h0len.2 hz.2
       have hng:=hz.1
       clear hplace hc1 hc0 hsl hcl hlt hltn hpr hnone hw hz
       unfold gdD qZ at *
       simp only [n9,aQ] at *
       generalize (ah (bZ 0 (w++r))).length=N2 at *
       generalize (ah (bZ 0 (w++r))).map ak=l2 at *
       generalize (ah (bZ 0 w)).length=N1 at *
       generalize (ah (bZ 0 w)).map ak=l1 at *
       generalize ((w.length+1:Nat):Int)=w1 at *
       subst hN
       refine aj (lI ..) ?_
       rcases hsign with ⟨rfl,hne,h0,htt,hp⟩ | ⟨rfl,rfl,_⟩
       ·have hb1:=hb1 hne
        have ⟨htl,htl2,htl3,htl4⟩:=htl htt
        rcases hok with h1 | ⟨h1,h2,h3⟩
        ·simp [bF,hne,hp,h0,hb1,htl,htl2,htl3,htl4,hl1,e1,e2,e3,hpl,hs1,hs2,h1,hbn,htake,hg,hl2,aS]
        ·simp [bF,hne,hp,h0,hb1,htl,htl2,htl3,htl4,hl1,e1,e2,e3,hpl,hs1,hs2,h1,h2,h3,hbn,htake,hg,hl2,aS]
       ·simp at hng
      ·have hsome:xU ng w r pt=some ((if ng then -(bZ 0 (w++r):Int) else bZ 0 (w++r)),r.length):=by
        unfold xU
        rw [if_pos]
        refine ⟨hw,fun h=>?_,hz⟩
        have h5:¬ (r.length<1∨20<r.length):=fun h6=>hpr ⟨h,h6⟩
        exact ⟨by intro h6; rw [h6] at h5; simp at h5,by omega,hrd⟩
       rw [hsome]
       have hqd:gdD (some ((if ng then -(bZ 0 (w++r):Int) else bZ 0 (w++r)),r.length)) = .aG [.agg [.bool ng,n9 (bZ 0 (w++r)),n9 (10^r.length)],.int .i64 r.length,.bool true]:=by
        unfold gdD cO qC
        cases ng with
        | true =>
          have : bZ 0 (w++r)≠0:=fun h=>hz ⟨rfl,h⟩
          simp only [if_true,Int.natAbs_neg,Int.natAbs_natCast]
          rw [decide_eq_true (by omega)]
        | false =>
          simp only [Bool.false_eq_true,if_false,Int.natAbs_natCast]
          rw [decide_eq_false (by omega)]
       rw [hqd]
       have hzz:ng=false∨ng=true∧(ah (bZ 0 (w++r))).length≠0:=by
        cases ng with
        | false=>exact .inl rfl
        | true=>exact .inr ⟨rfl,fun h=>hz ⟨rfl,h0len.1 h⟩⟩
       clear hplace hc1 hc0 hsl hcl hlt hltn hpr hsome hw hz hqd h0len
       unfold qZ at *
       simp only [n9,aQ] at *
       generalize (ah (bZ 0 (w++r))).length=N2 at *
       generalize (ah (bZ 0 (w++r))).map ak=l2 at *
       generalize (ah (bZ 0 w)).length=N1 at *
       generalize (ah (bZ 0 w)).map ak=l1 at *
       generalize (ah (10^r.length)).length=N3 at *
       generalize (ah (10^r.length)).map ak=l3 at *
       generalize (ah 10).length=N4 at *
       generalize (ah 10).map ak=l4 at *
       generalize ((w.length+1:Nat):Int)=w1 at *
       refine aj (lI ..) ?_
       rcases hsign with ⟨rfl,hne,h0,htt,hp⟩ | ⟨rfl,rfl,rfl | ⟨hne,hp,h0⟩⟩
       ·have hb1:=hb1 hne
        have ⟨htl,htl2,htl3,htl4⟩:=htl htt
        rcases hzz with hzz | ⟨_,hzz⟩
        ·simp at hzz
        have hzI:¬ (N2:Int)=0:=by omega
        rcases hok with h1 | ⟨h1,h2,h3⟩
        ·simp [bF,hne,hp,h0,hb1,htl,htl2,htl3,htl4,hl1,e1,e2,e3,hpl,hs1,hs2,h1,hbn,htake,hg,hl2,hzz,hzI,zt,hpw,aS]
        ·simp [bF,hne,hp,h0,hb1,htl,htl2,htl3,htl4,hl1,e1,e2,e3,hpl,hs1,hs2,h1,h2,h3,hbn,htake,hg,hl2,hzz,hzI,zt,hpw,aS]
       ·exact absurd rfl hnil
       ·rcases hok with h1 | ⟨h1,h2,h3⟩
        ·simp [bF,hne,hp,h0,hl1,e1,e2,e3,hpl,hs1,hs2,h1,hbn,htake,hg,hl2,zt,hpw,aS]
        ·simp [bF,hne,hp,h0,hl1,e1,e2,e3,hpl,hs1,hs2,h1,h2,h3,hbn,htake,hg,hl2,zt,hpw,aS]
   ·have hg:=apI hw (by omega)
    have hnone:xU ng w r pt=none:=by
     unfold xU
     rw [if_neg]
     exact fun h=>hw h.1
    rw [hnone]
    clear hplace hc1 hc0 hsl hcl hlt hltn hpr hnone hw
    unfold gdD qZ at *
    refine aj (lI ..) ?_
    rcases hsign with ⟨rfl,hne,h0,htt,hp⟩ | ⟨rfl,rfl,rfl | ⟨hne,hp,h0⟩⟩
    ·have hb1:=hb1 hne
     have ⟨htl,htl2,htl3,htl4⟩:=htl htt
     rcases hok with h1 | ⟨h1,h2,h3⟩
     ·simp [bF,hne,hp,h0,hb1,htl,htl2,htl3,htl4,hl1,e1,e2,hpl,hs1,hs2,h1,hbn,htake,hg,aS]
     ·simp [bF,hne,hp,h0,hb1,htl,htl2,htl3,htl4,hl1,e1,e2,hpl,hs1,hs2,h1,h2,h3,hbn,htake,hg,aS]
    ·have : w=[]:=by simpa using htake.symm
     subst this
     simp at hl1 hg hok
     simp [bF,hl1,hg,aS]
    ·rcases hok with h1 | ⟨h1,h2,h3⟩
     ·simp [bF,hne,hp,h0,hl1,e1,e2,hpl,hs1,hs2,h1,hbn,htake,hg,aS]
     ·simp [bF,hne,hp,h0,hl1,e1,e2,hpl,hs1,hs2,h1,h2,h3,hbn,htake,hg,aS]
 ·rw [if_neg h60]
  have hs1:(60:Int)<s.length:=by omega
  have hs2:60<s.length:=by omega
  clear hplace hc1 hc0 hsl hcl hlt hltn htake hbn
  unfold gdD qZ at *
  refine aj (lI ..) ?_
  rcases hsign with ⟨rfl,hne,h0,htt,hp⟩ | ⟨rfl,rfl,rfl | ⟨hne,hp,h0⟩⟩
  ·have hb1:=hb1 hne
   have ⟨htl,htl2,htl3,htl4⟩:=htl htt
   simp [bF,hne,hp,h0,hb1,htl,htl2,htl3,htl4,hl1,e1,e2,hpl,hs1,hs2,aS]
  ·simp at hs2
  ·simp [bF,hne,hp,h0,hl1,e1,e2,hpl,hs1,hs2,aS]
end Go.Ev.Code
end
section
namespace Go.Ev.Code
open Go Go.Ev
structure Lone (b:aA):Prop where
 m1:20000≤b.bU
 m2:b.bU≤99999
 i1:b.issue<b.bU
 i2:b.bU≤b.issue+150
 fr:b.bG=2
 cp:b.aY=[53]
 rd:b.bJ=[49,48,48]
 ct:b.count=1
 s1:1≤b.stub
 s2:b.stub≤2
 ex:b.ex=0
theorem Lone.day {b:aA} (h:Lone b):aU b.bU:=⟨by have := h.m1; omega,by have := h.m2; omega⟩
theorem Lone.XQ {b:aA} (h:Lone b):aU b.issue:=⟨by have := h.m1; have := h.i2; omega,by have := h.m2; have := h.i1; omega⟩
theorem Lone.mo {b:aA} (h:Lone b):months b=6:=by unfold months; rw [h.fr]; rfl
end Go.Ev.Code
end
section
namespace Go.Ev.Code
open Go Go.Ev
theorem alW {a b:Int} (ha:aU a) (hb:aU b):L.call sO [.int .i64 a,.int .i64 b]=some (.int .i64 (sU a b)):=by
 have i1:=lM a
 have i2:=lM b
 rw [decide_eq_true ha] at i1
 rw [decide_eq_true hb] at i2
 obtain ⟨y,m,d,hc,hd,ho⟩:=eu ha
 obtain ⟨y',m',d',hc',hd',ho'⟩:=eu hb
 have c1:=zS hc
 have c2:=zS hc'
 rw [← hd] at c1
 rw [← hd'] at c2
 unfold mJ at c1 c2
 unfold sU
 rw [ho,ho']
 simp only
 have a1:=hc.y1; have a2:=hc.y2; have a3:=hc.m1; have a4:=hc.m2
 have b1:=hc'.y1; have b2:=hc'.y2; have b3:=hc'.m1; have b4:=hc'.m2
 have e1:IntKind.i64.wrap ((y':Int)-y)=(y':Int)-y:=wrap64 _ (by omega)
 have e2:IntKind.i64.wrap (12*((y':Int)-y))=12*((y':Int)-y):=wrap64 _ (by omega)
 have e3:IntKind.i64.wrap (12*((y':Int)-y)+m')=12*((y':Int)-y)+m':=wrap64 _ (by omega)
 have e4:IntKind.i64.wrap (12*((y':Int)-y)+m'-m)=12*((y':Int)-y)+m'-m:=wrap64 _ (by omega)
 have e5:12*((y':Int)-y)+m'-m=((y'*12+m':Nat):Int)-((y*12+m:Nat):Int):=by omega
 rw [← e5]
 refine aj (acU ..) ?_
 simp [PN,i1,i2,c1,c2,e1,e2,e3,e4]
theorem Rk (b:aA):L.call y7 [aC b]=some (.int .i64 (months b)):=by
 obtain ⟨i,m,f,c,r,n,s,e,x⟩:=b
 unfold months aC ay
 refine aj (acR ..) ?_
 simp only
 by_cases h1:f=1
 ·subst h1; simp [kV,wrap64]
 by_cases h2:f=2
 ·subst h2; simp [kV,wrap64]
 by_cases h4:f=4
 ·subst h4; simp [kV,wrap64]
 by_cases h12:f=12
 ·subst h12; simp [kV,wrap64]
 ·simp [kV,h1,h2,h4,h12]
def jl:Err→D
 | none => .aG [.int .i64 0,.str []]
 | some (c,s) => .aG [.int .i64 c,.str s]
theorem akw {b:aA} (hs:Bf b=none) {n1 n2:Bool} {l1 l2 l3 l4:Nat} {c1 c2 c3 c4:List D}
  (w1:L.call jy [.str b.aY,.int .i64 0,.int .i64 30,.bool true]=some (.aG [.agg [.bool n1,.sl l1 c1,.sl l2 c2],.int .i64 0]))
  (w2:L.call jy [.str b.bJ,.int .i64 0,.int .i64 200,.bool false]=some (.aG [.agg [.bool n2,.sl l3 c3,.sl l4 c4],.int .i64 0])) :
  L.call oK [aC b]=some (jl (chk b)):=by
 have i1:=lM b.issue
 have i2:=lM b.bU
 have ha:=CG b.issue 360 false
 have hm:=Rk b
 have hbt:aU b.issue→aU b.bU→L.call sO [.int .i64 b.issue,.int .i64 b.bU]=some (.int .i64 (sU b.issue b.bU)):=alW
 have hmc:=pX b
 have hbb := @auF b.issue b.bU
 unfold chk Em aeL
 rw [hs]
 generalize pF b.issue 360 false=ad at *
 generalize months b=mo at *
 obtain ⟨i,m,f,c,r,n,s,e,x⟩:=b
 unfold aC ay at *
 simp only at *
 refine aj (PW ..) ?_
 by_cases d1:aU i
 ·rw [if_neg (fun h=>h d1)]
  rw [decide_eq_true d1] at i1
  by_cases d2:aU m
  ·rw [if_neg (fun h=>h d2)]
   rw [decide_eq_true d2] at i2
   by_cases d3:m≤i
   ·rw [if_pos d3]
    cases ad with
    | none=>simp [okD] at ha; simp [aJ,i1,i2,ha,d3,jl,vN]
    | some a=>simp [okD] at ha; simp [aJ,i1,i2,ha,d3,jl,vN]
   ·rw [if_neg d3]
    have hbt:=hbt d1 d2
    have hbb:=hbb d1 d2
    have rest:∀ (a:Int) (ok:Bool),L.call iT [.int .i64 i,.int .i64 360,.bool false]=some (.aG [.int .i64 a,.bool ok])→¬ (ok=true∧a<m) →
      bd (aJ [] L (.agg [.int .i64 i,.int .i64 m,.int .i64 f,.str c,.str r,.int .i64 n,.int .i64 s,.bool e,.int .i64 x])) fin=some (jl (if mo=0 then some (5,abw) else if ¬ (1≤n∧n≤4) then some (5,ZQ) else if s<0∨2<s then some (5,IL) else if x<0∨30<x then some (5,tEx)
       else if 200<(sU i m).tdiv mo+2 then some (5,ahS) else none)):=by
     intro a ok ha hno
     have hcase:ok=false∨(ok=true∧¬ a<m):=by
      cases ok with
      | false=>exact .inl rfl
      | true=>exact .inr ⟨rfl,fun h=>hno ⟨rfl,h⟩⟩
     by_cases h0:mo=0
     ·rw [if_pos h0]
      rcases hcase with rfl | ⟨rfl,hlt⟩
      ·simp [aJ,i1,i2,ha,d3,hm,h0,jl,abw]
      ·simp [aJ,i1,i2,ha,d3,hlt,hm,h0,jl,abw]
     rw [if_neg h0]
     have hq:=avj hbb (show mo=1∨mo=3∨mo=6∨mo=12 by omega)
     by_cases h1:n<1
     ·rw [if_pos (by omega)]
      rcases hcase with rfl | ⟨rfl,hlt⟩
      ·simp [aJ,i1,i2,ha,d3,hm,h0,w1,w2,h1,jl,ZQ]
      ·simp [aJ,i1,i2,ha,d3,hlt,hm,h0,w1,w2,h1,jl,ZQ]
     by_cases h1':4<n
     ·rw [if_pos (by omega)]
      rcases hcase with rfl | ⟨rfl,hlt⟩
      ·simp [aJ,i1,i2,ha,d3,hm,h0,w1,w2,h1,h1',jl,ZQ]
      ·simp [aJ,i1,i2,ha,d3,hlt,hm,h0,w1,w2,h1,h1',jl,ZQ]
     rw [if_neg (by omega)]
     by_cases h2:s<0
     ·rw [if_pos (.inl h2)]
      rcases hcase with rfl | ⟨rfl,hlt⟩
      ·simp [aJ,i1,i2,ha,d3,hm,h0,w1,w2,h1,h1',h2,jl,IL]
      ·simp [aJ,i1,i2,ha,d3,hlt,hm,h0,w1,w2,h1,h1',h2,jl,IL]
     by_cases h2':2<s
     ·rw [if_pos (.inr h2')]
      rcases hcase with rfl | ⟨rfl,hlt⟩
      ·simp [aJ,i1,i2,ha,d3,hm,h0,w1,w2,h1,h1',h2,h2',jl,IL]
      ·simp [aJ,i1,i2,ha,d3,hlt,hm,h0,w1,w2,h1,h1',h2,h2',jl,IL]
     rw [if_neg (by omega)]
     by_cases h3:x<0
     ·rw [if_pos (.inl h3)]
      rcases hcase with rfl | ⟨rfl,hlt⟩
      ·simp [aJ,i1,i2,ha,d3,hm,h0,w1,w2,h1,h1',h2,h2',h3,jl,tEx]
      ·simp [aJ,i1,i2,ha,d3,hlt,hm,h0,w1,w2,h1,h1',h2,h2',h3,jl,tEx]
     by_cases h3':30<x
     ·rw [if_pos (.inr h3')]
      rcases hcase with rfl | ⟨rfl,hlt⟩
      ·simp [aJ,i1,i2,ha,d3,hm,h0,w1,w2,h1,h1',h2,h2',h3,h3',jl,tEx]
      ·simp [aJ,i1,i2,ha,d3,hlt,hm,h0,w1,w2,h1,h1',h2,h2',h3,h3',jl,tEx]
     rw [if_neg (by omega)]
     have e1:IntKind.i64.wrap ((sU i m).tdiv mo)=(sU i m).tdiv mo:=wrap64 _ (by omega)
     have e2:IntKind.i64.wrap ((sU i m).tdiv mo+2)=(sU i m).tdiv mo+2:=wrap64 _ (by omega)
     obtain ⟨t,ht⟩:∃ t,(sU i m).tdiv mo=t:=⟨_,rfl⟩
     rw [ht] at e1 e2 hq ⊢
     obtain ⟨pp,hpp⟩:∃ pp,t+2=pp:=⟨_,rfl⟩
     have e2:IntKind.i64.wrap (t+2)=pp:=by rw [e2,hpp]
     rw [hpp]
     by_cases h4:200<pp
     ·rw [if_pos h4]
      rcases hcase with rfl | ⟨rfl,hlt⟩
      ·simp [aJ,i1,i2,ha,d3,hm,h0,w1,w2,h1,h1',h2,h2',h3,h3',hbt,ht,e1,e2,h4,jl,ahS]
      ·simp [aJ,i1,i2,ha,d3,hlt,hm,h0,w1,w2,h1,h1',h2,h2',h3,h3',hbt,ht,e1,e2,h4,jl,ahS]
     ·rw [if_neg h4]
      rcases hcase with rfl | ⟨rfl,hlt⟩
      ·simp [aJ,i1,i2,ha,d3,hm,h0,w1,w2,h1,h1',h2,h2',h3,h3',hbt,ht,e1,e2,h4,jl]
      ·simp [aJ,i1,i2,ha,d3,hlt,hm,h0,w1,w2,h1,h1',h2,h2',h3,h3',hbt,ht,e1,e2,h4,jl]
    cases ad with
    | none=>exact rest 0 false ha (by simp)
    | some a =>
      by_cases d4:(a:Int)<m
      ·simp only [if_pos d4]
       simp [okD] at ha
       simp [aJ,i1,i2,ha,d3,d4,jl,vN]
      ·simp only [if_neg d4]
       exact rest a true ha (by simpa using d4)
  ·rw [if_pos d2]
   rw [decide_eq_false d2] at i2
   simp [aJ,i1,i2,jl,vN]
 ·rw [if_pos d1]
  rw [decide_eq_false d1] at i1
  simp [aJ,i1,jl,amd]
structure Long (b:aA) (A:Nat) (k:Int):Prop where
 i1:0≤b.issue
 i2:b.issue≤97572
 fr:vO b.bG
 cp:b.aY=[53]
 rd:b.bJ=[49,48,48]
 ct:b.count=4
 st:b.stub=1
 ex:b.ex=0
 hA:pF b.issue 360 false=some A
 k1 : -2≤k
 k2:k≤2
 mt:b.bU=A+k
theorem azW:mi 97572≤26010:=by decide +kernel
theorem aya:26370<mi 109400:=by decide +kernel
theorem Long.XQ {b:aA} {A:Nat} {k:Int} (h:Long b A k):aU b.issue:=⟨h.i1,by have := h.i2; omega⟩
theorem Long.mi1 {b:aA} {A:Nat} {k:Int} (h:Long b A k):mi b.issue≤26010:=by
 have h1:=La h.XQ (b:=97572) (by decide) h.i2
 have := azW
 omega
theorem Long.miA {b:aA} {A:Nat} {k:Int} (h:Long b A k):(mi A:Int)=mi b.issue+360∧aU A:=⟨O3 h.hA,S_ h.hA⟩
theorem Long.day {b:aA} {A:Nat} {k:Int} (h:Long b A k):aU b.bU∧b.issue<b.bU:=by
 obtain ⟨h1,h2⟩:=h.miA
 have h3:=h.mi1
 have h4:=aya
 have h5:=YO h2 (b:=109400) (by decide) (by omega)
 have h6:=aBN h.XQ h2 (by omega)
 have := h.k1; have := h.k2; have := h.mt; have := h.i1
 exact ⟨⟨by omega,by omega⟩,by omega⟩
end Go.Ev.Code
end
section
namespace Go.Ev.Code
open Go Go.Ev
theorem Ar (b:aA) {k:Nat} (hk:k≤100000):L.call sH [aC b,.int .i64 k]=some (okD (anch b k)):=by
 have hm:=Rk b
 have ha:=CG b.bU (-(k:Int)*months b) b.ends
 have hmc:=pX b
 have e1:IntKind.i64.wrap (-(k:Int)) = -(k:Int):=wrap64 _ (by omega)
 have e0:IntKind.i64.wrap (0-(k:Int)) = -(k:Int):=by rw [wrap64 _ (by omega)]; omega
 have e2:IntKind.i64.wrap (-(k:Int)*months b) = -(k:Int)*months b:=by
  refine wrap64 _ ?_
  rcases hmc with h | h | h | h | h <;> rw [h] <;> omega
 unfold anch
 generalize hx : -(k:Int)*months b=x at *
 generalize hr:pF b.bU x b.ends=r at *
 generalize months b=mo at *
 obtain ⟨i,m,f,c,rd,n,s,e,ex⟩:=b
 unfold aC ay at *
 simp only at *
 refine aj (acP ..) ?_
 have e2':IntKind.i64.wrap (-((k:Int)*mo))=x:=by rw [← e2,← hx,Int.neg_mul]
 have hx' : -((k:Int)*mo)=x:=by rw [← hx,Int.neg_mul]
 cases r with
 | none=>simp [okD] at ha; simp [D_,hm,e0,e1,e2,e2',hx,hx',ha,okD]
 | some d=>simp [okD] at ha; simp [D_,hm,e0,e1,e2,e2',hx,hx',ha,okD]
theorem aAf {b:aA} {K:Nat} (hK:K≤90000) (hgo:∀ i,i<K→∃ d,anch b i=some d∧b.issue≤(d:Int)) (hst:∀ d,anch b K=some d→(d:Int)<b.issue):∀ (j k:Nat),k+j=K→1≤k →
  L.loop [1,4,5] [1,4] lN 1 [.loc 0 0,.aO 1 0 k 1,.int .i64 k] [.live (ay b),.live (ints (dW b k))] =
    some (.exit 0,[.loc 0 0,.aO 1 0 K 1],[.live (ay b),.live (ints (dW b K))]):=by
 intro j
 induction j with
 | zero =>
   intro k hk h1
   have hkK:k=K:=by omega
   subst hkK
   have ha:=Ar b (k:=k) (by omega)
   have hcl:=BJ (dW b k) 1 11
   have hl:(ints (dW b k)).length=k:=by rw [yE,pR]
   generalize ints (dW b k)=l at *
   generalize hr:anch b k=r at *
   obtain ⟨i,m,f,c,rd,n,s,e,ex⟩:=b
   unfold aC ay at *
   simp only at *
   refine au (Bo ..) ?_
   cases r with
   | none=>simp [okD] at ha; simp [nT,ha,hcl]
   | some d =>
     have g:(d:Int)<i:=hst d rfl
     simp [okD] at ha; simp [nT,ha,g,hcl]
 | succ j ih =>
   intro k hk h1
   have hn:=ih (k+1) (by omega) (by omega)
   have ha:=Ar b (k:=k) (by omega)
   obtain ⟨d,hd,hdi⟩:=hgo k (by omega)
   rw [aaB,hd,Option.getD_some,ake] at hn
   rw [hd] at ha
   have hcl:=BJ (dW b k) 1 11
   have hl:(ints (dW b k)).length=k:=by rw [yE,pR]
   generalize ints (dW b k)=l at *
   generalize ints (dW b K)=lK at *
   have htk:l.take k=l:=List.take_of_length_le (by omega)
   have hlen:k+1≤4294967296:=by omega
   have e1:IntKind.i64.wrap ((k:Int)+1)=((k+1:Nat):Int):=by rw [wrap64 _ (by omega)]; omega
   obtain ⟨i,m,f,c,rd,n,s,e,ex⟩:=b
   unfold aC ay at *
   simp only at *
   simp [okD] at ha hn
   have g:¬ (d:Int)<i:=by omega
   refine au (Bo ..) ?_
   simp [nT,ha,g,hcl,htk,hl,hlen,e1,f_,hn]
theorem avb {b:aA} {K:Nat} (hK:K≤90000) (h1:1≤K) (hgo:∀ i,i<K→∃ d,anch b i=some d∧b.issue≤(d:Int)) (hst:∀ d,anch b K=some d→(d:Int)<b.issue) :
  L.loop [1,4,5] [1,4] lN 1 [.loc 0 0,.dh,.int .i64 0] [.live (ay b)] =
    some (.exit 0,[.loc 0 0,.aO 1 0 K 1],[.live (ay b),.live (ints (dW b K))]):=by
 have hn:=aAf hK hgo hst (K-1) 1 (by omega) (by omega)
 have ha:=Ar b (k:=0) (by omega)
 obtain ⟨d,hd,hdi⟩:=hgo 0 (by omega)
 rw [show dW b 1=[(anch b 0).getD 0] by simp [dW],hd,Option.getD_some,show ((1:Nat):Int)=1 from rfl] at hn
 rw [hd] at ha
 generalize ints (dW b K)=lK at *
 obtain ⟨i,m,f,c,rd,n,s,e,ex⟩:=b
 unfold aC ay at *
 simp only at *
 simp [okD,ints] at ha hn
 have g:¬ (d:Int)<i:=by omega
 refine au (Bo ..) ?_
 simp [nT,ha,g,f_,wrap64,hn]
theorem aAg {b:aA} {days:List Nat} (hd:days.length≤90000):∀ (r:List Nat) (f:Nat) (done:List Nat) (acc:List (Int×Int)),days=r.reverse++f::done→acc≠[]→acc.length+r.length≤90000 →
  L.loop [1,4,8,9] [1,4,8] jY 2 [.loc 0 0,.aO 1 0 days.length 1,.aO 2 0 acc.length 2,.int .i64 r.length] [.live (ay b),.live (ints days),.live (aX acc)] =
    some (.exit 2,[.loc 0 0,.aO 1 0 days.length 1,.aO 2 0 (acc.length+r.length) 2],[.live (ay b),.live (ints days),.live (aX (acc++dY f r))]):=by
 have hcl:=BJ days 2 11
 have hbc:=iO b 2
 intro r
 induction r with
 | nil =>
   intro f done acc hdd hne hal
   have hpc:=gZ acc 2 11
   simp only [dY,List.append_nil,List.length_nil,Nat.add_zero]
   generalize ay b=B at *
   generalize aX acc=pc at *
   generalize ints days=id at *
   generalize days.length=K at *
   refine au (tX ..) ?_
   simp [nU,hcl,hbc,hpc]
 | cons q r ih =>
   intro f done acc hdd hne hal
   rw [List.length_cons] at hal
   have hdd2:days=r.reverse++q::(f::done):=by rw [hdd]; simp
   have hn:=ih q (f::done) (acc++[((f:Int),(q:Int))]) hdd2 (by simp) (by simp; omega)
   have hmk:acc++dY f (q::r)=acc++[((f:Int),(q:Int))]++dY q r:=by simp [dY]
   rw [← hmk] at hn
   have hl2:days.length=r.length+1+(done.length+1):=by rw [hdd]; simp; omega
   have g1:(ints days)[r.length+1]?=some (.int .i64 f):=by rw [hdd]; simp [ints]
   have g2:(ints days)[r.length]?=some (.int .i64 q):=by rw [hdd2]; simp [ints]
   have hpc:=gZ acc 2 11
   rw [akt] at hn
   have hpl:=Fg acc
   rw [show aX [((f:Int),(q:Int))]=[.int .i64 f,.int .i64 q] from rfl,List.length_append,List.length_singleton,show acc.length+1+r.length=acc.length+(r.length+1) by omega] at hn
   have htk:(aX acc).take (acc.length*2)=aX acc:=List.take_of_length_le (by omega)
   have hlen:acc.length+1≤4294967296:=by omega
   rw [List.length_cons]
   obtain ⟨P,hP⟩:∃ P,P=r.length+1:=⟨_,rfl⟩
   have e1:IntKind.i64.wrap ((P:Int)-1)=(r.length:Int):=by rw [wrap64 _ (by omega)]; omega
   rw [← hP] at g1 hn ⊢
   have h1:P<days.length:=by omega
   have h2:r.length<days.length:=by omega
   have h1I:(P:Int)<(days.length:Int):=by omega
   have h2I:(r.length:Int)<(days.length:Int):=by omega
   have h0:(0:Int)<(P:Int):=by omega
   have h0n:0<P:=by omega
   clear hmk hdd hdd2 ih hP hl2
   generalize aX (acc++dY f (q::r))=pz at *
   generalize aX acc=pc at *
   generalize ay b=B at *
   generalize ints days=id at *
   generalize days.length=K at *
   generalize acc.length=M at *
   generalize r.length=R at *
   refine au (tX ..) ?_
   simp [nU,hcl,hbc,hpc,h0,h0n,h1,h2,h1I,h2I,g1,g2,e1,oW,htk,hpl,hlen,hn]
theorem avc {b:aA} {days:List Nat} (hd:days.length≤90000) {q:Nat} {r:List Nat} {f:Nat} (hdd:days=(q::r).reverse++[f]) :
  L.loop [1,4,8,9] [1,4,8] jY 2 [.loc 0 0,.aO 1 0 days.length 1,.dh,.int .i64 ((r.length+1:Nat):Int)] [.live (ay b),.live (ints days)] =
    some (.exit 2,[.loc 0 0,.aO 1 0 days.length 1,.aO 2 0 (r.length+1) 2],[.live (ay b),.live (ints days),.live (aX (dY f (q::r)))]):=by
 have hcl:=BJ days 2 11
 have hbc:=iO b 2
 have hdd2:days=r.reverse++q::[f]:=by rw [hdd]; simp
 have hl2:days.length=r.length+2:=by rw [hdd]; simp
 have hn:=aAg (b:=b) hd r q [f] [((f:Int),(q:Int))] hdd2 (by simp) (by simp; omega)
 rw [show [((f:Int),(q:Int))]++dY q r=dY f (q::r) from rfl,show aX [((f:Int),(q:Int))]=[.int .i64 f,.int .i64 q] from rfl,List.length_singleton,Nat.add_comm 1 r.length] at hn
 have g1:(ints days)[r.length+1]?=some (.int .i64 f):=by rw [hdd]; simp [ints]
 have g2:(ints days)[r.length]?=some (.int .i64 q):=by rw [hdd2]; simp [ints]
 obtain ⟨P,hP⟩:∃ P,P=r.length+1:=⟨_,rfl⟩
 have e1:IntKind.i64.wrap ((P:Int)-1)=(r.length:Int):=by rw [wrap64 _ (by omega)]; omega
 rw [← hP] at g1 hn ⊢
 have h1:P<days.length:=by omega
 have h2:r.length<days.length:=by omega
 have h1I:(P:Int)<(days.length:Int):=by omega
 have h2I:(r.length:Int)<(days.length:Int):=by omega
 have h0:(0:Int)<(P:Int):=by omega
 have h0n:0<P:=by omega
 clear hdd hdd2 hP hl2
 generalize aX (dY f (q::r))=pz at *
 generalize ay b=B at *
 generalize ints days=id at *
 generalize days.length=K at *
 generalize r.length=R at *
 refine au (tX ..) ?_
 simp [nU,hcl,hbc,h0,h0n,h1,h2,h1I,h2I,g1,g2,e1,oW,hn]
def ZC:Err×List (Int×Int)→D
 | (none,ps) => .aG [dO ps,.bool true]
 | (some _,_) => .aG [.sl 0 [],.bool false]
theorem Xj {b:aA} (hchk:chk b=none):L.call fQ [aC b]=some (ZC (aF b)):=by
 have hm:=(bV hchk).2.1
 obtain ⟨k1,k2,k3⟩:=QF hm
 have kp:=O9 hchk
 have k199:=ax0 hchk
 unfold aF
 rw [hchk]
 simp only
 by_cases hh:QD b=true
 ·
  rw [if_pos hh]
  obtain ⟨c,hc,hci⟩:∃ c,anch b (bI b)=some c∧(c:Int)=b.issue:=by
   unfold QD at hh
   split at hh
   ·rename_i d hd; exact ⟨d,hd,by simpa using hh⟩
   ·simp at hh
  have hgo:∀ i,i<bI b+1→∃ d,anch b i=some d∧b.issue≤(d:Int):=by
   intro i hi
   rcases Nat.lt_or_eq_of_le (Nat.lt_succ_iff.1 hi) with h | h
   ·obtain ⟨d,h1,h2⟩:=k1 i h
    exact ⟨d,h1,by omega⟩
   ·rw [h]; exact ⟨c,hc,by omega⟩
  have hst:∀ d,anch b (bI b+1)=some d→(d:Int)<b.issue:=by
   intro d hd
   have := ah7 hm (Nat.lt_succ_self _) hc hd
   omega
  have l1:=avb (b:=b) (K:=bI b+1) (by omega) (by omega) hgo hst
  have hraw:dR b=dY c (dW b (bI b)).reverse:=by unfold dR; rw [hci]
  have hne:(dW b (bI b)).reverse≠[]:=by
   intro h
   have := congrArg List.length h
   rw [List.length_reverse,pR] at this
   simp at this; omega
  obtain ⟨q,r,hqr⟩:=List.exists_cons_of_ne_nil hne
  have hdd:dW b (bI b+1)=(q::r).reverse++[c]:=by rw [← hqr,List.reverse_reverse,aaB,hc]; rfl
  have hlen:=pR b (bI b+1)
  have hrl:r.length+1=bI b:=by
   have := congrArg List.length hqr
   rw [List.length_reverse,pR] at this
   simp at this; omega
  have l2:=avc (b:=b) (days:=dW b (bI b+1)) (by omega) hdd
  rw [hlen,hrl] at l2
  rw [hqr] at hraw
  rw [← hraw] at l2
  have hg:(ints (dW b (bI b+1)))[bI b]?=some (.int .i64 c):=by
   rw [aaB,hc,ake,Option.getD_some,List.getElem?_append_right (by rw [yE,pR]; omega),yE,pR]
   simp
  have hpl:=Fg (dR b)
  have hrp:=uh b
  rw [hrp] at hpl
  have htk:(aX (dR b)).take (bI b*2)=aX (dR b):=List.take_of_length_le (by omega)
  have hfz:∀ m,jd (fz 10) (aX (dR b)) m=some (aX (dR b),m):=fun m=>OD (dR b) 9 m
  have hpc:=gZ (dR b) 0 11
  show L.call fQ [aC b]=some (D.aG [dO (dR b),.bool true])
  unfold dO
  rw [hrp]
  generalize aX (dR b)=pc at *
  generalize ints (dW b (bI b+1))=id at *
  clear hgo hst k1 k2 hdd hqr hraw hne hrl hlen hc
  generalize bI b=K at *
  have e1:IntKind.i64.wrap (((K+1:Nat):Int)-1)=(K:Int):=by rw [wrap64 _ (by omega)]; omega
  have e1':IntKind.i64.wrap ((K:Int)+1-1)=(K:Int):=by rw [wrap64 _ (by omega)]; omega
  have e1'':IntKind.i64.wrap (K:Int)=(K:Int):=wrap64 _ (by omega)
  have hKI:(K:Int)<(K:Int)+1:=by omega
  obtain ⟨i,m,f,cp,rd,n,s,e,ex⟩:=b
  unfold aC ay at *
  simp only at *
  refine aj (Hw ..) ?_
  simp [jB,l1,e1,e1',e1'',l2,hg,hKI,hci,hpc,hpl,hfz,htk]
 ·rw [if_neg hh]
  have hgo:∀ i,i<bI b→∃ d,anch b i=some d∧b.issue≤(d:Int):=by
   intro i hi
   obtain ⟨d,h1,h2⟩:=k1 i hi
   exact ⟨d,h1,by omega⟩
  have hst:∀ d,anch b (bI b)=some d→(d:Int)<b.issue:=by
   intro d hd
   have h1:¬ b.issue<(d:Int):=fun h=>k2 ⟨d,hd,h⟩
   have h2:(d:Int)≠b.issue:=by
    intro h
    apply hh
    unfold QD
    rw [hd]
    simpa using h
   omega
  have l1:=avb (b:=b) (K:=bI b) (by omega) kp hgo hst
  have hlen:=pR b (bI b)
  have hne:(dW b (bI b)).reverse≠[]:=by
   intro h
   have := congrArg List.length h
   rw [List.length_reverse,hlen] at this
   simp at this; omega
  obtain ⟨c,r0,hqr⟩:=List.exists_cons_of_ne_nil hne
  have hdd0:dW b (bI b)=r0.reverse++[c]:=by
   have := congrArg List.reverse hqr
   rw [List.reverse_reverse] at this
   rw [this]; simp
  have hrl:r0.length+1=bI b:=by
   have := congrArg List.length hqr
   rw [List.length_reverse,hlen] at this
   simp at this; omega
  have hraw:dR b=(b.issue,(c:Int))::dY c r0:=by unfold dR; rw [hqr]; rfl
  have hg:(ints (dW b (bI b)))[r0.length]?=some (.int .i64 c):=by
   rw [hdd0]; simp [ints]
  have hci:¬ (c:Int)=b.issue:=by
   intro h
   have h1:=k1 (bI b-1) (by omega)
   obtain ⟨d,h2,h3⟩:=h1
   have h4:(dW b (bI b))[bI b-1]?=some d:=by
    unfold dW
    rw [List.getElem?_map,List.getElem?_range (by omega)]
    simp [h2]
   rw [hdd0,show bI b-1=r0.length by omega] at h4
   simp at h4
   omega
  rw [hraw]
  have hb2:=iO b 2
  cases r0 with
  | nil =>
    have hK:bI b=1:=by simpa using hrl.symm
    rw [hK] at l1 hg
    simp only [List.length_nil] at hg
    have l2:L.loop [1,4,8,9] [1,4,8] jY 2 [.loc 0 0,.aO 1 0 1 1,.dh,.int .i64 0] [.live (ay b),.live (ints (dW b 1))] =
      some (.exit 2,[.loc 0 0,.aO 1 0 1 1,.dh],[.live (ay b),.live (ints (dW b 1))]):=by
     have hcl:=BJ (dW b 1) 2 11
     generalize ints (dW b 1)=id at *
     generalize ay b=B at *
     refine au (tX ..) ?_
     simp [nU,hcl,hb2]
    simp only [dY]
    generalize ints (dW b 1)=id at *
    clear hgo hst k1 k2 hqr hraw hne hrl hlen hdd0
    have e0:IntKind.i64.wrap 0=0:=by decide
    obtain ⟨i,m,f,cp,rd,n,s,e,ex⟩:=b
    unfold aC ay at *
    simp only at *
    refine aj (Hw ..) ?_
    by_cases hs0:s=0
    ·subst hs0
     simp [jB,l1,e0,l2,hg,hci,ZC]
    ·by_cases hs2:s=2
     ·subst hs2
      simp [jB,l1,e0,l2,hg,hci,ZC,dO,aX,oW]
     ·simp [jB,l1,e0,l2,hg,hci,ZC,hs0,hs2,dO,aX,oW]
  | cons q r =>
    rw [List.length_cons] at hrl hg
    have l2:=avc (b:=b) (days:=dW b (bI b)) (by omega) hdd0
    rw [hlen] at l2
    have hK2:bI b=r.length+1+1:=hrl.symm
    have hml:=aeC c (q::r)
    rw [List.length_cons] at hml
    show L.call fQ [aC b]=some (ZC (if b.stub=0 then (some (5,IL),[]) else if b.stub=2 then (none,(b.issue,(q:Int))::dY q r) else (none,(b.issue,(c:Int))::dY c (q::r))))
    obtain ⟨p,hp⟩:∃ p,p=dY c (q::r):=⟨_,rfl⟩
    rw [← hp] at l2 hml ⊢
    have hp0:p=((c:Int),(q:Int))::dY q r:=hp
    have hmr:=aeC q r
    have hpl:=Fg p
    rw [hml] at hpl
    have hpr:=Fg (dY q r)
    rw [hmr] at hpr
    have hpe:aX p = .int .i64 c :: .int .i64 q::aX (dY q r):=by rw [hp0]; rfl
    have htk:(aX p).take ((r.length+1)*2)=aX p:=List.take_of_length_le (by omega)
    have hfz:∀ m,jd (fz 10) (aX p) m=some (aX p,m):=fun m=>OD p 9 m
    have hpc:=gZ p 0 11
    have hfr:∀ m,jd (fz 10) (aX (dY q r)) m=some (aX (dY q r),m):=fun m=>OD _ 9 m
    have hpcr:=gZ (dY q r) 0 11
    have htr:(aX (dY q r)).take (r.length*2)=aX (dY q r):=List.take_of_length_le (by omega)
    rw [hK2] at l1 l2 hg
    generalize ints (dW b (r.length+1+1))=id at *
    clear hgo hst k1 k2 hqr hraw hne hlen hdd0 hp
    have e1:IntKind.i64.wrap (((r.length+1+1:Nat):Int)-1)=((r.length+1:Nat):Int):=by rw [wrap64 _ (by omega)]; omega
    have h1:r.length+1<r.length+1+1:=by omega
    have h1I:((r.length+1:Nat):Int)<((r.length+1+1:Nat):Int):=by omega
    have h0I:(0:Int)<((r.length+1:Nat):Int):=by omega
    have hR2:(r.length+1)*2=r.length*2+1+1:=by omega
    have hmx:r.length+1≤4294967296:=by omega
    have hmx2:1+(r.length+1)≤4294967296:=by omega
    obtain ⟨P,hP⟩:∃ P,P=r.length+1:=⟨_,rfl⟩
    obtain ⟨P2,hP2⟩:∃ P2,P2=r.length+1+1:=⟨_,rfl⟩
    rw [← hP2] at l1 l2 e1 h1 h1I
    rw [← hP] at l2 hg e1 h1 h1I h0I htk hpl hmx hmx2 hR2 hml
    have h0n:0<P:=by omega
    obtain ⟨i,m,f,cp,rd,n,s,e,ex⟩:=b
    unfold aC ay at *
    simp only at *
    refine aj (Hw ..) ?_
    by_cases hs0:s=0
    ·subst hs0
     rw [if_pos rfl]
     simp [jB,l1,e1,l2,hg,h1,h1I,hci,ZC]
    ·rw [if_neg hs0]
     by_cases hs2:s=2
     ·subst hs2
      rw [if_pos rfl]
      rw [hpe] at l2
      have hb1:P*2≤(aX (dY q r)).length+1+1:=by omega
      have hPr:r.length+1=P:=hP.symm
      simp [jB,l1,e1,l2,hg,h1,h1I,h0I,h0n,hci,ZC,dO,aX,hfr,hpcr,htr,hR2,hb1,hpr,hmr,hPr]
     ·rw [if_neg hs2]
      have h1P:1+P=P+1:=Nat.add_comm 1 P
      have hP13:(P+1)*2=P*2+1+1:=by omega
      have hP5:P≤4294967295:=by omega
      simp [jB,l1,e1,l2,hg,h1,h1I,h0I,h0n,hci,ZC,hs0,hs2,dO,aX,oW,hpc,hfz,htk,hpl,hmx,hmx2,hml,h1P,hP13,hP5]
end Go.Ev.Code
end
section
namespace Go.Ev.Code
open Go Go.Ev
theorem Zd (s:List UInt8) {n:Nat} (hn:n≤1000000):L.call FB [.str s,.int .i64 n]=some (.str (s.take n)):=by
 have hb:gK false true s.length [.int .i64 (min (s.length:Int) n)]=some (0,min s.length n):=by
  have h1:(0:Int)≤min (s.length:Int) n:=by omega
  have h2:min (s.length:Int) n≤s.length:=by omega
  have h3:(min (s.length:Int) n).toNat=min s.length n:=by omega
  simp only [gK,bnd,h1,h2,and_self,if_true,h3,Option.bind_some]
 have ht:s.take (min s.length n)=s.take n:=by
  rcases Nat.le_total s.length n with h | h
  ·rw [Nat.min_eq_left h,List.take_of_length_le (Nat.le_refl _),List.take_of_length_le h]
  ·rw [Nat.min_eq_right h]
 refine aj (agj ..) ?_
 simp [VU,hb,ht]
def nG (b:aA):aA:={ b with aY:=b.aY.take 30,bJ:=b.bJ.take 30 }
theorem QG (b:aA):L.call Fv [aC b]=some (aC (nG b)):=by
 obtain ⟨i,m,f,c,rd,n,s,e,ex⟩:=b
 have h1:=Zd c (n:=30) (by decide)
 have h2:=Zd rd (n:=30) (by decide)
 unfold nG aC ay
 simp only
 simp at h1 h2
 refine aj (agh ..) ?_
 simp [VR,h1,h2]
end Go.Ev.Code
end
section
namespace Go.Ev.Code
open Go Go.Ev
theorem aCO (p:Nat):NB (4*p+1) (10^p):=by
 unfold NB
 have h1:10^p≤16^p:=Nat.pow_le_pow_left (by decide) p
 have h2:(16:Nat)^p=2^(4*p):=by rw [Nat.pow_mul]
 have h3:(2:Nat)^(4*p)<2^(4*p+1):=Nat.pow_lt_pow_right (by decide) (by omega)
 omega
theorem amQ {s:List UInt8} {n:Int} {p:Nat} (h:MV s=some (n,p)):QB 300 n (10^p)∧p≤20:=by
 unfold MV at h
 split at h <;> try (simp at h; done)
 rename_i hs
 have hcl:=aeb 46 (iF s).2
 have hsl:=abv s
 generalize (iF s).1=ng at *
 have hp0:=fun h=>(Ej (c:=46) (s:=(iF s).2) h).2
 generalize (iG 46 (iF s).2).2.2=pt at *
 generalize hw:(iG 46 (iF s).2).1=w at *
 generalize hr:(iG 46 (iF s).2).2.1=r at *
 unfold xU at h
 split at h <;> try (simp at h; done)
 rename_i hc
 have hw4:=hc.1.2.2.2
 have hrD:r.all iW=true:=by
  cases pt with
  | true=>exact (hc.2.1 rfl).2.2
  | false =>
    have := hp0 rfl
    rw [this]; rfl
 have hall:(w++r).all iW=true:=by rw [List.all_append,hw4,hrD]; rfl
 have hlt:=Yd hall
 have hl:(w++r).length≤60:=by rw [List.length_append]; omega
 have hr20:r.length≤20:=by
  cases pt with
  | true=>exact (hc.2.1 rfl).2.1
  | false =>
    have := hp0 rfl
    rw [this]; simp
 simp at h
 obtain ⟨h1,h2⟩:=h
 subst h2
 have hnb:NB 240 (bZ 0 (w++r)):=(ahW hlt).mono (by omega)
 refine ⟨⟨?_,(aCO _).mono (by omega)⟩,hr20⟩
 have : n.natAbs=bZ 0 (w++r):=by rw [← h1]; split <;> simp
 unfold IB
 rw [this]
 exact hnb.mono (by omega)
def wiD (s:List UInt8) (lo hi:Int) (fr:Bool):D:=match MV s with
 | none => .aG [cO 0 1,.int .i64 1]
 | some (n,p)=>if 6<p∨n-lo*(10^p:Nat)<0∨(n-lo*(10^p:Nat)=0∧fr=false)∨0<n-hi*(10^p:Nat) then .aG [cO 0 1,.int .i64 5] else .aG [cO n (10^p),.int .i64 0]
theorem asC {z:Int}:wo z<0↔z<0:=by unfold wo; split <;> (try split) <;> omega
theorem aoG {z:Int}:wo z=0↔z=0:=by unfold wo; split <;> (try split) <;> omega
theorem asD {z:Int}:0<wo z↔0<z:=by unfold wo; split <;> (try split) <;> omega
set_option maxHeartbeats 1000000 in
theorem II {s:List UInt8} (hs:s.length≤1000) {lo hi:Int} (hlo:0≤lo∧lo≤1000) (hhi:0≤hi∧hi≤1000) (fr:Bool):L.call jy [.str s,.int .i64 lo,.int .i64 hi,.bool fr]=some (wiD s lo hi fr):=by
 have hg:=adA hs
 have hq := @amQ s
 have h0:=nY (n:=0) (by omega)
 have hl:=nY (n:=lo) (by omega)
 have hh:=nY (n:=hi) (by omega)
 unfold wiD
 cases hgd:MV s with
 | none =>
   rw [hgd] at hg
   simp only [gdD] at hg
   unfold qZ at hg
   unfold cO qC at *
   simp only [n9,aQ] at *
   generalize decide ((0:Int)<0)=b0 at *
   generalize (ah (0:Int).natAbs).length=N1 at *
   generalize (ah (0:Int).natAbs).map ak=l1 at *
   generalize (ah 1).length=N2 at *
   generalize (ah 1).map ak=l2 at *
   refine aj (O0 ..) ?_
   simp [gG,hg,h0,aS]
 | some np =>
   obtain ⟨n,p⟩:=np
   rw [hgd] at hg
   simp only [gdD] at hg
   obtain ⟨q1,q2⟩:=hq hgd
   have hqb:QB 64 lo 1:=⟨gQ (by omega),by unfold NB; decide⟩
   have hqh:QB 64 hi 1:=⟨gQ (by omega),by unfold NB; decide⟩
   have o1:=zO q1 hqb (by omega)
   have o2:=zO q1 hqh (by omega)
   rw [Int.natCast_one,Int.mul_one] at o1 o2
   have z1 := @asC (n-lo*((10^p:Nat):Int))
   have z2 := @aoG (n-lo*((10^p:Nat):Int))
   have z3 := @asD (n-hi*((10^p:Nat):Int))
   simp only
   generalize wo (n-lo*((10^p:Nat):Int))=s1 at *
   generalize wo (n-hi*((10^p:Nat):Int))=s2 at *
   generalize n-lo*((10^p:Nat):Int)=d1 at *
   generalize n-hi*((10^p:Nat):Int)=d2 at *
   simp only [← z1,← z2,← z3]
   clear z1 z2 z3 q1 hgd hq hqb hqh
   generalize 10^p=tp at *
   unfold cO qC at *
   simp only [n9,aQ] at *
   generalize decide ((0:Int)<0)=b0 at *
   generalize decide (n<0)=b1 at *
   generalize decide (lo<0)=b2 at *
   generalize decide (hi<0)=b3 at *
   generalize (ah (0:Int).natAbs).length=N1 at *
   generalize (ah (0:Int).natAbs).map ak=l1 at *
   generalize (ah 1).length=N2 at *
   generalize (ah 1).map ak=l2 at *
   generalize (ah n.natAbs).length=N3 at *
   generalize (ah n.natAbs).map ak=l3 at *
   generalize (ah lo.natAbs).length=N4 at *
   generalize (ah lo.natAbs).map ak=l4 at *
   generalize (ah hi.natAbs).length=N5 at *
   generalize (ah hi.natAbs).map ak=l5 at *
   generalize (ah tp).length=N6 at *
   generalize (ah tp).map ak=l6 at *
   refine aj (O0 ..) ?_
   by_cases c1:6<p
   ·have c1I:(6:Int)<p:=by omega
    rw [if_pos (.inl c1)]
    simp [gG,hg,h0,hl,o1,c1,c1I,aS]
   have c1I:¬ (6:Int)<p:=by omega
   by_cases c2:s1<0
   ·rw [if_pos (.inr (.inl c2))]
    simp [gG,hg,h0,hl,o1,c1,c1I,c2,aS]
   by_cases c3:s1=0
   ·cases fr with
    | false =>
      rw [if_pos (.inr (.inr (.inl ⟨c3,rfl⟩)))]
      simp [gG,hg,h0,hl,o1,c1,c1I,c2,c3,aS]
    | true =>
      by_cases c4:0<s2
      ·rw [if_pos (.inr (.inr (.inr c4)))]
       simp [gG,hg,h0,hl,hh,o1,o2,c1,c1I,c2,c3,c4,aS]
      ·rw [if_neg (by intro h; rcases h with h | h | h | h; exact c1 h; exact c2 h; simp at h; exact c4 h)]
       simp [gG,hg,h0,hl,hh,o1,o2,c1,c1I,c2,c3,c4,aS]
   ·by_cases c4:0<s2
    ·rw [if_pos (.inr (.inr (.inr c4)))]
     simp [gG,hg,h0,hl,hh,o1,o2,c1,c1I,c2,c3,c4,aS]
    ·rw [if_neg (by intro h; rcases h with h | h | h | h; exact c1 h; exact c2 h; exact c3 h.1; exact c4 h)]
     simp [gG,hg,h0,hl,hh,o1,o2,c1,c1I,c2,c3,c4,aS]
end Go.Ev.Code
end
