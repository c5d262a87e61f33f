/- A part of the proof of yieldAll_card. -/
import Derived.Test.YtfkdcfbleblgoaaGreatDoorCXZ100
import Derived.Test.YtfkdcfbleblgoaaGreatDoorCXZ110
import Derived.Test.YtfkdcfbleblgoaaGreatDoorCXZ120
set_option linter.unusedVariables false
set_option linter.unusedSimpArgs false
section
namespace Go.Ev.Code
open Go Go.Ev
theorem ak2 (b:aA):0≤pV b:=by
 unfold pV
 cases hc:chk b with
 | some e=>simp only; exact QY.1 (by decide)
 | none =>
   obtain ⟨q,n,r,k,h1,h2,h3,h4,_⟩:=Ya (bV hc).2.2
   simp only [h1]
   exact QY.1 h4
theorem alU (b:aA):0≤fJ b:=by
 unfold fJ
 cases hc:chk b with
 | some e=>simp only; exact QY.1 (by decide)
 | none =>
   obtain ⟨q,n,r,k,h1,h2,h3,h4,h5,h6,h7,_⟩:=Ya (bV hc).2.2
   simp only [h2]
   exact QY.1 (by omega)
theorem av' {f:Int} (hf:vO f):0≤Rat.divInt 1 f:=by
 rcases hf with rfl | rfl | rfl | rfl <;> decide +kernel
theorem apL {b:aA} (hf:vO b.bG):0≤fP b:=Rat.mul_nonneg (ak2 b) (av' hf)
end Go.Ev.Code
end
section
namespace Go.Ev.Code
open Go Go.Ev
theorem aue {b:aA} (h:(aW b).1=none) {p:Int×Int} (hp:p∈(aF b).2):0≤qg b p:=by
 have h0:=(gY h).1
 have hf:=dZ (bV (dK h0)).2.1
 obtain ⟨d1,d2,d3⟩:=gU h0 hp
 unfold qg oq
 split
 ·rename_i q hq
  split at hq
  ·rw [← Except.ok.inj hq]; exact apL hf
  ·rw [vV h hp (Int.le_refl _) (by omega) (Int.le_refl _)] at hq
   simp only at hq
   rw [← Except.ok.inj hq]
   exact Rat.mul_nonneg (ak2 b) (alI h hp (x:=p.2) (y:=p.2) (by omega) (Int.le_refl _) (Int.le_refl _)).1
 ·exact Rat.le_refl
theorem ato {b:aA} {s:Int} (h:(leftB b s).1=none):∀ r∈dD b s,0≤r:=by
 obtain ⟨f0,h2,h3,h4⟩:=dX h
 obtain ⟨d1,d2,d3,d4,d5,d6⟩:=qh h
 obtain ⟨k,k1,k2,k3,k4⟩:=x9 h2 h3 h4
 have hall:∀ x∈(aW b).2,0≤x.2:=by
  intro x hx
  obtain ⟨i,hi⟩:=List.getElem?_of_mem hx
  have hlt:i<(aF b).2.length:=by rw [← O8 f0]; exact (List.getElem?_eq_some_iff.1 hi).1
  have hg:=List.getElem?_eq_getElem hlt
  have h5:=aaT f0 hg
  rw [hi] at h5
  have h6:=Option.some.inj h5
  rw [h6]
  have hp:=aue f0 (List.mem_of_getElem? hg)
  simp only
  split
  ·exact Rat.add_nonneg hp (alU b)
  ·exact hp
 have h5:=aaT f0 k2
 unfold dD
 rw [k1,Int.toNat_natCast]
 have hk:k<(aW b).2.length:=(List.getElem?_eq_some_iff.1 h5).1
 have hdr:(aW b).2.drop k=(aW b).2[k]::(aW b).2.drop (k+1):=List.drop_eq_getElem_cons hk
 have he:(aW b).2[k]=((aV b s).2,if k+1=(aF b).2.length then qg b (aV b s)+fJ b else qg b (aV b s)):=by
  rw [List.getElem?_eq_getElem hk] at h5
  exact Option.some.inj h5
 split
 ·rw [hdr,he]
  simp only [List.map_cons,apW]
  intro r hr
  rcases List.mem_cons.1 hr with rfl | hr
  ·have := alU b
   generalize fJ b=rd at *
   generalize qg b (aV b s)=pv at *
   split <;> grind
  ·obtain ⟨x,hx,rfl⟩:=List.mem_map.1 hr
   exact hall x (List.mem_of_mem_drop hx)
 ·intro r hr
  obtain ⟨x,hx,rfl⟩:=List.mem_map.1 hr
  exact hall x (List.mem_of_mem_drop hx)
theorem ab5 {x:Rat} (hx:0≤x):∀ {l:List Rat},(∀ r∈l,0≤r)→0≤og x l
 | [],_=>Rat.le_refl
 | r::t,h=>by
   simp only [og]
   exact Rat.add_nonneg (h r (by simp)) (Rat.mul_nonneg hx (ab5 hx (fun q hq=>h q (by simp [hq]))))
theorem an' {x y:Rat} (hx:0≤x) (hxy:x≤y):∀ {l:List Rat},(∀ r∈l,0≤r)→og x l≤og y l
 | [],_=>Rat.le_refl
 | r::t,h=>by
   have h1:=an' hx hxy (l:=t) (fun q hq=>h q (by simp [hq]))
   have h2:=ab5 hx (l:=t) (fun q hq=>h q (by simp [hq]))
   have hy:0≤y:=Rat.le_trans hx hxy
   have h3:=Rat.mul_le_mul_of_nonneg_left h1 hy
   have h4:=Rat.mul_le_mul_of_nonneg_right hxy h2
   simp only [og]
   grind
theorem aqP {a b c d:Rat} (ha:0≤a) (hab:a≤b) (hc:0<c) (hcd:c≤d):a / d≤b / c:=by
 have hd:0<d:=by grind
 have ic:0<c⁻¹:=Rat.inv_pos.2 hc
 have id:0<d⁻¹:=Rat.inv_pos.2 hd
 have e1:c*c⁻¹=1:=Rat.mul_inv_cancel _ (by grind)
 have e2:d*d⁻¹=1:=Rat.mul_inv_cancel _ (by grind)
 have h1:d⁻¹≤c⁻¹:=by
  have := Rat.mul_le_mul_of_nonneg_right hcd (Rat.le_of_lt (Rat.mul_pos ic id))
  rw [← Rat.mul_assoc,e1,Rat.one_mul,Rat.mul_comm c⁻¹,← Rat.mul_assoc,e2,Rat.one_mul] at this
  exact this
 have h2:=Rat.mul_le_mul_of_nonneg_left h1 ha
 have h3:=Rat.mul_le_mul_of_nonneg_right hab (Rat.le_of_lt ic)
 rw [Rat.div_def,Rat.div_def]
 exact Rat.le_trans h2 h3
theorem axB {b:aA} (hf:vO b.bG) {y z:Int} (h1 : -2000000≤y) (h2:y≤z) (h3:z≤100000000):0≤zY b z∧zY b z≤zY b y:=by
 obtain ⟨_,_,_,g0,n0⟩:=ac_ hf (y:=y) h1 (by omega)
 obtain ⟨_,_,_,_,n1⟩:=ac_ hf (y:=z) (by omega) h3
 have a1:(0:Rat)<(bC b:Rat):=Rat.intCast_pos.2 g0
 have a2:(0:Rat)<((bC b+y:Int):Rat):=Rat.intCast_pos.2 n0
 have a3:((bC b+y:Int):Rat)≤((bC b+z:Int):Rat):=Rat.intCast_le_intCast.2 (by omega)
 have a4:(0:Rat)<((bC b+z:Int):Rat):=Rat.intCast_pos.2 n1
 unfold zY
 refine ⟨?_,aqP (Rat.le_of_lt a1) Rat.le_refl a2 a3⟩
 rw [Rat.div_def]
 exact Rat.mul_nonneg (Rat.le_of_lt a1) (Rat.le_of_lt (Rat.inv_pos.2 a4))
theorem avO {b:aA} {s y z:Int} (h:(leftB b s).1=none) (h0:dF b s≠0) (h1 : -2000000≤y) (h2:y≤z) (h3:z≤100000000):oG b s z≤oG b s y:=by
 have hf:=dZ (bV (dK (dX h).2.1)).2.1
 obtain ⟨w0,w1⟩:=akE h h0
 obtain ⟨a1,a2⟩:=ad5 hf w0 w1 h1 h2 h3
 obtain ⟨d1,d2⟩:=axB hf h1 h2 h3
 have hn:=ato h
 unfold oG
 exact aqP (ab5 d1 hn) (an' d1 d2 hn) a1 a2
end Go.Ev.Code
end
section
namespace Go.Ev.Code
open Go Go.Ev
theorem atv (b:aA) (s:Int):(∃ e,e≠none∧∀ y,-2000000≤y→y≤100000000→sD b s y = .error e) ∨
  ((∀ y,-2000000≤y→y≤100000000→sD b s y = .ok (oG b s y-sS b s))∧∀ y z,-2000000≤y→y≤z→z≤100000000→oG b s z-sS b s≤oG b s y-sS b s):=by
 cases he:(leftB b s).1 with
 | some e =>
   left
   refine ⟨some e,by simp,fun y h1 h2=>?_⟩
   unfold sD jw
   rw [he]
 | none =>
   by_cases h0:dF b s=0
   ·left
    refine ⟨some (3,none),by simp,fun y h1 h2=>?_⟩
    unfold sD jw
    rw [he]
    simp only
    rw [if_neg (by omega),if_pos (.inl h0)]
   ·right
    refine ⟨fun y h1 h2=>?_,fun y z h1 h2 h3=>?_⟩
    ·have ha:=aaA he h0 h1 h2
     unfold sD jw
     rw [he]
     simp only
     rw [if_neg (by omega),if_neg (by intro h; rcases h with h | h; exact h0 h; exact ha h)]
    ·have := avO he h0 h1 h2 h3
     generalize sS b s=a at *
     generalize oG b s z=p at *
     generalize oG b s y=q at *
     grind
theorem auL {q r:Rat} (h:r≤q):0≤zo q r:=by
 unfold zo
 rw [if_neg (by rw [Rat.not_lt]; exact h)]
 split <;> decide
end Go.Ev.Code
end
section
namespace Go.Ev.Code
open Go Go.Ev
theorem LK {b:aA} (hc:b.aY.length≤1000) (hr:b.bJ.length≤1000) (s:Int) {y:Int} (h1 : -2000000≤y) (h2:y≤100000000) :
  (∀ e,sD b s y = .error e→L.call kX [aC b,.int .i64 s,.int .i64 y,.bool true]=some (.aG [.agg qZ,.int .i64 (gW e)])) ∧
  (∀ q,sD b s y = .ok q→∃ n d,Wo 320000 n d q∧L.call kX [aC b,.int .i64 s,.int .i64 y,.bool true]=some (.aG [cO n d,.int .i64 0])):=by
 have hbad:=JH hc hr s
 have hy:=Uc y
 rw [decide_eq_true h1,decide_eq_true h2] at hy
 unfold sD jw
 cases hl:(leftB b s).1 with
 | some e =>
   have hne:=Jw hl
   rw [hl] at hbad
   simp only
   refine ⟨fun e' h=>?_,fun q h=>by simp at h⟩
   simp at h
   subst h
   obtain ⟨ec,et⟩:=e
   simp only [gW] at *
   unfold qZ
   obtain ⟨i,mt,fq,cc,rd',cnt,st,en,ex⟩:=b
   unfold aC ay at *
   simp only at *
   refine aj (iY ..) ?_
   simp [g_,hbad,hne,aS]
 | none =>
   rw [hl] at hbad
   simp only [gW] at hbad
   obtain ⟨hd1,hd2⟩:=adx hl hc hr h1 h2
   simp only
   rw [if_neg (by omega)]
   by_cases h0:dF b s=0
   ·rw [if_pos (.inl h0)]
    have hd:=hd1 h0
    simp only
    refine ⟨fun e' h=>?_,fun q h=>by simp at h⟩
    simp at h
    subst h
    simp only [gW]
    unfold qZ at *
    clear hd1 hd2
    obtain ⟨i,mt,fq,cc,rd',cnt,st,en,ex⟩:=b
    unfold aC ay at *
    simp only at *
    refine aj (iY ..) ?_
    simp [g_,hbad,hy,hd,aS]
   ·have ha:=aaA hl h0 h1 h2
    rw [if_neg (by intro h; rcases h with h | h; exact h0 h; exact ha h)]
    obtain ⟨dn,dd,wd,hd⟩:=hd2 h0
    obtain ⟨an,ad,wa,hacc⟩:=OT hl hc
    have hdf:=yN wd.qb wa.qb (by omega)
    simp only
    refine ⟨fun e' h=>by simp at h,fun q h=>?_⟩
    simp at h
    subst h
    refine ⟨_,_,(wd.diff wa).mono (by omega),?_⟩
    clear wd wa hd1 hd2 ha h0
    generalize dn*(ad:Int)-an*(dd:Int)=on at *
    generalize dd*ad=od at *
    obtain ⟨a0,a1,a2,ha,a3,a4,a5,_⟩:=bg dn dd
    obtain ⟨b0,b1,b2,hb,b3,b4,b5,_⟩:=bg an ad
    obtain ⟨o0,o1,o2,ho,o3,o4,o5,o6,o7,o8⟩:=bg on od
    unfold cO at *
    rw [ha] at hd hdf
    rw [hb] at hacc hdf
    rw [ho] at hdf ⊢
    obtain ⟨i,mt,fq,cc,rd',cnt,st,en,ex⟩:=b
    unfold aC ay at *
    simp only at *
    refine aj (iY ..) ?_
    simp [g_,hbad,hy,hd,hacc,hdf,aS,a3,a4,a5,b3,b4,b5,o3,o4,o5,o6,o7,o8]
end Go.Ev.Code
end
section
namespace Go.Ev.Code
open Go Go.Ev
theorem amD {q r:Rat} (h:q<r):zo q r = -1:=by unfold zo; rw [if_pos h]
theorem aBL {q r:Rat} (h:r<q):zo q r=1:=by
 unfold zo
 rw [if_neg (by rw [Rat.not_lt]; exact Rat.le_of_lt h),if_neg (by intro h2; rw [h2] at h; exact Rat.lt_irrefl h)]
theorem Vt {b:aA} {s:Int} {f:Int→Rat} {q:Rat} {k:Nat} (hq:RB k q) (hk:k≤800000)
  (hf:∀ y,-2000000≤y→y≤100000000→L.call G_ [aC b,.int .i64 s,.int .i64 y]=some (.aG [cZ (f y),.bQ])∧RB 17000 (f y)) :
  ∀ (n:Nat) (low high:Int),(high-low).toNat≤n→low<high → -2000000≤low→high≤100000000→q≤f low→f high<q →
  ∃ y,low≤y∧y<high∧q≤f y∧f (y+1)<q∧L.loop [1,2,3,8,9] [6,7,8] GI 1 [.int .i64 s,cZ q,.loc 0 0,.int .i64 low,.int .i64 high] [.live (ay b)]=some (.exit 1,[.undef,.undef,.int .i64 y],[.live (ay b)]):=by
 have hbc:=iO b 1
 have hbl:=kK b
 have hbd:=iZ b 0 10
 intro n
 induction n with
 | zero=>intro low high h1 h2; omega
 | succ n ih =>
   intro low high h1 h2 h3 h4 h5 h6
   have e1:IntKind.i64.wrap (low+1)=low+1:=wrap64 _ (by omega)
   by_cases hd:low+1<high
   ·obtain ⟨at',hat⟩:∃ a,a=low+(high-low) / 2:=⟨_,rfl⟩
    have hb1:low<at'∧at'<high:=by omega
    have e2:IntKind.i64.wrap (high-low)=high-low:=wrap64 _ (by omega)
    have e3:Int.tdiv (high-low) 2=(high-low) / 2:=Int.tdiv_eq_ediv_of_nonneg (by omega)
    have e4:IntKind.i64.wrap ((high-low) / 2)=(high-low) / 2:=wrap64 _ (by omega)
    have e5:IntKind.i64.wrap (low+(high-low) / 2)=at':=by rw [wrap64 _ (by omega)]; omega
    have e6:IntKind.i64.wrap (low+IntKind.i64.wrap (Int.tdiv (IntKind.i64.wrap (high-low)) 2))=at':=by rw [e2,e3,e4,e5]
    obtain ⟨hcall,hB⟩:=hf at' (by omega) (by omega)
    have hcmp:=Fj hB hq (by omega)
    rcases Classical.em (q≤f at') with hle | hle
    ·obtain ⟨y,y1,y2,y3,y4,y5⟩:=ih at' high (by omega) hb1.2 (by omega) h4 hle h6
     refine ⟨y,by omega,y2,y3,y4,?_⟩
     have hge:=auL hle
     generalize zo (f at') q=cm at *
     generalize f at'=v at *
     unfold aC at hcall
     generalize ay b=B at *
     have htk:B.take 9=B:=List.take_of_length_le (by omega)
     refine au (Qc ..) ?_
     simp [IK,e1,hd,e6,hbc,hbl,hbd,htk,hcall,hcmp,hge,y5]
    ·have hlt:f at'<q:=Rat.not_le.1 hle
     obtain ⟨y,y1,y2,y3,y4,y5⟩:=ih low at' (by omega) hb1.1 h3 (by omega) h5 hlt
     refine ⟨y,y1,by omega,y3,y4,?_⟩
     rw [amD hlt] at hcmp
     generalize f at'=v at *
     unfold aC at hcall
     generalize ay b=B at *
     have htk:B.take 9=B:=List.take_of_length_le (by omega)
     refine au (Qc ..) ?_
     simp [IK,e1,hd,e6,hbc,hbl,hbd,htk,hcall,hcmp,y5]
   ·obtain rfl:high=low+1:=by omega
    refine ⟨low,by omega,by omega,h5,h6,?_⟩
    generalize ay b=B at *
    refine au (Qc ..) ?_
    simp [IK,e1,hbc]
def E_:Except Er Int→D
 | .ok y => .aG [.int .i64 y,.bQ]
 | .error e => .aG [.int .i64 0,fD e]
theorem anv {b:aA} (hc:b.aY.length≤1000000) (hr:b.bJ.length≤1000000) {s:Int} {e:Er} (hne:e≠none) (hE:sD b s (-2000000) = .error e) {x:D} (hx:x = .iy∨∃ q,x=cZ q):L.call Gn [aC b,.int .i64 s,x]=some (E_ (.error e)):=by
 obtain ⟨c1,_⟩:=Lr hc hr s (y := -2000000) (by omega)
 rw [hE] at c1
 simp only [DX,E_] at c1 ⊢
 obtain ⟨i,mt,fq,c,rd',n,st,en,ex⟩:=b
 unfold aC ay at *
 simp only at *
 rcases hx with rfl | ⟨q,rfl⟩
 ·refine aj (Dk ..) ?_
  rcases e with _ | ⟨c,_ | t⟩
  ·exact absurd rfl hne
  ·simp only [fD] at *
   simp [qP,c1]
  ·simp only [fD,eY] at *
   simp [qP,c1]
 ·refine aj (Dk ..) ?_
  rcases e with _ | ⟨c,_ | t⟩
  ·exact absurd rfl hne
  ·simp only [fD] at *
   simp [qP,c1]
  ·simp only [fD,eY] at *
   simp [qP,c1]
theorem apP {b:aA} {s:Int} {f:Int→Rat} {q:Rat} {k:Nat} (hq:RB k q) (hk:k≤800000)
  (hf:∀ y,-2000000≤y→y≤100000000→L.call G_ [aC b,.int .i64 s,.int .i64 y]=some (.aG [cZ (f y),.bQ])∧RB 17000 (f y))
  (hM:∀ y z,-2000000≤y→y≤z→z≤100000000→f z≤f y) :
  (∃ y,-2000000≤y∧y≤100000000∧q≤f y∧(∀ z,y<z→z≤100000000→f z<q)∧f 100000000≤q∧L.call Gn [aC b,.int .i64 s,cZ q]=some (E_ (.ok y))) ∨
  ((f (-2000000)<q∨q<f 100000000)∧L.call Gn [aC b,.int .i64 s,cZ q]=some (E_ (.error (some (7,none))))):=by
 obtain ⟨c1,b1⟩:=hf (-2000000) (by omega) (by omega)
 obtain ⟨c2,b2⟩:=hf 100000000 (by omega) (by omega)
 have m1:=Fj b1 hq (by omega)
 have m2:=Fj b2 hq (by omega)
 by_cases h1:f (-2000000)<q
 ·right
  refine ⟨.inl h1,?_⟩
  rw [amD h1] at m1
  generalize zo (f 100000000) q=cm at *
  generalize f 100000000=v2 at *
  generalize f (-2000000)=v1 at *
  simp only [E_,fD]
  obtain ⟨i,mt,fq,c,rd',n,st,en,ex⟩:=b
  unfold aC ay at *
  simp only at *
  refine aj (Dk ..) ?_
  simp [qP,c1,c2,m1,m2,bM]
 have h1':q≤f (-2000000):=Rat.not_lt.1 h1
 have hge:=auL h1'
 by_cases h2:q<f 100000000
 ·right
  refine ⟨.inr h2,?_⟩
  rw [aBL h2] at m2
  generalize zo (f (-2000000)) q=cm at *
  generalize f 100000000=v2 at *
  generalize f (-2000000)=v1 at *
  have hn:¬ cm<0:=by omega
  simp only [E_,fD]
  obtain ⟨i,mt,fq,c,rd',n,st,en,ex⟩:=b
  unfold aC ay at *
  simp only at *
  refine aj (Dk ..) ?_
  simp [qP,c1,c2,m1,m2,hn,bM]
 left
 have h2':f 100000000≤q:=Rat.not_lt.1 h2
 by_cases h3:f 100000000=q
 ·refine ⟨100000000,by omega,by omega,by rw [h3]; exact Rat.le_refl,fun z hz1 hz2=>by omega,h2',?_⟩
  rw [h3,auK] at m2
  rw [h3] at c2
  generalize zo (f (-2000000)) q=cm at *
  generalize f (-2000000)=v1 at *
  have hn:¬ cm<0:=by omega
  simp only [E_]
  obtain ⟨i,mt,fq,c,rd',n,st,en,ex⟩:=b
  unfold aC ay at *
  simp only at *
  refine aj (Dk ..) ?_
  simp [qP,c1,c2,m1,m2,hn]
 ·have h4:f 100000000<q:=Rat.lt_of_le_of_ne h2' h3
  obtain ⟨y,y1,y2,y3,y4,y5⟩:=Vt hq hk hf 102000000 (-2000000) 100000000 (by omega) (by omega) (by omega) (by omega) h1' h4
  refine ⟨y,y1,by omega,y3,fun z hz1 hz2=>?_,h2',?_⟩
  ·have := hM (y+1) z (by omega) (by omega) hz2
   generalize f (y+1)=u at *
   generalize f z=v at *
   grind
  ·rw [amD h4] at m2
   generalize zo (f (-2000000)) q=cm at *
   generalize f 100000000=v2 at *
   generalize f (-2000000)=v1 at *
   have hn:¬ cm<0:=by omega
   simp only [E_]
   obtain ⟨i,mt,fq,c,rd',n,st,en,ex⟩:=b
   unfold aC ay at *
   simp only at *
   refine aj (Dk ..) ?_
   simp [qP,c1,c2,m1,m2,hn,y5]
end Go.Ev.Code
end
section
namespace Go.Ev.Code
open Go Go.Ev
theorem acG {b:aA} {s:Int} {t:List UInt8} (ht:t.length≤1000000) {q:Rat} {n:Nat} (hd:oZ t=some (q,n)) {r:Except Er Int} (hne:∀ e,r = .error e→e≠none) (hN:L.call Gn [aC b,.int .i64 s,cZ q]=some (E_ r)) :
  L.call ZW [aC b,.int .i64 s,.str t]=some (E_ r):=by
 have hg:=Qq ht
 rw [hd] at hg
 simp only [Hy] at hg
 obtain ⟨i,mt,fq,c,rd',n',st,en,ex⟩:=b
 unfold aC ay at *
 simp only at *
 cases r with
 | ok y =>
   simp only [E_] at *
   refine aj (XJ ..) ?_
   simp [RY,hg,hN]
 | error e =>
   have := hne e rfl
   simp only [E_] at *
   rcases e with _ | ⟨c,_ | t⟩
   ·exact absurd rfl this
   ·simp only [fD] at *
    refine aj (XJ ..) ?_
    simp [RY,hg,hN]
   ·simp only [fD,eY] at *
    refine aj (XJ ..) ?_
    simp [RY,hg,hN]
end Go.Ev.Code
end
section
namespace Go.Ev.Code
open Go Go.Ev
theorem Wo.lt {j k:Nat} {n1 n2:Int} {d1 d2:Nat} {q r:Rat} (a:Wo j n1 d1 q) (b:Wo k n2 d2 r):(wo (n1*d2-n2*d1)<0↔q<r)∧(0<wo (n1*d2-n2*d1)↔r<q):=by
 have h1:(0:Int)<(d1:Int):=by have := a.pos; omega
 have h2:(0:Int)<(d2:Int):=by have := b.pos; omega
 have e1:q=Rat.divInt (n1*d2) ((d1:Int)*d2):=by
  rw [← a.val,Rat.divInt_mul_right (by omega)]
 have e2:r=Rat.divInt (n2*d1) ((d1:Int)*d2):=by
  rw [← b.val,Int.mul_comm (d1:Int) (d2:Int),Rat.divInt_mul_right (by omega)]
 have hp:(0:Int)<(d1:Int)*d2:=Int.mul_pos h1 h2
 rw [asC,asD,e1,e2,I7 hp,I7 hp]
 constructor <;> omega
theorem avI {b:aA} {s y:Int} {e:Er} (h:sD b s y = .error e):gW e≠0:=by
 unfold sD jw at h
 cases hl:(leftB b s).1 with
 | some e' =>
   rw [hl] at h
   simp at h
   subst h
   have := Jw hl
   obtain ⟨c,t⟩:=e'
   exact this
 | none =>
   rw [hl] at h
   simp only at h
   split at h
   ·rename_i e' he
    split at he
    ·simp at he h; subst he; subst h; simp [gW]
    ·split at he
     ·simp at he h; subst he; subst h; simp [gW]
     ·simp at he
   ·simp at h
theorem asZ {t:List UInt8} (ht:t.length≤1000000) (hd:oZ t=none) (b:aA) (s:Int):L.call ZW [aC b,.int .i64 s,.str t]=some (.aG [.int .i64 0,BD 1]):=by
 have hg:=Qq ht
 rw [hd] at hg
 simp only [Hy] at hg
 obtain ⟨i,mt,fq,c,rd',n',st,en,ex⟩:=b
 unfold aC ay at *
 simp only at *
 refine aj (XJ ..) ?_
 simp [RY,hg]
set_option maxHeartbeats 2000000 in
theorem auA (hbeg:L.call iq []=some (.bool true)) (b0:aA) (s:Int) (t0:List UInt8):L.call vF [aC b0,.int .i64 s,.str t0]=some (.bool true):=by
 have hcut:=QG b0
 have hlen:(nG b0).aY.length≤1000∧(nG b0).bJ.length≤1000:=by unfold nG; simp; omega
 generalize nG b0=b at *
 obtain ⟨hc,hr⟩:=hlen
 have htx:=Zd t0 (n:=40) (by decide)
 have htl:(t0.take 40).length≤40:=by simp; omega
 rw [show ((40:Nat):Int)=40 from rfl] at htx
 generalize t0.take 40=t at *
 have hgd:=adA (s:=t) (by omega)
 have hdo:=aed t
 cases hg:MV t with
 | none =>
   rw [hg] at hgd hdo
   have hy:=asZ (by omega) hdo b s
   have hsm:=uy (some (1,none)) 1
   rw [show decide (gW (some (1,none))=1)=true from rfl] at hsm
   simp only [fD,gdD] at hsm hgd
   unfold qZ at hgd
   obtain ⟨i,mt,fq,c,rd',n,st,en,ex⟩:=b
   obtain ⟨i',mt',fq',c',rd'',n',st',en',ex'⟩:=b0
   unfold aC ay at *
   simp only at *
   refine aj (rH ..) ?_
   simp [gV,hbeg,hcut,htx,hy,hgd,hsm,aS]
 | some np =>
   obtain ⟨qn,qp⟩:=np
   rw [hg] at hgd hdo
   simp only [gdD,Option.map_some] at hgd hdo
   obtain ⟨hqb,hq20⟩:=amQ hg
   have wq:Wo 300 qn (10^qp) (Rat.divInt qn ((10^qp:Nat):Int)):=⟨hqb,Nat.pow_pos (by decide),rfl⟩
   have hqRB:=(YQ hdo).1
   have hdg:=Qq (s:=t) (by omega)
   rw [hdo] at hdg
   simp only [Hy] at hdg
   obtain ⟨lo1,lo2⟩:=LK hc hr s (y := -2000000) (by omega) (by omega)
   rcases atv b s with ⟨e,hne,hE⟩ | ⟨hE,hM⟩
   ·
    have hEl:=hE (-2000000) (by omega) (by omega)
    have hlow:=lo1 e hEl
    have hcode:=avI hEl
    have hnr:=anv (b:=b) (by omega) (by omega) hne hEl (x:=cZ (Rat.divInt qn ((10^qp:Nat):Int))) (.inr ⟨_,rfl⟩)
    have hy:=acG (b:=b) (s:=s) (t:=t) (by omega) hdo (r := .error e) (fun e' h=>by simp at h; subst h; exact hne) hnr
    have hsm:=uy e (gW e)
    rw [decide_eq_true rfl] at hsm
    simp only [E_] at hy
    have hecl:=fun n=>ac6 e n
    obtain ⟨o0,o1,o2,ho,o3,o4,o5,o6,o7,o8⟩:=bg qn (10^qp)
    unfold cO at hgd
    rw [ho] at hgd
    unfold qZ at hlow
    generalize gW e=ce at *
    clear lo1 lo2 hE hEl hnr wq hqRB hdg hdo
    obtain ⟨i,mt,fq,c,rd',n,st,en,ex⟩:=b
    obtain ⟨i',mt',fq',c',rd'',n',st',en',ex'⟩:=b0
    unfold aC ay at *
    simp only at *
    refine aj (rH ..) ?_
    rcases e with _ | ⟨c,_ | t⟩
    ·exact absurd rfl hne
    ·simp only [fD] at *
     simp [gV,hbeg,hcut,htx,hy,hgd,hlow,hcode,hsm,aS,o3,o4,o5]
    ·simp only [fD,eY] at *
     simp [gV,hbeg,hcut,htx,hy,hgd,hlow,hcode,hsm,aS,o3,o4,o5]
   ·obtain ⟨hi1,hi2⟩:=LK hc hr s (y:=100000000) (by omega) (by omega)
    obtain ⟨ln,ld,wl,hlow⟩:=lo2 _ (hE _ (by omega) (by omega))
    obtain ⟨hn,hd,wh,hhigh⟩:=hi2 _ (hE _ (by omega) (by omega))
    have ol:=zO wl.qb wq.qb (by omega)
    have oh:=zO wh.qb wq.qb (by omega)
    obtain ⟨cl1,_⟩:=wl.lt wq
    obtain ⟨_,ch2⟩:=wh.lt wq
    have hnear:=apP (b:=b) (s:=s) (f:=fun y=>oG b s y-sS b s) hqRB (by omega)
     (fun y h1 h2=>by
      obtain ⟨c1,c1B⟩:=Lr (b:=b) (by omega) (by omega) s (y:=y) (by omega)
      rw [hE y h1 h2] at c1
      exact ⟨c1,c1B _ (hE y h1 h2)⟩)
     (fun y z h1 h2 h3=>hM y z h1 h2 h3)
    generalize wo (ln*((10^qp:Nat):Int)-qn*(ld:Int))=sl at *
    generalize wo (hn*((10^qp:Nat):Int)-qn*(hd:Int))=sh at *
    obtain ⟨q0,q1,q2,hq,q3,q4,q5,q6,q7,q8⟩:=bg qn (10^qp)
    obtain ⟨l0,l1,l2,hl,l3,l4,l5,_⟩:=bg ln ld
    obtain ⟨h0,h1,h2,hh,h3,h4,h5,_⟩:=bg hn hd
    rcases hnear with ⟨y,y1,y2,n1,n2,n3,hnr⟩ | ⟨hout,hnr⟩
    ·
     have hy:=acG (b:=b) (s:=s) (t:=t) (by omega) hdo (r := .ok y) (fun e' h=>by simp at h) hnr
     simp only [E_] at hy hnr
     obtain ⟨_,at2⟩:=LK hc hr s (y:=y) y1 y2
     obtain ⟨an,ad,wa,hat⟩:=at2 _ (hE _ y1 y2)
     have oa:=zO wa.qb wq.qb (by omega)
     obtain ⟨ca,_⟩:=wa.lt wq
     obtain ⟨_,nx2⟩:=LK hc hr s (y:=min (y+1) 100000000) (by omega) (by omega)
     obtain ⟨xn,xd,wx,hnx⟩:=nx2 _ (hE _ (by omega) (by omega))
     have ox:=zO wx.qb wq.qb (by omega)
     obtain ⟨cx,_⟩:=wx.lt wq
     have hyr:=Uc y
     rw [decide_eq_true y1,decide_eq_true y2] at hyr
     have hsl:¬ sl<0:=fun h=>Rat.not_lt.2 (Rat.le_trans n1 (hM (-2000000) y (by omega) y1 y2)) (cl1.1 h)
     have hsh:¬ 0<sh:=fun h=>Rat.not_lt.2 n3 (ch2.1 h)
     generalize wo (an*((10^qp:Nat):Int)-qn*(ad:Int))=sa at *
     generalize wo (xn*((10^qp:Nat):Int)-qn*(xd:Int))=sx at *
     have hsa:¬ sa<0:=fun h=>Rat.not_lt.2 n1 (ca.1 h)
     have hsx:y=100000000∨y≠100000000∧sx<0:=by
      by_cases h:y=100000000
      ·exact .inl h
      ·refine .inr ⟨h,cx.2 ?_⟩
       have hm:min (y+1) 100000000=y+1:=by omega
       rw [hm]
       exact n2 (y+1) (by omega) (by omega)
     have e1:IntKind.i64.wrap (y+1)=y+1:=wrap64 _ (by omega)
     obtain ⟨a0,a1,a2,ha,a3,a4,a5,_⟩:=bg an ad
     obtain ⟨x0,x1,x2,hx,x3,x4,x5,_⟩:=bg xn xd
     clear lo1 lo2 hi1 hi2 at2 nx2 wl wh wa wx wq hE hM cl1 ch2 ca cx n1 n2 n3 hqRB hdo
     unfold cO at *
     rw [hq] at hgd ol oh oa ox
     rw [hl] at hlow ol
     rw [hh] at hhigh oh
     rw [ha] at hat oa
     rw [hx] at hnx ox
     generalize Rat.divInt qn ((10^qp:Nat):Int)=rq at *
     obtain ⟨i,mt,fq,c,rd',n,st,en,ex⟩:=b
     obtain ⟨i',mt',fq',c',rd'',n',st',en',ex'⟩:=b0
     unfold aC ay at *
     simp only at *
     refine aj (rH ..) ?_
     rcases hsx with hy0 | ⟨hy1,hsx⟩
     ·have hy1:decide (y=100000000)=true:=decide_eq_true hy0
      clear hy0
      simp [gV,hbeg,hcut,htx,hy,hgd,hlow,hhigh,ol,oh,hsl,hsh,hat,hyr,oa,hsa,e1,hnx,hy1,hdg,hnr,aS,q3,q4,q5,l3,l4,l5,h3,h4,h5,a3,a4,a5,x3,x4,x5]
     ·simp [gV,hbeg,hcut,htx,hy,hgd,hlow,hhigh,ol,oh,hsl,hsh,hat,hyr,oa,hsa,e1,hnx,hy1,ox,hsx,hdg,hnr,aS,q3,q4,q5,l3,l4,l5,h3,h4,h5,a3,a4,a5,x3,x4,x5]
    ·
     have hy:=acG (b:=b) (s:=s) (t:=t) (by omega) hdo (r := .error (some (7,none))) (fun e' h=>by simp at h; subst h; simp) hnr
     have hsm:=uy (some (7,none)) 7
     rw [show decide (gW (some (7,none))=7)=true from rfl] at hsm
     simp only [E_,fD] at hy hsm
     have hcond:sl<0∨¬ sl<0∧0<sh:=by
      by_cases h:sl<0
      ·exact .inl h
      ·refine .inr ⟨h,ch2.2 ?_⟩
       rcases hout with h1 | h1
       ·exact absurd (cl1.2 h1) h
       ·exact h1
     clear lo1 lo2 hi1 hi2 wl wh wq hE hM cl1 ch2 hqRB hdo hdg hnr hout
     unfold cO at *
     rw [hq] at hgd ol oh
     rw [hl] at hlow ol
     rw [hh] at hhigh oh
     obtain ⟨i,mt,fq,c,rd',n,st,en,ex⟩:=b
     obtain ⟨i',mt',fq',c',rd'',n',st',en',ex'⟩:=b0
     unfold aC ay at *
     simp only at *
     refine aj (rH ..) ?_
     rcases hcond with h | ⟨hh1,hh2⟩
     ·simp [gV,hbeg,hcut,htx,hy,hgd,hlow,hhigh,ol,oh,h,hsm,aS,q3,q4,q5,l3,l4,l5,h3,h4,h5]
     ·simp [gV,hbeg,hcut,htx,hy,hgd,hlow,hhigh,ol,oh,hh1,hh2,hsm,aS,q3,q4,q5,l3,l4,l5,h3,h4,h5]
end Go.Ev.Code
end
