/- A part of the proof of priceAll_card, yieldAll_card, priceSum_card, flowAll_card, accrAll_card. -/
import Derived.Test.YtfkdcfbleblgoaaGreatDoorCSndD
set_option linter.unusedVariables false
set_option linter.unusedSimpArgs false
section
namespace Go.Ev
section
variable {P:Program}
def ayQ (f:D→Mem→Option (D×Mem)):Prop :=
 ∀ (d:D) (m:Mem) (d':D) (m':Mem),f d m=some (d',m')→∀ c:Ctx,Inv c m→(∃ v,Rep c d v) →
   ∃ c',c'.w=c.w∧Inv c' m'∧Step c m c' m'∧∀ v,Rep c d v→F c'.S c'.w d' v
theorem QA {f:D→Mem→Option (D×Mem)} (hf:ayQ f):∀ (ds:List D) (m:Mem) (ds':List D) (m':Mem),jd f ds m=some (ds',m')→∀ c:Ctx,Inv c m→(∀ d∈ds,∃ v,Rep c d v) →
  ∃ c',c'.w=c.w∧Inv c' m'∧Step c m c' m'∧ds'.length=ds.length∧∀ (j:Nat) (d':D),ds'[j]?=some d'→∃ d,ds[j]?=some d∧∀ v,Rep c d v→F c'.S c'.w d' v
 | [],m,ds',m',h,c,hi,hr=>by
   simp [jd] at h
   obtain ⟨rfl,rfl⟩:=h
   exact ⟨c,rfl,hi,.refl c m,rfl,fun j d' hd=>by simp at hd⟩
 | d::ds,m,ds',m',h,c,hi,hr=>by
   simp only [jd,Option.bind_eq_some_iff] at h
   obtain ⟨⟨d1,m1⟩,h1,⟨⟨ds1,m2⟩,h2,h3⟩⟩:=h
   simp at h3
   obtain ⟨rfl,rfl⟩:=h3
   obtain ⟨c1,hw1,hi1,hs1,hF1⟩:=hf d m d1 m1 h1 c hi (hr d (by simp))
   obtain ⟨c2,hw2,hi2,hs2,hl2,hF2⟩:=QA hf ds m1 ds1 m2 h2 c1 hi1 (fun d' hd'=>by
    obtain ⟨v,hv⟩:=hr d' (by simp [hd'])
    exact ⟨v,hv.mono hs1.ext⟩)
   refine ⟨c2,by rw [hw2,hw1],hi2,hs1.trans hs2,by simp [hl2],fun j d' hd'=>?_⟩
   cases j with
   | zero =>
     simp at hd'
     subst hd'
     exact ⟨d,rfl,fun v hv=>(hF1 v hv).mono hs2.ext.S hs2.ext.heap⟩
   | succ j =>
     obtain ⟨d0,h4,h5⟩:=hF2 j d' (by simpa using hd')
     exact ⟨d0,by simpa using h4,fun v hv=>h5 v (hv.mono hs1.ext)⟩
theorem F.ayp {S:Nat→Prop} {w:World} {blk st:Nat} {cells:List D} {cs:Array Value} {T:TypeId} {fr:Nat×Nat} (hS:S blk) (hb:w.heap[blk]?=some (.cells cs T fr))
  (hc:∀ (j:Nat) (d:D),cells[j]?=some d→∃ v,cs[st+j]?=some v∧F S w d v∧v.oneCell'=true) (off:Nat):F S w (.ref cells off) (.pointer (some ⟨blk,st+off,none⟩)):=by
 refine .ref cells off blk st cs T fr (fun j=>cs.getD (st+j) undef) hS hb (fun j hj=>?_) (fun j d hd=>?_)
 ·obtain ⟨v,h1,_,h3⟩:=hc j cells[j] (List.getElem?_eq_getElem hj)
  simp [h1,h3]
 ·obtain ⟨v,h1,h2,_⟩:=hc j d hd
  simpa [h1] using h2
theorem F.aA1 {S:Nat→Prop} {w:World} {blk st len cap:Nat} {cells:List D} {cs:Array Value} {T:TypeId} {fr:Nat×Nat} (hS:S blk) (hb:w.heap[blk]?=some (.cells cs T fr)) (hlen:len≤cap)
  (hc:∀ (j:Nat) (d:D),cells[j]?=some d→∃ v,cs[st+j]?=some v∧F S w d v∧v.oneCell'=true):F S w (.sl len cells) (.slice (some ⟨blk,st,none⟩) len cap):=by
 refine .sl len cells blk st cap cs T fr (fun j=>cs.getD (st+j) undef) hS hlen hb (fun j hj=>?_) (fun j d hd=>?_)
 ·obtain ⟨v,h1,_,h3⟩:=hc j cells[j] (List.getElem?_eq_getElem hj)
  simp [h1,h3]
 ·obtain ⟨v,h1,h2,_⟩:=hc j d hd
  simpa [h1] using h2
theorem F.ax7 {c:Ctx} {S:Nat→Prop} {w:World} {b off len esz:Nat} {v:Value} (hr:Rep c (.aO b off len esz) v) {cells ds:List D} {cs:Array Value} {T:TypeId} {fr:Nat×Nat} (hS:S (c.β b).1)
  (hb:w.heap[(c.β b).1]?=some (.cells cs T fr)) (hc:∀ (j:Nat) (d:D),cells[j]?=some d→∃ v,cs[(c.β b).2+j]?=some v∧F S w d v∧v.oneCell'=true) (ht:m_ cells off (len*esz)=some ds):F S w (.sl len ds) v:=by
 obtain ⟨hL,cap,a,rfl,hlen,⟨hab,hsp⟩,ha⟩:=hr.DI
 obtain ⟨hfit,hdl,hdg⟩:=Gm ht
 obtain ⟨ablk,aoff,asp⟩:=a
 simp at hab hsp
 subst hab hsp
 by_cases h0:cap=0
 ·have : len=0:=by omega
  subst this
  simp at hdl
  subst hdl
  exact F.aA1 hS hb hlen (fun j d hd=>by simp at hd)
 ·obtain ⟨ha,_⟩:=ha.resolve_left h0
  simp at ha
  subst ha
  refine F.aA1 hS hb hlen (fun j d hd=>?_)
  have hj:j<len*esz:=by rw [← hdl]; exact (List.getElem?_eq_some_iff.1 hd).1
  obtain ⟨v,h1,h2,h3⟩:=hc (off+j) d (by rw [← hdg j hj]; exact hd)
  exact ⟨v,by rw [Nat.add_assoc]; exact h1,h2,h3⟩
theorem auT {f:D→Mem→Option (D×Mem)} (hf:ayQ f) {c:Ctx} {m m1:Mem} {b:Nat} {cs cs1 cells2:List D} (hi:Inv c m) (hm:m[b]?=some (.live cs)) (h:jd f cs m=some (cs1,m1)) (hm1:m1[b]?=some (.live cells2)) :
  ∃ c',c'.w=c.w∧Inv c' (m1.set b (.jc cs1))∧Step c m c' (m1.set b (.jc cs1))∧c'.S (c.β b).1∧∃ vs T,c'.w.heap[(c.β b).1]?=some (.cells vs T (0,0)) ∧
    ∀ (j:Nat) (d:D),cs1[j]?=some d→∃ v,vs[(c.β b).2+j]?=some v∧F c'.S c'.w d v∧v.oneCell'=true:=by
 obtain ⟨hL,hS,vs,T,hb,hz,hcells⟩:=hi.live b cs hm
 obtain ⟨c1,hw1,hi1,hs1,hl1,hF1⟩:=QA hf cs m cs1 m1 h c hi (fun d hd=>by
  obtain ⟨j,hj⟩:=List.mem_iff_getElem?.1 hd
  obtain ⟨v,_,hr,_⟩:=hcells j d hj
  exact ⟨v,hr⟩)
 have hβ:c1.β b=c.β b:=hs1.ext.β b hL
 have hc1:acJ c1 b cs1 vs:=by
  intro j d hd
  obtain ⟨d0,h1,h2⟩:=hF1 j d hd
  obtain ⟨v,q1,q2,q3⟩:=hcells j d0 h1
  exact ⟨v,by rw [hβ]; exact q1,h2 v q2,q3⟩
 obtain ⟨c2,hc2,hi2,hs2⟩:=hi1.freeze hm1 cs1 vs T (by rw [hw1,hβ]; exact hb) hc1
 refine ⟨c2,by rw [hc2]; exact hw1,hi2,hs1.trans hs2,by rw [hc2,← hβ]; exact .inr rfl,vs,T,by rw [hc2]; show c1.w.heap[_]?=_; rw [hw1]; exact hb,fun j d hd=>?_⟩
 obtain ⟨v,q1,q2,q3⟩:=hc1 j d hd
 exact ⟨v,by rw [← hβ]; exact q1,q2.mono hs2.ext.S hs2.ext.heap,q3⟩
theorem aic:∀ n,ayQ (fz n)
 | 0=>fun d m d' m' h=>by simp [fz] at h
 | n+1=>by
   have ih:=aic n
   have same:∀ (d:D) (m:Mem) (c:Ctx),Inv c m→(∀ v,Rep c d v→F c.S c.w d v)→∃ c',c'.w=c.w∧Inv c' m∧Step c m c' m∧∀ v,Rep c d v→F c'.S c'.w d v :=
    fun d m c hi h=>⟨c,rfl,hi,.refl c m,h⟩
   intro d m d' m' h c hi hr
   cases d <;> simp only [fz] at h
   case undef=>simp at h
   case int=>simp at h; obtain ⟨rfl,rfl⟩:=h; exact same _ _ _ hi fun v hv=>Cm 1 rfl hv
   case bool=>simp at h; obtain ⟨rfl,rfl⟩:=h; exact same _ _ _ hi fun v hv=>Cm 1 rfl hv
   case str=>simp at h; obtain ⟨rfl,rfl⟩:=h; exact same _ _ _ hi fun v hv=>Cm 1 rfl hv
   case iy=>simp at h; obtain ⟨rfl,rfl⟩:=h; exact same _ _ _ hi fun v hv=>Cm 1 rfl hv
   case dh=>simp at h; obtain ⟨rfl,rfl⟩:=h; exact ⟨c,rfl,hi,.refl c m,fun v hv=>by have := hv.sW; subst this; exact .sl0⟩
   case bQ=>simp at h; obtain ⟨rfl,rfl⟩:=h; exact same _ _ _ hi fun v hv=>Cm 1 rfl hv
   case BQ=>simp at h; obtain ⟨rfl,rfl⟩:=h; exact same _ _ _ hi fun v hv=>Cm 1 rfl hv
   case uz=>simp at h; obtain ⟨rfl,rfl⟩:=h; exact same _ _ _ hi fun v hv=>Cm 1 rfl hv
   case raw=>simp at h; obtain ⟨rfl,rfl⟩:=h; exact same _ _ _ hi fun v hv=>Cm 1 rfl hv
   case lmap b =>
    split at h <;> simp at h
    rename_i ks hm
    obtain ⟨rfl,rfl⟩:=h
    obtain ⟨hL,hS,es,clk,hb,hk⟩:=hi.maps b ks hm
    obtain ⟨c',hc',hi',hst⟩:=hi.aB0 hm
    refine ⟨c',by rw [hc'],hi',hst,fun v hv=>?_⟩
    obtain ⟨_,rfl⟩:=hv.Zg
    subst hc'
    exact .uz ks _ es clk (.inr rfl) hb hk
   case ref=>simp at h; obtain ⟨rfl,rfl⟩:=h; exact same _ _ _ hi fun v hv=>Cm 1 rfl hv
   case sl=>simp at h; obtain ⟨rfl,rfl⟩:=h; exact same _ _ _ hi fun v hv=>Cm 1 rfl hv
   case loc b off =>
    split at h <;> try (simp at h; done)
    ·rename_i cs hm
     simp at h
     obtain ⟨rfl,rfl⟩:=h
     obtain ⟨hL,hS,vs,T,fr,hb,hc⟩:=hi.jc b cs hm
     refine ⟨c,rfl,hi,.refl c m,fun v hv=>?_⟩
     obtain ⟨_,rfl⟩:=hv.xW
     exact F.ayp hS hb hc off
    ·rename_i cs hm
     rw [Option.bind_eq_some_iff] at h
     obtain ⟨⟨cs1,m1⟩,h1,h⟩:=h
     dsimp only at h
     split at h <;> simp at h
     rename_i cells2 hm1
     obtain ⟨rfl,rfl⟩:=h
     obtain ⟨c',hw,hi',hst,hS,vs,T,hb,hc⟩:=auT ih hi hm h1 hm1
     refine ⟨c',hw,hi',hst,fun v hv=>?_⟩
     obtain ⟨_,rfl⟩:=hv.xW
     exact F.ayp hS hb hc off
   case aO b off len esz =>
    split at h <;> try (simp at h; done)
    ·rename_i cs hm
     rw [Option.bind_eq_some_iff] at h
     obtain ⟨ds,hds,h⟩:=h
     simp at h
     obtain ⟨rfl,rfl⟩:=h
     obtain ⟨hL,hS,vs,T,fr,hb,hc⟩:=hi.jc b cs hm
     exact ⟨c,rfl,hi,.refl c m,fun v hv=>F.ax7 hv hS hb hc hds⟩
    ·rename_i cs hm
     rw [Option.bind_eq_some_iff] at h
     obtain ⟨⟨cs1,m1⟩,h1,h⟩:=h
     dsimp only at h
     split at h <;> try (simp at h; done)
     rename_i cells2 hm1
     rw [Option.bind_eq_some_iff] at h
     obtain ⟨ds,hds,h⟩:=h
     simp at h
     obtain ⟨rfl,rfl⟩:=h
     obtain ⟨c',hw,hi',hst,hS,vs,T,hb,hc⟩:=auT ih hi hm h1 hm1
     exact ⟨c',hw,hi',hst,fun v hv=>F.ax7 hv hS hb hc hds⟩
   case iface t d =>
    rw [Option.bind_eq_some_iff] at h
    obtain ⟨⟨d1,m1⟩,h1,h⟩:=h
    simp at h
    obtain ⟨rfl,rfl⟩:=h
    obtain ⟨v,hv⟩:=hr
    obtain ⟨u,_,hu⟩:=hv.ig
    obtain ⟨c',hw,hi',hst,hF⟩:=ih d m d1 m1 h1 c hi ⟨u,hu⟩
    refine ⟨c',hw,hi',hst,fun v hv=>?_⟩
    obtain ⟨u,rfl,hu⟩:=hv.ig
    exact .iface _ _ _ (hF u hu)
   case func g ds =>
    rw [Option.bind_eq_some_iff] at h
    obtain ⟨⟨ds1,m1⟩,h1,h⟩:=h
    simp at h
    obtain ⟨rfl,rfl⟩:=h
    obtain ⟨v,hv⟩:=hr
    obtain ⟨vs,g',_,hl,hg,hr'⟩:=hv.TQ
    obtain ⟨c',hw,hi',hst,hl',hF⟩:=QA ih ds m ds1 m1 h1 c hi (fun d hd=>by
     obtain ⟨j,hj⟩:=List.mem_iff_getElem?.1 hd
     exact ⟨_,hr' j d hj⟩)
    refine ⟨c',hw,hi',hst,fun v hv=>?_⟩
    obtain ⟨vs,g',rfl,hl,hg,hr'⟩:=hv.TQ
    refine .func _ _ vs g' (by rw [hl,hl']) (fun j hj=>hg j (by omega)) (fun j d' hd'=>?_)
    obtain ⟨d0,q1,q2⟩:=hF j d' hd'
    exact q2 _ (hr' j d0 q1)
   case agg ds =>
    rw [Option.bind_eq_some_iff] at h
    obtain ⟨⟨ds1,m1⟩,h1,h⟩:=h
    simp at h
    obtain ⟨rfl,rfl⟩:=h
    obtain ⟨v,hv⟩:=hr
    obtain ⟨vs,g',_,hl,hg,hr'⟩:=hv.O4
    obtain ⟨c',hw,hi',hst,hl',hF⟩:=QA ih ds m ds1 m1 h1 c hi (fun d hd=>by
     obtain ⟨j,hj⟩:=List.mem_iff_getElem?.1 hd
     exact ⟨_,hr' j d hj⟩)
    refine ⟨c',hw,hi',hst,fun v hv=>?_⟩
    obtain ⟨vs,g',rfl,hl,hg,hr'⟩:=hv.O4
    refine .agg _ vs g' (by rw [hl,hl']) (fun j hj=>hg j (by omega)) (fun j d' hd'=>?_)
    obtain ⟨d0,q1,q2⟩:=hF j d' hd'
    exact q2 _ (hr' j d0 q1)
   case aG ds =>
    rw [Option.bind_eq_some_iff] at h
    obtain ⟨⟨ds1,m1⟩,h1,h⟩:=h
    simp at h
    obtain ⟨rfl,rfl⟩:=h
    obtain ⟨v,hv⟩:=hr
    obtain ⟨vs,g',_,hl,hg,hr'⟩:=hv.Yh
    obtain ⟨c',hw,hi',hst,hl',hF⟩:=QA ih ds m ds1 m1 h1 c hi (fun d hd=>by
     obtain ⟨j,hj⟩:=List.mem_iff_getElem?.1 hd
     exact ⟨_,hr' j d hj⟩)
    refine ⟨c',hw,hi',hst,fun v hv=>?_⟩
    obtain ⟨vs,g',rfl,hl,hg,hr'⟩:=hv.Yh
    refine .aG _ vs g' (by rw [hl,hl']) (fun j hj=>hg j (by omega)) (fun j d' hd'=>?_)
    obtain ⟨d0,q1,q2⟩:=hF j d' hd'
    exact q2 _ (hr' j d0 q1)
end
end Go.Ev
end
section
namespace Go.Ev
structure Like (n:Nat) (c c1:Ctx):Prop where
 w:c1.w=c.w
 S:c1.S=c.S
 L:∀ i,i<n→c.L i→c1.L i
 β:∀ i,i<n→c.L i→c1.β i=c.β i
 sz:∀ i,i<n→c.L i→c1.sz i=c.sz i
theorem Ox {n:Nat} {c c1:Ctx} (h:Like n c c1):∀ (f:Nat) {d:D} {v:Value},D.clo n f d=true→Rep c d v→Rep c1 d v
 | 0,_,_,hc,_=>by simp [D.clo] at hc
 | f+1,d,v,hc,hr=>by
   cases d <;> simp [D.clo] at hc
   case iface t d=>obtain ⟨u,rfl,hu⟩:=hr.ig; exact .iface _ _ _ (Ox h f hc hu)
   case func g cap =>
    obtain ⟨vs,g,rfl,hl,hg,hr'⟩:=hr.TQ
    exact .func _ _ vs g hl hg fun j d hd=>Ox h f (hc d (List.mem_of_getElem? hd)) (hr' j d hd)
   case agg cells =>
    obtain ⟨vs,g,rfl,hl,hg,hr'⟩:=hr.O4
    exact .agg _ vs g hl hg fun j d hd=>Ox h f (hc d (List.mem_of_getElem? hd)) (hr' j d hd)
   case aG ds =>
    obtain ⟨vs,g,rfl,hl,hg,hr'⟩:=hr.Yh
    exact .aG _ vs g hl hg fun j d hd=>Ox h f (hc d (List.mem_of_getElem? hd)) (hr' j d hd)
   case loc b off =>
    obtain ⟨hL,rfl⟩:=hr.xW
    rw [← h.β b hc hL]
    exact .loc b off (h.L b hc hL)
   case lmap b =>
    obtain ⟨hL,rfl⟩:=hr.Zg
    rw [← h.β b hc hL]
    exact .lmap b (h.L b hc hL)
   case aO b off len esz =>
    obtain ⟨hL,cap,a,rfl,hlen,hab,ha⟩:=hr.DI
    exact .aO b off len esz cap a (h.L b hc hL) hlen (by rw [h.β b hc hL]; exact hab) (by rw [h.β b hc hL,h.sz b hc hL]; exact ha)
   all_goals
    cases hr with
    | b_ _ _ hf=>exact .b_ _ _ (by rw [h.S,h.w]; exact hf)
structure Kept (base:Nat) (m:Mem) (c:Ctx) (got:List Nat) (acc:Mem) (c1:Ctx):Prop where
 inv:Inv c1 acc
 like:Like base c c1
 from_:∀ (i:Nat) (cells:List D),acc[i]?=some (.live cells)→∃ i0 c0,m[i0]?=some (.live c0)∧(c.β i0).1=(c1.β i).1∧(i0<base∨i0∈got)
 av5:∀ (i:Nat) (ks:List Int),acc[i]?=some (.mp ks)→∃ i0 k0,m[i0]?=some (.mp k0)∧(c.β i0).1=(c1.β i).1∧(i0<base∨i0∈got)
theorem Kept.start {base:Nat} {m:Mem} {c:Ctx} (hi:Inv c m) (hall:(m.take base).all (fun s=>match s with | .live cs=>cs.all (D.clo base FZ) | _=>true)=true) :
  ∃ c1,Kept base m c [] (m.take base) c1:=by
 let c1:Ctx:={ c with L:=fun i=>c.L i∧i<base }
 have hlike:Like base c c1:=⟨rfl,rfl,fun i hi h=>⟨h,hi⟩,fun _ _ _=>rfl,fun _ _ _=>rfl⟩
 have hget:∀ (i:Nat) (s:Slot),(m.take base)[i]?=some s→i<base∧m[i]?=some s:=by
  intro i s h
  rw [List.getElem?_take] at h
  split at h
  ·exact ⟨by assumption,h⟩
  ·simp at h
 refine ⟨c1,⟨?_,hi.lt,?_,?_,?_,?_,?_⟩,hlike,?_,?_⟩
 ·rintro i ⟨hL,hlt⟩
  obtain ⟨s,h1,h2⟩:=hi.given i hL
  exact ⟨s,by rw [List.getElem?_take,if_pos hlt]; exact h1,h2⟩
 ·intro i cells h
  obtain ⟨hlt,hm⟩:=hget i _ h
  obtain ⟨hL,hS,cs,T,hb,hz,hc⟩:=hi.live i cells hm
  refine ⟨⟨hL,hlt⟩,hS,cs,T,hb,hz,fun j d hd=>?_⟩
  obtain ⟨v,q1,q2,q3⟩:=hc j d hd
  have h0:cells.all (D.clo base FZ)=true:=by simpa using List.all_eq_true.1 hall _ (List.mem_of_getElem? h)
  exact ⟨v,q1,Ox hlike FZ (List.all_eq_true.1 h0 d (List.mem_of_getElem? hd)) q2,q3⟩
 ·intro i cells h
  obtain ⟨hlt,hm⟩:=hget i _ h
  obtain ⟨hL,hS,cs,T,fr,hb,hc⟩:=hi.jc i cells hm
  exact ⟨⟨hL,hlt⟩,hS,cs,T,fr,hb,hc⟩
 ·intro i j ci cj h1 h2 he
  exact hi.inj i j ci cj (hget i _ h1).2 (hget j _ h2).2 he
 ·intro i ks h
  obtain ⟨hlt,hm⟩:=hget i _ h
  obtain ⟨hL,hS,es,clk,hb,hk⟩:=hi.maps i ks hm
  exact ⟨⟨hL,hlt⟩,hS,es,clk,hb,hk⟩
 ·intro i j ci cj h1 h2 he
  exact hi.OH i j ci cj (hget i _ h1).2 (hget j _ h2).2 he
 ·intro i cells h
  obtain ⟨hlt,hm⟩:=hget i _ h
  exact ⟨i,cells,hm,rfl,.inl hlt⟩
 ·intro i ks h
  obtain ⟨hlt,hm⟩:=hget i _ h
  exact ⟨i,ks,hm,rfl,.inl hlt⟩
theorem Kept.move {base:Nat} {m:Mem} {c c1:Ctx} {got:List Nat} {acc:Mem} (hi:Inv c m) (hk:Kept base m c got acc c1) (hacc:base≤acc.length) {b:Nat} {cs:List D} (hb:¬ b<base) (hg:b ∉ got) (hm:m[b]?=some (.live cs))
  (hall:cs.all (D.clo base FZ)=true):∃ c2,Kept base m c (b::got) (acc++[.live cs]) c2∧Ext c1 c2∧c2.L acc.length∧c2.β acc.length=c.β b∧c2.sz acc.length=c.sz b:=by
 obtain ⟨hL,hS,vs,T,hblk,hz,hc⟩:=hi.live b cs hm
 have hi1:=hk.inv.grow 1
 have hfree:(acc++List.replicate 1 Slot.free)[acc.length]?=some .free:=by simp
 have hnm:¬ Nu c1 (acc++List.replicate 1 Slot.free) (c.β b).1:=by
  intro h
  rcases h.grow with ⟨i,cells,h1,h2⟩ | ⟨i,cells,h1,h2⟩
  ·obtain ⟨i0,c0,h3,h4,h5⟩:=hk.from_ i cells h1
   have := hi.inj i0 b c0 cs h3 hm (by rw [h4,h2])
   subst this
   exact h5.elim hb hg
  ·obtain ⟨i0,c0,h3,h4,h5⟩:=hk.av5 i cells h1
   obtain ⟨_,_,es',clk',hb',_⟩:=hi.maps i0 c0 h3
   rw [h4,h2,hblk] at hb'
   simp at hb'
 obtain ⟨c2,hw,hi2,hext,hmut,hS2,hL2,hβ2,hz2⟩:=hi1.ap4 hfree (c.β b).1 (c.β b).2 (by rw [hk.like.S]; exact hS) hnm cs vs T c1.w rfl (fun _ _=>rfl) (by rw [hk.like.w]; exact hblk) (fun j d hd=>by
  obtain ⟨v,q1,q2,q3⟩:=hc j d hd
  exact ⟨v,q1,Ox hk.like FZ (List.all_eq_true.1 hall d (List.mem_of_getElem? hd)) q2,q3⟩)
 have hset:(acc++List.replicate 1 Slot.free).set acc.length (.live cs)=acc++[.live cs]:=by
  rw [List.set_append_right _ _ (Nat.le_refl _)]
  simp
 rw [hset] at hi2 hmut
 refine ⟨c2,⟨hi2,⟨by rw [hw,hk.like.w],by rw [hS2,hk.like.S],fun i hlt h=>hext.L i (hk.like.L i hlt h),fun i hlt h=>by rw [hext.β i (hk.like.L i hlt h),hk.like.β i hlt h],
  fun i hlt h=>by rw [hext.sz i (hk.like.L i hlt h),hk.like.sz i hlt h]⟩,fun i cells h=>?_,fun i cells h=>?_⟩,hext,hL2,by rw [hβ2],by rw [hz2,hz]⟩
 all_goals try (
  rw [List.getElem?_append] at h
  split at h
  ·obtain ⟨i0,c0,h3,h4,h5⟩:=hk.av5 i cells h
   have hLi:=(hk.inv.maps i cells h).1
   exact ⟨i0,c0,h3,by rw [hext.β i hLi]; exact h4,h5.imp id (List.mem_cons_of_mem _)⟩
  ·rename_i hge
   have : i=acc.length:=by
    have := (List.getElem?_eq_some_iff.1 h).1
    simp at this
    omega
   subst this
   simp at h
  done)
 rw [List.getElem?_append] at h
 split at h
 ·obtain ⟨i0,c0,h3,h4,h5⟩:=hk.from_ i cells h
  have hLi:=(hk.inv.live i cells h).1
  exact ⟨i0,c0,h3,by rw [hext.β i hLi]; exact h4,h5.imp id (List.mem_cons_of_mem _)⟩
 ·rename_i hge
  have : i=acc.length:=by
   have := (List.getElem?_eq_some_iff.1 h).1
   simp at this
   omega
  subst this
  exact ⟨b,cs,hm,by rw [hβ2],.inr (by simp)⟩
theorem ag' {base:Nat} {m:Mem} {c:Ctx} (hi:Inv c m):∀ (ds:List D) (got:List Nat) (acc:Mem) (ds':List D) (m':Mem) (vs:List Value) (c1:Ctx),fH base m ds got acc=some (ds',m')→dM c ds vs→base≤acc.length→Kept base m c got acc c1 →
  ∃ c2 got',Kept base m c got' m' c2∧Ext c1 c2∧dM c2 ds' vs
 | [],got,acc,ds',m',vs,c1,h,hr,hb,hk=>by
   simp [fH] at h
   obtain ⟨rfl,rfl⟩:=h
   cases hr
   exact ⟨c1,got,hk,.refl c1,.nil⟩
 | d::ds,got,acc,ds',m',vs,c1,h,hr,hb,hk=>by
   cases hr with
   | cons h1 h2 =>
     rename_i v vs
     have stay:∀ (r:List D×Mem),fH base m ds got acc=some r→(∀ c2,Ext c1 c2→Rep c2 d v)→ds'=d::r.1→m'=r.2→∃ c2 got',Kept base m c got' m' c2∧Ext c1 c2∧dM c2 ds' (v::vs):=by
      intro r hg hd e1 e2
      obtain ⟨c2,got',hk',hext,hr'⟩:=ag' hi ds got acc r.1 r.2 vs c1 hg h2 hb hk
      subst e1 e2
      exact ⟨c2,got',hk',hext,.cons (hd c2 hext) hr'⟩
     have hclo:∀ (r:List D×Mem),D.clo base FZ d=true→fH base m ds got acc=some r→ds'=d::r.1→m'=r.2→∃ c2 got',Kept base m c got' m' c2∧Ext c1 c2∧dM c2 ds' (v::vs):=by
      intro r hcl hg e1 e2
      exact stay r hg (fun c2 hext=>(Ox hk.like FZ hcl h1).mono hext) e1 e2
     have other:(bif D.clo base FZ d then (fH base m ds got acc).bind fun r=>some (d::r.1,r.2) else none)=some (ds',m')→∃ c2 got',Kept base m c got' m' c2∧Ext c1 c2∧dM c2 ds' (v::vs):=by
      intro h
      cases hcl:D.clo base FZ d <;> simp only [hcl,cond_false,cond_true] at h
      ·simp at h
      ·rw [Option.bind_eq_some_iff] at h
       obtain ⟨r,hg,h⟩:=h
       simp at h
       exact hclo r hcl hg h.1.symm h.2.symm
     cases d <;> simp only [fH] at h <;> try (exact other h)
     case iface t d0 =>
      cases hcl:D.clo base FZ (.iface t d0) with
      | true=>simp only [hcl,cond_true] at h other; exact other h
      | false =>
        simp only [hcl,cond_false] at h
        split at h <;> try (simp at h; done)
        rename_i b off
        have hge:¬ b<base:=fun hlt=>by
         have : D.clo base FZ (.iface t (.loc b off))=true:=by simp [FZ,D.clo,hlt]
         rw [this] at hcl; simp at hcl
        cases hgot:got.contains b <;> simp only [hgot,cond_false,cond_true] at h <;> try (simp at h; done)
        split at h <;> try (simp at h; done)
        rename_i cs hm
        cases hcl:cs.all (D.clo base FZ) <;> simp only [hcl,cond_false,cond_true] at h <;> try (simp at h; done)
        rw [Option.bind_eq_some_iff] at h
        obtain ⟨r,hg,h⟩:=h
        simp at h
        obtain ⟨rfl,rfl⟩:=h
        obtain ⟨c2,hk2,hext2,hL2,hβ2,hz2⟩:=hk.move hi hb hge (by simpa using hgot) hm hcl
        obtain ⟨c3,got',hk3,hext3,hr3⟩:=ag' hi ds (b::got) _ r.1 r.2 vs c2 hg h2 (by simp; omega) hk2
        refine ⟨c3,got',hk3,hext2.trans hext3,.cons ?_ hr3⟩
        obtain ⟨u,rfl,hu⟩:=h1.ig
        obtain ⟨hL,rfl⟩:=hu.xW
        have := (Rep.loc (c:=c2) acc.length off hL2).mono hext3
        rw [hβ2] at this
        exact .iface _ _ _ this
     case undef =>
      rw [Option.bind_eq_some_iff] at h
      obtain ⟨r,hg,h⟩:=h
      simp at h
      exact stay r hg (fun c2 _ => .undef v) h.1.symm h.2.symm
     case loc b off =>
      split at h
      ·rename_i hlt
       rw [Option.bind_eq_some_iff] at h
       obtain ⟨r,hg,h⟩:=h
       simp at h
       exact hclo r (by simp [FZ,D.clo,hlt]) hg h.1.symm h.2.symm
      ·rename_i hge
       cases hgot:got.contains b <;> simp only [hgot,cond_false,cond_true] at h <;> try (simp at h; done)
       split at h <;> try (simp at h; done)
       rename_i cs hm
       cases hcl:cs.all (D.clo base FZ) <;> simp only [hcl,cond_false,cond_true] at h <;> try (simp at h; done)
       rw [Option.bind_eq_some_iff] at h
       obtain ⟨r,hg,h⟩:=h
       simp at h
       obtain ⟨rfl,rfl⟩:=h
       obtain ⟨c2,hk2,hext2,hL2,hβ2,hz2⟩:=hk.move hi hb hge (by simpa using hgot) hm hcl
       obtain ⟨c3,got',hk3,hext3,hr3⟩:=ag' hi ds (b::got) _ r.1 r.2 vs c2 hg h2 (by simp; omega) hk2
       refine ⟨c3,got',hk3,hext2.trans hext3,.cons ?_ hr3⟩
       obtain ⟨hL,rfl⟩:=h1.xW
       have := (Rep.loc (c:=c2) acc.length off hL2).mono hext3
       rwa [hβ2] at this
     case aO b off len esz =>
      split at h
      ·rename_i hlt
       rw [Option.bind_eq_some_iff] at h
       obtain ⟨r,hg,h⟩:=h
       simp at h
       exact hclo r (by simp [FZ,D.clo,hlt]) hg h.1.symm h.2.symm
      ·rename_i hge
       cases hgot:got.contains b <;> simp only [hgot,cond_false,cond_true] at h <;> try (simp at h; done)
       split at h <;> try (simp at h; done)
       rename_i cs hm
       cases hcl:cs.all (D.clo base FZ) <;> simp only [hcl,cond_false,cond_true] at h <;> try (simp at h; done)
       rw [Option.bind_eq_some_iff] at h
       obtain ⟨r,hg,h⟩:=h
       simp at h
       obtain ⟨rfl,rfl⟩:=h
       obtain ⟨c2,hk2,hext2,hL2,hβ2,hz2⟩:=hk.move hi hb hge (by simpa using hgot) hm hcl
       obtain ⟨c3,got',hk3,hext3,hr3⟩:=ag' hi ds (b::got) _ r.1 r.2 vs c2 hg h2 (by simp; omega) hk2
       refine ⟨c3,got',hk3,hext2.trans hext3,.cons ?_ hr3⟩
       obtain ⟨hL,cap,a,rfl,hlen,hab,ha⟩:=h1.DI
       exact (Rep.aO (c:=c2) acc.length off len esz cap a hL2 hlen (by rw [hβ2]; exact hab) (by rw [hβ2,hz2]; exact ha)).mono hext3
theorem aAS {m0 m m':Mem} {c0 c:Ctx} {ds ds':List D} {vs:List Value} (hi0:Inv c0 m0) (hi:Inv c m) (hs:Step c0 m0 c m) (hr:dM c ds vs) (h:gc m0.length ds m=some (ds',m')) :
  ∃ c',c'.w=c.w∧Inv c' m'∧Step c0 m0 c' m'∧dM c' ds' vs:=by
 unfold gc at h
 rw [cond_eq_ite] at h
 split at h <;> try (simp at h; done)
 rename_i hb
 simp only [Bool.and_eq_true,decide_eq_true_eq] at hb
 obtain ⟨c1,hk1⟩:=Kept.start hi hb.2
 obtain ⟨c2,got',hk2,hext,hr2⟩:=ag' hi ds [] _ ds' m' vs c1 h hr (by simp; omega) hk1
 have hlt0:∀ i,c0.L i→i<m0.length:=fun i hL=>by
  obtain ⟨s,h1,_⟩:=hi0.given i hL
  exact (List.getElem?_eq_some_iff.1 h1).1
 have hmut:∀ b,Nu c2 m' b→Nu c m b:=by
  rintro b (⟨i,cells,h1,h2⟩ | ⟨i,cells,h1,h2⟩)
  ·obtain ⟨i0,cc,h3,h4,_⟩:=hk2.from_ i cells h1
   exact .inl ⟨i0,cc,h3,by rw [h4,h2]⟩
  ·obtain ⟨i0,cc,h3,h4,_⟩:=hk2.av5 i cells h1
   exact .inr ⟨i0,cc,h3,by rw [h4,h2]⟩
 refine ⟨c2,hk2.like.w,hk2.inv,⟨⟨?_,?_,?_,?_,?_⟩,?_,?_,?_,?_,by rw [hk2.like.w]; exact hs.out⟩,hr2⟩
 ·exact fun i hL=>hk2.like.L i (hlt0 i hL) (hs.ext.L i hL)
 ·exact fun i hL=>by rw [hk2.like.β i (hlt0 i hL) (hs.ext.L i hL),hs.ext.β i hL]
 ·exact fun i hL=>by rw [hk2.like.sz i (hlt0 i hL) (hs.ext.L i hL),hs.ext.sz i hL]
 ·exact fun b hb=>by rw [hk2.like.S]; exact hs.ext.S b hb
 ·exact fun b hb=>by rw [hk2.like.w]; exact hs.ext.heap b hb
 ·rw [hk2.like.w]; exact hs.size
 ·exact fun b hb hn=>by rw [hk2.like.w]; exact hs.frame b hb hn
 ·exact fun b hb=>hs.aho b (hmut b hb)
 ·exact fun b hb=>hs.b_ b (by rw [hk2.like.S] at hb; exact hb)
end Go.Ev
end
