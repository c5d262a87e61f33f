/- A part of the proof of priceAll_card, yieldAll_card, priceSum_card, flowAll_card, accrAll_card. -/
import Derived.Test.YtfkdcfbleblgoaaGreatDoorCSndA
set_option linter.unusedVariables false
set_option linter.unusedSimpArgs false
section
namespace Go.Ev
section
variable {P:Program} {o:Oper} {a:Act} {c:Ctx} {m m':Mem} {ds:List D} {d:D}
theorem ZT {t:TypeId} {b:Bool} (h:ZR P t=some b) (w:World):(isAgg t).run P w = .ok b w:=by
 unfold ZR at h
 unfold isAgg
 split at h <;> try (simp at h; done)
 ·rename_i hu; simp at h; subst h; simp [run_underlying hu]
 ·rename_i hu; simp at h; subst h; simp [run_underlying hu]
 ·rename_i d h1 h2 hu; simp at h; subst h
  rw [Sem.run_bind,run_underlying hu]
  cases d <;> first | exact (h1 _ rfl).elim | exact (h2 _ _ rfl).elim | rfl
theorem oz {t:TypeId} {n:Nat} (h:pG P t=some n) (w:World):(sizeOf t).run P w = .ok n w:=by
 unfold pG at h
 cases hi:P.info? t with
 | none=>simp [hi] at h
 | some i=>simp [hi] at h; subst h; simp [sizeOf,typeInfo,hi]
section
variable {op:Op} {ys:List Operand}
theorem axl (h:aZ P .aaZ op=some ys):∃ t x,op = .load t x∧ys=[x]∧ZR P t=some false:=by
 simp only [aZ] at h; split at h <;> simp at h; exact ⟨_,_,rfl,h.2.symm,h.1⟩
theorem axm {n:Nat} (h:aZ P (.aa0 n) op=some ys):∃ t x,op = .load t x∧ys=[x]∧ZR P t=some true∧pG P t=some n:=by
 simp only [aZ] at h; split at h <;> simp at h; exact ⟨_,_,rfl,h.2.symm,h.1⟩
theorem Hr {t e:TypeId} (h:JV P t=some e):P.underlying t=some (.slice e):=by
 unfold JV at h; split at h <;> simp at h; subst h; assumption
theorem aBB {off:Nat} {op:Op} {ys:List Operand} (h:aZ P (.fld off) op=some ys):∃ t x f fs fd,op = .field t x f∧ys=[x]∧P.underlying t=some (.struct fs)∧fs[f]?=some fd∧fd.offset=off∧ZR P fd.type=some false:=by
 simp only [aZ] at h; split at h <;> try (simp at h; done)
 split at h <;> try (simp at h; done)
 rw [Option.bind_eq_some_iff] at h
 obtain ⟨fd,h1,h2⟩:=h
 simp at h2
 obtain ⟨⟨h3,h4⟩,h⟩:=h2
 exact ⟨_,_,_,_,fd,rfl,h.symm,by assumption,h1,h3,h4⟩
theorem azh {esz:Nat} (h:aZ P (.akc esz) op=some ys):∃ t x y e,op = .indexAddr t x y∧ys=[x,y]∧P.underlying t=some (.slice e)∧pG P e=some esz:=by
 simp only [aZ] at h; split at h <;> try (simp at h; done)
 rw [Option.bind_eq_some_iff] at h
 obtain ⟨e,he,h⟩:=h
 simp at h
 exact ⟨_,_,_,e,rfl,h.2.symm,Hr he,h.1⟩
theorem axk {esz len:Nat} (h:aZ P (.aex esz len) op=some ys):∃ t x y e,op = .indexAddr t x y∧ys=[x,y]∧P.underlying t=some (.array len e)∧pG P e=some esz:=by
 simp only [aZ] at h; split at h <;> try (simp at h; done)
 split at h <;> simp at h
 obtain ⟨⟨rfl,h1⟩,h2⟩:=h
 exact ⟨_,_,_,_,rfl,h2.symm,by assumption,h1⟩
theorem azi (h:aZ P .akd op=some ys):∃ t x y,op = .index t x y∧ys=[x,y]∧P.underlying t=some .string:=by
 simp only [aZ] at h; split at h <;> simp at h
 obtain ⟨h1,h2⟩:=h
 refine ⟨_,_,_,rfl,h2.symm,?_⟩
 split at h1 <;> simp_all
theorem azk (h:aZ P .akk op=some ys):∃ x t ts,op = .call ⟨.builtin .len,#[x],ts⟩∧ys=[x]∧ts[0]?=some t∧P.underlying t=some .string:=by
 simp only [aZ] at h; split at h <;> simp at h
 rename_i args ts
 obtain ⟨⟨h1,h2⟩,h3⟩:=h
 obtain ⟨x,hx⟩:∃ x,args = #[x]:=by
  obtain ⟨l⟩:=args
  match l,h2 with
  | [x],_=>exact ⟨x,rfl⟩
 subst hx
 obtain ⟨hs,h4⟩:=(Option.any_eq_true_iff_get _ _).1 h1
 refine ⟨x,(ts[0]?).get hs,ts,rfl,by simpa using h3.symm,(Option.some_get hs).symm,?_⟩
 split at h4 <;> simp_all
theorem azj (h:aZ P .akj op=some ys):∃ x t ts e,op = .call ⟨.builtin .len,#[x],ts⟩∧ys=[x]∧ts[0]?=some t∧P.underlying t=some (.slice e):=by
 simp only [aZ] at h; split at h <;> simp at h
 rename_i args ts
 obtain ⟨⟨h1,h2⟩,h3⟩:=h
 obtain ⟨x,hx⟩:∃ x,args = #[x]:=by
  obtain ⟨l⟩:=args
  match l,h2 with
  | [x],_=>exact ⟨x,rfl⟩
 subst hx
 obtain ⟨hs,h4⟩:=(Option.any_eq_true_iff_get _ _).1 h1
 split at h4 <;> simp at h4
 rename_i e he
 exact ⟨x,(ts[0]?).get hs,ts,e,rfl,by simpa using h3.symm,(Option.some_get hs).symm,he⟩
theorem akA {args:Array Operand} (h:args.size=2):∃ x y,args = #[x,y]:=by
 obtain ⟨l⟩:=args
 match l,h with
 | [x,y],_=>exact ⟨x,y,rfl⟩
theorem aDj (h:aZ P .mn op=some ys):∃ x y ts,op = .call ⟨.builtin .min,#[x,y],ts⟩∧ys=[x,y]:=by
 simp only [aZ] at h; split at h <;> simp at h
 obtain ⟨h2,h3⟩:=h
 obtain ⟨x,y,rfl⟩:=akA h2
 exact ⟨x,y,_,rfl,by simpa using h3.symm⟩
theorem aDk (h:aZ P .mx op=some ys):∃ x y ts,op = .call ⟨.builtin .max,#[x,y],ts⟩∧ys=[x,y]:=by
 simp only [aZ] at h; split at h <;> simp at h
 obtain ⟨h2,h3⟩:=h
 obtain ⟨x,y,rfl⟩:=akA h2
 exact ⟨x,y,_,rfl,by simpa using h3.symm⟩
end
theorem aoI (q:Asked P .aaZ o a c m ds) (h:DY ds m=some (d,m')):Sound P o a c m d m':=by
 obtain ⟨ys,hc,hr⟩:=q.chk
 obtain ⟨t,x,hop,rfl,hu⟩:=axl hc
 unfold DY at h
 split at h <;> try (simp at h; done)
 rw [Option.bind_eq_some_iff] at h
 obtain ⟨⟨cells,off⟩,hadr,h⟩:=h
 rw [Option.bind_eq_some_iff] at h
 obtain ⟨d',hd',h⟩:=h
 simp at h
 obtain ⟨rfl,rfl⟩:=h
 obtain ⟨v,hv,h1⟩:=hr.one
 simp at hv
 obtain ⟨blk,st,cs,T,fr,rfl,hb,hcells⟩:=amA q.inv h1 hadr
 obtain ⟨v',hv',hrep,hone⟩:=hcells off d' hd'
 refine Sound.pure q.inv hrep ?_
 have : c.w.cell? ⟨blk,st+off,none⟩=some v':=by simp [World.cell?,hb,hv']
 simp [execOp,hop,hv,Instr.loadAt,Instr.sureAddr,loadVar,ZT hu,this]
theorem ayz (q:Asked P .alv o a c m ds) (h:Rf ds m=some (d,m')):Sound P o a c m d m':=by
 obtain ⟨ys,hc,hr⟩:=q.chk
 refine aoI ⟨⟨ys,hc,hr⟩,q.inv⟩ ?_
 unfold Rf at h
 split at h
 ·simpa [DY,YF] using h
 ·simp at h
theorem ahP {n:Nat} (q:Asked P (.aa0 n) o a c m ds) (h:Ap n ds m=some (d,m')):Sound P o a c m d m':=by
 obtain ⟨ys,hc,hr⟩:=q.chk
 obtain ⟨t,x,hop,rfl,hu,hs⟩:=axm hc
 unfold Ap at h
 split at h <;> try (simp at h; done)
 rw [Option.bind_eq_some_iff] at h
 obtain ⟨⟨cells,off⟩,hadr,h⟩:=h
 rw [Option.bind_eq_some_iff] at h
 obtain ⟨ds',hds',h⟩:=h
 simp at h
 obtain ⟨rfl,rfl⟩:=h
 obtain ⟨v,hv,h1⟩:=hr.one
 simp at hv
 obtain ⟨blk,st,cs,T,fr,rfl,hb,hcells⟩:=amA q.inv h1 hadr
 obtain ⟨hle,hlen,hget⟩:=Gm hds'
 obtain ⟨vs,hrun,hvl,_,hvr⟩:=wK (P:=P) (c:=c) (w:=c.w) (blk:=blk) (o:=st+off) (n:=n) (ds:=ds') hb hlen (fun j d' hd'=>by
  have hj:j<n:=by rw [← hlen]; exact (List.getElem?_eq_some_iff.1 hd').1
  obtain ⟨v',q1,q2,q3⟩:=hcells (off+j) d' (by rw [← hget j hj]; exact hd')
  exact ⟨v',by rw [Nat.add_assoc]; exact q1,q2,q3⟩)
 refine Sound.pure q.inv (.agg ds' vs.toArray (fun j=>vs.getD j undef) (by simp [hvl,hlen]) (fun j hj=>?_) (fun j d' hd'=>?_)) ?_
 ·obtain ⟨v',q1,q2,q3⟩:=hvr j ds'[j] (List.getElem?_eq_getElem hj)
  simp [List.getD,q1,q3]
 ·obtain ⟨v',q1,q2,q3⟩:=hvr j d' hd'
  simp [List.getD,q1,q2]
 ·simp [execOp,hop,hv,Instr.loadAt,Instr.sureAddr,loadVar,ZT hu,oz hs,hrun]
theorem aCC {off:Nat} (q:Asked P (.fld off) o a c m ds) (h:aeX off ds m=some (d,m')):Sound P o a c m d m':=by
 obtain ⟨ys,hc,hr⟩:=q.chk
 obtain ⟨t,x,f,fs,fd,hop,rfl,hu,hf,hoff,ha⟩:=aBB hc
 unfold aeX at h
 split at h <;> try (simp at h; done)
 rename_i cs
 rw [Option.bind_eq_some_iff] at h
 obtain ⟨d',hd',h⟩:=h
 simp at h
 obtain ⟨rfl,rfl⟩:=h
 obtain ⟨v,hv,h1⟩:=hr.one
 simp at hv
 obtain ⟨vs,g,rfl,hl,hg,hr'⟩:=h1.O4
 have hi:off<cs.length:=(List.getElem?_eq_some_iff.1 hd').1
 exact Sound.pure q.inv (hr' off d' hd') (by simp [execOp,hop,hv,Instr.field,run_underlying hu,hf,asAgg,part,ZT ha,hoff,(hg off hi).1])
theorem aAq {esz:Nat} (q:Asked P (.akc esz) o a c m ds) (h:LC esz ds m=some (d,m')):Sound P o a c m d m':=by
 obtain ⟨ys,hc,hr⟩:=q.chk
 obtain ⟨t,x,y,e,hop,rfl,hu,hs⟩:=azh hc
 have run:∀ (ad:Addr) (len cap:Nat) (k:IntKind) (i:Int) (w:World),0≤i→i<len→(Instr.indexAt t (.slice (some ad) len cap) (.int k i)).run P w = .ok (.pointer (some (ad.add (i.toNat*esz)))) w:=by
  intro ad len cap k i w h0 h1
  simp [Instr.indexAt,asIntOf,run_underlying hu,h0,h1,oz hs]
 unfold LC at h
 split at h <;> try (simp at h; done)
 ·simp at h
  obtain ⟨⟨h0,h1⟩,rfl,rfl⟩:=h
  rename_i len cs k i
  obtain ⟨v,u,hv,hd1,hd2⟩:=hr.two
  simp at hv
  obtain ⟨e1,e2⟩:=hv
  have := hd2.cu; subst this
  obtain ⟨rfl,_⟩ | ⟨blk,st,cap,cs',T,fr,g,rfl,hlen,hS,hb,hg,hF⟩:=hd1.GH
  ·omega
  refine Sound.pure q.inv (v := .pointer (some ⟨blk,st+i.toNat*esz,none⟩)) (.b_ _ _ (.ref _ _ blk st cs' T fr g hS hb hg hF)) ?_
  simp [execOp,hop,e1,e2,run _ _ _ _ _ _ h0 h1,Addr.add_lit]
 ·simp at h
  obtain ⟨⟨h0,h1⟩,rfl,rfl⟩:=h
  rename_i b off len e' k i
  obtain ⟨v,u,hv,hd1,hd2⟩:=hr.two
  simp at hv
  obtain ⟨e1,e2⟩:=hv
  have := hd2.cu; subst this
  obtain ⟨hL,cap,ad,rfl,hlen,hab,had⟩:=hd1.DI
  have had:ad=⟨(c.β b).1,(c.β b).2+off,none⟩:=(had.resolve_left (by omega)).1
  subst had
  refine Sound.pure q.inv (v := .pointer (some ⟨(c.β b).1,(c.β b).2+(off+i.toNat*esz),none⟩)) (.loc _ _ hL) ?_
  simp [execOp,hop,e1,e2,run _ _ _ _ _ _ h0 h1,Addr.add_lit,Nat.add_assoc]
theorem ayy {esz len:Nat} (q:Asked P (.aex esz len) o a c m ds) (h:Gy esz len ds m=some (d,m')):Sound P o a c m d m':=by
 obtain ⟨ys,hc,hr⟩:=q.chk
 obtain ⟨t,x,y,e,hop,rfl,hu,hs⟩:=axk hc
 have run:∀ (ad:Addr) (k:IntKind) (i:Int) (w:World),0≤i→i<len→(Instr.indexAt t (.pointer (some ad)) (.int k i)).run P w = .ok (.pointer (some (ad.add (i.toNat*esz)))) w:=by
  intro ad k i w h0 h1
  simp [Instr.indexAt,asIntOf,run_underlying hu,Instr.sureAddr,h0,h1,oz hs]
 unfold Gy at h
 split at h <;> try (simp at h; done)
 ·simp at h
  obtain ⟨⟨h0,h1⟩,rfl,rfl⟩:=h
  rename_i b off k i
  obtain ⟨v,u,hv,hd1,hd2⟩:=hr.two
  simp at hv
  obtain ⟨e1,e2⟩:=hv
  have := hd2.cu; subst this
  obtain ⟨hL,rfl⟩:=hd1.xW
  refine Sound.pure q.inv (v := .pointer (some ⟨(c.β b).1,(c.β b).2+(off+i.toNat*esz),none⟩)) (.loc _ _ hL) ?_
  simp [execOp,hop,e1,e2,run _ _ _ _ h0 h1,Addr.add_lit,Nat.add_assoc]
 ·simp at h
  obtain ⟨⟨h0,h1⟩,rfl,rfl⟩:=h
  rename_i cs off k i
  obtain ⟨v,u,hv,hd1,hd2⟩:=hr.two
  simp at hv
  obtain ⟨e1,e2⟩:=hv
  have := hd2.cu; subst this
  obtain ⟨blk,st,cs',T,fr,g,rfl,hS,hb,hg,hF⟩:=hd1.Hg
  refine Sound.pure q.inv (v := .pointer (some ⟨blk,st+(off+i.toNat*esz),none⟩)) (.b_ _ _ (.ref _ _ blk st cs' T fr g hS hb hg hF)) ?_
  simp [execOp,hop,e1,e2,run _ _ _ _ h0 h1,Addr.add_lit,Nat.add_assoc]
theorem aAr (q:Asked P .akd o a c m ds) (h:UO ds m=some (d,m')):Sound P o a c m d m':=by
 obtain ⟨ys,hc,hr⟩:=q.chk
 obtain ⟨t,x,y,hop,rfl,hu⟩:=azi hc
 unfold UO at h
 split at h <;> try (simp at h; done)
 split at h <;> try (simp at h; done)
 rename_i s k i h0
 rw [Option.bind_eq_some_iff] at h
 obtain ⟨b,hb,h⟩:=h
 simp at h
 obtain ⟨rfl,rfl⟩:=h
 obtain ⟨v,u,hv,hd1,hd2⟩:=hr.two
 simp at hv
 obtain ⟨e1,e2⟩:=hv
 have := hd1.jv; subst this
 have := hd2.cu; subst this
 have hlt:i.toNat<s.length:=(List.getElem?_eq_some_iff.1 hb).1
 have hget:(⟨s.toArray⟩:ByteArray)[i.toNat]?=some b:=by
  have hsz:i.toNat<(⟨s.toArray⟩:ByteArray).size:=by simpa [ByteArray.size] using hlt
  rw [ByteArray.getElem?_lt' _ _ hsz]
  have : (⟨s.toArray⟩:ByteArray)[i.toNat]=s[i.toNat]:=rfl
  rw [this]
  rw [List.getElem?_eq_getElem hlt] at hb
  exact hb
 refine Sound.pure q.inv (.b_ _ _ (.int _ _)) ?_
 simp [execOp,hop,e1,e2,Instr.index,asIntOf,run_underlying hu,h0,hget]
theorem aAv (q:Asked P .akk o a c m ds) (h:X6 ds m=some (d,m')):Sound P o a c m d m':=by
 obtain ⟨ys,hc,hr⟩:=q.chk
 obtain ⟨x,t,ts,hop,rfl,ht,hu⟩:=azk hc
 unfold X6 at h
 split at h <;> simp at h
 obtain ⟨rfl,rfl⟩:=h
 obtain ⟨v,hv,hd1⟩:=hr.one
 simp at hv
 have := hd1.jv; subst this
 refine Sound.pure q.inv (.b_ _ _ (.int _ _)) ?_
 simp [execOp,hop,hv,resolve,invoke,builtin,Builtin.len_,ht,run_underlying hu,goInt,ByteArray.size_mk']
theorem aAu (q:Asked P .akj o a c m ds) (h:Oi ds m=some (d,m')):Sound P o a c m d m':=by
 obtain ⟨ys,hc,hr⟩:=q.chk
 obtain ⟨x,t,ts,e,hop,rfl,ht,hu⟩:=azj hc
 unfold Oi at h
 split at h <;> simp at h <;> obtain ⟨rfl,rfl⟩:=h <;> obtain ⟨v,hv,hd1⟩:=hr.one <;> simp at hv
 ·have := hd1.sW; subst this
  exact Sound.pure q.inv (.b_ _ _ (.int _ _)) (by simp [execOp,hop,hv,resolve,invoke,builtin,Builtin.len_,ht,run_underlying hu,goInt])
 ·obtain ⟨rfl,rfl,rfl⟩ | ⟨blk,st,cap,cs',T,fr,g,rfl,hlen,hS,hb,hg,hF⟩:=hd1.GH
  ·exact Sound.pure q.inv (.b_ _ _ (.int _ _)) (by simp [execOp,hop,hv,resolve,invoke,builtin,Builtin.len_,ht,run_underlying hu,goInt])
  exact Sound.pure q.inv (.b_ _ _ (.int _ _)) (by simp [execOp,hop,hv,resolve,invoke,builtin,Builtin.len_,ht,run_underlying hu,goInt])
 ·obtain ⟨hL,cap,ad,rfl,hlen,hab,had⟩:=hd1.DI
  exact Sound.pure q.inv (.b_ _ _ (.int _ _)) (by simp [execOp,hop,hv,resolve,invoke,builtin,Builtin.len_,ht,run_underlying hu,goInt])
theorem aDN (q:Asked P .mn o a c m ds) (h:rMn ds m=some (d,m')):Sound P o a c m d m':=by
 obtain ⟨ys,hc,hr⟩:=q.chk
 obtain ⟨x,y,ts,hop,rfl⟩:=aDj hc
 unfold rMn at h
 split at h <;> simp at h
 obtain ⟨rfl,rfl⟩:=h
 obtain ⟨v,u,hv,hd1,hd2⟩:=hr.two
 simp at hv
 obtain ⟨e1,e2⟩:=hv
 have := hd1.cu; subst this
 have := hd2.cu; subst this
 exact Sound.pure q.inv (.b_ _ _ (.int _ _)) (by simp [execOp,hop,e1,e2,resolve,invoke,builtin,Builtin.min_,Builtin.min2])
theorem aDO (q:Asked P .mx o a c m ds) (h:rMx ds m=some (d,m')):Sound P o a c m d m':=by
 obtain ⟨ys,hc,hr⟩:=q.chk
 obtain ⟨x,y,ts,hop,rfl⟩:=aDk hc
 unfold rMx at h
 split at h <;> simp at h
 obtain ⟨rfl,rfl⟩:=h
 obtain ⟨v,u,hv,hd1,hd2⟩:=hr.two
 simp at hv
 obtain ⟨e1,e2⟩:=hv
 have := hd1.cu; subst this
 have := hd2.cu; subst this
 exact Sound.pure q.inv (.b_ _ _ (.int _ _)) (by simp [execOp,hop,e1,e2,resolve,invoke,builtin,Builtin.max_,Builtin.max2])
end
end Go.Ev
end
section
namespace Go.Ev
section
variable {P:Program} {o:Oper} {a:Act} {c:Ctx} {m m':Mem} {ds:List D} {d:D}
def Q8 (cs:Array Value) (o:Nat):List Value→Array Value
 | []=>cs
 | v::vs=>Q8 (cs.setIfInBounds o v) (o+1) vs
theorem abh:∀ (vs:List Value) (cs:Array Value) (o:Nat),(Q8 cs o vs).size=cs.size
 | [],_,_=>rfl
 | v::vs,cs,o=>by simp [Q8,abh vs]
theorem acg:∀ (ds cells:List D) (o:Nat),(aS cells o ds).length=cells.length
 | [],_,_=>rfl
 | d::ds,cells,o=>by simp [aS,acg ds]
def zh (c:Ctx) (st:Nat) (cells:List D) (cs:Array Value):Prop :=
 ∀ (j:Nat) (d:D),cells[j]?=some d→∃ v,cs[st+j]?=some v∧Rep c d v∧v.oneCell'=true
theorem zh.put {st:Nat}:∀ (ds:List D) (vs:List Value) (cells:List D) (cs:Array Value) (o:Nat),zh c st cells cs→ds.length=vs.length →
  (∀ (j:Nat) (d:D),ds[j]?=some d→∃ v,vs[j]?=some v∧Rep c d v∧v.oneCell'=true)→o+ds.length≤cells.length→zh c st (aS cells o ds) (Q8 cs (st+o) vs)
 | [],[],cells,cs,o,h,_,_,_=>h
 | [],_::_,_,_,_,_,hl,_,_=>by simp at hl
 | _::_,[],_,_,_,_,hl,_,_=>by simp at hl
 | d::ds,v::vs,cells,cs,o,h,hl,hr,hle=>by
   have h0:=hr 0 d rfl
   obtain ⟨v',hv',hrep,hone⟩:=h0
   simp at hv'
   subst hv'
   simp only [aS,Q8]
   rw [show st+o+1=st+(o+1) by omega]
   refine zh.put ds vs (cells.set o d) (cs.setIfInBounds (st+o) v) (o+1) ?_ (by simpa using hl) (fun j d' hd'=>hr (j+1) d' (by simpa using hd')) (by simp at hle ⊢; omega)
   intro j d' hd'
   rw [List.getElem?_set] at hd'
   split at hd'
   ·rename_i e
    subst e
    split at hd' <;> simp at hd'
    subst hd'
    rename_i hlt
    obtain ⟨v',h1,_,_⟩:=h o cells[o] (List.getElem?_eq_getElem hlt)
    have : st+o<cs.size:=(Array.getElem?_eq_some_iff.1 h1).1
    exact ⟨v,by simp [this],hrep,hone⟩
   ·rename_i e
    obtain ⟨v',h1,h2,h3⟩:=h j d' hd'
    exact ⟨v',by rw [Array.getElem?_setIfInBounds_ne (by omega)]; exact h1,h2,h3⟩
theorem Zp (b:Nat):∀ (vs:List Value) (o:Nat) (w:World),Out w (w.setCells b o vs)
 | [],o,w => .refl w
 | v::vs,o,w=>Out.trans (b:=w.setCell ⟨b,o,none⟩ v) ⟨rfl,rfl⟩ (Zp b vs (o+1) _)
theorem ZP (b:Nat) (T:TypeId) (fr:Nat×Nat):∀ (vs:List Value) (o:Nat) (cs:Array Value) (w:World),w.heap[b]?=some (.cells cs T fr) →
  (w.setCells b o vs).heap[b]?=some (.cells (Q8 cs o vs) T fr)∧(w.setCells b o vs).heap.size=w.heap.size∧∀ k,k≠b→(w.setCells b o vs).heap[k]?=w.heap[k]?
 | [],o,cs,w,h=>⟨h,rfl,fun _ _=>rfl⟩
 | v::vs,o,cs,w,h=>by
   simp only [World.setCells,Q8]
   have hlt:=lt_of_heap h
   have h1:(w.setCell ⟨b,o,none⟩ v).heap[b]?=some (.cells (cs.setIfInBounds o v) T fr):=by
    simp [World.setCell,Array.getElem?_modify,h]
   have h2:(w.setCell ⟨b,o,none⟩ v).heap.size=w.heap.size:=by simp [World.setCell]
   have h3:∀ k,k≠b→(w.setCell ⟨b,o,none⟩ v).heap[k]?=w.heap[k]?:=fun k hk=>by
    simp [World.setCell,Array.getElem?_modify,Ne.symm hk]
   obtain ⟨q1,q2,q3⟩:=ZP b T fr vs (o+1) _ _ h1
   exact ⟨q1,by rw [q2,h2],fun k hk=>by rw [q3 k hk,h3 k hk]⟩
theorem an6 (off:Nat):∀ (vs:List Value) (k:Nat) (cs:Array Value),(vs.zipIdx k).foldl (fun cs (x:Value×Nat)=>cs.setIfInBounds (off+x.2) x.1) cs=Q8 cs (off+k) vs
 | [],_,_=>rfl
 | v::vs,k,cs=>by
   simp only [List.zipIdx_cons,List.foldl_cons,Q8]
   rw [an6 off vs (k+1)]
   rfl
theorem ajK (place:Nat→Option (Nat×Nat)):∀ (parts:List (Nat×Operand)) (ps:List (Nat×Nat)) (ds:List D) (cells:List D) (cs:Array Value) (out:List D),
  DU place parts ps=true→dM c ds ((parts.map (·.2)).map a.eval)→cells.length=cs.size→zh c 0 cells cs→rP cells ps ds=some out →
  ∃ cs',Instr.fill place cs (parts.map fun x=>(x.1,a.eval x.2))=some cs'∧out.length=cs'.size∧zh c 0 out cs'
 | [],ps,ds,cells,cs,out,hp,hr,hl,hc,h=>by
   cases ps <;> simp [DU] at hp
   have := hr.length
   simp at this
   subst this
   simp [rP] at h
   subst h
   exact ⟨cs,rfl,hl,hc⟩
 | (i,x)::parts,ps,ds,cells,cs,out,hp,hr,hl,hc,h=>by
   cases ps with
   | nil=>simp [DU] at hp
   | cons p ps =>
     obtain ⟨off,n⟩:=p
     simp only [DU,Bool.and_eq_true] at hp
     obtain ⟨hp1,hp2⟩:=hp
     simp only [List.map_cons] at hr
     cases hr with
     | cons h1 h2 =>
       rename_i d0 ds0
       simp only [rP,Option.bind_eq_some_iff] at h
       obtain ⟨vc,hvc,h⟩:=h
       split at h <;> try (simp at h; done)
       rename_i hcond
       obtain ⟨hn,hle⟩:=hcond
       obtain ⟨hsz,hcells⟩:=ZU h1 hvc
       cases hpl:place i with
       | none=>simp [hpl] at hp1
       | some os =>
         obtain ⟨o',s'⟩:=os
         simp [hpl] at hp1
         obtain ⟨rfl,rfl⟩:=hp1
         have hput:=zh.put vc (a.eval x).cells.toList cells cs o' hc (by simpa using hsz.symm) (fun j d' hd'=>by
          obtain ⟨v',q1,q2,q3⟩:=hcells j d' hd'
          exact ⟨v',by simpa using q1,q2,q3⟩) (by omega)
         rw [Nat.zero_add] at hput
         obtain ⟨cs',q1,q2,q3⟩:=ajK place parts ps ds0 (aS cells o' vc) (Q8 cs o' (a.eval x).cells.toList) out hp2 h2 (by rw [acg,abh]; exact hl) hput h
         refine ⟨cs',?_,q2,q3⟩
         simp only [List.map_cons,Instr.fill,hpl]
         have hcnd:((a.eval x).cells.size≠s' || decide (o'+(a.eval x).cells.size>cs.size))=false:=by
          simp [hsz,hn]; omega
         rw [if_neg (by simpa using hcnd)]
         have hfold:Array.foldl (fun cs (x:Value×Nat)=>match x with | (c,j)=>cs.setIfInBounds (o'+j) c) cs (a.eval x).cells.zipIdx=Q8 cs o' (a.eval x).cells.toList:=by
          have := an6 o' (a.eval x).cells.toList 0 cs
          rw [Nat.add_zero] at this
          rw [← this,← Array.foldl_toList,Array.toList_zipIdx]
         rw [hfold]
         exact q1
theorem afa {t:TypeId} {z:List D} (h:oV P t z=true):∃ i v,P.info? t=some i∧i.zero=some v∧z.length=v.cells.size∧zh c 0 z v.cells∧∀ w,(zeroValue t).run P w = .ok v w:=by
 unfold oV at h
 split at h <;> try (simp at h; done)
 rename_i v hv
 rw [Option.bind_eq_some_iff] at hv
 obtain ⟨i,hi,hz⟩:=hv
 obtain ⟨hl,hd⟩:=aaN h
 refine ⟨i,v,hi,hz,by simpa using hl,fun j d hjd=>?_,fun w=>by simp [zeroValue,typeInfo,hi,hz]⟩
 obtain ⟨u,hu,hdq⟩:=hd j d hjd
 exact ⟨u,by simpa using hu,ah_ hdq,aBS hdq⟩
end
end Go.Ev
end
section
namespace Go.Ev
section
variable {P:Program} {o:Oper} {a:Act} {c:Ctx} {m m':Mem} {ds:List D} {d:D}
section
variable {op:Op} {ys:List Operand}
theorem aBt {j:Nat} (h:aZ P (.box j) op=some ys):∃ t x,op = .box t x∧ys=[x]:=by
 simp only [aZ] at h; split at h <;> simp at h; exact ⟨_,_,rfl,h.symm⟩
theorem axi {j:Nat} {z:List D} (h:aZ P (.alloc j z) op=some ys):∃ t,op = .alloc t∧ys=[]∧oV P t z=true:=by
 simp only [aZ] at h; split at h <;> simp at h; exact ⟨_,rfl,h.2,h.1⟩
theorem axo {n:Nat} (h:aZ P (.store n) op=some ys):∃ t x y,op = .store t x y∧ys=[x,y]∧pG P t=some n:=by
 simp only [aZ] at h; split at h <;> simp at h; exact ⟨_,_,_,rfl,h.2.symm,h.1⟩
theorem axj {z:List D} {ps:List (Nat×Nat)} (h:aZ P (.build z ps) op=some ys) :
  ∃ t parts,op = .build t parts∧ys=parts.toList.map (·.2)∧oV P t z=true∧OC P t=true∧DU (placesOf P t) parts.toList ps=true:=by
 simp only [aZ] at h; split at h <;> simp at h
 obtain ⟨⟨h1,h2,h3⟩,h⟩:=h
 exact ⟨_,_,rfl,by simpa using h.symm,h1,h2,h3⟩
theorem aBI {lo hi:Bool} (h:aZ P (.slS lo hi) op=some ys):∃ t x l h',op = .slice t x l h' none∧ys=x::l.toList++h'.toList∧P.underlying t=some .string∧l.isSome=lo∧h'.isSome=hi:=by
 simp only [aZ] at h; split at h <;> simp at h
 obtain ⟨⟨h1,h2,h3⟩,h4⟩:=h
 refine ⟨_,_,_,_,rfl,by simpa using h4.symm,?_,h2,h3⟩
 split at h1 <;> simp_all
theorem aBH {esz:Nat} {lo hi:Bool} (h:aZ P (.slL esz lo hi) op=some ys):∃ t x l h' e,op = .slice t x l h' none∧ys=x::l.toList++h'.toList∧P.underlying t=some (.slice e)∧pG P e=some esz∧l.isSome=lo∧h'.isSome=hi:=by
 simp only [aZ] at h; split at h <;> try (simp at h; done)
 rw [Option.bind_eq_some_iff] at h
 obtain ⟨e,he,h⟩:=h
 simp at h
 obtain ⟨⟨h1,h2,h3⟩,h4⟩:=h
 exact ⟨_,_,_,_,e,rfl,by simpa using h4.symm,Hr he,h1,h2,h3⟩
end
theorem heap_alloc_old (w:World) (ob:Obj) (b:Nat) (h:b<w.heap.size):(w.alloc ob).heap[b]?=w.heap[b]?:=by
 show (w.heap.push ob)[b]?=_
 rw [Array.getElem?_push]; split
 ·omega
 ·rfl
theorem heap_alloc_last (w:World) (ob:Obj):(w.alloc ob).heap[w.heap.size]?=some ob:=by
 show (w.heap.push ob)[w.heap.size]?=_
 simp
theorem Inv.alloc {base j:Nat} (hi:Inv c m) {cells:List D} {cs:Array Value} (T:TypeId) (hc:zh c 0 cells cs) (w0:World) (hw0:w0.heap=c.w.heap) (ho0:Out c.w w0)
  {r:D} {d:D} (h:zD base j cells r m=some (d,m')) :
  d=r∧∃ c',c'.w=w0.alloc (.cells cs T)∧Inv c' m'∧Step c m c' m'∧c'.L (base+j)∧c'.β (base+j)=(c.w.heap.size,0)∧c'.sz (base+j)=cs.size:=by
 unfold zD at h
 split at h <;> simp at h
 rename_i hm
 obtain ⟨rfl,rfl⟩:=h
 refine ⟨rfl,?_⟩
 exact hi.fresh hm cells cs T (w0.alloc (.cells cs T)) (by rw [World.size_alloc,hw0]) (fun b hb=>by rw [heap_alloc_old _ _ _ (by rw [hw0]; exact hb),hw0]) ho0
  (by rw [← hw0]; exact heap_alloc_last _ _) (fun j d hd=>by simpa using hc j d hd)
theorem aCt {base j:Nat} (q:Asked P (.box j) o a c m ds) (h:aeS base j ds m=some (d,m')):Sound P o a c m d m':=by
 obtain ⟨ys,hc,hr⟩:=q.chk
 obtain ⟨t,x,hop,rfl⟩:=aBt hc
 unfold aeS at h
 split at h <;> try (simp at h; done)
 rw [Option.bind_eq_some_iff] at h
 obtain ⟨cs,hcs,h⟩:=h
 obtain ⟨v,hv,hd1⟩:=hr.one
 simp at hv
 subst hv
 obtain ⟨hsz,hcells⟩:=ZU hd1 hcs
 obtain ⟨rfl,c',hw,hi',hst,hL,hβ,_⟩:=q.inv.alloc t (cs:=(a.eval x).cells) (fun j d hd=>by simpa using hcells j d hd) c.w rfl (.refl _) h
 refine Sound.yH (c':=c') (v := .pointer (some ⟨c.w.heap.size,0,none⟩)) ?_ ?_ hi' hst
 ·rw [hw]; simp [execOp,hop,Instr.box,newVar,newRow]
 ·have := Rep.loc (c:=c') (base+j) 0 hL
  rwa [hβ] at this
theorem ays {base j:Nat} {z:List D} (q:Asked P (.alloc j z) o a c m ds) (h:JG base j z ds m=some (d,m')):Sound P o a c m d m':=by
 obtain ⟨ys,hc,hr⟩:=q.chk
 obtain ⟨t,hop,rfl,hz⟩:=axi hc
 unfold JG at h
 split at h <;> try (simp at h; done)
 obtain ⟨i,v,hinfo,hzero,hzl,hzr,hrun⟩:=afa (c:=c) hz
 obtain ⟨rfl,c',hw,hi',hst,hL,hβ,_⟩:=q.inv.alloc t (cs:=v.cells) hzr c.w rfl (.refl _) h
 refine Sound.yH (c':=c') (v := .pointer (some ⟨c.w.heap.size,0,none⟩)) ?_ ?_ hi' hst
 ·rw [hw]; simp [execOp,hop,Instr.alloc,hrun,newVar,newRow]
 ·have := Rep.loc (c:=c') (base+j) 0 hL
  rwa [hβ] at this
theorem aoJ {n:Nat} (q:Asked P (.store n) o a c m ds) (h:yM n ds m=some (d,m')):Sound P o a c m d m':=by
 obtain ⟨ys,hc,hr⟩:=q.chk
 obtain ⟨t,x,y,hop,rfl,hs⟩:=axo hc
 unfold yM at h
 split at h <;> try (simp at h; done)
 rename_i b off dv
 rw [Option.bind_eq_some_iff] at h
 obtain ⟨cs,hcs,h⟩:=h
 split at h <;> try (simp at h; done)
 rename_i cells hm
 split at h <;> simp at h
 rename_i hcond
 obtain ⟨hn,hle⟩:=hcond
 obtain ⟨rfl,rfl⟩:=h
 obtain ⟨v,u,hv,hd1,hd2⟩:=hr.two
 simp at hv
 obtain ⟨e1,e2⟩:=hv
 obtain ⟨hL,rfl⟩:=hd1.xW
 obtain ⟨hsz,hcells⟩:=ZU hd2 hcs
 obtain ⟨_,hS,cs0,T0,hb,hz0,hc0⟩:=q.inv.live b cells hm
 have hput:=zh.put cs u.cells.toList cells cs0 off hc0 (by simpa using hsz.symm) (fun j d' hd'=>by
  obtain ⟨v',q1,q2,q3⟩:=hcells j d' hd'
  exact ⟨v',by simpa using q1,q2,q3⟩) (by omega)
 obtain ⟨w1,w2,w3⟩:=ZP (c.β b).1 T0 (0,0) u.cells.toList ((c.β b).2+off) cs0 c.w hb
 obtain ⟨hi',hst⟩:=q.inv.write hm (aS cells off cs) _ T0 (c.w.setCells (c.β b).1 ((c.β b).2+off) u.cells.toList) w2 w3 (Zp _ _ _ _) w1 (by rw [abh]; exact hz0) hput
 refine Sound.am2 (c':={ c with w:=c.w.setCells (c.β b).1 ((c.β b).2+off) u.cells.toList }) ?_ hi' hst
 have hone:∀ v∈u.cells.toList,v.oneCell'=true:=by
  intro v hv
  obtain ⟨j,hj,e⟩:=List.mem_iff_getElem.1 hv
  simp at hj
  have hj':j<cs.length:=by omega
  obtain ⟨v',q1,q2,q3⟩:=hcells j cs[j] (List.getElem?_eq_getElem hj')
  have : v'=v:=by
   rw [← e]
   rw [Array.getElem?_eq_getElem hj] at q1
   simpa using q1.symm
  rw [← this]
  exact q3
 have hthere:∀ j,j<u.cells.toList.length→(c.w.cell? ⟨(c.β b).1,(c.β b).2+off+j,none⟩).isSome=true:=by
  intro j hj
  simp at hj
  obtain ⟨v',h1,_,_⟩:=hc0 (off+j) cells[off+j] (List.getElem?_eq_getElem (by omega))
  rw [← Nat.add_assoc] at h1
  simp [World.cell?,hb,h1]
 have hfro:∀ j,j<u.cells.toList.length→c.w.frozen? ⟨(c.β b).1,(c.β b).2+off+j,none⟩=false:=by
  intro j hj
  simp [World.frozen?,hb]
 have hst:=run_storeCells_cells (P:=P) (c.β b).1 ((c.β b).2+off) u.cells.toList 0 c.w (by simpa using hthere) (by simpa using hfro) hone
 simp only [Nat.add_zero] at hst
 simp [execOp,hop,e1,e2,Instr.storeAt,Instr.sureAddr,storeVar,oz hs,hsz,hn,hst]
theorem avX {t:TypeId} {fs:Array Field} (hu:P.underlying t=some (.struct fs)) (hf:OC P t=true) (w:World) :
  ∃ places:Array (Nat×Nat),(fs.mapM fun f=>do pure (f.offset,← sizeOf f.type):Sem (Array (Nat×Nat))).run P w = .ok places w∧∀ i,places[i]?=placesOf P t i:=by
 unfold OC at hf
 rw [hu] at hf
 simp only [List.all_eq_true] at hf
 have key:∀ (l:List Field),(∀ f∈l,(pG P f.type).isSome=true)→∃ out:List (Nat×Nat),(l.mapM (fun f:Field=>do pure (f.offset,← sizeOf f.type)):Sem (List (Nat×Nat))).run P w = .ok out w ∧
   ∀ i:Nat,out[i]?=(l[i]?).bind fun f=>(pG P f.type).map fun s=>(f.offset,s):=by
  intro l
  induction l with
  | nil=>intro _; exact ⟨[],by simp,by simp⟩
  | cons f l ih =>
    intro hl
    obtain ⟨s,hs⟩:=Option.isSome_iff_exists.1 (hl f (by simp))
    obtain ⟨out,h1,h2⟩:=ih (fun g hg=>hl g (by simp [hg]))
    refine ⟨(f.offset,s)::out,?_,fun i=>?_⟩
    ·rw [List.mapM_cons,Sem.run_bind,Sem.run_bind,oz hs,Result.andThen_ok,Sem.run_pure,Result.andThen_ok,Sem.run_bind,h1]
     rfl
    ·cases i with
     | zero=>simp [hs]
     | succ i=>simpa using h2 i
 obtain ⟨out,h1,h2⟩:=key fs.toList (fun f hf'=>by simpa using hf f hf')
 refine ⟨out.toArray,?_,fun i=>?_⟩
 ·rw [Array.mapM_eq_mapM_toList,Sem.run_map,h1]
  rfl
 ·have := h2 i
  simp at this
  simp [placesOf,hu,this]
theorem ayt {z:List D} {ps:List (Nat×Nat)} (q:Asked P (.build z ps) o a c m ds) (h:Q9 z ps ds m=some (d,m')):Sound P o a c m d m':=by
 obtain ⟨ys,hc,hr⟩:=q.chk
 obtain ⟨t,parts,hop,rfl,hz,hf,hp⟩:=axj hc
 unfold Q9 at h
 rw [Option.bind_eq_some_iff] at h
 obtain ⟨cells,hcells,h⟩:=h
 simp at h
 obtain ⟨rfl,rfl⟩:=h
 obtain ⟨i,v,hinfo,hzero,hzl,hzr,hzrun⟩:=afa (c:=c) hz
 obtain ⟨cs',hfill,hlen,hrep⟩:=ajK (a:=a) (placesOf P t) parts.toList ps ds z v.cells cells hp hr hzl hzr hcells
 have hmap:(parts.map fun (x:Nat×Operand)=>match x with | (i,x)=>(i,a.eval x)).toList=parts.toList.map fun x=>(x.1,a.eval x.2):=by simp
 refine Sound.pure q.inv (v := .agg cs') (.agg cells cs' (fun j=>cs'.getD j undef) hlen.symm (fun j hj=>?_) (fun j d' hd'=>?_)) ?_
 ·obtain ⟨v',q1,q2,q3⟩:=hrep j cells[j] (List.getElem?_eq_getElem hj)
  simp at q1
  simp [q1,q3]
 ·obtain ⟨v',q1,q2,q3⟩:=hrep j d' hd'
  simp at q1
  simp [q1,q2]
 ·simp only [execOp,hop]
  have hrun:(Instr.build t (parts.map fun (x:Nat×Operand)=>match x with | (i,x)=>(i,a.eval x))).run P c.w = .ok (.agg cs') c.w:=by
   unfold Instr.build
   rw [Sem.run_bind,hzrun,Result.andThen_ok,Sem.run_bind]
   cases hu:P.underlying t with
   | none=>simp [OC,hu] at hf
   | some td =>
     rw [run_underlying hu,Result.andThen_ok]
     cases td <;> try (simp [OC,hu] at hf; done)
     case struct fs =>
      obtain ⟨places,hpl,hpl'⟩:=avX hu hf c.w
      simp only []
      rw [Sem.run_bind,hpl,Result.andThen_ok]
      have : (fun x:Nat=>places[x]?)=placesOf P t:=funext hpl'
      simp only [this,hmap,hfill]
      rfl
     case array n e =>
      simp only [OC,hu] at hf
      obtain ⟨s,hs⟩:=Option.isSome_iff_exists.1 hf
      simp only []
      rw [Sem.run_bind,oz hs,Result.andThen_ok]
      have : (fun i:Nat=>some (i*s,s))=placesOf P t:=funext fun i=>by simp [placesOf,hu,hs]
      simp only [this,hmap,hfill]
      rfl
  rw [Sem.run_bind,hrun]
  rfl
end
end Go.Ev
end
section
namespace Go.Ev
section
variable {P:Program} {o:Oper} {a:Act} {c:Ctx} {m m':Mem} {ds:List D} {d:D}
theorem Cm:∀ (f:Nat) {d:D} {v:Value},D.clo 0 f d=true→Rep c d v→F c.S c.w d v
 | 0,_,_,h,_=>by simp [D.clo] at h
 | f+1,d,v,h,hr=>by
   cases d <;> simp [D.clo] at h
   case int=>have := hr.cu; subst this; exact .int _ _
   case bool=>have := hr.mG; subst this; exact .bool _
   case str=>have := hr.jv; subst this; exact .str _
   case iy=>have := hr.Fa; subst this; exact .iy
   case dh=>have := hr.sW; subst this; exact .dh
   case bQ=>have := hr.yG; subst this; exact .bQ
   case BQ=>cases hr with | b_ _ _ h=>exact h
   case uz=>cases hr with | b_ _ _ h=>exact h
   case raw=>cases hr with | b_ _ _ h=>exact h
   case ref=>cases hr with | b_ _ _ h=>exact h
   case sl=>cases hr with | b_ _ _ h=>exact h
   case iface t d=>obtain ⟨u,rfl,hu⟩:=hr.ig; exact .iface _ _ _ (Cm f h hu)
   case func g cap =>
    obtain ⟨vs,g,rfl,hl,hg,hr'⟩:=hr.TQ
    exact .func _ _ vs g hl hg fun j d hd=>Cm f (h d (List.mem_of_getElem? hd)) (hr' j d hd)
   case agg cells =>
    obtain ⟨vs,g,rfl,hl,hg,hr'⟩:=hr.O4
    exact .agg _ vs g hl hg fun j d hd=>Cm f (h d (List.mem_of_getElem? hd)) (hr' j d hd)
   case aG ds =>
    obtain ⟨vs,g,rfl,hl,hg,hr'⟩:=hr.Yh
    exact .aG _ vs g hl hg fun j d hd=>Cm f (h d (List.mem_of_getElem? hd)) (hr' j d hd)
def Clo (d:D):Prop:=∃ f,D.clo 0 f d=true
theorem aBR {d:D} {v:Value} (h:deq d v=true):Clo d:=by
 unfold deq at h
 split at h <;> simp at h <;> exact ⟨1,rfl⟩
theorem asR {d:D} {cs:List D} (hd:Clo d) (h:eH d=some cs):∀ x∈cs,Clo x:=by
 obtain ⟨f,hf⟩:=hd
 cases f with
 | zero=>simp [D.clo] at hf
 | succ f =>
   cases d <;> simp [eH] at h <;> subst h
   case agg cells =>
    simp [D.clo] at hf
    exact fun x hx=>⟨f,hf x hx⟩
   all_goals
    intro x hx
    simp at hx
    subst hx
    exact ⟨f+1,hf⟩
theorem asc {Q:D→Prop}:∀ (ds cells:List D) (o:Nat),(∀ x∈cells,Q x)→(∀ x∈ds,Q x)→∀ x∈aS cells o ds,Q x
 | [],cells,o,h,_=>h
 | d::ds,cells,o,h,hd=>by
   simp only [aS]
   exact asc ds _ _ (fun x hx=>by
    rcases List.mem_or_eq_of_mem_set hx with hx | rfl
    ·exact h x hx
    ·exact hd _ (by simp)) (fun x hx=>hd x (by simp [hx]))
theorem an4 {Q:D→Prop} (hQ:∀ d cs,Q d→eH d=some cs→∀ x∈cs,Q x):∀ (ps:List (Nat×Nat)) (ds cells out:List D),(∀ x∈cells,Q x)→(∀ x∈ds,Q x)→rP cells ps ds=some out→∀ x∈out,Q x
 | [],ds,cells,out,h,hd,hf=>by
   cases ds <;> simp [rP] at hf
   subst hf
   exact h
 | (off,n)::ps,[],cells,out,h,hd,hf=>by simp [rP] at hf
 | (off,n)::ps,d::ds,cells,out,h,hd,hf=>by
   simp only [rP,Option.bind_eq_some_iff] at hf
   obtain ⟨cs,hcs,hf⟩:=hf
   split at hf <;> try (simp at hf; done)
   exact an4 hQ ps ds _ out (asc cs cells off h (hQ d cs (hd d (by simp)) hcs)) (fun x hx=>hd x (by simp [hx])) hf
theorem aoT {len:Nat} {z:List D} {j:Nat} {d:D} (h:(zeros len z)[j]?=some d):j<len*z.length∧d=z.getD (j % z.length) .undef:=by
 unfold zeros at h
 rw [List.getElem?_map] at h
 cases hj:(List.range (len*z.length))[j]? with
 | none=>simp [hj] at h
 | some k =>
   obtain ⟨hlt,hk⟩:=List.getElem?_eq_some_iff.1 hj
   simp at hk hlt
   subst hk
   simp [hj] at h
   exact ⟨hlt,h.symm⟩
theorem zeros_length (len:Nat) (z:List D):(zeros len z).length=len*z.length:=by simp [zeros]
theorem aoU {z:List D} {vs:Array Value} (hz:zh c 0 z vs) (hl:z.length=vs.size) (hpos:0<z.length) (len:Nat) :
  zh c 0 (zeros len z) ((Array.range (len*vs.size)).map fun i=>vs[i % vs.size]!):=by
 intro j d hd
 obtain ⟨hlt,rfl⟩:=aoT hd
 have hm:j % z.length<z.length:=Nat.mod_lt _ hpos
 obtain ⟨v,h1,h2,h3⟩:=hz (j % z.length) z[j % z.length] (List.getElem?_eq_getElem hm)
 refine ⟨v,?_,by simpa [List.getD,hm] using h2,h3⟩
 simp at h1
 rw [hl] at hlt h1
 simp [hlt,Array.getElem!_eq_getD,Array.getD_eq_getD_getElem?,h1]
theorem ayN {t:TypeId} {z:List D} (h:oV P t z=true) (hpos:0<z.length) (len:Nat):∀ x∈zeros len z,Clo x:=by
 intro x hx
 obtain ⟨j,hj⟩:=List.mem_iff_getElem?.1 hx
 obtain ⟨hlt,rfl⟩:=aoT hj
 have hm:j % z.length<z.length:=Nat.mod_lt _ hpos
 unfold oV at h
 split at h <;> try (simp at h; done)
 obtain ⟨hl,hd⟩:=aaN h
 obtain ⟨u,hu,hdq⟩:=hd (j % z.length) z[j % z.length] (List.getElem?_eq_getElem hm)
 simpa [List.getD,hm] using aBR hdq
theorem Inv.aDd (hi:Inv c m) (cs:Array Value) (T:TypeId) (w0:World) (hw0:w0.heap=c.w.heap) (ho0:Out c.w w0) :
  Inv { c with S:=fun b=>c.S b∨b=c.w.heap.size,w:=w0.alloc (.cells cs T) } m∧Step c m { c with S:=fun b=>c.S b∨b=c.w.heap.size,w:=w0.alloc (.cells cs T) } m:=by
 have hold:∀ b,b<c.w.heap.size→(w0.alloc (.cells cs T)).heap[b]?=c.w.heap[b]?:=fun b hb=>by rw [heap_alloc_old _ _ _ (by rw [hw0]; exact hb),hw0]
 have hsz:(w0.alloc (.cells cs T)).heap.size=c.w.heap.size+1:=by rw [World.size_alloc,hw0]
 refine hi.more _ _ (fun b h => .inl h) (fun b h=>h.imp id (fun e=>by omega)) ?_ (by omega) hold ⟨ho0.1,ho0.2⟩
 rintro b (hb | rfl)
 ·have := hi.lt b hb
  omega
 ·omega
section
variable {op:Op} {ys:List Operand}
theorem auI {esz len:Nat} {z:List D} {ps:List (Nat×Nat)} (h:aZ P (.bsl esz len z ps) op=some ys) :
  ∃ t parts e,op = .buildSlice t len parts∧ys=parts.toList.map (·.2)∧P.underlying t=some (.slice e)∧pG P e=some esz∧0<esz∧z.length=esz∧len*esz≤16777216∧oV P e z=true∧DU (fun i=>some (i*esz,esz)) parts.toList ps=true:=by
 simp only [aZ] at h; split at h <;> try (simp at h; done)
 rw [Option.bind_eq_some_iff] at h
 obtain ⟨e,he,h⟩:=h
 simp at h
 obtain ⟨⟨h1,rfl,h2,h3,h4,h5,h6⟩,h7⟩:=h
 exact ⟨_,_,e,rfl,by simpa using h7.symm,Hr he,h1,h2,h3,h4,h5,h6⟩
theorem aze {j esz len:Nat} {z:List D} {ps:List (Nat×Nat)} (h:aZ P (.abE j esz len z ps) op=some ys) :
  ∃ t parts e,op = .buildSlice t len parts∧ys=parts.toList.map (·.2)∧P.underlying t=some (.slice e)∧pG P e=some esz∧0<esz∧z.length=esz∧len*esz≤16777216∧oV P e z=true∧DU (fun i=>some (i*esz,esz)) parts.toList ps=true :=
 auI (by simpa only [aZ] using h)
theorem azo {j esz:Nat} {z:List D} (h:aZ P (.aeD j esz z) op=some ys) :
  ∃ t x y e i,op = .makeSlice t x y∧ys=[x,y]∧P.underlying t=some (.slice e)∧pG P e=some esz∧0<esz∧z.length=esz∧oV P e z=true∧P.info? e=some i∧i.bytes≤4096:=by
 simp only [aZ] at h; split at h <;> try (simp at h; done)
 rw [Option.bind_eq_some_iff] at h
 obtain ⟨e,he,h⟩:=h
 simp at h
 obtain ⟨⟨h1,h2,h3,h4,h5,h6⟩,h7⟩:=h
 obtain ⟨i,hi⟩:=Option.isSome_iff_exists.1 h6
 simp [hi] at h5
 exact ⟨_,_,_,e,i,rfl,h7.symm,Hr he,h1,h2,h3,h4,hi,h5⟩
end
theorem run_buildSlice {t e:TypeId} {esz len:Nat} {z ds out:List D} {ps:List (Nat×Nat)} {parts:Array (Nat×Operand)} (hu:P.underlying t=some (.slice e)) (hs:pG P e=some esz) (hpos:0<esz) (hz:z.length=esz)
  (hle:len*esz≤16777216) (hzero:oV P e z=true) (hp:DU (fun i=>some (i*esz,esz)) parts.toList ps=true) (hr:dM c ds ((parts.toList.map (·.2)).map a.eval)) (hf:rP (zeros len z) ps ds=some out) :
  ∃ cs:Array Value,out.length=cs.size∧zh c 0 out cs∧(Instr.buildSlice t len (parts.map fun (i,x)=>(i,a.eval x))).run P c.w = .ok (.slice (some ⟨c.w.heap.size,0,none⟩) len len) (c.w.alloc (.cells cs e)):=by
 obtain ⟨i,v,hinfo,hzv,hzl,hzr,hzrun⟩:=afa (c:=c) hzero
 have hz0:=aoU hzr hzl (by omega) len
 obtain ⟨cs',hfill,hlen,hrep⟩:=ajK (a:=a) (fun i=>some (i*esz,esz)) parts.toList ps ds (zeros len z) _ out hp hr (by rw [zeros_length]; simp [hzl]) hz0 hf
 refine ⟨cs',hlen,hrep,?_⟩
 have hmap:(parts.map fun (x:Nat×Operand)=>match x with | (i,x)=>(i,a.eval x)).toList=parts.toList.map fun x=>(x.1,a.eval x.2):=by simp
 have hvs:v.cells.size=esz:=by omega
 rw [hvs] at hfill
 unfold Instr.buildSlice
 rw [Sem.run_bind,run_underlying hu,Result.andThen_ok]
 simp only []
 rw [Sem.run_bind,oz hs,Result.andThen_ok]
 have hnle:¬ (len*esz>2^24):=by omega
 by_cases h0:len*esz=0
 ·have hl0:len=0:=by
   rcases Nat.eq_zero_or_pos len with h | h
   ·exact h
   ·have := Nat.mul_pos h hpos; omega
  subst hl0
  have hr0:Array.range (0*esz) = #[]:=by simp
  rw [hr0] at hfill
  simp only [Array.map_empty] at hfill
  simp only [h0,if_true,Nat.zero_mul]
  rw [if_neg (by omega)]
  simp only [Sem.run_bind,Sem.run_pure,Result.andThen_ok,hmap]
  have hr1:Array.range 0 = #[]:=by simp
  simp only [hr1,Array.map_empty,hfill]
  simp [newRow]
 ·simp only [h0,if_false,if_neg hnle]
  simp only [Sem.run_bind,hzrun,Sem.run_pure,Result.andThen_ok,hmap,hvs,hfill]
  simp [newRow]
theorem aCu {esz len:Nat} {z:List D} {ps:List (Nat×Nat)} (q:Asked P (.bsl esz len z ps) o a c m ds) (h:aeT len z ps ds m=some (d,m')):Sound P o a c m d m':=by
 obtain ⟨ys,hc,hr⟩:=q.chk
 obtain ⟨t,parts,e,hop,rfl,hu,hs,hpos,hz,hle,hzero,hp⟩:=auI hc
 unfold aeT at h
 cases hall:ds.all (D.clo 0 FZ) <;> simp [hall] at h
 rw [Option.bind_eq_some_iff] at h
 obtain ⟨out,hout,h⟩:=h
 simp at h
 obtain ⟨rfl,rfl⟩:=h
 obtain ⟨cs,hlen,hrep,hrun⟩:=run_buildSlice (a:=a) (c:=c) hu hs hpos hz hle hzero hp hr hout
 have hclo:∀ x∈out,Clo x:=an4 (fun d cs hd hv=>asR hd hv) ps ds _ out (ayN hzero (by omega) len) (fun x hx=>⟨FZ,List.all_eq_true.1 hall x hx⟩) hout
 obtain ⟨hi',hst⟩:=q.inv.aDd cs e c.w rfl (.refl _)
 refine Sound.yH (c':={ c with S:=fun b=>c.S b∨b=c.w.heap.size,w:=c.w.alloc (.cells cs e) }) (v := .slice (some ⟨c.w.heap.size,0,none⟩) len len) ?_ ?_ hi' hst
 ·simp only [execOp,hop]
  rw [Sem.run_bind,hrun]
  rfl
 ·refine .b_ _ _ (.sl len out c.w.heap.size 0 len cs e (0,0) (fun j=>cs.getD j undef) (.inr rfl) (Nat.le_refl _) (heap_alloc_last _ _) (fun j hj=>?_) (fun j d hd=>?_))
  ·obtain ⟨v',q1,q2,q3⟩:=hrep j out[j] (List.getElem?_eq_getElem hj)
   simp at q1
   simp [q1,q3]
  ·obtain ⟨v',q1,q2,q3⟩:=hrep j d hd
   simp at q1
   obtain ⟨f,hf⟩:=hclo d (List.mem_of_getElem? hd)
   have := (Cm f hf q2).mono hst.ext.S hst.ext.heap
   simpa [q1] using this
theorem aAn {base j esz len:Nat} {z:List D} {ps:List (Nat×Nat)} (q:Asked P (.abE j esz len z ps) o a c m ds) (h:X4 base j esz len z ps ds m=some (d,m')):Sound P o a c m d m':=by
 obtain ⟨ys,hc,hr⟩:=q.chk
 obtain ⟨t,parts,e,hop,rfl,hu,hs,hpos,hz,hle,hzero,hp⟩:=aze hc
 unfold X4 at h
 rw [Option.bind_eq_some_iff] at h
 obtain ⟨out,hout,h⟩:=h
 obtain ⟨cs,hlen,hrep,hrun⟩:=run_buildSlice (a:=a) (c:=c) hu hs hpos hz hle hzero hp hr hout
 obtain ⟨rfl,c',hw,hi',hst,hL,hβ,hsz⟩:=q.inv.alloc e hrep c.w rfl (.refl _) h
 have hol:out.length=len*esz:=by
  have : ∀ (ps:List (Nat×Nat)) (ds cells out:List D),rP cells ps ds=some out→out.length=cells.length:=by
   intro ps
   induction ps with
   | nil=>intro ds cells out h; cases ds <;> simp [rP] at h; rw [h]
   | cons p ps ih =>
     intro ds cells out h
     cases ds with
     | nil=>simp [rP] at h
     | cons d ds =>
       simp only [rP,Option.bind_eq_some_iff] at h
       obtain ⟨vc,_,h⟩:=h
       split at h <;> try (simp at h; done)
       rw [ih ds _ out h,acg]
  rw [this ps ds _ out hout,zeros_length,hz]
 refine Sound.yH (c':=c') (v := .slice (some ⟨c.w.heap.size,0,none⟩) len len) ?_ ?_ hi' hst
 ·rw [hw]
  simp only [execOp,hop]
  rw [Sem.run_bind,hrun]
  rfl
 ·exact .aO (base+j) 0 len esz len _ hL (Nat.le_refl _) ⟨by rw [hβ],rfl⟩ (.inr ⟨by rw [hβ],by rw [hβ,hsz,← hlen,hol]; simp⟩)
theorem atp (n:Nat) (w:World):(askRoom n).run P w = .ok () w:=by
 unfold askRoom
 split
 ·rfl
 ·rfl
theorem aAz {base j esz:Nat} {z:List D} (q:Asked P (.aeD j esz z) o a c m ds) (h:UR base j esz z ds m=some (d,m')):Sound P o a c m d m':=by
 obtain ⟨ys,hc,hr⟩:=q.chk
 obtain ⟨t,x,y,e,i,hop,rfl,hu,hs,hpos,hz,hzero,hinfo,hbytes⟩:=azo hc
 unfold UR at h
 split at h <;> try (simp at h; done)
 rename_i k n k' n'
 split at h <;> try (simp at h; done)
 rename_i hcond
 obtain ⟨h0,hmax,rfl⟩:=hcond
 obtain ⟨v,u,hv,hd1,hd2⟩:=hr.two
 simp at hv
 obtain ⟨e1,e2⟩:=hv
 have := hd1.cu; subst this
 have := hd2.cu; subst this
 obtain ⟨i',zv,hinfo',hzv,hzl,hzr,hzrun⟩:=afa (c:=c) hzero
 have hz0:=aoU hzr hzl (by omega) n'.toNat
 obtain ⟨rfl,c',hw,hi',hst,hL,hβ,hsz⟩:=q.inv.alloc e hz0 c.w rfl (.refl _) h
 have hvs:zv.cells.size=esz:=by omega
 unfold zK at hmax
 refine Sound.yH (c':=c') (v := .slice (some ⟨c.w.heap.size,0,none⟩) n'.toNat n'.toNat) ?_ ?_ hi' hst
 ·rw [hw,hvs]
  simp only [execOp,hop,e1,e2]
  have hwrap:IntKind.i64.wrap n'=n':=by simp [IntKind.wrap,IntKind.bits,IntKind.signed]; omega
  have hb:¬ ((i.bytes:Int)*n'>2^48):=by
   have : (i.bytes:Int)*n'≤4096*4294967296:=Int.mul_le_mul (by omega) (by omega) (by omega) (by omega)
   omega
  have hrun:(Instr.makeSlice t (.int k n') (.int k' n')).run P c.w = .ok (.slice (some ⟨c.w.heap.size,0,none⟩) n'.toNat n'.toNat) (c.w.alloc (.cells ((Array.range (n'.toNat*esz)).map fun i=>zv.cells[i % esz]!) e)):=by
   unfold Instr.makeSlice
   rw [Sem.run_bind,run_underlying hu,Result.andThen_ok]
   have hc1:(decide (n'<0) || decide ((i.bytes:Int)*n'>2^48))=false:=by simp; omega
   have hc2:¬ ((((decide (n'<0) || decide ((i.bytes:Int)*n'>2^48)) || decide (n'<0)) || decide (n'>n'))=true):=by simp; omega
   have hti:∀ w,(typeInfo e).run P w = .ok i w:=fun w=>by simp [typeInfo,hinfo]
   simp only [asInt,asIntOf,pure_bind,Sem.run_bind,Sem.run_pure,Result.andThen_ok,hti,hwrap,if_neg hc2,atp,oz hs]
   by_cases hn0:n'.toNat*esz=0
   ·have hr1:Array.range 0 = #[]:=by simp
    simp only [hn0,if_true,hr1,Array.map_empty]
    simp [newRow]
   ·simp only [hn0,if_false,Sem.run_bind,hzrun,Result.andThen_ok,hvs]
    simp [newRow]
  rw [Sem.run_bind,hrun]
  rfl
 ·exact .aO (base+j) 0 n'.toNat esz n'.toNat _ hL (Nat.le_refl _) ⟨by rw [hβ],rfl⟩ (.inr ⟨by rw [hβ],by rw [hβ,hsz]; simp [hvs]⟩)
end
end Go.Ev
end
section
namespace Go.Ev
section
variable {P:Program} {o:Oper} {a:Act} {c:Ctx} {m m':Mem} {ds:List D} {d:D}
theorem aza {k:IntKind} {i:Int} {hi n x:Nat} (h:bnd (some (.int k i)) hi x=some n):0≤i∧i≤hi∧n=i.toNat:=by
 unfold bnd at h; simp at h; exact ⟨h.1.1,h.1.2,h.2.symm⟩
theorem ah9 {d:D} {hi n x:Nat} (h:bnd (some d) hi x=some n):∃ k i,d = .int k i∧0≤i∧i≤hi∧n=i.toNat:=by
 cases d <;> try (simp [bnd] at h; done)
 rename_i k i
 exact ⟨k,i,rfl,aza h⟩
theorem dM.zero' {c:Ctx} {xs:List D} (h:dM c xs []):xs=[]:=by cases h; rfl
theorem dM.one' {c:Ctx} {xs:List D} {v:Value} (h:dM c xs [v]):∃ d,xs=[d]∧Rep c d v:=by
 cases h with | cons h1 h2=>cases h2; exact ⟨_,rfl,h1⟩
theorem dM.two' {c:Ctx} {xs:List D} {v u:Value} (h:dM c xs [v,u]):∃ d e,xs=[d,e]∧Rep c d v∧Rep c e u:=by
 cases h with | cons h1 h2=>obtain ⟨e,rfl,he⟩:=h2.one'; exact ⟨_,e,rfl,h1,he⟩
theorem aaF {v:Value} {k:IntKind} {i:Int} (hv:v = .int k i) {y:Nat} (h0:0≤i) (h1:i≤y) (code:BoundsCode) (w:World):(Instr.sliceBound v y code).run P w = .ok i.toNat w:=by
 subst hv
 simp [Instr.sliceBound,asIntOf,h0,h1]
theorem RD {isS:Bool} {lo hi:Bool} {len cap l h:Nat} {xs:List D} {ol oh:Option Operand} (hb:gK lo hi len xs=some (l,h)) (hlc:len≤cap) (hlo:ol.isSome=lo) (hhi:oh.isSome=hi)
  (hr:dM c xs ((ol.toList++oh.toList).map a.eval)) (w:World) :
  (Instr.sliceBounds isS len cap (ol.map a.eval) (oh.map a.eval) none).run P w = .ok (l,h,cap) w∧l≤h∧h≤len:=by
 cases ol <;> cases oh <;> simp at hlo hhi <;> subst hlo hhi
 ·have := dM.zero' hr
  subst this
  simp [gK] at hb
  obtain ⟨rfl,rfl⟩:=hb
  exact ⟨rfl,by omega,by omega⟩
 ·rename_i y
  obtain ⟨d,rfl,hd⟩:=dM.one' hr
  simp [gK] at hb
  rw [Option.bind_eq_some_iff] at hb
  obtain ⟨n,hn,hb⟩:=hb
  simp at hb
  obtain ⟨rfl,rfl⟩:=hb
  obtain ⟨k,i,rfl,h0,h1,rfl⟩:=ah9 hn
  refine ⟨?_,by omega,by omega⟩
  unfold Instr.sliceBounds
  cases isS <;> simp only [Option.map_some,Option.map_none,Sem.run_bind,Sem.run_pure,Result.andThen_ok,aaF hd.cu h0 (show i≤(cap:Int) by omega)] <;> rfl
 ·rename_i x
  obtain ⟨d,rfl,hd⟩:=dM.one' hr
  simp [gK] at hb
  rw [Option.bind_eq_some_iff] at hb
  obtain ⟨n,hn,hb⟩:=hb
  simp at hb
  obtain ⟨rfl,rfl⟩:=hb
  obtain ⟨k,i,rfl,h0,h1,rfl⟩:=ah9 hn
  refine ⟨?_,by omega,by omega⟩
  unfold Instr.sliceBounds
  cases isS <;> simp only [Option.map_some,Option.map_none,Sem.run_bind,Sem.run_pure,Result.andThen_ok,aaF hd.cu h0 h1]
 ·rename_i x y
  obtain ⟨d,d',rfl,hd,hd'⟩:=dM.two' hr
  simp [gK] at hb
  rw [Option.bind_eq_some_iff] at hb
  obtain ⟨n,hn,hb⟩:=hb
  rw [Option.bind_eq_some_iff] at hb
  obtain ⟨n',hn',hb⟩:=hb
  simp at hb
  obtain ⟨rfl,rfl⟩:=hb
  obtain ⟨k,i,rfl,h0,h1,rfl⟩:=ah9 hn
  obtain ⟨k',i',rfl,h0',h1',rfl⟩:=ah9 hn'
  refine ⟨?_,by omega,by omega⟩
  unfold Instr.sliceBounds
  cases isS <;> simp only [Option.map_some,Option.map_none,Sem.run_bind,Sem.run_pure,Result.andThen_ok,aaF hd'.cu h0 (show i≤(cap:Int) by omega),aaF hd.cu h0' h1']
theorem aCJ {lo hi:Bool} (q:Asked P (.slS lo hi) o a c m ds) (h:ae1 lo hi ds m=some (d,m')):Sound P o a c m d m':=by
 obtain ⟨ys,hc,hr⟩:=q.chk
 obtain ⟨t,x,ol,oh,hop,rfl,hu,hl,hh⟩:=aBI hc
 unfold ae1 at h
 split at h <;> try (simp at h; done)
 rename_i s xs
 rw [Option.bind_eq_some_iff] at h
 obtain ⟨⟨l,hh'⟩,hb,h⟩:=h
 simp at h
 obtain ⟨rfl,rfl⟩:=h
 simp only [List.cons_append,List.map_cons] at hr
 cases hr with
 | cons h1 h2 =>
   have e1:=h1.jv
   have hsz:(⟨s.toArray⟩:ByteArray).size=s.length:=by simp [ByteArray.size_mk']
   obtain ⟨hrun,hle,hle2⟩:=RD (P:=P) (isS:=false) (cap:=s.length) hb (Nat.le_refl _) hl hh h2 c.w
   refine Sound.pure q.inv (.b_ _ _ (.str _)) ?_
   simp [execOp,hop,Instr.sliceAt,Instr.slice,run_underlying hu,e1,hsz,hrun,ByteArray.extract_mk]
theorem aCI {esz:Nat} {lo hi:Bool} (q:Asked P (.slL esz lo hi) o a c m ds) (h:Xh esz lo hi ds m=some (d,m')):Sound P o a c m d m':=by
 obtain ⟨ys,hc,hr⟩:=q.chk
 obtain ⟨t,x,ol,oh,e,hop,rfl,hu,hs,hl,hh⟩:=aBH hc
 simp only [List.cons_append,List.map_cons] at hr
 unfold Xh at h
 split at h <;> try (simp at h; done)
 ·rename_i xs
  rw [Option.bind_eq_some_iff] at h
  obtain ⟨⟨l,hh'⟩,hb,h⟩:=h
  simp at h
  obtain ⟨rfl,rfl⟩:=h
  cases hr with
  | cons h1 h2 =>
    have e1:=h1.sW
    obtain ⟨hrun,hle,hle2⟩:=RD (P:=P) (isS:=true) (cap:=0) hb (Nat.le_refl _) hl hh h2 c.w
    have hl0:l=0:=by omega
    have hh0:hh'=0:=by omega
    subst hl0 hh0
    refine Sound.pure q.inv (.b_ _ _ .dh) ?_
    simp [execOp,hop,Instr.sliceAt,Instr.slice,run_underlying hu,e1,hrun,oz hs]
 ·rename_i len cs xs
  rw [Option.bind_eq_some_iff] at h
  obtain ⟨⟨l,hh'⟩,hb,h⟩:=h
  dsimp only at h
  rw [Option.bind_eq_some_iff] at h
  obtain ⟨cs',hcs',h⟩:=h
  simp at h
  obtain ⟨rfl,rfl⟩:=h
  cases hr with
  | cons h1 h2 =>
    obtain ⟨rfl,rfl,e1⟩ | ⟨blk,st,cap,vs,T,fr,g,e1,hlen,hS,hblk,hg,hF⟩:=h1.GH
    ·obtain ⟨hrun,hle,hle2⟩:=RD (P:=P) (isS:=true) (cap:=0) hb (Nat.le_refl _) hl hh h2 c.w
     have hl0:l=0:=by omega
     have hh0:hh'=0:=by omega
     subst hl0 hh0
     have : cs'=[]:=by simpa [m_] using hcs'.symm
     subst this
     refine Sound.pure q.inv (.b_ _ _ .sl0) ?_
     simp [execOp,hop,Instr.sliceAt,Instr.slice,run_underlying hu,e1,hrun,oz hs]
    obtain ⟨hrun,hle,hle2⟩:=RD (P:=P) (isS:=true) (cap:=cap) hb hlen hl hh h2 c.w
    obtain ⟨hfit,hcl,hcg⟩:=Gm hcs'
    by_cases hcl0:cap=l
    ·subst hcl0
     have hn:(hh'-cap)*esz=0:=by rw [show hh'-cap=0 by omega]; simp
     rw [hn] at hcl
     refine Sound.pure q.inv (v := .slice (some ⟨blk,st,none⟩) (hh'-cap) (cap-cap)) (.b_ _ _ (.sl _ _ blk st (cap-cap) vs T fr g hS (by omega) hblk (fun j hj=>by omega) (fun j d hd=>by
      have := (List.getElem?_eq_some_iff.1 hd).1; omega))) ?_
     simp [execOp,hop,Instr.sliceAt,Instr.slice,run_underlying hu,e1,hrun,oz hs]
    ·refine Sound.pure q.inv (v := .slice (some ⟨blk,st+l*esz,none⟩) (hh'-l) (cap-l)) (.b_ _ _ (.sl _ _ blk (st+l*esz) (cap-l) vs T fr (fun j=>g (l*esz+j)) hS (by omega) hblk (fun j hj=>?_) (fun j d hd=>?_))) ?_
     ·have := hg (l*esz+j) (by omega)
      rw [Nat.add_assoc]
      exact this
     ·have hj:j<(hh'-l)*esz:=by rw [← hcl]; exact (List.getElem?_eq_some_iff.1 hd).1
      exact hF (l*esz+j) d (by rw [← hcg j hj]; exact hd)
     ·simp [execOp,hop,Instr.sliceAt,Instr.slice,run_underlying hu,e1,hrun,oz hs,hcl0,Addr.add_lit]
 ·rename_i b off len e' xs
  cases he:Nat.beq e' esz <;> simp [he] at h
  have he:e'=esz:=Nat.eq_of_beq_eq_true he
  subst he
  rw [Option.bind_eq_some_iff] at h
  obtain ⟨⟨l,hh'⟩,hb,h⟩:=h
  dsimp only at h
  simp at h
  obtain ⟨rfl,rfl⟩:=h
  cases hr with
  | cons h1 h2 =>
    obtain ⟨hL,cap,ad,e1,hlen,hab,had⟩:=h1.DI
    obtain ⟨hrun,hle,hle2⟩:=RD (P:=P) (isS:=true) (cap:=cap) hb hlen hl hh h2 c.w
    by_cases hcl0:cap=l
    ·subst hcl0
     refine Sound.pure q.inv (v := .slice (some ad) (hh'-cap) (cap-cap)) (.aO b _ _ _ (cap-cap) ad hL (by omega) hab (.inl (by omega))) ?_
     simp [execOp,hop,Instr.sliceAt,Instr.slice,run_underlying hu,e1,hrun,oz hs]
    ·have had:=had.resolve_left (by omega)
     obtain ⟨rfl,hfit⟩:=had
     refine Sound.pure q.inv (v := .slice (some ⟨(c.β b).1,(c.β b).2+(off+l*e'),none⟩) (hh'-l) (cap-l)) (.aO b _ _ _ (cap-l) _ hL (by omega) ⟨rfl,rfl⟩ (.inr ⟨rfl,?_⟩)) ?_
     ·have : l*e'+(cap-l)*e'=cap*e':=by rw [← Nat.add_mul]; congr 1; omega
      omega
     ·simp [execOp,hop,Instr.sliceAt,Instr.slice,run_underlying hu,e1,hrun,oz hs,hcl0,Addr.add_lit,Nat.add_assoc]
end
end Go.Ev
end
section
namespace Go.Ev
section
variable {P:Program} {o:Oper} {a:Act} {c:Ctx} {m m':Mem} {ds:List D} {d:D}
theorem aBr {j esz:Nat} {op:Op} {ys:List Operand} (h:aZ P (.app j esz) op=some ys) :
  ∃ x y t tx e e' i z,op = .call ⟨.builtin .append,#[x,y],#[t,tx]⟩∧ys=[x,y]∧P.underlying t=some (.slice e)∧P.underlying tx=some (.slice e')∧P.info? e=some i∧i.size=esz∧0<esz∧i.bytes≤4096∧i.zero=some z∧z.cells.size=i.size:=by
 simp only [aZ] at h; split at h <;> try (simp at h; done)
 split at h <;> try (simp at h; done)
 rename_i args ts hsz
 obtain ⟨x,y,rfl⟩:=akA hsz.1
 obtain ⟨t,tx,rfl⟩:∃ t tx,ts = #[t,tx]:=by
  obtain ⟨l⟩:=ts
  match l,hsz.2 with
  | [t,tx],_=>exact ⟨t,tx,rfl⟩
 rw [Option.bind_eq_some_iff] at h
 obtain ⟨e,he,h⟩:=h
 rw [Option.bind_eq_some_iff] at h
 obtain ⟨e',he',h⟩:=h
 simp at h he he'
 obtain ⟨⟨h1,h2,h3,h4⟩,h5⟩:=h
 obtain ⟨z,hz,hzs⟩:∃ z,((P.info? e).bind (·.zero))=some z∧z.cells.size=esz:=by
  obtain ⟨hs,h6⟩:=(Option.any_eq_true_iff_get _ _).1 h4
  exact ⟨_,(Option.some_get hs).symm,by simpa using h6⟩
 rw [Option.bind_eq_some_iff] at hz
 obtain ⟨i,hi,hz⟩:=hz
 simp [hi] at h3
 simp [pG,hi] at h1
 exact ⟨x,y,t,tx,e,e',i,z,rfl,by simpa using h5.symm,Hr he,Hr he',hi,h1,h2,h3,hz,by omega⟩
theorem aCK (hi:Inv c m) {x:D} {v:Value} (hr:Rep c x v) {esz:Nat} {cells:List D} {off len:Nat} (h:slc m esz x=some (cells,off,len)) {nds:List D} (ht:m_ cells off (len*esz)=some nds)
  {tx e':TypeId} (hk:P.underlying tx=some (.slice e')) :
  ∃ news:List Value,Src P esz tx v len news c.w∧nds.length=news.length∧∀ (j:Nat) (d:D),nds[j]?=some d→∃ u,news[j]?=some u∧Rep c d u∧u.oneCell'=true:=by
 obtain ⟨hfit,hnl,hng⟩:=Gm ht
 rcases avg hi hr h with ⟨rfl,rfl,rfl,rfl⟩ | ⟨ad,cap,blk,st,cs,T,fr,rfl,hlen,had,hb,hcells⟩
 ·simp at hnl
  subst hnl
  exact ⟨[],Src.ofNil _ hk 0,rfl,fun j d hd=>by simp at hd⟩
 ·by_cases h0:len=0
  ·subst h0
   simp at hnl
   subst hnl
   exact ⟨[],Src.ofSlice _ hk ad 0 cap [] (by simp) (fun j u hu=>by simp at hu) (fun u hu=>by simp at hu),rfl,fun j d hd=>by simp at hd⟩
  ·have had:ad=⟨blk,st+off,none⟩:=had.resolve_left (by omega)
   subst had
   obtain ⟨vs,hrun,hvl,hvg,hvr⟩:=wK (P:=P) (c:=c) (w:=c.w) (blk:=blk) (o:=st+off) (n:=len*esz) (ds:=nds) hb hnl (fun j d' hd'=>by
    have hj:j<len*esz:=by rw [← hnl]; exact (List.getElem?_eq_some_iff.1 hd').1
    obtain ⟨v',q1,q2,q3⟩:=hcells (off+j) d' (by rw [← hng j hj]; exact hd')
    exact ⟨v',by rw [Nat.add_assoc]; exact q1,q2,q3⟩)
   refine ⟨vs,Src.ofSlice _ hk _ len cap vs hvl (fun j u hu=>?_) (fun u hu=>?_),by omega,hvr⟩
   ·have hj:j<len*esz:=by rw [← hvl]; exact (List.getElem?_eq_some_iff.1 hu).1
    rw [Addr.add_lit]
    have := hvg j hj
    rw [hu] at this
    simp [World.cell?,hb,← this]
   ·obtain ⟨j,hj⟩:=List.mem_iff_getElem?.1 hu
    have hjl:j<nds.length:=by rw [hnl,← hvl]; exact (List.getElem?_eq_some_iff.1 hj).1
    obtain ⟨u',q1,q2,q3⟩:=hvr j nds[j] (List.getElem?_eq_getElem hjl)
    rw [hj] at q1
    simp at q1
    rw [q1]
    exact q3
theorem aru (w:World) (need old:Nat) (e:TypeId):need≤grownCap w need old e:=by
 simp [grownCap,Question.cut]
theorem adP (z:Array Value) (n:Nat):(Builtin.zeroCells z n).size=n*z.size:=by simp [Builtin.zeroCells]
theorem zh.append {ods nds:List D} {olds news:List Value} {rest:Array Value} (ho:ods.length=olds.length) (hol:∀ (j:Nat) (d:D),ods[j]?=some d→∃ u,olds[j]?=some u∧Rep c d u∧u.oneCell'=true)
  (hnl:nds.length=news.length) (hn:∀ (j:Nat) (d:D),nds[j]?=some d→∃ u,news[j]?=some u∧Rep c d u∧u.oneCell'=true):zh c 0 (ods++nds) ((olds++news).toArray++rest):=by
 intro j d hd
 rw [List.getElem?_append] at hd
 split at hd
 ·rename_i hlt
  obtain ⟨u,q1,q2,q3⟩:=hol j d hd
  refine ⟨u,?_,q2,q3⟩
  rw [Nat.zero_add,Array.getElem?_append_left (by simp; omega)]
  simp
  rw [List.getElem?_append_left (by omega)]
  exact q1
 ·rename_i hge
  obtain ⟨u,q1,q2,q3⟩:=hn _ d hd
  have hj2:j-ods.length<news.length:=(List.getElem?_eq_some_iff.1 q1).1
  refine ⟨u,?_,q2,q3⟩
  rw [Nat.zero_add,Array.getElem?_append_left (by simp; omega)]
  simp
  rw [List.getElem?_append_right (by omega),← ho]
  exact q1
theorem asb:∀ (vs:List Value) (cs:Array Value) (o k:Nat),o+vs.length≤cs.size→(Q8 cs o vs)[k]?=if o≤k∧k<o+vs.length then vs[k-o]? else cs[k]?
 | [],cs,o,k,_=>by
   rw [if_neg (by simp only [List.length_nil]; omega)]
   rfl
 | v::vs,cs,o,k,h=>by
   simp only [List.length_cons] at h
   simp only [Q8]
   rw [asb vs _ (o+1) k (by rw [Array.size_setIfInBounds]; omega)]
   by_cases h1:o+1≤k∧k<o+1+vs.length
   ·rw [if_pos h1,if_pos (by simp only [List.length_cons]; omega)]
    rw [show k-o=(k-(o+1))+1 by omega]
    rfl
   ·rw [if_neg h1]
    by_cases h2:k=o
    ·subst h2
     rw [if_pos (by simp only [List.length_cons]; omega)]
     simp [show k<cs.size by omega]
    ·rw [if_neg (by simp only [List.length_cons]; omega)]
     rw [Array.getElem?_setIfInBounds_ne (by omega)]
theorem Step.aCe {c':Ctx} {m1:Mem} (hmut:∀ b,Nu c m1 b→Nu c m b) (h:Step c m1 c' m'):Step c m c' m' :=
 ⟨h.ext,h.size,fun b hb hn=>h.frame b hb (fun hm=>hn (hmut b hm)),fun b hb=>(h.aho b hb).imp id (hmut b),fun b hb=>(h.b_ b hb).imp id (fun h=>h.imp id (hmut b)),h.out⟩
theorem aCr {base j esz:Nat} (q:Asked P (.app j esz) o a c m ds) (h:aci base j esz ds m=some (d,m')):Sound P o a c m d m':=by
 obtain ⟨ys,hc,hr⟩:=q.chk
 obtain ⟨x,y,t,tx,e,e',i,z,hop,rfl,hu,hux,hinfo,hsize,hpos,hbytes,hz,hzz⟩:=aBr hc
 unfold aci at h
 split at h <;> try (simp at h; done)
 rename_i dd dx
 obtain ⟨v,u,hv,hd1,hd2⟩:=hr.two
 simp at hv
 obtain ⟨e1,e2⟩:=hv
 rw [Option.bind_eq_some_iff] at h
 obtain ⟨⟨scells,soff,slen⟩,hslc,h⟩:=h
 rw [Option.bind_eq_some_iff] at h
 obtain ⟨nds,hnds,h⟩:=h
 dsimp only at h hnds
 obtain ⟨news,hsrc,hnl,hnews⟩:=aCK (P:=P) q.inv hd2 hslc hnds hux
 have hnlen:news.length=slen*esz:=hsrc.newsLen
 have exec:∀ (r:Value) (w':World),(Builtin.append_ #[t,tx] o.type #[v,u]).run P c.w = .ok r w'→(execOp a.eval o).run P c.w = .ok (.value r) w':=by
  intro r w' hrun
  simp only [execOp,hop,resolve,Sem.run_bind,Sem.run_pure,Result.andThen_ok,invoke,builtin]
  simp only [List.map_toArray,List.map_cons,List.map_nil,e1,e2]
  rw [hrun]
  rfl
 have fits:∀ n,n≤4294967296→n*i.bytes≤140737488355328:=fun n hn=>by
  have : n*i.bytes≤4294967296*4096:=Nat.mul_le_mul hn hbytes
  omega
 split at h <;> try (simp at h; done)
 ·
  have := hd1.sW; subst this
  split at h
  ·rename_i h0
   have h0:slen=0:=h0
   subst h0
   simp at h
   obtain ⟨rfl,rfl⟩:=h
   have hn0:news=[]:=by simpa using hnlen
   subst hn0
   refine Sound.pure q.inv (.b_ _ _ .dh) (exec _ _ ?_)
   have hcl:=hsrc.cells
   rw [← hsize] at hcl
   rcases hsrc.kind with ⟨e'',hk⟩ | hk <;> simp [Builtin.append_,run_underlying hu,run_underlying hk,sizeOf,typeInfo,hinfo,hsrc.len,hcl]
  ·split at h <;> try (simp at h; done)
   rename_i h0 hmax
   have h0:¬ slen=0:=h0
   unfold zK at hmax
   have hmax:slen≤4294967296:=hmax
   have hrep:zh c 0 nds (([]++news).toArray++Builtin.zeroCells z.cells (grownCap c.w (0+slen) 0 e-(0+slen))):=by
    have := zh.append (c:=c) (ods:=[]) (olds:=[]) (nds:=nds) (news:=news) (rest:=Builtin.zeroCells z.cells (grownCap c.w (0+slen) 0 e-(0+slen))) rfl (fun j d hd=>by simp at hd) hnl hnews
    simpa using this
   obtain ⟨rfl,c',hw,hi',hst,hL,hβ,hsz⟩:=q.inv.alloc e hrep c.w.drew rfl ⟨rfl,rfl⟩ h
   have hcap:=aru c.w (0+slen) 0 e
   have hrun:=run_append_grow_src (P:=P) c.w t tx o.type e i z hu hinfo hz none 0 0 [] (run_firstCells_none _ _ _ _ _) u slen news (by rw [hsize]; exact hsrc) (by omega) (by simp; omega)
    (growslice_fits (by omega) (fits _ (by omega)))
   refine Sound.yH (c':=c') (exec _ _ hrun |> fun h=>by rw [hw]; exact h) ?_ hi' hst
   rw [show (0+slen)=slen by omega]
   refine .aO (base+j) 0 slen esz _ _ hL (by rw [Nat.zero_add] at hcap; exact hcap) ⟨by rw [hβ],rfl⟩ (.inr ⟨by rw [hβ],?_⟩)
   rw [hβ,hsz]
   simp [adP,hzz,hsize,hnlen]
   rw [← Nat.add_mul]
   rw [Nat.zero_add] at hcap
   exact Nat.le_of_eq (by congr 1; omega)
 ·
  rename_i b off len e0
  cases he:Nat.beq e0 esz <;> simp [he] at h
  have he:e0=esz:=Nat.eq_of_beq_eq_true he
  subst he
  split at h <;> try (simp at h; done)
  rename_i cells hm
  rw [Option.bind_eq_some_iff] at h
  obtain ⟨ods,hods,h⟩:=h
  split at h <;> try (simp at h; done)
  rename_i hmax
  unfold zK at hmax
  obtain ⟨hofit,hol,hog⟩:=Gm hods
  obtain ⟨hL,cap,ad,rfl,hlen,hab,had⟩:=hd1.DI
  obtain ⟨_,hS,cs,T,hb,hbz,hcells⟩:=q.inv.live b cells hm
  obtain ⟨hi1,hmut1⟩:=q.inv.kill hm
  obtain ⟨olds,holds,hcapz⟩:∃ olds:List Value,(ods.length=olds.length∧(∀ (j:Nat) (d:D),ods[j]?=some d→∃ u,olds[j]?=some u∧Rep c d u∧u.oneCell'=true) ∧
    ∀ (j:Nat) (u:Value),olds[j]?=some u→c.w.cell? (ad.add j)=some u)∧(cap≠0→ad=⟨(c.β b).1,(c.β b).2+off,none⟩∧(c.β b).2+off+cap*e0≤cs.size):=by
   by_cases hc0:cap=0
   ·have : len=0:=by omega
    subst this
    simp at hol
    subst hol
    exact ⟨[],⟨rfl,fun j d hd=>by simp at hd,fun j u hu=>by simp at hu⟩,fun h=>absurd hc0 h⟩
   ·obtain ⟨had,hfit⟩:=had.resolve_left hc0
    subst had
    obtain ⟨vs,hrun,hvl,hvg,hvr⟩:=wK (P:=P) (c:=c) (w:=c.w) (blk:=(c.β b).1) (o:=(c.β b).2+off) (n:=len*e0) (ds:=ods) hb hol (fun j d' hd'=>by
     have hj:j<len*e0:=by rw [← hol]; exact (List.getElem?_eq_some_iff.1 hd').1
     obtain ⟨v',q1,q2,q3⟩:=hcells (off+j) d' (by rw [← hog j hj]; exact hd')
     exact ⟨v',by rw [Nat.add_assoc]; exact q1,q2,q3⟩)
    refine ⟨vs,⟨by omega,hvr,fun j u hu=>?_⟩,fun _=>⟨rfl,by rw [hbz]; exact hfit⟩⟩
    have hj:j<len*e0:=by rw [← hvl]; exact (List.getElem?_eq_some_iff.1 hu).1
    rw [Addr.add_lit]
    have := hvg j hj
    rw [hu] at this
    simp [World.cell?,hb,← this]
  obtain ⟨holl,holr,holc⟩:=holds
  have hnomut:¬ Nu c (m.set b .dead) (c.β b).1:=by
   have hil:b<m.length:=(List.getElem?_eq_some_iff.1 hm).1
   rintro (⟨j',cj,hj',hβ'⟩ | ⟨j',cj,hj',hβ'⟩)
   ·by_cases ej:j'=b
    ·subst ej
     simp [hil] at hj'
    ·rw [List.getElem?_set_ne (fun e=>ej e.symm)] at hj'
     exact ej (q.inv.inj j' b cj cells hj' hm hβ')
   ·by_cases ej:j'=b
    ·subst ej
     simp [hil] at hj'
    ·rw [List.getElem?_set_ne (fun e=>ej e.symm)] at hj'
     obtain ⟨_,_,es',clk',hb',_⟩:=q.inv.maps j' cj hj'
     obtain ⟨_,_,cs',T',hb2,_⟩:=q.inv.live b cells hm
     rw [hβ',hb2] at hb'
     simp at hb'
  have hMut:Nu c m (c.β b).1 := .inl ⟨b,cells,hm,rfl⟩
  by_cases hroom:len+slen≤cap
  ·unfold zD at h
   split at h <;> simp at h
   rename_i hfree
   obtain ⟨rfl,rfl⟩:=h
   by_cases hc0:cap=0
   ·have hl0:len=0:=by omega
    have hs0:slen=0:=by omega
    subst hl0 hs0 hc0
    have hn0:news=[]:=by simpa using hnlen
    subst hn0
    have hod:ods=[]:=by simpa using hol
    have hnd:nds=[]:=by simpa using hnl
    subst hod hnd
    obtain ⟨c',hw,hi',hext,hmut',hS',hL',hβ',hsz'⟩:=hi1.ap4 hfree (c.β b).1 0 hS hnomut [] cs T c.w rfl (fun _ _=>rfl) hb (fun j d hd=>by simp at hd)
    refine Sound.yH (c':=c') (v := .slice (some ad) 0 0) ?_ (.aO (base+j) 0 0 e0 0 ad hL' (Nat.le_refl _) (by rw [hβ']; exact hab) (.inl rfl)) hi' ?_
    ·rw [hw]
     refine exec _ _ ?_
     have hcl:=hsrc.cells
     rw [← hsize] at hcl
     rcases hsrc.kind with ⟨e'',hk⟩ | hk <;> simp [Builtin.append_,run_underlying hu,run_underlying hk,sizeOf,typeInfo,hinfo,hsrc.len,hcl,storeCells]
    ·refine ⟨hext,by rw [hw]; exact Nat.le_refl _,fun b' _ _=>by rw [hw],fun b' hb'=>(hmut' b' hb').elim (fun e => .inr (e ▸ hMut)) (fun h => .inr (hmut1 b' h)),fun b' hb' => .inl (by rw [hS'] at hb'; exact hb'),by rw [hw]; exact .refl _⟩
   ·obtain ⟨rfl,hfit⟩:=hcapz hc0
    have hmul:(len+slen)*e0≤cap*e0:=Nat.mul_le_mul_right _ hroom
    rw [Nat.add_mul] at hmul
    have hrun:=run_append_room_src (P:=P) c.w t tx o.type e i hu hinfo (c.β b).1 ((c.β b).2+off) len cap u slen news (by rw [hsize]; exact hsrc) hroom
     (fun j hj=>by
      rw [hsize]
      have : (c.β b).2+off+len*e0+j<cs.size:=by omega
      simp [World.cell?,hb,this])
     (fun j hj=>by simp [World.frozen?,hb])
    rw [hsize] at hrun
    obtain ⟨w1,w2,w3⟩:=ZP (c.β b).1 T (0,0) news ((c.β b).2+off+len*e0) cs c.w hb
    have hcells':∀ (j:Nat) (d:D),(ods++nds)[j]?=some d→∃ v,(Q8 cs ((c.β b).2+off+len*e0) news)[(c.β b).2+off+j]?=some v∧Rep c d v∧v.oneCell'=true:=by
     intro j d hd
     rw [asb _ _ _ _ (by omega)]
     rw [List.getElem?_append] at hd
     split at hd
     ·rename_i hlt
      obtain ⟨u',q1,q2,q3⟩:=holr j d hd
      refine ⟨u',?_,q2,q3⟩
      rw [if_neg (by omega)]
      have := holc j u' q1
      rw [Addr.add_lit] at this
      simpa [World.cell?,hb] using this
     ·rename_i hge
      obtain ⟨u',q1,q2,q3⟩:=hnews _ d hd
      have hj2:j-ods.length<news.length:=(List.getElem?_eq_some_iff.1 q1).1
      refine ⟨u',?_,q2,q3⟩
      rw [if_pos (by omega)]
      rw [show (c.β b).2+off+j-((c.β b).2+off+len*e0)=j-ods.length by omega]
      exact q1
    obtain ⟨c',hw,hi',hext,hmut',hS',hL',hβ',hsz'⟩:=hi1.ap4 hfree (c.β b).1 ((c.β b).2+off) hS hnomut (ods++nds) _ T (c.w.setCells (c.β b).1 ((c.β b).2+off+len*e0) news) w2 w3 w1 hcells'
    refine Sound.yH (c':=c') (v := .slice (some ⟨(c.β b).1,(c.β b).2+off,none⟩) (len+slen) cap) ?_ (.aO (base+j) 0 (len+slen) e0 cap _ hL' hroom ⟨by rw [hβ'],rfl⟩ (.inr ⟨by rw [hβ']; simp,?_⟩)) hi' ?_
    ·rw [hw]
     exact exec _ _ hrun
    ·rw [hβ',hsz',abh]
     simp
     exact hfit
    ·refine ⟨hext,by rw [hw,w2]; exact Nat.le_refl _,fun b' _ hn=>?_,fun b' hb'=>(hmut' b' hb').elim (fun e => .inr (e ▸ hMut)) (fun h => .inr (hmut1 b' h)),fun b' hb' => .inl (by rw [hS'] at hb'; exact hb'),by rw [hw]; exact Zp _ _ _ _⟩
     rw [hw]
     exact w3 b' (fun e=>hn (e ▸ hMut))
  ·have hrep:zh c 0 (ods++nds) ((olds++news).toArray++Builtin.zeroCells z.cells (grownCap c.w (len+slen) cap e-(len+slen))):=zh.append holl holr hnl hnews
   obtain ⟨rfl,c',hw,hi',hst,hL',hβ',hsz'⟩:=hi1.alloc e hrep c.w.drew rfl ⟨rfl,rfl⟩ h
   have hcap:=aru c.w (len+slen) cap e
   have hrun:=run_append_grow_src (P:=P) c.w t tx o.type e i z hu hinfo hz (some ad) len cap olds
    (run_firstCells_some c.w.drew i.size len ad len cap olds (by rw [hsize]; omega) (fun j u hu=>by simpa using holc j u hu)) u slen news (by rw [hsize]; exact hsrc) (by omega) (by simp at hmax ⊢; omega)
    (growslice_fits (by omega) (fits _ (by simpa using hmax)))
   refine Sound.yH (c':=c') (exec _ _ hrun |> fun h=>by rw [hw]; exact h) ?_ hi' (hst.aCe hmut1)
   refine .aO (base+j) 0 (len+slen) e0 _ _ hL' hcap ⟨by rw [hβ'],rfl⟩ (.inr ⟨by rw [hβ'],?_⟩)
   rw [hβ',hsz']
   simp only [List.size_toArray,Array.size_append,List.length_append,adP,hzz,hsize]
   have : olds.length=len*e0:=by omega
   rw [this,hnlen,← Nat.add_mul,← Nat.add_mul]
   simp
   exact Nat.le_of_eq (by congr 1; omega)
end
end Go.Ev
end
