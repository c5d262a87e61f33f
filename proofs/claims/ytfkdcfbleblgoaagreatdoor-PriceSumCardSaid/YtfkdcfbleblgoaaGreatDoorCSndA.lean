/- A part of the proof of priceAll_card, yieldAll_card, priceSum_card, flowAll_card, accrAll_card. -/
import Derived.Lib.Strings
import Derived.Test.YtfkdcfbleblgoaaGreatDoorCDef
set_option linter.unusedVariables false
set_option linter.unusedSimpArgs false
section
namespace Go.Ev
section
variable {P:Program}
def Sound (P:Program) (o:Oper) (a:Act) (c:Ctx) (m:Mem) (d:D) (m':Mem):Prop :=
 ∀ (Kn:Act→World→Prop) (Q:Exit→Act→World→Prop),(∀ v c',Rep c' d v→Inv c' m'→Step c m c' m'→Kn (a.put o.dst v) c'.w)→o.wp P a c.w Kn Q
theorem Sound.yH {o:Oper} {a:Act} {c c':Ctx} {m m':Mem} {d:D} {v:Value} (h:(execOp a.eval o).run P c.w = .ok (.value v) c'.w) (hr:Rep c' d v) (hi:Inv c' m') (hs:Step c m c' m') :
  Sound P o a c m d m':=fun Kn Q hk=>by
 unfold Oper.wp
 rw [h,Oper.upon_value]
 exact hk v c' hr hi hs
theorem Sound.am2 {o:Oper} {a:Act} {c c':Ctx} {m m':Mem} (h:(execOp a.eval o).run P c.w = .ok .skip c'.w) (hi:Inv c' m') (hs:Step c m c' m') :
  Sound P o a c m (.aG []) m':=fun Kn Q hk=>by
 unfold Oper.wp
 rw [h,Oper.upon_skip]
 exact hk _ c' .avl hi hs
theorem Sound.pure {o:Oper} {a:Act} {c:Ctx} {m:Mem} {d:D} {v:Value} (hi:Inv c m) (hr:Rep c d v) (h:(execOp a.eval o).run P c.w = .ok (.value v) c.w):Sound P o a c m d m :=
 Sound.yH h hr hi (.refl c m)
theorem ZU {c:Ctx} {d:D} {v:Value} {cs:List D} (hr:Rep c d v) (h:eH d=some cs) :
  v.cells.size=cs.length∧∀ (j:Nat) (d':D),cs[j]?=some d'→∃ v',v.cells[j]?=some v'∧Rep c d' v'∧v'.oneCell'=true:=by
 have one:∀ (d:D),Rep c d v→v.cells = #[v]→v.oneCell'=true→v.cells.size=[d].length∧∀ (j:Nat) (d':D),[d][j]?=some d'→∃ v',v.cells[j]?=some v'∧Rep c d' v'∧v'.oneCell'=true:=by
  intro d hr hc ho
  refine ⟨by rw [hc]; rfl,fun j d' hd=>?_⟩
  cases j with
  | zero=>simp at hd; subst hd; exact ⟨v,by rw [hc]; rfl,hr,ho⟩
  | succ j=>simp at hd
 cases d <;> simp [eH] at h <;> subst h
 case agg cells =>
  obtain ⟨vs,g,rfl,hl,hg,hr'⟩:=hr.O4
  refine ⟨hl,fun j d' hd=>?_⟩
  have hj:j<cells.length:=(List.getElem?_eq_some_iff.1 hd).1
  exact ⟨g j,(hg j hj).1,hr' j d' hd,(hg j hj).2⟩
 case int=>have := hr.cu; subst this; exact one _ hr rfl rfl
 case bool=>have := hr.mG; subst this; exact one _ hr rfl rfl
 case str=>have := hr.jv; subst this; exact one _ hr rfl rfl
 case iy=>have := hr.Fa; subst this; exact one _ hr rfl rfl
 case dh=>have := hr.sW; subst this; exact one _ hr rfl rfl
 case bQ=>have := hr.yG; subst this; exact one _ hr rfl rfl
 case BQ=>cases hr with | b_ _ _ h=>cases h; exact one _ (.b_ _ _ .BQ) rfl rfl
 case ref=>obtain ⟨_,_,_,_,_,_,rfl,_⟩:=hr.Hg; exact one _ hr rfl rfl
 case sl=>obtain ⟨_,_,rfl⟩ | ⟨_,_,_,_,_,_,_,rfl,_⟩:=hr.GH <;> exact one _ hr rfl rfl
 case iface=>obtain ⟨_,rfl,_⟩:=hr.ig; exact one _ hr rfl rfl
 case func=>obtain ⟨_,_,rfl,_⟩:=hr.TQ; exact one _ hr rfl rfl
 case loc=>obtain ⟨_,rfl⟩:=hr.xW; exact one _ hr rfl rfl
 case aO=>obtain ⟨_,_,_,rfl,_⟩:=hr.DI; exact one _ hr rfl rfl
 case lmap=>obtain ⟨_,rfl⟩:=hr.Zg; exact one _ hr rfl rfl
 case uz=>obtain ⟨_,_,_,rfl,_⟩:=hr.akl; exact one _ hr rfl rfl
 case raw=>have := hr.au'; subst this; exact one _ hr rfl rfl
theorem amA {c:Ctx} {m:Mem} (hi:Inv c m) {d:D} {v:Value} (hr:Rep c d v) {cells:List D} {off:Nat} (h:YF m d=some (cells,off)) :
  ∃ blk st cs T fr,v = .pointer (some ⟨blk,st+off,none⟩)∧c.w.heap[blk]?=some (.cells cs T fr) ∧
    ∀ (j:Nat) (d':D),cells[j]?=some d'→∃ v',cs[st+j]?=some v'∧Rep c d' v'∧v'.oneCell'=true:=by
 cases d <;> simp [YF] at h
 case loc b o =>
  obtain ⟨hL,rfl⟩:=hr.xW
  split at h <;> simp at h <;> obtain ⟨rfl,rfl⟩:=h
  ·rename_i hm
   obtain ⟨_,_,cs,T,hb,_,hc⟩:=hi.live _ _ hm
   exact ⟨_,_,cs,T,_,rfl,hb,hc⟩
  ·rename_i hm
   obtain ⟨_,_,cs,T,fr,hb,hc⟩:=hi.jc _ _ hm
   refine ⟨_,_,cs,T,_,rfl,hb,fun j d' hd=>?_⟩
   obtain ⟨v',h1,h2,h3⟩:=hc j d' hd
   exact ⟨v',h1,.b_ _ _ h2,h3⟩
 case ref cs' o =>
  obtain ⟨rfl,rfl⟩:=h
  obtain ⟨blk,st,cs,T,fr,g,rfl,hS,hb,hg,hf⟩:=hr.Hg
  refine ⟨blk,st,cs,T,fr,rfl,hb,fun j d' hd=>?_⟩
  have hj:j<_:=(List.getElem?_eq_some_iff.1 hd).1
  exact ⟨g j,(hg j hj).1,.b_ _ _ (hf j d' hd),(hg j hj).2⟩
theorem avg {c:Ctx} {m:Mem} (hi:Inv c m) {d:D} {v:Value} (hr:Rep c d v) {cells:List D} {esz off len:Nat} (h:slc m esz d=some (cells,off,len)) :
  (v = .slice none 0 0∧cells=[]∧off=0∧len=0) ∨
  ∃ a cap blk st cs T fr,v = .slice (some a) len cap∧len≤cap∧(cap=0∨a=⟨blk,st+off,none⟩)∧c.w.heap[blk]?=some (.cells cs T fr) ∧
    ∀ (j:Nat) (d':D),cells[j]?=some d'→∃ v',cs[st+j]?=some v'∧Rep c d' v'∧v'.oneCell'=true:=by
 cases d <;> simp [slc] at h
 case dh =>
  obtain ⟨rfl,rfl,rfl⟩:=h
  exact .inl ⟨hr.sW,rfl,rfl,rfl⟩
 case sl len' cs' =>
  obtain ⟨rfl,rfl,rfl⟩:=h
  obtain ⟨rfl,rfl,rfl⟩ | ⟨blk,st,cap,cs,T,fr,g,rfl,hlen,hS,hb,hg,hf⟩:=hr.GH
  ·exact .inl ⟨rfl,rfl,rfl,rfl⟩
  refine .inr ⟨_,cap,blk,st,cs,T,fr,rfl,hlen,.inr rfl,hb,fun j d' hd=>?_⟩
  have hj:j<_:=(List.getElem?_eq_some_iff.1 hd).1
  exact ⟨g j,(hg j hj).1,.b_ _ _ (hf j d' hd),(hg j hj).2⟩
 case aO b o len' e =>
  obtain ⟨hL,cap,a,rfl,hlen,hab,ha⟩:=hr.DI
  cases he:Nat.beq e esz <;> simp [he] at h
  split at h <;> simp at h <;> obtain ⟨rfl,rfl,rfl⟩:=h
  ·rename_i hm
   obtain ⟨_,_,cs,T,hb,_,hc⟩:=hi.live _ _ hm
   exact .inr ⟨a,cap,_,_,cs,T,_,rfl,hlen,ha.imp id (·.1),hb,hc⟩
  ·rename_i hm
   obtain ⟨_,_,cs,T,fr,hb,hc⟩:=hi.jc _ _ hm
   refine .inr ⟨a,cap,_,_,cs,T,_,rfl,hlen,ha.imp id (·.1),hb,fun j d' hd=>?_⟩
   obtain ⟨v',h1,h2,h3⟩:=hc j d' hd
   exact ⟨v',h1,.b_ _ _ h2,h3⟩
theorem Gm {cells ds:List D} {off n:Nat} (h:m_ cells off n=some ds):off+n≤cells.length∧ds.length=n∧∀ j,j<n→ds[j]?=cells[off+j]?:=by
 unfold m_ at h
 split at h <;> simp at h
 rename_i hle
 subst h
 refine ⟨hle,by simp; omega,fun j hj=>?_⟩
 rw [List.getElem?_take_of_lt hj,List.getElem?_drop]
theorem wK {c:Ctx} {w:World} {blk o n:Nat} {ds:List D} {cs:Array Value} {T:TypeId} {fr:Nat×Nat} (hb:w.heap[blk]?=some (.cells cs T fr))
  (hl:ds.length=n) (hd:∀ (j:Nat) (d':D),ds[j]?=some d'→∃ v',cs[o+j]?=some v'∧Rep c d' v'∧v'.oneCell'=true) :
  ∃ vs:List Value,(loadCells ⟨blk,o,none⟩ n).run P w = .ok vs.toArray w∧vs.length=n∧(∀ j,j<n→vs[j]?=cs[o+j]?) ∧
    (∀ (j:Nat) (d':D),ds[j]?=some d'→∃ v',vs[j]?=some v'∧Rep c d' v'∧v'.oneCell'=true):=by
 have hsome:∀ j,j<n→∃ v',cs[o+j]?=some v':=fun j hj=>by
  obtain ⟨v',h,_⟩:=hd j ds[j] (List.getElem?_eq_getElem (by omega))
  exact ⟨v',h⟩
 refine ⟨(List.range n).map fun j=>(cs[o+j]?).getD undef,?_,by simp,?_,?_⟩
 ·apply run_loadCells
  intro j hj
  obtain ⟨v',hv⟩:=hsome j hj
  rw [Addr.add_lit]
  simp [World.cell?,hb,hv]
 ·intro j hj
  obtain ⟨v',hv⟩:=hsome j hj
  simp [hj,hv]
 ·intro j d' hdj
  obtain ⟨v',h1,h2,h3⟩:=hd j d' hdj
  have hj:j<n:=by rw [← hl]; exact (List.getElem?_eq_some_iff.1 hdj).1
  exact ⟨v',by simp [hj,h1],h2,h3⟩
end
end Go.Ev
end
section
namespace Go.Ev
section
variable {P:Program}
structure Asked (P:Program) (k:K) (o:Oper) (a:Act) (c:Ctx) (m:Mem) (ds:List D):Prop where
 chk:∃ ys,aZ P k o.op=some ys∧dM c ds (ys.map a.eval)
 inv:Inv c m
theorem dM.zero {c:Ctx} {vs:List Value} (h:dM c [] vs):vs=[]:=by cases h; rfl
theorem dM.one {c:Ctx} {d:D} {vs:List Value} (h:dM c [d] vs):∃ v,vs=[v]∧Rep c d v:=by
 cases h with | cons h1 h2=>cases h2; exact ⟨_,rfl,h1⟩
theorem dM.two {c:Ctx} {d e:D} {vs:List Value} (h:dM c [d,e] vs):∃ v u,vs=[v,u]∧Rep c d v∧Rep c e u:=by
 cases h with | cons h1 h2=>obtain ⟨u,rfl,hu⟩:=h2.one; exact ⟨_,u,rfl,h1,hu⟩
theorem dM.three {c:Ctx} {d e f:D} {vs:List Value} (h:dM c [d,e,f] vs):∃ v u x,vs=[v,u,x]∧Rep c d v∧Rep c e u∧Rep c f x:=by
 cases h with | cons h1 h2=>obtain ⟨u,x,rfl,hu,hx⟩:=h2.two; exact ⟨_,u,x,rfl,h1,hu,hx⟩
section
variable {op:Op} {ys:List Operand}
theorem aBE (h:aZ P .mov op=some ys):∃ x,(op = .move x∨op = .assign x)∧ys=[x]:=by
 simp only [aZ] at h; split at h <;> simp at h
 ·exact ⟨_,.inl rfl,h.symm⟩
 ·exact ⟨_,.inr rfl,h.symm⟩
theorem azq (h:aZ P .pick op=some ys):∃ x y z,op = .pick x y z∧ys=[x,y,z]:=by
 simp only [aZ] at h; split at h <;> simp at h; exact ⟨_,_,_,rfl,h.symm⟩
theorem axn (h:aZ P .aeG op=some ys):∃ x,op = .nilCheck x∧ys=[x]:=by
 simp only [aZ] at h; split at h <;> simp at h; exact ⟨_,rfl,h.symm⟩
theorem azc {b:BinOp} (h:aZ P (.mF b) op=some ys):∃ t x y u,op = .binOp b t x y u∧ys=[x,y]∧b ≠ .shl∧b ≠ .shr:=by
 simp only [aZ] at h; split at h <;> simp at h; obtain ⟨⟨rfl,h1,h2⟩,h⟩:=h; exact ⟨_,_,_,_,rfl,h.symm,h1,h2⟩
theorem aDl {l:Bool} (h:aZ P (.sh l) op=some ys):∃ t x y u,op = .binOp (if l then .shl else .shr) t x y u∧ys=[x,y]:=by
 simp only [aZ] at h; split at h <;> simp at h; obtain ⟨rfl,h⟩:=h; exact ⟨_,_,_,_,rfl,h.symm⟩
theorem azd {b:BinOp} (h:aZ P (.Td b) op=some ys):∃ t x y u,op = .binOp b t x y u∧ys=[x,y]:=by
 simp only [aZ] at h; split at h <;> simp at h; obtain ⟨rfl,h⟩:=h; exact ⟨_,_,_,_,rfl,h.symm⟩
theorem aBv {n:Bool} (h:aZ P (.eqB n) op=some ys):∃ t x y u,op = .binOp (if n then .neq else .eql) t x y u∧ys=[x,y]∧P.underlying t=some .bool:=by
 simp only [aZ] at h; split at h <;> simp at h; obtain ⟨⟨rfl,h1⟩,h⟩:=h
 refine ⟨_,_,_,_,rfl,h.symm,?_⟩
 split at h1 <;> simp_all
theorem aBy {n:Bool} (h:aZ P (.eqP n) op=some ys):∃ t x y u e,op = .binOp (if n then .neq else .eql) t x y u∧ys=[x,y]∧P.underlying t=some (.pointer e):=by
 simp only [aZ] at h; split at h <;> simp at h; obtain ⟨⟨rfl,h1⟩,h⟩:=h
 split at h1 <;> simp at h1
 exact ⟨_,_,_,_,_,rfl,h.symm,by assumption⟩
theorem aBx {n cc:Bool} (h:aZ P (.eqN n cc) op=some ys):∃ t x y u ms,op = .binOp (if n then .neq else .eql) t x y u∧ys=[x,y]∧P.underlying t=some (.interface ms)∧(cc=false∨isK x=true∨isK y=true):=by
 simp only [aZ] at h; split at h <;> simp at h; obtain ⟨⟨rfl,h1,h2⟩,h⟩:=h
 split at h1 <;> simp at h1
 exact ⟨_,_,_,_,_,rfl,h.symm,by assumption,h2⟩
theorem aBF (h:aZ P .neg op=some ys):∃ t x,op = .unOp .neg t x∧ys=[x]:=by
 simp only [aZ] at h; split at h <;> simp at h; exact ⟨_,_,rfl,h.symm⟩
theorem aBC (h:aZ P .inv op=some ys):∃ t x,op = .unOp .xor t x∧ys=[x]:=by
 simp only [aZ] at h; split at h <;> simp at h; exact ⟨_,_,rfl,h.symm⟩
theorem aBG (h:aZ P .not op=some ys):∃ t x,op = .unOp .not t x∧ys=[x]:=by
 simp only [aZ] at h; split at h <;> simp at h; exact ⟨_,_,rfl,h.symm⟩
theorem azn {t:Nat} (h:aZ P (.akn t) op=some ys):∃ x d,op = .makeInterface t x∧ys=[x]∧P.underlying t=some d∧∀ ms,d ≠ .interface ms:=by
 simp only [aZ] at h; split at h <;> simp at h; obtain ⟨⟨rfl,h1,h2⟩,h⟩:=h
 obtain ⟨d,hd⟩:=Option.isSome_iff_exists.1 h1
 refine ⟨_,d,rfl,h.symm,hd,fun ms e=>?_⟩
 subst e
 rw [hd] at h2
 simp at h2
theorem azm {f:Nat} (h:aZ P (.akm f) op=some ys):∃ cap,op = .makeFunc (.func f) #[] cap∧ys=cap.toList:=by
 simp only [aZ] at h; split at h <;> simp at h; obtain ⟨⟨rfl,rfl⟩,h⟩:=h; exact ⟨_,rfl,h.symm⟩
theorem aBA {i:Nat} (h:aZ P (.ext i) op=some ys):∃ x,op = .extract x i∧ys=[x]:=by
 simp only [aZ] at h; split at h <;> simp at h; obtain ⟨rfl,h⟩:=h; exact ⟨_,rfl,h.symm⟩
theorem azf {k:IntKind} (h:aZ P (.conv k) op=some ys):∃ s d x u,op = .convert s d x∧ys=[x]∧P.underlying s=some u∧P.underlying d=some (.int k):=by
 simp only [aZ] at h; split at h <;> simp at h; obtain ⟨⟨h1,h2⟩,h⟩:=h
 split at h <;> simp at h
 obtain ⟨rfl,h⟩:=h
 obtain ⟨u,hu⟩:=Option.isSome_iff_exists.1 h1
 exact ⟨_,_,_,u,rfl,h.symm,hu,by assumption⟩
theorem azg {off:Nat} (h:aZ P (.ajJ off) op=some ys):∃ t x f fs fd s,op = .fieldAddr t x f∧ys=[x]∧P.underlying t=some (.struct fs)∧fs[f]?=some fd∧fd.offset=off∧(P.info? fd.type).map (·.size)=some s∧0<s:=by
 simp only [aZ] at h; split at h <;> try (simp at h; done)
 split at h <;> try (simp at h; done)
 rw [Option.bind_eq_some_iff] at h
 obtain ⟨fd,h1,h2⟩:=h
 simp at h2
 obtain ⟨⟨h3,h4⟩,h⟩:=h2
 obtain ⟨s,h5,h6⟩:=(Option.any_eq_true_iff_get _ _).1 h4 |> fun ⟨h,h'⟩=>(⟨_,(Option.some_get h).symm,of_decide_eq_true h'⟩:∃ s,pG P fd.type=some s∧0<s)
 exact ⟨_,_,_,_,fd,s,rfl,h.symm,by assumption,h1,h3,h5,h6⟩
end
theorem aCF {o:Oper} {a:Act} {c:Ctx} {m m':Mem} {ds:List D} {d:D} (q:Asked P .mov o a c m ds) (h:aeY ds m=some (d,m')):Sound P o a c m d m':=by
 obtain ⟨ys,hc,hr⟩:=q.chk
 unfold aeY at h
 split at h <;> simp at h
 obtain ⟨rfl,rfl⟩:=h
 obtain ⟨x,hop,rfl⟩:=aBE hc
 obtain ⟨v,hv,hd⟩:=hr.one
 simp at hv; subst hv
 rcases hop with hop | hop <;> exact Sound.pure q.inv hd (by simp [execOp,hop])
theorem aAB {o:Oper} {a:Act} {c:Ctx} {m m':Mem} {ds:List D} {d:D} (q:Asked P .pick o a c m ds) (h:UY ds m=some (d,m')):Sound P o a c m d m':=by
 obtain ⟨ys,hc,hr⟩:=q.chk
 unfold UY at h
 split at h <;> simp at h
 obtain ⟨rfl,rfl⟩:=h
 obtain ⟨x,y,z,hop,rfl⟩:=azq hc
 obtain ⟨v,u,x,hv,h1,h2,h3⟩:=hr.three
 simp at hv
 obtain ⟨e1,rfl,rfl⟩:=hv
 have hb:=h1.mG
 subst hb
 rename_i b _ _
 cases b
 ·exact Sound.pure q.inv h3 (by simp [execOp,hop,e1,asBool])
 ·exact Sound.pure q.inv h2 (by simp [execOp,hop,e1,asBool])
theorem ayA {o:Oper} {a:Act} {c:Ctx} {m m':Mem} {ds:List D} {d:D} (q:Asked P .aeG o a c m ds) (h:NV ds m=some (d,m')):Sound P o a c m d m':=by
 obtain ⟨ys,hc,hr⟩:=q.chk
 unfold NV at h
 obtain ⟨x,hop,rfl⟩:=axn hc
 split at h <;> simp at h <;> obtain ⟨rfl,rfl⟩:=h <;> obtain ⟨v,hv,hd⟩:=hr.one <;> simp at hv
 ·obtain ⟨_,rfl⟩:=hd.xW
  exact Sound.pure q.inv hd (by simp [execOp,hop,hv])
 ·obtain ⟨_,_,_,_,_,_,rfl,_⟩:=hd.Hg
  exact Sound.pure q.inv hd (by simp [execOp,hop,hv])
theorem aAl {b:BinOp} {o:Oper} {a:Act} {c:Ctx} {m m':Mem} {ds:List D} {d:D} (q:Asked P (.mF b) o a c m ds) (h:eX b ds m=some (d,m')):Sound P o a c m d m':=by
 obtain ⟨ys,hc,hr⟩:=q.chk
 unfold eX at h
 split at h <;> try (simp at h; done)
 rename_i k x k' y
 obtain ⟨t,ox,oy,u,hop,rfl,hb1,hb2⟩:=azc hc
 obtain ⟨v,u',hv,h1,h2⟩:=hr.two
 simp at hv
 obtain ⟨e1,e2⟩:=hv
 have := h1.cu; subst this
 have := h2.cu; subst this
 cases hk:(k==k') <;> simp [hk] at h
 have hk:k=k':=by simpa using hk
 subst hk
 rw [Option.bind_eq_some_iff] at h
 obtain ⟨d',hd',h⟩:=h
 simp at h
 obtain ⟨rfl,rfl⟩:=h
 have key:∃ v,Rep c d' v∧∀ w,(binOp b t (.int k x) (.int k y)).run P w = .ok v w:=by
  cases b <;> simp [Ev.mF] at hd' hb1 hb2
  all_goals first
   | (subst hd'; exact ⟨_,.b_ _ _ (.int _ _),fun w=>by simp [binOp,Op.intArith,Op.intBits]⟩)
   | (subst hd'; exact ⟨_,.b_ _ _ (.bool _),fun w=>by simp [binOp,Op.intCmp]⟩)
   | (obtain ⟨h0,rfl⟩:=hd'; exact ⟨_,.b_ _ _ (.int _ _),fun w=>by simp [binOp,Op.intDiv,h0]⟩)
 obtain ⟨v,hv,hrun⟩:=key
 refine Sound.pure q.inv hv ?_
 have hg:∀ w,(eqGuard b t ox oy (.int k x) (.int k y)).run P w = .ok () w:=fun w=>by
  cases b <;> simp [eqGuard]
 simp [execOp,hop,e1,e2,hg,hrun]
end
end Go.Ev
end
section
namespace Go.Ev
section
variable {P:Program} {o:Oper} {a:Act} {c:Ctx} {m m':Mem} {ds:List D} {d:D}
theorem aBV (w:World) (n:Nat) {t:TypeId} (hu:P.underlying t=some .bool) (x y:Bool):(Op.equalIn (n+1) t (.bool x) (.bool y)).run P w = .ok (x==y) w:=by
 simp [Op.equalIn,run_underlying hu]
theorem aDq (w:World) (n:Nat) {t e:TypeId} (hu:P.underlying t=some (.pointer e)) (p r:Option Addr) (h:p=none∨r=none) :
  (Op.equalIn (n+1) t (.pointer p) (.pointer r)).run P w = .ok (p.isNone && r.isNone) w:=by
 rcases p with _ | p <;> rcases r with _ | r <;> simp at h <;> simp [Op.equalIn,run_underlying hu]
theorem aBW (w:World) (n:Nat) {t:TypeId} {ms:Array (String×TypeId)} (hu:P.underlying t=some (.interface ms)):(Op.equalIn (n+1) t .nilIface .nilIface).run P w = .ok true w:=by
 simp [Op.equalIn,run_underlying hu]
theorem an0 (w:World) (n:Nat) {t:TypeId} {ms:Array (String×TypeId)} (hu:P.underlying t=some (.interface ms)) (u:TypeId) (v:Value):(Op.equalIn (n+1) t .nilIface (.iface u v)).run P w = .ok false w:=by
 simp [Op.equalIn,run_underlying hu]
theorem an1 (w:World) (n:Nat) {t:TypeId} {ms:Array (String×TypeId)} (hu:P.underlying t=some (.interface ms)) (u:TypeId) (v:Value):(Op.equalIn (n+1) t (.iface u v) .nilIface).run P w = .ok false w:=by
 simp [Op.equalIn,run_underlying hu]
theorem ais {t:TypeId} {x y:Value} {r:Bool} {ox oy:Operand} {n:Bool} (w:World) (he:∀ k,(Op.equalIn (k+1) t x y).run P w = .ok r w)
  (hb:(∀ (w:World) ,(eqGuard (if n then .neq else .eql) t ox oy x y).run P w = .ok () w))
  (hx:∀ b:Bool,binOp (if b then .neq else .eql) t x y=(do pure (.bool ((← Op.equal t x y) != b)))) :
  (do eqGuard (if n then .neq else .eql) t ox oy x y; binOp (if n then .neq else .eql) t x y:Sem Value).run P w = .ok (.bool (r != n)) w:=by
 rw [Sem.run_bind,hb w,Result.andThen_ok,hx n,Sem.run_bind]
 have : (Op.equal t x y).run P w = .ok r w:=he 9999
 rw [this]
 rfl
theorem aDP {l:Bool} (q:Asked P (.sh l) o a c m ds) (h:tV l ds m=some (d,m')):Sound P o a c m d m':=by
 obtain ⟨ys,hc,hr⟩:=q.chk
 unfold tV at h
 split at h <;> try (simp at h; done)
 rename_i k x k' y
 obtain ⟨t,ox,oy,u,hop,rfl⟩:=aDl hc
 obtain ⟨v,u',hv,h1,h2⟩:=hr.two
 simp at hv
 obtain ⟨e1,e2⟩:=hv
 have := h1.cu; subst this
 have := h2.cu; subst this
 rw [Option.bind_eq_some_iff] at h
 obtain ⟨d',hd',h⟩:=h
 simp at h
 obtain ⟨rfl,rfl⟩:=h
 unfold shI at hd'
 split at hd'
 ·simp at hd'
 rename_i hy
 have hy':¬ y<0:=hy
 cases l <;> simp at hd' <;> subst hd' <;>
  exact Sound.pure q.inv (.b_ _ _ (.int _ _)) (by simp [execOp,hop,e1,e2,eqGuard,binOp,Op.shift,hy'])
theorem aAm {b:BinOp} (q:Asked P (.Td b) o a c m ds) (h:IG b ds m=some (d,m')):Sound P o a c m d m':=by
 obtain ⟨ys,hc,hr⟩:=q.chk
 unfold IG at h
 split at h <;> try (simp at h; done)
 rename_i x y
 obtain ⟨t,ox,oy,u,hop,rfl⟩:=azd hc
 obtain ⟨v,u',hv,h1,h2⟩:=hr.two
 simp at hv
 obtain ⟨e1,e2⟩:=hv
 have := h1.jv; subst this
 have := h2.jv; subst this
 rw [Option.bind_eq_some_iff] at h
 obtain ⟨d',hd',h⟩:=h
 simp at h
 obtain ⟨rfl,rfl⟩:=h
 have hg:∀ w,(eqGuard b t ox oy (.string ⟨x.toArray⟩) (.string ⟨y.toArray⟩)).run P w = .ok () w:=fun w=>by
  cases b <;> simp [eqGuard]
 have key:∃ v,Rep c d' v∧∀ w,(binOp b t (.string ⟨x.toArray⟩) (.string ⟨y.toArray⟩)).run P w = .ok v w:=by
  cases b <;> simp [Ev.Td] at hd'
  case add =>
   obtain ⟨hl,rfl⟩:=hd'
   refine ⟨_,.b_ _ _ (.str _),fun w=>?_⟩
   have e:=run_string_add_sum (P:=P) w ⟨x.toArray⟩ ⟨y.toArray⟩ (by simp [ByteArray.size]; unfold maxStr at hl; omega)
   rw [binOp_string_add,e,ByteArray.mk_append_mk]
  all_goals (subst hd'; exact ⟨_,.b_ _ _ (.bool _),fun w=>by simp [binOp,Op.stringOp]⟩)
 obtain ⟨v,hv,hrun⟩:=key
 exact Sound.pure q.inv hv (by simp [execOp,hop,e1,e2,hg,hrun])
theorem aCw {n:Bool} (q:Asked P (.eqB n) o a c m ds) (h:aeV n ds m=some (d,m')):Sound P o a c m d m':=by
 obtain ⟨ys,hc,hr⟩:=q.chk
 unfold aeV at h
 split at h <;> try (simp at h; done)
 rename_i x y
 obtain ⟨t,ox,oy,u,hop,rfl,hu⟩:=aBv hc
 obtain ⟨v,u',hv,h1,h2⟩:=hr.two
 simp at hv
 obtain ⟨e1,e2⟩:=hv
 have := h1.mG; subst this
 have := h2.mG; subst this
 simp at h
 obtain ⟨rfl,rfl⟩:=h
 refine Sound.pure q.inv (.b_ _ _ (.bool _)) ?_
 have := ais (P:=P) (ox:=ox) (oy:=oy) (n:=n) c.w (fun k=>aBV c.w k hu x y) (fun w=>by cases n <;> simp [eqGuard]) (fun b=>by cases b <;> simp [binOp])
 simp only [execOp,hop,e1,e2]
 rw [Sem.run_bind,this]
 rfl
theorem aCz {n:Bool} (q:Asked P (.eqP n) o a c m ds) (h:Zv n ds m=some (d,m')):Sound P o a c m d m':=by
 obtain ⟨ys,hc,hr⟩:=q.chk
 obtain ⟨t,ox,oy,u,e,hop,rfl,hu⟩:=aBy hc
 have key:∀ (p r:Option Addr),(a.eval ox = .pointer p)→(a.eval oy = .pointer r)→(p=none∨r=none)→d = .bool ((p.isNone && r.isNone) != n)→m'=m→Sound P o a c m d m':=by
  intro p r e1 e2 hpr hd hm
  subst hd hm
  refine Sound.pure q.inv (.b_ _ _ (.bool _)) ?_
  have := ais (P:=P) (ox:=ox) (oy:=oy) (n:=n) c.w (fun k=>aDq c.w k hu p r hpr) (fun w=>by cases n <;> simp [eqGuard])
   (fun b=>by rcases p with _ | p <;> rcases r with _ | r <;> simp at hpr <;> cases b <;> simp [binOp])
  simp only [execOp,hop,e1,e2]
  rw [Sem.run_bind,this]
  rfl
 unfold Zv at h
 split at h <;> try (simp at h; done)
 all_goals
  obtain ⟨v,u',hv,h1,h2⟩:=hr.two
  simp at hv
  obtain ⟨e1,e2⟩:=hv
  simp at h
  obtain ⟨rfl,rfl⟩:=h
 ·have := h1.Fa; subst this
  have := h2.Fa; subst this
  exact key _ _ e1 e2 (.inl rfl) (by simp) rfl
 ·have := h1.Fa; subst this
  obtain ⟨_,rfl⟩:=h2.xW
  exact key _ _ e1 e2 (.inl rfl) (by simp) rfl
 ·have := h1.Fa; subst this
  obtain ⟨_,_,_,_,_,_,rfl,_⟩:=h2.Hg
  exact key _ _ e1 e2 (.inl rfl) (by simp) rfl
 ·have := h2.Fa; subst this
  obtain ⟨_,rfl⟩:=h1.xW
  exact key _ _ e1 e2 (.inr rfl) (by simp) rfl
 ·have := h2.Fa; subst this
  obtain ⟨_,_,_,_,_,_,rfl,_⟩:=h1.Hg
  exact key _ _ e1 e2 (.inr rfl) (by simp) rfl
theorem aCy {n cc:Bool} (q:Asked P (.eqN n cc) o a c m ds) (h:Zu n cc ds m=some (d,m')):Sound P o a c m d m':=by
 obtain ⟨ys,hc,hr⟩:=q.chk
 obtain ⟨t,ox,oy,u,ms,hop,rfl,hu,hcc⟩:=aBx hc
 have isc:∀ x,isK x=true→(∃ v,x = .const v):=fun x hx=>by cases x <;> simp [isK] at hx; exact ⟨_,rfl⟩
 have key:∀ (x y:Value) (r:Bool),a.eval ox=x→a.eval oy=y→(∀ k,(Op.equalIn (k+1) t x y).run P c.w = .ok r c.w) →
   (∀ w,(eqGuard (if n then .neq else .eql) t ox oy x y).run P w = .ok () w)→(∀ b:Bool,binOp (if b then .neq else .eql) t x y=(do pure (.bool ((← Op.equal t x y) != b)))) →
   d = .bool (r != n)→m'=m→Sound P o a c m d m':=by
  intro x y r e1 e2 he hg hx hd hm
  subst hd hm
  refine Sound.pure q.inv (.b_ _ _ (.bool _)) ?_
  have := ais (P:=P) (ox:=ox) (oy:=oy) (n:=n) c.w he hg hx
  simp only [execOp,hop,e1,e2]
  rw [Sem.run_bind,this]
  rfl
 unfold Zu at h
 split at h <;> try (simp at h; done)
 ·obtain ⟨v,u',hv,h1,h2⟩:=hr.two
  simp at hv
  obtain ⟨e1,e2⟩:=hv
  have := h1.yG; subst this
  have := h2.yG; subst this
  cases cc <;> simp at h
  obtain ⟨rfl,rfl⟩:=h
  simp at hcc
  refine key _ _ true e1 e2 (fun k=>aBW c.w k hu) (fun w=>?_) (fun b=>by cases b <;> simp [binOp]) (by simp) rfl
  rcases hcc with hk | hk <;> obtain ⟨kv,rfl⟩:=isc _ hk <;> cases n <;> simp [eqGuard]
 ·obtain ⟨v,u',hv,h1,h2⟩:=hr.two
  simp at hv
  obtain ⟨e1,e2⟩:=hv
  have := h1.yG; subst this
  obtain ⟨_,rfl,_⟩:=h2.ig
  simp at h
  obtain ⟨rfl,rfl⟩:=h
  exact key _ _ false e1 e2 (fun k=>an0 c.w k hu _ _) (fun w=>by cases n <;> simp [eqGuard]) (fun b=>by cases b <;> simp [binOp]) (by simp) rfl
 ·obtain ⟨v,u',hv,h1,h2⟩:=hr.two
  simp at hv
  obtain ⟨e1,e2⟩:=hv
  have := h2.yG; subst this
  obtain ⟨_,rfl,_⟩:=h1.ig
  simp at h
  obtain ⟨rfl,rfl⟩:=h
  exact key _ _ false e1 e2 (fun k=>an1 c.w k hu _ _) (fun w=>by cases n <;> simp [eqGuard]) (fun b=>by cases b <;> simp [binOp]) (by simp) rfl
theorem aCG (q:Asked P .neg o a c m ds) (h:aeZ ds m=some (d,m')):Sound P o a c m d m':=by
 obtain ⟨ys,hc,hr⟩:=q.chk
 obtain ⟨t,x,hop,rfl⟩:=aBF hc
 unfold aeZ at h
 split at h <;> try (simp at h; done)
 obtain ⟨v,hv,h1⟩:=hr.one
 simp at hv h
 have := h1.cu; subst this
 obtain ⟨rfl,rfl⟩:=h
 exact Sound.pure q.inv (.b_ _ _ (.int _ _)) (by simp [execOp,hop,hv,Op.unary,Op.intArith])
theorem aCD {m m':Mem} (q:Asked P .inv o a c m ds) (h:ahD ds m=some (d,m')):Sound P o a c m d m':=by
 obtain ⟨ys,hc,hr⟩:=q.chk
 obtain ⟨t,x,hop,rfl⟩:=aBC hc
 unfold ahD at h
 split at h <;> try (simp at h; done)
 obtain ⟨v,hv,h1⟩:=hr.one
 simp [Ev.mF] at hv h
 have := h1.cu; subst this
 obtain ⟨rfl,rfl⟩:=h
 exact Sound.pure q.inv (.b_ _ _ (.int _ _)) (by simp [execOp,hop,hv,Op.unary,Op.intBits])
theorem aCH (q:Asked P .not o a c m ds) (h:ae0 ds m=some (d,m')):Sound P o a c m d m':=by
 obtain ⟨ys,hc,hr⟩:=q.chk
 obtain ⟨t,x,hop,rfl⟩:=aBG hc
 unfold ae0 at h
 split at h <;> try (simp at h; done)
 obtain ⟨v,hv,h1⟩:=hr.one
 simp at hv h
 have := h1.mG; subst this
 obtain ⟨rfl,rfl⟩:=h
 exact Sound.pure q.inv (.b_ _ _ (.bool _)) (by simp [execOp,hop,hv,Op.unary])
theorem aAo {k:IntKind} (q:Asked P (.conv k) o a c m ds) (h:X5 k ds m=some (d,m')):Sound P o a c m d m':=by
 obtain ⟨ys,hc,hr⟩:=q.chk
 obtain ⟨s,t,x,u,hop,rfl,hu,ht⟩:=azf hc
 unfold X5 at h
 split at h <;> try (simp at h; done)
 obtain ⟨v,hv,h1⟩:=hr.one
 simp at hv h
 have := h1.cu; subst this
 obtain ⟨rfl,rfl⟩:=h
 refine Sound.pure q.inv (.b_ _ _ (.int _ _)) ?_
 cases u <;> simp [execOp,hop,hv,convert,run_underlying hu,run_underlying ht,Conv.intToInt]
theorem aAy {t:Nat} (q:Asked P (.akn t) o a c m ds) (h:X7 t ds m=some (d,m')):Sound P o a c m d m':=by
 obtain ⟨ys,hc,hr⟩:=q.chk
 obtain ⟨x,td,hop,rfl,hu,hni⟩:=azn hc
 unfold X7 at h
 split at h <;> try (simp at h; done)
 obtain ⟨v,hv,h1⟩:=hr.one
 simp at hv h
 obtain ⟨rfl,rfl⟩:=h
 refine Sound.pure q.inv (.iface _ _ _ h1) ?_
 cases td <;> first
  | exact absurd rfl (hni _)
  | simp [execOp,hop,hv,Instr.makeInterface,run_underlying hu]
theorem aAx {f:Nat} (q:Asked P (.akm f) o a c m ds) (h:some (D.func f ds,m)=some (d,m')):Sound P o a c m d m':=by
 obtain ⟨ys,hc,hr⟩:=q.chk
 obtain ⟨cap,hop,rfl⟩:=azm hc
 simp at h
 obtain ⟨rfl,rfl⟩:=h
 have hl:ds.length=cap.size:=by have := hr.length; simpa using this
 refine Sound.pure q.inv (.func f ds (cap.map a.eval) (fun j=>(cap.map a.eval).getD j undef) (by simp [hl]) (fun j hj=>?_) (fun j d' hd'=>?_)) ?_
 ·have hj':j<cap.size:=by omega
  simp [hj']
 ·obtain ⟨v,hv,h1⟩:=hr.get j d' hd'
  have hj':j<cap.size:=by rw [← hl]; exact (List.getElem?_eq_some_iff.1 hd').1
  simp [hj'] at hv ⊢
  rw [hv]
  exact h1
 ·simp [execOp,hop,Instr.makeFunc]
theorem aCB {i:Nat} (q:Asked P (.ext i) o a c m ds) (h:aeW i ds m=some (d,m')):Sound P o a c m d m':=by
 obtain ⟨ys,hc,hr⟩:=q.chk
 obtain ⟨x,hop,rfl⟩:=aBA hc
 unfold aeW at h
 split at h <;> try (simp at h; done)
 rename_i tds
 rw [Option.bind_eq_some_iff] at h
 obtain ⟨d',hd',h⟩:=h
 simp at h
 obtain ⟨rfl,rfl⟩:=h
 obtain ⟨v,hv,h1⟩:=hr.one
 simp at hv
 obtain ⟨vs,g,rfl,hl,hg,hr'⟩:=h1.Yh
 have hi:i<tds.length:=(List.getElem?_eq_some_iff.1 hd').1
 exact Sound.pure q.inv (hr' i d' hd') (by simp [execOp,hop,hv,Instr.extract,hg i hi])
theorem aAp {off:Nat} (q:Asked P (.ajJ off) o a c m ds) (h:UN off ds m=some (d,m')):Sound P o a c m d m':=by
 obtain ⟨ys,hc,hr⟩:=q.chk
 obtain ⟨t,x,f,fs,fd,s,hop,rfl,hu,hf,hoff,hs,hpos⟩:=azg hc
 have hne:s≠0:=by omega
 cases hinfo:P.info? fd.type with
 | none=>simp [hinfo] at hs
 | some inf =>
   simp [hinfo] at hs
   have hsz:inf.size≠0:=by omega
   have run:∀ (blk o':Nat) (w:World),(Instr.fieldAt t (.pointer (some ⟨blk,o',none⟩)) f).run P w = .ok (.pointer (some ⟨blk,o'+off,none⟩)) w:=by
    intro blk o' w
    simp [Instr.fieldAt,run_underlying hu,hf,Instr.sureAddr,fieldPlace,sizeOf,typeInfo,hinfo,hsz,Addr.add_lit,hoff]
   unfold UN at h
   split at h <;> simp at h <;> obtain ⟨rfl,rfl⟩:=h <;> obtain ⟨v,hv,h1⟩:=hr.one <;> simp at hv
   ·obtain ⟨hL,rfl⟩:=h1.xW
    rename_i b o'
    refine Sound.pure q.inv (v := .pointer (some ⟨(c.β b).1,(c.β b).2+(o'+off),none⟩)) (.loc b (o'+off) hL) ?_
    simp [execOp,hop,hv,run,Nat.add_assoc]
   ·obtain ⟨blk,st,cs,T,fr,g,rfl,hS,hb,hg,hF⟩:=h1.Hg
    rename_i cells o'
    refine Sound.pure q.inv (v := .pointer (some ⟨blk,st+(o'+off),none⟩)) (.b_ _ _ (.ref _ _ blk st cs T fr g hS hb hg hF)) ?_
    simp [execOp,hop,hv,run,Nat.add_assoc]
end
end Go.Ev
end
