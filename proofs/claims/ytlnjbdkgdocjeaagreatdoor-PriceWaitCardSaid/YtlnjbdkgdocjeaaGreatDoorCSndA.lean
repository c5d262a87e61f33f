/- A part of the proof of priceWait_card. -/
import Derived.Test.YtlnjbdkgdocjeaaGreatDoorCDef
set_option linter.unusedVariables false
set_option linter.unusedSimpArgs false
section
namespace Go.Ev
section
variable {P:Program}
def Sound (P:Program) (o:Oper) (a:Act) (c:Ctx) (m:Mem) (d:D) (m':Mem):Prop :=
 ∀ (Kn:Act→World→Prop) (Q:Exit→Act→World→Prop),(∀ v c',Rep c' d v→Inv c' m'→Step c m c' m'→Kn (a.put o.dst v) c'.w)→o.wp P a c.w Kn Q
theorem Sound.sN {o:Oper} {a:Act} {c c':Ctx} {m m':Mem} {d:D} {v:Value} (h:(execOp a.eval o).run P c.w = .ok (.value v) c'.w) (hr:Rep c' d v) (hi:Inv c' m') (hs:Step c m c' m') :
  Sound P o a c m d m':=fun Kn Q hk=>by
 unfold Oper.wp
 rw [h,Oper.upon_value]
 exact hk v c' hr hi hs
theorem Sound.ae3 {o:Oper} {a:Act} {c c':Ctx} {m m':Mem} (h:(execOp a.eval o).run P c.w = .ok .skip c'.w) (hi:Inv c' m') (hs:Step c m c' m') :
  Sound P o a c m (.aH []) m':=fun Kn Q hk=>by
 unfold Oper.wp
 rw [h,Oper.upon_skip]
 exact hk _ c' .alY hi hs
theorem Sound.pure {o:Oper} {a:Act} {c:Ctx} {m:Mem} {d:D} {v:Value} (hi:Inv c m) (hr:Rep c d v) (h:(execOp a.eval o).run P c.w = .ok (.value v) c.w):Sound P o a c m d m :=
 Sound.sN h hr hi (.refl c m)
theorem QI {c:Ctx} {d:D} {v:Value} {cs:List D} (hr:Rep c d v) (h:dO d=some cs) :
  v.cells.size=cs.length∧∀ (j:Nat) (d':D),cs[j]?=some d'→∃ v',v.cells[j]?=some v'∧Rep c d' v'∧v'.oneCell'=true:=by
 have one:∀ (d:D),Rep c d v→v.cells = #[v]→v.oneCell'=true→v.cells.size=[d].length∧∀ (j:Nat) (d':D),[d][j]?=some d'→∃ v',v.cells[j]?=some v'∧Rep c d' v'∧v'.oneCell'=true:=by
  intro d hr hc ho
  refine ⟨by rw [hc]; rfl,fun j d' hd=>?_⟩
  cases j with
  | zero=>simp at hd; subst hd; exact ⟨v,by rw [hc]; rfl,hr,ho⟩
  | succ j=>simp at hd
 cases d <;> simp [dO] at h <;> subst h
 case agg cells =>
  obtain ⟨vs,g,rfl,hl,hg,hr'⟩:=hr.FM
  refine ⟨hl,fun j d' hd=>?_⟩
  have hj:j<cells.length:=(List.getElem?_eq_some_iff.1 hd).1
  exact ⟨g j,(hg j hj).1,hr' j d' hd,(hg j hj).2⟩
 case int=>have := hr.bg; subst this; exact one _ hr rfl rfl
 case bool=>have := hr.pO; subst this; exact one _ hr rfl rfl
 case str=>have := hr.gu; subst this; exact one _ hr rfl rfl
 case fZ=>have := hr.yD; subst this; exact one _ hr rfl rfl
 case bJ=>have := hr.nG; subst this; exact one _ hr rfl rfl
 case bH=>have := hr.sK; subst this; exact one _ hr rfl rfl
 case vO=>cases hr with | bG _ _ h=>cases h; exact one _ (.bG _ _ .vO) rfl rfl
 case ref=>obtain ⟨_,_,_,_,_,_,rfl,_⟩:=hr.zT; exact one _ hr rfl rfl
 case sl=>obtain ⟨_,_,rfl⟩ | ⟨_,_,_,_,_,_,_,rfl,_⟩:=hr.zu <;> exact one _ hr rfl rfl
 case iface=>obtain ⟨_,rfl,_⟩:=hr.eG; exact one _ hr rfl rfl
 case func=>obtain ⟨_,_,rfl,_⟩:=hr.Ju; exact one _ hr rfl rfl
 case loc=>obtain ⟨_,rfl⟩:=hr.rP; exact one _ hr rfl rfl
 case aG=>obtain ⟨_,_,_,rfl,_⟩:=hr.wY; exact one _ hr rfl rfl
 case lmap=>obtain ⟨_,rfl⟩:=hr.PV; exact one _ hr rfl rfl
 case nZ=>obtain ⟨_,_,_,rfl,_⟩:=hr.ace; exact one _ hr rfl rfl
 case raw=>have := hr.alM; subst this; exact one _ hr rfl rfl
theorem aeC {c:Ctx} {m:Mem} (hi:Inv c m) {d:D} {v:Value} (hr:Rep c d v) {cells:List D} {off:Nat} (h:U2 m d=some (cells,off)) :
  ∃ blk st cs T fr,v = .pointer (some ⟨blk,st+off,none⟩)∧c.w.heap[blk]?=some (.cells cs T fr) ∧
    ∀ (j:Nat) (d':D),cells[j]?=some d'→∃ v',cs[st+j]?=some v'∧Rep c d' v'∧v'.oneCell'=true:=by
 cases d <;> simp [U2] at h
 case loc b o =>
  obtain ⟨hL,rfl⟩:=hr.rP
  split at h <;> simp at h <;> obtain ⟨rfl,rfl⟩:=h
  ·rename_i hm
   obtain ⟨_,_,cs,T,hb,_,hc⟩:=hi.live _ _ hm
   exact ⟨_,_,cs,T,_,rfl,hb,hc⟩
  ·rename_i hm
   obtain ⟨_,_,cs,T,fr,hb,hc⟩:=hi.fH _ _ hm
   refine ⟨_,_,cs,T,_,rfl,hb,fun j d' hd=>?_⟩
   obtain ⟨v',h1,h2,h3⟩:=hc j d' hd
   exact ⟨v',h1,.bG _ _ h2,h3⟩
 case ref cs' o =>
  obtain ⟨rfl,rfl⟩:=h
  obtain ⟨blk,st,cs,T,fr,g,rfl,hS,hb,hg,hf⟩:=hr.zT
  refine ⟨blk,st,cs,T,fr,rfl,hb,fun j d' hd=>?_⟩
  have hj:j<_:=(List.getElem?_eq_some_iff.1 hd).1
  exact ⟨g j,(hg j hj).1,.bG _ _ (hf j d' hd),(hg j hj).2⟩
theorem alT {c:Ctx} {m:Mem} (hi:Inv c m) {d:D} {v:Value} (hr:Rep c d v) {cells:List D} {esz off len:Nat} (h:slc m esz d=some (cells,off,len)) :
  (v = .slice none 0 0∧cells=[]∧off=0∧len=0) ∨
  ∃ a cap blk st cs T fr,v = .slice (some a) len cap∧len≤cap∧(cap=0∨a=⟨blk,st+off,none⟩)∧c.w.heap[blk]?=some (.cells cs T fr) ∧
    ∀ (j:Nat) (d':D),cells[j]?=some d'→∃ v',cs[st+j]?=some v'∧Rep c d' v'∧v'.oneCell'=true:=by
 cases d <;> simp [slc] at h
 case bJ =>
  obtain ⟨rfl,rfl,rfl⟩:=h
  exact .inl ⟨hr.nG,rfl,rfl,rfl⟩
 case sl len' cs' =>
  obtain ⟨rfl,rfl,rfl⟩:=h
  obtain ⟨rfl,rfl,rfl⟩ | ⟨blk,st,cap,cs,T,fr,g,rfl,hlen,hS,hb,hg,hf⟩:=hr.zu
  ·exact .inl ⟨rfl,rfl,rfl,rfl⟩
  refine .inr ⟨_,cap,blk,st,cs,T,fr,rfl,hlen,.inr rfl,hb,fun j d' hd=>?_⟩
  have hj:j<_:=(List.getElem?_eq_some_iff.1 hd).1
  exact ⟨g j,(hg j hj).1,.bG _ _ (hf j d' hd),(hg j hj).2⟩
 case aG b o len' e =>
  obtain ⟨hL,cap,a,rfl,hlen,hab,ha⟩:=hr.wY
  cases he:Nat.beq e esz <;> simp [he] at h
  split at h <;> simp at h <;> obtain ⟨rfl,rfl,rfl⟩:=h
  ·rename_i hm
   obtain ⟨_,_,cs,T,hb,_,hc⟩:=hi.live _ _ hm
   exact .inr ⟨a,cap,_,_,cs,T,_,rfl,hlen,ha.imp id (·.1),hb,hc⟩
  ·rename_i hm
   obtain ⟨_,_,cs,T,fr,hb,hc⟩:=hi.fH _ _ hm
   refine .inr ⟨a,cap,_,_,cs,T,_,rfl,hlen,ha.imp id (·.1),hb,fun j d' hd=>?_⟩
   obtain ⟨v',h1,h2,h3⟩:=hc j d' hd
   exact ⟨v',h1,.bG _ _ h2,h3⟩
theorem y5 {cells ds:List D} {off n:Nat} (h:kZ cells off n=some ds):off+n≤cells.length∧ds.length=n∧∀ j,j<n→ds[j]?=cells[off+j]?:=by
 unfold kZ at h
 split at h <;> simp at h
 rename_i hle
 subst h
 refine ⟨hle,by simp; omega,fun j hj=>?_⟩
 rw [List.getElem?_take_of_lt hj,List.getElem?_drop]
theorem qp {c:Ctx} {w:World} {blk o n:Nat} {ds:List D} {cs:Array Value} {T:TypeId} {fr:Nat×Nat} (hb:w.heap[blk]?=some (.cells cs T fr))
  (hl:ds.length=n) (hd:∀ (j:Nat) (d':D),ds[j]?=some d'→∃ v',cs[o+j]?=some v'∧Rep c d' v'∧v'.oneCell'=true) :
  ∃ vs:List Value,(loadCells ⟨blk,o,none⟩ n).run P w = .ok vs.toArray w∧vs.length=n∧(∀ j,j<n→vs[j]?=cs[o+j]?) ∧
    (∀ (j:Nat) (d':D),ds[j]?=some d'→∃ v',vs[j]?=some v'∧Rep c d' v'∧v'.oneCell'=true):=by
 have hsome:∀ j,j<n→∃ v',cs[o+j]?=some v':=fun j hj=>by
  obtain ⟨v',h,_⟩:=hd j ds[j] (List.getElem?_eq_getElem (by omega))
  exact ⟨v',h⟩
 refine ⟨(List.range n).map fun j=>(cs[o+j]?).getD undef,?_,by simp,?_,?_⟩
 ·apply run_loadCells
  intro j hj
  obtain ⟨v',hv⟩:=hsome j hj
  rw [Addr.add_lit]
  simp [World.cell?,hb,hv]
 ·intro j hj
  obtain ⟨v',hv⟩:=hsome j hj
  simp [hj,hv]
 ·intro j d' hdj
  obtain ⟨v',h1,h2,h3⟩:=hd j d' hdj
  have hj:j<n:=by rw [← hl]; exact (List.getElem?_eq_some_iff.1 hdj).1
  exact ⟨v',by simp [hj,h1],h2,h3⟩
end
end Go.Ev
end
section
namespace Go.Ev
section
variable {P:Program}
structure Asked (P:Program) (k:K) (o:Oper) (a:Act) (c:Ctx) (m:Mem) (ds:List D):Prop where
 chk:∃ ys,aT P k o.op=some ys∧bU c ds (ys.map a.eval)
 inv:Inv c m
theorem bU.zero {c:Ctx} {vs:List Value} (h:bU c [] vs):vs=[]:=by cases h; rfl
theorem bU.one {c:Ctx} {d:D} {vs:List Value} (h:bU c [d] vs):∃ v,vs=[v]∧Rep c d v:=by
 cases h with | cons h1 h2=>cases h2; exact ⟨_,rfl,h1⟩
theorem bU.two {c:Ctx} {d e:D} {vs:List Value} (h:bU c [d,e] vs):∃ v u,vs=[v,u]∧Rep c d v∧Rep c e u:=by
 cases h with | cons h1 h2=>obtain ⟨u,rfl,hu⟩:=h2.one; exact ⟨_,u,rfl,h1,hu⟩
theorem bU.three {c:Ctx} {d e f:D} {vs:List Value} (h:bU c [d,e,f] vs):∃ v u x,vs=[v,u,x]∧Rep c d v∧Rep c e u∧Rep c f x:=by
 cases h with | cons h1 h2=>obtain ⟨u,x,rfl,hu,hx⟩:=h2.two; exact ⟨_,u,x,rfl,h1,hu,hx⟩
section
variable {op:Op} {ys:List Operand}
theorem asj (h:aT P .mov op=some ys):∃ x,(op = .move x∨op = .assign x)∧ys=[x]:=by
 simp only [aT] at h; split at h <;> simp at h
 ·exact ⟨_,.inl rfl,h.symm⟩
 ·exact ⟨_,.inr rfl,h.symm⟩
theorem apV (h:aT P .pick op=some ys):∃ x y z,op = .pick x y z∧ys=[x,y,z]:=by
 simp only [aT] at h; split at h <;> simp at h; exact ⟨_,_,_,rfl,h.symm⟩
theorem anZ (h:aT P .WL op=some ys):∃ x,op = .nilCheck x∧ys=[x]:=by
 simp only [aT] at h; split at h <;> simp at h; exact ⟨_,rfl,h.symm⟩
theorem apH {b:BinOp} (h:aT P (.pK b) op=some ys):∃ t x y u,op = .binOp b t x y u∧ys=[x,y]∧b ≠ .shl∧b ≠ .shr:=by
 simp only [aT] at h; split at h <;> simp at h; obtain ⟨⟨rfl,h1,h2⟩,h⟩:=h; exact ⟨_,_,_,_,rfl,h.symm,h1,h2⟩
theorem auD {l:Bool} (h:aT P (.sh l) op=some ys):∃ t x y u,op = .binOp (if l then .shl else .shr) t x y u∧ys=[x,y]:=by
 simp only [aT] at h; split at h <;> simp at h; obtain ⟨rfl,h⟩:=h; exact ⟨_,_,_,_,rfl,h.symm⟩
theorem apI {b:BinOp} (h:aT P (.Ja b) op=some ys):∃ t x y u,op = .binOp b t x y u∧ys=[x,y]:=by
 simp only [aT] at h; split at h <;> simp at h; obtain ⟨rfl,h⟩:=h; exact ⟨_,_,_,_,rfl,h.symm⟩
theorem ar' {n:Bool} (h:aT P (.eqB n) op=some ys):∃ t x y u,op = .binOp (if n then .neq else .eql) t x y u∧ys=[x,y]∧P.underlying t=some .bool:=by
 simp only [aT] at h; split at h <;> simp at h; obtain ⟨⟨rfl,h1⟩,h⟩:=h
 refine ⟨_,_,_,_,rfl,h.symm,?_⟩
 split at h1 <;> simp_all
theorem asc {n:Bool} (h:aT P (.eqP n) op=some ys):∃ t x y u e,op = .binOp (if n then .neq else .eql) t x y u∧ys=[x,y]∧P.underlying t=some (.pointer e):=by
 simp only [aT] at h; split at h <;> simp at h; obtain ⟨⟨rfl,h1⟩,h⟩:=h
 split at h1 <;> simp at h1
 exact ⟨_,_,_,_,_,rfl,h.symm,by assumption⟩
theorem asb {n cc:Bool} (h:aT P (.eqN n cc) op=some ys):∃ t x y u ms,op = .binOp (if n then .neq else .eql) t x y u∧ys=[x,y]∧P.underlying t=some (.interface ms)∧(cc=false∨isK x=true∨isK y=true):=by
 simp only [aT] at h; split at h <;> simp at h; obtain ⟨⟨rfl,h1,h2⟩,h⟩:=h
 split at h1 <;> simp at h1
 exact ⟨_,_,_,_,_,rfl,h.symm,by assumption,h2⟩
theorem asl (h:aT P .neg op=some ys):∃ t x,op = .unOp .neg t x∧ys=[x]:=by
 simp only [aT] at h; split at h <;> simp at h; exact ⟨_,_,rfl,h.symm⟩
theorem ash (h:aT P .inv op=some ys):∃ t x,op = .unOp .xor t x∧ys=[x]:=by
 simp only [aT] at h; split at h <;> simp at h; exact ⟨_,_,rfl,h.symm⟩
theorem asn (h:aT P .not op=some ys):∃ t x,op = .unOp .not t x∧ys=[x]:=by
 simp only [aT] at h; split at h <;> simp at h; exact ⟨_,_,rfl,h.symm⟩
theorem apS {t:Nat} (h:aT P (.acg t) op=some ys):∃ x d,op = .makeInterface t x∧ys=[x]∧P.underlying t=some d∧∀ ms,d ≠ .interface ms:=by
 simp only [aT] at h; split at h <;> simp at h; obtain ⟨⟨rfl,h1,h2⟩,h⟩:=h
 obtain ⟨d,hd⟩:=Option.isSome_iff_exists.1 h1
 refine ⟨_,d,rfl,h.symm,hd,fun ms e=>?_⟩
 subst e
 rw [hd] at h2
 simp at h2
theorem apR {f:Nat} (h:aT P (.acf f) op=some ys):∃ cap,op = .makeFunc (.func f) #[] cap∧ys=cap.toList:=by
 simp only [aT] at h; split at h <;> simp at h; obtain ⟨⟨rfl,rfl⟩,h⟩:=h; exact ⟨_,rfl,h.symm⟩
theorem asf {i:Nat} (h:aT P (.ext i) op=some ys):∃ x,op = .extract x i∧ys=[x]:=by
 simp only [aT] at h; split at h <;> simp at h; obtain ⟨rfl,h⟩:=h; exact ⟨_,rfl,h.symm⟩
theorem apK {k:IntKind} (h:aT P (.conv k) op=some ys):∃ s d x u,op = .convert s d x∧ys=[x]∧P.underlying s=some u∧P.underlying d=some (.int k):=by
 simp only [aT] at h; split at h <;> simp at h; obtain ⟨⟨h1,h2⟩,h⟩:=h
 split at h <;> simp at h
 obtain ⟨rfl,h⟩:=h
 obtain ⟨u,hu⟩:=Option.isSome_iff_exists.1 h1
 exact ⟨_,_,_,u,rfl,h.symm,hu,by assumption⟩
theorem apL {off:Nat} (h:aT P (.abD off) op=some ys):∃ t x f fs fd s,op = .fieldAddr t x f∧ys=[x]∧P.underlying t=some (.struct fs)∧fs[f]?=some fd∧fd.offset=off∧(P.info? fd.type).map (·.size)=some s∧0<s:=by
 simp only [aT] at h; split at h <;> try (simp at h; done)
 split at h <;> try (simp at h; done)
 rw [Option.bind_eq_some_iff] at h
 obtain ⟨fd,h1,h2⟩:=h
 simp at h2
 obtain ⟨⟨h3,h4⟩,h⟩:=h2
 obtain ⟨s,h5,h6⟩:=(Option.any_eq_true_iff_get _ _).1 h4 |> fun ⟨h,h'⟩=>(⟨_,(Option.some_get h).symm,of_decide_eq_true h'⟩:∃ s,lg P fd.type=some s∧0<s)
 exact ⟨_,_,_,_,fd,s,rfl,h.symm,by assumption,h1,h3,h5,h6⟩
end
theorem atM {o:Oper} {a:Act} {c:Ctx} {m m':Mem} {ds:List D} {d:D} (q:Asked P .mov o a c m ds) (h:Zz ds m=some (d,m')):Sound P o a c m d m':=by
 obtain ⟨ys,hc,hr⟩:=q.chk
 unfold Zz at h
 split at h <;> simp at h
 obtain ⟨rfl,rfl⟩:=h
 obtain ⟨x,hop,rfl⟩:=asj hc
 obtain ⟨v,hv,hd⟩:=hr.one
 simp at hv; subst hv
 rcases hop with hop | hop <;> exact Sound.pure q.inv hd (by simp [execOp,hop])
theorem ard {o:Oper} {a:Act} {c:Ctx} {m m':Mem} {ds:List D} {d:D} (q:Asked P .pick o a c m ds) (h:Ol ds m=some (d,m')):Sound P o a c m d m':=by
 obtain ⟨ys,hc,hr⟩:=q.chk
 unfold Ol at h
 split at h <;> simp at h
 obtain ⟨rfl,rfl⟩:=h
 obtain ⟨x,y,z,hop,rfl⟩:=apV hc
 obtain ⟨v,u,x,hv,h1,h2,h3⟩:=hr.three
 simp at hv
 obtain ⟨e1,rfl,rfl⟩:=hv
 have hb:=h1.pO
 subst hb
 rename_i b _ _
 cases b
 ·exact Sound.pure q.inv h3 (by simp [execOp,hop,e1,asBool])
 ·exact Sound.pure q.inv h2 (by simp [execOp,hop,e1,asBool])
theorem ao4 {o:Oper} {a:Act} {c:Ctx} {m m':Mem} {ds:List D} {d:D} (q:Asked P .WL o a c m ds) (h:H_ ds m=some (d,m')):Sound P o a c m d m':=by
 obtain ⟨ys,hc,hr⟩:=q.chk
 unfold H_ at h
 obtain ⟨x,hop,rfl⟩:=anZ hc
 split at h <;> simp at h <;> obtain ⟨rfl,rfl⟩:=h <;> obtain ⟨v,hv,hd⟩:=hr.one <;> simp at hv
 ·obtain ⟨_,rfl⟩:=hd.rP
  exact Sound.pure q.inv hd (by simp [execOp,hop,hv])
 ·obtain ⟨_,_,_,_,_,_,rfl,_⟩:=hd.zT
  exact Sound.pure q.inv hd (by simp [execOp,hop,hv])
theorem aqX {b:BinOp} {o:Oper} {a:Act} {c:Ctx} {m m':Mem} {ds:List D} {d:D} (q:Asked P (.pK b) o a c m ds) (h:dV b ds m=some (d,m')):Sound P o a c m d m':=by
 obtain ⟨ys,hc,hr⟩:=q.chk
 unfold dV at h
 split at h <;> try (simp at h; done)
 rename_i k x k' y
 obtain ⟨t,ox,oy,u,hop,rfl,hb1,hb2⟩:=apH hc
 obtain ⟨v,u',hv,h1,h2⟩:=hr.two
 simp at hv
 obtain ⟨e1,e2⟩:=hv
 have := h1.bg; subst this
 have := h2.bg; subst this
 cases hk:(k==k') <;> simp [hk] at h
 have hk:k=k':=by simpa using hk
 subst hk
 rw [Option.bind_eq_some_iff] at h
 obtain ⟨d',hd',h⟩:=h
 simp at h
 obtain ⟨rfl,rfl⟩:=h
 have key:∃ v,Rep c d' v∧∀ w,(binOp b t (.int k x) (.int k y)).run P w = .ok v w:=by
  cases b <;> simp [Ev.pK] at hd' hb1 hb2
  all_goals first
   | (subst hd'; exact ⟨_,.bG _ _ (.int _ _),fun w=>by simp [binOp,Op.intArith,Op.intBits]⟩)
   | (subst hd'; exact ⟨_,.bG _ _ (.bool _),fun w=>by simp [binOp,Op.intCmp]⟩)
   | (obtain ⟨h0,rfl⟩:=hd'; exact ⟨_,.bG _ _ (.int _ _),fun w=>by simp [binOp,Op.intDiv,h0]⟩)
 obtain ⟨v,hv,hrun⟩:=key
 refine Sound.pure q.inv hv ?_
 have hg:∀ w,(eqGuard b t ox oy (.int k x) (.int k y)).run P w = .ok () w:=fun w=>by
  cases b <;> simp [eqGuard]
 simp [execOp,hop,e1,e2,hg,hrun]
end
end Go.Ev
end
