/- A part of the proof of priceAll_card, yieldAll_card, priceSum_card, flowAll_card, accrAll_card. -/
import Derived.WalkLawsBesides
import Derived.Deep.AppendSrc
set_option linter.unusedVariables false
set_option linter.unusedSimpArgs false
namespace Go.Ev
inductive D where
 | undef
 | int (k:IntKind) (n:Int)
 | bool (b:Bool)
 | str (s:List UInt8)
 | iy
 | dh
 | bQ
 | BQ
 | ref (cells:List D) (off:Nat)
 | sl (len:Nat) (cells:List D)
 | iface (t:Nat) (d:D)
 | func (f:Nat) (cap:List D)
 | agg (cells:List D)
 | aG (vs:List D)
 | loc (b off:Nat)
 | aO (b off len esz:Nat)
 | lmap (b:Nat)
 | uz (ks:List Int)
 | raw (b o:Nat)
 deriving Inhabited
inductive Slot where
 | free
 | dead
 | live (cells:List D)
 | jc (cells:List D)
 | mp (ks:List Int)
 deriving Inhabited
abbrev Mem:=List Slot
structure Ctx where
 L:Nat→Prop
 β:Nat→Nat×Nat
 sz:Nat→Nat
 S:Nat→Prop
 w:World
def Uw (es:Array MapEntry) (ks:List Int):Prop :=
 (∀ e∈es.toList,e.val = .bool true∧∃ k,e.key = .int .i64 k∧k∈ks)∧∀ k∈ks,∃ e∈es.toList,e.key = .int .i64 k
def ah5 (es:Array MapEntry) (clk:Nat) (ks:List Int):Prop:=Uw es ks∧MapKept.Stamped es clk∧es.size≤ks.length
inductive F (S:Nat→Prop) (w:World):D→Value→Prop
 | int (k:IntKind) (n:Int):F S w (.int k n) (.int k n)
 | bool (b:Bool):F S w (.bool b) (.bool b)
 | str (s:List UInt8):F S w (.str s) (.string ⟨s.toArray⟩)
 | iy:F S w .iy (.pointer none)
 | dh:F S w .dh (.slice none 0 0)
 | bQ:F S w .bQ .nilIface
 | BQ:F S w .BQ (.map none)
 | raw (b o:Nat):F S w (.raw b o) (.pointer (some ⟨b,o,none⟩))
 | uz (ks:List Int) (blk:Nat) (es:Array MapEntry) (clk:Nat) (hS:S blk) (hb:w.heap[blk]?=some (.map es clk)) (hm:ah5 es clk ks):F S w (.uz ks) (.map (some blk))
 | ref (cells:List D) (off blk st:Nat) (cs:Array Value) (T:TypeId) (fr:Nat×Nat) (g:Nat→Value) (hS:S blk)
   (hb:w.heap[blk]?=some (.cells cs T fr)) (hg:∀ j:Nat,j<cells.length→cs[st+j]?=some (g j)∧(g j).oneCell'=true)
   (hr:∀ (j:Nat) (d:D),cells[j]?=some d→F S w d (g j)) :
   F S w (.ref cells off) (.pointer (some ⟨blk,st+off,none⟩))
 | sl (len:Nat) (cells:List D) (blk st cap:Nat) (cs:Array Value) (T:TypeId) (fr:Nat×Nat) (g:Nat→Value) (hS:S blk) (hlen:len≤cap)
   (hb:w.heap[blk]?=some (.cells cs T fr)) (hg:∀ j:Nat,j<cells.length→cs[st+j]?=some (g j)∧(g j).oneCell'=true)
   (hr:∀ (j:Nat) (d:D),cells[j]?=some d→F S w d (g j)) :
   F S w (.sl len cells) (.slice (some ⟨blk,st,none⟩) len cap)
 | sl0:F S w (.sl 0 []) (.slice none 0 0)
 | iface (t:Nat) (d:D) (v:Value) (h:F S w d v):F S w (.iface t d) (.iface t v)
 | func (f:Nat) (cap:List D) (vs:Array Value) (g:Nat→Value) (hl:vs.size=cap.length) (hg:∀ j:Nat,j<cap.length→vs[j]?=some (g j))
   (hr:∀ (j:Nat) (d:D),cap[j]?=some d→F S w d (g j)):F S w (.func f cap) (.func (.func f) #[] vs)
 | agg (cells:List D) (vs:Array Value) (g:Nat→Value) (hl:vs.size=cells.length) (hg:∀ j:Nat,j<cells.length→vs[j]?=some (g j)∧(g j).oneCell'=true)
   (hr:∀ (j:Nat) (d:D),cells[j]?=some d→F S w d (g j)):F S w (.agg cells) (.agg vs)
 | aG (ds:List D) (vs:Array Value) (g:Nat→Value) (hl:vs.size=ds.length) (hg:∀ j:Nat,j<ds.length→vs[j]?=some (g j))
   (hr:∀ (j:Nat) (d:D),ds[j]?=some d→F S w d (g j)):F S w (.aG ds) (.tuple vs)
inductive Rep (c:Ctx):D→Value→Prop
 | undef (v:Value):Rep c .undef v
 | b_ (d:D) (v:Value) (h:F c.S c.w d v):Rep c d v
 | iface (t:Nat) (d:D) (v:Value) (h:Rep c d v):Rep c (.iface t d) (.iface t v)
 | func (f:Nat) (cap:List D) (vs:Array Value) (g:Nat→Value) (hl:vs.size=cap.length) (hg:∀ j:Nat,j<cap.length→vs[j]?=some (g j))
   (hr:∀ (j:Nat) (d:D),cap[j]?=some d→Rep c d (g j)):Rep c (.func f cap) (.func (.func f) #[] vs)
 | agg (cells:List D) (vs:Array Value) (g:Nat→Value) (hl:vs.size=cells.length) (hg:∀ j:Nat,j<cells.length→vs[j]?=some (g j)∧(g j).oneCell'=true)
   (hr:∀ (j:Nat) (d:D),cells[j]?=some d→Rep c d (g j)):Rep c (.agg cells) (.agg vs)
 | aG (ds:List D) (vs:Array Value) (g:Nat→Value) (hl:vs.size=ds.length) (hg:∀ j:Nat,j<ds.length→vs[j]?=some (g j))
   (hr:∀ (j:Nat) (d:D),ds[j]?=some d→Rep c d (g j)):Rep c (.aG ds) (.tuple vs)
 | loc (b off:Nat) (hb:c.L b):Rep c (.loc b off) (.pointer (some ⟨(c.β b).1,(c.β b).2+off,none⟩))
 | lmap (b:Nat) (hb:c.L b):Rep c (.lmap b) (.map (some (c.β b).1))
 | aO (b off len esz cap:Nat) (a:Addr) (hb:c.L b) (hlen:len≤cap) (hab:a.block=(c.β b).1∧a.spot=none)
   (ha:cap=0∨(a=⟨(c.β b).1,(c.β b).2+off,none⟩∧(c.β b).2+off+cap*esz≤c.sz b)):Rep c (.aO b off len esz) (.slice (some a) len cap)
structure Ext (c c':Ctx):Prop where
 L:∀ b,c.L b→c'.L b
 β:∀ b,c.L b→c'.β b=c.β b
 sz:∀ b,c.L b→c'.sz b=c.sz b
 S:∀ b,c.S b→c'.S b
 heap:∀ b,c.S b→c'.w.heap[b]?=c.w.heap[b]?
theorem Ext.refl (c:Ctx):Ext c c:=⟨fun _ h=>h,fun _ _=>rfl,fun _ _=>rfl,fun _ h=>h,fun _ _=>rfl⟩
theorem Ext.trans {c c' c'':Ctx} (h:Ext c c') (h':Ext c' c''):Ext c c'' :=
 ⟨fun b hb=>h'.L b (h.L b hb),fun b hb=>by rw [h'.β b (h.L b hb),h.β b hb],fun b hb=>by rw [h'.sz b (h.L b hb),h.sz b hb],fun b hb=>h'.S b (h.S b hb),
  fun b hb=>by rw [h'.heap b (h.S b hb),h.heap b hb]⟩
theorem F.mono {S S':Nat→Prop} {w w':World} (h:∀ b,S b→S' b) (hh:∀ b,S b→w'.heap[b]?=w.heap[b]?) {d:D} {v:Value} (hr:F S w d v):F S' w' d v:=by
 induction hr with
 | int k n=>exact .int k n
 | bool b=>exact .bool b
 | str s=>exact .str s
 | iy=>exact .iy
 | dh=>exact .dh
 | bQ=>exact .bQ
 | BQ=>exact .BQ
 | raw b o=>exact .raw b o
 | uz ks blk es clk hS hb hm=>exact .uz ks blk es clk (h _ hS) (by rw [hh _ hS]; exact hb) hm
 | ref cells off blk st cs T fr g hS hb hg hr ih=>exact .ref cells off blk st cs T fr g (h _ hS) (by rw [hh _ hS]; exact hb) hg ih
 | sl len cells blk st cap cs T fr g hS hlen hb hg hr ih=>exact .sl len cells blk st cap cs T fr g (h _ hS) hlen (by rw [hh _ hS]; exact hb) hg ih
 | sl0=>exact .sl0
 | iface t d v _ ih=>exact .iface t d v ih
 | func f cap vs g hl hg hr ih=>exact .func f cap vs g hl hg ih
 | agg cells vs g hl hg hr ih=>exact .agg cells vs g hl hg ih
 | aG ds vs g hl hg hr ih=>exact .aG ds vs g hl hg ih
theorem Rep.mono {c c':Ctx} (h:Ext c c') {d:D} {v:Value} (hr:Rep c d v):Rep c' d v:=by
 induction hr with
 | undef v=>exact .undef v
 | b_ d v hf=>exact .b_ d v (hf.mono h.S h.heap)
 | iface t d v _ ih=>exact .iface t d v ih
 | func f cap vs g hl hg hr ih=>exact .func f cap vs g hl hg ih
 | agg cells vs g hl hg hr ih=>exact .agg cells vs g hl hg ih
 | aG ds vs g hl hg hr ih=>exact .aG ds vs g hl hg ih
 | loc b off hb=>rw [← h.β b hb]; exact .loc b off (h.L b hb)
 | lmap b hb=>rw [← h.β b hb]; exact .lmap b (h.L b hb)
 | aO b off len esz cap a hb hlen hab ha=>exact .aO b off len esz cap a (h.L b hb) hlen (by rw [h.β b hb]; exact hab) (by rw [h.β b hb,h.sz b hb]; exact ha)
def acI (c:Ctx) (i:Nat) (cells:List D) (cs:Array Value):Prop :=
 ∀ (j:Nat) (d:D),cells[j]?=some d→∃ v,cs[(c.β i).2+j]?=some v∧Rep c d v∧v.oneCell'=true
def acJ (c:Ctx) (i:Nat) (cells:List D) (cs:Array Value):Prop :=
 ∀ (j:Nat) (d:D),cells[j]?=some d→∃ v,cs[(c.β i).2+j]?=some v∧F c.S c.w d v∧v.oneCell'=true
structure Inv (c:Ctx) (m:Mem):Prop where
 given:∀ i,c.L i→∃ s,m[i]?=some s∧s ≠ .free
 lt:∀ b,c.S b→b<c.w.heap.size
 live:∀ (i:Nat) (cells:List D),m[i]?=some (.live cells)→c.L i∧¬ c.S (c.β i).1∧∃ cs T,c.w.heap[(c.β i).1]?=some (.cells cs T (0,0))∧cs.size=c.sz i∧acI c i cells cs
 jc:∀ (i:Nat) (cells:List D),m[i]?=some (.jc cells)→c.L i∧c.S (c.β i).1∧∃ cs T fr,c.w.heap[(c.β i).1]?=some (.cells cs T fr)∧acJ c i cells cs
 inj:∀ (i j:Nat) (ci cj:List D),m[i]?=some (.live ci)→m[j]?=some (.live cj)→(c.β i).1=(c.β j).1→i=j
 maps:∀ (i:Nat) (ks:List Int),m[i]?=some (.mp ks)→c.L i∧¬ c.S (c.β i).1∧∃ es clk,c.w.heap[(c.β i).1]?=some (.map es clk)∧ah5 es clk ks
 OH:∀ (i j:Nat) (ki kj:List Int),m[i]?=some (.mp ki)→m[j]?=some (.mp kj)→(c.β i).1=(c.β j).1→i=j
def aFg (c:Ctx) (m:Mem) (b:Nat):Prop:=∃ (i:Nat) (cells:List D),m[i]?=some (.live cells)∧(c.β i).1=b
def aFh (c:Ctx) (m:Mem) (b:Nat):Prop:=∃ (i:Nat) (ks:List Int),m[i]?=some (.mp ks)∧(c.β i).1=b
def Nu (c:Ctx) (m:Mem) (b:Nat):Prop:=aFg c m b∨aFh c m b
def Out (w w':World):Prop:=w'.os=w.os∧w'.output=w.output
theorem Out.refl (w:World):Out w w:=⟨rfl,rfl⟩
theorem Out.trans {a b c:World} (h:Out a b) (h':Out b c):Out a c:=⟨h'.1.trans h.1,h'.2.trans h.2⟩
structure Step (c:Ctx) (m:Mem) (c':Ctx) (m':Mem):Prop where
 ext:Ext c c'
 size:c.w.heap.size≤c'.w.heap.size
 frame:∀ b,b<c.w.heap.size→¬ Nu c m b→c'.w.heap[b]?=c.w.heap[b]?
 aho:∀ b,Nu c' m' b→c.w.heap.size≤b∨Nu c m b
 b_:∀ b,c'.S b→c.S b∨c.w.heap.size≤b∨Nu c m b
 out:Out c.w c'.w
theorem Step.refl (c:Ctx) (m:Mem):Step c m c m:=⟨.refl c,Nat.le_refl _,fun _ _ _=>rfl,fun _ h => .inr h,fun _ h => .inl h,.refl _⟩
theorem Step.trans {c c' c'':Ctx} {m m' m'':Mem} (h:Step c m c' m') (h':Step c' m' c'' m''):Step c m c'' m'' where
 ext:=h.ext.trans h'.ext
 size:=Nat.le_trans h.size h'.size
 frame b hb hm:=by
  rw [h'.frame b (Nat.lt_of_lt_of_le hb h.size) (fun hm'=>(h.aho b hm').elim (fun hl=>absurd hb (by omega)) hm),h.frame b hb hm]
 aho b hb:=(h'.aho b hb).elim (fun hl => .inl (Nat.le_trans h.size hl)) (h.aho b)
 b_ b hb:=(h'.b_ b hb).elim (h.b_ b) fun hb=>hb.elim (fun hl => .inr (.inl (Nat.le_trans h.size hl))) fun hm=>(h.aho b hm).elim (fun hl => .inr (.inl hl)) fun hm => .inr (.inr hm)
 out:=h.out.trans h'.out
theorem Step.world {c:Ctx} {m:Mem} (w':World) (hs:c.w.heap.size≤w'.heap.size) (hf:∀ b,b<c.w.heap.size→w'.heap[b]?=c.w.heap[b]?) (ho:Out c.w w') (hi:Inv c m) :
  Step c m { c with w:=w' } m where
 ext:=⟨fun _ h=>h,fun _ _=>rfl,fun _ _=>rfl,fun _ h=>h,fun b hb=>hf b (hi.lt b hb)⟩
 size:=hs
 frame b hb _:=hf b hb
 aho b h := .inr h
 b_ b h := .inl h
 out:=ho
theorem lt_of_heap {w:World} {b:Nat} {o:Obj} (h:w.heap[b]?=some o):b<w.heap.size:=(Array.getElem?_eq_some_iff.1 h).1
theorem acI.mono {c c':Ctx} {i:Nat} {cells:List D} {cs:Array Value} (h:Ext c c') (hL:c.L i) (hc:acI c i cells cs):acI c' i cells cs:=by
 intro j d hd
 obtain ⟨v,hv,hr,ho⟩:=hc j d hd
 exact ⟨v,by rw [h.β i hL]; exact hv,hr.mono h,ho⟩
theorem acJ.mono {c c':Ctx} {i:Nat} {cells:List D} {cs:Array Value} (h:Ext c c') (hL:c.L i) (hc:acJ c i cells cs):acJ c' i cells cs:=by
 intro j d hd
 obtain ⟨v,hv,hr,ho⟩:=hc j d hd
 exact ⟨v,by rw [h.β i hL]; exact hv,hr.mono h.S h.heap,ho⟩
theorem an3 {c:Ctx} {m:Mem} (w':World) (hf:∀ b,b<c.w.heap.size→w'.heap[b]?=c.w.heap[b]?) (hi:Inv c m):Ext c { c with w:=w' } :=
 ⟨fun _ h=>h,fun _ _=>rfl,fun _ _=>rfl,fun _ h=>h,fun b hb=>hf b (hi.lt b hb)⟩
theorem Inv.world {c:Ctx} {m:Mem} (w':World) (hs:c.w.heap.size≤w'.heap.size) (hf:∀ b,b<c.w.heap.size→w'.heap[b]?=c.w.heap[b]?) (hi:Inv c m) :
  Inv { c with w:=w' } m where
 given:=hi.given
 lt b hb:=Nat.lt_of_lt_of_le (hi.lt b hb) hs
 live i cells h:=by
  obtain ⟨hL,hS,cs,T,hb,hz,hc⟩:=hi.live i cells h
  exact ⟨hL,hS,cs,T,by rw [hf _ (lt_of_heap hb)]; exact hb,hz,hc.mono (an3 w' hf hi) hL⟩
 jc i cells h:=by
  obtain ⟨hL,hS,cs,T,fr,hb,hc⟩:=hi.jc i cells h
  exact ⟨hL,hS,cs,T,fr,by rw [hf _ (lt_of_heap hb)]; exact hb,hc.mono (an3 w' hf hi) hL⟩
 inj:=hi.inj
 maps i ks h:=by
  obtain ⟨hL,hS,es,clk,hb,hm⟩:=hi.maps i ks h
  exact ⟨hL,hS,es,clk,by rw [hf _ (lt_of_heap hb)]; exact hb,hm⟩
 OH:=hi.OH
theorem Inv.more {c:Ctx} {m:Mem} (hi:Inv c m) (S':Nat→Prop) (w':World) (hS:∀ b,c.S b→S' b) (hS':∀ b,S' b→c.S b∨c.w.heap.size≤b) (hlt:∀ b,S' b→b<w'.heap.size) (hs:c.w.heap.size≤w'.heap.size)
  (hold:∀ b,b<c.w.heap.size→w'.heap[b]?=c.w.heap[b]?) (ho:Out c.w w'):Inv { c with S:=S',w:=w' } m∧Step c m { c with S:=S',w:=w' } m:=by
 have hext:Ext c { c with S:=S',w:=w' }:=⟨fun _ h=>h,fun _ _=>rfl,fun _ _=>rfl,hS,fun b hb=>hold b (hi.lt b hb)⟩
 refine ⟨⟨hi.given,hlt,?_,?_,hi.inj,?_,hi.OH⟩,⟨hext,hs,fun b hb _=>hold b hb,fun b hb => .inr hb,fun b hb=>(hS' b hb).imp id .inl,ho⟩⟩
 ·intro i cells h
  obtain ⟨hL,hnS,cs,T,hb,hz,hc⟩:=hi.live i cells h
  have hlt':=lt_of_heap hb
  exact ⟨hL,fun h=>(hS' _ h).elim hnS (fun h=>by have h:c.w.heap.size≤(c.β i).1:=h; omega),cs,T,by show w'.heap[_]?=_; rw [hold _ hlt']; exact hb,hz,hc.mono hext hL⟩
 ·intro i cells h
  obtain ⟨hL,hiS,cs,T,fr,hb,hc⟩:=hi.jc i cells h
  exact ⟨hL,hS _ hiS,cs,T,fr,by show w'.heap[_]?=_; rw [hold _ (lt_of_heap hb)]; exact hb,hc.mono hext hL⟩
 ·intro i ks h
  obtain ⟨hL,hnS,es,clk,hb,hm⟩:=hi.maps i ks h
  have hlt':=lt_of_heap hb
  exact ⟨hL,fun h=>(hS' _ h).elim hnS (fun h=>by have h:c.w.heap.size≤(c.β i).1:=h; omega),es,clk,by show w'.heap[_]?=_; rw [hold _ hlt']; exact hb,hm⟩
theorem Inv.grow {c:Ctx} {m:Mem} (n:Nat) (hi:Inv c m):Inv c (m++List.replicate n .free):=by
 have hold:∀ (i:Nat) (s:Slot),s ≠ .free→(m++List.replicate n .free)[i]?=some s→m[i]?=some s:=by
  intro i s hs h
  rw [List.getElem?_append] at h
  split at h
  ·exact h
  ·rw [List.getElem?_replicate] at h
   split at h
   ·exact absurd (Option.some.inj h).symm hs
   ·cases h
 refine ⟨fun i hL=>?_,hi.lt,fun i cells h=>hi.live i cells (hold i _ (by simp) h),fun i cells h=>hi.jc i cells (hold i _ (by simp) h),
  fun i j ci cj h1 h2=>hi.inj i j ci cj (hold i _ (by simp) h1) (hold j _ (by simp) h2),fun i ks h=>hi.maps i ks (hold i _ (by simp) h),
  fun i j ci cj h1 h2=>hi.OH i j ci cj (hold i _ (by simp) h1) (hold j _ (by simp) h2)⟩
 obtain ⟨s,hs,hf⟩:=hi.given i hL
 exact ⟨s,by rw [List.getElem?_append_left (List.getElem?_eq_some_iff.1 hs).1]; exact hs,hf⟩
theorem Nu.grow {c:Ctx} {m:Mem} {n b:Nat} (h:Nu c (m++List.replicate n .free) b):Nu c m b:=by
 rcases h with ⟨i,cells,hi,hb⟩ | ⟨i,cells,hi,hb⟩
 all_goals
  rw [List.getElem?_append] at hi
  split at hi
 ·exact .inl ⟨i,cells,hi,hb⟩
 ·rw [List.getElem?_replicate] at hi
  split at hi <;> simp at hi
 ·exact .inr ⟨i,cells,hi,hb⟩
 ·rw [List.getElem?_replicate] at hi
  split at hi <;> simp at hi
theorem Step.grow (c:Ctx) (m:Mem) (n:Nat):Step c m c (m++List.replicate n .free) :=
 ⟨.refl c,Nat.le_refl _,fun _ _ _=>rfl,fun _ h => .inr h.grow,fun _ h => .inl h,.refl _⟩
theorem Inv.fresh {c:Ctx} {m:Mem} {i:Nat} (hi:Inv c m) (hm:m[i]?=some .free) (cells:List D) (cs:Array Value) (T:TypeId) (w':World)
  (hs:w'.heap.size=c.w.heap.size+1) (hf:∀ b,b<c.w.heap.size→w'.heap[b]?=c.w.heap[b]?) (ho:Out c.w w') (hb:w'.heap[c.w.heap.size]?=some (.cells cs T (0,0)))
  (hc:∀ (j:Nat) (d:D),cells[j]?=some d→∃ v,cs[j]?=some v∧Rep c d v∧v.oneCell'=true) :
  ∃ c',c'.w=w'∧Inv c' (m.set i (.live cells))∧Step c m c' (m.set i (.live cells))∧c'.L i∧c'.β i=(c.w.heap.size,0)∧c'.sz i=cs.size:=by
 have hnL:¬ c.L i:=fun hL=>by
  obtain ⟨s,h1,h2⟩:=hi.given i hL
  rw [hm] at h1
  exact h2 (Option.some.inj h1).symm
 have hil:i<m.length:=(List.getElem?_eq_some_iff.1 hm).1
 let c':Ctx:={ L:=fun j=>j=i∨c.L j,β:=fun j=>if j=i then (c.w.heap.size,0) else c.β j,sz:=fun j=>if j=i then cs.size else c.sz j,S:=c.S,w:=w' }
 have hβi:c'.β i=(c.w.heap.size,0):=by simp [c']
 have hβ:∀ j,j≠i→c'.β j=c.β j:=fun j hj=>by simp [c',hj]
 have hzi:c'.sz i=cs.size:=by simp [c']
 have hz:∀ j,j≠i→c'.sz j=c.sz j:=fun j hj=>by simp [c',hj]
 have hext:Ext c c':=⟨fun b hb => .inr hb,fun b hb=>hβ b (fun e=>hnL (e ▸ hb)),fun b hb=>hz b (fun e=>hnL (e ▸ hb)),fun _ h=>h,fun b hb=>hf b (hi.lt b hb)⟩
 have hset:∀ (j:Nat) (s:Slot),(m.set i (.live cells))[j]?=some s→(j=i∧s = .live cells)∨(j≠i∧m[j]?=some s):=by
  intro j s h
  rw [List.getElem?_set] at h
  split at h
  ·rename_i e
   subst e
   simp [hil] at h
   exact .inl ⟨rfl,h.symm⟩
  ·rename_i e
   exact .inr ⟨fun e'=>e e'.symm,h⟩
 refine ⟨c',rfl,⟨?_,?_,?_,?_,?_,?_,?_⟩,⟨hext,by simp [c',hs],fun b hb _=>hf b hb,?_,fun b hb => .inl hb,ho⟩,.inl rfl,hβi,hzi⟩
 ·intro j hL
  rcases hL with rfl | hL
  ·exact ⟨.live cells,by simp [hil],by simp⟩
  ·obtain ⟨s,h1,h2⟩:=hi.given j hL
   exact ⟨s,by rw [List.getElem?_set_ne (fun e:i=j=>hnL (by rw [e]; exact hL))]; exact h1,h2⟩
 ·intro b hb
  show b<w'.heap.size
  have := hi.lt b hb
  omega
 ·intro j cj h
  rcases hset j _ h with ⟨rfl,e⟩ | ⟨hj,h⟩
  ·cases e
   refine ⟨.inl rfl,?_,cs,T,?_,hzi.symm,?_⟩
   ·rw [hβi]; exact fun hS=>Nat.lt_irrefl _ (hi.lt _ hS)
   ·rw [hβi]; exact hb
   ·intro k d hd
    obtain ⟨v,hv,hr,ho⟩:=hc k d hd
    exact ⟨v,by rw [hβi]; simpa using hv,hr.mono hext,ho⟩
  ·obtain ⟨hL,hS,cs',T',hb',hz',hc'⟩:=hi.live j cj h
   refine ⟨.inr hL,by rw [hβ j hj]; exact hS,cs',T',by rw [hβ j hj]; show w'.heap[_]?=_; rw [hf _ (lt_of_heap hb')]; exact hb',by rw [hz j hj]; exact hz',hc'.mono hext hL⟩
 ·intro j cj h
  rcases hset j _ h with ⟨rfl,e⟩ | ⟨hj,h⟩
  ·cases e
  ·obtain ⟨hL,hS,cs',T',fr,hb',hc'⟩:=hi.jc j cj h
   refine ⟨.inr hL,by rw [hβ j hj]; exact hS,cs',T',fr,by rw [hβ j hj]; show w'.heap[_]?=_; rw [hf _ (lt_of_heap hb')]; exact hb',hc'.mono hext hL⟩
 ·intro j k cj ck h1 h2 he
  rcases hset j _ h1 with ⟨e1,e⟩ | ⟨hj,h3⟩ <;> rcases hset k _ h2 with ⟨e2,e'⟩ | ⟨hk,h4⟩
  ·rw [e1,e2]
  ·exfalso
   obtain ⟨_,_,cs',T',hb',_,_⟩:=hi.live k ck h4
   rw [e1,hβi,hβ k hk] at he
   have := lt_of_heap hb'
   simp at he
   omega
  ·exfalso
   obtain ⟨_,_,cs',T',hb',_,_⟩:=hi.live j cj h3
   rw [e2,hβi,hβ j hj] at he
   have := lt_of_heap hb'
   simp at he
   omega
  ·rw [hβ j hj,hβ k hk] at he
   exact hi.inj j k cj ck h3 h4 he
 ·intro j cj h
  rcases hset j _ h with ⟨rfl,e⟩ | ⟨hj,h⟩
  ·cases e
  ·obtain ⟨hL,hS,es,clk,hb',hm'⟩:=hi.maps j cj h
   refine ⟨.inr hL,by rw [hβ j hj]; exact hS,es,clk,by rw [hβ j hj]; show w'.heap[_]?=_; rw [hf _ (lt_of_heap hb')]; exact hb',hm'⟩
 ·intro j k cj ck h1 h2 he
  rcases hset j _ h1 with ⟨e1,e⟩ | ⟨hj,h3⟩
  ·cases e
  ·rcases hset k _ h2 with ⟨e2,e'⟩ | ⟨hk,h4⟩
   ·cases e'
   ·rw [hβ j hj,hβ k hk] at he
    exact hi.OH j k cj ck h3 h4 he
 ·rintro b (⟨j,cj,h,rfl⟩ | ⟨j,cj,h,rfl⟩)
  ·rcases hset j _ h with ⟨rfl,e⟩ | ⟨hj,h⟩
   ·rw [hβi]; exact .inl (Nat.le_refl _)
   ·rw [hβ j hj]; exact .inr (.inl ⟨j,cj,h,rfl⟩)
  ·rcases hset j _ h with ⟨rfl,e⟩ | ⟨hj,h⟩
   ·rw [hβi]; exact .inl (Nat.le_refl _)
   ·rw [hβ j hj]; exact .inr (.inr ⟨j,cj,h,rfl⟩)
theorem Inv.write {c:Ctx} {m:Mem} {i:Nat} {cells:List D} (hi:Inv c m) (hm:m[i]?=some (.live cells)) (cells':List D) (cs':Array Value) (T:TypeId) (w':World)
  (hs:w'.heap.size=c.w.heap.size) (hf:∀ b,b≠(c.β i).1→w'.heap[b]?=c.w.heap[b]?) (ho:Out c.w w') (hb':w'.heap[(c.β i).1]?=some (.cells cs' T (0,0))) (hz':cs'.size=c.sz i) (hc:acI c i cells' cs') :
  Inv { c with w:=w' } (m.set i (.live cells'))∧Step c m { c with w:=w' } (m.set i (.live cells')):=by
 have hil:i<m.length:=(List.getElem?_eq_some_iff.1 hm).1
 obtain ⟨hL,hS,cs,T0,hb,hz0,hc0⟩:=hi.live i cells hm
 have hSne:∀ b,c.S b→b≠(c.β i).1:=fun b hb e=>hS (e ▸ hb)
 have hext:Ext c { c with w:=w' }:=⟨fun _ h=>h,fun _ _=>rfl,fun _ _=>rfl,fun _ h=>h,fun b hb=>hf b (hSne b hb)⟩
 have hset:∀ (j:Nat) (s:Slot),(m.set i (.live cells'))[j]?=some s→(j=i∧s = .live cells')∨(j≠i∧m[j]?=some s):=by
  intro j s h
  rw [List.getElem?_set] at h
  split at h
  ·rename_i e
   subst e
   simp [hil] at h
   exact .inl ⟨rfl,h.symm⟩
  ·rename_i e
   exact .inr ⟨fun e'=>e e'.symm,h⟩
 refine ⟨⟨?_,?_,?_,?_,?_,?_,?_⟩,⟨hext,by show c.w.heap.size≤w'.heap.size; omega,?_,?_,fun b hb => .inl hb,ho⟩⟩
 ·intro j hLj
  by_cases e:j=i
  ·exact ⟨.live cells',by rw [e]; simp [hil],by simp⟩
  ·obtain ⟨s,h1,h2⟩:=hi.given j hLj
   exact ⟨s,by rw [List.getElem?_set_ne (fun e'=>e e'.symm)]; exact h1,h2⟩
 ·intro b hb
  show b<w'.heap.size
  have := hi.lt b hb
  omega
 ·intro j cj h
  rcases hset j _ h with ⟨e,e'⟩ | ⟨hj,h⟩
  ·cases e'
   rw [e]
   exact ⟨hL,hS,cs',T,hb',hz',hc.mono hext hL⟩
  ·obtain ⟨hLj,hSj,csj,Tj,hbj,hzj,hcj⟩:=hi.live j cj h
   have hne:(c.β j).1≠(c.β i).1:=fun e=>hj (hi.inj j i cj cells h hm e)
   exact ⟨hLj,hSj,csj,Tj,by show w'.heap[_]?=_; rw [hf _ hne]; exact hbj,hzj,hcj.mono hext hLj⟩
 ·intro j cj h
  rcases hset j _ h with ⟨e,e'⟩ | ⟨hj,h⟩
  ·cases e'
  ·obtain ⟨hLj,hSj,csj,Tj,fr,hbj,hcj⟩:=hi.jc j cj h
   exact ⟨hLj,hSj,csj,Tj,fr,by show w'.heap[_]?=_; rw [hf _ (hSne _ hSj)]; exact hbj,hcj.mono hext hLj⟩
 ·intro j k cj ck h1 h2 he
  have h3:∃ c3,m[j]?=some (.live c3):=by
   rcases hset j _ h1 with ⟨e,_⟩ | ⟨_,h⟩
   ·exact ⟨cells,by rw [e]; exact hm⟩
   ·exact ⟨cj,h⟩
  have h4:∃ c4,m[k]?=some (.live c4):=by
   rcases hset k _ h2 with ⟨e,_⟩ | ⟨_,h⟩
   ·exact ⟨cells,by rw [e]; exact hm⟩
   ·exact ⟨ck,h⟩
  exact hi.inj j k _ _ h3.choose_spec h4.choose_spec he
 ·intro j cj h
  rcases hset j _ h with ⟨e,e'⟩ | ⟨hj,h⟩
  ·cases e'
  ·obtain ⟨hLj,hSj,es,clk,hbj,hmj⟩:=hi.maps j cj h
   have hne:(c.β j).1≠(c.β i).1:=fun e=>by rw [e,hb] at hbj; simp at hbj
   exact ⟨hLj,hSj,es,clk,by show w'.heap[_]?=_; rw [hf _ hne]; exact hbj,hmj⟩
 ·intro j k cj ck h1 h2 he
  rcases hset j _ h1 with ⟨e1,e⟩ | ⟨hj,h3⟩
  ·cases e
  ·rcases hset k _ h2 with ⟨e2,e'⟩ | ⟨hk,h4⟩
   ·cases e'
   ·exact hi.OH j k cj ck h3 h4 he
 ·intro b hb hn
  refine hf b (fun e=>hn (.inl ⟨i,cells,hm,e.symm⟩))
 ·rintro b (⟨j,cj,h,rfl⟩ | ⟨j,cj,h,rfl⟩)
  ·rcases hset j _ h with ⟨e,_⟩ | ⟨_,h⟩
   ·exact .inr (.inl ⟨i,cells,hm,by rw [e]⟩)
   ·exact .inr (.inl ⟨j,cj,h,rfl⟩)
  ·rcases hset j _ h with ⟨_,e⟩ | ⟨_,h⟩
   ·cases e
   ·exact .inr (.inr ⟨j,cj,h,rfl⟩)
theorem Inv.kill {c:Ctx} {m:Mem} {i:Nat} {cells:List D} (hi:Inv c m) (hm:m[i]?=some (.live cells)):Inv c (m.set i .dead)∧∀ b,Nu c (m.set i .dead) b→Nu c m b:=by
 have hil:i<m.length:=(List.getElem?_eq_some_iff.1 hm).1
 have hset:∀ (j:Nat) (s:Slot),s ≠ .dead→(m.set i .dead)[j]?=some s→j≠i∧m[j]?=some s:=by
  intro j s hs h
  rw [List.getElem?_set] at h
  split at h
  ·rename_i e
   subst e
   simp [hil] at h
   exact absurd h.symm hs
  ·rename_i e
   exact ⟨fun e'=>e e'.symm,h⟩
 refine ⟨⟨?_,hi.lt,fun j cj h=>hi.live j cj (hset j _ (by simp) h).2,fun j cj h=>hi.jc j cj (hset j _ (by simp) h).2,
  fun j k cj ck h1 h2=>hi.inj j k cj ck (hset j _ (by simp) h1).2 (hset k _ (by simp) h2).2,fun j cj h=>hi.maps j cj (hset j _ (by simp) h).2,
  fun j k cj ck h1 h2=>hi.OH j k cj ck (hset j _ (by simp) h1).2 (hset k _ (by simp) h2).2⟩,fun b h=>h.imp (fun ⟨j,cj,h,e⟩=>⟨j,cj,(hset j _ (by simp) h).2,e⟩) (fun ⟨j,cj,h,e⟩=>⟨j,cj,(hset j _ (by simp) h).2,e⟩)⟩
 intro j hLj
 by_cases e:j=i
 ·exact ⟨.dead,by rw [e]; simp [hil],by simp⟩
 ·obtain ⟨s,h1,h2⟩:=hi.given j hLj
  exact ⟨s,by rw [List.getElem?_set_ne (fun e'=>e e'.symm)]; exact h1,h2⟩
theorem Inv.ap4 {c:Ctx} {m:Mem} {i:Nat} (hi:Inv c m) (hm:m[i]?=some .free) (blk st:Nat) (hS:¬ c.S blk) (hn:¬ Nu c m blk) (cells:List D) (cs:Array Value) (T:TypeId) (w':World)
  (hs:w'.heap.size=c.w.heap.size) (hf:∀ b,b≠blk→w'.heap[b]?=c.w.heap[b]?) (hb:w'.heap[blk]?=some (.cells cs T (0,0)))
  (hc:∀ (j:Nat) (d:D),cells[j]?=some d→∃ v,cs[st+j]?=some v∧Rep c d v∧v.oneCell'=true) :
  ∃ c',c'.w=w'∧Inv c' (m.set i (.live cells))∧Ext c c'∧(∀ b,Nu c' (m.set i (.live cells)) b→b=blk∨Nu c m b)∧c'.S=c.S∧c'.L i∧c'.β i=(blk,st)∧c'.sz i=cs.size:=by
 have hnL:¬ c.L i:=fun hL=>by
  obtain ⟨s,h1,h2⟩:=hi.given i hL
  rw [hm] at h1
  exact h2 (Option.some.inj h1).symm
 have hil:i<m.length:=(List.getElem?_eq_some_iff.1 hm).1
 let c':Ctx:={ L:=fun j=>j=i∨c.L j,β:=fun j=>if j=i then (blk,st) else c.β j,sz:=fun j=>if j=i then cs.size else c.sz j,S:=c.S,w:=w' }
 have hβi:c'.β i=(blk,st):=by simp [c']
 have hβ:∀ j,j≠i→c'.β j=c.β j:=fun j hj=>by simp [c',hj]
 have hzi:c'.sz i=cs.size:=by simp [c']
 have hz:∀ j,j≠i→c'.sz j=c.sz j:=fun j hj=>by simp [c',hj]
 have hSne:∀ b,c.S b→b≠blk:=fun b hb e=>hS (e ▸ hb)
 have hext:Ext c c':=⟨fun b hb => .inr hb,fun b hb=>hβ b (fun e=>hnL (e ▸ hb)),fun b hb=>hz b (fun e=>hnL (e ▸ hb)),fun _ h=>h,fun b hb=>hf b (hSne b hb)⟩
 have hset:∀ (j:Nat) (s:Slot),(m.set i (.live cells))[j]?=some s→(j=i∧s = .live cells)∨(j≠i∧m[j]?=some s):=by
  intro j s h
  rw [List.getElem?_set] at h
  split at h
  ·rename_i e
   subst e
   simp [hil] at h
   exact .inl ⟨rfl,h.symm⟩
  ·rename_i e
   exact .inr ⟨fun e'=>e e'.symm,h⟩
 refine ⟨c',rfl,⟨?_,?_,?_,?_,?_,?_,?_⟩,hext,?_,rfl,.inl rfl,hβi,hzi⟩
 ·intro j hL
  rcases hL with rfl | hL
  ·exact ⟨.live cells,by simp [hil],by simp⟩
  ·obtain ⟨s,h1,h2⟩:=hi.given j hL
   exact ⟨s,by rw [List.getElem?_set_ne (fun e:i=j=>hnL (by rw [e]; exact hL))]; exact h1,h2⟩
 ·intro b hb
  show b<w'.heap.size
  have := hi.lt b hb
  omega
 ·intro j cj h
  rcases hset j _ h with ⟨rfl,e⟩ | ⟨hj,h⟩
  ·cases e
   refine ⟨.inl rfl,by rw [hβi]; exact hS,cs,T,by rw [hβi]; exact hb,hzi.symm,?_⟩
   intro k d hd
   obtain ⟨v,hv,hr,ho⟩:=hc k d hd
   exact ⟨v,by rw [hβi]; exact hv,hr.mono hext,ho⟩
  ·obtain ⟨hL,hSj,cs',T',hb',hz',hc'⟩:=hi.live j cj h
   have hne:(c.β j).1≠blk:=fun e=>hn (.inl ⟨j,cj,h,e⟩)
   exact ⟨.inr hL,by rw [hβ j hj]; exact hSj,cs',T',by rw [hβ j hj]; show w'.heap[_]?=_; rw [hf _ hne]; exact hb',by rw [hz j hj]; exact hz',hc'.mono hext hL⟩
 ·intro j cj h
  rcases hset j _ h with ⟨rfl,e⟩ | ⟨hj,h⟩
  ·cases e
  ·obtain ⟨hL,hSj,cs',T',fr,hb',hc'⟩:=hi.jc j cj h
   exact ⟨.inr hL,by rw [hβ j hj]; exact hSj,cs',T',fr,by rw [hβ j hj]; show w'.heap[_]?=_; rw [hf _ (hSne _ hSj)]; exact hb',hc'.mono hext hL⟩
 ·intro j k cj ck h1 h2 he
  rcases hset j _ h1 with ⟨e1,e⟩ | ⟨hj,h3⟩ <;> rcases hset k _ h2 with ⟨e2,e'⟩ | ⟨hk,h4⟩
  ·rw [e1,e2]
  ·exfalso
   rw [e1,hβi,hβ k hk] at he
   exact hn (.inl ⟨k,ck,h4,he.symm⟩)
  ·exfalso
   rw [e2,hβi,hβ j hj] at he
   exact hn (.inl ⟨j,cj,h3,he⟩)
  ·rw [hβ j hj,hβ k hk] at he
   exact hi.inj j k cj ck h3 h4 he
 ·intro j cj h
  rcases hset j _ h with ⟨rfl,e⟩ | ⟨hj,h⟩
  ·cases e
  ·obtain ⟨hL,hS,es,clk,hb',hm'⟩:=hi.maps j cj h
   have hne:(c.β j).1≠blk:=fun e=>hn (.inr ⟨j,cj,h,e⟩)
   refine ⟨.inr hL,by rw [hβ j hj]; exact hS,es,clk,by rw [hβ j hj]; show w'.heap[_]?=_; rw [hf _ hne]; exact hb',hm'⟩
 ·intro j k cj ck h1 h2 he
  rcases hset j _ h1 with ⟨e1,e⟩ | ⟨hj,h3⟩
  ·cases e
  ·rcases hset k _ h2 with ⟨e2,e'⟩ | ⟨hk,h4⟩
   ·cases e'
   ·rw [hβ j hj,hβ k hk] at he
    exact hi.OH j k cj ck h3 h4 he
 ·rintro b (⟨j,cj,h,rfl⟩ | ⟨j,cj,h,rfl⟩)
  ·rcases hset j _ h with ⟨rfl,e⟩ | ⟨hj,h⟩
   ·rw [hβi]; exact .inl rfl
   ·rw [hβ j hj]; exact .inr (.inl ⟨j,cj,h,rfl⟩)
  ·rcases hset j _ h with ⟨rfl,e⟩ | ⟨hj,h⟩
   ·cases e
   ·rw [hβ j hj]; exact .inr (.inr ⟨j,cj,h,rfl⟩)
theorem Inv.freeze {c:Ctx} {m:Mem} {i:Nat} {cells:List D} (hi:Inv c m) (hm:m[i]?=some (.live cells)) (cells':List D) (cs:Array Value) (T:TypeId)
  (hb:c.w.heap[(c.β i).1]?=some (.cells cs T (0,0))) (hc:acJ c i cells' cs) :
  ∃ c',c'={ c with S:=fun b=>c.S b∨b=(c.β i).1 }∧Inv c' (m.set i (.jc cells'))∧Step c m c' (m.set i (.jc cells')):=by
 have hil:i<m.length:=(List.getElem?_eq_some_iff.1 hm).1
 obtain ⟨hL,hS,cs0,T0,hb0,hz0,hc0⟩:=hi.live i cells hm
 refine ⟨_,rfl,?_⟩
 have hext:Ext c { c with S:=fun b=>c.S b∨b=(c.β i).1 }:=⟨fun _ h=>h,fun _ _=>rfl,fun _ _=>rfl,fun _ h => .inl h,fun b hb=>rfl⟩
 have hset:∀ (j:Nat) (s:Slot),(m.set i (.jc cells'))[j]?=some s→(j=i∧s = .jc cells')∨(j≠i∧m[j]?=some s):=by
  intro j s h
  rw [List.getElem?_set] at h
  split at h
  ·rename_i e
   subst e
   simp [hil] at h
   exact .inl ⟨rfl,h.symm⟩
  ·rename_i e
   exact .inr ⟨fun e'=>e e'.symm,h⟩
 refine ⟨⟨?_,?_,?_,?_,?_,?_,?_⟩,⟨hext,Nat.le_refl _,fun _ _ _=>rfl,?_,?_,.refl _⟩⟩
 ·intro j hLj
  by_cases e:j=i
  ·exact ⟨.jc cells',by rw [e]; simp [hil],by simp⟩
  ·obtain ⟨s,h1,h2⟩:=hi.given j hLj
   exact ⟨s,by rw [List.getElem?_set_ne (fun e'=>e e'.symm)]; exact h1,h2⟩
 ·rintro b (hb' | hb')
  ·exact hi.lt b hb'
  ·rw [hb']; exact lt_of_heap hb
 ·intro j cj h
  rcases hset j _ h with ⟨e,e'⟩ | ⟨hj,h⟩
  ·cases e'
  ·obtain ⟨hLj,hSj,csj,Tj,hbj,hzj,hcj⟩:=hi.live j cj h
   have hne:(c.β j).1≠(c.β i).1:=fun e=>hj (hi.inj j i cj cells h hm e)
   exact ⟨hLj,fun h=>h.elim hSj hne,csj,Tj,hbj,hzj,hcj.mono hext hLj⟩
 ·intro j cj h
  rcases hset j _ h with ⟨e,e'⟩ | ⟨hj,h⟩
  ·cases e'
   rw [e]
   exact ⟨hL,.inr rfl,cs,T,(0,0),hb,hc.mono hext hL⟩
  ·obtain ⟨hLj,hSj,csj,Tj,fr,hbj,hcj⟩:=hi.jc j cj h
   exact ⟨hLj,.inl hSj,csj,Tj,fr,hbj,hcj.mono hext hLj⟩
 ·intro j k cj ck h1 h2 he
  rcases hset j _ h1 with ⟨_,e⟩ | ⟨hj,h3⟩
  ·cases e
  ·rcases hset k _ h2 with ⟨_,e⟩ | ⟨hk,h4⟩
   ·cases e
   ·exact hi.inj j k cj ck h3 h4 he
 ·intro j cj h
  rcases hset j _ h with ⟨_,e⟩ | ⟨_,h⟩
  ·cases e
  ·obtain ⟨hLj,hSj,es,clk,hbj,hmj⟩:=hi.maps j cj h
   have hne:(c.β j).1≠(c.β i).1:=fun e=>by rw [e,hb] at hbj; simp at hbj
   exact ⟨hLj,fun h=>h.elim hSj hne,es,clk,hbj,hmj⟩
 ·intro j k cj ck h1 h2 he
  rcases hset j _ h1 with ⟨_,e⟩ | ⟨hj,h3⟩
  ·cases e
  ·rcases hset k _ h2 with ⟨_,e⟩ | ⟨hk,h4⟩
   ·cases e
   ·exact hi.OH j k cj ck h3 h4 he
 ·rintro b (⟨j,cj,h,rfl⟩ | ⟨j,cj,h,rfl⟩)
  ·rcases hset j _ h with ⟨_,e⟩ | ⟨_,h⟩
   ·cases e
   ·exact .inr (.inl ⟨j,cj,h,rfl⟩)
  ·rcases hset j _ h with ⟨_,e⟩ | ⟨_,h⟩
   ·cases e
   ·exact .inr (.inr ⟨j,cj,h,rfl⟩)
 ·rintro b (hb' | hb')
  ·exact .inl hb'
  ·exact .inr (.inr (.inl ⟨i,cells,hm,hb'.symm⟩))
theorem Inv.aDs {c:Ctx} {m:Mem} {i:Nat} (hi:Inv c m) (hm:m[i]?=some .free) (es:Array MapEntry) (clk:Nat) (ks:List Int) (w':World)
  (hs:w'.heap.size=c.w.heap.size+1) (hf:∀ b,b<c.w.heap.size→w'.heap[b]?=c.w.heap[b]?) (ho:Out c.w w') (hb:w'.heap[c.w.heap.size]?=some (.map es clk)) (hk:ah5 es clk ks) :
  ∃ c',c'.w=w'∧Inv c' (m.set i (.mp ks))∧Step c m c' (m.set i (.mp ks))∧c'.L i∧c'.β i=(c.w.heap.size,0):=by
 have hnL:¬ c.L i:=fun hL=>by
  obtain ⟨s,h1,h2⟩:=hi.given i hL
  rw [hm] at h1
  exact h2 (Option.some.inj h1).symm
 have hil:i<m.length:=(List.getElem?_eq_some_iff.1 hm).1
 let c':Ctx:={ L:=fun j=>j=i∨c.L j,β:=fun j=>if j=i then (c.w.heap.size,0) else c.β j,sz:=c.sz,S:=c.S,w:=w' }
 have hβi:c'.β i=(c.w.heap.size,0):=by simp [c']
 have hβ:∀ j,j≠i→c'.β j=c.β j:=fun j hj=>by simp [c',hj]
 have hext:Ext c c':=⟨fun b hb => .inr hb,fun b hb=>hβ b (fun e=>hnL (e ▸ hb)),fun b hb=>rfl,fun _ h=>h,fun b hb=>hf b (hi.lt b hb)⟩
 have hset:∀ (j:Nat) (s:Slot),(m.set i (.mp ks))[j]?=some s→(j=i∧s = .mp ks)∨(j≠i∧m[j]?=some s):=by
  intro j s h
  rw [List.getElem?_set] at h
  split at h
  ·rename_i e
   subst e
   simp [hil] at h
   exact .inl ⟨rfl,h.symm⟩
  ·rename_i e
   exact .inr ⟨fun e'=>e e'.symm,h⟩
 refine ⟨c',rfl,⟨?_,?_,?_,?_,?_,?_,?_⟩,⟨hext,by simp [c',hs],fun b hb _=>hf b hb,?_,fun b hb => .inl hb,ho⟩,.inl rfl,hβi⟩
 ·intro j hL
  rcases hL with rfl | hL
  ·exact ⟨.mp ks,by simp [hil],by simp⟩
  ·obtain ⟨s,h1,h2⟩:=hi.given j hL
   exact ⟨s,by rw [List.getElem?_set_ne (fun e:i=j=>hnL (by rw [e]; exact hL))]; exact h1,h2⟩
 ·intro b hb
  show b<w'.heap.size
  have := hi.lt b hb
  omega
 ·intro j cj h
  rcases hset j _ h with ⟨rfl,e⟩ | ⟨hj,h⟩
  ·cases e
  ·obtain ⟨hL,hS,cs',T',hb',hz',hc'⟩:=hi.live j cj h
   refine ⟨.inr hL,by rw [hβ j hj]; exact hS,cs',T',by rw [hβ j hj]; show w'.heap[_]?=_; rw [hf _ (lt_of_heap hb')]; exact hb',hz',hc'.mono hext hL⟩
 ·intro j cj h
  rcases hset j _ h with ⟨rfl,e⟩ | ⟨hj,h⟩
  ·cases e
  ·obtain ⟨hL,hS,cs',T',fr,hb',hc'⟩:=hi.jc j cj h
   refine ⟨.inr hL,by rw [hβ j hj]; exact hS,cs',T',fr,by rw [hβ j hj]; show w'.heap[_]?=_; rw [hf _ (lt_of_heap hb')]; exact hb',hc'.mono hext hL⟩
 ·intro j k cj ck h1 h2 he
  rcases hset j _ h1 with ⟨e1,e⟩ | ⟨hj,h3⟩
  ·cases e
  ·rcases hset k _ h2 with ⟨e2,e'⟩ | ⟨hk,h4⟩
   ·cases e'
   ·rw [hβ j hj,hβ k hk] at he
    exact hi.inj j k cj ck h3 h4 he
 ·intro j cj h
  rcases hset j _ h with ⟨rfl,e⟩ | ⟨hj,h⟩
  ·cases e
   exact ⟨.inl rfl,by rw [hβi]; exact fun hS=>Nat.lt_irrefl _ (hi.lt _ hS),es,clk,by rw [hβi]; exact hb,hk⟩
  ·obtain ⟨hL,hS,es',clk',hb',hm'⟩:=hi.maps j cj h
   refine ⟨.inr hL,by rw [hβ j hj]; exact hS,es',clk',by rw [hβ j hj]; show w'.heap[_]?=_; rw [hf _ (lt_of_heap hb')]; exact hb',hm'⟩
 ·intro j k cj ck h1 h2 he
  rcases hset j _ h1 with ⟨e1,e⟩ | ⟨hj,h3⟩ <;> rcases hset k _ h2 with ⟨e2,e'⟩ | ⟨hk,h4⟩
  ·rw [e1,e2]
  ·exfalso
   obtain ⟨_,_,es',clk',hb',_⟩:=hi.maps k ck h4
   rw [e1,hβi,hβ k hk] at he
   have := lt_of_heap hb'
   simp at he
   omega
  ·exfalso
   obtain ⟨_,_,es',clk',hb',_⟩:=hi.maps j cj h3
   rw [e2,hβi,hβ j hj] at he
   have := lt_of_heap hb'
   simp at he
   omega
  ·rw [hβ j hj,hβ k hk] at he
   exact hi.OH j k cj ck h3 h4 he
 ·rintro b (⟨j,cj,h,rfl⟩ | ⟨j,cj,h,rfl⟩)
  ·rcases hset j _ h with ⟨rfl,e⟩ | ⟨hj,h⟩
   ·cases e
   ·rw [hβ j hj]; exact .inr (.inl ⟨j,cj,h,rfl⟩)
  ·rcases hset j _ h with ⟨rfl,e⟩ | ⟨hj,h⟩
   ·rw [hβi]; exact .inl (Nat.le_refl _)
   ·rw [hβ j hj]; exact .inr (.inr ⟨j,cj,h,rfl⟩)
theorem Inv.writeM {c:Ctx} {m:Mem} {i:Nat} {ks:List Int} (hi:Inv c m) (hm:m[i]?=some (.mp ks)) (ks':List Int) (es':Array MapEntry) (clk':Nat) (w':World)
  (hs:w'.heap.size=c.w.heap.size) (hf:∀ b,b≠(c.β i).1→w'.heap[b]?=c.w.heap[b]?) (ho:Out c.w w') (hb':w'.heap[(c.β i).1]?=some (.map es' clk')) (hk:ah5 es' clk' ks') :
  Inv { c with w:=w' } (m.set i (.mp ks'))∧Step c m { c with w:=w' } (m.set i (.mp ks')):=by
 have hil:i<m.length:=(List.getElem?_eq_some_iff.1 hm).1
 obtain ⟨hL,hS,es,clk,hb,hk0⟩:=hi.maps i ks hm
 have hSne:∀ b,c.S b→b≠(c.β i).1:=fun b hb e=>hS (e ▸ hb)
 have hext:Ext c { c with w:=w' }:=⟨fun _ h=>h,fun _ _=>rfl,fun _ _=>rfl,fun _ h=>h,fun b hb=>hf b (hSne b hb)⟩
 have hset:∀ (j:Nat) (s:Slot),(m.set i (.mp ks'))[j]?=some s→(j=i∧s = .mp ks')∨(j≠i∧m[j]?=some s):=by
  intro j s h
  rw [List.getElem?_set] at h
  split at h
  ·rename_i e
   subst e
   simp [hil] at h
   exact .inl ⟨rfl,h.symm⟩
  ·rename_i e
   exact .inr ⟨fun e'=>e e'.symm,h⟩
 refine ⟨⟨?_,?_,?_,?_,?_,?_,?_⟩,⟨hext,by show c.w.heap.size≤w'.heap.size; omega,?_,?_,fun b hb => .inl hb,ho⟩⟩
 ·intro j hLj
  by_cases e:j=i
  ·exact ⟨.mp ks',by rw [e]; simp [hil],by simp⟩
  ·obtain ⟨s,h1,h2⟩:=hi.given j hLj
   exact ⟨s,by rw [List.getElem?_set_ne (fun e'=>e e'.symm)]; exact h1,h2⟩
 ·intro b hb
  show b<w'.heap.size
  have := hi.lt b hb
  omega
 ·intro j cj h
  rcases hset j _ h with ⟨e,e'⟩ | ⟨hj,h⟩
  ·cases e'
  ·obtain ⟨hLj,hSj,csj,Tj,hbj,hzj,hcj⟩:=hi.live j cj h
   have hne:(c.β j).1≠(c.β i).1:=fun e=>by rw [e,hb] at hbj; simp at hbj
   exact ⟨hLj,hSj,csj,Tj,by show w'.heap[_]?=_; rw [hf _ hne]; exact hbj,hzj,hcj.mono hext hLj⟩
 ·intro j cj h
  rcases hset j _ h with ⟨e,e'⟩ | ⟨hj,h⟩
  ·cases e'
  ·obtain ⟨hLj,hSj,csj,Tj,fr,hbj,hcj⟩:=hi.jc j cj h
   exact ⟨hLj,hSj,csj,Tj,fr,by show w'.heap[_]?=_; rw [hf _ (hSne _ hSj)]; exact hbj,hcj.mono hext hLj⟩
 ·intro j k cj ck h1 h2 he
  rcases hset j _ h1 with ⟨e1,e⟩ | ⟨hj,h3⟩
  ·cases e
  ·rcases hset k _ h2 with ⟨e2,e'⟩ | ⟨hk,h4⟩
   ·cases e'
   ·exact hi.inj j k cj ck h3 h4 he
 ·intro j cj h
  rcases hset j _ h with ⟨e,e'⟩ | ⟨hj,h⟩
  ·cases e'
   rw [e]
   exact ⟨hL,hS,es',clk',hb',hk⟩
  ·obtain ⟨hLj,hSj,esj,clkj,hbj,hmj⟩:=hi.maps j cj h
   have hne:(c.β j).1≠(c.β i).1:=fun e=>hj (hi.OH j i cj ks h hm e)
   exact ⟨hLj,hSj,esj,clkj,by show w'.heap[_]?=_; rw [hf _ hne]; exact hbj,hmj⟩
 ·intro j k cj ck h1 h2 he
  have h3:∃ c3,m[j]?=some (.mp c3):=by
   rcases hset j _ h1 with ⟨e,_⟩ | ⟨_,h⟩
   ·exact ⟨ks,by rw [e]; exact hm⟩
   ·exact ⟨cj,h⟩
  have h4:∃ c4,m[k]?=some (.mp c4):=by
   rcases hset k _ h2 with ⟨e,_⟩ | ⟨_,h⟩
   ·exact ⟨ks,by rw [e]; exact hm⟩
   ·exact ⟨ck,h⟩
  exact hi.OH j k _ _ h3.choose_spec h4.choose_spec he
 ·intro b hb hn
  refine hf b (fun e=>hn (.inr ⟨i,ks,hm,e.symm⟩))
 ·rintro b (⟨j,cj,h,rfl⟩ | ⟨j,cj,h,rfl⟩)
  ·rcases hset j _ h with ⟨_,e⟩ | ⟨_,h⟩
   ·cases e
   ·exact .inr (.inl ⟨j,cj,h,rfl⟩)
  ·rcases hset j _ h with ⟨e,_⟩ | ⟨_,h⟩
   ·exact .inr (.inr ⟨i,ks,hm,by rw [e]⟩)
   ·exact .inr (.inr ⟨j,cj,h,rfl⟩)
theorem Inv.aB0 {c:Ctx} {m:Mem} {i:Nat} {ks:List Int} (hi:Inv c m) (hm:m[i]?=some (.mp ks)) :
  ∃ c',c'={ c with S:=fun b=>c.S b∨b=(c.β i).1 }∧Inv c' (m.set i .dead)∧Step c m c' (m.set i .dead):=by
 have hil:i<m.length:=(List.getElem?_eq_some_iff.1 hm).1
 obtain ⟨hL,hS,es,clk,hb,hk⟩:=hi.maps i ks hm
 have hext:Ext c { c with S:=fun b=>c.S b∨b=(c.β i).1 }:=⟨fun _ h=>h,fun _ _=>rfl,fun _ _=>rfl,fun _ h => .inl h,fun b hb=>rfl⟩
 have hset:∀ (j:Nat) (s:Slot),(m.set i .dead)[j]?=some s→(j=i∧s = .dead)∨(j≠i∧m[j]?=some s):=by
  intro j s h
  rw [List.getElem?_set] at h
  split at h
  ·rename_i e
   subst e
   simp [hil] at h
   exact .inl ⟨rfl,h.symm⟩
  ·rename_i e
   exact .inr ⟨fun e'=>e e'.symm,h⟩
 refine ⟨_,rfl,⟨?_,?_,?_,?_,?_,?_,?_⟩,⟨hext,Nat.le_refl _,fun _ _ _=>rfl,?_,?_,.refl _⟩⟩
 ·intro j hLj
  by_cases e:j=i
  ·exact ⟨.dead,by rw [e]; simp [hil],by simp⟩
  ·obtain ⟨s,h1,h2⟩:=hi.given j hLj
   exact ⟨s,by rw [List.getElem?_set_ne (fun e'=>e e'.symm)]; exact h1,h2⟩
 ·rintro b (hb' | hb')
  ·exact hi.lt b hb'
  ·rw [hb']; exact lt_of_heap hb
 ·intro j cj h
  rcases hset j _ h with ⟨e,e'⟩ | ⟨hj,h⟩
  ·cases e'
  ·obtain ⟨hLj,hSj,csj,Tj,hbj,hzj,hcj⟩:=hi.live j cj h
   have hne:(c.β j).1≠(c.β i).1:=fun e=>by rw [e,hb] at hbj; simp at hbj
   exact ⟨hLj,fun h=>h.elim hSj hne,csj,Tj,hbj,hzj,hcj.mono hext hLj⟩
 ·intro j cj h
  rcases hset j _ h with ⟨e,e'⟩ | ⟨hj,h⟩
  ·cases e'
  ·obtain ⟨hLj,hSj,csj,Tj,fr,hbj,hcj⟩:=hi.jc j cj h
   exact ⟨hLj,.inl hSj,csj,Tj,fr,hbj,hcj.mono hext hLj⟩
 ·intro j k cj ck h1 h2 he
  rcases hset j _ h1 with ⟨_,e⟩ | ⟨hj,h3⟩
  ·cases e
  ·rcases hset k _ h2 with ⟨_,e⟩ | ⟨hk,h4⟩
   ·cases e
   ·exact hi.inj j k cj ck h3 h4 he
 ·intro j cj h
  rcases hset j _ h with ⟨_,e⟩ | ⟨hj,h⟩
  ·cases e
  ·obtain ⟨hLj,hSj,esj,clkj,hbj,hmj⟩:=hi.maps j cj h
   have hne:(c.β j).1≠(c.β i).1:=fun e=>hj (hi.OH j i cj ks h hm e)
   exact ⟨hLj,fun h=>h.elim hSj hne,esj,clkj,hbj,hmj⟩
 ·intro j k cj ck h1 h2 he
  rcases hset j _ h1 with ⟨_,e⟩ | ⟨hj,h3⟩
  ·cases e
  ·rcases hset k _ h2 with ⟨_,e⟩ | ⟨hk,h4⟩
   ·cases e
   ·exact hi.OH j k cj ck h3 h4 he
 ·rintro b (⟨j,cj,h,rfl⟩ | ⟨j,cj,h,rfl⟩)
  ·rcases hset j _ h with ⟨_,e⟩ | ⟨_,h⟩
   ·cases e
   ·exact .inr (.inl ⟨j,cj,h,rfl⟩)
  ·rcases hset j _ h with ⟨_,e⟩ | ⟨_,h⟩
   ·cases e
   ·exact .inr (.inr ⟨j,cj,h,rfl⟩)
 ·rintro b (hb' | hb')
  ·exact .inl hb'
  ·exact .inr (.inr (.inr ⟨i,ks,hm,hb'.symm⟩))
section
variable {c:Ctx} {v:Value}
theorem Rep.cu {k:IntKind} {n:Int} (h:Rep c (.int k n) v):v = .int k n:=by cases h with | b_ _ _ h=>cases h; rfl
theorem Rep.mG {b:Bool} (h:Rep c (.bool b) v):v = .bool b:=by cases h with | b_ _ _ h=>cases h; rfl
theorem Rep.jv {s:List UInt8} (h:Rep c (.str s) v):v = .string ⟨s.toArray⟩:=by cases h with | b_ _ _ h=>cases h; rfl
theorem Rep.Fa (h:Rep c .iy v):v = .pointer none:=by cases h with | b_ _ _ h=>cases h; rfl
theorem Rep.sW (h:Rep c .dh v):v = .slice none 0 0:=by cases h with | b_ _ _ h=>cases h; rfl
theorem Rep.yG (h:Rep c .bQ v):v = .nilIface:=by cases h with | b_ _ _ h=>cases h; rfl
theorem Rep.xW {b off:Nat} (h:Rep c (.loc b off) v):c.L b∧v = .pointer (some ⟨(c.β b).1,(c.β b).2+off,none⟩):=by
 cases h with
 | b_ _ _ h=>cases h
 | loc _ _ hb=>exact ⟨hb,rfl⟩
theorem Rep.DI {b off len esz:Nat} (h:Rep c (.aO b off len esz) v):c.L b∧∃ cap a,v = .slice (some a) len cap∧len≤cap∧(a.block=(c.β b).1∧a.spot=none)∧(cap=0∨(a=⟨(c.β b).1,(c.β b).2+off,none⟩∧(c.β b).2+off+cap*esz≤c.sz b)):=by
 cases h with
 | b_ _ _ h=>cases h
 | aO _ _ _ _ cap a hb hlen hab ha=>exact ⟨hb,cap,a,rfl,hlen,hab,ha⟩
theorem Rep.Hg {cells:List D} {off:Nat} (h:Rep c (.ref cells off) v):∃ blk st cs T fr,∃ g:Nat→Value,v = .pointer (some ⟨blk,st+off,none⟩)∧c.S blk ∧
  c.w.heap[blk]?=some (.cells cs T fr)∧(∀ j:Nat,j<cells.length→cs[st+j]?=some (g j)∧(g j).oneCell'=true)∧∀ (j:Nat) (d:D),cells[j]?=some d→F c.S c.w d (g j):=by
 cases h with
 | b_ _ _ h=>cases h with
   | ref _ _ blk st cs T fr g hS hb hg hr=>exact ⟨blk,st,cs,T,fr,g,rfl,hS,hb,hg,hr⟩
theorem Rep.GH {cells:List D} {len:Nat} (h:Rep c (.sl len cells) v):(len=0∧cells=[]∧v = .slice none 0 0)∨∃ blk st cap cs T fr,∃ g:Nat→Value,v = .slice (some ⟨blk,st,none⟩) len cap∧len≤cap∧c.S blk ∧
  c.w.heap[blk]?=some (.cells cs T fr)∧(∀ j:Nat,j<cells.length→cs[st+j]?=some (g j)∧(g j).oneCell'=true)∧∀ (j:Nat) (d:D),cells[j]?=some d→F c.S c.w d (g j):=by
 cases h with
 | b_ _ _ h=>cases h with
   | sl _ _ blk st cap cs T fr g hS hlen hb hg hr=>exact .inr ⟨blk,st,cap,cs,T,fr,g,rfl,hlen,hS,hb,hg,hr⟩
   | sl0=>exact .inl ⟨rfl,rfl,rfl⟩
theorem Rep.O4 {cells:List D} (h:Rep c (.agg cells) v):∃ vs,∃ g:Nat→Value,v = .agg vs∧vs.size=cells.length ∧
  (∀ j:Nat,j<cells.length→vs[j]?=some (g j)∧(g j).oneCell'=true)∧∀ (j:Nat) (d:D),cells[j]?=some d→Rep c d (g j):=by
 cases h with
 | b_ _ _ h=>cases h with
   | agg _ vs g hl hg hr=>exact ⟨vs,g,rfl,hl,hg,fun j d hd => .b_ _ _ (hr j d hd)⟩
 | agg _ vs g hl hg hr=>exact ⟨vs,g,rfl,hl,hg,hr⟩
theorem Rep.Yh {ds:List D} (h:Rep c (.aG ds) v):∃ vs,∃ g:Nat→Value,v = .tuple vs∧vs.size=ds.length ∧
  (∀ j:Nat,j<ds.length→vs[j]?=some (g j))∧∀ (j:Nat) (d:D),ds[j]?=some d→Rep c d (g j):=by
 cases h with
 | b_ _ _ h=>cases h with
   | aG _ vs g hl hg hr=>exact ⟨vs,g,rfl,hl,hg,fun j d hd => .b_ _ _ (hr j d hd)⟩
 | aG _ vs g hl hg hr=>exact ⟨vs,g,rfl,hl,hg,hr⟩
theorem Rep.TQ {f:Nat} {ds:List D} (h:Rep c (.func f ds) v):∃ vs,∃ g:Nat→Value,v = .func (.func f) #[] vs∧vs.size=ds.length ∧
  (∀ j:Nat,j<ds.length→vs[j]?=some (g j))∧∀ (j:Nat) (d:D),ds[j]?=some d→Rep c d (g j):=by
 cases h with
 | b_ _ _ h=>cases h with
   | func _ _ vs g hl hg hr=>exact ⟨vs,g,rfl,hl,hg,fun j d hd => .b_ _ _ (hr j d hd)⟩
 | func _ _ vs g hl hg hr=>exact ⟨vs,g,rfl,hl,hg,hr⟩
theorem Rep.ig {t:Nat} {d:D} (h:Rep c (.iface t d) v):∃ u,v = .iface t u∧Rep c d u:=by
 cases h with
 | b_ _ _ h=>cases h with | iface _ _ u hu=>exact ⟨u,rfl,.b_ _ _ hu⟩
 | iface _ _ u hu=>exact ⟨u,rfl,hu⟩
theorem Rep.Zg {b:Nat} (h:Rep c (.lmap b) v):c.L b∧v = .map (some (c.β b).1):=by
 cases h with
 | b_ _ _ h=>cases h
 | lmap _ hb=>exact ⟨hb,rfl⟩
theorem Rep.akl {ks:List Int} (h:Rep c (.uz ks) v):∃ blk es clk,v = .map (some blk)∧c.S blk∧c.w.heap[blk]?=some (.map es clk)∧ah5 es clk ks:=by
 cases h with
 | b_ _ _ h=>cases h with
   | uz _ blk es clk hS hb hm=>exact ⟨blk,es,clk,rfl,hS,hb,hm⟩
theorem Rep.au' {b o:Nat} (h:Rep c (.raw b o) v):v = .pointer (some ⟨b,o,none⟩):=by cases h with | b_ _ _ h=>cases h; rfl
theorem Rep.az2 (h:Rep c .BQ v):v = .map none:=by cases h with | b_ _ _ h=>cases h; rfl
theorem Rep.avl:Rep c (.aG []) (.tuple #[]) := .b_ _ _ (.aG [] #[] (fun _ => .nilIface) rfl (fun j hj=>by simp at hj) (fun j d hd=>by simp at hd))
end
end Go.Ev
