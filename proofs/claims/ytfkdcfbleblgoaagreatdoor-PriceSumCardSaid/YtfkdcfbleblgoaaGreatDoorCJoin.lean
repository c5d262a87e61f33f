/- A part of the proof of priceAll_card, yieldAll_card, priceSum_card, flowAll_card, accrAll_card. -/
import Derived.Maps.RangeWalk
import Derived.Deep.RegionHeld3
import Derived.Test.YtfkdcfbleblgoaaGreatDoorCPrimsB
set_option linter.unusedVariables false
set_option linter.unusedSimpArgs false
section
namespace Go.Ev.CalJoin
open Go Go.Proofs Go.RowKit Go.Maps
theorem azS:Keyed Tryz.prog 3:=int_keyed Tryz.underlying3
def IsB (v:Value):Prop:=∃ c:Bool,v = .bool c
theorem am1 {H:Type} {P:Program} (w:World) {ops:Array Oper} {rest:List Oper} {o:Oper} {a:Act} {Q:Exit→Act→World→Prop} (hg:o.guard=none) (it:Operand) (hop:o.op=Op.next it false) (k e:TypeId) (qk:IntKind) (K:Keyed P k)
  (hk:P.underlying k=some (.int qk)) (he:P.underlying e=some .bool) (b r n:Nat) (D:DataW H) (left:Lit→Bool) (cnt:Nat) (hit:a.eval it = .pointer (some ⟨r,0,none⟩)) (h:w.ranges P k (plainElem P e) b r n D left cnt)
  (hDone:cnt=0→(∀ kl,left kl=false)→wpList P ops Q rest (a.put o.dst (.tuple #[.bool false])) w)
  (hMore:∀ (x:Int) (c:Value) (w':World) (cnt':Nat),IsB c→(Lit.int qk x).wf=true→w'.ranges P k (plainElem P e) b r n D (fun z=>left z && !z.sameKey (.int qk x)) cnt'→cnt'<cnt →
   w.grownBy w' (some r)→w'.heap.size=w.heap.size→(Instr.entry (.pointer (some ⟨r,0,none⟩))).run P w' = .ok (.tuple #[.int qk x,c]) w'→wpList P ops Q rest (a.put o.dst (.tuple #[.bool true,.int qk x,c])) w') :
  wpList P ops Q (o::rest) a w:=by
 refine wpList_next_ranges w hg it hop k K (plainElem P e) (Value.int qk) Value.bool (fun key kl hk'=>?_) (fun v y hy=>?_) b r n D left cnt hit h hDone (fun x c kl y w' cnt' hkey hlk hv hat hrg hlt hgr hsz hen=>?_)
 ·obtain ⟨x,rfl,_⟩:=keyOf_int_inv hk hk'
  exact ⟨x,rfl⟩
 ·unfold plainElem at hy
  rw [he] at hy
  cases v <;> simp at hy
  exact ⟨_,rfl⟩
 ·obtain ⟨x',hx',rfl,hwf⟩:=keyOf_int_inv hk hkey
  have : x=x':=by simpa using hx'
  subst this
  exact hMore x (.bool c) w' cnt' ⟨c,rfl⟩ hwf hrg hlt hgr hsz hen
theorem ai7 {w:World} {b:Nat} {o:Obj} (h:w.heap[b]?=some o):b<w.heap.size:=(Array.getElem?_eq_some_iff.1 h).1
set_option maxHeartbeats 4000000 in
set_option maxRecDepth 100000 in
theorem azR (b o cap:Nat) (p:Addr) (mb n:Nat) (D0:DataW Unit) (w:World) (h0:w.cell? ⟨b,o,none⟩=some (.pointer (some p))) (h1:w.cell? ⟨b,o+1,none⟩=some (.pointer none)) (hp:w.cell? p=some (.map (some mb)))
  (hown:w.ownsMap Tryz.prog 3 (plainElem Tryz.prog 4) mb n D0) (hmax:Maps.size D0≤maxLen) :
  Calls Tryz.prog 209 #[.slice (some ⟨b,o,none⟩) 2 cap] w fun e w'=>e = .returned (.pointer (some ⟨w.heap.size+1,0,none⟩))∧Below w.heap.size w w'∧w'.heap[w.heap.size+1]?=some (.cells #[.map (some w.heap.size)] 306 (0,0)):=by
 have hmm := @run_makeMap Tryz.prog
 have hbl:=hown.lt
 have hlt0:b<w.heap.size:=by
  rcases Nat.lt_or_ge b w.heap.size with h | h
  ·exact h
  ·simp [World.cell?,Array.getElem?_eq_none h] at h0
 have hltp:p.block<w.heap.size:=by
  rcases Nat.lt_or_ge p.block w.heap.size with h | h
  ·exact h
  ·simp [World.cell?,Array.getElem?_eq_none h] at hp
 go_enter Tryz.func209,Tryz.ntmps209
 go_wp2
 refine wp_loop_rounds 3 ?_
 rw [rounds_succ]
 go_wp2_with (at_range; refine wpList_range_own _ rfl _ 304 rfl 3 4 azS Tryz.underlying304 _ mb n _ rfl ((hown.alloc _).alloc _) ?_; intro w1 hrg0 hg0 hs0)
 go_frame
 have e1:((w.alloc (.map #[] 0)).alloc (.cells #[.map (some w.heap.size)] 306)).heap.size=w.heap.size+1+1:=by simp
 rw [e1] at hrg0 hs0 ⊢
 have hbelow:Below w.heap.size w w1:=(((Below.refl _ _).alloc (Nat.le_refl _) _).alloc (by simp) _).grown hg0 (by simp; omega) (fun j hj=>by cases hj)
 have hc0:w1.heap[w.heap.size+1]?=some (.cells #[.map (some w.heap.size)] 306 (0,0)):=by
  rw [hg0.block (w.heap.size+1) (by simp) (by simp)]
  have := heap_alloc_new (w.alloc (.map #[] 0)) (.cells #[.map (some w.heap.size)] 306)
  simpa using this
 have hm0:w1.ownsMap Tryz.prog 3 (plainElem (H:=Unit) Tryz.prog 4) w.heap.size (Maps.size D0-Maps.size D0) (.map []):=(((World.ownsMap_made w _ _ _).alloc _).kept hg0 (by simp)).mono (Nat.zero_le _)
 go_loopw [6] (fun _ wr=>∃ (left:Lit→Bool) (cnt:Nat) (Dout:DataW Unit),wr.ranges Tryz.prog 3 (plainElem Tryz.prog 4) mb (w.heap.size+1+1) n D0 left cnt∧cnt≤Maps.size D0 ∧
   wr.ownsMap Tryz.prog 3 (plainElem Tryz.prog 4) w.heap.size (Maps.size D0-cnt) Dout∧Below w.heap.size w wr∧wr.heap[w.heap.size+1]?=some (.cells #[.map (some w.heap.size)] 306 (0,0)))
  (fun _ wr=>wr.rangeLeft mb (w.heap.size+1+1))
 case atStart=>exact ⟨_,_,.map [],hrg0,Nat.le_refl _,hm0,hbelow,hc0⟩
 case round =>
  obtain ⟨left,cnt,Dout,hrg,hcs,hout,hnx,hcc⟩:=hrel
  go_wp2_with (first
   | (at_next; refine am1 _ rfl _ rfl 3 4 .i64 azS Tryz.underlying3 Tryz.underlying4 mb (w.heap.size+1+1) n _ _ _ rfl hrg ?_ ?_)
   | go_in)
  ·intro hc0 hl0
   have g1:wr.cell? ⟨b,o+1,none⟩=some (.pointer none):=by rw [hnx.cell (p:=⟨b,o+1,none⟩) hlt0]; exact h1
   go_wp2
   rw [rounds_succ]
   go_wp2
   rw [rounds_succ]
   go_wp2
   go_ret
   exact ⟨rfl,hnx,hcc⟩
  ·intro x c w2 cnt1 hIB hwx hrg1 hlt hg1 hs1 hen
   have hout1:=hout.kept hg1 (by simp; omega)
   have hcc1:w2.heap[w.heap.size+1]?=some (.cells #[.map (some w.heap.size)] 306 (0,0)):=by
    rw [hg1.block (w.heap.size+1) (ai7 hcc) (by simp)]; exact hcc
   have hce:w2.cell? ⟨w.heap.size+1,0,none⟩=some (.map (some w.heap.size)):=by simp [World.cell?,hcc1]
   go_wp2_with (first
    | (at_mapUpdate; refine wpList_mapUpdate_own _ rfl _ _ _ 304 rfl 3 4 azS Tryz.underlying304 _ w.heap.size _ _ rfl hout1 (by omega) _ _ _ rfl rfl (keyOf_int_mk Tryz.underlying3 hwx) _ [] (plainElem_bool Tryz.underlying4 true) ?_; intro w3 hout2 hg2; go_frame)
    | go_in)
   have hrg2:=hrg1.kept hg2 (fun e=>by have := Option.some.inj e; omega) (fun e=>by have := Option.some.inj e; omega)
   have hcc2:w3.heap[w.heap.size+1]?=some (.cells #[.map (some w.heap.size)] 306 (0,0)):=by
    rw [hg2.block (w.heap.size+1) (ai7 hcc1) (by simp)]; exact hcc1
   go_roundw
   case rel =>
    exact ⟨_,cnt1,_,hrg2,by omega,hout2.mono (by omega),
     (hnx.grown hg1 hnx.size (fun j hj=>by cases hj; omega)).grown hg2 (by have := hnx.size; omega) (fun j hj=>by cases hj; exact Nat.le_refl _),hcc2⟩
   case measure=>rw [hrg2.left_eq,hrg.left_eq]; exact hlt
end Go.Ev.CalJoin
end
section
namespace Go.Ev.Code
open Go Go.Ev Go.Proofs Go.RowKit Go.Extern
variable {w0:World}
theorem aCg {w:World} {b:Nat} {es:Array MapEntry} {clk:Nat} {ks:List Int} (hb:w.heap[b]?=some (.map es clk)) (hm:ah5 es clk ks) (hl:ks.length≤1000000) (hr:∀ k∈ks,-9223372036854775808≤k∧k≤9223372036854775807) :
  ∃ D0:DataW Unit,w.ownsMap Tryz.prog 3 (plainElem Tryz.prog 4) b es.size D0∧Maps.size D0≤maxLen:=by
 obtain ⟨h1,h2,h3⟩:=hm
 refine ⟨_,⟨es,clk,hb,⟨by unfold maxLen; omega,h2,fun x hx=>?_⟩,Nat.le_refl _,rfl⟩,?_⟩
 ·obtain ⟨hv,k,hk,hin⟩:=h1.1 x hx
  have hwf:(Lit.int .i64 k).wf=true:=by
   have := hr k hin
   simp [Lit.wf,IntKind.wrap,IntKind.signed,IntKind.bits,IntKind.min,IntKind.max]
   omega
  refine ⟨(.int .i64 k,.lit (.bool true)),?_⟩
  unfold WideElems.rd
  rw [hk,hv,Maps.keyOf_int_mk Tryz.underlying3 hwf,plainElem_bool Tryz.underlying4]
  rfl
 ·show Maps.size _≤maxLen
  have : Maps.size (.map ((es.toList.map (WideElems.rg Tryz.prog 3 (plainElem (H:=Unit) Tryz.prog 4))).foldr DataW.insert []))=es.size:=by
   simp [Maps.size,length_sorted]
  rw [this]
  unfold maxLen; omega
theorem azQ:jD Tryz.prog w0 YI ar5:=by
 have hfn:rX Tryz.prog YI:=here _ _ Tryz.func209 (by kernel_rfl)
 intro args m r m' h
 unfold ar5 at h
 split at h <;> try (simp at h; done)
 rename_i ks
 split at h <;> try (simp at h; done)
 rename_i hc
 obtain ⟨hl,hr⟩:=hc
 simp only [Option.some.injEq,Prod.mk.injEq] at h
 obtain ⟨rfl,rfl⟩:=h
 refine fun cx vs hB hi hrep => .inl ⟨hfn,?_⟩
 obtain ⟨v,rfl,hv⟩:=LM hrep
 rcases hv.GH with ⟨h0,_,_⟩ | ⟨blk,st,cap,vals,T,fr,g,rfl,hcap,hS,hb,hg,hgr⟩
 ·omega
 ·have g0:=(hg 0 (by simp)).1
  have g1:=(hg 1 (by simp)).1
  have r0:Rep cx (.ref [.uz ks] 0) (g 0) := .b_ _ _ (hgr 0 _ rfl)
  have r1:g 1 = .pointer none:=(Rep.b_ _ _ (hgr 1 _ rfl):Rep cx .iy (g 1)).Fa
  obtain ⟨blk1,st1,cs1,T1,fr1,g',e0,hS1,hb1,hg1,hgr1⟩:=r0.Hg
  have q0:=(hg1 0 (by simp)).1
  have rm:Rep cx (.uz ks) (g' 0) := .b_ _ _ (hgr1 0 _ rfl)
  obtain ⟨mb,es,clk,em,hSm,hbm,hmok⟩:=rm.akl
  rw [e0] at g0
  rw [r1] at g1
  rw [em] at q0
  obtain ⟨D0,hown,hmax⟩:=aCg hbm hmok hl (fun k hk=>by
   have := List.all_eq_true.1 hr k hk
   simpa using this)
  refine (CalJoin.azR blk st cap ⟨blk1,st1+0,none⟩ mb es.size D0 cx.w (by simpa [World.cell?,hb] using g0) (by simpa [World.cell?,hb] using g1) (by simpa [World.cell?,hb1] using q0) hown hmax).mono ?_
  rintro e w' ⟨rfl,hbl,hcell⟩
  obtain ⟨h1,h2⟩:=hi.more (fun b=>cx.S b∨b=cx.w.heap.size+1) w' (fun _ h => .inl h) (fun b h=>h.imp id (fun e=>by omega)) (by
   rintro b (h | rfl)
   ·exact Nat.lt_of_lt_of_le (hi.lt b h) hbl.size
   ·exact lt_of_heap hcell) hbl.size hbl.block ⟨hbl.os,hbl.output⟩
  refine ⟨_,_,rfl,rfl,?_,h1,h2⟩
  refine .b_ _ _ ?_
  have := F.ref (S:=fun b=>cx.S b∨b=cx.w.heap.size+1) (w:=w') [] 0 (cx.w.heap.size+1) 0 _ _ _ (fun _ => .nilIface) (.inr rfl) hcell (fun j hj=>by simp at hj) (fun j d hd=>by simp at hd)
  exact this
end Go.Ev.Code
end
section
namespace Go.Ev.Bld
open Go Go.Proofs Go.RowKit
theorem aAT:(Tryz.prog.info? 316).map (·.size)=some 2:=by kernel_rfl
theorem aEm:liesAt Tryz.prog Tryz.prog.depth 316 (2 / Tryz.prog.cellsOf 316) 0 316 1=true:=by kernel_rfl
theorem infoByte:(Tryz.prog.info? 5).map (fun i=>(i.zero,i.size,i.bytes))=some (some (.int .u8 0),1,1):=by kernel_rfl
set_option maxHeartbeats 1000000 in
set_option maxRecDepth 100000 in
theorem amE (b:Nat) (w:World) (h0:w.cell? ⟨b,0,none⟩=some (.pointer (some ⟨b,0,none⟩))) :
  Calls Tryz.prog 298 #[.pointer (some ⟨b,0,none⟩)] w fun e w'=>e = .returned (.tuple #[])∧w'=w:=by
 obtain ⟨j,hj,_⟩:=Option.map_eq_some_iff.1 aAT
 go_enter Tryz.func298,Tryz.ntmps298
 go_wp2
 rw [Lib.run_neq_ptr_same w _ Tryz.underlying314 hj]
 go_wp2
 go_end0
 exact ⟨rfl,rfl⟩
set_option maxHeartbeats 1000000 in
set_option maxRecDepth 100000 in
theorem ak1 (b:Nat) (w:World) (h0:w.cell? ⟨b,0,none⟩=some (.pointer none)) (hsh:w.shape? b=some (316,2)) (hfz:w.frozen? ⟨b,0,none⟩=false) :
  Calls Tryz.prog 298 #[.pointer (some ⟨b,0,none⟩)] w fun e w'=>e = .returned (.tuple #[])∧w'=w.setCell ⟨b,0,none⟩ (.pointer (some ⟨b,0,none⟩)):=by
 obtain ⟨j,hj,hjs⟩:=Option.map_eq_some_iff.1 aAT
 go_enter Tryz.func298,Tryz.ntmps298
 go_wp2
 rw [Lib.run_to_unsafe w ⟨b,0,none⟩ Tryz.underlying314 Tryz.underlying227 hj (by rw [hjs]; decide) hsh (Nat.zero_lt_succ 1)]
 simp only [Result.andThen]
 rw [Oper.upon_value]
 go_wp2
 rw [run_callFunc_extern Tryz.func316 (by kernel_rfl) (by kernel_rfl) (by kernel_rfl) (e:=Extern.AbiNoEscape.same) (by kernel_rfl)]
 rw [Lib.run_noEscape]
 simp only [Result.andThen]
 rw [Oper.upon_value]
 go_wp2
 rw [Lib.run_from_unsafe w ⟨b,0,none⟩ Tryz.underlying227 Tryz.underlying314 hj hsh aEm]
 simp only [Result.andThen]
 rw [Oper.upon_value]
 go_wp2
 go_end0
 exact ⟨rfl,rfl⟩
def akG (b B:Nat) (p:Value) (bs:List Value) (w:World):Prop :=
 ∃ v,w.heap[b]?=some (.cells #[p,v] 316 (0,0))∧w.ownsRow B 5 1 v bs.length bs∧v.ownBlock≠some b
def Used (b:Nat) (p:Value):Prop:=p = .pointer none∨p = .pointer (some ⟨b,0,none⟩)
def But (b B:Nat) (w w':World):Prop:=(w'.os=w.os∧w'.output=w.output)∧w.heap.size≤w'.heap.size∧∀ k,k<B→k≠b→w'.heap[k]?=w.heap[k]?
theorem copyCheck (b B:Nat) (p:Value) (bs:List Value) (w:World) (h:akG b B p bs w) (hp:Used b p) (hbB:b<B) :
  Calls Tryz.prog 298 #[.pointer (some ⟨b,0,none⟩)] w fun e w'=>e = .returned (.tuple #[])∧akG b B (.pointer (some ⟨b,0,none⟩)) bs w'∧But b B w w'∧w'.heap.size=w.heap.size:=by
 obtain ⟨v,hb,hown,hne⟩:=h
 rcases hp with rfl | rfl
 ·refine (ak1 b w (by simp [World.cell?,hb]) (by simp [World.shape?,hb]) (by simp [World.frozen?,hb])).mono ?_
  rintro e w' ⟨rfl,rfl⟩
  refine ⟨rfl,⟨v,by simp [World.setCell,Array.getElem?_modify,hb],?_,hne⟩,⟨⟨rfl,rfl⟩,by simp [World.setCell],fun k _ hk=>Below.heap_setCell _ _ _ _ hk⟩,by simp [World.setCell]⟩
  exact hown.kept (row:=some b) ⟨rfl,rfl,rfl,by simp [World.setCell],fun k _ hk=>Below.heap_setCell _ _ _ _ (fun e=>hk (by simp [e]))⟩ (.inr hne)
 ·refine (amE b w (by simp [World.cell?,hb])).mono ?_
  rintro e w' ⟨rfl,rfl⟩
  exact ⟨rfl,⟨v,hb,hown,hne⟩,⟨⟨rfl,rfl⟩,Nat.le_refl _,fun _ _ _=>rfl⟩,rfl⟩
set_option maxHeartbeats 2000000 in
set_option maxRecDepth 100000 in
theorem writeString (b B:Nat) (p:Value) (bs:List Value) (s:ByteArray) (w:World) (h:akG b B p bs w) (hp:Used b p) (hbB:b<B) (hlen:bs.length+s.size≤140737488355328) (hBw:B≤w.heap.size) :
  Calls Tryz.prog 258 #[.pointer (some ⟨b,0,none⟩),.string s] w fun e w'=>e = .returned (.tuple #[.int .i64 s.size,.nilIface])∧akG b B (.pointer (some ⟨b,0,none⟩)) (bs++Lib.strCells s) w'∧But b B w w':=by
 obtain ⟨i0,hi,hz0,hz1,hz2⟩:=info_parts infoByte
 go_enter Tryz.func258,Tryz.ntmps258
 go_wp2_with (go_at_call 298; refine (copyCheck b B p bs _ h hp hbB).mono ?_)
 rintro e w1 ⟨rfl,⟨v,hbk,hown,hne⟩,hbut,hsz⟩
 have c0:w1.cell? ⟨b,0,none⟩=some (.pointer (some ⟨b,0,none⟩)):=by rw [Lib.cell_of_heap hbk]; rfl
 have c1:w1.cell? ⟨b,1,none⟩=some v:=by rw [Lib.cell_of_heap hbk]; rfl
 have HB:=Lib.hid hbut
 have HZ:=Lib.hid hsz
 clear hbut hsz
 go_wp2_with (at_builtin; refine Lib.wpList_append_own_string _ rfl _ _ 191 9 rfl B 5 i0 Tryz.underlying191 Tryz.underlying9 hi hz0 hz1 hz2 _ _ _ rfl hown s rfl ?c3 ?c4 ?c5 ?_)
 case c3=>unfold maxLen; omega
 case c4=>omega
 case c5=>have := HZ.out; omega
 intro v' w2 hown' hgrow _
 have hlt:b<w1.heap.size:=by
  rcases Nat.lt_or_ge b w1.heap.size with h' | h'
  ·exact h'
  ·simp [Array.getElem?_eq_none h'] at hbk
 have hb2:w2.heap[b]?=some (.cells #[.pointer (some ⟨b,0,none⟩),v] 316 (0,0)):=by
  rw [hgrow.block b hlt (fun e=>hne e.symm)]
  exact hbk
 have d0:w2.cell? ⟨b,0,none⟩=some (.pointer (some ⟨b,0,none⟩)):=by rw [Lib.cell_of_heap hb2]; rfl
 have d1:w2.cell? ⟨b,1,none⟩=some v:=by rw [Lib.cell_of_heap hb2]; rfl
 have f1:w2.frozen? ⟨b,1,none⟩=false:=Lib.frozen_of_heap hb2 1
 obtain ⟨ao,n',cap,rfl⟩:∃ ao n' cap,v' = .slice ao n' cap:=by
  rcases hown'.2 with ⟨hv,_⟩ | ⟨g,cap,cur,hv,_⟩
  ·exact ⟨_,_,_,hv⟩
  ·exact ⟨_,_,_,hv⟩
 have hne':=Lib.ownBlock_ne hown' hb2 (T:=316) (by decide)
 go_wp2
 go_ret2
 have hbut:=HB.out
 have hsz:=HZ.out
 refine ⟨rfl,⟨_,by simp [World.setCell,Array.getElem?_modify,hb2],?_,hne'⟩,⟨⟨(show _=_ from hgrow.os).trans hbut.1.1,(show _=_ from hgrow.output).trans hbut.1.2⟩,?_,fun k hk hkb=>?_⟩⟩
 ·have := hown'.kept (w':=w2.setCell ⟨b,1,none⟩ (.slice ao n' cap)) (row:=some b) ⟨rfl,rfl,rfl,by simp [World.setCell],fun k _ hk=>Below.heap_setCell _ _ _ _ (fun e=>hk (by simp [e]))⟩ (.inr hne')
  simpa [Lib.strCells_length] using this
 ·have := hgrow.size
  simp [World.setCell]
  omega
 ·rw [Below.heap_setCell _ _ _ _ hkb,hgrow.block k (by omega) (fun e=>by have := (hown.lt k e.symm).1; omega)]
  exact hbut.2.2 k hk hkb
end Go.Ev.Bld
end
section
namespace Go.Ev.Code
open Go Go.Ev Go.Proofs Go.RowKit Go.Extern
variable {w0:World}
noncomputable def T1:Tab:=⟨Oc [(GU,Wx),(Gw,Qu),(jO,Ep),(mM,Hz)],ah2 [(strconv_Itoa,ap1)]⟩
theorem Vo {α:Type}:∀ {l:List (Nat×α)} {n:Nat} {e:α},Oc l n=some e→(n,e)∈l
 | [],n,e,h=>by simp [Oc] at h
 | (i,x)::r,n,e,h=>by
   simp only [Oc,cond_eq_ite] at h
   split at h
   ·rename_i hi
    have := Nat.eq_of_beq_eq_true hi
    subst this
    simp at h
    subst h
    simp
   ·exact List.mem_cons_of_mem _ (Vo h)
theorem arG:Tryz.prog.follows .mixedOrders=true:=by kernel_rfl
theorem aF0:XL Tryz.prog GU Wx=true:=by kernel_rfl
theorem aF1:XL Tryz.prog Gw Qu=true:=by kernel_rfl
theorem aF2:XL Tryz.prog jO Ep=true:=by kernel_rfl
theorem aF3:XL Tryz.prog mM Hz=true:=by kernel_rfl
theorem aAP (hT:Go.Lib.TabIs Tryz.prog w0 "internal/strconv.uint64pow10" IntKind.u64 Go.Lib.pow10Tab):apQ Tryz.prog w0 T1:=by
 refine ⟨arG,fun f ef h=>?_,fun f _ args m r m' h=>?_⟩
 ·have := Vo h
  simp only [List.mem_cons,Prod.mk.injEq,List.not_mem_nil,or_false] at this
  rcases this with ⟨rfl,rfl⟩ | ⟨rfl,rfl⟩ | ⟨rfl,rfl⟩ | ⟨rfl,rfl⟩
  ·exact aF0
  ·exact aF1
  ·exact aF2
  ·exact aF3
 ·unfold T1 ah2 at h
  simp only at h
  split at h
  ·rename_i p hp
   have := Vo hp
   simp only [List.mem_cons,Prod.mk.injEq,List.not_mem_nil,or_false] at this
   obtain ⟨rfl,rfl⟩:=this
   exact auX hT args m r m' h
  ·simp at h
theorem U_.calls {P:Program} {f:Nat} {vs:Array Value} {w:World} {Φ:Ending→World→Prop} (hfn:rX P f) (h:U_ P f vs w Φ):Calls P f vs w Φ:=by
 rcases h with ⟨_,h⟩ | ⟨v,w',h,_⟩
 ·exact h
 ·obtain ⟨fn,h1,h2,h3⟩:=hfn
  rw [ZE h1 h2 h3] at h
  simp at h
def whole (w:World):Ctx:=⟨fun _=>False,fun _=>(0,0),fun _=>0,fun b=>b<w.heap.size,w⟩
theorem ayK (w:World):Inv (whole w) [] :=
 ⟨fun i h=>h.elim,fun b h=>h,fun i cells h=>by simp at h,fun i cells h=>by simp at h,fun i j ci cj h=>by simp at h,fun i cells h=>by simp at h,fun i j ci cj h=>by simp at h⟩
theorem awP (w:World):Base w (whole w):=fun b hb=>⟨hb,rfl⟩
theorem ayB {w:World} {c':Ctx} {m':Mem} (h:Step (whole w) [] c' m'):Grew w c'.w :=
 ⟨h.out,h.size,fun b hb=>h.frame b hb (by rintro (⟨i,cells,h,_⟩ | ⟨i,cells,h,_⟩) <;> simp at h)⟩
theorem aeR {T:Tab} {w:World} (hT:apQ Tryz.prog w T) {f:Nat} (hfn:rX Tryz.prog f) {n:Nat} {args:List D} {d:D} (h:(T.nO n).call f args=some d) {vs:List Value} (hr:FL (whole w).S w args vs) :
  Calls Tryz.prog f vs.toArray w fun e w'=>∃ (v:Value) (c':Ctx),e = .returned v∧c'.w=w'∧F c'.S w' d v∧Grew w w':=by
 have ho:=ayg hT n
 have hc:=agy (P:=Tryz.prog) (w0:=w) (O:=T.nO n) (f:=f) (args:=args) (d:=d) (c:=whole w) (m:=[]) (fun r m' h=>ho.calls.a f args [] r m' h) (awP w) (ayK w) hr (ho.calls.p _ _ _ h)
 refine (U_.calls hfn hc).mono ?_
 rintro e w' ⟨v,c',rfl,rfl,hF,hi,hs⟩
 exact ⟨v,c',rfl,rfl,hF,ayB hs⟩
def aw8 (w:World) (e:Ending) (w':World):Prop:=∃ blk st cap,e = .returned (.slice (some ⟨blk,st,none⟩) 2 cap)∧2≤cap∧w'.cell? ⟨blk,st,none⟩=some (.string ⟨#[97]⟩)∧w'.cell? ⟨blk,st+1,none⟩=some (.string ⟨#[98]⟩)∧Grew w w'
theorem awO:(T1.nO 30).call GU [.iface kN ah']=some (.sl 2 [.str [97],.str [98]]):=by kernel_rfl
theorem awN {w:World} {v:Value} (hT:Go.Lib.TabIs Tryz.prog w "internal/strconv.uint64pow10" IntKind.u64 Go.Lib.pow10Tab) (hF:F (whole w).S w ah' v):Calls Tryz.prog 320 #[.iface 157 v] w (aw8 w):=by
 refine (aeR (aAP hT) (here _ _ Tryz.func320 (by kernel_rfl)) awO (vs:=[.iface 157 v]) (.cons (.iface _ _ _ hF) .nil)).mono ?_
 rintro e w' ⟨u,c',rfl,rfl,hF',hg⟩
 rcases (Rep.b_ _ _ hF':Rep c' _ u).GH with ⟨h0,_⟩ | ⟨blk,st,cap,vals,T,fr,g,rfl,hcap,hS,hb,hgg,hgr⟩
 ·simp at h0
 ·have g0:=(hgg 0 (by simp)).1
  have g1:=(hgg 1 (by simp)).1
  have e0:g 0 = .string ⟨#[97]⟩:=(Rep.b_ _ _ (hgr 0 _ rfl):Rep c' (.str [97]) (g 0)).jv
  have e1:g 1 = .string ⟨#[98]⟩:=(Rep.b_ _ _ (hgr 1 _ rfl):Rep c' (.str [98]) (g 1)).jv
  rw [e0] at g0
  rw [e1] at g1
  exact ⟨blk,st,cap,rfl,hcap,by simpa [World.cell?,hb] using g0,by simpa [World.cell?,hb] using g1,hg⟩
theorem awn:(T1.nO 30).call mM [.int .i64 4]=some (.str [101,114,114,111,114,32,52]):=by kernel_rfl
theorem awm {w:World} (hT:Go.Lib.TabIs Tryz.prog w "internal/strconv.uint64pow10" IntKind.u64 Go.Lib.pow10Tab):Calls Tryz.prog 346 #[.int .i64 4] w fun e w'=>e = .returned (.string ⟨#[101,114,114,111,114,32,52]⟩)∧Grew w w':=by
 refine (aeR (aAP hT) (here _ _ Tryz.func346 (by kernel_rfl)) awn (vs:=[.int .i64 4]) (.cons (.int _ _) .nil)).mono ?_
 rintro e w' ⟨u,c',rfl,rfl,hF',hg⟩
 have : u=_:=(Rep.b_ _ _ hF':Rep c' (.str [101,114,114,111,114,32,52]) u).jv
 subst this
 exact ⟨rfl,hg⟩
theorem av6 {w w3 w4:World} (h:Grew w w3) (k:Below w.heap.size w3.drew w4):Grew w w4 :=
 ⟨⟨k.os.trans h.1.1,k.output.trans h.1.2⟩,Nat.le_trans h.2.1 k.size,fun b hb=>(k.block b hb).trans (h.2.2 b hb)⟩
theorem aAJ {w w':World} {name:String} {k:IntKind} {zs:List Int} (hT:Go.Lib.TabIs Tryz.prog w name k zs) (hg:Grew w w'):Go.Lib.TabIs Tryz.prog w' name k zs:=by
 unfold Go.Lib.TabIs World.var? at hT ⊢
 rw [Option.bind_eq_some_iff] at hT ⊢
 obtain ⟨g,hgn,hT⟩:=hT
 refine ⟨g,hgn,?_⟩
 have hlt:g<w.heap.size:=by
  rcases Nat.lt_or_ge g w.heap.size with h1 | h1
  ·exact h1
  ·simp [Array.getElem?_eq_none h1] at hT
 rw [hg.2.2 g hlt]; exact hT
set_option maxHeartbeats 4000000 in
set_option maxRecDepth 100000 in
theorem avT {w:World} {p:Addr} (hT:Go.Lib.TabIs Tryz.prog w "internal/strconv.uint64pow10" IntKind.u64 Go.Lib.pow10Tab) (hF:F (whole w).S w ah' (.pointer (some p))) (hp:w.cell? p=some (.int .i64 4)) :
  Calls Tryz.prog 343 #[.pointer (some p)] w fun e w'=>e = .returned (.string ⟨#[97,58,32,98,58,32,101,114,114,111,114,32,52]⟩)∧Grew w w':=by
 have hpl:p.block<w.heap.size:=by
  rcases Nat.lt_or_ge p.block w.heap.size with h | h
  ·exact h
  ·simp [World.cell?,Array.getElem?_eq_none h] at hp
 have hT1:=Go.Lib.tabIs_alloc hT (.cells #[.pointer none,.slice none 0 0] 316)
 have hF1:F (whole (w.alloc (.cells #[.pointer none,.slice none 0 0] 316))).S (w.alloc (.cells #[.pointer none,.slice none 0 0] 316)) ah' (.pointer (some p)) :=
  hF.mono (fun b hb=>by show b<_; simp; exact Nat.lt_succ_of_lt hb) (fun b hb=>Below.heap_alloc _ _ _ hb)
 have HT:=Lib.hid hT1
 have HF:=Lib.hid hF1
 clear hT1 hF1
 go_enter Tryz.func343,Tryz.ntmps343
 go_wp2_with (go_at_call 320; refine (awN HT.out HF.out).mono ?_)
 rintro e w1 ⟨blk,st,cap,rfl,hcap,k0,k1,hg1⟩
 have hb1:w1.heap[w.heap.size]?=some (.cells #[.pointer none,.slice none 0 0] 316 (0,0)):=by
  rw [hg1.2.2 w.heap.size (by simp)]
  exact heap_alloc_new w _
 have hsz1:w.heap.size+1≤w1.heap.size:=by have := hg1.2.1; simpa using this
 have hblk:blk<w1.heap.size:=by
  rcases Nat.lt_or_ge blk w1.heap.size with h | h
  ·exact h
  ·simp [World.cell?,Array.getElem?_eq_none h] at k0
 have hne:blk≠w.heap.size:=by
  rintro rfl
  simp only [World.cell?,hb1] at k0
  match st,k0 with
  | 0,k0=>simp at k0
  | 1,k0=>simp at k0
  | n+2,k0=>simp at k0
 have X0:Bld.akG w.heap.size w1.heap.size (.pointer none) [] w1:=⟨_,hb1,World.ownsRow_nil _ _ _ _,by simp [Value.ownBlock]⟩
 have HG1:=Lib.hid hg1
 have HB1:=Lib.hid hb1
 clear hg1 hb1
 go_wp2
 refine wp_loop_rounds 3 ?_
 rw [rounds_succ]
 go_wp2_with (go_at_call 258; refine (Bld.writeString w.heap.size w1.heap.size (.pointer none) [] ⟨#[97,58,32]⟩ _ X0 (.inl rfl) (by omega) (by decide) (Nat.le_refl _)).mono ?_)
 rintro e w2 ⟨rfl,X1,hbut1⟩
 have k2:w2.cell? ⟨blk,st+1,none⟩=some (.string ⟨#[98]⟩):=by
  rw [← k1]
  simp only [World.cell?,hbut1.2.2 blk hblk hne]
 have HB2:=Lib.hid hbut1
 have hz2:=hbut1.2.1
 clear hbut1
 go_wp2
 rw [rounds_succ]
 go_wp2_with (go_at_call 258; refine (Bld.writeString w.heap.size w1.heap.size (.pointer (some ⟨w.heap.size,0,none⟩)) _ ⟨#[98,58,32]⟩ _ X1 (.inr rfl) (by omega) (by decide) hz2).mono ?_)
 rintro e w3 ⟨rfl,X2,hbut2⟩
 have HB3:=Lib.hid hbut2
 clear hbut2
 go_wp2
 rw [rounds_succ]
 go_wp2
 have hbut2:=HB3.out
 have hbut1:=HB2.out
 have hg1:=HG1.out
 have hlt1:w.heap.size<w1.heap.size:=by omega
 have old3:∀ b,b<w.heap.size→w3.heap[b]?=w.heap[b]?:=fun b hb=>by
  rw [hbut2.2.2 b (by omega) (by omega),hbut1.2.2 b (by omega) (by omega),hg1.2.2 b (by simp; omega)]
  exact Below.heap_alloc _ _ _ hb
 have G3:Grew w w3:=⟨⟨hbut2.1.1.trans (hbut1.1.1.trans hg1.1.1),hbut2.1.2.trans (hbut1.1.2.trans hg1.1.2)⟩,by have := hbut2.2.1; omega,old3⟩
 have c3:w3.cell? p=some (.int .i64 4):=by
  rw [← hp]; simp only [World.cell?,old3 _ hpl]
 have X3:Go.Lib.IsBuilder 316 5 w.heap.size w.heap.size (Go.Lib.byteCells [97,58,32,98,58,32]) w3:=by
  obtain ⟨v,h1,h2,h3⟩:=X2
  refine .inr ⟨Nat.le_refl _,v,h1,?_,h3⟩
  refine ⟨h2.1,h2.2.imp id ?_⟩
  rintro ⟨g,cp,cur,q1,q2,q3⟩
  exact ⟨g,cp,cur,q1,by omega,q3⟩
 have HG3:=Lib.hid G3
 have X3d:Go.Lib.IsBuilder 316 5 w.heap.size w.heap.size (Go.Lib.byteCells [97,58,32,98,58,32]) w3.drew:=X3.imp (fun h=>h.drew) (fun h=>h.drew)
 have HX3:=Lib.hid X3d
 have HO3:=Lib.hid old3
 have HT0:=Lib.hid hT
 clear hbut2 hbut1 hg1 old3 G3 X3d X3 X2 X1 X0 hz2 k2 k1 k0 hT
 have HC3:=Lib.hid c3
 go_region_with (first
  | (go_at_call 260; refine (Tryz.Builder_String w.heap.size w.heap.size [97,58,32,98,58,32] _ HX3.out (by decide)).mono ?_; rintro e w4 ⟨rfl,hbl4⟩; have c4:w4.cell? p=some (.int .i64 4):=(hbl4.cell hpl).trans HC3.out; have HG4:=Lib.hid (av6 HG3.out hbl4); clear hbl4)
  | (go_at_call 346; refine (awm (aAJ HT0.out HG4.out)).mono ?_; rintro e w5 ⟨rfl,hg5⟩; have HG5:=Lib.hid (Grew.trans HG4.out hg5); clear hg5))
 all_goals
  go_wp2
  go_ret
  exact ⟨rfl,HG5.out⟩
theorem azD (hT:Go.Lib.TabIs Tryz.prog w0 "internal/strconv.uint64pow10" IntKind.u64 Go.Lib.pow10Tab):jD Tryz.prog w0 wF ar4:=by
 intro args m r m' h
 unfold ar4 at h
 split at h <;> try (simp at h; done)
 rename_i t
 split at h <;> try (simp at h; done)
 rename_i ht
 subst ht
 simp only [Option.some.injEq,Prod.mk.injEq] at h
 obtain ⟨rfl,rfl⟩:=h
 refine JE (here _ _ Tryz.func343 (by kernel_rfl)) fun cx vs hB hi hr=>?_
 obtain ⟨v,rfl,hv⟩:=LM hr
 obtain ⟨blk,st,cs,T,fr,g,rfl,hS,hb,hg,hgr⟩:=hv.Hg
 have h0:=(hg 0 (by simp)).1
 have hv0:g 0 = .int .i64 4:=(Rep.b_ _ _ (hgr 0 _ rfl):Rep cx (.int .i64 4) (g 0)).cu
 rw [hv0] at h0
 have hF:F cx.S cx.w ah' (.pointer (some ⟨blk,st+0,none⟩)) := .ref _ 0 blk st cs T fr g hS hb hg hgr
 have hF2:F (whole cx.w).S cx.w ah' (.pointer (some ⟨blk,st+0,none⟩)):=hF.mono (fun b hb=>hi.lt b hb) (fun _ _=>rfl)
 exact ⟨_,fun c'=>Hl _,avT (asL hB hT) hF2 (by simpa [World.cell?,hb] using h0)⟩
end Go.Ev.Code
end
