/- A part of the proof of priceWait_card. -/
import Derived.Maps.RangeWalk
import Derived.Test.YtlnjbdkgdocjeaaGreatDoorCPrimsC
set_option linter.unusedVariables false
set_option linter.unusedSimpArgs false
section
namespace Go.Ev.CalJoin
open Go Go.Proofs Go.RowKit Go.Maps
theorem aqh:Keyed Tryz.prog 3:=int_keyed Tryz.underlying3
def IsB (v:Value):Prop:=∃ c:Bool,v = .bool c
theorem ae1 {H:Type} {P:Program} (w:World) {ops:Array Oper} {rest:List Oper} {o:Oper} {a:Act} {Q:Exit→Act→World→Prop} (hg:o.guard=none) (it:Operand) (hop:o.op=Op.next it false) (k e:TypeId) (qk:IntKind) (K:Keyed P k)
  (hk:P.underlying k=some (.int qk)) (he:P.underlying e=some .bool) (b r n:Nat) (D:DataW H) (left:Lit→Bool) (cnt:Nat) (hit:a.eval it = .pointer (some ⟨r,0,none⟩)) (h:w.ranges P k (plainElem P e) b r n D left cnt)
  (hDone:cnt=0→(∀ kl,left kl=false)→wpList P ops Q rest (a.put o.dst (.tuple #[.bool false])) w)
  (hMore:∀ (x:Int) (c:Value) (w':World) (cnt':Nat),IsB c→(Lit.int qk x).wf=true→w'.ranges P k (plainElem P e) b r n D (fun z=>left z && !z.sameKey (.int qk x)) cnt'→cnt'<cnt →
   w.grownBy w' (some r)→w'.heap.size=w.heap.size→(Instr.entry (.pointer (some ⟨r,0,none⟩))).run P w' = .ok (.tuple #[.int qk x,c]) w'→wpList P ops Q rest (a.put o.dst (.tuple #[.bool true,.int qk x,c])) w') :
  wpList P ops Q (o::rest) a w:=by
 refine wpList_next_ranges w hg it hop k K (plainElem P e) (Value.int qk) Value.bool (fun key kl hk'=>?_) (fun v y hy=>?_) b r n D left cnt hit h hDone (fun x c kl y w' cnt' hkey hlk hv hat hrg hlt hgr hsz hen=>?_)
 ·obtain ⟨x,rfl,_⟩:=keyOf_int_inv hk hk'
  exact ⟨x,rfl⟩
 ·unfold plainElem at hy
  rw [he] at hy
  cases v <;> simp at hy
  exact ⟨_,rfl⟩
 ·obtain ⟨x',hx',rfl,hwf⟩:=keyOf_int_inv hk hkey
  have : x=x':=by simpa using hx'
  subst this
  exact hMore x (.bool c) w' cnt' ⟨c,rfl⟩ hwf hrg hlt hgr hsz hen
theorem aa0 {w:World} {b:Nat} {o:Obj} (h:w.heap[b]?=some o):b<w.heap.size:=(Array.getElem?_eq_some_iff.1 h).1
set_option maxHeartbeats 4000000 in
set_option maxRecDepth 100000 in
theorem aqg (b o cap:Nat) (p:Addr) (mb n:Nat) (D0:DataW Unit) (w:World) (h0:w.cell? ⟨b,o,none⟩=some (.pointer (some p))) (h1:w.cell? ⟨b,o+1,none⟩=some (.pointer none)) (hp:w.cell? p=some (.map (some mb)))
  (hown:w.ownsMap Tryz.prog 3 (plainElem Tryz.prog 4) mb n D0) (hmax:Maps.size D0≤maxLen) :
  Calls Tryz.prog 119 #[.slice (some ⟨b,o,none⟩) 2 cap] w fun e w'=>e = .returned (.pointer (some ⟨w.heap.size+1,0,none⟩))∧Below w.heap.size w w'∧w'.heap[w.heap.size+1]?=some (.cells #[.map (some w.heap.size)] 226 (0,0)):=by
 have hmm := @run_makeMap Tryz.prog
 have hbl:=hown.lt
 have hlt0:b<w.heap.size:=by
  rcases Nat.lt_or_ge b w.heap.size with h | h
  ·exact h
  ·simp [World.cell?,Array.getElem?_eq_none h] at h0
 have hltp:p.block<w.heap.size:=by
  rcases Nat.lt_or_ge p.block w.heap.size with h | h
  ·exact h
  ·simp [World.cell?,Array.getElem?_eq_none h] at hp
 go_enter Tryz.func119,Tryz.ntmps119
 go_wp2
 refine wp_loop_rounds 3 ?_
 rw [rounds_succ]
 go_wp2_with (at_range; refine wpList_range_own _ rfl _ 224 rfl 3 4 aqh Tryz.underlying224 _ mb n _ rfl ((hown.alloc _).alloc _) ?_; intro w1 hrg0 hg0 hs0)
 go_frame
 have e1:((w.alloc (.map #[] 0)).alloc (.cells #[.map (some w.heap.size)] 226)).heap.size=w.heap.size+1+1:=by simp
 rw [e1] at hrg0 hs0 ⊢
 have hbelow:Below w.heap.size w w1:=(((Below.refl _ _).alloc (Nat.le_refl _) _).alloc (by simp) _).grown hg0 (by simp; omega) (fun j hj=>by cases hj)
 have hc0:w1.heap[w.heap.size+1]?=some (.cells #[.map (some w.heap.size)] 226 (0,0)):=by
  rw [hg0.block (w.heap.size+1) (by simp) (by simp)]
  have := heap_alloc_new (w.alloc (.map #[] 0)) (.cells #[.map (some w.heap.size)] 226)
  simpa using this
 have hm0:w1.ownsMap Tryz.prog 3 (plainElem (H:=Unit) Tryz.prog 4) w.heap.size (Maps.size D0-Maps.size D0) (.map []):=(((World.ownsMap_made w _ _ _).alloc _).kept hg0 (by simp)).mono (Nat.zero_le _)
 go_loopw [6] (fun _ wr=>∃ (left:Lit→Bool) (cnt:Nat) (Dout:DataW Unit),wr.ranges Tryz.prog 3 (plainElem Tryz.prog 4) mb (w.heap.size+1+1) n D0 left cnt∧cnt≤Maps.size D0 ∧
   wr.ownsMap Tryz.prog 3 (plainElem Tryz.prog 4) w.heap.size (Maps.size D0-cnt) Dout∧Below w.heap.size w wr∧wr.heap[w.heap.size+1]?=some (.cells #[.map (some w.heap.size)] 226 (0,0)))
  (fun _ wr=>wr.rangeLeft mb (w.heap.size+1+1))
 case atStart=>exact ⟨_,_,.map [],hrg0,Nat.le_refl _,hm0,hbelow,hc0⟩
 case round =>
  obtain ⟨left,cnt,Dout,hrg,hcs,hout,hnx,hcc⟩:=hrel
  go_wp2_with (first
   | (at_next; refine ae1 _ rfl _ rfl 3 4 .i64 aqh Tryz.underlying3 Tryz.underlying4 mb (w.heap.size+1+1) n _ _ _ rfl hrg ?_ ?_)
   | go_in)
  ·intro hc0 hl0
   have g1:wr.cell? ⟨b,o+1,none⟩=some (.pointer none):=by rw [hnx.cell (p:=⟨b,o+1,none⟩) hlt0]; exact h1
   go_wp2
   rw [rounds_succ]
   go_wp2
   rw [rounds_succ]
   go_wp2
   go_ret
   exact ⟨rfl,hnx,hcc⟩
  ·intro x c w2 cnt1 hIB hwx hrg1 hlt hg1 hs1 hen
   have hout1:=hout.kept hg1 (by simp; omega)
   have hcc1:w2.heap[w.heap.size+1]?=some (.cells #[.map (some w.heap.size)] 226 (0,0)):=by
    rw [hg1.block (w.heap.size+1) (aa0 hcc) (by simp)]; exact hcc
   have hce:w2.cell? ⟨w.heap.size+1,0,none⟩=some (.map (some w.heap.size)):=by simp [World.cell?,hcc1]
   go_wp2_with (first
    | (at_mapUpdate; refine wpList_mapUpdate_own _ rfl _ _ _ 224 rfl 3 4 aqh Tryz.underlying224 _ w.heap.size _ _ rfl hout1 (by omega) _ _ _ rfl rfl (keyOf_int_mk Tryz.underlying3 hwx) _ [] (plainElem_bool Tryz.underlying4 true) ?_; intro w3 hout2 hg2; go_frame)
    | go_in)
   have hrg2:=hrg1.kept hg2 (fun e=>by have := Option.some.inj e; omega) (fun e=>by have := Option.some.inj e; omega)
   have hcc2:w3.heap[w.heap.size+1]?=some (.cells #[.map (some w.heap.size)] 226 (0,0)):=by
    rw [hg2.block (w.heap.size+1) (aa0 hcc1) (by simp)]; exact hcc1
   go_roundw
   case rel =>
    exact ⟨_,cnt1,_,hrg2,by omega,hout2.mono (by omega),
     (hnx.grown hg1 hnx.size (fun j hj=>by cases hj; omega)).grown hg2 (by have := hnx.size; omega) (fun j hj=>by cases hj; exact Nat.le_refl _),hcc2⟩
   case measure=>rw [hrg2.left_eq,hrg.left_eq]; exact hlt
end Go.Ev.CalJoin
end
section
namespace Go.Ev.Code
open Go Go.Ev Go.Proofs Go.RowKit Go.Extern
variable {w0:World}
theorem ato {w:World} {b:Nat} {es:Array MapEntry} {clk:Nat} {ks:List Int} (hb:w.heap[b]?=some (.map es clk)) (hm:Z4 es clk ks) (hl:ks.length≤1000000) (hr:∀ k∈ks,-9223372036854775808≤k∧k≤9223372036854775807) :
  ∃ D0:DataW Unit,w.ownsMap Tryz.prog 3 (plainElem Tryz.prog 4) b es.size D0∧Maps.size D0≤maxLen:=by
 obtain ⟨h1,h2,h3⟩:=hm
 refine ⟨_,⟨es,clk,hb,⟨by unfold maxLen; omega,h2,fun x hx=>?_⟩,Nat.le_refl _,rfl⟩,?_⟩
 ·obtain ⟨hv,k,hk,hin⟩:=h1.1 x hx
  have hwf:(Lit.int .i64 k).wf=true:=by
   have := hr k hin
   simp [Lit.wf,IntKind.wrap,IntKind.signed,IntKind.bits,IntKind.min,IntKind.max]
   omega
  refine ⟨(.int .i64 k,.lit (.bool true)),?_⟩
  unfold WideElems.rd
  rw [hk,hv,Maps.keyOf_int_mk Tryz.underlying3 hwf,plainElem_bool Tryz.underlying4]
  rfl
 ·show Maps.size _≤maxLen
  have : Maps.size (.map ((es.toList.map (WideElems.rg Tryz.prog 3 (plainElem (H:=Unit) Tryz.prog 4))).foldr DataW.insert []))=es.size:=by
   simp [Maps.size,length_sorted]
  rw [this]
  unfold maxLen; omega
theorem aqf:gQ Tryz.prog w0 Pe ajn:=by
 have hfn:mW Tryz.prog Pe:=here _ _ Tryz.func119 (by kernel_rfl)
 intro args m r m' h
 unfold ajn at h
 split at h <;> try (simp at h; done)
 rename_i ks
 split at h <;> try (simp at h; done)
 rename_i hc
 obtain ⟨hl,hr⟩:=hc
 simp only [Option.some.injEq,Prod.mk.injEq] at h
 obtain ⟨rfl,rfl⟩:=h
 refine fun cx vs hB hi hrep => .inl ⟨hfn,?_⟩
 obtain ⟨v,rfl,hv⟩:=Dj hrep
 rcases hv.zu with ⟨h0,_,_⟩ | ⟨blk,st,cap,vals,T,fr,g,rfl,hcap,hS,hb,hg,hgr⟩
 ·omega
 ·have g0:=(hg 0 (by simp)).1
  have g1:=(hg 1 (by simp)).1
  have r0:Rep cx (.ref [.nZ ks] 0) (g 0) := .bG _ _ (hgr 0 _ rfl)
  have r1:g 1 = .pointer none:=(Rep.bG _ _ (hgr 1 _ rfl):Rep cx .fZ (g 1)).yD
  obtain ⟨blk1,st1,cs1,T1,fr1,g',e0,hS1,hb1,hg1,hgr1⟩:=r0.zT
  have q0:=(hg1 0 (by simp)).1
  have rm:Rep cx (.nZ ks) (g' 0) := .bG _ _ (hgr1 0 _ rfl)
  obtain ⟨mb,es,clk,em,hSm,hbm,hmok⟩:=rm.ace
  rw [e0] at g0
  rw [r1] at g1
  rw [em] at q0
  obtain ⟨D0,hown,hmax⟩:=ato hbm hmok hl (fun k hk=>by
   have := List.all_eq_true.1 hr k hk
   simpa using this)
  refine (CalJoin.aqg blk st cap ⟨blk1,st1+0,none⟩ mb es.size D0 cx.w (by simpa [World.cell?,hb] using g0) (by simpa [World.cell?,hb] using g1) (by simpa [World.cell?,hb1] using q0) hown hmax).mono ?_
  rintro e w' ⟨rfl,hbl,hcell⟩
  obtain ⟨h1,h2⟩:=hi.more (fun b=>cx.S b∨b=cx.w.heap.size+1) w' (fun _ h => .inl h) (fun b h=>h.imp id (fun e=>by omega)) (by
   rintro b (h | rfl)
   ·exact Nat.lt_of_lt_of_le (hi.lt b h) hbl.size
   ·exact lt_of_heap hcell) hbl.size hbl.block ⟨hbl.os,hbl.output⟩
  refine ⟨_,_,rfl,rfl,?_,h1,h2⟩
  refine .bG _ _ ?_
  have := F.ref (S:=fun b=>cx.S b∨b=cx.w.heap.size+1) (w:=w') [] 0 (cx.w.heap.size+1) 0 _ _ _ (fun _ => .nilIface) (.inr rfl) hcell (fun j hj=>by simp at hj) (fun j d hd=>by simp at hd)
  exact this
end Go.Ev.Code
end
