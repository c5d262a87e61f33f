/- A part of the proof of priceWait_card. -/
import Derived.Test.YtlnjbdkgdocjeaaGreatDoorChecked
import Derived.Lib.Strings
import Derived.Lib.Slices
import Derived.Lib.Walk
import Derived.Lib.Builder
import Derived.Lib.UnsafeStr
import Derived.Lib.MakeNoZero
import Derived.WalkKit
import Derived.Lib.Hide
set_option linter.unusedVariables false
set_option linter.unusedSimpArgs false
namespace Go.Ev.Bld
open Go Go.Proofs Go.RowKit
theorem arC:(Tryz.prog.info? 267).map (·.size)=some 2:=by kernel_rfl
theorem avM:liesAt Tryz.prog Tryz.prog.depth 267 (2 / Tryz.prog.cellsOf 267) 0 267 1=true:=by kernel_rfl
theorem infoByte:(Tryz.prog.info? 5).map (fun i=>(i.zero,i.size,i.bytes))=some (some (.int .u8 0),1,1):=by kernel_rfl
set_option maxHeartbeats 1000000 in
set_option maxRecDepth 100000 in
theorem aeG (b:Nat) (w:World) (h0:w.cell? ⟨b,0,none⟩=some (.pointer (some ⟨b,0,none⟩))) :
  Calls Tryz.prog 240 #[.pointer (some ⟨b,0,none⟩)] w fun e w'=>e = .returned (.tuple #[])∧w'=w:=by
 obtain ⟨j,hj,_⟩:=Option.map_eq_some_iff.1 arC
 go_enter Tryz.func240,Tryz.ntmps240
 go_wp2
 rw [Lib.run_neq_ptr_same w _ Tryz.underlying264 hj]
 go_wp2
 go_end0
 exact ⟨rfl,rfl⟩
set_option maxHeartbeats 1000000 in
set_option maxRecDepth 100000 in
theorem ac2 (b:Nat) (w:World) (h0:w.cell? ⟨b,0,none⟩=some (.pointer none)) (hsh:w.shape? b=some (267,2)) (hfz:w.frozen? ⟨b,0,none⟩=false) :
  Calls Tryz.prog 240 #[.pointer (some ⟨b,0,none⟩)] w fun e w'=>e = .returned (.tuple #[])∧w'=w.setCell ⟨b,0,none⟩ (.pointer (some ⟨b,0,none⟩)):=by
 obtain ⟨j,hj,hjs⟩:=Option.map_eq_some_iff.1 arC
 go_enter Tryz.func240,Tryz.ntmps240
 go_wp2
 rw [Lib.run_to_unsafe w ⟨b,0,none⟩ Tryz.underlying264 Tryz.underlying185 hj (by rw [hjs]; decide) hsh (Nat.zero_lt_succ 1)]
 simp only [Result.andThen]
 rw [Oper.upon_value]
 go_wp2
 rw [run_callFunc_extern Tryz.func262 (by kernel_rfl) (by kernel_rfl) (by kernel_rfl) (e:=Extern.AbiNoEscape.same) (by kernel_rfl)]
 rw [Lib.run_noEscape]
 simp only [Result.andThen]
 rw [Oper.upon_value]
 go_wp2
 rw [Lib.run_from_unsafe w ⟨b,0,none⟩ Tryz.underlying185 Tryz.underlying264 hj hsh avM]
 simp only [Result.andThen]
 rw [Oper.upon_value]
 go_wp2
 go_end0
 exact ⟨rfl,rfl⟩
def acH (b B:Nat) (p:Value) (bs:List Value) (w:World):Prop :=
 ∃ v,w.heap[b]?=some (.cells #[p,v] 267 (0,0))∧w.ownsRow B 5 1 v bs.length bs∧v.ownBlock≠some b
def Used (b:Nat) (p:Value):Prop:=p = .pointer none∨p = .pointer (some ⟨b,0,none⟩)
def But (b B:Nat) (w w':World):Prop:=(w'.os=w.os∧w'.output=w.output)∧w.heap.size≤w'.heap.size∧∀ k,k<B→k≠b→w'.heap[k]?=w.heap[k]?
theorem copyCheck (b B:Nat) (p:Value) (bs:List Value) (w:World) (h:acH b B p bs w) (hp:Used b p) (hbB:b<B) :
  Calls Tryz.prog 240 #[.pointer (some ⟨b,0,none⟩)] w fun e w'=>e = .returned (.tuple #[])∧acH b B (.pointer (some ⟨b,0,none⟩)) bs w'∧But b B w w'∧w'.heap.size=w.heap.size:=by
 obtain ⟨v,hb,hown,hne⟩:=h
 rcases hp with rfl | rfl
 ·refine (ac2 b w (by simp [World.cell?,hb]) (by simp [World.shape?,hb]) (by simp [World.frozen?,hb])).mono ?_
  rintro e w' ⟨rfl,rfl⟩
  refine ⟨rfl,⟨v,by simp [World.setCell,Array.getElem?_modify,hb],?_,hne⟩,⟨⟨rfl,rfl⟩,by simp [World.setCell],fun k _ hk=>Below.heap_setCell _ _ _ _ hk⟩,by simp [World.setCell]⟩
  exact hown.kept (row:=some b) ⟨rfl,rfl,rfl,by simp [World.setCell],fun k _ hk=>Below.heap_setCell _ _ _ _ (fun e=>hk (by simp [e]))⟩ (.inr hne)
 ·refine (aeG b w (by simp [World.cell?,hb])).mono ?_
  rintro e w' ⟨rfl,rfl⟩
  exact ⟨rfl,⟨v,hb,hown,hne⟩,⟨⟨rfl,rfl⟩,Nat.le_refl _,fun _ _ _=>rfl⟩,rfl⟩
set_option maxHeartbeats 2000000 in
set_option maxRecDepth 100000 in
theorem writeString (b B:Nat) (p:Value) (bs:List Value) (s:ByteArray) (w:World) (h:acH b B p bs w) (hp:Used b p) (hbB:b<B) (hlen:bs.length+s.size≤140737488355328) (hBw:B≤w.heap.size) :
  Calls Tryz.prog 198 #[.pointer (some ⟨b,0,none⟩),.string s] w fun e w'=>e = .returned (.tuple #[.int .i64 s.size,.nilIface])∧acH b B (.pointer (some ⟨b,0,none⟩)) (bs++Lib.strCells s) w'∧But b B w w':=by
 obtain ⟨i0,hi,hz0,hz1,hz2⟩:=info_parts infoByte
 go_enter Tryz.func198,Tryz.ntmps198
 go_wp2_with (go_at_call 240; refine (copyCheck b B p bs _ h hp hbB).mono ?_)
 rintro e w1 ⟨rfl,⟨v,hbk,hown,hne⟩,hbut,hsz⟩
 have c0:w1.cell? ⟨b,0,none⟩=some (.pointer (some ⟨b,0,none⟩)):=by rw [Lib.cell_of_heap hbk]; rfl
 have c1:w1.cell? ⟨b,1,none⟩=some v:=by rw [Lib.cell_of_heap hbk]; rfl
 have HB:=Lib.hid hbut
 have HZ:=Lib.hid hsz
 clear hbut hsz
 go_wp2_with (at_builtin; refine Lib.wpList_append_own_string _ rfl _ _ 265 9 rfl B 5 i0 Tryz.underlying265 Tryz.underlying9 hi hz0 hz1 hz2 _ _ _ rfl hown s rfl ?c3 ?c4 ?c5 ?_)
 case c3=>unfold maxLen; omega
 case c4=>omega
 case c5=>have := HZ.out; omega
 intro v' w2 hown' hgrow _
 have hlt:b<w1.heap.size:=by
  rcases Nat.lt_or_ge b w1.heap.size with h' | h'
  ·exact h'
  ·simp [Array.getElem?_eq_none h'] at hbk
 have hb2:w2.heap[b]?=some (.cells #[.pointer (some ⟨b,0,none⟩),v] 267 (0,0)):=by
  rw [hgrow.block b hlt (fun e=>hne e.symm)]
  exact hbk
 have d0:w2.cell? ⟨b,0,none⟩=some (.pointer (some ⟨b,0,none⟩)):=by rw [Lib.cell_of_heap hb2]; rfl
 have d1:w2.cell? ⟨b,1,none⟩=some v:=by rw [Lib.cell_of_heap hb2]; rfl
 have f1:w2.frozen? ⟨b,1,none⟩=false:=Lib.frozen_of_heap hb2 1
 obtain ⟨ao,n',cap,rfl⟩:∃ ao n' cap,v' = .slice ao n' cap:=by
  rcases hown'.2 with ⟨hv,_⟩ | ⟨g,cap,cur,hv,_⟩
  ·exact ⟨_,_,_,hv⟩
  ·exact ⟨_,_,_,hv⟩
 have hne':=Lib.ownBlock_ne hown' hb2 (T:=267) (by decide)
 go_wp2
 go_ret2
 have hbut:=HB.out
 have hsz:=HZ.out
 refine ⟨rfl,⟨_,by simp [World.setCell,Array.getElem?_modify,hb2],?_,hne'⟩,⟨⟨(show _=_ from hgrow.os).trans hbut.1.1,(show _=_ from hgrow.output).trans hbut.1.2⟩,?_,fun k hk hkb=>?_⟩⟩
 ·have := hown'.kept (w':=w2.setCell ⟨b,1,none⟩ (.slice ao n' cap)) (row:=some b) ⟨rfl,rfl,rfl,by simp [World.setCell],fun k _ hk=>Below.heap_setCell _ _ _ _ (fun e=>hk (by simp [e]))⟩ (.inr hne')
  simpa [Lib.strCells_length] using this
 ·have := hgrow.size
  simp [World.setCell]
  omega
 ·rw [Below.heap_setCell _ _ _ _ hkb,hgrow.block k (by omega) (fun e=>by have := (hown.lt k e.symm).1; omega)]
  exact hbut.2.2 k hk hkb
end Go.Ev.Bld
