/- A part of the proof of priceWait_card. -/
import Derived.Deep.RegionHeld3
import Derived.Test.YtlnjbdkgdocjeaaGreatDoorCJoin
import Derived.Test.YtlnjbdkgdocjeaaGreatDoorCBld
set_option linter.unusedVariables false
set_option linter.unusedSimpArgs false
namespace Go.Ev.Code
open Go Go.Ev Go.Proofs Go.RowKit Go.Extern
variable {w0:World}
noncomputable def T1:Tab:=⟨EL [(zH,LZ),(zk,G7),(h_,x9),(jJ,Aa)],ZW [(strconv_Itoa,ahE)]⟩
theorem KO {α:Type}:∀ {l:List (Nat×α)} {n:Nat} {e:α},EL l n=some e→(n,e)∈l
 | [],n,e,h=>by simp [EL] at h
 | (i,x)::r,n,e,h=>by
   simp only [EL,cond_eq_ite] at h
   split at h
   ·rename_i hi
    have := Nat.eq_of_beq_eq_true hi
    subst this
    simp at h
    subst h
    simp
   ·exact List.mem_cons_of_mem _ (KO h)
theorem ai7:Tryz.prog.follows .mixedOrders=true:=by kernel_rfl
theorem axo:NV Tryz.prog zH LZ=true:=by kernel_rfl
theorem axp:NV Tryz.prog zk G7=true:=by kernel_rfl
theorem axq:NV Tryz.prog h_ x9=true:=by kernel_rfl
theorem axr:NV Tryz.prog jJ Aa=true:=by kernel_rfl
theorem arz (hT:Go.Lib.TabIs Tryz.prog w0 "internal/strconv.uint64pow10" IntKind.u64 Go.Lib.pow10Tab):ahv Tryz.prog w0 T1:=by
 refine ⟨ai7,fun f ef h=>?_,fun f _ args m r m' h=>?_⟩
 ·have := KO h
  simp only [List.mem_cons,Prod.mk.injEq,List.not_mem_nil,or_false] at this
  rcases this with ⟨rfl,rfl⟩ | ⟨rfl,rfl⟩ | ⟨rfl,rfl⟩ | ⟨rfl,rfl⟩
  ·exact axo
  ·exact axp
  ·exact axq
  ·exact axr
 ·unfold T1 ZW at h
  simp only at h
  split at h
  ·rename_i p hp
   have := KO hp
   simp only [List.mem_cons,Prod.mk.injEq,List.not_mem_nil,or_false] at this
   obtain ⟨rfl,rfl⟩:=this
   exact alC hT args m r m' h
  ·simp at h
theorem KD.calls {P:Program} {f:Nat} {vs:Array Value} {w:World} {Φ:Ending→World→Prop} (hfn:mW P f) (h:KD P f vs w Φ):Calls P f vs w Φ:=by
 rcases h with ⟨_,h⟩ | ⟨v,w',h,_⟩
 ·exact h
 ·obtain ⟨fn,h1,h2,h3⟩:=hfn
  rw [Qp h1 h2 h3] at h
  simp at h
def whole (w:World):Ctx:=⟨fun _=>False,fun _=>(0,0),fun _=>0,fun b=>b<w.heap.size,w⟩
theorem apc (w:World):Inv (whole w) [] :=
 ⟨fun i h=>h.elim,fun b h=>h,fun i cells h=>by simp at h,fun i cells h=>by simp at h,fun i j ci cj h=>by simp at h,fun i cells h=>by simp at h,fun i j ci cj h=>by simp at h⟩
theorem anr (w:World):Base w (whole w):=fun b hb=>⟨hb,rfl⟩
theorem ao6 {w:World} {c':Ctx} {m':Mem} (h:Step (whole w) [] c' m'):Grew w c'.w :=
 ⟨h.out,h.size,fun b hb=>h.frame b hb (by rintro (⟨i,cells,h,_⟩ | ⟨i,cells,h,_⟩) <;> simp at h)⟩
theorem WY {T:Tab} {w:World} (hT:ahv Tryz.prog w T) {f:Nat} (hfn:mW Tryz.prog f) {n:Nat} {args:List D} {d:D} (h:(T.jU n).call f args=some d) {vs:List Value} (hr:FL (whole w).S w args vs) :
  Calls Tryz.prog f vs.toArray w fun e w'=>∃ (v:Value) (c':Ctx),e = .returned v∧c'.w=w'∧F c'.S w' d v∧Grew w w':=by
 have ho:=aoK hT n
 have hc:=Yr (P:=Tryz.prog) (w0:=w) (O:=T.jU n) (f:=f) (args:=args) (d:=d) (c:=whole w) (m:=[]) (fun r m' h=>ho.calls.a f args [] r m' h) (anr w) (apc w) hr (ho.calls.p _ _ _ h)
 refine (KD.calls hfn hc).mono ?_
 rintro e w' ⟨v,c',rfl,rfl,hF,hi,hs⟩
 exact ⟨v,c',rfl,rfl,hF,ao6 hs⟩
def anJ (w:World) (e:Ending) (w':World):Prop:=∃ blk st cap,e = .returned (.slice (some ⟨blk,st,none⟩) 2 cap)∧2≤cap∧w'.cell? ⟨blk,st,none⟩=some (.string ⟨#[97]⟩)∧w'.cell? ⟨blk,st+1,none⟩=some (.string ⟨#[98]⟩)∧Grew w w'
theorem anq:(T1.jU 30).call zH [.iface iU aaf]=some (.sl 2 [.str [97],.str [98]]):=by kernel_rfl
theorem anp {w:World} {v:Value} (hT:Go.Lib.TabIs Tryz.prog w "internal/strconv.uint64pow10" IntKind.u64 Go.Lib.pow10Tab) (hF:F (whole w).S w aaf v):Calls Tryz.prog 276 #[.iface 128 v] w (anJ w):=by
 refine (WY (arz hT) (here _ _ Tryz.func276 (by kernel_rfl)) anq (vs:=[.iface 128 v]) (.cons (.iface _ _ _ hF) .nil)).mono ?_
 rintro e w' ⟨u,c',rfl,rfl,hF',hg⟩
 rcases (Rep.bG _ _ hF':Rep c' _ u).zu with ⟨h0,_⟩ | ⟨blk,st,cap,vals,T,fr,g,rfl,hcap,hS,hb,hgg,hgr⟩
 ·simp at h0
 ·have g0:=(hgg 0 (by simp)).1
  have g1:=(hgg 1 (by simp)).1
  have e0:g 0 = .string ⟨#[97]⟩:=(Rep.bG _ _ (hgr 0 _ rfl):Rep c' (.str [97]) (g 0)).gu
  have e1:g 1 = .string ⟨#[98]⟩:=(Rep.bG _ _ (hgr 1 _ rfl):Rep c' (.str [98]) (g 1)).gu
  rw [e0] at g0
  rw [e1] at g1
  exact ⟨blk,st,cap,rfl,hcap,by simpa [World.cell?,hb] using g0,by simpa [World.cell?,hb] using g1,hg⟩
theorem amX:(T1.jU 30).call jJ [.int .i64 4]=some (.str [101,114,114,111,114,32,52]):=by kernel_rfl
theorem amW {w:World} (hT:Go.Lib.TabIs Tryz.prog w "internal/strconv.uint64pow10" IntKind.u64 Go.Lib.pow10Tab):Calls Tryz.prog 314 #[.int .i64 4] w fun e w'=>e = .returned (.string ⟨#[101,114,114,111,114,32,52]⟩)∧Grew w w':=by
 refine (WY (arz hT) (here _ _ Tryz.func314 (by kernel_rfl)) amX (vs:=[.int .i64 4]) (.cons (.int _ _) .nil)).mono ?_
 rintro e w' ⟨u,c',rfl,rfl,hF',hg⟩
 have : u=_:=(Rep.bG _ _ hF':Rep c' (.str [101,114,114,111,114,32,52]) u).gu
 subst this
 exact ⟨rfl,hg⟩
theorem amD {w w3 w4:World} (h:Grew w w3) (k:Below w.heap.size w3.drew w4):Grew w w4 :=
 ⟨⟨k.os.trans h.1.1,k.output.trans h.1.2⟩,Nat.le_trans h.2.1 k.size,fun b hb=>(k.block b hb).trans (h.2.2 b hb)⟩
theorem arn {w w':World} {name:String} {k:IntKind} {zs:List Int} (hT:Go.Lib.TabIs Tryz.prog w name k zs) (hg:Grew w w'):Go.Lib.TabIs Tryz.prog w' name k zs:=by
 unfold Go.Lib.TabIs World.var? at hT ⊢
 rw [Option.bind_eq_some_iff] at hT ⊢
 obtain ⟨g,hgn,hT⟩:=hT
 refine ⟨g,hgn,?_⟩
 have hlt:g<w.heap.size:=by
  rcases Nat.lt_or_ge g w.heap.size with h1 | h1
  ·exact h1
  ·simp [Array.getElem?_eq_none h1] at hT
 rw [hg.2.2 g hlt]; exact hT
set_option maxHeartbeats 4000000 in
set_option maxRecDepth 100000 in
theorem amr {w:World} {p:Addr} (hT:Go.Lib.TabIs Tryz.prog w "internal/strconv.uint64pow10" IntKind.u64 Go.Lib.pow10Tab) (hF:F (whole w).S w aaf (.pointer (some p))) (hp:w.cell? p=some (.int .i64 4)) :
  Calls Tryz.prog 311 #[.pointer (some p)] w fun e w'=>e = .returned (.string ⟨#[97,58,32,98,58,32,101,114,114,111,114,32,52]⟩)∧Grew w w':=by
 have hpl:p.block<w.heap.size:=by
  rcases Nat.lt_or_ge p.block w.heap.size with h | h
  ·exact h
  ·simp [World.cell?,Array.getElem?_eq_none h] at hp
 have hT1:=Go.Lib.tabIs_alloc hT (.cells #[.pointer none,.slice none 0 0] 267)
 have hF1:F (whole (w.alloc (.cells #[.pointer none,.slice none 0 0] 267))).S (w.alloc (.cells #[.pointer none,.slice none 0 0] 267)) aaf (.pointer (some p)) :=
  hF.mono (fun b hb=>by show b<_; simp; exact Nat.lt_succ_of_lt hb) (fun b hb=>Below.heap_alloc _ _ _ hb)
 have HT:=Lib.hid hT1
 have HF:=Lib.hid hF1
 clear hT1 hF1
 go_enter Tryz.func311,Tryz.ntmps311
 go_wp2_with (go_at_call 276; refine (anp HT.out HF.out).mono ?_)
 rintro e w1 ⟨blk,st,cap,rfl,hcap,k0,k1,hg1⟩
 have hb1:w1.heap[w.heap.size]?=some (.cells #[.pointer none,.slice none 0 0] 267 (0,0)):=by
  rw [hg1.2.2 w.heap.size (by simp)]
  exact heap_alloc_new w _
 have hsz1:w.heap.size+1≤w1.heap.size:=by have := hg1.2.1; simpa using this
 have hblk:blk<w1.heap.size:=by
  rcases Nat.lt_or_ge blk w1.heap.size with h | h
  ·exact h
  ·simp [World.cell?,Array.getElem?_eq_none h] at k0
 have hne:blk≠w.heap.size:=by
  rintro rfl
  simp only [World.cell?,hb1] at k0
  match st,k0 with
  | 0,k0=>simp at k0
  | 1,k0=>simp at k0
  | n+2,k0=>simp at k0
 have X0:Bld.acH w.heap.size w1.heap.size (.pointer none) [] w1:=⟨_,hb1,World.ownsRow_nil _ _ _ _,by simp [Value.ownBlock]⟩
 have HG1:=Lib.hid hg1
 have HB1:=Lib.hid hb1
 clear hg1 hb1
 go_wp2
 refine wp_loop_rounds 3 ?_
 rw [rounds_succ]
 go_wp2_with (go_at_call 198; refine (Bld.writeString w.heap.size w1.heap.size (.pointer none) [] ⟨#[97,58,32]⟩ _ X0 (.inl rfl) (by omega) (by decide) (Nat.le_refl _)).mono ?_)
 rintro e w2 ⟨rfl,X1,hbut1⟩
 have k2:w2.cell? ⟨blk,st+1,none⟩=some (.string ⟨#[98]⟩):=by
  rw [← k1]
  simp only [World.cell?,hbut1.2.2 blk hblk hne]
 have HB2:=Lib.hid hbut1
 have hz2:=hbut1.2.1
 clear hbut1
 go_wp2
 rw [rounds_succ]
 go_wp2_with (go_at_call 198; refine (Bld.writeString w.heap.size w1.heap.size (.pointer (some ⟨w.heap.size,0,none⟩)) _ ⟨#[98,58,32]⟩ _ X1 (.inr rfl) (by omega) (by decide) hz2).mono ?_)
 rintro e w3 ⟨rfl,X2,hbut2⟩
 have HB3:=Lib.hid hbut2
 clear hbut2
 go_wp2
 rw [rounds_succ]
 go_wp2
 have hbut2:=HB3.out
 have hbut1:=HB2.out
 have hg1:=HG1.out
 have hlt1:w.heap.size<w1.heap.size:=by omega
 have old3:∀ b,b<w.heap.size→w3.heap[b]?=w.heap[b]?:=fun b hb=>by
  rw [hbut2.2.2 b (by omega) (by omega),hbut1.2.2 b (by omega) (by omega),hg1.2.2 b (by simp; omega)]
  exact Below.heap_alloc _ _ _ hb
 have G3:Grew w w3:=⟨⟨hbut2.1.1.trans (hbut1.1.1.trans hg1.1.1),hbut2.1.2.trans (hbut1.1.2.trans hg1.1.2)⟩,by have := hbut2.2.1; omega,old3⟩
 have c3:w3.cell? p=some (.int .i64 4):=by
  rw [← hp]; simp only [World.cell?,old3 _ hpl]
 have X3:Go.Lib.IsBuilder 267 5 w.heap.size w.heap.size (Go.Lib.byteCells [97,58,32,98,58,32]) w3:=by
  obtain ⟨v,h1,h2,h3⟩:=X2
  refine .inr ⟨Nat.le_refl _,v,h1,?_,h3⟩
  refine ⟨h2.1,h2.2.imp id ?_⟩
  rintro ⟨g,cp,cur,q1,q2,q3⟩
  exact ⟨g,cp,cur,q1,by omega,q3⟩
 have HG3:=Lib.hid G3
 have X3d:Go.Lib.IsBuilder 267 5 w.heap.size w.heap.size (Go.Lib.byteCells [97,58,32,98,58,32]) w3.drew:=X3.imp (fun h=>h.drew) (fun h=>h.drew)
 have HX3:=Lib.hid X3d
 have HO3:=Lib.hid old3
 have HT0:=Lib.hid hT
 clear hbut2 hbut1 hg1 old3 G3 X3d X3 X2 X1 X0 hz2 k2 k1 k0 hT
 have HC3:=Lib.hid c3
 go_region_with (first
  | (go_at_call 200; refine (Tryz.Builder_String w.heap.size w.heap.size [97,58,32,98,58,32] _ HX3.out (by decide)).mono ?_; rintro e w4 ⟨rfl,hbl4⟩; have c4:w4.cell? p=some (.int .i64 4):=(hbl4.cell hpl).trans HC3.out; have HG4:=Lib.hid (amD HG3.out hbl4); clear hbl4)
  | (go_at_call 314; refine (amW (arn HT0.out HG4.out)).mono ?_; rintro e w5 ⟨rfl,hg5⟩; have HG5:=Lib.hid (Grew.trans HG4.out hg5); clear hg5))
 all_goals
  go_wp2
  go_ret
  exact ⟨rfl,HG5.out⟩
theorem ap7 (hT:Go.Lib.TabIs Tryz.prog w0 "internal/strconv.uint64pow10" IntKind.u64 Go.Lib.pow10Tab):gQ Tryz.prog w0 qg ajm:=by
 intro args m r m' h
 unfold ajm at h
 split at h <;> try (simp at h; done)
 rename_i t
 split at h <;> try (simp at h; done)
 rename_i ht
 subst ht
 simp only [Option.some.injEq,Prod.mk.injEq] at h
 obtain ⟨rfl,rfl⟩:=h
 refine BN (here _ _ Tryz.func311 (by kernel_rfl)) fun cx vs hB hi hr=>?_
 obtain ⟨v,rfl,hv⟩:=Dj hr
 obtain ⟨blk,st,cs,T,fr,g,rfl,hS,hb,hg,hgr⟩:=hv.zT
 have h0:=(hg 0 (by simp)).1
 have hv0:g 0 = .int .i64 4:=(Rep.bG _ _ (hgr 0 _ rfl):Rep cx (.int .i64 4) (g 0)).bg
 rw [hv0] at h0
 have hF:F cx.S cx.w aaf (.pointer (some ⟨blk,st+0,none⟩)) := .ref _ 0 blk st cs T fr g hS hb hg hgr
 have hF2:F (whole cx.w).S cx.w aaf (.pointer (some ⟨blk,st+0,none⟩)):=hF.mono (fun b hb=>hi.lt b hb) (fun _ _=>rfl)
 exact ⟨_,fun c'=>zU _,amr (ajS hB hT) hF2 (by simpa [World.cell?,hb] using h0)⟩
end Go.Ev.Code
