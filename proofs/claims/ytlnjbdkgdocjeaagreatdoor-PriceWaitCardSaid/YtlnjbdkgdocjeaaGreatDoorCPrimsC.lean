/- A part of the proof of priceWait_card. -/
import Derived.Lib.AppendIntMem
import Derived.Test.YtlnjbdkgdocjeaaGreatDoorCPrimsB
set_option linter.unusedVariables false
set_option linter.unusedSimpArgs false
section
namespace Go.Ev.Code
open Go Go.Ev Go.Proofs Go.RowKit Go.Extern
variable {w0:World}
section
open Go.Sort Go.Lib
set_option maxHeartbeats 6400000 in
set_option maxRecDepth 100000 in
theorem akL (u:Nat) (hu64:u<18446744073709551616) (w:World) (htab:Go.Lib.TabIs Tryz.prog w "internal/strconv.uint64pow10" .u64 Go.Lib.pow10Tab) :
  Calls Tryz.prog 194 #[.int .u64 u,.int .i64 10] w fun e w'=>e = .returned (.string ⟨(Go.Lib.decDigits u).toArray⟩)∧Grew w w':=by
 by_cases hs:u<100
 ·go_enter Tryz.func194,Tryz.ntmps194
  go_wp2_with (go_at_call 234; refine (Tryz.internal_strconv_small u hs _).mono ?_; rintro e w' ⟨rfl,rfl⟩)
  go_ret
  exact ⟨rfl,Grew.refl _⟩
 ·have hu1:1≤u:=by omega
  have hnd20:Go.Lib.nDigits u≤20:=by have := Go.Lib.numDigits_eq u hu1 hu64; split at this <;> omega
  have hb3:Go.Lib.nDigits u≤24:=by omega
  have hal:Tryz.prog.arrayLen 295=24:=by simp [Program.arrayLen,Tryz.underlying295]
  have hsl1:∀ W,(Instr.sliceAt 295 (.pointer (some ⟨w.heap.size,0,none⟩)) none (some (.int .i64 (Go.Lib.nDigits u:Int))) none).run Tryz.prog W = .ok (.slice (some ⟨w.heap.size,0,none⟩) (Go.Lib.nDigits u) 24) W:=fun W=>by
   rw [run_sliceAt_array_h W 295 ⟨w.heap.size,0,none⟩ (by simp [Program.arrayLen,Program.elem,Tryz.underlying295]) .i64 (Go.Lib.nDigits u:Int) (by omega) (by rw [hal]; omega)]
   go_simp
   try omega
  have hH0:=Go.Lib.holds_zero0 w 295 (Go.Lib.nDigits u) (by omega)
  have hfmt:=Tryz.internal_strconv_formatBase10 w.heap.size 0 24 u (Array.replicate (Go.Lib.nDigits u) 0) (w.alloc (.cells Go.Lib.zeros24 295)) hH0 (by rw [Array.size_replicate]; exact Go.Lib.lt_pow_nDigits u) hu64 (by rw [Array.size_replicate]; omega)
  rw [Array.size_replicate] at hfmt
  have HH0:=Lib.hid hH0
  clear hH0 hal
  go_enter Tryz.func194,Tryz.ntmps194
  go_wp2_with (first
   | (go_at_call 235; refine (Tryz.internal_strconv_numDigits u hu1 hu64 _ (Go.Lib.tabIs_alloc htab _)).mono ?_; rintro e w' ⟨rfl,rfl⟩))
  go_at_call 236
  refine hfmt.mono ?_
  rintro e w' ⟨rfl,k,v',dk,rfl,hF⟩
  have hcv:(convert 265 9 (.slice (some ⟨w.heap.size,0,none⟩) (Go.Lib.nDigits u) 24)).run Tryz.prog ((putRow (fun (b:UInt8)=>Value.int .u8 (b.toNat:Int)) (w.alloc (.cells Go.Lib.zeros24 295)) w.heap.size 0 dk).drewN k) = .ok (.string ⟨(Go.Lib.decDigits u).toArray⟩) ((putRow (fun (b:UInt8)=>Value.int .u8 (b.toNat:Int)) (w.alloc (.cells Go.Lib.zeros24 295)) w.heap.size 0 dk).drewN k):=by
   have h:=run_convert_bytes_back (P:=Tryz.prog) ((putRow (fun (b:UInt8)=>Value.int .u8 (b.toNat:Int)) (w.alloc (.cells Go.Lib.zeros24 295)) w.heap.size 0 dk).drewN k) 265 9 5 ⟨w.heap.size,0,none⟩ 24 (Go.Lib.decDigits u) Tryz.underlying265 Tryz.underlying5 Tryz.underlying9 (fun j hj=>by
    rw [Go.Lib.row_is_numeral hF j hj,Go.Lib.add_plain,World.cell?_drewN]
    exact cell?_putRow (fun (b:UInt8)=>Value.int .u8 (b.toNat:Int)) _ w.heap.size 0 _ dk HH0.out (by rw [hF.size,Array.size_replicate]) j (by rw [hF.size]; rw [Go.Lib.decDigits_length] at hj; exact hj))
   rw [Go.Lib.decDigits_length] at h
   exact h
  go_wp2
  go_ret
  obtain ⟨os,eo⟩:=Go.Lib.fin_at w (.cells Go.Lib.zeros24 295) dk k 0
  refine ⟨rfl,?_⟩
  rw [eo]
  exact ((Grew.refl _).drewN k).grow os
end
theorem ajS {c:Ctx} {name:String} {k:IntKind} {zs:List Int} (hB:Base w0 c) (hT:Go.Lib.TabIs Tryz.prog w0 name k zs):Go.Lib.TabIs Tryz.prog c.w name k zs:=by
 unfold Go.Lib.TabIs World.var? at hT ⊢
 rw [Option.bind_eq_some_iff] at hT ⊢
 obtain ⟨g,hg,hT⟩:=hT
 refine ⟨g,hg,?_⟩
 have hlt:g<w0.heap.size:=by
  rcases Nat.lt_or_ge g w0.heap.size with h1 | h1
  ·exact h1
  ·simp [Array.getElem?_eq_none h1] at hT
 rw [(hB g hlt).2]; exact hT
theorem akM (u:Nat) (hu64:u<18446744073709551616) (w:World) (htab:Go.Lib.TabIs Tryz.prog w "internal/strconv.uint64pow10" .u64 Go.Lib.pow10Tab) :
  Calls Tryz.prog 148 #[.int .u64 u,.int .i64 10] w fun e w'=>e = .returned (.string ⟨(Go.Lib.decDigits u).toArray⟩)∧Grew w w':=by
 have HT:=Lib.hid htab
 clear htab
 go_enter Tryz.func148,Tryz.ntmps148
 go_wp2_with (go_at_call 194; refine (akL u hu64 _ HT.out).mono ?_; rintro e w' ⟨rfl,hgr⟩)
 go_ret
 exact ⟨rfl,by assumption⟩
theorem aoj (hT:Go.Lib.TabIs Tryz.prog w0 "internal/strconv.uint64pow10" IntKind.u64 Go.Lib.pow10Tab):gQ Tryz.prog w0 fP Vl:=by
 intro args m r m' h
 unfold Vl at h
 split at h <;> try (simp at h; done)
 rename_i x
 split at h <;> try (simp at h; done)
 rename_i hx
 simp only [Option.some.injEq,Prod.mk.injEq] at h
 obtain ⟨rfl,rfl⟩:=h
 refine BN (here _ _ Tryz.func148 (by kernel_rfl)) fun cx vs hB hi hr=>?_
 obtain ⟨v,u,rfl,hv,hu⟩:=Oo hr
 have := hv.bg
 have := hu.bg
 subst v u
 obtain ⟨h0,h1⟩:=hx
 have e1:((x.toNat:Nat):Int)=x:=by omega
 have hc:=akM x.toNat (by omega) cx.w (ajS hB hT)
 rw [e1] at hc
 refine ⟨_,fun c'=>zU _,?_⟩
 rw [aaU (Nat.lt_of_lt_of_le (show x.toNat<18446744073709551616 by omega) (by decide))]
 exact hc
def aus (w:World):Prop:=∀ j,j<Go.Lib.deBruijn64tab.length→w.cell? ⟨5,j,none⟩=some (.int .u8 (Go.Lib.deBruijn64tab.getD j 0))
set_option maxHeartbeats 1000000 in
theorem tz64_core (x k idx:Nat) (w:World) (hx0:((x:Int)==0)=false)
  (key:IntKind.u64.wrap (bits BinOp.and IntKind.u64 (x:Int) (IntKind.u64.wrap (-(x:Int)))*285870213051353865) / 288230376151711744=(idx:Int))
  (hi:idx<64) (hk:k<64) (hcell:w.cell? ⟨5,idx,none⟩=some (.int .u8 k)) :
  Calls Tryz.prog 245 #[.int .u64 x] w fun e w'=>e = .returned (.int .i64 k)∧w'=w:=by
 go_enter Tryz.func245,Tryz.ntmps245
 go_wp2_with (simp only [key])
 go_ret
 exact ⟨rfl,rfl⟩
theorem tz64_zero (w:World):Calls Tryz.prog 245 #[.int .u64 0] w fun e w'=>e = .returned (.int .i64 64)∧w'=w:=by
 go_enter Tryz.func245,Tryz.ntmps245
 go_wp2
 go_ret
 exact ⟨rfl,rfl⟩
theorem agB:∀ (f x:Nat),trail f x=Go.Lib.ctzFrom f x
 | 0,x=>rfl
 | f+1,x=>by
   unfold trail Go.Lib.ctzFrom
   rw [agB f (x / 2)]
   split
   ·rfl
   ·omega
theorem aek:∀ f,trail f 0=f
 | 0=>rfl
 | f+1=>by unfold trail; simp [aek f]
theorem ala (hT:aus w0):gQ Tryz.prog w0 bits_TrailingZeros64 KW:=by
 intro args m r m' h
 unfold KW at h
 split at h <;> try (simp at h; done)
 rename_i x
 split at h <;> try (simp at h; done)
 rename_i hx
 simp only [Option.some.injEq,Prod.mk.injEq] at h
 obtain ⟨rfl,rfl⟩:=h
 obtain ⟨h0,h1⟩:=hx
 refine BN (here _ _ Tryz.func245 (by kernel_rfl)) fun cx vs hB hi hr=>?_
 obtain ⟨v,rfl,hv⟩:=Dj hr
 have := hv.bg
 subst v
 refine ⟨_,fun c'=>uz _ _,?_⟩
 have e1:((x.toNat:Nat):Int)=x:=by omega
 generalize hn:x.toNat=n at *
 subst x
 have hlt:n<18446744073709551616:=by omega
 by_cases hn0:n=0
 ·subst hn0
  rw [aek]
  refine (tz64_zero cx.w).mono ?_
  rintro e w' ⟨rfl,rfl⟩
  exact ⟨rfl,Grew.refl _⟩
 ·obtain ⟨hlow,hk⟩:=Go.Lib.lowest_bit 64 n hn0 hlt
  obtain ⟨hi',htab⟩:=Go.Lib.deBruijn64_at _ hk
  have hcell:=Rz hB (hT _ hi')
  rw [htab] at hcell
  refine (tz64_core n _ _ cx.w (by simp; omega) (tz64_key n _ hlt hn0 hlow) hi' hk hcell).mono ?_
  rintro e w' ⟨rfl,rfl⟩
  refine ⟨?_,Grew.refl _⟩
  rw [agB,show Go.Lib.ctz 64 n=Go.Lib.ctzFrom 64 n from if_neg hn0]
end Go.Ev.Code
end
section
namespace Go.Ev.Code
open Go Go.Ev Go.Proofs Go.RowKit Go.Extern
variable {w0:World}
theorem avL:(Tryz.prog.info? 143).map (fun i=>(i.zero,i.size,i.bytes))=some (some (.int .u64 0),1,8):=by kernel_rfl
theorem av3 (w:World):(Go.sizeOf 143).run Tryz.prog w = .ok 1 w:=by kernel_rfl
theorem afH (b off n c:Nat) (news:List Value) (w:World) (hl:news.length=n) (hn:n≤4294967296) (hc:∀ (j:Nat) (u:Value),news[j]?=some u→w.cell? ⟨b,off+j,none⟩=some u) (ho:∀ u∈news,u.oneCell'=true) :
  Calls Tryz.prog dF #[.slice (some ⟨b,off,none⟩) n c] w fun e w'=>∃ v',e = .returned v'∧w'.ownsRow w.heap.size 143 1 v' n news∧v' ≠ .slice none 0 0∧Below w.heap.size w w':=by
 obtain ⟨i0,hi,hz0,hz1,hz2⟩:=info_parts avL
 exact Tryz.slices_Clone i0 (.int .u64 0) 1 8 hi hz0 hz1 hz2 rfl (by decide) av3 b off n c news w (by omega) (by unfold maxLen; omega) (by omega) hc ho
theorem apY:gQ Tryz.prog w0 dF Zo:=by
 have hfn:mW Tryz.prog dF:=here _ _ Tryz.func146 (by kernel_rfl)
 intro args m r m' h
 unfold Zo at h
 split at h <;> try (simp at h; done)
 ·simp only [Option.some.injEq,Prod.mk.injEq] at h
  obtain ⟨rfl,rfl⟩:=h
  refine fun cx vs hB hi hr => .inl ⟨hfn,?_⟩
  obtain ⟨v,rfl,hv⟩:=Dj hr
  rcases hv.zu with ⟨_,_,rfl⟩ | ⟨blk,st,cap,vals,T,fr,g,rfl,hcap,hS,hb,hg,hgr⟩
  ·refine (Tryz.slices_Clone_nil 0 0 cx.w).mono ?_
   rintro e w' ⟨rfl,rfl⟩
   exact ⟨_,cx,rfl,rfl,.bG _ _ .sl0,hi,.refl cx m⟩
  ·refine (afH blk st 0 cap [] cx.w rfl (by decide) (fun j u hu=>by simp at hu) (fun u hu=>by simp at hu)).mono ?_
   rintro e w' ⟨v',rfl,hown,hne,hbl⟩
   rcases hown.2 with ⟨rfl,_⟩ | ⟨gb,cp,cur,rfl,hge,hgb,hle,_,_,_⟩
   ·exact absurd rfl hne
   ·obtain ⟨h1,h2⟩:=hi.more (fun b=>cx.S b∨b=gb) w' (fun _ h => .inl h) (fun b h=>h.imp id (fun e=>by omega)) (by
     rintro b (h | rfl)
     ·exact Nat.lt_of_lt_of_le (hi.lt b h) hbl.size
     ·exact lt_of_heap hgb) hbl.size hbl.block ⟨hbl.os,hbl.output⟩
    refine ⟨_,_,rfl,rfl,?_,h1,h2⟩
    refine .bG _ _ ?_
    exact .sl 0 [] gb 0 cp cur 143 _ (fun _ => .nilIface) (.inr rfl) (Nat.zero_le _) hgb (fun j hj=>by simp at hj) (fun j d hd=>by simp at hd)
 ·rename_i n cs _
  split at h <;> try (simp at h; done)
  rename_i hc
  obtain ⟨hpos,hlen,hmax⟩:=hc
  simp only [Option.some.injEq,Prod.mk.injEq] at h
  obtain ⟨rfl,rfl⟩:=h
  refine fun cx vs hB hi hr => .inl ⟨hfn,?_⟩
  obtain ⟨v,rfl,hv⟩:=Dj hr
  rcases hv.zu with ⟨h0,_,_⟩ | ⟨blk,st,cap,vals,T,fr,g,rfl,hcap,hS,hb,hg,hgr⟩
  ·omega
  ·have hnews:∀ j:Nat,j<n→((List.range n).map g)[j]?=some (g j):=fun j hj=>by simp [hj]
   refine (afH blk st n cap ((List.range n).map g) cx.w (by simp) hmax (fun j u hu=>?_) (fun u hu=>?_)).mono ?_
   ·have hj:j<n:=by simpa using (List.getElem?_eq_some_iff.1 hu).1
    rw [hnews j hj] at hu
    obtain rfl:=Option.some.inj hu
    have := (hg j (by omega)).1
    simpa [World.cell?,hb] using this
   ·obtain ⟨j,hj,rfl⟩:=List.mem_map.1 hu
    exact (hg j (by have := List.mem_range.1 hj; omega)).2
   ·rintro e w' ⟨v',rfl,hown,hne,hbl⟩
    rcases hown.2 with ⟨rfl,_⟩ | ⟨gb,cp,cur,rfl,hge,hgb,hle,_,hsz,htk⟩
    ·exact absurd rfl hne
    ·obtain ⟨h1,h2⟩:=hi.more cx.S w' (fun _ h=>h) (fun _ h => .inl h) (fun b h=>Nat.lt_of_lt_of_le (hi.lt b h) hbl.size) hbl.size hbl.block ⟨hbl.os,hbl.output⟩
     have hcur:∀ j:Nat,j<n→cur[0+j]?=some (g j):=fun j hj=>by
      have := hnews j hj
      rw [← htk,List.getElem?_take,if_pos (by omega)] at this
      simpa using this
     have h1g:=h1.grow 1
     have hfree:(m++List.replicate 1 Slot.free)[m.length]?=some .free:=by simp
     have hnm:∀ b,Ed cx m b→b<cx.w.heap.size:=by
      rintro b (⟨i,cells,hm,rfl⟩ | ⟨i,ks,hm,rfl⟩)
      ·obtain ⟨_,_,_,_,hb',_⟩:=hi.live i cells hm
       exact lt_of_heap hb'
      ·obtain ⟨_,_,_,_,hb',_⟩:=hi.maps i ks hm
       exact lt_of_heap hb'
     obtain ⟨c',hw,hi',hext,hmut,hS',hL',hβ',hz'⟩:=h1g.ahG hfree gb 0 (fun h=>by have := hi.lt gb h; omega) (fun h=>by have := hnm gb h.grow; omega) cs cur 143 w' rfl (fun _ _=>rfl) hgb (fun j d hd=>by
      have hj:j<cs.length:=(List.getElem?_eq_some_iff.1 hd).1
      exact ⟨g j,hcur j (by omega),(Rep.bG _ _ (hgr j d hd):Rep cx d (g j)).mono h2.ext,(hg j hj).2⟩)
     have hset:(m++List.replicate 1 Slot.free).set m.length (.live cs)=m++[.live cs]:=by
      rw [List.set_append_right _ _ (Nat.le_refl _)]; simp
     rw [hset] at hi' hmut
     refine ⟨_,c',rfl,hw,?_,hi',?_⟩
     ·have hrep:=Rep.aG (c:=c') m.length 0 n 1 cp ⟨gb,0,none⟩ hL' hle ⟨by rw [hβ'],rfl⟩ (.inr ⟨by rw [hβ'],by rw [hβ',hz']; simp; omega⟩)
      exact hrep
     ·refine ⟨h2.ext.trans hext,by rw [hw]; exact hbl.size,fun b hb' _=>by rw [hw]; exact hbl.block b hb',fun b hb'=>?_,fun b hb' => .inl (by rw [hS'] at hb'; exact hb'),by rw [hw]; exact ⟨hbl.os,hbl.output⟩⟩
      rcases hmut b hb' with rfl | hm
      ·exact .inl hge
      ·exact .inr hm.grow
end Go.Ev.Code
end
