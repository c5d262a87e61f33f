/- A part of the proof of priceAll_card, yieldAll_card, priceSum_card, flowAll_card, accrAll_card. -/
import Derived.Test.YtfkdcfbleblgoaaGreatDoorRows
import Derived.ProofKit
import Derived.OpenShut
import Derived.LaidMore
import Derived.Lay
import Derived.HandedShaped
import Derived.LaidSub
import Derived.Lib.LaidU8
import Derived.SevenTiedAt
import Derived.Test.YtfkdcfbleblgoaaGreatDoorCWhole
import Derived.Test.YtfkdcfbleblgoaaGreatDoorCSpD1
set_option linter.unusedVariables false
set_option linter.unusedSimpArgs false
section
namespace Go.Ev.Code
open Go Go.Ev Go.Proofs Go.ChangeShapes Go.WideShapes Go.RowKit
theorem own':ownKnob Tryz.prog.godebug=none:=by kernel_rfl
theorem laidOut':laidOutB Tryz.prog=true:=by kernel_rfl
theorem ahT {w:World} {name:String} {k:IntKind} {zs:List Int} {g:Nat} {t e:TypeId} {n:Nat}
  (hg:Tryz.prog.globalNamed name=some g) (hty:(Tryz.prog.globals[g]?).map (·.type)=some t) (ht:Tryz.prog.underlying t=some (.array n e)) (he:Tryz.prog.underlying e=some (.int k)) (hce:Tryz.prog.cellsOf e=1) (hct:Tryz.prog.cellsOf t=n)
  (h:Go.Lib.VarReads Tryz.prog w name (Go.Lib.tabData k zs)):Go.Lib.TabIs Tryz.prog w name k zs:=by
 obtain ⟨g',t',cs,fuel,p,hg',ht',hvar,hd⟩:=h
 obtain rfl:=Option.some.inj (hg.symm.trans hg')
 obtain rfl:=Option.some.inj (hty.symm.trans ht')
 unfold Go.Lib.TabIs
 rw [hvar,← Go.Lib.cells_of_tab ht he hce hct hd]
theorem aFx:Tryz.prog.globalNamed "errors.errorType" = some 0:=by kernel_rfl
theorem aFX:(Tryz.prog.cutTypes.find? (·.1 == "internal/reflectlite.rtype")).map (·.2)=some 287:=by kernel_rfl
theorem aBX:((List.range Tryz.prog.types.size).filter fun t=>Tryz.prog.rowNamed t [101,114,114,111,114])=[28]:=by kernel_rfl
theorem amj {w:World} {l:List (String×DataW Unit)} (h:handlesMet Tryz.prog l w) (hm:("errors.errorType",(DataW.iface "internal/reflectlite.rtype" (.agg [.ptr (.lit (.string [101,114,114,111,114]))]):DataW Unit))∈l):ErrAs.lJ w:=by
 have h1:=h _ hm
 change ∃ name u ty,_ at h1
 obtain ⟨name,u,ty,e1,e2,e3,e4,e5⟩:=h1
 have en:name=[101,114,114,111,114]:=(Option.some.inj e1).symm
 subst en
 obtain rfl:=Option.some.inj (aFX.symm.trans e2)
 have hm:ty∈(List.range Tryz.prog.types.size).filter fun t=>Tryz.prog.rowNamed t [101,114,114,111,114]:=List.mem_filter.2 ⟨List.mem_range.2 e3,e4⟩
 rw [aBX] at hm
 obtain rfl:=List.mem_singleton.1 hm
 have hh:typeHandle Tryz.prog 28 = .pointer (some ⟨16,28,none⟩):=by kernel_rfl
 rw [hh] at e5
 unfold ErrAs.lJ
 simpa using World.var?_cell aFx e5 0
theorem adO {w:World} {l:List (String×DataW Unit)} (hs:w.ShapedOpen Tryz.prog) (h:laidMetH Tryz.prog l w)
  (h1:("errors.errorType",(DataW.iface "internal/reflectlite.rtype" (.agg [.ptr (.lit (.string [101,114,114,111,114]))]):DataW Unit))∈l.filter fun x=>x.2.handleName?.isSome)
  (h2:("math/bits.deBruijn64tab",(Go.Lib.tabData .u8 (Go.Lib.deBruijn64tab.map Int.ofNat):DataW Unit))∈l.filter fun x=>x.2.handleName?.isNone)
  (h3:("internal/strconv.uint64pow10",(Go.Lib.tabData .u64 Go.Lib.pow10Tab:DataW Unit))∈l.filter fun x=>x.2.handleName?.isNone):Vars w:=by
 obtain ⟨hl,hh⟩:=laidMetH_iff.1 h
 have k2:=ahT (g:=9) (t:=367) (e:=5) (n:=64) (by kernel_rfl) (by kernel_rfl) (by kernel_rfl) (by kernel_rfl) (by kernel_rfl) (by kernel_rfl) (Go.Lib.laidMet.reads hl h2)
 have k3:=ahT (g:=8) (t:=359) (e:=113) (n:=20) (by kernel_rfl) (by kernel_rfl) (by kernel_rfl) (by kernel_rfl) (by kernel_rfl) (by kernel_rfl) (Go.Lib.laidMet.reads hl h3)
 refine ⟨amj hh h1,?_,fun j hj=>?_,k3⟩
 ·exact cell_of_shapedOpen_int (t:=3) (zero := #[.int .i64 0]) hs (of_decide_eq_true (by kernel_rfl)) (by kernel_rfl) rfl (by kernel_rfl) (by kernel_rfl) (by kernel_rfl)
 ·have := Go.Lib.TabIs.cell k2 (g:=9) (by kernel_rfl) j (by simpa using hj)
  rw [this]
  simp [List.getD,hj]
theorem afM {H:Type} {enc:TypeId×Value→H} {W W':World} (hg:Grew W W'):∀ {ts:List TypeId} {vs:List Value} {ds:List (DataW H)} {ps:List MemPlace},
  (∀ t∈ts,Tryz.prog.readableRec t=true∧t<Tryz.prog.types.size)→(∀ x∈ps,x.block<W.heap.size)→DataW.TrodAll enc Tryz.prog W 0 (fun _=>true) true ts vs ds ps →
  DataW.TrodAll enc Tryz.prog W' 0 (fun b=>decide (b<W.heap.size)) true ts vs ds ps
 | [],[],[],_,_,_,h=>h
 | t::ts,v::vs,d::ds,ps,ht,hlt,h=>by
   obtain ⟨p,q,h1,h2,rfl⟩:=h
   have same:∀ x∈p,W.sameAt W' x:=fun x hx=>by
    have hb:=hlt x (List.mem_append_left _ hx)
    cases x with
    | cell b o=>exact World.cell?_of_block (w:=W) (hg.2.2 b hb)
    | map b=>exact hg.2.2 b hb
   exact ⟨p,q,WideElems.Trod_stays laidOut' (ht t (by simp)).1 (ht t (by simp)).2 h1 same (fun x hx=>by simpa using hlt x (List.mem_append_left _ hx)),
    afM hg (fun t h=>ht t (by simp [h])) (fun x hx=>hlt x (List.mem_append_right _ hx)) h2,rfl⟩
 | [],[],_::_,_,_,_,h=>h.elim
 | [],_::_,[],_,_,_,h=>h.elim
 | [],_::_,_::_,_,_,_,h=>h.elim
 | _::_,[],[],_,_,_,h=>h.elim
 | _::_,[],_::_,_,_,_,h=>h.elim
 | _::_,_::_,[],_,_,_,h=>h.elim
theorem ajr {H:Type} {enc:TypeId×Value→H} {P:Program} {W:World} {b:Nat} {sp:Nat→Bool} {hd:Bool}:∀ {ts:List TypeId} {vs:List Value} {ds:List (DataW H)} {ps:List MemPlace},DataW.TrodAll enc P W b sp hd ts vs ds ps→vs.length=ts.length∧ds.length=ts.length
 | [],[],[],_,_=>⟨rfl,rfl⟩
 | _::_,_::_,_::_,_,⟨_,_,_,h2,_⟩=>by
   have := ajr h2
   exact ⟨by simp [this.1],by simp [this.2]⟩
 | [],[],_::_,_,h=>h.elim
 | [],_::_,[],_,h=>h.elim
 | [],_::_,_::_,_,h=>h.elim
 | _::_,[],[],_,h=>h.elim
 | _::_,[],_::_,_,h=>h.elim
 | _::_,_::_,[],_,h=>h.elim
set_option maxRecDepth 100000 in
theorem law_lifted {os:Os} (started:os.Started) {H:Type} {enc:TypeId×Value→H} {f:FuncId} {fn:Func} {s:ChangeSpec} {dom:List PathCond} {laid:List (String×DataW Unit)}
  (hvars:s.vars=[]) (hfn:Tryz.prog.funcs[f]?=some fn) (hno:Tryz.prog.inits.idxOf? f=none) (hres:fn.resultTypes = #[4])
  (hread:∀ t∈fn.params.toList,Tryz.prog.readableRec t=true∧t<Tryz.prog.types.size)
  (hspec:∀ ds:List (DataW H),ds.length=fn.params.size→(s.fn H (ds++[])).results=[.lit (.bool true)]∧(s.fn H (ds++[])).args=ds∧(s.fn H (ds++[])).vars=[])
  (hlaid:∀ W:World,W.ShapedOpen Tryz.prog→laidMetH Tryz.prog laid W→Vars W)
  (witness:∃ (w:World) (tape:Tape) (i:Input),w.os=os∧(w.forCall tape i).Shaped Tryz.prog∧i.vars=[]∧Input.okWide Tryz.prog (w.forCall tape i) .any w.heap.size f i ∧
   ((s.pre enc Tryz.prog fn dom false (w.forCall tape i).memory i.args∧laidMetH Tryz.prog laid (w.forCall tape i).memory)∧sizedMet enc Tryz.prog fn (OpenSpec.ofChange s) false (w.forCall tape i).memory i.args)∧({}:Assume).holds Tryz.prog (lone (Frame.enter Tryz.prog f i.args .normal) [] (w.forCall tape i)))
  (hcall:∀ (W:World) (base:Nat) (args:Array Value),Vars W→args.size=fn.params.size→(∀ (j:Nat) t v,fn.params[j]?=some t→args[j]?=some v→Value.okWide Tryz.prog W .any base t v) →
   Calls Tryz.prog f args W fun e W'=>e = .returned (.bool true)∧Grew W W') :
  ReturnsInHanded {} Tryz.checked os f .any (fun w args=>(s.pre enc Tryz.prog fn dom false w args∧laidMetH Tryz.prog laid w)∧sizedMet enc Tryz.prog fn (OpenSpec.ofChange s) false w args)
   (s.post enc Tryz.prog fn false true false false):=by
 refine returnsInHanded_of_calls (C:=Tryz.checked) own' started hno witness ?_
 intro w tape i _ hsh _ hok hpre hholds
 obtain ⟨_,_,_,fn',hfn',_,_,_,hsz,hval⟩:=hok
 have e:fn'=fn:=Option.some.inj (hfn'.symm.trans hfn)
 subst e
 obtain ⟨⟨⟨ds,gs,before,hw,hc⟩,hx⟩,hz⟩:=hpre
 have hW:=DataW.Whole.of_heap (w':=w.forCall tape i) (by rfl) hw
 have hL:laidMetH Tryz.prog laid (w.forCall tape i):=laidMetH.of_heap (by rfl) hx
 refine (hcall (w.forCall tape i) w.heap.size i.args (hlaid _ hsh hL) hsz hval).mono ?_
 rintro e W' ⟨rfl,hg⟩
 refine ChangeSpec.post_blind ?_
 have hlt:=fun x (hx:x∈before)=>hW.lt x hx
 have hW':=hW
 obtain ⟨p,q,hA,hV,rfl,hfz,hnd⟩:=hW
 rw [hvars] at hV
 obtain ⟨rfl,rfl⟩:=trodVars_none hV
 simp only [List.append_nil] at hW' hlt
 have hdl:ds.length=fn'.params.size:=by simpa using (ajr hA).2
 obtain ⟨r1,r2,r3⟩:=hspec ds hdl
 refine ⟨ds,[],p,[],p,[],hW',?_,?_,?_,?_,fun h=>by cases h⟩
 ·have hb:Tryz.prog.underlying 4=some .bool:=by kernel_rfl
  rw [r1,hres]; exact trodAll_mk1 (shut_bool hb true)
 ·rw [r2]; exact afM hg hread hlt hA
 ·rw [hvars,r3]; rfl
 ·refine ⟨hg.1.1,hg.1.2,fun i hi=>?_⟩
  rw [hg.2.2 i hi]
  split <;> simp_all
noncomputable def xH (laid:List (String×DataW Unit)):List (String×DataW Unit):=laid.filter fun x=>x.2.handleName?.isNone
noncomputable def UG (os:Os):World :=
 let w0:=World.holding Tryz.prog os ⟨#[],#[],[]⟩
 { w0 with heap:=w0.heap.modify 0 fun
   | .cells _ t frozen => .cells #[.iface 287 (.agg #[.pointer (some ⟨16,28,none⟩)])] t frozen
   | o=>o }
noncomputable def laidWorld (laid:List (String×DataW Unit)) (os:Os):World:=(UG os).layVars Tryz.prog (xH laid)
theorem Jv (laid:List (String×DataW Unit)) (os:Os):(laidWorld laid os).os=os:=World.layVars_os _ _ _
theorem laidWorld_met {laid:List (String×DataW Unit)} {os:Os} (args:Array Value)
  (hf:(UG os).layFits Tryz.prog (xH laid) []=true)
  (hi:(UG os).layIfaces Tryz.prog (xH laid) (laidWorld laid os)=true)
  (hh:(laid.filter fun x=>x.2.handleName?.isSome).all (handleAtB Tryz.prog ((laidWorld laid os).forCall (fun _ _=>0) ⟨#[],args,[]⟩).memory)=true) :
  laidMetH Tryz.prog laid ((laidWorld laid os).forCall (fun _ _=>0) ⟨#[],args,[]⟩).memory:=by
 refine laidMetH_of_parts ?_ hh
 have e1:((xH laid).filter fun x=>((xH laid).map (·.1)).contains x.1)=xH laid:=List.filter_eq_self.2 fun x hx=>List.contains_iff_mem.2 (List.mem_map.2 ⟨x,hx,rfl⟩)
 have e2:((xH laid).filter fun x => !((xH laid).map (·.1)).contains x.1)=[]:=List.filter_eq_nil_iff.2 fun x hx=>by rw [List.contains_iff_mem.2 (List.mem_map.2 ⟨x,hx,rfl⟩)]; simp
 have h:laidMet Tryz.prog (xH laid) (laidWorld laid os):=laidMet_layVars (w0:=UG os) ((xH laid).map (·.1)) [] (by rw [e1]; rfl) (by rw [e1]; exact hf) (by rw [e1]; exact hi) (by rw [e2]; exact LaidIn.none)
 exact h.of_heap (by simp [World.memory,World.forCall,Input.heap])
end Go.Ev.Code
end
section
set_option maxRecDepth 100000
namespace Go.Ev.Code
open Go Go.Ev Go.Proofs Go.ChangeShapes Go.WideShapes Go.RowKit
theorem Ti {W:World} {b0:Nat} {t:TypeId} {k:IntKind} {v:Value} (ht:Tryz.prog.underlying t=some (.int k)) (h:Cell.okWide Tryz.prog W .any b0 t v):∃ n,v = .int k n:=by
 unfold Cell.okWide at h
 rw [ht] at h
 unfold Cell.ok at h
 rw [ht] at h
 cases v <;> simp_all
theorem axh {W:World} {b0:Nat} {t:TypeId} {v:Value} (ht:Tryz.prog.underlying t=some .bool) (h:Cell.okWide Tryz.prog W .any b0 t v):∃ b,v = .bool b:=by
 unfold Cell.okWide at h
 rw [ht] at h
 unfold Cell.ok at h
 rw [ht] at h
 cases v <;> simp_all
theorem abH {W:World} {b0:Nat} {t:TypeId} {v:Value} (ht:Tryz.prog.underlying t=some .string) (h:Cell.okWide Tryz.prog W .any b0 t v):∃ s,v = .string s:=by
 unfold Cell.okWide at h
 rw [ht] at h
 unfold Cell.ok at h
 rw [ht] at h
 cases v <;> simp_all
theorem ad8 {W:World} {b0:Nat} {v:Value} (h:Value.okWide Tryz.prog W .any b0 23 v):∃ b:aA,F (whole W).S W (aC b) v:=by
 have h0:∃ cs,v = .agg cs∧cs.size=Tryz.prog.cellsOf 23∧Row.okWide Tryz.prog W .any b0 23 cs:=by
  unfold Value.okWide at h
  have hu:(match Tryz.prog.underlying 23 with | some (.struct _)=>true | _=>false)=true:=by kernel_rfl
  generalize Tryz.prog.underlying 23=u at h hu
  split at hu
  ·exact h
  ·cases hu
 obtain ⟨cs,rfl,hsz,ts,hts,_,hall⟩:=h0
 have hts':Tryz.prog.cellTypes Tryz.prog.depth 23=some [3,3,3,9,9,3,3,4,3]:=by kernel_rfl
 obtain rfl:=Option.some.inj (hts'.symm.trans hts)
 have hc:Tryz.prog.cellsOf 23=9:=by kernel_rfl
 rw [hc] at hsz
 have hi:Tryz.prog.underlying 3=some (.int .i64):=by kernel_rfl
 have hs:Tryz.prog.underlying 9=some .string:=by kernel_rfl
 have hb:Tryz.prog.underlying 4=some .bool:=by kernel_rfl
 have at_:∀ i,(hi:i<9)→cs[i]?=some (cs[i]'(by omega)):=fun i hi=>by simp [hsz,hi]
 have cell:∀ i u,(hi:i<9)→([3,3,3,9,9,3,3,4,3]:List TypeId)[i]?=some u→Cell.okWide Tryz.prog W .any b0 u (cs[i]'(by omega)):=fun i u hi hu=>by
  obtain ⟨u',hu',hok⟩:=hall i _ (at_ i hi)
  have e:i % 9=i:=Nat.mod_eq_of_lt hi
  simp only [List.length_cons,List.length_nil] at hu'
  rw [e,hu] at hu'
  cases hu'
  exact hok
 obtain ⟨n0,h0⟩:=Ti hi (cell 0 _ (by decide) rfl)
 obtain ⟨n1,h1⟩:=Ti hi (cell 1 _ (by decide) rfl)
 obtain ⟨n2,h2⟩:=Ti hi (cell 2 _ (by decide) rfl)
 obtain ⟨n3,h3⟩:=abH hs (cell 3 _ (by decide) rfl)
 obtain ⟨n4,h4⟩:=abH hs (cell 4 _ (by decide) rfl)
 obtain ⟨n5,h5⟩:=Ti hi (cell 5 _ (by decide) rfl)
 obtain ⟨n6,h6⟩:=Ti hi (cell 6 _ (by decide) rfl)
 obtain ⟨n7,h7⟩:=axh hb (cell 7 _ (by decide) rfl)
 obtain ⟨n8,h8⟩:=Ti hi (cell 8 _ (by decide) rfl)
 have hv:∀ i v,(hi:i<9)→cs[i]'(by omega)=v→cs[i]?=some v:=fun i v hi h=>by rw [at_ i hi,h]
 refine ⟨⟨n0,n1,n2,n3.data.toList,n4.data.toList,n5,n6,n7,n8⟩,.agg _ _ (fun j=>cs.getD j (.pointer none)) (by simp [ay,hsz]) (fun j hj=>?_) (fun j d hd=>?_)⟩
 ·simp only [ay,List.length_cons,List.length_nil] at hj
  have hg:cs[j]?=some (cs.getD j (.pointer none)):=by rw [at_ j hj]; simp [Array.getD,hsz,hj]
  refine ⟨hg,?_⟩
  have : j=0∨j=1∨j=2∨j=3∨j=4∨j=5∨j=6∨j=7∨j=8:=by omega
  rcases this with rfl | rfl | rfl | rfl | rfl | rfl | rfl | rfl | rfl <;> simp [Array.getD,hsz,h0,h1,h2,h3,h4,h5,h6,h7,h8,Value.oneCell']
 ·have hj:j<9:=by
   have := (List.getElem?_eq_some_iff.1 hd).1
   simpa [ay] using this
  have : j=0∨j=1∨j=2∨j=3∨j=4∨j=5∨j=6∨j=7∨j=8:=by omega
  rcases this with rfl | rfl | rfl | rfl | rfl | rfl | rfl | rfl | rfl <;> simp [ay] at hd <;> subst hd <;> simp [Array.getD,hsz,h0,h1,h2,h3,h4,h5,h6,h7,h8] <;> first | exact .int _ _ | exact .bool _ | exact .str _
theorem u_ {W:World} {b0:Nat} {v:Value} (h:Value.okWide Tryz.prog W .any b0 3 v):∃ n,v = .int .i64 n∧IntKind.i64.has n:=by
 have hu:Tryz.prog.underlying 3=some (.int .i64):=by kernel_rfl
 unfold Value.okWide at h
 rw [hu] at h
 change Cell.okWide _ _ _ _ _ _ at h
 unfold Cell.okWide at h
 rw [hu] at h
 unfold Cell.ok at h
 rw [hu] at h
 cases v <;> simp_all
end Go.Ev.Code
end
