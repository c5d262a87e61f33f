/- The law AccrDay holds of the given program for every input, as its card says it. Conditions: those of the row. -/
import Derived.Test.YtechakbhjeieaaaGreatDoorTie
import Derived.Test.YtechakbhjeieaaaGreatDoorCards
import Derived.Test.YtechakbhjeieaaaGreatDoorCFrame
import Derived.Test.YtechakbhjeieaaaGreatDoorCWalkAccrDay
import Derived.Test.YtechakbhjeieaaaGreatDoorCBegun13
set_option linter.unusedVariables false
set_option linter.unusedSimpArgs false
set_option maxRecDepth 100000
namespace Go.Ev.Code
open Go Go.Ev Go.Proofs Go.ChangeShapes Go.WideShapes Go.RowKit
theorem arU:("errors.errorType",(DataW.iface "internal/reflectlite.rtype" (.agg [.ptr (.lit (.string [101,114,114,111,114]))]):DataW Unit))∈YtechakbhjeieaaaGreatDoor.Rows.accrDayRow.laid.filter fun x=>x.2.handleName?.isSome:=List.mem_filter.2 ⟨by simp [YtechakbhjeieaaaGreatDoor.Rows.accrDayRow,YtechakbhjeieaaaGreatDoor.Rows.laid_errors_errorType],rfl⟩
theorem arV:("math/bits.deBruijn64tab",(Go.Lib.tabData .u8 (Go.Lib.deBruijn64tab.map Int.ofNat):DataW Unit))∈YtechakbhjeieaaaGreatDoor.Rows.accrDayRow.laid.filter fun x=>x.2.handleName?.isNone:=by
 have e:(Go.Lib.tabData .u8 (Go.Lib.deBruijn64tab.map Int.ofNat):DataW Unit)=YtechakbhjeieaaaGreatDoor.Rows.laid_math_bits_deBruijn64tab:=by rfl
 rw [e]
 exact List.mem_filter.2 ⟨by simp [YtechakbhjeieaaaGreatDoor.Rows.accrDayRow],rfl⟩
theorem arW:("internal/strconv.uint64pow10",(Go.Lib.tabData .u64 Go.Lib.pow10Tab:DataW Unit))∈YtechakbhjeieaaaGreatDoor.Rows.accrDayRow.laid.filter fun x=>x.2.handleName?.isNone:=by
 have e:(Go.Lib.tabData .u64 Go.Lib.pow10Tab:DataW Unit)=YtechakbhjeieaaaGreatDoor.Rows.laid_internal_strconv_uint64pow10:=by rfl
 rw [e]
 exact List.mem_filter.2 ⟨by simp [YtechakbhjeieaaaGreatDoor.Rows.accrDayRow],rfl⟩
theorem P9:Tryz.f3.params = #[23,3]:=by kernel_rfl
theorem apr (W:World) (base:Nat) (args:Array Value) (hV:Vars W) (hsz:args.size=Tryz.f3.params.size) (hval:∀ (j:Nat) t v,Tryz.f3.params[j]?=some t→args[j]?=some v→Value.okWide Tryz.prog W .any base t v) :
  Calls Tryz.prog 3 args W fun e W'=>e = .returned (.bool true)∧Grew W W':=by
 rw [P9] at hval hsz
 obtain ⟨v0,v1,rfl⟩:∃ v0 v1,args = #[v0,v1]:=by
  obtain ⟨l⟩:=args
  match l,hsz with
  | [v0,v1],_=>exact ⟨v0,v1,rfl⟩
 obtain ⟨b0,hF0⟩:=aqG (hval 0 _ v0 rfl rfl)
 obtain ⟨n1,rfl,w1⟩:=atO (hval 1 _ v1 rfl rfl)
 refine (arx (f:=kN) hV (here _ _ Tryz.func3 (by kernel_rfl)) (am4 as8 b0 n1) (vs:=[v0,.int .i64 n1]) (.cons hF0 (.cons (.int _ _) .nil))).mono ?_
 rintro e w' ⟨u,c',rfl,rfl,hF',hg⟩
 have : u=_:=(Rep.dA _ _ hF':Rep c' (.bool true) u).vI
 subst this
 exact ⟨rfl,hg⟩
theorem aun (os:Os) (started:os.Started) (H:Type) (enc:TypeId×Value→H) :
  ReturnsInHanded {} Tryz.checked os 3 .any (fun w args=>(YtechakbhjeieaaaGreatDoor.Rows.accrDaySpec.pre enc Tryz.prog Tryz.f3 [] false w args∧laidMetH Tryz.prog YtechakbhjeieaaaGreatDoor.Rows.accrDayRow.laid w)∧sizedMet enc Tryz.prog Tryz.f3 (OpenSpec.ofChange YtechakbhjeieaaaGreatDoor.Rows.accrDaySpec) false w args)
   (YtechakbhjeieaaaGreatDoor.Rows.accrDaySpec.post enc Tryz.prog Tryz.f3 false true false false):=by
 refine law_lifted started rfl Tryz.func3 (by kernel_rfl) (by kernel_rfl) ?_ ?_ (fun W hs hl=>au4 hs hl arU arV arW) ?_ apr
 ·rw [P9]
  intro t ht
  have hall:([23,3].all fun t=>Tryz.prog.readableRec t && decide (t<Tryz.prog.types.size))=true:=by kernel_rfl
  have h1:=List.all_eq_true.1 hall t ht
  simp only [Bool.and_eq_true,decide_eq_true_eq] at h1
  exact h1
 ·rw [P9]
  intro ds hd
  match ds,hd with
  | [d0,d1],_=>exact ⟨rfl,rfl,rfl⟩
 ·exact ChangeSpec.witness_shaped (enc:=enc) (C:=Tryz.checked) (os:=os) (X:=fun w _=>laidMetH Tryz.prog YtechakbhjeieaaaGreatDoor.Rows.accrDayRow.laid w) false (laidWorld YtechakbhjeieaaaGreatDoor.Rows.accrDayRow.laid os)
   #[.agg #[.int .i64 0, .int .i64 0, .int .i64 0, .string ⟨#[]⟩, .string ⟨#[]⟩, .int .i64 0, .int .i64 0, .bool false, .int .i64 0], .int .i64 0] 12 (ajv _ _)
   (World.shaped_of_ZipB (by kernel_rfl) (by kernel_rfl)) (by kernel_rfl) (by kernel_rfl) (by kernel_rfl)
   (laidWorld_met _ (by kernel_rfl) (by kernel_rfl) (by kernel_rfl))
end Go.Ev.Code
namespace Go.Proofs.YtechakbhjeieaaaGreatDoor
open Go.Ev.Code
noncomputable abbrev PP:Program:=Tryz.pinned.checked.prog
theorem pO {a b:Bool} (ha:a=true) (hb:b=true):(a && b)=true:=by rw [ha,hb]; rfl
theorem avG:(Rows.accrDayRow.wf (OpenSpec.ofChange Rows.accrDaySpec))=true:=by kernel_rfl
theorem avH:(laidOutB PP)=true:=by kernel_rfl
theorem avI:(mapsRowed PP)=true:=by kernel_rfl
theorem avJ:(Tryz.f3.params.all (PP.readableRec ·))=true:=by kernel_rfl
theorem avK:(namedTie PP Rows.accrDayRow.named Rows.accrDaySpec.vars)=true:=by kernel_rfl
theorem avL:((Rows.accrDayRow.stops==[]))=true:=by kernel_rfl
theorem avM:((PP.stops==[]))=true:=by kernel_rfl
theorem avN:((Rows.accrDayRow.knobs==[]))=true:=by kernel_rfl
theorem avO:((PP.stopKnobs==[]))=true:=by kernel_rfl
theorem atT:((Rows.accrDayRow.inPlace==PP.inPlace 3))=true:=by kernel_rfl
theorem atU:((Rows.accrDayRow.unfollowed==PP.unfollowed 3))=true:=by kernel_rfl
theorem atV:((Rows.accrDayRow.recurses==PP.recurses 3))=true:=by kernel_rfl
theorem atW:((Rows.accrDayRow.named==PP.varsNamed 3))=true:=by kernel_rfl
theorem atX:((Rows.accrDayRow.maps==(Tryz.f3.params.toList++Rows.accrDaySpec.plain.varTypes PP).any (PP.mapsRec ·)))=true:=by kernel_rfl
theorem atY:((Rows.accrDayRow.ifaces==(Tryz.f3.params.toList++Rows.accrDaySpec.plain.varTypes PP).any (PP.ifacesRec ·)))=true:=by kernel_rfl
theorem atZ:((Rows.accrDayRow.mapsOut==PP.mapsAmong Tryz.f3.resultTypes.toList))=true:=by kernel_rfl
theorem at1:((Rows.accrDayRow.loops==(Tryz.f3.params.toList++Rows.accrDaySpec.plain.varTypes PP).any (PP.loopsFrom ·)))=true:=by kernel_rfl
theorem at6:((Rows.accrDayRow.wideKeys==(Tryz.f3.params.toList++Rows.accrDaySpec.plain.varTypes PP++Tryz.f3.resultTypes.toList).any (PP.wideKeysFrom ·)))=true:=by kernel_rfl
theorem at7:(Rows.accrDaySpec.vars.all (PP.varReadable ·))=true:=by kernel_rfl
theorem aua:(Tryz.f3.resultTypes.all (fun t=>PP.readableRec t && decide (t<PP.types.size)))=true:=by kernel_rfl
theorem aub:((Rows.accrDayRow.ifacesOut==Tryz.f3.resultTypes.toList.any (PP.ifacesRec ·)))=true:=by kernel_rfl
theorem auc:((Rows.accrDayRow.loopsOut==Tryz.f3.resultTypes.toList.any (PP.loopsFrom ·)))=true:=by kernel_rfl
theorem aud:((Rows.accrDayRow.plainKeys==PP.plainKeys))=true:=by kernel_rfl
theorem aue:(Rows.accrDayRow.shortTexts.isNone)=true:=by kernel_rfl
theorem auf:(PP.stopsHeard)=true:=by kernel_rfl
theorem aug:(PP.mayEnter)=true:=by kernel_rfl
theorem auh:((Rows.accrDayRow.lifted==PP.liftsFinal))=true:=by kernel_rfl
theorem aui:((PP.make==some Rows.accrDayRow.make))=true:=by kernel_rfl
theorem auj:((Rows.accrDayRow.kinds==(if Rows.accrDayRow.domain.isEmpty then [] else Tryz.f3.params.toList.map fun t=>match PP.underlying t with | some (.int k)=>some k | _=>none)))=true:=by kernel_rfl
theorem auk:((Rows.accrDayRow.pinned==Rows.accrDayRow.pinnedBy))=true:=by kernel_rfl
theorem aul:((Rows.accrDayRow.veiled==(Tryz.f3.params.toList++Rows.accrDaySpec.plain.varTypes PP++Tryz.f3.resultTypes.toList).any (PP.veiledRec ·)))=true:=by kernel_rfl
theorem aum:(Rows.accrDayRow.veiledFits PP Tryz.f3.params.toList (Tryz.f3.params.toList++Rows.accrDaySpec.plain.varTypes PP++Tryz.f3.resultTypes.toList))=true:=by kernel_rfl
theorem anB:joinedFacts PP 3 Tryz.f3 Rows.accrDaySpec Rows.accrDayRow=true:=pO (pO (pO (pO (pO (pO (pO (pO (pO (pO (pO (pO (pO (pO (pO (pO (pO (pO (pO (pO (pO (pO (pO (pO (pO (pO (pO (pO (pO (pO (pO (avG) avH) avI) avJ) avK) avL) avM) avN) avO) atT) atU) atV) atW) atX) atY) atZ) at1) at6) at7) aua) aub) auc) aud) aue) auf) aug) auh) aui) auj) auk) aul) aum
theorem apt:PP.funcNamed Rows.accrDayRow.func=some 3:=by kernel_rfl
theorem ars:Tryz.f3.isInstance PP Rows.accrDayRow.origin Rows.accrDayRow.targs:=of_decide_eq_true (by kernel_rfl)
theorem aru:Tryz.f3.isWrapper PP Rows.accrDayRow.wrapper Rows.accrDayRow.mainSum:=by
 unfold Func.isWrapper; first | (rw [if_neg (of_decide_eq_false (by kernel_rfl))]; exact ⟨rfl,rfl⟩) | (rw [if_neg (by decide +kernel)]; exact ⟨rfl,rfl⟩)
theorem ahQ:Rows.AccrDaySaid :=
 OpenClaim.holds_of_wide 3 Tryz.f3 rfl rfl rfl rfl rfl rfl rfl ⟨rfl,rfl,rfl,rfl,rfl⟩ rfl rfl rfl rfl rfl apt Tryz.func3 anB
  ars aru (fun os started H enc _=>aun os started H enc)
theorem avP:Rows.accrDayRow.wfByText (OpenSpec.ofChange Rows.accrDaySpec)=true:=by kernel_rfl
theorem anC:PP.mainIs=some (Rows.accrDayCard.stood.harness.1,Rows.accrDayCard.stood.harness.2.toList):=by kernel_rfl
theorem aps:true=PP.looks []:=by kernel_rfl
theorem arq:false=Rows.accrDayRow.goesBy PP:=by kernel_rfl
theorem arp:PP.funcNamed "rentier/rentierlaw13.AccrDay" = some 3:=by kernel_rfl
theorem apu:([23,3].all fun u => !Tryz.prog.wantsStandIn u)=true:=by kernel_rfl
theorem accrDay_card:Rows.AccrDayCardSaid :=
 Claim7.holds_tied_plain_at .later [] [.data,.data,.data,.data,.handle,.sentinel,.sentinel,.pinned] true Rows.accrDayCard.stood.harness true ahQ (fun _ h=>by cases h) avP (fun _ h=>by cases h) accrDay_row_tie rfl ⟨rfl,rfl⟩ anC rfl
  (fun f fn hf hfn=>by
   obtain rfl:f=3:=Option.some.inj (arp.symm.trans hf) |>.symm
   obtain rfl:fn=Tryz.f3:=(Option.some.inj (Tryz.func3.symm.trans hfn)).symm
   exact ⟨aps,fun j t ht=>by
    rw [P9] at ht
    have hm:t∈[23,3]:=by simpa using Array.mem_of_getElem? ht
    exact (show Tryz.prog.wantsStandIn t=false by simpa using List.all_eq_true.1 apu t hm)⟩)
  arq
#print axioms accrDay_card
end Go.Proofs.YtechakbhjeieaaaGreatDoor
