/- The law PriceWait holds of the given program for every input, as its card says it. Conditions: those of the row. -/
import Derived.Test.YtlnjbdkgdocjeaaGreatDoorTie
import Derived.Test.YtlnjbdkgdocjeaaGreatDoorCards
import Derived.Test.YtlnjbdkgdocjeaaGreatDoorCFrame
import Derived.Test.YtlnjbdkgdocjeaaGreatDoorCWalkPriceWait
import Derived.Test.YtlnjbdkgdocjeaaGreatDoorCBegun13
set_option linter.unusedVariables false
set_option linter.unusedSimpArgs false
set_option maxRecDepth 100000
namespace Go.Ev.Code
open Go Go.Ev Go.Proofs Go.ChangeShapes Go.WideShapes Go.RowKit
theorem aqN:("errors.errorType",(DataW.iface "internal/reflectlite.rtype" (.agg [.ptr (.lit (.string [101,114,114,111,114]))]):DataW Unit))∈YtlnjbdkgdocjeaaGreatDoor.Rows.priceWaitRow.laid.filter fun x=>x.2.handleName?.isSome:=List.mem_filter.2 ⟨by simp [YtlnjbdkgdocjeaaGreatDoor.Rows.priceWaitRow,YtlnjbdkgdocjeaaGreatDoor.Rows.laid_errors_errorType],rfl⟩
theorem aqO:("math/bits.deBruijn64tab",(Go.Lib.tabData .u8 (Go.Lib.deBruijn64tab.map Int.ofNat):DataW Unit))∈YtlnjbdkgdocjeaaGreatDoor.Rows.priceWaitRow.laid.filter fun x=>x.2.handleName?.isNone:=by
 have e:(Go.Lib.tabData .u8 (Go.Lib.deBruijn64tab.map Int.ofNat):DataW Unit)=YtlnjbdkgdocjeaaGreatDoor.Rows.laid_math_bits_deBruijn64tab:=by rfl
 rw [e]
 exact List.mem_filter.2 ⟨by simp [YtlnjbdkgdocjeaaGreatDoor.Rows.priceWaitRow],rfl⟩
theorem aqP:("internal/strconv.uint64pow10",(Go.Lib.tabData .u64 Go.Lib.pow10Tab:DataW Unit))∈YtlnjbdkgdocjeaaGreatDoor.Rows.priceWaitRow.laid.filter fun x=>x.2.handleName?.isNone:=by
 have e:(Go.Lib.tabData .u64 Go.Lib.pow10Tab:DataW Unit)=YtlnjbdkgdocjeaaGreatDoor.Rows.laid_internal_strconv_uint64pow10:=by rfl
 rw [e]
 exact List.mem_filter.2 ⟨by simp [YtlnjbdkgdocjeaaGreatDoor.Rows.priceWaitRow],rfl⟩
theorem N8:Tryz.f3.params = #[23,3]:=by kernel_rfl
theorem aop (W:World) (base:Nat) (args:Array Value) (hV:Vars W) (hsz:args.size=Tryz.f3.params.size) (hval:∀ (j:Nat) t v,Tryz.f3.params[j]?=some t→args[j]?=some v→Value.okWide Tryz.prog W .any base t v) :
  Calls Tryz.prog 3 args W fun e W'=>e = .returned (.bool true)∧Grew W W':=by
 rw [N8] at hval hsz
 obtain ⟨v0,v1,rfl⟩:∃ v0 v1,args = #[v0,v1]:=by
  obtain ⟨l⟩:=args
  match l,hsz with
  | [v0,v1],_=>exact ⟨v0,v1,rfl⟩
 obtain ⟨b0,hF0⟩:=apF (hval 0 _ v0 rfl rfl)
 obtain ⟨n1,rfl,w1⟩:=asL (hval 1 _ v1 rfl rfl)
 refine (aqo (f:=nR) hV (here _ _ Tryz.func3 (by kernel_rfl)) (ajq ar4 b0 n1) (vs:=[v0,.int .i64 n1]) (.cons hF0 (.cons (.int _ _) .nil))).mono ?_
 rintro e w' ⟨u,c',rfl,rfl,hF',hg⟩
 have : u=_:=(Rep.bG _ _ hF':Rep c' (.bool true) u).pO
 subst this
 exact ⟨rfl,hg⟩
theorem atd (os:Os) (started:os.Started) (H:Type) (enc:TypeId×Value→H) :
  ReturnsInHanded {} Tryz.checked os 3 .any (fun w args=>(YtlnjbdkgdocjeaaGreatDoor.Rows.priceWaitSpec.pre enc Tryz.prog Tryz.f3 [] false w args∧laidMetH Tryz.prog YtlnjbdkgdocjeaaGreatDoor.Rows.priceWaitRow.laid w)∧sizedMet enc Tryz.prog Tryz.f3 (OpenSpec.ofChange YtlnjbdkgdocjeaaGreatDoor.Rows.priceWaitSpec) false w args)
   (YtlnjbdkgdocjeaaGreatDoor.Rows.priceWaitSpec.post enc Tryz.prog Tryz.f3 false true false false):=by
 refine law_lifted started rfl Tryz.func3 (by kernel_rfl) (by kernel_rfl) ?_ ?_ (fun W hs hl=>at6 hs hl aqN aqO aqP) ?_ aop
 ·rw [N8]
  intro t ht
  have hall:([23,3].all fun t=>Tryz.prog.readableRec t && decide (t<Tryz.prog.types.size))=true:=by kernel_rfl
  have h1:=List.all_eq_true.1 hall t ht
  simp only [Bool.and_eq_true,decide_eq_true_eq] at h1
  exact h1
 ·rw [N8]
  intro ds hd
  match ds,hd with
  | [d0,d1],_=>exact ⟨rfl,rfl,rfl⟩
 ·exact ChangeSpec.witness_shaped (enc:=enc) (C:=Tryz.checked) (os:=os) (X:=fun w _=>laidMetH Tryz.prog YtlnjbdkgdocjeaaGreatDoor.Rows.priceWaitRow.laid w) false (laidWorld YtlnjbdkgdocjeaaGreatDoor.Rows.priceWaitRow.laid os)
   #[.agg #[.int .i64 0, .int .i64 0, .int .i64 0, .string ⟨#[]⟩, .string ⟨#[]⟩, .int .i64 0, .int .i64 0, .bool false, .int .i64 0], .int .i64 0] 12 (aiR _ _)
   (World.shaped_of_ZipB (by kernel_rfl) (by kernel_rfl)) (by kernel_rfl) (by kernel_rfl) (by kernel_rfl)
   (laidWorld_met _ (by kernel_rfl) (by kernel_rfl) (by kernel_rfl))
end Go.Ev.Code
namespace Go.Proofs.YtlnjbdkgdocjeaaGreatDoor
open Go.Ev.Code
noncomputable abbrev PP:Program:=Tryz.pinned.checked.prog
theorem kE {a b:Bool} (ha:a=true) (hb:b=true):(a && b)=true:=by rw [ha,hb]; rfl
theorem auN:(Rows.priceWaitRow.wf (OpenSpec.ofChange Rows.priceWaitSpec))=true:=by kernel_rfl
theorem auO:(laidOutB PP)=true:=by kernel_rfl
theorem auP:(mapsRowed PP)=true:=by kernel_rfl
theorem auQ:(Tryz.f3.params.all (PP.readableRec ·))=true:=by kernel_rfl
theorem auR:(namedTie PP Rows.priceWaitRow.named Rows.priceWaitSpec.vars)=true:=by kernel_rfl
theorem auS:((Rows.priceWaitRow.stops==[]))=true:=by kernel_rfl
theorem auT:((PP.stops==[]))=true:=by kernel_rfl
theorem auU:((Rows.priceWaitRow.knobs==[]))=true:=by kernel_rfl
theorem auV:((PP.stopKnobs==[]))=true:=by kernel_rfl
theorem asO:((Rows.priceWaitRow.inPlace==PP.inPlace 3))=true:=by kernel_rfl
theorem asP:((Rows.priceWaitRow.unfollowed==PP.unfollowed 3))=true:=by kernel_rfl
theorem asQ:((Rows.priceWaitRow.recurses==PP.recurses 3))=true:=by kernel_rfl
theorem asR:((Rows.priceWaitRow.named==PP.varsNamed 3))=true:=by kernel_rfl
theorem asT:((Rows.priceWaitRow.maps==(Tryz.f3.params.toList++Rows.priceWaitSpec.plain.varTypes PP).any (PP.mapsRec ·)))=true:=by kernel_rfl
theorem asU:((Rows.priceWaitRow.ifaces==(Tryz.f3.params.toList++Rows.priceWaitSpec.plain.varTypes PP).any (PP.ifacesRec ·)))=true:=by kernel_rfl
theorem asV:((Rows.priceWaitRow.mapsOut==PP.mapsAmong Tryz.f3.resultTypes.toList))=true:=by kernel_rfl
theorem asW:((Rows.priceWaitRow.loops==(Tryz.f3.params.toList++Rows.priceWaitSpec.plain.varTypes PP).any (PP.loopsFrom ·)))=true:=by kernel_rfl
theorem asX:((Rows.priceWaitRow.wideKeys==(Tryz.f3.params.toList++Rows.priceWaitSpec.plain.varTypes PP++Tryz.f3.resultTypes.toList).any (PP.wideKeysFrom ·)))=true:=by kernel_rfl
theorem asY:(Rows.priceWaitSpec.vars.all (PP.varReadable ·))=true:=by kernel_rfl
theorem asZ:(Tryz.f3.resultTypes.all (fun t=>PP.readableRec t && decide (t<PP.types.size)))=true:=by kernel_rfl
theorem as1:((Rows.priceWaitRow.ifacesOut==Tryz.f3.resultTypes.toList.any (PP.ifacesRec ·)))=true:=by kernel_rfl
theorem as2:((Rows.priceWaitRow.loopsOut==Tryz.f3.resultTypes.toList.any (PP.loopsFrom ·)))=true:=by kernel_rfl
theorem as3:((Rows.priceWaitRow.plainKeys==PP.plainKeys))=true:=by kernel_rfl
theorem as4:(Rows.priceWaitRow.shortTexts.isNone)=true:=by kernel_rfl
theorem as5:(PP.stopsHeard)=true:=by kernel_rfl
theorem as6:(PP.mayEnter)=true:=by kernel_rfl
theorem as7:((Rows.priceWaitRow.lifted==PP.liftsFinal))=true:=by kernel_rfl
theorem as8:((PP.make==some Rows.priceWaitRow.make))=true:=by kernel_rfl
theorem as9:((Rows.priceWaitRow.kinds==(if Rows.priceWaitRow.domain.isEmpty then [] else Tryz.f3.params.toList.map fun t=>match PP.underlying t with | some (.int k)=>some k | _=>none)))=true:=by kernel_rfl
theorem ata:((Rows.priceWaitRow.pinned==Rows.priceWaitRow.pinnedBy))=true:=by kernel_rfl
theorem atb:((Rows.priceWaitRow.veiled==(Tryz.f3.params.toList++Rows.priceWaitSpec.plain.varTypes PP++Tryz.f3.resultTypes.toList).any (PP.veiledRec ·)))=true:=by kernel_rfl
theorem atc:(Rows.priceWaitRow.veiledFits PP Tryz.f3.params.toList (Tryz.f3.params.toList++Rows.priceWaitSpec.plain.varTypes PP++Tryz.f3.resultTypes.toList))=true:=by kernel_rfl
theorem amI:joinedFacts PP 3 Tryz.f3 Rows.priceWaitSpec Rows.priceWaitRow=true:=kE (kE (kE (kE (kE (kE (kE (kE (kE (kE (kE (kE (kE (kE (kE (kE (kE (kE (kE (kE (kE (kE (kE (kE (kE (kE (kE (kE (kE (kE (kE (auN) auO) auP) auQ) auR) auS) auT) auU) auV) asO) asP) asQ) asR) asT) asU) asV) asW) asX) asY) asZ) as1) as2) as3) as4) as5) as6) as7) as8) as9) ata) atb) atc
theorem aor:PP.funcNamed Rows.priceWaitRow.func=some 3:=by kernel_rfl
theorem aqk:Tryz.f3.isInstance PP Rows.priceWaitRow.origin Rows.priceWaitRow.targs:=of_decide_eq_true (by kernel_rfl)
theorem aql:Tryz.f3.isWrapper PP Rows.priceWaitRow.wrapper Rows.priceWaitRow.mainSum:=by
 unfold Func.isWrapper; first | (rw [if_neg (of_decide_eq_false (by kernel_rfl))]; exact ⟨rfl,rfl⟩) | (rw [if_neg (by decide +kernel)]; exact ⟨rfl,rfl⟩)
theorem adO:Rows.PriceWaitSaid :=
 OpenClaim.holds_of_wide 3 Tryz.f3 rfl rfl rfl rfl rfl rfl rfl ⟨rfl,rfl,rfl,rfl,rfl⟩ rfl rfl rfl rfl rfl aor Tryz.func3 amI
  aqk aql (fun os started H enc _=>atd os started H enc)
theorem auW:Rows.priceWaitRow.wfByText (OpenSpec.ofChange Rows.priceWaitSpec)=true:=by kernel_rfl
theorem amJ:PP.mainIs=some (Rows.priceWaitCard.stood.harness.1,Rows.priceWaitCard.stood.harness.2.toList):=by kernel_rfl
theorem aoq:true=PP.looks []:=by kernel_rfl
theorem aqj:false=Rows.priceWaitRow.goesBy PP:=by kernel_rfl
theorem aqi:PP.funcNamed "rentier/rentierlaw13.PriceWait" = some 3:=by kernel_rfl
theorem aos:([23,3].all fun u => !Tryz.prog.wantsStandIn u)=true:=by kernel_rfl
theorem priceWait_card:Rows.PriceWaitCardSaid :=
 Claim7.holds_tied_plain_at .later [] [.data,.data,.data,.data,.handle,.sentinel,.sentinel,.pinned] true Rows.priceWaitCard.stood.harness true adO (fun _ h=>by cases h) auW (fun _ h=>by cases h) priceWait_row_tie rfl ⟨rfl,rfl⟩ amJ rfl
  (fun f fn hf hfn=>by
   obtain rfl:f=3:=Option.some.inj (aqi.symm.trans hf) |>.symm
   obtain rfl:fn=Tryz.f3:=(Option.some.inj (Tryz.func3.symm.trans hfn)).symm
   exact ⟨aoq,fun j t ht=>by
    rw [N8] at ht
    have hm:t∈[23,3]:=by simpa using Array.mem_of_getElem? ht
    exact (show Tryz.prog.wantsStandIn t=false by simpa using List.all_eq_true.1 aos t hm)⟩)
  aqj
#print axioms priceWait_card
end Go.Proofs.YtlnjbdkgdocjeaaGreatDoor
