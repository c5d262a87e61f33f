/- The law FlowAll holds of the given program for every input, as its card says it. Conditions: those of the row. -/
import Derived.Test.YtfkdcfbleblgoaaGreatDoorTie
import Derived.Test.YtfkdcfbleblgoaaGreatDoorCards
import Derived.Test.YtfkdcfbleblgoaaGreatDoorCFrame
import Derived.Test.YtfkdcfbleblgoaaGreatDoorCBegun13
import Derived.Test.YtfkdcfbleblgoaaGreatDoorCXFlowAll0
set_option linter.unusedVariables false
set_option linter.unusedSimpArgs false
set_option maxRecDepth 100000
namespace Go.Ev.Code
open Go Go.Ev Go.Proofs Go.ChangeShapes Go.WideShapes Go.RowKit
theorem FT:("errors.errorType",(DataW.iface "internal/reflectlite.rtype" (.agg [.ptr (.lit (.string [101,114,114,111,114]))]):DataW Unit))∈YtfkdcfbleblgoaaGreatDoor.Rows.flowAllRow.laid.filter fun x=>x.2.handleName?.isSome:=List.mem_filter.2 ⟨by simp [YtfkdcfbleblgoaaGreatDoor.Rows.flowAllRow,YtfkdcfbleblgoaaGreatDoor.Rows.laid_errors_errorType],rfl⟩
theorem FU:("math/bits.deBruijn64tab",(Go.Lib.tabData .u8 (Go.Lib.deBruijn64tab.map Int.ofNat):DataW Unit))∈YtfkdcfbleblgoaaGreatDoor.Rows.flowAllRow.laid.filter fun x=>x.2.handleName?.isNone:=by
 have e:(Go.Lib.tabData .u8 (Go.Lib.deBruijn64tab.map Int.ofNat):DataW Unit)=YtfkdcfbleblgoaaGreatDoor.Rows.laid_math_bits_deBruijn64tab:=by rfl
 rw [e]
 exact List.mem_filter.2 ⟨by simp [YtfkdcfbleblgoaaGreatDoor.Rows.flowAllRow],rfl⟩
theorem FV:("internal/strconv.uint64pow10",(Go.Lib.tabData .u64 Go.Lib.pow10Tab:DataW Unit))∈YtfkdcfbleblgoaaGreatDoor.Rows.flowAllRow.laid.filter fun x=>x.2.handleName?.isNone:=by
 have e:(Go.Lib.tabData .u64 Go.Lib.pow10Tab:DataW Unit)=YtfkdcfbleblgoaaGreatDoor.Rows.laid_internal_strconv_uint64pow10:=by rfl
 rw [e]
 exact List.mem_filter.2 ⟨by simp [YtfkdcfbleblgoaaGreatDoor.Rows.flowAllRow],rfl⟩
theorem eU:Tryz.f3.params = #[23,3,3,3]:=by kernel_rfl
theorem zZ (W:World) (base:Nat) (args:Array Value) (hV:Vars W) (hsz:args.size=Tryz.f3.params.size) (hval:∀ (j:Nat) t v,Tryz.f3.params[j]?=some t→args[j]?=some v→Value.okWide Tryz.prog W .any base t v) :
  Calls Tryz.prog 3 args W fun e W'=>e = .returned (.bool true)∧Grew W W':=by
 rw [eU] at hval hsz
 obtain ⟨v0,v1,v2,v3,rfl⟩:∃ v0 v1 v2 v3,args = #[v0,v1,v2,v3]:=by
  obtain ⟨l⟩:=args
  match l,hsz with
  | [v0,v1,v2,v3],_=>exact ⟨v0,v1,v2,v3,rfl⟩
 obtain ⟨b0,hF0⟩:=ad8 (hval 0 _ v0 rfl rfl)
 obtain ⟨n1,rfl,w1⟩:=u_ (hval 1 _ v1 rfl rfl)
 obtain ⟨n2,rfl,w2⟩:=u_ (hval 2 _ v2 rfl rfl)
 obtain ⟨n3,rfl,w3⟩:=u_ (hval 3 _ v3 rfl rfl)
 refine (Ze (f:=w_) hV (here _ _ Tryz.func3 (by kernel_rfl)) (avZ ac1 b0 n1 n2 n3) (vs:=[v0,.int .i64 n1,.int .i64 n2,.int .i64 n3]) (.cons hF0 (.cons (.int _ _) (.cons (.int _ _) (.cons (.int _ _) .nil))))).mono ?_
 rintro e w' ⟨u,c',rfl,rfl,hF',hg⟩
 have : u=_:=(Rep.b_ _ _ hF':Rep c' (.bool true) u).mG
 subst this
 exact ⟨rfl,hg⟩
theorem KY (os:Os) (started:os.Started) (H:Type) (enc:TypeId×Value→H) :
  ReturnsInHanded {} Tryz.checked os 3 .any (fun w args=>(YtfkdcfbleblgoaaGreatDoor.Rows.flowAllSpec.pre enc Tryz.prog Tryz.f3 [] false w args∧laidMetH Tryz.prog YtfkdcfbleblgoaaGreatDoor.Rows.flowAllRow.laid w)∧sizedMet enc Tryz.prog Tryz.f3 (OpenSpec.ofChange YtfkdcfbleblgoaaGreatDoor.Rows.flowAllSpec) false w args)
   (YtfkdcfbleblgoaaGreatDoor.Rows.flowAllSpec.post enc Tryz.prog Tryz.f3 false true false false):=by
 refine law_lifted started rfl Tryz.func3 (by kernel_rfl) (by kernel_rfl) ?_ ?_ (fun W hs hl=>adO hs hl FT FU FV) ?_ zZ
 ·rw [eU]
  intro t ht
  have hall:([23,3,3,3].all fun t=>Tryz.prog.readableRec t && decide (t<Tryz.prog.types.size))=true:=by kernel_rfl
  have h1:=List.all_eq_true.1 hall t ht
  simp only [Bool.and_eq_true,decide_eq_true_eq] at h1
  exact h1
 ·rw [eU]
  intro ds hd
  match ds,hd with
  | [d0,d1,d2,d3],_=>exact ⟨rfl,rfl,rfl⟩
 ·exact ChangeSpec.witness_shaped (enc:=enc) (C:=Tryz.checked) (os:=os) (X:=fun w _=>laidMetH Tryz.prog YtfkdcfbleblgoaaGreatDoor.Rows.flowAllRow.laid w) false (laidWorld YtfkdcfbleblgoaaGreatDoor.Rows.flowAllRow.laid os)
   #[.agg #[.int .i64 0, .int .i64 0, .int .i64 0, .string ⟨#[]⟩, .string ⟨#[]⟩, .int .i64 0, .int .i64 0, .bool false, .int .i64 0], .int .i64 0, .int .i64 0, .int .i64 0] 12 (Jv _ _)
   (World.shaped_of_ZipB (by kernel_rfl) (by kernel_rfl)) (by kernel_rfl) (by kernel_rfl) (by kernel_rfl)
   (laidWorld_met _ (by kernel_rfl) (by kernel_rfl) (by kernel_rfl))
end Go.Ev.Code
namespace Go.Proofs.YtfkdcfbleblgoaaGreatDoor
open Go.Ev.Code
noncomputable abbrev PP:Program:=Tryz.pinned.checked.prog
theorem aT {a b:Bool} (ha:a=true) (hb:b=true):(a && b)=true:=by rw [ha,hb]; rfl
theorem QH:(Rows.flowAllRow.wf (OpenSpec.ofChange Rows.flowAllSpec))=true:=by kernel_rfl
theorem QI:(laidOutB PP)=true:=by kernel_rfl
theorem QJ:(mapsRowed PP)=true:=by kernel_rfl
theorem QK:(Tryz.f3.params.all (PP.readableRec ·))=true:=by kernel_rfl
theorem QL:(namedTie PP Rows.flowAllRow.named Rows.flowAllSpec.vars)=true:=by kernel_rfl
theorem QM:((Rows.flowAllRow.stops==[]))=true:=by kernel_rfl
theorem QN:((PP.stops==[]))=true:=by kernel_rfl
theorem QO:((Rows.flowAllRow.knobs==[]))=true:=by kernel_rfl
theorem QS:((PP.stopKnobs==[]))=true:=by kernel_rfl
theorem Kv:((Rows.flowAllRow.inPlace==PP.inPlace 3))=true:=by kernel_rfl
theorem Kw:((Rows.flowAllRow.unfollowed==PP.unfollowed 3))=true:=by kernel_rfl
theorem Ky:((Rows.flowAllRow.recurses==PP.recurses 3))=true:=by kernel_rfl
theorem Kz:((Rows.flowAllRow.named==PP.varsNamed 3))=true:=by kernel_rfl
theorem KA:((Rows.flowAllRow.maps==(Tryz.f3.params.toList++Rows.flowAllSpec.plain.varTypes PP).any (PP.mapsRec ·)))=true:=by kernel_rfl
theorem KC:((Rows.flowAllRow.ifaces==(Tryz.f3.params.toList++Rows.flowAllSpec.plain.varTypes PP).any (PP.ifacesRec ·)))=true:=by kernel_rfl
theorem KD:((Rows.flowAllRow.mapsOut==PP.mapsAmong Tryz.f3.resultTypes.toList))=true:=by kernel_rfl
theorem KE:((Rows.flowAllRow.loops==(Tryz.f3.params.toList++Rows.flowAllSpec.plain.varTypes PP).any (PP.loopsFrom ·)))=true:=by kernel_rfl
theorem KF:((Rows.flowAllRow.wideKeys==(Tryz.f3.params.toList++Rows.flowAllSpec.plain.varTypes PP++Tryz.f3.resultTypes.toList).any (PP.wideKeysFrom ·)))=true:=by kernel_rfl
theorem KG:(Rows.flowAllSpec.vars.all (PP.varReadable ·))=true:=by kernel_rfl
theorem KH:(Tryz.f3.resultTypes.all (fun t=>PP.readableRec t && decide (t<PP.types.size)))=true:=by kernel_rfl
theorem KI:((Rows.flowAllRow.ifacesOut==Tryz.f3.resultTypes.toList.any (PP.ifacesRec ·)))=true:=by kernel_rfl
theorem KJ:((Rows.flowAllRow.loopsOut==Tryz.f3.resultTypes.toList.any (PP.loopsFrom ·)))=true:=by kernel_rfl
theorem KL:((Rows.flowAllRow.plainKeys==PP.plainKeys))=true:=by kernel_rfl
theorem KN:(Rows.flowAllRow.shortTexts.isNone)=true:=by kernel_rfl
theorem KO:(PP.stopsHeard)=true:=by kernel_rfl
theorem KP:(PP.mayEnter)=true:=by kernel_rfl
theorem KQ:((Rows.flowAllRow.lifted==PP.liftsFinal))=true:=by kernel_rfl
theorem KR:((PP.make==some Rows.flowAllRow.make))=true:=by kernel_rfl
theorem KT:((Rows.flowAllRow.kinds==(if Rows.flowAllRow.domain.isEmpty then [] else Tryz.f3.params.toList.map fun t=>match PP.underlying t with | some (.int k)=>some k | _=>none)))=true:=by kernel_rfl
theorem KU:((Rows.flowAllRow.pinned==Rows.flowAllRow.pinnedBy))=true:=by kernel_rfl
theorem KW:((Rows.flowAllRow.veiled==(Tryz.f3.params.toList++Rows.flowAllSpec.plain.varTypes PP++Tryz.f3.resultTypes.toList).any (PP.veiledRec ·)))=true:=by kernel_rfl
theorem KX:(Rows.flowAllRow.veiledFits PP Tryz.f3.params.toList (Tryz.f3.params.toList++Rows.flowAllSpec.plain.varTypes PP++Tryz.f3.resultTypes.toList))=true:=by kernel_rfl
theorem wV:joinedFacts PP 3 Tryz.f3 Rows.flowAllSpec Rows.flowAllRow=true:=aT (aT (aT (aT (aT (aT (aT (aT (aT (aT (aT (aT (aT (aT (aT (aT (aT (aT (aT (aT (aT (aT (aT (aT (aT (aT (aT (aT (aT (aT (aT (QH) QI) QJ) QK) QL) QM) QN) QO) QS) Kv) Kw) Ky) Kz) KA) KC) KD) KE) KF) KG) KH) KI) KJ) KL) KN) KO) KP) KQ) KR) KT) KU) KW) KX
theorem Aa:PP.funcNamed Rows.flowAllRow.func=some 3:=by kernel_rfl
theorem EZ:Tryz.f3.isInstance PP Rows.flowAllRow.origin Rows.flowAllRow.targs:=of_decide_eq_true (by kernel_rfl)
theorem E5:Tryz.f3.isWrapper PP Rows.flowAllRow.wrapper Rows.flowAllRow.mainSum:=by
 unfold Func.isWrapper; first | (rw [if_neg (of_decide_eq_false (by kernel_rfl))]; exact ⟨rfl,rfl⟩) | (rw [if_neg (by decide +kernel)]; exact ⟨rfl,rfl⟩)
theorem apw:Rows.FlowAllSaid :=
 OpenClaim.holds_of_wide 3 Tryz.f3 rfl rfl rfl rfl rfl rfl rfl ⟨rfl,rfl,rfl,rfl,rfl⟩ rfl rfl rfl rfl rfl Aa Tryz.func3 wV
  EZ E5 (fun os started H enc _=>KY os started H enc)
theorem QT:Rows.flowAllRow.wfByText (OpenSpec.ofChange Rows.flowAllSpec)=true:=by kernel_rfl
theorem wW:PP.mainIs=some (Rows.flowAllCard.stood.harness.1,Rows.flowAllCard.stood.harness.2.toList):=by kernel_rfl
theorem z_:true=PP.looks []:=by kernel_rfl
theorem EY:false=Rows.flowAllRow.goesBy PP:=by kernel_rfl
theorem EX:PP.funcNamed "rentier/rentierlaw13.FlowAll" = some 3:=by kernel_rfl
theorem Ac:([23,3,3,3].all fun u => !Tryz.prog.wantsStandIn u)=true:=by kernel_rfl
theorem flowAll_card:Rows.FlowAllCardSaid :=
 Claim7.holds_tied_plain_at .later [] [.data,.data,.data,.data,.handle,.sentinel,.sentinel,.pinned] true Rows.flowAllCard.stood.harness true apw (fun _ h=>by cases h) QT (fun _ h=>by cases h) flowAll_row_tie rfl ⟨rfl,rfl⟩ wW rfl
  (fun f fn hf hfn=>by
   obtain rfl:f=3:=Option.some.inj (EX.symm.trans hf) |>.symm
   obtain rfl:fn=Tryz.f3:=(Option.some.inj (Tryz.func3.symm.trans hfn)).symm
   exact ⟨z_,fun j t ht=>by
    rw [eU] at ht
    have hm:t∈[23,3,3,3]:=by simpa using Array.mem_of_getElem? ht
    exact (show Tryz.prog.wantsStandIn t=false by simpa using List.all_eq_true.1 Ac t hm)⟩)
  EY
#print axioms flowAll_card
end Go.Proofs.YtfkdcfbleblgoaaGreatDoor
