/- The law YieldAll holds of the given program for every input, as its card says it. Conditions: those of the row. -/
import Derived.Test.YtfkdcfbleblgoaaGreatDoorTie
import Derived.Test.YtfkdcfbleblgoaaGreatDoorCards
import Derived.Test.YtfkdcfbleblgoaaGreatDoorCFrame
import Derived.Test.YtfkdcfbleblgoaaGreatDoorCBegun13
import Derived.Test.YtfkdcfbleblgoaaGreatDoorCXYieldAll0
set_option linter.unusedVariables false
set_option linter.unusedSimpArgs false
set_option maxRecDepth 100000
namespace Go.Ev.Code
open Go Go.Ev Go.Proofs Go.ChangeShapes Go.WideShapes Go.RowKit
theorem FT:("errors.errorType",(DataW.iface "internal/reflectlite.rtype" (.agg [.ptr (.lit (.string [101,114,114,111,114]))]):DataW Unit))∈YtfkdcfbleblgoaaGreatDoor.Rows.yieldAllRow.laid.filter fun x=>x.2.handleName?.isSome:=List.mem_filter.2 ⟨by simp [YtfkdcfbleblgoaaGreatDoor.Rows.yieldAllRow,YtfkdcfbleblgoaaGreatDoor.Rows.laid_errors_errorType],rfl⟩
theorem FU:("math/bits.deBruijn64tab",(Go.Lib.tabData .u8 (Go.Lib.deBruijn64tab.map Int.ofNat):DataW Unit))∈YtfkdcfbleblgoaaGreatDoor.Rows.yieldAllRow.laid.filter fun x=>x.2.handleName?.isNone:=by
 have e:(Go.Lib.tabData .u8 (Go.Lib.deBruijn64tab.map Int.ofNat):DataW Unit)=YtfkdcfbleblgoaaGreatDoor.Rows.laid_math_bits_deBruijn64tab:=by rfl
 rw [e]
 exact List.mem_filter.2 ⟨by simp [YtfkdcfbleblgoaaGreatDoor.Rows.yieldAllRow],rfl⟩
theorem FV:("internal/strconv.uint64pow10",(Go.Lib.tabData .u64 Go.Lib.pow10Tab:DataW Unit))∈YtfkdcfbleblgoaaGreatDoor.Rows.yieldAllRow.laid.filter fun x=>x.2.handleName?.isNone:=by
 have e:(Go.Lib.tabData .u64 Go.Lib.pow10Tab:DataW Unit)=YtfkdcfbleblgoaaGreatDoor.Rows.laid_internal_strconv_uint64pow10:=by rfl
 rw [e]
 exact List.mem_filter.2 ⟨by simp [YtfkdcfbleblgoaaGreatDoor.Rows.yieldAllRow],rfl⟩
theorem aCL {W:World} {b0:Nat} {v:Value} (h:Value.okWide Tryz.prog W .any b0 9 v):∃ s,v = .string s:=by
 have hu:Tryz.prog.underlying 9=some .string:=by kernel_rfl
 unfold Value.okWide at h
 rw [hu] at h
 change Cell.okWide _ _ _ _ _ _ at h
 exact abH hu h
theorem eU:Tryz.f4.params = #[23,3,9]:=by kernel_rfl
theorem zZ (W:World) (base:Nat) (args:Array Value) (hV:Vars W) (hsz:args.size=Tryz.f4.params.size) (hval:∀ (j:Nat) t v,Tryz.f4.params[j]?=some t→args[j]?=some v→Value.okWide Tryz.prog W .any base t v) :
  Calls Tryz.prog 4 args W fun e W'=>e = .returned (.bool true)∧Grew W W':=by
 rw [eU] at hval hsz
 obtain ⟨v0,v1,v2,rfl⟩:∃ v0 v1 v2,args = #[v0,v1,v2]:=by
  obtain ⟨l⟩:=args
  match l,hsz with
  | [v0,v1,v2],_=>exact ⟨v0,v1,v2,rfl⟩
 obtain ⟨b0,hF0⟩:=ad8 (hval 0 _ v0 rfl rfl)
 obtain ⟨n1,rfl,w1⟩:=u_ (hval 1 _ v1 rfl rfl)
 obtain ⟨s2,rfl⟩:=aCL (hval 2 _ v2 rfl rfl)
 refine (Ze (f:=vF) hV (here _ _ Tryz.func4 (by kernel_rfl)) (auA ac1 b0 n1 s2.data.toList) (vs:=[v0,.int .i64 n1,.string s2]) (.cons hF0 (.cons (.int _ _) (.cons (.str _) .nil)))).mono ?_
 rintro e w' ⟨u,c',rfl,rfl,hF',hg⟩
 have : u=_:=(Rep.b_ _ _ hF':Rep c' (.bool true) u).mG
 subst this
 exact ⟨rfl,hg⟩
theorem KY (os:Os) (started:os.Started) (H:Type) (enc:TypeId×Value→H) :
  ReturnsInHanded {} Tryz.checked os 4 .any (fun w args=>(YtfkdcfbleblgoaaGreatDoor.Rows.yieldAllSpec.pre enc Tryz.prog Tryz.f4 [] false w args∧laidMetH Tryz.prog YtfkdcfbleblgoaaGreatDoor.Rows.yieldAllRow.laid w)∧sizedMet enc Tryz.prog Tryz.f4 (OpenSpec.ofChange YtfkdcfbleblgoaaGreatDoor.Rows.yieldAllSpec) false w args)
   (YtfkdcfbleblgoaaGreatDoor.Rows.yieldAllSpec.post enc Tryz.prog Tryz.f4 false true false false):=by
 refine law_lifted started rfl Tryz.func4 (by kernel_rfl) (by kernel_rfl) ?_ ?_ (fun W hs hl=>adO hs hl FT FU FV) ?_ zZ
 ·rw [eU]
  intro t ht
  have hall:([23,3,9].all fun t=>Tryz.prog.readableRec t && decide (t<Tryz.prog.types.size))=true:=by kernel_rfl
  have h1:=List.all_eq_true.1 hall t ht
  simp only [Bool.and_eq_true,decide_eq_true_eq] at h1
  exact h1
 ·rw [eU]
  intro ds hd
  match ds,hd with
  | [d0,d1,d2],_=>exact ⟨rfl,rfl,rfl⟩
 ·exact ChangeSpec.witness_shaped (enc:=enc) (C:=Tryz.checked) (os:=os) (X:=fun w _=>laidMetH Tryz.prog YtfkdcfbleblgoaaGreatDoor.Rows.yieldAllRow.laid w) false (laidWorld YtfkdcfbleblgoaaGreatDoor.Rows.yieldAllRow.laid os)
   #[.agg #[.int .i64 0, .int .i64 0, .int .i64 0, .string ⟨#[]⟩, .string ⟨#[]⟩, .int .i64 0, .int .i64 0, .bool false, .int .i64 0], .int .i64 0, .string ⟨#[]⟩] 12 (Jv _ _)
   (World.shaped_of_ZipB (by kernel_rfl) (by kernel_rfl)) (by kernel_rfl) (by kernel_rfl) (by kernel_rfl)
   (laidWorld_met _ (by kernel_rfl) (by kernel_rfl) (by kernel_rfl))
end Go.Ev.Code
namespace Go.Proofs.YtfkdcfbleblgoaaGreatDoor
open Go.Ev.Code
noncomputable abbrev PP:Program:=Tryz.pinned.checked.prog
theorem aT {a b:Bool} (ha:a=true) (hb:b=true):(a && b)=true:=by rw [ha,hb]; rfl
theorem QH:(Rows.yieldAllRow.wf (OpenSpec.ofChange Rows.yieldAllSpec))=true:=by kernel_rfl
theorem QI:(laidOutB PP)=true:=by kernel_rfl
theorem QJ:(mapsRowed PP)=true:=by kernel_rfl
theorem QK:(Tryz.f4.params.all (PP.readableRec ·))=true:=by kernel_rfl
theorem QL:(namedTie PP Rows.yieldAllRow.named Rows.yieldAllSpec.vars)=true:=by kernel_rfl
theorem QM:((Rows.yieldAllRow.stops==[]))=true:=by kernel_rfl
theorem QN:((PP.stops==[]))=true:=by kernel_rfl
theorem QO:((Rows.yieldAllRow.knobs==[]))=true:=by kernel_rfl
theorem QS:((PP.stopKnobs==[]))=true:=by kernel_rfl
theorem Kv:((Rows.yieldAllRow.inPlace==PP.inPlace 4))=true:=by kernel_rfl
theorem Kw:((Rows.yieldAllRow.unfollowed==PP.unfollowed 4))=true:=by kernel_rfl
theorem Ky:((Rows.yieldAllRow.recurses==PP.recurses 4))=true:=by kernel_rfl
theorem Kz:((Rows.yieldAllRow.named==PP.varsNamed 4))=true:=by kernel_rfl
theorem KA:((Rows.yieldAllRow.maps==(Tryz.f4.params.toList++Rows.yieldAllSpec.plain.varTypes PP).any (PP.mapsRec ·)))=true:=by kernel_rfl
theorem KC:((Rows.yieldAllRow.ifaces==(Tryz.f4.params.toList++Rows.yieldAllSpec.plain.varTypes PP).any (PP.ifacesRec ·)))=true:=by kernel_rfl
theorem KD:((Rows.yieldAllRow.mapsOut==PP.mapsAmong Tryz.f4.resultTypes.toList))=true:=by kernel_rfl
theorem KE:((Rows.yieldAllRow.loops==(Tryz.f4.params.toList++Rows.yieldAllSpec.plain.varTypes PP).any (PP.loopsFrom ·)))=true:=by kernel_rfl
theorem KF:((Rows.yieldAllRow.wideKeys==(Tryz.f4.params.toList++Rows.yieldAllSpec.plain.varTypes PP++Tryz.f4.resultTypes.toList).any (PP.wideKeysFrom ·)))=true:=by kernel_rfl
theorem KG:(Rows.yieldAllSpec.vars.all (PP.varReadable ·))=true:=by kernel_rfl
theorem KH:(Tryz.f4.resultTypes.all (fun t=>PP.readableRec t && decide (t<PP.types.size)))=true:=by kernel_rfl
theorem KI:((Rows.yieldAllRow.ifacesOut==Tryz.f4.resultTypes.toList.any (PP.ifacesRec ·)))=true:=by kernel_rfl
theorem KJ:((Rows.yieldAllRow.loopsOut==Tryz.f4.resultTypes.toList.any (PP.loopsFrom ·)))=true:=by kernel_rfl
theorem KL:((Rows.yieldAllRow.plainKeys==PP.plainKeys))=true:=by kernel_rfl
theorem KN:(Rows.yieldAllRow.shortTexts.isNone)=true:=by kernel_rfl
theorem KO:(PP.stopsHeard)=true:=by kernel_rfl
theorem KP:(PP.mayEnter)=true:=by kernel_rfl
theorem KQ:((Rows.yieldAllRow.lifted==PP.liftsFinal))=true:=by kernel_rfl
theorem KR:((PP.make==some Rows.yieldAllRow.make))=true:=by kernel_rfl
theorem KT:((Rows.yieldAllRow.kinds==(if Rows.yieldAllRow.domain.isEmpty then [] else Tryz.f4.params.toList.map fun t=>match PP.underlying t with | some (.int k)=>some k | _=>none)))=true:=by kernel_rfl
theorem KU:((Rows.yieldAllRow.pinned==Rows.yieldAllRow.pinnedBy))=true:=by kernel_rfl
theorem KW:((Rows.yieldAllRow.veiled==(Tryz.f4.params.toList++Rows.yieldAllSpec.plain.varTypes PP++Tryz.f4.resultTypes.toList).any (PP.veiledRec ·)))=true:=by kernel_rfl
theorem KX:(Rows.yieldAllRow.veiledFits PP Tryz.f4.params.toList (Tryz.f4.params.toList++Rows.yieldAllSpec.plain.varTypes PP++Tryz.f4.resultTypes.toList))=true:=by kernel_rfl
theorem wV:joinedFacts PP 4 Tryz.f4 Rows.yieldAllSpec Rows.yieldAllRow=true:=aT (aT (aT (aT (aT (aT (aT (aT (aT (aT (aT (aT (aT (aT (aT (aT (aT (aT (aT (aT (aT (aT (aT (aT (aT (aT (aT (aT (aT (aT (aT (QH) QI) QJ) QK) QL) QM) QN) QO) QS) Kv) Kw) Ky) Kz) KA) KC) KD) KE) KF) KG) KH) KI) KJ) KL) KN) KO) KP) KQ) KR) KT) KU) KW) KX
theorem Aa:PP.funcNamed Rows.yieldAllRow.func=some 4:=by kernel_rfl
theorem EZ:Tryz.f4.isInstance PP Rows.yieldAllRow.origin Rows.yieldAllRow.targs:=of_decide_eq_true (by kernel_rfl)
theorem E5:Tryz.f4.isWrapper PP Rows.yieldAllRow.wrapper Rows.yieldAllRow.mainSum:=by
 unfold Func.isWrapper; first | (rw [if_neg (of_decide_eq_false (by kernel_rfl))]; exact ⟨rfl,rfl⟩) | (rw [if_neg (by decide +kernel)]; exact ⟨rfl,rfl⟩)
theorem anu:Rows.YieldAllSaid :=
 OpenClaim.holds_of_wide 4 Tryz.f4 rfl rfl rfl rfl rfl rfl rfl ⟨rfl,rfl,rfl,rfl,rfl⟩ rfl rfl rfl rfl rfl Aa Tryz.func4 wV
  EZ E5 (fun os started H enc _=>KY os started H enc)
theorem QT:Rows.yieldAllRow.wfByText (OpenSpec.ofChange Rows.yieldAllSpec)=true:=by kernel_rfl
theorem wW:PP.mainIs=some (Rows.yieldAllCard.stood.harness.1,Rows.yieldAllCard.stood.harness.2.toList):=by kernel_rfl
theorem z_:true=PP.looks []:=by kernel_rfl
theorem EY:false=Rows.yieldAllRow.goesBy PP:=by kernel_rfl
theorem EX:PP.funcNamed "rentier/rentierlaw13.YieldAll" = some 4:=by kernel_rfl
theorem Ac:([23,3,9].all fun u => !Tryz.prog.wantsStandIn u)=true:=by kernel_rfl
theorem yieldAll_card:Rows.YieldAllCardSaid :=
 Claim7.holds_tied_plain_at .later [] [.data,.data,.data,.data,.handle,.sentinel,.sentinel,.pinned] true Rows.yieldAllCard.stood.harness true anu (fun _ h=>by cases h) QT (fun _ h=>by cases h) yieldAll_row_tie rfl ⟨rfl,rfl⟩ wW rfl
  (fun f fn hf hfn=>by
   obtain rfl:f=4:=Option.some.inj (EX.symm.trans hf) |>.symm
   obtain rfl:fn=Tryz.f4:=(Option.some.inj (Tryz.func4.symm.trans hfn)).symm
   exact ⟨z_,fun j t ht=>by
    rw [eU] at ht
    have hm:t∈[23,3,9]:=by simpa using Array.mem_of_getElem? ht
    exact (show Tryz.prog.wantsStandIn t=false by simpa using List.all_eq_true.1 Ac t hm)⟩)
  EY
#print axioms yieldAll_card
end Go.Proofs.YtfkdcfbleblgoaaGreatDoor
