/- The law PriceAll holds of the given program for every input, as its card says it. Conditions: those of the row. -/
import Derived.Test.YtfkdcfbleblgoaaGreatDoorTie
import Derived.Test.YtfkdcfbleblgoaaGreatDoorCards
import Derived.Test.YtfkdcfbleblgoaaGreatDoorCFrame
import Derived.Test.YtfkdcfbleblgoaaGreatDoorCBegun13
import Derived.Test.YtfkdcfbleblgoaaGreatDoorCXPriceAll0
set_option linter.unusedVariables false
set_option linter.unusedSimpArgs false
set_option maxRecDepth 100000
namespace Go.Ev.Code
open Go Go.Ev Go.Proofs Go.ChangeShapes Go.WideShapes Go.RowKit
theorem FT:("errors.errorType",(DataW.iface "internal/reflectlite.rtype" (.agg [.ptr (.lit (.string [101,114,114,111,114]))]):DataW Unit))∈YtfkdcfbleblgoaaGreatDoor.Rows.priceAllRow.laid.filter fun x=>x.2.handleName?.isSome:=List.mem_filter.2 ⟨by simp [YtfkdcfbleblgoaaGreatDoor.Rows.priceAllRow,YtfkdcfbleblgoaaGreatDoor.Rows.laid_errors_errorType],rfl⟩
theorem FU:("math/bits.deBruijn64tab",(Go.Lib.tabData .u8 (Go.Lib.deBruijn64tab.map Int.ofNat):DataW Unit))∈YtfkdcfbleblgoaaGreatDoor.Rows.priceAllRow.laid.filter fun x=>x.2.handleName?.isNone:=by
 have e:(Go.Lib.tabData .u8 (Go.Lib.deBruijn64tab.map Int.ofNat):DataW Unit)=YtfkdcfbleblgoaaGreatDoor.Rows.laid_math_bits_deBruijn64tab:=by rfl
 rw [e]
 exact List.mem_filter.2 ⟨by simp [YtfkdcfbleblgoaaGreatDoor.Rows.priceAllRow],rfl⟩
theorem FV:("internal/strconv.uint64pow10",(Go.Lib.tabData .u64 Go.Lib.pow10Tab:DataW Unit))∈YtfkdcfbleblgoaaGreatDoor.Rows.priceAllRow.laid.filter fun x=>x.2.handleName?.isNone:=by
 have e:(Go.Lib.tabData .u64 Go.Lib.pow10Tab:DataW Unit)=YtfkdcfbleblgoaaGreatDoor.Rows.laid_internal_strconv_uint64pow10:=by rfl
 rw [e]
 exact List.mem_filter.2 ⟨by simp [YtfkdcfbleblgoaaGreatDoor.Rows.priceAllRow],rfl⟩
theorem amV {W:World} {b0:Nat} {v:Value} (h:Value.okWide Tryz.prog W .any b0 2 v):∃ n,v = .int .i64 n∧IntKind.i64.has n:=by
 have hu:Tryz.prog.underlying 2=some (.int .i64):=by kernel_rfl
 unfold Value.okWide at h
 rw [hu] at h
 change Cell.okWide _ _ _ _ _ _ at h
 unfold Cell.okWide at h
 rw [hu] at h
 unfold Cell.ok at h
 rw [hu] at h
 cases v <;> simp_all
theorem eU:Tryz.f7.params = #[23,3,2,3,3]:=by kernel_rfl
theorem zZ (W:World) (base:Nat) (args:Array Value) (hV:Vars W) (hsz:args.size=Tryz.f7.params.size) (hval:∀ (j:Nat) t v,Tryz.f7.params[j]?=some t→args[j]?=some v→Value.okWide Tryz.prog W .any base t v) :
  Calls Tryz.prog 7 args W fun e W'=>e = .returned (.bool true)∧Grew W W':=by
 rw [eU] at hval hsz
 obtain ⟨v0,v1,v2,v3,v4,rfl⟩:∃ v0 v1 v2 v3 v4,args = #[v0,v1,v2,v3,v4]:=by
  obtain ⟨l⟩:=args
  match l,hsz with
  | [v0,v1,v2,v3,v4],_=>exact ⟨v0,v1,v2,v3,v4,rfl⟩
 obtain ⟨b0,hF0⟩:=ad8 (hval 0 _ v0 rfl rfl)
 obtain ⟨n1,rfl,w1⟩:=u_ (hval 1 _ v1 rfl rfl)
 obtain ⟨n2,rfl,w2⟩:=amV (hval 2 _ v2 rfl rfl)
 obtain ⟨n3,rfl,w3⟩:=u_ (hval 3 _ v3 rfl rfl)
 obtain ⟨n4,rfl,w4⟩:=u_ (hval 4 _ v4 rfl rfl)
 refine (Ze (f:=vw) hV (here _ _ Tryz.func7 (by kernel_rfl)) (aug ac1 b0 n1 (aEj w2) n3 n4) (vs:=[v0,.int .i64 n1,.int .i64 n2,.int .i64 n3,.int .i64 n4]) (.cons hF0 (.cons (.int _ _) (.cons (.int _ _) (.cons (.int _ _) (.cons (.int _ _) .nil)))))).mono ?_
 rintro e w' ⟨u,c',rfl,rfl,hF',hg⟩
 have : u=_:=(Rep.b_ _ _ hF':Rep c' (.bool true) u).mG
 subst this
 exact ⟨rfl,hg⟩
theorem KY (os:Os) (started:os.Started) (H:Type) (enc:TypeId×Value→H) :
  ReturnsInHanded {} Tryz.checked os 7 .any (fun w args=>(YtfkdcfbleblgoaaGreatDoor.Rows.priceAllSpec.pre enc Tryz.prog Tryz.f7 [] false w args∧laidMetH Tryz.prog YtfkdcfbleblgoaaGreatDoor.Rows.priceAllRow.laid w)∧sizedMet enc Tryz.prog Tryz.f7 (OpenSpec.ofChange YtfkdcfbleblgoaaGreatDoor.Rows.priceAllSpec) false w args)
   (YtfkdcfbleblgoaaGreatDoor.Rows.priceAllSpec.post enc Tryz.prog Tryz.f7 false true false false):=by
 refine law_lifted started rfl Tryz.func7 (by kernel_rfl) (by kernel_rfl) ?_ ?_ (fun W hs hl=>adO hs hl FT FU FV) ?_ zZ
 ·rw [eU]
  intro t ht
  have hall:([23,3,2,3,3].all fun t=>Tryz.prog.readableRec t && decide (t<Tryz.prog.types.size))=true:=by kernel_rfl
  have h1:=List.all_eq_true.1 hall t ht
  simp only [Bool.and_eq_true,decide_eq_true_eq] at h1
  exact h1
 ·rw [eU]
  intro ds hd
  match ds,hd with
  | [d0,d1,d2,d3,d4],_=>exact ⟨rfl,rfl,rfl⟩
 ·exact ChangeSpec.witness_shaped (enc:=enc) (C:=Tryz.checked) (os:=os) (X:=fun w _=>laidMetH Tryz.prog YtfkdcfbleblgoaaGreatDoor.Rows.priceAllRow.laid w) false (laidWorld YtfkdcfbleblgoaaGreatDoor.Rows.priceAllRow.laid os)
   #[.agg #[.int .i64 0, .int .i64 0, .int .i64 0, .string ⟨#[]⟩, .string ⟨#[]⟩, .int .i64 0, .int .i64 0, .bool false, .int .i64 0], .int .i64 0, .int .i64 0, .int .i64 0, .int .i64 0] 12 (Jv _ _)
   (World.shaped_of_ZipB (by kernel_rfl) (by kernel_rfl)) (by kernel_rfl) (by kernel_rfl) (by kernel_rfl)
   (laidWorld_met _ (by kernel_rfl) (by kernel_rfl) (by kernel_rfl))
end Go.Ev.Code
namespace Go.Proofs.YtfkdcfbleblgoaaGreatDoor
open Go.Ev.Code
noncomputable abbrev PP:Program:=Tryz.pinned.checked.prog
theorem aT {a b:Bool} (ha:a=true) (hb:b=true):(a && b)=true:=by rw [ha,hb]; rfl
theorem QH:(Rows.priceAllRow.wf (OpenSpec.ofChange Rows.priceAllSpec))=true:=by kernel_rfl
theorem QI:(laidOutB PP)=true:=by kernel_rfl
theorem QJ:(mapsRowed PP)=true:=by kernel_rfl
theorem QK:(Tryz.f7.params.all (PP.readableRec ·))=true:=by kernel_rfl
theorem QL:(namedTie PP Rows.priceAllRow.named Rows.priceAllSpec.vars)=true:=by kernel_rfl
theorem QM:((Rows.priceAllRow.stops==[]))=true:=by kernel_rfl
theorem QN:((PP.stops==[]))=true:=by kernel_rfl
theorem QO:((Rows.priceAllRow.knobs==[]))=true:=by kernel_rfl
theorem QS:((PP.stopKnobs==[]))=true:=by kernel_rfl
theorem Kv:((Rows.priceAllRow.inPlace==PP.inPlace 7))=true:=by kernel_rfl
theorem Kw:((Rows.priceAllRow.unfollowed==PP.unfollowed 7))=true:=by kernel_rfl
theorem Ky:((Rows.priceAllRow.recurses==PP.recurses 7))=true:=by kernel_rfl
theorem Kz:((Rows.priceAllRow.named==PP.varsNamed 7))=true:=by kernel_rfl
theorem KA:((Rows.priceAllRow.maps==(Tryz.f7.params.toList++Rows.priceAllSpec.plain.varTypes PP).any (PP.mapsRec ·)))=true:=by kernel_rfl
theorem KC:((Rows.priceAllRow.ifaces==(Tryz.f7.params.toList++Rows.priceAllSpec.plain.varTypes PP).any (PP.ifacesRec ·)))=true:=by kernel_rfl
theorem KD:((Rows.priceAllRow.mapsOut==PP.mapsAmong Tryz.f7.resultTypes.toList))=true:=by kernel_rfl
theorem KE:((Rows.priceAllRow.loops==(Tryz.f7.params.toList++Rows.priceAllSpec.plain.varTypes PP).any (PP.loopsFrom ·)))=true:=by kernel_rfl
theorem KF:((Rows.priceAllRow.wideKeys==(Tryz.f7.params.toList++Rows.priceAllSpec.plain.varTypes PP++Tryz.f7.resultTypes.toList).any (PP.wideKeysFrom ·)))=true:=by kernel_rfl
theorem KG:(Rows.priceAllSpec.vars.all (PP.varReadable ·))=true:=by kernel_rfl
theorem KH:(Tryz.f7.resultTypes.all (fun t=>PP.readableRec t && decide (t<PP.types.size)))=true:=by kernel_rfl
theorem KI:((Rows.priceAllRow.ifacesOut==Tryz.f7.resultTypes.toList.any (PP.ifacesRec ·)))=true:=by kernel_rfl
theorem KJ:((Rows.priceAllRow.loopsOut==Tryz.f7.resultTypes.toList.any (PP.loopsFrom ·)))=true:=by kernel_rfl
theorem KL:((Rows.priceAllRow.plainKeys==PP.plainKeys))=true:=by kernel_rfl
theorem KN:(Rows.priceAllRow.shortTexts.isNone)=true:=by kernel_rfl
theorem KO:(PP.stopsHeard)=true:=by kernel_rfl
theorem KP:(PP.mayEnter)=true:=by kernel_rfl
theorem KQ:((Rows.priceAllRow.lifted==PP.liftsFinal))=true:=by kernel_rfl
theorem KR:((PP.make==some Rows.priceAllRow.make))=true:=by kernel_rfl
theorem KT:((Rows.priceAllRow.kinds==(if Rows.priceAllRow.domain.isEmpty then [] else Tryz.f7.params.toList.map fun t=>match PP.underlying t with | some (.int k)=>some k | _=>none)))=true:=by kernel_rfl
theorem KU:((Rows.priceAllRow.pinned==Rows.priceAllRow.pinnedBy))=true:=by kernel_rfl
theorem KW:((Rows.priceAllRow.veiled==(Tryz.f7.params.toList++Rows.priceAllSpec.plain.varTypes PP++Tryz.f7.resultTypes.toList).any (PP.veiledRec ·)))=true:=by kernel_rfl
theorem KX:(Rows.priceAllRow.veiledFits PP Tryz.f7.params.toList (Tryz.f7.params.toList++Rows.priceAllSpec.plain.varTypes PP++Tryz.f7.resultTypes.toList))=true:=by kernel_rfl
theorem wV:joinedFacts PP 7 Tryz.f7 Rows.priceAllSpec Rows.priceAllRow=true:=aT (aT (aT (aT (aT (aT (aT (aT (aT (aT (aT (aT (aT (aT (aT (aT (aT (aT (aT (aT (aT (aT (aT (aT (aT (aT (aT (aT (aT (aT (aT (QH) QI) QJ) QK) QL) QM) QN) QO) QS) Kv) Kw) Ky) Kz) KA) KC) KD) KE) KF) KG) KH) KI) KJ) KL) KN) KO) KP) KQ) KR) KT) KU) KW) KX
theorem Aa:PP.funcNamed Rows.priceAllRow.func=some 7:=by kernel_rfl
theorem EZ:Tryz.f7.isInstance PP Rows.priceAllRow.origin Rows.priceAllRow.targs:=of_decide_eq_true (by kernel_rfl)
theorem E5:Tryz.f7.isWrapper PP Rows.priceAllRow.wrapper Rows.priceAllRow.mainSum:=by
 unfold Func.isWrapper; first | (rw [if_neg (of_decide_eq_false (by kernel_rfl))]; exact ⟨rfl,rfl⟩) | (rw [if_neg (by decide +kernel)]; exact ⟨rfl,rfl⟩)
theorem am5:Rows.PriceAllSaid :=
 OpenClaim.holds_of_wide 7 Tryz.f7 rfl rfl rfl rfl rfl rfl rfl ⟨rfl,rfl,rfl,rfl,rfl⟩ rfl rfl rfl rfl rfl Aa Tryz.func7 wV
  EZ E5 (fun os started H enc _=>KY os started H enc)
theorem QT:Rows.priceAllRow.wfByText (OpenSpec.ofChange Rows.priceAllSpec)=true:=by kernel_rfl
theorem wW:PP.mainIs=some (Rows.priceAllCard.stood.harness.1,Rows.priceAllCard.stood.harness.2.toList):=by kernel_rfl
theorem z_:true=PP.looks []:=by kernel_rfl
theorem EY:false=Rows.priceAllRow.goesBy PP:=by kernel_rfl
theorem EX:PP.funcNamed "rentier/rentierlaw13.PriceAll" = some 7:=by kernel_rfl
theorem Ac:([23,3,2,3,3].all fun u => !Tryz.prog.wantsStandIn u)=true:=by kernel_rfl
theorem priceAll_card:Rows.PriceAllCardSaid :=
 Claim7.holds_tied_plain_at .later [] [.data,.data,.data,.data,.handle,.sentinel,.sentinel,.pinned] true Rows.priceAllCard.stood.harness true am5 (fun _ h=>by cases h) QT (fun _ h=>by cases h) priceAll_row_tie rfl ⟨rfl,rfl⟩ wW rfl
  (fun f fn hf hfn=>by
   obtain rfl:f=7:=Option.some.inj (EX.symm.trans hf) |>.symm
   obtain rfl:fn=Tryz.f7:=(Option.some.inj (Tryz.func7.symm.trans hfn)).symm
   exact ⟨z_,fun j t ht=>by
    rw [eU] at ht
    have hm:t∈[23,3,2,3,3]:=by simpa using Array.mem_of_getElem? ht
    exact (show Tryz.prog.wantsStandIn t=false by simpa using List.all_eq_true.1 Ac t hm)⟩)
  EY
#print axioms priceAll_card
end Go.Proofs.YtfkdcfbleblgoaaGreatDoor
