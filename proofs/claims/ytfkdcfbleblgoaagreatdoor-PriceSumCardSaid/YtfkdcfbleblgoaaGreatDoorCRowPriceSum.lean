/- The law PriceSum holds of the given program for every input, as its card says it. Conditions: those of the row. -/
import Derived.Test.YtfkdcfbleblgoaaGreatDoorTie
import Derived.Test.YtfkdcfbleblgoaaGreatDoorCards
import Derived.Test.YtfkdcfbleblgoaaGreatDoorCFrame
import Derived.Test.YtfkdcfbleblgoaaGreatDoorCBegun13
import Derived.Test.YtfkdcfbleblgoaaGreatDoorCXPriceSum0
set_option linter.unusedVariables false
set_option linter.unusedSimpArgs false
set_option maxRecDepth 100000
namespace Go.Ev.Code
open Go Go.Ev Go.Proofs Go.ChangeShapes Go.WideShapes Go.RowKit
theorem FT:("errors.errorType",(DataW.iface "internal/reflectlite.rtype" (.agg [.ptr (.lit (.string [101,114,114,111,114]))]):DataW Unit))∈YtfkdcfbleblgoaaGreatDoor.Rows.priceSumRow.laid.filter fun x=>x.2.handleName?.isSome:=List.mem_filter.2 ⟨by simp [YtfkdcfbleblgoaaGreatDoor.Rows.priceSumRow,YtfkdcfbleblgoaaGreatDoor.Rows.laid_errors_errorType],rfl⟩
theorem FU:("math/bits.deBruijn64tab",(Go.Lib.tabData .u8 (Go.Lib.deBruijn64tab.map Int.ofNat):DataW Unit))∈YtfkdcfbleblgoaaGreatDoor.Rows.priceSumRow.laid.filter fun x=>x.2.handleName?.isNone:=by
 have e:(Go.Lib.tabData .u8 (Go.Lib.deBruijn64tab.map Int.ofNat):DataW Unit)=YtfkdcfbleblgoaaGreatDoor.Rows.laid_math_bits_deBruijn64tab:=by rfl
 rw [e]
 exact List.mem_filter.2 ⟨by simp [YtfkdcfbleblgoaaGreatDoor.Rows.priceSumRow],rfl⟩
theorem FV:("internal/strconv.uint64pow10",(Go.Lib.tabData .u64 Go.Lib.pow10Tab:DataW Unit))∈YtfkdcfbleblgoaaGreatDoor.Rows.priceSumRow.laid.filter fun x=>x.2.handleName?.isNone:=by
 have e:(Go.Lib.tabData .u64 Go.Lib.pow10Tab:DataW Unit)=YtfkdcfbleblgoaaGreatDoor.Rows.laid_internal_strconv_uint64pow10:=by rfl
 rw [e]
 exact List.mem_filter.2 ⟨by simp [YtfkdcfbleblgoaaGreatDoor.Rows.priceSumRow],rfl⟩
theorem amV {W:World} {b0:Nat} {v:Value} (h:Value.okWide Tryz.prog W .any b0 2 v):∃ n,v = .int .i64 n∧IntKind.i64.has n:=by
 have hu:Tryz.prog.underlying 2=some (.int .i64):=by kernel_rfl
 unfold Value.okWide at h
 rw [hu] at h
 change Cell.okWide _ _ _ _ _ _ at h
 unfold Cell.okWide at h
 rw [hu] at h
 unfold Cell.ok at h
 rw [hu] at h
 cases v <;> simp_all
theorem eU:Tryz.f5.params = #[3,2,3,3,3]:=by kernel_rfl
theorem zZ (W:World) (base:Nat) (args:Array Value) (hV:Vars W) (hsz:args.size=Tryz.f5.params.size) (hval:∀ (j:Nat) t v,Tryz.f5.params[j]?=some t→args[j]?=some v→Value.okWide Tryz.prog W .any base t v) :
  Calls Tryz.prog 5 args W fun e W'=>e = .returned (.bool true)∧Grew W W':=by
 rw [eU] at hval hsz
 obtain ⟨v0,v1,v2,v3,v4,rfl⟩:∃ v0 v1 v2 v3 v4,args = #[v0,v1,v2,v3,v4]:=by
  obtain ⟨l⟩:=args
  match l,hsz with
  | [v0,v1,v2,v3,v4],_=>exact ⟨v0,v1,v2,v3,v4,rfl⟩
 obtain ⟨n0,rfl,w0⟩:=u_ (hval 0 _ v0 rfl rfl)
 obtain ⟨n1,rfl,w1⟩:=amV (hval 1 _ v1 rfl rfl)
 obtain ⟨n2,rfl,w2⟩:=u_ (hval 2 _ v2 rfl rfl)
 obtain ⟨n3,rfl,w3⟩:=u_ (hval 3 _ v3 rfl rfl)
 obtain ⟨n4,rfl,w4⟩:=u_ (hval 4 _ v4 rfl rfl)
 refine (Ze (f:=vC) hV (here _ _ Tryz.func5 (by kernel_rfl)) (auh ac1 n0 n1 n2 n3 n4) (vs:=[.int .i64 n0,.int .i64 n1,.int .i64 n2,.int .i64 n3,.int .i64 n4]) (.cons (.int _ _) (.cons (.int _ _) (.cons (.int _ _) (.cons (.int _ _) (.cons (.int _ _) .nil)))))).mono ?_
 rintro e w' ⟨u,c',rfl,rfl,hF',hg⟩
 have : u=_:=(Rep.b_ _ _ hF':Rep c' (.bool true) u).mG
 subst this
 exact ⟨rfl,hg⟩
theorem KY (os:Os) (started:os.Started) (H:Type) (enc:TypeId×Value→H) :
  ReturnsInHanded {} Tryz.checked os 5 .any (fun w args=>(YtfkdcfbleblgoaaGreatDoor.Rows.priceSumSpec.pre enc Tryz.prog Tryz.f5 [] false w args∧laidMetH Tryz.prog YtfkdcfbleblgoaaGreatDoor.Rows.priceSumRow.laid w)∧sizedMet enc Tryz.prog Tryz.f5 (OpenSpec.ofChange YtfkdcfbleblgoaaGreatDoor.Rows.priceSumSpec) false w args)
   (YtfkdcfbleblgoaaGreatDoor.Rows.priceSumSpec.post enc Tryz.prog Tryz.f5 false true false false):=by
 refine law_lifted started rfl Tryz.func5 (by kernel_rfl) (by kernel_rfl) ?_ ?_ (fun W hs hl=>adO hs hl FT FU FV) ?_ zZ
 ·rw [eU]
  intro t ht
  have hall:([3,2,3,3,3].all fun t=>Tryz.prog.readableRec t && decide (t<Tryz.prog.types.size))=true:=by kernel_rfl
  have h1:=List.all_eq_true.1 hall t ht
  simp only [Bool.and_eq_true,decide_eq_true_eq] at h1
  exact h1
 ·rw [eU]
  intro ds hd
  match ds,hd with
  | [d0,d1,d2,d3,d4],_=>exact ⟨rfl,rfl,rfl⟩
 ·exact ChangeSpec.witness_shaped (enc:=enc) (C:=Tryz.checked) (os:=os) (X:=fun w _=>laidMetH Tryz.prog YtfkdcfbleblgoaaGreatDoor.Rows.priceSumRow.laid w) false (laidWorld YtfkdcfbleblgoaaGreatDoor.Rows.priceSumRow.laid os)
   #[.int .i64 0, .int .i64 0, .int .i64 0, .int .i64 0, .int .i64 0] 12 (Jv _ _)
   (World.shaped_of_ZipB (by kernel_rfl) (by kernel_rfl)) (by kernel_rfl) (by kernel_rfl) (by kernel_rfl)
   (laidWorld_met _ (by kernel_rfl) (by kernel_rfl) (by kernel_rfl))
end Go.Ev.Code
namespace Go.Proofs.YtfkdcfbleblgoaaGreatDoor
open Go.Ev.Code
noncomputable abbrev PP:Program:=Tryz.pinned.checked.prog
theorem aT {a b:Bool} (ha:a=true) (hb:b=true):(a && b)=true:=by rw [ha,hb]; rfl
theorem QH:(Rows.priceSumRow.wf (OpenSpec.ofChange Rows.priceSumSpec))=true:=by kernel_rfl
theorem QI:(laidOutB PP)=true:=by kernel_rfl
theorem QJ:(mapsRowed PP)=true:=by kernel_rfl
theorem QK:(Tryz.f5.params.all (PP.readableRec ·))=true:=by kernel_rfl
theorem QL:(namedTie PP Rows.priceSumRow.named Rows.priceSumSpec.vars)=true:=by kernel_rfl
theorem QM:((Rows.priceSumRow.stops==[]))=true:=by kernel_rfl
theorem QN:((PP.stops==[]))=true:=by kernel_rfl
theorem QO:((Rows.priceSumRow.knobs==[]))=true:=by kernel_rfl
theorem QS:((PP.stopKnobs==[]))=true:=by kernel_rfl
theorem Kv:((Rows.priceSumRow.inPlace==PP.inPlace 5))=true:=by kernel_rfl
theorem Kw:((Rows.priceSumRow.unfollowed==PP.unfollowed 5))=true:=by kernel_rfl
theorem Ky:((Rows.priceSumRow.recurses==PP.recurses 5))=true:=by kernel_rfl
theorem Kz:((Rows.priceSumRow.named==PP.varsNamed 5))=true:=by kernel_rfl
theorem KA:((Rows.priceSumRow.maps==(Tryz.f5.params.toList++Rows.priceSumSpec.plain.varTypes PP).any (PP.mapsRec ·)))=true:=by kernel_rfl
theorem KC:((Rows.priceSumRow.ifaces==(Tryz.f5.params.toList++Rows.priceSumSpec.plain.varTypes PP).any (PP.ifacesRec ·)))=true:=by kernel_rfl
theorem KD:((Rows.priceSumRow.mapsOut==PP.mapsAmong Tryz.f5.resultTypes.toList))=true:=by kernel_rfl
theorem KE:((Rows.priceSumRow.loops==(Tryz.f5.params.toList++Rows.priceSumSpec.plain.varTypes PP).any (PP.loopsFrom ·)))=true:=by kernel_rfl
theorem KF:((Rows.priceSumRow.wideKeys==(Tryz.f5.params.toList++Rows.priceSumSpec.plain.varTypes PP++Tryz.f5.resultTypes.toList).any (PP.wideKeysFrom ·)))=true:=by kernel_rfl
theorem KG:(Rows.priceSumSpec.vars.all (PP.varReadable ·))=true:=by kernel_rfl
theorem KH:(Tryz.f5.resultTypes.all (fun t=>PP.readableRec t && decide (t<PP.types.size)))=true:=by kernel_rfl
theorem KI:((Rows.priceSumRow.ifacesOut==Tryz.f5.resultTypes.toList.any (PP.ifacesRec ·)))=true:=by kernel_rfl
theorem KJ:((Rows.priceSumRow.loopsOut==Tryz.f5.resultTypes.toList.any (PP.loopsFrom ·)))=true:=by kernel_rfl
theorem KL:((Rows.priceSumRow.plainKeys==PP.plainKeys))=true:=by kernel_rfl
theorem KN:(Rows.priceSumRow.shortTexts.isNone)=true:=by kernel_rfl
theorem KO:(PP.stopsHeard)=true:=by kernel_rfl
theorem KP:(PP.mayEnter)=true:=by kernel_rfl
theorem KQ:((Rows.priceSumRow.lifted==PP.liftsFinal))=true:=by kernel_rfl
theorem KR:((PP.make==some Rows.priceSumRow.make))=true:=by kernel_rfl
theorem KT:((Rows.priceSumRow.kinds==(if Rows.priceSumRow.domain.isEmpty then [] else Tryz.f5.params.toList.map fun t=>match PP.underlying t with | some (.int k)=>some k | _=>none)))=true:=by kernel_rfl
theorem KU:((Rows.priceSumRow.pinned==Rows.priceSumRow.pinnedBy))=true:=by kernel_rfl
theorem KW:((Rows.priceSumRow.veiled==(Tryz.f5.params.toList++Rows.priceSumSpec.plain.varTypes PP++Tryz.f5.resultTypes.toList).any (PP.veiledRec ·)))=true:=by kernel_rfl
theorem KX:(Rows.priceSumRow.veiledFits PP Tryz.f5.params.toList (Tryz.f5.params.toList++Rows.priceSumSpec.plain.varTypes PP++Tryz.f5.resultTypes.toList))=true:=by kernel_rfl
theorem wV:joinedFacts PP 5 Tryz.f5 Rows.priceSumSpec Rows.priceSumRow=true:=aT (aT (aT (aT (aT (aT (aT (aT (aT (aT (aT (aT (aT (aT (aT (aT (aT (aT (aT (aT (aT (aT (aT (aT (aT (aT (aT (aT (aT (aT (aT (QH) QI) QJ) QK) QL) QM) QN) QO) QS) Kv) Kw) Ky) Kz) KA) KC) KD) KE) KF) KG) KH) KI) KJ) KL) KN) KO) KP) KQ) KR) KT) KU) KW) KX
theorem Aa:PP.funcNamed Rows.priceSumRow.func=some 5:=by kernel_rfl
theorem EZ:Tryz.f5.isInstance PP Rows.priceSumRow.origin Rows.priceSumRow.targs:=of_decide_eq_true (by kernel_rfl)
theorem E5:Tryz.f5.isWrapper PP Rows.priceSumRow.wrapper Rows.priceSumRow.mainSum:=by
 unfold Func.isWrapper; first | (rw [if_neg (of_decide_eq_false (by kernel_rfl))]; exact ⟨rfl,rfl⟩) | (rw [if_neg (by decide +kernel)]; exact ⟨rfl,rfl⟩)
theorem am6:Rows.PriceSumSaid :=
 OpenClaim.holds_of_wide 5 Tryz.f5 rfl rfl rfl rfl rfl rfl rfl ⟨rfl,rfl,rfl,rfl,rfl⟩ rfl rfl rfl rfl rfl Aa Tryz.func5 wV
  EZ E5 (fun os started H enc _=>KY os started H enc)
theorem QT:Rows.priceSumRow.wfByText (OpenSpec.ofChange Rows.priceSumSpec)=true:=by kernel_rfl
theorem wW:PP.mainIs=some (Rows.priceSumCard.stood.harness.1,Rows.priceSumCard.stood.harness.2.toList):=by kernel_rfl
theorem z_:true=PP.looks []:=by kernel_rfl
theorem EY:false=Rows.priceSumRow.goesBy PP:=by kernel_rfl
theorem EX:PP.funcNamed "rentier/rentierlaw13.PriceSum" = some 5:=by kernel_rfl
theorem Ac:([3,2,3,3,3].all fun u => !Tryz.prog.wantsStandIn u)=true:=by kernel_rfl
theorem priceSum_card:Rows.PriceSumCardSaid :=
 Claim7.holds_tied_plain_at .later [] [.data,.data,.data,.data,.handle,.sentinel,.sentinel,.pinned] true Rows.priceSumCard.stood.harness true am6 (fun _ h=>by cases h) QT (fun _ h=>by cases h) priceSum_row_tie rfl ⟨rfl,rfl⟩ wW rfl
  (fun f fn hf hfn=>by
   obtain rfl:f=5:=Option.some.inj (EX.symm.trans hf) |>.symm
   obtain rfl:fn=Tryz.f5:=(Option.some.inj (Tryz.func5.symm.trans hfn)).symm
   exact ⟨z_,fun j t ht=>by
    rw [eU] at ht
    have hm:t∈[3,2,3,3,3]:=by simpa using Array.mem_of_getElem? ht
    exact (show Tryz.prog.wantsStandIn t=false by simpa using List.all_eq_true.1 Ac t hm)⟩)
  EY
#print axioms priceSum_card
end Go.Proofs.YtfkdcfbleblgoaaGreatDoor
