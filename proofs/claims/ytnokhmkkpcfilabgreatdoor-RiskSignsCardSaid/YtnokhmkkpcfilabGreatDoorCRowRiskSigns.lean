/- The law RiskSigns holds of the given program for every input, as its card says it. Conditions: those of the row. -/
import Derived.Test.YtnokhmkkpcfilabGreatDoorTie
import Derived.Test.YtnokhmkkpcfilabGreatDoorCards
import Derived.Test.YtnokhmkkpcfilabGreatDoorCFrame
import Derived.Test.YtnokhmkkpcfilabGreatDoorCWalkRiskSigns
import Derived.Test.YtnokhmkkpcfilabGreatDoorCBegun13
set_option linter.unusedVariables false
set_option linter.unusedSimpArgs false
set_option maxRecDepth 100000
namespace Go.Ev.Code
open Go Go.Ev Go.Proofs Go.ChangeShapes Go.WideShapes Go.RowKit
theorem Ag:("errors.errorType",(DataW.iface "internal/reflectlite.rtype" (.agg [.ptr (.lit (.string [101,114,114,111,114]))]):DataW Unit))∈YtnokhmkkpcfilabGreatDoor.Rows.riskSignsRow.laid.filter fun x=>x.2.handleName?.isSome:=List.mem_filter.2 ⟨by simp [YtnokhmkkpcfilabGreatDoor.Rows.riskSignsRow,YtnokhmkkpcfilabGreatDoor.Rows.laid_errors_errorType],rfl⟩
theorem Ah:("math/bits.deBruijn64tab",(Go.Lib.tabData .u8 (Go.Lib.deBruijn64tab.map Int.ofNat):DataW Unit))∈YtnokhmkkpcfilabGreatDoor.Rows.riskSignsRow.laid.filter fun x=>x.2.handleName?.isNone:=by
 have e:(Go.Lib.tabData .u8 (Go.Lib.deBruijn64tab.map Int.ofNat):DataW Unit)=YtnokhmkkpcfilabGreatDoor.Rows.laid_math_bits_deBruijn64tab:=by rfl
 rw [e]
 exact List.mem_filter.2 ⟨by simp [YtnokhmkkpcfilabGreatDoor.Rows.riskSignsRow],rfl⟩
theorem Ai:("internal/strconv.uint64pow10",(Go.Lib.tabData .u64 Go.Lib.pow10Tab:DataW Unit))∈YtnokhmkkpcfilabGreatDoor.Rows.riskSignsRow.laid.filter fun x=>x.2.handleName?.isNone:=by
 have e:(Go.Lib.tabData .u64 Go.Lib.pow10Tab:DataW Unit)=YtnokhmkkpcfilabGreatDoor.Rows.laid_internal_strconv_uint64pow10:=by rfl
 rw [e]
 exact List.mem_filter.2 ⟨by simp [YtnokhmkkpcfilabGreatDoor.Rows.riskSignsRow],rfl⟩
theorem D9 {W:World} {b0:Nat} {v:Value} (h:Value.okWide Tryz.prog W .any b0 2 v):∃ n,v = .int .i64 n∧IntKind.i64.has n:=by
 have hu:Tryz.prog.underlying 2=some (.int .i64):=by kernel_rfl
 unfold Value.okWide at h
 rw [hu] at h
 change Cell.okWide _ _ _ _ _ _ at h
 unfold Cell.okWide at h
 rw [hu] at h
 unfold Cell.ok at h
 rw [hu] at h
 cases v <;> simp_all
theorem eY:Tryz.f4.params = #[23,3,2]:=by kernel_rfl
theorem xG (W:World) (base:Nat) (args:Array Value) (hV:Vars W) (hsz:args.size=Tryz.f4.params.size) (hval:∀ (j:Nat) t v,Tryz.f4.params[j]?=some t→args[j]?=some v→Value.okWide Tryz.prog W .any base t v) :
  Calls Tryz.prog 4 args W fun e W'=>e = .returned (.bool true)∧Grew W W':=by
 rw [eY] at hval hsz
 obtain ⟨v0,v1,v2,rfl⟩:∃ v0 v1 v2,args = #[v0,v1,v2]:=by
  obtain ⟨l⟩:=args
  match l,hsz with
  | [v0,v1,v2],_=>exact ⟨v0,v1,v2,rfl⟩
 obtain ⟨b0,hF0⟩:=PU (hval 0 _ v0 rfl rfl)
 obtain ⟨n1,rfl,w1⟩:=UQ (hval 1 _ v1 rfl rfl)
 obtain ⟨n2,rfl,w2⟩:=D9 (hval 2 _ v2 rfl rfl)
 refine (Qd (f:=jr) hV (here _ _ Tryz.func4 (by kernel_rfl)) (aiy UF b0 n1 n2) (vs:=[v0,.int .i64 n1,.int .i64 n2]) (.cons hF0 (.cons (.int _ _) (.cons (.int _ _) .nil)))).mono ?_
 rintro e w' ⟨u,c',rfl,rfl,hF',hg⟩
 have : u=_:=(Rep.b_ _ _ hF':Rep c' (.bool true) u).lU
 subst this
 exact ⟨rfl,hg⟩
theorem EJ (os:Os) (started:os.Started) (H:Type) (enc:TypeId×Value→H) :
  ReturnsInHanded {} Tryz.checked os 4 .any (fun w args=>(YtnokhmkkpcfilabGreatDoor.Rows.riskSignsSpec.pre enc Tryz.prog Tryz.f4 [] false w args∧laidMetH Tryz.prog YtnokhmkkpcfilabGreatDoor.Rows.riskSignsRow.laid w)∧sizedMet enc Tryz.prog Tryz.f4 (OpenSpec.ofChange YtnokhmkkpcfilabGreatDoor.Rows.riskSignsSpec) false w args)
   (YtnokhmkkpcfilabGreatDoor.Rows.riskSignsSpec.post enc Tryz.prog Tryz.f4 false true false false):=by
 refine law_lifted started rfl Tryz.func4 (by kernel_rfl) (by kernel_rfl) ?_ ?_ (fun W hs hl=>Ve hs hl Ag Ah Ai) ?_ xG
 ·rw [eY]
  intro t ht
  have hall:([23,3,2].all fun t=>Tryz.prog.readableRec t && decide (t<Tryz.prog.types.size))=true:=by kernel_rfl
  have h1:=List.all_eq_true.1 hall t ht
  simp only [Bool.and_eq_true,decide_eq_true_eq] at h1
  exact h1
 ·rw [eY]
  intro ds hd
  match ds,hd with
  | [d0,d1,d2],_=>exact ⟨rfl,rfl,rfl⟩
 ·exact ChangeSpec.witness_shaped (enc:=enc) (C:=Tryz.checked) (os:=os) (X:=fun w _=>laidMetH Tryz.prog YtnokhmkkpcfilabGreatDoor.Rows.riskSignsRow.laid w) false (laidWorld YtnokhmkkpcfilabGreatDoor.Rows.riskSignsRow.laid os)
   #[.agg #[.int .i64 0, .int .i64 0, .int .i64 0, .string ⟨#[]⟩, .string ⟨#[]⟩, .int .i64 0, .int .i64 0, .bool false, .int .i64 0], .int .i64 0, .int .i64 0] 12 (CU _ _)
   (World.shaped_of_ZipB (by kernel_rfl) (by kernel_rfl)) (by kernel_rfl) (by kernel_rfl) (by kernel_rfl)
   (laidWorld_met _ (by kernel_rfl) (by kernel_rfl) (by kernel_rfl))
end Go.Ev.Code
namespace Go.Proofs.YtnokhmkkpcfilabGreatDoor
open Go.Ev.Code
noncomputable abbrev PP:Program:=Tryz.pinned.checked.prog
theorem bf {a b:Bool} (ha:a=true) (hb:b=true):(a && b)=true:=by rw [ha,hb]; rfl
theorem Jw:(Rows.riskSignsRow.wf (OpenSpec.ofChange Rows.riskSignsSpec))=true:=by kernel_rfl
theorem Jy:(laidOutB PP)=true:=by kernel_rfl
theorem Jz:(mapsRowed PP)=true:=by kernel_rfl
theorem JA:(Tryz.f4.params.all (PP.readableRec ·))=true:=by kernel_rfl
theorem JB:(namedTie PP Rows.riskSignsRow.named Rows.riskSignsSpec.vars)=true:=by kernel_rfl
theorem JC:((Rows.riskSignsRow.stops==[]))=true:=by kernel_rfl
theorem JD:((PP.stops==[]))=true:=by kernel_rfl
theorem JE:((Rows.riskSignsRow.knobs==[]))=true:=by kernel_rfl
theorem JF:((PP.stopKnobs==[]))=true:=by kernel_rfl
theorem Ea:((Rows.riskSignsRow.inPlace==PP.inPlace 4))=true:=by kernel_rfl
theorem Eb:((Rows.riskSignsRow.unfollowed==PP.unfollowed 4))=true:=by kernel_rfl
theorem Ec:((Rows.riskSignsRow.recurses==PP.recurses 4))=true:=by kernel_rfl
theorem Ed:((Rows.riskSignsRow.named==PP.varsNamed 4))=true:=by kernel_rfl
theorem Ee:((Rows.riskSignsRow.maps==(Tryz.f4.params.toList++Rows.riskSignsSpec.plain.varTypes PP).any (PP.mapsRec ·)))=true:=by kernel_rfl
theorem Ef:((Rows.riskSignsRow.ifaces==(Tryz.f4.params.toList++Rows.riskSignsSpec.plain.varTypes PP).any (PP.ifacesRec ·)))=true:=by kernel_rfl
theorem Eh:((Rows.riskSignsRow.mapsOut==PP.mapsAmong Tryz.f4.resultTypes.toList))=true:=by kernel_rfl
theorem Ei:((Rows.riskSignsRow.loops==(Tryz.f4.params.toList++Rows.riskSignsSpec.plain.varTypes PP).any (PP.loopsFrom ·)))=true:=by kernel_rfl
theorem Ej:((Rows.riskSignsRow.wideKeys==(Tryz.f4.params.toList++Rows.riskSignsSpec.plain.varTypes PP++Tryz.f4.resultTypes.toList).any (PP.wideKeysFrom ·)))=true:=by kernel_rfl
theorem Em:(Rows.riskSignsSpec.vars.all (PP.varReadable ·))=true:=by kernel_rfl
theorem En:(Tryz.f4.resultTypes.all (fun t=>PP.readableRec t && decide (t<PP.types.size)))=true:=by kernel_rfl
theorem Eo:((Rows.riskSignsRow.ifacesOut==Tryz.f4.resultTypes.toList.any (PP.ifacesRec ·)))=true:=by kernel_rfl
theorem Ep:((Rows.riskSignsRow.loopsOut==Tryz.f4.resultTypes.toList.any (PP.loopsFrom ·)))=true:=by kernel_rfl
theorem Es:((Rows.riskSignsRow.plainKeys==PP.plainKeys))=true:=by kernel_rfl
theorem Et:(Rows.riskSignsRow.shortTexts.isNone)=true:=by kernel_rfl
theorem Eu:(PP.stopsHeard)=true:=by kernel_rfl
theorem Ew:(PP.mayEnter)=true:=by kernel_rfl
theorem Ey:((Rows.riskSignsRow.lifted==PP.liftsFinal))=true:=by kernel_rfl
theorem Ez:((PP.make==some Rows.riskSignsRow.make))=true:=by kernel_rfl
theorem ED:((Rows.riskSignsRow.kinds==(if Rows.riskSignsRow.domain.isEmpty then [] else Tryz.f4.params.toList.map fun t=>match PP.underlying t with | some (.int k)=>some k | _=>none)))=true:=by kernel_rfl
theorem EG:((Rows.riskSignsRow.pinned==Rows.riskSignsRow.pinnedBy))=true:=by kernel_rfl
theorem EH:((Rows.riskSignsRow.veiled==(Tryz.f4.params.toList++Rows.riskSignsSpec.plain.varTypes PP++Tryz.f4.resultTypes.toList).any (PP.veiledRec ·)))=true:=by kernel_rfl
theorem EI:(Rows.riskSignsRow.veiledFits PP Tryz.f4.params.toList (Tryz.f4.params.toList++Rows.riskSignsSpec.plain.varTypes PP++Tryz.f4.resultTypes.toList))=true:=by kernel_rfl
theorem ug:joinedFacts PP 4 Tryz.f4 Rows.riskSignsSpec Rows.riskSignsRow=true:=bf (bf (bf (bf (bf (bf (bf (bf (bf (bf (bf (bf (bf (bf (bf (bf (bf (bf (bf (bf (bf (bf (bf (bf (bf (bf (bf (bf (bf (bf (bf (Jw) Jy) Jz) JA) JB) JC) JD) JE) JF) Ea) Eb) Ec) Ed) Ee) Ef) Eh) Ei) Ej) Em) En) Eo) Ep) Es) Et) Eu) Ew) Ey) Ez) ED) EG) EH) EI
theorem xI:PP.funcNamed Rows.riskSignsRow.func=some 4:=by kernel_rfl
theorem zU:Tryz.f4.isInstance PP Rows.riskSignsRow.origin Rows.riskSignsRow.targs:=of_decide_eq_true (by kernel_rfl)
theorem zV:Tryz.f4.isWrapper PP Rows.riskSignsRow.wrapper Rows.riskSignsRow.mainSum:=by
 unfold Func.isWrapper; first | (rw [if_neg (of_decide_eq_false (by kernel_rfl))]; exact ⟨rfl,rfl⟩) | (rw [if_neg (by decide +kernel)]; exact ⟨rfl,rfl⟩)
theorem acp:Rows.RiskSignsSaid :=
 OpenClaim.holds_of_wide 4 Tryz.f4 rfl rfl rfl rfl rfl rfl rfl ⟨rfl,rfl,rfl,rfl,rfl⟩ rfl rfl rfl rfl rfl xI Tryz.func4 ug
  zU zV (fun os started H enc _=>EJ os started H enc)
theorem JG:Rows.riskSignsRow.wfByText (OpenSpec.ofChange Rows.riskSignsSpec)=true:=by kernel_rfl
theorem uh:PP.mainIs=some (Rows.riskSignsCard.stood.harness.1,Rows.riskSignsCard.stood.harness.2.toList):=by kernel_rfl
theorem xH:true=PP.looks []:=by kernel_rfl
theorem zT:false=Rows.riskSignsRow.goesBy PP:=by kernel_rfl
theorem zS:PP.funcNamed "rentier/rentierlaw13.RiskSigns" = some 4:=by kernel_rfl
theorem xJ:([23,3,2].all fun u => !Tryz.prog.wantsStandIn u)=true:=by kernel_rfl
theorem riskSigns_card:Rows.RiskSignsCardSaid :=
 Claim7.holds_tied_plain_at .later [] [.data,.data,.data,.data,.handle,.sentinel,.sentinel,.pinned] true Rows.riskSignsCard.stood.harness true acp (fun _ h=>by cases h) JG (fun _ h=>by cases h) riskSigns_row_tie rfl ⟨rfl,rfl⟩ uh rfl
  (fun f fn hf hfn=>by
   obtain rfl:f=4:=Option.some.inj (zS.symm.trans hf) |>.symm
   obtain rfl:fn=Tryz.f4:=(Option.some.inj (Tryz.func4.symm.trans hfn)).symm
   exact ⟨xH,fun j t ht=>by
    rw [eY] at ht
    have hm:t∈[23,3,2]:=by simpa using Array.mem_of_getElem? ht
    exact (show Tryz.prog.wantsStandIn t=false by simpa using List.all_eq_true.1 xJ t hm)⟩)
  zT
#print axioms riskSigns_card
end Go.Proofs.YtnokhmkkpcfilabGreatDoor
