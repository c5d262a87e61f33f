/- The law YieldEdge holds of the given program for every input, as its card says it. Conditions: those of the row. -/
import Derived.Test.YtnokhmkkpcfilabGreatDoorTie
import Derived.Test.YtnokhmkkpcfilabGreatDoorCards
import Derived.Test.YtnokhmkkpcfilabGreatDoorCFrame
import Derived.Test.YtnokhmkkpcfilabGreatDoorCWalkYieldBack
import Derived.Test.YtnokhmkkpcfilabGreatDoorCBegun13
set_option linter.unusedVariables false
set_option linter.unusedSimpArgs false
set_option maxRecDepth 100000
namespace Go.Ev.Code
open Go Go.Ev Go.Proofs Go.ChangeShapes Go.WideShapes Go.RowKit
theorem Ag : ("errors.errorType", (DataW.iface "internal/reflectlite.rtype" (.agg [.ptr (.lit (.string [101, 114, 114, 111, 114]))]) : DataW Unit)) ∈ YtnokhmkkpcfilabGreatDoor.Rows.yieldEdgeRow.laid.filter fun x => x.2.handleName?.isSome := List.mem_filter.2 ⟨by simp [YtnokhmkkpcfilabGreatDoor.Rows.yieldEdgeRow, YtnokhmkkpcfilabGreatDoor.Rows.laid_errors_errorType], rfl⟩
theorem Ah : ("math/bits.deBruijn64tab", (Go.Lib.tabData .u8 (Go.Lib.deBruijn64tab.map Int.ofNat) : DataW Unit)) ∈ YtnokhmkkpcfilabGreatDoor.Rows.yieldEdgeRow.laid.filter fun x => x.2.handleName?.isNone := by
 have e : (Go.Lib.tabData .u8 (Go.Lib.deBruijn64tab.map Int.ofNat) : DataW Unit) = YtnokhmkkpcfilabGreatDoor.Rows.laid_math_bits_deBruijn64tab := by rfl
 rw [e]
 exact List.mem_filter.2 ⟨by simp [YtnokhmkkpcfilabGreatDoor.Rows.yieldEdgeRow], rfl⟩
theorem Ai : ("internal/strconv.uint64pow10", (Go.Lib.tabData .u64 Go.Lib.pow10Tab : DataW Unit)) ∈ YtnokhmkkpcfilabGreatDoor.Rows.yieldEdgeRow.laid.filter fun x => x.2.handleName?.isNone := by
 have e : (Go.Lib.tabData .u64 Go.Lib.pow10Tab : DataW Unit) = YtnokhmkkpcfilabGreatDoor.Rows.laid_internal_strconv_uint64pow10 := by rfl
 rw [e]
 exact List.mem_filter.2 ⟨by simp [YtnokhmkkpcfilabGreatDoor.Rows.yieldEdgeRow], rfl⟩
theorem eY : Tryz.f6.params = #[23, 3] := by kernel_rfl
theorem xG (W : World) (base : Nat) (args : Array Value) (hV : Vars W) (hsz : args.size = Tryz.f6.params.size) (hval : ∀ (j : Nat) t v, Tryz.f6.params[j]? = some t → args[j]? = some v → Value.okWide Tryz.prog W .any base t v) :
  Calls Tryz.prog 6 args W fun e W' => e = .returned (.bool true) ∧ Grew W W' := by
 rw [eY] at hval hsz
 obtain ⟨v0, v1, rfl⟩ : ∃ v0 v1, args = #[v0, v1] := by
  obtain ⟨l⟩ := args
  match l, hsz with
  | [v0, v1], _ => exact ⟨v0, v1, rfl⟩
 obtain ⟨b0, hF0⟩ := PU (hval 0 _ v0 rfl rfl)
 obtain ⟨n1, rfl, w1⟩ := UQ (hval 1 _ v1 rfl rfl)
 refine (Qd (f := jw) hV (here _ _ Tryz.func6 (by kernel_rfl)) (aiS UF b0 n1) (vs := [v0, .int .i64 n1]) (.cons hF0 (.cons (.int _ _) .nil))).mono ?_
 rintro e w' ⟨u, c', rfl, rfl, hF', hg⟩
 have : u = _ := (Rep.b_ _ _ hF' : Rep c' (.bool true) u).lU
 subst this
 exact ⟨rfl, hg⟩
theorem EJ (os : Os) (started : os.Started) (H : Type) (enc : TypeId × Value → H) :
  ReturnsInHanded {} Tryz.checked os 6 .any (fun w args => (YtnokhmkkpcfilabGreatDoor.Rows.yieldEdgeSpec.pre enc Tryz.prog Tryz.f6 [] false w args ∧ laidMetH Tryz.prog YtnokhmkkpcfilabGreatDoor.Rows.yieldEdgeRow.laid w) ∧ sizedMet enc Tryz.prog Tryz.f6 (OpenSpec.ofChange YtnokhmkkpcfilabGreatDoor.Rows.yieldEdgeSpec) false w args)
   (YtnokhmkkpcfilabGreatDoor.Rows.yieldEdgeSpec.post enc Tryz.prog Tryz.f6 false true false false) := by
 refine law_lifted started rfl Tryz.func6 (by kernel_rfl) (by kernel_rfl) ?_ ?_ (fun W hs hl => Ve hs hl Ag Ah Ai) ?_ xG
 ·rw [eY]
  intro t ht
  have hall : ([23, 3].all fun t => Tryz.prog.readableRec t && decide (t < Tryz.prog.types.size)) = true := by kernel_rfl
  have h1 := List.all_eq_true.1 hall t ht
  simp only [Bool.and_eq_true, decide_eq_true_eq] at h1
  exact h1
 ·rw [eY]
  intro ds hd
  match ds, hd with
  | [d0, d1], _ => exact ⟨rfl, rfl, rfl⟩
 ·exact ChangeSpec.witness_shaped (enc := enc) (C := Tryz.checked) (os := os) (X := fun w _ => laidMetH Tryz.prog YtnokhmkkpcfilabGreatDoor.Rows.yieldEdgeRow.laid w) false (laidWorld YtnokhmkkpcfilabGreatDoor.Rows.yieldEdgeRow.laid os)
   #[.agg #[.int .i64 0, .int .i64 0, .int .i64 0, .string ⟨#[]⟩, .string ⟨#[]⟩, .int .i64 0, .int .i64 0, .bool false, .int .i64 0], .int .i64 0] 12 (CU _ _)
   (World.shaped_of_ZipB (by kernel_rfl) (by kernel_rfl)) (by kernel_rfl) (by kernel_rfl) (by kernel_rfl)
   (laidWorld_met _ (by kernel_rfl) (by kernel_rfl) (by kernel_rfl))
end Go.Ev.Code
namespace Go.Proofs.YtnokhmkkpcfilabGreatDoor
open Go.Ev.Code
noncomputable abbrev PP : Program := Tryz.pinned.checked.prog
theorem bf {a b : Bool} (ha : a = true) (hb : b = true) : (a && b) = true := by rw [ha, hb]; rfl
theorem Jw : (Rows.yieldEdgeRow.wf (OpenSpec.ofChange Rows.yieldEdgeSpec)) = true := by kernel_rfl
theorem Jy : (laidOutB PP) = true := by kernel_rfl
theorem Jz : (mapsRowed PP) = true := by kernel_rfl
theorem JA : (Tryz.f6.params.all (PP.readableRec ·)) = true := by kernel_rfl
theorem JB : (namedTie PP Rows.yieldEdgeRow.named Rows.yieldEdgeSpec.vars) = true := by kernel_rfl
theorem JC : ((Rows.yieldEdgeRow.stops == [])) = true := by kernel_rfl
theorem JD : ((PP.stops == [])) = true := by kernel_rfl
theorem JE : ((Rows.yieldEdgeRow.knobs == [])) = true := by kernel_rfl
theorem JF : ((PP.stopKnobs == [])) = true := by kernel_rfl
theorem Ea : ((Rows.yieldEdgeRow.inPlace == PP.inPlace 6)) = true := by kernel_rfl
theorem Eb : ((Rows.yieldEdgeRow.unfollowed == PP.unfollowed 6)) = true := by kernel_rfl
theorem Ec : ((Rows.yieldEdgeRow.recurses == PP.recurses 6)) = true := by kernel_rfl
theorem Ed : ((Rows.yieldEdgeRow.named == PP.varsNamed 6)) = true := by kernel_rfl
theorem Ee : ((Rows.yieldEdgeRow.maps == (Tryz.f6.params.toList ++ Rows.yieldEdgeSpec.plain.varTypes PP).any (PP.mapsRec ·))) = true := by kernel_rfl
theorem Ef : ((Rows.yieldEdgeRow.ifaces == (Tryz.f6.params.toList ++ Rows.yieldEdgeSpec.plain.varTypes PP).any (PP.ifacesRec ·))) = true := by kernel_rfl
theorem Eh : ((Rows.yieldEdgeRow.mapsOut == PP.mapsAmong Tryz.f6.resultTypes.toList)) = true := by kernel_rfl
theorem Ei : ((Rows.yieldEdgeRow.loops == (Tryz.f6.params.toList ++ Rows.yieldEdgeSpec.plain.varTypes PP).any (PP.loopsFrom ·))) = true := by kernel_rfl
theorem Ej : ((Rows.yieldEdgeRow.wideKeys == (Tryz.f6.params.toList ++ Rows.yieldEdgeSpec.plain.varTypes PP ++ Tryz.f6.resultTypes.toList).any (PP.wideKeysFrom ·))) = true := by kernel_rfl
theorem Em : (Rows.yieldEdgeSpec.vars.all (PP.varReadable ·)) = true := by kernel_rfl
theorem En : (Tryz.f6.resultTypes.all (fun t => PP.readableRec t && decide (t < PP.types.size))) = true := by kernel_rfl
theorem Eo : ((Rows.yieldEdgeRow.ifacesOut == Tryz.f6.resultTypes.toList.any (PP.ifacesRec ·))) = true := by kernel_rfl
theorem Ep : ((Rows.yieldEdgeRow.loopsOut == Tryz.f6.resultTypes.toList.any (PP.loopsFrom ·))) = true := by kernel_rfl
theorem Es : ((Rows.yieldEdgeRow.plainKeys == PP.plainKeys)) = true := by kernel_rfl
theorem Et : (Rows.yieldEdgeRow.shortTexts.isNone) = true := by kernel_rfl
theorem Eu : (PP.stopsHeard) = true := by kernel_rfl
theorem Ew : (PP.mayEnter) = true := by kernel_rfl
theorem Ey : ((Rows.yieldEdgeRow.lifted == PP.liftsFinal)) = true := by kernel_rfl
theorem Ez : ((PP.make == some Rows.yieldEdgeRow.make)) = true := by kernel_rfl
theorem ED : ((Rows.yieldEdgeRow.kinds == (if Rows.yieldEdgeRow.domain.isEmpty then [] else Tryz.f6.params.toList.map fun t => match PP.underlying t with | some (.int k) => some k | _ => none))) = true := by kernel_rfl
theorem EG : ((Rows.yieldEdgeRow.pinned == Rows.yieldEdgeRow.pinnedBy)) = true := by kernel_rfl
theorem EH : ((Rows.yieldEdgeRow.veiled == (Tryz.f6.params.toList ++ Rows.yieldEdgeSpec.plain.varTypes PP ++ Tryz.f6.resultTypes.toList).any (PP.veiledRec ·))) = true := by kernel_rfl
theorem EI : (Rows.yieldEdgeRow.veiledFits PP Tryz.f6.params.toList (Tryz.f6.params.toList ++ Rows.yieldEdgeSpec.plain.varTypes PP ++ Tryz.f6.resultTypes.toList)) = true := by kernel_rfl
theorem ug : joinedFacts PP 6 Tryz.f6 Rows.yieldEdgeSpec Rows.yieldEdgeRow = true := bf (bf (bf (bf (bf (bf (bf (bf (bf (bf (bf (bf (bf (bf (bf (bf (bf (bf (bf (bf (bf (bf (bf (bf (bf (bf (bf (bf (bf (bf (bf (Jw) Jy) Jz) JA) JB) JC) JD) JE) JF) Ea) Eb) Ec) Ed) Ee) Ef) Eh) Ei) Ej) Em) En) Eo) Ep) Es) Et) Eu) Ew) Ey) Ez) ED) EG) EH) EI
theorem xI : PP.funcNamed Rows.yieldEdgeRow.func = some 6 := by kernel_rfl
theorem zU : Tryz.f6.isInstance PP Rows.yieldEdgeRow.origin Rows.yieldEdgeRow.targs := of_decide_eq_true (by kernel_rfl)
theorem zV : Tryz.f6.isWrapper PP Rows.yieldEdgeRow.wrapper Rows.yieldEdgeRow.mainSum := by
 unfold Func.isWrapper; first | (rw [if_neg (of_decide_eq_false (by kernel_rfl))]; exact ⟨rfl, rfl⟩) | (rw [if_neg (by decide +kernel)]; exact ⟨rfl, rfl⟩)
theorem acN : Rows.YieldEdgeSaid :=
 OpenClaim.holds_of_wide 6 Tryz.f6 rfl rfl rfl rfl rfl rfl rfl ⟨rfl, rfl, rfl, rfl, rfl⟩ rfl rfl rfl rfl rfl xI Tryz.func6 ug
  zU zV (fun os started H enc _ => EJ os started H enc)
theorem JG : Rows.yieldEdgeRow.wfByText (OpenSpec.ofChange Rows.yieldEdgeSpec) = true := by kernel_rfl
theorem uh : PP.mainIs = some (Rows.yieldEdgeCard.stood.harness.1, Rows.yieldEdgeCard.stood.harness.2.toList) := by kernel_rfl
theorem xH : true = PP.looks [] := by kernel_rfl
theorem zT : false = Rows.yieldEdgeRow.goesBy PP := by kernel_rfl
theorem zS : PP.funcNamed "rentier/rentierlaw13.YieldEdge" = some 6 := by kernel_rfl
theorem xJ : ([23, 3].all fun u => !Tryz.prog.wantsStandIn u) = true := by kernel_rfl
theorem yieldEdge_card : Rows.YieldEdgeCardSaid :=
 Claim7.holds_tied_plain_at .later [] [.data, .data, .data, .data, .handle, .sentinel, .sentinel, .pinned] true Rows.yieldEdgeCard.stood.harness true acN (fun _ h => by cases h) JG (fun _ h => by cases h) yieldEdge_row_tie rfl ⟨rfl, rfl⟩ uh rfl
  (fun f fn hf hfn => by
   obtain rfl : f = 6 := Option.some.inj (zS.symm.trans hf) |>.symm
   obtain rfl : fn = Tryz.f6 := (Option.some.inj (Tryz.func6.symm.trans hfn)).symm
   exact ⟨xH, fun j t ht => by
    rw [eY] at ht
    have hm : t ∈ [23, 3] := by simpa using Array.mem_of_getElem? ht
    exact (show Tryz.prog.wantsStandIn t = false by simpa using List.all_eq_true.1 xJ t hm)⟩)
  zT
#print axioms yieldEdge_card
end Go.Proofs.YtnokhmkkpcfilabGreatDoor
