/- The law YieldBack holds of the given program for every input, as its card says it. Conditions: those of the row. -/
import Derived.Test.YtnokhmkkpcfilabGreatDoorTie
import Derived.Test.YtnokhmkkpcfilabGreatDoorCards
import Derived.Test.YtnokhmkkpcfilabGreatDoorCFrame
import Derived.Test.YtnokhmkkpcfilabGreatDoorCWalkYieldBack
import Derived.Test.YtnokhmkkpcfilabGreatDoorCBegun13
set_option linter.unusedVariables false
set_option linter.unusedSimpArgs false
set_option maxRecDepth 100000
namespace Go.Ev.Code
open Go Go.Ev Go.Proofs Go.ChangeShapes Go.WideShapes Go.RowKit
theorem Ag : ("errors.errorType", (DataW.iface "internal/reflectlite.rtype" (.agg [.ptr (.lit (.string [101, 114, 114, 111, 114]))]) : DataW Unit)) ∈ YtnokhmkkpcfilabGreatDoor.Rows.yieldBackRow.laid.filter fun x => x.2.handleName?.isSome := List.mem_filter.2 ⟨by simp [YtnokhmkkpcfilabGreatDoor.Rows.yieldBackRow, YtnokhmkkpcfilabGreatDoor.Rows.laid_errors_errorType], rfl⟩
theorem Ah : ("math/bits.deBruijn64tab", (Go.Lib.tabData .u8 (Go.Lib.deBruijn64tab.map Int.ofNat) : DataW Unit)) ∈ YtnokhmkkpcfilabGreatDoor.Rows.yieldBackRow.laid.filter fun x => x.2.handleName?.isNone := by
 have e : (Go.Lib.tabData .u8 (Go.Lib.deBruijn64tab.map Int.ofNat) : DataW Unit) = YtnokhmkkpcfilabGreatDoor.Rows.laid_math_bits_deBruijn64tab := by rfl
 rw [e]
 exact List.mem_filter.2 ⟨by simp [YtnokhmkkpcfilabGreatDoor.Rows.yieldBackRow], rfl⟩
theorem Ai : ("internal/strconv.uint64pow10", (Go.Lib.tabData .u64 Go.Lib.pow10Tab : DataW Unit)) ∈ YtnokhmkkpcfilabGreatDoor.Rows.yieldBackRow.laid.filter fun x => x.2.handleName?.isNone := by
 have e : (Go.Lib.tabData .u64 Go.Lib.pow10Tab : DataW Unit) = YtnokhmkkpcfilabGreatDoor.Rows.laid_internal_strconv_uint64pow10 := by rfl
 rw [e]
 exact List.mem_filter.2 ⟨by simp [YtnokhmkkpcfilabGreatDoor.Rows.yieldBackRow], rfl⟩
theorem D9 {W : World} {b0 : Nat} {v : Value} (h : Value.okWide Tryz.prog W .any b0 2 v) : ∃ n, v = .int .i64 n ∧ IntKind.i64.has n := by
 have hu : Tryz.prog.underlying 2 = some (.int .i64) := by kernel_rfl
 unfold Value.okWide at h
 rw [hu] at h
 change Cell.okWide _ _ _ _ _ _ at h
 unfold Cell.okWide at h
 rw [hu] at h
 unfold Cell.ok at h
 rw [hu] at h
 cases v <;> simp_all
theorem eY : Tryz.f5.params = #[23, 3, 2] := by kernel_rfl
theorem xG (W : World) (base : Nat) (args : Array Value) (hV : Vars W) (hsz : args.size = Tryz.f5.params.size) (hval : ∀ (j : Nat) t v, Tryz.f5.params[j]? = some t → args[j]? = some v → Value.okWide Tryz.prog W .any base t v) :
  Calls Tryz.prog 5 args W fun e W' => e = .returned (.bool true) ∧ Grew W W' := by
 rw [eY] at hval hsz
 obtain ⟨v0, v1, v2, rfl⟩ : ∃ v0 v1 v2, args = #[v0, v1, v2] := by
  obtain ⟨l⟩ := args
  match l, hsz with
  | [v0, v1, v2], _ => exact ⟨v0, v1, v2, rfl⟩
 obtain ⟨b0, hF0⟩ := PU (hval 0 _ v0 rfl rfl)
 obtain ⟨n1, rfl, w1⟩ := UQ (hval 1 _ v1 rfl rfl)
 obtain ⟨n2, rfl, w2⟩ := D9 (hval 2 _ v2 rfl rfl)
 refine (Qd (f := jv) hV (here _ _ Tryz.func5 (by kernel_rfl)) (aiR UF b0 n1 n2) (vs := [v0, .int .i64 n1, .int .i64 n2]) (.cons hF0 (.cons (.int _ _) (.cons (.int _ _) .nil)))).mono ?_
 rintro e w' ⟨u, c', rfl, rfl, hF', hg⟩
 have : u = _ := (Rep.b_ _ _ hF' : Rep c' (.bool true) u).lU
 subst this
 exact ⟨rfl, hg⟩
theorem EJ (os : Os) (started : os.Started) (H : Type) (enc : TypeId × Value → H) :
  ReturnsInHanded {} Tryz.checked os 5 .any (fun w args => (YtnokhmkkpcfilabGreatDoor.Rows.yieldBackSpec.pre enc Tryz.prog Tryz.f5 [] false w args ∧ laidMetH Tryz.prog YtnokhmkkpcfilabGreatDoor.Rows.yieldBackRow.laid w) ∧ sizedMet enc Tryz.prog Tryz.f5 (OpenSpec.ofChange YtnokhmkkpcfilabGreatDoor.Rows.yieldBackSpec) false w args)
   (YtnokhmkkpcfilabGreatDoor.Rows.yieldBackSpec.post enc Tryz.prog Tryz.f5 false true false false) := by
 refine law_lifted started rfl Tryz.func5 (by kernel_rfl) (by kernel_rfl) ?_ ?_ (fun W hs hl => Ve hs hl Ag Ah Ai) ?_ xG
 ·rw [eY]
  intro t ht
  have hall : ([23, 3, 2].all fun t => Tryz.prog.readableRec t && decide (t < Tryz.prog.types.size)) = true := by kernel_rfl
  have h1 := List.all_eq_true.1 hall t ht
  simp only [Bool.and_eq_true, decide_eq_true_eq] at h1
  exact h1
 ·rw [eY]
  intro ds hd
  match ds, hd with
  | [d0, d1, d2], _ => exact ⟨rfl, rfl, rfl⟩
 ·exact ChangeSpec.witness_shaped (enc := enc) (C := Tryz.checked) (os := os) (X := fun w _ => laidMetH Tryz.prog YtnokhmkkpcfilabGreatDoor.Rows.yieldBackRow.laid w) false (laidWorld YtnokhmkkpcfilabGreatDoor.Rows.yieldBackRow.laid os)
   #[.agg #[.int .i64 0, .int .i64 0, .int .i64 0, .string ⟨#[]⟩, .string ⟨#[]⟩, .int .i64 0, .int .i64 0, .bool false, .int .i64 0], .int .i64 0, .int .i64 0] 12 (CU _ _)
   (World.shaped_of_ZipB (by kernel_rfl) (by kernel_rfl)) (by kernel_rfl) (by kernel_rfl) (by kernel_rfl)
   (laidWorld_met _ (by kernel_rfl) (by kernel_rfl) (by kernel_rfl))
end Go.Ev.Code
namespace Go.Proofs.YtnokhmkkpcfilabGreatDoor
open Go.Ev.Code
noncomputable abbrev PP : Program := Tryz.pinned.checked.prog
theorem bf {a b : Bool} (ha : a = true) (hb : b = true) : (a && b) = true := by rw [ha, hb]; rfl
theorem Jw : (Rows.yieldBackRow.wf (OpenSpec.ofChange Rows.yieldBackSpec)) = true := by kernel_rfl
theorem Jy : (laidOutB PP) = true := by kernel_rfl
theorem Jz : (mapsRowed PP) = true := by kernel_rfl
theorem JA : (Tryz.f5.params.all (PP.readableRec ·)) = true := by kernel_rfl
theorem JB : (namedTie PP Rows.yieldBackRow.named Rows.yieldBackSpec.vars) = true := by kernel_rfl
theorem JC : ((Rows.yieldBackRow.stops == [])) = true := by kernel_rfl
theorem JD : ((PP.stops == [])) = true := by kernel_rfl
theorem JE : ((Rows.yieldBackRow.knobs == [])) = true := by kernel_rfl
theorem JF : ((PP.stopKnobs == [])) = true := by kernel_rfl
theorem Ea : ((Rows.yieldBackRow.inPlace == PP.inPlace 5)) = true := by kernel_rfl
theorem Eb : ((Rows.yieldBackRow.unfollowed == PP.unfollowed 5)) = true := by kernel_rfl
theorem Ec : ((Rows.yieldBackRow.recurses == PP.recurses 5)) = true := by kernel_rfl
theorem Ed : ((Rows.yieldBackRow.named == PP.varsNamed 5)) = true := by kernel_rfl
theorem Ee : ((Rows.yieldBackRow.maps == (Tryz.f5.params.toList ++ Rows.yieldBackSpec.plain.varTypes PP).any (PP.mapsRec ·))) = true := by kernel_rfl
theorem Ef : ((Rows.yieldBackRow.ifaces == (Tryz.f5.params.toList ++ Rows.yieldBackSpec.plain.varTypes PP).any (PP.ifacesRec ·))) = true := by kernel_rfl
theorem Eh : ((Rows.yieldBackRow.mapsOut == PP.mapsAmong Tryz.f5.resultTypes.toList)) = true := by kernel_rfl
theorem Ei : ((Rows.yieldBackRow.loops == (Tryz.f5.params.toList ++ Rows.yieldBackSpec.plain.varTypes PP).any (PP.loopsFrom ·))) = true := by kernel_rfl
theorem Ej : ((Rows.yieldBackRow.wideKeys == (Tryz.f5.params.toList ++ Rows.yieldBackSpec.plain.varTypes PP ++ Tryz.f5.resultTypes.toList).any (PP.wideKeysFrom ·))) = true := by kernel_rfl
theorem Em : (Rows.yieldBackSpec.vars.all (PP.varReadable ·)) = true := by kernel_rfl
theorem En : (Tryz.f5.resultTypes.all (fun t => PP.readableRec t && decide (t < PP.types.size))) = true := by kernel_rfl
theorem Eo : ((Rows.yieldBackRow.ifacesOut == Tryz.f5.resultTypes.toList.any (PP.ifacesRec ·))) = true := by kernel_rfl
theorem Ep : ((Rows.yieldBackRow.loopsOut == Tryz.f5.resultTypes.toList.any (PP.loopsFrom ·))) = true := by kernel_rfl
theorem Es : ((Rows.yieldBackRow.plainKeys == PP.plainKeys)) = true := by kernel_rfl
theorem Et : (Rows.yieldBackRow.shortTexts.isNone) = true := by kernel_rfl
theorem Eu : (PP.stopsHeard) = true := by kernel_rfl
theorem Ew : (PP.mayEnter) = true := by kernel_rfl
theorem Ey : ((Rows.yieldBackRow.lifted == PP.liftsFinal)) = true := by kernel_rfl
theorem Ez : ((PP.make == some Rows.yieldBackRow.make)) = true := by kernel_rfl
theorem ED : ((Rows.yieldBackRow.kinds == (if Rows.yieldBackRow.domain.isEmpty then [] else Tryz.f5.params.toList.map fun t => match PP.underlying t with | some (.int k) => some k | _ => none))) = true := by kernel_rfl
theorem EG : ((Rows.yieldBackRow.pinned == Rows.yieldBackRow.pinnedBy)) = true := by kernel_rfl
theorem EH : ((Rows.yieldBackRow.veiled == (Tryz.f5.params.toList ++ Rows.yieldBackSpec.plain.varTypes PP ++ Tryz.f5.resultTypes.toList).any (PP.veiledRec ·))) = true := by kernel_rfl
theorem EI : (Rows.yieldBackRow.veiledFits PP Tryz.f5.params.toList (Tryz.f5.params.toList ++ Rows.yieldBackSpec.plain.varTypes PP ++ Tryz.f5.resultTypes.toList)) = true := by kernel_rfl
theorem ug : joinedFacts PP 5 Tryz.f5 Rows.yieldBackSpec Rows.yieldBackRow = true := bf (bf (bf (bf (bf (bf (bf (bf (bf (bf (bf (bf (bf (bf (bf (bf (bf (bf (bf (bf (bf (bf (bf (bf (bf (bf (bf (bf (bf (bf (bf (Jw) Jy) Jz) JA) JB) JC) JD) JE) JF) Ea) Eb) Ec) Ed) Ee) Ef) Eh) Ei) Ej) Em) En) Eo) Ep) Es) Et) Eu) Ew) Ey) Ez) ED) EG) EH) EI
theorem xI : PP.funcNamed Rows.yieldBackRow.func = some 5 := by kernel_rfl
theorem zU : Tryz.f5.isInstance PP Rows.yieldBackRow.origin Rows.yieldBackRow.targs := of_decide_eq_true (by kernel_rfl)
theorem zV : Tryz.f5.isWrapper PP Rows.yieldBackRow.wrapper Rows.yieldBackRow.mainSum := by
 unfold Func.isWrapper; first | (rw [if_neg (of_decide_eq_false (by kernel_rfl))]; exact ⟨rfl, rfl⟩) | (rw [if_neg (by decide +kernel)]; exact ⟨rfl, rfl⟩)
theorem acM : Rows.YieldBackSaid :=
 OpenClaim.holds_of_wide 5 Tryz.f5 rfl rfl rfl rfl rfl rfl rfl ⟨rfl, rfl, rfl, rfl, rfl⟩ rfl rfl rfl rfl rfl xI Tryz.func5 ug
  zU zV (fun os started H enc _ => EJ os started H enc)
theorem JG : Rows.yieldBackRow.wfByText (OpenSpec.ofChange Rows.yieldBackSpec) = true := by kernel_rfl
theorem uh : PP.mainIs = some (Rows.yieldBackCard.stood.harness.1, Rows.yieldBackCard.stood.harness.2.toList) := by kernel_rfl
theorem xH : true = PP.looks [] := by kernel_rfl
theorem zT : false = Rows.yieldBackRow.goesBy PP := by kernel_rfl
theorem zS : PP.funcNamed "rentier/rentierlaw13.YieldBack" = some 5 := by kernel_rfl
theorem xJ : ([23, 3, 2].all fun u => !Tryz.prog.wantsStandIn u) = true := by kernel_rfl
theorem yieldBack_card : Rows.YieldBackCardSaid :=
 Claim7.holds_tied_plain_at .later [] [.data, .data, .data, .data, .handle, .sentinel, .sentinel, .pinned] true Rows.yieldBackCard.stood.harness true acM (fun _ h => by cases h) JG (fun _ h => by cases h) yieldBack_row_tie rfl ⟨rfl, rfl⟩ uh rfl
  (fun f fn hf hfn => by
   obtain rfl : f = 5 := Option.some.inj (zS.symm.trans hf) |>.symm
   obtain rfl : fn = Tryz.f5 := (Option.some.inj (Tryz.func5.symm.trans hfn)).symm
   exact ⟨xH, fun j t ht => by
    rw [eY] at ht
    have hm : t ∈ [23, 3, 2] := by simpa using Array.mem_of_getElem? ht
    exact (show Tryz.prog.wantsStandIn t = false by simpa using List.all_eq_true.1 xJ t hm)⟩)
  zT
#print axioms yieldBack_card
end Go.Proofs.YtnokhmkkpcfilabGreatDoor
