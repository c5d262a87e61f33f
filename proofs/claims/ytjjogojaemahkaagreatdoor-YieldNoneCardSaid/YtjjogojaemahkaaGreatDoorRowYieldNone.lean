/- Proves that rentierlaw13.YieldNone, which takes no argument, answers true. Conditions: the package variables that the row lists hold what the program text lays (the card ties them). -/
import Derived.Test.YtjjogojaemahkaaGreatDoorTie
import Derived.Test.YtjjogojaemahkaaGreatDoorCards
import Derived.Test.YtjjogojaemahkaaGreatDoorFrame
import Derived.Test.YtjjogojaemahkaaGreatDoorEvalYieldNone
set_option linter.unusedVariables false
set_option linter.unusedSimpArgs false
set_option maxRecDepth 100000
namespace Go.Ev.Code
open Go Go.Ev Go.Proofs Go.ChangeShapes Go.WideShapes Go.RowKit
theorem rowLaid1 : ("errors.errorType", (DataW.iface "internal/reflectlite.rtype" (.agg [.ptr (.lit (.string [101, 114, 114, 111, 114]))]) : DataW Unit)) ∈ YtjjogojaemahkaaGreatDoor.Rows.yieldNoneRow.laid.filter fun x => x.2.handleName?.isSome := List.mem_filter.2 ⟨by simp [YtjjogojaemahkaaGreatDoor.Rows.yieldNoneRow, YtjjogojaemahkaaGreatDoor.Rows.laid_errors_errorType], rfl⟩
theorem rowLaid2 : ("math/bits.deBruijn64tab", (Go.Lib.tabData .u8 (Go.Lib.deBruijn64tab.map Int.ofNat) : DataW Unit)) ∈ YtjjogojaemahkaaGreatDoor.Rows.yieldNoneRow.laid.filter fun x => x.2.handleName?.isNone := by
  have e : (Go.Lib.tabData .u8 (Go.Lib.deBruijn64tab.map Int.ofNat) : DataW Unit) = YtjjogojaemahkaaGreatDoor.Rows.laid_math_bits_deBruijn64tab := by rfl
  rw [e]
  exact List.mem_filter.2 ⟨by simp [YtjjogojaemahkaaGreatDoor.Rows.yieldNoneRow], rfl⟩
theorem rowLaid3 : ("internal/strconv.uint64pow10", (Go.Lib.tabData .u64 Go.Lib.pow10Tab : DataW Unit)) ∈ YtjjogojaemahkaaGreatDoor.Rows.yieldNoneRow.laid.filter fun x => x.2.handleName?.isNone := by
  have e : (Go.Lib.tabData .u64 Go.Lib.pow10Tab : DataW Unit) = YtjjogojaemahkaaGreatDoor.Rows.laid_internal_strconv_uint64pow10 := by rfl
  rw [e]
  exact List.mem_filter.2 ⟨by simp [YtjjogojaemahkaaGreatDoor.Rows.yieldNoneRow], rfl⟩

theorem law_params : Tryz.f3.params = #[] := by kernel_rfl
theorem law_calls (W : World) (base : Nat) (args : Array Value) (hV : Vars W) (hsz : args.size = Tryz.f3.params.size) (hval : ∀ (j : Nat) t v, Tryz.f3.params[j]? = some t → args[j]? = some v → Value.okWide Tryz.prog W .any base t v) :
    Calls Tryz.prog 3 args W fun e W' => e = .returned (.bool true) ∧ Grew W W' := by
  rw [law_params] at hval hsz
  obtain rfl : args = #[] := by
    obtain ⟨l⟩ := args
    match l, hsz with
    | [], _ => rfl
  refine (limCalls (f := rentierlaw13_YieldNone) hV (here _ _ Tryz.func3 (by kernel_rfl)) (yieldNone_ok) (vs := []) .nil).mono ?_
  rintro e w' ⟨u, c', rfl, rfl, hF', hg⟩
  have : u = _ := (Rep.fro _ _ hF' : Rep c' (.bool true) u).bool_inv
  subst this
  exact ⟨rfl, hg⟩

theorem law_row (os : Os) (started : os.Started) (H : Type) (enc : TypeId × Value → H) :
    ReturnsInHanded {} Tryz.checked os 3 .any (fun w args => (YtjjogojaemahkaaGreatDoor.Rows.yieldNoneSpec.pre enc Tryz.prog Tryz.f3 [] false w args ∧ laidMetH Tryz.prog YtjjogojaemahkaaGreatDoor.Rows.yieldNoneRow.laid w) ∧ sizedMet enc Tryz.prog Tryz.f3 (OpenSpec.ofChange YtjjogojaemahkaaGreatDoor.Rows.yieldNoneSpec) false w args)
      (YtjjogojaemahkaaGreatDoor.Rows.yieldNoneSpec.post enc Tryz.prog Tryz.f3 false true false false) := by
  refine law_lifted started rfl Tryz.func3 (by kernel_rfl) (by kernel_rfl) ?_ ?_ (fun W hs hl => vars_of hs hl rowLaid1 rowLaid2 rowLaid3) ?_ law_calls
  · rw [law_params]
    intro t ht
    have hall : ([].all fun t => Tryz.prog.readableRec t && decide (t < Tryz.prog.types.size)) = true := by kernel_rfl
    have h1 := List.all_eq_true.1 hall t ht
    simp only [Bool.and_eq_true, decide_eq_true_eq] at h1
    exact h1
  · rw [law_params]
    intro ds hd
    match ds, hd with
    | [], _ => exact ⟨rfl, rfl, rfl⟩
  · exact ChangeSpec.witness_shaped (enc := enc) (C := Tryz.checked) (os := os) (X := fun w _ => laidMetH Tryz.prog YtjjogojaemahkaaGreatDoor.Rows.yieldNoneRow.laid w) false (laidWorld YtjjogojaemahkaaGreatDoor.Rows.yieldNoneRow.laid os)
      #[] 12 (laidWorld_os _ _)
      (World.shaped_of_ZipB (by kernel_rfl) (by kernel_rfl)) (by kernel_rfl) (by kernel_rfl) (by kernel_rfl)
      (laidWorld_met _ (by kernel_rfl) (by kernel_rfl) (by kernel_rfl))
end Go.Ev.Code
namespace Go.Proofs.YtjjogojaemahkaaGreatDoor
open Go.Ev.Code
noncomputable abbrev PP : Program := Tryz.pinned.checked.prog
theorem and2 {a b : Bool} (ha : a = true) (hb : b = true) : (a && b) = true := by rw [ha, hb]; rfl
theorem law_j1 : (Rows.yieldNoneRow.wf (OpenSpec.ofChange Rows.yieldNoneSpec)) = true := by kernel_rfl
theorem law_j2 : (laidOutB PP) = true := by kernel_rfl
theorem law_j3 : (mapsRowed PP) = true := by kernel_rfl
theorem law_j4 : (Tryz.f3.params.all (PP.readableRec ·)) = true := by kernel_rfl
theorem law_j5 : (namedTie PP Rows.yieldNoneRow.named Rows.yieldNoneSpec.vars) = true := by kernel_rfl
theorem law_j6 : ((Rows.yieldNoneRow.stops == [])) = true := by kernel_rfl
theorem law_j7 : ((PP.stops == [])) = true := by kernel_rfl
theorem law_j8 : ((Rows.yieldNoneRow.knobs == [])) = true := by kernel_rfl
theorem law_j9 : ((PP.stopKnobs == [])) = true := by kernel_rfl
theorem law_j10 : ((Rows.yieldNoneRow.inPlace == PP.inPlace 3)) = true := by kernel_rfl
theorem law_j11 : ((Rows.yieldNoneRow.unfollowed == PP.unfollowed 3)) = true := by kernel_rfl
theorem law_j12 : ((Rows.yieldNoneRow.recurses == PP.recurses 3)) = true := by kernel_rfl
theorem law_j13 : ((Rows.yieldNoneRow.named == PP.varsNamed 3)) = true := by kernel_rfl
theorem law_j14 : ((Rows.yieldNoneRow.maps == (Tryz.f3.params.toList ++ Rows.yieldNoneSpec.plain.varTypes PP).any (PP.mapsRec ·))) = true := by kernel_rfl
theorem law_j15 : ((Rows.yieldNoneRow.ifaces == (Tryz.f3.params.toList ++ Rows.yieldNoneSpec.plain.varTypes PP).any (PP.ifacesRec ·))) = true := by kernel_rfl
theorem law_j16 : ((Rows.yieldNoneRow.mapsOut == PP.mapsAmong Tryz.f3.resultTypes.toList)) = true := by kernel_rfl
theorem law_j17 : ((Rows.yieldNoneRow.loops == (Tryz.f3.params.toList ++ Rows.yieldNoneSpec.plain.varTypes PP).any (PP.loopsFrom ·))) = true := by kernel_rfl
theorem law_j18 : ((Rows.yieldNoneRow.wideKeys == (Tryz.f3.params.toList ++ Rows.yieldNoneSpec.plain.varTypes PP ++ Tryz.f3.resultTypes.toList).any (PP.wideKeysFrom ·))) = true := by kernel_rfl
theorem law_j19 : (Rows.yieldNoneSpec.vars.all (PP.varReadable ·)) = true := by kernel_rfl
theorem law_j20 : (Tryz.f3.resultTypes.all (fun t => PP.readableRec t && decide (t < PP.types.size))) = true := by kernel_rfl
theorem law_j21 : ((Rows.yieldNoneRow.ifacesOut == Tryz.f3.resultTypes.toList.any (PP.ifacesRec ·))) = true := by kernel_rfl
theorem law_j22 : ((Rows.yieldNoneRow.loopsOut == Tryz.f3.resultTypes.toList.any (PP.loopsFrom ·))) = true := by kernel_rfl
theorem law_j23 : ((Rows.yieldNoneRow.plainKeys == PP.plainKeys)) = true := by kernel_rfl
theorem law_j24 : (Rows.yieldNoneRow.shortTexts.isNone) = true := by kernel_rfl
theorem law_j25 : (PP.stopsHeard) = true := by kernel_rfl
theorem law_j26 : (PP.mayEnter) = true := by kernel_rfl
theorem law_j27 : ((Rows.yieldNoneRow.lifted == PP.liftsFinal)) = true := by kernel_rfl
theorem law_j28 : ((PP.make == some Rows.yieldNoneRow.make)) = true := by kernel_rfl
theorem law_j29 : ((Rows.yieldNoneRow.kinds == (if Rows.yieldNoneRow.domain.isEmpty then [] else Tryz.f3.params.toList.map fun t => match PP.underlying t with | some (.int k) => some k | _ => none))) = true := by kernel_rfl
theorem law_j30 : ((Rows.yieldNoneRow.pinned == Rows.yieldNoneRow.pinnedBy)) = true := by kernel_rfl
theorem law_j31 : ((Rows.yieldNoneRow.veiled == (Tryz.f3.params.toList ++ Rows.yieldNoneSpec.plain.varTypes PP ++ Tryz.f3.resultTypes.toList).any (PP.veiledRec ·))) = true := by kernel_rfl
theorem law_j32 : (Rows.yieldNoneRow.veiledFits PP Tryz.f3.params.toList (Tryz.f3.params.toList ++ Rows.yieldNoneSpec.plain.varTypes PP ++ Tryz.f3.resultTypes.toList)) = true := by kernel_rfl
theorem law_closed : joinedFacts PP 3 Tryz.f3 Rows.yieldNoneSpec Rows.yieldNoneRow = true := and2 (and2 (and2 (and2 (and2 (and2 (and2 (and2 (and2 (and2 (and2 (and2 (and2 (and2 (and2 (and2 (and2 (and2 (and2 (and2 (and2 (and2 (and2 (and2 (and2 (and2 (and2 (and2 (and2 (and2 (and2 (law_j1) law_j2) law_j3) law_j4) law_j5) law_j6) law_j7) law_j8) law_j9) law_j10) law_j11) law_j12) law_j13) law_j14) law_j15) law_j16) law_j17) law_j18) law_j19) law_j20) law_j21) law_j22) law_j23) law_j24) law_j25) law_j26) law_j27) law_j28) law_j29) law_j30) law_j31) law_j32
theorem law_named : PP.funcNamed Rows.yieldNoneRow.func = some 3 := by kernel_rfl
theorem law_inst : Tryz.f3.isInstance PP Rows.yieldNoneRow.origin Rows.yieldNoneRow.targs := of_decide_eq_true (by kernel_rfl)
theorem law_wrap : Tryz.f3.isWrapper PP Rows.yieldNoneRow.wrapper Rows.yieldNoneRow.mainSum := by
  unfold Func.isWrapper; first | (rw [if_neg (of_decide_eq_false (by kernel_rfl))]; exact ⟨rfl, rfl⟩) | (rw [if_neg (by decide +kernel)]; exact ⟨rfl, rfl⟩)
theorem yieldNone_holds : Rows.YieldNoneSaid :=
  OpenClaim.holds_of_wide 3 Tryz.f3 rfl rfl rfl rfl rfl rfl rfl ⟨rfl, rfl, rfl, rfl, rfl⟩ rfl rfl rfl rfl rfl law_named Tryz.func3 law_closed
    law_inst law_wrap (fun os started H enc _ => law_row os started H enc)
theorem law_wf : Rows.yieldNoneRow.wfByText (OpenSpec.ofChange Rows.yieldNoneSpec) = true := by kernel_rfl
theorem law_mainIs : PP.mainIs = some (Rows.yieldNoneCard.stood.harness.1, Rows.yieldNoneCard.stood.harness.2.toList) := by kernel_rfl
theorem law_looks : true = PP.looks [] := by kernel_rfl
theorem law_goes : false = Rows.yieldNoneRow.goesBy PP := by kernel_rfl
theorem law_func : PP.funcNamed "rentier/rentierlaw13.YieldNone" = some 3 := by kernel_rfl
theorem law_stand : ([].all fun u => !Tryz.prog.wantsStandIn u) = true := by kernel_rfl
theorem yieldNone_card : Rows.YieldNoneCardSaid :=
  Claim7.holds_tied_plain_at .later [] [.data, .data, .data, .data, .handle, .sentinel, .sentinel, .pinned] true Rows.yieldNoneCard.stood.harness true yieldNone_holds (fun _ h => by cases h) law_wf (fun _ h => by cases h) yieldNone_row_tie rfl ⟨rfl, rfl⟩ law_mainIs rfl
    (fun f fn hf hfn => by
      obtain rfl : f = 3 := Option.some.inj (law_func.symm.trans hf) |>.symm
      obtain rfl : fn = Tryz.f3 := (Option.some.inj (Tryz.func3.symm.trans hfn)).symm
      exact ⟨law_looks, fun j t ht => by
        rw [law_params] at ht
        have hm : t ∈ [] := by simpa using Array.mem_of_getElem? ht
        exact (show Tryz.prog.wantsStandIn t = false by simpa using List.all_eq_true.1 law_stand t hm)⟩)
    law_goes
#print axioms yieldNone_card
end Go.Proofs.YtjjogojaemahkaaGreatDoor
