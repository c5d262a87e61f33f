/- PlanStub holds of the given program for every input: a bond that begins between two coupons has a short first period, a long one, or none. Conditions: those of the row. -/
import Derived.Test.YtgppbgfjhkjfcaaGreatDoorTie
import Derived.Test.YtgppbgfjhkjfcaaGreatDoorCards
import Derived.Test.YtgppbgfjhkjfcaaGreatDoorBFrame
import Derived.Test.YtgppbgfjhkjfcaaGreatDoorBWalkPlanStub
import Derived.Test.YtgppbgfjhkjfcaaGreatDoorBBegun13
set_option linter.unusedVariables false
set_option linter.unusedSimpArgs false
set_option maxRecDepth 100000
namespace Go.Ev.Code
open Go Go.Ev Go.Proofs Go.ChangeShapes Go.WideShapes Go.RowKit
theorem zV : ("errors.errorType", (DataW.iface "internal/reflectlite.rtype" (.agg [.ptr (.lit (.string [101, 114, 114, 111, 114]))]) : DataW Unit)) ∈ YtgppbgfjhkjfcaaGreatDoor.Rows.planStubRow.laid.filter fun x => x.2.handleName?.isSome := List.mem_filter.2 ⟨by simp [YtgppbgfjhkjfcaaGreatDoor.Rows.planStubRow, YtgppbgfjhkjfcaaGreatDoor.Rows.laid_errors_errorType], rfl⟩
theorem zW : ("math/bits.deBruijn64tab", (Go.Lib.tabData .u8 (Go.Lib.deBruijn64tab.map Int.ofNat) : DataW Unit)) ∈ YtgppbgfjhkjfcaaGreatDoor.Rows.planStubRow.laid.filter fun x => x.2.handleName?.isNone := by
 have e : (Go.Lib.tabData .u8 (Go.Lib.deBruijn64tab.map Int.ofNat) : DataW Unit) = YtgppbgfjhkjfcaaGreatDoor.Rows.laid_math_bits_deBruijn64tab := by rfl
 rw [e]
 exact List.mem_filter.2 ⟨by simp [YtgppbgfjhkjfcaaGreatDoor.Rows.planStubRow], rfl⟩
theorem zX : ("internal/strconv.uint64pow10", (Go.Lib.tabData .u64 Go.Lib.pow10Tab : DataW Unit)) ∈ YtgppbgfjhkjfcaaGreatDoor.Rows.planStubRow.laid.filter fun x => x.2.handleName?.isNone := by
 have e : (Go.Lib.tabData .u64 Go.Lib.pow10Tab : DataW Unit) = YtgppbgfjhkjfcaaGreatDoor.Rows.laid_internal_strconv_uint64pow10 := by rfl
 rw [e]
 exact List.mem_filter.2 ⟨by simp [YtgppbgfjhkjfcaaGreatDoor.Rows.planStubRow], rfl⟩
theorem fH : Tryz.f3.params = #[3, 3, 3] := by kernel_rfl
theorem wX (W : World) (base : Nat) (args : Array Value) (hV : Vars W) (hsz : args.size = Tryz.f3.params.size) (hval : ∀ (j : Nat) t v, Tryz.f3.params[j]? = some t → args[j]? = some v → Value.okWide Tryz.prog W .any base t v) :
  Calls Tryz.prog 3 args W fun e W' => e = .returned (.bool true) ∧ Grew W W' := by
 rw [fH] at hval hsz
 obtain ⟨v0, v1, v2, rfl⟩ : ∃ v0 v1 v2, args = #[v0, v1, v2] := by
  obtain ⟨l⟩ := args
  match l, hsz with
  | [v0, v1, v2], _ => exact ⟨v0, v1, v2, rfl⟩
 obtain ⟨n0, rfl, w0⟩ := sU (hval 0 _ v0 rfl rfl)
 obtain ⟨n1, rfl, w1⟩ := sU (hval 1 _ v1 rfl rfl)
 obtain ⟨n2, rfl, w2⟩ := sU (hval 2 _ v2 rfl rfl)
 refine (O1 (f := nR) hV (here _ _ Tryz.func3 (by kernel_rfl)) (afB Ul n0 n1 n2) (vs := [.int .i64 n0, .int .i64 n1, .int .i64 n2]) (.cons (.int _ _) (.cons (.int _ _) (.cons (.int _ _) .nil)))).mono ?_
 rintro e w' ⟨u, c', rfl, rfl, hF', hg⟩
 have : u = _ := (Rep.dF _ _ hF' : Rep c' (.bool true) u).j_
 subst this
 exact ⟨rfl, hg⟩
theorem DJ (os : Os) (started : os.Started) (H : Type) (enc : TypeId × Value → H) :
  ReturnsInHanded {} Tryz.checked os 3 .any (fun w args => (YtgppbgfjhkjfcaaGreatDoor.Rows.planStubSpec.pre enc Tryz.prog Tryz.f3 [] false w args ∧ laidMetH Tryz.prog YtgppbgfjhkjfcaaGreatDoor.Rows.planStubRow.laid w) ∧ sizedMet enc Tryz.prog Tryz.f3 (OpenSpec.ofChange YtgppbgfjhkjfcaaGreatDoor.Rows.planStubSpec) false w args)
   (YtgppbgfjhkjfcaaGreatDoor.Rows.planStubSpec.post enc Tryz.prog Tryz.f3 false true false false) := by
 refine law_lifted started rfl Tryz.func3 (by kernel_rfl) (by kernel_rfl) ?_ ?_ (fun W hs hl => UH hs hl zV zW zX) ?_ wX
 ·rw [fH]
  intro t ht
  have hall : ([3, 3, 3].all fun t => Tryz.prog.readableRec t && decide (t < Tryz.prog.types.size)) = true := by kernel_rfl
  have h1 := List.all_eq_true.1 hall t ht
  simp only [Bool.and_eq_true, decide_eq_true_eq] at h1
  exact h1
 ·rw [fH]
  intro ds hd
  match ds, hd with
  | [d0, d1, d2], _ => exact ⟨rfl, rfl, rfl⟩
 ·exact ChangeSpec.witness_shaped (enc := enc) (C := Tryz.checked) (os := os) (X := fun w _ => laidMetH Tryz.prog YtgppbgfjhkjfcaaGreatDoor.Rows.planStubRow.laid w) false (laidWorld YtgppbgfjhkjfcaaGreatDoor.Rows.planStubRow.laid os)
   #[.int .i64 0, .int .i64 0, .int .i64 0] 12 (AZ _ _)
   (World.shaped_of_ZipB (by kernel_rfl) (by kernel_rfl)) (by kernel_rfl) (by kernel_rfl) (by kernel_rfl)
   (laidWorld_met _ (by kernel_rfl) (by kernel_rfl) (by kernel_rfl))
end Go.Ev.Code
namespace Go.Proofs.YtgppbgfjhkjfcaaGreatDoor
open Go.Ev.Code
noncomputable abbrev PP : Program := Tryz.pinned.checked.prog
theorem bH {a b : Bool} (ha : a = true) (hb : b = true) : (a && b) = true := by rw [ha, hb]; rfl
theorem Jc : (Rows.planStubRow.wf (OpenSpec.ofChange Rows.planStubSpec)) = true := by kernel_rfl
theorem Jd : (laidOutB PP) = true := by kernel_rfl
theorem Je : (mapsRowed PP) = true := by kernel_rfl
theorem Jf : (Tryz.f3.params.all (PP.readableRec ·)) = true := by kernel_rfl
theorem Jg : (namedTie PP Rows.planStubRow.named Rows.planStubSpec.vars) = true := by kernel_rfl
theorem Jh : ((Rows.planStubRow.stops == [])) = true := by kernel_rfl
theorem Ji : ((PP.stops == [])) = true := by kernel_rfl
theorem Jj : ((Rows.planStubRow.knobs == [])) = true := by kernel_rfl
theorem Jk : ((PP.stopKnobs == [])) = true := by kernel_rfl
theorem CZ : ((Rows.planStubRow.inPlace == PP.inPlace 3)) = true := by kernel_rfl
theorem C9 : ((Rows.planStubRow.unfollowed == PP.unfollowed 3)) = true := by kernel_rfl
theorem C_ : ((Rows.planStubRow.recurses == PP.recurses 3)) = true := by kernel_rfl
theorem Dc : ((Rows.planStubRow.named == PP.varsNamed 3)) = true := by kernel_rfl
theorem Df : ((Rows.planStubRow.maps == (Tryz.f3.params.toList ++ Rows.planStubSpec.plain.varTypes PP).any (PP.mapsRec ·))) = true := by kernel_rfl
theorem Dh : ((Rows.planStubRow.ifaces == (Tryz.f3.params.toList ++ Rows.planStubSpec.plain.varTypes PP).any (PP.ifacesRec ·))) = true := by kernel_rfl
theorem Di : ((Rows.planStubRow.mapsOut == PP.mapsAmong Tryz.f3.resultTypes.toList)) = true := by kernel_rfl
theorem Dj : ((Rows.planStubRow.loops == (Tryz.f3.params.toList ++ Rows.planStubSpec.plain.varTypes PP).any (PP.loopsFrom ·))) = true := by kernel_rfl
theorem Dk : ((Rows.planStubRow.wideKeys == (Tryz.f3.params.toList ++ Rows.planStubSpec.plain.varTypes PP ++ Tryz.f3.resultTypes.toList).any (PP.wideKeysFrom ·))) = true := by kernel_rfl
theorem Dl : (Rows.planStubSpec.vars.all (PP.varReadable ·)) = true := by kernel_rfl
theorem Dn : (Tryz.f3.resultTypes.all (fun t => PP.readableRec t && decide (t < PP.types.size))) = true := by kernel_rfl
theorem Dp : ((Rows.planStubRow.ifacesOut == Tryz.f3.resultTypes.toList.any (PP.ifacesRec ·))) = true := by kernel_rfl
theorem Dq : ((Rows.planStubRow.loopsOut == Tryz.f3.resultTypes.toList.any (PP.loopsFrom ·))) = true := by kernel_rfl
theorem Dt : ((Rows.planStubRow.plainKeys == PP.plainKeys)) = true := by kernel_rfl
theorem Du : (Rows.planStubRow.shortTexts.isNone) = true := by kernel_rfl
theorem Dv : (PP.stopsHeard) = true := by kernel_rfl
theorem Dw : (PP.mayEnter) = true := by kernel_rfl
theorem Dx : ((Rows.planStubRow.lifted == PP.liftsFinal)) = true := by kernel_rfl
theorem Dy : ((PP.make == some Rows.planStubRow.make)) = true := by kernel_rfl
theorem Dz : ((Rows.planStubRow.kinds == (if Rows.planStubRow.domain.isEmpty then [] else Tryz.f3.params.toList.map fun t => match PP.underlying t with | some (.int k) => some k | _ => none))) = true := by kernel_rfl
theorem DC : ((Rows.planStubRow.pinned == Rows.planStubRow.pinnedBy)) = true := by kernel_rfl
theorem DF : ((Rows.planStubRow.veiled == (Tryz.f3.params.toList ++ Rows.planStubSpec.plain.varTypes PP ++ Tryz.f3.resultTypes.toList).any (PP.veiledRec ·))) = true := by kernel_rfl
theorem DI : (Rows.planStubRow.veiledFits PP Tryz.f3.params.toList (Tryz.f3.params.toList ++ Rows.planStubSpec.plain.varTypes PP ++ Tryz.f3.resultTypes.toList)) = true := by kernel_rfl
theorem uJ : joinedFacts PP 3 Tryz.f3 Rows.planStubSpec Rows.planStubRow = true := bH (bH (bH (bH (bH (bH (bH (bH (bH (bH (bH (bH (bH (bH (bH (bH (bH (bH (bH (bH (bH (bH (bH (bH (bH (bH (bH (bH (bH (bH (bH (Jc) Jd) Je) Jf) Jg) Jh) Ji) Jj) Jk) CZ) C9) C_) Dc) Df) Dh) Di) Dj) Dk) Dl) Dn) Dp) Dq) Dt) Du) Dv) Dw) Dx) Dy) Dz) DC) DF) DI
theorem wZ : PP.funcNamed Rows.planStubRow.func = some 3 := by kernel_rfl
theorem zO : Tryz.f3.isInstance PP Rows.planStubRow.origin Rows.planStubRow.targs := of_decide_eq_true (by kernel_rfl)
theorem zQ : Tryz.f3.isWrapper PP Rows.planStubRow.wrapper Rows.planStubRow.mainSum := by
 unfold Func.isWrapper; first | (rw [if_neg (of_decide_eq_false (by kernel_rfl))]; exact ⟨rfl, rfl⟩) | (rw [if_neg (by decide +kernel)]; exact ⟨rfl, rfl⟩)
theorem Zz : Rows.PlanStubSaid :=
 OpenClaim.holds_of_wide 3 Tryz.f3 rfl rfl rfl rfl rfl rfl rfl ⟨rfl, rfl, rfl, rfl, rfl⟩ rfl rfl rfl rfl rfl wZ Tryz.func3 uJ
  zO zQ (fun os started H enc _ => DJ os started H enc)
theorem Jl : Rows.planStubRow.wfByText (OpenSpec.ofChange Rows.planStubSpec) = true := by kernel_rfl
theorem uK : PP.mainIs = some (Rows.planStubCard.stood.harness.1, Rows.planStubCard.stood.harness.2.toList) := by kernel_rfl
theorem wY : true = PP.looks [] := by kernel_rfl
theorem zN : false = Rows.planStubRow.goesBy PP := by kernel_rfl
theorem zM : PP.funcNamed "rentier/rentierlaw13.PlanStub" = some 3 := by kernel_rfl
theorem w_ : ([3, 3, 3].all fun u => !Tryz.prog.wantsStandIn u) = true := by kernel_rfl
theorem planStub_card : Rows.PlanStubCardSaid :=
 Claim7.holds_tied_plain_at .later [] [.data, .data, .data, .data, .handle, .sentinel, .sentinel, .pinned] true Rows.planStubCard.stood.harness true Zz (fun _ h => by cases h) Jl (fun _ h => by cases h) planStub_row_tie rfl ⟨rfl, rfl⟩ uK rfl
  (fun f fn hf hfn => by
   obtain rfl : f = 3 := Option.some.inj (zM.symm.trans hf) |>.symm
   obtain rfl : fn = Tryz.f3 := (Option.some.inj (Tryz.func3.symm.trans hfn)).symm
   exact ⟨wY, fun j t ht => by
    rw [fH] at ht
    have hm : t ∈ [3, 3, 3] := by simpa using Array.mem_of_getElem? ht
    exact (show Tryz.prog.wantsStandIn t = false by simpa using List.all_eq_true.1 w_ t hm)⟩)
  zN
#print axioms planStub_card
end Go.Proofs.YtgppbgfjhkjfcaaGreatDoor
