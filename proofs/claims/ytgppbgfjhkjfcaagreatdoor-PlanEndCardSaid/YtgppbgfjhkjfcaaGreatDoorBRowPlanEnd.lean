/- PlanEnd holds of the given program for every input: coupons at the ends of months stay there, if they are to, else they go by the day. Conditions: those of the row. -/
import Derived.Test.YtgppbgfjhkjfcaaGreatDoorTie
import Derived.Test.YtgppbgfjhkjfcaaGreatDoorCards
import Derived.Test.YtgppbgfjhkjfcaaGreatDoorBFrame
import Derived.Test.YtgppbgfjhkjfcaaGreatDoorBWalkPlanEnd
import Derived.Test.YtgppbgfjhkjfcaaGreatDoorBBegun13
set_option linter.unusedVariables false
set_option linter.unusedSimpArgs false
set_option maxRecDepth 100000
namespace Go.Ev.Code
open Go Go.Ev Go.Proofs Go.ChangeShapes Go.WideShapes Go.RowKit
theorem zV : ("errors.errorType", (DataW.iface "internal/reflectlite.rtype" (.agg [.ptr (.lit (.string [101, 114, 114, 111, 114]))]) : DataW Unit)) ∈ YtgppbgfjhkjfcaaGreatDoor.Rows.planEndRow.laid.filter fun x => x.2.handleName?.isSome := List.mem_filter.2 ⟨by simp [YtgppbgfjhkjfcaaGreatDoor.Rows.planEndRow, YtgppbgfjhkjfcaaGreatDoor.Rows.laid_errors_errorType], rfl⟩
theorem zW : ("math/bits.deBruijn64tab", (Go.Lib.tabData .u8 (Go.Lib.deBruijn64tab.map Int.ofNat) : DataW Unit)) ∈ YtgppbgfjhkjfcaaGreatDoor.Rows.planEndRow.laid.filter fun x => x.2.handleName?.isNone := by
 have e : (Go.Lib.tabData .u8 (Go.Lib.deBruijn64tab.map Int.ofNat) : DataW Unit) = YtgppbgfjhkjfcaaGreatDoor.Rows.laid_math_bits_deBruijn64tab := by rfl
 rw [e]
 exact List.mem_filter.2 ⟨by simp [YtgppbgfjhkjfcaaGreatDoor.Rows.planEndRow], rfl⟩
theorem zX : ("internal/strconv.uint64pow10", (Go.Lib.tabData .u64 Go.Lib.pow10Tab : DataW Unit)) ∈ YtgppbgfjhkjfcaaGreatDoor.Rows.planEndRow.laid.filter fun x => x.2.handleName?.isNone := by
 have e : (Go.Lib.tabData .u64 Go.Lib.pow10Tab : DataW Unit) = YtgppbgfjhkjfcaaGreatDoor.Rows.laid_internal_strconv_uint64pow10 := by rfl
 rw [e]
 exact List.mem_filter.2 ⟨by simp [YtgppbgfjhkjfcaaGreatDoor.Rows.planEndRow], rfl⟩
theorem fH : Tryz.f4.params = #[3, 3, 3, 4] := by kernel_rfl
theorem wX (W : World) (base : Nat) (args : Array Value) (hV : Vars W) (hsz : args.size = Tryz.f4.params.size) (hval : ∀ (j : Nat) t v, Tryz.f4.params[j]? = some t → args[j]? = some v → Value.okWide Tryz.prog W .any base t v) :
  Calls Tryz.prog 4 args W fun e W' => e = .returned (.bool true) ∧ Grew W W' := by
 rw [fH] at hval hsz
 obtain ⟨v0, v1, v2, v3, rfl⟩ : ∃ v0 v1 v2 v3, args = #[v0, v1, v2, v3] := by
  obtain ⟨l⟩ := args
  match l, hsz with
  | [v0, v1, v2, v3], _ => exact ⟨v0, v1, v2, v3, rfl⟩
 obtain ⟨n0, rfl, w0⟩ := sU (hval 0 _ v0 rfl rfl)
 obtain ⟨n1, rfl, w1⟩ := sU (hval 1 _ v1 rfl rfl)
 obtain ⟨n2, rfl, w2⟩ := sU (hval 2 _ v2 rfl rfl)
 obtain ⟨n3, rfl⟩ := acV (hval 3 _ v3 rfl rfl)
 refine (O1 (f := lG) hV (here _ _ Tryz.func4 (by kernel_rfl)) (ahq Ul n0 n1 n2 n3) (vs := [.int .i64 n0, .int .i64 n1, .int .i64 n2, .bool n3]) (.cons (.int _ _) (.cons (.int _ _) (.cons (.int _ _) (.cons (.bool _) .nil))))).mono ?_
 rintro e w' ⟨u, c', rfl, rfl, hF', hg⟩
 have : u = _ := (Rep.dF _ _ hF' : Rep c' (.bool true) u).j_
 subst this
 exact ⟨rfl, hg⟩
theorem DJ (os : Os) (started : os.Started) (H : Type) (enc : TypeId × Value → H) :
  ReturnsInHanded {} Tryz.checked os 4 .any (fun w args => (YtgppbgfjhkjfcaaGreatDoor.Rows.planEndSpec.pre enc Tryz.prog Tryz.f4 [] false w args ∧ laidMetH Tryz.prog YtgppbgfjhkjfcaaGreatDoor.Rows.planEndRow.laid w) ∧ sizedMet enc Tryz.prog Tryz.f4 (OpenSpec.ofChange YtgppbgfjhkjfcaaGreatDoor.Rows.planEndSpec) false w args)
   (YtgppbgfjhkjfcaaGreatDoor.Rows.planEndSpec.post enc Tryz.prog Tryz.f4 false true false false) := by
 refine law_lifted started rfl Tryz.func4 (by kernel_rfl) (by kernel_rfl) ?_ ?_ (fun W hs hl => UH hs hl zV zW zX) ?_ wX
 ·rw [fH]
  intro t ht
  have hall : ([3, 3, 3, 4].all fun t => Tryz.prog.readableRec t && decide (t < Tryz.prog.types.size)) = true := by kernel_rfl
  have h1 := List.all_eq_true.1 hall t ht
  simp only [Bool.and_eq_true, decide_eq_true_eq] at h1
  exact h1
 ·rw [fH]
  intro ds hd
  match ds, hd with
  | [d0, d1, d2, d3], _ => exact ⟨rfl, rfl, rfl⟩
 ·exact ChangeSpec.witness_shaped (enc := enc) (C := Tryz.checked) (os := os) (X := fun w _ => laidMetH Tryz.prog YtgppbgfjhkjfcaaGreatDoor.Rows.planEndRow.laid w) false (laidWorld YtgppbgfjhkjfcaaGreatDoor.Rows.planEndRow.laid os)
   #[.int .i64 0, .int .i64 0, .int .i64 0, .bool false] 12 (AZ _ _)
   (World.shaped_of_ZipB (by kernel_rfl) (by kernel_rfl)) (by kernel_rfl) (by kernel_rfl) (by kernel_rfl)
   (laidWorld_met _ (by kernel_rfl) (by kernel_rfl) (by kernel_rfl))
end Go.Ev.Code
namespace Go.Proofs.YtgppbgfjhkjfcaaGreatDoor
open Go.Ev.Code
noncomputable abbrev PP : Program := Tryz.pinned.checked.prog
theorem bH {a b : Bool} (ha : a = true) (hb : b = true) : (a && b) = true := by rw [ha, hb]; rfl
theorem Jc : (Rows.planEndRow.wf (OpenSpec.ofChange Rows.planEndSpec)) = true := by kernel_rfl
theorem Jd : (laidOutB PP) = true := by kernel_rfl
theorem Je : (mapsRowed PP) = true := by kernel_rfl
theorem Jf : (Tryz.f4.params.all (PP.readableRec ·)) = true := by kernel_rfl
theorem Jg : (namedTie PP Rows.planEndRow.named Rows.planEndSpec.vars) = true := by kernel_rfl
theorem Jh : ((Rows.planEndRow.stops == [])) = true := by kernel_rfl
theorem Ji : ((PP.stops == [])) = true := by kernel_rfl
theorem Jj : ((Rows.planEndRow.knobs == [])) = true := by kernel_rfl
theorem Jk : ((PP.stopKnobs == [])) = true := by kernel_rfl
theorem CZ : ((Rows.planEndRow.inPlace == PP.inPlace 4)) = true := by kernel_rfl
theorem C9 : ((Rows.planEndRow.unfollowed == PP.unfollowed 4)) = true := by kernel_rfl
theorem C_ : ((Rows.planEndRow.recurses == PP.recurses 4)) = true := by kernel_rfl
theorem Dc : ((Rows.planEndRow.named == PP.varsNamed 4)) = true := by kernel_rfl
theorem Df : ((Rows.planEndRow.maps == (Tryz.f4.params.toList ++ Rows.planEndSpec.plain.varTypes PP).any (PP.mapsRec ·))) = true := by kernel_rfl
theorem Dh : ((Rows.planEndRow.ifaces == (Tryz.f4.params.toList ++ Rows.planEndSpec.plain.varTypes PP).any (PP.ifacesRec ·))) = true := by kernel_rfl
theorem Di : ((Rows.planEndRow.mapsOut == PP.mapsAmong Tryz.f4.resultTypes.toList)) = true := by kernel_rfl
theorem Dj : ((Rows.planEndRow.loops == (Tryz.f4.params.toList ++ Rows.planEndSpec.plain.varTypes PP).any (PP.loopsFrom ·))) = true := by kernel_rfl
theorem Dk : ((Rows.planEndRow.wideKeys == (Tryz.f4.params.toList ++ Rows.planEndSpec.plain.varTypes PP ++ Tryz.f4.resultTypes.toList).any (PP.wideKeysFrom ·))) = true := by kernel_rfl
theorem Dl : (Rows.planEndSpec.vars.all (PP.varReadable ·)) = true := by kernel_rfl
theorem Dn : (Tryz.f4.resultTypes.all (fun t => PP.readableRec t && decide (t < PP.types.size))) = true := by kernel_rfl
theorem Dp : ((Rows.planEndRow.ifacesOut == Tryz.f4.resultTypes.toList.any (PP.ifacesRec ·))) = true := by kernel_rfl
theorem Dq : ((Rows.planEndRow.loopsOut == Tryz.f4.resultTypes.toList.any (PP.loopsFrom ·))) = true := by kernel_rfl
theorem Dt : ((Rows.planEndRow.plainKeys == PP.plainKeys)) = true := by kernel_rfl
theorem Du : (Rows.planEndRow.shortTexts.isNone) = true := by kernel_rfl
theorem Dv : (PP.stopsHeard) = true := by kernel_rfl
theorem Dw : (PP.mayEnter) = true := by kernel_rfl
theorem Dx : ((Rows.planEndRow.lifted == PP.liftsFinal)) = true := by kernel_rfl
theorem Dy : ((PP.make == some Rows.planEndRow.make)) = true := by kernel_rfl
theorem Dz : ((Rows.planEndRow.kinds == (if Rows.planEndRow.domain.isEmpty then [] else Tryz.f4.params.toList.map fun t => match PP.underlying t with | some (.int k) => some k | _ => none))) = true := by kernel_rfl
theorem DC : ((Rows.planEndRow.pinned == Rows.planEndRow.pinnedBy)) = true := by kernel_rfl
theorem DF : ((Rows.planEndRow.veiled == (Tryz.f4.params.toList ++ Rows.planEndSpec.plain.varTypes PP ++ Tryz.f4.resultTypes.toList).any (PP.veiledRec ·))) = true := by kernel_rfl
theorem DI : (Rows.planEndRow.veiledFits PP Tryz.f4.params.toList (Tryz.f4.params.toList ++ Rows.planEndSpec.plain.varTypes PP ++ Tryz.f4.resultTypes.toList)) = true := by kernel_rfl
theorem uJ : joinedFacts PP 4 Tryz.f4 Rows.planEndSpec Rows.planEndRow = true := bH (bH (bH (bH (bH (bH (bH (bH (bH (bH (bH (bH (bH (bH (bH (bH (bH (bH (bH (bH (bH (bH (bH (bH (bH (bH (bH (bH (bH (bH (bH (Jc) Jd) Je) Jf) Jg) Jh) Ji) Jj) Jk) CZ) C9) C_) Dc) Df) Dh) Di) Dj) Dk) Dl) Dn) Dp) Dq) Dt) Du) Dv) Dw) Dx) Dy) Dz) DC) DF) DI
theorem wZ : PP.funcNamed Rows.planEndRow.func = some 4 := by kernel_rfl
theorem zO : Tryz.f4.isInstance PP Rows.planEndRow.origin Rows.planEndRow.targs := of_decide_eq_true (by kernel_rfl)
theorem zQ : Tryz.f4.isWrapper PP Rows.planEndRow.wrapper Rows.planEndRow.mainSum := by
 unfold Func.isWrapper; first | (rw [if_neg (of_decide_eq_false (by kernel_rfl))]; exact ⟨rfl, rfl⟩) | (rw [if_neg (by decide +kernel)]; exact ⟨rfl, rfl⟩)
theorem ab4 : Rows.PlanEndSaid :=
 OpenClaim.holds_of_wide 4 Tryz.f4 rfl rfl rfl rfl rfl rfl rfl ⟨rfl, rfl, rfl, rfl, rfl⟩ rfl rfl rfl rfl rfl wZ Tryz.func4 uJ
  zO zQ (fun os started H enc _ => DJ os started H enc)
theorem Jl : Rows.planEndRow.wfByText (OpenSpec.ofChange Rows.planEndSpec) = true := by kernel_rfl
theorem uK : PP.mainIs = some (Rows.planEndCard.stood.harness.1, Rows.planEndCard.stood.harness.2.toList) := by kernel_rfl
theorem wY : true = PP.looks [] := by kernel_rfl
theorem zN : false = Rows.planEndRow.goesBy PP := by kernel_rfl
theorem zM : PP.funcNamed "rentier/rentierlaw13.PlanEnd" = some 4 := by kernel_rfl
theorem w_ : ([3, 3, 3, 4].all fun u => !Tryz.prog.wantsStandIn u) = true := by kernel_rfl
theorem ad4 : Rows.PlanEndCardSaid :=
 Claim7.holds_tied_plain_at .later [] [.data, .data, .data, .data, .handle, .sentinel, .sentinel, .pinned] true Rows.planEndCard.stood.harness true ab4 (fun _ h => by cases h) Jl (fun _ h => by cases h) planEnd_row_tie rfl ⟨rfl, rfl⟩ uK rfl
  (fun f fn hf hfn => by
   obtain rfl : f = 4 := Option.some.inj (zM.symm.trans hf) |>.symm
   obtain rfl : fn = Tryz.f4 := (Option.some.inj (Tryz.func4.symm.trans hfn)).symm
   exact ⟨wY, fun j t ht => by
    rw [fH] at ht
    have hm : t ∈ [3, 3, 3, 4] := by simpa using Array.mem_of_getElem? ht
    exact (show Tryz.prog.wantsStandIn t = false by simpa using List.all_eq_true.1 w_ t hm)⟩)
  zN
#print axioms ad4
end Go.Proofs.YtgppbgfjhkjfcaaGreatDoor
