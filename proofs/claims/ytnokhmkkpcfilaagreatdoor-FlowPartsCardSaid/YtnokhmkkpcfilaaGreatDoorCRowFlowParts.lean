/- The law FlowParts holds of the given program for every input, as its card says it. Conditions: those of the row. -/
import Derived.Test.YtnokhmkkpcfilaaGreatDoorTie
import Derived.Test.YtnokhmkkpcfilaaGreatDoorCards
import Derived.Test.YtnokhmkkpcfilaaGreatDoorCFrame
import Derived.Test.YtnokhmkkpcfilaaGreatDoorCWalkFlowParts
import Derived.Test.YtnokhmkkpcfilaaGreatDoorCBegun13
set_option linter.unusedVariables false
set_option linter.unusedSimpArgs false
set_option maxRecDepth 100000
namespace Go.Ev.Code
open Go Go.Ev Go.Proofs Go.ChangeShapes Go.WideShapes Go.RowKit
theorem zF : ("errors.errorType", (DataW.iface "internal/reflectlite.rtype" (.agg [.ptr (.lit (.string [101, 114, 114, 111, 114]))]) : DataW Unit)) ∈ YtnokhmkkpcfilaaGreatDoor.Rows.flowPartsRow.laid.filter fun x => x.2.handleName?.isSome := List.mem_filter.2 ⟨by simp [YtnokhmkkpcfilaaGreatDoor.Rows.flowPartsRow, YtnokhmkkpcfilaaGreatDoor.Rows.laid_errors_errorType], rfl⟩
theorem zG : ("math/bits.deBruijn64tab", (Go.Lib.tabData .u8 (Go.Lib.deBruijn64tab.map Int.ofNat) : DataW Unit)) ∈ YtnokhmkkpcfilaaGreatDoor.Rows.flowPartsRow.laid.filter fun x => x.2.handleName?.isNone := by
 have e : (Go.Lib.tabData .u8 (Go.Lib.deBruijn64tab.map Int.ofNat) : DataW Unit) = YtnokhmkkpcfilaaGreatDoor.Rows.laid_math_bits_deBruijn64tab := by rfl
 rw [e]
 exact List.mem_filter.2 ⟨by simp [YtnokhmkkpcfilaaGreatDoor.Rows.flowPartsRow], rfl⟩
theorem zH : ("internal/strconv.uint64pow10", (Go.Lib.tabData .u64 Go.Lib.pow10Tab : DataW Unit)) ∈ YtnokhmkkpcfilaaGreatDoor.Rows.flowPartsRow.laid.filter fun x => x.2.handleName?.isNone := by
 have e : (Go.Lib.tabData .u64 Go.Lib.pow10Tab : DataW Unit) = YtnokhmkkpcfilaaGreatDoor.Rows.laid_internal_strconv_uint64pow10 := by rfl
 rw [e]
 exact List.mem_filter.2 ⟨by simp [YtnokhmkkpcfilaaGreatDoor.Rows.flowPartsRow], rfl⟩
theorem dV : Tryz.f4.params = #[23, 3, 3, 3] := by kernel_rfl
theorem wG (W : World) (base : Nat) (args : Array Value) (hV : Vars W) (hsz : args.size = Tryz.f4.params.size) (hval : ∀ (j : Nat) t v, Tryz.f4.params[j]? = some t → args[j]? = some v → Value.okWide Tryz.prog W .any base t v) :
  Calls Tryz.prog 4 args W fun e W' => e = .returned (.bool true) ∧ Grew W W' := by
 rw [dV] at hval hsz
 obtain ⟨v0, v1, v2, v3, rfl⟩ : ∃ v0 v1 v2 v3, args = #[v0, v1, v2, v3] := by
  obtain ⟨l⟩ := args
  match l, hsz with
  | [v0, v1, v2, v3], _ => exact ⟨v0, v1, v2, v3, rfl⟩
 obtain ⟨b0, hF0⟩ := af0 (hval 0 _ v0 rfl rfl)
 obtain ⟨n1, rfl, w1⟩ := yw (hval 1 _ v1 rfl rfl)
 obtain ⟨n2, rfl, w2⟩ := yw (hval 2 _ v2 rfl rfl)
 obtain ⟨n3, rfl, w3⟩ := yw (hval 3 _ v3 rfl rfl)
 refine (OH (f := iM) hV (here _ _ Tryz.func4 (by kernel_rfl)) (agA Sz b0 n1 n2 n3) (vs := [v0, .int .i64 n1, .int .i64 n2, .int .i64 n3]) (.cons hF0 (.cons (.int _ _) (.cons (.int _ _) (.cons (.int _ _) .nil))))).mono ?_
 rintro e w' ⟨u, c', rfl, rfl, hF', hg⟩
 have : u = _ := (Rep.bV _ _ hF' : Rep c' (.bool true) u).lu
 subst this
 exact ⟨rfl, hg⟩
theorem DI (os : Os) (started : os.Started) (H : Type) (enc : TypeId × Value → H) :
  ReturnsInHanded {} Tryz.checked os 4 .any (fun w args => (YtnokhmkkpcfilaaGreatDoor.Rows.flowPartsSpec.pre enc Tryz.prog Tryz.f4 [] false w args ∧ laidMetH Tryz.prog YtnokhmkkpcfilaaGreatDoor.Rows.flowPartsRow.laid w) ∧ sizedMet enc Tryz.prog Tryz.f4 (OpenSpec.ofChange YtnokhmkkpcfilaaGreatDoor.Rows.flowPartsSpec) false w args)
   (YtnokhmkkpcfilaaGreatDoor.Rows.flowPartsSpec.post enc Tryz.prog Tryz.f4 false true false false) := by
 refine law_lifted started rfl Tryz.func4 (by kernel_rfl) (by kernel_rfl) ?_ ?_ (fun W hs hl => TA hs hl zF zG zH) ?_ wG
 ·rw [dV]
  intro t ht
  have hall : ([23, 3, 3, 3].all fun t => Tryz.prog.readableRec t && decide (t < Tryz.prog.types.size)) = true := by kernel_rfl
  have h1 := List.all_eq_true.1 hall t ht
  simp only [Bool.and_eq_true, decide_eq_true_eq] at h1
  exact h1
 ·rw [dV]
  intro ds hd
  match ds, hd with
  | [d0, d1, d2, d3], _ => exact ⟨rfl, rfl, rfl⟩
 ·exact ChangeSpec.witness_shaped (enc := enc) (C := Tryz.checked) (os := os) (X := fun w _ => laidMetH Tryz.prog YtnokhmkkpcfilaaGreatDoor.Rows.flowPartsRow.laid w) false (laidWorld YtnokhmkkpcfilaaGreatDoor.Rows.flowPartsRow.laid os)
   #[.agg #[.int .i64 0, .int .i64 0, .int .i64 0, .string ⟨#[]⟩, .string ⟨#[]⟩, .int .i64 0, .int .i64 0, .bool false, .int .i64 0], .int .i64 0, .int .i64 0, .int .i64 0] 12 (Bz _ _)
   (World.shaped_of_ZipB (by kernel_rfl) (by kernel_rfl)) (by kernel_rfl) (by kernel_rfl) (by kernel_rfl)
   (laidWorld_met _ (by kernel_rfl) (by kernel_rfl) (by kernel_rfl))
end Go.Ev.Code
namespace Go.Proofs.YtnokhmkkpcfilaaGreatDoor
open Go.Ev.Code
noncomputable abbrev PP : Program := Tryz.pinned.checked.prog
theorem aX {a b : Bool} (ha : a = true) (hb : b = true) : (a && b) = true := by rw [ha, hb]; rfl
theorem Ie : (Rows.flowPartsRow.wf (OpenSpec.ofChange Rows.flowPartsSpec)) = true := by kernel_rfl
theorem Ig : (laidOutB PP) = true := by kernel_rfl
theorem Ih : (mapsRowed PP) = true := by kernel_rfl
theorem Ii : (Tryz.f4.params.all (PP.readableRec ·)) = true := by kernel_rfl
theorem Ij : (namedTie PP Rows.flowPartsRow.named Rows.flowPartsSpec.vars) = true := by kernel_rfl
theorem Ik : ((Rows.flowPartsRow.stops == [])) = true := by kernel_rfl
theorem Il : ((PP.stops == [])) = true := by kernel_rfl
theorem Io : ((Rows.flowPartsRow.knobs == [])) = true := by kernel_rfl
theorem Ip : ((PP.stopKnobs == [])) = true := by kernel_rfl
theorem CY : ((Rows.flowPartsRow.inPlace == PP.inPlace 4)) = true := by kernel_rfl
theorem CZ : ((Rows.flowPartsRow.unfollowed == PP.unfollowed 4)) = true := by kernel_rfl
theorem C9 : ((Rows.flowPartsRow.recurses == PP.recurses 4)) = true := by kernel_rfl
theorem C_ : ((Rows.flowPartsRow.named == PP.varsNamed 4)) = true := by kernel_rfl
theorem Dc : ((Rows.flowPartsRow.maps == (Tryz.f4.params.toList ++ Rows.flowPartsSpec.plain.varTypes PP).any (PP.mapsRec ·))) = true := by kernel_rfl
theorem Df : ((Rows.flowPartsRow.ifaces == (Tryz.f4.params.toList ++ Rows.flowPartsSpec.plain.varTypes PP).any (PP.ifacesRec ·))) = true := by kernel_rfl
theorem Dh : ((Rows.flowPartsRow.mapsOut == PP.mapsAmong Tryz.f4.resultTypes.toList)) = true := by kernel_rfl
theorem Di : ((Rows.flowPartsRow.loops == (Tryz.f4.params.toList ++ Rows.flowPartsSpec.plain.varTypes PP).any (PP.loopsFrom ·))) = true := by kernel_rfl
theorem Dj : ((Rows.flowPartsRow.wideKeys == (Tryz.f4.params.toList ++ Rows.flowPartsSpec.plain.varTypes PP ++ Tryz.f4.resultTypes.toList).any (PP.wideKeysFrom ·))) = true := by kernel_rfl
theorem Dk : (Rows.flowPartsSpec.vars.all (PP.varReadable ·)) = true := by kernel_rfl
theorem Dl : (Tryz.f4.resultTypes.all (fun t => PP.readableRec t && decide (t < PP.types.size))) = true := by kernel_rfl
theorem Dn : ((Rows.flowPartsRow.ifacesOut == Tryz.f4.resultTypes.toList.any (PP.ifacesRec ·))) = true := by kernel_rfl
theorem Dp : ((Rows.flowPartsRow.loopsOut == Tryz.f4.resultTypes.toList.any (PP.loopsFrom ·))) = true := by kernel_rfl
theorem Dq : ((Rows.flowPartsRow.plainKeys == PP.plainKeys)) = true := by kernel_rfl
theorem Dt : (Rows.flowPartsRow.shortTexts.isNone) = true := by kernel_rfl
theorem Du : (PP.stopsHeard) = true := by kernel_rfl
theorem Dv : (PP.mayEnter) = true := by kernel_rfl
theorem Dw : ((Rows.flowPartsRow.lifted == PP.liftsFinal)) = true := by kernel_rfl
theorem Dx : ((PP.make == some Rows.flowPartsRow.make)) = true := by kernel_rfl
theorem Dy : ((Rows.flowPartsRow.kinds == (if Rows.flowPartsRow.domain.isEmpty then [] else Tryz.f4.params.toList.map fun t => match PP.underlying t with | some (.int k) => some k | _ => none))) = true := by kernel_rfl
theorem Dz : ((Rows.flowPartsRow.pinned == Rows.flowPartsRow.pinnedBy)) = true := by kernel_rfl
theorem DC : ((Rows.flowPartsRow.veiled == (Tryz.f4.params.toList ++ Rows.flowPartsSpec.plain.varTypes PP ++ Tryz.f4.resultTypes.toList).any (PP.veiledRec ·))) = true := by kernel_rfl
theorem DF : (Rows.flowPartsRow.veiledFits PP Tryz.f4.params.toList (Tryz.f4.params.toList ++ Rows.flowPartsSpec.plain.varTypes PP ++ Tryz.f4.resultTypes.toList)) = true := by kernel_rfl
theorem sN : joinedFacts PP 4 Tryz.f4 Rows.flowPartsSpec Rows.flowPartsRow = true := aX (aX (aX (aX (aX (aX (aX (aX (aX (aX (aX (aX (aX (aX (aX (aX (aX (aX (aX (aX (aX (aX (aX (aX (aX (aX (aX (aX (aX (aX (aX (Ie) Ig) Ih) Ii) Ij) Ik) Il) Io) Ip) CY) CZ) C9) C_) Dc) Df) Dh) Di) Dj) Dk) Dl) Dn) Dp) Dq) Dt) Du) Dv) Dw) Dx) Dy) Dz) DC) DF
theorem wI : PP.funcNamed Rows.flowPartsRow.func = some 4 := by kernel_rfl
theorem zk : Tryz.f4.isInstance PP Rows.flowPartsRow.origin Rows.flowPartsRow.targs := of_decide_eq_true (by kernel_rfl)
theorem zl : Tryz.f4.isWrapper PP Rows.flowPartsRow.wrapper Rows.flowPartsRow.mainSum := by
 unfold Func.isWrapper; first | (rw [if_neg (of_decide_eq_false (by kernel_rfl))]; exact ⟨rfl, rfl⟩) | (rw [if_neg (by decide +kernel)]; exact ⟨rfl, rfl⟩)
theorem aav : Rows.FlowPartsSaid :=
 OpenClaim.holds_of_wide 4 Tryz.f4 rfl rfl rfl rfl rfl rfl rfl ⟨rfl, rfl, rfl, rfl, rfl⟩ rfl rfl rfl rfl rfl wI Tryz.func4 sN
  zk zl (fun os started H enc _ => DI os started H enc)
theorem Iq : Rows.flowPartsRow.wfByText (OpenSpec.ofChange Rows.flowPartsSpec) = true := by kernel_rfl
theorem sO : PP.mainIs = some (Rows.flowPartsCard.stood.harness.1, Rows.flowPartsCard.stood.harness.2.toList) := by kernel_rfl
theorem wH : true = PP.looks [] := by kernel_rfl
theorem zi : false = Rows.flowPartsRow.goesBy PP := by kernel_rfl
theorem zh : PP.funcNamed "rentier/rentierlaw13.FlowParts" = some 4 := by kernel_rfl
theorem wJ : ([23, 3, 3, 3].all fun u => !Tryz.prog.wantsStandIn u) = true := by kernel_rfl
theorem flowParts_card : Rows.FlowPartsCardSaid :=
 Claim7.holds_tied_plain_at .later [] [.data, .data, .data, .data, .handle, .sentinel, .sentinel, .pinned] true Rows.flowPartsCard.stood.harness true aav (fun _ h => by cases h) Iq (fun _ h => by cases h) flowParts_row_tie rfl ⟨rfl, rfl⟩ sO rfl
  (fun f fn hf hfn => by
   obtain rfl : f = 4 := Option.some.inj (zh.symm.trans hf) |>.symm
   obtain rfl : fn = Tryz.f4 := (Option.some.inj (Tryz.func4.symm.trans hfn)).symm
   exact ⟨wH, fun j t ht => by
    rw [dV] at ht
    have hm : t ∈ [23, 3, 3, 3] := by simpa using Array.mem_of_getElem? ht
    exact (show Tryz.prog.wantsStandIn t = false by simpa using List.all_eq_true.1 wJ t hm)⟩)
  zi
#print axioms flowParts_card
end Go.Proofs.YtnokhmkkpcfilaaGreatDoor
