/- The law FlowSum holds of the given program for every input, as its card says it. Conditions: those of the row. -/
import Derived.Test.YtnokhmkkpcfilaaGreatDoorTie
import Derived.Test.YtnokhmkkpcfilaaGreatDoorCards
import Derived.Test.YtnokhmkkpcfilaaGreatDoorCFrame
import Derived.Test.YtnokhmkkpcfilaaGreatDoorCWalkFlowSum
import Derived.Test.YtnokhmkkpcfilaaGreatDoorCBegun13
set_option linter.unusedVariables false
set_option linter.unusedSimpArgs false
set_option maxRecDepth 100000
namespace Go.Ev.Code
open Go Go.Ev Go.Proofs Go.ChangeShapes Go.WideShapes Go.RowKit
theorem zF : ("errors.errorType", (DataW.iface "internal/reflectlite.rtype" (.agg [.ptr (.lit (.string [101, 114, 114, 111, 114]))]) : DataW Unit)) ∈ YtnokhmkkpcfilaaGreatDoor.Rows.flowSumRow.laid.filter fun x => x.2.handleName?.isSome := List.mem_filter.2 ⟨by simp [YtnokhmkkpcfilaaGreatDoor.Rows.flowSumRow, YtnokhmkkpcfilaaGreatDoor.Rows.laid_errors_errorType], rfl⟩
theorem zG : ("math/bits.deBruijn64tab", (Go.Lib.tabData .u8 (Go.Lib.deBruijn64tab.map Int.ofNat) : DataW Unit)) ∈ YtnokhmkkpcfilaaGreatDoor.Rows.flowSumRow.laid.filter fun x => x.2.handleName?.isNone := by
 have e : (Go.Lib.tabData .u8 (Go.Lib.deBruijn64tab.map Int.ofNat) : DataW Unit) = YtnokhmkkpcfilaaGreatDoor.Rows.laid_math_bits_deBruijn64tab := by rfl
 rw [e]
 exact List.mem_filter.2 ⟨by simp [YtnokhmkkpcfilaaGreatDoor.Rows.flowSumRow], rfl⟩
theorem zH : ("internal/strconv.uint64pow10", (Go.Lib.tabData .u64 Go.Lib.pow10Tab : DataW Unit)) ∈ YtnokhmkkpcfilaaGreatDoor.Rows.flowSumRow.laid.filter fun x => x.2.handleName?.isNone := by
 have e : (Go.Lib.tabData .u64 Go.Lib.pow10Tab : DataW Unit) = YtnokhmkkpcfilaaGreatDoor.Rows.laid_internal_strconv_uint64pow10 := by rfl
 rw [e]
 exact List.mem_filter.2 ⟨by simp [YtnokhmkkpcfilaaGreatDoor.Rows.flowSumRow], rfl⟩
theorem dV : Tryz.f3.params = #[23] := by kernel_rfl
theorem wG (W : World) (base : Nat) (args : Array Value) (hV : Vars W) (hsz : args.size = Tryz.f3.params.size) (hval : ∀ (j : Nat) t v, Tryz.f3.params[j]? = some t → args[j]? = some v → Value.okWide Tryz.prog W .any base t v) :
  Calls Tryz.prog 3 args W fun e W' => e = .returned (.bool true) ∧ Grew W W' := by
 rw [dV] at hval hsz
 obtain ⟨v0, rfl⟩ : ∃ v0, args = #[v0] := by
  obtain ⟨l⟩ := args
  match l, hsz with
  | [v0], _ => exact ⟨v0, rfl⟩
 obtain ⟨b0, hF0⟩ := af0 (hval 0 _ v0 rfl rfl)
 refine (OH (f := jE) hV (here _ _ Tryz.func3 (by kernel_rfl)) (aku Sz b0) (vs := [v0]) (.cons hF0 .nil)).mono ?_
 rintro e w' ⟨u, c', rfl, rfl, hF', hg⟩
 have : u = _ := (Rep.bV _ _ hF' : Rep c' (.bool true) u).lu
 subst this
 exact ⟨rfl, hg⟩
theorem DI (os : Os) (started : os.Started) (H : Type) (enc : TypeId × Value → H) :
  ReturnsInHanded {} Tryz.checked os 3 .any (fun w args => (YtnokhmkkpcfilaaGreatDoor.Rows.flowSumSpec.pre enc Tryz.prog Tryz.f3 [] false w args ∧ laidMetH Tryz.prog YtnokhmkkpcfilaaGreatDoor.Rows.flowSumRow.laid w) ∧ sizedMet enc Tryz.prog Tryz.f3 (OpenSpec.ofChange YtnokhmkkpcfilaaGreatDoor.Rows.flowSumSpec) false w args)
   (YtnokhmkkpcfilaaGreatDoor.Rows.flowSumSpec.post enc Tryz.prog Tryz.f3 false true false false) := by
 refine law_lifted started rfl Tryz.func3 (by kernel_rfl) (by kernel_rfl) ?_ ?_ (fun W hs hl => TA hs hl zF zG zH) ?_ wG
 ·rw [dV]
  intro t ht
  have hall : ([23].all fun t => Tryz.prog.readableRec t && decide (t < Tryz.prog.types.size)) = true := by kernel_rfl
  have h1 := List.all_eq_true.1 hall t ht
  simp only [Bool.and_eq_true, decide_eq_true_eq] at h1
  exact h1
 ·rw [dV]
  intro ds hd
  match ds, hd with
  | [d0], _ => exact ⟨rfl, rfl, rfl⟩
 ·exact ChangeSpec.witness_shaped (enc := enc) (C := Tryz.checked) (os := os) (X := fun w _ => laidMetH Tryz.prog YtnokhmkkpcfilaaGreatDoor.Rows.flowSumRow.laid w) false (laidWorld YtnokhmkkpcfilaaGreatDoor.Rows.flowSumRow.laid os)
   #[.agg #[.int .i64 0, .int .i64 0, .int .i64 0, .string ⟨#[]⟩, .string ⟨#[]⟩, .int .i64 0, .int .i64 0, .bool false, .int .i64 0]] 12 (Bz _ _)
   (World.shaped_of_ZipB (by kernel_rfl) (by kernel_rfl)) (by kernel_rfl) (by kernel_rfl) (by kernel_rfl)
   (laidWorld_met _ (by kernel_rfl) (by kernel_rfl) (by kernel_rfl))
end Go.Ev.Code
namespace Go.Proofs.YtnokhmkkpcfilaaGreatDoor
open Go.Ev.Code
noncomputable abbrev PP : Program := Tryz.pinned.checked.prog
theorem aX {a b : Bool} (ha : a = true) (hb : b = true) : (a && b) = true := by rw [ha, hb]; rfl
theorem Ie : (Rows.flowSumRow.wf (OpenSpec.ofChange Rows.flowSumSpec)) = true := by kernel_rfl
theorem Ig : (laidOutB PP) = true := by kernel_rfl
theorem Ih : (mapsRowed PP) = true := by kernel_rfl
theorem Ii : (Tryz.f3.params.all (PP.readableRec ·)) = true := by kernel_rfl
theorem Ij : (namedTie PP Rows.flowSumRow.named Rows.flowSumSpec.vars) = true := by kernel_rfl
theorem Ik : ((Rows.flowSumRow.stops == [])) = true := by kernel_rfl
theorem Il : ((PP.stops == [])) = true := by kernel_rfl
theorem Io : ((Rows.flowSumRow.knobs == [])) = true := by kernel_rfl
theorem Ip : ((PP.stopKnobs == [])) = true := by kernel_rfl
theorem CY : ((Rows.flowSumRow.inPlace == PP.inPlace 3)) = true := by kernel_rfl
theorem CZ : ((Rows.flowSumRow.unfollowed == PP.unfollowed 3)) = true := by kernel_rfl
theorem C9 : ((Rows.flowSumRow.recurses == PP.recurses 3)) = true := by kernel_rfl
theorem C_ : ((Rows.flowSumRow.named == PP.varsNamed 3)) = true := by kernel_rfl
theorem Dc : ((Rows.flowSumRow.maps == (Tryz.f3.params.toList ++ Rows.flowSumSpec.plain.varTypes PP).any (PP.mapsRec ·))) = true := by kernel_rfl
theorem Df : ((Rows.flowSumRow.ifaces == (Tryz.f3.params.toList ++ Rows.flowSumSpec.plain.varTypes PP).any (PP.ifacesRec ·))) = true := by kernel_rfl
theorem Dh : ((Rows.flowSumRow.mapsOut == PP.mapsAmong Tryz.f3.resultTypes.toList)) = true := by kernel_rfl
theorem Di : ((Rows.flowSumRow.loops == (Tryz.f3.params.toList ++ Rows.flowSumSpec.plain.varTypes PP).any (PP.loopsFrom ·))) = true := by kernel_rfl
theorem Dj : ((Rows.flowSumRow.wideKeys == (Tryz.f3.params.toList ++ Rows.flowSumSpec.plain.varTypes PP ++ Tryz.f3.resultTypes.toList).any (PP.wideKeysFrom ·))) = true := by kernel_rfl
theorem Dk : (Rows.flowSumSpec.vars.all (PP.varReadable ·)) = true := by kernel_rfl
theorem Dl : (Tryz.f3.resultTypes.all (fun t => PP.readableRec t && decide (t < PP.types.size))) = true := by kernel_rfl
theorem Dn : ((Rows.flowSumRow.ifacesOut == Tryz.f3.resultTypes.toList.any (PP.ifacesRec ·))) = true := by kernel_rfl
theorem Dp : ((Rows.flowSumRow.loopsOut == Tryz.f3.resultTypes.toList.any (PP.loopsFrom ·))) = true := by kernel_rfl
theorem Dq : ((Rows.flowSumRow.plainKeys == PP.plainKeys)) = true := by kernel_rfl
theorem Dt : (Rows.flowSumRow.shortTexts.isNone) = true := by kernel_rfl
theorem Du : (PP.stopsHeard) = true := by kernel_rfl
theorem Dv : (PP.mayEnter) = true := by kernel_rfl
theorem Dw : ((Rows.flowSumRow.lifted == PP.liftsFinal)) = true := by kernel_rfl
theorem Dx : ((PP.make == some Rows.flowSumRow.make)) = true := by kernel_rfl
theorem Dy : ((Rows.flowSumRow.kinds == (if Rows.flowSumRow.domain.isEmpty then [] else Tryz.f3.params.toList.map fun t => match PP.underlying t with | some (.int k) => some k | _ => none))) = true := by kernel_rfl
theorem Dz : ((Rows.flowSumRow.pinned == Rows.flowSumRow.pinnedBy)) = true := by kernel_rfl
theorem DC : ((Rows.flowSumRow.veiled == (Tryz.f3.params.toList ++ Rows.flowSumSpec.plain.varTypes PP ++ Tryz.f3.resultTypes.toList).any (PP.veiledRec ·))) = true := by kernel_rfl
theorem DF : (Rows.flowSumRow.veiledFits PP Tryz.f3.params.toList (Tryz.f3.params.toList ++ Rows.flowSumSpec.plain.varTypes PP ++ Tryz.f3.resultTypes.toList)) = true := by kernel_rfl
theorem sN : joinedFacts PP 3 Tryz.f3 Rows.flowSumSpec Rows.flowSumRow = true := aX (aX (aX (aX (aX (aX (aX (aX (aX (aX (aX (aX (aX (aX (aX (aX (aX (aX (aX (aX (aX (aX (aX (aX (aX (aX (aX (aX (aX (aX (aX (Ie) Ig) Ih) Ii) Ij) Ik) Il) Io) Ip) CY) CZ) C9) C_) Dc) Df) Dh) Di) Dj) Dk) Dl) Dn) Dp) Dq) Dt) Du) Dv) Dw) Dx) Dy) Dz) DC) DF
theorem wI : PP.funcNamed Rows.flowSumRow.func = some 3 := by kernel_rfl
theorem zk : Tryz.f3.isInstance PP Rows.flowSumRow.origin Rows.flowSumRow.targs := of_decide_eq_true (by kernel_rfl)
theorem zl : Tryz.f3.isWrapper PP Rows.flowSumRow.wrapper Rows.flowSumRow.mainSum := by
 unfold Func.isWrapper; first | (rw [if_neg (of_decide_eq_false (by kernel_rfl))]; exact ⟨rfl, rfl⟩) | (rw [if_neg (by decide +kernel)]; exact ⟨rfl, rfl⟩)
theorem ae9 : Rows.FlowSumSaid :=
 OpenClaim.holds_of_wide 3 Tryz.f3 rfl rfl rfl rfl rfl rfl rfl ⟨rfl, rfl, rfl, rfl, rfl⟩ rfl rfl rfl rfl rfl wI Tryz.func3 sN
  zk zl (fun os started H enc _ => DI os started H enc)
theorem Iq : Rows.flowSumRow.wfByText (OpenSpec.ofChange Rows.flowSumSpec) = true := by kernel_rfl
theorem sO : PP.mainIs = some (Rows.flowSumCard.stood.harness.1, Rows.flowSumCard.stood.harness.2.toList) := by kernel_rfl
theorem wH : true = PP.looks [] := by kernel_rfl
theorem zi : false = Rows.flowSumRow.goesBy PP := by kernel_rfl
theorem zh : PP.funcNamed "rentier/rentierlaw13.FlowSum" = some 3 := by kernel_rfl
theorem wJ : ([23].all fun u => !Tryz.prog.wantsStandIn u) = true := by kernel_rfl
theorem flowSum_card : Rows.FlowSumCardSaid :=
 Claim7.holds_tied_plain_at .later [] [.data, .data, .data, .data, .handle, .sentinel, .sentinel, .pinned] true Rows.flowSumCard.stood.harness true ae9 (fun _ h => by cases h) Iq (fun _ h => by cases h) flowSum_row_tie rfl ⟨rfl, rfl⟩ sO rfl
  (fun f fn hf hfn => by
   obtain rfl : f = 3 := Option.some.inj (zh.symm.trans hf) |>.symm
   obtain rfl : fn = Tryz.f3 := (Option.some.inj (Tryz.func3.symm.trans hfn)).symm
   exact ⟨wH, fun j t ht => by
    rw [dV] at ht
    have hm : t ∈ [23] := by simpa using Array.mem_of_getElem? ht
    exact (show Tryz.prog.wantsStandIn t = false by simpa using List.all_eq_true.1 wJ t hm)⟩)
  zi
#print axioms flowSum_card
end Go.Proofs.YtnokhmkkpcfilaaGreatDoor
