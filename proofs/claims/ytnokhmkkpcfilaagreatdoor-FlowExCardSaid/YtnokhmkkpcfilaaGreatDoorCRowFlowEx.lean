/- The law FlowEx holds of the given program for every input, as its card says it. Conditions: those of the row. -/
import Derived.Test.YtnokhmkkpcfilaaGreatDoorTie
import Derived.Test.YtnokhmkkpcfilaaGreatDoorCards
import Derived.Test.YtnokhmkkpcfilaaGreatDoorCFrame
import Derived.Test.YtnokhmkkpcfilaaGreatDoorCWalkFlowEx
import Derived.Test.YtnokhmkkpcfilaaGreatDoorCBegun13
set_option linter.unusedVariables false
set_option linter.unusedSimpArgs false
set_option maxRecDepth 100000
namespace Go.Ev.Code
open Go Go.Ev Go.Proofs Go.ChangeShapes Go.WideShapes Go.RowKit
theorem zF : ("errors.errorType", (DataW.iface "internal/reflectlite.rtype" (.agg [.ptr (.lit (.string [101, 114, 114, 111, 114]))]) : DataW Unit)) ∈ YtnokhmkkpcfilaaGreatDoor.Rows.flowExRow.laid.filter fun x => x.2.handleName?.isSome := List.mem_filter.2 ⟨by simp [YtnokhmkkpcfilaaGreatDoor.Rows.flowExRow, YtnokhmkkpcfilaaGreatDoor.Rows.laid_errors_errorType], rfl⟩
theorem zG : ("math/bits.deBruijn64tab", (Go.Lib.tabData .u8 (Go.Lib.deBruijn64tab.map Int.ofNat) : DataW Unit)) ∈ YtnokhmkkpcfilaaGreatDoor.Rows.flowExRow.laid.filter fun x => x.2.handleName?.isNone := by
 have e : (Go.Lib.tabData .u8 (Go.Lib.deBruijn64tab.map Int.ofNat) : DataW Unit) = YtnokhmkkpcfilaaGreatDoor.Rows.laid_math_bits_deBruijn64tab := by rfl
 rw [e]
 exact List.mem_filter.2 ⟨by simp [YtnokhmkkpcfilaaGreatDoor.Rows.flowExRow], rfl⟩
theorem zH : ("internal/strconv.uint64pow10", (Go.Lib.tabData .u64 Go.Lib.pow10Tab : DataW Unit)) ∈ YtnokhmkkpcfilaaGreatDoor.Rows.flowExRow.laid.filter fun x => x.2.handleName?.isNone := by
 have e : (Go.Lib.tabData .u64 Go.Lib.pow10Tab : DataW Unit) = YtnokhmkkpcfilaaGreatDoor.Rows.laid_internal_strconv_uint64pow10 := by rfl
 rw [e]
 exact List.mem_filter.2 ⟨by simp [YtnokhmkkpcfilaaGreatDoor.Rows.flowExRow], rfl⟩
theorem dV : Tryz.f5.params = #[3, 3, 3] := by kernel_rfl
theorem wG (W : World) (base : Nat) (args : Array Value) (hV : Vars W) (hsz : args.size = Tryz.f5.params.size) (hval : ∀ (j : Nat) t v, Tryz.f5.params[j]? = some t → args[j]? = some v → Value.okWide Tryz.prog W .any base t v) :
  Calls Tryz.prog 5 args W fun e W' => e = .returned (.bool true) ∧ Grew W W' := by
 rw [dV] at hval hsz
 obtain ⟨v0, v1, v2, rfl⟩ : ∃ v0 v1 v2, args = #[v0, v1, v2] := by
  obtain ⟨l⟩ := args
  match l, hsz with
  | [v0, v1, v2], _ => exact ⟨v0, v1, v2, rfl⟩
 obtain ⟨n0, rfl, w0⟩ := yw (hval 0 _ v0 rfl rfl)
 obtain ⟨n1, rfl, w1⟩ := yw (hval 1 _ v1 rfl rfl)
 obtain ⟨n2, rfl, w2⟩ := yw (hval 2 _ v2 rfl rfl)
 refine (OH (f := jZ) hV (here _ _ Tryz.func5 (by kernel_rfl)) (al9 Sz n0 n1 n2) (vs := [.int .i64 n0, .int .i64 n1, .int .i64 n2]) (.cons (.int _ _) (.cons (.int _ _) (.cons (.int _ _) .nil)))).mono ?_
 rintro e w' ⟨u, c', rfl, rfl, hF', hg⟩
 have : u = _ := (Rep.bV _ _ hF' : Rep c' (.bool true) u).lu
 subst this
 exact ⟨rfl, hg⟩
theorem DI (os : Os) (started : os.Started) (H : Type) (enc : TypeId × Value → H) :
  ReturnsInHanded {} Tryz.checked os 5 .any (fun w args => (YtnokhmkkpcfilaaGreatDoor.Rows.flowExSpec.pre enc Tryz.prog Tryz.f5 [] false w args ∧ laidMetH Tryz.prog YtnokhmkkpcfilaaGreatDoor.Rows.flowExRow.laid w) ∧ sizedMet enc Tryz.prog Tryz.f5 (OpenSpec.ofChange YtnokhmkkpcfilaaGreatDoor.Rows.flowExSpec) false w args)
   (YtnokhmkkpcfilaaGreatDoor.Rows.flowExSpec.post enc Tryz.prog Tryz.f5 false true false false) := by
 refine law_lifted started rfl Tryz.func5 (by kernel_rfl) (by kernel_rfl) ?_ ?_ (fun W hs hl => TA hs hl zF zG zH) ?_ wG
 ·rw [dV]
  intro t ht
  have hall : ([3, 3, 3].all fun t => Tryz.prog.readableRec t && decide (t < Tryz.prog.types.size)) = true := by kernel_rfl
  have h1 := List.all_eq_true.1 hall t ht
  simp only [Bool.and_eq_true, decide_eq_true_eq] at h1
  exact h1
 ·rw [dV]
  intro ds hd
  match ds, hd with
  | [d0, d1, d2], _ => exact ⟨rfl, rfl, rfl⟩
 ·exact ChangeSpec.witness_shaped (enc := enc) (C := Tryz.checked) (os := os) (X := fun w _ => laidMetH Tryz.prog YtnokhmkkpcfilaaGreatDoor.Rows.flowExRow.laid w) false (laidWorld YtnokhmkkpcfilaaGreatDoor.Rows.flowExRow.laid os)
   #[.int .i64 0, .int .i64 0, .int .i64 0] 12 (Bz _ _)
   (World.shaped_of_ZipB (by kernel_rfl) (by kernel_rfl)) (by kernel_rfl) (by kernel_rfl) (by kernel_rfl)
   (laidWorld_met _ (by kernel_rfl) (by kernel_rfl) (by kernel_rfl))
end Go.Ev.Code
namespace Go.Proofs.YtnokhmkkpcfilaaGreatDoor
open Go.Ev.Code
noncomputable abbrev PP : Program := Tryz.pinned.checked.prog
theorem aX {a b : Bool} (ha : a = true) (hb : b = true) : (a && b) = true := by rw [ha, hb]; rfl
theorem Ie : (Rows.flowExRow.wf (OpenSpec.ofChange Rows.flowExSpec)) = true := by kernel_rfl
theorem Ig : (laidOutB PP) = true := by kernel_rfl
theorem Ih : (mapsRowed PP) = true := by kernel_rfl
theorem Ii : (Tryz.f5.params.all (PP.readableRec ·)) = true := by kernel_rfl
theorem Ij : (namedTie PP Rows.flowExRow.named Rows.flowExSpec.vars) = true := by kernel_rfl
theorem Ik : ((Rows.flowExRow.stops == [])) = true := by kernel_rfl
theorem Il : ((PP.stops == [])) = true := by kernel_rfl
theorem Io : ((Rows.flowExRow.knobs == [])) = true := by kernel_rfl
theorem Ip : ((PP.stopKnobs == [])) = true := by kernel_rfl
theorem CY : ((Rows.flowExRow.inPlace == PP.inPlace 5)) = true := by kernel_rfl
theorem CZ : ((Rows.flowExRow.unfollowed == PP.unfollowed 5)) = true := by kernel_rfl
theorem C9 : ((Rows.flowExRow.recurses == PP.recurses 5)) = true := by kernel_rfl
theorem C_ : ((Rows.flowExRow.named == PP.varsNamed 5)) = true := by kernel_rfl
theorem Dc : ((Rows.flowExRow.maps == (Tryz.f5.params.toList ++ Rows.flowExSpec.plain.varTypes PP).any (PP.mapsRec ·))) = true := by kernel_rfl
theorem Df : ((Rows.flowExRow.ifaces == (Tryz.f5.params.toList ++ Rows.flowExSpec.plain.varTypes PP).any (PP.ifacesRec ·))) = true := by kernel_rfl
theorem Dh : ((Rows.flowExRow.mapsOut == PP.mapsAmong Tryz.f5.resultTypes.toList)) = true := by kernel_rfl
theorem Di : ((Rows.flowExRow.loops == (Tryz.f5.params.toList ++ Rows.flowExSpec.plain.varTypes PP).any (PP.loopsFrom ·))) = true := by kernel_rfl
theorem Dj : ((Rows.flowExRow.wideKeys == (Tryz.f5.params.toList ++ Rows.flowExSpec.plain.varTypes PP ++ Tryz.f5.resultTypes.toList).any (PP.wideKeysFrom ·))) = true := by kernel_rfl
theorem Dk : (Rows.flowExSpec.vars.all (PP.varReadable ·)) = true := by kernel_rfl
theorem Dl : (Tryz.f5.resultTypes.all (fun t => PP.readableRec t && decide (t < PP.types.size))) = true := by kernel_rfl
theorem Dn : ((Rows.flowExRow.ifacesOut == Tryz.f5.resultTypes.toList.any (PP.ifacesRec ·))) = true := by kernel_rfl
theorem Dp : ((Rows.flowExRow.loopsOut == Tryz.f5.resultTypes.toList.any (PP.loopsFrom ·))) = true := by kernel_rfl
theorem Dq : ((Rows.flowExRow.plainKeys == PP.plainKeys)) = true := by kernel_rfl
theorem Dt : (Rows.flowExRow.shortTexts.isNone) = true := by kernel_rfl
theorem Du : (PP.stopsHeard) = true := by kernel_rfl
theorem Dv : (PP.mayEnter) = true := by kernel_rfl
theorem Dw : ((Rows.flowExRow.lifted == PP.liftsFinal)) = true := by kernel_rfl
theorem Dx : ((PP.make == some Rows.flowExRow.make)) = true := by kernel_rfl
theorem Dy : ((Rows.flowExRow.kinds == (if Rows.flowExRow.domain.isEmpty then [] else Tryz.f5.params.toList.map fun t => match PP.underlying t with | some (.int k) => some k | _ => none))) = true := by kernel_rfl
theorem Dz : ((Rows.flowExRow.pinned == Rows.flowExRow.pinnedBy)) = true := by kernel_rfl
theorem DC : ((Rows.flowExRow.veiled == (Tryz.f5.params.toList ++ Rows.flowExSpec.plain.varTypes PP ++ Tryz.f5.resultTypes.toList).any (PP.veiledRec ·))) = true := by kernel_rfl
theorem DF : (Rows.flowExRow.veiledFits PP Tryz.f5.params.toList (Tryz.f5.params.toList ++ Rows.flowExSpec.plain.varTypes PP ++ Tryz.f5.resultTypes.toList)) = true := by kernel_rfl
theorem sN : joinedFacts PP 5 Tryz.f5 Rows.flowExSpec Rows.flowExRow = true := aX (aX (aX (aX (aX (aX (aX (aX (aX (aX (aX (aX (aX (aX (aX (aX (aX (aX (aX (aX (aX (aX (aX (aX (aX (aX (aX (aX (aX (aX (aX (Ie) Ig) Ih) Ii) Ij) Ik) Il) Io) Ip) CY) CZ) C9) C_) Dc) Df) Dh) Di) Dj) Dk) Dl) Dn) Dp) Dq) Dt) Du) Dv) Dw) Dx) Dy) Dz) DC) DF
theorem wI : PP.funcNamed Rows.flowExRow.func = some 5 := by kernel_rfl
theorem zk : Tryz.f5.isInstance PP Rows.flowExRow.origin Rows.flowExRow.targs := of_decide_eq_true (by kernel_rfl)
theorem zl : Tryz.f5.isWrapper PP Rows.flowExRow.wrapper Rows.flowExRow.mainSum := by
 unfold Func.isWrapper; first | (rw [if_neg (of_decide_eq_false (by kernel_rfl))]; exact ⟨rfl, rfl⟩) | (rw [if_neg (by decide +kernel)]; exact ⟨rfl, rfl⟩)
theorem agz : Rows.FlowExSaid :=
 OpenClaim.holds_of_wide 5 Tryz.f5 rfl rfl rfl rfl rfl rfl rfl ⟨rfl, rfl, rfl, rfl, rfl⟩ rfl rfl rfl rfl rfl wI Tryz.func5 sN
  zk zl (fun os started H enc _ => DI os started H enc)
theorem Iq : Rows.flowExRow.wfByText (OpenSpec.ofChange Rows.flowExSpec) = true := by kernel_rfl
theorem sO : PP.mainIs = some (Rows.flowExCard.stood.harness.1, Rows.flowExCard.stood.harness.2.toList) := by kernel_rfl
theorem wH : true = PP.looks [] := by kernel_rfl
theorem zi : false = Rows.flowExRow.goesBy PP := by kernel_rfl
theorem zh : PP.funcNamed "rentier/rentierlaw13.FlowEx" = some 5 := by kernel_rfl
theorem wJ : ([3, 3, 3].all fun u => !Tryz.prog.wantsStandIn u) = true := by kernel_rfl
theorem flowEx_card : Rows.FlowExCardSaid :=
 Claim7.holds_tied_plain_at .later [] [.data, .data, .data, .data, .handle, .sentinel, .sentinel, .pinned] true Rows.flowExCard.stood.harness true agz (fun _ h => by cases h) Iq (fun _ h => by cases h) flowEx_row_tie rfl ⟨rfl, rfl⟩ sO rfl
  (fun f fn hf hfn => by
   obtain rfl : f = 5 := Option.some.inj (zh.symm.trans hf) |>.symm
   obtain rfl : fn = Tryz.f5 := (Option.some.inj (Tryz.func5.symm.trans hfn)).symm
   exact ⟨wH, fun j t ht => by
    rw [dV] at ht
    have hm : t ∈ [3, 3, 3] := by simpa using Array.mem_of_getElem? ht
    exact (show Tryz.prog.wantsStandIn t = false by simpa using List.all_eq_true.1 wJ t hm)⟩)
  zi
#print axioms flowEx_card
end Go.Proofs.YtnokhmkkpcfilaaGreatDoor
