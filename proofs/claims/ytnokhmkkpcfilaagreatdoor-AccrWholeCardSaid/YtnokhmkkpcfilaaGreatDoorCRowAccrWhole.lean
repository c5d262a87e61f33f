/- The law AccrWhole holds of the given program for every input, as its card says it. Conditions: those of the row. -/
import Derived.Test.YtnokhmkkpcfilaaGreatDoorTie
import Derived.Test.YtnokhmkkpcfilaaGreatDoorCards
import Derived.Test.YtnokhmkkpcfilaaGreatDoorCFrame
import Derived.Test.YtnokhmkkpcfilaaGreatDoorCWalkAccrWhole
import Derived.Test.YtnokhmkkpcfilaaGreatDoorCSpD7
import Derived.Test.YtnokhmkkpcfilaaGreatDoorCBegun13
set_option linter.unusedVariables false
set_option linter.unusedSimpArgs false
set_option maxRecDepth 100000
namespace Go.Ev.Code
open Go Go.Ev Go.Proofs Go.ChangeShapes Go.WideShapes Go.RowKit
theorem zF : ("errors.errorType", (DataW.iface "internal/reflectlite.rtype" (.agg [.ptr (.lit (.string [101, 114, 114, 111, 114]))]) : DataW Unit)) ∈ YtnokhmkkpcfilaaGreatDoor.Rows.accrWholeRow.laid.filter fun x => x.2.handleName?.isSome := List.mem_filter.2 ⟨by simp [YtnokhmkkpcfilaaGreatDoor.Rows.accrWholeRow, YtnokhmkkpcfilaaGreatDoor.Rows.laid_errors_errorType], rfl⟩
theorem zG : ("math/bits.deBruijn64tab", (Go.Lib.tabData .u8 (Go.Lib.deBruijn64tab.map Int.ofNat) : DataW Unit)) ∈ YtnokhmkkpcfilaaGreatDoor.Rows.accrWholeRow.laid.filter fun x => x.2.handleName?.isNone := by
 have e : (Go.Lib.tabData .u8 (Go.Lib.deBruijn64tab.map Int.ofNat) : DataW Unit) = YtnokhmkkpcfilaaGreatDoor.Rows.laid_math_bits_deBruijn64tab := by rfl
 rw [e]
 exact List.mem_filter.2 ⟨by simp [YtnokhmkkpcfilaaGreatDoor.Rows.accrWholeRow], rfl⟩
theorem zH : ("internal/strconv.uint64pow10", (Go.Lib.tabData .u64 Go.Lib.pow10Tab : DataW Unit)) ∈ YtnokhmkkpcfilaaGreatDoor.Rows.accrWholeRow.laid.filter fun x => x.2.handleName?.isNone := by
 have e : (Go.Lib.tabData .u64 Go.Lib.pow10Tab : DataW Unit) = YtnokhmkkpcfilaaGreatDoor.Rows.laid_internal_strconv_uint64pow10 := by rfl
 rw [e]
 exact List.mem_filter.2 ⟨by simp [YtnokhmkkpcfilaaGreatDoor.Rows.accrWholeRow], rfl⟩
theorem dV : Tryz.f6.params = #[3, 3] := by kernel_rfl
theorem wG (W : World) (base : Nat) (args : Array Value) (hV : Vars W) (hsz : args.size = Tryz.f6.params.size) (hval : ∀ (j : Nat) t v, Tryz.f6.params[j]? = some t → args[j]? = some v → Value.okWide Tryz.prog W .any base t v) :
  Calls Tryz.prog 6 args W fun e W' => e = .returned (.bool true) ∧ Grew W W' := by
 rw [dV] at hval hsz
 obtain ⟨v0, v1, rfl⟩ : ∃ v0 v1, args = #[v0, v1] := by
  obtain ⟨l⟩ := args
  match l, hsz with
  | [v0, v1], _ => exact ⟨v0, v1, rfl⟩
 obtain ⟨n0, rfl, w0⟩ := yw (hval 0 _ v0 rfl rfl)
 obtain ⟨n1, rfl, w1⟩ := yw (hval 1 _ v1 rfl rfl)
 refine (OH (f := iL) hV (here _ _ Tryz.func6 (by kernel_rfl)) (afT Sz n0 n1 (ao7 w1)) (vs := [.int .i64 n0, .int .i64 n1]) (.cons (.int _ _) (.cons (.int _ _) .nil))).mono ?_
 rintro e w' ⟨u, c', rfl, rfl, hF', hg⟩
 have : u = _ := (Rep.bV _ _ hF' : Rep c' (.bool true) u).lu
 subst this
 exact ⟨rfl, hg⟩
theorem DI (os : Os) (started : os.Started) (H : Type) (enc : TypeId × Value → H) :
  ReturnsInHanded {} Tryz.checked os 6 .any (fun w args => (YtnokhmkkpcfilaaGreatDoor.Rows.accrWholeSpec.pre enc Tryz.prog Tryz.f6 [] false w args ∧ laidMetH Tryz.prog YtnokhmkkpcfilaaGreatDoor.Rows.accrWholeRow.laid w) ∧ sizedMet enc Tryz.prog Tryz.f6 (OpenSpec.ofChange YtnokhmkkpcfilaaGreatDoor.Rows.accrWholeSpec) false w args)
   (YtnokhmkkpcfilaaGreatDoor.Rows.accrWholeSpec.post enc Tryz.prog Tryz.f6 false true false false) := by
 refine law_lifted started rfl Tryz.func6 (by kernel_rfl) (by kernel_rfl) ?_ ?_ (fun W hs hl => TA hs hl zF zG zH) ?_ wG
 ·rw [dV]
  intro t ht
  have hall : ([3, 3].all fun t => Tryz.prog.readableRec t && decide (t < Tryz.prog.types.size)) = true := by kernel_rfl
  have h1 := List.all_eq_true.1 hall t ht
  simp only [Bool.and_eq_true, decide_eq_true_eq] at h1
  exact h1
 ·rw [dV]
  intro ds hd
  match ds, hd with
  | [d0, d1], _ => exact ⟨rfl, rfl, rfl⟩
 ·exact ChangeSpec.witness_shaped (enc := enc) (C := Tryz.checked) (os := os) (X := fun w _ => laidMetH Tryz.prog YtnokhmkkpcfilaaGreatDoor.Rows.accrWholeRow.laid w) false (laidWorld YtnokhmkkpcfilaaGreatDoor.Rows.accrWholeRow.laid os)
   #[.int .i64 0, .int .i64 0] 12 (Bz _ _)
   (World.shaped_of_ZipB (by kernel_rfl) (by kernel_rfl)) (by kernel_rfl) (by kernel_rfl) (by kernel_rfl)
   (laidWorld_met _ (by kernel_rfl) (by kernel_rfl) (by kernel_rfl))
end Go.Ev.Code
namespace Go.Proofs.YtnokhmkkpcfilaaGreatDoor
open Go.Ev.Code
noncomputable abbrev PP : Program := Tryz.pinned.checked.prog
theorem aX {a b : Bool} (ha : a = true) (hb : b = true) : (a && b) = true := by rw [ha, hb]; rfl
theorem Ie : (Rows.accrWholeRow.wf (OpenSpec.ofChange Rows.accrWholeSpec)) = true := by kernel_rfl
theorem Ig : (laidOutB PP) = true := by kernel_rfl
theorem Ih : (mapsRowed PP) = true := by kernel_rfl
theorem Ii : (Tryz.f6.params.all (PP.readableRec ·)) = true := by kernel_rfl
theorem Ij : (namedTie PP Rows.accrWholeRow.named Rows.accrWholeSpec.vars) = true := by kernel_rfl
theorem Ik : ((Rows.accrWholeRow.stops == [])) = true := by kernel_rfl
theorem Il : ((PP.stops == [])) = true := by kernel_rfl
theorem Io : ((Rows.accrWholeRow.knobs == [])) = true := by kernel_rfl
theorem Ip : ((PP.stopKnobs == [])) = true := by kernel_rfl
theorem CY : ((Rows.accrWholeRow.inPlace == PP.inPlace 6)) = true := by kernel_rfl
theorem CZ : ((Rows.accrWholeRow.unfollowed == PP.unfollowed 6)) = true := by kernel_rfl
theorem C9 : ((Rows.accrWholeRow.recurses == PP.recurses 6)) = true := by kernel_rfl
theorem C_ : ((Rows.accrWholeRow.named == PP.varsNamed 6)) = true := by kernel_rfl
theorem Dc : ((Rows.accrWholeRow.maps == (Tryz.f6.params.toList ++ Rows.accrWholeSpec.plain.varTypes PP).any (PP.mapsRec ·))) = true := by kernel_rfl
theorem Df : ((Rows.accrWholeRow.ifaces == (Tryz.f6.params.toList ++ Rows.accrWholeSpec.plain.varTypes PP).any (PP.ifacesRec ·))) = true := by kernel_rfl
theorem Dh : ((Rows.accrWholeRow.mapsOut == PP.mapsAmong Tryz.f6.resultTypes.toList)) = true := by kernel_rfl
theorem Di : ((Rows.accrWholeRow.loops == (Tryz.f6.params.toList ++ Rows.accrWholeSpec.plain.varTypes PP).any (PP.loopsFrom ·))) = true := by kernel_rfl
theorem Dj : ((Rows.accrWholeRow.wideKeys == (Tryz.f6.params.toList ++ Rows.accrWholeSpec.plain.varTypes PP ++ Tryz.f6.resultTypes.toList).any (PP.wideKeysFrom ·))) = true := by kernel_rfl
theorem Dk : (Rows.accrWholeSpec.vars.all (PP.varReadable ·)) = true := by kernel_rfl
theorem Dl : (Tryz.f6.resultTypes.all (fun t => PP.readableRec t && decide (t < PP.types.size))) = true := by kernel_rfl
theorem Dn : ((Rows.accrWholeRow.ifacesOut == Tryz.f6.resultTypes.toList.any (PP.ifacesRec ·))) = true := by kernel_rfl
theorem Dp : ((Rows.accrWholeRow.loopsOut == Tryz.f6.resultTypes.toList.any (PP.loopsFrom ·))) = true := by kernel_rfl
theorem Dq : ((Rows.accrWholeRow.plainKeys == PP.plainKeys)) = true := by kernel_rfl
theorem Dt : (Rows.accrWholeRow.shortTexts.isNone) = true := by kernel_rfl
theorem Du : (PP.stopsHeard) = true := by kernel_rfl
theorem Dv : (PP.mayEnter) = true := by kernel_rfl
theorem Dw : ((Rows.accrWholeRow.lifted == PP.liftsFinal)) = true := by kernel_rfl
theorem Dx : ((PP.make == some Rows.accrWholeRow.make)) = true := by kernel_rfl
theorem Dy : ((Rows.accrWholeRow.kinds == (if Rows.accrWholeRow.domain.isEmpty then [] else Tryz.f6.params.toList.map fun t => match PP.underlying t with | some (.int k) => some k | _ => none))) = true := by kernel_rfl
theorem Dz : ((Rows.accrWholeRow.pinned == Rows.accrWholeRow.pinnedBy)) = true := by kernel_rfl
theorem DC : ((Rows.accrWholeRow.veiled == (Tryz.f6.params.toList ++ Rows.accrWholeSpec.plain.varTypes PP ++ Tryz.f6.resultTypes.toList).any (PP.veiledRec ·))) = true := by kernel_rfl
theorem DF : (Rows.accrWholeRow.veiledFits PP Tryz.f6.params.toList (Tryz.f6.params.toList ++ Rows.accrWholeSpec.plain.varTypes PP ++ Tryz.f6.resultTypes.toList)) = true := by kernel_rfl
theorem sN : joinedFacts PP 6 Tryz.f6 Rows.accrWholeSpec Rows.accrWholeRow = true := aX (aX (aX (aX (aX (aX (aX (aX (aX (aX (aX (aX (aX (aX (aX (aX (aX (aX (aX (aX (aX (aX (aX (aX (aX (aX (aX (aX (aX (aX (aX (Ie) Ig) Ih) Ii) Ij) Ik) Il) Io) Ip) CY) CZ) C9) C_) Dc) Df) Dh) Di) Dj) Dk) Dl) Dn) Dp) Dq) Dt) Du) Dv) Dw) Dx) Dy) Dz) DC) DF
theorem wI : PP.funcNamed Rows.accrWholeRow.func = some 6 := by kernel_rfl
theorem zk : Tryz.f6.isInstance PP Rows.accrWholeRow.origin Rows.accrWholeRow.targs := of_decide_eq_true (by kernel_rfl)
theorem zl : Tryz.f6.isWrapper PP Rows.accrWholeRow.wrapper Rows.accrWholeRow.mainSum := by
 unfold Func.isWrapper; first | (rw [if_neg (of_decide_eq_false (by kernel_rfl))]; exact ⟨rfl, rfl⟩) | (rw [if_neg (by decide +kernel)]; exact ⟨rfl, rfl⟩)
theorem Z8 : Rows.AccrWholeSaid :=
 OpenClaim.holds_of_wide 6 Tryz.f6 rfl rfl rfl rfl rfl rfl rfl ⟨rfl, rfl, rfl, rfl, rfl⟩ rfl rfl rfl rfl rfl wI Tryz.func6 sN
  zk zl (fun os started H enc _ => DI os started H enc)
theorem Iq : Rows.accrWholeRow.wfByText (OpenSpec.ofChange Rows.accrWholeSpec) = true := by kernel_rfl
theorem sO : PP.mainIs = some (Rows.accrWholeCard.stood.harness.1, Rows.accrWholeCard.stood.harness.2.toList) := by kernel_rfl
theorem wH : true = PP.looks [] := by kernel_rfl
theorem zi : false = Rows.accrWholeRow.goesBy PP := by kernel_rfl
theorem zh : PP.funcNamed "rentier/rentierlaw13.AccrWhole" = some 6 := by kernel_rfl
theorem wJ : ([3, 3].all fun u => !Tryz.prog.wantsStandIn u) = true := by kernel_rfl
theorem accrWhole_card : Rows.AccrWholeCardSaid :=
 Claim7.holds_tied_plain_at .later [] [.data, .data, .data, .data, .handle, .sentinel, .sentinel, .pinned] true Rows.accrWholeCard.stood.harness true Z8 (fun _ h => by cases h) Iq (fun _ h => by cases h) accrWhole_row_tie rfl ⟨rfl, rfl⟩ sO rfl
  (fun f fn hf hfn => by
   obtain rfl : f = 6 := Option.some.inj (zh.symm.trans hf) |>.symm
   obtain rfl : fn = Tryz.f6 := (Option.some.inj (Tryz.func6.symm.trans hfn)).symm
   exact ⟨wH, fun j t ht => by
    rw [dV] at ht
    have hm : t ∈ [3, 3] := by simpa using Array.mem_of_getElem? ht
    exact (show Tryz.prog.wantsStandIn t = false by simpa using List.all_eq_true.1 wJ t hm)⟩)
  zi
#print axioms accrWhole_card
end Go.Proofs.YtnokhmkkpcfilaaGreatDoor
