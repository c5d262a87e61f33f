/- The law PriceZero holds of the given program for every input, as its card says it. Conditions: those of the row. -/
import Derived.Test.YtnokhmkkpcfilaaGreatDoorTie
import Derived.Test.YtnokhmkkpcfilaaGreatDoorCards
import Derived.Test.YtnokhmkkpcfilaaGreatDoorCFrame
import Derived.Test.YtnokhmkkpcfilaaGreatDoorCWalkPriceZero
import Derived.Test.YtnokhmkkpcfilaaGreatDoorCSpD7
import Derived.Test.YtnokhmkkpcfilaaGreatDoorCBegun13
set_option linter.unusedVariables false
set_option linter.unusedSimpArgs false
set_option maxRecDepth 100000
namespace Go.Ev.Code
open Go Go.Ev Go.Proofs Go.ChangeShapes Go.WideShapes Go.RowKit
theorem zF : ("errors.errorType", (DataW.iface "internal/reflectlite.rtype" (.agg [.ptr (.lit (.string [101, 114, 114, 111, 114]))]) : DataW Unit)) ∈ YtnokhmkkpcfilaaGreatDoor.Rows.priceZeroRow.laid.filter fun x => x.2.handleName?.isSome := List.mem_filter.2 ⟨by simp [YtnokhmkkpcfilaaGreatDoor.Rows.priceZeroRow, YtnokhmkkpcfilaaGreatDoor.Rows.laid_errors_errorType], rfl⟩
theorem zG : ("math/bits.deBruijn64tab", (Go.Lib.tabData .u8 (Go.Lib.deBruijn64tab.map Int.ofNat) : DataW Unit)) ∈ YtnokhmkkpcfilaaGreatDoor.Rows.priceZeroRow.laid.filter fun x => x.2.handleName?.isNone := by
 have e : (Go.Lib.tabData .u8 (Go.Lib.deBruijn64tab.map Int.ofNat) : DataW Unit) = YtnokhmkkpcfilaaGreatDoor.Rows.laid_math_bits_deBruijn64tab := by rfl
 rw [e]
 exact List.mem_filter.2 ⟨by simp [YtnokhmkkpcfilaaGreatDoor.Rows.priceZeroRow], rfl⟩
theorem zH : ("internal/strconv.uint64pow10", (Go.Lib.tabData .u64 Go.Lib.pow10Tab : DataW Unit)) ∈ YtnokhmkkpcfilaaGreatDoor.Rows.priceZeroRow.laid.filter fun x => x.2.handleName?.isNone := by
 have e : (Go.Lib.tabData .u64 Go.Lib.pow10Tab : DataW Unit) = YtnokhmkkpcfilaaGreatDoor.Rows.laid_internal_strconv_uint64pow10 := by rfl
 rw [e]
 exact List.mem_filter.2 ⟨by simp [YtnokhmkkpcfilaaGreatDoor.Rows.priceZeroRow], rfl⟩
theorem dV : Tryz.f7.params = #[3, 3, 3] := by kernel_rfl
theorem wG (W : World) (base : Nat) (args : Array Value) (hV : Vars W) (hsz : args.size = Tryz.f7.params.size) (hval : ∀ (j : Nat) t v, Tryz.f7.params[j]? = some t → args[j]? = some v → Value.okWide Tryz.prog W .any base t v) :
  Calls Tryz.prog 7 args W fun e W' => e = .returned (.bool true) ∧ Grew W W' := by
 rw [dV] at hval hsz
 obtain ⟨v0, v1, v2, rfl⟩ : ∃ v0 v1 v2, args = #[v0, v1, v2] := by
  obtain ⟨l⟩ := args
  match l, hsz with
  | [v0, v1, v2], _ => exact ⟨v0, v1, v2, rfl⟩
 obtain ⟨n0, rfl, w0⟩ := yw (hval 0 _ v0 rfl rfl)
 obtain ⟨n1, rfl, w1⟩ := yw (hval 1 _ v1 rfl rfl)
 obtain ⟨n2, rfl, w2⟩ := yw (hval 2 _ v2 rfl rfl)
 refine (OH (f := iO) hV (here _ _ Tryz.func7 (by kernel_rfl)) (ahe Sz n0 n1 n2 (ao7 w1)) (vs := [.int .i64 n0, .int .i64 n1, .int .i64 n2]) (.cons (.int _ _) (.cons (.int _ _) (.cons (.int _ _) .nil)))).mono ?_
 rintro e w' ⟨u, c', rfl, rfl, hF', hg⟩
 have : u = _ := (Rep.bV _ _ hF' : Rep c' (.bool true) u).lu
 subst this
 exact ⟨rfl, hg⟩
theorem DI (os : Os) (started : os.Started) (H : Type) (enc : TypeId × Value → H) :
  ReturnsInHanded {} Tryz.checked os 7 .any (fun w args => (YtnokhmkkpcfilaaGreatDoor.Rows.priceZeroSpec.pre enc Tryz.prog Tryz.f7 [] false w args ∧ laidMetH Tryz.prog YtnokhmkkpcfilaaGreatDoor.Rows.priceZeroRow.laid w) ∧ sizedMet enc Tryz.prog Tryz.f7 (OpenSpec.ofChange YtnokhmkkpcfilaaGreatDoor.Rows.priceZeroSpec) false w args)
   (YtnokhmkkpcfilaaGreatDoor.Rows.priceZeroSpec.post enc Tryz.prog Tryz.f7 false true false false) := by
 refine law_lifted started rfl Tryz.func7 (by kernel_rfl) (by kernel_rfl) ?_ ?_ (fun W hs hl => TA hs hl zF zG zH) ?_ wG
 ·rw [dV]
  intro t ht
  have hall : ([3, 3, 3].all fun t => Tryz.prog.readableRec t && decide (t < Tryz.prog.types.size)) = true := by kernel_rfl
  have h1 := List.all_eq_true.1 hall t ht
  simp only [Bool.and_eq_true, decide_eq_true_eq] at h1
  exact h1
 ·rw [dV]
  intro ds hd
  match ds, hd with
  | [d0, d1, d2], _ => exact ⟨rfl, rfl, rfl⟩
 ·exact ChangeSpec.witness_shaped (enc := enc) (C := Tryz.checked) (os := os) (X := fun w _ => laidMetH Tryz.prog YtnokhmkkpcfilaaGreatDoor.Rows.priceZeroRow.laid w) false (laidWorld YtnokhmkkpcfilaaGreatDoor.Rows.priceZeroRow.laid os)
   #[.int .i64 0, .int .i64 0, .int .i64 0] 12 (Bz _ _)
   (World.shaped_of_ZipB (by kernel_rfl) (by kernel_rfl)) (by kernel_rfl) (by kernel_rfl) (by kernel_rfl)
   (laidWorld_met _ (by kernel_rfl) (by kernel_rfl) (by kernel_rfl))
end Go.Ev.Code
namespace Go.Proofs.YtnokhmkkpcfilaaGreatDoor
open Go.Ev.Code
noncomputable abbrev PP : Program := Tryz.pinned.checked.prog
theorem aX {a b : Bool} (ha : a = true) (hb : b = true) : (a && b) = true := by rw [ha, hb]; rfl
theorem Ie : (Rows.priceZeroRow.wf (OpenSpec.ofChange Rows.priceZeroSpec)) = true := by kernel_rfl
theorem Ig : (laidOutB PP) = true := by kernel_rfl
theorem Ih : (mapsRowed PP) = true := by kernel_rfl
theorem Ii : (Tryz.f7.params.all (PP.readableRec ·)) = true := by kernel_rfl
theorem Ij : (namedTie PP Rows.priceZeroRow.named Rows.priceZeroSpec.vars) = true := by kernel_rfl
theorem Ik : ((Rows.priceZeroRow.stops == [])) = true := by kernel_rfl
theorem Il : ((PP.stops == [])) = true := by kernel_rfl
theorem Io : ((Rows.priceZeroRow.knobs == [])) = true := by kernel_rfl
theorem Ip : ((PP.stopKnobs == [])) = true := by kernel_rfl
theorem CY : ((Rows.priceZeroRow.inPlace == PP.inPlace 7)) = true := by kernel_rfl
theorem CZ : ((Rows.priceZeroRow.unfollowed == PP.unfollowed 7)) = true := by kernel_rfl
theorem C9 : ((Rows.priceZeroRow.recurses == PP.recurses 7)) = true := by kernel_rfl
theorem C_ : ((Rows.priceZeroRow.named == PP.varsNamed 7)) = true := by kernel_rfl
theorem Dc : ((Rows.priceZeroRow.maps == (Tryz.f7.params.toList ++ Rows.priceZeroSpec.plain.varTypes PP).any (PP.mapsRec ·))) = true := by kernel_rfl
theorem Df : ((Rows.priceZeroRow.ifaces == (Tryz.f7.params.toList ++ Rows.priceZeroSpec.plain.varTypes PP).any (PP.ifacesRec ·))) = true := by kernel_rfl
theorem Dh : ((Rows.priceZeroRow.mapsOut == PP.mapsAmong Tryz.f7.resultTypes.toList)) = true := by kernel_rfl
theorem Di : ((Rows.priceZeroRow.loops == (Tryz.f7.params.toList ++ Rows.priceZeroSpec.plain.varTypes PP).any (PP.loopsFrom ·))) = true := by kernel_rfl
theorem Dj : ((Rows.priceZeroRow.wideKeys == (Tryz.f7.params.toList ++ Rows.priceZeroSpec.plain.varTypes PP ++ Tryz.f7.resultTypes.toList).any (PP.wideKeysFrom ·))) = true := by kernel_rfl
theorem Dk : (Rows.priceZeroSpec.vars.all (PP.varReadable ·)) = true := by kernel_rfl
theorem Dl : (Tryz.f7.resultTypes.all (fun t => PP.readableRec t && decide (t < PP.types.size))) = true := by kernel_rfl
theorem Dn : ((Rows.priceZeroRow.ifacesOut == Tryz.f7.resultTypes.toList.any (PP.ifacesRec ·))) = true := by kernel_rfl
theorem Dp : ((Rows.priceZeroRow.loopsOut == Tryz.f7.resultTypes.toList.any (PP.loopsFrom ·))) = true := by kernel_rfl
theorem Dq : ((Rows.priceZeroRow.plainKeys == PP.plainKeys)) = true := by kernel_rfl
theorem Dt : (Rows.priceZeroRow.shortTexts.isNone) = true := by kernel_rfl
theorem Du : (PP.stopsHeard) = true := by kernel_rfl
theorem Dv : (PP.mayEnter) = true := by kernel_rfl
theorem Dw : ((Rows.priceZeroRow.lifted == PP.liftsFinal)) = true := by kernel_rfl
theorem Dx : ((PP.make == some Rows.priceZeroRow.make)) = true := by kernel_rfl
theorem Dy : ((Rows.priceZeroRow.kinds == (if Rows.priceZeroRow.domain.isEmpty then [] else Tryz.f7.params.toList.map fun t => match PP.underlying t with | some (.int k) => some k | _ => none))) = true := by kernel_rfl
theorem Dz : ((Rows.priceZeroRow.pinned == Rows.priceZeroRow.pinnedBy)) = true := by kernel_rfl
theorem DC : ((Rows.priceZeroRow.veiled == (Tryz.f7.params.toList ++ Rows.priceZeroSpec.plain.varTypes PP ++ Tryz.f7.resultTypes.toList).any (PP.veiledRec ·))) = true := by kernel_rfl
theorem DF : (Rows.priceZeroRow.veiledFits PP Tryz.f7.params.toList (Tryz.f7.params.toList ++ Rows.priceZeroSpec.plain.varTypes PP ++ Tryz.f7.resultTypes.toList)) = true := by kernel_rfl
theorem sN : joinedFacts PP 7 Tryz.f7 Rows.priceZeroSpec Rows.priceZeroRow = true := aX (aX (aX (aX (aX (aX (aX (aX (aX (aX (aX (aX (aX (aX (aX (aX (aX (aX (aX (aX (aX (aX (aX (aX (aX (aX (aX (aX (aX (aX (aX (Ie) Ig) Ih) Ii) Ij) Ik) Il) Io) Ip) CY) CZ) C9) C_) Dc) Df) Dh) Di) Dj) Dk) Dl) Dn) Dp) Dq) Dt) Du) Dv) Dw) Dx) Dy) Dz) DC) DF
theorem wI : PP.funcNamed Rows.priceZeroRow.func = some 7 := by kernel_rfl
theorem zk : Tryz.f7.isInstance PP Rows.priceZeroRow.origin Rows.priceZeroRow.targs := of_decide_eq_true (by kernel_rfl)
theorem zl : Tryz.f7.isWrapper PP Rows.priceZeroRow.wrapper Rows.priceZeroRow.mainSum := by
 unfold Func.isWrapper; first | (rw [if_neg (of_decide_eq_false (by kernel_rfl))]; exact ⟨rfl, rfl⟩) | (rw [if_neg (by decide +kernel)]; exact ⟨rfl, rfl⟩)
theorem aaS : Rows.PriceZeroSaid :=
 OpenClaim.holds_of_wide 7 Tryz.f7 rfl rfl rfl rfl rfl rfl rfl ⟨rfl, rfl, rfl, rfl, rfl⟩ rfl rfl rfl rfl rfl wI Tryz.func7 sN
  zk zl (fun os started H enc _ => DI os started H enc)
theorem Iq : Rows.priceZeroRow.wfByText (OpenSpec.ofChange Rows.priceZeroSpec) = true := by kernel_rfl
theorem sO : PP.mainIs = some (Rows.priceZeroCard.stood.harness.1, Rows.priceZeroCard.stood.harness.2.toList) := by kernel_rfl
theorem wH : true = PP.looks [] := by kernel_rfl
theorem zi : false = Rows.priceZeroRow.goesBy PP := by kernel_rfl
theorem zh : PP.funcNamed "rentier/rentierlaw13.PriceZero" = some 7 := by kernel_rfl
theorem wJ : ([3, 3, 3].all fun u => !Tryz.prog.wantsStandIn u) = true := by kernel_rfl
theorem priceZero_card : Rows.PriceZeroCardSaid :=
 Claim7.holds_tied_plain_at .later [] [.data, .data, .data, .data, .handle, .sentinel, .sentinel, .pinned] true Rows.priceZeroCard.stood.harness true aaS (fun _ h => by cases h) Iq (fun _ h => by cases h) priceZero_row_tie rfl ⟨rfl, rfl⟩ sO rfl
  (fun f fn hf hfn => by
   obtain rfl : f = 7 := Option.some.inj (zh.symm.trans hf) |>.symm
   obtain rfl : fn = Tryz.f7 := (Option.some.inj (Tryz.func7.symm.trans hfn)).symm
   exact ⟨wH, fun j t ht => by
    rw [dV] at ht
    have hm : t ∈ [3, 3, 3] := by simpa using Array.mem_of_getElem? ht
    exact (show Tryz.prog.wantsStandIn t = false by simpa using List.all_eq_true.1 wJ t hm)⟩)
  zi
#print axioms priceZero_card
end Go.Proofs.YtnokhmkkpcfilaaGreatDoor
