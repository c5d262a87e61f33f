/- BondLong holds of the given program for every input: a bond lasts thirty years and not a day more, and has two hundred flows and not one more. Conditions: those of the row. -/
import Derived.Test.YtgppbgfjhkjfcaaGreatDoorTie
import Derived.Test.YtgppbgfjhkjfcaaGreatDoorCards
import Derived.Test.YtgppbgfjhkjfcaaGreatDoorCFrame
import Derived.Test.YtgppbgfjhkjfcaaGreatDoorCWalkBondLong
import Derived.Test.YtgppbgfjhkjfcaaGreatDoorCBegun13
set_option linter.unusedVariables false
set_option linter.unusedSimpArgs false
set_option maxRecDepth 100000
namespace Go.Ev.Code
open Go Go.Ev Go.Proofs Go.ChangeShapes Go.WideShapes Go.RowKit
theorem Wu : ("errors.errorType", (DataW.iface "internal/reflectlite.rtype" (.agg [.ptr (.lit (.string [101, 114, 114, 111, 114]))]) : DataW Unit)) ∈ YtgppbgfjhkjfcaaGreatDoor.Rows.bondLongRow.laid.filter fun x => x.2.handleName?.isSome := List.mem_filter.2 ⟨by simp [YtgppbgfjhkjfcaaGreatDoor.Rows.bondLongRow, YtgppbgfjhkjfcaaGreatDoor.Rows.laid_errors_errorType], rfl⟩
theorem Wv : ("math/bits.deBruijn64tab", (Go.Lib.tabData .u8 (Go.Lib.deBruijn64tab.map Int.ofNat) : DataW Unit)) ∈ YtgppbgfjhkjfcaaGreatDoor.Rows.bondLongRow.laid.filter fun x => x.2.handleName?.isNone := by
 have e : (Go.Lib.tabData .u8 (Go.Lib.deBruijn64tab.map Int.ofNat) : DataW Unit) = YtgppbgfjhkjfcaaGreatDoor.Rows.laid_math_bits_deBruijn64tab := by rfl
 rw [e]
 exact List.mem_filter.2 ⟨by simp [YtgppbgfjhkjfcaaGreatDoor.Rows.bondLongRow], rfl⟩
theorem Wx : ("internal/strconv.uint64pow10", (Go.Lib.tabData .u64 Go.Lib.pow10Tab : DataW Unit)) ∈ YtgppbgfjhkjfcaaGreatDoor.Rows.bondLongRow.laid.filter fun x => x.2.handleName?.isNone := by
 have e : (Go.Lib.tabData .u64 Go.Lib.pow10Tab : DataW Unit) = YtgppbgfjhkjfcaaGreatDoor.Rows.laid_internal_strconv_uint64pow10 := by rfl
 rw [e]
 exact List.mem_filter.2 ⟨by simp [YtgppbgfjhkjfcaaGreatDoor.Rows.bondLongRow], rfl⟩
theorem qw : Tryz.f6.params = #[3, 3, 3] := by kernel_rfl
theorem RS (W : World) (base : Nat) (args : Array Value) (hV : Vars W) (hsz : args.size = Tryz.f6.params.size) (hval : ∀ (j : Nat) t v, Tryz.f6.params[j]? = some t → args[j]? = some v → Value.okWide Tryz.prog W .any base t v) :
  Calls Tryz.prog 6 args W fun e W' => e = .returned (.bool true) ∧ Grew W W' := by
 rw [qw] at hval hsz
 obtain ⟨v0, v1, v2, rfl⟩ : ∃ v0 v1 v2, args = #[v0, v1, v2] := by
  obtain ⟨l⟩ := args
  match l, hsz with
  | [v0, v1, v2], _ => exact ⟨v0, v1, v2, rfl⟩
 obtain ⟨n0, rfl, w0⟩ := N9 (hval 0 _ v0 rfl rfl)
 obtain ⟨n1, rfl, w1⟩ := N9 (hval 1 _ v1 rfl rfl)
 obtain ⟨n2, rfl, w2⟩ := N9 (hval 2 _ v2 rfl rfl)
 refine (adw (f := gX) hV (here _ _ Tryz.func6 (by kernel_rfl)) (aeP afK n0 n1 n2) (vs := [.int .i64 n0, .int .i64 n1, .int .i64 n2]) (.cons (.int _ _) (.cons (.int _ _) (.cons (.int _ _) .nil)))).mono ?_
 rintro e w' ⟨u, c', rfl, rfl, hF', hg⟩
 have : u = _ := (Rep.bI _ _ hF' : Rep c' (.bool true) u).ng
 subst this
 exact ⟨rfl, hg⟩
theorem Zk (os : Os) (started : os.Started) (H : Type) (enc : TypeId × Value → H) :
  ReturnsInHanded {} Tryz.checked os 6 .any (fun w args => (YtgppbgfjhkjfcaaGreatDoor.Rows.bondLongSpec.pre enc Tryz.prog Tryz.f6 [] false w args ∧ laidMetH Tryz.prog YtgppbgfjhkjfcaaGreatDoor.Rows.bondLongRow.laid w) ∧ sizedMet enc Tryz.prog Tryz.f6 (OpenSpec.ofChange YtgppbgfjhkjfcaaGreatDoor.Rows.bondLongSpec) false w args)
   (YtgppbgfjhkjfcaaGreatDoor.Rows.bondLongSpec.post enc Tryz.prog Tryz.f6 false true false false) := by
 refine law_lifted started rfl Tryz.func6 (by kernel_rfl) (by kernel_rfl) ?_ ?_ (fun W hs hl => agl hs hl Wu Wv Wx) ?_ RS
 ·rw [qw]
  intro t ht
  have hall : ([3, 3, 3].all fun t => Tryz.prog.readableRec t && decide (t < Tryz.prog.types.size)) = true := by kernel_rfl
  have h1 := List.all_eq_true.1 hall t ht
  simp only [Bool.and_eq_true, decide_eq_true_eq] at h1
  exact h1
 ·rw [qw]
  intro ds hd
  match ds, hd with
  | [d0, d1, d2], _ => exact ⟨rfl, rfl, rfl⟩
 ·exact ChangeSpec.witness_shaped (enc := enc) (C := Tryz.checked) (os := os) (X := fun w _ => laidMetH Tryz.prog YtgppbgfjhkjfcaaGreatDoor.Rows.bondLongRow.laid w) false (laidWorld YtgppbgfjhkjfcaaGreatDoor.Rows.bondLongRow.laid os)
   #[.int .i64 0, .int .i64 0, .int .i64 0] 12 (RP _ _)
   (World.shaped_of_ZipB (by kernel_rfl) (by kernel_rfl)) (by kernel_rfl) (by kernel_rfl) (by kernel_rfl)
   (laidWorld_met _ (by kernel_rfl) (by kernel_rfl) (by kernel_rfl))
end Go.Ev.Code
namespace Go.Proofs.YtgppbgfjhkjfcaaGreatDoor
open Go.Ev.Code
noncomputable abbrev PP : Program := Tryz.pinned.checked.prog
theorem dB {a b : Bool} (ha : a = true) (hb : b = true) : (a && b) = true := by rw [ha, hb]; rfl
theorem adb : (Rows.bondLongRow.wf (OpenSpec.ofChange Rows.bondLongSpec)) = true := by kernel_rfl
theorem ade : (laidOutB PP) = true := by kernel_rfl
theorem adf : (mapsRowed PP) = true := by kernel_rfl
theorem adg : (Tryz.f6.params.all (PP.readableRec ·)) = true := by kernel_rfl
theorem adh : (namedTie PP Rows.bondLongRow.named Rows.bondLongSpec.vars) = true := by kernel_rfl
theorem adi : ((Rows.bondLongRow.stops == [])) = true := by kernel_rfl
theorem adk : ((PP.stops == [])) = true := by kernel_rfl
theorem adl : ((Rows.bondLongRow.knobs == [])) = true := by kernel_rfl
theorem adn : ((PP.stopKnobs == [])) = true := by kernel_rfl
theorem YX : ((Rows.bondLongRow.inPlace == PP.inPlace 6)) = true := by kernel_rfl
theorem YZ : ((Rows.bondLongRow.unfollowed == PP.unfollowed 6)) = true := by kernel_rfl
theorem Y0 : ((Rows.bondLongRow.recurses == PP.recurses 6)) = true := by kernel_rfl
theorem Y1 : ((Rows.bondLongRow.named == PP.varsNamed 6)) = true := by kernel_rfl
theorem Y2 : ((Rows.bondLongRow.maps == (Tryz.f6.params.toList ++ Rows.bondLongSpec.plain.varTypes PP).any (PP.mapsRec ·))) = true := by kernel_rfl
theorem Y3 : ((Rows.bondLongRow.ifaces == (Tryz.f6.params.toList ++ Rows.bondLongSpec.plain.varTypes PP).any (PP.ifacesRec ·))) = true := by kernel_rfl
theorem Y4 : ((Rows.bondLongRow.mapsOut == PP.mapsAmong Tryz.f6.resultTypes.toList)) = true := by kernel_rfl
theorem Y5 : ((Rows.bondLongRow.loops == (Tryz.f6.params.toList ++ Rows.bondLongSpec.plain.varTypes PP).any (PP.loopsFrom ·))) = true := by kernel_rfl
theorem Y6 : ((Rows.bondLongRow.wideKeys == (Tryz.f6.params.toList ++ Rows.bondLongSpec.plain.varTypes PP ++ Tryz.f6.resultTypes.toList).any (PP.wideKeysFrom ·))) = true := by kernel_rfl
theorem Y7 : (Rows.bondLongSpec.vars.all (PP.varReadable ·)) = true := by kernel_rfl
theorem Y8 : (Tryz.f6.resultTypes.all (fun t => PP.readableRec t && decide (t < PP.types.size))) = true := by kernel_rfl
theorem Y9 : ((Rows.bondLongRow.ifacesOut == Tryz.f6.resultTypes.toList.any (PP.ifacesRec ·))) = true := by kernel_rfl
theorem Y_ : ((Rows.bondLongRow.loopsOut == Tryz.f6.resultTypes.toList.any (PP.loopsFrom ·))) = true := by kernel_rfl
theorem Za : ((Rows.bondLongRow.plainKeys == PP.plainKeys)) = true := by kernel_rfl
theorem Zb : (Rows.bondLongRow.shortTexts.isNone) = true := by kernel_rfl
theorem Zc : (PP.stopsHeard) = true := by kernel_rfl
theorem Zd : (PP.mayEnter) = true := by kernel_rfl
theorem Ze : ((Rows.bondLongRow.lifted == PP.liftsFinal)) = true := by kernel_rfl
theorem Zf : ((PP.make == some Rows.bondLongRow.make)) = true := by kernel_rfl
theorem Zg : ((Rows.bondLongRow.kinds == (if Rows.bondLongRow.domain.isEmpty then [] else Tryz.f6.params.toList.map fun t => match PP.underlying t with | some (.int k) => some k | _ => none))) = true := by kernel_rfl
theorem Zh : ((Rows.bondLongRow.pinned == Rows.bondLongRow.pinnedBy)) = true := by kernel_rfl
theorem Zi : ((Rows.bondLongRow.veiled == (Tryz.f6.params.toList ++ Rows.bondLongSpec.plain.varTypes PP ++ Tryz.f6.resultTypes.toList).any (PP.veiledRec ·))) = true := by kernel_rfl
theorem Zj : (Rows.bondLongRow.veiledFits PP Tryz.f6.params.toList (Tryz.f6.params.toList ++ Rows.bondLongSpec.plain.varTypes PP ++ Tryz.f6.resultTypes.toList)) = true := by kernel_rfl
theorem O3 : joinedFacts PP 6 Tryz.f6 Rows.bondLongSpec Rows.bondLongRow = true := dB (dB (dB (dB (dB (dB (dB (dB (dB (dB (dB (dB (dB (dB (dB (dB (dB (dB (dB (dB (dB (dB (dB (dB (dB (dB (dB (dB (dB (dB (dB (adb) ade) adf) adg) adh) adi) adk) adl) adn) YX) YZ) Y0) Y1) Y2) Y3) Y4) Y5) Y6) Y7) Y8) Y9) Y_) Za) Zb) Zc) Zd) Ze) Zf) Zg) Zh) Zi) Zj
theorem RX : PP.funcNamed Rows.bondLongRow.func = some 6 := by kernel_rfl
theorem VZ : Tryz.f6.isInstance PP Rows.bondLongRow.origin Rows.bondLongRow.targs := of_decide_eq_true (by kernel_rfl)
theorem V4 : Tryz.f6.isWrapper PP Rows.bondLongRow.wrapper Rows.bondLongRow.mainSum := by
 unfold Func.isWrapper; first | (rw [if_neg (of_decide_eq_false (by kernel_rfl))]; exact ⟨rfl, rfl⟩) | (rw [if_neg (by decide +kernel)]; exact ⟨rfl, rfl⟩)
theorem YF : Rows.BondLongSaid :=
 OpenClaim.holds_of_wide 6 Tryz.f6 rfl rfl rfl rfl rfl rfl rfl ⟨rfl, rfl, rfl, rfl, rfl⟩ rfl rfl rfl rfl rfl RX Tryz.func6 O3
  VZ V4 (fun os started H enc _ => Zk os started H enc)
theorem ado : Rows.bondLongRow.wfByText (OpenSpec.ofChange Rows.bondLongSpec) = true := by kernel_rfl
theorem O4 : PP.mainIs = some (Rows.bondLongCard.stood.harness.1, Rows.bondLongCard.stood.harness.2.toList) := by kernel_rfl
theorem RU : true = PP.looks [] := by kernel_rfl
theorem VY : false = Rows.bondLongRow.goesBy PP := by kernel_rfl
theorem VX : PP.funcNamed "rentier/rentierlaw13.BondLong" = some 6 := by kernel_rfl
theorem RY : ([3, 3, 3].all fun u => !Tryz.prog.wantsStandIn u) = true := by kernel_rfl
theorem bondLong_card : Rows.BondLongCardSaid :=
 Claim7.holds_tied_plain_at .later [] [.data, .data, .data, .data, .handle, .sentinel, .sentinel, .pinned] true Rows.bondLongCard.stood.harness true YF (fun _ h => by cases h) ado (fun _ h => by cases h) bondLong_row_tie rfl ⟨rfl, rfl⟩ O4 rfl
  (fun f fn hf hfn => by
   obtain rfl : f = 6 := Option.some.inj (VX.symm.trans hf) |>.symm
   obtain rfl : fn = Tryz.f6 := (Option.some.inj (Tryz.func6.symm.trans hfn)).symm
   exact ⟨RU, fun j t ht => by
    rw [qw] at ht
    have hm : t ∈ [3, 3, 3] := by simpa using Array.mem_of_getElem? ht
    exact (show Tryz.prog.wantsStandIn t = false by simpa using List.all_eq_true.1 RY t hm)⟩)
  VY
#print axioms bondLong_card
end Go.Proofs.YtgppbgfjhkjfcaaGreatDoor
