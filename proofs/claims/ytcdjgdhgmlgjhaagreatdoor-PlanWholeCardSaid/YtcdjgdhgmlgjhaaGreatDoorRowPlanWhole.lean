/- A part of the proof of the theorem planWhole_card. -/
import Derived.Test.YtcdjgdhgmlgjhaaGreatDoorTie
import Derived.Test.YtcdjgdhgmlgjhaaGreatDoorCards
import Derived.Test.YtcdjgdhgmlgjhaaGreatDoorFrame
import Derived.Test.YtcdjgdhgmlgjhaaGreatDoorSpD2
import Derived.Test.YtcdjgdhgmlgjhaaGreatDoorBegun13
set_option linter.unusedVariables false
set_option linter.unusedSimpArgs false
set_option maxRecDepth 100000
namespace Go.Ev.Code
open Go Go.Ev Go.Proofs Go.ChangeShapes Go.WideShapes Go.RowKit
theorem cell_int {W : World} {b0 : Nat} {t : TypeId} {k : IntKind} {v : Value} (ht : Tryz.prog.underlying t = some (.int k)) (h : Cell.okWide Tryz.prog W .any b0 t v) : ∃ n, v = .int k n := by
  unfold Cell.okWide at h
  rw [ht] at h
  unfold Cell.ok at h
  rw [ht] at h
  cases v <;> simp_all
theorem cell_bool {W : World} {b0 : Nat} {t : TypeId} {v : Value} (ht : Tryz.prog.underlying t = some .bool) (h : Cell.okWide Tryz.prog W .any b0 t v) : ∃ b, v = .bool b := by
  unfold Cell.okWide at h
  rw [ht] at h
  unfold Cell.ok at h
  rw [ht] at h
  cases v <;> simp_all
theorem cell_string {W : World} {b0 : Nat} {t : TypeId} {v : Value} (ht : Tryz.prog.underlying t = some .string) (h : Cell.okWide Tryz.prog W .any b0 t v) : ∃ s, v = .string s := by
  unfold Cell.okWide at h
  rw [ht] at h
  unfold Cell.ok at h
  rw [ht] at h
  cases v <;> simp_all
theorem bond_arg {W : World} {b0 : Nat} {v : Value} (h : Value.okWide Tryz.prog W .any b0 23 v) : ∃ b : Bond, F (whole W).S W (bondD b) v := by
  have h0 : ∃ cs, v = .agg cs ∧ cs.size = Tryz.prog.cellsOf 23 ∧ Row.okWide Tryz.prog W .any b0 23 cs := by
    unfold Value.okWide at h
    have hu : (match Tryz.prog.underlying 23 with | some (.struct _) => true | _ => false) = true := by kernel_rfl
    generalize Tryz.prog.underlying 23 = u at h hu
    split at hu
    · exact h
    · cases hu
  obtain ⟨cs, rfl, hsz, ts, hts, _, hall⟩ := h0
  have hts' : Tryz.prog.cellTypes Tryz.prog.depth 23 = some [3, 3, 3, 9, 9, 3, 3, 4, 3] := by kernel_rfl
  obtain rfl := Option.some.inj (hts'.symm.trans hts)
  have hc : Tryz.prog.cellsOf 23 = 9 := by kernel_rfl
  rw [hc] at hsz
  have hi : Tryz.prog.underlying 3 = some (.int .i64) := by kernel_rfl
  have hs : Tryz.prog.underlying 9 = some .string := by kernel_rfl
  have hb : Tryz.prog.underlying 4 = some .bool := by kernel_rfl
  have at_ : ∀ i, (hi : i < 9) → cs[i]? = some (cs[i]'(by omega)) := fun i hi => by simp [hsz, hi]
  have cell : ∀ i u, (hi : i < 9) → ([3, 3, 3, 9, 9, 3, 3, 4, 3] : List TypeId)[i]? = some u → Cell.okWide Tryz.prog W .any b0 u (cs[i]'(by omega)) := fun i u hi hu => by
    obtain ⟨u', hu', hok⟩ := hall i _ (at_ i hi)
    have e : i % 9 = i := Nat.mod_eq_of_lt hi
    simp only [List.length_cons, List.length_nil] at hu'
    rw [e, hu] at hu'
    cases hu'
    exact hok
  obtain ⟨n0, h0⟩ := cell_int hi (cell 0 _ (by decide) rfl)
  obtain ⟨n1, h1⟩ := cell_int hi (cell 1 _ (by decide) rfl)
  obtain ⟨n2, h2⟩ := cell_int hi (cell 2 _ (by decide) rfl)
  obtain ⟨n3, h3⟩ := cell_string hs (cell 3 _ (by decide) rfl)
  obtain ⟨n4, h4⟩ := cell_string hs (cell 4 _ (by decide) rfl)
  obtain ⟨n5, h5⟩ := cell_int hi (cell 5 _ (by decide) rfl)
  obtain ⟨n6, h6⟩ := cell_int hi (cell 6 _ (by decide) rfl)
  obtain ⟨n7, h7⟩ := cell_bool hb (cell 7 _ (by decide) rfl)
  obtain ⟨n8, h8⟩ := cell_int hi (cell 8 _ (by decide) rfl)
  have hv : ∀ i v, (hi : i < 9) → cs[i]'(by omega) = v → cs[i]? = some v := fun i v hi h => by rw [at_ i hi, h]
  refine ⟨⟨n0, n1, n2, n3.data.toList, n4.data.toList, n5, n6, n7, n8⟩, .agg _ _ (fun j => cs.getD j (.pointer none)) (by simp [bondC, hsz]) (fun j hj => ?_) (fun j d hd => ?_)⟩
  · simp only [bondC, List.length_cons, List.length_nil] at hj
    have hg : cs[j]? = some (cs.getD j (.pointer none)) := by rw [at_ j hj]; simp [Array.getD, hsz, hj]
    refine ⟨hg, ?_⟩
    have : j = 0 ∨ j = 1 ∨ j = 2 ∨ j = 3 ∨ j = 4 ∨ j = 5 ∨ j = 6 ∨ j = 7 ∨ j = 8 := by omega
    rcases this with rfl | rfl | rfl | rfl | rfl | rfl | rfl | rfl | rfl <;> simp [Array.getD, hsz, h0, h1, h2, h3, h4, h5, h6, h7, h8, Value.oneCell']
  · have hj : j < 9 := by
      have := (List.getElem?_eq_some_iff.1 hd).1
      simpa [bondC] using this
    have : j = 0 ∨ j = 1 ∨ j = 2 ∨ j = 3 ∨ j = 4 ∨ j = 5 ∨ j = 6 ∨ j = 7 ∨ j = 8 := by omega
    rcases this with rfl | rfl | rfl | rfl | rfl | rfl | rfl | rfl | rfl <;> simp [bondC] at hd <;> subst hd <;> simp [Array.getD, hsz, h0, h1, h2, h3, h4, h5, h6, h7, h8] <;> first | exact .int _ _ | exact .bool _ | exact .str _
theorem rowLaid1 : ("errors.errorType", (DataW.iface "internal/reflectlite.rtype" (.agg [.ptr (.lit (.string [101, 114, 114, 111, 114]))]) : DataW Unit)) ∈ YtcdjgdhgmlgjhaaGreatDoor.Rows.planWholeRow.laid.filter fun x => x.2.handleName?.isSome := List.mem_filter.2 ⟨by simp [YtcdjgdhgmlgjhaaGreatDoor.Rows.planWholeRow, YtcdjgdhgmlgjhaaGreatDoor.Rows.laid_errors_errorType], rfl⟩
theorem rowLaid2 : ("math/bits.deBruijn64tab", (Go.Lib.tabData .u8 (Go.Lib.deBruijn64tab.map Int.ofNat) : DataW Unit)) ∈ YtcdjgdhgmlgjhaaGreatDoor.Rows.planWholeRow.laid.filter fun x => x.2.handleName?.isNone := by
  have e : (Go.Lib.tabData .u8 (Go.Lib.deBruijn64tab.map Int.ofNat) : DataW Unit) = YtcdjgdhgmlgjhaaGreatDoor.Rows.laid_math_bits_deBruijn64tab := by rfl
  rw [e]
  exact List.mem_filter.2 ⟨by simp [YtcdjgdhgmlgjhaaGreatDoor.Rows.planWholeRow], rfl⟩
theorem rowLaid3 : ("internal/strconv.uint64pow10", (Go.Lib.tabData .u64 Go.Lib.pow10Tab : DataW Unit)) ∈ YtcdjgdhgmlgjhaaGreatDoor.Rows.planWholeRow.laid.filter fun x => x.2.handleName?.isNone := by
  have e : (Go.Lib.tabData .u64 Go.Lib.pow10Tab : DataW Unit) = YtcdjgdhgmlgjhaaGreatDoor.Rows.laid_internal_strconv_uint64pow10 := by rfl
  rw [e]
  exact List.mem_filter.2 ⟨by simp [YtcdjgdhgmlgjhaaGreatDoor.Rows.planWholeRow], rfl⟩
theorem planWhole_calls (W : World) (base : Nat) (args : Array Value) (hV : Vars W) (hsz : args.size = Tryz.f3.params.size) (hval : ∀ (j : Nat) t v, Tryz.f3.params[j]? = some t → args[j]? = some v → Value.okWide Tryz.prog W .any base t v) :
    Calls Tryz.prog 3 args W fun e W' => e = .returned (.bool true) ∧ Grew W W' := by
  have hp : Tryz.f3.params = #[23] := by kernel_rfl
  rw [hp] at hval hsz
  obtain ⟨v, rfl⟩ : ∃ v, args = #[v] := by
    obtain ⟨l⟩ := args
    match l, hsz with
    | [v], _ => exact ⟨v, rfl⟩
  obtain ⟨b, hF⟩ := bond_arg (hval 0 _ v rfl rfl)
  refine (limCalls (f := rentierlaw13_PlanWhole) hV (here _ _ Tryz.func3 (by kernel_rfl)) (planWhole_ok begun13 b) (vs := [v]) (.cons hF .nil)).mono ?_
  rintro e w' ⟨u, c', rfl, rfl, hF', hg⟩
  have : u = _ := (Rep.fro _ _ hF' : Rep c' (.bool true) u).bool_inv
  subst this
  exact ⟨rfl, hg⟩
theorem planWhole_lifted (os : Os) (started : os.Started) (H : Type) (enc : TypeId × Value → H) :
    ReturnsInHanded {} Tryz.checked os 3 .any (fun w args => (YtcdjgdhgmlgjhaaGreatDoor.Rows.planWholeSpec.pre enc Tryz.prog Tryz.f3 [] false w args ∧ laidMetH Tryz.prog YtcdjgdhgmlgjhaaGreatDoor.Rows.planWholeRow.laid w) ∧ sizedMet enc Tryz.prog Tryz.f3 (OpenSpec.ofChange YtcdjgdhgmlgjhaaGreatDoor.Rows.planWholeSpec) false w args)
      (YtcdjgdhgmlgjhaaGreatDoor.Rows.planWholeSpec.post enc Tryz.prog Tryz.f3 false true false false) := by
  refine law_lifted started rfl Tryz.func3 (by kernel_rfl) (by kernel_rfl) ?_ ?_ (fun W hs hl => vars_of hs hl rowLaid1 rowLaid2 rowLaid3) ?_ planWhole_calls
  · have hp : Tryz.f3.params.toList = [23] := by kernel_rfl
    rw [hp]
    intro t ht
    obtain rfl := List.mem_singleton.1 ht
    exact ⟨by kernel_rfl, of_decide_eq_true (by kernel_rfl)⟩
  · have hp : Tryz.f3.params.size = 1 := by kernel_rfl
    rw [hp]
    intro ds hd
    match ds, hd with
    | [d], _ => exact ⟨rfl, rfl, rfl⟩
  · exact ChangeSpec.witness_shaped (enc := enc) (C := Tryz.checked) (os := os) (X := fun w _ => laidMetH Tryz.prog YtcdjgdhgmlgjhaaGreatDoor.Rows.planWholeRow.laid w) false (laidWorld YtcdjgdhgmlgjhaaGreatDoor.Rows.planWholeRow.laid os)
      #[.agg #[.int .i64 0, .int .i64 0, .int .i64 0, .string ⟨#[]⟩, .string ⟨#[]⟩, .int .i64 0, .int .i64 0, .bool false, .int .i64 0]] 12 (laidWorld_os _ _)
      (World.shaped_of_ZipB (by kernel_rfl) (by kernel_rfl)) (by kernel_rfl) (by kernel_rfl) (by kernel_rfl)
      (laidWorld_met _ (by kernel_rfl) (by kernel_rfl) (by kernel_rfl))
end Go.Ev.Code
namespace Go.Proofs.YtcdjgdhgmlgjhaaGreatDoor
open Go.Ev.Code
theorem planWhole_holds : Rows.PlanWholeSaid :=
  OpenClaim.holds_of_wide 3 Tryz.f3 rfl rfl rfl rfl rfl rfl rfl ⟨rfl, rfl, rfl, rfl, rfl⟩ rfl rfl rfl rfl rfl (by kernel_rfl) Tryz.func3 (by kernel_rfl)
    (of_decide_eq_true (by kernel_rfl)) (by unfold Func.isWrapper; first | (rw [if_pos (by decide +kernel)]; kernel_rfl) | (rw [if_neg (by decide +kernel)]; exact ⟨rfl, rfl⟩))
    (fun os started H enc _ => planWhole_lifted os started H enc)
theorem planWhole_card : Rows.PlanWholeCardSaid :=
  Claim7.holds_tied_plain_at .later [] [.data, .data, .data, .data, .handle, .sentinel, .sentinel, .pinned] true _ true planWhole_holds (fun _ h => by cases h) (by kernel_rfl) (fun _ h => by cases h) planWhole_row_tie rfl ⟨rfl, rfl⟩ (by kernel_rfl) rfl
    (fun f fn hf hfn => by
      obtain rfl : f = 3 := Option.some.inj ((show Tryz.prog.funcNamed "rentier/rentierlaw13.PlanWhole" = some 3 by kernel_rfl).symm.trans hf) |>.symm
      obtain rfl : fn = Tryz.f3 := (Option.some.inj (Tryz.func3.symm.trans hfn)).symm
      exact ⟨by kernel_rfl, fun j t ht => by
        have hp : Tryz.f3.params = #[23] := by kernel_rfl
        rw [hp] at ht
        have hm : t ∈ [23] := by simpa using Array.mem_of_getElem? ht
        have hall : ([23].all fun u => !Tryz.prog.wantsStandIn u) = true := by kernel_rfl
        exact (show Tryz.prog.wantsStandIn t = false by simpa using List.all_eq_true.1 hall t hm)⟩)
    (by kernel_rfl)
#print axioms planWhole_card
end Go.Proofs.YtcdjgdhgmlgjhaaGreatDoor
