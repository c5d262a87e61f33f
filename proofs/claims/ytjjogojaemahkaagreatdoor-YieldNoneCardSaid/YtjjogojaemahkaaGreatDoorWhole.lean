/- A part of the proof of the theorem yieldNone_card. -/
import Derived.Test.YtjjogojaemahkaaGreatDoorChks
import Derived.Test.YtjjogojaemahkaaGreatDoorPrimsF
import Derived.Test.YtjjogojaemahkaaGreatDoorTab
section
set_option linter.unusedVariables false
namespace Go.Ev.Code
open Go Go.Ev Go.Proofs
def AllOk : List (Nat × EF) → Prop
  | [] => True
  | p :: r => chkFn Tryz.prog p.1 p.2 = true ∧ AllOk r
theorem AllOk.mem : ∀ {l : List (Nat × EF)}, AllOk l → ∀ p ∈ l, chkFn Tryz.prog p.1 p.2 = true
  | [], _, p, h => by simp at h
  | q :: r, ⟨h1, h2⟩, p, h => by
    rcases List.mem_cons.1 h with rfl | h
    · exact h1
    · exact h2.mem p h
theorem fns_ok : AllOk fnTab :=
  ⟨k_rentierlaw13_YieldNone, k_plan_Of, k_flow_Of, k_accr_Of, k_price_Dirty, k_yield_Of, k_risk_Duration, k_rentierlaw13_begun, k_rentierlaw13_same, k_bond_Check, k_bond_Months, k_bond_Coupon, k_rat_Rat_Sign, k_plan_At, k_bond_Redeem, k_rat_Get, k_rat_Rat_Sub, k_rat_Rat_Add, k_rentierlaw13_Five, k_month_End, k_month_Last, k_month_Between, k_plan_Regular, k_flow_Part, k_rat_Of, k_rat_Rat_Cmp, k_flow_Pay, k_rat_Rat_Mul, k_accr_Ex, k_flow_Left, k_rat_Rat_Text, k_plan_anchors, k_slices_Reverse_int, k_fault_New, k_flow_regular, k_accr_period, k_accr_gone, k_price_amounts, k_fault_Of, k_price_Wait, k_num_Of, k_num_Int_Mul, k_num_Int_Add, k_price_summed, k_rat_Rat_Den, k_rat_Rat_Num, k_num_Int_Sign, k_rat_New, k_dec_Get, k_yield_Near, k_risk_summed, k_risk_amounts, k_risk_of, k_rentierlaw6_Begun, k_bond_days, k_bond_sums, k_count_May, k_bond_of, k_bond_value, k_slices_IndexFunc_api_Period, k_plan_At_1, k_num_Get, k_nat_Get, k_nat_Nat_Zero, k_num_New, k_num_Int_Neg, k_num_Int_Cmp, k_rat_sure, k_date_Of, k_date_Length, k_date_Civil, k_plan_Quasi, k_flow_quasis, k_count_Part, k_num_Int_Text, k_plan_anchor, k_price_life, k_rat_Rat_Div, k_price_one, k_nat_Of, k_num_Int_Abs, k_nat_Nat_Mul, k_nat_Nat_Add, k_nat_Nat_Cmp, k_nat_Nat_Sub, k_price_common, k_nat_Nat_Gcd, k_nat_Nat_Div, k_dec_ten, k_price_Clean, k_num_Int_Div, k_rentierlaw6_begun, k_date_Weekday, k_month_Add, k_nat_Nat_limbs, k_num_Int_Sub, k_date_before, k_date_Leap, k_date_is, k_plan_place, k_count_Part_1, k_count_Days, k_nat_Nat_Text, k_nat_made, k_nat_compare, k_nat_common, k_nat_short, k_nat_long, k_nat_Nat_Pow, k_easter_Sunday, k_cal_New, k_roll_Day, k_rentierlaw6_count30, k_rentierlaw2_Begun, k_date_Text, k_cal_Cal_Open, k_holi_Is, k_slices_Reverse_string, k_nat_twos, k_nat_odd, k_nat_bit, k_nat_less, k_bits_Div64, k_nat_left, k_nat_guess, k_nat_takes, k_nat_gives, k_slices_ContainsFunc_api_Rule, k_cal_New_1, k_holi_May, k_slices_ContainsFunc_int, k_cal_New_2, k_holi_Day, k_roll_toward, k_roll_stays, k_rentierlaw2_begun, k_date_padded, k_slices_IndexFunc_api_Rule, k_holi_within, k_slices_IndexFunc_int, k_holi_nth, k_holi_shifted, k_dec_Round, k_dec_Units, k_rentierlaw1_Begun, k_nat_Nat_Root, k_dec_mode, k_dec_placed, k_dec_whole, k_num_Int_Small, k_rentierlaw1_begun, k_nat_Nat_width, k_nat_Nat_Small, k_fault_Wrap, k_fault_Where, k_errors_Is, k_errors_Unwrap, k_errors_is, k_fault_Fault_Is, k_fault_Fault_Unwrap, k_fault_plain_Error, trivial⟩
end Go.Ev.Code
end
section
set_option linter.unusedVariables false
namespace Go.Ev.Code
set_option maxRecDepth 100000
open Go Go.Ev Go.Proofs
structure Vars (w : World) : Prop where
  type : ErrAs.TypeVar w
  max : MaxVar w
  bits : TabB w
  pow : Go.Lib.TabIs Tryz.prog w "internal/strconv.uint64pow10" .u64 Go.Lib.pow10Tab
theorem TT_ok {w : World} (h : Vars w) : TabOk Tryz.prog w TT := by
  refine ⟨mixed_ok, fun f ef hf => ?_, fun f _ args m r m' hp => ?_⟩
  · have hf' : lookF fnTab f = some ef := hf
    have hm := lookF_mem hf'
    exact AllOk.mem fns_ok (f, ef) hm
  · change viaTab libTab f args m = some (r, m') at hp
    unfold viaTab at hp
    split at hp <;> try (simp at hp; done)
    rename_i p hl
    have hm := lookF_mem hl
    simp only [libTab, List.mem_cons, Prod.mk.injEq, List.not_mem_nil, or_false] at hm
    rcases hm with ⟨rfl, rfl⟩ | ⟨rfl, rfl⟩ | ⟨rfl, rfl⟩ | ⟨rfl, rfl⟩ | ⟨rfl, rfl⟩ | ⟨rfl, rfl⟩ | ⟨rfl, rfl⟩ | ⟨rfl, rfl⟩ | ⟨rfl, rfl⟩ | ⟨rfl, rfl⟩ | ⟨rfl, rfl⟩ | ⟨rfl, rfl⟩ | ⟨rfl, rfl⟩ | ⟨rfl, rfl⟩ | ⟨rfl, rfl⟩ | ⟨rfl, rfl⟩ | ⟨rfl, rfl⟩ | ⟨rfl, rfl⟩ | ⟨rfl, rfl⟩ | ⟨rfl, rfl⟩
    · exact mul64_ok _ _ _ _ hp
    · exact add64_ok _ _ _ _ hp
    · exact sub64_ok _ _ _ _ hp
    · exact leading_ok _ _ _ _ hp
    · exact trailing_ok h.bits _ _ _ _ hp
    · exact format_ok h.pow _ _ _ _ hp
    · exact itoa_ok h.pow _ _ _ _ hp
    · exact repeat_ok _ _ _ _ hp
    · exact join_ok _ _ _ _ hp
    · exact cut_ok h.max _ _ _ _ hp
    · exact cutPrefix_ok _ _ _ _ hp
    · exact trim_ok _ _ _ _ hp
    · exact trimLeft_ok _ _ _ _ hp
    · exact parse_ok _ _ _ _ hp
    · exact code_prim h.type _ _ _ _ hp
    · exact clone_ok _ _ _ _ hp
    · exact typeOf_prim _ _ _ _ hp
    · exact comparable_prim _ _ _ _ hp
    · exact error_ok h.pow _ _ _ _ hp
    · exact joinC_ok _ _ _ _ hp
theorem limCalls {w : World} (hV : Vars w) {f : Nat} (hfn : FnHere Tryz.prog f) {args : List D} {d : D} (h : L.call f args = some d) {vs : List Value} (hr : FL (whole w).S w args vs) :
    Calls Tryz.prog f vs.toArray w fun e w' => ∃ (v : Value) (c' : Ctx), e = .returned v ∧ c'.w = w' ∧ F c'.S w' d v ∧ Grew w w' := by
  have hex : ∃ n, (TT.orc n).call f args = some d := by
    obtain ⟨⟨r, m⟩, hr'⟩ := pureOf_some (x := L.calla f args []) h
    obtain ⟨n, hn⟩ := lim_calla.1 hr'
    refine ⟨n, ?_⟩
    rw [orc_call, hn]
    have : pureOf (L.calla f args []) = some d := h
    rwa [hr'] at this
  obtain ⟨n, hn⟩ := hex
  exact pure_calls (TT_ok hV) hfn hn hr
end Go.Ev.Code
end
