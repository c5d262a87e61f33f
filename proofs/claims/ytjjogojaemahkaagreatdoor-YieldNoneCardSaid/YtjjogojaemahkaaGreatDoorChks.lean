/- A part of the proof of the theorem yieldNone_card. -/
import Derived.Test.YtjjogojaemahkaaGreatDoorChecked
import Derived.KernelRfl
import Derived.Test.YtjjogojaemahkaaGreatDoorFun
import Derived.Test.YtjjogojaemahkaaGreatDoorCodeA
import Derived.Test.YtjjogojaemahkaaGreatDoorCodeB
section
set_option linter.unusedVariables false
namespace Go.Ev.Code
open Go Go.Ev
set_option maxRecDepth 100000
theorem k_rentierlaw13_YieldNone : chkFn Go.Proofs.Tryz.prog rentierlaw13_YieldNone f_rentierlaw13_YieldNone = true := by kernel_rfl
theorem k_plan_Of : chkFn Go.Proofs.Tryz.prog plan_Of f_plan_Of = true := by kernel_rfl
theorem k_flow_Of : chkFn Go.Proofs.Tryz.prog flow_Of f_flow_Of = true := by kernel_rfl
theorem k_accr_Of : chkFn Go.Proofs.Tryz.prog accr_Of f_accr_Of = true := by kernel_rfl
theorem k_price_Dirty : chkFn Go.Proofs.Tryz.prog price_Dirty f_price_Dirty = true := by kernel_rfl
theorem k_yield_Of : chkFn Go.Proofs.Tryz.prog yield_Of f_yield_Of = true := by kernel_rfl
theorem k_risk_Duration : chkFn Go.Proofs.Tryz.prog risk_Duration f_risk_Duration = true := by kernel_rfl
theorem k_rentierlaw13_begun : chkFn Go.Proofs.Tryz.prog rentierlaw13_begun f_rentierlaw13_begun = true := by kernel_rfl
theorem k_rentierlaw13_same : chkFn Go.Proofs.Tryz.prog rentierlaw13_same f_rentierlaw13_same = true := by kernel_rfl
theorem k_bond_Check : chkFn Go.Proofs.Tryz.prog bond_Check f_bond_Check = true := by kernel_rfl
theorem k_bond_Months : chkFn Go.Proofs.Tryz.prog bond_Months f_bond_Months = true := by kernel_rfl
theorem k_bond_Coupon : chkFn Go.Proofs.Tryz.prog bond_Coupon f_bond_Coupon = true := by kernel_rfl
theorem k_rat_Rat_Sign : chkFn Go.Proofs.Tryz.prog rat_Rat_Sign f_rat_Rat_Sign = true := by kernel_rfl
theorem k_plan_At : chkFn Go.Proofs.Tryz.prog plan_At f_plan_At = true := by kernel_rfl
theorem k_bond_Redeem : chkFn Go.Proofs.Tryz.prog bond_Redeem f_bond_Redeem = true := by kernel_rfl
theorem k_rat_Get : chkFn Go.Proofs.Tryz.prog rat_Get f_rat_Get = true := by kernel_rfl
theorem k_rat_Rat_Sub : chkFn Go.Proofs.Tryz.prog rat_Rat_Sub f_rat_Rat_Sub = true := by kernel_rfl
theorem k_rat_Rat_Add : chkFn Go.Proofs.Tryz.prog rat_Rat_Add f_rat_Rat_Add = true := by kernel_rfl
theorem k_rentierlaw13_Five : chkFn Go.Proofs.Tryz.prog rentierlaw13_Five f_rentierlaw13_Five = true := by kernel_rfl
theorem k_month_End : chkFn Go.Proofs.Tryz.prog month_End f_month_End = true := by kernel_rfl
theorem k_month_Last : chkFn Go.Proofs.Tryz.prog month_Last f_month_Last = true := by kernel_rfl
theorem k_month_Between : chkFn Go.Proofs.Tryz.prog month_Between f_month_Between = true := by kernel_rfl
theorem k_plan_Regular : chkFn Go.Proofs.Tryz.prog plan_Regular f_plan_Regular = true := by kernel_rfl
theorem k_flow_Part : chkFn Go.Proofs.Tryz.prog flow_Part f_flow_Part = true := by kernel_rfl
theorem k_rat_Of : chkFn Go.Proofs.Tryz.prog rat_Of f_rat_Of = true := by kernel_rfl
theorem k_rat_Rat_Cmp : chkFn Go.Proofs.Tryz.prog rat_Rat_Cmp f_rat_Rat_Cmp = true := by kernel_rfl
theorem k_flow_Pay : chkFn Go.Proofs.Tryz.prog flow_Pay f_flow_Pay = true := by kernel_rfl
theorem k_rat_Rat_Mul : chkFn Go.Proofs.Tryz.prog rat_Rat_Mul f_rat_Rat_Mul = true := by kernel_rfl
theorem k_accr_Ex : chkFn Go.Proofs.Tryz.prog accr_Ex f_accr_Ex = true := by kernel_rfl
theorem k_flow_Left : chkFn Go.Proofs.Tryz.prog flow_Left f_flow_Left = true := by kernel_rfl
theorem k_rat_Rat_Text : chkFn Go.Proofs.Tryz.prog rat_Rat_Text f_rat_Rat_Text = true := by kernel_rfl
theorem k_plan_anchors : chkFn Go.Proofs.Tryz.prog plan_anchors f_plan_anchors = true := by kernel_rfl
theorem k_slices_Reverse_int : chkFn Go.Proofs.Tryz.prog slices_Reverse_int f_slices_Reverse_int = true := by kernel_rfl
theorem k_fault_New : chkFn Go.Proofs.Tryz.prog fault_New f_fault_New = true := by kernel_rfl
theorem k_flow_regular : chkFn Go.Proofs.Tryz.prog flow_regular f_flow_regular = true := by kernel_rfl
theorem k_accr_period : chkFn Go.Proofs.Tryz.prog accr_period f_accr_period = true := by kernel_rfl
theorem k_accr_gone : chkFn Go.Proofs.Tryz.prog accr_gone f_accr_gone = true := by kernel_rfl
theorem k_price_amounts : chkFn Go.Proofs.Tryz.prog price_amounts f_price_amounts = true := by kernel_rfl
theorem k_fault_Of : chkFn Go.Proofs.Tryz.prog fault_Of f_fault_Of = true := by kernel_rfl
theorem k_price_Wait : chkFn Go.Proofs.Tryz.prog price_Wait f_price_Wait = true := by kernel_rfl
theorem k_num_Of : chkFn Go.Proofs.Tryz.prog num_Of f_num_Of = true := by kernel_rfl
theorem k_num_Int_Mul : chkFn Go.Proofs.Tryz.prog num_Int_Mul f_num_Int_Mul = true := by kernel_rfl
theorem k_num_Int_Add : chkFn Go.Proofs.Tryz.prog num_Int_Add f_num_Int_Add = true := by kernel_rfl
theorem k_price_summed : chkFn Go.Proofs.Tryz.prog price_summed f_price_summed = true := by kernel_rfl
theorem k_rat_Rat_Den : chkFn Go.Proofs.Tryz.prog rat_Rat_Den f_rat_Rat_Den = true := by kernel_rfl
theorem k_rat_Rat_Num : chkFn Go.Proofs.Tryz.prog rat_Rat_Num f_rat_Rat_Num = true := by kernel_rfl
theorem k_num_Int_Sign : chkFn Go.Proofs.Tryz.prog num_Int_Sign f_num_Int_Sign = true := by kernel_rfl
theorem k_rat_New : chkFn Go.Proofs.Tryz.prog rat_New f_rat_New = true := by kernel_rfl
theorem k_dec_Get : chkFn Go.Proofs.Tryz.prog dec_Get f_dec_Get = true := by kernel_rfl
theorem k_yield_Near : chkFn Go.Proofs.Tryz.prog yield_Near f_yield_Near = true := by kernel_rfl
theorem k_risk_summed : chkFn Go.Proofs.Tryz.prog risk_summed f_risk_summed = true := by kernel_rfl
theorem k_risk_amounts : chkFn Go.Proofs.Tryz.prog risk_amounts f_risk_amounts = true := by kernel_rfl
theorem k_risk_of : chkFn Go.Proofs.Tryz.prog risk_of f_risk_of = true := by kernel_rfl
theorem k_rentierlaw6_Begun : chkFn Go.Proofs.Tryz.prog rentierlaw6_Begun f_rentierlaw6_Begun = true := by kernel_rfl
theorem k_bond_days : chkFn Go.Proofs.Tryz.prog bond_days f_bond_days = true := by kernel_rfl
theorem k_bond_sums : chkFn Go.Proofs.Tryz.prog bond_sums f_bond_sums = true := by kernel_rfl
theorem k_count_May : chkFn Go.Proofs.Tryz.prog count_May f_count_May = true := by kernel_rfl
theorem k_bond_of : chkFn Go.Proofs.Tryz.prog bond_of f_bond_of = true := by kernel_rfl
theorem k_bond_value : chkFn Go.Proofs.Tryz.prog bond_value f_bond_value = true := by kernel_rfl
theorem k_slices_IndexFunc_api_Period : chkFn Go.Proofs.Tryz.prog slices_IndexFunc_api_Period f_slices_IndexFunc_api_Period = true := by kernel_rfl
theorem k_plan_At_1 : chkFn Go.Proofs.Tryz.prog plan_At_1 f_plan_At_1 = true := by kernel_rfl
theorem k_num_Get : chkFn Go.Proofs.Tryz.prog num_Get f_num_Get = true := by kernel_rfl
theorem k_nat_Get : chkFn Go.Proofs.Tryz.prog nat_Get f_nat_Get = true := by kernel_rfl
theorem k_nat_Nat_Zero : chkFn Go.Proofs.Tryz.prog nat_Nat_Zero f_nat_Nat_Zero = true := by kernel_rfl
theorem k_num_New : chkFn Go.Proofs.Tryz.prog num_New f_num_New = true := by kernel_rfl
theorem k_num_Int_Neg : chkFn Go.Proofs.Tryz.prog num_Int_Neg f_num_Int_Neg = true := by kernel_rfl
theorem k_num_Int_Cmp : chkFn Go.Proofs.Tryz.prog num_Int_Cmp f_num_Int_Cmp = true := by kernel_rfl
theorem k_rat_sure : chkFn Go.Proofs.Tryz.prog rat_sure f_rat_sure = true := by kernel_rfl
theorem k_date_Of : chkFn Go.Proofs.Tryz.prog date_Of f_date_Of = true := by kernel_rfl
theorem k_date_Length : chkFn Go.Proofs.Tryz.prog date_Length f_date_Length = true := by kernel_rfl
theorem k_date_Civil : chkFn Go.Proofs.Tryz.prog date_Civil f_date_Civil = true := by kernel_rfl
theorem k_plan_Quasi : chkFn Go.Proofs.Tryz.prog plan_Quasi f_plan_Quasi = true := by kernel_rfl
theorem k_flow_quasis : chkFn Go.Proofs.Tryz.prog flow_quasis f_flow_quasis = true := by kernel_rfl
theorem k_count_Part : chkFn Go.Proofs.Tryz.prog count_Part f_count_Part = true := by kernel_rfl
theorem k_num_Int_Text : chkFn Go.Proofs.Tryz.prog num_Int_Text f_num_Int_Text = true := by kernel_rfl
theorem k_plan_anchor : chkFn Go.Proofs.Tryz.prog plan_anchor f_plan_anchor = true := by kernel_rfl
theorem k_price_life : chkFn Go.Proofs.Tryz.prog price_life f_price_life = true := by kernel_rfl
theorem k_rat_Rat_Div : chkFn Go.Proofs.Tryz.prog rat_Rat_Div f_rat_Rat_Div = true := by kernel_rfl
theorem k_price_one : chkFn Go.Proofs.Tryz.prog price_one f_price_one = true := by kernel_rfl
theorem k_nat_Of : chkFn Go.Proofs.Tryz.prog nat_Of f_nat_Of = true := by kernel_rfl
theorem k_num_Int_Abs : chkFn Go.Proofs.Tryz.prog num_Int_Abs f_num_Int_Abs = true := by kernel_rfl
theorem k_nat_Nat_Mul : chkFn Go.Proofs.Tryz.prog nat_Nat_Mul f_nat_Nat_Mul = true := by kernel_rfl
theorem k_nat_Nat_Add : chkFn Go.Proofs.Tryz.prog nat_Nat_Add f_nat_Nat_Add = true := by kernel_rfl
theorem k_nat_Nat_Cmp : chkFn Go.Proofs.Tryz.prog nat_Nat_Cmp f_nat_Nat_Cmp = true := by kernel_rfl
theorem k_nat_Nat_Sub : chkFn Go.Proofs.Tryz.prog nat_Nat_Sub f_nat_Nat_Sub = true := by kernel_rfl
end Go.Ev.Code
end
section
set_option linter.unusedVariables false
namespace Go.Ev.Code
open Go Go.Ev
set_option maxRecDepth 100000
theorem k_price_common : chkFn Go.Proofs.Tryz.prog price_common f_price_common = true := by kernel_rfl
theorem k_nat_Nat_Gcd : chkFn Go.Proofs.Tryz.prog nat_Nat_Gcd f_nat_Nat_Gcd = true := by kernel_rfl
theorem k_nat_Nat_Div : chkFn Go.Proofs.Tryz.prog nat_Nat_Div f_nat_Nat_Div = true := by kernel_rfl
theorem k_dec_ten : chkFn Go.Proofs.Tryz.prog dec_ten f_dec_ten = true := by kernel_rfl
theorem k_price_Clean : chkFn Go.Proofs.Tryz.prog price_Clean f_price_Clean = true := by kernel_rfl
theorem k_num_Int_Div : chkFn Go.Proofs.Tryz.prog num_Int_Div f_num_Int_Div = true := by kernel_rfl
theorem k_rentierlaw6_begun : chkFn Go.Proofs.Tryz.prog rentierlaw6_begun f_rentierlaw6_begun = true := by kernel_rfl
theorem k_date_Weekday : chkFn Go.Proofs.Tryz.prog date_Weekday f_date_Weekday = true := by kernel_rfl
theorem k_month_Add : chkFn Go.Proofs.Tryz.prog month_Add f_month_Add = true := by kernel_rfl
theorem k_nat_Nat_limbs : chkFn Go.Proofs.Tryz.prog nat_Nat_limbs f_nat_Nat_limbs = true := by kernel_rfl
theorem k_num_Int_Sub : chkFn Go.Proofs.Tryz.prog num_Int_Sub f_num_Int_Sub = true := by kernel_rfl
theorem k_date_before : chkFn Go.Proofs.Tryz.prog date_before f_date_before = true := by kernel_rfl
theorem k_date_Leap : chkFn Go.Proofs.Tryz.prog date_Leap f_date_Leap = true := by kernel_rfl
theorem k_date_is : chkFn Go.Proofs.Tryz.prog date_is f_date_is = true := by kernel_rfl
theorem k_plan_place : chkFn Go.Proofs.Tryz.prog plan_place f_plan_place = true := by kernel_rfl
theorem k_count_Part_1 : chkFn Go.Proofs.Tryz.prog count_Part_1 f_count_Part_1 = true := by kernel_rfl
theorem k_count_Days : chkFn Go.Proofs.Tryz.prog count_Days f_count_Days = true := by kernel_rfl
theorem k_nat_Nat_Text : chkFn Go.Proofs.Tryz.prog nat_Nat_Text f_nat_Nat_Text = true := by kernel_rfl
theorem k_nat_made : chkFn Go.Proofs.Tryz.prog nat_made f_nat_made = true := by kernel_rfl
theorem k_nat_compare : chkFn Go.Proofs.Tryz.prog nat_compare f_nat_compare = true := by kernel_rfl
theorem k_nat_common : chkFn Go.Proofs.Tryz.prog nat_common f_nat_common = true := by kernel_rfl
theorem k_nat_short : chkFn Go.Proofs.Tryz.prog nat_short f_nat_short = true := by kernel_rfl
theorem k_nat_long : chkFn Go.Proofs.Tryz.prog nat_long f_nat_long = true := by kernel_rfl
theorem k_nat_Nat_Pow : chkFn Go.Proofs.Tryz.prog nat_Nat_Pow f_nat_Nat_Pow = true := by kernel_rfl
theorem k_easter_Sunday : chkFn Go.Proofs.Tryz.prog easter_Sunday f_easter_Sunday = true := by kernel_rfl
theorem k_cal_New : chkFn Go.Proofs.Tryz.prog cal_New f_cal_New = true := by kernel_rfl
theorem k_roll_Day : chkFn Go.Proofs.Tryz.prog roll_Day f_roll_Day = true := by kernel_rfl
theorem k_rentierlaw6_count30 : chkFn Go.Proofs.Tryz.prog rentierlaw6_count30 f_rentierlaw6_count30 = true := by kernel_rfl
theorem k_rentierlaw2_Begun : chkFn Go.Proofs.Tryz.prog rentierlaw2_Begun f_rentierlaw2_Begun = true := by kernel_rfl
theorem k_date_Text : chkFn Go.Proofs.Tryz.prog date_Text f_date_Text = true := by kernel_rfl
theorem k_cal_Cal_Open : chkFn Go.Proofs.Tryz.prog cal_Cal_Open f_cal_Cal_Open = true := by kernel_rfl
theorem k_holi_Is : chkFn Go.Proofs.Tryz.prog holi_Is f_holi_Is = true := by kernel_rfl
theorem k_slices_Reverse_string : chkFn Go.Proofs.Tryz.prog slices_Reverse_string f_slices_Reverse_string = true := by kernel_rfl
theorem k_nat_twos : chkFn Go.Proofs.Tryz.prog nat_twos f_nat_twos = true := by kernel_rfl
theorem k_nat_odd : chkFn Go.Proofs.Tryz.prog nat_odd f_nat_odd = true := by kernel_rfl
theorem k_nat_bit : chkFn Go.Proofs.Tryz.prog nat_bit f_nat_bit = true := by kernel_rfl
theorem k_nat_less : chkFn Go.Proofs.Tryz.prog nat_less f_nat_less = true := by kernel_rfl
theorem k_bits_Div64 : chkFn Go.Proofs.Tryz.prog bits_Div64 f_bits_Div64 = true := by kernel_rfl
theorem k_nat_left : chkFn Go.Proofs.Tryz.prog nat_left f_nat_left = true := by kernel_rfl
theorem k_nat_guess : chkFn Go.Proofs.Tryz.prog nat_guess f_nat_guess = true := by kernel_rfl
theorem k_nat_takes : chkFn Go.Proofs.Tryz.prog nat_takes f_nat_takes = true := by kernel_rfl
theorem k_nat_gives : chkFn Go.Proofs.Tryz.prog nat_gives f_nat_gives = true := by kernel_rfl
theorem k_slices_ContainsFunc_api_Rule : chkFn Go.Proofs.Tryz.prog slices_ContainsFunc_api_Rule f_slices_ContainsFunc_api_Rule = true := by kernel_rfl
theorem k_cal_New_1 : chkFn Go.Proofs.Tryz.prog cal_New_1 f_cal_New_1 = true := by kernel_rfl
theorem k_holi_May : chkFn Go.Proofs.Tryz.prog holi_May f_holi_May = true := by kernel_rfl
theorem k_slices_ContainsFunc_int : chkFn Go.Proofs.Tryz.prog slices_ContainsFunc_int f_slices_ContainsFunc_int = true := by kernel_rfl
theorem k_cal_New_2 : chkFn Go.Proofs.Tryz.prog cal_New_2 f_cal_New_2 = true := by kernel_rfl
theorem k_holi_Day : chkFn Go.Proofs.Tryz.prog holi_Day f_holi_Day = true := by kernel_rfl
theorem k_roll_toward : chkFn Go.Proofs.Tryz.prog roll_toward f_roll_toward = true := by kernel_rfl
theorem k_roll_stays : chkFn Go.Proofs.Tryz.prog roll_stays f_roll_stays = true := by kernel_rfl
theorem k_rentierlaw2_begun : chkFn Go.Proofs.Tryz.prog rentierlaw2_begun f_rentierlaw2_begun = true := by kernel_rfl
theorem k_date_padded : chkFn Go.Proofs.Tryz.prog date_padded f_date_padded = true := by kernel_rfl
theorem k_slices_IndexFunc_api_Rule : chkFn Go.Proofs.Tryz.prog slices_IndexFunc_api_Rule f_slices_IndexFunc_api_Rule = true := by kernel_rfl
theorem k_holi_within : chkFn Go.Proofs.Tryz.prog holi_within f_holi_within = true := by kernel_rfl
theorem k_slices_IndexFunc_int : chkFn Go.Proofs.Tryz.prog slices_IndexFunc_int f_slices_IndexFunc_int = true := by kernel_rfl
theorem k_holi_nth : chkFn Go.Proofs.Tryz.prog holi_nth f_holi_nth = true := by kernel_rfl
theorem k_holi_shifted : chkFn Go.Proofs.Tryz.prog holi_shifted f_holi_shifted = true := by kernel_rfl
theorem k_dec_Round : chkFn Go.Proofs.Tryz.prog dec_Round f_dec_Round = true := by kernel_rfl
theorem k_dec_Units : chkFn Go.Proofs.Tryz.prog dec_Units f_dec_Units = true := by kernel_rfl
theorem k_rentierlaw1_Begun : chkFn Go.Proofs.Tryz.prog rentierlaw1_Begun f_rentierlaw1_Begun = true := by kernel_rfl
theorem k_nat_Nat_Root : chkFn Go.Proofs.Tryz.prog nat_Nat_Root f_nat_Nat_Root = true := by kernel_rfl
theorem k_dec_mode : chkFn Go.Proofs.Tryz.prog dec_mode f_dec_mode = true := by kernel_rfl
theorem k_dec_placed : chkFn Go.Proofs.Tryz.prog dec_placed f_dec_placed = true := by kernel_rfl
theorem k_dec_whole : chkFn Go.Proofs.Tryz.prog dec_whole f_dec_whole = true := by kernel_rfl
theorem k_num_Int_Small : chkFn Go.Proofs.Tryz.prog num_Int_Small f_num_Int_Small = true := by kernel_rfl
theorem k_rentierlaw1_begun : chkFn Go.Proofs.Tryz.prog rentierlaw1_begun f_rentierlaw1_begun = true := by kernel_rfl
theorem k_nat_Nat_width : chkFn Go.Proofs.Tryz.prog nat_Nat_width f_nat_Nat_width = true := by kernel_rfl
theorem k_nat_Nat_Small : chkFn Go.Proofs.Tryz.prog nat_Nat_Small f_nat_Nat_Small = true := by kernel_rfl
theorem k_fault_Wrap : chkFn Go.Proofs.Tryz.prog fault_Wrap f_fault_Wrap = true := by kernel_rfl
theorem k_fault_Where : chkFn Go.Proofs.Tryz.prog fault_Where f_fault_Where = true := by kernel_rfl
theorem k_errors_Is : chkFn Go.Proofs.Tryz.prog errors_Is f_errors_Is = true := by kernel_rfl
theorem k_errors_Unwrap : chkFn Go.Proofs.Tryz.prog errors_Unwrap f_errors_Unwrap = true := by kernel_rfl
theorem k_errors_is : chkFn Go.Proofs.Tryz.prog errors_is f_errors_is = true := by kernel_rfl
theorem k_fault_Fault_Is : chkFn Go.Proofs.Tryz.prog fault_Fault_Is f_fault_Fault_Is = true := by kernel_rfl
theorem k_fault_Fault_Unwrap : chkFn Go.Proofs.Tryz.prog fault_Fault_Unwrap f_fault_Fault_Unwrap = true := by kernel_rfl
theorem k_fault_plain_Error : chkFn Go.Proofs.Tryz.prog fault_plain_Error f_fault_plain_Error = true := by kernel_rfl
end Go.Ev.Code
end
