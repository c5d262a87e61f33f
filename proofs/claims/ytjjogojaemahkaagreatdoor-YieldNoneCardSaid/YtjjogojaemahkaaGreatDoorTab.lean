/- A part of the proof of the theorem yieldNone_card. -/
import Derived.KernelRfl
import Derived.Test.YtjjogojaemahkaaGreatDoorCodeA
import Derived.Test.YtjjogojaemahkaaGreatDoorCodeB
import Derived.Test.YtjjogojaemahkaaGreatDoorFlat
section
set_option linter.unusedVariables false
namespace Go.Ev.Code
open Go.Ev
def fnTab : List (Nat × EF) := [(rentierlaw13_YieldNone, f_rentierlaw13_YieldNone),
  (plan_Of, f_plan_Of),
  (flow_Of, f_flow_Of),
  (accr_Of, f_accr_Of),
  (price_Dirty, f_price_Dirty),
  (yield_Of, f_yield_Of),
  (risk_Duration, f_risk_Duration),
  (rentierlaw13_begun, f_rentierlaw13_begun),
  (rentierlaw13_same, f_rentierlaw13_same),
  (bond_Check, f_bond_Check),
  (bond_Months, f_bond_Months),
  (bond_Coupon, f_bond_Coupon),
  (rat_Rat_Sign, f_rat_Rat_Sign),
  (plan_At, f_plan_At),
  (bond_Redeem, f_bond_Redeem),
  (rat_Get, f_rat_Get),
  (rat_Rat_Sub, f_rat_Rat_Sub),
  (rat_Rat_Add, f_rat_Rat_Add),
  (rentierlaw13_Five, f_rentierlaw13_Five),
  (month_End, f_month_End),
  (month_Last, f_month_Last),
  (month_Between, f_month_Between),
  (plan_Regular, f_plan_Regular),
  (flow_Part, f_flow_Part),
  (rat_Of, f_rat_Of),
  (rat_Rat_Cmp, f_rat_Rat_Cmp),
  (flow_Pay, f_flow_Pay),
  (rat_Rat_Mul, f_rat_Rat_Mul),
  (accr_Ex, f_accr_Ex),
  (flow_Left, f_flow_Left),
  (rat_Rat_Text, f_rat_Rat_Text),
  (plan_anchors, f_plan_anchors),
  (slices_Reverse_int, f_slices_Reverse_int),
  (fault_New, f_fault_New),
  (flow_regular, f_flow_regular),
  (accr_period, f_accr_period),
  (accr_gone, f_accr_gone),
  (price_amounts, f_price_amounts),
  (fault_Of, f_fault_Of),
  (price_Wait, f_price_Wait),
  (num_Of, f_num_Of),
  (num_Int_Mul, f_num_Int_Mul),
  (num_Int_Add, f_num_Int_Add),
  (price_summed, f_price_summed),
  (rat_Rat_Den, f_rat_Rat_Den),
  (rat_Rat_Num, f_rat_Rat_Num),
  (num_Int_Sign, f_num_Int_Sign),
  (rat_New, f_rat_New),
  (dec_Get, f_dec_Get),
  (yield_Near, f_yield_Near),
  (risk_summed, f_risk_summed),
  (risk_amounts, f_risk_amounts),
  (risk_of, f_risk_of),
  (rentierlaw6_Begun, f_rentierlaw6_Begun),
  (bond_days, f_bond_days),
  (bond_sums, f_bond_sums),
  (count_May, f_count_May),
  (bond_of, f_bond_of),
  (bond_value, f_bond_value),
  (slices_IndexFunc_api_Period, f_slices_IndexFunc_api_Period),
  (plan_At_1, f_plan_At_1),
  (num_Get, f_num_Get),
  (nat_Get, f_nat_Get),
  (nat_Nat_Zero, f_nat_Nat_Zero),
  (num_New, f_num_New),
  (num_Int_Neg, f_num_Int_Neg),
  (num_Int_Cmp, f_num_Int_Cmp),
  (rat_sure, f_rat_sure),
  (date_Of, f_date_Of),
  (date_Length, f_date_Length),
  (date_Civil, f_date_Civil),
  (plan_Quasi, f_plan_Quasi),
  (flow_quasis, f_flow_quasis),
  (count_Part, f_count_Part),
  (num_Int_Text, f_num_Int_Text),
  (plan_anchor, f_plan_anchor),
  (price_life, f_price_life),
  (rat_Rat_Div, f_rat_Rat_Div),
  (price_one, f_price_one),
  (nat_Of, f_nat_Of),
  (num_Int_Abs, f_num_Int_Abs),
  (nat_Nat_Mul, f_nat_Nat_Mul),
  (nat_Nat_Add, f_nat_Nat_Add),
  (nat_Nat_Cmp, f_nat_Nat_Cmp),
  (nat_Nat_Sub, f_nat_Nat_Sub),
  (price_common, f_price_common),
  (nat_Nat_Gcd, f_nat_Nat_Gcd),
  (nat_Nat_Div, f_nat_Nat_Div),
  (dec_ten, f_dec_ten),
  (price_Clean, f_price_Clean),
  (num_Int_Div, f_num_Int_Div),
  (rentierlaw6_begun, f_rentierlaw6_begun),
  (date_Weekday, f_date_Weekday),
  (month_Add, f_month_Add),
  (nat_Nat_limbs, f_nat_Nat_limbs),
  (num_Int_Sub, f_num_Int_Sub),
  (date_before, f_date_before),
  (date_Leap, f_date_Leap),
  (date_is, f_date_is),
  (plan_place, f_plan_place),
  (count_Part_1, f_count_Part_1),
  (count_Days, f_count_Days),
  (nat_Nat_Text, f_nat_Nat_Text),
  (nat_made, f_nat_made),
  (nat_compare, f_nat_compare),
  (nat_common, f_nat_common),
  (nat_short, f_nat_short),
  (nat_long, f_nat_long),
  (nat_Nat_Pow, f_nat_Nat_Pow),
  (easter_Sunday, f_easter_Sunday),
  (cal_New, f_cal_New),
  (roll_Day, f_roll_Day),
  (rentierlaw6_count30, f_rentierlaw6_count30),
  (rentierlaw2_Begun, f_rentierlaw2_Begun),
  (date_Text, f_date_Text),
  (cal_Cal_Open, f_cal_Cal_Open),
  (holi_Is, f_holi_Is),
  (slices_Reverse_string, f_slices_Reverse_string),
  (nat_twos, f_nat_twos),
  (nat_odd, f_nat_odd),
  (nat_bit, f_nat_bit),
  (nat_less, f_nat_less),
  (bits_Div64, f_bits_Div64),
  (nat_left, f_nat_left),
  (nat_guess, f_nat_guess),
  (nat_takes, f_nat_takes),
  (nat_gives, f_nat_gives),
  (slices_ContainsFunc_api_Rule, f_slices_ContainsFunc_api_Rule),
  (cal_New_1, f_cal_New_1),
  (holi_May, f_holi_May),
  (slices_ContainsFunc_int, f_slices_ContainsFunc_int),
  (cal_New_2, f_cal_New_2),
  (holi_Day, f_holi_Day),
  (roll_toward, f_roll_toward),
  (roll_stays, f_roll_stays),
  (rentierlaw2_begun, f_rentierlaw2_begun),
  (date_padded, f_date_padded),
  (slices_IndexFunc_api_Rule, f_slices_IndexFunc_api_Rule),
  (holi_within, f_holi_within),
  (slices_IndexFunc_int, f_slices_IndexFunc_int),
  (holi_nth, f_holi_nth),
  (holi_shifted, f_holi_shifted),
  (dec_Round, f_dec_Round),
  (dec_Units, f_dec_Units),
  (rentierlaw1_Begun, f_rentierlaw1_Begun),
  (nat_Nat_Root, f_nat_Nat_Root),
  (dec_mode, f_dec_mode),
  (dec_placed, f_dec_placed),
  (dec_whole, f_dec_whole),
  (num_Int_Small, f_num_Int_Small),
  (rentierlaw1_begun, f_rentierlaw1_begun),
  (nat_Nat_width, f_nat_Nat_width),
  (nat_Nat_Small, f_nat_Nat_Small),
  (fault_Wrap, f_fault_Wrap),
  (fault_Where, f_fault_Where),
  (errors_Is, f_errors_Is),
  (errors_Unwrap, f_errors_Unwrap),
  (errors_is, f_errors_is),
  (fault_Fault_Is, f_fault_Fault_Is),
  (fault_Fault_Unwrap, f_fault_Fault_Unwrap),
  (fault_plain_Error, f_fault_plain_Error)]
end Go.Ev.Code
end
section
set_option linter.unusedVariables false
namespace Go.Ev.Code
open Go Go.Ev
def W : Nat := 18446744073709551616
@[simp] abbrev mkU (n : Nat) : D := .int .u64 n
def strip (p : UInt8 → Bool) : List UInt8 → List UInt8
  | [] => []
  | b :: bs => if p b then strip p bs else b :: bs
def cutAt (sep : UInt8) : List UInt8 → List UInt8 → Option (List UInt8 × List UInt8)
  | _, [] => none
  | acc, b :: bs => if b == sep then some (acc.reverse, bs) else cutAt sep (b :: acc) bs
def decDigits : Nat → Nat → List UInt8 → List UInt8
  | 0, _, acc => acc
  | f + 1, n, acc => if n / 10 = 0 then UInt8.ofNat (48 + n % 10) :: acc else decDigits f (n / 10) (UInt8.ofNat (48 + n % 10) :: acc)
def decText (n : Nat) : List UInt8 := decDigits 100 n []
def parseD : Nat → List UInt8 → Option Nat
  | n, [] => some n
  | n, b :: bs => if 48 ≤ b.toNat ∧ b.toNat ≤ 57 then parseD (n * 10 + (b.toNat - 48)) bs else none
def joinB (sep : List UInt8) : List (List UInt8) → List UInt8
  | [] => []
  | [x] => x
  | x :: y :: xs => x ++ sep ++ joinB sep (y :: xs)
def strs : List D → Option (List (List UInt8))
  | [] => some []
  | .str s :: ds => (strs ds).bind fun r => some (s :: r)
  | _ => none
def u64 (n : Int) : Prop := 0 ≤ n ∧ n < 18446744073709551616
instance (n : Int) : Decidable (u64 n) := inferInstanceAs (Decidable (_ ∧ _))
def pMul64 : List D → Mem → RV
  | [.int .u64 x, .int .u64 y], m => if u64 x ∧ u64 y then some (.tup [mkU (x.toNat * y.toNat / W), mkU (x.toNat * y.toNat % W)], m) else none
  | _, _ => none
def pAdd64 : List D → Mem → RV
  | [.int .u64 x, .int .u64 y, .int .u64 c], m => if u64 x ∧ u64 y ∧ 0 ≤ c ∧ c ≤ 1 then some (.tup [mkU ((x.toNat + y.toNat + c.toNat) % W), mkU ((x.toNat + y.toNat + c.toNat) / W)], m) else none
  | _, _ => none
def pSub64 : List D → Mem → RV
  | [.int .u64 x, .int .u64 y, .int .u64 c], m => if u64 x ∧ u64 y ∧ 0 ≤ c ∧ c ≤ 1 then some (.tup [mkU ((x.toNat + W - y.toNat - c.toNat) % W), mkU (if x.toNat < y.toNat + c.toNat then 1 else 0)], m) else none
  | _, _ => none
def width (x : Nat) : Nat := if x = 0 then 0 else x.log2 + 1
def pLeading : List D → Mem → RV
  | [.int .u64 x], m => if u64 x then some (.int .i64 (64 - width x.toNat : Nat), m) else none
  | _, _ => none
def trail : Nat → Nat → Nat
  | 0, _ => 0
  | f + 1, x => if x % 2 = 1 then 0 else trail f (x / 2) + 1
def pTrailing : List D → Mem → RV
  | [.int .u64 x], m => if u64 x then some (.int .i64 (trail 64 x.toNat : Nat), m) else none
  | _, _ => none
def pFormat : List D → Mem → RV
  | [.int .u64 x, .int .i64 10], m => if u64 x then some (.str (decText x.toNat), m) else none
  | _, _ => none
def pItoa : List D → Mem → RV
  | [.int .i64 n], m => if -9223372036854775808 ≤ n ∧ n ≤ 9223372036854775807 then some (.str (if n < 0 then 45 :: decText n.natAbs else decText n.natAbs), m) else none
  | _, _ => none
def pRepeat : List D → Mem → RV
  | [.str s, .int .i64 n], m => if 0 ≤ n ∧ n ≤ 1000000 ∧ s.length ≤ 1000 then some (.str ((List.replicate n.toNat s).flatten), m) else none
  | _, _ => none
def pJoin : List D → Mem → RV
  | [.sl n cs, .str sep], m => (strs cs).bind fun ss => if n = cs.length ∧ n ≤ 4294967296 ∧ (joinB sep ss).length ≤ 1000000 then some (.str (joinB sep ss), m) else none
  | _, _ => none
def pCut : List D → Mem → RV
  | [.str s, .str [sep]], m => if s.length < 4294967281 then (match cutAt sep [] s with
    | some (a, b) => some (.tup [.str a, .str b, .bool true], m)
    | none => some (.tup [.str s, .str [], .bool false], m)) else none
  | _, _ => none
def pCutPrefix : List D → Mem → RV
  | [.str s, .str p], m => if p.isPrefixOf s then some (.tup [.str (s.drop p.length), .bool true], m) else some (.tup [.str s, .bool false], m)
  | _, _ => none
def digitsB : List UInt8 := [48, 49, 50, 51, 52, 53, 54, 55, 56, 57]
def pTrim : List D → Mem → RV
  | [.str s, .str cs], m => if cs = digitsB ∧ s.length ≤ 1000000 then some (.str (strip (fun b => digitsB.contains b) (strip (fun b => digitsB.contains b) s.reverse).reverse), m) else none
  | _, _ => none
def pTrimLeft : List D → Mem → RV
  | [.str s, .str [c]], m => if c.toNat < 128 ∧ s.length ≤ 1000000 then some (.str (strip (fun b => b == c) s), m) else none
  | _, _ => none
def pParse : List D → Mem → RV
  | [.str s, .int .i64 10, .int .i64 64], m => if s ≠ [] ∧ s.length ≤ 18 then (parseD 0 s).bind fun n => some (.tup [mkU n, .nili], m) else none
  | _, _ => none
def pCode : List D → Mem → RV
  | [.nili], m => some (.int .i64 0, m)
  | [.iface t d], m => if t = ty_plain then (match d with
      | .int .i64 n => some (.int .i64 n, m)
      | _ => none)
    else if t = ty_Fault then (match d with
      | .ref (.int .i64 n :: _) 0 => some (.int .i64 n, m)
      | _ => none)
    else none
  | _, _ => none
def pClone : List D → Mem → RV
  | [.sl 0 []], m => some (.sl 0 [], m)
  | [.sl n cs], m => if 0 < n ∧ n = cs.length ∧ n ≤ 4294967296 then some (.lsl m.length 0 n 1, m ++ [.live cs]) else none
  | _, _ => none
def pTypeOf : List D → Mem → RV
  | [.iface t (.int _ _)], m => if t = ty_plain then some (.iface ty_rtype (.agg [.raw hndB t]), m) else none
  | _, _ => none
def pComparable : List D → Mem → RV
  | [.agg [.raw b t]], m => if b = hndB ∧ t = ty_plain then some (.bool true, m) else none
  | _, _ => none
def errAB : D := .ref [.int .i64 4, .str [97], .iface ty_Fault (.ref [.int .i64 4, .str [98], .nili] 0)] 0
def pError : List D → Mem → RV
  | [.ref [.int .i64 4, .str [97], .iface t (.ref [.int .i64 4, .str [98], .nili] 0)] 0], m => if t = ty_Fault then some (.str [97, 58, 32, 98, 58, 32, 101, 114, 114, 111, 114, 32, 52], m) else none
  | _, _ => none
def pJoinC : List D → Mem → RV
  | [.sl 2 [.ref [.mapf ks] 0, .nilp]], m => if ks.length ≤ 1000000 ∧ ks.all (fun k => decide (-9223372036854775808 ≤ k ∧ k ≤ 9223372036854775807)) = true then some (.ref [] 0, m) else none
  | _, _ => none
def libTab : List (Nat × (List D → Mem → RV)) := [(bits_Mul64, pMul64), (bits_Add64, pAdd64), (bits_Sub64, pSub64), (bits_LeadingZeros64, pLeading), (bits_TrailingZeros64, pTrailing),
  (strconv_FormatUint, pFormat), (strconv_Itoa, pItoa), (strings_Repeat, pRepeat), (strings_Join, pJoin), (strings_Cut, pCut), (strings_CutPrefix, pCutPrefix), (strings_Trim, pTrim), (strings_TrimLeft, pTrimLeft),
  (strconv_ParseUint, pParse), (fault_Code, pCode), (slices_Clone_uint64, pClone), (internal_reflectlite_TypeOf, pTypeOf), (internal_reflectlite_rtype_Comparable, pComparable), (fault_Fault_Error, pError), (cal_Join, pJoinC)]
def lookF {α : Type} : List (Nat × α) → Nat → Option α
  | [], _ => none
  | (i, e) :: r, n => bif Nat.beq i n then some e else lookF r n
def viaTab (t : List (Nat × (List D → Mem → RV))) (f : Nat) (args : List D) (m : Mem) : RV := match lookF t f with
  | some p => p args m
  | none => none
end Go.Ev.Code
end
section
set_option linter.unusedVariables false
namespace Go.Ev.Code
open Go Go.Ev
def TT : Tab := ⟨lookF fnTab, viaTab libTab⟩
noncomputable def L : Orc := TT.lim
theorem T_rentierlaw13_YieldNone : TT.fn rentierlaw13_YieldNone = some f_rentierlaw13_YieldNone := by kernel_rfl
theorem T_plan_Of : TT.fn plan_Of = some f_plan_Of := by kernel_rfl
theorem T_flow_Of : TT.fn flow_Of = some f_flow_Of := by kernel_rfl
theorem T_accr_Of : TT.fn accr_Of = some f_accr_Of := by kernel_rfl
theorem T_price_Dirty : TT.fn price_Dirty = some f_price_Dirty := by kernel_rfl
theorem T_yield_Of : TT.fn yield_Of = some f_yield_Of := by kernel_rfl
theorem T_risk_Duration : TT.fn risk_Duration = some f_risk_Duration := by kernel_rfl
theorem T_rentierlaw13_begun : TT.fn rentierlaw13_begun = some f_rentierlaw13_begun := by kernel_rfl
theorem T_rentierlaw13_same : TT.fn rentierlaw13_same = some f_rentierlaw13_same := by kernel_rfl
theorem T_bond_Check : TT.fn bond_Check = some f_bond_Check := by kernel_rfl
theorem T_bond_Months : TT.fn bond_Months = some f_bond_Months := by kernel_rfl
theorem T_bond_Coupon : TT.fn bond_Coupon = some f_bond_Coupon := by kernel_rfl
theorem T_rat_Rat_Sign : TT.fn rat_Rat_Sign = some f_rat_Rat_Sign := by kernel_rfl
theorem T_plan_At : TT.fn plan_At = some f_plan_At := by kernel_rfl
theorem T_bond_Redeem : TT.fn bond_Redeem = some f_bond_Redeem := by kernel_rfl
theorem T_rat_Get : TT.fn rat_Get = some f_rat_Get := by kernel_rfl
theorem T_rat_Rat_Sub : TT.fn rat_Rat_Sub = some f_rat_Rat_Sub := by kernel_rfl
theorem T_rat_Rat_Add : TT.fn rat_Rat_Add = some f_rat_Rat_Add := by kernel_rfl
theorem T_rentierlaw13_Five : TT.fn rentierlaw13_Five = some f_rentierlaw13_Five := by kernel_rfl
theorem T_month_End : TT.fn month_End = some f_month_End := by kernel_rfl
theorem T_month_Last : TT.fn month_Last = some f_month_Last := by kernel_rfl
theorem T_month_Between : TT.fn month_Between = some f_month_Between := by kernel_rfl
theorem T_plan_Regular : TT.fn plan_Regular = some f_plan_Regular := by kernel_rfl
theorem T_flow_Part : TT.fn flow_Part = some f_flow_Part := by kernel_rfl
theorem T_rat_Of : TT.fn rat_Of = some f_rat_Of := by kernel_rfl
theorem T_rat_Rat_Cmp : TT.fn rat_Rat_Cmp = some f_rat_Rat_Cmp := by kernel_rfl
theorem T_flow_Pay : TT.fn flow_Pay = some f_flow_Pay := by kernel_rfl
theorem T_rat_Rat_Mul : TT.fn rat_Rat_Mul = some f_rat_Rat_Mul := by kernel_rfl
theorem T_accr_Ex : TT.fn accr_Ex = some f_accr_Ex := by kernel_rfl
theorem T_flow_Left : TT.fn flow_Left = some f_flow_Left := by kernel_rfl
theorem T_rat_Rat_Text : TT.fn rat_Rat_Text = some f_rat_Rat_Text := by kernel_rfl
theorem T_plan_anchors : TT.fn plan_anchors = some f_plan_anchors := by kernel_rfl
theorem T_slices_Reverse_int : TT.fn slices_Reverse_int = some f_slices_Reverse_int := by kernel_rfl
theorem T_fault_New : TT.fn fault_New = some f_fault_New := by kernel_rfl
theorem T_flow_regular : TT.fn flow_regular = some f_flow_regular := by kernel_rfl
theorem T_accr_period : TT.fn accr_period = some f_accr_period := by kernel_rfl
theorem T_accr_gone : TT.fn accr_gone = some f_accr_gone := by kernel_rfl
theorem T_price_amounts : TT.fn price_amounts = some f_price_amounts := by kernel_rfl
theorem T_fault_Of : TT.fn fault_Of = some f_fault_Of := by kernel_rfl
theorem T_price_Wait : TT.fn price_Wait = some f_price_Wait := by kernel_rfl
theorem T_num_Of : TT.fn num_Of = some f_num_Of := by kernel_rfl
theorem T_num_Int_Mul : TT.fn num_Int_Mul = some f_num_Int_Mul := by kernel_rfl
theorem T_num_Int_Add : TT.fn num_Int_Add = some f_num_Int_Add := by kernel_rfl
theorem T_price_summed : TT.fn price_summed = some f_price_summed := by kernel_rfl
theorem T_rat_Rat_Den : TT.fn rat_Rat_Den = some f_rat_Rat_Den := by kernel_rfl
theorem T_rat_Rat_Num : TT.fn rat_Rat_Num = some f_rat_Rat_Num := by kernel_rfl
theorem T_num_Int_Sign : TT.fn num_Int_Sign = some f_num_Int_Sign := by kernel_rfl
theorem T_rat_New : TT.fn rat_New = some f_rat_New := by kernel_rfl
theorem T_dec_Get : TT.fn dec_Get = some f_dec_Get := by kernel_rfl
theorem T_yield_Near : TT.fn yield_Near = some f_yield_Near := by kernel_rfl
theorem T_risk_summed : TT.fn risk_summed = some f_risk_summed := by kernel_rfl
theorem T_risk_amounts : TT.fn risk_amounts = some f_risk_amounts := by kernel_rfl
theorem T_risk_of : TT.fn risk_of = some f_risk_of := by kernel_rfl
theorem T_rentierlaw6_Begun : TT.fn rentierlaw6_Begun = some f_rentierlaw6_Begun := by kernel_rfl
theorem T_bond_days : TT.fn bond_days = some f_bond_days := by kernel_rfl
theorem T_bond_sums : TT.fn bond_sums = some f_bond_sums := by kernel_rfl
theorem T_count_May : TT.fn count_May = some f_count_May := by kernel_rfl
theorem T_bond_of : TT.fn bond_of = some f_bond_of := by kernel_rfl
theorem T_bond_value : TT.fn bond_value = some f_bond_value := by kernel_rfl
theorem T_slices_IndexFunc_api_Period : TT.fn slices_IndexFunc_api_Period = some f_slices_IndexFunc_api_Period := by kernel_rfl
theorem T_plan_At_1 : TT.fn plan_At_1 = some f_plan_At_1 := by kernel_rfl
theorem T_num_Get : TT.fn num_Get = some f_num_Get := by kernel_rfl
theorem T_nat_Get : TT.fn nat_Get = some f_nat_Get := by kernel_rfl
theorem T_nat_Nat_Zero : TT.fn nat_Nat_Zero = some f_nat_Nat_Zero := by kernel_rfl
theorem T_num_New : TT.fn num_New = some f_num_New := by kernel_rfl
theorem T_num_Int_Neg : TT.fn num_Int_Neg = some f_num_Int_Neg := by kernel_rfl
theorem T_num_Int_Cmp : TT.fn num_Int_Cmp = some f_num_Int_Cmp := by kernel_rfl
theorem T_rat_sure : TT.fn rat_sure = some f_rat_sure := by kernel_rfl
theorem T_date_Of : TT.fn date_Of = some f_date_Of := by kernel_rfl
theorem T_date_Length : TT.fn date_Length = some f_date_Length := by kernel_rfl
theorem T_date_Civil : TT.fn date_Civil = some f_date_Civil := by kernel_rfl
theorem T_plan_Quasi : TT.fn plan_Quasi = some f_plan_Quasi := by kernel_rfl
theorem T_flow_quasis : TT.fn flow_quasis = some f_flow_quasis := by kernel_rfl
theorem T_count_Part : TT.fn count_Part = some f_count_Part := by kernel_rfl
theorem T_num_Int_Text : TT.fn num_Int_Text = some f_num_Int_Text := by kernel_rfl
theorem T_plan_anchor : TT.fn plan_anchor = some f_plan_anchor := by kernel_rfl
theorem T_price_life : TT.fn price_life = some f_price_life := by kernel_rfl
theorem T_rat_Rat_Div : TT.fn rat_Rat_Div = some f_rat_Rat_Div := by kernel_rfl
theorem T_price_one : TT.fn price_one = some f_price_one := by kernel_rfl
theorem T_nat_Of : TT.fn nat_Of = some f_nat_Of := by kernel_rfl
theorem T_num_Int_Abs : TT.fn num_Int_Abs = some f_num_Int_Abs := by kernel_rfl
theorem T_nat_Nat_Mul : TT.fn nat_Nat_Mul = some f_nat_Nat_Mul := by kernel_rfl
theorem T_nat_Nat_Add : TT.fn nat_Nat_Add = some f_nat_Nat_Add := by kernel_rfl
theorem T_nat_Nat_Cmp : TT.fn nat_Nat_Cmp = some f_nat_Nat_Cmp := by kernel_rfl
theorem T_nat_Nat_Sub : TT.fn nat_Nat_Sub = some f_nat_Nat_Sub := by kernel_rfl
theorem T_price_common : TT.fn price_common = some f_price_common := by kernel_rfl
theorem T_nat_Nat_Gcd : TT.fn nat_Nat_Gcd = some f_nat_Nat_Gcd := by kernel_rfl
theorem T_nat_Nat_Div : TT.fn nat_Nat_Div = some f_nat_Nat_Div := by kernel_rfl
theorem T_dec_ten : TT.fn dec_ten = some f_dec_ten := by kernel_rfl
theorem T_price_Clean : TT.fn price_Clean = some f_price_Clean := by kernel_rfl
theorem T_num_Int_Div : TT.fn num_Int_Div = some f_num_Int_Div := by kernel_rfl
theorem T_rentierlaw6_begun : TT.fn rentierlaw6_begun = some f_rentierlaw6_begun := by kernel_rfl
theorem T_date_Weekday : TT.fn date_Weekday = some f_date_Weekday := by kernel_rfl
theorem T_month_Add : TT.fn month_Add = some f_month_Add := by kernel_rfl
theorem T_nat_Nat_limbs : TT.fn nat_Nat_limbs = some f_nat_Nat_limbs := by kernel_rfl
theorem T_num_Int_Sub : TT.fn num_Int_Sub = some f_num_Int_Sub := by kernel_rfl
theorem T_date_before : TT.fn date_before = some f_date_before := by kernel_rfl
theorem T_date_Leap : TT.fn date_Leap = some f_date_Leap := by kernel_rfl
theorem T_date_is : TT.fn date_is = some f_date_is := by kernel_rfl
theorem T_plan_place : TT.fn plan_place = some f_plan_place := by kernel_rfl
theorem T_count_Part_1 : TT.fn count_Part_1 = some f_count_Part_1 := by kernel_rfl
theorem T_count_Days : TT.fn count_Days = some f_count_Days := by kernel_rfl
theorem T_nat_Nat_Text : TT.fn nat_Nat_Text = some f_nat_Nat_Text := by kernel_rfl
theorem T_nat_made : TT.fn nat_made = some f_nat_made := by kernel_rfl
theorem T_nat_compare : TT.fn nat_compare = some f_nat_compare := by kernel_rfl
theorem T_nat_common : TT.fn nat_common = some f_nat_common := by kernel_rfl
theorem T_nat_short : TT.fn nat_short = some f_nat_short := by kernel_rfl
theorem T_nat_long : TT.fn nat_long = some f_nat_long := by kernel_rfl
theorem T_nat_Nat_Pow : TT.fn nat_Nat_Pow = some f_nat_Nat_Pow := by kernel_rfl
theorem T_easter_Sunday : TT.fn easter_Sunday = some f_easter_Sunday := by kernel_rfl
theorem T_cal_New : TT.fn cal_New = some f_cal_New := by kernel_rfl
theorem T_roll_Day : TT.fn roll_Day = some f_roll_Day := by kernel_rfl
theorem T_rentierlaw6_count30 : TT.fn rentierlaw6_count30 = some f_rentierlaw6_count30 := by kernel_rfl
theorem T_rentierlaw2_Begun : TT.fn rentierlaw2_Begun = some f_rentierlaw2_Begun := by kernel_rfl
theorem T_date_Text : TT.fn date_Text = some f_date_Text := by kernel_rfl
theorem T_cal_Cal_Open : TT.fn cal_Cal_Open = some f_cal_Cal_Open := by kernel_rfl
theorem T_holi_Is : TT.fn holi_Is = some f_holi_Is := by kernel_rfl
theorem T_slices_Reverse_string : TT.fn slices_Reverse_string = some f_slices_Reverse_string := by kernel_rfl
theorem T_nat_twos : TT.fn nat_twos = some f_nat_twos := by kernel_rfl
theorem T_nat_odd : TT.fn nat_odd = some f_nat_odd := by kernel_rfl
theorem T_nat_bit : TT.fn nat_bit = some f_nat_bit := by kernel_rfl
theorem T_nat_less : TT.fn nat_less = some f_nat_less := by kernel_rfl
theorem T_bits_Div64 : TT.fn bits_Div64 = some f_bits_Div64 := by kernel_rfl
theorem T_nat_left : TT.fn nat_left = some f_nat_left := by kernel_rfl
theorem T_nat_guess : TT.fn nat_guess = some f_nat_guess := by kernel_rfl
theorem T_nat_takes : TT.fn nat_takes = some f_nat_takes := by kernel_rfl
theorem T_nat_gives : TT.fn nat_gives = some f_nat_gives := by kernel_rfl
theorem T_slices_ContainsFunc_api_Rule : TT.fn slices_ContainsFunc_api_Rule = some f_slices_ContainsFunc_api_Rule := by kernel_rfl
theorem T_cal_New_1 : TT.fn cal_New_1 = some f_cal_New_1 := by kernel_rfl
theorem T_holi_May : TT.fn holi_May = some f_holi_May := by kernel_rfl
theorem T_slices_ContainsFunc_int : TT.fn slices_ContainsFunc_int = some f_slices_ContainsFunc_int := by kernel_rfl
theorem T_cal_New_2 : TT.fn cal_New_2 = some f_cal_New_2 := by kernel_rfl
theorem T_holi_Day : TT.fn holi_Day = some f_holi_Day := by kernel_rfl
theorem T_roll_toward : TT.fn roll_toward = some f_roll_toward := by kernel_rfl
theorem T_roll_stays : TT.fn roll_stays = some f_roll_stays := by kernel_rfl
theorem T_rentierlaw2_begun : TT.fn rentierlaw2_begun = some f_rentierlaw2_begun := by kernel_rfl
theorem T_date_padded : TT.fn date_padded = some f_date_padded := by kernel_rfl
theorem T_slices_IndexFunc_api_Rule : TT.fn slices_IndexFunc_api_Rule = some f_slices_IndexFunc_api_Rule := by kernel_rfl
theorem T_holi_within : TT.fn holi_within = some f_holi_within := by kernel_rfl
theorem T_slices_IndexFunc_int : TT.fn slices_IndexFunc_int = some f_slices_IndexFunc_int := by kernel_rfl
theorem T_holi_nth : TT.fn holi_nth = some f_holi_nth := by kernel_rfl
theorem T_holi_shifted : TT.fn holi_shifted = some f_holi_shifted := by kernel_rfl
theorem T_dec_Round : TT.fn dec_Round = some f_dec_Round := by kernel_rfl
theorem T_dec_Units : TT.fn dec_Units = some f_dec_Units := by kernel_rfl
theorem T_rentierlaw1_Begun : TT.fn rentierlaw1_Begun = some f_rentierlaw1_Begun := by kernel_rfl
theorem T_nat_Nat_Root : TT.fn nat_Nat_Root = some f_nat_Nat_Root := by kernel_rfl
theorem T_dec_mode : TT.fn dec_mode = some f_dec_mode := by kernel_rfl
theorem T_dec_placed : TT.fn dec_placed = some f_dec_placed := by kernel_rfl
theorem T_dec_whole : TT.fn dec_whole = some f_dec_whole := by kernel_rfl
theorem T_num_Int_Small : TT.fn num_Int_Small = some f_num_Int_Small := by kernel_rfl
theorem T_rentierlaw1_begun : TT.fn rentierlaw1_begun = some f_rentierlaw1_begun := by kernel_rfl
theorem T_nat_Nat_width : TT.fn nat_Nat_width = some f_nat_Nat_width := by kernel_rfl
theorem T_nat_Nat_Small : TT.fn nat_Nat_Small = some f_nat_Nat_Small := by kernel_rfl
theorem T_fault_Wrap : TT.fn fault_Wrap = some f_fault_Wrap := by kernel_rfl
theorem T_fault_Where : TT.fn fault_Where = some f_fault_Where := by kernel_rfl
theorem T_errors_Is : TT.fn errors_Is = some f_errors_Is := by kernel_rfl
theorem T_errors_Unwrap : TT.fn errors_Unwrap = some f_errors_Unwrap := by kernel_rfl
theorem T_errors_is : TT.fn errors_is = some f_errors_is := by kernel_rfl
theorem T_fault_Fault_Is : TT.fn fault_Fault_Is = some f_fault_Fault_Is := by kernel_rfl
theorem T_fault_Fault_Unwrap : TT.fn fault_Fault_Unwrap = some f_fault_Fault_Unwrap := by kernel_rfl
theorem T_fault_plain_Error : TT.fn fault_plain_Error = some f_fault_plain_Error := by kernel_rfl
end Go.Ev.Code
end
