/- A part of the proof of the theorem yieldNone_card. -/
import Derived.Test.YtjjogojaemahkaaGreatDoorDef
section
set_option linter.unusedVariables false
namespace Go.Ev.Code
open Go.Ev
def rentierlaw13_YieldNone : Nat := 3
def plan_Of : Nat := 15
def flow_Of : Nat := 16
def accr_Of : Nat := 17
def price_Dirty : Nat := 18
def yield_Of : Nat := 19
def risk_Duration : Nat := 20
def rentierlaw13_begun : Nat := 21
def rentierlaw13_same : Nat := 22
def bond_Check : Nat := 23
def bond_Months : Nat := 24
def bond_Coupon : Nat := 25
def rat_Rat_Sign : Nat := 26
def plan_At : Nat := 27
def bond_Redeem : Nat := 29
def rat_Get : Nat := 30
def rat_Rat_Sub : Nat := 31
def rat_Rat_Add : Nat := 32
def rentierlaw13_Five : Nat := 33
def month_End : Nat := 37
def month_Last : Nat := 38
def month_Between : Nat := 39
def plan_Regular : Nat := 40
def flow_Part : Nat := 41
def rat_Of : Nat := 42
def rat_Rat_Cmp : Nat := 43
def flow_Pay : Nat := 44
def rat_Rat_Mul : Nat := 45
def accr_Ex : Nat := 46
def flow_Left : Nat := 47
def rat_Rat_Text : Nat := 53
def plan_anchors : Nat := 57
def slices_Reverse_int : Nat := 58
def fault_New : Nat := 59
def flow_regular : Nat := 60
def accr_period : Nat := 61
def accr_gone : Nat := 62
def price_amounts : Nat := 63
def fault_Of : Nat := 64
def price_Wait : Nat := 65
def num_Of : Nat := 66
def num_Int_Mul : Nat := 67
def num_Int_Add : Nat := 68
def price_summed : Nat := 69
def rat_Rat_Den : Nat := 70
def rat_Rat_Num : Nat := 71
def num_Int_Sign : Nat := 72
def rat_New : Nat := 73
def dec_Get : Nat := 74
def yield_Near : Nat := 75
def risk_summed : Nat := 76
def risk_amounts : Nat := 77
def risk_of : Nat := 78
def rentierlaw6_Begun : Nat := 79
def fault_Code : Nat := 80
def bond_days : Nat := 81
def bond_sums : Nat := 82
def count_May : Nat := 83
def bond_of : Nat := 84
def bond_value : Nat := 85
def slices_IndexFunc_api_Period : Nat := 86
def plan_At_1 : Nat := 87
def strings_Cut : Nat := 89
def num_Get : Nat := 90
def nat_Get : Nat := 91
def nat_Nat_Zero : Nat := 92
def num_New : Nat := 93
def num_Int_Neg : Nat := 94
def num_Int_Cmp : Nat := 95
def rat_sure : Nat := 96
def date_Of : Nat := 105
def date_Length : Nat := 106
def date_Civil : Nat := 107
def plan_Quasi : Nat := 108
def flow_quasis : Nat := 109
def count_Part : Nat := 110
def num_Int_Text : Nat := 124
def plan_anchor : Nat := 125
def price_life : Nat := 126
def rat_Rat_Div : Nat := 127
def price_one : Nat := 128
def nat_Of : Nat := 129
def num_Int_Abs : Nat := 130
def nat_Nat_Mul : Nat := 131
def nat_Nat_Add : Nat := 132
def nat_Nat_Cmp : Nat := 133
def nat_Nat_Sub : Nat := 134
def price_common : Nat := 135
def nat_Nat_Gcd : Nat := 136
def nat_Nat_Div : Nat := 137
def strings_CutPrefix : Nat := 138
def strings_Trim : Nat := 139
def strings_TrimLeft : Nat := 140
def dec_ten : Nat := 141
def price_Clean : Nat := 142
def num_Int_Div : Nat := 143
def rentierlaw6_begun : Nat := 144
def date_Weekday : Nat := 146
def month_Add : Nat := 147
def strconv_ParseUint : Nat := 149
def nat_Nat_limbs : Nat := 150
def num_Int_Sub : Nat := 151
def date_before : Nat := 156
def date_Leap : Nat := 157
def date_is : Nat := 158
def plan_place : Nat := 159
def count_Part_1 : Nat := 160
def count_Days : Nat := 161
def nat_Nat_Text : Nat := 174
def nat_made : Nat := 175
def bits_Mul64 : Nat := 176
def bits_Add64 : Nat := 177
def nat_compare : Nat := 178
def bits_Sub64 : Nat := 179
def nat_common : Nat := 180
def nat_short : Nat := 181
def nat_long : Nat := 182
def nat_Nat_Pow : Nat := 191
def easter_Sunday : Nat := 192
def cal_New : Nat := 193
def roll_Day : Nat := 194
def rentierlaw6_count30 : Nat := 195
def rentierlaw2_Begun : Nat := 196
def date_Text : Nat := 197
def cal_Cal_Open : Nat := 198
def holi_Is : Nat := 199
def cal_Join : Nat := 200
def slices_Clone_uint64 : Nat := 215
def strconv_FormatUint : Nat := 216
def strings_Repeat : Nat := 217
def slices_Reverse_string : Nat := 218
def strings_Join : Nat := 219
def nat_twos : Nat := 220
def nat_odd : Nat := 221
def nat_bit : Nat := 222
def nat_less : Nat := 223
def bits_Div64 : Nat := 224
def bits_LeadingZeros64 : Nat := 225
def nat_left : Nat := 226
def nat_guess : Nat := 227
def nat_takes : Nat := 228
def nat_gives : Nat := 229
def slices_ContainsFunc_api_Rule : Nat := 235
def cal_New_1 : Nat := 236
def holi_May : Nat := 237
def slices_ContainsFunc_int : Nat := 238
def cal_New_2 : Nat := 239
def holi_Day : Nat := 240
def roll_toward : Nat := 241
def roll_stays : Nat := 242
def rentierlaw2_begun : Nat := 243
def date_padded : Nat := 244
def internal_reflectlite_TypeOf : Nat := 245
def bits_TrailingZeros64 : Nat := 266
def slices_IndexFunc_api_Rule : Nat := 271
def holi_within : Nat := 272
def slices_IndexFunc_int : Nat := 273
def holi_nth : Nat := 274
def holi_shifted : Nat := 275
def dec_Round : Nat := 276
def dec_Units : Nat := 277
def rentierlaw1_Begun : Nat := 278
def nat_Nat_Root : Nat := 279
def strconv_Itoa : Nat := 280
def dec_mode : Nat := 294
def dec_placed : Nat := 295
def dec_whole : Nat := 296
def num_Int_Small : Nat := 297
def rentierlaw1_begun : Nat := 298
def nat_Nat_width : Nat := 299
def nat_Nat_Small : Nat := 307
def fault_Wrap : Nat := 308
def fault_Where : Nat := 309
def errors_Is : Nat := 310
def errors_Unwrap : Nat := 313
def errors_is : Nat := 314
def fault_Fault_Error : Nat := 333
def fault_Fault_Is : Nat := 334
def fault_Fault_Unwrap : Nat := 335
def fault_plain_Error : Nat := 336
def internal_reflectlite_rtype_Comparable : Nat := 343
def ty_Fault : Nat := 163
def ty_plain : Nat := 168
def ty_rtype : Nat := 286
def hndB : Nat := 16
end Go.Ev.Code
end
section
set_option linter.unusedVariables false
namespace Go.Ev.Code
open Go.Ev
def f_rentierlaw13_YieldNone : EF := ⟨[], [.tmp 0], (.seq (.region 0 [.C 0 (.bool false)])
 (.seq (.region 0 [.o 14 (.build [.int .i64 0, .int .i64 0, .int .i64 0, .str [], .str [], .int .i64 0, .int .i64 0, .bool false, .int .i64 0] []) [],
 .o 15 (.callc plan_Of) [.t 14],
 .M 13 15,
 .o 16 (.ext 0) [.t 13],
 .o 17 (.ext 1) [.t 13],
 .M 1 16,
 .M 2 17])
 (.seq (.region 0 [.o 19 (.build [.int .i64 0, .int .i64 0, .int .i64 0, .str [], .str [], .int .i64 0, .int .i64 0, .bool false, .int .i64 0] []) [],
 .o 20 (.callc flow_Of) [.t 19],
 .M 18 20,
 .o 21 (.ext 0) [.t 18],
 .o 22 (.ext 1) [.t 18],
 .M 3 21,
 .M 4 22])
 (.seq (.region 0 [.o 24 (.build [.int .i64 0, .int .i64 0, .int .i64 0, .str [], .str [], .int .i64 0, .int .i64 0, .bool false, .int .i64 0] []) [],
 .o 25 (.callc accr_Of) [.t 24, .k (.int .i64 0)],
 .M 23 25,
 .o 26 (.ext 0) [.t 23],
 .o 27 (.ext 1) [.t 23],
 .M 5 26,
 .M 6 27])
 (.seq (.region 0 [.o 29 (.build [.int .i64 0, .int .i64 0, .int .i64 0, .str [], .str [], .int .i64 0, .int .i64 0, .bool false, .int .i64 0] []) [],
 .o 30 (.callc price_Dirty) [.t 29, .k (.int .i64 0), .k (.int .i64 0)],
 .M 28 30,
 .o 31 (.ext 0) [.t 28],
 .o 32 (.ext 1) [.t 28],
 .M 7 31,
 .M 8 32])
 (.seq (.region 0 [.o 34 (.build [.int .i64 0, .int .i64 0, .int .i64 0, .str [], .str [], .int .i64 0, .int .i64 0, .bool false, .int .i64 0] []) [],
 .o 35 (.callc yield_Of) [.t 34, .k (.int .i64 0), .k (.str [120])],
 .M 33 35,
 .o 36 (.ext 0) [.t 33],
 .o 37 (.ext 1) [.t 33],
 .M 9 36,
 .M 10 37])
 (.seq (.region 0 [.o 39 (.build [.int .i64 0, .int .i64 0, .int .i64 0, .str [], .str [], .int .i64 0, .int .i64 0, .bool false, .int .i64 0] []) [],
 .o 40 (.callc risk_Duration) [.t 39, .k (.int .i64 0), .k (.int .i64 0)],
 .M 38 40,
 .o 41 (.ext 0) [.t 38],
 .o 42 (.ext 1) [.t 38],
 .M 11 41,
 .M 12 42])
 (.seq (.region 0 [.o 43 (.callc rentierlaw13_begun) [],
 .M 44 43,
 .g 44 true 45 (.mov) [.t 1],
 .g 44 true 46 (.lenL) [.t 45],
 .g 44 true 47 (.mov) [.t 3],
 .g 44 true 48 (.lenL) [.t 47],
 .g 44 true 49 (.binI .add) [.t 46, .t 48],
 .g 44 true 50 (.binI .eql) [.t 49, .k (.int .i64 0)],
 .o 51 .pick [.t 44, .t 50, .k (.bool false)],
 .M 52 51,
 .g 52 true 53 (.build [.int .i64 0, .int .i64 0, .int .i64 0, .str [], .str [], .int .i64 0, .int .i64 0, .bool false, .int .i64 0] []) [],
 .g 52 true 54 (.callc bond_Check) [.t 53],
 .g 52 true 55 (.callc rentierlaw13_same) [.t 54, .k (.int .i64 5)],
 .o 56 .pick [.t 52, .t 55, .k (.bool false)],
 .M 57 56,
 .g 57 true 58 (.mov) [.t 2],
 .g 57 true 59 (.callc rentierlaw13_same) [.t 58, .k (.int .i64 5)],
 .o 60 .pick [.t 57, .t 59, .k (.bool false)],
 .M 61 60,
 .g 61 true 62 (.mov) [.t 4],
 .g 61 true 63 (.callc rentierlaw13_same) [.t 62, .k (.int .i64 5)],
 .o 64 .pick [.t 61, .t 63, .k (.bool false)],
 .M 65 64,
 .g 65 true 66 (.mov) [.t 5],
 .g 65 true 67 (.eqP false) [.t 66, .k (.nilp)],
 .o 68 .pick [.t 65, .t 67, .k (.bool false)],
 .M 69 68,
 .g 69 true 70 (.mov) [.t 6],
 .g 69 true 71 (.callc rentierlaw13_same) [.t 70, .k (.int .i64 5)],
 .o 72 .pick [.t 69, .t 71, .k (.bool false)],
 .M 73 72,
 .g 73 true 74 (.mov) [.t 7],
 .g 73 true 75 (.eqP false) [.t 74, .k (.nilp)],
 .o 76 .pick [.t 73, .t 75, .k (.bool false)],
 .M 77 76,
 .g 77 true 78 (.mov) [.t 8],
 .g 77 true 79 (.callc rentierlaw13_same) [.t 78, .k (.int .i64 5)],
 .o 80 .pick [.t 77, .t 79, .k (.bool false)],
 .M 81 80,
 .g 81 true 82 (.mov) [.t 9],
 .g 81 true 83 (.binI .eql) [.t 82, .k (.int .i64 0)],
 .o 84 .pick [.t 81, .t 83, .k (.bool false)],
 .M 85 84,
 .g 85 true 86 (.mov) [.t 10],
 .g 85 true 87 (.callc rentierlaw13_same) [.t 86, .k (.int .i64 1)],
 .o 88 .pick [.t 85, .t 87, .k (.bool false)],
 .M 89 88,
 .g 89 true 90 (.mov) [.t 11],
 .g 89 true 91 (.eqP false) [.t 90, .k (.nilp)],
 .o 92 .pick [.t 89, .t 91, .k (.bool false)],
 .M 93 92,
 .g 93 true 94 (.mov) [.t 12],
 .g 93 true 95 (.callc rentierlaw13_same) [.t 94, .k (.int .i64 5)],
 .o 96 .pick [.t 93, .t 95, .k (.bool false)],
 .M 97 96,
 .g 97 true 98 (.build [.int .i64 0, .int .i64 0, .int .i64 0, .str [], .str [], .int .i64 0, .int .i64 0, .bool false, .int .i64 0] []) [],
 .g 97 true 99 (.callc bond_Months) [.t 98],
 .g 97 true 100 (.binI .eql) [.t 99, .k (.int .i64 0)],
 .o 101 .pick [.t 97, .t 100, .k (.bool false)],
 .M 102 101,
 .g 102 true 103 (.build [.int .i64 0, .int .i64 0, .int .i64 0, .str [], .str [], .int .i64 0, .int .i64 0, .bool false, .int .i64 0] []) [],
 .g 102 true 104 (.callc bond_Coupon) [.t 103],
 .g 102 true 105 (.callc rat_Rat_Sign) [.t 104],
 .g 102 true 106 (.binI .eql) [.t 105, .k (.int .i64 0)],
 .o 107 .pick [.t 102, .t 106, .k (.bool false)],
 .M 108 107,
 .g 108 true 109 (.callc plan_At) [.k (.sl 0 []), .k (.int .i64 0)],
 .g 108 true 110 (.binI .eql) [.t 109, .k (.int .i64 (-1))],
 .o 111 .pick [.t 108, .t 110, .k (.bool false)],
 .M 0 111])
 .ret))))))))⟩
def plan_Of_b1 : EC := (.seq (.region 0 [.o 30 (.binI .lss) [.t 29, .t 28]])
 (.seq (.cond (.t 30) .skip
 (.exit 0))
 (.seq (.block 1 (.seq (.region 0 [.o 31 (.iadr 1) [.t 27, .t 29],
 .o 32 .load1 [.t 31],
 .M 11 32])
 (.seq (.region 1 [.M 33 8,
 .M 34 9,
 .M 35 11,
 .o 36 (.build [.int .i64 0, .int .i64 0] [(0, 1), (1, 1)]) [.t 34, .t 35],
 .o 37 (.bsl 2 1 [.int .i64 0, .int .i64 0] [(0, 2)]) [.t 36],
 .o 38 (.app 0 2) [.t 33, .t 37],
 .M 8 38])
 (.region 0 [.M 39 11,
 .M 9 39]))))
 (.region 0 [.o 40 (.binI .add) [.t 29, .k (.int .i64 1)],
 .M 29 40]))))
def f_plan_Of : EF := ⟨[0], [.tmp 2, .tmp 3], (.seq (.region 1 [.o 1 (.box 0) [.t 0],
 .C 2 (.nils),
 .C 3 (.nili)])
 (.seq (.seq (.region 0 [.o 12 (.loadA 9) [.t 1],
 .o 13 (.callc bond_Check) [.t 12],
 .M 4 13])
 (.seq (.region 0 [.M 14 4,
 .o 15 (.eqN true true) [.t 14, .k (.nili)]])
 (.cond (.t 15) (.seq (.region 0 [.M 16 4,
 .C 2 (.nils),
 .M 3 16])
 .ret)
 .skip)))
 (.seq (.region 0 [.o 18 (.loadA 9) [.t 1],
 .o 19 (.calla plan_anchors) [.t 18],
 .M 17 19,
 .o 20 (.ext 0) [.t 17],
 .o 21 (.ext 1) [.t 17],
 .o 22 (.ext 2) [.t 17],
 .M 5 20,
 .M 6 21,
 .M 7 22])
 (.seq (.region 0 [.M 23 5,
 .o 24 (.calla slices_Reverse_int) [.t 23]])
 (.seq (.region 0 [.C 8 (.nils)])
 (.seq (.region 0 [.o 25 (.fadr 0) [.t 1],
 .o 26 .load1 [.t 25],
 .M 9 26])
 (.seq (.seq (.region 0 [.M 27 5,
 .o 28 .lenL [.t 27],
 .C 29 (.int .i64 0)])
 (.block 0 (.loop [1, 6, 7, 8, 9, 27, 28, 29] [1, 6, 7, 8] plan_Of_b1)))
 (.seq (.seq (.region 0 [.M 41 7,
 .M 42 41,
 .g 42 true 43 (.mov) [.t 6],
 .g 42 true 44 (.fadr 0) [.t 1],
 .g 42 true 45 (.load1) [.t 44],
 .g 42 true 46 (.binI .eql) [.t 43, .t 45],
 .o 47 .pick [.t 42, .t 46, .k (.bool false)]])
 (.cond (.t 47) (.seq (.region 0 [.M 48 8,
 .M 2 48,
 .C 3 (.nili)])
 .ret)
 .skip))
 (.seq (.join [2, 3, 8] (.block 2 (.seq (.region 0 [.o 50 (.fadr 6) [.t 1],
 .o 51 .load1 [.t 50],
 .o 52 (.binI .eql) [.t 51, .k (.int .i64 0)],
 .M 49 52])
 (.join [2, 3, 8] (.cond (.t 49) (.seq (.region 0 [.o 53 (.callc fault_New) [.k (.int .i64 5), .k (.str [115, 116, 117, 98])],
 .C 2 (.nils),
 .M 3 53])
 .ret)
 (.seq (.region 0 [.o 55 (.fadr 6) [.t 1],
 .o 56 .load1 [.t 55],
 .o 57 (.binI .eql) [.t 56, .k (.int .i64 2)],
 .M 58 57,
 .g 58 true 59 (.mov) [.t 8],
 .g 58 true 60 (.lenL) [.t 59],
 .g 58 true 61 (.binI .gtr) [.t 60, .k (.int .i64 1)],
 .o 62 .pick [.t 58, .t 61, .k (.bool false)],
 .M 54 62])
 (.join [8] (.cond (.t 54) (.seq (.region 0 [.M 63 8,
 .o 64 (.fadr 0) [.t 1],
 .o 65 .load1 [.t 64],
 .o 66 (.iadr 2) [.t 63, .k (.int .i64 1)],
 .o 67 (.fadr 0) [.t 66],
 ⟨.store 1, [.t 67, .t 65], none, none⟩])
 (.region 0 [.M 68 8,
 .o 69 (.slL 2 true false) [.t 68, .k (.int .i64 1)],
 .M 8 69]))
 .skip))))))))
 (.seq (.region 0 [.M 70 8,
 .M 2 70,
 .C 3 (.nili)])
 .ret))))))))))⟩
def flow_Of_b1 : EC := (.seq (.region 0 [.o 24 (.binI .lss) [.t 23, .t 22]])
 (.seq (.cond (.t 24) .skip
 (.exit 0))
 (.seq (.join [1, 2, 3, 4, 6, 7, 21, 22, 23] (.block 1 (.seq (.region 1 [.M 25 23,
 .o 26 (.iadr 2) [.t 21, .t 23],
 .o 27 (.loadA 2) [.t 26],
 .o 9 (.alloc 0 [.int .i64 0, .int .i64 0]) [],
 .M 8 25,
 ⟨.store 2, [.t 9, .t 27], none, none⟩])
 (.seq (.region 0 [.M 28 6,
 .M 10 28])
 (.seq (.seq (.region 0 [.M 29 8,
 .o 30 (.binI .eql) [.t 29, .k (.int .i64 0)]])
 (.join [1, 2, 3, 4, 6, 7, 8, 9, 10, 21, 22, 23] (.cond (.t 30) (.seq (.region 0 [.o 32 (.loadA 9) [.t 1],
 .o 33 (.loadA 2) [.t 9],
 .o 34 (.callc flow_Pay) [.t 32, .t 33],
 .M 31 34,
 .o 35 (.ext 0) [.t 31],
 .o 36 (.ext 1) [.t 31],
 .M 10 35,
 .M 5 36])
 (.seq (.region 0 [.M 37 5,
 .o 38 (.eqN true true) [.t 37, .k (.nili)]])
 (.cond (.t 38) (.seq (.region 0 [.M 39 5,
 .C 2 (.nils),
 .M 3 39])
 .ret)
 .skip)))
 .skip)))
 (.seq (.seq (.region 0 [.M 40 8,
 .M 41 4,
 .o 42 .lenL [.t 41],
 .o 43 (.binI .sub) [.t 42, .k (.int .i64 1)],
 .o 44 (.binI .eql) [.t 40, .t 43]])
 (.join [1, 4, 6, 7, 9, 10, 21, 22, 23] (.cond (.t 44) (.region 0 [.M 45 10,
 .o 46 (.loadA 9) [.t 1],
 .o 47 (.callc bond_Redeem) [.t 46],
 .o 48 (.callc rat_Rat_Add) [.t 45, .t 47],
 .M 10 48])
 .skip)))
 (.drawn 1 [(0, .M 49 7),
 (1, .o 50 (.fadr 1) [.t 9]),
 (2, .o 51 .load1 [.t 50]),
 (3, .M 52 10),
 (4, .o 53 (.callc rat_Rat_Text) [.t 52]),
 (5, .o 54 (.build [.int .i64 0, .str []] [(0, 1), (1, 1)]) [.t 51, .t 53]),
 (6, .o 55 (.bsl 2 1 [.int .i64 0, .str []] [(0, 2)]) [.t 54]),
 (7, .o 56 (.app 0 2) [.t 49, .t 55]),
 (8, .M 7 56)])))))))
 (.region 0 [.o 57 (.binI .add) [.t 23, .k (.int .i64 1)],
 .M 23 57]))))
def f_flow_Of : EF := ⟨[0], [.tmp 2, .tmp 3], (.seq (.region 1 [.o 1 (.box 0) [.t 0],
 .C 2 (.nils),
 .C 3 (.nili)])
 (.seq (.region 0 [.o 12 (.loadA 9) [.t 1],
 .o 13 (.callc plan_Of) [.t 12],
 .M 11 13,
 .o 14 (.ext 0) [.t 11],
 .o 15 (.ext 1) [.t 11],
 .M 4 14,
 .M 5 15])
 (.seq (.seq (.region 0 [.M 16 5,
 .o 17 (.eqN true true) [.t 16, .k (.nili)]])
 (.cond (.t 17) (.seq (.region 0 [.M 18 5,
 .C 2 (.nils),
 .M 3 18])
 .ret)
 .skip))
 (.seq (.region 0 [.o 19 (.loadA 9) [.t 1],
 .o 20 (.callc flow_regular) [.t 19],
 .M 6 20])
 (.seq (.region 0 [.C 7 (.nils)])
 (.seq (.seq (.region 0 [.M 21 4,
 .o 22 .lenL [.t 21],
 .C 23 (.int .i64 0)])
 (.block 0 (.loop [1, 4, 6, 7, 21, 22, 23] [2, 3, 7] flow_Of_b1)))
 (.seq (.region 0 [.M 58 7,
 .M 2 58,
 .C 3 (.nili)])
 .ret)))))))⟩
def f_accr_Of : EF := ⟨[0, 1], [.tmp 4, .tmp 5], (.seq (.region 1 [.o 2 (.box 0) [.t 0],
 .C 4 (.nilp),
 .C 5 (.nili)])
 (.seq (.region 1 [.o 13 (.loadA 9) [.t 2],
 .M 14 1,
 .o 15 (.callc accr_period) [.t 13, .t 14],
 .M 12 15,
 .o 16 (.ext 0) [.t 12],
 .o 17 (.ext 1) [.t 12],
 .o 6 (.alloc 0 [.int .i64 0, .int .i64 0]) [],
 ⟨.store 2, [.t 6, .t 16], none, none⟩,
 .M 7 17])
 (.seq (.seq (.region 0 [.M 18 7,
 .o 19 (.eqN true true) [.t 18, .k (.nili)]])
 (.cond (.t 19) (.seq (.region 0 [.M 20 7,
 .C 4 (.nilp),
 .M 5 20])
 .ret)
 .skip))
 (.seq (.region 0 [.o 22 (.loadA 9) [.t 2],
 .o 23 (.loadA 2) [.t 6],
 .M 24 1,
 .o 25 (.callc accr_gone) [.t 22, .t 23, .t 24],
 .M 21 25,
 .o 26 (.ext 0) [.t 21],
 .o 27 (.ext 1) [.t 21],
 .M 8 26,
 .M 7 27])
 (.seq (.seq (.region 0 [.M 28 7,
 .o 29 (.eqN true true) [.t 28, .k (.nili)]])
 (.cond (.t 29) (.seq (.region 0 [.M 30 7,
 .C 4 (.nilp),
 .M 5 30])
 .ret)
 .skip))
 (.seq (.seq (.region 0 [.o 32 (.loadA 9) [.t 2],
 .M 33 1,
 .o 34 (.callc accr_Ex) [.t 32, .t 33],
 .M 31 34,
 .o 35 (.ext 0) [.t 31],
 .o 36 (.ext 1) [.t 31],
 .M 9 35,
 .M 10 36])
 (.seq (.region 0 [.M 37 9,
 .o 38 .not [.t 37]])
 (.cond (.t 38) (.seq (.region 0 [.M 39 8,
 .M 4 39,
 .C 5 (.nili)])
 .ret)
 .skip)))
 (.seq (.region 0 [.o 41 (.loadA 9) [.t 2],
 .o 42 (.loadA 2) [.t 6],
 .o 43 (.callc flow_Pay) [.t 41, .t 42],
 .M 40 43,
 .o 44 (.ext 0) [.t 40],
 .o 45 (.ext 1) [.t 40],
 .M 11 44,
 .M 7 45])
 (.seq (.seq (.region 0 [.M 46 7,
 .o 47 (.eqN true true) [.t 46, .k (.nili)]])
 (.cond (.t 47) (.seq (.region 0 [.M 48 7,
 .C 4 (.nilp),
 .M 5 48])
 .ret)
 .skip))
 (.seq (.region 0 [.M 49 8,
 .M 50 11,
 .o 51 (.callc rat_Rat_Sub) [.t 49, .t 50],
 .M 4 51,
 .C 5 (.nili)])
 .ret)))))))))⟩
def f_price_Dirty : EF := ⟨[0, 1, 2], [.tmp 6, .tmp 7], (.seq (.region 1 [.o 3 (.box 0) [.t 0],
 .C 6 (.nilp),
 .C 7 (.nili)])
 (.seq (.region 0 [.o 18 (.loadA 9) [.t 3],
 .M 19 1,
 .o 20 (.callc price_amounts) [.t 18, .t 19],
 .M 17 20,
 .o 21 (.ext 0) [.t 17],
 .o 22 (.ext 1) [.t 17],
 .M 8 21,
 .M 9 22])
 (.seq (.seq (.region 0 [.M 23 9,
 .o 24 (.eqN true true) [.t 23, .k (.nili)]])
 (.cond (.t 24) (.seq (.region 0 [.M 25 9,
 .C 6 (.nilp),
 .M 7 25])
 .ret)
 .skip))
 (.seq (.seq (.region 0 [.M 26 2,
 .o 27 (.binI .lss) [.t 26, .k (.int .i64 (-2000000))],
 .M 28 27,
 .g 28 false 29 (.mov) [.t 2],
 .g 28 false 30 (.binI .gtr) [.t 29, .k (.int .i64 100000000)],
 .o 31 .pick [.t 28, .k (.bool true), .t 30]])
 (.cond (.t 31) (.seq (.region 0 [.o 32 (.callc fault_Of) [.k (.int .i64 2)],
 .C 6 (.nilp),
 .M 7 32])
 .ret)
 .skip))
 (.seq (.region 0 [.o 34 (.loadA 9) [.t 3],
 .M 35 1,
 .o 36 (.callc price_Wait) [.t 34, .t 35],
 .M 33 36,
 .o 37 (.ext 0) [.t 33],
 .o 38 (.ext 1) [.t 33],
 .M 10 37,
 .M 9 38])
 (.seq (.seq (.region 0 [.M 39 9,
 .o 40 (.eqN true true) [.t 39, .k (.nili)]])
 (.cond (.t 40) (.seq (.region 0 [.M 41 9,
 .C 6 (.nilp),
 .M 7 41])
 .ret)
 .skip))
 (.seq (.drawn 0 [(0, .o 42 (.callc num_Of) [.k (.int .i64 100000000)]),
 (1, .o 43 (.fadr 2) [.t 3]),
 (2, .o 44 .load1 [.t 43]),
 (3, .o 45 (.callc num_Of) [.t 44]),
 (4, .o 46 (.callc num_Int_Mul) [.t 42, .t 45]),
 (5, .M 11 46)])
 (.seq (.region 0 [.M 47 11,
 .M 48 2,
 .o 49 (.callc num_Of) [.t 48],
 .o 50 (.callc num_Int_Add) [.t 47, .t 49],
 .M 12 50])
 (.seq (.region 0 [.M 52 8,
 .M 53 12,
 .M 54 11,
 .o 55 (.callc price_summed) [.t 52, .t 53, .t 54],
 .M 51 55,
 .o 56 (.ext 0) [.t 51],
 .o 57 (.ext 1) [.t 51],
 .M 13 56,
 .M 14 57])
 (.seq (.region 0 [.M 58 10,
 .o 59 (.callc rat_Rat_Den) [.t 58],
 .M 60 11,
 .o 61 (.callc num_Int_Mul) [.t 59, .t 60],
 .M 15 61])
 (.seq (.region 0 [.M 62 15,
 .M 63 10,
 .o 64 (.callc rat_Rat_Num) [.t 63],
 .M 65 2,
 .o 66 (.callc num_Of) [.t 65],
 .o 67 (.callc num_Int_Mul) [.t 64, .t 66],
 .o 68 (.callc num_Int_Add) [.t 62, .t 67],
 .M 16 68])
 (.seq (.seq (.region 0 [.M 69 16,
 .o 70 (.callc num_Int_Sign) [.t 69],
 .o 71 (.binI .leq) [.t 70, .k (.int .i64 0)]])
 (.cond (.t 71) (.seq (.region 0 [.o 72 (.callc fault_Of) [.k (.int .i64 3)],
 .C 6 (.nilp),
 .M 7 72])
 .ret)
 .skip))
 (.seq (.region 0 [.M 73 13,
 .M 74 15,
 .o 75 (.callc num_Int_Mul) [.t 73, .t 74],
 .M 76 14,
 .M 77 16,
 .o 78 (.callc num_Int_Mul) [.t 76, .t 77],
 .o 79 (.callc rat_New) [.t 75, .t 78],
 .o 80 (.ext 0) [.t 79],
 .o 81 (.ext 1) [.t 79],
 .M 6 80,
 .M 7 81])
 .ret)))))))))))))⟩
def f_yield_Of : EF := ⟨[0, 1, 2], [.tmp 6, .tmp 7], (.seq (.region 1 [.o 3 (.box 0) [.t 0],
 .C 6 (.int .i64 0),
 .C 7 (.nili)])
 (.seq (.region 0 [.M 12 2,
 .o 13 (.callc dec_Get) [.t 12],
 .M 11 13,
 .o 14 (.ext 0) [.t 11],
 .o 15 (.ext 1) [.t 11],
 .o 16 (.ext 2) [.t 11],
 .M 8 14,
 .M 9 15,
 .M 10 16])
 (.seq (.seq (.region 0 [.M 17 10,
 .o 18 (.eqN true true) [.t 17, .k (.nili)]])
 (.cond (.t 18) (.seq (.region 0 [.M 19 10,
 .C 6 (.int .i64 0),
 .M 7 19])
 .ret)
 .skip))
 (.seq (.region 0 [.o 20 (.loadA 9) [.t 3],
 .M 21 1,
 .M 22 8,
 .o 23 (.callc yield_Near) [.t 20, .t 21, .t 22],
 .o 24 (.ext 0) [.t 23],
 .o 25 (.ext 1) [.t 23],
 .M 6 24,
 .M 7 25])
 .ret))))⟩
def f_risk_Duration : EF := ⟨[0, 1, 2], [.tmp 6, .tmp 7], (.seq (.region 1 [.o 3 (.box 0) [.t 0],
 .C 6 (.nilp),
 .C 7 (.nili)])
 (.seq (.seq (.region 0 [.o 18 (.loadA 9) [.t 3],
 .M 19 1,
 .M 20 2,
 .o 21 (.callc price_Dirty) [.t 18, .t 19, .t 20],
 .M 17 21,
 .o 22 (.ext 0) [.t 17],
 .o 23 (.ext 1) [.t 17],
 .M 8 22,
 .M 9 23])
 (.seq (.region 0 [.M 24 9,
 .o 25 (.eqN true true) [.t 24, .k (.nili)]])
 (.cond (.t 25) (.seq (.region 0 [.M 26 9,
 .C 6 (.nilp),
 .M 7 26])
 .ret)
 .skip)))
 (.seq (.region 0 [.o 28 (.loadA 9) [.t 3],
 .M 29 1,
 .o 30 (.callc price_Wait) [.t 28, .t 29],
 .M 27 30,
 .o 31 (.ext 0) [.t 27],
 .o 32 (.ext 1) [.t 27],
 .M 10 31,
 .M 11 32])
 (.seq (.seq (.region 0 [.M 33 11,
 .o 34 (.eqN true true) [.t 33, .k (.nili)]])
 (.cond (.t 34) (.seq (.region 0 [.M 35 11,
 .C 6 (.nilp),
 .M 7 35])
 .ret)
 .skip))
 (.seq (.drawn 0 [(0, .o 36 (.callc num_Of) [.k (.int .i64 100000000)]),
 (1, .o 37 (.fadr 2) [.t 3]),
 (2, .o 38 .load1 [.t 37]),
 (3, .o 39 (.callc num_Of) [.t 38]),
 (4, .o 40 (.callc num_Int_Mul) [.t 36, .t 39]),
 (5, .M 12 40)])
 (.seq (.region 0 [.M 41 12,
 .M 42 2,
 .o 43 (.callc num_Of) [.t 42],
 .o 44 (.callc num_Int_Add) [.t 41, .t 43],
 .M 13 44])
 (.seq (.region 0 [.o 46 (.loadA 9) [.t 3],
 .M 47 1,
 .o 48 (.callc risk_amounts) [.t 46, .t 47],
 .M 49 13,
 .M 50 12,
 .o 51 (.callc risk_summed) [.t 48, .t 49, .t 50],
 .M 45 51,
 .o 52 (.ext 0) [.t 45],
 .o 53 (.ext 1) [.t 45],
 .M 14 52,
 .M 15 53])
 (.seq (.region 0 [.M 55 14,
 .M 56 15,
 .o 57 (.callc rat_New) [.t 55, .t 56],
 .M 54 57,
 .o 58 (.ext 0) [.t 54],
 .o 59 (.ext 1) [.t 54],
 .M 16 58,
 .M 11 59])
 (.seq (.seq (.region 0 [.M 60 11,
 .o 61 (.eqN true true) [.t 60, .k (.nili)]])
 (.cond (.t 61) (.seq (.region 0 [.M 62 11,
 .C 6 (.nilp),
 .M 7 62])
 .ret)
 .skip))
 (.seq (.drawn 0 [(0, .M 63 16),
 (1, .M 64 10),
 (2, .o 65 (.callc rat_Rat_Add) [.t 63, .t 64]),
 (3, .o 66 (.fadr 2) [.t 3]),
 (4, .o 67 .load1 [.t 66]),
 (5, .o 68 (.callc risk_of) [.k (.int .i64 1), .t 67]),
 (6, .o 69 (.callc rat_Rat_Mul) [.t 65, .t 68]),
 (7, .M 6 69),
 (8, .C 7 (.nili))])
 .ret))))))))))⟩
def f_rentierlaw13_begun : EF := ⟨[], [.tmp 0], (.seq (.region 0 [.C 0 (.bool false)])
 (.seq (.region 1 [.o 15 (.callc rentierlaw13_Five) [.k (.str [54]), .k (.int .i64 1)],
 .o 1 (.alloc 0 [.int .i64 0, .int .i64 0, .int .i64 0, .str [], .str [], .int .i64 0, .int .i64 0, .bool false, .int .i64 0]) [],
 ⟨.store 9, [.t 1, .t 15], none, none⟩])
 (.seq (.region 0 [.o 17 (.loadA 9) [.t 1],
 .o 18 (.callc plan_Of) [.t 17],
 .M 16 18,
 .o 19 (.ext 0) [.t 16],
 .o 20 (.ext 1) [.t 16],
 .M 2 19,
 .M 3 20])
 (.seq (.region 0 [.o 22 (.loadA 9) [.t 1],
 .o 23 (.callc flow_Of) [.t 22],
 .M 21 23,
 .o 24 (.ext 0) [.t 21],
 .o 25 (.ext 1) [.t 21],
 .M 4 24,
 .M 5 25])
 (.seq (.region 0 [.o 27 (.loadA 9) [.t 1],
 .o 28 (.fadr 0) [.t 1],
 .o 29 .load1 [.t 28],
 .o 30 (.binI .add) [.t 29, .k (.int .i64 91)],
 .o 31 (.callc accr_Of) [.t 27, .t 30],
 .M 26 31,
 .o 32 (.ext 0) [.t 26],
 .o 33 (.ext 1) [.t 26],
 .M 6 32,
 .M 7 33])
 (.seq (.region 1 [.o 34 (.build [.int .i64 0, .int .i64 0, .int .i64 0, .str [], .str [], .int .i64 0, .int .i64 0, .bool false, .int .i64 0] [(0, 1), (1, 1), (2, 1), (3, 1), (4, 1), (5, 1)]) [.k (.int .i64 36524), .k (.int .i64 36890), .k (.int .i64 1), .k (.str [54]), .k (.str [49, 48, 48]), .k (.int .i64 1)],
 .o 8 (.alloc 0 [.int .i64 0, .int .i64 0, .int .i64 0, .str [], .str [], .int .i64 0, .int .i64 0, .bool false, .int .i64 0]) [],
 ⟨.store 9, [.t 8, .t 34], none, none⟩])
 (.seq (.region 0 [.o 36 (.loadA 9) [.t 8],
 .o 37 (.fadr 0) [.t 8],
 .o 38 .load1 [.t 37],
 .o 39 (.callc price_Dirty) [.t 36, .t 38, .k (.int .i64 6000000)],
 .M 35 39,
 .o 40 (.ext 0) [.t 35],
 .o 41 (.ext 1) [.t 35],
 .M 9 40,
 .M 10 41])
 (.seq (.region 0 [.o 43 (.loadA 9) [.t 1],
 .o 44 (.fadr 0) [.t 1],
 .o 45 .load1 [.t 44],
 .o 46 (.callc price_Wait) [.t 43, .t 45],
 .M 42 46,
 .o 47 (.ext 0) [.t 42],
 .o 48 (.ext 1) [.t 42],
 .M 11 47,
 .M 12 48])
 (.seq (.region 0 [.o 50 (.loadA 9) [.t 8],
 .o 51 (.fadr 0) [.t 8],
 .o 52 .load1 [.t 51],
 .o 53 (.callc risk_Duration) [.t 50, .t 52, .k (.int .i64 6000000)],
 .M 49 53,
 .o 54 (.ext 0) [.t 49],
 .o 55 (.ext 1) [.t 49],
 .M 13 54,
 .M 14 55])
 (.seq (.seq (.region 0 [.M 56 6,
 .o 57 (.eqP false) [.t 56, .k (.nilp)],
 .M 58 57,
 .g 58 false 59 (.mov) [.t 9],
 .g 58 false 60 (.eqP false) [.t 59, .k (.nilp)],
 .o 61 .pick [.t 58, .k (.bool true), .t 60],
 .M 62 61,
 .g 62 false 63 (.mov) [.t 11],
 .g 62 false 64 (.eqP false) [.t 63, .k (.nilp)],
 .o 65 .pick [.t 62, .k (.bool true), .t 64],
 .M 66 65,
 .g 66 false 67 (.mov) [.t 13],
 .g 66 false 68 (.eqP false) [.t 67, .k (.nilp)],
 .o 69 .pick [.t 66, .k (.bool true), .t 68],
 .M 70 69,
 .g 70 false 71 (.mov) [.t 2],
 .g 70 false 72 (.lenL) [.t 71],
 .g 70 false 73 (.binI .neq) [.t 72, .k (.int .i64 10)],
 .o 74 .pick [.t 70, .k (.bool true), .t 73],
 .M 75 74,
 .g 75 false 76 (.mov) [.t 4],
 .g 75 false 77 (.lenL) [.t 76],
 .g 75 false 78 (.binI .neq) [.t 77, .k (.int .i64 10)],
 .o 79 .pick [.t 75, .k (.bool true), .t 78]])
 (.cond (.t 79) (.seq (.region 0 [.C 0 (.bool false)])
 .ret)
 .skip))
 (.seq (.drawn 0 [(0, .o 80 (.callc rentierlaw6_Begun) []),
 (1, .M 81 80),
 (2, .g 81 true 82 (.loadA 9) [.t 1]),
 (3, .g 81 true 83 (.callc bond_Check) [.t 82]),
 (4, .g 81 true 84 (.eqN false true) [.t 83, .k (.nili)]),
 (5, .o 85 .pick [.t 81, .t 84, .k (.bool false)]),
 (6, .M 86 85),
 (7, .g 86 true 87 (.mov) [.t 3]),
 (8, .g 86 true 88 (.eqN false true) [.t 87, .k (.nili)]),
 (9, .o 89 .pick [.t 86, .t 88, .k (.bool false)]),
 (10, .M 90 89),
 (11, .g 90 true 91 (.mov) [.t 2]),
 (12, .g 90 true 92 (.iadr 2) [.t 91, .k (.int .i64 0)]),
 (13, .g 90 true 93 (.fadr 0) [.t 92]),
 (14, .g 90 true 94 (.load1) [.t 93]),
 (15, .g 90 true 95 (.fadr 0) [.t 1]),
 (16, .g 90 true 96 (.load1) [.t 95]),
 (17, .g 90 true 97 (.binI .eql) [.t 94, .t 96]),
 (18, .o 98 .pick [.t 90, .t 97, .k (.bool false)]),
 (19, .M 99 98),
 (20, .g 99 true 100 (.mov) [.t 2]),
 (21, .g 99 true 101 (.iadr 2) [.t 100, .k (.int .i64 9)]),
 (22, .g 99 true 102 (.fadr 1) [.t 101]),
 (23, .g 99 true 103 (.load1) [.t 102]),
 (24, .g 99 true 104 (.fadr 1) [.t 1]),
 (25, .g 99 true 105 (.load1) [.t 104]),
 (26, .g 99 true 106 (.binI .eql) [.t 103, .t 105]),
 (27, .o 107 .pick [.t 99, .t 106, .k (.bool false)]),
 (28, .M 108 107),
 (29, .g 108 true 109 (.mov) [.t 5]),
 (30, .g 108 true 110 (.eqN false true) [.t 109, .k (.nili)]),
 (31, .o 111 .pick [.t 108, .t 110, .k (.bool false)]),
 (32, .M 112 111),
 (33, .g 112 true 113 (.mov) [.t 4]),
 (34, .g 112 true 114 (.iadr 2) [.t 113, .k (.int .i64 0)]),
 (35, .g 112 true 115 (.fadr 1) [.t 114]),
 (36, .g 112 true 116 (.load1) [.t 115]),
 (37, .g 112 true 117 (.binS .eql) [.t 116, .k (.str [51])]),
 (38, .o 118 .pick [.t 112, .t 117, .k (.bool false)]),
 (39, .M 119 118),
 (40, .g 119 true 120 (.mov) [.t 4]),
 (41, .g 119 true 121 (.iadr 2) [.t 120, .k (.int .i64 9)]),
 (42, .g 119 true 122 (.fadr 1) [.t 121]),
 (43, .g 119 true 123 (.load1) [.t 122]),
 (44, .g 119 true 124 (.binS .eql) [.t 123, .k (.str [49, 48, 51])]),
 (45, .o 125 .pick [.t 119, .t 124, .k (.bool false)]),
 (46, .M 126 125),
 (47, .g 126 true 127 (.mov) [.t 7]),
 (48, .g 126 true 128 (.eqN false true) [.t 127, .k (.nili)]),
 (49, .o 129 .pick [.t 126, .t 128, .k (.bool false)]),
 (50, .M 130 129),
 (51, .g 130 true 131 (.mov) [.t 6]),
 (52, .g 130 true 132 (.callc rat_Rat_Text) [.t 131]),
 (53, .g 130 true 133 (.binS .eql) [.t 132, .k (.str [51, 47, 50])]),
 (54, .o 134 .pick [.t 130, .t 133, .k (.bool false)]),
 (55, .M 135 134),
 (56, .g 135 true 136 (.mov) [.t 10]),
 (57, .g 135 true 137 (.eqN false true) [.t 136, .k (.nili)]),
 (58, .o 138 .pick [.t 135, .t 137, .k (.bool false)]),
 (59, .M 139 138),
 (60, .g 139 true 140 (.mov) [.t 9]),
 (61, .g 139 true 141 (.callc rat_Rat_Text) [.t 140]),
 (62, .g 139 true 142 (.binS .eql) [.t 141, .k (.str [49, 48, 48])]),
 (63, .o 143 .pick [.t 139, .t 142, .k (.bool false)]),
 (64, .M 144 143),
 (65, .g 144 true 145 (.mov) [.t 12]),
 (66, .g 144 true 146 (.eqN false true) [.t 145, .k (.nili)]),
 (67, .o 147 .pick [.t 144, .t 146, .k (.bool false)]),
 (68, .M 148 147),
 (69, .g 148 true 149 (.mov) [.t 11]),
 (70, .g 148 true 150 (.callc rat_Rat_Text) [.t 149]),
 (71, .g 148 true 151 (.binS .eql) [.t 150, .k (.str [49])]),
 (72, .o 152 .pick [.t 148, .t 151, .k (.bool false)]),
 (73, .M 153 152),
 (74, .g 153 true 154 (.mov) [.t 14]),
 (75, .g 153 true 155 (.eqN false true) [.t 154, .k (.nili)]),
 (76, .o 156 .pick [.t 153, .t 155, .k (.bool false)]),
 (77, .M 157 156),
 (78, .g 157 true 158 (.mov) [.t 13]),
 (79, .g 157 true 159 (.callc rat_Rat_Sign) [.t 158]),
 (80, .g 157 true 160 (.binI .gtr) [.t 159, .k (.int .i64 0)]),
 (81, .o 161 .pick [.t 157, .t 160, .k (.bool false)]),
 (82, .M 162 161),
 (83, .g 162 true 163 (.loadA 9) [.t 1]),
 (84, .g 162 true 164 (.callc bond_Months) [.t 163]),
 (85, .g 162 true 165 (.binI .eql) [.t 164, .k (.int .i64 6)]),
 (86, .o 166 .pick [.t 162, .t 165, .k (.bool false)]),
 (87, .M 167 166),
 (88, .g 167 true 168 (.loadA 9) [.t 1]),
 (89, .g 167 true 169 (.callc bond_Coupon) [.t 168]),
 (90, .g 167 true 170 (.callc rat_Rat_Text) [.t 169]),
 (91, .g 167 true 171 (.binS .eql) [.t 170, .k (.str [54])]),
 (92, .o 172 .pick [.t 167, .t 171, .k (.bool false)]),
 (93, .M 173 172),
 (94, .g 173 true 174 (.mov) [.t 2]),
 (95, .g 173 true 175 (.fadr 0) [.t 1]),
 (96, .g 173 true 176 (.load1) [.t 175]),
 (97, .g 173 true 177 (.callc plan_At) [.t 174, .t 176]),
 (98, .g 173 true 178 (.binI .eql) [.t 177, .k (.int .i64 0)]),
 (99, .o 179 .pick [.t 173, .t 178, .k (.bool false)]),
 (100, .M 0 179)])
 .ret)))))))))))⟩
def f_rentierlaw13_same : EF := ⟨[0, 1], [.tmp 4], (.seq (.region 0 [.C 4 (.bool false)])
 (.seq (.region 0 [.M 5 0,
 .o 6 (.callc fault_Code) [.t 5],
 .M 7 1,
 .o 8 (.binI .eql) [.t 6, .t 7],
 .M 4 8])
 .ret))⟩
def f_bond_Check : EF := ⟨[0], [.tmp 2], (.seq (.region 1 [.o 1 (.box 0) [.t 0],
 .C 2 (.nili)])
 (.seq (.seq (.region 0 [.o 5 (.loadA 9) [.t 1],
 .o 6 (.callc bond_days) [.t 5],
 .M 3 6])
 (.seq (.region 0 [.M 7 3,
 .o 8 (.eqN true true) [.t 7, .k (.nili)]])
 (.cond (.t 8) (.seq (.region 0 [.M 9 3,
 .M 2 9])
 .ret)
 .skip)))
 (.seq (.seq (.region 0 [.o 10 (.loadA 9) [.t 1],
 .o 11 (.callc bond_Months) [.t 10],
 .o 12 (.binI .eql) [.t 11, .k (.int .i64 0)]])
 (.cond (.t 12) (.seq (.region 0 [.o 13 (.callc fault_New) [.k (.int .i64 5), .k (.str [102, 114, 101, 113])],
 .M 2 13])
 .ret)
 .skip))
 (.seq (.seq (.region 0 [.o 14 (.loadA 9) [.t 1],
 .o 15 (.callc bond_sums) [.t 14],
 .M 4 15])
 (.seq (.region 0 [.M 16 4,
 .o 17 (.eqN true true) [.t 16, .k (.nili)]])
 (.cond (.t 17) (.seq (.region 0 [.M 18 4,
 .M 2 18])
 .ret)
 .skip)))
 (.seq (.block 0 (.seq (.region 0 [.o 20 (.fadr 5) [.t 1],
 .o 21 .load1 [.t 20],
 .o 22 (.callc count_May) [.t 21],
 .o 23 .not [.t 22],
 .M 19 23])
 (.cond (.t 19) (.seq (.region 0 [.o 24 (.callc fault_New) [.k (.int .i64 5), .k (.str [99, 111, 117, 110, 116])],
 .M 2 24])
 .ret)
 (.seq (.region 0 [.o 26 (.fadr 6) [.t 1],
 .o 27 .load1 [.t 26],
 .o 28 (.binI .lss) [.t 27, .k (.int .i64 0)],
 .M 29 28,
 .g 29 false 30 (.fadr 6) [.t 1],
 .g 29 false 31 (.load1) [.t 30],
 .g 29 false 32 (.binI .gtr) [.t 31, .k (.int .i64 2)],
 .o 33 .pick [.t 29, .k (.bool true), .t 32],
 .M 25 33])
 (.cond (.t 25) (.seq (.region 0 [.o 34 (.callc fault_New) [.k (.int .i64 5), .k (.str [115, 116, 117, 98])],
 .M 2 34])
 .ret)
 (.seq (.region 0 [.o 36 (.fadr 8) [.t 1],
 .o 37 .load1 [.t 36],
 .o 38 (.binI .lss) [.t 37, .k (.int .i64 0)],
 .M 39 38,
 .g 39 false 40 (.fadr 8) [.t 1],
 .g 39 false 41 (.load1) [.t 40],
 .g 39 false 42 (.binI .gtr) [.t 41, .k (.int .i64 30)],
 .o 43 .pick [.t 39, .k (.bool true), .t 42],
 .M 35 43])
 (.cond (.t 35) (.seq (.region 0 [.o 44 (.callc fault_New) [.k (.int .i64 5), .k (.str [101, 120])],
 .M 2 44])
 .ret)
 (.seq (.drawn 0 [(0, .o 46 (.fadr 0) [.t 1]),
 (1, .o 47 .load1 [.t 46]),
 (2, .o 48 (.fadr 1) [.t 1]),
 (3, .o 49 .load1 [.t 48]),
 (4, .o 50 (.callc month_Between) [.t 47, .t 49]),
 (5, .o 51 (.loadA 9) [.t 1]),
 (6, .o 52 (.callc bond_Months) [.t 51]),
 (7, .o 53 (.binI .quo) [.t 50, .t 52]),
 (8, .o 54 (.binI .add) [.t 53, .k (.int .i64 2)]),
 (9, .o 55 (.binI .gtr) [.t 54, .k (.int .i64 200)]),
 (10, .M 45 55)])
 (.cond (.t 45) (.seq (.region 0 [.o 56 (.callc fault_New) [.k (.int .i64 5), .k (.str [102, 108, 111, 119, 115])],
 .M 2 56])
 .ret)
 .skip)))))))))
 (.seq (.region 0 [.C 2 (.nili)])
 .ret))))))⟩
def f_bond_Months : EF := ⟨[0], [.tmp 2], (.seq (.region 1 [.o 1 (.box 0) [.t 0],
 .C 2 (.int .i64 0)])
 (.seq (.seq (.region 0 [.o 3 (.fadr 2) [.t 1],
 .o 4 .load1 [.t 3]])
 (.join [2] (.block 0 (.seq (.seq (.region 0 [.o 6 (.binI .eql) [.t 4, .k (.int .i64 1)],
 .M 5 6])
 (.join [1, 5] (.cond (.t 5) .skip
 (.seq (.region 0 [.o 7 (.binI .eql) [.t 4, .k (.int .i64 2)],
 .M 5 7])
 (.join [1, 5] (.cond (.t 5) .skip
 (.seq (.region 0 [.o 8 (.binI .eql) [.t 4, .k (.int .i64 4)],
 .M 5 8])
 (.join [1, 5] (.cond (.t 5) .skip
 (.region 0 [.o 9 (.binI .eql) [.t 4, .k (.int .i64 12)],
 .M 5 9]))))))))))
 (.cond (.t 5) (.seq (.region 0 [.o 10 (.fadr 2) [.t 1],
 .o 11 .load1 [.t 10],
 .o 12 (.binI .quo) [.k (.int .i64 12), .t 11],
 .M 2 12])
 .ret)
 .skip)))))
 (.seq (.region 0 [.C 2 (.int .i64 0)])
 .ret)))⟩
def f_bond_Coupon : EF := ⟨[0], [.tmp 2], (.seq (.region 1 [.o 1 (.box 0) [.t 0],
 .C 2 (.nilp)])
 (.seq (.seq (.region 0 [.o 6 (.loadA 9) [.t 1],
 .o 7 (.callc bond_Check) [.t 6],
 .o 8 (.eqN true true) [.t 7, .k (.nili)]])
 (.cond (.t 8) (.seq (.region 0 [.o 9 (.callc bond_of) [.k (.int .i64 0)],
 .M 2 9])
 .ret)
 .skip))
 (.seq (.region 0 [.o 11 (.fadr 3) [.t 1],
 .o 12 .load1 [.t 11],
 .o 13 (.callc bond_value) [.t 12],
 .M 10 13,
 .o 14 (.ext 0) [.t 10],
 .o 15 (.ext 1) [.t 10],
 .o 16 (.ext 2) [.t 10],
 .M 3 14,
 .M 4 15,
 .M 5 16])
 (.seq (.region 0 [.M 17 3,
 .M 2 17])
 .ret))))⟩
def f_rat_Rat_Sign : EF := ⟨[0], [.tmp 2], (.seq (.region 0 [.C 2 (.int .i64 0)])
 (.seq (.region 0 [.M 3 0,
 .o 4 (.callc rat_Rat_Num) [.t 3],
 .o 5 (.callc num_Int_Sign) [.t 4],
 .M 2 5])
 .ret))⟩
def f_plan_At : EF := ⟨[0, 1], [.tmp 4], (.seq (.region 1 [.o 3 (.box 0) [.t 1],
 .C 4 (.int .i64 0)])
 (.seq (.region 0 [.M 5 0,
 .o 6 (.mkfn plan_At_1) [.t 3],
 .o 7 (.callp slices_IndexFunc_api_Period) [.t 5, .t 6],
 .M 4 7])
 .ret))⟩
def f_bond_Redeem : EF := ⟨[0], [.tmp 2], (.seq (.region 1 [.o 1 (.box 0) [.t 0],
 .C 2 (.nilp)])
 (.seq (.seq (.region 0 [.o 6 (.loadA 9) [.t 1],
 .o 7 (.callc bond_Check) [.t 6],
 .o 8 (.eqN true true) [.t 7, .k (.nili)]])
 (.cond (.t 8) (.seq (.region 0 [.o 9 (.callc bond_of) [.k (.int .i64 0)],
 .M 2 9])
 .ret)
 .skip))
 (.seq (.region 0 [.o 11 (.fadr 4) [.t 1],
 .o 12 .load1 [.t 11],
 .o 13 (.callc bond_value) [.t 12],
 .M 10 13,
 .o 14 (.ext 0) [.t 10],
 .o 15 (.ext 1) [.t 10],
 .o 16 (.ext 2) [.t 10],
 .M 3 14,
 .M 4 15,
 .M 5 16])
 (.seq (.region 0 [.M 17 3,
 .M 2 17])
 .ret))))⟩
def f_rat_Get : EF := ⟨[0], [.tmp 2, .tmp 3], (.seq (.region 0 [.C 2 (.nilp),
 .C 3 (.nili)])
 (.seq (.region 0 [.M 14 0,
 .o 15 (.callc strings_Cut) [.t 14, .k (.str [47])],
 .M 13 15,
 .o 16 (.ext 0) [.t 13],
 .o 17 (.ext 1) [.t 13],
 .o 18 (.ext 2) [.t 13],
 .M 4 16,
 .M 5 17,
 .M 6 18])
 (.seq (.seq (.region 0 [.M 19 6,
 .o 20 .not [.t 19]])
 (.join [0, 4, 5] (.cond (.t 20) (.region 0 [.C 5 (.str [49])])
 .skip)))
 (.seq (.region 0 [.M 22 4,
 .o 23 (.callc num_Get) [.t 22],
 .M 21 23,
 .o 24 (.ext 0) [.t 21],
 .o 25 (.ext 1) [.t 21],
 .M 7 24,
 .M 8 25])
 (.seq (.region 0 [.M 27 5,
 .o 28 (.callc nat_Get) [.t 27],
 .M 26 28,
 .o 29 (.ext 0) [.t 26],
 .o 30 (.ext 1) [.t 26],
 .M 9 29,
 .M 10 30])
 (.seq (.seq (.region 0 [.M 31 8,
 .o 32 (.eqN true true) [.t 31, .k (.nili)],
 .M 33 32,
 .g 33 false 34 (.mov) [.t 10],
 .g 33 false 35 (.eqN true true) [.t 34, .k (.nili)],
 .o 36 .pick [.t 33, .k (.bool true), .t 35],
 .M 37 36,
 .g 37 false 38 (.mov) [.t 9],
 .g 37 false 39 (.callc nat_Nat_Zero) [.t 38],
 .o 40 .pick [.t 37, .k (.bool true), .t 39]])
 (.cond (.t 40) (.seq (.region 0 [.o 41 (.callc fault_Of) [.k (.int .i64 1)],
 .C 2 (.nilp),
 .M 3 41])
 .ret)
 .skip))
 (.seq (.region 0 [.M 43 7,
 .M 44 9,
 .o 45 (.callc num_New) [.k (.bool false), .t 44],
 .o 46 (.callc rat_New) [.t 43, .t 45],
 .M 42 46,
 .o 47 (.ext 0) [.t 42],
 .o 48 (.ext 1) [.t 42],
 .M 11 47,
 .M 12 48])
 (.seq (.seq (.region 0 [.M 49 11,
 .o 50 (.callc rat_Rat_Text) [.t 49],
 .M 51 0,
 .o 52 (.binS .neq) [.t 50, .t 51]])
 (.cond (.t 52) (.seq (.region 0 [.o 53 (.callc fault_Of) [.k (.int .i64 1)],
 .C 2 (.nilp),
 .M 3 53])
 .ret)
 .skip))
 (.seq (.region 0 [.M 54 11,
 .M 2 54,
 .C 3 (.nili)])
 .ret)))))))))⟩
def f_rat_Rat_Sub : EF := ⟨[0, 1], [.tmp 4], (.seq (.region 0 [.C 4 (.nilp)])
 (.seq (.region 1 [.M 5 0,
 .M 6 1,
 .o 7 (.callc rat_Rat_Num) [.t 6],
 .o 8 (.callc num_Int_Neg) [.t 7],
 .M 9 1,
 .o 10 (.callc rat_Rat_Den) [.t 9],
 .o 11 (.build [.nilp, .nilp] [(0, 1), (1, 1)]) [.t 8, .t 10],
 .o 12 (.box 0) [.t 11],
 .o 13 (.callp rat_Rat_Add) [.t 5, .t 12],
 .M 4 13])
 .ret))⟩
def f_rat_Rat_Add : EF := ⟨[0, 1], [.tmp 4], (.seq (.region 0 [.C 4 (.nilp)])
 (.seq (.seq (.region 0 [.M 5 0,
 .o 6 (.callc rat_Rat_Den) [.t 5],
 .M 7 1,
 .o 8 (.callc rat_Rat_Den) [.t 7],
 .o 9 (.callc num_Int_Cmp) [.t 6, .t 8],
 .o 10 (.binI .eql) [.t 9, .k (.int .i64 0)]])
 (.cond (.t 10) (.seq (.region 0 [.M 11 0,
 .o 12 (.callc rat_Rat_Num) [.t 11],
 .M 13 1,
 .o 14 (.callc rat_Rat_Num) [.t 13],
 .o 15 (.callc num_Int_Add) [.t 12, .t 14],
 .M 16 0,
 .o 17 (.callc rat_Rat_Den) [.t 16],
 .o 18 (.callc rat_sure) [.t 15, .t 17],
 .M 4 18])
 .ret)
 .skip))
 (.seq (.region 0 [.M 19 0,
 .o 20 (.callc rat_Rat_Num) [.t 19],
 .M 21 1,
 .o 22 (.callc rat_Rat_Den) [.t 21],
 .o 23 (.callc num_Int_Mul) [.t 20, .t 22],
 .M 24 1,
 .o 25 (.callc rat_Rat_Num) [.t 24],
 .M 26 0,
 .o 27 (.callc rat_Rat_Den) [.t 26],
 .o 28 (.callc num_Int_Mul) [.t 25, .t 27],
 .o 29 (.callc num_Int_Add) [.t 23, .t 28],
 .M 30 0,
 .o 31 (.callc rat_Rat_Den) [.t 30],
 .M 32 1,
 .o 33 (.callc rat_Rat_Den) [.t 32],
 .o 34 (.callc num_Int_Mul) [.t 31, .t 33],
 .o 35 (.callc rat_sure) [.t 29, .t 34],
 .M 4 35])
 .ret)))⟩
def f_rentierlaw13_Five : EF := ⟨[0, 1], [.cell 4 true 9], (.seq (.region 1 [.o 4 (.alloc 0 [.int .i64 0, .int .i64 0, .int .i64 0, .str [], .str [], .int .i64 0, .int .i64 0, .bool false, .int .i64 0]) []])
 (.seq (.region 0 [.M 5 0,
 .M 6 1,
 .o 7 (.build [.int .i64 0, .int .i64 0, .int .i64 0, .str [], .str [], .int .i64 0, .int .i64 0, .bool false, .int .i64 0] [(0, 1), (1, 1), (2, 1), (3, 1), (4, 1), (5, 1), (6, 1)]) [.k (.int .i64 36524), .k (.int .i64 38351), .k (.int .i64 2), .t 5, .k (.str [49, 48, 48]), .t 6, .k (.int .i64 0)],
 ⟨.store 9, [.t 4, .t 7], none, none⟩])
 .ret))⟩
def f_month_End : EF := ⟨[0, 1], [.tmp 4, .tmp 5], (.seq (.region 0 [.C 4 (.int .i64 0),
 .C 5 (.nili)])
 (.seq (.region 0 [.M 6 0,
 .M 7 1,
 .M 8 0,
 .M 9 1,
 .o 10 (.callc date_Length) [.t 8, .t 9],
 .o 11 (.build [.int .i64 0, .int .i64 0, .int .i64 0] [(0, 1), (1, 1), (2, 1)]) [.t 6, .t 7, .t 10],
 .o 12 (.callc date_Of) [.t 11],
 .o 13 (.ext 0) [.t 12],
 .o 14 (.ext 1) [.t 12],
 .M 4 13,
 .M 5 14])
 .ret))⟩
def f_month_Last : EF := ⟨[0], [.tmp 2], (.seq (.region 0 [.C 2 (.bool false)])
 (.seq (.region 1 [.M 6 0,
 .o 7 (.callc date_Civil) [.t 6],
 .M 5 7,
 .o 8 (.ext 0) [.t 5],
 .o 9 (.ext 1) [.t 5],
 .o 3 (.alloc 0 [.int .i64 0, .int .i64 0, .int .i64 0]) [],
 ⟨.store 3, [.t 3, .t 8], none, none⟩,
 .M 4 9])
 (.seq (.drawn 0 [(0, .M 10 4),
 (1, .o 11 (.eqN false true) [.t 10, .k (.nili)]),
 (2, .M 12 11),
 (3, .g 12 true 13 (.fadr 2) [.t 3]),
 (4, .g 12 true 14 (.load1) [.t 13]),
 (5, .g 12 true 15 (.fadr 0) [.t 3]),
 (6, .g 12 true 16 (.load1) [.t 15]),
 (7, .g 12 true 17 (.fadr 1) [.t 3]),
 (8, .g 12 true 18 (.load1) [.t 17]),
 (9, .g 12 true 19 (.callc date_Length) [.t 16, .t 18]),
 (10, .g 12 true 20 (.binI .eql) [.t 14, .t 19]),
 (11, .o 21 .pick [.t 12, .t 20, .k (.bool false)]),
 (12, .M 2 21)])
 .ret)))⟩
def f_month_Between : EF := ⟨[0, 1], [.tmp 4], (.seq (.region 0 [.C 4 (.int .i64 0)])
 (.seq (.region 1 [.M 10 0,
 .o 11 (.callc date_Civil) [.t 10],
 .M 9 11,
 .o 12 (.ext 0) [.t 9],
 .o 13 (.ext 1) [.t 9],
 .o 5 (.alloc 0 [.int .i64 0, .int .i64 0, .int .i64 0]) [],
 ⟨.store 3, [.t 5, .t 12], none, none⟩,
 .M 6 13])
 (.seq (.region 1 [.M 15 1,
 .o 16 (.callc date_Civil) [.t 15],
 .M 14 16,
 .o 17 (.ext 0) [.t 14],
 .o 18 (.ext 1) [.t 14],
 .o 7 (.alloc 0 [.int .i64 0, .int .i64 0, .int .i64 0]) [],
 ⟨.store 3, [.t 7, .t 17], none, none⟩,
 .M 8 18])
 (.seq (.seq (.region 0 [.M 19 6,
 .o 20 (.eqN true true) [.t 19, .k (.nili)],
 .M 21 20,
 .g 21 false 22 (.mov) [.t 8],
 .g 21 false 23 (.eqN true true) [.t 22, .k (.nili)],
 .o 24 .pick [.t 21, .k (.bool true), .t 23]])
 (.cond (.t 24) (.seq (.region 0 [.C 4 (.int .i64 0)])
 .ret)
 .skip))
 (.seq (.region 0 [.o 25 (.fadr 0) [.t 7],
 .o 26 .load1 [.t 25],
 .o 27 (.fadr 0) [.t 5],
 .o 28 .load1 [.t 27],
 .o 29 (.binI .sub) [.t 26, .t 28],
 .o 30 (.binI .mul) [.t 29, .k (.int .i64 12)],
 .o 31 (.fadr 1) [.t 7],
 .o 32 .load1 [.t 31],
 .o 33 (.binI .add) [.t 30, .t 32],
 .o 34 (.fadr 1) [.t 5],
 .o 35 .load1 [.t 34],
 .o 36 (.binI .sub) [.t 33, .t 35],
 .M 4 36])
 .ret)))))⟩
def f_plan_Regular : EF := ⟨[0, 1], [.tmp 4], (.seq (.region 2 [.o 2 (.box 0) [.t 0],
 .o 3 (.box 1) [.t 1],
 .C 4 (.bool false)])
 (.seq (.region 0 [.o 8 (.loadA 9) [.t 2],
 .o 9 (.fadr 1) [.t 3],
 .o 10 .load1 [.t 9],
 .o 11 (.callc plan_Quasi) [.t 8, .t 10],
 .M 7 11,
 .o 12 (.ext 0) [.t 7],
 .o 13 (.ext 1) [.t 7],
 .M 5 12,
 .M 6 13])
 (.seq (.region 0 [.M 14 6,
 .o 15 (.eqN false true) [.t 14, .k (.nili)],
 .M 16 15,
 .g 16 true 17 (.mov) [.t 5],
 .g 16 true 18 (.fadr 0) [.t 3],
 .g 16 true 19 (.load1) [.t 18],
 .g 16 true 20 (.binI .eql) [.t 17, .t 19],
 .o 21 .pick [.t 16, .t 20, .k (.bool false)],
 .M 4 21])
 .ret)))⟩
def flow_Part_b1 : EC := (.seq (.region 0 [.o 80 (.binI .lss) [.t 79, .t 78]])
 (.seq (.cond (.t 80) .skip
 (.exit 0))
 (.seq (.block 1 (.seq (.region 1 [.o 81 (.iadr 2) [.t 77, .t 79],
 .o 82 (.loadA 2) [.t 81],
 .o 17 (.alloc 0 [.int .i64 0, .int .i64 0]) [],
 ⟨.store 2, [.t 17, .t 82], none, none⟩])
 (.seq (.region 0 [.M 83 3,
 .o 84 (.fadr 1) [.t 17],
 .o 85 .load1 [.t 84],
 .o 86 .mn [.t 83, .t 85],
 .M 87 2,
 .o 88 (.fadr 0) [.t 17],
 .o 89 .load1 [.t 88],
 .o 90 .mx [.t 87, .t 89],
 .o 91 (.binI .sub) [.t 86, .t 90],
 .M 18 91])
 (.seq (.region 0 [.M 93 18,
 .o 94 .mx [.t 93, .k (.int .i64 0)],
 .o 95 (.fadr 2) [.t 4],
 .o 96 .load1 [.t 95],
 .o 97 (.fadr 1) [.t 17],
 .o 98 .load1 [.t 97],
 .o 99 (.fadr 0) [.t 17],
 .o 100 .load1 [.t 99],
 .o 101 (.binI .sub) [.t 98, .t 100],
 .o 102 (.binI .mul) [.t 96, .t 101],
 .o 103 (.callc rat_Of) [.t 94, .t 102],
 .M 92 103,
 .o 104 (.ext 0) [.t 92],
 .o 105 (.ext 1) [.t 92],
 .M 19 104,
 .M 20 105])
 (.region 0 [.M 106 14,
 .M 107 19,
 .o 108 (.callc rat_Rat_Add) [.t 106, .t 107],
 .M 14 108])))))
 (.region 0 [.o 109 (.binI .add) [.t 79, .k (.int .i64 1)],
 .M 79 109]))))
def f_flow_Part : EF := ⟨[0, 1, 2, 3], [.tmp 8, .tmp 9], (.seq (.region 2 [.o 4 (.box 0) [.t 0],
 .o 5 (.box 1) [.t 1],
 .C 8 (.nilp),
 .C 9 (.nili)])
 (.seq (.seq (.region 0 [.o 22 (.loadA 9) [.t 4],
 .o 23 (.callc plan_Of) [.t 22],
 .M 21 23,
 .o 24 (.ext 0) [.t 21],
 .o 25 (.ext 1) [.t 21],
 .M 10 24,
 .M 11 25])
 (.seq (.region 0 [.M 26 11,
 .o 27 (.eqN true true) [.t 26, .k (.nili)]])
 (.cond (.t 27) (.seq (.region 0 [.M 28 11,
 .C 8 (.nilp),
 .M 9 28])
 .ret)
 .skip)))
 (.seq (.region 0 [.C 12 (.sl 0 [])])
 (.seq (.seq (.region 0 [.o 29 (.fadr 5) [.t 4],
 .o 30 .load1 [.t 29],
 .o 31 (.binI .eql) [.t 30, .k (.int .i64 4)]])
 (.join [2, 3, 4, 5, 8, 9, 12] (.cond (.t 31) (.seq (.region 0 [.C 13 (.nili)])
 (.seq (.region 0 [.o 33 (.loadA 9) [.t 4],
 .o 34 (.loadA 2) [.t 5],
 .o 35 (.callc flow_quasis) [.t 33, .t 34],
 .M 32 35,
 .o 36 (.ext 0) [.t 32],
 .o 37 (.ext 1) [.t 32],
 .M 12 36,
 .M 13 37])
 (.seq (.region 0 [.M 38 13,
 .o 39 (.eqN true true) [.t 38, .k (.nili)]])
 (.cond (.t 39) (.seq (.region 0 [.M 40 13,
 .C 8 (.nilp),
 .M 9 40])
 .ret)
 .skip))))
 .skip)))
 (.seq (.seq (.region 0 [.M 41 2,
 .o 42 (.fadr 0) [.t 5],
 .o 43 .load1 [.t 42],
 .o 44 (.binI .lss) [.t 41, .t 43],
 .M 45 44,
 .g 45 false 46 (.mov) [.t 3],
 .g 45 false 47 (.mov) [.t 2],
 .g 45 false 48 (.binI .lss) [.t 46, .t 47],
 .o 49 .pick [.t 45, .k (.bool true), .t 48],
 .M 50 49,
 .g 50 false 51 (.fadr 1) [.t 5],
 .g 50 false 52 (.load1) [.t 51],
 .g 50 false 53 (.mov) [.t 3],
 .g 50 false 54 (.binI .lss) [.t 52, .t 53],
 .o 55 .pick [.t 50, .k (.bool true), .t 54]])
 (.cond (.t 55) (.seq (.region 0 [.o 56 (.callc fault_Of) [.k (.int .i64 6)],
 .C 8 (.nilp),
 .M 9 56])
 .ret)
 .skip))
 (.seq (.seq (.region 0 [.o 57 (.fadr 5) [.t 4],
 .o 58 .load1 [.t 57],
 .o 59 (.binI .neq) [.t 58, .k (.int .i64 4)]])
 (.cond (.t 59) (.seq (.region 0 [.o 60 (.fadr 5) [.t 4],
 .o 61 .load1 [.t 60],
 .M 62 2,
 .M 63 3,
 .o 64 (.fadr 0) [.t 5],
 .o 65 .load1 [.t 64],
 .o 66 (.fadr 1) [.t 5],
 .o 67 .load1 [.t 66],
 .o 68 (.fadr 2) [.t 4],
 .o 69 .load1 [.t 68],
 .o 70 (.callc count_Part) [.t 61, .t 62, .t 63, .t 65, .t 67, .t 69],
 .o 71 (.ext 0) [.t 70],
 .o 72 (.ext 1) [.t 70],
 .M 8 71,
 .M 9 72])
 .ret)
 .skip))
 (.seq (.region 0 [.o 74 (.callc rat_Of) [.k (.int .i64 0), .k (.int .i64 1)],
 .M 73 74,
 .o 75 (.ext 0) [.t 73],
 .o 76 (.ext 1) [.t 73],
 .M 14 75,
 .M 15 76])
 (.seq (.seq (.region 0 [.M 77 12,
 .o 78 .lenL [.t 77],
 .C 79 (.int .i64 0)])
 (.block 0 (.loop [2, 3, 4, 14, 77, 78, 79] [14] flow_Part_b1)))
 (.seq (.region 0 [.M 110 14,
 .M 8 110,
 .C 9 (.nili)])
 .ret)))))))))⟩
def f_rat_Of : EF := ⟨[0, 1], [.tmp 4, .tmp 5], (.seq (.region 0 [.C 4 (.nilp),
 .C 5 (.nili)])
 (.seq (.region 0 [.M 6 0,
 .o 7 (.callc num_Of) [.t 6],
 .M 8 1,
 .o 9 (.callc num_Of) [.t 8],
 .o 10 (.callc rat_New) [.t 7, .t 9],
 .o 11 (.ext 0) [.t 10],
 .o 12 (.ext 1) [.t 10],
 .M 4 11,
 .M 5 12])
 .ret))⟩
def f_rat_Rat_Cmp : EF := ⟨[0, 1], [.tmp 4], (.seq (.region 0 [.C 4 (.int .i64 0)])
 (.seq (.region 0 [.M 5 0,
 .o 6 (.callc rat_Rat_Num) [.t 5],
 .M 7 1,
 .o 8 (.callc rat_Rat_Den) [.t 7],
 .o 9 (.callc num_Int_Mul) [.t 6, .t 8],
 .M 10 1,
 .o 11 (.callc rat_Rat_Num) [.t 10],
 .M 12 0,
 .o 13 (.callc rat_Rat_Den) [.t 12],
 .o 14 (.callc num_Int_Mul) [.t 11, .t 13],
 .o 15 (.callc num_Int_Cmp) [.t 9, .t 14],
 .M 4 15])
 .ret))⟩
def f_flow_Pay : EF := ⟨[0, 1], [.tmp 4, .tmp 5], (.seq (.region 2 [.o 2 (.box 0) [.t 0],
 .o 3 (.box 1) [.t 1],
 .C 4 (.nilp),
 .C 5 (.nili)])
 (.seq (.seq (.region 0 [.o 11 (.loadA 9) [.t 2],
 .o 12 (.callc plan_Of) [.t 11],
 .M 10 12,
 .o 13 (.ext 0) [.t 10],
 .o 14 (.ext 1) [.t 10],
 .M 6 13,
 .M 7 14])
 (.seq (.region 0 [.M 15 7,
 .o 16 (.eqN true true) [.t 15, .k (.nili)]])
 (.cond (.t 16) (.seq (.region 0 [.M 17 7,
 .C 4 (.nilp),
 .M 5 17])
 .ret)
 .skip)))
 (.seq (.seq (.region 0 [.o 18 (.loadA 9) [.t 2],
 .o 19 (.loadA 2) [.t 3],
 .o 20 (.callc plan_Regular) [.t 18, .t 19]])
 (.cond (.t 20) (.seq (.region 0 [.o 21 (.loadA 9) [.t 2],
 .o 22 (.callc flow_regular) [.t 21],
 .M 4 22,
 .C 5 (.nili)])
 .ret)
 .skip))
 (.seq (.region 0 [.o 24 (.loadA 9) [.t 2],
 .o 25 (.loadA 2) [.t 3],
 .o 26 (.fadr 0) [.t 3],
 .o 27 .load1 [.t 26],
 .o 28 (.fadr 1) [.t 3],
 .o 29 .load1 [.t 28],
 .o 30 (.callc flow_Part) [.t 24, .t 25, .t 27, .t 29],
 .M 23 30,
 .o 31 (.ext 0) [.t 23],
 .o 32 (.ext 1) [.t 23],
 .M 8 31,
 .M 9 32])
 (.seq (.seq (.region 0 [.M 33 9,
 .o 34 (.eqN true true) [.t 33, .k (.nili)]])
 (.cond (.t 34) (.seq (.region 0 [.M 35 9,
 .C 4 (.nilp),
 .M 5 35])
 .ret)
 .skip))
 (.seq (.region 0 [.o 36 (.loadA 9) [.t 2],
 .o 37 (.callc bond_Coupon) [.t 36],
 .M 38 8,
 .o 39 (.callc rat_Rat_Mul) [.t 37, .t 38],
 .M 4 39,
 .C 5 (.nili)])
 .ret))))))⟩
def f_rat_Rat_Mul : EF := ⟨[0, 1], [.tmp 4], (.seq (.region 0 [.C 4 (.nilp)])
 (.seq (.region 0 [.M 5 0,
 .o 6 (.callc rat_Rat_Num) [.t 5],
 .M 7 1,
 .o 8 (.callc rat_Rat_Num) [.t 7],
 .o 9 (.callc num_Int_Mul) [.t 6, .t 8],
 .M 10 0,
 .o 11 (.callc rat_Rat_Den) [.t 10],
 .M 12 1,
 .o 13 (.callc rat_Rat_Den) [.t 12],
 .o 14 (.callc num_Int_Mul) [.t 11, .t 13],
 .o 15 (.callc rat_sure) [.t 9, .t 14],
 .M 4 15])
 .ret))⟩
def f_accr_Ex : EF := ⟨[0, 1], [.tmp 4, .tmp 5], (.seq (.region 1 [.o 2 (.box 0) [.t 0],
 .C 4 (.bool false),
 .C 5 (.nili)])
 (.seq (.region 1 [.o 9 (.loadA 9) [.t 2],
 .M 10 1,
 .o 11 (.callc accr_period) [.t 9, .t 10],
 .M 8 11,
 .o 12 (.ext 0) [.t 8],
 .o 13 (.ext 1) [.t 8],
 .o 6 (.alloc 0 [.int .i64 0, .int .i64 0]) [],
 ⟨.store 2, [.t 6, .t 12], none, none⟩,
 .M 7 13])
 (.seq (.region 0 [.M 14 7,
 .o 15 (.eqN false true) [.t 14, .k (.nili)],
 .M 16 15,
 .g 16 true 17 (.fadr 8) [.t 2],
 .g 16 true 18 (.load1) [.t 17],
 .g 16 true 19 (.binI .gtr) [.t 18, .k (.int .i64 0)],
 .o 20 .pick [.t 16, .t 19, .k (.bool false)],
 .M 21 20,
 .g 21 true 22 (.mov) [.t 1],
 .g 21 true 23 (.fadr 1) [.t 6],
 .g 21 true 24 (.load1) [.t 23],
 .g 21 true 25 (.fadr 8) [.t 2],
 .g 21 true 26 (.load1) [.t 25],
 .g 21 true 27 (.binI .sub) [.t 24, .t 26],
 .g 21 true 28 (.binI .geq) [.t 22, .t 27],
 .o 29 .pick [.t 21, .t 28, .k (.bool false)],
 .M 30 7,
 .M 4 29,
 .M 5 30])
 .ret)))⟩
def flow_Left_b1 : EC := (.seq (.seq (.region 0 [.M 27 6,
 .o 28 (.iadr 2) [.t 27, .k (.int .i64 0)],
 .o 29 (.fadr 0) [.t 28],
 .o 30 .load1 [.t 29],
 .M 31 1,
 .o 32 (.binI .leq) [.t 30, .t 31]])
 (.cond (.t 32) .skip
 (.exit 0)))
 (.block 1 (.region 0 [.M 33 6,
 .o 34 (.slL 2 true false) [.t 33, .k (.int .i64 1)],
 .M 6 34])))
def f_flow_Left : EF := ⟨[0, 1], [.tmp 4, .tmp 5], (.seq (.region 1 [.o 2 (.box 0) [.t 0],
 .C 4 (.sl 0 []),
 .C 5 (.nili)])
 (.seq (.region 0 [.o 9 (.loadA 9) [.t 2],
 .o 10 (.calla flow_Of) [.t 9],
 .M 8 10,
 .o 11 (.ext 0) [.t 8],
 .o 12 (.ext 1) [.t 8],
 .M 6 11,
 .M 7 12])
 (.seq (.seq (.region 0 [.M 13 7,
 .o 14 (.eqN true true) [.t 13, .k (.nili)]])
 (.cond (.t 14) (.seq (.region 0 [.M 15 7,
 .C 4 (.sl 0 []),
 .M 5 15])
 .ret)
 .skip))
 (.seq (.seq (.region 0 [.M 16 1,
 .o 17 (.fadr 0) [.t 2],
 .o 18 .load1 [.t 17],
 .o 19 (.binI .lss) [.t 16, .t 18],
 .M 20 19,
 .g 20 false 21 (.mov) [.t 1],
 .g 20 false 22 (.fadr 1) [.t 2],
 .g 20 false 23 (.load1) [.t 22],
 .g 20 false 24 (.binI .geq) [.t 21, .t 23],
 .o 25 .pick [.t 20, .k (.bool true), .t 24]])
 (.cond (.t 25) (.seq (.region 0 [.o 26 (.callc fault_Of) [.k (.int .i64 6)],
 .C 4 (.sl 0 []),
 .M 5 26])
 .ret)
 .skip))
 (.seq (.block 0 (.loop [1, 2, 6] [1, 2, 6] flow_Left_b1))
 (.seq (.seq (.drawn 0 [(0, .o 35 (.fadr 8) [.t 2]),
 (1, .o 36 .load1 [.t 35]),
 (2, .o 37 (.binI .gtr) [.t 36, .k (.int .i64 0)]),
 (3, .M 38 37),
 (4, .g 38 true 39 (.mov) [.t 1]),
 (5, .g 38 true 40 (.mov) [.t 6]),
 (6, .g 38 true 41 (.iadr 2) [.t 40, .k (.int .i64 0)]),
 (7, .g 38 true 42 (.fadr 0) [.t 41]),
 (8, .g 38 true 43 (.load1) [.t 42]),
 (9, .g 38 true 44 (.fadr 8) [.t 2]),
 (10, .g 38 true 45 (.load1) [.t 44]),
 (11, .g 38 true 46 (.binI .sub) [.t 43, .t 45]),
 (12, .g 38 true 47 (.binI .geq) [.t 39, .t 46]),
 (13, .o 48 .pick [.t 38, .t 47, .k (.bool false)])])
 (.join [4, 5, 6] (.cond (.t 48) (.seq (.seq (.region 0 [.M 49 6,
 .o 50 .lenL [.t 49],
 .o 51 (.binI .gtr) [.t 50, .k (.int .i64 1)]])
 (.cond (.t 51) (.seq (.region 0 [.M 52 6,
 .o 53 (.slL 2 true false) [.t 52, .k (.int .i64 1)],
 .M 4 53,
 .C 5 (.nili)])
 .ret)
 .skip))
 (.region 0 [.M 54 6,
 .o 55 (.loadA 9) [.t 2],
 .o 56 (.callc bond_Redeem) [.t 55],
 .o 57 (.callc rat_Rat_Text) [.t 56],
 .o 58 (.iadr 2) [.t 54, .k (.int .i64 0)],
 .o 59 (.fadr 1) [.t 58],
 ⟨.store 1, [.t 59, .t 57], none, none⟩]))
 .skip)))
 (.seq (.region 0 [.M 60 6,
 .M 4 60,
 .C 5 (.nili)])
 .ret)))))))⟩
def f_rat_Rat_Text : EF := ⟨[0], [.tmp 2], (.seq (.region 0 [.C 2 (.str [])])
 (.seq (.seq (.region 0 [.M 4 0,
 .o 5 (.callc rat_Rat_Den) [.t 4],
 .o 6 (.callc num_Int_Text) [.t 5],
 .M 3 6])
 (.seq (.region 0 [.M 7 3,
 .o 8 (.binS .neq) [.t 7, .k (.str [49])]])
 (.cond (.t 8) (.seq (.region 0 [.M 9 0,
 .o 10 (.callc rat_Rat_Num) [.t 9],
 .o 11 (.callc num_Int_Text) [.t 10],
 .o 12 (.binS .add) [.t 11, .k (.str [47])],
 .M 13 3,
 .o 14 (.binS .add) [.t 12, .t 13],
 .M 2 14])
 .ret)
 .skip)))
 (.seq (.region 0 [.M 15 0,
 .o 16 (.callc rat_Rat_Num) [.t 15],
 .o 17 (.callc num_Int_Text) [.t 16],
 .M 2 17])
 .ret)))⟩
def plan_anchors_b1 : EC := (.seq (.block 1 (.seq (.region 0 [.o 12 (.loadA 9) [.t 1],
 .M 13 6,
 .o 14 (.callc plan_anchor) [.t 12, .t 13],
 .M 11 14,
 .o 15 (.ext 0) [.t 11],
 .o 16 (.ext 1) [.t 11],
 .M 7 15,
 .M 8 16])
 (.seq (.seq (.region 0 [.M 17 8,
 .o 18 .not [.t 17],
 .M 19 18,
 .g 19 false 20 (.mov) [.t 7],
 .g 19 false 21 (.fadr 0) [.t 1],
 .g 19 false 22 (.load1) [.t 21],
 .g 19 false 23 (.binI .leq) [.t 20, .t 22],
 .o 24 .pick [.t 19, .k (.bool true), .t 23]])
 (.cond (.t 24) (.seq (.region 0 [.M 25 5,
 .M 26 7,
 .M 27 8,
 .M 2 25,
 .M 3 26,
 .M 4 27])
 .ret)
 .skip))
 (.region 1 [.M 28 5,
 .M 29 7,
 .o 30 (.bsl 1 1 [.int .i64 0] [(0, 1)]) [.t 29],
 .o 31 (.app 0 1) [.t 28, .t 30],
 .M 5 31]))))
 (.region 0 [.M 9 6,
 .o 10 (.binI .add) [.t 9, .k (.int .i64 1)],
 .M 6 10]))
def f_plan_anchors : EF := ⟨[0], [.tmp 2, .tmp 3, .tmp 4], (.seq (.region 1 [.o 1 (.box 0) [.t 0],
 .C 2 (.nils),
 .C 3 (.int .i64 0),
 .C 4 (.bool false)])
 (.seq (.region 0 [.C 5 (.nils)])
 (.seq (.region 0 [.C 6 (.int .i64 0)])
 (.block 0 (.loop [1, 5, 6] [2, 3, 4] plan_anchors_b1)))))⟩
def slices_Reverse_int_b1 : EC := (.seq (.seq (.region 0 [.M 7 2,
 .M 8 3,
 .o 9 (.binI .lss) [.t 7, .t 8]])
 (.cond (.t 9) .skip
 (.exit 0)))
 (.seq (.block 1 (.drawn 0 [(0, .M 14 0),
 (1, .M 15 2),
 (2, .M 16 0),
 (3, .M 17 3),
 (4, .M 18 0),
 (5, .M 19 3),
 (6, .o 20 (.iadr 1) [.t 18, .t 19]),
 (7, .o 21 .load1 [.t 20]),
 (8, .M 22 0),
 (9, .M 23 2),
 (10, .o 24 (.iadr 1) [.t 22, .t 23]),
 (11, .o 25 .load1 [.t 24]),
 (12, .o 26 (.iadr 1) [.t 14, .t 15]),
 (13, ⟨.store 1, [.t 26, .t 21], none, none⟩),
 (14, .o 27 (.iadr 1) [.t 16, .t 17]),
 (15, ⟨.store 1, [.t 27, .t 25], none, none⟩)]))
 (.region 0 [.M 10 2,
 .o 11 (.binI .add) [.t 10, .k (.int .i64 1)],
 .M 12 3,
 .o 13 (.binI .sub) [.t 12, .k (.int .i64 1)],
 .M 2 11,
 .M 3 13])))
def f_slices_Reverse_int : EF := ⟨[0], [], (.seq (.region 0 [.M 4 0,
 .o 5 .lenL [.t 4],
 .o 6 (.binI .sub) [.t 5, .k (.int .i64 1)],
 .C 2 (.int .i64 0),
 .M 3 6])
 (.block 0 (.loop [0, 2, 3] [] slices_Reverse_int_b1)))⟩
def f_fault_New : EF := ⟨[0, 1], [.tmp 4], (.seq (.region 0 [.C 4 (.nili)])
 (.seq (.seq (.region 0 [.M 5 0,
 .o 6 (.binI .eql) [.t 5, .k (.int .i64 0)]])
 (.cond (.t 6) (.seq (.region 0 [.C 4 (.nili)])
 .ret)
 .skip))
 (.seq (.region 1 [.M 7 0,
 .M 8 1,
 .o 9 (.build [.int .i64 0, .str [], .nili] [(0, 1), (1, 1)]) [.t 7, .t 8],
 .o 10 (.box 0) [.t 9],
 .o 11 (.mkif ty_Fault) [.t 10],
 .M 4 11])
 .ret)))⟩
def f_flow_regular : EF := ⟨[0], [.tmp 2], (.seq (.region 1 [.o 1 (.box 0) [.t 0],
 .C 2 (.nilp)])
 (.seq (.region 0 [.o 6 (.fadr 2) [.t 1],
 .o 7 .load1 [.t 6],
 .o 8 (.callc rat_Of) [.k (.int .i64 1), .t 7],
 .M 5 8,
 .o 9 (.ext 0) [.t 5],
 .o 10 (.ext 1) [.t 5],
 .M 3 9,
 .M 4 10])
 (.seq (.region 0 [.o 11 (.loadA 9) [.t 1],
 .o 12 (.callc bond_Coupon) [.t 11],
 .M 13 3,
 .o 14 (.callc rat_Rat_Mul) [.t 12, .t 13],
 .M 2 14])
 .ret)))⟩
def f_accr_period : EF := ⟨[0, 1], [.cell 4 true 2, .tmp 5], (.seq (.region 2 [.o 2 (.box 0) [.t 0],
 .o 4 (.alloc 1 [.int .i64 0, .int .i64 0]) [],
 .C 5 (.nili)])
 (.seq (.seq (.region 0 [.o 11 (.loadA 9) [.t 2],
 .M 12 1,
 .o 13 (.callc flow_Left) [.t 11, .t 12],
 .M 10 13,
 .o 14 (.ext 0) [.t 10],
 .o 15 (.ext 1) [.t 10],
 .M 6 14,
 .M 7 15])
 (.seq (.region 0 [.M 16 7,
 .o 17 (.eqN true true) [.t 16, .k (.nili)]])
 (.cond (.t 17) (.seq (.region 0 [.o 18 (.build [.int .i64 0, .int .i64 0] []) [],
 .M 19 7,
 ⟨.store 2, [.t 4, .t 18], none, none⟩,
 .M 5 19])
 .ret)
 .skip)))
 (.seq (.region 0 [.o 21 (.loadA 9) [.t 2],
 .o 22 (.callc plan_Of) [.t 21],
 .M 20 22,
 .o 23 (.ext 0) [.t 20],
 .o 24 (.ext 1) [.t 20],
 .M 8 23,
 .M 9 24])
 (.seq (.seq (.region 0 [.M 25 9,
 .o 26 (.eqN true true) [.t 25, .k (.nili)]])
 (.cond (.t 26) (.seq (.region 0 [.o 27 (.build [.int .i64 0, .int .i64 0] []) [],
 .M 28 9,
 ⟨.store 2, [.t 4, .t 27], none, none⟩,
 .M 5 28])
 .ret)
 .skip))
 (.seq (.region 0 [.M 29 8,
 .M 30 8,
 .M 31 1,
 .o 32 (.callc plan_At) [.t 30, .t 31],
 .o 33 (.iadr 2) [.t 29, .t 32],
 .o 34 (.loadA 2) [.t 33],
 ⟨.store 2, [.t 4, .t 34], none, none⟩,
 .C 5 (.nili)])
 .ret)))))⟩
def f_accr_gone : EF := ⟨[0, 1, 2], [.tmp 6, .tmp 7], (.seq (.region 2 [.o 3 (.box 0) [.t 0],
 .o 4 (.box 1) [.t 1],
 .C 6 (.nilp),
 .C 7 (.nili)])
 (.seq (.seq (.region 0 [.o 13 (.fadr 5) [.t 3],
 .o 14 .load1 [.t 13],
 .o 15 (.binI .eql) [.t 14, .k (.int .i64 4)],
 .M 16 15,
 .g 16 true 17 (.loadA 9) [.t 3],
 .g 16 true 18 (.loadA 2) [.t 4],
 .g 16 true 19 (.callc plan_Regular) [.t 17, .t 18],
 .o 20 .pick [.t 16, .t 19, .k (.bool false)]])
 (.cond (.t 20) (.seq (.region 0 [.o 22 (.loadA 9) [.t 3],
 .o 23 (.loadA 2) [.t 4],
 .o 24 (.callc flow_Pay) [.t 22, .t 23],
 .M 21 24,
 .o 25 (.ext 0) [.t 21],
 .o 26 (.ext 1) [.t 21],
 .M 8 25,
 .M 9 26])
 (.seq (.seq (.region 0 [.M 27 9,
 .o 28 (.eqN true true) [.t 27, .k (.nili)]])
 (.cond (.t 28) (.seq (.region 0 [.M 29 9,
 .C 6 (.nilp),
 .M 7 29])
 .ret)
 .skip))
 (.seq (.region 0 [.M 31 2,
 .o 32 (.fadr 0) [.t 4],
 .o 33 .load1 [.t 32],
 .o 34 (.binI .sub) [.t 31, .t 33],
 .o 35 (.fadr 1) [.t 4],
 .o 36 .load1 [.t 35],
 .o 37 (.fadr 0) [.t 4],
 .o 38 .load1 [.t 37],
 .o 39 (.binI .sub) [.t 36, .t 38],
 .o 40 (.callc rat_Of) [.t 34, .t 39],
 .M 30 40,
 .o 41 (.ext 0) [.t 30],
 .o 42 (.ext 1) [.t 30],
 .M 10 41,
 .M 9 42])
 (.seq (.region 0 [.M 43 8,
 .M 44 10,
 .o 45 (.callc rat_Rat_Mul) [.t 43, .t 44],
 .M 46 9,
 .M 6 45,
 .M 7 46])
 .ret))))
 .skip))
 (.seq (.region 0 [.o 48 (.loadA 9) [.t 3],
 .o 49 (.loadA 2) [.t 4],
 .o 50 (.fadr 0) [.t 4],
 .o 51 .load1 [.t 50],
 .M 52 2,
 .o 53 (.callc flow_Part) [.t 48, .t 49, .t 51, .t 52],
 .M 47 53,
 .o 54 (.ext 0) [.t 47],
 .o 55 (.ext 1) [.t 47],
 .M 11 54,
 .M 12 55])
 (.seq (.seq (.region 0 [.M 56 12,
 .o 57 (.eqN true true) [.t 56, .k (.nili)]])
 (.cond (.t 57) (.seq (.region 0 [.M 58 12,
 .C 6 (.nilp),
 .M 7 58])
 .ret)
 .skip))
 (.seq (.region 0 [.o 59 (.loadA 9) [.t 3],
 .o 60 (.callc bond_Coupon) [.t 59],
 .M 61 11,
 .o 62 (.callc rat_Rat_Mul) [.t 60, .t 61],
 .M 6 62,
 .C 7 (.nili)])
 .ret)))))⟩
def price_amounts_b1 : EC := (.seq (.region 0 [.o 42 (.binI .lss) [.t 41, .t 40]])
 (.seq (.cond (.t 42) .skip
 (.exit 0))
 (.seq (.block 1 (.seq (.region 1 [.o 43 (.iadr 2) [.t 39, .t 41],
 .o 44 (.loadA 2) [.t 43],
 .o 12 (.alloc 0 [.int .i64 0, .str []]) [],
 ⟨.store 2, [.t 12, .t 44], none, none⟩])
 (.seq (.region 0 [.o 46 (.fadr 1) [.t 12],
 .o 47 .load1 [.t 46],
 .o 48 (.callc rat_Get) [.t 47],
 .M 45 48,
 .o 49 (.ext 0) [.t 45],
 .o 50 (.ext 1) [.t 45],
 .M 13 49,
 .M 14 50])
 (.region 1 [.M 51 10,
 .M 52 13,
 .o 53 (.bsl 1 1 [.nilp] [(0, 1)]) [.t 52],
 .o 54 (.app 0 1) [.t 51, .t 53],
 .M 10 54]))))
 (.region 0 [.o 55 (.binI .add) [.t 41, .k (.int .i64 1)],
 .M 41 55]))))
def f_price_amounts : EF := ⟨[0, 1], [.tmp 4, .tmp 5], (.seq (.region 1 [.o 2 (.box 0) [.t 0],
 .C 4 (.nils),
 .C 5 (.nili)])
 (.seq (.region 0 [.o 20 (.loadA 9) [.t 2],
 .M 21 1,
 .o 22 (.callc price_life) [.t 20, .t 21],
 .M 19 22,
 .o 23 (.ext 0) [.t 19],
 .o 24 (.ext 1) [.t 19],
 .o 25 (.ext 2) [.t 19],
 .M 6 23,
 .M 7 24,
 .M 8 25])
 (.seq (.seq (.region 0 [.M 26 8,
 .o 27 (.eqN true true) [.t 26, .k (.nili)]])
 (.cond (.t 27) (.seq (.region 0 [.M 28 8,
 .C 4 (.nils),
 .M 5 28])
 .ret)
 .skip))
 (.seq (.region 0 [.o 30 (.loadA 9) [.t 2],
 .o 31 (.callc flow_Of) [.t 30],
 .M 29 31,
 .o 32 (.ext 0) [.t 29],
 .o 33 (.ext 1) [.t 29],
 .M 9 32,
 .M 8 33])
 (.seq (.seq (.region 0 [.M 34 8,
 .o 35 (.eqN true true) [.t 34, .k (.nili)]])
 (.cond (.t 35) (.seq (.region 0 [.M 36 8,
 .C 4 (.nils),
 .M 5 36])
 .ret)
 .skip))
 (.seq (.region 0 [.C 10 (.nils)])
 (.seq (.seq (.region 0 [.M 37 9,
 .M 38 7,
 .o 39 (.slL 2 true false) [.t 37, .t 38],
 .o 40 .lenL [.t 39],
 .C 41 (.int .i64 0)])
 (.block 0 (.loop [1, 2, 6, 7, 10, 39, 40, 41] [1, 2, 6, 7, 10] price_amounts_b1)))
 (.seq (.seq (.region 0 [.o 57 (.loadA 9) [.t 2],
 .M 58 1,
 .o 59 (.callc accr_Ex) [.t 57, .t 58],
 .M 56 59,
 .o 60 (.ext 0) [.t 56],
 .o 61 (.ext 1) [.t 56],
 .M 15 60,
 .M 16 61])
 (.seq (.region 0 [.M 62 15])
 (.join [4, 5, 10] (.cond (.t 62) (.seq (.drawn 0 [(0, .o 64 (.loadA 9) [.t 2]),
 (1, .M 65 6),
 (2, .M 66 7),
 (3, .o 67 (.iadr 2) [.t 65, .t 66]),
 (4, .o 68 (.loadA 2) [.t 67]),
 (5, .o 69 (.callc flow_Pay) [.t 64, .t 68]),
 (6, .M 63 69),
 (7, .o 70 (.ext 0) [.t 63]),
 (8, .o 71 (.ext 1) [.t 63]),
 (9, .M 17 70),
 (10, .M 18 71)])
 (.seq (.seq (.region 0 [.M 72 18,
 .o 73 (.eqN true true) [.t 72, .k (.nili)]])
 (.cond (.t 73) (.seq (.region 0 [.M 74 18,
 .C 4 (.nils),
 .M 5 74])
 .ret)
 .skip))
 (.region 0 [.M 75 10,
 .M 76 10,
 .o 77 (.iadr 1) [.t 76, .k (.int .i64 0)],
 .o 78 .load1 [.t 77],
 .M 79 17,
 .o 80 (.callc rat_Rat_Sub) [.t 78, .t 79],
 .o 81 (.iadr 1) [.t 75, .k (.int .i64 0)],
 ⟨.store 1, [.t 81, .t 80], none, none⟩])))
 .skip))))
 (.seq (.region 0 [.M 82 10,
 .M 4 82,
 .C 5 (.nili)])
 .ret)))))))))⟩
def f_fault_Of : EF := ⟨[0], [.tmp 2], (.seq (.region 0 [.C 2 (.nili)])
 (.seq (.seq (.region 0 [.M 3 0,
 .o 4 (.binI .eql) [.t 3, .k (.int .i64 0)]])
 (.cond (.t 4) (.seq (.region 0 [.C 2 (.nili)])
 .ret)
 .skip))
 (.seq (.region 0 [.M 5 0,
 .o 6 (.mkif ty_plain) [.t 5],
 .M 2 6])
 .ret)))⟩
def f_price_Wait : EF := ⟨[0, 1], [.tmp 4, .tmp 5], (.seq (.region 1 [.o 2 (.box 0) [.t 0],
 .C 4 (.nilp),
 .C 5 (.nili)])
 (.seq (.region 0 [.o 17 (.loadA 9) [.t 2],
 .M 18 1,
 .o 19 (.callc price_life) [.t 17, .t 18],
 .M 16 19,
 .o 20 (.ext 0) [.t 16],
 .o 21 (.ext 1) [.t 16],
 .o 22 (.ext 2) [.t 16],
 .M 6 20,
 .M 7 21,
 .M 8 22])
 (.seq (.seq (.region 0 [.M 23 8,
 .o 24 (.eqN true true) [.t 23, .k (.nili)]])
 (.cond (.t 24) (.seq (.region 0 [.M 25 8,
 .C 4 (.nilp),
 .M 5 25])
 .ret)
 .skip))
 (.seq (.region 1 [.M 26 6,
 .M 27 7,
 .o 28 (.iadr 2) [.t 26, .t 27],
 .o 29 (.loadA 2) [.t 28],
 .o 9 (.alloc 0 [.int .i64 0, .int .i64 0]) [],
 ⟨.store 2, [.t 9, .t 29], none, none⟩])
 (.seq (.region 0 [.o 31 (.loadA 9) [.t 2],
 .o 32 (.loadA 2) [.t 9],
 .o 33 (.fadr 0) [.t 9],
 .o 34 .load1 [.t 33],
 .o 35 (.fadr 1) [.t 9],
 .o 36 .load1 [.t 35],
 .o 37 (.callc flow_Part) [.t 31, .t 32, .t 34, .t 36],
 .M 30 37,
 .o 38 (.ext 0) [.t 30],
 .o 39 (.ext 1) [.t 30],
 .M 10 38,
 .M 8 39])
 (.seq (.seq (.region 0 [.M 40 8,
 .o 41 (.eqN true true) [.t 40, .k (.nili)]])
 (.cond (.t 41) (.seq (.region 0 [.M 42 8,
 .C 4 (.nilp),
 .M 5 42])
 .ret)
 .skip))
 (.seq (.region 0 [.o 44 (.loadA 9) [.t 2],
 .o 45 (.loadA 2) [.t 9],
 .o 46 (.fadr 0) [.t 9],
 .o 47 .load1 [.t 46],
 .M 48 1,
 .o 49 (.callc flow_Part) [.t 44, .t 45, .t 47, .t 48],
 .M 43 49,
 .o 50 (.ext 0) [.t 43],
 .o 51 (.ext 1) [.t 43],
 .M 11 50,
 .M 8 51])
 (.seq (.seq (.region 0 [.M 52 8,
 .o 53 (.eqN true true) [.t 52, .k (.nili)]])
 (.cond (.t 53) (.seq (.region 0 [.M 54 8,
 .C 4 (.nilp),
 .M 5 54])
 .ret)
 .skip))
 (.seq (.region 0 [.M 56 11,
 .M 57 10,
 .o 58 (.callc rat_Rat_Div) [.t 56, .t 57],
 .M 55 58,
 .o 59 (.ext 0) [.t 55],
 .o 60 (.ext 1) [.t 55],
 .M 12 59,
 .M 8 60])
 (.seq (.seq (.region 0 [.M 61 8,
 .o 62 (.eqN true true) [.t 61, .k (.nili)]])
 (.cond (.t 62) (.seq (.region 0 [.M 63 8,
 .C 4 (.nilp),
 .M 5 63])
 .ret)
 .skip))
 (.seq (.region 0 [.o 64 (.callc price_one) [],
 .M 65 12,
 .o 66 (.callc rat_Rat_Sub) [.t 64, .t 65],
 .M 13 66])
 (.seq (.seq (.region 0 [.o 67 (.loadA 9) [.t 2],
 .o 68 (.loadA 2) [.t 9],
 .o 69 (.callc plan_Regular) [.t 67, .t 68],
 .o 70 .not [.t 69]])
 (.join [13] (.cond (.t 70) (.seq (.region 0 [.o 72 (.fadr 2) [.t 2],
 .o 73 .load1 [.t 72],
 .o 74 (.callc rat_Of) [.t 73, .k (.int .i64 1)],
 .M 71 74,
 .o 75 (.ext 0) [.t 71],
 .o 76 (.ext 1) [.t 71],
 .M 14 75,
 .M 15 76])
 (.region 0 [.M 77 13,
 .M 78 14,
 .o 79 (.callc rat_Rat_Mul) [.t 77, .t 78],
 .M 80 10,
 .o 81 (.callc rat_Rat_Mul) [.t 79, .t 80],
 .M 13 81]))
 .skip)))
 (.seq (.region 0 [.M 82 13,
 .M 4 82,
 .C 5 (.nili)])
 .ret)))))))))))))⟩
def f_num_Of : EF := ⟨[0], [.tmp 2], (.seq (.region 0 [.C 2 (.nilp)])
 (.seq (.seq (.region 0 [.M 3 0,
 .o 4 (.binI .lss) [.t 3, .k (.int .i64 0)]])
 (.cond (.t 4) (.seq (.region 0 [.M 5 0,
 .o 6 (.conv .u64) [.t 5],
 .o 7 .neg [.t 6],
 .o 8 (.callc nat_Of) [.t 7],
 .o 9 (.callc num_New) [.k (.bool true), .t 8],
 .M 2 9])
 .ret)
 .skip))
 (.seq (.region 0 [.M 10 0,
 .o 11 (.conv .u64) [.t 10],
 .o 12 (.callc nat_Of) [.t 11],
 .o 13 (.callc num_New) [.k (.bool false), .t 12],
 .M 2 13])
 .ret)))⟩
def f_num_Int_Mul : EF := ⟨[0, 1], [.tmp 4], (.seq (.region 0 [.C 4 (.nilp)])
 (.seq (.region 0 [.M 5 0,
 .o 6 (.callc num_Int_Sign) [.t 5],
 .M 7 1,
 .o 8 (.callc num_Int_Sign) [.t 7],
 .o 9 (.binI .mul) [.t 6, .t 8],
 .o 10 (.binI .lss) [.t 9, .k (.int .i64 0)],
 .M 11 0,
 .o 12 (.callc num_Int_Abs) [.t 11],
 .M 13 1,
 .o 14 (.callc num_Int_Abs) [.t 13],
 .o 15 (.callc nat_Nat_Mul) [.t 12, .t 14],
 .o 16 (.callc num_New) [.t 10, .t 15],
 .M 4 16])
 .ret))⟩
def f_num_Int_Add : EF := ⟨[0, 1], [.tmp 4], (.seq (.region 0 [.C 4 (.nilp)])
 (.seq (.region 0 [.M 11 0,
 .o 12 (.callc num_Int_Sign) [.t 11],
 .o 13 (.binI .lss) [.t 12, .k (.int .i64 0)],
 .M 14 1,
 .o 15 (.callc num_Int_Sign) [.t 14],
 .o 16 (.binI .lss) [.t 15, .k (.int .i64 0)],
 .M 5 13,
 .M 6 16])
 (.seq (.seq (.region 0 [.M 17 5,
 .M 18 6,
 .o 19 (.eqB false) [.t 17, .t 18]])
 (.cond (.t 19) (.seq (.region 0 [.M 20 5,
 .M 21 0,
 .o 22 (.callc num_Int_Abs) [.t 21],
 .M 23 1,
 .o 24 (.callc num_Int_Abs) [.t 23],
 .o 25 (.callc nat_Nat_Add) [.t 22, .t 24],
 .o 26 (.callc num_New) [.t 20, .t 25],
 .M 4 26])
 .ret)
 .skip))
 (.seq (.seq (.region 0 [.M 27 0,
 .o 28 (.callc num_Int_Abs) [.t 27],
 .M 29 1,
 .o 30 (.callc num_Int_Abs) [.t 29],
 .o 31 (.callc nat_Nat_Cmp) [.t 28, .t 30],
 .o 32 (.binI .lss) [.t 31, .k (.int .i64 0)]])
 (.cond (.t 32) (.seq (.region 0 [.M 34 1,
 .o 35 (.callc num_Int_Abs) [.t 34],
 .M 36 0,
 .o 37 (.callc num_Int_Abs) [.t 36],
 .o 38 (.callc nat_Nat_Sub) [.t 35, .t 37],
 .M 33 38,
 .o 39 (.ext 0) [.t 33],
 .o 40 (.ext 1) [.t 33],
 .M 7 39,
 .M 8 40])
 (.seq (.region 0 [.M 41 6,
 .M 42 7,
 .o 43 (.callc num_New) [.t 41, .t 42],
 .M 4 43])
 .ret))
 .skip))
 (.seq (.region 0 [.M 45 0,
 .o 46 (.callc num_Int_Abs) [.t 45],
 .M 47 1,
 .o 48 (.callc num_Int_Abs) [.t 47],
 .o 49 (.callc nat_Nat_Sub) [.t 46, .t 48],
 .M 44 49,
 .o 50 (.ext 0) [.t 44],
 .o 51 (.ext 1) [.t 44],
 .M 9 50,
 .M 10 51])
 (.seq (.region 0 [.M 52 5,
 .M 53 9,
 .o 54 (.callc num_New) [.t 52, .t 53],
 .M 4 54])
 .ret))))))⟩
def price_summed_b1 : EC := (.seq (.seq (.region 0 [.M 23 12,
 .o 24 (.binI .geq) [.t 23, .k (.int .i64 0)]])
 (.cond (.t 24) .skip
 (.exit 0)))
 (.seq (.join [1, 2, 8, 9, 10, 11, 12] (.block 1 (.seq (.drawn 0 [(0, .M 27 10),
 (1, .M 28 2),
 (2, .o 29 (.callc num_Int_Mul) [.t 27, .t 28]),
 (3, .M 30 8),
 (4, .M 31 12),
 (5, .o 32 (.iadr 1) [.t 30, .t 31]),
 (6, .o 33 .load1 [.t 32]),
 (7, .M 34 11),
 (8, .o 35 (.callc num_Int_Mul) [.t 33, .t 34]),
 (9, .o 36 (.callc num_Int_Add) [.t 29, .t 35]),
 (10, .M 10 36)])
 (.seq (.region 0 [.M 37 12,
 .o 38 (.binI .gtr) [.t 37, .k (.int .i64 0)]])
 (.join [1, 2, 8, 9, 10, 11, 12] (.cond (.t 38) (.region 0 [.M 39 11,
 .M 40 1,
 .o 41 (.callc num_Int_Mul) [.t 39, .t 40],
 .M 11 41])
 .skip))))))
 (.region 0 [.M 25 12,
 .o 26 (.binI .sub) [.t 25, .k (.int .i64 1)],
 .M 12 26])))
def f_price_summed : EF := ⟨[0, 1, 2], [.tmp 6, .tmp 7], (.seq (.region 0 [.C 6 (.nilp),
 .C 7 (.nilp)])
 (.seq (.region 0 [.M 14 0,
 .o 15 (.callc price_common) [.t 14],
 .M 13 15,
 .o 16 (.ext 0) [.t 13],
 .o 17 (.ext 1) [.t 13],
 .M 8 16,
 .M 9 17])
 (.seq (.region 0 [.o 18 (.callc num_Of) [.k (.int .i64 0)],
 .o 19 (.callc num_Of) [.k (.int .i64 1)],
 .M 10 18,
 .M 11 19])
 (.seq (.seq (.region 0 [.M 20 8,
 .o 21 .lenL [.t 20],
 .o 22 (.binI .sub) [.t 21, .k (.int .i64 1)],
 .M 12 22])
 (.block 0 (.loop [1, 2, 8, 9, 10, 11, 12] [9, 10, 11] price_summed_b1)))
 (.seq (.region 0 [.M 42 10,
 .M 43 9,
 .M 44 11,
 .o 45 (.callc num_Int_Mul) [.t 43, .t 44],
 .M 6 42,
 .M 7 45])
 .ret)))))⟩
def f_rat_Rat_Den : EF := ⟨[0], [.tmp 2], (.seq (.region 0 [.C 2 (.nilp)])
 (.seq (.seq (.region 0 [.M 3 0,
 .o 4 (.eqP false) [.t 3, .k (.nilp)],
 .M 5 4,
 .g 5 false 6 (.mov) [.t 0],
 .g 5 false 7 (.nilck) [.t 6],
 .g 5 false 8 (.fadr 1) [.t 7],
 .g 5 false 9 (.load1) [.t 8],
 .g 5 false 10 (.eqP false) [.t 9, .k (.nilp)],
 .o 11 .pick [.t 5, .k (.bool true), .t 10]])
 (.cond (.t 11) (.seq (.region 0 [.o 12 (.callc num_Of) [.k (.int .i64 1)],
 .M 2 12])
 .ret)
 .skip))
 (.seq (.region 0 [.M 13 0,
 .o 14 .nilck [.t 13],
 .o 15 (.fadr 1) [.t 14],
 .o 16 .load1 [.t 15],
 .M 2 16])
 .ret)))⟩
def f_rat_Rat_Num : EF := ⟨[0], [.tmp 2], (.seq (.region 0 [.C 2 (.nilp)])
 (.seq (.seq (.region 0 [.M 3 0,
 .o 4 (.eqP false) [.t 3, .k (.nilp)],
 .M 5 4,
 .g 5 false 6 (.mov) [.t 0],
 .g 5 false 7 (.nilck) [.t 6],
 .g 5 false 8 (.fadr 0) [.t 7],
 .g 5 false 9 (.load1) [.t 8],
 .g 5 false 10 (.eqP false) [.t 9, .k (.nilp)],
 .o 11 .pick [.t 5, .k (.bool true), .t 10]])
 (.cond (.t 11) (.seq (.region 0 [.o 12 (.callc num_Of) [.k (.int .i64 0)],
 .M 2 12])
 .ret)
 .skip))
 (.seq (.region 0 [.M 13 0,
 .o 14 .nilck [.t 13],
 .o 15 (.fadr 0) [.t 14],
 .o 16 .load1 [.t 15],
 .M 2 16])
 .ret)))⟩
def f_num_Int_Sign : EF := ⟨[0], [.tmp 2], (.seq (.region 0 [.C 2 (.int .i64 0)])
 (.seq (.block 0 (.seq (.region 0 [.M 4 0,
 .o 5 (.callc num_Int_Abs) [.t 4],
 .o 6 (.callc nat_Nat_Zero) [.t 5],
 .M 3 6])
 (.cond (.t 3) (.seq (.region 0 [.C 2 (.int .i64 0)])
 .ret)
 (.seq (.region 0 [.M 8 0,
 .o 9 .nilck [.t 8],
 .o 10 (.fadr 0) [.t 9],
 .o 11 .load1 [.t 10],
 .M 7 11])
 (.cond (.t 7) (.seq (.region 0 [.C 2 (.int .i64 (-1))])
 .ret)
 .skip)))))
 (.seq (.region 0 [.C 2 (.int .i64 1)])
 .ret)))⟩
def f_rat_New : EF := ⟨[0, 1], [.tmp 4, .tmp 5], (.seq (.region 0 [.C 4 (.nilp),
 .C 5 (.nili)])
 (.seq (.seq (.region 0 [.M 13 1,
 .o 14 (.callc num_Int_Sign) [.t 13],
 .o 15 (.binI .eql) [.t 14, .k (.int .i64 0)]])
 (.cond (.t 15) (.seq (.region 0 [.o 16 (.callc fault_Of) [.k (.int .i64 3)],
 .C 4 (.nilp),
 .M 5 16])
 .ret)
 .skip))
 (.seq (.region 0 [.M 17 0,
 .o 18 (.callc num_Int_Abs) [.t 17],
 .M 19 1,
 .o 20 (.callc num_Int_Abs) [.t 19],
 .o 21 (.callc nat_Nat_Gcd) [.t 18, .t 20],
 .M 6 21])
 (.seq (.region 0 [.M 23 0,
 .o 24 (.callc num_Int_Abs) [.t 23],
 .M 25 6,
 .o 26 (.callc nat_Nat_Div) [.t 24, .t 25],
 .M 22 26,
 .o 27 (.ext 0) [.t 22],
 .o 28 (.ext 1) [.t 22],
 .o 29 (.ext 2) [.t 22],
 .M 7 27,
 .M 8 28,
 .M 9 29])
 (.seq (.region 0 [.M 31 1,
 .o 32 (.callc num_Int_Abs) [.t 31],
 .M 33 6,
 .o 34 (.callc nat_Nat_Div) [.t 32, .t 33],
 .M 30 34,
 .o 35 (.ext 0) [.t 30],
 .o 36 (.ext 1) [.t 30],
 .o 37 (.ext 2) [.t 30],
 .M 10 35,
 .M 11 36,
 .M 12 37])
 (.seq (.region 1 [.M 38 0,
 .o 39 (.callc num_Int_Sign) [.t 38],
 .M 40 1,
 .o 41 (.callc num_Int_Sign) [.t 40],
 .o 42 (.binI .mul) [.t 39, .t 41],
 .o 43 (.binI .lss) [.t 42, .k (.int .i64 0)],
 .M 44 7,
 .o 45 (.callc num_New) [.t 43, .t 44],
 .M 46 10,
 .o 47 (.callc num_New) [.k (.bool false), .t 46],
 .o 48 (.build [.nilp, .nilp] [(0, 1), (1, 1)]) [.t 45, .t 47],
 .o 49 (.box 0) [.t 48],
 .M 4 49,
 .C 5 (.nili)])
 .ret))))))⟩
def f_dec_Get : EF := ⟨[0], [.tmp 2, .tmp 3, .tmp 4], (.seq (.region 0 [.C 2 (.nilp),
 .C 3 (.int .i64 0),
 .C 4 (.nili)])
 (.seq (.region 0 [.M 19 0,
 .o 20 (.callc strings_CutPrefix) [.t 19, .k (.str [45])],
 .M 18 20,
 .o 21 (.ext 0) [.t 18],
 .o 22 (.ext 1) [.t 18],
 .M 5 21,
 .M 6 22])
 (.seq (.region 0 [.M 24 5,
 .o 25 (.callc strings_Cut) [.t 24, .k (.str [46])],
 .M 23 25,
 .o 26 (.ext 0) [.t 23],
 .o 27 (.ext 1) [.t 23],
 .o 28 (.ext 2) [.t 23],
 .M 7 26,
 .M 8 27,
 .M 9 28])
 (.seq (.region 0 [.M 29 0,
 .o 30 .lenS [.t 29],
 .o 31 (.binI .gtr) [.t 30, .k (.int .i64 60)],
 .M 32 31,
 .g 32 false 33 (.mov) [.t 9],
 .g 32 false 34 (.mov) [.t 33],
 .g 34 true 35 (.mov) [.t 8],
 .g 34 true 36 (.binS .eql) [.t 35, .k (.str [])],
 .g 34 true 37 (.mov) [.t 36],
 .g 37 false 38 (.mov) [.t 8],
 .g 37 false 39 (.lenS) [.t 38],
 .g 37 false 40 (.binI .gtr) [.t 39, .k (.int .i64 20)],
 .g 34 true 41 (.pick) [.t 37, .k (.bool true), .t 40],
 .g 34 true 42 (.mov) [.t 41],
 .g 42 false 43 (.mov) [.t 8],
 .g 42 false 44 (.callc strings_Trim) [.t 43, .k (.str [48, 49, 50, 51, 52, 53, 54, 55, 56, 57])],
 .g 42 false 45 (.binS .neq) [.t 44, .k (.str [])],
 .g 34 true 46 (.pick) [.t 42, .k (.bool true), .t 45],
 .g 32 false 47 (.pick) [.t 34, .t 46, .k (.bool false)],
 .o 48 .pick [.t 32, .k (.bool true), .t 47],
 .M 10 48])
 (.seq (.region 0 [.M 50 7,
 .o 51 (.callc nat_Get) [.t 50],
 .M 49 51,
 .o 52 (.ext 0) [.t 49],
 .o 53 (.ext 1) [.t 49],
 .M 11 52,
 .M 12 53])
 (.seq (.seq (.region 0 [.M 54 10,
 .M 55 54,
 .g 55 false 56 (.mov) [.t 12],
 .g 55 false 57 (.eqN true true) [.t 56, .k (.nili)],
 .o 58 .pick [.t 55, .k (.bool true), .t 57]])
 (.cond (.t 58) (.seq (.region 0 [.o 59 (.callc fault_Of) [.k (.int .i64 1)],
 .C 2 (.nilp),
 .C 3 (.int .i64 0),
 .M 4 59])
 .ret)
 .skip))
 (.seq (.region 0 [.o 61 (.callc nat_Get) [.k (.str [48])],
 .M 60 61,
 .o 62 (.ext 0) [.t 60],
 .o 63 (.ext 1) [.t 60],
 .M 13 62,
 .M 14 63])
 (.seq (.seq (.region 0 [.M 64 7,
 .M 65 8,
 .o 66 (.binS .add) [.t 64, .t 65],
 .o 67 (.callc strings_TrimLeft) [.t 66, .k (.str [48])],
 .M 15 67])
 (.seq (.region 0 [.M 68 15,
 .o 69 (.binS .neq) [.t 68, .k (.str [])]])
 (.join [6, 8, 13] (.cond (.t 69) (.region 0 [.M 71 15,
 .o 72 (.callc nat_Get) [.t 71],
 .M 70 72,
 .o 73 (.ext 0) [.t 70],
 .o 74 (.ext 1) [.t 70],
 .M 13 73])
 .skip))))
 (.seq (.seq (.region 0 [.M 75 6,
 .M 76 75,
 .g 76 true 77 (.mov) [.t 13],
 .g 76 true 78 (.callc nat_Nat_Zero) [.t 77],
 .o 79 .pick [.t 76, .t 78, .k (.bool false)]])
 (.cond (.t 79) (.seq (.region 0 [.o 80 (.callc fault_Of) [.k (.int .i64 1)],
 .C 2 (.nilp),
 .C 3 (.int .i64 0),
 .M 4 80])
 .ret)
 .skip))
 (.seq (.region 0 [.M 82 6,
 .M 83 13,
 .o 84 (.callc num_New) [.t 82, .t 83],
 .M 85 8,
 .o 86 .lenS [.t 85],
 .o 87 (.callc dec_ten) [.t 86],
 .o 88 (.callc rat_New) [.t 84, .t 87],
 .M 81 88,
 .o 89 (.ext 0) [.t 81],
 .o 90 (.ext 1) [.t 81],
 .M 16 89,
 .M 17 90])
 (.seq (.region 0 [.M 91 16,
 .M 92 8,
 .o 93 .lenS [.t 92],
 .M 2 91,
 .M 3 93,
 .C 4 (.nili)])
 .ret)))))))))))⟩
def yield_Near_b1 : EC := (.seq (.seq (.region 0 [.M 54 8,
 .o 55 (.binI .add) [.t 54, .k (.int .i64 1)],
 .M 56 9,
 .o 57 (.binI .lss) [.t 55, .t 56]])
 (.cond (.t 57) .skip
 (.exit 1)))
 (.join [1, 2, 3, 6, 7, 8, 9] (.block 2 (.seq (.region 0 [.M 58 8,
 .M 59 9,
 .M 60 8,
 .o 61 (.binI .sub) [.t 59, .t 60],
 .o 62 (.binI .quo) [.t 61, .k (.int .i64 2)],
 .o 63 (.binI .add) [.t 58, .t 62],
 .M 14 63])
 (.seq (.region 0 [.o 65 (.loadA 9) [.t 3],
 .M 66 1,
 .M 67 14,
 .o 68 (.callc price_Clean) [.t 65, .t 66, .t 67],
 .M 64 68,
 .o 69 (.ext 0) [.t 64],
 .o 70 (.ext 1) [.t 64],
 .M 15 69,
 .M 16 70])
 (.seq (.seq (.region 0 [.M 71 16,
 .o 72 (.eqN true true) [.t 71, .k (.nili)]])
 (.cond (.t 72) (.seq (.region 0 [.M 73 16,
 .C 6 (.int .i64 0),
 .M 7 73])
 .ret)
 .skip))
 (.seq (.region 0 [.M 74 15,
 .M 75 2,
 .o 76 (.callc rat_Rat_Cmp) [.t 74, .t 75],
 .o 77 (.binI .geq) [.t 76, .k (.int .i64 0)]])
 (.join [1, 2, 3, 8, 9] (.cond (.t 77) (.region 0 [.M 78 14,
 .M 8 78])
 (.region 0 [.M 79 14,
 .M 9 79]))))))))))
def f_yield_Near : EF := ⟨[0, 1, 2], [.tmp 6, .tmp 7], (.seq (.region 1 [.o 3 (.box 0) [.t 0],
 .C 6 (.int .i64 0),
 .C 7 (.nili)])
 (.seq (.region 0 [.C 8 (.int .i64 (-2000000)),
 .C 9 (.int .i64 100000000)])
 (.seq (.region 0 [.o 18 (.loadA 9) [.t 3],
 .M 19 1,
 .M 20 8,
 .o 21 (.callc price_Clean) [.t 18, .t 19, .t 20],
 .M 17 21,
 .o 22 (.ext 0) [.t 17],
 .o 23 (.ext 1) [.t 17],
 .M 10 22,
 .M 11 23])
 (.seq (.seq (.region 0 [.M 24 11,
 .o 25 (.eqN true true) [.t 24, .k (.nili)]])
 (.cond (.t 25) (.seq (.region 0 [.M 26 11,
 .C 6 (.int .i64 0),
 .M 7 26])
 .ret)
 .skip))
 (.seq (.region 0 [.o 28 (.loadA 9) [.t 3],
 .M 29 1,
 .M 30 9,
 .o 31 (.callc price_Clean) [.t 28, .t 29, .t 30],
 .M 27 31,
 .o 32 (.ext 0) [.t 27],
 .o 33 (.ext 1) [.t 27],
 .M 12 32,
 .M 11 33])
 (.seq (.seq (.region 0 [.M 34 11,
 .o 35 (.eqN true true) [.t 34, .k (.nili)]])
 (.cond (.t 35) (.seq (.region 0 [.M 36 11,
 .C 6 (.int .i64 0),
 .M 7 36])
 .ret)
 .skip))
 (.seq (.seq (.region 0 [.M 37 12,
 .M 38 2,
 .o 39 (.callc rat_Rat_Cmp) [.t 37, .t 38],
 .M 13 39])
 (.block 0 (.seq (.region 0 [.M 41 10,
 .M 42 2,
 .o 43 (.callc rat_Rat_Cmp) [.t 41, .t 42],
 .o 44 (.binI .lss) [.t 43, .k (.int .i64 0)],
 .M 45 44,
 .g 45 false 46 (.mov) [.t 13],
 .g 45 false 47 (.binI .gtr) [.t 46, .k (.int .i64 0)],
 .o 48 .pick [.t 45, .k (.bool true), .t 47],
 .M 40 48])
 (.cond (.t 40) (.seq (.region 0 [.o 49 (.callc fault_Of) [.k (.int .i64 7)],
 .C 6 (.int .i64 0),
 .M 7 49])
 .ret)
 (.seq (.region 0 [.M 51 13,
 .o 52 (.binI .eql) [.t 51, .k (.int .i64 0)],
 .M 50 52])
 (.cond (.t 50) (.seq (.region 0 [.M 53 9,
 .M 6 53,
 .C 7 (.nili)])
 .ret)
 .skip))))))
 (.seq (.block 1 (.loop [1, 2, 3, 8, 9] [6, 7, 8] yield_Near_b1))
 (.seq (.region 0 [.M 80 8,
 .M 6 80,
 .C 7 (.nili)])
 .ret)))))))))⟩
def risk_summed_b1 : EC := (.seq (.region 0 [.o 24 (.binI .lss) [.t 23, .t 22]])
 (.seq (.cond (.t 24) .skip
 (.exit 0))
 (.seq (.block 1 (.seq (.region 0 [.o 25 (.iadr 1) [.t 21, .t 23],
 .o 26 .load1 [.t 25],
 .M 10 26])
 (.seq (.region 0 [.M 28 8,
 .M 29 10,
 .o 30 (.callc rat_Rat_Den) [.t 29],
 .o 31 (.callc rat_New) [.t 28, .t 30],
 .M 27 31,
 .o 32 (.ext 0) [.t 27],
 .o 33 (.ext 1) [.t 27],
 .M 11 32,
 .M 12 33])
 (.region 0 [.M 34 8,
 .M 35 11,
 .o 36 (.callc rat_Rat_Den) [.t 35],
 .o 37 (.callc num_Int_Mul) [.t 34, .t 36],
 .M 8 37]))))
 (.region 0 [.o 38 (.binI .add) [.t 23, .k (.int .i64 1)],
 .M 23 38]))))
def risk_summed_b2 : EC := (.seq (.seq (.region 0 [.M 45 16,
 .o 46 (.binI .geq) [.t 45, .k (.int .i64 0)]])
 (.cond (.t 46) .skip
 (.exit 2)))
 (.seq (.block 3 (.seq (.region 0 [.M 50 8,
 .M 51 0,
 .M 52 16,
 .o 53 (.iadr 1) [.t 51, .t 52],
 .o 54 .load1 [.t 53],
 .o 55 (.callc rat_Rat_Den) [.t 54],
 .o 56 (.callc num_Int_Div) [.t 50, .t 55],
 .M 49 56,
 .o 57 (.ext 0) [.t 49],
 .o 58 (.ext 1) [.t 49],
 .o 59 (.ext 2) [.t 49],
 .M 17 57,
 .M 18 58,
 .M 19 59])
 (.seq (.region 0 [.M 60 13,
 .M 61 14,
 .o 62 (.callc num_Int_Add) [.t 60, .t 61],
 .M 63 2,
 .o 64 (.callc num_Int_Mul) [.t 62, .t 63],
 .M 13 64])
 (.seq (.drawn 0 [(0, .M 65 14),
 (1, .M 66 2),
 (2, .o 67 (.callc num_Int_Mul) [.t 65, .t 66]),
 (3, .M 68 0),
 (4, .M 69 16),
 (5, .o 70 (.iadr 1) [.t 68, .t 69]),
 (6, .o 71 .load1 [.t 70]),
 (7, .o 72 (.callc rat_Rat_Num) [.t 71]),
 (8, .M 73 17),
 (9, .o 74 (.callc num_Int_Mul) [.t 72, .t 73]),
 (10, .M 75 15),
 (11, .o 76 (.callc num_Int_Mul) [.t 74, .t 75]),
 (12, .o 77 (.callc num_Int_Add) [.t 67, .t 76]),
 (13, .M 14 77)])
 (.region 0 [.M 78 15,
 .M 79 1,
 .o 80 (.callc num_Int_Mul) [.t 78, .t 79],
 .M 15 80])))))
 (.region 0 [.M 47 16,
 .o 48 (.binI .sub) [.t 47, .k (.int .i64 1)],
 .M 16 48])))
def f_risk_summed : EF := ⟨[0, 1, 2], [.tmp 6, .tmp 7], (.seq (.region 0 [.C 6 (.nilp),
 .C 7 (.nilp)])
 (.seq (.region 0 [.o 20 (.callc num_Of) [.k (.int .i64 1)],
 .M 8 20])
 (.seq (.seq (.region 0 [.M 21 0,
 .o 22 .lenL [.t 21],
 .C 23 (.int .i64 0)])
 (.block 0 (.loop [0, 1, 2, 8, 21, 22, 23] [0, 1, 2, 8] risk_summed_b1)))
 (.seq (.region 0 [.o 39 (.callc num_Of) [.k (.int .i64 0)],
 .o 40 (.callc num_Of) [.k (.int .i64 0)],
 .o 41 (.callc num_Of) [.k (.int .i64 1)],
 .M 13 39,
 .M 14 40,
 .M 15 41])
 (.seq (.seq (.region 0 [.M 42 0,
 .o 43 .lenL [.t 42],
 .o 44 (.binI .sub) [.t 43, .k (.int .i64 1)],
 .M 16 44])
 (.block 2 (.loop [0, 1, 2, 8, 13, 14, 15, 16] [13, 14] risk_summed_b2)))
 (.seq (.region 0 [.M 81 13,
 .M 82 14,
 .M 6 81,
 .M 7 82])
 .ret))))))⟩
def risk_amounts_b1 : EC := (.seq (.region 0 [.o 37 (.binI .lss) [.t 36, .t 35]])
 (.seq (.cond (.t 37) .skip
 (.exit 0))
 (.seq (.block 1 (.seq (.region 1 [.o 38 (.iadr 2) [.t 34, .t 36],
 .o 39 (.loadA 2) [.t 38],
 .o 12 (.alloc 0 [.int .i64 0, .str []]) [],
 ⟨.store 2, [.t 12, .t 39], none, none⟩])
 (.seq (.region 0 [.o 41 (.fadr 1) [.t 12],
 .o 42 .load1 [.t 41],
 .o 43 (.callc rat_Get) [.t 42],
 .M 40 43,
 .o 44 (.ext 0) [.t 40],
 .o 45 (.ext 1) [.t 40],
 .M 13 44,
 .M 14 45])
 (.region 1 [.M 46 10,
 .M 47 13,
 .o 48 (.bsl 1 1 [.nilp] [(0, 1)]) [.t 47],
 .o 49 (.app 0 1) [.t 46, .t 48],
 .M 10 49]))))
 (.region 0 [.o 50 (.binI .add) [.t 36, .k (.int .i64 1)],
 .M 36 50]))))
def f_risk_amounts : EF := ⟨[0, 1], [.tmp 4], (.seq (.region 1 [.o 2 (.box 0) [.t 0],
 .C 4 (.nils)])
 (.seq (.region 0 [.o 20 (.loadA 9) [.t 2],
 .o 21 (.callc plan_Of) [.t 20],
 .M 19 21,
 .o 22 (.ext 0) [.t 19],
 .o 23 (.ext 1) [.t 19],
 .M 5 22,
 .M 6 23])
 (.seq (.region 0 [.o 25 (.loadA 9) [.t 2],
 .o 26 (.callc flow_Of) [.t 25],
 .M 24 26,
 .o 27 (.ext 0) [.t 24],
 .o 28 (.ext 1) [.t 24],
 .M 7 27,
 .M 8 28])
 (.seq (.region 0 [.M 29 5,
 .M 30 1,
 .o 31 (.callc plan_At) [.t 29, .t 30],
 .M 9 31])
 (.seq (.region 0 [.C 10 (.nils)])
 (.seq (.seq (.region 0 [.M 32 7,
 .M 33 9,
 .o 34 (.slL 2 true false) [.t 32, .t 33],
 .o 35 .lenL [.t 34],
 .C 36 (.int .i64 0)])
 (.block 0 (.loop [1, 2, 5, 9, 10, 34, 35, 36] [1, 2, 5, 9, 10] risk_amounts_b1)))
 (.seq (.seq (.region 0 [.o 52 (.loadA 9) [.t 2],
 .M 53 1,
 .o 54 (.callc accr_Ex) [.t 52, .t 53],
 .M 51 54,
 .o 55 (.ext 0) [.t 51],
 .o 56 (.ext 1) [.t 51],
 .M 15 55,
 .M 16 56])
 (.seq (.region 0 [.M 57 15])
 (.join [10] (.cond (.t 57) (.seq (.drawn 0 [(0, .o 59 (.loadA 9) [.t 2]),
 (1, .M 60 5),
 (2, .M 61 9),
 (3, .o 62 (.iadr 2) [.t 60, .t 61]),
 (4, .o 63 (.loadA 2) [.t 62]),
 (5, .o 64 (.callc flow_Pay) [.t 59, .t 63]),
 (6, .M 58 64),
 (7, .o 65 (.ext 0) [.t 58]),
 (8, .o 66 (.ext 1) [.t 58]),
 (9, .M 17 65),
 (10, .M 18 66)])
 (.region 0 [.M 67 10,
 .M 68 10,
 .o 69 (.iadr 1) [.t 68, .k (.int .i64 0)],
 .o 70 .load1 [.t 69],
 .M 71 17,
 .o 72 (.callc rat_Rat_Sub) [.t 70, .t 71],
 .o 73 (.iadr 1) [.t 67, .k (.int .i64 0)],
 ⟨.store 1, [.t 73, .t 72], none, none⟩]))
 .skip))))
 (.seq (.region 0 [.M 74 10,
 .M 4 74])
 .ret))))))))⟩
def f_risk_of : EF := ⟨[0, 1], [.tmp 4], (.seq (.region 0 [.C 4 (.nilp)])
 (.seq (.region 0 [.M 8 0,
 .M 9 1,
 .o 10 (.callc rat_Of) [.t 8, .t 9],
 .M 7 10,
 .o 11 (.ext 0) [.t 7],
 .o 12 (.ext 1) [.t 7],
 .M 5 11,
 .M 6 12])
 (.seq (.region 0 [.M 13 5,
 .M 4 13])
 .ret)))⟩
def f_rentierlaw6_Begun : EF := ⟨[], [.tmp 0], (.seq (.region 0 [.C 0 (.bool false)])
 (.seq (.region 0 [.o 1 (.callc rentierlaw6_begun) [],
 .M 0 1])
 .ret))⟩
def f_bond_days : EF := ⟨[0], [.tmp 2], (.seq (.region 1 [.o 1 (.box 0) [.t 0],
 .C 2 (.nili)])
 (.seq (.block 0 (.seq (.region 0 [.o 6 (.fadr 0) [.t 1],
 .o 7 .load1 [.t 6],
 .o 8 (.callc date_Weekday) [.t 7],
 .o 9 (.binI .lss) [.t 8, .k (.int .i64 0)],
 .M 5 9])
 (.cond (.t 5) (.seq (.region 0 [.o 10 (.callc fault_New) [.k (.int .i64 4), .k (.str [105, 115, 115, 117, 101])],
 .M 2 10])
 .ret)
 (.seq (.region 0 [.o 12 (.fadr 1) [.t 1],
 .o 13 .load1 [.t 12],
 .o 14 (.callc date_Weekday) [.t 13],
 .o 15 (.binI .lss) [.t 14, .k (.int .i64 0)],
 .M 11 15])
 (.cond (.t 11) (.seq (.region 0 [.o 16 (.callc fault_New) [.k (.int .i64 4), .k (.str [109, 97, 116, 117, 114, 101])],
 .M 2 16])
 .ret)
 (.seq (.region 0 [.o 18 (.fadr 1) [.t 1],
 .o 19 .load1 [.t 18],
 .o 20 (.fadr 0) [.t 1],
 .o 21 .load1 [.t 20],
 .o 22 (.binI .leq) [.t 19, .t 21],
 .M 17 22])
 (.cond (.t 17) (.seq (.region 0 [.o 23 (.callc fault_New) [.k (.int .i64 5), .k (.str [109, 97, 116, 117, 114, 101])],
 .M 2 23])
 .ret)
 .skip)))))))
 (.seq (.seq (.region 0 [.o 25 (.fadr 0) [.t 1],
 .o 26 .load1 [.t 25],
 .o 27 (.callc month_Add) [.t 26, .k (.int .i64 360), .k (.bool false)],
 .M 24 27,
 .o 28 (.ext 0) [.t 24],
 .o 29 (.ext 1) [.t 24],
 .M 3 28,
 .M 4 29])
 (.seq (.region 0 [.M 30 4,
 .o 31 (.eqN false true) [.t 30, .k (.nili)],
 .M 32 31,
 .g 32 true 33 (.fadr 1) [.t 1],
 .g 32 true 34 (.load1) [.t 33],
 .g 32 true 35 (.mov) [.t 3],
 .g 32 true 36 (.binI .gtr) [.t 34, .t 35],
 .o 37 .pick [.t 32, .t 36, .k (.bool false)]])
 (.cond (.t 37) (.seq (.region 0 [.o 38 (.callc fault_New) [.k (.int .i64 5), .k (.str [109, 97, 116, 117, 114, 101])],
 .M 2 38])
 .ret)
 .skip)))
 (.seq (.region 0 [.C 2 (.nili)])
 .ret))))⟩
def f_bond_sums : EF := ⟨[0], [.tmp 2], (.seq (.region 1 [.o 1 (.box 0) [.t 0],
 .C 2 (.nili)])
 (.seq (.region 0 [.o 7 (.fadr 3) [.t 1],
 .o 8 .load1 [.t 7],
 .o 9 (.callc bond_value) [.t 8],
 .M 6 9,
 .o 10 (.ext 0) [.t 6],
 .o 11 (.ext 1) [.t 6],
 .o 12 (.ext 2) [.t 6],
 .M 3 10,
 .M 4 11,
 .M 5 12])
 (.seq (.block 0 (.seq (.region 0 [.M 14 5,
 .o 15 (.eqN true true) [.t 14, .k (.nili)],
 .M 13 15])
 (.cond (.t 13) (.seq (.region 0 [.o 16 (.callc fault_New) [.k (.int .i64 1), .k (.str [99, 111, 117, 112, 111, 110])],
 .M 2 16])
 .ret)
 (.seq (.region 0 [.M 18 4,
 .o 19 .not [.t 18],
 .M 20 19,
 .g 20 false 21 (.mov) [.t 3],
 .g 20 false 22 (.callc rat_Rat_Sign) [.t 21],
 .g 20 false 23 (.binI .lss) [.t 22, .k (.int .i64 0)],
 .o 24 .pick [.t 20, .k (.bool true), .t 23],
 .M 25 24,
 .g 25 false 26 (.mov) [.t 3],
 .g 25 false 27 (.callc bond_of) [.k (.int .i64 30)],
 .g 25 false 28 (.callc rat_Rat_Cmp) [.t 26, .t 27],
 .g 25 false 29 (.binI .gtr) [.t 28, .k (.int .i64 0)],
 .o 30 .pick [.t 25, .k (.bool true), .t 29],
 .M 17 30])
 (.cond (.t 17) (.seq (.region 0 [.o 31 (.callc fault_New) [.k (.int .i64 5), .k (.str [99, 111, 117, 112, 111, 110])],
 .M 2 31])
 .ret)
 .skip)))))
 (.seq (.region 0 [.o 33 (.fadr 4) [.t 1],
 .o 34 .load1 [.t 33],
 .o 35 (.callc bond_value) [.t 34],
 .M 32 35,
 .o 36 (.ext 0) [.t 32],
 .o 37 (.ext 1) [.t 32],
 .o 38 (.ext 2) [.t 32],
 .M 3 36,
 .M 4 37,
 .M 5 38])
 (.seq (.block 1 (.seq (.region 0 [.M 40 5,
 .o 41 (.eqN true true) [.t 40, .k (.nili)],
 .M 39 41])
 (.cond (.t 39) (.seq (.region 0 [.o 42 (.callc fault_New) [.k (.int .i64 1), .k (.str [114, 101, 100, 101, 101, 109])],
 .M 2 42])
 .ret)
 (.seq (.region 0 [.M 44 4,
 .o 45 .not [.t 44],
 .M 46 45,
 .g 46 false 47 (.mov) [.t 3],
 .g 46 false 48 (.callc rat_Rat_Sign) [.t 47],
 .g 46 false 49 (.binI .leq) [.t 48, .k (.int .i64 0)],
 .o 50 .pick [.t 46, .k (.bool true), .t 49],
 .M 51 50,
 .g 51 false 52 (.mov) [.t 3],
 .g 51 false 53 (.callc bond_of) [.k (.int .i64 200)],
 .g 51 false 54 (.callc rat_Rat_Cmp) [.t 52, .t 53],
 .g 51 false 55 (.binI .gtr) [.t 54, .k (.int .i64 0)],
 .o 56 .pick [.t 51, .k (.bool true), .t 55],
 .M 43 56])
 (.cond (.t 43) (.seq (.region 0 [.o 57 (.callc fault_New) [.k (.int .i64 5), .k (.str [114, 101, 100, 101, 101, 109])],
 .M 2 57])
 .ret)
 .skip)))))
 (.seq (.region 0 [.C 2 (.nili)])
 .ret))))))⟩
def f_count_May : EF := ⟨[0], [.tmp 2], (.seq (.region 0 [.C 2 (.bool false)])
 (.seq (.region 0 [.M 3 0,
 .o 4 (.binI .geq) [.t 3, .k (.int .i64 1)],
 .M 5 4,
 .g 5 true 6 (.mov) [.t 0],
 .g 5 true 7 (.binI .leq) [.t 6, .k (.int .i64 4)],
 .o 8 .pick [.t 5, .t 7, .k (.bool false)],
 .M 2 8])
 .ret))⟩
def f_bond_of : EF := ⟨[0], [.tmp 2], (.seq (.region 0 [.C 2 (.nilp)])
 (.seq (.region 0 [.M 6 0,
 .o 7 (.callc rat_Of) [.t 6, .k (.int .i64 1)],
 .M 5 7,
 .o 8 (.ext 0) [.t 5],
 .o 9 (.ext 1) [.t 5],
 .M 3 8,
 .M 4 9])
 (.seq (.region 0 [.M 10 3,
 .M 2 10])
 .ret)))⟩
def f_bond_value : EF := ⟨[0], [.tmp 2, .tmp 3, .tmp 4], (.seq (.region 0 [.C 2 (.nilp),
 .C 3 (.bool false),
 .C 4 (.nili)])
 (.seq (.region 0 [.M 9 0,
 .o 10 (.callc dec_Get) [.t 9],
 .M 8 10,
 .o 11 (.ext 0) [.t 8],
 .o 12 (.ext 1) [.t 8],
 .o 13 (.ext 2) [.t 8],
 .M 5 11,
 .M 6 12,
 .M 7 13])
 (.seq (.region 0 [.M 14 5,
 .M 15 6,
 .o 16 (.binI .leq) [.t 15, .k (.int .i64 6)],
 .M 17 7,
 .M 2 14,
 .M 3 16,
 .M 4 17])
 .ret)))⟩
def slices_IndexFunc_api_Period_b1 : EC := (.seq (.region 0 [.o 9 (.binI .lss) [.t 8, .t 7]])
 (.seq (.cond (.t 9) .skip
 (.exit 0))
 (.seq (.block 1 (.seq (.region 0 [.M 10 8,
 .M 5 10])
 (.seq (.region 0 [.M 11 1,
 .M 12 0,
 .M 13 5,
 .o 14 (.iadr 2) [.t 12, .t 13],
 .o 15 (.loadA 2) [.t 14],
 .o 16 .callv [.t 11, .t 15]])
 (.cond (.t 16) (.seq (.region 0 [.M 17 5,
 .M 4 17])
 .ret)
 .skip))))
 (.region 0 [.o 18 (.binI .add) [.t 8, .k (.int .i64 1)],
 .M 8 18]))))
def f_slices_IndexFunc_api_Period : EF := ⟨[0, 1], [.tmp 4], (.seq (.region 0 [.C 4 (.int .i64 0)])
 (.seq (.seq (.region 0 [.M 6 0,
 .o 7 .lenL [.t 6],
 .C 8 (.int .i64 0)])
 (.block 0 (.loop [0, 1, 7, 8] [4] slices_IndexFunc_api_Period_b1)))
 (.seq (.region 0 [.C 4 (.int .i64 (-1))])
 .ret)))⟩
def f_plan_At_1 : EF := ⟨[0, 1], [.tmp 3], (.seq (.region 1 [.o 2 (.box 0) [.t 0],
 .C 3 (.bool false)])
 (.seq (.region 0 [.o 4 (.fadr 0) [.t 2],
 .o 5 .load1 [.t 4],
 .o 6 .load1 [.t 1],
 .o 7 (.binI .leq) [.t 5, .t 6],
 .M 8 7,
 .g 8 true 9 (.load1) [.t 1],
 .g 8 true 10 (.fadr 1) [.t 2],
 .g 8 true 11 (.load1) [.t 10],
 .g 8 true 12 (.binI .lss) [.t 9, .t 11],
 .o 13 .pick [.t 8, .t 12, .k (.bool false)],
 .M 3 13])
 .ret))⟩
def f_num_Get : EF := ⟨[0], [.tmp 2, .tmp 3], (.seq (.region 0 [.C 2 (.nilp),
 .C 3 (.nili)])
 (.seq (.region 0 [.M 9 0,
 .o 10 (.callc strings_CutPrefix) [.t 9, .k (.str [45])],
 .M 8 10,
 .o 11 (.ext 0) [.t 8],
 .o 12 (.ext 1) [.t 8],
 .M 4 11,
 .M 5 12])
 (.seq (.region 0 [.M 14 4,
 .o 15 (.callc nat_Get) [.t 14],
 .M 13 15,
 .o 16 (.ext 0) [.t 13],
 .o 17 (.ext 1) [.t 13],
 .M 6 16,
 .M 7 17])
 (.seq (.seq (.region 0 [.M 18 7,
 .o 19 (.eqN true true) [.t 18, .k (.nili)],
 .M 20 19,
 .g 20 false 21 (.mov) [.t 5],
 .g 20 false 22 (.mov) [.t 21],
 .g 22 true 23 (.mov) [.t 6],
 .g 22 true 24 (.callc nat_Nat_Zero) [.t 23],
 .g 20 false 25 (.pick) [.t 22, .t 24, .k (.bool false)],
 .o 26 .pick [.t 20, .k (.bool true), .t 25]])
 (.cond (.t 26) (.seq (.region 0 [.o 27 (.callc fault_Of) [.k (.int .i64 1)],
 .C 2 (.nilp),
 .M 3 27])
 .ret)
 .skip))
 (.seq (.region 0 [.M 28 5,
 .M 29 6,
 .o 30 (.callc num_New) [.t 28, .t 29],
 .M 2 30,
 .C 3 (.nili)])
 .ret)))))⟩
def nat_Get_b1 : EC := (.seq (.seq (.region 0 [.M 41 0,
 .o 42 (.binS .neq) [.t 41, .k (.str [])]])
 (.cond (.t 42) .skip
 (.exit 0)))
 (.seq (.block 1 (.seq (.region 0 [.M 44 0,
 .M 45 7,
 .o 46 (.slS false true) [.t 44, .t 45],
 .o 47 (.callc strconv_ParseUint) [.t 46, .k (.int .i64 10), .k (.int .i64 64)],
 .M 43 47,
 .o 48 (.ext 0) [.t 43],
 .o 49 (.ext 1) [.t 43],
 .M 8 48,
 .M 9 49])
 (.seq (.region 0 [.M 50 5,
 .M 51 6,
 .o 52 (.callc nat_Nat_Mul) [.t 50, .t 51],
 .M 53 8,
 .o 54 (.callc nat_Of) [.t 53],
 .o 55 (.callc nat_Nat_Add) [.t 52, .t 54],
 .M 5 55])
 (.region 0 [.M 56 0,
 .M 57 7,
 .o 58 (.slS true false) [.t 56, .t 57],
 .M 0 58]))))
 (.region 0 [.C 7 (.int .i64 18)])))
def f_nat_Get : EF := ⟨[0], [.tmp 2, .tmp 3], (.seq (.region 0 [.C 2 (.nilp),
 .C 3 (.nili)])
 (.seq (.region 0 [.M 10 0,
 .o 11 (.binS .eql) [.t 10, .k (.str [])],
 .M 12 11,
 .g 12 false 13 (.mov) [.t 0],
 .g 12 false 14 (.lenS) [.t 13],
 .g 12 false 15 (.binI .gtr) [.t 14, .k (.int .i64 4000)],
 .o 16 .pick [.t 12, .k (.bool true), .t 15],
 .M 17 16,
 .g 17 false 18 (.mov) [.t 0],
 .g 17 false 19 (.lenS) [.t 18],
 .g 17 false 20 (.binI .gtr) [.t 19, .k (.int .i64 1)],
 .g 17 false 21 (.mov) [.t 20],
 .g 21 true 22 (.mov) [.t 0],
 .g 21 true 23 (.idxS) [.t 22, .k (.int .i64 0)],
 .g 21 true 24 (.binI .eql) [.t 23, .k (.int .u8 48)],
 .g 17 false 25 (.pick) [.t 21, .t 24, .k (.bool false)],
 .o 26 .pick [.t 17, .k (.bool true), .t 25],
 .M 27 26,
 .g 27 false 28 (.mov) [.t 0],
 .g 27 false 29 (.callc strings_Trim) [.t 28, .k (.str [48, 49, 50, 51, 52, 53, 54, 55, 56, 57])],
 .g 27 false 30 (.binS .neq) [.t 29, .k (.str [])],
 .o 31 .pick [.t 27, .k (.bool true), .t 30],
 .M 4 31])
 (.seq (.seq (.region 0 [.M 32 4])
 (.cond (.t 32) (.seq (.region 0 [.o 33 (.callc fault_Of) [.k (.int .i64 1)],
 .C 2 (.nilp),
 .M 3 33])
 .ret)
 .skip))
 (.seq (.region 0 [.o 34 (.callc nat_Of) [.k (.int .u64 0)],
 .o 35 (.callc nat_Of) [.k (.int .u64 1000000000000000000)],
 .M 5 34,
 .M 6 35])
 (.seq (.seq (.region 0 [.M 36 0,
 .o 37 .lenS [.t 36],
 .o 38 (.binI .sub) [.t 37, .k (.int .i64 1)],
 .o 39 (.binI .rem) [.t 38, .k (.int .i64 18)],
 .o 40 (.binI .add) [.t 39, .k (.int .i64 1)],
 .M 7 40])
 (.block 0 (.loop [0, 5, 6, 7] [5] nat_Get_b1)))
 (.seq (.region 0 [.M 59 5,
 .M 2 59,
 .C 3 (.nili)])
 .ret))))))⟩
def f_nat_Nat_Zero : EF := ⟨[0], [.tmp 2], (.seq (.region 0 [.C 2 (.bool false)])
 (.seq (.region 0 [.M 3 0,
 .o 4 (.callc nat_Nat_limbs) [.t 3],
 .o 5 .lenL [.t 4],
 .o 6 (.binI .eql) [.t 5, .k (.int .i64 0)],
 .M 2 6])
 .ret))⟩
def f_num_New : EF := ⟨[0, 1], [.tmp 4], (.seq (.region 0 [.C 4 (.nilp)])
 (.seq (.region 1 [.M 5 0,
 .M 6 5,
 .g 6 true 7 (.mov) [.t 1],
 .g 6 true 8 (.callc nat_Nat_Zero) [.t 7],
 .g 6 true 9 (.not) [.t 8],
 .o 10 .pick [.t 6, .t 9, .k (.bool false)],
 .M 11 1,
 .o 12 (.build [.bool false, .nilp] [(0, 1), (1, 1)]) [.t 10, .t 11],
 .o 13 (.box 0) [.t 12],
 .M 4 13])
 .ret))⟩
def f_num_Int_Neg : EF := ⟨[0], [.tmp 2], (.seq (.region 0 [.C 2 (.nilp)])
 (.seq (.region 0 [.M 3 0,
 .o 4 (.callc num_Int_Sign) [.t 3],
 .o 5 (.binI .geq) [.t 4, .k (.int .i64 0)],
 .M 6 0,
 .o 7 (.callc num_Int_Abs) [.t 6],
 .o 8 (.callc num_New) [.t 5, .t 7],
 .M 2 8])
 .ret))⟩
def f_num_Int_Cmp : EF := ⟨[0, 1], [.tmp 4], (.seq (.region 0 [.C 4 (.int .i64 0)])
 (.seq (.region 0 [.M 5 0,
 .M 6 1,
 .o 7 (.callc num_Int_Sub) [.t 5, .t 6],
 .o 8 (.callc num_Int_Sign) [.t 7],
 .M 4 8])
 .ret))⟩
def f_rat_sure : EF := ⟨[0, 1], [.tmp 4], (.seq (.region 0 [.C 4 (.nilp)])
 (.seq (.region 0 [.M 8 0,
 .M 9 1,
 .o 10 (.callc rat_New) [.t 8, .t 9],
 .M 7 10,
 .o 11 (.ext 0) [.t 7],
 .o 12 (.ext 1) [.t 7],
 .M 5 11,
 .M 6 12])
 (.seq (.region 0 [.M 13 5,
 .M 4 13])
 .ret)))⟩
def date_Of_b1 : EC := (.seq (.seq (.region 0 [.M 37 5,
 .o 38 (.fadr 1) [.t 1],
 .o 39 .load1 [.t 38],
 .o 40 (.binI .lss) [.t 37, .t 39]])
 (.cond (.t 40) .skip
 (.exit 0)))
 (.seq (.block 1 (.region 0 [.M 43 4,
 .o 44 (.fadr 0) [.t 1],
 .o 45 .load1 [.t 44],
 .M 46 5,
 .o 47 (.callc date_Length) [.t 45, .t 46],
 .o 48 (.binI .add) [.t 43, .t 47],
 .M 4 48]))
 (.region 0 [.M 41 5,
 .o 42 (.binI .add) [.t 41, .k (.int .i64 1)],
 .M 5 42])))
def f_date_Of : EF := ⟨[0], [.tmp 2, .tmp 3], (.seq (.region 1 [.o 1 (.box 0) [.t 0],
 .C 2 (.int .i64 0),
 .C 3 (.nili)])
 (.seq (.seq (.drawn 0 [(0, .o 6 (.fadr 0) [.t 1]),
 (1, .o 7 .load1 [.t 6]),
 (2, .o 8 (.binI .lss) [.t 7, .k (.int .i64 1900)]),
 (3, .M 9 8),
 (4, .g 9 false 10 (.fadr 0) [.t 1]),
 (5, .g 9 false 11 (.load1) [.t 10]),
 (6, .g 9 false 12 (.binI .gtr) [.t 11, .k (.int .i64 2199)]),
 (7, .o 13 .pick [.t 9, .k (.bool true), .t 12]),
 (8, .M 14 13),
 (9, .g 14 false 15 (.fadr 2) [.t 1]),
 (10, .g 14 false 16 (.load1) [.t 15]),
 (11, .g 14 false 17 (.binI .lss) [.t 16, .k (.int .i64 1)]),
 (12, .o 18 .pick [.t 14, .k (.bool true), .t 17]),
 (13, .M 19 18),
 (14, .g 19 false 20 (.fadr 2) [.t 1]),
 (15, .g 19 false 21 (.load1) [.t 20]),
 (16, .g 19 false 22 (.fadr 0) [.t 1]),
 (17, .g 19 false 23 (.load1) [.t 22]),
 (18, .g 19 false 24 (.fadr 1) [.t 1]),
 (19, .g 19 false 25 (.load1) [.t 24]),
 (20, .g 19 false 26 (.callc date_Length) [.t 23, .t 25]),
 (21, .g 19 false 27 (.binI .gtr) [.t 21, .t 26]),
 (22, .o 28 .pick [.t 19, .k (.bool true), .t 27])])
 (.cond (.t 28) (.seq (.region 0 [.o 29 (.callc fault_Of) [.k (.int .i64 4)],
 .C 2 (.int .i64 0),
 .M 3 29])
 .ret)
 .skip))
 (.seq (.drawn 0 [(0, .o 30 (.fadr 0) [.t 1]),
 (1, .o 31 .load1 [.t 30]),
 (2, .o 32 (.callc date_before) [.t 31]),
 (3, .o 33 (.fadr 2) [.t 1]),
 (4, .o 34 .load1 [.t 33]),
 (5, .o 35 (.binI .add) [.t 32, .t 34]),
 (6, .o 36 (.binI .sub) [.t 35, .k (.int .i64 1)]),
 (7, .M 4 36)])
 (.seq (.seq (.region 0 [.C 5 (.int .i64 1)])
 (.block 0 (.loop [1, 4, 5] [4] date_Of_b1)))
 (.seq (.region 0 [.M 49 4,
 .M 2 49,
 .C 3 (.nili)])
 .ret)))))⟩
def f_date_Length : EF := ⟨[0, 1], [.tmp 4], (.seq (.region 0 [.C 4 (.int .i64 0)])
 (.seq (.seq (.region 0 [.M 5 1])
 (.join [4] (.block 0 (.seq (.region 0 [.o 7 (.binI .eql) [.t 5, .k (.int .i64 2)],
 .M 6 7])
 (.join [4] (.cond (.t 6) (.seq (.seq (.region 0 [.M 8 0,
 .o 9 (.callc date_Leap) [.t 8]])
 (.cond (.t 9) (.seq (.region 0 [.C 4 (.int .i64 29)])
 .ret)
 .skip))
 (.seq (.region 0 [.C 4 (.int .i64 28)])
 .ret))
 (.seq (.seq (.region 0 [.o 11 (.binI .eql) [.t 5, .k (.int .i64 4)],
 .M 10 11])
 (.join [5, 10] (.cond (.t 10) .skip
 (.seq (.region 0 [.o 12 (.binI .eql) [.t 5, .k (.int .i64 6)],
 .M 10 12])
 (.join [5, 10] (.cond (.t 10) .skip
 (.seq (.region 0 [.o 13 (.binI .eql) [.t 5, .k (.int .i64 9)],
 .M 10 13])
 (.join [5, 10] (.cond (.t 10) .skip
 (.region 0 [.o 14 (.binI .eql) [.t 5, .k (.int .i64 11)],
 .M 10 14]))))))))))
 (.join [4] (.cond (.t 10) (.seq (.region 0 [.C 4 (.int .i64 30)])
 .ret)
 (.seq (.seq (.region 0 [.o 16 (.binI .eql) [.t 5, .k (.int .i64 1)],
 .M 15 16])
 (.join [15] (.cond (.t 15) .skip
 (.seq (.region 0 [.o 17 (.binI .eql) [.t 5, .k (.int .i64 3)],
 .M 15 17])
 (.join [15] (.cond (.t 15) .skip
 (.seq (.region 0 [.o 18 (.binI .eql) [.t 5, .k (.int .i64 5)],
 .M 15 18])
 (.join [15] (.cond (.t 15) .skip
 (.seq (.region 0 [.o 19 (.binI .eql) [.t 5, .k (.int .i64 7)],
 .M 15 19])
 (.join [15] (.cond (.t 15) .skip
 (.seq (.region 0 [.o 20 (.binI .eql) [.t 5, .k (.int .i64 8)],
 .M 15 20])
 (.join [15] (.cond (.t 15) .skip
 (.seq (.region 0 [.o 21 (.binI .eql) [.t 5, .k (.int .i64 10)],
 .M 15 21])
 (.join [15] (.cond (.t 15) .skip
 (.region 0 [.o 22 (.binI .eql) [.t 5, .k (.int .i64 12)],
 .M 15 22])))))))))))))))))))
 (.cond (.t 15) (.seq (.region 0 [.C 4 (.int .i64 31)])
 .ret)
 .skip)))))))))))
 (.seq (.region 0 [.C 4 (.int .i64 0)])
 .ret)))⟩
def date_Civil_b1 : EC := (.seq (.seq (.region 0 [.o 15 (.fadr 0) [.t 4],
 .o 16 .load1 [.t 15],
 .o 17 (.binI .add) [.t 16, .k (.int .i64 1)],
 .o 18 (.callc date_before) [.t 17],
 .M 19 0,
 .o 20 (.binI .leq) [.t 18, .t 19]])
 (.cond (.t 20) .skip
 (.exit 0)))
 (.block 1 (.region 0 [.o 21 (.fadr 0) [.t 4],
 .o 22 .load1 [.t 21],
 .o 23 (.binI .add) [.t 22, .k (.int .i64 1)],
 .o 24 (.fadr 0) [.t 4],
 ⟨.store 1, [.t 24, .t 23], none, none⟩])))
def date_Civil_b2 : EC := (.seq (.seq (.region 0 [.M 30 5,
 .o 31 (.fadr 0) [.t 4],
 .o 32 .load1 [.t 31],
 .o 33 (.fadr 1) [.t 4],
 .o 34 .load1 [.t 33],
 .o 35 (.callc date_Length) [.t 32, .t 34],
 .o 36 (.binI .geq) [.t 30, .t 35]])
 (.cond (.t 36) .skip
 (.exit 2)))
 (.block 3 (.seq (.region 0 [.M 37 5,
 .o 38 (.fadr 0) [.t 4],
 .o 39 .load1 [.t 38],
 .o 40 (.fadr 1) [.t 4],
 .o 41 .load1 [.t 40],
 .o 42 (.callc date_Length) [.t 39, .t 41],
 .o 43 (.binI .sub) [.t 37, .t 42],
 .M 5 43])
 (.region 0 [.o 44 (.fadr 1) [.t 4],
 .o 45 .load1 [.t 44],
 .o 46 (.binI .add) [.t 45, .k (.int .i64 1)],
 .o 47 (.fadr 1) [.t 4],
 ⟨.store 1, [.t 47, .t 46], none, none⟩]))))
def f_date_Civil : EF := ⟨[0], [.cell 2 true 3, .tmp 3], (.seq (.region 1 [.o 2 (.alloc 0 [.int .i64 0, .int .i64 0, .int .i64 0]) [],
 .C 3 (.nili)])
 (.seq (.seq (.region 0 [.M 6 0,
 .o 7 (.callc date_is) [.t 6],
 .o 8 .not [.t 7]])
 (.cond (.t 8) (.seq (.region 0 [.o 9 (.build [.int .i64 0, .int .i64 0, .int .i64 0] []) [],
 .o 10 (.callc fault_Of) [.k (.int .i64 4)],
 ⟨.store 3, [.t 2, .t 9], none, none⟩,
 .M 3 10])
 .ret)
 .skip))
 (.seq (.region 1 [.M 11 0,
 .o 12 (.binI .quo) [.t 11, .k (.int .i64 366)],
 .o 13 (.binI .add) [.k (.int .i64 1900), .t 12],
 .o 14 (.build [.int .i64 0, .int .i64 0, .int .i64 0] [(0, 1), (1, 1)]) [.t 13, .k (.int .i64 1)],
 .o 4 (.alloc 0 [.int .i64 0, .int .i64 0, .int .i64 0]) [],
 ⟨.store 3, [.t 4, .t 14], none, none⟩])
 (.seq (.block 0 (.loop [0, 2, 4] [0, 2, 4] date_Civil_b1))
 (.seq (.region 0 [.M 25 0,
 .o 26 (.fadr 0) [.t 4],
 .o 27 .load1 [.t 26],
 .o 28 (.callc date_before) [.t 27],
 .o 29 (.binI .sub) [.t 25, .t 28],
 .M 5 29])
 (.seq (.block 2 (.loop [2, 4, 5] [2, 4, 5] date_Civil_b2))
 (.seq (.region 0 [.M 48 5,
 .o 49 (.binI .add) [.t 48, .k (.int .i64 1)],
 .o 50 (.fadr 2) [.t 4],
 ⟨.store 1, [.t 50, .t 49], none, none⟩])
 (.seq (.region 0 [.o 51 (.loadA 3) [.t 4],
 ⟨.store 3, [.t 2, .t 51], none, none⟩,
 .C 3 (.nili)])
 .ret))))))))⟩
def f_plan_Quasi : EF := ⟨[0, 1], [.tmp 4, .tmp 5], (.seq (.region 1 [.o 2 (.box 0) [.t 0],
 .C 4 (.int .i64 0),
 .C 5 (.nili)])
 (.seq (.seq (.region 0 [.o 10 (.loadA 9) [.t 2],
 .o 11 (.callc bond_Check) [.t 10],
 .M 6 11])
 (.seq (.region 0 [.M 12 6,
 .o 13 (.eqN true true) [.t 12, .k (.nili)]])
 (.cond (.t 13) (.seq (.region 0 [.M 14 6,
 .C 4 (.int .i64 0),
 .M 5 14])
 .ret)
 .skip)))
 (.seq (.region 0 [.o 16 (.loadA 9) [.t 2],
 .M 17 1,
 .o 18 (.callc plan_place) [.t 16, .t 17],
 .M 15 18,
 .o 19 (.ext 0) [.t 15],
 .o 20 (.ext 1) [.t 15],
 .M 7 19,
 .M 8 20])
 (.seq (.seq (.region 0 [.M 21 8,
 .o 22 .not [.t 21],
 .M 23 22,
 .g 23 false 24 (.mov) [.t 1],
 .g 23 false 25 (.fadr 0) [.t 2],
 .g 23 false 26 (.load1) [.t 25],
 .g 23 false 27 (.binI .leq) [.t 24, .t 26],
 .o 28 .pick [.t 23, .k (.bool true), .t 27]])
 (.cond (.t 28) (.seq (.region 0 [.o 29 (.callc fault_Of) [.k (.int .i64 4)],
 .C 4 (.int .i64 0),
 .M 5 29])
 .ret)
 .skip))
 (.seq (.region 0 [.o 31 (.loadA 9) [.t 2],
 .M 32 7,
 .o 33 (.binI .add) [.t 32, .k (.int .i64 1)],
 .o 34 (.callc plan_anchor) [.t 31, .t 33],
 .M 30 34,
 .o 35 (.ext 0) [.t 30],
 .o 36 (.ext 1) [.t 30],
 .M 9 35,
 .M 8 36])
 (.seq (.seq (.region 0 [.M 37 8,
 .o 38 .not [.t 37]])
 (.cond (.t 38) (.seq (.region 0 [.o 39 (.callc fault_Of) [.k (.int .i64 4)],
 .C 4 (.int .i64 0),
 .M 5 39])
 .ret)
 .skip))
 (.seq (.region 0 [.M 40 9,
 .M 4 40,
 .C 5 (.nili)])
 .ret)))))))⟩
def flow_quasis_b1 : EC := (.seq (.seq (.region 0 [.M 12 7,
 .o 13 (.fadr 0) [.t 3],
 .o 14 .load1 [.t 13],
 .o 15 (.binI .gtr) [.t 12, .t 14]])
 (.cond (.t 15) .skip
 (.exit 0)))
 (.block 1 (.seq (.region 0 [.o 17 (.loadA 9) [.t 2],
 .M 18 7,
 .o 19 (.callc plan_Quasi) [.t 17, .t 18],
 .M 16 19,
 .o 20 (.ext 0) [.t 16],
 .o 21 (.ext 1) [.t 16],
 .M 8 20,
 .M 9 21])
 (.seq (.seq (.region 0 [.M 22 9,
 .o 23 (.eqN true true) [.t 22, .k (.nili)]])
 (.cond (.t 23) (.seq (.region 0 [.M 24 9,
 .C 4 (.nils),
 .M 5 24])
 .ret)
 .skip))
 (.seq (.region 1 [.M 25 6,
 .M 26 8,
 .M 27 7,
 .o 28 (.build [.int .i64 0, .int .i64 0] [(0, 1), (1, 1)]) [.t 26, .t 27],
 .o 29 (.bsl 2 1 [.int .i64 0, .int .i64 0] [(0, 2)]) [.t 28],
 .o 30 (.app 0 2) [.t 25, .t 29],
 .M 6 30])
 (.region 0 [.M 31 8,
 .M 7 31]))))))
def f_flow_quasis : EF := ⟨[0, 1], [.tmp 4, .tmp 5], (.seq (.region 2 [.o 2 (.box 0) [.t 0],
 .o 3 (.box 1) [.t 1],
 .C 4 (.nils),
 .C 5 (.nili)])
 (.seq (.region 0 [.C 6 (.nils)])
 (.seq (.seq (.region 0 [.o 10 (.fadr 1) [.t 3],
 .o 11 .load1 [.t 10],
 .M 7 11])
 (.block 0 (.loop [2, 3, 6, 7] [4, 5, 6] flow_quasis_b1)))
 (.seq (.region 0 [.M 32 6,
 .M 4 32,
 .C 5 (.nili)])
 .ret))))⟩
def f_count_Part : EF := ⟨[0, 1, 2, 3, 4, 5], [.tmp 12, .tmp 13], (.seq (.region 0 [.C 12 (.nilp),
 .C 13 (.nili)])
 (.seq (.region 0 [.C 14 (.func count_Part_1 [])])
 (.seq (.block 0 (.seq (.region 0 [.M 21 0,
 .o 22 (.callc count_May) [.t 21],
 .o 23 .not [.t 22],
 .M 20 23])
 (.cond (.t 20) (.seq (.region 0 [.o 24 (.callc fault_Of) [.k (.int .i64 1)],
 .C 12 (.nilp),
 .M 13 24])
 .ret)
 (.seq (.region 0 [.M 26 14,
 .M 27 1,
 .o 28 .callv [.t 26, .t 27],
 .o 29 .not [.t 28],
 .M 30 29,
 .g 30 false 31 (.mov) [.t 14],
 .g 30 false 32 (.mov) [.t 2],
 .g 30 false 33 (.callv) [.t 31, .t 32],
 .g 30 false 34 (.not) [.t 33],
 .o 35 .pick [.t 30, .k (.bool true), .t 34],
 .M 36 35,
 .g 36 false 37 (.mov) [.t 2],
 .g 36 false 38 (.mov) [.t 1],
 .g 36 false 39 (.binI .lss) [.t 37, .t 38],
 .o 40 .pick [.t 36, .k (.bool true), .t 39],
 .M 41 40,
 .g 41 false 42 (.mov) [.t 0],
 .g 41 false 43 (.binI .eql) [.t 42, .k (.int .i64 4)],
 .g 41 false 44 (.mov) [.t 43],
 .g 44 true 45 (.mov) [.t 14],
 .g 44 true 46 (.mov) [.t 3],
 .g 44 true 47 (.callv) [.t 45, .t 46],
 .g 44 true 48 (.not) [.t 47],
 .g 44 true 49 (.mov) [.t 48],
 .g 49 false 50 (.mov) [.t 14],
 .g 49 false 51 (.mov) [.t 4],
 .g 49 false 52 (.callv) [.t 50, .t 51],
 .g 49 false 53 (.not) [.t 52],
 .g 44 true 54 (.pick) [.t 49, .k (.bool true), .t 53],
 .g 41 false 55 (.pick) [.t 44, .t 54, .k (.bool false)],
 .o 56 .pick [.t 41, .k (.bool true), .t 55],
 .M 25 56])
 (.cond (.t 25) (.seq (.region 0 [.o 57 (.callc fault_Of) [.k (.int .i64 4)],
 .C 12 (.nilp),
 .M 13 57])
 .ret)
 (.seq (.region 0 [.M 59 0,
 .o 60 (.binI .eql) [.t 59, .k (.int .i64 4)],
 .M 61 60,
 .g 61 true 62 (.mov) [.t 3],
 .g 61 true 63 (.mov) [.t 4],
 .g 61 true 64 (.binI .geq) [.t 62, .t 63],
 .g 61 true 65 (.mov) [.t 64],
 .g 65 false 66 (.mov) [.t 5],
 .g 65 false 67 (.binI .lss) [.t 66, .k (.int .i64 1)],
 .g 61 true 68 (.pick) [.t 65, .k (.bool true), .t 67],
 .o 69 .pick [.t 61, .t 68, .k (.bool false)],
 .M 58 69])
 (.cond (.t 58) (.seq (.region 0 [.o 70 (.callc fault_Of) [.k (.int .i64 2)],
 .C 12 (.nilp),
 .M 13 70])
 .ret)
 .skip)))))))
 (.seq (.region 0 [.C 15 (.int .i64 360)])
 (.seq (.seq (.region 0 [.M 71 0])
 (.join [0, 1, 2, 5, 15] (.block 1 (.seq (.region 0 [.o 73 (.binI .eql) [.t 71, .k (.int .i64 3)],
 .M 72 73])
 (.join [0, 1, 2, 5, 15] (.cond (.t 72) (.region 0 [.C 15 (.int .i64 365)])
 (.seq (.region 0 [.o 75 (.binI .eql) [.t 71, .k (.int .i64 4)],
 .M 74 75])
 (.join [0, 1, 2, 5, 15] (.cond (.t 74) (.region 0 [.M 76 4,
 .M 77 3,
 .o 78 (.binI .sub) [.t 76, .t 77],
 .M 15 78])
 .skip)))))))))
 (.seq (.region 0 [.M 80 0,
 .M 81 1,
 .M 82 2,
 .o 83 (.callc count_Days) [.t 80, .t 81, .t 82],
 .M 84 15,
 .o 85 (.callc rat_Of) [.t 83, .t 84],
 .M 79 85,
 .o 86 (.ext 0) [.t 79],
 .o 87 (.ext 1) [.t 79],
 .M 16 86,
 .M 17 87])
 (.seq (.seq (.region 0 [.M 88 17,
 .o 89 (.eqN true true) [.t 88, .k (.nili)],
 .M 90 89,
 .g 90 false 91 (.mov) [.t 0],
 .g 90 false 92 (.binI .neq) [.t 91, .k (.int .i64 4)],
 .o 93 .pick [.t 90, .k (.bool true), .t 92]])
 (.cond (.t 93) (.seq (.region 0 [.M 94 16,
 .M 95 17,
 .M 12 94,
 .M 13 95])
 .ret)
 .skip))
 (.seq (.region 0 [.M 97 5,
 .o 98 (.callc rat_Of) [.t 97, .k (.int .i64 1)],
 .M 96 98,
 .o 99 (.ext 0) [.t 96],
 .o 100 (.ext 1) [.t 96],
 .M 18 99,
 .M 19 100])
 (.seq (.region 0 [.M 101 16,
 .M 102 18,
 .o 103 (.callc rat_Rat_Div) [.t 101, .t 102],
 .o 104 (.ext 0) [.t 103],
 .o 105 (.ext 1) [.t 103],
 .M 12 104,
 .M 13 105])
 .ret)))))))))⟩
def f_num_Int_Text : EF := ⟨[0], [.tmp 2], (.seq (.region 0 [.C 2 (.str [])])
 (.seq (.seq (.region 0 [.M 3 0,
 .o 4 (.callc num_Int_Sign) [.t 3],
 .o 5 (.binI .lss) [.t 4, .k (.int .i64 0)]])
 (.cond (.t 5) (.seq (.region 0 [.M 6 0,
 .o 7 (.callc num_Int_Abs) [.t 6],
 .o 8 (.callc nat_Nat_Text) [.t 7],
 .o 9 (.binS .add) [.k (.str [45]), .t 8],
 .M 2 9])
 .ret)
 .skip))
 (.seq (.region 0 [.M 10 0,
 .o 11 (.callc num_Int_Abs) [.t 10],
 .o 12 (.callc nat_Nat_Text) [.t 11],
 .M 2 12])
 .ret)))⟩
def f_plan_anchor : EF := ⟨[0, 1], [.tmp 4, .tmp 5], (.seq (.region 1 [.o 2 (.box 0) [.t 0],
 .C 4 (.int .i64 0),
 .C 5 (.bool false)])
 (.seq (.drawn 0 [(0, .o 9 (.fadr 1) [.t 2]),
 (1, .o 10 .load1 [.t 9]),
 (2, .M 11 1),
 (3, .o 12 .neg [.t 11]),
 (4, .o 13 (.loadA 9) [.t 2]),
 (5, .o 14 (.callc bond_Months) [.t 13]),
 (6, .o 15 (.binI .mul) [.t 12, .t 14]),
 (7, .o 16 (.fadr 7) [.t 2]),
 (8, .o 17 .load1 [.t 16]),
 (9, .o 18 (.callc month_Add) [.t 10, .t 15, .t 17]),
 (10, .M 8 18),
 (11, .o 19 (.ext 0) [.t 8]),
 (12, .o 20 (.ext 1) [.t 8]),
 (13, .M 6 19),
 (14, .M 7 20)])
 (.seq (.drawn 0 [(0, .M 21 6),
 (1, .M 22 7),
 (2, .o 23 (.eqN false true) [.t 22, .k (.nili)]),
 (3, .M 4 21),
 (4, .M 5 23)])
 .ret)))⟩
def f_price_life : EF := ⟨[0, 1], [.tmp 4, .tmp 5, .tmp 6], (.seq (.region 1 [.o 2 (.box 0) [.t 0],
 .C 4 (.sl 0 []),
 .C 5 (.int .i64 0),
 .C 6 (.nili)])
 (.seq (.seq (.region 0 [.o 12 (.loadA 9) [.t 2],
 .M 13 1,
 .o 14 (.callc flow_Left) [.t 12, .t 13],
 .M 11 14,
 .o 15 (.ext 0) [.t 11],
 .o 16 (.ext 1) [.t 11],
 .M 7 15,
 .M 8 16])
 (.seq (.region 0 [.M 17 8,
 .o 18 (.eqN true true) [.t 17, .k (.nili)]])
 (.cond (.t 18) (.seq (.region 0 [.M 19 8,
 .C 4 (.sl 0 []),
 .C 5 (.int .i64 0),
 .M 6 19])
 .ret)
 .skip)))
 (.seq (.region 0 [.o 21 (.loadA 9) [.t 2],
 .o 22 (.callc plan_Of) [.t 21],
 .M 20 22,
 .o 23 (.ext 0) [.t 20],
 .o 24 (.ext 1) [.t 20],
 .M 9 23,
 .M 10 24])
 (.seq (.region 0 [.M 25 9,
 .M 26 9,
 .M 27 1,
 .o 28 (.callc plan_At) [.t 26, .t 27],
 .M 29 10,
 .M 4 25,
 .M 5 28,
 .M 6 29])
 .ret))))⟩
def f_rat_Rat_Div : EF := ⟨[0, 1], [.tmp 4, .tmp 5], (.seq (.region 0 [.C 4 (.nilp),
 .C 5 (.nili)])
 (.seq (.region 0 [.M 6 0,
 .o 7 (.callc rat_Rat_Num) [.t 6],
 .M 8 1,
 .o 9 (.callc rat_Rat_Den) [.t 8],
 .o 10 (.callc num_Int_Mul) [.t 7, .t 9],
 .M 11 0,
 .o 12 (.callc rat_Rat_Den) [.t 11],
 .M 13 1,
 .o 14 (.callc rat_Rat_Num) [.t 13],
 .o 15 (.callc num_Int_Mul) [.t 12, .t 14],
 .o 16 (.callc rat_New) [.t 10, .t 15],
 .o 17 (.ext 0) [.t 16],
 .o 18 (.ext 1) [.t 16],
 .M 4 17,
 .M 5 18])
 .ret))⟩
def f_price_one : EF := ⟨[], [.tmp 0], (.seq (.region 0 [.C 0 (.nilp)])
 (.seq (.region 0 [.o 4 (.callc rat_Of) [.k (.int .i64 1), .k (.int .i64 1)],
 .M 3 4,
 .o 5 (.ext 0) [.t 3],
 .o 6 (.ext 1) [.t 3],
 .M 1 5,
 .M 2 6])
 (.seq (.region 0 [.M 7 1,
 .M 0 7])
 .ret)))⟩
def f_nat_Of : EF := ⟨[0], [.tmp 2], (.seq (.region 0 [.C 2 (.nilp)])
 (.seq (.region 0 [.M 3 0,
 .o 4 (.bsl 1 1 [.int .u64 0] [(0, 1)]) [.t 3],
 .o 5 (.callc nat_made) [.t 4],
 .M 2 5])
 .ret))⟩
def f_num_Int_Abs : EF := ⟨[0], [.tmp 2], (.seq (.region 0 [.C 2 (.nilp)])
 (.seq (.seq (.region 0 [.M 3 0,
 .o 4 (.eqP false) [.t 3, .k (.nilp)],
 .M 5 4,
 .g 5 false 6 (.mov) [.t 0],
 .g 5 false 7 (.nilck) [.t 6],
 .g 5 false 8 (.fadr 1) [.t 7],
 .g 5 false 9 (.load1) [.t 8],
 .g 5 false 10 (.eqP false) [.t 9, .k (.nilp)],
 .o 11 .pick [.t 5, .k (.bool true), .t 10]])
 (.cond (.t 11) (.seq (.region 0 [.o 12 (.callc nat_Of) [.k (.int .u64 0)],
 .M 2 12])
 .ret)
 .skip))
 (.seq (.region 0 [.M 13 0,
 .o 14 .nilck [.t 13],
 .o 15 (.fadr 1) [.t 14],
 .o 16 .load1 [.t 15],
 .M 2 16])
 .ret)))⟩
def nat_Nat_Mul_b1 : EC := (.seq (.region 0 [.o 36 (.binI .lss) [.t 35, .t 34]])
 (.seq (.cond (.t 36) .skip
 (.exit 2))
 (.seq (.block 3 (.seq (.region 0 [.M 37 35,
 .o 38 (.iadr 1) [.t 33, .t 35],
 .o 39 .load1 [.t 38],
 .M 11 37,
 .M 12 39])
 (.seq (.region 0 [.M 41 9,
 .M 42 12,
 .o 43 (.callc bits_Mul64) [.t 41, .t 42],
 .M 40 43,
 .o 44 (.ext 0) [.t 40],
 .o 45 (.ext 1) [.t 40],
 .M 13 44,
 .M 14 45])
 (.seq (.region 0 [.C 15 (.int .u64 0)])
 (.seq (.region 0 [.M 47 14,
 .M 48 7,
 .M 49 8,
 .M 50 11,
 .o 51 (.binI .add) [.t 49, .t 50],
 .o 52 (.iadr 1) [.t 48, .t 51],
 .o 53 .load1 [.t 52],
 .o 54 (.callc bits_Add64) [.t 47, .t 53, .k (.int .u64 0)],
 .M 46 54,
 .o 55 (.ext 0) [.t 46],
 .o 56 (.ext 1) [.t 46],
 .M 14 55,
 .M 15 56])
 (.seq (.region 0 [.M 57 13,
 .M 58 15,
 .o 59 (.binI .add) [.t 57, .t 58],
 .M 13 59])
 (.seq (.region 0 [.M 61 14,
 .M 62 10,
 .o 63 (.callc bits_Add64) [.t 61, .t 62, .k (.int .u64 0)],
 .M 60 63,
 .o 64 (.ext 0) [.t 60],
 .o 65 (.ext 1) [.t 60],
 .M 14 64,
 .M 15 65])
 (.region 0 [.M 66 7,
 .M 67 8,
 .M 68 11,
 .o 69 (.binI .add) [.t 67, .t 68],
 .M 70 14,
 .M 71 13,
 .M 72 15,
 .o 73 (.binI .add) [.t 71, .t 72],
 .o 74 (.iadr 1) [.t 66, .t 69],
 ⟨.store 1, [.t 74, .t 70], none, none⟩,
 .M 10 73]))))))))
 (.region 0 [.o 75 (.binI .add) [.t 35, .k (.int .i64 1)],
 .M 35 75]))))
def nat_Nat_Mul_b2 : EC := (.seq (.region 0 [.o 29 (.binI .lss) [.t 28, .t 27]])
 (.seq (.cond (.t 29) .skip
 (.exit 0))
 (.seq (.block 1 (.seq (.region 0 [.M 30 28,
 .o 31 (.iadr 1) [.t 26, .t 28],
 .o 32 .load1 [.t 31],
 .M 8 30,
 .M 9 32])
 (.seq (.region 0 [.C 10 (.int .u64 0)])
 (.seq (.seq (.region 0 [.M 33 6,
 .o 34 .lenL [.t 33],
 .C 35 (.int .i64 0)])
 (.block 2 (.loop [6, 7, 8, 9, 10, 26, 27, 28, 33, 34, 35] [6, 7, 8, 10, 26, 27, 28] nat_Nat_Mul_b1)))
 (.region 0 [.M 76 7,
 .M 77 8,
 .M 78 6,
 .o 79 .lenL [.t 78],
 .o 80 (.binI .add) [.t 77, .t 79],
 .M 81 10,
 .o 82 (.iadr 1) [.t 76, .t 80],
 ⟨.store 1, [.t 82, .t 81], none, none⟩])))))
 (.region 0 [.o 83 (.binI .add) [.t 28, .k (.int .i64 1)],
 .M 28 83]))))
def f_nat_Nat_Mul : EF := ⟨[0, 1], [.tmp 4], (.seq (.region 0 [.C 4 (.nilp)])
 (.seq (.region 0 [.M 16 0,
 .o 17 (.callc nat_Nat_limbs) [.t 16],
 .M 18 1,
 .o 19 (.callc nat_Nat_limbs) [.t 18],
 .M 5 17,
 .M 6 19])
 (.seq (.region 1 [.M 20 5,
 .o 21 .lenL [.t 20],
 .M 22 6,
 .o 23 .lenL [.t 22],
 .o 24 (.binI .add) [.t 21, .t 23],
 .o 25 (.mksl 0 1 [.int .u64 0]) [.t 24, .t 24],
 .M 7 25])
 (.seq (.seq (.region 0 [.M 26 5,
 .o 27 .lenL [.t 26],
 .C 28 (.int .i64 0)])
 (.block 0 (.loop [6, 7, 26, 27, 28] [7] nat_Nat_Mul_b2)))
 (.seq (.region 0 [.M 84 7,
 .o 85 (.callp nat_made) [.t 84],
 .M 4 85])
 .ret)))))⟩
def nat_Nat_Add_b1 : EC := (.seq (.region 0 [.o 29 (.binI .lss) [.t 28, .t 27]])
 (.seq (.cond (.t 29) .skip
 (.exit 0))
 (.seq (.join [5, 6, 7, 8, 27, 28] (.block 1 (.seq (.region 0 [.M 30 28,
 .M 9 30])
 (.seq (.region 0 [.C 10 (.int .u64 0)])
 (.seq (.seq (.region 0 [.M 31 9,
 .M 32 6,
 .o 33 .lenL [.t 32],
 .o 34 (.binI .lss) [.t 31, .t 33]])
 (.join [5, 6, 7, 8, 9, 10, 27, 28] (.cond (.t 34) (.region 0 [.M 35 6,
 .M 36 9,
 .o 37 (.iadr 1) [.t 35, .t 36],
 .o 38 .load1 [.t 37],
 .M 10 38])
 .skip)))
 (.region 0 [.M 40 7,
 .M 41 9,
 .M 42 5,
 .M 43 9,
 .o 44 (.iadr 1) [.t 42, .t 43],
 .o 45 .load1 [.t 44],
 .M 46 10,
 .M 47 8,
 .o 48 (.callc bits_Add64) [.t 45, .t 46, .t 47],
 .M 39 48,
 .o 49 (.ext 0) [.t 39],
 .o 50 (.ext 1) [.t 39],
 .o 51 (.iadr 1) [.t 40, .t 41],
 ⟨.store 1, [.t 51, .t 49], none, none⟩,
 .M 8 50]))))))
 (.region 0 [.o 52 (.binI .add) [.t 28, .k (.int .i64 1)],
 .M 28 52]))))
def f_nat_Nat_Add : EF := ⟨[0, 1], [.tmp 4], (.seq (.region 0 [.C 4 (.nilp)])
 (.seq (.region 0 [.M 11 0,
 .o 12 (.callc nat_Nat_limbs) [.t 11],
 .M 13 1,
 .o 14 (.callc nat_Nat_limbs) [.t 13],
 .M 5 12,
 .M 6 14])
 (.seq (.seq (.region 0 [.M 15 5,
 .o 16 .lenL [.t 15],
 .M 17 6,
 .o 18 .lenL [.t 17],
 .o 19 (.binI .lss) [.t 16, .t 18]])
 (.join [5, 6] (.cond (.t 19) (.region 0 [.M 20 6,
 .M 21 5,
 .M 5 20,
 .M 6 21])
 .skip)))
 (.seq (.region 1 [.M 22 5,
 .o 23 .lenL [.t 22],
 .o 24 (.binI .add) [.t 23, .k (.int .i64 1)],
 .o 25 (.mksl 0 1 [.int .u64 0]) [.t 24, .t 24],
 .M 7 25])
 (.seq (.region 0 [.C 8 (.int .u64 0)])
 (.seq (.seq (.region 0 [.M 26 5,
 .o 27 .lenL [.t 26],
 .C 28 (.int .i64 0)])
 (.block 0 (.loop [5, 6, 7, 8, 27, 28] [5, 7, 8] nat_Nat_Add_b1)))
 (.seq (.region 0 [.M 53 7,
 .M 54 5,
 .o 55 .lenL [.t 54],
 .M 56 8,
 .o 57 (.iadr 1) [.t 53, .t 55],
 ⟨.store 1, [.t 57, .t 56], none, none⟩])
 (.seq (.region 0 [.M 58 7,
 .o 59 (.callp nat_made) [.t 58],
 .M 4 59])
 .ret))))))))⟩
def f_nat_Nat_Cmp : EF := ⟨[0, 1], [.tmp 4], (.seq (.region 0 [.C 4 (.int .i64 0)])
 (.seq (.region 0 [.M 5 0,
 .o 6 (.callc nat_Nat_limbs) [.t 5],
 .M 7 1,
 .o 8 (.callc nat_Nat_limbs) [.t 7],
 .o 9 (.callc nat_compare) [.t 6, .t 8],
 .M 4 9])
 .ret))⟩
def nat_Nat_Sub_b1 : EC := (.seq (.region 0 [.o 27 (.binI .lss) [.t 26, .t 25]])
 (.seq (.cond (.t 27) .skip
 (.exit 0))
 (.seq (.join [6, 7, 8, 9, 25, 26] (.block 1 (.seq (.region 0 [.M 28 26,
 .M 10 28])
 (.seq (.region 0 [.C 11 (.int .u64 0)])
 (.seq (.seq (.region 0 [.M 29 10,
 .M 30 7,
 .o 31 .lenL [.t 30],
 .o 32 (.binI .lss) [.t 29, .t 31]])
 (.join [6, 7, 8, 9, 10, 11, 25, 26] (.cond (.t 32) (.region 0 [.M 33 7,
 .M 34 10,
 .o 35 (.iadr 1) [.t 33, .t 34],
 .o 36 .load1 [.t 35],
 .M 11 36])
 .skip)))
 (.region 0 [.M 38 8,
 .M 39 10,
 .M 40 6,
 .M 41 10,
 .o 42 (.iadr 1) [.t 40, .t 41],
 .o 43 .load1 [.t 42],
 .M 44 11,
 .M 45 9,
 .o 46 (.callc bits_Sub64) [.t 43, .t 44, .t 45],
 .M 37 46,
 .o 47 (.ext 0) [.t 37],
 .o 48 (.ext 1) [.t 37],
 .o 49 (.iadr 1) [.t 38, .t 39],
 ⟨.store 1, [.t 49, .t 47], none, none⟩,
 .M 9 48]))))))
 (.region 0 [.o 50 (.binI .add) [.t 26, .k (.int .i64 1)],
 .M 26 50]))))
def f_nat_Nat_Sub : EF := ⟨[0, 1], [.tmp 4, .tmp 5], (.seq (.region 0 [.C 4 (.nilp),
 .C 5 (.nili)])
 (.seq (.region 0 [.M 12 0,
 .o 13 (.callc nat_Nat_limbs) [.t 12],
 .M 14 1,
 .o 15 (.callc nat_Nat_limbs) [.t 14],
 .M 6 13,
 .M 7 15])
 (.seq (.seq (.region 0 [.M 16 6,
 .M 17 7,
 .o 18 (.callc nat_compare) [.t 16, .t 17],
 .o 19 (.binI .lss) [.t 18, .k (.int .i64 0)]])
 (.cond (.t 19) (.seq (.region 0 [.o 20 (.callc fault_Of) [.k (.int .i64 2)],
 .C 4 (.nilp),
 .M 5 20])
 .ret)
 .skip))
 (.seq (.region 1 [.M 21 6,
 .o 22 .lenL [.t 21],
 .o 23 (.mksl 0 1 [.int .u64 0]) [.t 22, .t 22],
 .M 8 23])
 (.seq (.region 0 [.C 9 (.int .u64 0)])
 (.seq (.seq (.region 0 [.M 24 6,
 .o 25 .lenL [.t 24],
 .C 26 (.int .i64 0)])
 (.block 0 (.loop [6, 7, 8, 9, 25, 26] [8] nat_Nat_Sub_b1)))
 (.seq (.region 0 [.M 51 8,
 .o 52 (.callp nat_made) [.t 51],
 .M 4 52,
 .C 5 (.nili)])
 .ret)))))))⟩
end Go.Ev.Code
end
