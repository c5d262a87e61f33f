/- A part of the proof of the theorem yieldNone_card. -/
import Derived.Test.YtjjogojaemahkaaGreatDoorCodeA
set_option linter.unusedVariables false
namespace Go.Ev.Code
open Go.Ev
def price_common_b1 : EC := (.seq (.region 0 [.o 21 (.binI .lss) [.t 20, .t 19]])
 (.seq (.cond (.t 21) .skip
 (.exit 0))
 (.seq (.block 1 (.seq (.region 0 [.o 22 (.iadr 1) [.t 18, .t 20],
 .o 23 .load1 [.t 22],
 .M 6 23])
 (.seq (.region 0 [.M 24 4,
 .o 25 (.callc num_Int_Abs) [.t 24],
 .M 26 6,
 .o 27 (.callc rat_Rat_Den) [.t 26],
 .o 28 (.callc num_Int_Abs) [.t 27],
 .o 29 (.callc nat_Nat_Gcd) [.t 25, .t 28],
 .o 30 (.callc num_New) [.k (.bool false), .t 29],
 .M 7 30])
 (.seq (.region 0 [.M 32 6,
 .o 33 (.callc rat_Rat_Den) [.t 32],
 .M 34 7,
 .o 35 (.callc num_Int_Div) [.t 33, .t 34],
 .M 31 35,
 .o 36 (.ext 0) [.t 31],
 .o 37 (.ext 1) [.t 31],
 .o 38 (.ext 2) [.t 31],
 .M 8 36,
 .M 9 37,
 .M 10 38])
 (.region 0 [.M 39 4,
 .M 40 8,
 .o 41 (.callc num_Int_Mul) [.t 39, .t 40],
 .M 4 41])))))
 (.region 0 [.o 42 (.binI .add) [.t 20, .k (.int .i64 1)],
 .M 20 42]))))
def price_common_b2 : EC := (.seq (.region 0 [.o 46 (.binI .lss) [.t 45, .t 44]])
 (.seq (.cond (.t 46) .skip
 (.exit 2))
 (.seq (.block 3 (.seq (.region 0 [.o 47 (.iadr 1) [.t 43, .t 45],
 .o 48 .load1 [.t 47],
 .M 13 48])
 (.seq (.region 0 [.M 50 4,
 .M 51 13,
 .o 52 (.callc rat_Rat_Den) [.t 51],
 .o 53 (.callc num_Int_Div) [.t 50, .t 52],
 .M 49 53,
 .o 54 (.ext 0) [.t 49],
 .o 55 (.ext 1) [.t 49],
 .o 56 (.ext 2) [.t 49],
 .M 14 54,
 .M 15 55,
 .M 16 56])
 (.region 1 [.M 57 11,
 .M 58 13,
 .o 59 (.callc rat_Rat_Num) [.t 58],
 .M 60 14,
 .o 61 (.callc num_Int_Mul) [.t 59, .t 60],
 .o 62 (.bsl 1 1 [.nilp] [(0, 1)]) [.t 61],
 .o 63 (.app 0 1) [.t 57, .t 62],
 .M 11 63]))))
 (.region 0 [.o 64 (.binI .add) [.t 45, .k (.int .i64 1)],
 .M 45 64]))))
def f_price_common : EF := ⟨[0], [.tmp 2, .tmp 3], (.seq (.region 0 [.C 2 (.nils),
 .C 3 (.nilp)])
 (.seq (.region 0 [.o 17 (.callc num_Of) [.k (.int .i64 1)],
 .M 4 17])
 (.seq (.seq (.region 0 [.M 18 0,
 .o 19 .lenL [.t 18],
 .C 20 (.int .i64 0)])
 (.block 0 (.loop [0, 4, 18, 19, 20] [0, 4] price_common_b1)))
 (.seq (.region 0 [.C 11 (.nils)])
 (.seq (.seq (.region 0 [.M 43 0,
 .o 44 .lenL [.t 43],
 .C 45 (.int .i64 0)])
 (.block 2 (.loop [4, 11, 43, 44, 45] [4, 11] price_common_b2)))
 (.seq (.region 0 [.M 65 11,
 .M 66 4,
 .M 2 65,
 .M 3 66])
 .ret))))))⟩
def f_nat_Nat_Gcd : EF := ⟨[0, 1], [.tmp 4], (.seq (.region 0 [.C 4 (.nilp)])
 (.seq (.seq (.region 0 [.M 8 0,
 .M 9 1,
 .o 10 (.callc nat_Nat_Cmp) [.t 8, .t 9],
 .o 11 (.binI .lss) [.t 10, .k (.int .i64 0)]])
 (.join [0, 1] (.cond (.t 11) (.region 0 [.M 12 1,
 .M 13 0,
 .M 0 12,
 .M 1 13])
 .skip)))
 (.seq (.seq (.region 0 [.M 14 1,
 .o 15 (.callc nat_Nat_Zero) [.t 14]])
 (.cond (.t 15) (.seq (.region 0 [.M 16 0,
 .o 17 (.callc nat_Nat_limbs) [.t 16],
 .o 18 (.callc nat_made) [.t 17],
 .M 4 18])
 .ret)
 .skip))
 (.seq (.region 0 [.M 20 0,
 .M 21 1,
 .o 22 (.callc nat_Nat_Div) [.t 20, .t 21],
 .M 19 22,
 .o 23 (.ext 0) [.t 19],
 .o 24 (.ext 1) [.t 19],
 .o 25 (.ext 2) [.t 19],
 .M 5 23,
 .M 6 24,
 .M 7 25])
 (.seq (.seq (.region 0 [.M 26 6,
 .o 27 (.callc nat_Nat_Zero) [.t 26]])
 (.cond (.t 27) (.seq (.region 0 [.M 28 1,
 .o 29 (.callc nat_Nat_limbs) [.t 28],
 .o 30 (.callc nat_made) [.t 29],
 .M 4 30])
 .ret)
 .skip))
 (.seq (.region 0 [.M 31 1,
 .o 32 (.callc nat_Nat_limbs) [.t 31],
 .M 33 6,
 .o 34 (.callc nat_Nat_limbs) [.t 33],
 .o 35 (.callc nat_common) [.t 32, .t 34],
 .M 4 35])
 .ret))))))⟩
def f_nat_Nat_Div : EF := ⟨[0, 1], [.tmp 4, .tmp 5, .tmp 6], (.seq (.region 0 [.C 4 (.nilp),
 .C 5 (.nilp),
 .C 6 (.nili)])
 (.seq (.region 0 [.M 13 0,
 .o 14 (.callc nat_Nat_limbs) [.t 13],
 .M 15 1,
 .o 16 (.callc nat_Nat_limbs) [.t 15],
 .M 7 14,
 .M 8 16])
 (.seq (.block 0 (.seq (.region 0 [.M 18 8,
 .o 19 .lenL [.t 18],
 .o 20 (.binI .eql) [.t 19, .k (.int .i64 0)],
 .M 17 20])
 (.cond (.t 17) (.seq (.region 0 [.o 21 (.callc fault_Of) [.k (.int .i64 3)],
 .C 4 (.nilp),
 .C 5 (.nilp),
 .M 6 21])
 .ret)
 (.seq (.region 0 [.M 23 7,
 .M 24 8,
 .o 25 (.callc nat_compare) [.t 23, .t 24],
 .o 26 (.binI .lss) [.t 25, .k (.int .i64 0)],
 .M 22 26])
 (.cond (.t 22) (.seq (.region 0 [.o 27 (.callc nat_Of) [.k (.int .u64 0)],
 .M 28 7,
 .o 29 (.callc nat_made) [.t 28],
 .M 4 27,
 .M 5 29,
 .C 6 (.nili)])
 .ret)
 (.seq (.region 0 [.M 31 8,
 .o 32 .lenL [.t 31],
 .o 33 (.binI .eql) [.t 32, .k (.int .i64 1)],
 .M 30 33])
 (.cond (.t 30) (.seq (.region 0 [.M 35 7,
 .M 36 8,
 .o 37 (.iadr 1) [.t 36, .k (.int .i64 0)],
 .o 38 .load1 [.t 37],
 .o 39 (.callc nat_short) [.t 35, .t 38],
 .M 34 39,
 .o 40 (.ext 0) [.t 34],
 .o 41 (.ext 1) [.t 34],
 .M 9 40,
 .M 10 41])
 (.seq (.region 0 [.M 42 9,
 .o 43 (.callc nat_made) [.t 42],
 .M 44 10,
 .o 45 (.callc nat_Of) [.t 44],
 .M 4 43,
 .M 5 45,
 .C 6 (.nili)])
 .ret))
 .skip)))))))
 (.seq (.region 0 [.M 47 7,
 .M 48 8,
 .o 49 (.callc nat_long) [.t 47, .t 48],
 .M 46 49,
 .o 50 (.ext 0) [.t 46],
 .o 51 (.ext 1) [.t 46],
 .M 11 50,
 .M 12 51])
 (.seq (.region 0 [.M 52 11,
 .o 53 (.callc nat_made) [.t 52],
 .M 54 12,
 .o 55 (.callc nat_made) [.t 54],
 .M 4 53,
 .M 5 55,
 .C 6 (.nili)])
 .ret)))))⟩
def f_dec_ten : EF := ⟨[0], [.tmp 2], (.seq (.region 0 [.C 2 (.nilp)])
 (.seq (.region 0 [.o 3 (.callc nat_Of) [.k (.int .u64 10)],
 .M 4 0,
 .o 5 (.callc nat_Nat_Pow) [.t 3, .t 4],
 .o 6 (.callc num_New) [.k (.bool false), .t 5],
 .M 2 6])
 .ret))⟩
def f_price_Clean : EF := ⟨[0, 1, 2], [.tmp 6, .tmp 7], (.seq (.region 1 [.o 3 (.box 0) [.t 0],
 .C 6 (.nilp),
 .C 7 (.nili)])
 (.seq (.region 0 [.o 12 (.loadA 9) [.t 3],
 .M 13 1,
 .M 14 2,
 .o 15 (.callc price_Dirty) [.t 12, .t 13, .t 14],
 .M 11 15,
 .o 16 (.ext 0) [.t 11],
 .o 17 (.ext 1) [.t 11],
 .M 8 16,
 .M 9 17])
 (.seq (.seq (.region 0 [.M 18 9,
 .o 19 (.eqN true true) [.t 18, .k (.nili)]])
 (.cond (.t 19) (.seq (.region 0 [.M 20 9,
 .C 6 (.nilp),
 .M 7 20])
 .ret)
 .skip))
 (.seq (.region 0 [.o 22 (.loadA 9) [.t 3],
 .M 23 1,
 .o 24 (.callc accr_Of) [.t 22, .t 23],
 .M 21 24,
 .o 25 (.ext 0) [.t 21],
 .o 26 (.ext 1) [.t 21],
 .M 10 25,
 .M 9 26])
 (.seq (.seq (.region 0 [.M 27 9,
 .o 28 (.eqN true true) [.t 27, .k (.nili)]])
 (.cond (.t 28) (.seq (.region 0 [.M 29 9,
 .C 6 (.nilp),
 .M 7 29])
 .ret)
 .skip))
 (.seq (.region 0 [.M 30 8,
 .M 31 10,
 .o 32 (.callc rat_Rat_Sub) [.t 30, .t 31],
 .M 6 32,
 .C 7 (.nili)])
 .ret))))))⟩
def f_num_Int_Div : EF := ⟨[0, 1], [.tmp 4, .tmp 5, .tmp 6], (.seq (.region 0 [.C 4 (.nilp),
 .C 5 (.nilp),
 .C 6 (.nili)])
 (.seq (.region 0 [.M 12 0,
 .o 13 (.callc num_Int_Abs) [.t 12],
 .M 14 1,
 .o 15 (.callc num_Int_Abs) [.t 14],
 .o 16 (.callc nat_Nat_Div) [.t 13, .t 15],
 .M 11 16,
 .o 17 (.ext 0) [.t 11],
 .o 18 (.ext 1) [.t 11],
 .o 19 (.ext 2) [.t 11],
 .M 7 17,
 .M 8 18,
 .M 9 19])
 (.seq (.seq (.region 0 [.M 20 9,
 .o 21 (.eqN true true) [.t 20, .k (.nili)]])
 (.cond (.t 21) (.seq (.region 0 [.M 22 9,
 .C 4 (.nilp),
 .C 5 (.nilp),
 .M 6 22])
 .ret)
 .skip))
 (.seq (.region 0 [.M 23 0,
 .o 24 (.callc num_Int_Sign) [.t 23],
 .M 25 1,
 .o 26 (.callc num_Int_Sign) [.t 25],
 .o 27 (.binI .mul) [.t 24, .t 26],
 .o 28 (.binI .lss) [.t 27, .k (.int .i64 0)],
 .M 10 28])
 (.seq (.seq (.region 0 [.M 29 10,
 .M 30 29,
 .g 30 true 31 (.mov) [.t 8],
 .g 30 true 32 (.callc nat_Nat_Zero) [.t 31],
 .g 30 true 33 (.not) [.t 32],
 .o 34 .pick [.t 30, .t 33, .k (.bool false)]])
 (.join [1, 7, 8, 10] (.cond (.t 34) (.seq (.region 0 [.M 35 7,
 .o 36 (.callc nat_Of) [.k (.int .u64 1)],
 .o 37 (.callc nat_Nat_Add) [.t 35, .t 36],
 .M 7 37])
 (.region 0 [.M 39 1,
 .o 40 (.callc num_Int_Abs) [.t 39],
 .M 41 8,
 .o 42 (.callc nat_Nat_Sub) [.t 40, .t 41],
 .M 38 42,
 .o 43 (.ext 0) [.t 38],
 .o 44 (.ext 1) [.t 38],
 .M 8 43]))
 .skip)))
 (.seq (.region 0 [.M 45 10,
 .M 46 7,
 .o 47 (.callc num_New) [.t 45, .t 46],
 .M 48 1,
 .o 49 (.callc num_Int_Sign) [.t 48],
 .o 50 (.binI .lss) [.t 49, .k (.int .i64 0)],
 .M 51 8,
 .o 52 (.callc num_New) [.t 50, .t 51],
 .M 4 47,
 .M 5 52,
 .C 6 (.nili)])
 .ret))))))⟩
def f_rentierlaw6_begun : EF := ⟨[], [.tmp 0], (.seq (.region 0 [.C 0 (.bool false)])
 (.seq (.region 0 [.o 17 (.build [.int .i64 0, .int .i64 0, .int .i64 0] [(0, 1), (1, 1), (2, 1)]) [.k (.int .i64 2000), .k (.int .i64 2), .k (.int .i64 29)],
 .o 18 (.callc date_Of) [.t 17],
 .M 16 18,
 .o 19 (.ext 0) [.t 16],
 .o 20 (.ext 1) [.t 16],
 .M 1 19,
 .M 2 20])
 (.seq (.region 1 [.M 22 1,
 .o 23 (.callc date_Civil) [.t 22],
 .M 21 23,
 .o 24 (.ext 0) [.t 21],
 .o 25 (.ext 1) [.t 21],
 .o 3 (.alloc 0 [.int .i64 0, .int .i64 0, .int .i64 0]) [],
 ⟨.store 3, [.t 3, .t 24], none, none⟩,
 .M 4 25])
 (.seq (.region 0 [.M 27 1,
 .o 28 (.callc month_Add) [.t 27, .k (.int .i64 12), .k (.bool false)],
 .M 26 28,
 .o 29 (.ext 0) [.t 26],
 .o 30 (.ext 1) [.t 26],
 .M 5 29,
 .M 6 30])
 (.seq (.region 0 [.o 32 (.callc easter_Sunday) [.k (.int .i64 2024)],
 .M 31 32,
 .o 33 (.ext 0) [.t 31],
 .o 34 (.ext 1) [.t 31],
 .M 7 33,
 .M 8 34])
 (.seq (.region 1 [.o 35 (.build [.int .i64 0, .int .i64 0, .int .i64 0, .int .i64 0, .int .i64 0, .bool false] [(0, 1), (1, 1), (2, 1)]) [.k (.int .i64 1), .k (.int .i64 1), .k (.int .i64 1)],
 .o 9 (.alloc 0 [.int .i64 0, .int .i64 0, .int .i64 0, .int .i64 0, .int .i64 0, .bool false]) [],
 ⟨.store 6, [.t 9, .t 35], none, none⟩])
 (.seq (.region 0 [.o 37 (.loadA 6) [.t 9],
 .o 38 (.bsl 6 1 [.int .i64 0, .int .i64 0, .int .i64 0, .int .i64 0, .int .i64 0, .bool false] [(0, 6)]) [.t 37],
 .o 39 (.callc cal_New) [.t 38, .k (.sl 0 [])],
 .M 36 39,
 .o 40 (.ext 0) [.t 36],
 .o 41 (.ext 1) [.t 36],
 .M 10 40,
 .M 11 41])
 (.seq (.seq (.region 0 [.M 42 10,
 .o 43 (.eqP false) [.t 42, .k (.nilp)]])
 (.cond (.t 43) (.seq (.region 0 [.C 0 (.bool false)])
 .ret)
 .skip))
 (.seq (.region 0 [.M 45 10,
 .o 46 (.callc roll_Day) [.t 45, .k (.int .i64 0), .k (.int .i64 1)],
 .M 44 46,
 .o 47 (.ext 0) [.t 44],
 .o 48 (.ext 1) [.t 44],
 .M 12 47,
 .M 13 48])
 (.seq (.region 0 [.o 50 (.callc rentierlaw6_count30) [],
 .M 51 1,
 .M 52 5,
 .o 53 (.callc count_Part) [.t 50, .t 51, .t 52, .k (.int .i64 0), .k (.int .i64 0), .k (.int .i64 0)],
 .M 49 53,
 .o 54 (.ext 0) [.t 49],
 .o 55 (.ext 1) [.t 49],
 .M 14 54,
 .M 15 55])
 (.seq (.seq (.region 0 [.M 56 14,
 .o 57 (.eqP false) [.t 56, .k (.nilp)]])
 (.cond (.t 57) (.seq (.region 0 [.C 0 (.bool false)])
 .ret)
 .skip))
 (.seq (.region 0 [.o 58 (.callc rentierlaw2_Begun) [],
 .M 59 58,
 .g 59 true 60 (.mov) [.t 2],
 .g 59 true 61 (.eqN false true) [.t 60, .k (.nili)],
 .o 62 .pick [.t 59, .t 61, .k (.bool false)],
 .M 63 62,
 .g 63 true 64 (.mov) [.t 4],
 .g 63 true 65 (.eqN false true) [.t 64, .k (.nili)],
 .o 66 .pick [.t 63, .t 65, .k (.bool false)],
 .M 67 66,
 .g 67 true 68 (.fadr 2) [.t 3],
 .g 67 true 69 (.load1) [.t 68],
 .g 67 true 70 (.binI .eql) [.t 69, .k (.int .i64 29)],
 .o 71 .pick [.t 67, .t 70, .k (.bool false)],
 .M 72 71,
 .g 72 true 73 (.mov) [.t 1],
 .g 72 true 74 (.callc date_Text) [.t 73],
 .g 72 true 75 (.binS .eql) [.t 74, .k (.str [50, 48, 48, 48, 45, 48, 50, 45, 50, 57])],
 .o 76 .pick [.t 72, .t 75, .k (.bool false)],
 .M 77 76,
 .g 77 true 78 (.mov) [.t 6],
 .g 77 true 79 (.eqN false true) [.t 78, .k (.nili)],
 .o 80 .pick [.t 77, .t 79, .k (.bool false)],
 .M 81 80,
 .g 81 true 82 (.mov) [.t 5],
 .g 81 true 83 (.callc date_Text) [.t 82],
 .g 81 true 84 (.binS .eql) [.t 83, .k (.str [50, 48, 48, 49, 45, 48, 50, 45, 50, 56])],
 .o 85 .pick [.t 81, .t 84, .k (.bool false)],
 .M 86 85,
 .g 86 true 87 (.mov) [.t 8],
 .g 86 true 88 (.eqN false true) [.t 87, .k (.nili)],
 .o 89 .pick [.t 86, .t 88, .k (.bool false)],
 .M 90 89,
 .g 90 true 91 (.mov) [.t 7],
 .g 90 true 92 (.callc date_Text) [.t 91],
 .g 90 true 93 (.binS .eql) [.t 92, .k (.str [50, 48, 50, 52, 45, 48, 51, 45, 51, 49])],
 .o 94 .pick [.t 90, .t 93, .k (.bool false)],
 .M 95 94,
 .g 95 true 96 (.mov) [.t 11],
 .g 95 true 97 (.eqN false true) [.t 96, .k (.nili)],
 .o 98 .pick [.t 95, .t 97, .k (.bool false)],
 .M 99 98,
 .g 99 true 100 (.mov) [.t 10],
 .g 99 true 101 (.callc cal_Cal_Open) [.t 100, .k (.int .i64 0)],
 .g 99 true 102 (.not) [.t 101],
 .o 103 .pick [.t 99, .t 102, .k (.bool false)],
 .M 104 103,
 .g 104 true 105 (.mov) [.t 10],
 .g 104 true 106 (.callc cal_Cal_Open) [.t 105, .k (.int .i64 1)],
 .o 107 .pick [.t 104, .t 106, .k (.bool false)],
 .M 108 107,
 .g 108 true 109 (.mov) [.t 13],
 .g 108 true 110 (.eqN false true) [.t 109, .k (.nili)],
 .o 111 .pick [.t 108, .t 110, .k (.bool false)],
 .M 112 111,
 .g 112 true 113 (.mov) [.t 12],
 .g 112 true 114 (.binI .eql) [.t 113, .k (.int .i64 1)],
 .o 115 .pick [.t 112, .t 114, .k (.bool false)],
 .M 116 115,
 .g 116 true 117 (.mov) [.t 15],
 .g 116 true 118 (.eqN false true) [.t 117, .k (.nili)],
 .o 119 .pick [.t 116, .t 118, .k (.bool false)],
 .M 120 119,
 .g 120 true 121 (.mov) [.t 14],
 .g 120 true 122 (.callc rat_Rat_Text) [.t 121],
 .g 120 true 123 (.binS .eql) [.t 122, .k (.str [51, 53, 57, 47, 51, 54, 48])],
 .o 124 .pick [.t 120, .t 123, .k (.bool false)],
 .M 125 124,
 .g 125 true 126 (.callc date_Weekday) [.k (.int .i64 0)],
 .g 125 true 127 (.binI .eql) [.t 126, .k (.int .i64 1)],
 .o 128 .pick [.t 125, .t 127, .k (.bool false)],
 .M 129 128,
 .g 129 true 130 (.loadA 6) [.t 9],
 .g 129 true 131 (.callc holi_Is) [.t 130, .k (.int .i64 0)],
 .o 132 .pick [.t 129, .t 131, .k (.bool false)],
 .M 133 132,
 .g 133 true 134 (.mov) [.t 1],
 .g 133 true 135 (.callc month_Last) [.t 134],
 .o 136 .pick [.t 133, .t 135, .k (.bool false)],
 .M 137 136,
 .g 137 true 138 (.mov) [.t 10],
 .g 137 true 139 (.bsl 1 2 [.nilp] [(0, 1), (1, 1)]) [.t 138, .k (.nilp)],
 .g 137 true 140 (.callc cal_Join) [.t 139],
 .g 137 true 141 (.eqP true) [.t 140, .k (.nilp)],
 .o 142 .pick [.t 137, .t 141, .k (.bool false)],
 .M 0 142])
 .ret))))))))))))⟩
def f_date_Weekday : EF := ⟨[0], [.tmp 2], (.seq (.region 0 [.C 2 (.int .i64 0)])
 (.seq (.seq (.region 0 [.M 3 0,
 .o 4 (.callc date_is) [.t 3],
 .o 5 .not [.t 4]])
 (.cond (.t 5) (.seq (.region 0 [.C 2 (.int .i64 (-1))])
 .ret)
 .skip))
 (.seq (.region 0 [.M 6 0,
 .o 7 (.binI .add) [.t 6, .k (.int .i64 1)],
 .o 8 (.binI .rem) [.t 7, .k (.int .i64 7)],
 .M 2 8])
 .ret)))⟩
def f_month_Add : EF := ⟨[0, 1, 2], [.tmp 6, .tmp 7], (.seq (.region 0 [.C 6 (.int .i64 0),
 .C 7 (.nili)])
 (.seq (.region 1 [.M 14 0,
 .o 15 (.callc date_Civil) [.t 14],
 .M 13 15,
 .o 16 (.ext 0) [.t 13],
 .o 17 (.ext 1) [.t 13],
 .o 8 (.alloc 0 [.int .i64 0, .int .i64 0, .int .i64 0]) [],
 ⟨.store 3, [.t 8, .t 16], none, none⟩,
 .M 9 17])
 (.seq (.seq (.region 0 [.M 18 9,
 .o 19 (.eqN true true) [.t 18, .k (.nili)]])
 (.cond (.t 19) (.seq (.region 0 [.M 20 9,
 .C 6 (.int .i64 0),
 .M 7 20])
 .ret)
 .skip))
 (.seq (.seq (.region 0 [.M 21 1,
 .o 22 (.binI .lss) [.t 21, .k (.int .i64 (-3600))],
 .M 23 22,
 .g 23 false 24 (.mov) [.t 1],
 .g 23 false 25 (.binI .gtr) [.t 24, .k (.int .i64 3600)],
 .o 26 .pick [.t 23, .k (.bool true), .t 25]])
 (.cond (.t 26) (.seq (.region 0 [.o 27 (.callc fault_Of) [.k (.int .i64 4)],
 .C 6 (.int .i64 0),
 .M 7 27])
 .ret)
 .skip))
 (.seq (.region 0 [.o 28 (.fadr 0) [.t 8],
 .o 29 .load1 [.t 28],
 .o 30 (.binI .mul) [.t 29, .k (.int .i64 12)],
 .o 31 (.fadr 1) [.t 8],
 .o 32 .load1 [.t 31],
 .o 33 (.binI .add) [.t 30, .t 32],
 .o 34 (.binI .sub) [.t 33, .k (.int .i64 1)],
 .M 35 1,
 .o 36 (.binI .add) [.t 34, .t 35],
 .M 10 36])
 (.seq (.region 0 [.M 37 10,
 .o 38 (.binI .quo) [.t 37, .k (.int .i64 12)],
 .M 39 10,
 .o 40 (.binI .rem) [.t 39, .k (.int .i64 12)],
 .o 41 (.binI .add) [.t 40, .k (.int .i64 1)],
 .M 11 38,
 .M 12 41])
 (.seq (.seq (.region 0 [.M 42 2,
 .M 43 42,
 .g 43 true 44 (.mov) [.t 0],
 .g 43 true 45 (.callc month_Last) [.t 44],
 .o 46 .pick [.t 43, .t 45, .k (.bool false)]])
 (.cond (.t 46) (.seq (.region 0 [.M 47 11,
 .M 48 12,
 .o 49 (.callc month_End) [.t 47, .t 48],
 .o 50 (.ext 0) [.t 49],
 .o 51 (.ext 1) [.t 49],
 .M 6 50,
 .M 7 51])
 .ret)
 .skip))
 (.seq (.drawn 0 [(0, .M 52 11),
 (1, .M 53 12),
 (2, .o 54 (.fadr 2) [.t 8]),
 (3, .o 55 .load1 [.t 54]),
 (4, .M 56 11),
 (5, .M 57 12),
 (6, .o 58 (.callc date_Length) [.t 56, .t 57]),
 (7, .o 59 .mn [.t 55, .t 58]),
 (8, .o 60 (.build [.int .i64 0, .int .i64 0, .int .i64 0] [(0, 1), (1, 1), (2, 1)]) [.t 52, .t 53, .t 59]),
 (9, .o 61 (.callc date_Of) [.t 60]),
 (10, .o 62 (.ext 0) [.t 61]),
 (11, .o 63 (.ext 1) [.t 61]),
 (12, .M 6 62),
 (13, .M 7 63)])
 .ret))))))))⟩
def f_nat_Nat_limbs : EF := ⟨[0], [.tmp 2], (.seq (.region 0 [.C 2 (.sl 0 [])])
 (.seq (.seq (.region 0 [.M 3 0,
 .o 4 (.eqP false) [.t 3, .k (.nilp)]])
 (.cond (.t 4) (.seq (.region 0 [.C 2 (.sl 0 [])])
 .ret)
 .skip))
 (.seq (.region 0 [.M 5 0,
 .o 6 .nilck [.t 5],
 .o 7 (.fadr 0) [.t 6],
 .o 8 .load1 [.t 7],
 .M 2 8])
 .ret)))⟩
def f_num_Int_Sub : EF := ⟨[0, 1], [.tmp 4], (.seq (.region 0 [.C 4 (.nilp)])
 (.seq (.region 0 [.M 5 0,
 .M 6 1,
 .o 7 (.callc num_Int_Neg) [.t 6],
 .o 8 (.callc num_Int_Add) [.t 5, .t 7],
 .M 4 8])
 .ret))⟩
def f_date_before : EF := ⟨[0], [.tmp 2], (.seq (.region 0 [.C 2 (.int .i64 0)])
 (.seq (.region 0 [.M 5 0,
 .o 6 (.binI .sub) [.t 5, .k (.int .i64 1)],
 .M 3 6,
 .C 4 (.int .i64 1899)])
 (.seq (.region 0 [.M 7 0,
 .o 8 (.binI .sub) [.t 7, .k (.int .i64 1900)],
 .o 9 (.binI .mul) [.k (.int .i64 365), .t 8],
 .M 10 3,
 .o 11 (.binI .quo) [.t 10, .k (.int .i64 4)],
 .M 12 3,
 .o 13 (.binI .quo) [.t 12, .k (.int .i64 100)],
 .o 14 (.binI .sub) [.t 11, .t 13],
 .M 15 3,
 .o 16 (.binI .quo) [.t 15, .k (.int .i64 400)],
 .o 17 (.binI .add) [.t 14, .t 16],
 .o 18 (.binI .add) [.t 9, .t 17],
 .M 19 4,
 .o 20 (.binI .quo) [.t 19, .k (.int .i64 4)],
 .M 21 4,
 .o 22 (.binI .quo) [.t 21, .k (.int .i64 100)],
 .o 23 (.binI .sub) [.t 20, .t 22],
 .M 24 4,
 .o 25 (.binI .quo) [.t 24, .k (.int .i64 400)],
 .o 26 (.binI .add) [.t 23, .t 25],
 .o 27 (.binI .sub) [.t 18, .t 26],
 .M 2 27])
 .ret)))⟩
def f_date_Leap : EF := ⟨[0], [.tmp 2], (.seq (.region 0 [.C 2 (.bool false)])
 (.seq (.region 0 [.M 3 0,
 .o 4 (.binI .rem) [.t 3, .k (.int .i64 4)],
 .o 5 (.binI .eql) [.t 4, .k (.int .i64 0)],
 .M 6 5,
 .g 6 true 7 (.mov) [.t 0],
 .g 6 true 8 (.binI .rem) [.t 7, .k (.int .i64 100)],
 .g 6 true 9 (.binI .neq) [.t 8, .k (.int .i64 0)],
 .g 6 true 10 (.mov) [.t 9],
 .g 10 false 11 (.mov) [.t 0],
 .g 10 false 12 (.binI .rem) [.t 11, .k (.int .i64 400)],
 .g 10 false 13 (.binI .eql) [.t 12, .k (.int .i64 0)],
 .g 6 true 14 (.pick) [.t 10, .k (.bool true), .t 13],
 .o 15 .pick [.t 6, .t 14, .k (.bool false)],
 .M 2 15])
 .ret))⟩
def f_date_is : EF := ⟨[0], [.tmp 2], (.seq (.region 0 [.C 2 (.bool false)])
 (.seq (.region 0 [.M 3 0,
 .o 4 (.binI .geq) [.t 3, .k (.int .i64 0)],
 .M 5 4,
 .g 5 true 6 (.mov) [.t 0],
 .g 5 true 7 (.binI .leq) [.t 6, .k (.int .i64 109572)],
 .o 8 .pick [.t 5, .t 7, .k (.bool false)],
 .M 2 8])
 .ret))⟩
def plan_place_b1 : EC := (.seq (.block 1 (.seq (.region 0 [.o 12 (.loadA 9) [.t 2],
 .M 13 6,
 .o 14 (.callc plan_anchor) [.t 12, .t 13],
 .M 11 14,
 .o 15 (.ext 0) [.t 11],
 .o 16 (.ext 1) [.t 11],
 .M 7 15,
 .M 8 16])
 (.seq (.seq (.region 0 [.M 17 8,
 .o 18 .not [.t 17],
 .M 19 18,
 .g 19 false 20 (.mov) [.t 7],
 .g 19 false 21 (.mov) [.t 1],
 .g 19 false 22 (.binI .lss) [.t 20, .t 21],
 .o 23 .pick [.t 19, .k (.bool true), .t 22]])
 (.cond (.t 23) (.seq (.region 0 [.C 4 (.int .i64 0),
 .C 5 (.bool false)])
 .ret)
 .skip))
 (.seq (.region 0 [.M 24 7,
 .M 25 1,
 .o 26 (.binI .eql) [.t 24, .t 25]])
 (.cond (.t 26) (.seq (.region 0 [.M 27 6,
 .M 4 27,
 .C 5 (.bool true)])
 .ret)
 .skip)))))
 (.region 0 [.M 9 6,
 .o 10 (.binI .add) [.t 9, .k (.int .i64 1)],
 .M 6 10]))
def f_plan_place : EF := ⟨[0, 1], [.tmp 4, .tmp 5], (.seq (.region 1 [.o 2 (.box 0) [.t 0],
 .C 4 (.int .i64 0),
 .C 5 (.bool false)])
 (.seq (.region 0 [.C 6 (.int .i64 0)])
 (.block 0 (.loop [1, 2, 6] [4, 5] plan_place_b1))))⟩
def f_count_Part_1 : EF := ⟨[0], [.tmp 2], (.seq (.region 0 [.C 2 (.bool false)])
 (.seq (.region 0 [.M 3 0,
 .o 4 (.callc date_Weekday) [.t 3],
 .o 5 (.binI .geq) [.t 4, .k (.int .i64 0)],
 .M 2 5])
 .ret))⟩
def f_count_Days : EF := ⟨[0, 1, 2], [.tmp 6], (.seq (.region 0 [.C 6 (.int .i64 0)])
 (.seq (.region 1 [.M 12 1,
 .o 13 (.callc date_Civil) [.t 12],
 .M 11 13,
 .o 14 (.ext 0) [.t 11],
 .o 15 (.ext 1) [.t 11],
 .o 7 (.alloc 0 [.int .i64 0, .int .i64 0, .int .i64 0]) [],
 ⟨.store 3, [.t 7, .t 14], none, none⟩,
 .M 8 15])
 (.seq (.region 1 [.M 17 2,
 .o 18 (.callc date_Civil) [.t 17],
 .M 16 18,
 .o 19 (.ext 0) [.t 16],
 .o 20 (.ext 1) [.t 16],
 .o 9 (.alloc 0 [.int .i64 0, .int .i64 0, .int .i64 0]) [],
 ⟨.store 3, [.t 9, .t 19], none, none⟩,
 .M 10 20])
 (.seq (.seq (.region 0 [.M 21 8,
 .o 22 (.eqN true true) [.t 21, .k (.nili)],
 .M 23 22,
 .g 23 false 24 (.mov) [.t 10],
 .g 23 false 25 (.eqN true true) [.t 24, .k (.nili)],
 .o 26 .pick [.t 23, .k (.bool true), .t 25],
 .M 27 26,
 .g 27 false 28 (.mov) [.t 0],
 .g 27 false 29 (.callc count_May) [.t 28],
 .g 27 false 30 (.not) [.t 29],
 .o 31 .pick [.t 27, .k (.bool true), .t 30]])
 (.cond (.t 31) (.seq (.region 0 [.C 6 (.int .i64 0)])
 .ret)
 .skip))
 (.seq (.seq (.region 0 [.M 32 0,
 .o 33 (.binI .neq) [.t 32, .k (.int .i64 1)]])
 (.cond (.t 33) (.seq (.region 0 [.M 34 2,
 .M 35 1,
 .o 36 (.binI .sub) [.t 34, .t 35],
 .M 6 36])
 .ret)
 .skip))
 (.seq (.region 0 [.o 37 (.fadr 0) [.t 9],
 .o 38 .load1 [.t 37],
 .o 39 (.fadr 0) [.t 7],
 .o 40 .load1 [.t 39],
 .o 41 (.binI .sub) [.t 38, .t 40],
 .o 42 (.binI .mul) [.k (.int .i64 360), .t 41],
 .o 43 (.fadr 1) [.t 9],
 .o 44 .load1 [.t 43],
 .o 45 (.fadr 1) [.t 7],
 .o 46 .load1 [.t 45],
 .o 47 (.binI .sub) [.t 44, .t 46],
 .o 48 (.binI .mul) [.k (.int .i64 30), .t 47],
 .o 49 (.binI .add) [.t 42, .t 48],
 .o 50 (.fadr 2) [.t 9],
 .o 51 .load1 [.t 50],
 .o 52 .mn [.t 51, .k (.int .i64 30)],
 .o 53 (.binI .add) [.t 49, .t 52],
 .o 54 (.fadr 2) [.t 7],
 .o 55 .load1 [.t 54],
 .o 56 .mn [.t 55, .k (.int .i64 30)],
 .o 57 (.binI .sub) [.t 53, .t 56],
 .M 6 57])
 .ret))))))⟩
def nat_Nat_Text_b1 : EC := (.seq (.seq (.region 0 [.M 10 4,
 .o 11 .lenL [.t 10],
 .o 12 (.binI .gtr) [.t 11, .k (.int .i64 0)]])
 (.cond (.t 12) .skip
 (.exit 0)))
 (.join [3, 4] (.block 1 (.seq (.region 0 [.C 5 (.int .u64 0)])
 (.seq (.region 0 [.M 14 4,
 .o 15 (.callp nat_short) [.t 14, .k (.int .u64 1000000000000000000)],
 .M 13 15,
 .o 16 (.ext 0) [.t 13],
 .o 17 (.ext 1) [.t 13],
 .M 4 16,
 .M 5 17])
 (.seq (.region 0 [.M 18 4,
 .o 19 (.callp nat_made) [.t 18],
 .o 20 .nilck [.t 19],
 .o 21 (.fadr 0) [.t 20],
 .o 22 .load1 [.t 21],
 .M 4 22])
 (.seq (.region 0 [.M 23 5,
 .o 24 (.callc strconv_FormatUint) [.t 23, .k (.int .i64 10)],
 .M 6 24])
 (.seq (.seq (.region 0 [.M 25 4,
 .o 26 .lenL [.t 25],
 .o 27 (.binI .gtr) [.t 26, .k (.int .i64 0)]])
 (.join [3, 4, 6] (.cond (.t 27) (.region 0 [.M 28 6,
 .o 29 .lenS [.t 28],
 .o 30 (.binI .sub) [.k (.int .i64 18), .t 29],
 .o 31 (.callc strings_Repeat) [.k (.str [48]), .t 30],
 .M 32 6,
 .o 33 (.binS .add) [.t 31, .t 32],
 .M 6 33])
 .skip)))
 (.region 1 [.M 34 3,
 .M 35 6,
 .o 36 (.bsl 1 1 [.str []] [(0, 1)]) [.t 35],
 .o 37 (.app 0 1) [.t 34, .t 36],
 .M 3 37])))))))))
def f_nat_Nat_Text : EF := ⟨[0], [.tmp 2], (.seq (.region 0 [.C 2 (.str [])])
 (.seq (.region 0 [.C 3 (.nils)])
 (.seq (.seq (.region 0 [.M 7 0,
 .o 8 (.callc nat_Nat_limbs) [.t 7],
 .o 9 (.calla slices_Clone_uint64) [.t 8],
 .M 4 9])
 (.block 0 (.loop [3, 4] [3] nat_Nat_Text_b1)))
 (.seq (.seq (.region 0 [.M 38 3,
 .o 39 .lenL [.t 38],
 .o 40 (.binI .eql) [.t 39, .k (.int .i64 0)]])
 (.cond (.t 40) (.seq (.region 0 [.C 2 (.str [48])])
 .ret)
 .skip))
 (.seq (.region 0 [.M 41 3,
 .o 42 (.calla slices_Reverse_string) [.t 41]])
 (.seq (.region 0 [.M 43 3,
 .o 44 (.callp strings_Join) [.t 43, .k (.str [])],
 .M 2 44])
 .ret))))))⟩
def nat_made_b1 : EC := (.seq (.seq (.region 0 [.M 3 0,
 .o 4 .lenL [.t 3],
 .o 5 (.binI .gtr) [.t 4, .k (.int .i64 0)],
 .M 6 5,
 .g 6 true 7 (.mov) [.t 0],
 .g 6 true 8 (.mov) [.t 0],
 .g 6 true 9 (.lenL) [.t 8],
 .g 6 true 10 (.binI .sub) [.t 9, .k (.int .i64 1)],
 .g 6 true 11 (.iadr 1) [.t 7, .t 10],
 .g 6 true 12 (.load1) [.t 11],
 .g 6 true 13 (.binI .eql) [.t 12, .k (.int .u64 0)],
 .o 14 .pick [.t 6, .t 13, .k (.bool false)]])
 (.cond (.t 14) .skip
 (.exit 0)))
 (.block 1 (.region 0 [.M 15 0,
 .M 16 0,
 .o 17 .lenL [.t 16],
 .o 18 (.binI .sub) [.t 17, .k (.int .i64 1)],
 .o 19 (.slL 1 false true) [.t 15, .t 18],
 .M 0 19])))
def f_nat_made : EF := ⟨[0], [.tmp 2], (.seq (.region 0 [.C 2 (.nilp)])
 (.seq (.block 0 (.loop [0] [0] nat_made_b1))
 (.seq (.region 1 [.M 20 0,
 .o 21 (.build [.sl 0 []] [(0, 1)]) [.t 20],
 .o 22 (.box 0) [.t 21],
 .M 2 22])
 .ret)))⟩
def nat_compare_b1 : EC := (.seq (.seq (.region 0 [.M 21 5,
 .o 22 (.binI .geq) [.t 21, .k (.int .i64 0)]])
 (.cond (.t 22) .skip
 (.exit 0)))
 (.seq (.block 1 (.block 2 (.seq (.drawn 0 [(0, .M 26 0),
 (1, .M 27 5),
 (2, .o 28 (.iadr 1) [.t 26, .t 27]),
 (3, .o 29 .load1 [.t 28]),
 (4, .M 30 1),
 (5, .M 31 5),
 (6, .o 32 (.iadr 1) [.t 30, .t 31]),
 (7, .o 33 .load1 [.t 32]),
 (8, .o 34 (.binI .lss) [.t 29, .t 33]),
 (9, .M 25 34)])
 (.cond (.t 25) (.seq (.region 0 [.C 4 (.int .i64 (-1))])
 .ret)
 (.seq (.drawn 0 [(0, .M 36 0),
 (1, .M 37 5),
 (2, .o 38 (.iadr 1) [.t 36, .t 37]),
 (3, .o 39 .load1 [.t 38]),
 (4, .M 40 1),
 (5, .M 41 5),
 (6, .o 42 (.iadr 1) [.t 40, .t 41]),
 (7, .o 43 .load1 [.t 42]),
 (8, .o 44 (.binI .gtr) [.t 39, .t 43]),
 (9, .M 35 44)])
 (.cond (.t 35) (.seq (.region 0 [.C 4 (.int .i64 1)])
 .ret)
 .skip))))))
 (.region 0 [.M 23 5,
 .o 24 (.binI .sub) [.t 23, .k (.int .i64 1)],
 .M 5 24])))
def f_nat_compare : EF := ⟨[0, 1], [.tmp 4], (.seq (.region 0 [.C 4 (.int .i64 0)])
 (.seq (.seq (.region 0 [.M 6 0,
 .o 7 .lenL [.t 6],
 .M 8 1,
 .o 9 .lenL [.t 8],
 .o 10 (.binI .neq) [.t 7, .t 9]])
 (.cond (.t 10) (.seq (.region 0 [.M 11 0,
 .o 12 .lenL [.t 11],
 .M 13 1,
 .o 14 .lenL [.t 13],
 .o 15 (.binI .sub) [.t 12, .t 14],
 .o 16 .mx [.t 15, .k (.int .i64 (-1))],
 .o 17 .mn [.t 16, .k (.int .i64 1)],
 .M 4 17])
 .ret)
 .skip))
 (.seq (.seq (.region 0 [.M 18 0,
 .o 19 .lenL [.t 18],
 .o 20 (.binI .sub) [.t 19, .k (.int .i64 1)],
 .M 5 20])
 (.block 0 (.loop [0, 1, 5] [4] nat_compare_b1)))
 (.seq (.region 0 [.C 4 (.int .i64 0)])
 .ret))))⟩
def nat_common_b1 : EC := (.join [0, 1, 4, 5] (.block 1 (.seq (.seq (.region 0 [.M 17 0,
 .M 18 1,
 .o 19 (.calla nat_compare) [.t 17, .t 18]])
 (.join [0, 1, 4, 5] (.block 2 (.seq (.region 0 [.o 21 (.binI .eql) [.t 19, .k (.int .i64 0)],
 .M 20 21])
 (.join [0, 1, 4, 5] (.cond (.t 20) (.seq (.region 0 [.M 22 0,
 .o 23 (.calla nat_made) [.t 22],
 .M 24 5,
 .o 25 (.callc nat_bit) [.t 24],
 .o 26 (.callp nat_Nat_Mul) [.t 23, .t 25],
 .M 4 26])
 .ret)
 (.seq (.region 0 [.o 28 (.binI .eql) [.t 19, .k (.int .i64 (-1))],
 .M 27 28])
 (.join [0, 1, 5] (.cond (.t 27) (.region 0 [.M 29 1,
 .M 30 0,
 .M 0 29,
 .M 1 30])
 .skip)))))))))
 (.region 0 [.M 31 0,
 .M 32 1,
 .o 33 (.calla nat_less) [.t 31, .t 32],
 .o 34 (.calla nat_odd) [.t 33],
 .M 0 34]))))
def f_nat_common : EF := ⟨[0, 1], [.tmp 4], (.seq (.region 0 [.C 4 (.nilp)])
 (.seq (.region 0 [.M 6 0,
 .o 7 (.calla nat_twos) [.t 6],
 .M 8 1,
 .o 9 (.calla nat_twos) [.t 8],
 .o 10 .mn [.t 7, .t 9],
 .M 5 10])
 (.seq (.region 0 [.M 11 0,
 .o 12 (.calla slices_Clone_uint64) [.t 11],
 .o 13 (.calla nat_odd) [.t 12],
 .M 14 1,
 .o 15 (.calla slices_Clone_uint64) [.t 14],
 .o 16 (.calla nat_odd) [.t 15],
 .M 0 13,
 .M 1 16])
 (.block 0 (.loop [0, 1, 5] [4] nat_common_b1)))))⟩
def nat_short_b1 : EC := (.seq (.seq (.region 0 [.M 15 8,
 .o 16 (.binI .geq) [.t 15, .k (.int .i64 0)]])
 (.cond (.t 16) .skip
 (.exit 0)))
 (.seq (.block 1 (.region 0 [.M 20 6,
 .M 21 8,
 .M 22 7,
 .M 23 0,
 .M 24 8,
 .o 25 (.iadr 1) [.t 23, .t 24],
 .o 26 .load1 [.t 25],
 .M 27 1,
 .o 28 (.callc bits_Div64) [.t 22, .t 26, .t 27],
 .M 19 28,
 .o 29 (.ext 0) [.t 19],
 .o 30 (.ext 1) [.t 19],
 .o 31 (.iadr 1) [.t 20, .t 21],
 ⟨.store 1, [.t 31, .t 29], none, none⟩,
 .M 7 30]))
 (.region 0 [.M 17 8,
 .o 18 (.binI .sub) [.t 17, .k (.int .i64 1)],
 .M 8 18])))
def f_nat_short : EF := ⟨[0, 1], [.tmp 4, .tmp 5], (.seq (.region 0 [.C 4 (.sl 0 []),
 .C 5 (.int .u64 0)])
 (.seq (.region 1 [.M 9 0,
 .o 10 .lenL [.t 9],
 .o 11 (.mksl 0 1 [.int .u64 0]) [.t 10, .t 10],
 .M 6 11])
 (.seq (.region 0 [.C 7 (.int .u64 0)])
 (.seq (.seq (.region 0 [.M 12 0,
 .o 13 .lenL [.t 12],
 .o 14 (.binI .sub) [.t 13, .k (.int .i64 1)],
 .M 8 14])
 (.block 0 (.loop [0, 1, 6, 7, 8] [6, 7] nat_short_b1)))
 (.seq (.region 0 [.M 32 6,
 .M 33 7,
 .M 4 32,
 .M 5 33])
 .ret)))))⟩
def nat_long_b1 : EC := (.seq (.seq (.region 0 [.M 66 12])
 (.cond (.t 66) .skip
 (.exit 2)))
 (.seq (.block 3 (.seq (.region 0 [.M 73 9,
 .M 74 10,
 .o 75 (.iadr 1) [.t 73, .t 74],
 .o 76 .load1 [.t 75],
 .o 77 (.binI .sub) [.t 76, .k (.int .u64 1)],
 .o 78 (.iadr 1) [.t 73, .t 74],
 ⟨.store 1, [.t 78, .t 77], none, none⟩])
 (.region 0 [.M 79 11,
 .M 80 8,
 .o 81 (.calla nat_gives) [.t 79, .t 80]])))
 (.region 0 [.M 67 11,
 .M 68 8,
 .o 69 .lenL [.t 68],
 .o 70 (.iadr 1) [.t 67, .t 69],
 .o 71 .load1 [.t 70],
 .o 72 (.binI .neq) [.t 71, .k (.int .u64 0)],
 .M 12 72])))
def nat_long_b2 : EC := (.seq (.seq (.region 0 [.M 41 10,
 .o 42 (.binI .geq) [.t 41, .k (.int .i64 0)]])
 (.cond (.t 42) .skip
 (.exit 0)))
 (.seq (.block 1 (.seq (.region 0 [.M 45 7,
 .M 46 10,
 .M 47 10,
 .M 48 8,
 .o 49 .lenL [.t 48],
 .o 50 (.binI .add) [.t 47, .t 49],
 .o 51 (.binI .add) [.t 50, .k (.int .i64 1)],
 .o 52 (.slL 1 true true) [.t 45, .t 46, .t 51],
 .M 11 52])
 (.seq (.region 0 [.M 53 9,
 .M 54 10,
 .M 55 11,
 .M 56 8,
 .o 57 (.calla nat_guess) [.t 55, .t 56],
 .o 58 (.iadr 1) [.t 53, .t 54],
 ⟨.store 1, [.t 58, .t 57], none, none⟩])
 (.seq (.region 0 [.M 59 11,
 .M 60 8,
 .M 61 9,
 .M 62 10,
 .o 63 (.iadr 1) [.t 61, .t 62],
 .o 64 .load1 [.t 63],
 .o 65 (.calla nat_takes) [.t 59, .t 60, .t 64],
 .M 12 65])
 (.block 2 (.loop [1, 6, 7, 8, 9, 10, 11, 12] [1, 6, 7, 8, 9, 10] nat_long_b1))))))
 (.region 0 [.M 43 10,
 .o 44 (.binI .sub) [.t 43, .k (.int .i64 1)],
 .M 10 44])))
def nat_long_b3 : EC := (.seq (.region 0 [.o 88 (.binI .lss) [.t 87, .t 86]])
 (.seq (.cond (.t 88) .skip
 (.exit 4))
 (.seq (.block 5 (.seq (.region 0 [.M 89 87,
 .M 14 89])
 (.drawn 0 [(0, .M 90 13),
 (1, .M 91 14),
 (2, .M 92 7),
 (3, .M 93 14),
 (4, .o 94 (.iadr 1) [.t 92, .t 93]),
 (5, .o 95 .load1 [.t 94]),
 (6, .M 96 6),
 (7, .o 97 (.sh false) [.t 95, .t 96]),
 (8, .M 98 7),
 (9, .M 99 14),
 (10, .o 100 (.binI .add) [.t 99, .k (.int .i64 1)]),
 (11, .o 101 (.iadr 1) [.t 98, .t 100]),
 (12, .o 102 .load1 [.t 101]),
 (13, .o 103 (.sh true) [.t 102, .k (.int .u64 1)]),
 (14, .M 104 6),
 (15, .o 105 (.binI .sub) [.k (.int .i64 63), .t 104]),
 (16, .o 106 (.sh true) [.t 103, .t 105]),
 (17, .o 107 (.binI .or) [.t 97, .t 106]),
 (18, .o 108 (.iadr 1) [.t 90, .t 91]),
 (19, ⟨.store 1, [.t 108, .t 107], none, none⟩)])))
 (.region 0 [.o 109 (.binI .add) [.t 87, .k (.int .i64 1)],
 .M 87 109]))))
def f_nat_long : EF := ⟨[0, 1], [.tmp 4, .tmp 5], (.seq (.region 0 [.C 4 (.sl 0 []),
 .C 5 (.sl 0 [])])
 (.seq (.region 0 [.M 15 1,
 .M 16 1,
 .o 17 .lenL [.t 16],
 .o 18 (.binI .sub) [.t 17, .k (.int .i64 1)],
 .o 19 (.iadr 1) [.t 15, .t 18],
 .o 20 .load1 [.t 19],
 .o 21 (.callc bits_LeadingZeros64) [.t 20],
 .M 6 21])
 (.seq (.drawn 0 [(0, .M 22 0),
 (1, .M 23 6),
 (2, .o 24 (.calla nat_left) [.t 22, .t 23]),
 (3, .M 25 1),
 (4, .M 26 6),
 (5, .o 27 (.calla nat_left) [.t 25, .t 26]),
 (6, .M 28 1),
 (7, .o 29 .lenL [.t 28]),
 (8, .o 30 (.slL 1 false true) [.t 27, .t 29]),
 (9, .M 7 24),
 (10, .M 8 30)])
 (.seq (.region 1 [.M 31 0,
 .o 32 .lenL [.t 31],
 .M 33 1,
 .o 34 .lenL [.t 33],
 .o 35 (.binI .sub) [.t 32, .t 34],
 .o 36 (.binI .add) [.t 35, .k (.int .i64 1)],
 .o 37 (.mksl 0 1 [.int .u64 0]) [.t 36, .t 36],
 .M 9 37])
 (.seq (.seq (.region 0 [.M 38 9,
 .o 39 .lenL [.t 38],
 .o 40 (.binI .sub) [.t 39, .k (.int .i64 1)],
 .M 10 40])
 (.block 0 (.loop [1, 6, 7, 8, 9, 10] [1, 6, 7, 9] nat_long_b2)))
 (.seq (.region 1 [.M 82 1,
 .o 83 .lenL [.t 82],
 .o 84 (.mksl 0 1 [.int .u64 0]) [.t 83, .t 83],
 .M 13 84])
 (.seq (.seq (.region 0 [.M 85 13,
 .o 86 .lenL [.t 85],
 .C 87 (.int .i64 0)])
 (.block 4 (.loop [6, 7, 9, 13, 86, 87] [9, 13] nat_long_b3)))
 (.seq (.region 0 [.M 110 9,
 .M 111 13,
 .M 4 110,
 .M 5 111])
 .ret))))))))⟩
def nat_Nat_Pow_b1 : EC := (.seq (.seq (.region 0 [.M 9 1,
 .o 10 (.binI .gtr) [.t 9, .k (.int .i64 0)]])
 (.cond (.t 10) .skip
 (.exit 0)))
 (.seq (.join [1, 5, 6] (.block 1 (.seq (.seq (.region 0 [.M 13 1,
 .o 14 (.binI .and) [.t 13, .k (.int .i64 1)],
 .o 15 (.binI .eql) [.t 14, .k (.int .i64 1)]])
 (.join [1, 5, 6] (.cond (.t 15) (.region 0 [.M 16 5,
 .M 17 6,
 .o 18 (.callc nat_Nat_Mul) [.t 16, .t 17],
 .M 5 18])
 .skip)))
 (.seq (.region 0 [.M 19 1,
 .o 20 (.binI .gtr) [.t 19, .k (.int .i64 1)]])
 (.join [1, 5, 6] (.cond (.t 20) (.region 0 [.M 21 6,
 .M 22 6,
 .o 23 (.callc nat_Nat_Mul) [.t 21, .t 22],
 .M 6 23])
 .skip))))))
 (.region 0 [.M 11 1,
 .o 12 (.sh false) [.t 11, .k (.int .u64 1)],
 .M 1 12])))
def f_nat_Nat_Pow : EF := ⟨[0, 1], [.tmp 4], (.seq (.region 0 [.C 4 (.nilp)])
 (.seq (.region 0 [.o 7 (.callc nat_Of) [.k (.int .u64 1)],
 .M 8 0,
 .M 5 7,
 .M 6 8])
 (.seq (.block 0 (.loop [1, 5, 6] [5] nat_Nat_Pow_b1))
 (.seq (.region 0 [.M 24 5,
 .M 4 24])
 .ret))))⟩
def f_easter_Sunday : EF := ⟨[0], [.tmp 2, .tmp 3], (.seq (.region 0 [.C 2 (.int .i64 0),
 .C 3 (.nili)])
 (.seq (.seq (.region 0 [.M 17 0,
 .o 18 (.binI .lss) [.t 17, .k (.int .i64 1900)],
 .M 19 18,
 .g 19 false 20 (.mov) [.t 0],
 .g 19 false 21 (.binI .gtr) [.t 20, .k (.int .i64 2199)],
 .o 22 .pick [.t 19, .k (.bool true), .t 21]])
 (.cond (.t 22) (.seq (.region 0 [.o 23 (.callc fault_Of) [.k (.int .i64 4)],
 .C 2 (.int .i64 0),
 .M 3 23])
 .ret)
 .skip))
 (.seq (.region 0 [.M 24 0,
 .o 25 (.binI .rem) [.t 24, .k (.int .i64 19)],
 .M 26 0,
 .o 27 (.binI .quo) [.t 26, .k (.int .i64 100)],
 .M 28 0,
 .o 29 (.binI .rem) [.t 28, .k (.int .i64 100)],
 .M 4 25,
 .M 5 27,
 .M 6 29])
 (.seq (.region 0 [.M 30 5,
 .o 31 (.binI .quo) [.t 30, .k (.int .i64 4)],
 .M 32 5,
 .o 33 (.binI .rem) [.t 32, .k (.int .i64 4)],
 .M 7 31,
 .M 8 33])
 (.seq (.region 0 [.M 34 5,
 .o 35 (.binI .add) [.t 34, .k (.int .i64 8)],
 .o 36 (.binI .quo) [.t 35, .k (.int .i64 25)],
 .M 9 36])
 (.seq (.region 0 [.M 37 5,
 .M 38 9,
 .o 39 (.binI .sub) [.t 37, .t 38],
 .o 40 (.binI .add) [.t 39, .k (.int .i64 1)],
 .o 41 (.binI .quo) [.t 40, .k (.int .i64 3)],
 .M 10 41])
 (.seq (.region 0 [.M 42 4,
 .o 43 (.binI .mul) [.k (.int .i64 19), .t 42],
 .M 44 5,
 .o 45 (.binI .add) [.t 43, .t 44],
 .M 46 7,
 .o 47 (.binI .sub) [.t 45, .t 46],
 .M 48 10,
 .o 49 (.binI .sub) [.t 47, .t 48],
 .o 50 (.binI .add) [.t 49, .k (.int .i64 15)],
 .o 51 (.binI .rem) [.t 50, .k (.int .i64 30)],
 .M 11 51])
 (.seq (.region 0 [.M 52 6,
 .o 53 (.binI .quo) [.t 52, .k (.int .i64 4)],
 .M 54 6,
 .o 55 (.binI .rem) [.t 54, .k (.int .i64 4)],
 .M 12 53,
 .M 13 55])
 (.seq (.region 0 [.M 56 8,
 .o 57 (.binI .mul) [.k (.int .i64 2), .t 56],
 .o 58 (.binI .add) [.k (.int .i64 32), .t 57],
 .M 59 12,
 .o 60 (.binI .mul) [.k (.int .i64 2), .t 59],
 .o 61 (.binI .add) [.t 58, .t 60],
 .M 62 11,
 .o 63 (.binI .sub) [.t 61, .t 62],
 .M 64 13,
 .o 65 (.binI .sub) [.t 63, .t 64],
 .o 66 (.binI .rem) [.t 65, .k (.int .i64 7)],
 .M 14 66])
 (.seq (.region 0 [.M 67 4,
 .M 68 11,
 .o 69 (.binI .mul) [.k (.int .i64 11), .t 68],
 .o 70 (.binI .add) [.t 67, .t 69],
 .M 71 14,
 .o 72 (.binI .mul) [.k (.int .i64 22), .t 71],
 .o 73 (.binI .add) [.t 70, .t 72],
 .o 74 (.binI .quo) [.t 73, .k (.int .i64 451)],
 .M 15 74])
 (.seq (.region 0 [.M 75 11,
 .M 76 14,
 .o 77 (.binI .add) [.t 75, .t 76],
 .M 78 15,
 .o 79 (.binI .mul) [.k (.int .i64 7), .t 78],
 .o 80 (.binI .sub) [.t 77, .t 79],
 .o 81 (.binI .add) [.t 80, .k (.int .i64 114)],
 .M 16 81])
 (.seq (.region 0 [.M 82 0,
 .M 83 16,
 .o 84 (.binI .quo) [.t 83, .k (.int .i64 31)],
 .M 85 16,
 .o 86 (.binI .rem) [.t 85, .k (.int .i64 31)],
 .o 87 (.binI .add) [.t 86, .k (.int .i64 1)],
 .o 88 (.build [.int .i64 0, .int .i64 0, .int .i64 0] [(0, 1), (1, 1), (2, 1)]) [.t 82, .t 84, .t 87],
 .o 89 (.callc date_Of) [.t 88],
 .o 90 (.ext 0) [.t 89],
 .o 91 (.ext 1) [.t 89],
 .M 2 90,
 .M 3 91])
 .ret))))))))))))⟩
def cal_New_b1 : EC := (.seq (.region 0 [.o 38 (.binI .lss) [.t 37, .t 36]])
 (.seq (.cond (.t 38) .skip
 (.exit 1))
 (.seq (.block 2 (.seq (.region 0 [.o 39 (.iadr 1) [.t 35, .t 37],
 .o 40 .load1 [.t 39],
 .M 8 40])
 (.region 0 [.M 41 6,
 .o 42 .nilck [.t 41],
 .o 43 (.fadr 0) [.t 42],
 .o 44 .load1 [.t 43],
 .M 45 8,
 ⟨.mput, [.t 44, .t 45, .k (.bool true)], none, none⟩])))
 (.region 0 [.o 46 (.binI .add) [.t 37, .k (.int .i64 1)],
 .M 37 46]))))
def cal_New_b2 : EC := (.seq (.seq (.region 0 [.M 53 11,
 .o 54 (.binI .leq) [.t 53, .k (.int .i64 2199)]])
 (.cond (.t 54) .skip
 (.exit 5)))
 (.seq (.join [6, 10, 11, 47, 48, 49] (.block 6 (.seq (.region 0 [.o 58 (.loadA 6) [.t 10],
 .M 59 11,
 .o 60 (.callc holi_Day) [.t 58, .t 59],
 .M 57 60,
 .o 61 (.ext 0) [.t 57],
 .o 62 (.ext 1) [.t 57],
 .M 12 61,
 .M 13 62])
 (.seq (.region 0 [.M 63 13])
 (.join [6, 10, 11, 47, 48, 49] (.cond (.t 63) (.region 0 [.M 64 6,
 .o 65 .nilck [.t 64],
 .o 66 (.fadr 0) [.t 65],
 .o 67 .load1 [.t 66],
 .M 68 12,
 ⟨.mput, [.t 67, .t 68, .k (.bool true)], none, none⟩])
 .skip))))))
 (.region 0 [.M 55 11,
 .o 56 (.binI .add) [.t 55, .k (.int .i64 1)],
 .M 11 56])))
def cal_New_b3 : EC := (.seq (.region 0 [.o 50 (.binI .lss) [.t 49, .t 48]])
 (.seq (.cond (.t 50) .skip
 (.exit 3))
 (.seq (.block 4 (.seq (.region 1 [.o 51 (.iadr 6) [.t 47, .t 49],
 .o 52 (.loadA 6) [.t 51],
 .o 10 (.alloc 0 [.int .i64 0, .int .i64 0, .int .i64 0, .int .i64 0, .int .i64 0, .bool false]) [],
 ⟨.store 6, [.t 10, .t 52], none, none⟩])
 (.seq (.region 0 [.C 11 (.int .i64 1900)])
 (.block 5 (.loop [6, 10, 11, 47, 48, 49] [6, 47, 48, 49] cal_New_b2)))))
 (.region 0 [.o 69 (.binI .add) [.t 49, .k (.int .i64 1)],
 .M 49 69]))))
def f_cal_New : EF := ⟨[0, 1], [.tmp 4, .tmp 5], (.seq (.region 0 [.C 4 (.nilp),
 .C 5 (.nili)])
 (.seq (.block 0 (.seq (.region 0 [.M 15 0,
 .o 16 .lenL [.t 15],
 .o 17 (.binI .gtr) [.t 16, .k (.int .i64 20)],
 .M 18 17,
 .g 18 false 19 (.mov) [.t 1],
 .g 18 false 20 (.lenL) [.t 19],
 .g 18 false 21 (.binI .gtr) [.t 20, .k (.int .i64 100)],
 .o 22 .pick [.t 18, .k (.bool true), .t 21],
 .M 14 22])
 (.cond (.t 14) (.seq (.region 0 [.o 23 (.callc fault_Of) [.k (.int .i64 2)],
 .C 4 (.nilp),
 .M 5 23])
 (.frz [4, 5] .ret))
 (.seq (.region 0 [.M 25 0,
 .o 26 (.callc slices_ContainsFunc_api_Rule) [.t 25, .k (.func cal_New_1 [])],
 .M 24 26])
 (.cond (.t 24) (.seq (.region 0 [.o 27 (.callc fault_Of) [.k (.int .i64 1)],
 .C 4 (.nilp),
 .M 5 27])
 (.frz [4, 5] .ret))
 (.seq (.region 0 [.M 29 1,
 .o 30 (.callc slices_ContainsFunc_int) [.t 29, .k (.func cal_New_2 [])],
 .M 28 30])
 (.cond (.t 28) (.seq (.region 0 [.o 31 (.callc fault_Of) [.k (.int .i64 4)],
 .C 4 (.nilp),
 .M 5 31])
 (.frz [4, 5] .ret))
 .skip)))))))
 (.seq (.region 2 [.o 32 (.mkm 0) [],
 .o 33 (.build [.nilm] [(0, 1)]) [.t 32],
 .o 34 (.box 1) [.t 33],
 .M 6 34])
 (.seq (.seq (.region 0 [.M 35 1,
 .o 36 .lenL [.t 35],
 .C 37 (.int .i64 0)])
 (.block 1 (.loop [0, 6, 35, 36, 37] [0, 6] cal_New_b1)))
 (.seq (.seq (.region 0 [.M 47 0,
 .o 48 .lenL [.t 47],
 .C 49 (.int .i64 0)])
 (.block 3 (.loop [6, 47, 48, 49] [6] cal_New_b3)))
 (.seq (.region 0 [.M 70 6,
 .M 4 70,
 .C 5 (.nili)])
 (.frz [4, 5] .ret)))))))⟩
def f_roll_Day : EF := ⟨[0, 1, 2], [.tmp 6, .tmp 7], (.seq (.region 0 [.C 6 (.int .i64 0),
 .C 7 (.nili)])
 (.seq (.seq (.region 0 [.M 9 2,
 .o 10 (.binI .lss) [.t 9, .k (.int .i64 0)],
 .M 11 10,
 .g 11 false 12 (.mov) [.t 2],
 .g 11 false 13 (.binI .gtr) [.t 12, .k (.int .i64 4)],
 .o 14 .pick [.t 11, .k (.bool true), .t 13]])
 (.cond (.t 14) (.seq (.region 0 [.o 15 (.callc fault_Of) [.k (.int .i64 1)],
 .C 6 (.int .i64 0),
 .M 7 15])
 .ret)
 .skip))
 (.seq (.seq (.region 0 [.M 16 1,
 .o 17 (.callc date_Weekday) [.t 16],
 .o 18 (.binI .lss) [.t 17, .k (.int .i64 0)]])
 (.cond (.t 18) (.seq (.region 0 [.o 19 (.callc fault_Of) [.k (.int .i64 4)],
 .C 6 (.int .i64 0),
 .M 7 19])
 .ret)
 .skip))
 (.seq (.region 0 [.M 20 1,
 .M 8 20])
 (.seq (.seq (.region 0 [.M 21 2])
 (.join [8] (.block 0 (.seq (.join [0, 1, 8] (.block 4 (.seq (.block 3 (.seq (.join [0, 1, 8] (.block 2 (.seq (.block 1 (.seq (.seq (.seq (.region 0 [.o 23 (.binI .eql) [.t 21, .k (.int .i64 2)],
 .M 22 23])
 (.cond (.t 22) (.exit 1)
 .skip))
 (.seq (.seq (.region 0 [.o 25 (.binI .eql) [.t 21, .k (.int .i64 3)],
 .M 24 25])
 (.cond (.t 24) (.exit 2)
 .skip))
 (.seq (.seq (.region 0 [.o 27 (.binI .eql) [.t 21, .k (.int .i64 4)],
 .M 26 27])
 (.cond (.t 26) (.exit 3)
 .skip))
 (.seq (.region 0 [.o 29 (.binI .eql) [.t 21, .k (.int .i64 1)],
 .M 28 29])
 (.cond (.t 28) (.exit 4)
 .skip)))))
 (.exit 0)))
 (.seq (.region 0 [.M 30 0,
 .M 31 1,
 .o 32 (.callc roll_toward) [.t 30, .t 31, .k (.int .i64 1)],
 .M 8 32])
 (.seq (.region 0 [.M 33 8,
 .M 34 1,
 .o 35 (.callc roll_stays) [.t 33, .t 34]])
 (.cond (.t 35) (.exit 0)
 .skip))))))
 (.seq (.region 0 [.M 36 0,
 .M 37 1,
 .o 38 (.callc roll_toward) [.t 36, .t 37, .k (.int .i64 (-1))],
 .M 8 38])
 (.exit 0))))
 (.seq (.region 0 [.M 39 0,
 .M 40 1,
 .o 41 (.callc roll_toward) [.t 39, .t 40, .k (.int .i64 (-1))],
 .M 8 41])
 (.seq (.region 0 [.M 42 8,
 .M 43 1,
 .o 44 (.callc roll_stays) [.t 42, .t 43]])
 (.cond (.t 44) (.exit 0)
 .skip))))))
 (.seq (.region 0 [.M 45 0,
 .M 46 1,
 .o 47 (.callc roll_toward) [.t 45, .t 46, .k (.int .i64 1)],
 .M 8 47])
 (.exit 0))))))
 (.seq (.seq (.region 0 [.M 48 8,
 .o 49 (.binI .eql) [.t 48, .k (.int .i64 (-1))]])
 (.cond (.t 49) (.seq (.region 0 [.o 50 (.callc fault_Of) [.k (.int .i64 4)],
 .C 6 (.int .i64 0),
 .M 7 50])
 .ret)
 .skip))
 (.seq (.region 0 [.M 51 8,
 .M 6 51,
 .C 7 (.nili)])
 .ret)))))))⟩
def f_rentierlaw6_count30 : EF := ⟨[], [.tmp 0], (.seq (.region 0 [.C 0 (.int .i64 0)])
 (.seq (.region 0 [.C 0 (.int .i64 1)])
 .ret))⟩
def f_rentierlaw2_Begun : EF := ⟨[], [.tmp 0], (.seq (.region 0 [.C 0 (.bool false)])
 (.seq (.region 0 [.o 1 (.callc rentierlaw2_begun) [],
 .M 0 1])
 .ret))⟩
def f_date_Text : EF := ⟨[0], [.tmp 2], (.seq (.region 0 [.C 2 (.str [])])
 (.seq (.region 1 [.M 6 0,
 .o 7 (.callc date_Civil) [.t 6],
 .M 5 7,
 .o 8 (.ext 0) [.t 5],
 .o 9 (.ext 1) [.t 5],
 .o 3 (.alloc 0 [.int .i64 0, .int .i64 0, .int .i64 0]) [],
 ⟨.store 3, [.t 3, .t 8], none, none⟩,
 .M 4 9])
 (.seq (.seq (.region 0 [.M 10 4,
 .o 11 (.eqN true true) [.t 10, .k (.nili)]])
 (.cond (.t 11) (.seq (.region 0 [.C 2 (.str [])])
 .ret)
 .skip))
 (.seq (.drawn 0 [(0, .o 12 (.fadr 0) [.t 3]),
 (1, .o 13 .load1 [.t 12]),
 (2, .o 14 (.callc date_padded) [.t 13, .k (.int .i64 4)]),
 (3, .o 15 (.binS .add) [.t 14, .k (.str [45])]),
 (4, .o 16 (.fadr 1) [.t 3]),
 (5, .o 17 .load1 [.t 16]),
 (6, .o 18 (.callc date_padded) [.t 17, .k (.int .i64 2)]),
 (7, .o 19 (.binS .add) [.t 15, .t 18]),
 (8, .o 20 (.binS .add) [.t 19, .k (.str [45])]),
 (9, .o 21 (.fadr 2) [.t 3]),
 (10, .o 22 .load1 [.t 21]),
 (11, .o 23 (.callc date_padded) [.t 22, .k (.int .i64 2)]),
 (12, .o 24 (.binS .add) [.t 20, .t 23]),
 (13, .M 2 24)])
 .ret))))⟩
def f_cal_Cal_Open : EF := ⟨[0, 1], [.tmp 4], (.seq (.region 0 [.C 4 (.bool false)])
 (.seq (.seq (.region 0 [.M 5 1,
 .o 6 (.callc date_Weekday) [.t 5]])
 (.join [0, 1, 4] (.block 0 (.seq (.seq (.region 0 [.o 8 (.binI .eql) [.t 6, .k (.int .i64 (-1))],
 .M 7 8])
 (.join [0, 1, 7] (.cond (.t 7) .skip
 (.seq (.region 0 [.o 9 (.binI .eql) [.t 6, .k (.int .i64 0)],
 .M 7 9])
 (.join [0, 1, 7] (.cond (.t 7) .skip
 (.region 0 [.o 10 (.binI .eql) [.t 6, .k (.int .i64 6)],
 .M 7 10])))))))
 (.cond (.t 7) (.seq (.region 0 [.C 4 (.bool false)])
 .ret)
 .skip)))))
 (.seq (.region 0 [.M 11 0,
 .o 12 (.eqP false) [.t 11, .k (.nilp)],
 .M 13 12,
 .g 13 false 14 (.mov) [.t 0],
 .g 13 false 15 (.nilck) [.t 14],
 .g 13 false 16 (.fadr 0) [.t 15],
 .g 13 false 17 (.load1) [.t 16],
 .g 13 false 18 (.mov) [.t 1],
 .g 13 false 19 (.mget) [.t 17, .t 18],
 .g 13 false 20 (.not) [.t 19],
 .o 21 .pick [.t 13, .k (.bool true), .t 20],
 .M 4 21])
 .ret)))⟩
def holi_Is_b1 : EC := (.seq (.seq (.region 0 [.M 20 7,
 .o 21 (.fadr 0) [.t 5],
 .o 22 .load1 [.t 21],
 .o 23 (.binI .add) [.t 22, .k (.int .i64 1)],
 .o 24 (.binI .leq) [.t 20, .t 23]])
 (.cond (.t 24) .skip
 (.exit 0)))
 (.seq (.block 1 (.seq (.region 0 [.o 28 (.loadA 6) [.t 2],
 .M 29 7,
 .o 30 (.callc holi_Day) [.t 28, .t 29],
 .M 27 30,
 .o 31 (.ext 0) [.t 27],
 .o 32 (.ext 1) [.t 27],
 .M 8 31,
 .M 9 32])
 (.seq (.region 0 [.M 33 9,
 .M 34 33,
 .g 34 true 35 (.mov) [.t 8],
 .g 34 true 36 (.mov) [.t 1],
 .g 34 true 37 (.binI .eql) [.t 35, .t 36],
 .o 38 .pick [.t 34, .t 37, .k (.bool false)]])
 (.cond (.t 38) (.seq (.region 0 [.C 4 (.bool true)])
 .ret)
 .skip))))
 (.region 0 [.M 25 7,
 .o 26 (.binI .add) [.t 25, .k (.int .i64 1)],
 .M 7 26])))
def f_holi_Is : EF := ⟨[0, 1], [.tmp 4], (.seq (.region 1 [.o 2 (.box 0) [.t 0],
 .C 4 (.bool false)])
 (.seq (.region 1 [.M 11 1,
 .o 12 (.callc date_Civil) [.t 11],
 .M 10 12,
 .o 13 (.ext 0) [.t 10],
 .o 14 (.ext 1) [.t 10],
 .o 5 (.alloc 0 [.int .i64 0, .int .i64 0, .int .i64 0]) [],
 ⟨.store 3, [.t 5, .t 13], none, none⟩,
 .M 6 14])
 (.seq (.seq (.region 0 [.M 15 6,
 .o 16 (.eqN true true) [.t 15, .k (.nili)]])
 (.cond (.t 16) (.seq (.region 0 [.C 4 (.bool false)])
 .ret)
 .skip))
 (.seq (.seq (.region 0 [.o 17 (.fadr 0) [.t 5],
 .o 18 .load1 [.t 17],
 .o 19 (.binI .sub) [.t 18, .k (.int .i64 1)],
 .M 7 19])
 (.block 0 (.loop [1, 2, 5, 7] [4] holi_Is_b1)))
 (.seq (.region 0 [.C 4 (.bool false)])
 .ret)))))⟩
def slices_Reverse_string_b1 : EC := (.seq (.seq (.region 0 [.M 7 2,
 .M 8 3,
 .o 9 (.binI .lss) [.t 7, .t 8]])
 (.cond (.t 9) .skip
 (.exit 0)))
 (.seq (.block 1 (.drawn 0 [(0, .M 14 0),
 (1, .M 15 2),
 (2, .M 16 0),
 (3, .M 17 3),
 (4, .M 18 0),
 (5, .M 19 3),
 (6, .o 20 (.iadr 1) [.t 18, .t 19]),
 (7, .o 21 .load1 [.t 20]),
 (8, .M 22 0),
 (9, .M 23 2),
 (10, .o 24 (.iadr 1) [.t 22, .t 23]),
 (11, .o 25 .load1 [.t 24]),
 (12, .o 26 (.iadr 1) [.t 14, .t 15]),
 (13, ⟨.store 1, [.t 26, .t 21], none, none⟩),
 (14, .o 27 (.iadr 1) [.t 16, .t 17]),
 (15, ⟨.store 1, [.t 27, .t 25], none, none⟩)]))
 (.region 0 [.M 10 2,
 .o 11 (.binI .add) [.t 10, .k (.int .i64 1)],
 .M 12 3,
 .o 13 (.binI .sub) [.t 12, .k (.int .i64 1)],
 .M 2 11,
 .M 3 13])))
def f_slices_Reverse_string : EF := ⟨[0], [], (.seq (.region 0 [.M 4 0,
 .o 5 .lenL [.t 4],
 .o 6 (.binI .sub) [.t 5, .k (.int .i64 1)],
 .C 2 (.int .i64 0),
 .M 3 6])
 (.block 0 (.loop [0, 2, 3] [] slices_Reverse_string_b1)))⟩
def nat_twos_b1 : EC := (.seq (.seq (.region 0 [.M 4 0,
 .M 5 3,
 .o 6 (.iadr 1) [.t 4, .t 5],
 .o 7 .load1 [.t 6],
 .o 8 (.binI .eql) [.t 7, .k (.int .u64 0)]])
 (.cond (.t 8) .skip
 (.exit 0)))
 (.block 1 (.region 0 [.M 9 3,
 .o 10 (.binI .add) [.t 9, .k (.int .i64 1)],
 .M 3 10])))
def f_nat_twos : EF := ⟨[0], [.tmp 2], (.seq (.region 0 [.C 2 (.int .i64 0)])
 (.seq (.region 0 [.C 3 (.int .i64 0)])
 (.seq (.block 0 (.loop [0, 3] [0, 3] nat_twos_b1))
 (.seq (.region 0 [.M 11 3,
 .o 12 (.binI .mul) [.k (.int .i64 64), .t 11],
 .M 13 0,
 .M 14 3,
 .o 15 (.iadr 1) [.t 13, .t 14],
 .o 16 .load1 [.t 15],
 .o 17 (.callc bits_TrailingZeros64) [.t 16],
 .o 18 (.binI .add) [.t 12, .t 17],
 .M 2 18])
 .ret))))⟩
def nat_odd_b1 : EC := (.seq (.region 0 [.o 16 (.binI .lss) [.t 15, .t 14]])
 (.seq (.cond (.t 16) .skip
 (.exit 0))
 (.seq (.join [0, 3, 14, 15] (.block 1 (.seq (.region 0 [.M 17 15,
 .M 4 17])
 (.seq (.region 0 [.M 18 0,
 .M 19 4,
 .o 20 (.iadr 1) [.t 18, .t 19],
 .o 21 .load1 [.t 20],
 .M 22 3,
 .o 23 (.sh false) [.t 21, .t 22],
 .o 24 (.iadr 1) [.t 18, .t 19],
 ⟨.store 1, [.t 24, .t 23], none, none⟩])
 (.seq (.region 0 [.M 25 4,
 .o 26 (.binI .add) [.t 25, .k (.int .i64 1)],
 .M 27 0,
 .o 28 .lenL [.t 27],
 .o 29 (.binI .lss) [.t 26, .t 28]])
 (.join [0, 3, 14, 15] (.cond (.t 29) (.drawn 0 [(0, .M 30 0),
 (1, .M 31 4),
 (2, .o 32 (.iadr 1) [.t 30, .t 31]),
 (3, .o 33 .load1 [.t 32]),
 (4, .M 34 0),
 (5, .M 35 4),
 (6, .o 36 (.binI .add) [.t 35, .k (.int .i64 1)]),
 (7, .o 37 (.iadr 1) [.t 34, .t 36]),
 (8, .o 38 .load1 [.t 37]),
 (9, .o 39 (.sh true) [.t 38, .k (.int .u64 1)]),
 (10, .M 40 3),
 (11, .o 41 (.binI .sub) [.k (.int .i64 63), .t 40]),
 (12, .o 42 (.sh true) [.t 39, .t 41]),
 (13, .o 43 (.binI .or) [.t 33, .t 42]),
 (14, .o 44 (.iadr 1) [.t 30, .t 31]),
 (15, ⟨.store 1, [.t 44, .t 43], none, none⟩)])
 .skip)))))))
 (.region 0 [.o 45 (.binI .add) [.t 15, .k (.int .i64 1)],
 .M 15 45]))))
def f_nat_odd : EF := ⟨[0], [.tmp 2], (.seq (.region 0 [.C 2 (.sl 0 [])])
 (.seq (.region 0 [.M 5 0,
 .o 6 (.calla nat_twos) [.t 5],
 .M 3 6])
 (.seq (.region 0 [.M 7 0,
 .M 8 3,
 .o 9 (.binI .quo) [.t 8, .k (.int .i64 64)],
 .o 10 (.slL 1 true false) [.t 7, .t 9],
 .M 11 3,
 .o 12 (.binI .rem) [.t 11, .k (.int .i64 64)],
 .M 0 10,
 .M 3 12])
 (.seq (.seq (.region 0 [.M 13 0,
 .o 14 .lenL [.t 13],
 .C 15 (.int .i64 0)])
 (.block 0 (.loop [0, 3, 14, 15] [0] nat_odd_b1)))
 (.seq (.region 0 [.M 46 0,
 .o 47 (.calla nat_made) [.t 46],
 .o 48 .nilck [.t 47],
 .o 49 (.fadr 0) [.t 48],
 .o 50 .load1 [.t 49],
 .M 2 50])
 .ret)))))⟩
def f_nat_bit : EF := ⟨[0], [.tmp 2], (.seq (.region 0 [.C 2 (.nilp)])
 (.seq (.region 1 [.M 4 0,
 .o 5 (.binI .quo) [.t 4, .k (.int .i64 64)],
 .o 6 (.binI .add) [.t 5, .k (.int .i64 1)],
 .o 7 (.mksl 0 1 [.int .u64 0]) [.t 6, .t 6],
 .M 3 7])
 (.seq (.region 0 [.M 8 3,
 .M 9 0,
 .o 10 (.binI .quo) [.t 9, .k (.int .i64 64)],
 .M 11 0,
 .o 12 (.binI .rem) [.t 11, .k (.int .i64 64)],
 .o 13 (.sh true) [.k (.int .u64 1), .t 12],
 .o 14 (.iadr 1) [.t 8, .t 10],
 ⟨.store 1, [.t 14, .t 13], none, none⟩])
 (.seq (.region 0 [.M 15 3,
 .o 16 (.callp nat_made) [.t 15],
 .M 2 16])
 .ret))))⟩
def nat_less_b1 : EC := (.seq (.region 0 [.o 11 (.binI .lss) [.t 10, .t 9]])
 (.seq (.cond (.t 11) .skip
 (.exit 0))
 (.seq (.join [0, 1, 5, 9, 10] (.block 1 (.seq (.region 0 [.M 12 10,
 .M 6 12])
 (.seq (.region 0 [.C 7 (.int .u64 0)])
 (.seq (.seq (.region 0 [.M 13 6,
 .M 14 1,
 .o 15 .lenL [.t 14],
 .o 16 (.binI .lss) [.t 13, .t 15]])
 (.join [0, 1, 5, 6, 7, 9, 10] (.cond (.t 16) (.region 0 [.M 17 1,
 .M 18 6,
 .o 19 (.iadr 1) [.t 17, .t 18],
 .o 20 .load1 [.t 19],
 .M 7 20])
 .skip)))
 (.region 0 [.M 22 0,
 .M 23 6,
 .M 24 0,
 .M 25 6,
 .o 26 (.iadr 1) [.t 24, .t 25],
 .o 27 .load1 [.t 26],
 .M 28 7,
 .M 29 5,
 .o 30 (.callc bits_Sub64) [.t 27, .t 28, .t 29],
 .M 21 30,
 .o 31 (.ext 0) [.t 21],
 .o 32 (.ext 1) [.t 21],
 .o 33 (.iadr 1) [.t 22, .t 23],
 ⟨.store 1, [.t 33, .t 31], none, none⟩,
 .M 5 32]))))))
 (.region 0 [.o 34 (.binI .add) [.t 10, .k (.int .i64 1)],
 .M 10 34]))))
def f_nat_less : EF := ⟨[0, 1], [.tmp 4], (.seq (.region 0 [.C 4 (.sl 0 [])])
 (.seq (.region 0 [.C 5 (.int .u64 0)])
 (.seq (.seq (.region 0 [.M 8 0,
 .o 9 .lenL [.t 8],
 .C 10 (.int .i64 0)])
 (.block 0 (.loop [0, 1, 5, 9, 10] [0] nat_less_b1)))
 (.seq (.region 0 [.M 35 0,
 .o 36 (.calla nat_made) [.t 35],
 .o 37 .nilck [.t 36],
 .o 38 (.fadr 0) [.t 37],
 .o 39 .load1 [.t 38],
 .M 4 39])
 .ret))))⟩
def bits_Div64_b1 : EC := (.seq (.seq (.region 0 [.M 67 15,
 .o 68 (.binI .geq) [.t 67, .k (.int .u64 4294967296)],
 .M 69 68,
 .g 69 false 70 (.mov) [.t 15],
 .g 69 false 71 (.mov) [.t 10],
 .g 69 false 72 (.binI .mul) [.t 70, .t 71],
 .g 69 false 73 (.mov) [.t 16],
 .g 69 false 74 (.binI .mul) [.k (.int .u64 4294967296), .t 73],
 .g 69 false 75 (.mov) [.t 13],
 .g 69 false 76 (.binI .add) [.t 74, .t 75],
 .g 69 false 77 (.binI .gtr) [.t 72, .t 76],
 .o 78 .pick [.t 69, .k (.bool true), .t 77]])
 (.cond (.t 78) .skip
 (.exit 0)))
 (.block 1 (.seq (.region 0 [.M 79 15,
 .o 80 (.binI .sub) [.t 79, .k (.int .u64 1)],
 .M 15 80])
 (.seq (.region 0 [.M 81 16,
 .M 82 9,
 .o 83 (.binI .add) [.t 81, .t 82],
 .M 16 83])
 (.seq (.region 0 [.M 84 16,
 .o 85 (.binI .geq) [.t 84, .k (.int .u64 4294967296)]])
 (.cond (.t 85) (.exit 0)
 .skip))))))
def bits_Div64_b2 : EC := (.seq (.seq (.region 0 [.M 102 18,
 .o 103 (.binI .geq) [.t 102, .k (.int .u64 4294967296)],
 .M 104 103,
 .g 104 false 105 (.mov) [.t 18],
 .g 104 false 106 (.mov) [.t 10],
 .g 104 false 107 (.binI .mul) [.t 105, .t 106],
 .g 104 false 108 (.mov) [.t 16],
 .g 104 false 109 (.binI .mul) [.k (.int .u64 4294967296), .t 108],
 .g 104 false 110 (.mov) [.t 14],
 .g 104 false 111 (.binI .add) [.t 109, .t 110],
 .g 104 false 112 (.binI .gtr) [.t 107, .t 111],
 .o 113 .pick [.t 104, .k (.bool true), .t 112]])
 (.cond (.t 113) .skip
 (.exit 2)))
 (.block 3 (.seq (.region 0 [.M 114 18,
 .o 115 (.binI .sub) [.t 114, .k (.int .u64 1)],
 .M 18 115])
 (.seq (.region 0 [.M 116 16,
 .M 117 9,
 .o 118 (.binI .add) [.t 116, .t 117],
 .M 16 118])
 (.seq (.region 0 [.M 119 16,
 .o 120 (.binI .geq) [.t 119, .k (.int .u64 4294967296)]])
 (.cond (.t 120) (.exit 2)
 .skip))))))
def f_bits_Div64 : EF := ⟨[0, 1, 2], [.tmp 6, .tmp 7], (.seq (.region 0 [.C 6 (.int .u64 0),
 .C 7 (.int .u64 0)])
 (.seq (.seq (.region 0 [.M 19 2,
 .o 20 (.binI .eql) [.t 19, .k (.int .u64 0)]])
 (.join [0, 1, 2] (.cond (.t 20) (.region 0 [.o 21 .stop [],
 ⟨.stop, [], none, none⟩])
 .skip)))
 (.seq (.seq (.region 0 [.M 22 2,
 .M 23 0,
 .o 24 (.binI .leq) [.t 22, .t 23]])
 (.join [0, 1, 2] (.cond (.t 24) (.region 0 [.o 25 .stop [],
 ⟨.stop, [], none, none⟩])
 .skip)))
 (.seq (.seq (.region 0 [.M 26 0,
 .o 27 (.binI .eql) [.t 26, .k (.int .u64 0)]])
 (.cond (.t 27) (.seq (.drawn 0 [(0, .M 28 1),
 (1, .M 29 2),
 (2, .o 30 (.binI .quo) [.t 28, .t 29]),
 (3, .M 31 1),
 (4, .M 32 2),
 (5, .o 33 (.binI .rem) [.t 31, .t 32]),
 (6, .M 6 30),
 (7, .M 7 33)])
 .ret)
 .skip))
 (.seq (.region 0 [.M 34 2,
 .o 35 (.callc bits_LeadingZeros64) [.t 34],
 .o 36 (.conv .u64) [.t 35],
 .M 8 36])
 (.seq (.region 0 [.M 37 2,
 .M 38 8,
 .o 39 (.sh true) [.t 37, .t 38],
 .M 2 39])
 (.seq (.region 0 [.M 40 2,
 .o 41 (.sh false) [.t 40, .k (.int .u64 32)],
 .M 9 41])
 (.seq (.region 0 [.M 42 2,
 .o 43 (.binI .and) [.t 42, .k (.int .u64 4294967295)],
 .M 10 43])
 (.seq (.region 0 [.M 44 0,
 .M 45 8,
 .o 46 (.sh true) [.t 44, .t 45],
 .M 47 1,
 .M 48 8,
 .o 49 (.binI .sub) [.k (.int .u64 64), .t 48],
 .o 50 (.sh false) [.t 47, .t 49],
 .o 51 (.binI .or) [.t 46, .t 50],
 .M 11 51])
 (.seq (.region 0 [.M 52 1,
 .M 53 8,
 .o 54 (.sh true) [.t 52, .t 53],
 .M 12 54])
 (.seq (.region 0 [.M 55 12,
 .o 56 (.sh false) [.t 55, .k (.int .u64 32)],
 .M 13 56])
 (.seq (.region 0 [.M 57 12,
 .o 58 (.binI .and) [.t 57, .k (.int .u64 4294967295)],
 .M 14 58])
 (.seq (.region 0 [.M 59 11,
 .M 60 9,
 .o 61 (.binI .quo) [.t 59, .t 60],
 .M 15 61])
 (.seq (.region 0 [.M 62 11,
 .M 63 15,
 .M 64 9,
 .o 65 (.binI .mul) [.t 63, .t 64],
 .o 66 (.binI .sub) [.t 62, .t 65],
 .M 16 66])
 (.seq (.block 0 (.loop [2, 8, 9, 10, 11, 13, 14, 15, 16] [2, 8, 9, 10, 11, 13, 14, 15] bits_Div64_b1))
 (.seq (.region 0 [.M 86 11,
 .o 87 (.binI .mul) [.t 86, .k (.int .u64 4294967296)],
 .M 88 13,
 .o 89 (.binI .add) [.t 87, .t 88],
 .M 90 15,
 .M 91 2,
 .o 92 (.binI .mul) [.t 90, .t 91],
 .o 93 (.binI .sub) [.t 89, .t 92],
 .M 17 93])
 (.seq (.region 0 [.M 94 17,
 .M 95 9,
 .o 96 (.binI .quo) [.t 94, .t 95],
 .M 18 96])
 (.seq (.region 0 [.M 97 17,
 .M 98 18,
 .M 99 9,
 .o 100 (.binI .mul) [.t 98, .t 99],
 .o 101 (.binI .sub) [.t 97, .t 100],
 .M 16 101])
 (.seq (.block 2 (.loop [2, 8, 9, 10, 14, 15, 16, 17, 18] [2, 8, 14, 15, 17, 18] bits_Div64_b2))
 (.seq (.region 0 [.M 121 15,
 .o 122 (.binI .mul) [.t 121, .k (.int .u64 4294967296)],
 .M 123 18,
 .o 124 (.binI .add) [.t 122, .t 123],
 .M 125 17,
 .o 126 (.binI .mul) [.t 125, .k (.int .u64 4294967296)],
 .M 127 14,
 .o 128 (.binI .add) [.t 126, .t 127],
 .M 129 18,
 .M 130 2,
 .o 131 (.binI .mul) [.t 129, .t 130],
 .o 132 (.binI .sub) [.t 128, .t 131],
 .M 133 8,
 .o 134 (.sh false) [.t 132, .t 133],
 .M 6 124,
 .M 7 134])
 .ret))))))))))))))))))))⟩
def nat_left_b1 : EC := (.seq (.region 0 [.o 15 (.binI .lss) [.t 14, .t 13]])
 (.seq (.cond (.t 15) .skip
 (.exit 0))
 (.seq (.block 1 (.seq (.region 0 [.M 16 14,
 .o 17 (.iadr 1) [.t 12, .t 14],
 .o 18 .load1 [.t 17],
 .M 6 16,
 .M 7 18])
 (.seq (.drawn 0 [(0, .M 19 5),
 (1, .M 20 6),
 (2, .o 21 (.iadr 1) [.t 19, .t 20]),
 (3, .o 22 .load1 [.t 21]),
 (4, .M 23 7),
 (5, .M 24 1),
 (6, .o 25 (.sh true) [.t 23, .t 24]),
 (7, .o 26 (.binI .or) [.t 22, .t 25]),
 (8, .o 27 (.iadr 1) [.t 19, .t 20]),
 (9, ⟨.store 1, [.t 27, .t 26], none, none⟩)])
 (.region 0 [.M 28 5,
 .M 29 6,
 .o 30 (.binI .add) [.t 29, .k (.int .i64 1)],
 .M 31 7,
 .o 32 (.sh false) [.t 31, .k (.int .u64 1)],
 .M 33 1,
 .o 34 (.binI .sub) [.k (.int .i64 63), .t 33],
 .o 35 (.sh false) [.t 32, .t 34],
 .o 36 (.iadr 1) [.t 28, .t 30],
 ⟨.store 1, [.t 36, .t 35], none, none⟩]))))
 (.region 0 [.o 37 (.binI .add) [.t 14, .k (.int .i64 1)],
 .M 14 37]))))
def f_nat_left : EF := ⟨[0, 1], [.tmp 4], (.seq (.region 0 [.C 4 (.sl 0 [])])
 (.seq (.region 1 [.M 8 0,
 .o 9 .lenL [.t 8],
 .o 10 (.binI .add) [.t 9, .k (.int .i64 1)],
 .o 11 (.mksl 0 1 [.int .u64 0]) [.t 10, .t 10],
 .M 5 11])
 (.seq (.seq (.region 0 [.M 12 0,
 .o 13 .lenL [.t 12],
 .C 14 (.int .i64 0)])
 (.block 0 (.loop [1, 5, 12, 13, 14] [5] nat_left_b1)))
 (.seq (.region 0 [.M 38 5,
 .M 4 38])
 .ret))))⟩
def nat_guess_b1 : EC := (.block 1 (.seq (.region 0 [.M 49 8,
 .M 50 6,
 .o 51 (.callc bits_Mul64) [.t 49, .t 50],
 .M 48 51,
 .o 52 (.ext 0) [.t 48],
 .o 53 (.ext 1) [.t 48],
 .M 10 52,
 .M 11 53])
 (.seq (.seq (.region 0 [.M 54 10,
 .M 55 9,
 .o 56 (.binI .lss) [.t 54, .t 55],
 .M 57 56,
 .g 57 false 58 (.mov) [.t 10],
 .g 57 false 59 (.mov) [.t 9],
 .g 57 false 60 (.binI .eql) [.t 58, .t 59],
 .g 57 false 61 (.mov) [.t 60],
 .g 61 true 62 (.mov) [.t 11],
 .g 61 true 63 (.mov) [.t 0],
 .g 61 true 64 (.mov) [.t 7],
 .g 61 true 65 (.binI .sub) [.t 64, .k (.int .i64 2)],
 .g 61 true 66 (.iadr 1) [.t 63, .t 65],
 .g 61 true 67 (.load1) [.t 66],
 .g 61 true 68 (.binI .leq) [.t 62, .t 67],
 .g 57 false 69 (.pick) [.t 61, .t 68, .k (.bool false)],
 .o 70 .pick [.t 57, .k (.bool true), .t 69]])
 (.cond (.t 70) (.seq (.region 0 [.M 71 8,
 .M 4 71])
 .ret)
 .skip))
 (.seq (.region 0 [.M 72 8,
 .o 73 (.binI .sub) [.t 72, .k (.int .u64 1)],
 .M 8 73])
 (.seq (.region 0 [.C 12 (.int .u64 0)])
 (.seq (.region 0 [.M 75 9,
 .M 76 5,
 .o 77 (.callc bits_Add64) [.t 75, .t 76, .k (.int .u64 0)],
 .M 74 77,
 .o 78 (.ext 0) [.t 74],
 .o 79 (.ext 1) [.t 74],
 .M 9 78,
 .M 12 79])
 (.seq (.region 0 [.M 80 12,
 .o 81 (.binI .neq) [.t 80, .k (.int .u64 0)]])
 (.cond (.t 81) (.seq (.region 0 [.M 82 8,
 .M 4 82])
 .ret)
 .skip))))))))
def f_nat_guess : EF := ⟨[0, 1], [.tmp 4], (.seq (.region 0 [.C 4 (.int .u64 0)])
 (.seq (.drawn 0 [(0, .M 13 1),
 (1, .M 14 1),
 (2, .o 15 .lenL [.t 14]),
 (3, .o 16 (.binI .sub) [.t 15, .k (.int .i64 1)]),
 (4, .o 17 (.iadr 1) [.t 13, .t 16]),
 (5, .o 18 .load1 [.t 17]),
 (6, .M 19 1),
 (7, .M 20 1),
 (8, .o 21 .lenL [.t 20]),
 (9, .o 22 (.binI .sub) [.t 21, .k (.int .i64 2)]),
 (10, .o 23 (.iadr 1) [.t 19, .t 22]),
 (11, .o 24 .load1 [.t 23]),
 (12, .M 5 18),
 (13, .M 6 24)])
 (.seq (.region 0 [.M 25 0,
 .o 26 .lenL [.t 25],
 .o 27 (.binI .sub) [.t 26, .k (.int .i64 1)],
 .M 7 27])
 (.seq (.seq (.region 0 [.M 28 0,
 .M 29 7,
 .o 30 (.iadr 1) [.t 28, .t 29],
 .o 31 .load1 [.t 30],
 .M 32 5,
 .o 33 (.binI .geq) [.t 31, .t 32]])
 (.cond (.t 33) (.seq (.region 0 [.C 4 (.int .u64 18446744073709551615)])
 .ret)
 .skip))
 (.seq (.drawn 0 [(0, .M 35 0),
 (1, .M 36 7),
 (2, .o 37 (.iadr 1) [.t 35, .t 36]),
 (3, .o 38 .load1 [.t 37]),
 (4, .M 39 0),
 (5, .M 40 7),
 (6, .o 41 (.binI .sub) [.t 40, .k (.int .i64 1)]),
 (7, .o 42 (.iadr 1) [.t 39, .t 41]),
 (8, .o 43 .load1 [.t 42]),
 (9, .M 44 5),
 (10, .o 45 (.callc bits_Div64) [.t 38, .t 43, .t 44]),
 (11, .M 34 45),
 (12, .o 46 (.ext 0) [.t 34]),
 (13, .o 47 (.ext 1) [.t 34]),
 (14, .M 8 46),
 (15, .M 9 47)])
 (.block 0 (.loop [0, 5, 6, 7, 8, 9] [4] nat_guess_b1)))))))⟩
def nat_takes_b1 : EC := (.seq (.region 0 [.o 17 (.binI .lss) [.t 16, .t 15]])
 (.seq (.cond (.t 17) .skip
 (.exit 0))
 (.seq (.block 1 (.seq (.region 0 [.M 18 16,
 .o 19 (.iadr 1) [.t 14, .t 16],
 .o 20 .load1 [.t 19],
 .M 9 18,
 .M 10 20])
 (.seq (.region 0 [.M 22 2,
 .M 23 10,
 .o 24 (.callc bits_Mul64) [.t 22, .t 23],
 .M 21 24,
 .o 25 (.ext 0) [.t 21],
 .o 26 (.ext 1) [.t 21],
 .M 11 25,
 .M 12 26])
 (.seq (.region 0 [.C 13 (.int .u64 0)])
 (.seq (.region 0 [.M 28 12,
 .M 29 7,
 .o 30 (.callc bits_Add64) [.t 28, .t 29, .k (.int .u64 0)],
 .M 27 30,
 .o 31 (.ext 0) [.t 27],
 .o 32 (.ext 1) [.t 27],
 .M 12 31,
 .M 13 32])
 (.seq (.region 0 [.M 33 11,
 .M 34 13,
 .o 35 (.binI .add) [.t 33, .t 34],
 .M 7 35])
 (.region 0 [.M 37 0,
 .M 38 9,
 .M 39 0,
 .M 40 9,
 .o 41 (.iadr 1) [.t 39, .t 40],
 .o 42 .load1 [.t 41],
 .M 43 12,
 .M 44 8,
 .o 45 (.callc bits_Sub64) [.t 42, .t 43, .t 44],
 .M 36 45,
 .o 46 (.ext 0) [.t 36],
 .o 47 (.ext 1) [.t 36],
 .o 48 (.iadr 1) [.t 37, .t 38],
 ⟨.store 1, [.t 48, .t 46], none, none⟩,
 .M 8 47])))))))
 (.region 0 [.o 49 (.binI .add) [.t 16, .k (.int .i64 1)],
 .M 16 49]))))
def f_nat_takes : EF := ⟨[0, 1, 2], [.tmp 6], (.seq (.region 0 [.C 6 (.bool false)])
 (.seq (.region 0 [.C 7 (.int .u64 0),
 .C 8 (.int .u64 0)])
 (.seq (.seq (.region 0 [.M 14 1,
 .o 15 .lenL [.t 14],
 .C 16 (.int .i64 0)])
 (.block 0 (.loop [0, 1, 2, 7, 8, 14, 15, 16] [0, 1, 7, 8] nat_takes_b1)))
 (.seq (.region 0 [.M 51 0,
 .M 52 1,
 .o 53 .lenL [.t 52],
 .M 54 0,
 .M 55 1,
 .o 56 .lenL [.t 55],
 .o 57 (.iadr 1) [.t 54, .t 56],
 .o 58 .load1 [.t 57],
 .M 59 7,
 .M 60 8,
 .o 61 (.callc bits_Sub64) [.t 58, .t 59, .t 60],
 .M 50 61,
 .o 62 (.ext 0) [.t 50],
 .o 63 (.ext 1) [.t 50],
 .o 64 (.iadr 1) [.t 51, .t 53],
 ⟨.store 1, [.t 64, .t 62], none, none⟩,
 .M 8 63])
 (.seq (.region 0 [.M 65 8,
 .o 66 (.binI .neq) [.t 65, .k (.int .u64 0)],
 .M 6 66])
 .ret)))))⟩
def nat_gives_b1 : EC := (.seq (.region 0 [.o 10 (.binI .lss) [.t 9, .t 8]])
 (.seq (.cond (.t 10) .skip
 (.exit 0))
 (.seq (.block 1 (.seq (.region 0 [.M 11 9,
 .o 12 (.iadr 1) [.t 7, .t 9],
 .o 13 .load1 [.t 12],
 .M 5 11,
 .M 6 13])
 (.region 0 [.M 15 0,
 .M 16 5,
 .M 17 0,
 .M 18 5,
 .o 19 (.iadr 1) [.t 17, .t 18],
 .o 20 .load1 [.t 19],
 .M 21 6,
 .M 22 4,
 .o 23 (.callc bits_Add64) [.t 20, .t 21, .t 22],
 .M 14 23,
 .o 24 (.ext 0) [.t 14],
 .o 25 (.ext 1) [.t 14],
 .o 26 (.iadr 1) [.t 15, .t 16],
 ⟨.store 1, [.t 26, .t 24], none, none⟩,
 .M 4 25])))
 (.region 0 [.o 27 (.binI .add) [.t 9, .k (.int .i64 1)],
 .M 9 27]))))
def f_nat_gives : EF := ⟨[0, 1], [], (.seq (.region 0 [.C 4 (.int .u64 0)])
 (.seq (.seq (.region 0 [.M 7 1,
 .o 8 .lenL [.t 7],
 .C 9 (.int .i64 0)])
 (.block 0 (.loop [0, 1, 4, 7, 8, 9] [0, 1, 4] nat_gives_b1)))
 (.region 0 [.M 28 0,
 .M 29 1,
 .o 30 .lenL [.t 29],
 .o 31 (.iadr 1) [.t 28, .t 30],
 .o 32 .load1 [.t 31],
 .M 33 4,
 .o 34 (.binI .add) [.t 32, .t 33],
 .o 35 (.iadr 1) [.t 28, .t 30],
 ⟨.store 1, [.t 35, .t 34], none, none⟩])))⟩
def f_slices_ContainsFunc_api_Rule : EF := ⟨[0, 1], [.tmp 4], (.seq (.region 0 [.C 4 (.bool false)])
 (.seq (.region 0 [.M 5 0,
 .M 6 1,
 .o 7 (.callc slices_IndexFunc_api_Rule) [.t 5, .t 6],
 .o 8 (.binI .geq) [.t 7, .k (.int .i64 0)],
 .M 4 8])
 .ret))⟩
def f_cal_New_1 : EF := ⟨[0], [.tmp 2], (.seq (.region 1 [.o 1 (.box 0) [.t 0],
 .C 2 (.bool false)])
 (.seq (.region 0 [.o 3 (.loadA 6) [.t 1],
 .o 4 (.callc holi_May) [.t 3],
 .o 5 .not [.t 4],
 .M 2 5])
 .ret))⟩
def f_holi_May : EF := ⟨[0], [.tmp 2], (.seq (.region 1 [.o 1 (.box 0) [.t 0],
 .C 2 (.bool false)])
 (.seq (.seq (.region 0 [.o 4 (.fadr 0) [.t 1],
 .o 5 .load1 [.t 4]])
 (.block 0 (.seq (.region 0 [.o 7 (.binI .eql) [.t 5, .k (.int .i64 1)],
 .M 6 7])
 (.cond (.t 6) (.seq (.drawn 0 [(0, .o 8 (.fadr 2) [.t 1]),
 (1, .o 9 .load1 [.t 8]),
 (2, .o 10 (.fadr 1) [.t 1]),
 (3, .o 11 .load1 [.t 10]),
 (4, .o 12 (.callc date_Length) [.k (.int .i64 2000), .t 11]),
 (5, .o 13 (.callc holi_within) [.t 9, .k (.int .i64 1), .t 12]),
 (6, .M 14 13),
 (7, .g 14 true 15 (.fadr 3) [.t 1]),
 (8, .g 14 true 16 (.load1) [.t 15]),
 (9, .g 14 true 17 (.binI .eql) [.t 16, .k (.int .i64 0)]),
 (10, .o 18 .pick [.t 14, .t 17, .k (.bool false)]),
 (11, .M 19 18),
 (12, .g 19 true 20 (.fadr 4) [.t 1]),
 (13, .g 19 true 21 (.load1) [.t 20]),
 (14, .g 19 true 22 (.binI .eql) [.t 21, .k (.int .i64 0)]),
 (15, .o 23 .pick [.t 19, .t 22, .k (.bool false)]),
 (16, .M 2 23)])
 .ret)
 (.seq (.region 0 [.o 25 (.binI .eql) [.t 5, .k (.int .i64 2)],
 .M 24 25])
 (.cond (.t 24) (.seq (.region 0 [.o 26 (.fadr 3) [.t 1],
 .o 27 .load1 [.t 26],
 .o 28 (.callc holi_within) [.t 27, .k (.int .i64 1), .k (.int .i64 5)],
 .M 29 28,
 .g 29 false 30 (.fadr 3) [.t 1],
 .g 29 false 31 (.load1) [.t 30],
 .g 29 false 32 (.binI .eql) [.t 31, .k (.int .i64 (-1))],
 .o 33 .pick [.t 29, .k (.bool true), .t 32],
 .M 3 33])
 (.seq (.region 0 [.o 34 (.fadr 1) [.t 1],
 .o 35 .load1 [.t 34],
 .o 36 (.callc holi_within) [.t 35, .k (.int .i64 1), .k (.int .i64 12)],
 .M 37 36,
 .g 37 true 38 (.mov) [.t 3],
 .o 39 .pick [.t 37, .t 38, .k (.bool false)],
 .M 40 39,
 .g 40 true 41 (.fadr 4) [.t 1],
 .g 40 true 42 (.load1) [.t 41],
 .g 40 true 43 (.callc holi_within) [.t 42, .k (.int .i64 0), .k (.int .i64 6)],
 .o 44 .pick [.t 40, .t 43, .k (.bool false)],
 .M 45 44,
 .g 45 true 46 (.fadr 2) [.t 1],
 .g 45 true 47 (.load1) [.t 46],
 .g 45 true 48 (.binI .eql) [.t 47, .k (.int .i64 0)],
 .o 49 .pick [.t 45, .t 48, .k (.bool false)],
 .M 50 49,
 .g 50 true 51 (.fadr 5) [.t 1],
 .g 50 true 52 (.load1) [.t 51],
 .g 50 true 53 (.not) [.t 52],
 .o 54 .pick [.t 50, .t 53, .k (.bool false)],
 .M 2 54])
 .ret))
 (.seq (.region 0 [.o 56 (.binI .eql) [.t 5, .k (.int .i64 3)],
 .M 55 56])
 (.cond (.t 55) (.seq (.region 0 [.o 57 (.fadr 3) [.t 1],
 .o 58 .load1 [.t 57],
 .o 59 (.callc holi_within) [.t 58, .k (.int .i64 (-100)), .k (.int .i64 100)],
 .M 60 59,
 .g 60 true 61 (.fadr 1) [.t 1],
 .g 60 true 62 (.load1) [.t 61],
 .g 60 true 63 (.binI .eql) [.t 62, .k (.int .i64 0)],
 .o 64 .pick [.t 60, .t 63, .k (.bool false)],
 .M 65 64,
 .g 65 true 66 (.fadr 2) [.t 1],
 .g 65 true 67 (.load1) [.t 66],
 .g 65 true 68 (.binI .eql) [.t 67, .k (.int .i64 0)],
 .o 69 .pick [.t 65, .t 68, .k (.bool false)],
 .M 70 69,
 .g 70 true 71 (.fadr 4) [.t 1],
 .g 70 true 72 (.load1) [.t 71],
 .g 70 true 73 (.binI .eql) [.t 72, .k (.int .i64 0)],
 .o 74 .pick [.t 70, .t 73, .k (.bool false)],
 .M 75 74,
 .g 75 true 76 (.fadr 5) [.t 1],
 .g 75 true 77 (.load1) [.t 76],
 .g 75 true 78 (.not) [.t 77],
 .o 79 .pick [.t 75, .t 78, .k (.bool false)],
 .M 2 79])
 .ret)
 .skip))))))))
 (.seq (.region 0 [.C 2 (.bool false)])
 .ret)))⟩
def f_slices_ContainsFunc_int : EF := ⟨[0, 1], [.tmp 4], (.seq (.region 0 [.C 4 (.bool false)])
 (.seq (.region 0 [.M 5 0,
 .M 6 1,
 .o 7 (.callc slices_IndexFunc_int) [.t 5, .t 6],
 .o 8 (.binI .geq) [.t 7, .k (.int .i64 0)],
 .M 4 8])
 .ret))⟩
def f_cal_New_2 : EF := ⟨[0], [.tmp 2], (.seq (.region 0 [.C 2 (.bool false)])
 (.seq (.region 0 [.M 3 0,
 .o 4 (.callc date_Weekday) [.t 3],
 .o 5 (.binI .lss) [.t 4, .k (.int .i64 0)],
 .M 2 5])
 .ret))⟩
def f_holi_Day : EF := ⟨[0, 1], [.tmp 4, .tmp 5], (.seq (.region 1 [.o 2 (.box 0) [.t 0],
 .C 4 (.int .i64 0),
 .C 5 (.bool false)])
 (.seq (.seq (.region 0 [.o 9 (.loadA 6) [.t 2],
 .o 10 (.callc holi_May) [.t 9],
 .o 11 .not [.t 10]])
 (.cond (.t 11) (.seq (.region 0 [.C 4 (.int .i64 0),
 .C 5 (.bool false)])
 .ret)
 .skip))
 (.seq (.region 0 [.C 6 (.int .i64 0),
 .C 7 (.bool true)])
 (.seq (.region 0 [.C 8 (.nili)])
 (.seq (.seq (.region 0 [.o 12 (.fadr 0) [.t 2],
 .o 13 .load1 [.t 12]])
 (.join [2, 6, 7, 8] (.block 0 (.seq (.region 0 [.o 15 (.binI .eql) [.t 13, .k (.int .i64 1)],
 .M 14 15])
 (.join [2, 6, 7, 8] (.cond (.t 14) (.region 0 [.M 17 1,
 .o 18 (.fadr 1) [.t 2],
 .o 19 .load1 [.t 18],
 .o 20 (.fadr 2) [.t 2],
 .o 21 .load1 [.t 20],
 .o 22 (.build [.int .i64 0, .int .i64 0, .int .i64 0] [(0, 1), (1, 1), (2, 1)]) [.t 17, .t 19, .t 21],
 .o 23 (.callc date_Of) [.t 22],
 .M 16 23,
 .o 24 (.ext 0) [.t 16],
 .o 25 (.ext 1) [.t 16],
 .M 6 24,
 .M 8 25])
 (.seq (.region 0 [.o 27 (.binI .eql) [.t 13, .k (.int .i64 2)],
 .M 26 27])
 (.join [2, 6, 7, 8] (.cond (.t 26) (.region 0 [.o 29 (.loadA 6) [.t 2],
 .M 30 1,
 .o 31 (.callc holi_nth) [.t 29, .t 30],
 .M 28 31,
 .o 32 (.ext 0) [.t 28],
 .o 33 (.ext 1) [.t 28],
 .M 6 32,
 .M 7 33])
 (.seq (.region 0 [.o 35 (.binI .eql) [.t 13, .k (.int .i64 3)],
 .M 34 35])
 (.join [2, 6, 7, 8] (.cond (.t 34) (.seq (.region 0 [.M 37 1,
 .o 38 (.callc easter_Sunday) [.t 37],
 .M 36 38,
 .o 39 (.ext 0) [.t 36],
 .o 40 (.ext 1) [.t 36],
 .M 6 39,
 .M 8 40])
 (.region 0 [.M 41 6,
 .o 42 (.fadr 3) [.t 2],
 .o 43 .load1 [.t 42],
 .o 44 (.binI .add) [.t 41, .t 43],
 .M 6 44]))
 .skip))))))))))))
 (.seq (.seq (.region 0 [.M 45 8,
 .o 46 (.eqN true true) [.t 45, .k (.nili)],
 .M 47 46,
 .g 47 false 48 (.mov) [.t 7],
 .g 47 false 49 (.not) [.t 48],
 .o 50 .pick [.t 47, .k (.bool true), .t 49]])
 (.cond (.t 50) (.seq (.region 0 [.C 4 (.int .i64 0),
 .C 5 (.bool false)])
 .ret)
 .skip))
 (.seq (.seq (.region 0 [.o 51 (.fadr 5) [.t 2],
 .o 52 .load1 [.t 51]])
 (.join [6] (.cond (.t 52) (.region 0 [.M 53 6,
 .o 54 (.callc holi_shifted) [.t 53],
 .M 6 54])
 .skip)))
 (.seq (.seq (.region 0 [.M 55 6,
 .o 56 (.callc holi_within) [.t 55, .k (.int .i64 0), .k (.int .i64 109572)],
 .o 57 .not [.t 56]])
 (.cond (.t 57) (.seq (.region 0 [.C 4 (.int .i64 0),
 .C 5 (.bool false)])
 .ret)
 .skip))
 (.seq (.region 0 [.M 58 6,
 .M 4 58,
 .C 5 (.bool true)])
 .ret)))))))))⟩
def roll_toward_b1 : EC := (.seq (.seq (.region 0 [.M 7 1,
 .o 8 (.callc date_Weekday) [.t 7],
 .o 9 (.binI .geq) [.t 8, .k (.int .i64 0)]])
 (.cond (.t 9) .skip
 (.exit 0)))
 (.seq (.block 1 (.seq (.region 0 [.M 13 0,
 .M 14 1,
 .o 15 (.callc cal_Cal_Open) [.t 13, .t 14]])
 (.cond (.t 15) (.seq (.region 0 [.M 16 1,
 .M 6 16])
 .ret)
 .skip)))
 (.region 0 [.M 10 1,
 .M 11 2,
 .o 12 (.binI .add) [.t 10, .t 11],
 .M 1 12])))
def f_roll_toward : EF := ⟨[0, 1, 2], [.tmp 6], (.seq (.region 0 [.C 6 (.int .i64 0)])
 (.seq (.block 0 (.loop [0, 1, 2] [6] roll_toward_b1))
 (.seq (.region 0 [.C 6 (.int .i64 (-1))])
 .ret)))⟩
def f_roll_stays : EF := ⟨[0, 1], [.tmp 4], (.seq (.region 0 [.C 4 (.bool false)])
 (.seq (.region 1 [.M 10 0,
 .o 11 (.callc date_Civil) [.t 10],
 .M 9 11,
 .o 12 (.ext 0) [.t 9],
 .o 13 (.ext 1) [.t 9],
 .o 5 (.alloc 0 [.int .i64 0, .int .i64 0, .int .i64 0]) [],
 ⟨.store 3, [.t 5, .t 12], none, none⟩,
 .M 6 13])
 (.seq (.region 1 [.M 15 1,
 .o 16 (.callc date_Civil) [.t 15],
 .M 14 16,
 .o 17 (.ext 0) [.t 14],
 .o 18 (.ext 1) [.t 14],
 .o 7 (.alloc 0 [.int .i64 0, .int .i64 0, .int .i64 0]) [],
 ⟨.store 3, [.t 7, .t 17], none, none⟩,
 .M 8 18])
 (.seq (.region 0 [.M 19 6,
 .o 20 (.eqN false true) [.t 19, .k (.nili)],
 .M 21 20,
 .g 21 true 22 (.fadr 0) [.t 5],
 .g 21 true 23 (.load1) [.t 22],
 .g 21 true 24 (.fadr 0) [.t 7],
 .g 21 true 25 (.load1) [.t 24],
 .g 21 true 26 (.binI .eql) [.t 23, .t 25],
 .o 27 .pick [.t 21, .t 26, .k (.bool false)],
 .M 28 27,
 .g 28 true 29 (.fadr 1) [.t 5],
 .g 28 true 30 (.load1) [.t 29],
 .g 28 true 31 (.fadr 1) [.t 7],
 .g 28 true 32 (.load1) [.t 31],
 .g 28 true 33 (.binI .eql) [.t 30, .t 32],
 .o 34 .pick [.t 28, .t 33, .k (.bool false)],
 .M 4 34])
 .ret))))⟩
def f_rentierlaw2_begun : EF := ⟨[], [.tmp 0], (.seq (.region 0 [.C 0 (.bool false)])
 (.seq (.region 0 [.o 19 (.callc nat_Get) [.k (.str [49, 50, 51, 52, 53, 54, 55, 56, 57, 48, 49, 50, 51, 52, 53, 54, 55, 56, 57, 48, 49, 50, 51, 52, 53, 54, 55, 56, 57, 48])],
 .M 18 19,
 .o 20 (.ext 0) [.t 18],
 .o 21 (.ext 1) [.t 18],
 .M 1 20,
 .M 2 21])
 (.seq (.region 0 [.o 22 (.callc nat_Of) [.k (.int .u64 7)],
 .M 3 22])
 (.seq (.seq (.region 0 [.M 23 1,
 .o 24 (.eqP false) [.t 23, .k (.nilp)],
 .M 25 24,
 .g 25 false 26 (.mov) [.t 3],
 .g 25 false 27 (.eqP false) [.t 26, .k (.nilp)],
 .o 28 .pick [.t 25, .k (.bool true), .t 27]])
 (.cond (.t 28) (.seq (.region 0 [.C 0 (.bool false)])
 .ret)
 .skip))
 (.seq (.region 0 [.M 30 1,
 .M 31 3,
 .o 32 (.callc nat_Nat_Div) [.t 30, .t 31],
 .M 29 32,
 .o 33 (.ext 0) [.t 29],
 .o 34 (.ext 1) [.t 29],
 .o 35 (.ext 2) [.t 29],
 .M 4 33,
 .M 5 34,
 .M 6 35])
 (.seq (.region 1 [.o 36 (.callc num_Of) [.k (.int .i64 (-7))],
 .o 37 (.build [.nilp, .nilp] []) [],
 .o 8 (.alloc 0 [.nilp, .nilp]) [],
 .M 7 36,
 ⟨.store 2, [.t 8, .t 37], none, none⟩])
 (.seq (.region 0 [.o 39 (.callc rat_Of) [.k (.int .i64 (-6)), .k (.int .i64 4)],
 .M 38 39,
 .o 40 (.ext 0) [.t 38],
 .o 41 (.ext 1) [.t 38],
 .M 9 40,
 .M 10 41])
 (.seq (.region 0 [.M 43 9,
 .o 44 (.callc dec_Round) [.t 43, .k (.int .i64 2), .k (.int .i64 1)],
 .M 42 44,
 .o 45 (.ext 0) [.t 42],
 .o 46 (.ext 1) [.t 42],
 .M 11 45,
 .M 12 46])
 (.seq (.seq (.region 0 [.M 47 4,
 .o 48 (.eqP false) [.t 47, .k (.nilp)],
 .M 49 48,
 .g 49 false 50 (.mov) [.t 5],
 .g 49 false 51 (.eqP false) [.t 50, .k (.nilp)],
 .o 52 .pick [.t 49, .k (.bool true), .t 51],
 .M 53 52,
 .g 53 false 54 (.mov) [.t 7],
 .g 53 false 55 (.eqP false) [.t 54, .k (.nilp)],
 .o 56 .pick [.t 53, .k (.bool true), .t 55],
 .M 57 56,
 .g 57 false 58 (.mov) [.t 9],
 .g 57 false 59 (.eqP false) [.t 58, .k (.nilp)],
 .o 60 .pick [.t 57, .k (.bool true), .t 59]])
 (.cond (.t 60) (.seq (.region 0 [.C 0 (.bool false)])
 .ret)
 .skip))
 (.seq (.region 0 [.o 62 (.callc dec_Get) [.k (.str [45, 49, 46, 53, 48])],
 .M 61 62,
 .o 63 (.ext 0) [.t 61],
 .o 64 (.ext 1) [.t 61],
 .o 65 (.ext 2) [.t 61],
 .M 13 63,
 .M 14 64,
 .M 15 65])
 (.seq (.region 0 [.M 67 9,
 .o 68 (.callc dec_Units) [.t 67, .k (.int .i64 2)],
 .M 66 68,
 .o 69 (.ext 0) [.t 66],
 .o 70 (.ext 1) [.t 66],
 .M 16 69,
 .M 17 70])
 (.seq (.region 0 [.o 71 (.callc rentierlaw1_Begun) [],
 .M 72 71,
 .g 72 true 73 (.mov) [.t 2],
 .g 72 true 74 (.eqN false true) [.t 73, .k (.nili)],
 .o 75 .pick [.t 72, .t 74, .k (.bool false)],
 .M 76 75,
 .g 76 true 77 (.mov) [.t 6],
 .g 76 true 78 (.eqN false true) [.t 77, .k (.nili)],
 .o 79 .pick [.t 76, .t 78, .k (.bool false)],
 .M 80 79,
 .g 80 true 81 (.mov) [.t 4],
 .g 80 true 82 (.mov) [.t 3],
 .g 80 true 83 (.callc nat_Nat_Mul) [.t 81, .t 82],
 .g 80 true 84 (.mov) [.t 5],
 .g 80 true 85 (.callc nat_Nat_Add) [.t 83, .t 84],
 .g 80 true 86 (.mov) [.t 1],
 .g 80 true 87 (.callc nat_Nat_Cmp) [.t 85, .t 86],
 .g 80 true 88 (.binI .eql) [.t 87, .k (.int .i64 0)],
 .o 89 .pick [.t 80, .t 88, .k (.bool false)],
 .M 90 89,
 .g 90 true 91 (.mov) [.t 1],
 .g 90 true 92 (.callc nat_Nat_Text) [.t 91],
 .g 90 true 93 (.binS .eql) [.t 92, .k (.str [49, 50, 51, 52, 53, 54, 55, 56, 57, 48, 49, 50, 51, 52, 53, 54, 55, 56, 57, 48, 49, 50, 51, 52, 53, 54, 55, 56, 57, 48])],
 .o 94 .pick [.t 90, .t 93, .k (.bool false)],
 .M 95 94,
 .g 95 true 96 (.mov) [.t 7],
 .g 95 true 97 (.callc num_Int_Text) [.t 96],
 .g 95 true 98 (.binS .eql) [.t 97, .k (.str [45, 55])],
 .o 99 .pick [.t 95, .t 98, .k (.bool false)],
 .M 100 99,
 .g 100 true 101 (.callp rat_Rat_Sign) [.t 8],
 .g 100 true 102 (.binI .eql) [.t 101, .k (.int .i64 0)],
 .o 103 .pick [.t 100, .t 102, .k (.bool false)],
 .M 104 103,
 .g 104 true 105 (.mov) [.t 10],
 .g 104 true 106 (.eqN false true) [.t 105, .k (.nili)],
 .o 107 .pick [.t 104, .t 106, .k (.bool false)],
 .M 108 107,
 .g 108 true 109 (.mov) [.t 9],
 .g 108 true 110 (.callc rat_Rat_Text) [.t 109],
 .g 108 true 111 (.binS .eql) [.t 110, .k (.str [45, 51, 47, 50])],
 .o 112 .pick [.t 108, .t 111, .k (.bool false)],
 .M 113 112,
 .g 113 true 114 (.mov) [.t 12],
 .g 113 true 115 (.eqN false true) [.t 114, .k (.nili)],
 .o 116 .pick [.t 113, .t 115, .k (.bool false)],
 .M 117 116,
 .g 117 true 118 (.mov) [.t 11],
 .g 117 true 119 (.binS .eql) [.t 118, .k (.str [45, 49, 46, 53, 48])],
 .o 120 .pick [.t 117, .t 119, .k (.bool false)],
 .M 121 120,
 .g 121 true 122 (.mov) [.t 15],
 .g 121 true 123 (.eqN false true) [.t 122, .k (.nili)],
 .o 124 .pick [.t 121, .t 123, .k (.bool false)],
 .M 125 124,
 .g 125 true 126 (.mov) [.t 14],
 .g 125 true 127 (.binI .eql) [.t 126, .k (.int .i64 2)],
 .o 128 .pick [.t 125, .t 127, .k (.bool false)],
 .M 129 128,
 .g 129 true 130 (.mov) [.t 13],
 .g 129 true 131 (.mov) [.t 9],
 .g 129 true 132 (.callc rat_Rat_Cmp) [.t 130, .t 131],
 .g 129 true 133 (.binI .eql) [.t 132, .k (.int .i64 0)],
 .o 134 .pick [.t 129, .t 133, .k (.bool false)],
 .M 135 134,
 .g 135 true 136 (.mov) [.t 17],
 .g 135 true 137 (.eqN false true) [.t 136, .k (.nili)],
 .o 138 .pick [.t 135, .t 137, .k (.bool false)],
 .M 139 138,
 .g 139 true 140 (.mov) [.t 16],
 .g 139 true 141 (.binI .eql) [.t 140, .k (.int .i64 (-2))],
 .o 142 .pick [.t 139, .t 141, .k (.bool false)],
 .M 143 142,
 .g 143 true 144 (.callc nat_Of) [.k (.int .u64 10)],
 .g 143 true 145 (.callc nat_Nat_Pow) [.t 144, .k (.int .i64 20)],
 .g 143 true 146 (.callc nat_Nat_Root) [.t 145, .k (.int .i64 2)],
 .g 143 true 147 (.callc nat_Nat_Text) [.t 146],
 .g 143 true 148 (.binS .eql) [.t 147, .k (.str [49, 48, 48, 48, 48, 48, 48, 48, 48, 48, 48])],
 .o 149 .pick [.t 143, .t 148, .k (.bool false)],
 .M 0 149])
 .ret))))))))))))⟩
def f_date_padded : EF := ⟨[0, 1], [.tmp 4], (.seq (.region 0 [.C 4 (.str [])])
 (.seq (.region 0 [.M 6 0,
 .o 7 (.callc strconv_Itoa) [.t 6],
 .M 5 7])
 (.seq (.region 0 [.M 8 1,
 .M 9 5,
 .o 10 .lenS [.t 9],
 .o 11 (.binI .sub) [.t 8, .t 10],
 .o 12 .mx [.t 11, .k (.int .i64 0)],
 .o 13 (.callc strings_Repeat) [.k (.str [48]), .t 12],
 .M 14 5,
 .o 15 (.binS .add) [.t 13, .t 14],
 .M 4 15])
 .ret)))⟩
def slices_IndexFunc_api_Rule_b1 : EC := (.seq (.region 0 [.o 9 (.binI .lss) [.t 8, .t 7]])
 (.seq (.cond (.t 9) .skip
 (.exit 0))
 (.seq (.block 1 (.seq (.region 0 [.M 10 8,
 .M 5 10])
 (.seq (.region 0 [.M 11 1,
 .M 12 0,
 .M 13 5,
 .o 14 (.iadr 6) [.t 12, .t 13],
 .o 15 (.loadA 6) [.t 14],
 .o 16 .callv [.t 11, .t 15]])
 (.cond (.t 16) (.seq (.region 0 [.M 17 5,
 .M 4 17])
 .ret)
 .skip))))
 (.region 0 [.o 18 (.binI .add) [.t 8, .k (.int .i64 1)],
 .M 8 18]))))
def f_slices_IndexFunc_api_Rule : EF := ⟨[0, 1], [.tmp 4], (.seq (.region 0 [.C 4 (.int .i64 0)])
 (.seq (.seq (.region 0 [.M 6 0,
 .o 7 .lenL [.t 6],
 .C 8 (.int .i64 0)])
 (.block 0 (.loop [0, 1, 7, 8] [4] slices_IndexFunc_api_Rule_b1)))
 (.seq (.region 0 [.C 4 (.int .i64 (-1))])
 .ret)))⟩
def f_holi_within : EF := ⟨[0, 1, 2], [.tmp 6], (.seq (.region 0 [.C 6 (.bool false)])
 (.seq (.region 0 [.M 7 0,
 .M 8 1,
 .o 9 (.binI .geq) [.t 7, .t 8],
 .M 10 9,
 .g 10 true 11 (.mov) [.t 0],
 .g 10 true 12 (.mov) [.t 2],
 .g 10 true 13 (.binI .leq) [.t 11, .t 12],
 .o 14 .pick [.t 10, .t 13, .k (.bool false)],
 .M 6 14])
 .ret))⟩
def slices_IndexFunc_int_b1 : EC := (.seq (.region 0 [.o 9 (.binI .lss) [.t 8, .t 7]])
 (.seq (.cond (.t 9) .skip
 (.exit 0))
 (.seq (.block 1 (.seq (.region 0 [.M 10 8,
 .M 5 10])
 (.seq (.region 0 [.M 11 1,
 .M 12 0,
 .M 13 5,
 .o 14 (.iadr 1) [.t 12, .t 13],
 .o 15 .load1 [.t 14],
 .o 16 .callv [.t 11, .t 15]])
 (.cond (.t 16) (.seq (.region 0 [.M 17 5,
 .M 4 17])
 .ret)
 .skip))))
 (.region 0 [.o 18 (.binI .add) [.t 8, .k (.int .i64 1)],
 .M 8 18]))))
def f_slices_IndexFunc_int : EF := ⟨[0, 1], [.tmp 4], (.seq (.region 0 [.C 4 (.int .i64 0)])
 (.seq (.seq (.region 0 [.M 6 0,
 .o 7 .lenL [.t 6],
 .C 8 (.int .i64 0)])
 (.block 0 (.loop [0, 1, 7, 8] [4] slices_IndexFunc_int_b1)))
 (.seq (.region 0 [.C 4 (.int .i64 (-1))])
 .ret)))⟩
def f_holi_nth : EF := ⟨[0, 1], [.tmp 4, .tmp 5], (.seq (.region 1 [.o 2 (.box 0) [.t 0],
 .C 4 (.int .i64 0),
 .C 5 (.bool false)])
 (.seq (.region 0 [.M 12 1,
 .o 13 (.fadr 1) [.t 2],
 .o 14 .load1 [.t 13],
 .o 15 (.callc month_End) [.t 12, .t 14],
 .M 11 15,
 .o 16 (.ext 0) [.t 11],
 .o 17 (.ext 1) [.t 11],
 .M 6 16,
 .M 7 17])
 (.seq (.seq (.region 0 [.M 18 7,
 .o 19 (.eqN true true) [.t 18, .k (.nili)]])
 (.cond (.t 19) (.seq (.region 0 [.C 4 (.int .i64 0),
 .C 5 (.bool false)])
 .ret)
 .skip))
 (.seq (.region 0 [.M 20 1,
 .o 21 (.fadr 1) [.t 2],
 .o 22 .load1 [.t 21],
 .o 23 (.callc date_Length) [.t 20, .t 22],
 .M 8 23])
 (.seq (.seq (.region 0 [.o 24 (.fadr 3) [.t 2],
 .o 25 .load1 [.t 24],
 .o 26 (.binI .eql) [.t 25, .k (.int .i64 (-1))]])
 (.cond (.t 26) (.seq (.drawn 0 [(0, .M 27 6),
 (1, .M 28 6),
 (2, .o 29 (.callc date_Weekday) [.t 28]),
 (3, .o 30 (.fadr 4) [.t 2]),
 (4, .o 31 .load1 [.t 30]),
 (5, .o 32 (.binI .sub) [.t 29, .t 31]),
 (6, .o 33 (.binI .add) [.t 32, .k (.int .i64 7)]),
 (7, .o 34 (.binI .rem) [.t 33, .k (.int .i64 7)]),
 (8, .o 35 (.binI .sub) [.t 27, .t 34]),
 (9, .M 4 35),
 (10, .C 5 (.bool true))])
 .ret)
 .skip))
 (.seq (.region 0 [.M 36 6,
 .M 37 8,
 .o 38 (.binI .sub) [.t 36, .t 37],
 .o 39 (.binI .add) [.t 38, .k (.int .i64 1)],
 .M 9 39])
 (.seq (.drawn 0 [(0, .M 40 9),
 (1, .o 41 (.fadr 4) [.t 2]),
 (2, .o 42 .load1 [.t 41]),
 (3, .M 43 9),
 (4, .o 44 (.callc date_Weekday) [.t 43]),
 (5, .o 45 (.binI .sub) [.t 42, .t 44]),
 (6, .o 46 (.binI .add) [.t 45, .k (.int .i64 7)]),
 (7, .o 47 (.binI .rem) [.t 46, .k (.int .i64 7)]),
 (8, .o 48 (.binI .add) [.t 40, .t 47]),
 (9, .o 49 (.fadr 3) [.t 2]),
 (10, .o 50 .load1 [.t 49]),
 (11, .o 51 (.binI .sub) [.t 50, .k (.int .i64 1)]),
 (12, .o 52 (.binI .mul) [.k (.int .i64 7), .t 51]),
 (13, .o 53 (.binI .add) [.t 48, .t 52]),
 (14, .M 10 53)])
 (.seq (.region 0 [.M 54 10,
 .M 55 10,
 .M 56 6,
 .o 57 (.binI .leq) [.t 55, .t 56],
 .M 4 54,
 .M 5 57])
 .ret))))))))⟩
def f_holi_shifted : EF := ⟨[0], [.tmp 2], (.seq (.region 0 [.C 2 (.int .i64 0)])
 (.seq (.seq (.region 0 [.M 3 0,
 .o 4 (.callc date_Weekday) [.t 3]])
 (.block 0 (.seq (.region 0 [.o 6 (.binI .eql) [.t 4, .k (.int .i64 6)],
 .M 5 6])
 (.cond (.t 5) (.seq (.region 0 [.M 7 0,
 .o 8 (.binI .sub) [.t 7, .k (.int .i64 1)],
 .M 2 8])
 .ret)
 (.seq (.region 0 [.o 10 (.binI .eql) [.t 4, .k (.int .i64 0)],
 .M 9 10])
 (.cond (.t 9) (.seq (.region 0 [.M 11 0,
 .o 12 (.binI .add) [.t 11, .k (.int .i64 1)],
 .M 2 12])
 .ret)
 .skip))))))
 (.seq (.region 0 [.M 13 0,
 .M 2 13])
 .ret)))⟩
def f_dec_Round : EF := ⟨[0, 1, 2], [.tmp 6, .tmp 7], (.seq (.region 0 [.C 6 (.str []),
 .C 7 (.nili)])
 (.seq (.block 0 (.seq (.region 0 [.M 9 1,
 .o 10 (.binI .lss) [.t 9, .k (.int .i64 0)],
 .M 11 10,
 .g 11 false 12 (.mov) [.t 1],
 .g 11 false 13 (.binI .gtr) [.t 12, .k (.int .i64 20)],
 .o 14 .pick [.t 11, .k (.bool true), .t 13],
 .M 8 14])
 (.cond (.t 8) (.seq (.region 0 [.o 15 (.callc fault_Of) [.k (.int .i64 2)],
 .C 6 (.str []),
 .M 7 15])
 .ret)
 (.seq (.region 0 [.M 17 2,
 .o 18 (.callc dec_mode) [.t 17],
 .o 19 .not [.t 18],
 .M 16 19])
 (.cond (.t 16) (.seq (.region 0 [.o 20 (.callc fault_Of) [.k (.int .i64 1)],
 .C 6 (.str []),
 .M 7 20])
 .ret)
 .skip)))))
 (.seq (.region 0 [.M 21 0,
 .o 22 (.callc rat_Rat_Num) [.t 21],
 .M 23 1,
 .o 24 (.callc dec_ten) [.t 23],
 .o 25 (.callc num_Int_Mul) [.t 22, .t 24],
 .M 26 0,
 .o 27 (.callc rat_Rat_Den) [.t 26],
 .M 28 2,
 .o 29 (.callc dec_whole) [.t 25, .t 27, .t 28],
 .M 30 1,
 .o 31 (.callc dec_placed) [.t 29, .t 30],
 .M 6 31,
 .C 7 (.nili)])
 .ret)))⟩
def f_dec_Units : EF := ⟨[0, 1], [.tmp 4, .tmp 5], (.seq (.region 0 [.C 4 (.int .i64 0),
 .C 5 (.nili)])
 (.seq (.seq (.region 0 [.M 8 1,
 .o 9 (.callc dec_mode) [.t 8],
 .o 10 .not [.t 9]])
 (.cond (.t 10) (.seq (.region 0 [.o 11 (.callc fault_Of) [.k (.int .i64 1)],
 .C 4 (.int .i64 0),
 .M 5 11])
 .ret)
 .skip))
 (.seq (.region 0 [.M 13 0,
 .o 14 (.callc rat_Rat_Num) [.t 13],
 .M 15 0,
 .o 16 (.callc rat_Rat_Den) [.t 15],
 .M 17 1,
 .o 18 (.callc dec_whole) [.t 14, .t 16, .t 17],
 .o 19 (.callc num_Int_Small) [.t 18],
 .M 12 19,
 .o 20 (.ext 0) [.t 12],
 .o 21 (.ext 1) [.t 12],
 .M 6 20,
 .M 7 21])
 (.seq (.seq (.region 0 [.M 22 7,
 .o 23 .not [.t 22]])
 (.cond (.t 23) (.seq (.region 0 [.o 24 (.callc fault_Of) [.k (.int .i64 11)],
 .C 4 (.int .i64 0),
 .M 5 24])
 .ret)
 .skip))
 (.seq (.region 0 [.M 25 6,
 .M 4 25,
 .C 5 (.nili)])
 .ret)))))⟩
def f_rentierlaw1_Begun : EF := ⟨[], [.tmp 0], (.seq (.region 0 [.C 0 (.bool false)])
 (.seq (.region 0 [.o 1 (.callc rentierlaw1_begun) [],
 .M 0 1])
 .ret))⟩
def nat_Nat_Root_b1 : EC := (.seq (.seq (.region 0 [.M 33 6,
 .o 34 (.binI .geq) [.t 33, .k (.int .i64 0)]])
 (.cond (.t 34) .skip
 (.exit 1)))
 (.seq (.join [0, 1, 5, 6] (.block 2 (.seq (.region 0 [.M 37 5,
 .M 38 6,
 .o 39 (.callc nat_bit) [.t 38],
 .o 40 (.callc nat_Nat_Add) [.t 37, .t 39],
 .M 7 40])
 (.seq (.region 0 [.M 41 7,
 .o 42 (.callc nat_Nat_width) [.t 41],
 .o 43 (.binI .sub) [.t 42, .k (.int .i64 1)],
 .M 44 1,
 .o 45 (.binI .mul) [.t 43, .t 44],
 .M 46 0,
 .o 47 (.callc nat_Nat_width) [.t 46],
 .o 48 (.binI .lss) [.t 45, .t 47],
 .M 49 48,
 .g 49 true 50 (.mov) [.t 7],
 .g 49 true 51 (.mov) [.t 1],
 .g 49 true 52 (.callc nat_Nat_Pow) [.t 50, .t 51],
 .g 49 true 53 (.mov) [.t 0],
 .g 49 true 54 (.callc nat_Nat_Cmp) [.t 52, .t 53],
 .g 49 true 55 (.binI .leq) [.t 54, .k (.int .i64 0)],
 .o 56 .pick [.t 49, .t 55, .k (.bool false)]])
 (.join [0, 1, 5, 6] (.cond (.t 56) (.region 0 [.M 57 7,
 .M 5 57])
 .skip))))))
 (.region 0 [.M 35 6,
 .o 36 (.binI .sub) [.t 35, .k (.int .i64 1)],
 .M 6 36])))
def f_nat_Nat_Root : EF := ⟨[0, 1], [.tmp 4], (.seq (.region 0 [.C 4 (.nilp)])
 (.seq (.block 0 (.seq (.region 0 [.M 9 1,
 .o 10 (.binI .leq) [.t 9, .k (.int .i64 1)],
 .M 11 10,
 .g 11 false 12 (.mov) [.t 0],
 .g 11 false 13 (.callc nat_Nat_Zero) [.t 12],
 .o 14 .pick [.t 11, .k (.bool true), .t 13],
 .M 8 14])
 (.cond (.t 8) (.seq (.region 0 [.M 15 0,
 .o 16 (.callc nat_Nat_limbs) [.t 15],
 .o 17 (.callc nat_made) [.t 16],
 .M 4 17])
 .ret)
 (.seq (.region 0 [.M 19 1,
 .M 20 0,
 .o 21 (.callc nat_Nat_width) [.t 20],
 .o 22 (.binI .geq) [.t 19, .t 21],
 .M 18 22])
 (.cond (.t 18) (.seq (.region 0 [.o 23 (.callc nat_Of) [.k (.int .u64 1)],
 .M 4 23])
 .ret)
 .skip)))))
 (.seq (.region 0 [.o 24 (.callc nat_Of) [.k (.int .u64 0)],
 .M 5 24])
 (.seq (.seq (.region 0 [.M 25 0,
 .o 26 (.callc nat_Nat_width) [.t 25],
 .M 27 1,
 .o 28 (.binI .add) [.t 26, .t 27],
 .o 29 (.binI .sub) [.t 28, .k (.int .i64 1)],
 .M 30 1,
 .o 31 (.binI .quo) [.t 29, .t 30],
 .o 32 (.binI .sub) [.t 31, .k (.int .i64 1)],
 .M 6 32])
 (.block 1 (.loop [0, 1, 5, 6] [5] nat_Nat_Root_b1)))
 (.seq (.region 0 [.M 58 5,
 .M 4 58])
 .ret)))))⟩
def f_dec_mode : EF := ⟨[0], [.tmp 2], (.seq (.region 0 [.C 2 (.bool false)])
 (.seq (.region 0 [.M 3 0,
 .o 4 (.binI .eql) [.t 3, .k (.int .i64 1)],
 .M 5 4,
 .g 5 false 6 (.mov) [.t 0],
 .g 5 false 7 (.binI .eql) [.t 6, .k (.int .i64 2)],
 .o 8 .pick [.t 5, .k (.bool true), .t 7],
 .M 9 8,
 .g 9 false 10 (.mov) [.t 0],
 .g 9 false 11 (.binI .eql) [.t 10, .k (.int .i64 3)],
 .o 12 .pick [.t 9, .k (.bool true), .t 11],
 .M 2 12])
 .ret))⟩
def f_dec_placed : EF := ⟨[0, 1], [.tmp 4], (.seq (.region 0 [.C 4 (.str [])])
 (.seq (.region 0 [.M 6 0,
 .o 7 (.callc num_Int_Abs) [.t 6],
 .o 8 (.callc nat_Nat_Text) [.t 7],
 .M 5 8])
 (.seq (.seq (.region 0 [.M 9 5,
 .o 10 .lenS [.t 9],
 .M 11 1,
 .o 12 (.binI .leq) [.t 10, .t 11]])
 (.join [0, 1, 5] (.cond (.t 12) (.region 0 [.M 13 1,
 .o 14 (.binI .add) [.t 13, .k (.int .i64 1)],
 .M 15 5,
 .o 16 .lenS [.t 15],
 .o 17 (.binI .sub) [.t 14, .t 16],
 .o 18 (.callc strings_Repeat) [.k (.str [48]), .t 17],
 .M 19 5,
 .o 20 (.binS .add) [.t 18, .t 19],
 .M 5 20])
 .skip)))
 (.seq (.seq (.region 0 [.M 21 1,
 .o 22 (.binI .gtr) [.t 21, .k (.int .i64 0)]])
 (.join [0, 5] (.cond (.t 22) (.drawn 0 [(0, .M 23 5),
 (1, .M 24 5),
 (2, .o 25 .lenS [.t 24]),
 (3, .M 26 1),
 (4, .o 27 (.binI .sub) [.t 25, .t 26]),
 (5, .o 28 (.slS false true) [.t 23, .t 27]),
 (6, .o 29 (.binS .add) [.t 28, .k (.str [46])]),
 (7, .M 30 5),
 (8, .M 31 5),
 (9, .o 32 .lenS [.t 31]),
 (10, .M 33 1),
 (11, .o 34 (.binI .sub) [.t 32, .t 33]),
 (12, .o 35 (.slS true false) [.t 30, .t 34]),
 (13, .o 36 (.binS .add) [.t 29, .t 35]),
 (14, .M 5 36)])
 .skip)))
 (.seq (.seq (.region 0 [.M 37 0,
 .o 38 (.callc num_Int_Sign) [.t 37],
 .o 39 (.binI .lss) [.t 38, .k (.int .i64 0)]])
 (.join [5] (.cond (.t 39) (.region 0 [.M 40 5,
 .o 41 (.binS .add) [.k (.str [45]), .t 40],
 .M 5 41])
 .skip)))
 (.seq (.region 0 [.M 42 5,
 .M 4 42])
 .ret))))))⟩
def f_dec_whole : EF := ⟨[0, 1, 2], [.tmp 6], (.seq (.region 0 [.C 6 (.nilp)])
 (.seq (.region 0 [.M 16 0,
 .o 17 (.callc num_Int_Abs) [.t 16],
 .M 18 1,
 .o 19 (.callc num_Int_Abs) [.t 18],
 .o 20 (.callc nat_Nat_Div) [.t 17, .t 19],
 .M 15 20,
 .o 21 (.ext 0) [.t 15],
 .o 22 (.ext 1) [.t 15],
 .o 23 (.ext 2) [.t 15],
 .M 7 21,
 .M 8 22,
 .M 9 23])
 (.seq (.region 0 [.M 25 7,
 .o 26 (.callc nat_Of) [.k (.int .u64 2)],
 .o 27 (.callc nat_Nat_Div) [.t 25, .t 26],
 .M 24 27,
 .o 28 (.ext 0) [.t 24],
 .o 29 (.ext 1) [.t 24],
 .o 30 (.ext 2) [.t 24],
 .M 10 28,
 .M 11 29,
 .M 12 30])
 (.seq (.region 0 [.M 31 8,
 .M 32 8,
 .o 33 (.callc nat_Nat_Add) [.t 31, .t 32],
 .M 34 1,
 .o 35 (.callc num_Int_Abs) [.t 34],
 .o 36 (.callc nat_Nat_Cmp) [.t 33, .t 35],
 .M 13 36])
 (.seq (.region 0 [.M 37 13,
 .o 38 (.binI .gtr) [.t 37, .k (.int .i64 0)],
 .M 39 38,
 .g 39 false 40 (.mov) [.t 13],
 .g 39 false 41 (.binI .eql) [.t 40, .k (.int .i64 0)],
 .g 39 false 42 (.mov) [.t 41],
 .g 42 true 43 (.mov) [.t 2],
 .g 42 true 44 (.binI .eql) [.t 43, .k (.int .i64 1)],
 .g 42 true 45 (.mov) [.t 44],
 .g 45 false 46 (.mov) [.t 11],
 .g 45 false 47 (.callc nat_Nat_Zero) [.t 46],
 .g 45 false 48 (.not) [.t 47],
 .g 42 true 49 (.pick) [.t 45, .k (.bool true), .t 48],
 .g 39 false 50 (.pick) [.t 42, .t 49, .k (.bool false)],
 .o 51 .pick [.t 39, .k (.bool true), .t 50],
 .M 14 51])
 (.seq (.seq (.region 0 [.M 52 14,
 .M 53 52,
 .g 53 true 54 (.mov) [.t 2],
 .g 53 true 55 (.binI .neq) [.t 54, .k (.int .i64 3)],
 .o 56 .pick [.t 53, .t 55, .k (.bool false)]])
 (.join [0, 7] (.cond (.t 56) (.region 0 [.M 57 7,
 .o 58 (.callc nat_Of) [.k (.int .u64 1)],
 .o 59 (.callc nat_Nat_Add) [.t 57, .t 58],
 .M 7 59])
 .skip)))
 (.seq (.region 0 [.M 60 0,
 .o 61 (.callc num_Int_Sign) [.t 60],
 .o 62 (.binI .lss) [.t 61, .k (.int .i64 0)],
 .M 63 7,
 .o 64 (.callc num_New) [.t 62, .t 63],
 .M 6 64])
 .ret)))))))⟩
def f_num_Int_Small : EF := ⟨[0], [.tmp 2, .tmp 3], (.seq (.region 0 [.C 2 (.int .i64 0),
 .C 3 (.bool false)])
 (.seq (.region 0 [.M 7 0,
 .o 8 (.callc num_Int_Abs) [.t 7],
 .o 9 (.callc nat_Nat_Small) [.t 8],
 .M 6 9,
 .o 10 (.ext 0) [.t 6],
 .o 11 (.ext 1) [.t 6],
 .M 4 10,
 .M 5 11])
 (.seq (.block 0 (.seq (.region 0 [.M 13 5,
 .o 14 .not [.t 13],
 .M 12 14])
 (.cond (.t 12) (.seq (.region 0 [.C 2 (.int .i64 0),
 .C 3 (.bool false)])
 .ret)
 (.seq (.region 0 [.M 16 0,
 .o 17 (.callc num_Int_Sign) [.t 16],
 .o 18 (.binI .lss) [.t 17, .k (.int .i64 0)],
 .M 19 18,
 .g 19 true 20 (.mov) [.t 4],
 .g 19 true 21 (.binI .leq) [.t 20, .k (.int .u64 9223372036854775808)],
 .o 22 .pick [.t 19, .t 21, .k (.bool false)],
 .M 15 22])
 (.cond (.t 15) (.seq (.region 0 [.M 23 4,
 .o 24 .neg [.t 23],
 .o 25 (.conv .i64) [.t 24],
 .M 2 25,
 .C 3 (.bool true)])
 .ret)
 (.seq (.region 0 [.M 27 0,
 .o 28 (.callc num_Int_Sign) [.t 27],
 .o 29 (.binI .geq) [.t 28, .k (.int .i64 0)],
 .M 30 29,
 .g 30 true 31 (.mov) [.t 4],
 .g 30 true 32 (.binI .lss) [.t 31, .k (.int .u64 9223372036854775808)],
 .o 33 .pick [.t 30, .t 32, .k (.bool false)],
 .M 26 33])
 (.cond (.t 26) (.seq (.region 0 [.M 34 4,
 .o 35 (.conv .i64) [.t 34],
 .M 2 35,
 .C 3 (.bool true)])
 .ret)
 .skip)))))))
 (.seq (.region 0 [.C 2 (.int .i64 0),
 .C 3 (.bool false)])
 .ret))))⟩
def f_rentierlaw1_begun : EF := ⟨[], [.tmp 0], (.seq (.region 0 [.C 0 (.bool false)])
 (.seq (.region 0 [.o 3 (.callc fault_New) [.k (.int .i64 4), .k (.str [98])],
 .o 4 (.callc fault_Wrap) [.k (.str [97]), .t 3],
 .M 1 4])
 (.seq (.region 0 [.M 5 1,
 .o 6 (.callc fault_Where) [.t 5],
 .M 2 6])
 (.seq (.seq (.region 0 [.M 7 1,
 .o 8 (.eqN false true) [.t 7, .k (.nili)],
 .M 9 8,
 .g 9 false 10 (.mov) [.t 2],
 .g 9 false 11 (.lenL) [.t 10],
 .g 9 false 12 (.binI .neq) [.t 11, .k (.int .i64 2)],
 .o 13 .pick [.t 9, .k (.bool true), .t 12]])
 (.cond (.t 13) (.seq (.region 0 [.C 0 (.bool false)])
 .ret)
 .skip))
 (.seq (.region 0 [.M 14 2,
 .o 15 (.iadr 1) [.t 14, .k (.int .i64 0)],
 .o 16 .load1 [.t 15],
 .o 17 (.binS .eql) [.t 16, .k (.str [97])],
 .M 18 17,
 .g 18 true 19 (.mov) [.t 2],
 .g 18 true 20 (.iadr 1) [.t 19, .k (.int .i64 1)],
 .g 18 true 21 (.load1) [.t 20],
 .g 18 true 22 (.binS .eql) [.t 21, .k (.str [98])],
 .o 23 .pick [.t 18, .t 22, .k (.bool false)],
 .M 24 23,
 .g 24 true 25 (.mov) [.t 1],
 .g 24 true 26 (.callc fault_Code) [.t 25],
 .g 24 true 27 (.binI .eql) [.t 26, .k (.int .i64 4)],
 .o 28 .pick [.t 24, .t 27, .k (.bool false)],
 .M 29 28,
 .g 29 true 30 (.mov) [.t 1],
 .g 29 true 31 (.invc [(ty_Fault, fault_Fault_Error), (ty_plain, fault_plain_Error)]) [.t 30],
 .g 29 true 32 (.binS .eql) [.t 31, .k (.str [97, 58, 32, 98, 58, 32, 101, 114, 114, 111, 114, 32, 52])],
 .o 33 .pick [.t 29, .t 32, .k (.bool false)],
 .M 34 33,
 .g 34 true 35 (.mov) [.t 1],
 .g 34 true 36 (.callc fault_Of) [.k (.int .i64 4)],
 .g 34 true 37 (.callc errors_Is) [.t 35, .t 36],
 .o 38 .pick [.t 34, .t 37, .k (.bool false)],
 .M 39 38,
 .g 39 true 40 (.mov) [.t 1],
 .g 39 true 41 (.callc fault_Of) [.k (.int .i64 1)],
 .g 39 true 42 (.callc errors_Is) [.t 40, .t 41],
 .g 39 true 43 (.not) [.t 42],
 .o 44 .pick [.t 39, .t 43, .k (.bool false)],
 .M 45 44,
 .g 45 true 46 (.callc fault_Of) [.k (.int .i64 0)],
 .g 45 true 47 (.eqN false true) [.t 46, .k (.nili)],
 .o 48 .pick [.t 45, .t 47, .k (.bool false)],
 .M 49 48,
 .g 49 true 50 (.callc fault_Of) [.k (.int .i64 3)],
 .g 49 true 51 (.callc fault_Of) [.k (.int .i64 3)],
 .g 49 true 52 (.eqF false [ty_plain]) [.t 50, .t 51],
 .o 53 .pick [.t 49, .t 52, .k (.bool false)],
 .M 0 53])
 .ret)))))⟩
def f_nat_Nat_width : EF := ⟨[0], [.tmp 2], (.seq (.region 0 [.C 2 (.int .i64 0)])
 (.seq (.region 0 [.M 4 0,
 .o 5 (.callc nat_Nat_limbs) [.t 4],
 .M 3 5])
 (.seq (.seq (.region 0 [.M 6 3,
 .o 7 .lenL [.t 6],
 .o 8 (.binI .eql) [.t 7, .k (.int .i64 0)]])
 (.cond (.t 8) (.seq (.region 0 [.C 2 (.int .i64 0)])
 .ret)
 .skip))
 (.seq (.region 0 [.M 9 3,
 .o 10 .lenL [.t 9],
 .o 11 (.binI .mul) [.k (.int .i64 64), .t 10],
 .M 12 3,
 .M 13 3,
 .o 14 .lenL [.t 13],
 .o 15 (.binI .sub) [.t 14, .k (.int .i64 1)],
 .o 16 (.iadr 1) [.t 12, .t 15],
 .o 17 .load1 [.t 16],
 .o 18 (.callc bits_LeadingZeros64) [.t 17],
 .o 19 (.binI .sub) [.t 11, .t 18],
 .M 2 19])
 .ret))))⟩
def f_nat_Nat_Small : EF := ⟨[0], [.tmp 2, .tmp 3], (.seq (.region 0 [.C 2 (.int .u64 0),
 .C 3 (.bool false)])
 (.seq (.seq (.region 0 [.M 5 0,
 .o 6 (.callc nat_Nat_limbs) [.t 5],
 .M 4 6])
 (.seq (.region 0 [.M 7 4,
 .o 8 .lenL [.t 7]])
 (.block 0 (.seq (.region 0 [.o 10 (.binI .eql) [.t 8, .k (.int .i64 0)],
 .M 9 10])
 (.cond (.t 9) (.seq (.region 0 [.C 2 (.int .u64 0),
 .C 3 (.bool true)])
 .ret)
 (.seq (.region 0 [.o 12 (.binI .eql) [.t 8, .k (.int .i64 1)],
 .M 11 12])
 (.cond (.t 11) (.seq (.region 0 [.M 13 4,
 .o 14 (.iadr 1) [.t 13, .k (.int .i64 0)],
 .o 15 .load1 [.t 14],
 .M 2 15,
 .C 3 (.bool true)])
 .ret)
 .skip)))))))
 (.seq (.region 0 [.C 2 (.int .u64 0),
 .C 3 (.bool false)])
 .ret)))⟩
def f_fault_Wrap : EF := ⟨[0, 1], [.tmp 4], (.seq (.region 0 [.C 4 (.nili)])
 (.seq (.seq (.region 0 [.M 5 1,
 .o 6 (.eqN false true) [.t 5, .k (.nili)]])
 (.cond (.t 6) (.seq (.region 0 [.C 4 (.nili)])
 .ret)
 .skip))
 (.seq (.region 1 [.M 7 1,
 .o 8 (.callc fault_Code) [.t 7],
 .M 9 0,
 .M 10 1,
 .o 11 (.build [.int .i64 0, .str [], .nili] [(0, 1), (1, 1), (2, 1)]) [.t 8, .t 9, .t 10],
 .o 12 (.box 0) [.t 11],
 .o 13 (.mkif ty_Fault) [.t 12],
 .M 4 13])
 .ret)))⟩
def fault_Where_b1 : EC := (.seq (.seq (.region 0 [.M 6 0,
 .o 7 (.eqN true true) [.t 6, .k (.nili)]])
 (.cond (.t 7) .skip
 (.exit 0)))
 (.seq (.join [0, 3] (.block 1 (.seq (.region 0 [.M 11 0,
 .o 12 (.tasC ty_Fault (.nilp)) [.t 11],
 .M 10 12,
 .o 13 (.ext 0) [.t 10],
 .o 14 (.ext 1) [.t 10],
 .M 4 13,
 .M 5 14])
 (.seq (.region 0 [.M 15 5,
 .M 16 15,
 .g 16 true 17 (.mov) [.t 4],
 .g 16 true 18 (.eqP true) [.t 17, .k (.nilp)],
 .o 19 .pick [.t 16, .t 18, .k (.bool false)],
 .M 20 19,
 .g 20 true 21 (.mov) [.t 4],
 .g 20 true 22 (.nilck) [.t 21],
 .g 20 true 23 (.fadr 1) [.t 22],
 .g 20 true 24 (.load1) [.t 23],
 .g 20 true 25 (.binS .neq) [.t 24, .k (.str [])],
 .o 26 .pick [.t 20, .t 25, .k (.bool false)]])
 (.join [0, 3] (.cond (.t 26) (.region 1 [.M 27 3,
 .M 28 4,
 .o 29 .nilck [.t 28],
 .o 30 (.fadr 1) [.t 29],
 .o 31 .load1 [.t 30],
 .o 32 (.bsl 1 1 [.str []] [(0, 1)]) [.t 31],
 .o 33 (.app 0 1) [.t 27, .t 32],
 .M 3 33])
 .skip))))))
 (.region 0 [.M 8 0,
 .o 9 (.callc errors_Unwrap) [.t 8],
 .M 0 9])))
def f_fault_Where : EF := ⟨[0], [.tmp 2], (.seq (.region 0 [.C 2 (.nils)])
 (.seq (.region 0 [.C 3 (.nils)])
 (.seq (.block 0 (.loop [0, 3] [3] fault_Where_b1))
 (.seq (.region 0 [.M 34 3,
 .M 2 34])
 .ret))))⟩
def f_errors_Is : EF := ⟨[0, 1], [.tmp 4], (.seq (.region 0 [.C 4 (.bool false)])
 (.seq (.seq (.region 0 [.M 6 0,
 .o 7 (.eqN false true) [.t 6, .k (.nili)],
 .M 8 7,
 .g 8 false 9 (.mov) [.t 1],
 .g 8 false 10 (.eqN false true) [.t 9, .k (.nili)],
 .o 11 .pick [.t 8, .k (.bool true), .t 10]])
 (.cond (.t 11) (.seq (.region 0 [.M 12 0,
 .M 13 1,
 .o 14 (.eqF false [ty_plain]) [.t 12, .t 13],
 .M 4 14])
 .ret)
 .skip))
 (.seq (.region 0 [.M 15 1,
 .o 16 (.callc internal_reflectlite_TypeOf) [.t 15],
 .o 17 (.invc [(ty_rtype, internal_reflectlite_rtype_Comparable)]) [.t 16],
 .M 5 17])
 (.seq (.region 0 [.M 18 0,
 .M 19 1,
 .M 20 5,
 .o 21 (.callc errors_is) [.t 18, .t 19, .t 20],
 .M 4 21])
 .ret))))⟩
def f_errors_Unwrap : EF := ⟨[0], [.tmp 2], (.seq (.region 0 [.C 2 (.nili)])
 (.seq (.region 0 [.M 6 0,
 .o 7 (.tasI [(ty_Fault, true), (ty_plain, false), (ty_rtype, false)]) [.t 6],
 .M 5 7,
 .o 8 (.ext 0) [.t 5],
 .o 9 (.ext 1) [.t 5],
 .M 3 8,
 .M 4 9])
 (.seq (.seq (.region 0 [.M 10 4,
 .o 11 .not [.t 10]])
 (.cond (.t 11) (.seq (.region 0 [.C 2 (.nili)])
 .ret)
 .skip))
 (.seq (.region 0 [.M 12 3,
 .o 13 (.invc [(ty_Fault, fault_Fault_Unwrap)]) [.t 12],
 .M 2 13])
 .ret))))⟩
def errors_is_b1 : EC := (.seq (.region 0 [.o 46 (.binI .lss) [.t 45, .t 44]])
 (.seq (.cond (.t 46) .skip
 (.exit 3))
 (.seq (.block 4 (.seq (.region 0 [.o 47 (.iadr 1) [.t 43, .t 45],
 .o 48 .load1 [.t 47],
 .M 12 48])
 (.seq (.region 0 [.M 49 12,
 .M 50 1,
 .M 51 2,
 .o 52 (.callc errors_is) [.t 49, .t 50, .t 51]])
 (.cond (.t 52) (.seq (.region 0 [.C 6 (.bool true)])
 .ret)
 .skip))))
 (.region 0 [.o 53 (.binI .add) [.t 45, .k (.int .i64 1)],
 .M 45 53]))))
def errors_is_b2 : EC := (.block 1 (.seq (.seq (.region 0 [.M 14 2,
 .M 15 14,
 .g 15 true 16 (.mov) [.t 0],
 .g 15 true 17 (.mov) [.t 1],
 .g 15 true 18 (.eqF false [ty_plain]) [.t 16, .t 17],
 .o 19 .pick [.t 15, .t 18, .k (.bool false)]])
 (.cond (.t 19) (.seq (.region 0 [.C 6 (.bool true)])
 .ret)
 .skip))
 (.seq (.seq (.region 0 [.M 21 0,
 .o 22 (.tasI [(ty_Fault, true), (ty_plain, false), (ty_rtype, false)]) [.t 21],
 .M 20 22,
 .o 23 (.ext 0) [.t 20],
 .o 24 (.ext 1) [.t 20],
 .M 7 23,
 .M 8 24])
 (.seq (.region 0 [.M 25 8,
 .M 26 25,
 .g 26 true 27 (.mov) [.t 7],
 .g 26 true 28 (.mov) [.t 1],
 .g 26 true 29 (.invc [(ty_Fault, fault_Fault_Is)]) [.t 27, .t 28],
 .o 30 .pick [.t 26, .t 29, .k (.bool false)]])
 (.cond (.t 30) (.seq (.region 0 [.C 6 (.bool true)])
 .ret)
 .skip)))
 (.seq (.region 0 [.M 31 0])
 (.block 2 (.seq (.region 0 [.o 32 (.tasI [(ty_Fault, true), (ty_plain, false), (ty_rtype, false)]) [.t 31],
 .o 33 (.ext 1) [.t 32],
 .o 34 (.ext 0) [.t 32]])
 (.cond (.t 33) (.seq (.region 0 [.M 9 34])
 (.seq (.region 0 [.M 35 9,
 .o 36 (.invc [(ty_Fault, fault_Fault_Unwrap)]) [.t 35],
 .M 0 36])
 (.seq (.region 0 [.M 37 0,
 .o 38 (.eqN false true) [.t 37, .k (.nili)]])
 (.cond (.t 38) (.seq (.region 0 [.C 6 (.bool false)])
 .ret)
 .skip))))
 (.seq (.region 0 [.o 39 (.tasI [(ty_Fault, false), (ty_plain, false), (ty_rtype, false)]) [.t 31],
 .o 40 (.ext 1) [.t 39],
 .o 41 (.ext 0) [.t 39]])
 (.cond (.t 40) (.seq (.region 0 [.M 10 41])
 (.seq (.seq (.region 0 [.M 42 10,
 .o 43 (.invc [(ty_Fault, fault_Fault_Unwrap)]) [.t 42],
 .o 44 .lenL [.t 43],
 .C 45 (.int .i64 0)])
 (.block 3 (.loop [1, 2, 43, 44, 45] [6] errors_is_b1)))
 (.seq (.region 0 [.C 6 (.bool false)])
 .ret)))
 (.seq (.region 0 [.M 13 31])
 (.seq (.region 0 [.C 6 (.bool false)])
 .ret)))))))))))
def f_errors_is : EF := ⟨[0, 1, 2], [.tmp 6], (.seq (.region 0 [.C 6 (.bool false)])
 (.block 0 (.loop [0, 1, 2] [6] errors_is_b2)))⟩
def f_fault_Fault_Is : EF := ⟨[0, 1], [.tmp 4], (.seq (.region 0 [.C 4 (.bool false)])
 (.seq (.region 0 [.M 8 1,
 .o 9 (.tasC ty_plain (.int .i64 0)) [.t 8],
 .M 7 9,
 .o 10 (.ext 0) [.t 7],
 .o 11 (.ext 1) [.t 7],
 .M 5 10,
 .M 6 11])
 (.seq (.region 0 [.M 12 0,
 .o 13 (.eqP true) [.t 12, .k (.nilp)],
 .M 14 13,
 .g 14 true 15 (.mov) [.t 6],
 .o 16 .pick [.t 14, .t 15, .k (.bool false)],
 .M 17 16,
 .g 17 true 18 (.mov) [.t 5],
 .g 17 true 19 (.mov) [.t 0],
 .g 17 true 20 (.nilck) [.t 19],
 .g 17 true 21 (.fadr 0) [.t 20],
 .g 17 true 22 (.load1) [.t 21],
 .g 17 true 23 (.binI .eql) [.t 18, .t 22],
 .o 24 .pick [.t 17, .t 23, .k (.bool false)],
 .M 4 24])
 .ret)))⟩
def f_fault_Fault_Unwrap : EF := ⟨[0], [.tmp 2], (.seq (.region 0 [.C 2 (.nili)])
 (.seq (.seq (.region 0 [.M 3 0,
 .o 4 (.eqP false) [.t 3, .k (.nilp)]])
 (.cond (.t 4) (.seq (.region 0 [.C 2 (.nili)])
 .ret)
 .skip))
 (.seq (.region 0 [.M 5 0,
 .o 6 .nilck [.t 5],
 .o 7 (.fadr 2) [.t 6],
 .o 8 .load1 [.t 7],
 .M 2 8])
 .ret)))⟩
def f_fault_plain_Error : EF := ⟨[0], [.tmp 2], (.seq (.region 0 [.C 2 (.str [])])
 (.seq (.region 0 [.M 3 0,
 .o 4 (.callc strconv_Itoa) [.t 3],
 .o 5 (.binS .add) [.k (.str [101, 114, 114, 111, 114, 32]), .t 4],
 .M 2 5])
 .ret))⟩
end Go.Ev.Code
