/- A part of the proof of priceFalls_card, riskSigns_card, yieldBack_card, yieldEdge_card, yieldFalls_card. -/
import Derived.Test.YtnokhmkkpcfilabGreatDoorCCodeA
set_option linter.unusedVariables false
namespace Go.Ev.Code
open Go.Ev
def Xm : EF := ⟨[], [.tmp 0], (.seq (.region 0 [.C 0 (.bool false)])
 (.seq (.region 0 [.o 3 (.ah gW) [.ki 4, .k (.str [98])],
 .o 4 (.ah Js) [.k (.str [97]), 3],
 .M 1 4])
 (.seq (.region 0 [.M 5 1,
 .o 6 (.ah uI) [5],
 .M 2 6])
 (.seq (.seq (.region 0 [.M 7 1,
 .o 8 (.eqN false true) [7, .k .aF],
 .M 9 8,
 .g 9 false 10 .aX [2],
 .g 9 false 11 .dh [10],
 .g 9 false 12 (.aj .neq) [11, .ki 2],
 .o 13 .pick [9, .kb true, 12]])
 (.cond (.t 13) (.seq (.region 0 [.C 0 (.bool false)])
 .ret)
 .skip))
 (.seq (.region 0 [.M 14 2,
 .o 15 (.bM 1) [14, .ki 0],
 .o 16 .aC [15],
 .o 17 (.fB .eql) [16, .k (.str [97])],
 .M 18 17,
 .g 18 true 19 .aX [2],
 .g 18 true 20 (.bM 1) [19, .ki 1],
 .g 18 true 21 .aC [20],
 .g 18 true 22 (.fB .eql) [21, .k (.str [98])],
 .o 23 .pick [18, 22, .kb false],
 .M 24 23,
 .g 24 true 25 .aX [1],
 .g 24 true 26 (.ah iG) [25],
 .g 24 true 27 (.aj .eql) [26, .ki 4],
 .o 28 .pick [24, 27, .kb false],
 .M 29 28,
 .g 29 true 30 .aX [1],
 .g 29 true 31 (.Jv [(jO, oW), (kK, kH)]) [30],
 .g 29 true 32 (.fB .eql) [31, .k (.str [97, 58, 32, 98, 58, 32, 101, 114, 114, 111, 114, 32, 52])],
 .o 33 .pick [29, 32, .kb false],
 .M 34 33,
 .g 34 true 35 .aX [1],
 .g 34 true 36 (.ah cZ) [.ki 4],
 .g 34 true 37 (.ah IK) [35, 36],
 .o 38 .pick [34, 37, .kb false],
 .M 39 38,
 .g 39 true 40 .aX [1],
 .g 39 true 41 (.ah cZ) [.ki 1],
 .g 39 true 42 (.ah IK) [40, 41],
 .g 39 true 43 .not [42],
 .o 44 .pick [39, 43, .kb false],
 .M 45 44,
 .g 45 true 46 (.ah cZ) [.ki 0],
 .g 45 true 47 (.eqN false true) [46, .k .aF],
 .o 48 .pick [45, 47, .kb false],
 .M 49 48,
 .g 49 true 50 (.ah cZ) [.ki 3],
 .g 49 true 51 (.ah cZ) [.ki 3],
 .g 49 true 52 (.eqF false [kK]) [50, 51],
 .o 53 .pick [49, 52, .kb false],
 .M 0 53])
 .ret)))))⟩
def abK : EF := ⟨[0], [.tmp 2], (.seq (.region 0 [.C 2 (.int .i64 0)])
 (.seq (.region 0 [.M 4 0,
 .o 5 (.ah dD) [4],
 .M 3 5])
 (.seq (.seq (.region 0 [.M 6 3,
 .o 7 .dh [6],
 .o 8 (.aj .eql) [7, .ki 0]])
 (.cond (.t 8) (.seq (.region 0 [.C 2 (.int .i64 0)])
 .ret)
 .skip))
 (.seq (.region 0 [.M 9 3,
 .o 10 .dh [9],
 .o 11 (.aj .mul) [.ki 64, 10],
 .M 12 3,
 .M 13 3,
 .o 14 .dh [13],
 .o 15 (.aj .sub) [14, .ki 1],
 .o 16 (.bM 1) [12, 15],
 .o 17 .aC [16],
 .o 18 (.ah bits_LeadingZeros64) [17],
 .o 19 (.aj .sub) [11, 18],
 .M 2 19])
 .ret))))⟩
def abJ : EF := ⟨[0], [.tmp 2, .tmp 3], (.seq (.region 0 [.C 2 (.int .u64 0),
 .C 3 (.bool false)])
 (.seq (.seq (.region 0 [.M 5 0,
 .o 6 (.ah dD) [5],
 .M 4 6])
 (.seq (.region 0 [.M 7 4,
 .o 8 .dh [7]])
 (.block 0 (.seq (.region 0 [.o 10 (.aj .eql) [8, .ki 0],
 .M 9 10])
 (.cond (.t 9) (.seq (.region 0 [.C 2 (.int .u64 0),
 .C 3 (.bool true)])
 .ret)
 (.seq (.region 0 [.o 12 (.aj .eql) [8, .ki 1],
 .M 11 12])
 (.cond (.t 11) (.seq (.region 0 [.M 13 4,
 .o 14 (.bM 1) [13, .ki 0],
 .o 15 .aC [14],
 .M 2 15,
 .C 3 (.bool true)])
 .ret)
 .skip)))))))
 (.seq (.region 0 [.C 2 (.int .u64 0),
 .C 3 (.bool false)])
 .ret)))⟩
def ahB : EF := ⟨[0, 1], [.tmp 4], (.seq (.region 0 [.C 4 .aF])
 (.seq (.seq (.region 0 [.M 5 1,
 .o 6 (.eqN false true) [5, .k .aF]])
 (.cond (.t 6) (.seq (.region 0 [.C 4 .aF])
 .ret)
 .skip))
 (.seq (.region 1 [.M 7 1,
 .o 8 (.ah iG) [7],
 .M 9 0,
 .M 10 1,
 .o 11 (.build [.int .i64 0, .str [], .aF] [(0, 1), (1, 1), (2, 1)]) [8, 9, 10],
 .o 12 (.box 0) [11],
 .o 13 (.VL jO) [12],
 .M 4 13])
 .ret)))⟩
def UN : EC := (.seq (.seq (.region 0 [.M 6 0,
 .o 7 (.eqN true true) [6, .k .aF]])
 (.cond (.t 7) .skip
 (.exit 0)))
 (.seq (.join [0, 3] (.block 1 (.seq (.region 0 [.M 11 0,
 .o 12 (.YM jO .aK) [11],
 .M 10 12,
 .o 13 (.ext 0) [10],
 .o 14 (.ext 1) [10],
 .M 4 13,
 .M 5 14])
 (.seq (.region 0 [.M 15 5,
 .M 16 15,
 .g 16 true 17 .aX [4],
 .g 16 true 18 (.vI true) [17, .k .aK],
 .o 19 .pick [16, 18, .kb false],
 .M 20 19,
 .g 20 true 21 .aX [4],
 .g 20 true 22 .nR [21],
 .g 20 true 23 (.aU 1) [22],
 .g 20 true 24 .aC [23],
 .g 20 true 25 (.fB .neq) [24, .k (.str [])],
 .o 26 .pick [20, 25, .kb false]])
 (.join [0, 3] (.cond (.t 26) (.region 1 [.M 27 3,
 .M 28 4,
 .o 29 .nR [28],
 .o 30 (.aU 1) [29],
 .o 31 .aC [30],
 .o 32 (.Iu 1 1 [.str []] [(0, 1)]) [31],
 .o 33 (.app 0 1) [27, 32],
 .M 3 33])
 .skip))))))
 (.region 0 [.M 8 0,
 .o 9 (.ah rW) [8],
 .M 0 9])))
def ND : EF := ⟨[0], [.tmp 2], (.seq (.region 0 [.C 2 .dA])
 (.seq (.region 0 [.C 3 .dA])
 (.seq (.block 0 (.loop [0, 3] [3] UN))
 (.seq (.region 0 [.M 34 3,
 .M 2 34])
 .ret))))⟩
def ajG : EF := ⟨[0, 1], [.tmp 4], (.seq (.region 0 [.C 4 (.bool false)])
 (.seq (.seq (.region 0 [.M 6 0,
 .o 7 (.eqN false true) [6, .k .aF],
 .M 8 7,
 .g 8 false 9 .aX [1],
 .g 8 false 10 (.eqN false true) [9, .k .aF],
 .o 11 .pick [8, .kb true, 10]])
 (.cond (.t 11) (.seq (.region 0 [.M 12 0,
 .M 13 1,
 .o 14 (.eqF false [kK]) [12, 13],
 .M 4 14])
 .ret)
 .skip))
 (.seq (.region 0 [.M 15 1,
 .o 16 (.ah iI) [15],
 .o 17 (.Jv [(Ar, eP)]) [16],
 .M 5 17])
 (.seq (.region 0 [.M 18 0,
 .M 19 1,
 .M 20 5,
 .o 21 (.ah IL) [18, 19, 20],
 .M 4 21])
 .ret))))⟩
def Ji : EF := ⟨[0], [.tmp 2], (.seq (.region 0 [.C 2 .aF])
 (.seq (.region 0 [.M 6 0,
 .o 7 (.Ul [(jO, true), (kK, false), (Ar, false)]) [6],
 .M 5 7,
 .o 8 (.ext 0) [5],
 .o 9 (.ext 1) [5],
 .M 3 8,
 .M 4 9])
 (.seq (.seq (.region 0 [.M 10 4,
 .o 11 .not [10]])
 (.cond (.t 11) (.seq (.region 0 [.C 2 .aF])
 .ret)
 .skip))
 (.seq (.region 0 [.M 12 3,
 .o 13 (.Jv [(jO, iY)]) [12],
 .M 2 13])
 .ret))))⟩
def XZ : EC := (.seq (.region 0 [.o 46 (.aj .lss) [45, 44]])
 (.seq (.cond (.t 46) .skip
 (.exit 3))
 (.seq (.block 4 (.seq (.region 0 [.o 47 (.bM 1) [43, 45],
 .o 48 .aC [47],
 .M 12 48])
 (.seq (.region 0 [.M 49 12,
 .M 50 1,
 .M 51 2,
 .o 52 (.ah IL) [49, 50, 51]])
 (.cond (.t 52) (.seq (.region 0 [.C 6 (.bool true)])
 .ret)
 .skip))))
 (.region 0 [.o 53 (.aj .add) [45, .ki 1],
 .M 45 53]))))
def X4 : EC := (.block 1 (.seq (.seq (.region 0 [.M 14 2,
 .M 15 14,
 .g 15 true 16 .aX [0],
 .g 15 true 17 .aX [1],
 .g 15 true 18 (.eqF false [kK]) [16, 17],
 .o 19 .pick [15, 18, .kb false]])
 (.cond (.t 19) (.seq (.region 0 [.C 6 (.bool true)])
 .ret)
 .skip))
 (.seq (.seq (.region 0 [.M 21 0,
 .o 22 (.Ul [(jO, true), (kK, false), (Ar, false)]) [21],
 .M 20 22,
 .o 23 (.ext 0) [20],
 .o 24 (.ext 1) [20],
 .M 7 23,
 .M 8 24])
 (.seq (.region 0 [.M 25 8,
 .M 26 25,
 .g 26 true 27 .aX [7],
 .g 26 true 28 .aX [1],
 .g 26 true 29 (.Jv [(jO, y8)]) [27, 28],
 .o 30 .pick [26, 29, .kb false]])
 (.cond (.t 30) (.seq (.region 0 [.C 6 (.bool true)])
 .ret)
 .skip)))
 (.seq (.region 0 [.M 31 0])
 (.block 2 (.seq (.region 0 [.o 32 (.Ul [(jO, true), (kK, false), (Ar, false)]) [31],
 .o 33 (.ext 1) [32],
 .o 34 (.ext 0) [32]])
 (.cond (.t 33) (.seq (.region 0 [.M 9 34])
 (.seq (.region 0 [.M 35 9,
 .o 36 (.Jv [(jO, iY)]) [35],
 .M 0 36])
 (.seq (.region 0 [.M 37 0,
 .o 38 (.eqN false true) [37, .k .aF]])
 (.cond (.t 38) (.seq (.region 0 [.C 6 (.bool false)])
 .ret)
 .skip))))
 (.seq (.region 0 [.o 39 (.Ul [(jO, false), (kK, false), (Ar, false)]) [31],
 .o 40 (.ext 1) [39],
 .o 41 (.ext 0) [39]])
 (.cond (.t 40) (.seq (.region 0 [.M 10 41])
 (.seq (.seq (.region 0 [.M 42 10,
 .o 43 (.Jv [(jO, iY)]) [42],
 .o 44 .dh [43],
 .C 45 (.int .i64 0)])
 (.block 3 (.loop [1, 2, 43, 44, 45] [6] XZ)))
 (.seq (.region 0 [.C 6 (.bool false)])
 .ret)))
 (.seq (.region 0 [.M 13 31])
 (.seq (.region 0 [.C 6 (.bool false)])
 .ret)))))))))))
def ajH : EF := ⟨[0, 1, 2], [.tmp 6], (.seq (.region 0 [.C 6 (.bool false)])
 (.block 0 (.loop [0, 1, 2] [6] X4)))⟩
def aaq : EF := ⟨[0, 1], [.tmp 4], (.seq (.region 0 [.C 4 (.bool false)])
 (.seq (.region 0 [.M 8 1,
 .o 9 (.YM kK (.int .i64 0)) [8],
 .M 7 9,
 .o 10 (.ext 0) [7],
 .o 11 (.ext 1) [7],
 .M 5 10,
 .M 6 11])
 (.seq (.region 0 [.M 12 0,
 .o 13 (.vI true) [12, .k .aK],
 .M 14 13,
 .g 14 true 15 .aX [6],
 .o 16 .pick [14, 15, .kb false],
 .M 17 16,
 .g 17 true 18 .aX [5],
 .g 17 true 19 .aX [0],
 .g 17 true 20 .nR [19],
 .g 17 true 21 (.aU 0) [20],
 .g 17 true 22 .aC [21],
 .g 17 true 23 (.aj .eql) [18, 22],
 .o 24 .pick [17, 23, .kb false],
 .M 4 24])
 .ret)))⟩
def zM : EF := ⟨[0], [.tmp 2], (.seq (.region 0 [.C 2 .aF])
 (.seq (.seq (.region 0 [.M 3 0,
 .o 4 (.vI false) [3, .k .aK]])
 (.cond (.t 4) (.seq (.region 0 [.C 2 .aF])
 .ret)
 .skip))
 (.seq (.region 0 [.M 5 0,
 .o 6 .nR [5],
 .o 7 (.aU 2) [6],
 .o 8 .aC [7],
 .M 2 8])
 .ret)))⟩
def Bv : EF := ⟨[0], [.tmp 2], (.seq (.region 0 [.C 2 (.str [])])
 (.seq (.region 0 [.M 3 0,
 .o 4 (.ah strconv_Itoa) [3],
 .o 5 (.fB .add) [.k (.str [101, 114, 114, 111, 114, 32]), 4],
 .M 2 5])
 .ret))⟩
end Go.Ev.Code
