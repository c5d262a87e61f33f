/- Part of accrDay_card. -/
import Derived.Test.YtechakbhjeieaaaGreatDoorCCodeA
set_option linter.unusedVariables false
namespace Go.Ev.Code
open Go.Ev
def tC:EC:=(.seq (.region 0 [.o 36 (.aj .lss) [35,34]])
 (.seq (.cond (.t 36) .skip
 (.exit 2))
 (.seq (.block 3 (.seq (.region 0 [.M 37 35,
 .o 38 (.bF 1) [33,35],
 .o 39 .ak [38],
 .M 11 37,
 .M 12 39])
 (.seq (.region 0 [.M 41 9,
 .M 42 12,
 .o 43 (.ah bits_Mul64) [41,42],
 .M 40 43,
 .o 44 (.ext 0) [40],
 .o 45 (.ext 1) [40],
 .M 13 44,
 .M 14 45])
 (.seq (.region 0 [.C 15 (.int .u64 0)])
 (.seq (.region 0 [.M 47 14,
 .M 48 7,
 .M 49 8,
 .M 50 11,
 .o 51 (.aj .add) [49,50],
 .o 52 (.bF 1) [48,51],
 .o 53 .ak [52],
 .o 54 (.ah bits_Add64) [47,53,.k (.int .u64 0)],
 .M 46 54,
 .o 55 (.ext 0) [46],
 .o 56 (.ext 1) [46],
 .M 14 55,
 .M 15 56])
 (.seq (.region 0 [.M 57 13,
 .M 58 15,
 .o 59 (.aj .add) [57,58],
 .M 13 59])
 (.seq (.region 0 [.M 61 14,
 .M 62 10,
 .o 63 (.ah bits_Add64) [61,62,.k (.int .u64 0)],
 .M 60 63,
 .o 64 (.ext 0) [60],
 .o 65 (.ext 1) [60],
 .M 14 64,
 .M 15 65])
 (.region 0 [.M 66 7,
 .M 67 8,
 .M 68 11,
 .o 69 (.aj .add) [67,68],
 .M 70 14,
 .M 71 13,
 .M 72 15,
 .o 73 (.aj .add) [71,72],
 .o 74 (.bF 1) [66,69],
 ⟨.store 1,[74,70],none,none⟩,
 .M 10 73]))))))))
 (.region 0 [.o 75 (.aj .add) [35,.ki 1],
 .M 35 75]))))
def tH:EC:=(.seq (.region 0 [.o 29 (.aj .lss) [28,27]])
 (.seq (.cond (.t 29) .skip
 (.exit 0))
 (.seq (.block 1 (.seq (.region 0 [.M 30 28,
 .o 31 (.bF 1) [26,28],
 .o 32 .ak [31],
 .M 8 30,
 .M 9 32])
 (.seq (.region 0 [.C 10 (.int .u64 0)])
 (.seq (.seq (.region 0 [.M 33 6,
 .o 34 .bM [33],
 .C 35 (.int .i64 0)])
 (.block 2 (.loop [6,7,8,9,10,26,27,28,33,34,35] [6,7,8,10,26,27,28] tC)))
 (.region 0 [.M 76 7,
 .M 77 8,
 .M 78 6,
 .o 79 .bM [78],
 .o 80 (.aj .add) [77,79],
 .M 81 10,
 .o 82 (.bF 1) [76,80],
 ⟨.store 1,[82,81],none,none⟩])))))
 (.region 0 [.o 83 (.aj .add) [28,.ki 1],
 .M 28 83]))))
def Iu:EF:=⟨[0,1],[.tmp 4],(.seq (.region 0 [.C 4 .aY])
 (.seq (.region 0 [.M 16 0,
 .o 17 (.ah dF) [16],
 .M 18 1,
 .o 19 (.ah dF) [18],
 .M 5 17,
 .M 6 19])
 (.seq (.region 1 [.M 20 5,
 .o 21 .bM [20],
 .M 22 6,
 .o 23 .bM [22],
 .o 24 (.aj .add) [21,23],
 .o 25 (.G6 0 1 [.int .u64 0]) [24,24],
 .M 7 25])
 (.seq (.seq (.region 0 [.M 26 5,
 .o 27 .bM [26],
 .C 28 (.int .i64 0)])
 (.block 0 (.loop [6,7,26,27,28] [7] tH)))
 (.seq (.region 0 [.M 84 7,
 .o 85 (.uf gJ) [84],
 .M 4 85])
 .ret)))))⟩
def IK:EF:=⟨[0,1],[.tmp 4],(.seq (.region 0 [.C 4 .aY])
 (.seq (.region 0 [.M 5 0,
 .M 6 1,
 .o 7 (.ah qN) [6],
 .o 8 (.ah iG) [5,7],
 .M 4 8])
 .ret))⟩
def iI:EC:=(.seq (.seq (.region 0 [.M 12 7,
 .o 13 (.aC 0) [3],
 .o 14 .ak [13],
 .o 15 (.aj .gtr) [12,14]])
 (.cond (.t 15) .skip
 (.exit 0)))
 (.block 1 (.seq (.region 0 [.o 17 (.aU 9) [2],
 .M 18 7,
 .o 19 (.ah rD) [17,18],
 .M 16 19,
 .o 20 (.ext 0) [16],
 .o 21 (.ext 1) [16],
 .M 8 20,
 .M 9 21])
 (.seq (.seq (.region 0 [.M 22 9,
 .o 23 (.eqN true true) [22,.k .aK]])
 (.cond (.t 23) (.seq (.region 0 [.M 24 9,
 .C 4 .bH,
 .M 5 24])
 .ret)
 .skip))
 (.seq (.region 1 [.M 25 6,
 .M 26 8,
 .M 27 7,
 .o 28 (.build [.int .i64 0,.int .i64 0] [(0,1),(1,1)]) [26,27],
 .o 29 (.Em 2 1 [.int .i64 0,.int .i64 0] [(0,2)]) [28],
 .o 30 (.app 0 2) [25,29],
 .M 6 30])
 (.region 0 [.M 31 8,
 .M 7 31]))))))
def Ik:EF:=⟨[0,1],[.tmp 4,.tmp 5],(.seq (.region 2 [.o 2 (.box 0) [0],
 .o 3 (.box 1) [1],
 .C 4 .bH,
 .C 5 .aK])
 (.seq (.region 0 [.C 6 .bH])
 (.seq (.seq (.region 0 [.o 10 (.aC 1) [3],
 .o 11 .ak [10],
 .M 7 11])
 (.block 0 (.loop [2,3,6,7] [4,5,6] iI)))
 (.seq (.region 0 [.M 32 6,
 .M 4 32,
 .C 5 .aK])
 .ret))))⟩
def KD:EF:=⟨[0,1,2,3,4,5],[.tmp 12,.tmp 13],(.seq (.region 0 [.C 12 .aY,
 .C 13 .aK])
 (.seq (.region 0 [.C 14 (.func xY [])])
 (.seq (.block 0 (.seq (.region 0 [.M 21 0,
 .o 22 (.ah zq) [21],
 .o 23 .not [22],
 .M 20 23])
 (.cond (.t 20) (.seq (.region 0 [.o 24 (.ah dB) [.ki 1],
 .C 12 .aY,
 .M 13 24])
 .ret)
 (.seq (.region 0 [.M 26 14,
 .M 27 1,
 .o 28 .FW [26,27],
 .o 29 .not [28],
 .M 30 29,
 .g 30 false 31 .aT [14],
 .g 30 false 32 .aT [2],
 .g 30 false 33 .FW [31,32],
 .g 30 false 34 .not [33],
 .o 35 .pick [30,.kb true,34],
 .M 36 35,
 .g 36 false 37 .aT [2],
 .g 36 false 38 .aT [1],
 .g 36 false 39 (.aj .lss) [37,38],
 .o 40 .pick [36,.kb true,39],
 .M 41 40,
 .g 41 false 42 .aT [0],
 .g 41 false 43 (.aj .eql) [42,.ki 4],
 .g 41 false 44 .aT [43],
 .g 44 true 45 .aT [14],
 .g 44 true 46 .aT [3],
 .g 44 true 47 .FW [45,46],
 .g 44 true 48 .not [47],
 .g 44 true 49 .aT [48],
 .g 49 false 50 .aT [14],
 .g 49 false 51 .aT [4],
 .g 49 false 52 .FW [50,51],
 .g 49 false 53 .not [52],
 .g 44 true 54 .pick [49,.kb true,53],
 .g 41 false 55 .pick [44,54,.kb false],
 .o 56 .pick [41,.kb true,55],
 .M 25 56])
 (.cond (.t 25) (.seq (.region 0 [.o 57 (.ah dB) [.ki 4],
 .C 12 .aY,
 .M 13 57])
 .ret)
 (.seq (.region 0 [.M 59 0,
 .o 60 (.aj .eql) [59,.ki 4],
 .M 61 60,
 .g 61 true 62 .aT [3],
 .g 61 true 63 .aT [4],
 .g 61 true 64 (.aj .geq) [62,63],
 .g 61 true 65 .aT [64],
 .g 65 false 66 .aT [5],
 .g 65 false 67 (.aj .lss) [66,.ki 1],
 .g 61 true 68 .pick [65,.kb true,67],
 .o 69 .pick [61,68,.kb false],
 .M 58 69])
 (.cond (.t 58) (.seq (.region 0 [.o 70 (.ah dB) [.ki 2],
 .C 12 .aY,
 .M 13 70])
 .ret)
 .skip)))))))
 (.seq (.region 0 [.C 15 (.int .i64 360)])
 (.seq (.seq (.region 0 [.M 71 0])
 (.join [0,1,2,5,15] (.block 1 (.seq (.region 0 [.o 73 (.aj .eql) [71,.ki 3],
 .M 72 73])
 (.join [0,1,2,5,15] (.cond (.t 72) (.region 0 [.C 15 (.int .i64 365)])
 (.seq (.region 0 [.o 75 (.aj .eql) [71,.ki 4],
 .M 74 75])
 (.join [0,1,2,5,15] (.cond (.t 74) (.region 0 [.M 76 4,
 .M 77 3,
 .o 78 (.aj .sub) [76,77],
 .M 15 78])
 .skip)))))))))
 (.seq (.region 0 [.M 80 0,
 .M 81 1,
 .M 82 2,
 .o 83 (.ah Cj) [80,81,82],
 .M 84 15,
 .o 85 (.ah lV) [83,84],
 .M 79 85,
 .o 86 (.ext 0) [79],
 .o 87 (.ext 1) [79],
 .M 16 86,
 .M 17 87])
 (.seq (.seq (.region 0 [.M 88 17,
 .o 89 (.eqN true true) [88,.k .aK],
 .M 90 89,
 .g 90 false 91 .aT [0],
 .g 90 false 92 (.aj .neq) [91,.ki 4],
 .o 93 .pick [90,.kb true,92]])
 (.cond (.t 93) (.seq (.region 0 [.M 94 16,
 .M 95 17,
 .M 12 94,
 .M 13 95])
 .ret)
 .skip))
 (.seq (.region 0 [.M 97 5,
 .o 98 (.ah lV) [97,.ki 1],
 .M 96 98,
 .o 99 (.ext 0) [96],
 .o 100 (.ext 1) [96],
 .M 18 99,
 .M 19 100])
 (.seq (.region 0 [.M 101 16,
 .M 102 18,
 .o 103 (.ah qO) [101,102],
 .o 104 (.ext 0) [103],
 .o 105 (.ext 1) [103],
 .M 12 104,
 .M 13 105])
 .ret)))))))))⟩
def KI:EF:=⟨[0,1],[.tmp 4,.tmp 5],(.seq (.region 1 [.o 2 (.box 0) [0],
 .C 4 (.int .i64 0),
 .C 5 .aK])
 (.seq (.seq (.region 0 [.o 10 (.aU 9) [2],
 .o 11 (.ah nV) [10],
 .M 6 11])
 (.seq (.region 0 [.M 12 6,
 .o 13 (.eqN true true) [12,.k .aK]])
 (.cond (.t 13) (.seq (.region 0 [.M 14 6,
 .C 4 (.int .i64 0),
 .M 5 14])
 .ret)
 .skip)))
 (.seq (.region 0 [.o 16 (.aU 9) [2],
 .M 17 1,
 .o 18 (.ah C9) [16,17],
 .M 15 18,
 .o 19 (.ext 0) [15],
 .o 20 (.ext 1) [15],
 .M 7 19,
 .M 8 20])
 (.seq (.seq (.region 0 [.M 21 8,
 .o 22 .not [21],
 .M 23 22,
 .g 23 false 24 .aT [1],
 .g 23 false 25 (.aC 0) [2],
 .g 23 false 26 .ak [25],
 .g 23 false 27 (.aj .leq) [24,26],
 .o 28 .pick [23,.kb true,27]])
 (.cond (.t 28) (.seq (.region 0 [.o 29 (.ah dB) [.ki 4],
 .C 4 (.int .i64 0),
 .M 5 29])
 .ret)
 .skip))
 (.seq (.region 0 [.o 31 (.aU 9) [2],
 .M 32 7,
 .o 33 (.aj .add) [32,.ki 1],
 .o 34 (.ah uF) [31,33],
 .M 30 34,
 .o 35 (.ext 0) [30],
 .o 36 (.ext 1) [30],
 .M 9 35,
 .M 8 36])
 (.seq (.seq (.region 0 [.M 37 8,
 .o 38 .not [37]])
 (.cond (.t 38) (.seq (.region 0 [.o 39 (.ah dB) [.ki 4],
 .C 4 (.int .i64 0),
 .M 5 39])
 .ret)
 .skip))
 (.seq (.region 0 [.M 40 9,
 .M 4 40,
 .C 5 .aK])
 .ret)))))))⟩
def P6:EF:=⟨[0,1],[.tmp 4],(.seq (.region 0 [.C 4 .aY])
 (.seq (.region 0 [.M 8 0,
 .M 9 1,
 .o 10 (.ah rP) [8,9],
 .M 7 10,
 .o 11 (.ext 0) [7],
 .o 12 (.ext 1) [7],
 .M 5 11,
 .M 6 12])
 (.seq (.region 0 [.M 13 5,
 .M 4 13])
 .ret)))⟩
def iU:EC:=(.seq (.block 1 (.seq (.region 0 [.o 11 (.aU 9) [2],
 .M 12 5,
 .o 13 (.ah iQ) [11,12],
 .M 10 13,
 .o 14 (.ext 0) [10],
 .o 15 (.ext 1) [10],
 .M 6 14,
 .M 7 15])
 (.seq (.seq (.region 0 [.M 16 7,
 .o 17 .not [16],
 .M 18 17,
 .g 18 false 19 .aT [6],
 .g 18 false 20 .aT [1],
 .g 18 false 21 (.aj .lss) [19,20],
 .o 22 .pick [18,.kb true,21]])
 (.cond (.t 22) (.seq (.region 0 [.C 4 (.int .i64 (-1))])
 .ret)
 .skip))
 (.seq (.region 0 [.M 23 6,
 .M 24 1,
 .o 25 (.aj .eql) [23,24]])
 (.cond (.t 25) (.seq (.region 0 [.M 26 5,
 .M 4 26])
 .ret)
 .skip)))))
 (.region 0 [.M 8 5,
 .o 9 (.aj .add) [8,.ki 1],
 .M 5 9]))
def wQ:EF:=⟨[0,1],[.tmp 4],(.seq (.region 1 [.o 2 (.box 0) [0],
 .C 4 (.int .i64 0)])
 (.seq (.region 0 [.C 5 (.int .i64 0)])
 (.block 0 (.loop [1,2,5] [4] iU))))⟩
def lT:EC:=(.seq (.seq (.region 0 [.M 10 4,
 .o 11 .bM [10],
 .o 12 (.aj .gtr) [11,.ki 0]])
 (.cond (.t 12) .skip
 (.exit 0)))
 (.join [3,4] (.block 1 (.seq (.region 0 [.C 5 (.int .u64 0)])
 (.seq (.region 0 [.M 14 4,
 .o 15 (.uf zW) [14,.k (.int .u64 1000000000000000000)],
 .M 13 15,
 .o 16 (.ext 0) [13],
 .o 17 (.ext 1) [13],
 .M 4 16,
 .M 5 17])
 (.seq (.region 0 [.M 18 4,
 .o 19 (.uf gJ) [18],
 .o 20 .qG [19],
 .o 21 (.aC 0) [20],
 .o 22 .ak [21],
 .M 4 22])
 (.seq (.region 0 [.M 23 5,
 .o 24 (.ah gX) [23,.ki 10],
 .M 6 24])
 (.seq (.seq (.region 0 [.M 25 4,
 .o 26 .bM [25],
 .o 27 (.aj .gtr) [26,.ki 0]])
 (.join [3,4,6] (.cond (.t 27) (.region 0 [.M 28 6,
 .o 29 .qY [28],
 .o 30 (.aj .sub) [.ki 18,29],
 .o 31 (.ah strings_Repeat) [.k (.str [48]),30],
 .M 32 6,
 .o 33 (.gq .add) [31,32],
 .M 6 33])
 .skip)))
 (.region 1 [.M 34 3,
 .M 35 6,
 .o 36 (.Em 1 1 [.str []] [(0,1)]) [35],
 .o 37 (.app 0 1) [34,36],
 .M 3 37])))))))))
def F7:EF:=⟨[0],[.tmp 2],(.seq (.region 0 [.C 2 (.str [])])
 (.seq (.region 0 [.C 3 .bH])
 (.seq (.seq (.region 0 [.M 7 0,
 .o 8 (.ah dF) [7],
 .o 9 (.bK dS) [8],
 .M 4 9])
 (.block 0 (.loop [3,4] [3] lT)))
 (.seq (.seq (.region 0 [.M 38 3,
 .o 39 .bM [38],
 .o 40 (.aj .eql) [39,.ki 0]])
 (.cond (.t 40) (.seq (.region 0 [.C 2 (.str [48])])
 .ret)
 .skip))
 (.seq (.region 0 [.M 41 3,
 .o 42 (.bK slices_Reverse_string) [41]])
 (.seq (.region 0 [.M 43 3,
 .o 44 (.uf strings_Join) [43,.k (.str [])],
 .M 2 44])
 .ret))))))⟩
def IL:EF:=⟨[0,1],[.tmp 4,.tmp 5],(.seq (.region 1 [.o 2 (.box 0) [0],
 .C 4 (.int .i64 0),
 .C 5 (.bool false)])
 (.seq (.drawn 0 [(0,.o 9 (.aC 1) [2]),
 (1,.o 10 .ak [9]),
 (2,.M 11 1),
 (3,.o 12 .neg [11]),
 (4,.o 13 (.aU 9) [2]),
 (5,.o 14 (.ah nN) [13]),
 (6,.o 15 (.aj .mul) [12,14]),
 (7,.o 16 (.aC 7) [2]),
 (8,.o 17 .ak [16]),
 (9,.o 18 (.ah qo) [10,15,17]),
 (10,.M 8 18),
 (11,.o 19 (.ext 0) [8]),
 (12,.o 20 (.ext 1) [8]),
 (13,.M 6 19),
 (14,.M 7 20)])
 (.seq (.drawn 0 [(0,.M 21 6),
 (1,.M 22 7),
 (2,.o 23 (.eqN false true) [22,.k .aK]),
 (3,.M 4 21),
 (4,.M 5 23)])
 .ret)))⟩
def apd:EF:=⟨[0],[.tmp 2,.tmp 3],(.seq (.region 0 [.C 2 .aY,
 .C 3 .aK])
 (.seq (.region 0 [.M 14 0,
 .o 15 (.ah strings_Cut) [14,.k (.str [47])],
 .M 13 15,
 .o 16 (.ext 0) [13],
 .o 17 (.ext 1) [13],
 .o 18 (.ext 2) [13],
 .M 4 16,
 .M 5 17,
 .M 6 18])
 (.seq (.seq (.region 0 [.M 19 6,
 .o 20 .not [19]])
 (.join [0,4,5] (.cond (.t 20) (.region 0 [.C 5 (.str [49])])
 .skip)))
 (.seq (.region 0 [.M 22 4,
 .o 23 (.ah Wv) [22],
 .M 21 23,
 .o 24 (.ext 0) [21],
 .o 25 (.ext 1) [21],
 .M 7 24,
 .M 8 25])
 (.seq (.region 0 [.M 27 5,
 .o 28 (.ah oU) [27],
 .M 26 28,
 .o 29 (.ext 0) [26],
 .o 30 (.ext 1) [26],
 .M 9 29,
 .M 10 30])
 (.seq (.seq (.region 0 [.M 31 8,
 .o 32 (.eqN true true) [31,.k .aK],
 .M 33 32,
 .g 33 false 34 .aT [10],
 .g 33 false 35 (.eqN true true) [34,.k .aK],
 .o 36 .pick [33,.kb true,35],
 .M 37 36,
 .g 37 false 38 .aT [9],
 .g 37 false 39 (.ah fV) [38],
 .o 40 .pick [37,.kb true,39]])
 (.cond (.t 40) (.seq (.region 0 [.o 41 (.ah dB) [.ki 1],
 .C 2 .aY,
 .M 3 41])
 .ret)
 .skip))
 (.seq (.region 0 [.M 43 7,
 .M 44 9,
 .o 45 (.ah jd) [.kb false,44],
 .o 46 (.ah rP) [43,45],
 .M 42 46,
 .o 47 (.ext 0) [42],
 .o 48 (.ext 1) [42],
 .M 11 47,
 .M 12 48])
 (.seq (.seq (.region 0 [.M 49 11,
 .o 50 (.ah gK) [49],
 .M 51 0,
 .o 52 (.gq .neq) [50,51]])
 (.cond (.t 52) (.seq (.region 0 [.o 53 (.ah dB) [.ki 1],
 .C 2 .aY,
 .M 3 53])
 .ret)
 .skip))
 (.seq (.region 0 [.M 54 11,
 .M 2 54,
 .C 3 .aK])
 .ret)))))))))⟩
def Xo:EF:=⟨[0],[.tmp 2],(.seq (.region 0 [.C 2 .aY])
 (.seq (.region 0 [.M 3 0,
 .o 4 (.Em 1 1 [.int .u64 0] [(0,1)]) [3],
 .o 5 (.ah gJ) [4],
 .M 2 5])
 .ret))⟩
def qp:EC:=(.seq (.region 0 [.o 29 (.aj .lss) [28,27]])
 (.seq (.cond (.t 29) .skip
 (.exit 0))
 (.seq (.join [5,6,7,8,27,28] (.block 1 (.seq (.region 0 [.M 30 28,
 .M 9 30])
 (.seq (.region 0 [.C 10 (.int .u64 0)])
 (.seq (.seq (.region 0 [.M 31 9,
 .M 32 6,
 .o 33 .bM [32],
 .o 34 (.aj .lss) [31,33]])
 (.join [5,6,7,8,9,10,27,28] (.cond (.t 34) (.region 0 [.M 35 6,
 .M 36 9,
 .o 37 (.bF 1) [35,36],
 .o 38 .ak [37],
 .M 10 38])
 .skip)))
 (.region 0 [.M 40 7,
 .M 41 9,
 .M 42 5,
 .M 43 9,
 .o 44 (.bF 1) [42,43],
 .o 45 .ak [44],
 .M 46 10,
 .M 47 8,
 .o 48 (.ah bits_Add64) [45,46,47],
 .M 39 48,
 .o 49 (.ext 0) [39],
 .o 50 (.ext 1) [39],
 .o 51 (.bF 1) [40,41],
 ⟨.store 1,[51,49],none,none⟩,
 .M 8 50]))))))
 (.region 0 [.o 52 (.aj .add) [28,.ki 1],
 .M 28 52]))))
def Io:EF:=⟨[0,1],[.tmp 4],(.seq (.region 0 [.C 4 .aY])
 (.seq (.region 0 [.M 11 0,
 .o 12 (.ah dF) [11],
 .M 13 1,
 .o 14 (.ah dF) [13],
 .M 5 12,
 .M 6 14])
 (.seq (.seq (.region 0 [.M 15 5,
 .o 16 .bM [15],
 .M 17 6,
 .o 18 .bM [17],
 .o 19 (.aj .lss) [16,18]])
 (.join [5,6] (.cond (.t 19) (.region 0 [.M 20 6,
 .M 21 5,
 .M 5 20,
 .M 6 21])
 .skip)))
 (.seq (.region 1 [.M 22 5,
 .o 23 .bM [22],
 .o 24 (.aj .add) [23,.ki 1],
 .o 25 (.G6 0 1 [.int .u64 0]) [24,24],
 .M 7 25])
 (.seq (.region 0 [.C 8 (.int .u64 0)])
 (.seq (.seq (.region 0 [.M 26 5,
 .o 27 .bM [26],
 .C 28 (.int .i64 0)])
 (.block 0 (.loop [5,6,7,8,27,28] [5,7,8] qp)))
 (.seq (.region 0 [.M 53 7,
 .M 54 5,
 .o 55 .bM [54],
 .M 56 8,
 .o 57 (.bF 1) [53,55],
 ⟨.store 1,[57,56],none,none⟩])
 (.seq (.region 0 [.M 58 7,
 .o 59 (.uf gJ) [58],
 .M 4 59])
 .ret))))))))⟩
def Ip:EF:=⟨[0,1],[.tmp 4],(.seq (.region 0 [.C 4 (.int .i64 0)])
 (.seq (.region 0 [.M 5 0,
 .o 6 (.ah dF) [5],
 .M 7 1,
 .o 8 (.ah dF) [7],
 .o 9 (.ah o7) [6,8],
 .M 4 9])
 .ret))⟩
def tJ:EC:=(.seq (.region 0 [.o 27 (.aj .lss) [26,25]])
 (.seq (.cond (.t 27) .skip
 (.exit 0))
 (.seq (.join [6,7,8,9,25,26] (.block 1 (.seq (.region 0 [.M 28 26,
 .M 10 28])
 (.seq (.region 0 [.C 11 (.int .u64 0)])
 (.seq (.seq (.region 0 [.M 29 10,
 .M 30 7,
 .o 31 .bM [30],
 .o 32 (.aj .lss) [29,31]])
 (.join [6,7,8,9,10,11,25,26] (.cond (.t 32) (.region 0 [.M 33 7,
 .M 34 10,
 .o 35 (.bF 1) [33,34],
 .o 36 .ak [35],
 .M 11 36])
 .skip)))
 (.region 0 [.M 38 8,
 .M 39 10,
 .M 40 6,
 .M 41 10,
 .o 42 (.bF 1) [40,41],
 .o 43 .ak [42],
 .M 44 11,
 .M 45 9,
 .o 46 (.ah bits_Sub64) [43,44,45],
 .M 37 46,
 .o 47 (.ext 0) [37],
 .o 48 (.ext 1) [37],
 .o 49 (.bF 1) [38,39],
 ⟨.store 1,[49,47],none,none⟩,
 .M 9 48]))))))
 (.region 0 [.o 50 (.aj .add) [26,.ki 1],
 .M 26 50]))))
def Iy:EF:=⟨[0,1],[.tmp 4,.tmp 5],(.seq (.region 0 [.C 4 .aY,
 .C 5 .aK])
 (.seq (.region 0 [.M 12 0,
 .o 13 (.ah dF) [12],
 .M 14 1,
 .o 15 (.ah dF) [14],
 .M 6 13,
 .M 7 15])
 (.seq (.seq (.region 0 [.M 16 6,
 .M 17 7,
 .o 18 (.ah o7) [16,17],
 .o 19 (.aj .lss) [18,.ki 0]])
 (.cond (.t 19) (.seq (.region 0 [.o 20 (.ah dB) [.ki 2],
 .C 4 .aY,
 .M 5 20])
 .ret)
 .skip))
 (.seq (.region 1 [.M 21 6,
 .o 22 .bM [21],
 .o 23 (.G6 0 1 [.int .u64 0]) [22,22],
 .M 8 23])
 (.seq (.region 0 [.C 9 (.int .u64 0)])
 (.seq (.seq (.region 0 [.M 24 6,
 .o 25 .bM [24],
 .C 26 (.int .i64 0)])
 (.block 0 (.loop [6,7,8,9,25,26] [8] tJ)))
 (.seq (.region 0 [.M 51 8,
 .o 52 (.uf gJ) [51],
 .M 4 52,
 .C 5 .aK])
 .ret)))))))⟩
def UG:EC:=(.seq (.region 0 [.o 21 (.aj .lss) [20,19]])
 (.seq (.cond (.t 21) .skip
 (.exit 0))
 (.seq (.block 1 (.seq (.region 0 [.o 22 (.bF 1) [18,20],
 .o 23 .ak [22],
 .M 6 23])
 (.seq (.region 0 [.M 24 4,
 .o 25 (.ah bW) [24],
 .M 26 6,
 .o 27 (.ah dh) [26],
 .o 28 (.ah bW) [27],
 .o 29 (.ah qK) [25,28],
 .o 30 (.ah jd) [.kb false,29],
 .M 7 30])
 (.seq (.region 0 [.M 32 6,
 .o 33 (.ah dh) [32],
 .M 34 7,
 .o 35 (.ah Az) [33,34],
 .M 31 35,
 .o 36 (.ext 0) [31],
 .o 37 (.ext 1) [31],
 .o 38 (.ext 2) [31],
 .M 8 36,
 .M 9 37,
 .M 10 38])
 (.region 0 [.M 39 4,
 .M 40 8,
 .o 41 (.ah bZ) [39,40],
 .M 4 41])))))
 (.region 0 [.o 42 (.aj .add) [20,.ki 1],
 .M 20 42]))))
def UH:EC:=(.seq (.region 0 [.o 46 (.aj .lss) [45,44]])
 (.seq (.cond (.t 46) .skip
 (.exit 2))
 (.seq (.block 3 (.seq (.region 0 [.o 47 (.bF 1) [43,45],
 .o 48 .ak [47],
 .M 13 48])
 (.seq (.region 0 [.M 50 4,
 .M 51 13,
 .o 52 (.ah dh) [51],
 .o 53 (.ah Az) [50,52],
 .M 49 53,
 .o 54 (.ext 0) [49],
 .o 55 (.ext 1) [49],
 .o 56 (.ext 2) [49],
 .M 14 54,
 .M 15 55,
 .M 16 56])
 (.region 1 [.M 57 11,
 .M 58 13,
 .o 59 (.ah dI) [58],
 .M 60 14,
 .o 61 (.ah bZ) [59,60],
 .o 62 (.Em 1 1 [.aY] [(0,1)]) [61],
 .o 63 (.app 0 1) [57,62],
 .M 11 63]))))
 (.region 0 [.o 64 (.aj .add) [45,.ki 1],
 .M 45 64]))))
def ae6:EF:=⟨[0],[.tmp 2,.tmp 3],(.seq (.region 0 [.C 2 .bH,
 .C 3 .aY])
 (.seq (.region 0 [.o 17 (.ah jT) [.ki 1],
 .M 4 17])
 (.seq (.seq (.region 0 [.M 18 0,
 .o 19 .bM [18],
 .C 20 (.int .i64 0)])
 (.block 0 (.loop [0,4,18,19,20] [0,4] UG)))
 (.seq (.region 0 [.C 11 .bH])
 (.seq (.seq (.region 0 [.M 43 0,
 .o 44 .bM [43],
 .C 45 (.int .i64 0)])
 (.block 2 (.loop [4,11,43,44,45] [4,11] UH)))
 (.seq (.region 0 [.M 65 11,
 .M 66 4,
 .M 2 65,
 .M 3 66])
 .ret))))))⟩
def Ir:EF:=⟨[0,1],[.tmp 4],(.seq (.region 0 [.C 4 .aY])
 (.seq (.seq (.region 0 [.M 8 0,
 .M 9 1,
 .o 10 (.ah lg) [8,9],
 .o 11 (.aj .lss) [10,.ki 0]])
 (.join [0,1] (.cond (.t 11) (.region 0 [.M 12 1,
 .M 13 0,
 .M 0 12,
 .M 1 13])
 .skip)))
 (.seq (.seq (.region 0 [.M 14 1,
 .o 15 (.ah fV) [14]])
 (.cond (.t 15) (.seq (.region 0 [.M 16 0,
 .o 17 (.ah dF) [16],
 .o 18 (.ah gJ) [17],
 .M 4 18])
 .ret)
 .skip))
 (.seq (.region 0 [.M 20 0,
 .M 21 1,
 .o 22 (.ah jy) [20,21],
 .M 19 22,
 .o 23 (.ext 0) [19],
 .o 24 (.ext 1) [19],
 .o 25 (.ext 2) [19],
 .M 5 23,
 .M 6 24,
 .M 7 25])
 (.seq (.seq (.region 0 [.M 26 6,
 .o 27 (.ah fV) [26]])
 (.cond (.t 27) (.seq (.region 0 [.M 28 1,
 .o 29 (.ah dF) [28],
 .o 30 (.ah gJ) [29],
 .M 4 30])
 .ret)
 .skip))
 (.seq (.region 0 [.M 31 1,
 .o 32 (.ah dF) [31],
 .M 33 6,
 .o 34 (.ah dF) [33],
 .o 35 (.ah zU) [32,34],
 .M 4 35])
 .ret))))))⟩
def Iq:EF:=⟨[0,1],[.tmp 4,.tmp 5,.tmp 6],(.seq (.region 0 [.C 4 .aY,
 .C 5 .aY,
 .C 6 .aK])
 (.seq (.region 0 [.M 13 0,
 .o 14 (.ah dF) [13],
 .M 15 1,
 .o 16 (.ah dF) [15],
 .M 7 14,
 .M 8 16])
 (.seq (.block 0 (.seq (.region 0 [.M 18 8,
 .o 19 .bM [18],
 .o 20 (.aj .eql) [19,.ki 0],
 .M 17 20])
 (.cond (.t 17) (.seq (.region 0 [.o 21 (.ah dB) [.ki 3],
 .C 4 .aY,
 .C 5 .aY,
 .M 6 21])
 .ret)
 (.seq (.region 0 [.M 23 7,
 .M 24 8,
 .o 25 (.ah o7) [23,24],
 .o 26 (.aj .lss) [25,.ki 0],
 .M 22 26])
 (.cond (.t 22) (.seq (.region 0 [.o 27 (.ah ji) [.k (.int .u64 0)],
 .M 28 7,
 .o 29 (.ah gJ) [28],
 .M 4 27,
 .M 5 29,
 .C 6 .aK])
 .ret)
 (.seq (.region 0 [.M 31 8,
 .o 32 .bM [31],
 .o 33 (.aj .eql) [32,.ki 1],
 .M 30 33])
 (.cond (.t 30) (.seq (.region 0 [.M 35 7,
 .M 36 8,
 .o 37 (.bF 1) [36,.ki 0],
 .o 38 .ak [37],
 .o 39 (.ah zW) [35,38],
 .M 34 39,
 .o 40 (.ext 0) [34],
 .o 41 (.ext 1) [34],
 .M 9 40,
 .M 10 41])
 (.seq (.region 0 [.M 42 9,
 .o 43 (.ah gJ) [42],
 .M 44 10,
 .o 45 (.ah ji) [44],
 .M 4 43,
 .M 5 45,
 .C 6 .aK])
 .ret))
 .skip)))))))
 (.seq (.region 0 [.M 47 7,
 .M 48 8,
 .o 49 (.ah Jq) [47,48],
 .M 46 49,
 .o 50 (.ext 0) [46],
 .o 51 (.ext 1) [46],
 .M 11 50,
 .M 12 51])
 (.seq (.region 0 [.M 52 11,
 .o 53 (.ah gJ) [52],
 .M 54 12,
 .o 55 (.ah gJ) [54],
 .M 4 53,
 .M 5 55,
 .C 6 .aK])
 .ret)))))⟩
def ahV:EF:=⟨[0,1],[.tmp 4,.tmp 5,.tmp 6],(.seq (.region 0 [.C 4 .aY,
 .C 5 .aY,
 .C 6 .aK])
 (.seq (.region 0 [.M 12 0,
 .o 13 (.ah bW) [12],
 .M 14 1,
 .o 15 (.ah bW) [14],
 .o 16 (.ah jy) [13,15],
 .M 11 16,
 .o 17 (.ext 0) [11],
 .o 18 (.ext 1) [11],
 .o 19 (.ext 2) [11],
 .M 7 17,
 .M 8 18,
 .M 9 19])
 (.seq (.seq (.region 0 [.M 20 9,
 .o 21 (.eqN true true) [20,.k .aK]])
 (.cond (.t 21) (.seq (.region 0 [.M 22 9,
 .C 4 .aY,
 .C 5 .aY,
 .M 6 22])
 .ret)
 .skip))
 (.seq (.region 0 [.M 23 0,
 .o 24 (.ah dG) [23],
 .M 25 1,
 .o 26 (.ah dG) [25],
 .o 27 (.aj .mul) [24,26],
 .o 28 (.aj .lss) [27,.ki 0],
 .M 10 28])
 (.seq (.seq (.region 0 [.M 29 10,
 .M 30 29,
 .g 30 true 31 .aT [8],
 .g 30 true 32 (.ah fV) [31],
 .g 30 true 33 .not [32],
 .o 34 .pick [30,33,.kb false]])
 (.join [1,7,8,10] (.cond (.t 34) (.seq (.region 0 [.M 35 7,
 .o 36 (.ah ji) [.k (.int .u64 1)],
 .o 37 (.ah jw) [35,36],
 .M 7 37])
 (.region 0 [.M 39 1,
 .o 40 (.ah bW) [39],
 .M 41 8,
 .o 42 (.ah oZ) [40,41],
 .M 38 42,
 .o 43 (.ext 0) [38],
 .o 44 (.ext 1) [38],
 .M 8 43]))
 .skip)))
 (.seq (.region 0 [.M 45 10,
 .M 46 7,
 .o 47 (.ah jd) [45,46],
 .M 48 1,
 .o 49 (.ah dG) [48],
 .o 50 (.aj .lss) [49,.ki 0],
 .M 51 8,
 .o 52 (.ah jd) [50,51],
 .M 4 47,
 .M 5 52,
 .C 6 .aK])
 .ret))))))⟩
def CB:EC:=(.seq (.seq (.region 0 [.M 37 5,
 .o 38 (.aC 1) [1],
 .o 39 .ak [38],
 .o 40 (.aj .lss) [37,39]])
 (.cond (.t 40) .skip
 (.exit 0)))
 (.seq (.block 1 (.region 0 [.M 43 4,
 .o 44 (.aC 0) [1],
 .o 45 .ak [44],
 .M 46 5,
 .o 47 (.ah jv) [45,46],
 .o 48 (.aj .add) [43,47],
 .M 4 48]))
 (.region 0 [.M 41 5,
 .o 42 (.aj .add) [41,.ki 1],
 .M 5 42])))
def Uh:EF:=⟨[0],[.tmp 2,.tmp 3],(.seq (.region 1 [.o 1 (.box 0) [0],
 .C 2 (.int .i64 0),
 .C 3 .aK])
 (.seq (.seq (.drawn 0 [(0,.o 6 (.aC 0) [1]),
 (1,.o 7 .ak [6]),
 (2,.o 8 (.aj .lss) [7,.ki 1900]),
 (3,.M 9 8),
 (4,.g 9 false 10 (.aC 0) [1]),
 (5,.g 9 false 11 .ak [10]),
 (6,.g 9 false 12 (.aj .gtr) [11,.ki 2199]),
 (7,.o 13 .pick [9,.kb true,12]),
 (8,.M 14 13),
 (9,.g 14 false 15 (.aC 2) [1]),
 (10,.g 14 false 16 .ak [15]),
 (11,.g 14 false 17 (.aj .lss) [16,.ki 1]),
 (12,.o 18 .pick [14,.kb true,17]),
 (13,.M 19 18),
 (14,.g 19 false 20 (.aC 2) [1]),
 (15,.g 19 false 21 .ak [20]),
 (16,.g 19 false 22 (.aC 0) [1]),
 (17,.g 19 false 23 .ak [22]),
 (18,.g 19 false 24 (.aC 1) [1]),
 (19,.g 19 false 25 .ak [24]),
 (20,.g 19 false 26 (.ah jv) [23,25]),
 (21,.g 19 false 27 (.aj .gtr) [21,26]),
 (22,.o 28 .pick [19,.kb true,27])])
 (.cond (.t 28) (.seq (.region 0 [.o 29 (.ah dB) [.ki 4],
 .C 2 (.int .i64 0),
 .M 3 29])
 .ret)
 .skip))
 (.seq (.drawn 0 [(0,.o 30 (.aC 0) [1]),
 (1,.o 31 .ak [30]),
 (2,.o 32 (.ah ug) [31]),
 (3,.o 33 (.aC 2) [1]),
 (4,.o 34 .ak [33]),
 (5,.o 35 (.aj .add) [32,34]),
 (6,.o 36 (.aj .sub) [35,.ki 1]),
 (7,.M 4 36)])
 (.seq (.seq (.region 0 [.C 5 (.int .i64 1)])
 (.block 0 (.loop [1,4,5] [4] CB)))
 (.seq (.region 0 [.M 49 4,
 .M 2 49,
 .C 3 .aK])
 .ret)))))⟩
def vJ:EC:=(.seq (.seq (.region 0 [.o 15 (.aC 0) [4],
 .o 16 .ak [15],
 .o 17 (.aj .add) [16,.ki 1],
 .o 18 (.ah ug) [17],
 .M 19 0,
 .o 20 (.aj .leq) [18,19]])
 (.cond (.t 20) .skip
 (.exit 0)))
 (.block 1 (.region 0 [.o 21 (.aC 0) [4],
 .o 22 .ak [21],
 .o 23 (.aj .add) [22,.ki 1],
 .o 24 (.aC 0) [4],
 ⟨.store 1,[24,23],none,none⟩])))
def vK:EC:=(.seq (.seq (.region 0 [.M 30 5,
 .o 31 (.aC 0) [4],
 .o 32 .ak [31],
 .o 33 (.aC 1) [4],
 .o 34 .ak [33],
 .o 35 (.ah jv) [32,34],
 .o 36 (.aj .geq) [30,35]])
 (.cond (.t 36) .skip
 (.exit 2)))
 (.block 3 (.seq (.region 0 [.M 37 5,
 .o 38 (.aC 0) [4],
 .o 39 .ak [38],
 .o 40 (.aC 1) [4],
 .o 41 .ak [40],
 .o 42 (.ah jv) [39,41],
 .o 43 (.aj .sub) [37,42],
 .M 5 43])
 (.region 0 [.o 44 (.aC 1) [4],
 .o 45 .ak [44],
 .o 46 (.aj .add) [45,.ki 1],
 .o 47 (.aC 1) [4],
 ⟨.store 1,[47,46],none,none⟩]))))
def KE:EF:=⟨[0],[.cell 2 true 3,.tmp 3],(.seq (.region 1 [.o 2 (.alloc 0 [.int .i64 0,.int .i64 0,.int .i64 0]) [],
 .C 3 .aK])
 (.seq (.seq (.region 0 [.M 6 0,
 .o 7 (.ah JF) [6],
 .o 8 .not [7]])
 (.cond (.t 8) (.seq (.region 0 [.o 9 (.build [.int .i64 0,.int .i64 0,.int .i64 0] []) [],
 .o 10 (.ah dB) [.ki 4],
 ⟨.store 3,[2,9],none,none⟩,
 .M 3 10])
 .ret)
 .skip))
 (.seq (.region 1 [.M 11 0,
 .o 12 (.aj .quo) [11,.ki 366],
 .o 13 (.aj .add) [.ki 1900,12],
 .o 14 (.build [.int .i64 0,.int .i64 0,.int .i64 0] [(0,1),(1,1)]) [13,.ki 1],
 .o 4 (.alloc 0 [.int .i64 0,.int .i64 0,.int .i64 0]) [],
 ⟨.store 3,[4,14],none,none⟩])
 (.seq (.block 0 (.loop [0,2,4] [0,2,4] vJ))
 (.seq (.region 0 [.M 25 0,
 .o 26 (.aC 0) [4],
 .o 27 .ak [26],
 .o 28 (.ah ug) [27],
 .o 29 (.aj .sub) [25,28],
 .M 5 29])
 (.seq (.block 2 (.loop [2,4,5] [2,4,5] vK))
 (.seq (.region 0 [.M 48 5,
 .o 49 (.aj .add) [48,.ki 1],
 .o 50 (.aC 2) [4],
 ⟨.store 1,[50,49],none,none⟩])
 (.seq (.region 0 [.o 51 (.aU 3) [4],
 ⟨.store 3,[2,51],none,none⟩,
 .C 3 .aK])
 .ret))))))))⟩
def NH:EF:=⟨[0,1,2],[.tmp 6,.tmp 7],(.seq (.region 0 [.C 6 (.int .i64 0),
 .C 7 .aK])
 (.seq (.region 1 [.M 14 0,
 .o 15 (.ah gZ) [14],
 .M 13 15,
 .o 16 (.ext 0) [13],
 .o 17 (.ext 1) [13],
 .o 8 (.alloc 0 [.int .i64 0,.int .i64 0,.int .i64 0]) [],
 ⟨.store 3,[8,16],none,none⟩,
 .M 9 17])
 (.seq (.seq (.region 0 [.M 18 9,
 .o 19 (.eqN true true) [18,.k .aK]])
 (.cond (.t 19) (.seq (.region 0 [.M 20 9,
 .C 6 (.int .i64 0),
 .M 7 20])
 .ret)
 .skip))
 (.seq (.seq (.region 0 [.M 21 1,
 .o 22 (.aj .lss) [21,.ki (-3600)],
 .M 23 22,
 .g 23 false 24 .aT [1],
 .g 23 false 25 (.aj .gtr) [24,.ki 3600],
 .o 26 .pick [23,.kb true,25]])
 (.cond (.t 26) (.seq (.region 0 [.o 27 (.ah dB) [.ki 4],
 .C 6 (.int .i64 0),
 .M 7 27])
 .ret)
 .skip))
 (.seq (.region 0 [.o 28 (.aC 0) [8],
 .o 29 .ak [28],
 .o 30 (.aj .mul) [29,.ki 12],
 .o 31 (.aC 1) [8],
 .o 32 .ak [31],
 .o 33 (.aj .add) [30,32],
 .o 34 (.aj .sub) [33,.ki 1],
 .M 35 1,
 .o 36 (.aj .add) [34,35],
 .M 10 36])
 (.seq (.region 0 [.M 37 10,
 .o 38 (.aj .quo) [37,.ki 12],
 .M 39 10,
 .o 40 (.aj .rem) [39,.ki 12],
 .o 41 (.aj .add) [40,.ki 1],
 .M 11 38,
 .M 12 41])
 (.seq (.seq (.region 0 [.M 42 2,
 .M 43 42,
 .g 43 true 44 .aT [0],
 .g 43 true 45 (.ah wV) [44],
 .o 46 .pick [43,45,.kb false]])
 (.cond (.t 46) (.seq (.region 0 [.M 47 11,
 .M 48 12,
 .o 49 (.ah BP) [47,48],
 .o 50 (.ext 0) [49],
 .o 51 (.ext 1) [49],
 .M 6 50,
 .M 7 51])
 .ret)
 .skip))
 (.seq (.drawn 0 [(0,.M 52 11),
 (1,.M 53 12),
 (2,.o 54 (.aC 2) [8]),
 (3,.o 55 .ak [54]),
 (4,.M 56 11),
 (5,.M 57 12),
 (6,.o 58 (.ah jv) [56,57]),
 (7,.o 59 .mn [55,58]),
 (8,.o 60 (.build [.int .i64 0,.int .i64 0,.int .i64 0] [(0,1),(1,1),(2,1)]) [52,53,59]),
 (9,.o 61 (.ah xK) [60]),
 (10,.o 62 (.ext 0) [61]),
 (11,.o 63 (.ext 1) [61]),
 (12,.M 6 62),
 (13,.M 7 63)])
 .ret))))))))⟩
def adx:EF:=⟨[0],[.tmp 2,.tmp 3],(.seq (.region 0 [.C 2 (.int .i64 0),
 .C 3 .aK])
 (.seq (.seq (.region 0 [.M 17 0,
 .o 18 (.aj .lss) [17,.ki 1900],
 .M 19 18,
 .g 19 false 20 .aT [0],
 .g 19 false 21 (.aj .gtr) [20,.ki 2199],
 .o 22 .pick [19,.kb true,21]])
 (.cond (.t 22) (.seq (.region 0 [.o 23 (.ah dB) [.ki 4],
 .C 2 (.int .i64 0),
 .M 3 23])
 .ret)
 .skip))
 (.seq (.region 0 [.M 24 0,
 .o 25 (.aj .rem) [24,.ki 19],
 .M 26 0,
 .o 27 (.aj .quo) [26,.ki 100],
 .M 28 0,
 .o 29 (.aj .rem) [28,.ki 100],
 .M 4 25,
 .M 5 27,
 .M 6 29])
 (.seq (.region 0 [.M 30 5,
 .o 31 (.aj .quo) [30,.ki 4],
 .M 32 5,
 .o 33 (.aj .rem) [32,.ki 4],
 .M 7 31,
 .M 8 33])
 (.seq (.region 0 [.M 34 5,
 .o 35 (.aj .add) [34,.ki 8],
 .o 36 (.aj .quo) [35,.ki 25],
 .M 9 36])
 (.seq (.region 0 [.M 37 5,
 .M 38 9,
 .o 39 (.aj .sub) [37,38],
 .o 40 (.aj .add) [39,.ki 1],
 .o 41 (.aj .quo) [40,.ki 3],
 .M 10 41])
 (.seq (.region 0 [.M 42 4,
 .o 43 (.aj .mul) [.ki 19,42],
 .M 44 5,
 .o 45 (.aj .add) [43,44],
 .M 46 7,
 .o 47 (.aj .sub) [45,46],
 .M 48 10,
 .o 49 (.aj .sub) [47,48],
 .o 50 (.aj .add) [49,.ki 15],
 .o 51 (.aj .rem) [50,.ki 30],
 .M 11 51])
 (.seq (.region 0 [.M 52 6,
 .o 53 (.aj .quo) [52,.ki 4],
 .M 54 6,
 .o 55 (.aj .rem) [54,.ki 4],
 .M 12 53,
 .M 13 55])
 (.seq (.region 0 [.M 56 8,
 .o 57 (.aj .mul) [.ki 2,56],
 .o 58 (.aj .add) [.ki 32,57],
 .M 59 12,
 .o 60 (.aj .mul) [.ki 2,59],
 .o 61 (.aj .add) [58,60],
 .M 62 11,
 .o 63 (.aj .sub) [61,62],
 .M 64 13,
 .o 65 (.aj .sub) [63,64],
 .o 66 (.aj .rem) [65,.ki 7],
 .M 14 66])
 (.seq (.region 0 [.M 67 4,
 .M 68 11,
 .o 69 (.aj .mul) [.ki 11,68],
 .o 70 (.aj .add) [67,69],
 .M 71 14,
 .o 72 (.aj .mul) [.ki 22,71],
 .o 73 (.aj .add) [70,72],
 .o 74 (.aj .quo) [73,.ki 451],
 .M 15 74])
 (.seq (.region 0 [.M 75 11,
 .M 76 14,
 .o 77 (.aj .add) [75,76],
 .M 78 15,
 .o 79 (.aj .mul) [.ki 7,78],
 .o 80 (.aj .sub) [77,79],
 .o 81 (.aj .add) [80,.ki 114],
 .M 16 81])
 (.seq (.region 0 [.M 82 0,
 .M 83 16,
 .o 84 (.aj .quo) [83,.ki 31],
 .M 85 16,
 .o 86 (.aj .rem) [85,.ki 31],
 .o 87 (.aj .add) [86,.ki 1],
 .o 88 (.build [.int .i64 0,.int .i64 0,.int .i64 0] [(0,1),(1,1),(2,1)]) [82,84,87],
 .o 89 (.ah xK) [88],
 .o 90 (.ext 0) [89],
 .o 91 (.ext 1) [89],
 .M 2 90,
 .M 3 91])
 .ret))))))))))))⟩
def Cc:EC:=(.seq (.region 0 [.o 38 (.aj .lss) [37,36]])
 (.seq (.cond (.t 38) .skip
 (.exit 1))
 (.seq (.block 2 (.seq (.region 0 [.o 39 (.bF 1) [35,37],
 .o 40 .ak [39],
 .M 8 40])
 (.region 0 [.M 41 6,
 .o 42 .qG [41],
 .o 43 (.aC 0) [42],
 .o 44 .ak [43],
 .M 45 8,
 ⟨.ZR,[44,45,.kb true],none,none⟩])))
 (.region 0 [.o 46 (.aj .add) [37,.ki 1],
 .M 37 46]))))
def Ce:EC:=(.seq (.seq (.region 0 [.M 53 11,
 .o 54 (.aj .leq) [53,.ki 2199]])
 (.cond (.t 54) .skip
 (.exit 5)))
 (.seq (.join [6,10,11,47,48,49] (.block 6 (.seq (.region 0 [.o 58 (.aU 6) [10],
 .M 59 11,
 .o 60 (.ah EW) [58,59],
 .M 57 60,
 .o 61 (.ext 0) [57],
 .o 62 (.ext 1) [57],
 .M 12 61,
 .M 13 62])
 (.seq (.region 0 [.M 63 13])
 (.join [6,10,11,47,48,49] (.cond (.t 63) (.region 0 [.M 64 6,
 .o 65 .qG [64],
 .o 66 (.aC 0) [65],
 .o 67 .ak [66],
 .M 68 12,
 ⟨.ZR,[67,68,.kb true],none,none⟩])
 .skip))))))
 (.region 0 [.M 55 11,
 .o 56 (.aj .add) [55,.ki 1],
 .M 11 56])))
def zo:EC:=(.seq (.region 0 [.o 50 (.aj .lss) [49,48]])
 (.seq (.cond (.t 50) .skip
 (.exit 3))
 (.seq (.block 4 (.seq (.region 1 [.o 51 (.bF 6) [47,49],
 .o 52 (.aU 6) [51],
 .o 10 (.alloc 0 [.int .i64 0,.int .i64 0,.int .i64 0,.int .i64 0,.int .i64 0,.bool false]) [],
 ⟨.store 6,[10,52],none,none⟩])
 (.seq (.region 0 [.C 11 (.int .i64 1900)])
 (.block 5 (.loop [6,10,11,47,48,49] [6,47,48,49] Ce)))))
 (.region 0 [.o 69 (.aj .add) [49,.ki 1],
 .M 49 69]))))
def Ug:EF:=⟨[0,1],[.tmp 4,.tmp 5],(.seq (.region 0 [.C 4 .aY,
 .C 5 .aK])
 (.seq (.block 0 (.seq (.region 0 [.M 15 0,
 .o 16 .bM [15],
 .o 17 (.aj .gtr) [16,.ki 20],
 .M 18 17,
 .g 18 false 19 .aT [1],
 .g 18 false 20 .bM [19],
 .g 18 false 21 (.aj .gtr) [20,.ki 100],
 .o 22 .pick [18,.kb true,21],
 .M 14 22])
 (.cond (.t 14) (.seq (.region 0 [.o 23 (.ah dB) [.ki 2],
 .C 4 .aY,
 .M 5 23])
 (.Yd [4,5] .ret))
 (.seq (.region 0 [.M 25 0,
 .o 26 (.ah iJ) [25,.k (.func JD [])],
 .M 24 26])
 (.cond (.t 24) (.seq (.region 0 [.o 27 (.ah dB) [.ki 1],
 .C 4 .aY,
 .M 5 27])
 (.Yd [4,5] .ret))
 (.seq (.region 0 [.M 29 1,
 .o 30 (.ah kL) [29,.k (.func JE [])],
 .M 28 30])
 (.cond (.t 28) (.seq (.region 0 [.o 31 (.ah dB) [.ki 4],
 .C 4 .aY,
 .M 5 31])
 (.Yd [4,5] .ret))
 .skip)))))))
 (.seq (.region 2 [.o 32 (.mkm 0) [],
 .o 33 (.build [.Au] [(0,1)]) [32],
 .o 34 (.box 1) [33],
 .M 6 34])
 (.seq (.seq (.region 0 [.M 35 1,
 .o 36 .bM [35],
 .C 37 (.int .i64 0)])
 (.block 1 (.loop [0,6,35,36,37] [0,6] Cc)))
 (.seq (.seq (.region 0 [.M 47 0,
 .o 48 .bM [47],
 .C 49 (.int .i64 0)])
 (.block 3 (.loop [6,47,48,49] [6] zo)))
 (.seq (.region 0 [.M 70 6,
 .M 4 70,
 .C 5 .aK])
 (.Yd [4,5] .ret)))))))⟩
def anm:EF:=⟨[0,1,2],[.tmp 6,.tmp 7],(.seq (.region 0 [.C 6 (.int .i64 0),
 .C 7 .aK])
 (.seq (.seq (.region 0 [.M 9 2,
 .o 10 (.aj .lss) [9,.ki 0],
 .M 11 10,
 .g 11 false 12 .aT [2],
 .g 11 false 13 (.aj .gtr) [12,.ki 4],
 .o 14 .pick [11,.kb true,13]])
 (.cond (.t 14) (.seq (.region 0 [.o 15 (.ah dB) [.ki 1],
 .C 6 (.int .i64 0),
 .M 7 15])
 .ret)
 .skip))
 (.seq (.seq (.region 0 [.M 16 1,
 .o 17 (.ah fF) [16],
 .o 18 (.aj .lss) [17,.ki 0]])
 (.cond (.t 18) (.seq (.region 0 [.o 19 (.ah dB) [.ki 4],
 .C 6 (.int .i64 0),
 .M 7 19])
 .ret)
 .skip))
 (.seq (.region 0 [.M 20 1,
 .M 8 20])
 (.seq (.seq (.region 0 [.M 21 2])
 (.join [8] (.block 0 (.seq (.join [0,1,8] (.block 4 (.seq (.block 3 (.seq (.join [0,1,8] (.block 2 (.seq (.block 1 (.seq (.seq (.seq (.region 0 [.o 23 (.aj .eql) [21,.ki 2],
 .M 22 23])
 (.cond (.t 22) (.exit 1)
 .skip))
 (.seq (.seq (.region 0 [.o 25 (.aj .eql) [21,.ki 3],
 .M 24 25])
 (.cond (.t 24) (.exit 2)
 .skip))
 (.seq (.seq (.region 0 [.o 27 (.aj .eql) [21,.ki 4],
 .M 26 27])
 (.cond (.t 26) (.exit 3)
 .skip))
 (.seq (.region 0 [.o 29 (.aj .eql) [21,.ki 1],
 .M 28 29])
 (.cond (.t 28) (.exit 4)
 .skip)))))
 (.exit 0)))
 (.seq (.region 0 [.M 30 0,
 .M 31 1,
 .o 32 (.ah xH) [30,31,.ki 1],
 .M 8 32])
 (.seq (.region 0 [.M 33 8,
 .M 34 1,
 .o 35 (.ah Gu) [33,34]])
 (.cond (.t 35) (.exit 0)
 .skip))))))
 (.seq (.region 0 [.M 36 0,
 .M 37 1,
 .o 38 (.ah xH) [36,37,.ki (-1)],
 .M 8 38])
 (.exit 0))))
 (.seq (.region 0 [.M 39 0,
 .M 40 1,
 .o 41 (.ah xH) [39,40,.ki (-1)],
 .M 8 41])
 (.seq (.region 0 [.M 42 8,
 .M 43 1,
 .o 44 (.ah Gu) [42,43]])
 (.cond (.t 44) (.exit 0)
 .skip))))))
 (.seq (.region 0 [.M 45 0,
 .M 46 1,
 .o 47 (.ah xH) [45,46,.ki 1],
 .M 8 47])
 (.exit 0))))))
 (.seq (.seq (.region 0 [.M 48 8,
 .o 49 (.aj .eql) [48,.ki (-1)]])
 (.cond (.t 49) (.seq (.region 0 [.o 50 (.ah dB) [.ki 4],
 .C 6 (.int .i64 0),
 .M 7 50])
 .ret)
 .skip))
 (.seq (.region 0 [.M 51 8,
 .M 6 51,
 .C 7 .aK])
 .ret)))))))⟩
def Wj:EF:=⟨[],[.tmp 0],(.seq (.region 0 [.C 0 (.int .i64 0)])
 (.seq (.region 0 [.C 0 (.int .i64 1)])
 .ret))⟩
def YL:EF:=⟨[],[.tmp 0],(.seq (.region 0 [.C 0 (.bool false)])
 (.seq (.region 0 [.o 1 (.ah wB) [],
 .M 0 1])
 .ret))⟩
def alf:EF:=⟨[0],[.tmp 2],(.seq (.region 0 [.C 2 (.str [])])
 (.seq (.region 1 [.M 6 0,
 .o 7 (.ah gZ) [6],
 .M 5 7,
 .o 8 (.ext 0) [5],
 .o 9 (.ext 1) [5],
 .o 3 (.alloc 0 [.int .i64 0,.int .i64 0,.int .i64 0]) [],
 ⟨.store 3,[3,8],none,none⟩,
 .M 4 9])
 (.seq (.seq (.region 0 [.M 10 4,
 .o 11 (.eqN true true) [10,.k .aK]])
 (.cond (.t 11) (.seq (.region 0 [.C 2 (.str [])])
 .ret)
 .skip))
 (.seq (.drawn 0 [(0,.o 12 (.aC 0) [3]),
 (1,.o 13 .ak [12]),
 (2,.o 14 (.ah Aj) [13,.ki 4]),
 (3,.o 15 (.gq .add) [14,.k (.str [45])]),
 (4,.o 16 (.aC 1) [3]),
 (5,.o 17 .ak [16]),
 (6,.o 18 (.ah Aj) [17,.ki 2]),
 (7,.o 19 (.gq .add) [15,18]),
 (8,.o 20 (.gq .add) [19,.k (.str [45])]),
 (9,.o 21 (.aC 2) [3]),
 (10,.o 22 .ak [21]),
 (11,.o 23 (.ah Aj) [22,.ki 2]),
 (12,.o 24 (.gq .add) [20,23]),
 (13,.M 2 24)])
 .ret))))⟩
def ae3:EF:=⟨[0,1],[.tmp 4],(.seq (.region 0 [.C 4 (.bool false)])
 (.seq (.seq (.region 0 [.M 5 1,
 .o 6 (.ah fF) [5]])
 (.join [0,1,4] (.block 0 (.seq (.seq (.region 0 [.o 8 (.aj .eql) [6,.ki (-1)],
 .M 7 8])
 (.join [0,1,7] (.cond (.t 7) .skip
 (.seq (.region 0 [.o 9 (.aj .eql) [6,.ki 0],
 .M 7 9])
 (.join [0,1,7] (.cond (.t 7) .skip
 (.region 0 [.o 10 (.aj .eql) [6,.ki 6],
 .M 7 10])))))))
 (.cond (.t 7) (.seq (.region 0 [.C 4 (.bool false)])
 .ret)
 .skip)))))
 (.seq (.region 0 [.M 11 0,
 .o 12 (.yV false) [11,.k .aY],
 .M 13 12,
 .g 13 false 14 .aT [0],
 .g 13 false 15 .qG [14],
 .g 13 false 16 (.aC 0) [15],
 .g 13 false 17 .ak [16],
 .g 13 false 18 .aT [1],
 .g 13 false 19 .ZQ [17,18],
 .g 13 false 20 .not [19],
 .o 21 .pick [13,.kb true,20],
 .M 4 21])
 .ret)))⟩
def F5:EF:=⟨[0],[.tmp 2],(.seq (.region 0 [.C 2 (.int .i64 0)])
 (.seq (.seq (.region 0 [.M 3 0,
 .o 4 (.ah JF) [3],
 .o 5 .not [4]])
 (.cond (.t 5) (.seq (.region 0 [.C 2 (.int .i64 (-1))])
 .ret)
 .skip))
 (.seq (.region 0 [.M 6 0,
 .o 7 (.aj .add) [6,.ki 1],
 .o 8 (.aj .rem) [7,.ki 7],
 .M 2 8])
 .ret)))⟩
def adI:EC:=(.seq (.seq (.region 0 [.M 20 7,
 .o 21 (.aC 0) [5],
 .o 22 .ak [21],
 .o 23 (.aj .add) [22,.ki 1],
 .o 24 (.aj .leq) [20,23]])
 (.cond (.t 24) .skip
 (.exit 0)))
 (.seq (.block 1 (.seq (.region 0 [.o 28 (.aU 6) [2],
 .M 29 7,
 .o 30 (.ah EW) [28,29],
 .M 27 30,
 .o 31 (.ext 0) [27],
 .o 32 (.ext 1) [27],
 .M 8 31,
 .M 9 32])
 (.seq (.region 0 [.M 33 9,
 .M 34 33,
 .g 34 true 35 .aT [8],
 .g 34 true 36 .aT [1],
 .g 34 true 37 (.aj .eql) [35,36],
 .o 38 .pick [34,37,.kb false]])
 (.cond (.t 38) (.seq (.region 0 [.C 4 (.bool true)])
 .ret)
 .skip))))
 (.region 0 [.M 25 7,
 .o 26 (.aj .add) [25,.ki 1],
 .M 7 26])))
def apb:EF:=⟨[0,1],[.tmp 4],(.seq (.region 1 [.o 2 (.box 0) [0],
 .C 4 (.bool false)])
 (.seq (.region 1 [.M 11 1,
 .o 12 (.ah gZ) [11],
 .M 10 12,
 .o 13 (.ext 0) [10],
 .o 14 (.ext 1) [10],
 .o 5 (.alloc 0 [.int .i64 0,.int .i64 0,.int .i64 0]) [],
 ⟨.store 3,[5,13],none,none⟩,
 .M 6 14])
 (.seq (.seq (.region 0 [.M 15 6,
 .o 16 (.eqN true true) [15,.k .aK]])
 (.cond (.t 16) (.seq (.region 0 [.C 4 (.bool false)])
 .ret)
 .skip))
 (.seq (.seq (.region 0 [.o 17 (.aC 0) [5],
 .o 18 .ak [17],
 .o 19 (.aj .sub) [18,.ki 1],
 .M 7 19])
 (.block 0 (.loop [1,2,5,7] [4] adI)))
 (.seq (.region 0 [.C 4 (.bool false)])
 .ret)))))⟩
def KG:EF:=⟨[0],[.tmp 2],(.seq (.region 0 [.C 2 (.bool false)])
 (.seq (.region 1 [.M 6 0,
 .o 7 (.ah gZ) [6],
 .M 5 7,
 .o 8 (.ext 0) [5],
 .o 9 (.ext 1) [5],
 .o 3 (.alloc 0 [.int .i64 0,.int .i64 0,.int .i64 0]) [],
 ⟨.store 3,[3,8],none,none⟩,
 .M 4 9])
 (.seq (.drawn 0 [(0,.M 10 4),
 (1,.o 11 (.eqN false true) [10,.k .aK]),
 (2,.M 12 11),
 (3,.g 12 true 13 (.aC 2) [3]),
 (4,.g 12 true 14 .ak [13]),
 (5,.g 12 true 15 (.aC 0) [3]),
 (6,.g 12 true 16 .ak [15]),
 (7,.g 12 true 17 (.aC 1) [3]),
 (8,.g 12 true 18 .ak [17]),
 (9,.g 12 true 19 (.ah jv) [16,18]),
 (10,.g 12 true 20 (.aj .eql) [14,19]),
 (11,.o 21 .pick [12,20,.kb false]),
 (12,.M 2 21)])
 .ret)))⟩
def Uj:EF:=⟨[0],[.tmp 2,.tmp 3,.tmp 4],(.seq (.region 0 [.C 2 .aY,
 .C 3 (.int .i64 0),
 .C 4 .aK])
 (.seq (.region 0 [.M 19 0,
 .o 20 (.ah strings_CutPrefix) [19,.k (.str [45])],
 .M 18 20,
 .o 21 (.ext 0) [18],
 .o 22 (.ext 1) [18],
 .M 5 21,
 .M 6 22])
 (.seq (.region 0 [.M 24 5,
 .o 25 (.ah strings_Cut) [24,.k (.str [46])],
 .M 23 25,
 .o 26 (.ext 0) [23],
 .o 27 (.ext 1) [23],
 .o 28 (.ext 2) [23],
 .M 7 26,
 .M 8 27,
 .M 9 28])
 (.seq (.region 0 [.M 29 0,
 .o 30 .qY [29],
 .o 31 (.aj .gtr) [30,.ki 60],
 .M 32 31,
 .g 32 false 33 .aT [9],
 .g 32 false 34 .aT [33],
 .g 34 true 35 .aT [8],
 .g 34 true 36 (.gq .eql) [35,.k (.str [])],
 .g 34 true 37 .aT [36],
 .g 37 false 38 .aT [8],
 .g 37 false 39 .qY [38],
 .g 37 false 40 (.aj .gtr) [39,.ki 20],
 .g 34 true 41 .pick [37,.kb true,40],
 .g 34 true 42 .aT [41],
 .g 42 false 43 .aT [8],
 .g 42 false 44 (.ah nK) [43,.k (.str [48,49,50,51,52,53,54,55,56,57])],
 .g 42 false 45 (.gq .neq) [44,.k (.str [])],
 .g 34 true 46 .pick [42,.kb true,45],
 .g 32 false 47 .pick [34,46,.kb false],
 .o 48 .pick [32,.kb true,47],
 .M 10 48])
 (.seq (.region 0 [.M 50 7,
 .o 51 (.ah oU) [50],
 .M 49 51,
 .o 52 (.ext 0) [49],
 .o 53 (.ext 1) [49],
 .M 11 52,
 .M 12 53])
 (.seq (.seq (.region 0 [.M 54 10,
 .M 55 54,
 .g 55 false 56 .aT [12],
 .g 55 false 57 (.eqN true true) [56,.k .aK],
 .o 58 .pick [55,.kb true,57]])
 (.cond (.t 58) (.seq (.region 0 [.o 59 (.ah dB) [.ki 1],
 .C 2 .aY,
 .C 3 (.int .i64 0),
 .M 4 59])
 .ret)
 .skip))
 (.seq (.region 0 [.o 61 (.ah oU) [.k (.str [48])],
 .M 60 61,
 .o 62 (.ext 0) [60],
 .o 63 (.ext 1) [60],
 .M 13 62,
 .M 14 63])
 (.seq (.seq (.region 0 [.M 64 7,
 .M 65 8,
 .o 66 (.gq .add) [64,65],
 .o 67 (.ah jE) [66,.k (.str [48])],
 .M 15 67])
 (.seq (.region 0 [.M 68 15,
 .o 69 (.gq .neq) [68,.k (.str [])]])
 (.join [6,8,13] (.cond (.t 69) (.region 0 [.M 71 15,
 .o 72 (.ah oU) [71],
 .M 70 72,
 .o 73 (.ext 0) [70],
 .o 74 (.ext 1) [70],
 .M 13 73])
 .skip))))
 (.seq (.seq (.region 0 [.M 75 6,
 .M 76 75,
 .g 76 true 77 .aT [13],
 .g 76 true 78 (.ah fV) [77],
 .o 79 .pick [76,78,.kb false]])
 (.cond (.t 79) (.seq (.region 0 [.o 80 (.ah dB) [.ki 1],
 .C 2 .aY,
 .C 3 (.int .i64 0),
 .M 4 80])
 .ret)
 .skip))
 (.seq (.region 0 [.M 82 6,
 .M 83 13,
 .o 84 (.ah jd) [82,83],
 .M 85 8,
 .o 86 .qY [85],
 .o 87 (.ah JI) [86],
 .o 88 (.ah rP) [84,87],
 .M 81 88,
 .o 89 (.ext 0) [81],
 .o 90 (.ext 1) [81],
 .M 16 89,
 .M 17 90])
 (.seq (.region 0 [.M 91 16,
 .M 92 8,
 .o 93 .qY [92],
 .M 2 91,
 .M 3 93,
 .C 4 .aK])
 .ret)))))))))))⟩
def kS:EC:=(.seq (.seq (.region 0 [.M 5 0,
 .o 6 (.aC 0) [3],
 .o 7 .ak [6],
 .o 8 (.ah kU) [7],
 .o 9 (.aj .geq) [5,8]])
 (.cond (.t 9) .skip
 (.exit 0)))
 (.block 1 (.seq (.region 0 [.M 10 0,
 .o 11 (.aC 0) [3],
 .o 12 .ak [11],
 .o 13 (.ah kU) [12],
 .o 14 (.aj .sub) [10,13],
 .M 0 14])
 (.region 0 [.o 15 (.aC 0) [3],
 .o 16 .ak [15],
 .o 17 (.aj .add) [16,.ki 1],
 .o 18 (.aC 0) [3],
 ⟨.store 1,[18,17],none,none⟩]))))
def kT:EC:=(.seq (.seq (.region 0 [.M 19 0,
 .o 20 (.aC 0) [3],
 .o 21 .ak [20],
 .o 22 (.aC 1) [3],
 .o 23 .ak [22],
 .o 24 (.ah fC) [21,23],
 .o 25 (.aj .geq) [19,24]])
 (.cond (.t 25) .skip
 (.exit 2)))
 (.block 3 (.seq (.region 0 [.M 26 0,
 .o 27 (.aC 0) [3],
 .o 28 .ak [27],
 .o 29 (.aC 1) [3],
 .o 30 .ak [29],
 .o 31 (.ah fC) [28,30],
 .o 32 (.aj .sub) [26,31],
 .M 0 32])
 (.region 0 [.o 33 (.aC 1) [3],
 .o 34 .ak [33],
 .o 35 (.aj .add) [34,.ki 1],
 .o 36 (.aC 1) [3],
 ⟨.store 1,[36,35],none,none⟩]))))
def yS:EF:=⟨[0],[.cell 2 true 3],(.seq (.region 1 [.o 2 (.alloc 0 [.int .i64 0,.int .i64 0,.int .i64 0]) []])
 (.seq (.region 1 [.o 4 (.build [.int .i64 0,.int .i64 0,.int .i64 0] [(0,1),(1,1)]) [.ki 1900,.ki 1],
 .o 3 (.alloc 0 [.int .i64 0,.int .i64 0,.int .i64 0]) [],
 ⟨.store 3,[3,4],none,none⟩])
 (.seq (.block 0 (.loop [0,2,3] [0,2,3] kS))
 (.seq (.block 2 (.loop [0,2,3] [0,2,3] kT))
 (.seq (.region 0 [.M 37 0,
 .o 38 (.aj .add) [37,.ki 1],
 .o 39 (.aC 2) [3],
 ⟨.store 1,[39,38],none,none⟩])
 (.seq (.region 0 [.o 40 (.aU 3) [3],
 ⟨.store 3,[2,40],none,none⟩])
 .ret))))))⟩
def zM:EF:=⟨[0],[.tmp 2],(.seq (.region 0 [.C 2 (.bool false)])
 (.seq (.region 1 [.M 4 0,
 .o 5 (.ah gB) [4],
 .o 3 (.alloc 0 [.int .i64 0,.int .i64 0,.int .i64 0]) [],
 ⟨.store 3,[3,5],none,none⟩])
 (.seq (.drawn 0 [(0,.o 6 (.aC 2) [3]),
 (1,.o 7 .ak [6]),
 (2,.o 8 (.aC 0) [3]),
 (3,.o 9 .ak [8]),
 (4,.o 10 (.aC 1) [3]),
 (5,.o 11 .ak [10]),
 (6,.o 12 (.ah fC) [9,11]),
 (7,.o 13 (.aj .eql) [7,12]),
 (8,.M 2 13)])
 .ret)))⟩
def wS:EF:=⟨[0,1],[.tmp 4],(.seq (.region 0 [.C 4 (.int .i64 0)])
 (.seq (.seq (.region 0 [.M 5 1])
 (.join [4] (.block 0 (.seq (.seq (.region 0 [.o 7 (.aj .eql) [5,.ki 1],
 .M 6 7])
 (.join [0,5,6] (.cond (.t 6) .skip
 (.seq (.region 0 [.o 8 (.aj .eql) [5,.ki 3],
 .M 6 8])
 (.join [0,5,6] (.cond (.t 6) .skip
 (.seq (.region 0 [.o 9 (.aj .eql) [5,.ki 5],
 .M 6 9])
 (.join [0,5,6] (.cond (.t 6) .skip
 (.seq (.region 0 [.o 10 (.aj .eql) [5,.ki 7],
 .M 6 10])
 (.join [0,5,6] (.cond (.t 6) .skip
 (.seq (.region 0 [.o 11 (.aj .eql) [5,.ki 8],
 .M 6 11])
 (.join [0,5,6] (.cond (.t 6) .skip
 (.seq (.region 0 [.o 12 (.aj .eql) [5,.ki 10],
 .M 6 12])
 (.join [0,5,6] (.cond (.t 6) .skip
 (.region 0 [.o 13 (.aj .eql) [5,.ki 12],
 .M 6 13])))))))))))))))))))
 (.join [4] (.cond (.t 6) (.seq (.region 0 [.C 4 (.int .i64 31)])
 .ret)
 (.seq (.seq (.region 0 [.o 15 (.aj .eql) [5,.ki 4],
 .M 14 15])
 (.join [0,5,14] (.cond (.t 14) .skip
 (.seq (.region 0 [.o 16 (.aj .eql) [5,.ki 6],
 .M 14 16])
 (.join [0,5,14] (.cond (.t 14) .skip
 (.seq (.region 0 [.o 17 (.aj .eql) [5,.ki 9],
 .M 14 17])
 (.join [0,5,14] (.cond (.t 14) .skip
 (.region 0 [.o 18 (.aj .eql) [5,.ki 11],
 .M 14 18]))))))))))
 (.cond (.t 14) (.seq (.region 0 [.C 4 (.int .i64 30)])
 .ret)
 (.seq (.region 0 [.o 20 (.aj .eql) [5,.ki 2],
 .M 19 20])
 (.cond (.t 19) (.seq (.seq (.region 0 [.M 21 0,
 .o 22 (.ah nG) [21]])
 (.cond (.t 22) (.seq (.region 0 [.C 4 (.int .i64 29)])
 .ret)
 .skip))
 (.seq (.region 0 [.C 4 (.int .i64 28)])
 .ret))
 .skip))))))))))
 (.seq (.region 0 [.C 4 (.int .i64 0)])
 .ret)))⟩
def oJ:EC:=(.seq (.seq (.region 0 [.M 30 5,
 .o 31 (.aC 0) [1],
 .o 32 .ak [31],
 .o 33 (.aj .lss) [30,32]])
 (.cond (.t 33) .skip
 (.exit 0)))
 (.seq (.block 1 (.region 0 [.M 36 4,
 .M 37 5,
 .o 38 (.ah kU) [37],
 .o 39 (.aj .add) [36,38],
 .M 4 39]))
 (.region 0 [.M 34 5,
 .o 35 (.aj .add) [34,.ki 1],
 .M 5 35])))
def oK:EC:=(.seq (.seq (.region 0 [.M 40 6,
 .o 41 (.aC 1) [1],
 .o 42 .ak [41],
 .o 43 (.aj .lss) [40,42]])
 (.cond (.t 43) .skip
 (.exit 2)))
 (.seq (.block 3 (.region 0 [.M 46 4,
 .o 47 (.aC 0) [1],
 .o 48 .ak [47],
 .M 49 6,
 .o 50 (.ah fC) [48,49],
 .o 51 (.aj .add) [46,50],
 .M 4 51]))
 (.region 0 [.M 44 6,
 .o 45 (.aj .add) [44,.ki 1],
 .M 6 45])))
def CQ:EF:=⟨[0],[.tmp 2,.tmp 3],(.seq (.region 1 [.o 1 (.box 0) [0],
 .C 2 (.int .i64 0),
 .C 3 (.bool false)])
 (.seq (.seq (.drawn 0 [(0,.o 7 (.aC 0) [1]),
 (1,.o 8 .ak [7]),
 (2,.o 9 (.aj .lss) [8,.ki 1900]),
 (3,.M 10 9),
 (4,.g 10 false 11 (.aC 0) [1]),
 (5,.g 10 false 12 .ak [11]),
 (6,.g 10 false 13 (.aj .gtr) [12,.ki 2199]),
 (7,.o 14 .pick [10,.kb true,13]),
 (8,.M 15 14),
 (9,.g 15 false 16 (.aC 2) [1]),
 (10,.g 15 false 17 .ak [16]),
 (11,.g 15 false 18 (.aj .lss) [17,.ki 1]),
 (12,.o 19 .pick [15,.kb true,18]),
 (13,.M 20 19),
 (14,.g 20 false 21 (.aC 2) [1]),
 (15,.g 20 false 22 .ak [21]),
 (16,.g 20 false 23 (.aC 0) [1]),
 (17,.g 20 false 24 .ak [23]),
 (18,.g 20 false 25 (.aC 1) [1]),
 (19,.g 20 false 26 .ak [25]),
 (20,.g 20 false 27 (.ah fC) [24,26]),
 (21,.g 20 false 28 (.aj .gtr) [22,27]),
 (22,.o 29 .pick [20,.kb true,28])])
 (.cond (.t 29) (.seq (.region 0 [.C 2 (.int .i64 0),
 .C 3 (.bool false)])
 .ret)
 .skip))
 (.seq (.region 0 [.C 4 (.int .i64 0)])
 (.seq (.seq (.region 0 [.C 5 (.int .i64 1900)])
 (.block 0 (.loop [1,4,5] [1,4] oJ)))
 (.seq (.seq (.region 0 [.C 6 (.int .i64 1)])
 (.block 2 (.loop [1,4,6] [1,4] oK)))
 (.seq (.region 0 [.M 52 4,
 .o 53 (.aC 2) [1],
 .o 54 .ak [53],
 .o 55 (.aj .add) [52,54],
 .o 56 (.aj .sub) [55,.ki 1],
 .M 2 56,
 .C 3 (.bool true)])
 .ret))))))⟩
def fQ:EC:=(.seq (.seq (.region 0 [.M 23 7,
 .M 24 5,
 .o 25 .qY [24],
 .o 26 (.aj .lss) [23,25],
 .M 27 26,
 .g 27 true 28 .aT [5],
 .g 27 true 29 .aT [7],
 .g 27 true 30 .GZ [28,29],
 .g 27 true 31 (.aj .neq) [30,.k (.int .u8 46)],
 .o 32 .pick [27,31,.kb false]])
 (.cond (.t 32) .skip
 (.exit 0)))
 (.block 1 (.region 0 [.M 33 7,
 .o 34 (.aj .add) [33,.ki 1],
 .M 7 34])))
def dN:EC:=(.seq (.seq (.region 0 [.M 71 11,
 .M 72 5,
 .o 73 .qY [72],
 .o 74 (.aj .lss) [71,73]])
 (.cond (.t 74) .skip
 (.exit 2)))
 (.seq (.block 3 (.seq (.seq (.region 0 [.M 77 5,
 .M 78 11,
 .o 79 .GZ [77,78],
 .o 80 (.aj .lss) [79,.k (.int .u8 48)],
 .M 81 80,
 .g 81 false 82 .aT [5],
 .g 81 false 83 .aT [11],
 .g 81 false 84 .GZ [82,83],
 .g 81 false 85 (.aj .gtr) [84,.k (.int .u8 57)],
 .o 86 .pick [81,.kb true,85]])
 (.cond (.t 86) (.seq (.region 0 [.o 87 (.build [.bool false,.sl 0 [],.sl 0 []] []) [],
 ⟨.store 3,[2,87],none,none⟩,
 .C 3 (.int .i64 0),
 .C 4 (.bool false)])
 .ret)
 .skip))
 (.drawn 0 [(0,.M 88 9),
 (1,.o 89 (.ah f_) [.k (.int .u64 10)]),
 (2,.o 90 (.ah iK) [88,89]),
 (3,.M 91 5),
 (4,.M 92 11),
 (5,.o 93 .GZ [91,92]),
 (6,.o 94 (.aj .sub) [93,.k (.int .u8 48)]),
 (7,.o 95 (.conv .u64) [94]),
 (8,.o 96 (.ah f_) [95]),
 (9,.o 97 (.ah j_) [90,96]),
 (10,.M 9 97)])))
 (.region 0 [.M 75 11,
 .o 76 (.aj .add) [75,.ki 1],
 .M 11 76])))
def wR:EF:=⟨[0],[.cell 2 true 3,.tmp 3,.tmp 4],(.seq (.region 1 [.o 2 (.alloc 0 [.bool false,.sl 0 [],.sl 0 []]) [],
 .C 3 (.int .i64 0),
 .C 4 (.bool false)])
 (.seq (.drawn 0 [(0,.M 12 0),
 (1,.M 13 0),
 (2,.o 14 (.gq .neq) [13,.k (.str [])]),
 (3,.M 15 14),
 (4,.g 15 true 16 .aT [0]),
 (5,.g 15 true 17 .GZ [16,.ki 0]),
 (6,.g 15 true 18 (.aj .eql) [17,.k (.int .u8 45)]),
 (7,.o 19 .pick [15,18,.kb false]),
 (8,.M 5 12),
 (9,.M 6 19)])
 (.seq (.seq (.region 0 [.M 20 6])
 (.join [0,2,5,6] (.cond (.t 20) (.region 0 [.M 21 5,
 .o 22 (.WU true false) [21,.ki 1],
 .M 5 22])
 .skip)))
 (.seq (.region 0 [.C 7 (.int .i64 0)])
 (.seq (.block 0 (.loop [0,2,5,6,7] [0,2,5,6,7] fQ))
 (.seq (.region 0 [.M 35 5,
 .o 36 .qY [35],
 .M 37 7,
 .o 38 (.aj .sub) [36,37],
 .o 39 (.aj .sub) [38,.ki 1],
 .o 40 .mx [.ki 0,39],
 .M 8 40])
 (.seq (.seq (.region 0 [.M 41 0,
 .o 42 .qY [41],
 .o 43 (.aj .gtr) [42,.ki 60],
 .M 44 43,
 .g 44 false 45 .aT [7],
 .g 44 false 46 .aT [5],
 .g 44 false 47 .qY [46],
 .g 44 false 48 (.aj .lss) [45,47],
 .g 44 false 49 .aT [48],
 .g 49 true 50 .aT [8],
 .g 49 true 51 (.aj .lss) [50,.ki 1],
 .g 49 true 52 .aT [51],
 .g 52 false 53 .aT [8],
 .g 52 false 54 (.aj .gtr) [53,.ki 20],
 .g 49 true 55 .pick [52,.kb true,54],
 .g 44 false 56 .pick [49,55,.kb false],
 .o 57 .pick [44,.kb true,56]])
 (.cond (.t 57) (.seq (.region 0 [.o 58 (.build [.bool false,.sl 0 [],.sl 0 []] []) [],
 ⟨.store 3,[2,58],none,none⟩,
 .C 3 (.int .i64 0),
 .C 4 (.bool false)])
 .ret)
 .skip))
 (.seq (.region 0 [.M 60 5,
 .M 61 7,
 .o 62 (.WU false true) [60,61],
 .o 63 (.ah mY) [62],
 .M 59 63,
 .o 64 (.ext 0) [59],
 .o 65 (.ext 1) [59],
 .M 9 64,
 .M 10 65])
 (.seq (.seq (.region 0 [.M 66 10,
 .o 67 .not [66]])
 (.cond (.t 67) (.seq (.region 0 [.o 68 (.build [.bool false,.sl 0 [],.sl 0 []] []) [],
 ⟨.store 3,[2,68],none,none⟩,
 .C 3 (.int .i64 0),
 .C 4 (.bool false)])
 .ret)
 .skip))
 (.seq (.seq (.region 0 [.M 69 7,
 .o 70 (.aj .add) [69,.ki 1],
 .M 11 70])
 (.block 2 (.loop [2,5,6,8,9,11] [2,3,4,6,8,9] dN)))
 (.seq (.seq (.region 0 [.M 98 6,
 .M 99 98,
 .g 99 true 100 .aT [9],
 .g 99 true 101 .bM [100],
 .g 99 true 102 (.aj .eql) [101,.ki 0],
 .o 103 .pick [99,102,.kb false]])
 (.cond (.t 103) (.seq (.region 0 [.o 104 (.build [.bool false,.sl 0 [],.sl 0 []] []) [],
 ⟨.store 3,[2,104],none,none⟩,
 .C 3 (.int .i64 0),
 .C 4 (.bool false)])
 .ret)
 .skip))
 (.seq (.region 0 [.M 105 6,
 .M 106 9,
 .o 107 (.build [.bool false,.sl 0 []] [(0,1),(1,1)]) [105,106],
 .o 108 (.ah f_) [.k (.int .u64 10)],
 .M 109 8,
 .o 110 (.ah oP) [108,109],
 .o 111 (.build [.bool false,.sl 0 [],.sl 0 []] [(0,2),(2,1)]) [107,110],
 .M 112 8,
 ⟨.store 3,[2,111],none,none⟩,
 .M 3 112,
 .C 4 (.bool true)])
 .ret))))))))))))⟩
def yR:EF:=⟨[0],[.cell 2 true 3],(.seq (.region 1 [.o 2 (.alloc 0 [.bool false,.sl 0 [],.sl 0 []]) []])
 (.seq (.region 0 [.M 3 0,
 .o 4 (.ah n_) [3],
 .o 5 (.ah f_) [.k (.int .u64 1)],
 .o 6 (.build [.bool false,.sl 0 [],.sl 0 []] [(0,2),(2,1)]) [4,5],
 ⟨.store 3,[2,6],none,none⟩])
 .ret))⟩
def yP:EF:=⟨[0,1],[.tmp 4],(.seq (.region 2 [.o 2 (.box 0) [0],
 .o 3 (.box 1) [1],
 .C 4 (.int .i64 0)])
 (.seq (.drawn 0 [(0,.o 5 (.aC 0) [2]),
 (1,.o 6 (.aU 2) [5]),
 (2,.o 7 (.aC 2) [3]),
 (3,.o 8 .ak [7]),
 (4,.o 9 (.build [.bool false,.sl 0 []] [(0,1),(1,1)]) [.kb false,8]),
 (5,.o 10 (.ah gu) [6,9]),
 (6,.o 11 (.aC 0) [3]),
 (7,.o 12 (.aU 2) [11]),
 (8,.o 13 (.aC 2) [2]),
 (9,.o 14 .ak [13]),
 (10,.o 15 (.build [.bool false,.sl 0 []] [(0,1),(1,1)]) [.kb false,14]),
 (11,.o 16 (.ah gu) [12,15]),
 (12,.o 17 (.ah pV) [10,16]),
 (13,.M 4 17)])
 .ret))⟩
def zJ:EF:=⟨[0,1],[.cell 4 true 3],(.seq (.region 3 [.o 2 (.box 0) [0],
 .o 3 (.box 1) [1],
 .o 4 (.alloc 2 [.bool false,.sl 0 [],.sl 0 []]) []])
 (.seq (.drawn 0 [(0,.o 5 (.aC 0) [2]),
 (1,.o 6 (.aU 2) [5]),
 (2,.o 7 (.aC 0) [3]),
 (3,.o 8 (.aU 2) [7]),
 (4,.o 9 (.ah gu) [6,8]),
 (5,.o 10 (.aC 2) [2]),
 (6,.o 11 .ak [10]),
 (7,.o 12 (.aC 2) [3]),
 (8,.o 13 .ak [12]),
 (9,.o 14 (.ah iK) [11,13]),
 (10,.o 15 (.build [.bool false,.sl 0 [],.sl 0 []] [(0,2),(2,1)]) [9,14]),
 (11,⟨.store 3,[4,15],none,none⟩)])
 .ret))⟩
def uV:EF:=⟨[0],[.cell 2 true 3],(.seq (.region 2 [.o 1 (.box 0) [0],
 .o 2 (.alloc 1 [.bool false,.sl 0 [],.sl 0 []]) []])
 (.seq (.region 1 [.o 6 (.aC 3) [1],
 .o 7 .ak [6],
 .o 8 (.ah dR) [7,.ki 0,.ki 30,.kb true],
 .M 5 8,
 .o 9 (.ext 0) [5],
 .o 10 (.ext 1) [5],
 .o 3 (.alloc 0 [.bool false,.sl 0 [],.sl 0 []]) [],
 ⟨.store 3,[3,9],none,none⟩,
 .M 4 10])
 (.seq (.region 0 [.o 11 (.aU 3) [3],
 ⟨.store 3,[2,11],none,none⟩])
 .ret)))⟩
def zG:EF:=⟨[0,1],[.cell 4 true 3],(.seq (.region 1 [.o 4 (.alloc 0 [.bool false,.sl 0 [],.sl 0 []]) []])
 (.seq (.region 2 [.M 7 0,
 .o 8 (.ah n_) [7],
 .M 9 1,
 .o 10 (.ah n_) [9],
 .o 5 (.alloc 0 [.bool false,.sl 0 []]) [],
 .o 6 (.alloc 1 [.bool false,.sl 0 []]) [],
 ⟨.store 2,[5,8],none,none⟩,
 ⟨.store 2,[6,10],none,none⟩])
 (.seq (.drawn 0 [(0,.o 11 (.aC 0) [5]),
 (1,.o 12 .ak [11]),
 (2,.o 13 (.aC 0) [6]),
 (3,.o 14 .ak [13]),
 (4,.o 15 (.Zu true) [12,14]),
 (5,.o 16 (.aC 1) [5]),
 (6,.o 17 .ak [16]),
 (7,.o 18 (.ah fG) [15,17]),
 (8,.o 19 (.aC 1) [6]),
 (9,.o 20 .ak [19]),
 (10,.o 21 (.build [.bool false,.sl 0 [],.sl 0 []] [(0,2),(2,1)]) [18,20]),
 (11,⟨.store 3,[4,21],none,none⟩)])
 .ret)))⟩
def eP:EC:=(.seq (.seq (.region 0 [.M 32 13,
 .o 33 (.aC 0) [5],
 .o 34 .ak [33],
 .o 35 (.aj .gtr) [32,34]])
 (.cond (.t 35) .skip
 (.exit 0)))
 (.join [2,3,4,5,8,9,12,13] (.block 1 (.seq (.region 0 [.o 37 (.aU 9) [4],
 .M 38 13,
 .o 39 (.ah jo) [37,38],
 .M 36 39,
 .o 40 (.ext 0) [36],
 .o 41 (.ext 1) [36],
 .M 14 40,
 .M 15 41])
 (.seq (.seq (.region 0 [.M 42 15,
 .o 43 .not [42]])
 (.cond (.t 43) (.seq (.region 0 [.o 44 (.aU 3) [12],
 ⟨.store 3,[8,44],none,none⟩,
 .C 9 (.bool false)])
 .ret)
 .skip))
 (.seq (.seq (.region 0 [.M 45 3,
 .M 46 13,
 .o 47 .mn [45,46],
 .M 48 2,
 .M 49 14,
 .o 50 .mx [48,49],
 .o 51 (.aj .sub) [47,50],
 .M 16 51])
 (.seq (.region 0 [.M 52 16,
 .o 53 (.aj .gtr) [52,.ki 0]])
 (.join [2,3,4,5,8,12,14] (.cond (.t 53) (.drawn 0 [(0,.o 54 (.aU 3) [12]),
 (1,.M 55 16),
 (2,.o 56 (.aC 2) [4]),
 (3,.o 57 .ak [56]),
 (4,.M 58 13),
 (5,.M 59 14),
 (6,.o 60 (.aj .sub) [58,59]),
 (7,.o 61 (.aj .mul) [57,60]),
 (8,.o 62 (.ah iL) [55,61]),
 (9,.o 63 (.ah lX) [54,62]),
 (10,⟨.store 3,[12,63],none,none⟩)])
 .skip))))
 (.region 0 [.M 64 14,
 .M 13 64])))))))
def yM:EF:=⟨[0,1,2,3],[.cell 8 true 3,.tmp 9],(.seq (.region 3 [.o 4 (.box 0) [0],
 .o 5 (.box 1) [1],
 .o 8 (.alloc 2 [.bool false,.sl 0 [],.sl 0 []]) [],
 .C 9 (.bool false)])
 (.seq (.seq (.region 0 [.o 17 (.aC 5) [4],
 .o 18 .ak [17],
 .o 19 (.aj .neq) [18,.ki 4]])
 (.cond (.t 19) (.seq (.region 1 [.o 21 (.aC 5) [4],
 .o 22 .ak [21],
 .M 23 2,
 .M 24 3,
 .o 25 (.ah pY) [22,23,24,.ki 0,.ki 0,.ki 0],
 .M 20 25,
 .o 26 (.ext 0) [20],
 .o 27 (.ext 1) [20],
 .o 10 (.alloc 0 [.bool false,.sl 0 [],.sl 0 []]) [],
 ⟨.store 3,[10,26],none,none⟩,
 .M 11 27])
 (.seq (.region 0 [.o 28 (.aU 3) [10],
 ⟨.store 3,[8,28],none,none⟩,
 .C 9 (.bool true)])
 .ret))
 .skip))
 (.seq (.region 1 [.o 29 (.ah iy) [.ki 0],
 .o 12 (.alloc 0 [.bool false,.sl 0 [],.sl 0 []]) [],
 ⟨.store 3,[12,29],none,none⟩])
 (.seq (.seq (.region 0 [.o 30 (.aC 1) [5],
 .o 31 .ak [30],
 .M 13 31])
 (.block 0 (.loop [2,3,4,5,8,12,13] [8,9,12] eP)))
 (.seq (.region 0 [.o 65 (.aU 3) [12],
 ⟨.store 3,[8,65],none,none⟩,
 .C 9 (.bool true)])
 .ret)))))⟩
def zI:EF:=⟨[0,1],[.cell 4 true 2],(.seq (.region 3 [.o 2 (.box 0) [0],
 .o 3 (.box 1) [1],
 .o 4 (.alloc 2 [.bool false,.sl 0 []]) []])
 (.seq (.seq (.region 0 [.o 5 (.aC 0) [2],
 .o 6 .ak [5],
 .o 7 (.aC 0) [3],
 .o 8 .ak [7],
 .o 9 (.Zu false) [6,8]])
 (.cond (.t 9) (.seq (.drawn 0 [(0,.o 10 (.aC 0) [2]),
 (1,.o 11 .ak [10]),
 (2,.o 12 (.aC 1) [2]),
 (3,.o 13 .ak [12]),
 (4,.o 14 (.aC 1) [3]),
 (5,.o 15 .ak [14]),
 (6,.o 16 (.ah j_) [13,15]),
 (7,.o 17 (.ah fG) [11,16]),
 (8,⟨.store 2,[4,17],none,none⟩)])
 .ret)
 .skip))
 (.seq (.seq (.region 0 [.o 18 (.aC 1) [2],
 .o 19 .ak [18],
 .o 20 (.aC 1) [3],
 .o 21 .ak [20],
 .o 22 (.ah oO) [19,21],
 .o 23 (.aj .geq) [22,.ki 0]])
 (.cond (.t 23) (.seq (.drawn 0 [(0,.o 24 (.aC 0) [2]),
 (1,.o 25 .ak [24]),
 (2,.o 26 (.aC 1) [2]),
 (3,.o 27 .ak [26]),
 (4,.o 28 (.aC 1) [3]),
 (5,.o 29 .ak [28]),
 (6,.o 30 (.ah lW) [27,29]),
 (7,.o 31 (.ah fG) [25,30]),
 (8,⟨.store 2,[4,31],none,none⟩)])
 .ret)
 .skip))
 (.seq (.drawn 0 [(0,.o 32 (.aC 0) [3]),
 (1,.o 33 .ak [32]),
 (2,.o 34 (.aC 1) [3]),
 (3,.o 35 .ak [34]),
 (4,.o 36 (.aC 1) [2]),
 (5,.o 37 .ak [36]),
 (6,.o 38 (.ah lW) [35,37]),
 (7,.o 39 (.ah fG) [33,38]),
 (8,⟨.store 2,[4,39],none,none⟩)])
 .ret))))⟩
def yQ:EF:=⟨[0,1],[.cell 4 true 2],(.seq (.region 3 [.o 2 (.box 0) [0],
 .o 3 (.box 1) [1],
 .o 4 (.alloc 2 [.bool false,.sl 0 []]) []])
 (.seq (.drawn 0 [(0,.o 5 (.aC 0) [2]),
 (1,.o 6 .ak [5]),
 (2,.o 7 (.aC 0) [3]),
 (3,.o 8 .ak [7]),
 (4,.o 9 (.Zu true) [6,8]),
 (5,.o 10 (.aC 1) [2]),
 (6,.o 11 .ak [10]),
 (7,.o 12 (.aC 1) [3]),
 (8,.o 13 .ak [12]),
 (9,.o 14 (.ah iK) [11,13]),
 (10,.o 15 (.ah fG) [9,14]),
 (11,⟨.store 2,[4,15],none,none⟩)])
 .ret))⟩
def kF:EC:=(.seq (.seq (.region 0 [.M 30 8,
 .M 31 1,
 .o 32 .bM [31],
 .o 33 (.aj .lss) [30,32],
 .M 34 33,
 .g 34 false 35 .aT [7],
 .g 34 false 36 (.aj .gtr) [35,.k (.int .u64 0)],
 .o 37 .pick [34,.kb true,36]])
 (.cond (.t 37) .skip
 (.exit 2)))
 (.seq (.join [0,1,5,6,7,8] (.block 3 (.seq (.region 0 [.M 40 5,
 .M 41 6,
 .M 42 8,
 .o 43 (.aj .add) [41,42],
 .o 44 (.bF 1) [40,43],
 .o 45 .ak [44],
 .M 46 7,
 .o 47 (.aj .add) [45,46],
 .M 9 47])
 (.seq (.seq (.region 0 [.M 48 8,
 .M 49 1,
 .o 50 .bM [49],
 .o 51 (.aj .lss) [48,50]])
 (.join [0,1,5,6,8,9] (.cond (.t 51) (.drawn 0 [(0,.M 52 9),
 (1,.M 53 0),
 (2,.M 54 6),
 (3,.o 55 (.bF 1) [53,54]),
 (4,.o 56 .ak [55]),
 (5,.M 57 1),
 (6,.M 58 8),
 (7,.o 59 (.bF 1) [57,58]),
 (8,.o 60 .ak [59]),
 (9,.o 61 (.aj .mul) [56,60]),
 (10,.o 62 (.aj .add) [52,61]),
 (11,.M 9 62)])
 .skip)))
 (.seq (.region 0 [.M 63 5,
 .M 64 6,
 .M 65 8,
 .o 66 (.aj .add) [64,65],
 .M 67 9,
 .o 68 (.aj .rem) [67,.k (.int .u64 1000000000)],
 .o 69 (.bF 1) [63,66],
 ⟨.store 1,[69,68],none,none⟩])
 (.region 0 [.M 70 9,
 .o 71 (.aj .quo) [70,.k (.int .u64 1000000000)],
 .M 7 71]))))))
 (.region 0 [.M 38 8,
 .o 39 (.aj .add) [38,.ki 1],
 .M 8 39])))
def mZ:EC:=(.seq (.seq (.region 0 [.M 24 6,
 .M 25 0,
 .o 26 .bM [25],
 .o 27 (.aj .lss) [24,26]])
 (.cond (.t 27) .skip
 (.exit 0)))
 (.seq (.block 1 (.seq (.region 0 [.C 7 (.int .u64 0)])
 (.seq (.region 0 [.C 8 (.int .i64 0)])
 (.block 2 (.loop [0,1,5,6,7,8] [0,1,5,6] kF)))))
 (.region 0 [.M 28 6,
 .o 29 (.aj .add) [28,.ki 1],
 .M 6 29])))
def AZ:EF:=⟨[0,1],[.tmp 4],(.seq (.region 0 [.C 4 (.sl 0 [])])
 (.seq (.seq (.region 0 [.M 10 0,
 .o 11 .bM [10],
 .o 12 (.aj .eql) [11,.ki 0],
 .M 13 12,
 .g 13 false 14 .aT [1],
 .g 13 false 15 .bM [14],
 .g 13 false 16 (.aj .eql) [15,.ki 0],
 .o 17 .pick [13,.kb true,16]])
 (.cond (.t 17) (.seq (.region 0 [.C 4 (.sl 0 [])])
 .ret)
 .skip))
 (.seq (.region 1 [.M 18 0,
 .o 19 .bM [18],
 .M 20 1,
 .o 21 .bM [20],
 .o 22 (.aj .add) [19,21],
 .o 23 (.G6 0 1 [.int .u64 0]) [22,22],
 .M 5 23])
 (.seq (.seq (.region 0 [.C 6 (.int .i64 0)])
 (.block 0 (.loop [0,1,5,6] [5] mZ)))
 (.seq (.region 0 [.M 72 5,
 .o 73 (.uf kR) [72],
 .M 4 73])
 .ret)))))⟩
def Ep:EF:=⟨[0],[.tmp 2],(.seq (.region 0 [.C 2 (.sl 0 [])])
 (.seq (.seq (.region 0 [.M 3 0,
 .o 4 (.yV false) [3,.k .aY]])
 (.cond (.t 4) (.seq (.region 0 [.C 2 (.sl 0 [])])
 .ret)
 .skip))
 (.seq (.region 0 [.M 5 0,
 .o 6 .qG [5],
 .o 7 (.aC 0) [6],
 .o 8 .ak [7],
 .M 2 8])
 .ret)))⟩
def qL:EC:=(.seq (.seq (.region 0 [.M 3 0,
 .o 4 .bM [3],
 .o 5 (.aj .gtr) [4,.ki 0],
 .M 6 5,
 .g 6 true 7 .aT [0],
 .g 6 true 8 .aT [0],
 .g 6 true 9 .bM [8],
 .g 6 true 10 (.aj .sub) [9,.ki 1],
 .g 6 true 11 (.bF 1) [7,10],
 .g 6 true 12 .ak [11],
 .g 6 true 13 (.aj .eql) [12,.k (.int .u64 0)],
 .o 14 .pick [6,13,.kb false]])
 (.cond (.t 14) .skip
 (.exit 0)))
 (.block 1 (.region 0 [.M 15 0,
 .M 16 0,
 .o 17 .bM [16],
 .o 18 (.aj .sub) [17,.ki 1],
 .o 19 (.PL 1 false true) [15,18],
 .M 0 19])))
def PZ:EF:=⟨[0],[.tmp 2],(.seq (.region 0 [.C 2 .aY])
 (.seq (.block 0 (.loop [0] [0] qL))
 (.seq (.region 1 [.M 20 0,
 .o 21 (.build [.sl 0 []] [(0,1)]) [20],
 .o 22 (.box 0) [21],
 .M 2 22])
 .ret)))⟩
def FY:EF:=⟨[0],[.tmp 2],(.seq (.region 0 [.C 2 (.bool false)])
 (.seq (.region 0 [.M 3 0,
 .o 4 (.ah fF) [3],
 .o 5 (.aj .geq) [4,.ki 0],
 .M 2 5])
 .ret))⟩
def KC:EF:=⟨[0,1,2],[.tmp 6],(.seq (.region 0 [.C 6 (.int .i64 0)])
 (.seq (.region 1 [.M 12 1,
 .o 13 (.ah gZ) [12],
 .M 11 13,
 .o 14 (.ext 0) [11],
 .o 15 (.ext 1) [11],
 .o 7 (.alloc 0 [.int .i64 0,.int .i64 0,.int .i64 0]) [],
 ⟨.store 3,[7,14],none,none⟩,
 .M 8 15])
 (.seq (.region 1 [.M 17 2,
 .o 18 (.ah gZ) [17],
 .M 16 18,
 .o 19 (.ext 0) [16],
 .o 20 (.ext 1) [16],
 .o 9 (.alloc 0 [.int .i64 0,.int .i64 0,.int .i64 0]) [],
 ⟨.store 3,[9,19],none,none⟩,
 .M 10 20])
 (.seq (.seq (.region 0 [.M 21 8,
 .o 22 (.eqN true true) [21,.k .aK],
 .M 23 22,
 .g 23 false 24 .aT [10],
 .g 23 false 25 (.eqN true true) [24,.k .aK],
 .o 26 .pick [23,.kb true,25],
 .M 27 26,
 .g 27 false 28 .aT [0],
 .g 27 false 29 (.ah zq) [28],
 .g 27 false 30 .not [29],
 .o 31 .pick [27,.kb true,30]])
 (.cond (.t 31) (.seq (.region 0 [.C 6 (.int .i64 0)])
 .ret)
 .skip))
 (.seq (.seq (.region 0 [.M 32 0,
 .o 33 (.aj .neq) [32,.ki 1]])
 (.cond (.t 33) (.seq (.region 0 [.M 34 2,
 .M 35 1,
 .o 36 (.aj .sub) [34,35],
 .M 6 36])
 .ret)
 .skip))
 (.seq (.region 0 [.o 37 (.aC 0) [9],
 .o 38 .ak [37],
 .o 39 (.aC 0) [7],
 .o 40 .ak [39],
 .o 41 (.aj .sub) [38,40],
 .o 42 (.aj .mul) [.ki 360,41],
 .o 43 (.aC 1) [9],
 .o 44 .ak [43],
 .o 45 (.aC 1) [7],
 .o 46 .ak [45],
 .o 47 (.aj .sub) [44,46],
 .o 48 (.aj .mul) [.ki 30,47],
 .o 49 (.aj .add) [42,48],
 .o 50 (.aC 2) [9],
 .o 51 .ak [50],
 .o 52 .mn [51,.ki 30],
 .o 53 (.aj .add) [49,52],
 .o 54 (.aC 2) [7],
 .o 55 .ak [54],
 .o 56 .mn [55,.ki 30],
 .o 57 (.aj .sub) [53,56],
 .M 6 57])
 .ret))))))⟩
def rZ:EC:=(.seq (.block 1 (.seq (.region 0 [.o 12 (.aU 9) [2],
 .M 13 6,
 .o 14 (.ah uF) [12,13],
 .M 11 14,
 .o 15 (.ext 0) [11],
 .o 16 (.ext 1) [11],
 .M 7 15,
 .M 8 16])
 (.seq (.seq (.region 0 [.M 17 8,
 .o 18 .not [17],
 .M 19 18,
 .g 19 false 20 .aT [7],
 .g 19 false 21 .aT [1],
 .g 19 false 22 (.aj .lss) [20,21],
 .o 23 .pick [19,.kb true,22]])
 (.cond (.t 23) (.seq (.region 0 [.C 4 (.int .i64 0),
 .C 5 (.bool false)])
 .ret)
 .skip))
 (.seq (.region 0 [.M 24 7,
 .M 25 1,
 .o 26 (.aj .eql) [24,25]])
 (.cond (.t 26) (.seq (.region 0 [.M 27 6,
 .M 4 27,
 .C 5 (.bool true)])
 .ret)
 .skip)))))
 (.region 0 [.M 9 6,
 .o 10 (.aj .add) [9,.ki 1],
 .M 6 10]))
def KJ:EF:=⟨[0,1],[.tmp 4,.tmp 5],(.seq (.region 1 [.o 2 (.box 0) [0],
 .C 4 (.int .i64 0),
 .C 5 (.bool false)])
 (.seq (.region 0 [.C 6 (.int .i64 0)])
 (.block 0 (.loop [1,2,6] [4,5] rZ))))⟩
def yw:EC:=(.seq (.seq (.region 0 [.M 15 8,
 .o 16 (.aj .geq) [15,.ki 0]])
 (.cond (.t 16) .skip
 (.exit 0)))
 (.seq (.block 1 (.region 0 [.M 20 6,
 .M 21 8,
 .M 22 7,
 .M 23 0,
 .M 24 8,
 .o 25 (.bF 1) [23,24],
 .o 26 .ak [25],
 .M 27 1,
 .o 28 (.ah wJ) [22,26,27],
 .M 19 28,
 .o 29 (.ext 0) [19],
 .o 30 (.ext 1) [19],
 .o 31 (.bF 1) [20,21],
 ⟨.store 1,[31,29],none,none⟩,
 .M 7 30]))
 (.region 0 [.M 17 8,
 .o 18 (.aj .sub) [17,.ki 1],
 .M 8 18])))
def NP:EF:=⟨[0,1],[.tmp 4,.tmp 5],(.seq (.region 0 [.C 4 (.sl 0 []),
 .C 5 (.int .u64 0)])
 (.seq (.region 1 [.M 9 0,
 .o 10 .bM [9],
 .o 11 (.G6 0 1 [.int .u64 0]) [10,10],
 .M 6 11])
 (.seq (.region 0 [.C 7 (.int .u64 0)])
 (.seq (.seq (.region 0 [.M 12 0,
 .o 13 .bM [12],
 .o 14 (.aj .sub) [13,.ki 1],
 .M 8 14])
 (.block 0 (.loop [0,1,6,7,8] [6,7] yw)))
 (.seq (.region 0 [.M 32 6,
 .M 33 7,
 .M 4 32,
 .M 5 33])
 .ret)))))⟩
def fM:EC:=(.seq (.seq (.region 0 [.M 7 2,
 .M 8 3,
 .o 9 (.aj .lss) [7,8]])
 (.cond (.t 9) .skip
 (.exit 0)))
 (.seq (.block 1 (.drawn 0 [(0,.M 14 0),
 (1,.M 15 2),
 (2,.M 16 0),
 (3,.M 17 3),
 (4,.M 18 0),
 (5,.M 19 3),
 (6,.o 20 (.bF 1) [18,19]),
 (7,.o 21 .ak [20]),
 (8,.M 22 0),
 (9,.M 23 2),
 (10,.o 24 (.bF 1) [22,23]),
 (11,.o 25 .ak [24]),
 (12,.o 26 (.bF 1) [14,15]),
 (13,⟨.store 1,[26,21],none,none⟩),
 (14,.o 27 (.bF 1) [16,17]),
 (15,⟨.store 1,[27,25],none,none⟩)]))
 (.region 0 [.M 10 2,
 .o 11 (.aj .add) [10,.ki 1],
 .M 12 3,
 .o 13 (.aj .sub) [12,.ki 1],
 .M 2 11,
 .M 3 13])))
def sK:EF:=⟨[0],[],(.seq (.region 0 [.M 4 0,
 .o 5 .bM [4],
 .o 6 (.aj .sub) [5,.ki 1],
 .C 2 (.int .i64 0),
 .M 3 6])
 (.block 0 (.loop [0,2,3] [] fM)))⟩
def apc:EF:=⟨[0],[.tmp 2,.tmp 3],(.seq (.region 0 [.C 2 .aY,
 .C 3 .aK])
 (.seq (.region 0 [.M 9 0,
 .o 10 (.ah strings_CutPrefix) [9,.k (.str [45])],
 .M 8 10,
 .o 11 (.ext 0) [8],
 .o 12 (.ext 1) [8],
 .M 4 11,
 .M 5 12])
 (.seq (.region 0 [.M 14 4,
 .o 15 (.ah oU) [14],
 .M 13 15,
 .o 16 (.ext 0) [13],
 .o 17 (.ext 1) [13],
 .M 6 16,
 .M 7 17])
 (.seq (.seq (.region 0 [.M 18 7,
 .o 19 (.eqN true true) [18,.k .aK],
 .M 20 19,
 .g 20 false 21 .aT [5],
 .g 20 false 22 .aT [21],
 .g 22 true 23 .aT [6],
 .g 22 true 24 (.ah fV) [23],
 .g 20 false 25 .pick [22,24,.kb false],
 .o 26 .pick [20,.kb true,25]])
 (.cond (.t 26) (.seq (.region 0 [.o 27 (.ah dB) [.ki 1],
 .C 2 .aY,
 .M 3 27])
 .ret)
 .skip))
 (.seq (.region 0 [.M 28 5,
 .M 29 6,
 .o 30 (.ah jd) [28,29],
 .M 2 30,
 .C 3 .aK])
 .ret)))))⟩
def uq:EC:=(.seq (.seq (.region 0 [.M 41 0,
 .o 42 (.gq .neq) [41,.k (.str [])]])
 (.cond (.t 42) .skip
 (.exit 0)))
 (.seq (.block 1 (.seq (.region 0 [.M 44 0,
 .M 45 7,
 .o 46 (.WU false true) [44,45],
 .o 47 (.ah iW) [46,.ki 10,.ki 64],
 .M 43 47,
 .o 48 (.ext 0) [43],
 .o 49 (.ext 1) [43],
 .M 8 48,
 .M 9 49])
 (.seq (.region 0 [.M 50 5,
 .M 51 6,
 .o 52 (.ah jA) [50,51],
 .M 53 8,
 .o 54 (.ah ji) [53],
 .o 55 (.ah jw) [52,54],
 .M 5 55])
 (.region 0 [.M 56 0,
 .M 57 7,
 .o 58 (.WU true false) [56,57],
 .M 0 58]))))
 (.region 0 [.C 7 (.int .i64 18)])))
def Um:EF:=⟨[0],[.tmp 2,.tmp 3],(.seq (.region 0 [.C 2 .aY,
 .C 3 .aK])
 (.seq (.region 0 [.M 10 0,
 .o 11 (.gq .eql) [10,.k (.str [])],
 .M 12 11,
 .g 12 false 13 .aT [0],
 .g 12 false 14 .qY [13],
 .g 12 false 15 (.aj .gtr) [14,.ki 4000],
 .o 16 .pick [12,.kb true,15],
 .M 17 16,
 .g 17 false 18 .aT [0],
 .g 17 false 19 .qY [18],
 .g 17 false 20 (.aj .gtr) [19,.ki 1],
 .g 17 false 21 .aT [20],
 .g 21 true 22 .aT [0],
 .g 21 true 23 .GZ [22,.ki 0],
 .g 21 true 24 (.aj .eql) [23,.k (.int .u8 48)],
 .g 17 false 25 .pick [21,24,.kb false],
 .o 26 .pick [17,.kb true,25],
 .M 27 26,
 .g 27 false 28 .aT [0],
 .g 27 false 29 (.ah nK) [28,.k (.str [48,49,50,51,52,53,54,55,56,57])],
 .g 27 false 30 (.gq .neq) [29,.k (.str [])],
 .o 31 .pick [27,.kb true,30],
 .M 4 31])
 (.seq (.seq (.region 0 [.M 32 4])
 (.cond (.t 32) (.seq (.region 0 [.o 33 (.ah dB) [.ki 1],
 .C 2 .aY,
 .M 3 33])
 .ret)
 .skip))
 (.seq (.region 0 [.o 34 (.ah ji) [.k (.int .u64 0)],
 .o 35 (.ah ji) [.k (.int .u64 1000000000000000000)],
 .M 5 34,
 .M 6 35])
 (.seq (.seq (.region 0 [.M 36 0,
 .o 37 .qY [36],
 .o 38 (.aj .sub) [37,.ki 1],
 .o 39 (.aj .rem) [38,.ki 18],
 .o 40 (.aj .add) [39,.ki 1],
 .M 7 40])
 (.block 0 (.loop [0,5,6,7] [5] uq)))
 (.seq (.region 0 [.M 59 5,
 .M 2 59,
 .C 3 .aK])
 .ret))))))⟩
def tK:EC:=(.seq (.seq (.region 0 [.M 21 5,
 .o 22 (.aj .geq) [21,.ki 0]])
 (.cond (.t 22) .skip
 (.exit 0)))
 (.seq (.block 1 (.block 2 (.seq (.drawn 0 [(0,.M 26 0),
 (1,.M 27 5),
 (2,.o 28 (.bF 1) [26,27]),
 (3,.o 29 .ak [28]),
 (4,.M 30 1),
 (5,.M 31 5),
 (6,.o 32 (.bF 1) [30,31]),
 (7,.o 33 .ak [32]),
 (8,.o 34 (.aj .lss) [29,33]),
 (9,.M 25 34)])
 (.cond (.t 25) (.seq (.region 0 [.C 4 (.int .i64 (-1))])
 .ret)
 (.seq (.drawn 0 [(0,.M 36 0),
 (1,.M 37 5),
 (2,.o 38 (.bF 1) [36,37]),
 (3,.o 39 .ak [38]),
 (4,.M 40 1),
 (5,.M 41 5),
 (6,.o 42 (.bF 1) [40,41]),
 (7,.o 43 .ak [42]),
 (8,.o 44 (.aj .gtr) [39,43]),
 (9,.M 35 44)])
 (.cond (.t 35) (.seq (.region 0 [.C 4 (.int .i64 1)])
 .ret)
 .skip))))))
 (.region 0 [.M 23 5,
 .o 24 (.aj .sub) [23,.ki 1],
 .M 5 24])))
def Iz:EF:=⟨[0,1],[.tmp 4],(.seq (.region 0 [.C 4 (.int .i64 0)])
 (.seq (.seq (.region 0 [.M 6 0,
 .o 7 .bM [6],
 .M 8 1,
 .o 9 .bM [8],
 .o 10 (.aj .neq) [7,9]])
 (.cond (.t 10) (.seq (.region 0 [.M 11 0,
 .o 12 .bM [11],
 .M 13 1,
 .o 14 .bM [13],
 .o 15 (.aj .sub) [12,14],
 .o 16 .mx [15,.ki (-1)],
 .o 17 .mn [16,.ki 1],
 .M 4 17])
 .ret)
 .skip))
 (.seq (.seq (.region 0 [.M 18 0,
 .o 19 .bM [18],
 .o 20 (.aj .sub) [19,.ki 1],
 .M 5 20])
 (.block 0 (.loop [0,1,5] [4] tK)))
 (.seq (.region 0 [.C 4 (.int .i64 0)])
 .ret))))⟩
def rY:EC:=(.join [0,1,4,5] (.block 1 (.seq (.seq (.region 0 [.M 17 0,
 .M 18 1,
 .o 19 (.bK o7) [17,18]])
 (.join [0,1,4,5] (.block 2 (.seq (.region 0 [.o 21 (.aj .eql) [19,.ki 0],
 .M 20 21])
 (.join [0,1,4,5] (.cond (.t 20) (.seq (.region 0 [.M 22 0,
 .o 23 (.bK gJ) [22],
 .M 24 5,
 .o 25 (.ah nat_bit) [24],
 .o 26 (.uf jA) [23,25],
 .M 4 26])
 .ret)
 (.seq (.region 0 [.o 28 (.aj .eql) [19,.ki (-1)],
 .M 27 28])
 (.join [0,1,5] (.cond (.t 27) (.region 0 [.M 29 1,
 .M 30 0,
 .M 0 29,
 .M 1 30])
 .skip)))))))))
 (.region 0 [.M 31 0,
 .M 32 1,
 .o 33 (.bK E_) [31,32],
 .o 34 (.bK DW) [33],
 .M 0 34]))))
def KH:EF:=⟨[0,1],[.tmp 4],(.seq (.region 0 [.C 4 .aY])
 (.seq (.region 0 [.M 6 0,
 .o 7 (.bK CW) [6],
 .M 8 1,
 .o 9 (.bK CW) [8],
 .o 10 .mn [7,9],
 .M 5 10])
 (.seq (.region 0 [.M 11 0,
 .o 12 (.bK dS) [11],
 .o 13 (.bK DW) [12],
 .M 14 1,
 .o 15 (.bK dS) [14],
 .o 16 (.bK DW) [15],
 .M 0 13,
 .M 1 16])
 (.block 0 (.loop [0,1,5] [4] rY)))))⟩
def uy:EC:=(.seq (.seq (.region 0 [.M 66 12])
 (.cond (.t 66) .skip
 (.exit 2)))
 (.seq (.block 3 (.seq (.region 0 [.M 73 9,
 .M 74 10,
 .o 75 (.bF 1) [73,74],
 .o 76 .ak [75],
 .o 77 (.aj .sub) [76,.k (.int .u64 1)],
 .o 78 (.bF 1) [73,74],
 ⟨.store 1,[78,77],none,none⟩])
 (.region 0 [.M 79 11,
 .M 80 8,
 .o 81 (.bK E5) [79,80]])))
 (.region 0 [.M 67 11,
 .M 68 8,
 .o 69 .bM [68],
 .o 70 (.bF 1) [67,69],
 .o 71 .ak [70],
 .o 72 (.aj .neq) [71,.k (.int .u64 0)],
 .M 12 72])))
def Aq:EC:=(.seq (.seq (.region 0 [.M 41 10,
 .o 42 (.aj .geq) [41,.ki 0]])
 (.cond (.t 42) .skip
 (.exit 0)))
 (.seq (.block 1 (.seq (.region 0 [.M 45 7,
 .M 46 10,
 .M 47 10,
 .M 48 8,
 .o 49 .bM [48],
 .o 50 (.aj .add) [47,49],
 .o 51 (.aj .add) [50,.ki 1],
 .o 52 (.PL 1 true true) [45,46,51],
 .M 11 52])
 (.seq (.region 0 [.M 53 9,
 .M 54 10,
 .M 55 11,
 .M 56 8,
 .o 57 (.bK E8) [55,56],
 .o 58 (.bF 1) [53,54],
 ⟨.store 1,[58,57],none,none⟩])
 (.seq (.region 0 [.M 59 11,
 .M 60 8,
 .M 61 9,
 .M 62 10,
 .o 63 (.bF 1) [61,62],
 .o 64 .ak [63],
 .o 65 (.bK Fa) [59,60,64],
 .M 12 65])
 (.block 2 (.loop [1,6,7,8,9,10,11,12] [1,6,7,8,9,10] uy))))))
 (.region 0 [.M 43 10,
 .o 44 (.aj .sub) [43,.ki 1],
 .M 10 44])))
def Ar:EC:=(.seq (.region 0 [.o 88 (.aj .lss) [87,86]])
 (.seq (.cond (.t 88) .skip
 (.exit 4))
 (.seq (.block 5 (.seq (.region 0 [.M 89 87,
 .M 14 89])
 (.drawn 0 [(0,.M 90 13),
 (1,.M 91 14),
 (2,.M 92 7),
 (3,.M 93 14),
 (4,.o 94 (.bF 1) [92,93]),
 (5,.o 95 .ak [94]),
 (6,.M 96 6),
 (7,.o 97 (.sh false) [95,96]),
 (8,.M 98 7),
 (9,.M 99 14),
 (10,.o 100 (.aj .add) [99,.ki 1]),
 (11,.o 101 (.bF 1) [98,100]),
 (12,.o 102 .ak [101]),
 (13,.o 103 (.sh true) [102,.k (.int .u64 1)]),
 (14,.M 104 6),
 (15,.o 105 (.aj .sub) [.ki 63,104]),
 (16,.o 106 (.sh true) [103,105]),
 (17,.o 107 (.aj .or) [97,106]),
 (18,.o 108 (.bF 1) [90,91]),
 (19,⟨.store 1,[108,107],none,none⟩)])))
 (.region 0 [.o 109 (.aj .add) [87,.ki 1],
 .M 87 109]))))
def PY:EF:=⟨[0,1],[.tmp 4,.tmp 5],(.seq (.region 0 [.C 4 (.sl 0 []),
 .C 5 (.sl 0 [])])
 (.seq (.region 0 [.M 15 1,
 .M 16 1,
 .o 17 .bM [16],
 .o 18 (.aj .sub) [17,.ki 1],
 .o 19 (.bF 1) [15,18],
 .o 20 .ak [19],
 .o 21 (.ah bits_LeadingZeros64) [20],
 .M 6 21])
 (.seq (.drawn 0 [(0,.M 22 0),
 (1,.M 23 6),
 (2,.o 24 (.bK CV) [22,23]),
 (3,.M 25 1),
 (4,.M 26 6),
 (5,.o 27 (.bK CV) [25,26]),
 (6,.M 28 1),
 (7,.o 29 .bM [28]),
 (8,.o 30 (.PL 1 false true) [27,29]),
 (9,.M 7 24),
 (10,.M 8 30)])
 (.seq (.region 1 [.M 31 0,
 .o 32 .bM [31],
 .M 33 1,
 .o 34 .bM [33],
 .o 35 (.aj .sub) [32,34],
 .o 36 (.aj .add) [35,.ki 1],
 .o 37 (.G6 0 1 [.int .u64 0]) [36,36],
 .M 9 37])
 (.seq (.seq (.region 0 [.M 38 9,
 .o 39 .bM [38],
 .o 40 (.aj .sub) [39,.ki 1],
 .M 10 40])
 (.block 0 (.loop [1,6,7,8,9,10] [1,6,7,9] Aq)))
 (.seq (.region 1 [.M 82 1,
 .o 83 .bM [82],
 .o 84 (.G6 0 1 [.int .u64 0]) [83,83],
 .M 13 84])
 (.seq (.seq (.region 0 [.M 85 13,
 .o 86 .bM [85],
 .C 87 (.int .i64 0)])
 (.block 4 (.loop [6,7,9,13,86,87] [9,13] Ar)))
 (.seq (.region 0 [.M 110 9,
 .M 111 13,
 .M 4 110,
 .M 5 111])
 .ret))))))))⟩
def Ii:EF:=⟨[0,1],[.tmp 4],(.seq (.region 0 [.C 4 (.int .i64 0)])
 (.seq (.seq (.region 0 [.M 5 1])
 (.join [4] (.block 0 (.seq (.region 0 [.o 7 (.aj .eql) [5,.ki 2],
 .M 6 7])
 (.join [4] (.cond (.t 6) (.seq (.seq (.region 0 [.M 8 0,
 .o 9 (.ah EP) [8]])
 (.cond (.t 9) (.seq (.region 0 [.C 4 (.int .i64 29)])
 .ret)
 .skip))
 (.seq (.region 0 [.C 4 (.int .i64 28)])
 .ret))
 (.seq (.seq (.region 0 [.o 11 (.aj .eql) [5,.ki 4],
 .M 10 11])
 (.join [5,10] (.cond (.t 10) .skip
 (.seq (.region 0 [.o 12 (.aj .eql) [5,.ki 6],
 .M 10 12])
 (.join [5,10] (.cond (.t 10) .skip
 (.seq (.region 0 [.o 13 (.aj .eql) [5,.ki 9],
 .M 10 13])
 (.join [5,10] (.cond (.t 10) .skip
 (.region 0 [.o 14 (.aj .eql) [5,.ki 11],
 .M 10 14]))))))))))
 (.join [4] (.cond (.t 10) (.seq (.region 0 [.C 4 (.int .i64 30)])
 .ret)
 (.seq (.seq (.region 0 [.o 16 (.aj .eql) [5,.ki 1],
 .M 15 16])
 (.join [15] (.cond (.t 15) .skip
 (.seq (.region 0 [.o 17 (.aj .eql) [5,.ki 3],
 .M 15 17])
 (.join [15] (.cond (.t 15) .skip
 (.seq (.region 0 [.o 18 (.aj .eql) [5,.ki 5],
 .M 15 18])
 (.join [15] (.cond (.t 15) .skip
 (.seq (.region 0 [.o 19 (.aj .eql) [5,.ki 7],
 .M 15 19])
 (.join [15] (.cond (.t 15) .skip
 (.seq (.region 0 [.o 20 (.aj .eql) [5,.ki 8],
 .M 15 20])
 (.join [15] (.cond (.t 15) .skip
 (.seq (.region 0 [.o 21 (.aj .eql) [5,.ki 10],
 .M 15 21])
 (.join [15] (.cond (.t 15) .skip
 (.region 0 [.o 22 (.aj .eql) [5,.ki 12],
 .M 15 22])))))))))))))))))))
 (.cond (.t 15) (.seq (.region 0 [.C 4 (.int .i64 31)])
 .ret)
 .skip)))))))))))
 (.seq (.region 0 [.C 4 (.int .i64 0)])
 .ret)))⟩
def Ij:EF:=⟨[0],[.tmp 2],(.seq (.region 0 [.C 2 (.int .i64 0)])
 (.seq (.region 0 [.M 5 0,
 .o 6 (.aj .sub) [5,.ki 1],
 .M 3 6,
 .C 4 (.int .i64 1899)])
 (.seq (.region 0 [.M 7 0,
 .o 8 (.aj .sub) [7,.ki 1900],
 .o 9 (.aj .mul) [.ki 365,8],
 .M 10 3,
 .o 11 (.aj .quo) [10,.ki 4],
 .M 12 3,
 .o 13 (.aj .quo) [12,.ki 100],
 .o 14 (.aj .sub) [11,13],
 .M 15 3,
 .o 16 (.aj .quo) [15,.ki 400],
 .o 17 (.aj .add) [14,16],
 .o 18 (.aj .add) [9,17],
 .M 19 4,
 .o 20 (.aj .quo) [19,.ki 4],
 .M 21 4,
 .o 22 (.aj .quo) [21,.ki 100],
 .o 23 (.aj .sub) [20,22],
 .M 24 4,
 .o 25 (.aj .quo) [24,.ki 400],
 .o 26 (.aj .add) [23,25],
 .o 27 (.aj .sub) [18,26],
 .M 2 27])
 .ret)))⟩
def Ui:EF:=⟨[0],[.tmp 2],(.seq (.region 0 [.C 2 (.bool false)])
 (.seq (.region 0 [.M 3 0,
 .o 4 (.aj .geq) [3,.ki 0],
 .M 5 4,
 .g 5 true 6 .aT [0],
 .g 5 true 7 (.aj .leq) [6,.ki 109572],
 .o 8 .pick [5,7,.kb false],
 .M 2 8])
 .ret))⟩
def NI:EF:=⟨[0,1],[.tmp 4,.tmp 5],(.seq (.region 0 [.C 4 (.int .i64 0),
 .C 5 .aK])
 (.seq (.region 0 [.M 6 0,
 .M 7 1,
 .M 8 0,
 .M 9 1,
 .o 10 (.ah jv) [8,9],
 .o 11 (.build [.int .i64 0,.int .i64 0,.int .i64 0] [(0,1),(1,1),(2,1)]) [6,7,10],
 .o 12 (.ah xK) [11],
 .o 13 (.ext 0) [12],
 .o 14 (.ext 1) [12],
 .M 4 13,
 .M 5 14])
 .ret))⟩
def KL:EF:=⟨[0,1],[.tmp 4],(.seq (.region 0 [.C 4 (.bool false)])
 (.seq (.region 0 [.M 5 0,
 .M 6 1,
 .o 7 (.ah lY) [5,6],
 .o 8 (.aj .geq) [7,.ki 0],
 .M 4 8])
 .ret))⟩
def ald:EF:=⟨[0],[.tmp 2],(.seq (.region 1 [.o 1 (.box 0) [0],
 .C 2 (.bool false)])
 (.seq (.region 0 [.o 3 (.aU 6) [1],
 .o 4 (.ah Jl) [3],
 .o 5 .not [4],
 .M 2 5])
 .ret))⟩
def ank:EF:=⟨[0],[.tmp 2],(.seq (.region 1 [.o 1 (.box 0) [0],
 .C 2 (.bool false)])
 (.seq (.seq (.region 0 [.o 4 (.aC 0) [1],
 .o 5 .ak [4]])
 (.block 0 (.seq (.region 0 [.o 7 (.aj .eql) [5,.ki 1],
 .M 6 7])
 (.cond (.t 6) (.seq (.drawn 0 [(0,.o 8 (.aC 2) [1]),
 (1,.o 9 .ak [8]),
 (2,.o 10 (.aC 1) [1]),
 (3,.o 11 .ak [10]),
 (4,.o 12 (.ah jv) [.ki 2000,11]),
 (5,.o 13 (.ah nO) [9,.ki 1,12]),
 (6,.M 14 13),
 (7,.g 14 true 15 (.aC 3) [1]),
 (8,.g 14 true 16 .ak [15]),
 (9,.g 14 true 17 (.aj .eql) [16,.ki 0]),
 (10,.o 18 .pick [14,17,.kb false]),
 (11,.M 19 18),
 (12,.g 19 true 20 (.aC 4) [1]),
 (13,.g 19 true 21 .ak [20]),
 (14,.g 19 true 22 (.aj .eql) [21,.ki 0]),
 (15,.o 23 .pick [19,22,.kb false]),
 (16,.M 2 23)])
 .ret)
 (.seq (.region 0 [.o 25 (.aj .eql) [5,.ki 2],
 .M 24 25])
 (.cond (.t 24) (.seq (.region 0 [.o 26 (.aC 3) [1],
 .o 27 .ak [26],
 .o 28 (.ah nO) [27,.ki 1,.ki 5],
 .M 29 28,
 .g 29 false 30 (.aC 3) [1],
 .g 29 false 31 .ak [30],
 .g 29 false 32 (.aj .eql) [31,.ki (-1)],
 .o 33 .pick [29,.kb true,32],
 .M 3 33])
 (.seq (.region 0 [.o 34 (.aC 1) [1],
 .o 35 .ak [34],
 .o 36 (.ah nO) [35,.ki 1,.ki 12],
 .M 37 36,
 .g 37 true 38 .aT [3],
 .o 39 .pick [37,38,.kb false],
 .M 40 39,
 .g 40 true 41 (.aC 4) [1],
 .g 40 true 42 .ak [41],
 .g 40 true 43 (.ah nO) [42,.ki 0,.ki 6],
 .o 44 .pick [40,43,.kb false],
 .M 45 44,
 .g 45 true 46 (.aC 2) [1],
 .g 45 true 47 .ak [46],
 .g 45 true 48 (.aj .eql) [47,.ki 0],
 .o 49 .pick [45,48,.kb false],
 .M 50 49,
 .g 50 true 51 (.aC 5) [1],
 .g 50 true 52 .ak [51],
 .g 50 true 53 .not [52],
 .o 54 .pick [50,53,.kb false],
 .M 2 54])
 .ret))
 (.seq (.region 0 [.o 56 (.aj .eql) [5,.ki 3],
 .M 55 56])
 (.cond (.t 55) (.seq (.region 0 [.o 57 (.aC 3) [1],
 .o 58 .ak [57],
 .o 59 (.ah nO) [58,.ki (-100),.ki 100],
 .M 60 59,
 .g 60 true 61 (.aC 1) [1],
 .g 60 true 62 .ak [61],
 .g 60 true 63 (.aj .eql) [62,.ki 0],
 .o 64 .pick [60,63,.kb false],
 .M 65 64,
 .g 65 true 66 (.aC 2) [1],
 .g 65 true 67 .ak [66],
 .g 65 true 68 (.aj .eql) [67,.ki 0],
 .o 69 .pick [65,68,.kb false],
 .M 70 69,
 .g 70 true 71 (.aC 4) [1],
 .g 70 true 72 .ak [71],
 .g 70 true 73 (.aj .eql) [72,.ki 0],
 .o 74 .pick [70,73,.kb false],
 .M 75 74,
 .g 75 true 76 (.aC 5) [1],
 .g 75 true 77 .ak [76],
 .g 75 true 78 .not [77],
 .o 79 .pick [75,78,.kb false],
 .M 2 79])
 .ret)
 .skip))))))))
 (.seq (.region 0 [.C 2 (.bool false)])
 .ret)))⟩
def P7:EF:=⟨[0,1],[.tmp 4],(.seq (.region 0 [.C 4 (.bool false)])
 (.seq (.region 0 [.M 5 0,
 .M 6 1,
 .o 7 (.ah rJ) [5,6],
 .o 8 (.aj .geq) [7,.ki 0],
 .M 4 8])
 .ret))⟩
def ale:EF:=⟨[0],[.tmp 2],(.seq (.region 0 [.C 2 (.bool false)])
 (.seq (.region 0 [.M 3 0,
 .o 4 (.ah fF) [3],
 .o 5 (.aj .lss) [4,.ki 0],
 .M 2 5])
 .ret))⟩
def PV:EF:=⟨[0,1],[.tmp 4,.tmp 5],(.seq (.region 1 [.o 2 (.box 0) [0],
 .C 4 (.int .i64 0),
 .C 5 (.bool false)])
 (.seq (.seq (.region 0 [.o 9 (.aU 6) [2],
 .o 10 (.ah Jl) [9],
 .o 11 .not [10]])
 (.cond (.t 11) (.seq (.region 0 [.C 4 (.int .i64 0),
 .C 5 (.bool false)])
 .ret)
 .skip))
 (.seq (.region 0 [.C 6 (.int .i64 0),
 .C 7 (.bool true)])
 (.seq (.region 0 [.C 8 .aK])
 (.seq (.seq (.region 0 [.o 12 (.aC 0) [2],
 .o 13 .ak [12]])
 (.join [2,6,7,8] (.block 0 (.seq (.region 0 [.o 15 (.aj .eql) [13,.ki 1],
 .M 14 15])
 (.join [2,6,7,8] (.cond (.t 14) (.region 0 [.M 17 1,
 .o 18 (.aC 1) [2],
 .o 19 .ak [18],
 .o 20 (.aC 2) [2],
 .o 21 .ak [20],
 .o 22 (.build [.int .i64 0,.int .i64 0,.int .i64 0] [(0,1),(1,1),(2,1)]) [17,19,21],
 .o 23 (.ah xK) [22],
 .M 16 23,
 .o 24 (.ext 0) [16],
 .o 25 (.ext 1) [16],
 .M 6 24,
 .M 8 25])
 (.seq (.region 0 [.o 27 (.aj .eql) [13,.ki 2],
 .M 26 27])
 (.join [2,6,7,8] (.cond (.t 26) (.region 0 [.o 29 (.aU 6) [2],
 .M 30 1,
 .o 31 (.ah Rn) [29,30],
 .M 28 31,
 .o 32 (.ext 0) [28],
 .o 33 (.ext 1) [28],
 .M 6 32,
 .M 7 33])
 (.seq (.region 0 [.o 35 (.aj .eql) [13,.ki 3],
 .M 34 35])
 (.join [2,6,7,8] (.cond (.t 34) (.seq (.region 0 [.M 37 1,
 .o 38 (.ah y7) [37],
 .M 36 38,
 .o 39 (.ext 0) [36],
 .o 40 (.ext 1) [36],
 .M 6 39,
 .M 8 40])
 (.region 0 [.M 41 6,
 .o 42 (.aC 3) [2],
 .o 43 .ak [42],
 .o 44 (.aj .add) [41,43],
 .M 6 44]))
 .skip))))))))))))
 (.seq (.seq (.region 0 [.M 45 8,
 .o 46 (.eqN true true) [45,.k .aK],
 .M 47 46,
 .g 47 false 48 .aT [7],
 .g 47 false 49 .not [48],
 .o 50 .pick [47,.kb true,49]])
 (.cond (.t 50) (.seq (.region 0 [.C 4 (.int .i64 0),
 .C 5 (.bool false)])
 .ret)
 .skip))
 (.seq (.seq (.region 0 [.o 51 (.aC 5) [2],
 .o 52 .ak [51]])
 (.join [6] (.cond (.t 52) (.region 0 [.M 53 6,
 .o 54 (.ah EX) [53],
 .M 6 54])
 .skip)))
 (.seq (.seq (.region 0 [.M 55 6,
 .o 56 (.ah nO) [55,.ki 0,.ki 109572],
 .o 57 .not [56]])
 (.cond (.t 57) (.seq (.region 0 [.C 4 (.int .i64 0),
 .C 5 (.bool false)])
 .ret)
 .skip))
 (.seq (.region 0 [.M 58 6,
 .M 4 58,
 .C 5 (.bool true)])
 .ret)))))))))⟩
def WM:EC:=(.seq (.seq (.region 0 [.M 7 1,
 .o 8 (.ah fF) [7],
 .o 9 (.aj .geq) [8,.ki 0]])
 (.cond (.t 9) .skip
 (.exit 0)))
 (.seq (.block 1 (.seq (.region 0 [.M 13 0,
 .M 14 1,
 .o 15 (.ah xX) [13,14]])
 (.cond (.t 15) (.seq (.region 0 [.M 16 1,
 .M 6 16])
 .ret)
 .skip)))
 (.region 0 [.M 10 1,
 .M 11 2,
 .o 12 (.aj .add) [10,11],
 .M 1 12])))
def ahY:EF:=⟨[0,1,2],[.tmp 6],(.seq (.region 0 [.C 6 (.int .i64 0)])
 (.seq (.block 0 (.loop [0,1,2] [6] WM))
 (.seq (.region 0 [.C 6 (.int .i64 (-1))])
 .ret)))⟩
def aji:EF:=⟨[0,1],[.tmp 4],(.seq (.region 0 [.C 4 (.bool false)])
 (.seq (.region 1 [.M 10 0,
 .o 11 (.ah gZ) [10],
 .M 9 11,
 .o 12 (.ext 0) [9],
 .o 13 (.ext 1) [9],
 .o 5 (.alloc 0 [.int .i64 0,.int .i64 0,.int .i64 0]) [],
 ⟨.store 3,[5,12],none,none⟩,
 .M 6 13])
 (.seq (.region 1 [.M 15 1,
 .o 16 (.ah gZ) [15],
 .M 14 16,
 .o 17 (.ext 0) [14],
 .o 18 (.ext 1) [14],
 .o 7 (.alloc 0 [.int .i64 0,.int .i64 0,.int .i64 0]) [],
 ⟨.store 3,[7,17],none,none⟩,
 .M 8 18])
 (.seq (.region 0 [.M 19 6,
 .o 20 (.eqN false true) [19,.k .aK],
 .M 21 20,
 .g 21 true 22 (.aC 0) [5],
 .g 21 true 23 .ak [22],
 .g 21 true 24 (.aC 0) [7],
 .g 21 true 25 .ak [24],
 .g 21 true 26 (.aj .eql) [23,25],
 .o 27 .pick [21,26,.kb false],
 .M 28 27,
 .g 28 true 29 (.aC 1) [5],
 .g 28 true 30 .ak [29],
 .g 28 true 31 (.aC 1) [7],
 .g 28 true 32 .ak [31],
 .g 28 true 33 (.aj .eql) [30,32],
 .o 34 .pick [28,33,.kb false],
 .M 4 34])
 .ret))))⟩
def YM:EF:=⟨[],[.tmp 0],(.seq (.region 0 [.C 0 (.bool false)])
 (.seq (.region 0 [.o 19 (.ah oU) [.k (.str [49,50,51,52,53,54,55,56,57,48,49,50,51,52,53,54,55,56,57,48,49,50,51,52,53,54,55,56,57,48])],
 .M 18 19,
 .o 20 (.ext 0) [18],
 .o 21 (.ext 1) [18],
 .M 1 20,
 .M 2 21])
 (.seq (.region 0 [.o 22 (.ah ji) [.k (.int .u64 7)],
 .M 3 22])
 (.seq (.seq (.region 0 [.M 23 1,
 .o 24 (.yV false) [23,.k .aY],
 .M 25 24,
 .g 25 false 26 .aT [3],
 .g 25 false 27 (.yV false) [26,.k .aY],
 .o 28 .pick [25,.kb true,27]])
 (.cond (.t 28) (.seq (.region 0 [.C 0 (.bool false)])
 .ret)
 .skip))
 (.seq (.region 0 [.M 30 1,
 .M 31 3,
 .o 32 (.ah jy) [30,31],
 .M 29 32,
 .o 33 (.ext 0) [29],
 .o 34 (.ext 1) [29],
 .o 35 (.ext 2) [29],
 .M 4 33,
 .M 5 34,
 .M 6 35])
 (.seq (.region 1 [.o 36 (.ah jT) [.ki (-7)],
 .o 37 (.build [.aY,.aY] []) [],
 .o 8 (.alloc 0 [.aY,.aY]) [],
 .M 7 36,
 ⟨.store 2,[8,37],none,none⟩])
 (.seq (.region 0 [.o 39 (.ah lV) [.ki (-6),.ki 4],
 .M 38 39,
 .o 40 (.ext 0) [38],
 .o 41 (.ext 1) [38],
 .M 9 40,
 .M 10 41])
 (.seq (.region 0 [.M 43 9,
 .o 44 (.ah Ou) [43,.ki 2,.ki 1],
 .M 42 44,
 .o 45 (.ext 0) [42],
 .o 46 (.ext 1) [42],
 .M 11 45,
 .M 12 46])
 (.seq (.seq (.region 0 [.M 47 4,
 .o 48 (.yV false) [47,.k .aY],
 .M 49 48,
 .g 49 false 50 .aT [5],
 .g 49 false 51 (.yV false) [50,.k .aY],
 .o 52 .pick [49,.kb true,51],
 .M 53 52,
 .g 53 false 54 .aT [7],
 .g 53 false 55 (.yV false) [54,.k .aY],
 .o 56 .pick [53,.kb true,55],
 .M 57 56,
 .g 57 false 58 .aT [9],
 .g 57 false 59 (.yV false) [58,.k .aY],
 .o 60 .pick [57,.kb true,59]])
 (.cond (.t 60) (.seq (.region 0 [.C 0 (.bool false)])
 .ret)
 .skip))
 (.seq (.region 0 [.o 62 (.ah y5) [.k (.str [45,49,46,53,48])],
 .M 61 62,
 .o 63 (.ext 0) [61],
 .o 64 (.ext 1) [61],
 .o 65 (.ext 2) [61],
 .M 13 63,
 .M 14 64,
 .M 15 65])
 (.seq (.region 0 [.M 67 9,
 .o 68 (.ah Ov) [67,.ki 2],
 .M 66 68,
 .o 69 (.ext 0) [66],
 .o 70 (.ext 1) [66],
 .M 16 69,
 .M 17 70])
 (.seq (.region 0 [.o 71 (.ah wo) [],
 .M 72 71,
 .g 72 true 73 .aT [2],
 .g 72 true 74 (.eqN false true) [73,.k .aK],
 .o 75 .pick [72,74,.kb false],
 .M 76 75,
 .g 76 true 77 .aT [6],
 .g 76 true 78 (.eqN false true) [77,.k .aK],
 .o 79 .pick [76,78,.kb false],
 .M 80 79,
 .g 80 true 81 .aT [4],
 .g 80 true 82 .aT [3],
 .g 80 true 83 (.ah jA) [81,82],
 .g 80 true 84 .aT [5],
 .g 80 true 85 (.ah jw) [83,84],
 .g 80 true 86 .aT [1],
 .g 80 true 87 (.ah lg) [85,86],
 .g 80 true 88 (.aj .eql) [87,.ki 0],
 .o 89 .pick [80,88,.kb false],
 .M 90 89,
 .g 90 true 91 .aT [1],
 .g 90 true 92 (.ah jR) [91],
 .g 90 true 93 (.gq .eql) [92,.k (.str [49,50,51,52,53,54,55,56,57,48,49,50,51,52,53,54,55,56,57,48,49,50,51,52,53,54,55,56,57,48])],
 .o 94 .pick [90,93,.kb false],
 .M 95 94,
 .g 95 true 96 .aT [7],
 .g 95 true 97 (.ah jS) [96],
 .g 95 true 98 (.gq .eql) [97,.k (.str [45,55])],
 .o 99 .pick [95,98,.kb false],
 .M 100 99,
 .g 100 true 101 (.uf jU) [8],
 .g 100 true 102 (.aj .eql) [101,.ki 0],
 .o 103 .pick [100,102,.kb false],
 .M 104 103,
 .g 104 true 105 .aT [10],
 .g 104 true 106 (.eqN false true) [105,.k .aK],
 .o 107 .pick [104,106,.kb false],
 .M 108 107,
 .g 108 true 109 .aT [9],
 .g 108 true 110 (.ah gK) [109],
 .g 108 true 111 (.gq .eql) [110,.k (.str [45,51,47,50])],
 .o 112 .pick [108,111,.kb false],
 .M 113 112,
 .g 113 true 114 .aT [12],
 .g 113 true 115 (.eqN false true) [114,.k .aK],
 .o 116 .pick [113,115,.kb false],
 .M 117 116,
 .g 117 true 118 .aT [11],
 .g 117 true 119 (.gq .eql) [118,.k (.str [45,49,46,53,48])],
 .o 120 .pick [117,119,.kb false],
 .M 121 120,
 .g 121 true 122 .aT [15],
 .g 121 true 123 (.eqN false true) [122,.k .aK],
 .o 124 .pick [121,123,.kb false],
 .M 125 124,
 .g 125 true 126 .aT [14],
 .g 125 true 127 (.aj .eql) [126,.ki 2],
 .o 128 .pick [125,127,.kb false],
 .M 129 128,
 .g 129 true 130 .aT [13],
 .g 129 true 131 .aT [9],
 .g 129 true 132 (.ah lC) [130,131],
 .g 129 true 133 (.aj .eql) [132,.ki 0],
 .o 134 .pick [129,133,.kb false],
 .M 135 134,
 .g 135 true 136 .aT [17],
 .g 135 true 137 (.eqN false true) [136,.k .aK],
 .o 138 .pick [135,137,.kb false],
 .M 139 138,
 .g 139 true 140 .aT [16],
 .g 139 true 141 (.aj .eql) [140,.ki (-2)],
 .o 142 .pick [139,141,.kb false],
 .M 143 142,
 .g 143 true 144 (.ah ji) [.k (.int .u64 10)],
 .g 143 true 145 (.ah uw) [144,.ki 20],
 .g 143 true 146 (.ah EZ) [145,.ki 2],
 .g 143 true 147 (.ah jR) [146],
 .g 143 true 148 (.gq .eql) [147,.k (.str [49,48,48,48,48,48,48,48,48,48,48])],
 .o 149 .pick [143,148,.kb false],
 .M 0 149])
 .ret))))))))))))⟩
def ahU:EF:=⟨[0,1],[.tmp 4],(.seq (.region 0 [.C 4 (.str [])])
 (.seq (.region 0 [.M 6 0,
 .o 7 (.ah strconv_Itoa) [6],
 .M 5 7])
 (.seq (.region 0 [.M 8 1,
 .M 9 5,
 .o 10 .qY [9],
 .o 11 (.aj .sub) [8,10],
 .o 12 .mx [11,.ki 0],
 .o 13 (.ah strings_Repeat) [.k (.str [48]),12],
 .M 14 5,
 .o 15 (.gq .add) [13,14],
 .M 4 15])
 .ret)))⟩
def Uk:EF:=⟨[0],[.tmp 2],(.seq (.region 0 [.C 2 .aY])
 (.seq (.region 0 [.o 3 (.ah ji) [.k (.int .u64 10)],
 .M 4 0,
 .o 5 (.ah uw) [3,4],
 .o 6 (.ah jd) [.kb false,5],
 .M 2 6])
 .ret))⟩
def zQ:EF:=⟨[0],[.tmp 2],(.seq (.region 0 [.C 2 (.int .i64 0)])
 (.seq (.seq (.region 0 [.M 3 0,
 .o 4 (.ah nG) [3]])
 (.cond (.t 4) (.seq (.region 0 [.C 2 (.int .i64 366)])
 .ret)
 .skip))
 (.seq (.region 0 [.C 2 (.int .i64 365)])
 .ret)))⟩
def zN:EF:=⟨[0],[.tmp 2],(.seq (.region 0 [.C 2 (.bool false)])
 (.seq (.region 0 [.M 3 0,
 .o 4 (.aj .rem) [3,.ki 4],
 .o 5 (.aj .eql) [4,.ki 0],
 .M 6 5,
 .g 6 true 7 .aT [0],
 .g 6 true 8 (.aj .rem) [7,.ki 100],
 .g 6 true 9 (.aj .neq) [8,.ki 0],
 .g 6 true 10 .aT [9],
 .g 10 false 11 .aT [0],
 .g 10 false 12 (.aj .rem) [11,.ki 400],
 .g 10 false 13 (.aj .eql) [12,.ki 0],
 .g 6 true 14 .pick [10,.kb true,13],
 .o 15 .pick [6,14,.kb false],
 .M 2 15])
 .ret))⟩
def iq:EC:=(.seq (.seq (.region 0 [.M 35 7,
 .M 36 5,
 .o 37 (.aj .lss) [35,36]])
 (.cond (.t 37) .skip
 (.exit 2)))
 (.seq (.block 3 (.seq (.seq (.region 0 [.M 40 0,
 .M 41 7,
 .o 42 .GZ [40,41],
 .o 43 (.aj .lss) [42,.k (.int .u8 48)],
 .M 44 43,
 .g 44 false 45 .aT [0],
 .g 44 false 46 .aT [7],
 .g 44 false 47 .GZ [45,46],
 .g 44 false 48 (.aj .gtr) [47,.k (.int .u8 57)],
 .o 49 .pick [44,.kb true,48]])
 (.cond (.t 49) (.seq (.region 0 [.C 2 .bH,
 .C 3 (.bool false)])
 .ret)
 .skip))
 (.region 0 [.M 50 6,
 .o 51 (.aj .mul) [50,.k (.int .u64 10)],
 .M 52 0,
 .M 53 7,
 .o 54 .GZ [52,53],
 .o 55 (.aj .sub) [54,.k (.int .u8 48)],
 .o 56 (.conv .u64) [55],
 .o 57 (.aj .add) [51,56],
 .M 6 57])))
 (.region 0 [.M 38 7,
 .o 39 (.aj .add) [38,.ki 1],
 .M 7 39])))
def fD:EC:=(.seq (.seq (.region 0 [.M 28 5,
 .o 29 (.aj .gtr) [28,.ki 0]])
 (.cond (.t 29) .skip
 (.exit 0)))
 (.seq (.block 1 (.seq (.region 0 [.C 6 (.int .u64 0)])
 (.seq (.seq (.region 0 [.M 32 5,
 .o 33 (.aj .sub) [32,.ki 9],
 .o 34 .mx [33,.ki 0],
 .M 7 34])
 (.block 2 (.loop [0,4,5,6,7] [0,2,3,4,5,6] iq)))
 (.region 1 [.M 58 4,
 .M 59 6,
 .o 60 (.Em 1 1 [.int .u64 0] [(0,1)]) [59],
 .o 61 (.app 0 1) [58,60],
 .M 4 61]))))
 (.region 0 [.M 30 5,
 .o 31 (.aj .sub) [30,.ki 9],
 .M 5 31])))
def zH:EF:=⟨[0],[.tmp 2,.tmp 3],(.seq (.region 0 [.C 2 .bH,
 .C 3 (.bool false)])
 (.seq (.seq (.region 0 [.M 8 0,
 .o 9 .qY [8],
 .o 10 (.aj .lss) [9,.ki 1],
 .M 11 10,
 .g 11 false 12 .aT [0],
 .g 11 false 13 .qY [12],
 .g 11 false 14 (.aj .gtr) [13,.ki 4000],
 .o 15 .pick [11,.kb true,14],
 .M 16 15,
 .g 16 false 17 .aT [0],
 .g 16 false 18 .qY [17],
 .g 16 false 19 (.aj .gtr) [18,.ki 1],
 .g 16 false 20 .aT [19],
 .g 20 true 21 .aT [0],
 .g 20 true 22 .GZ [21,.ki 0],
 .g 20 true 23 (.aj .eql) [22,.k (.int .u8 48)],
 .g 16 false 24 .pick [20,23,.kb false],
 .o 25 .pick [16,.kb true,24]])
 (.cond (.t 25) (.seq (.region 0 [.C 2 .bH,
 .C 3 (.bool false)])
 .ret)
 .skip))
 (.seq (.region 0 [.C 4 .bH])
 (.seq (.seq (.region 0 [.M 26 0,
 .o 27 .qY [26],
 .M 5 27])
 (.block 0 (.loop [0,4,5] [2,3,4] fD)))
 (.seq (.region 0 [.M 62 4,
 .o 63 (.uf kR) [62],
 .M 2 63,
 .C 3 (.bool true)])
 .ret)))))⟩
def gQ:EC:=(.seq (.seq (.region 0 [.M 8 7,
 .M 9 0,
 .o 10 .bM [9],
 .o 11 (.aj .lss) [8,10],
 .M 12 11,
 .g 12 false 13 .aT [7],
 .g 12 false 14 .aT [1],
 .g 12 false 15 .bM [14],
 .g 12 false 16 (.aj .lss) [13,15],
 .o 17 .pick [12,.kb true,16],
 .M 18 17,
 .g 18 false 19 .aT [6],
 .g 18 false 20 (.aj .gtr) [19,.k (.int .u64 0)],
 .o 21 .pick [18,.kb true,20]])
 (.cond (.t 21) .skip
 (.exit 0)))
 (.seq (.join [0,1,5,6,7] (.block 1 (.seq (.seq (.region 0 [.M 24 7,
 .M 25 0,
 .o 26 .bM [25],
 .o 27 (.aj .lss) [24,26]])
 (.join [0,1,5,6,7] (.cond (.t 27) (.region 0 [.M 28 6,
 .M 29 0,
 .M 30 7,
 .o 31 (.bF 1) [29,30],
 .o 32 .ak [31],
 .o 33 (.aj .add) [28,32],
 .M 6 33])
 .skip)))
 (.seq (.seq (.region 0 [.M 34 7,
 .M 35 1,
 .o 36 .bM [35],
 .o 37 (.aj .lss) [34,36]])
 (.join [0,1,5,6,7] (.cond (.t 37) (.region 0 [.M 38 6,
 .M 39 1,
 .M 40 7,
 .o 41 (.bF 1) [39,40],
 .o 42 .ak [41],
 .o 43 (.aj .add) [38,42],
 .M 6 43])
 .skip)))
 (.seq (.region 1 [.M 44 5,
 .M 45 6,
 .o 46 (.aj .rem) [45,.k (.int .u64 1000000000)],
 .o 47 (.Em 1 1 [.int .u64 0] [(0,1)]) [46],
 .o 48 (.app 0 1) [44,47],
 .M 5 48])
 (.region 0 [.M 49 6,
 .o 50 (.aj .quo) [49,.k (.int .u64 1000000000)],
 .M 6 50]))))))
 (.region 0 [.M 22 7,
 .o 23 (.aj .add) [22,.ki 1],
 .M 7 23])))
def AV:EF:=⟨[0,1],[.tmp 4],(.seq (.region 0 [.C 4 .bH])
 (.seq (.region 0 [.C 5 .bH])
 (.seq (.region 0 [.C 6 (.int .u64 0)])
 (.seq (.seq (.region 0 [.C 7 (.int .i64 0)])
 (.block 0 (.loop [0,1,5,6,7] [5] gQ)))
 (.seq (.region 0 [.M 51 5,
 .M 4 51])
 .ret)))))⟩
end Go.Ev.Code
