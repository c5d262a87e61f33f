/- A part of the proof of riskZero_card, yieldPar_card, pricePar_card. -/
import Derived.Test.YtheeamloonpolaaGreatDoorCCodeA
set_option linter.unusedVariables false
namespace Go.Ev.Code
open Go.Ev
def Dj:EF:=⟨[0,1],[.tmp 4],(.seq (.region 0 [.C 4 (.int .i64 0)])
 (.seq (.region 1 [.M 10 0,
 .o 11 (.ah gU) [10],
 .M 9 11,
 .o 12 (.ext 0) [9],
 .o 13 (.ext 1) [9],
 .o 5 (.alloc 0 [.int .i64 0,.int .i64 0,.int .i64 0]) [],
 ⟨.store 3,[5,12],none,none⟩,
 .M 6 13])
 (.seq (.region 1 [.M 15 1,
 .o 16 (.ah gU) [15],
 .M 14 16,
 .o 17 (.ext 0) [14],
 .o 18 (.ext 1) [14],
 .o 7 (.alloc 0 [.int .i64 0,.int .i64 0,.int .i64 0]) [],
 ⟨.store 3,[7,17],none,none⟩,
 .M 8 18])
 (.seq (.seq (.region 0 [.M 19 6,
 .o 20 (.eqN true true) [19,.k .aG],
 .M 21 20,
 .g 21 false 22 .aX [8],
 .g 21 false 23 (.eqN true true) [22,.k .aG],
 .o 24 .pick [21,.kb true,23]])
 (.cond (.t 24) (.seq (.region 0 [.C 4 (.int .i64 0)])
 .ret)
 .skip))
 (.seq (.region 0 [.o 25 (.aK 0) [7],
 .o 26 .au [25],
 .o 27 (.aK 0) [5],
 .o 28 .au [27],
 .o 29 (.aj .sub) [26,28],
 .o 30 (.aj .mul) [29,.ki 12],
 .o 31 (.aK 1) [7],
 .o 32 .au [31],
 .o 33 (.aj .add) [30,32],
 .o 34 (.aK 1) [5],
 .o 35 .au [34],
 .o 36 (.aj .sub) [33,35],
 .M 4 36])
 .ret)))))⟩
def TN:EF:=⟨[0],[.tmp 2],(.seq (.region 0 [.C 2 .aV])
 (.seq (.region 0 [.M 6 0,
 .o 7 (.ah lC) [6,.ki 1],
 .M 5 7,
 .o 8 (.ext 0) [5],
 .o 9 (.ext 1) [5],
 .M 3 8,
 .M 4 9])
 (.seq (.region 0 [.M 10 3,
 .M 2 10])
 .ret)))⟩
def Jv:EF:=⟨[0],[.tmp 2,.tmp 3,.tmp 4],(.seq (.region 0 [.C 2 .aV,
 .C 3 (.bool false),
 .C 4 .aG])
 (.seq (.region 0 [.M 9 0,
 .o 10 (.ah wF) [9],
 .M 8 10,
 .o 11 (.ext 0) [8],
 .o 12 (.ext 1) [8],
 .o 13 (.ext 2) [8],
 .M 5 11,
 .M 6 12,
 .M 7 13])
 (.seq (.region 0 [.M 14 5,
 .M 15 6,
 .o 16 (.aj .leq) [15,.ki 6],
 .M 17 7,
 .M 2 14,
 .M 3 16,
 .M 4 17])
 .ret)))⟩
def fH:EC:=(.seq (.region 0 [.o 9 (.aj .lss) [8,7]])
 (.seq (.cond (.t 9) .skip
 (.exit 0))
 (.seq (.block 1 (.seq (.region 0 [.M 10 8,
 .M 5 10])
 (.seq (.region 0 [.M 11 1,
 .M 12 0,
 .M 13 5,
 .o 14 (.bM 2) [12,13],
 .o 15 (.aY 2) [14],
 .o 16 .Es [11,15]])
 (.cond (.t 16) (.seq (.region 0 [.M 17 5,
 .M 4 17])
 .ret)
 .skip))))
 (.region 0 [.o 18 (.aj .add) [8,.ki 1],
 .M 8 18]))))
def lI:EF:=⟨[0,1],[.tmp 4],(.seq (.region 0 [.C 4 (.int .i64 0)])
 (.seq (.seq (.region 0 [.M 6 0,
 .o 7 .b_ [6],
 .C 8 (.int .i64 0)])
 (.block 0 (.loop [0,1,7,8] [4] fH)))
 (.seq (.region 0 [.C 4 (.int .i64 (-1))])
 .ret)))⟩
def Ns:EF:=⟨[0,1],[.tmp 3],(.seq (.region 1 [.o 2 (.box 0) [0],
 .C 3 (.bool false)])
 (.seq (.region 0 [.o 4 (.aK 0) [2],
 .o 5 .au [4],
 .o 6 .au [1],
 .o 7 (.aj .leq) [5,6],
 .M 8 7,
 .g 8 true 9 .au [1],
 .g 8 true 10 (.aK 1) [2],
 .g 8 true 11 .au [10],
 .g 8 true 12 (.aj .lss) [9,11],
 .o 13 .pick [8,12,.kb false],
 .M 3 13])
 .ret))⟩
def yJ:EF:=⟨[0],[.tmp 2],(.seq (.region 0 [.C 2 (.bool false)])
 (.seq (.region 0 [.M 3 0,
 .o 4 (.aj .rem) [3,.ki 4],
 .o 5 (.aj .eql) [4,.ki 0],
 .M 6 5,
 .g 6 true 7 .aX [0],
 .g 6 true 8 (.aj .rem) [7,.ki 100],
 .g 6 true 9 (.aj .neq) [8,.ki 0],
 .g 6 true 10 .aX [9],
 .g 10 false 11 .aX [0],
 .g 10 false 12 (.aj .rem) [11,.ki 400],
 .g 10 false 13 (.aj .eql) [12,.ki 0],
 .g 6 true 14 .pick [10,.kb true,13],
 .o 15 .pick [6,14,.kb false],
 .M 2 15])
 .ret))⟩
def Ue:EF:=⟨[0],[.tmp 2,.tmp 3],(.seq (.region 0 [.C 2 .aV,
 .C 3 .aG])
 (.seq (.region 0 [.M 14 0,
 .o 15 (.ah strings_Cut) [14,.k (.str [47])],
 .M 13 15,
 .o 16 (.ext 0) [13],
 .o 17 (.ext 1) [13],
 .o 18 (.ext 2) [13],
 .M 4 16,
 .M 5 17,
 .M 6 18])
 (.seq (.seq (.region 0 [.M 19 6,
 .o 20 .not [19]])
 (.join [0,4,5] (.cond (.t 20) (.region 0 [.C 5 (.str [49])])
 .skip)))
 (.seq (.region 0 [.M 22 4,
 .o 23 (.ah LU) [22],
 .M 21 23,
 .o 24 (.ext 0) [21],
 .o 25 (.ext 1) [21],
 .M 7 24,
 .M 8 25])
 (.seq (.region 0 [.M 27 5,
 .o 28 (.ah nM) [27],
 .M 26 28,
 .o 29 (.ext 0) [26],
 .o 30 (.ext 1) [26],
 .M 9 29,
 .M 10 30])
 (.seq (.seq (.region 0 [.M 31 8,
 .o 32 (.eqN true true) [31,.k .aG],
 .M 33 32,
 .g 33 false 34 .aX [10],
 .g 33 false 35 (.eqN true true) [34,.k .aG],
 .o 36 .pick [33,.kb true,35],
 .M 37 36,
 .g 37 false 38 .aX [9],
 .g 37 false 39 (.ah fQ) [38],
 .o 40 .pick [37,.kb true,39]])
 (.cond (.t 40) (.seq (.region 0 [.o 41 (.ah dG) [.ki 1],
 .C 2 .aV,
 .M 3 41])
 .ret)
 .skip))
 (.seq (.region 0 [.M 43 7,
 .M 44 9,
 .o 45 (.ah iH) [.kb false,44],
 .o 46 (.ah oL) [43,45],
 .M 42 46,
 .o 47 (.ext 0) [42],
 .o 48 (.ext 1) [42],
 .M 11 47,
 .M 12 48])
 (.seq (.seq (.region 0 [.M 49 11,
 .o 50 (.ah fE) [49],
 .M 51 0,
 .o 52 (.eX .neq) [50,51]])
 (.cond (.t 52) (.seq (.region 0 [.o 53 (.ah dG) [.ki 1],
 .C 2 .aV,
 .M 3 53])
 .ret)
 .skip))
 (.seq (.region 0 [.M 54 11,
 .M 2 54,
 .C 3 .aG])
 .ret)))))))))⟩
def Ub:EF:=⟨[0,1],[.tmp 4],(.seq (.region 0 [.C 4 .aV])
 (.seq (.region 1 [.M 5 0,
 .M 6 5,
 .g 6 true 7 .aX [1],
 .g 6 true 8 (.ah fQ) [7],
 .g 6 true 9 .not [8],
 .o 10 .pick [6,9,.kb false],
 .M 11 1,
 .o 12 (.build [.bool false,.aV] [(0,1),(1,1)]) [10,11],
 .o 13 (.box 0) [12],
 .M 4 13])
 .ret))⟩
def WS:EF:=⟨[0],[.tmp 2],(.seq (.region 0 [.C 2 .aV])
 (.seq (.region 0 [.M 3 0,
 .o 4 (.Df 1 1 [.int .u64 0] [(0,1)]) [3],
 .o 5 (.ah gI) [4],
 .M 2 5])
 .ret))⟩
def GY:EF:=⟨[0],[.tmp 2],(.seq (.region 0 [.C 2 .aV])
 (.seq (.seq (.region 0 [.M 3 0,
 .o 4 (.xO false) [3,.k .aV],
 .M 5 4,
 .g 5 false 6 .aX [0],
 .g 5 false 7 .oP [6],
 .g 5 false 8 (.aK 1) [7],
 .g 5 false 9 .au [8],
 .g 5 false 10 (.xO false) [9,.k .aV],
 .o 11 .pick [5,.kb true,10]])
 (.cond (.t 11) (.seq (.region 0 [.o 12 (.ah iW) [.k (.int .u64 0)],
 .M 2 12])
 .ret)
 .skip))
 (.seq (.region 0 [.M 13 0,
 .o 14 .oP [13],
 .o 15 (.aK 1) [14],
 .o 16 .au [15],
 .M 2 16])
 .ret)))⟩
def qU:EC:=(.seq (.region 0 [.o 36 (.aj .lss) [35,34]])
 (.seq (.cond (.t 36) .skip
 (.exit 2))
 (.seq (.block 3 (.seq (.region 0 [.M 37 35,
 .o 38 (.bM 1) [33,35],
 .o 39 .au [38],
 .M 11 37,
 .M 12 39])
 (.seq (.region 0 [.M 41 9,
 .M 42 12,
 .o 43 (.ah bits_Mul64) [41,42],
 .M 40 43,
 .o 44 (.ext 0) [40],
 .o 45 (.ext 1) [40],
 .M 13 44,
 .M 14 45])
 (.seq (.region 0 [.C 15 (.int .u64 0)])
 (.seq (.region 0 [.M 47 14,
 .M 48 7,
 .M 49 8,
 .M 50 11,
 .o 51 (.aj .add) [49,50],
 .o 52 (.bM 1) [48,51],
 .o 53 .au [52],
 .o 54 (.ah bits_Add64) [47,53,.k (.int .u64 0)],
 .M 46 54,
 .o 55 (.ext 0) [46],
 .o 56 (.ext 1) [46],
 .M 14 55,
 .M 15 56])
 (.seq (.region 0 [.M 57 13,
 .M 58 15,
 .o 59 (.aj .add) [57,58],
 .M 13 59])
 (.seq (.region 0 [.M 61 14,
 .M 62 10,
 .o 63 (.ah bits_Add64) [61,62,.k (.int .u64 0)],
 .M 60 63,
 .o 64 (.ext 0) [60],
 .o 65 (.ext 1) [60],
 .M 14 64,
 .M 15 65])
 (.region 0 [.M 66 7,
 .M 67 8,
 .M 68 11,
 .o 69 (.aj .add) [67,68],
 .M 70 14,
 .M 71 13,
 .M 72 15,
 .o 73 (.aj .add) [71,72],
 .o 74 (.bM 1) [66,69],
 ⟨.store 1,[74,70],none,none⟩,
 .M 10 73]))))))))
 (.region 0 [.o 75 (.aj .add) [35,.ki 1],
 .M 35 75]))))
def qV:EC:=(.seq (.region 0 [.o 29 (.aj .lss) [28,27]])
 (.seq (.cond (.t 29) .skip
 (.exit 0))
 (.seq (.block 1 (.seq (.region 0 [.M 30 28,
 .o 31 (.bM 1) [26,28],
 .o 32 .au [31],
 .M 8 30,
 .M 9 32])
 (.seq (.region 0 [.C 10 (.int .u64 0)])
 (.seq (.seq (.region 0 [.M 33 6,
 .o 34 .b_ [33],
 .C 35 (.int .i64 0)])
 (.block 2 (.loop [6,7,8,9,10,26,27,28,33,34,35] [6,7,8,10,26,27,28] qU)))
 (.region 0 [.M 76 7,
 .M 77 8,
 .M 78 6,
 .o 79 .b_ [78],
 .o 80 (.aj .add) [77,79],
 .M 81 10,
 .o 82 (.bM 1) [76,80],
 ⟨.store 1,[82,81],none,none⟩])))))
 (.region 0 [.o 83 (.aj .add) [28,.ki 1],
 .M 28 83]))))
def GR:EF:=⟨[0,1],[.tmp 4],(.seq (.region 0 [.C 4 .aV])
 (.seq (.region 0 [.M 16 0,
 .o 17 (.ah dI) [16],
 .M 18 1,
 .o 19 (.ah dI) [18],
 .M 5 17,
 .M 6 19])
 (.seq (.region 1 [.M 20 5,
 .o 21 .b_ [20],
 .M 22 6,
 .o 23 .b_ [22],
 .o 24 (.aj .add) [21,23],
 .o 25 (.Iu 0 1 [.int .u64 0]) [24,24],
 .M 7 25])
 (.seq (.seq (.region 0 [.M 26 5,
 .o 27 .b_ [26],
 .C 28 (.int .i64 0)])
 (.block 0 (.loop [6,7,26,27,28] [7] qV)))
 (.seq (.region 0 [.M 84 7,
 .o 85 (.xG gI) [84],
 .M 4 85])
 .ret)))))⟩
def oJ:EC:=(.seq (.region 0 [.o 29 (.aj .lss) [28,27]])
 (.seq (.cond (.t 29) .skip
 (.exit 0))
 (.seq (.join [5,6,7,8,27,28] (.block 1 (.seq (.region 0 [.M 30 28,
 .M 9 30])
 (.seq (.region 0 [.C 10 (.int .u64 0)])
 (.seq (.seq (.region 0 [.M 31 9,
 .M 32 6,
 .o 33 .b_ [32],
 .o 34 (.aj .lss) [31,33]])
 (.join [5,6,7,8,9,10,27,28] (.cond (.t 34) (.region 0 [.M 35 6,
 .M 36 9,
 .o 37 (.bM 1) [35,36],
 .o 38 .au [37],
 .M 10 38])
 .skip)))
 (.region 0 [.M 40 7,
 .M 41 9,
 .M 42 5,
 .M 43 9,
 .o 44 (.bM 1) [42,43],
 .o 45 .au [44],
 .M 46 10,
 .M 47 8,
 .o 48 (.ah bits_Add64) [45,46,47],
 .M 39 48,
 .o 49 (.ext 0) [39],
 .o 50 (.ext 1) [39],
 .o 51 (.bM 1) [40,41],
 ⟨.store 1,[51,49],none,none⟩,
 .M 8 50]))))))
 (.region 0 [.o 52 (.aj .add) [28,.ki 1],
 .M 28 52]))))
def GI:EF:=⟨[0,1],[.tmp 4],(.seq (.region 0 [.C 4 .aV])
 (.seq (.region 0 [.M 11 0,
 .o 12 (.ah dI) [11],
 .M 13 1,
 .o 14 (.ah dI) [13],
 .M 5 12,
 .M 6 14])
 (.seq (.seq (.region 0 [.M 15 5,
 .o 16 .b_ [15],
 .M 17 6,
 .o 18 .b_ [17],
 .o 19 (.aj .lss) [16,18]])
 (.join [5,6] (.cond (.t 19) (.region 0 [.M 20 6,
 .M 21 5,
 .M 5 20,
 .M 6 21])
 .skip)))
 (.seq (.region 1 [.M 22 5,
 .o 23 .b_ [22],
 .o 24 (.aj .add) [23,.ki 1],
 .o 25 (.Iu 0 1 [.int .u64 0]) [24,24],
 .M 7 25])
 (.seq (.region 0 [.C 8 (.int .u64 0)])
 (.seq (.seq (.region 0 [.M 26 5,
 .o 27 .b_ [26],
 .C 28 (.int .i64 0)])
 (.block 0 (.loop [5,6,7,8,27,28] [5,7,8] oJ)))
 (.seq (.region 0 [.M 53 7,
 .M 54 5,
 .o 55 .b_ [54],
 .M 56 8,
 .o 57 (.bM 1) [53,55],
 ⟨.store 1,[57,56],none,none⟩])
 (.seq (.region 0 [.M 58 7,
 .o 59 (.xG gI) [58],
 .M 4 59])
 .ret))))))))⟩
def GK:EF:=⟨[0,1],[.tmp 4],(.seq (.region 0 [.C 4 (.int .i64 0)])
 (.seq (.region 0 [.M 5 0,
 .o 6 (.ah dI) [5],
 .M 7 1,
 .o 8 (.ah dI) [7],
 .o 9 (.ah nS) [6,8],
 .M 4 9])
 .ret))⟩
def qW:EC:=(.seq (.region 0 [.o 27 (.aj .lss) [26,25]])
 (.seq (.cond (.t 27) .skip
 (.exit 0))
 (.seq (.join [6,7,8,9,25,26] (.block 1 (.seq (.region 0 [.M 28 26,
 .M 10 28])
 (.seq (.region 0 [.C 11 (.int .u64 0)])
 (.seq (.seq (.region 0 [.M 29 10,
 .M 30 7,
 .o 31 .b_ [30],
 .o 32 (.aj .lss) [29,31]])
 (.join [6,7,8,9,10,11,25,26] (.cond (.t 32) (.region 0 [.M 33 7,
 .M 34 10,
 .o 35 (.bM 1) [33,34],
 .o 36 .au [35],
 .M 11 36])
 .skip)))
 (.region 0 [.M 38 8,
 .M 39 10,
 .M 40 6,
 .M 41 10,
 .o 42 (.bM 1) [40,41],
 .o 43 .au [42],
 .M 44 11,
 .M 45 9,
 .o 46 (.ah bits_Sub64) [43,44,45],
 .M 37 46,
 .o 47 (.ext 0) [37],
 .o 48 (.ext 1) [37],
 .o 49 (.bM 1) [38,39],
 ⟨.store 1,[49,47],none,none⟩,
 .M 9 48]))))))
 (.region 0 [.o 50 (.aj .add) [26,.ki 1],
 .M 26 50]))))
def GV:EF:=⟨[0,1],[.tmp 4,.tmp 5],(.seq (.region 0 [.C 4 .aV,
 .C 5 .aG])
 (.seq (.region 0 [.M 12 0,
 .o 13 (.ah dI) [12],
 .M 14 1,
 .o 15 (.ah dI) [14],
 .M 6 13,
 .M 7 15])
 (.seq (.seq (.region 0 [.M 16 6,
 .M 17 7,
 .o 18 (.ah nS) [16,17],
 .o 19 (.aj .lss) [18,.ki 0]])
 (.cond (.t 19) (.seq (.region 0 [.o 20 (.ah dG) [.ki 2],
 .C 4 .aV,
 .M 5 20])
 .ret)
 .skip))
 (.seq (.region 1 [.M 21 6,
 .o 22 .b_ [21],
 .o 23 (.Iu 0 1 [.int .u64 0]) [22,22],
 .M 8 23])
 (.seq (.region 0 [.C 9 (.int .u64 0)])
 (.seq (.seq (.region 0 [.M 24 6,
 .o 25 .b_ [24],
 .C 26 (.int .i64 0)])
 (.block 0 (.loop [6,7,8,9,25,26] [8] qW)))
 (.seq (.region 0 [.M 51 8,
 .o 52 (.xG gI) [51],
 .M 4 52,
 .C 5 .aG])
 .ret)))))))⟩
def pR:EC:=(.seq (.region 0 [.o 21 (.aj .lss) [20,19]])
 (.seq (.cond (.t 21) .skip
 (.exit 0))
 (.seq (.block 1 (.seq (.region 0 [.o 22 (.bM 1) [18,20],
 .o 23 .au [22],
 .M 6 23])
 (.seq (.region 0 [.M 24 4,
 .o 25 (.ah bV) [24],
 .M 26 6,
 .o 27 (.ah dD) [26],
 .o 28 (.ah bV) [27],
 .o 29 (.ah oZ) [25,28],
 .o 30 (.ah iH) [.kb false,29],
 .M 7 30])
 (.seq (.region 0 [.M 32 6,
 .o 33 (.ah dD) [32],
 .M 34 7,
 .o 35 (.ah rW) [33,34],
 .M 31 35,
 .o 36 (.ext 0) [31],
 .o 37 (.ext 1) [31],
 .o 38 (.ext 2) [31],
 .M 8 36,
 .M 9 37,
 .M 10 38])
 (.region 0 [.M 39 4,
 .M 40 8,
 .o 41 (.ah bW) [39,40],
 .M 4 41])))))
 (.region 0 [.o 42 (.aj .add) [20,.ki 1],
 .M 20 42]))))
def nH:EC:=(.seq (.region 0 [.o 46 (.aj .lss) [45,44]])
 (.seq (.cond (.t 46) .skip
 (.exit 2))
 (.seq (.block 3 (.seq (.region 0 [.o 47 (.bM 1) [43,45],
 .o 48 .au [47],
 .M 13 48])
 (.seq (.region 0 [.M 50 4,
 .M 51 13,
 .o 52 (.ah dD) [51],
 .o 53 (.ah rW) [50,52],
 .M 49 53,
 .o 54 (.ext 0) [49],
 .o 55 (.ext 1) [49],
 .o 56 (.ext 2) [49],
 .M 14 54,
 .M 15 55,
 .M 16 56])
 (.region 1 [.M 57 11,
 .M 58 13,
 .o 59 (.ah dO) [58],
 .M 60 14,
 .o 61 (.ah bW) [59,60],
 .o 62 (.Df 1 1 [.aV] [(0,1)]) [61],
 .o 63 (.app 0 1) [57,62],
 .M 11 63]))))
 (.region 0 [.o 64 (.aj .add) [45,.ki 1],
 .M 45 64]))))
def EM:EF:=⟨[0],[.tmp 2,.tmp 3],(.seq (.region 0 [.C 2 .cu,
 .C 3 .aV])
 (.seq (.region 0 [.o 17 (.ah jI) [.ki 1],
 .M 4 17])
 (.seq (.seq (.region 0 [.M 18 0,
 .o 19 .b_ [18],
 .C 20 (.int .i64 0)])
 (.block 0 (.loop [0,4,18,19,20] [0,4] pR)))
 (.seq (.region 0 [.C 11 .cu])
 (.seq (.seq (.region 0 [.M 43 0,
 .o 44 .b_ [43],
 .C 45 (.int .i64 0)])
 (.block 2 (.loop [4,11,43,44,45] [4,11] nH)))
 (.seq (.region 0 [.M 65 11,
 .M 66 4,
 .M 2 65,
 .M 3 66])
 .ret))))))⟩
def EH:EF:=⟨[0],[.tmp 2],(.seq (.region 0 [.C 2 (.bool false)])
 (.seq (.region 0 [.M 3 0,
 .o 4 (.ah dI) [3],
 .o 5 .b_ [4],
 .o 6 (.aj .eql) [5,.ki 0],
 .M 2 6])
 .ret))⟩
def GN:EF:=⟨[0,1],[.tmp 4],(.seq (.region 0 [.C 4 .aV])
 (.seq (.seq (.region 0 [.M 8 0,
 .M 9 1,
 .o 10 (.ah kQ) [8,9],
 .o 11 (.aj .lss) [10,.ki 0]])
 (.join [0,1] (.cond (.t 11) (.region 0 [.M 12 1,
 .M 13 0,
 .M 0 12,
 .M 1 13])
 .skip)))
 (.seq (.seq (.region 0 [.M 14 1,
 .o 15 (.ah fQ) [14]])
 (.cond (.t 15) (.seq (.region 0 [.M 16 0,
 .o 17 (.ah dI) [16],
 .o 18 (.ah gI) [17],
 .M 4 18])
 .ret)
 .skip))
 (.seq (.region 0 [.M 20 0,
 .M 21 1,
 .o 22 (.ah jl) [20,21],
 .M 19 22,
 .o 23 (.ext 0) [19],
 .o 24 (.ext 1) [19],
 .o 25 (.ext 2) [19],
 .M 5 23,
 .M 6 24,
 .M 7 25])
 (.seq (.seq (.region 0 [.M 26 6,
 .o 27 (.ah fQ) [26]])
 (.cond (.t 27) (.seq (.region 0 [.M 28 1,
 .o 29 (.ah dI) [28],
 .o 30 (.ah gI) [29],
 .M 4 30])
 .ret)
 .skip))
 (.seq (.region 0 [.M 31 1,
 .o 32 (.ah dI) [31],
 .M 33 6,
 .o 34 (.ah dI) [33],
 .o 35 (.ah yL) [32,34],
 .M 4 35])
 .ret))))))⟩
def GL:EF:=⟨[0,1],[.tmp 4,.tmp 5,.tmp 6],(.seq (.region 0 [.C 4 .aV,
 .C 5 .aV,
 .C 6 .aG])
 (.seq (.region 0 [.M 13 0,
 .o 14 (.ah dI) [13],
 .M 15 1,
 .o 16 (.ah dI) [15],
 .M 7 14,
 .M 8 16])
 (.seq (.block 0 (.seq (.region 0 [.M 18 8,
 .o 19 .b_ [18],
 .o 20 (.aj .eql) [19,.ki 0],
 .M 17 20])
 (.cond (.t 17) (.seq (.region 0 [.o 21 (.ah dG) [.ki 3],
 .C 4 .aV,
 .C 5 .aV,
 .M 6 21])
 .ret)
 (.seq (.region 0 [.M 23 7,
 .M 24 8,
 .o 25 (.ah nS) [23,24],
 .o 26 (.aj .lss) [25,.ki 0],
 .M 22 26])
 (.cond (.t 22) (.seq (.region 0 [.o 27 (.ah iW) [.k (.int .u64 0)],
 .M 28 7,
 .o 29 (.ah gI) [28],
 .M 4 27,
 .M 5 29,
 .C 6 .aG])
 .ret)
 (.seq (.region 0 [.M 31 8,
 .o 32 .b_ [31],
 .o 33 (.aj .eql) [32,.ki 1],
 .M 30 33])
 (.cond (.t 30) (.seq (.region 0 [.M 35 7,
 .M 36 8,
 .o 37 (.bM 1) [36,.ki 0],
 .o 38 .au [37],
 .o 39 (.ah yN) [35,38],
 .M 34 39,
 .o 40 (.ext 0) [34],
 .o 41 (.ext 1) [34],
 .M 9 40,
 .M 10 41])
 (.seq (.region 0 [.M 42 9,
 .o 43 (.ah gI) [42],
 .M 44 10,
 .o 45 (.ah iW) [44],
 .M 4 43,
 .M 5 45,
 .C 6 .aG])
 .ret))
 .skip)))))))
 (.seq (.region 0 [.M 47 7,
 .M 48 8,
 .o 49 (.ah Iw) [47,48],
 .M 46 49,
 .o 50 (.ext 0) [46],
 .o 51 (.ext 1) [46],
 .M 11 50,
 .M 12 51])
 (.seq (.region 0 [.M 52 11,
 .o 53 (.ah gI) [52],
 .M 54 12,
 .o 55 (.ah gI) [54],
 .M 4 53,
 .M 5 55,
 .C 6 .aG])
 .ret)))))⟩
def G9:EF:=⟨[0,1],[.tmp 4],(.seq (.region 0 [.C 4 .aV])
 (.seq (.region 0 [.M 5 0,
 .M 6 1,
 .o 7 (.ah o9) [6],
 .o 8 (.ah iy) [5,7],
 .M 4 8])
 .ret))⟩
def G6:EF:=⟨[0,1],[.tmp 4,.tmp 5,.tmp 6],(.seq (.region 0 [.C 4 .aV,
 .C 5 .aV,
 .C 6 .aG])
 (.seq (.region 0 [.M 12 0,
 .o 13 (.ah bV) [12],
 .M 14 1,
 .o 15 (.ah bV) [14],
 .o 16 (.ah jl) [13,15],
 .M 11 16,
 .o 17 (.ext 0) [11],
 .o 18 (.ext 1) [11],
 .o 19 (.ext 2) [11],
 .M 7 17,
 .M 8 18,
 .M 9 19])
 (.seq (.seq (.region 0 [.M 20 9,
 .o 21 (.eqN true true) [20,.k .aG]])
 (.cond (.t 21) (.seq (.region 0 [.M 22 9,
 .C 4 .aV,
 .C 5 .aV,
 .M 6 22])
 .ret)
 .skip))
 (.seq (.region 0 [.M 23 0,
 .o 24 (.ah dK) [23],
 .M 25 1,
 .o 26 (.ah dK) [25],
 .o 27 (.aj .mul) [24,26],
 .o 28 (.aj .lss) [27,.ki 0],
 .M 10 28])
 (.seq (.seq (.region 0 [.M 29 10,
 .M 30 29,
 .g 30 true 31 .aX [8],
 .g 30 true 32 (.ah fQ) [31],
 .g 30 true 33 .not [32],
 .o 34 .pick [30,33,.kb false]])
 (.join [1,7,8,10] (.cond (.t 34) (.seq (.region 0 [.M 35 7,
 .o 36 (.ah iW) [.k (.int .u64 1)],
 .o 37 (.ah ji) [35,36],
 .M 7 37])
 (.region 0 [.M 39 1,
 .o 40 (.ah bV) [39],
 .M 41 8,
 .o 42 (.ah nR) [40,41],
 .M 38 42,
 .o 43 (.ext 0) [38],
 .o 44 (.ext 1) [38],
 .M 8 43]))
 .skip)))
 (.seq (.region 0 [.M 45 10,
 .M 46 7,
 .o 47 (.ah iH) [45,46],
 .M 48 1,
 .o 49 (.ah dK) [48],
 .o 50 (.aj .lss) [49,.ki 0],
 .M 51 8,
 .o 52 (.ah iH) [50,51],
 .M 4 47,
 .M 5 52,
 .C 6 .aG])
 .ret))))))⟩
def lu:EC:=(.seq (.seq (.region 0 [.M 10 4,
 .o 11 .b_ [10],
 .o 12 (.aj .gtr) [11,.ki 0]])
 (.cond (.t 12) .skip
 (.exit 0)))
 (.join [3,4] (.block 1 (.seq (.region 0 [.C 5 (.int .u64 0)])
 (.seq (.region 0 [.M 14 4,
 .o 15 (.xG yN) [14,.k (.int .u64 1000000000000000000)],
 .M 13 15,
 .o 16 (.ext 0) [13],
 .o 17 (.ext 1) [13],
 .M 4 16,
 .M 5 17])
 (.seq (.region 0 [.M 18 4,
 .o 19 (.xG gI) [18],
 .o 20 .oP [19],
 .o 21 (.aK 0) [20],
 .o 22 .au [21],
 .M 4 22])
 (.seq (.region 0 [.M 23 5,
 .o 24 (.ah gQ) [23,.ki 10],
 .M 6 24])
 (.seq (.seq (.region 0 [.M 25 4,
 .o 26 .b_ [25],
 .o 27 (.aj .gtr) [26,.ki 0]])
 (.join [3,4,6] (.cond (.t 27) (.region 0 [.M 28 6,
 .o 29 .wV [28],
 .o 30 (.aj .sub) [.ki 18,29],
 .o 31 (.ah strings_Repeat) [.k (.str [48]),30],
 .M 32 6,
 .o 33 (.eX .add) [31,32],
 .M 6 33])
 .skip)))
 (.region 1 [.M 34 3,
 .M 35 6,
 .o 36 (.Df 1 1 [.str []] [(0,1)]) [35],
 .o 37 (.app 0 1) [34,36],
 .M 3 37])))))))))
def EG:EF:=⟨[0],[.tmp 2],(.seq (.region 0 [.C 2 (.str [])])
 (.seq (.region 0 [.C 3 .cu])
 (.seq (.seq (.region 0 [.M 7 0,
 .o 8 (.ah dI) [7],
 .o 9 (.bJ dW) [8],
 .M 4 9])
 (.block 0 (.loop [3,4] [3] lu)))
 (.seq (.seq (.region 0 [.M 38 3,
 .o 39 .b_ [38],
 .o 40 (.aj .eql) [39,.ki 0]])
 (.cond (.t 40) (.seq (.region 0 [.C 2 (.str [48])])
 .ret)
 .skip))
 (.seq (.region 0 [.M 41 3,
 .o 42 (.bJ slices_Reverse_string) [41]])
 (.seq (.region 0 [.M 43 3,
 .o 44 (.xG strings_Join) [43,.k (.str [])],
 .M 2 44])
 .ret))))))⟩
def tH:EF:=⟨[0],[.tmp 2],(.seq (.region 1 [.o 1 (.box 0) [0],
 .C 2 (.int .i64 0)])
 (.seq (.seq (.region 0 [.o 3 (.aK 2) [1],
 .o 4 .au [3]])
 (.join [2] (.block 0 (.seq (.seq (.region 0 [.o 6 (.aj .eql) [4,.ki 1],
 .M 5 6])
 (.join [1,5] (.cond (.t 5) .skip
 (.seq (.region 0 [.o 7 (.aj .eql) [4,.ki 2],
 .M 5 7])
 (.join [1,5] (.cond (.t 5) .skip
 (.seq (.region 0 [.o 8 (.aj .eql) [4,.ki 4],
 .M 5 8])
 (.join [1,5] (.cond (.t 5) .skip
 (.region 0 [.o 9 (.aj .eql) [4,.ki 12],
 .M 5 9]))))))))))
 (.cond (.t 5) (.seq (.region 0 [.o 10 (.aK 2) [1],
 .o 11 .au [10],
 .o 12 (.aj .quo) [.ki 12,11],
 .M 2 12])
 .ret)
 .skip)))))
 (.seq (.region 0 [.C 2 (.int .i64 0)])
 .ret)))⟩
def G_:EF:=⟨[0,1],[.tmp 4,.tmp 5],(.seq (.region 1 [.o 2 (.box 0) [0],
 .C 4 (.int .i64 0),
 .C 5 (.bool false)])
 (.seq (.drawn 0 [(0,.o 9 (.aK 1) [2]),
 (1,.o 10 .au [9]),
 (2,.M 11 1),
 (3,.o 12 .neg [11]),
 (4,.o 13 (.aY 9) [2]),
 (5,.o 14 (.ah lX) [13]),
 (6,.o 15 (.aj .mul) [12,14]),
 (7,.o 16 (.aK 7) [2]),
 (8,.o 17 .au [16]),
 (9,.o 18 (.ah oI) [10,15,17]),
 (10,.M 8 18),
 (11,.o 19 (.ext 0) [8]),
 (12,.o 20 (.ext 1) [8]),
 (13,.M 6 19),
 (14,.M 7 20)])
 (.seq (.drawn 0 [(0,.M 21 6),
 (1,.M 22 7),
 (2,.o 23 (.eqN false true) [22,.k .aG]),
 (3,.M 4 21),
 (4,.M 5 23)])
 .ret)))⟩
def rP:EC:=(.seq (.seq (.region 0 [.M 41 0,
 .o 42 (.eX .neq) [41,.k (.str [])]])
 (.cond (.t 42) .skip
 (.exit 0)))
 (.seq (.block 1 (.seq (.region 0 [.M 44 0,
 .M 45 7,
 .o 46 (.Wi false true) [44,45],
 .o 47 (.ah iO) [46,.ki 10,.ki 64],
 .M 43 47,
 .o 48 (.ext 0) [43],
 .o 49 (.ext 1) [43],
 .M 8 48,
 .M 9 49])
 (.seq (.region 0 [.M 50 5,
 .M 51 6,
 .o 52 (.ah jm) [50,51],
 .M 53 8,
 .o 54 (.ah iW) [53],
 .o 55 (.ah ji) [52,54],
 .M 5 55])
 (.region 0 [.M 56 0,
 .M 57 7,
 .o 58 (.Wi true false) [56,57],
 .M 0 58]))))
 (.region 0 [.C 7 (.int .i64 18)])))
def TW:EF:=⟨[0],[.tmp 2,.tmp 3],(.seq (.region 0 [.C 2 .aV,
 .C 3 .aG])
 (.seq (.region 0 [.M 10 0,
 .o 11 (.eX .eql) [10,.k (.str [])],
 .M 12 11,
 .g 12 false 13 .aX [0],
 .g 12 false 14 .wV [13],
 .g 12 false 15 (.aj .gtr) [14,.ki 4000],
 .o 16 .pick [12,.kb true,15],
 .M 17 16,
 .g 17 false 18 .aX [0],
 .g 17 false 19 .wV [18],
 .g 17 false 20 (.aj .gtr) [19,.ki 1],
 .g 17 false 21 .aX [20],
 .g 21 true 22 .aX [0],
 .g 21 true 23 .Ze [22,.ki 0],
 .g 21 true 24 (.aj .eql) [23,.k (.int .u8 48)],
 .g 17 false 25 .pick [21,24,.kb false],
 .o 26 .pick [17,.kb true,25],
 .M 27 26,
 .g 27 false 28 .aX [0],
 .g 27 false 29 (.ah lV) [28,.k (.str [48,49,50,51,52,53,54,55,56,57])],
 .g 27 false 30 (.eX .neq) [29,.k (.str [])],
 .o 31 .pick [27,.kb true,30],
 .M 4 31])
 (.seq (.seq (.region 0 [.M 32 4])
 (.cond (.t 32) (.seq (.region 0 [.o 33 (.ah dG) [.ki 1],
 .C 2 .aV,
 .M 3 33])
 .ret)
 .skip))
 (.seq (.region 0 [.o 34 (.ah iW) [.k (.int .u64 0)],
 .o 35 (.ah iW) [.k (.int .u64 1000000000000000000)],
 .M 5 34,
 .M 6 35])
 (.seq (.seq (.region 0 [.M 36 0,
 .o 37 .wV [36],
 .o 38 (.aj .sub) [37,.ki 1],
 .o 39 (.aj .rem) [38,.ki 18],
 .o 40 (.aj .add) [39,.ki 1],
 .M 7 40])
 (.block 0 (.loop [0,5,6,7] [5] rP)))
 (.seq (.region 0 [.M 59 5,
 .M 2 59,
 .C 3 .aG])
 .ret))))))⟩
def TU:EF:=⟨[0],[.tmp 2],(.seq (.region 0 [.C 2 .aV])
 (.seq (.region 0 [.o 3 (.ah iW) [.k (.int .u64 10)],
 .M 4 0,
 .o 5 (.ah rQ) [3,4],
 .o 6 (.ah iH) [.kb false,5],
 .M 2 6])
 .ret))⟩
def wR:EC:=(.seq (.seq (.region 0 [.M 27 6,
 .o 28 (.bM 2) [27,.ki 0],
 .o 29 (.aK 0) [28],
 .o 30 .au [29],
 .M 31 1,
 .o 32 (.aj .leq) [30,31]])
 (.cond (.t 32) .skip
 (.exit 0)))
 (.block 1 (.region 0 [.M 33 6,
 .o 34 (.RX 2 true false) [33,.ki 1],
 .M 6 34])))
def Nb:EF:=⟨[0,1],[.tmp 4,.tmp 5],(.seq (.region 1 [.o 2 (.box 0) [0],
 .C 4 (.sl 0 []),
 .C 5 .aG])
 (.seq (.region 0 [.o 9 (.aY 9) [2],
 .o 10 (.bJ zZ) [9],
 .M 8 10,
 .o 11 (.ext 0) [8],
 .o 12 (.ext 1) [8],
 .M 6 11,
 .M 7 12])
 (.seq (.seq (.region 0 [.M 13 7,
 .o 14 (.eqN true true) [13,.k .aG]])
 (.cond (.t 14) (.seq (.region 0 [.M 15 7,
 .C 4 (.sl 0 []),
 .M 5 15])
 .ret)
 .skip))
 (.seq (.seq (.region 0 [.M 16 1,
 .o 17 (.aK 0) [2],
 .o 18 .au [17],
 .o 19 (.aj .lss) [16,18],
 .M 20 19,
 .g 20 false 21 .aX [1],
 .g 20 false 22 (.aK 1) [2],
 .g 20 false 23 .au [22],
 .g 20 false 24 (.aj .geq) [21,23],
 .o 25 .pick [20,.kb true,24]])
 (.cond (.t 25) (.seq (.region 0 [.o 26 (.ah dG) [.ki 6],
 .C 4 (.sl 0 []),
 .M 5 26])
 .ret)
 .skip))
 (.seq (.block 0 (.loop [1,2,6] [1,2,6] wR))
 (.seq (.seq (.drawn 0 [(0,.o 35 (.aK 8) [2]),
 (1,.o 36 .au [35]),
 (2,.o 37 (.aj .gtr) [36,.ki 0]),
 (3,.M 38 37),
 (4,.g 38 true 39 .aX [1]),
 (5,.g 38 true 40 .aX [6]),
 (6,.g 38 true 41 (.bM 2) [40,.ki 0]),
 (7,.g 38 true 42 (.aK 0) [41]),
 (8,.g 38 true 43 .au [42]),
 (9,.g 38 true 44 (.aK 8) [2]),
 (10,.g 38 true 45 .au [44]),
 (11,.g 38 true 46 (.aj .sub) [43,45]),
 (12,.g 38 true 47 (.aj .geq) [39,46]),
 (13,.o 48 .pick [38,47,.kb false])])
 (.join [4,5,6] (.cond (.t 48) (.seq (.seq (.region 0 [.M 49 6,
 .o 50 .b_ [49],
 .o 51 (.aj .gtr) [50,.ki 1]])
 (.cond (.t 51) (.seq (.region 0 [.M 52 6,
 .o 53 (.RX 2 true false) [52,.ki 1],
 .M 4 53,
 .C 5 .aG])
 .ret)
 .skip))
 (.region 0 [.M 54 6,
 .o 55 (.aY 9) [2],
 .o 56 (.ah oW) [55],
 .o 57 (.ah fE) [56],
 .o 58 (.bM 2) [54,.ki 0],
 .o 59 (.aK 1) [58],
 ⟨.store 1,[59,57],none,none⟩]))
 .skip)))
 (.seq (.region 0 [.M 60 6,
 .M 4 60,
 .C 5 .aG])
 .ret)))))))⟩
def iE:EC:=(.seq (.seq (.region 0 [.M 12 7,
 .o 13 (.aK 0) [3],
 .o 14 .au [13],
 .o 15 (.aj .gtr) [12,14]])
 (.cond (.t 15) .skip
 (.exit 0)))
 (.block 1 (.seq (.region 0 [.o 17 (.aY 9) [2],
 .M 18 7,
 .o 19 (.ah pO) [17,18],
 .M 16 19,
 .o 20 (.ext 0) [16],
 .o 21 (.ext 1) [16],
 .M 8 20,
 .M 9 21])
 (.seq (.seq (.region 0 [.M 22 9,
 .o 23 (.eqN true true) [22,.k .aG]])
 (.cond (.t 23) (.seq (.region 0 [.M 24 9,
 .C 4 .cu,
 .M 5 24])
 .ret)
 .skip))
 (.seq (.region 1 [.M 25 6,
 .M 26 8,
 .M 27 7,
 .o 28 (.build [.int .i64 0,.int .i64 0] [(0,1),(1,1)]) [26,27],
 .o 29 (.Df 2 1 [.int .i64 0,.int .i64 0] [(0,2)]) [28],
 .o 30 (.app 0 2) [25,29],
 .M 6 30])
 (.region 0 [.M 31 8,
 .M 7 31]))))))
def Gz:EF:=⟨[0,1],[.tmp 4,.tmp 5],(.seq (.region 2 [.o 2 (.box 0) [0],
 .o 3 (.box 1) [1],
 .C 4 .cu,
 .C 5 .aG])
 (.seq (.region 0 [.C 6 .cu])
 (.seq (.seq (.region 0 [.o 10 (.aK 1) [3],
 .o 11 .au [10],
 .M 7 11])
 (.block 0 (.loop [2,3,6,7] [4,5,6] iE)))
 (.seq (.region 0 [.M 32 6,
 .M 4 32,
 .C 5 .aG])
 .ret))))⟩
def Jy:EF:=⟨[0,1,2,3,4,5],[.tmp 12,.tmp 13],(.seq (.region 0 [.C 12 .aV,
 .C 13 .aG])
 (.seq (.region 0 [.C 14 (.func wO [])])
 (.seq (.block 0 (.seq (.region 0 [.M 21 0,
 .o 22 (.ah yG) [21],
 .o 23 .not [22],
 .M 20 23])
 (.cond (.t 20) (.seq (.region 0 [.o 24 (.ah dG) [.ki 1],
 .C 12 .aV,
 .M 13 24])
 .ret)
 (.seq (.region 0 [.M 26 14,
 .M 27 1,
 .o 28 .Es [26,27],
 .o 29 .not [28],
 .M 30 29,
 .g 30 false 31 .aX [14],
 .g 30 false 32 .aX [2],
 .g 30 false 33 .Es [31,32],
 .g 30 false 34 .not [33],
 .o 35 .pick [30,.kb true,34],
 .M 36 35,
 .g 36 false 37 .aX [2],
 .g 36 false 38 .aX [1],
 .g 36 false 39 (.aj .lss) [37,38],
 .o 40 .pick [36,.kb true,39],
 .M 41 40,
 .g 41 false 42 .aX [0],
 .g 41 false 43 (.aj .eql) [42,.ki 4],
 .g 41 false 44 .aX [43],
 .g 44 true 45 .aX [14],
 .g 44 true 46 .aX [3],
 .g 44 true 47 .Es [45,46],
 .g 44 true 48 .not [47],
 .g 44 true 49 .aX [48],
 .g 49 false 50 .aX [14],
 .g 49 false 51 .aX [4],
 .g 49 false 52 .Es [50,51],
 .g 49 false 53 .not [52],
 .g 44 true 54 .pick [49,.kb true,53],
 .g 41 false 55 .pick [44,54,.kb false],
 .o 56 .pick [41,.kb true,55],
 .M 25 56])
 (.cond (.t 25) (.seq (.region 0 [.o 57 (.ah dG) [.ki 4],
 .C 12 .aV,
 .M 13 57])
 .ret)
 (.seq (.region 0 [.M 59 0,
 .o 60 (.aj .eql) [59,.ki 4],
 .M 61 60,
 .g 61 true 62 .aX [3],
 .g 61 true 63 .aX [4],
 .g 61 true 64 (.aj .geq) [62,63],
 .g 61 true 65 .aX [64],
 .g 65 false 66 .aX [5],
 .g 65 false 67 (.aj .lss) [66,.ki 1],
 .g 61 true 68 .pick [65,.kb true,67],
 .o 69 .pick [61,68,.kb false],
 .M 58 69])
 (.cond (.t 58) (.seq (.region 0 [.o 70 (.ah dG) [.ki 2],
 .C 12 .aV,
 .M 13 70])
 .ret)
 .skip)))))))
 (.seq (.region 0 [.C 15 (.int .i64 360)])
 (.seq (.seq (.region 0 [.M 71 0])
 (.join [0,1,2,5,15] (.block 1 (.seq (.region 0 [.o 73 (.aj .eql) [71,.ki 3],
 .M 72 73])
 (.join [0,1,2,5,15] (.cond (.t 72) (.region 0 [.C 15 (.int .i64 365)])
 (.seq (.region 0 [.o 75 (.aj .eql) [71,.ki 4],
 .M 74 75])
 (.join [0,1,2,5,15] (.cond (.t 74) (.region 0 [.M 76 4,
 .M 77 3,
 .o 78 (.aj .sub) [76,77],
 .M 15 78])
 .skip)))))))))
 (.seq (.region 0 [.M 80 0,
 .M 81 1,
 .M 82 2,
 .o 83 (.ah AL) [80,81,82],
 .M 84 15,
 .o 85 (.ah lC) [83,84],
 .M 79 85,
 .o 86 (.ext 0) [79],
 .o 87 (.ext 1) [79],
 .M 16 86,
 .M 17 87])
 (.seq (.seq (.region 0 [.M 88 17,
 .o 89 (.eqN true true) [88,.k .aG],
 .M 90 89,
 .g 90 false 91 .aX [0],
 .g 90 false 92 (.aj .neq) [91,.ki 4],
 .o 93 .pick [90,.kb true,92]])
 (.cond (.t 93) (.seq (.region 0 [.M 94 16,
 .M 95 17,
 .M 12 94,
 .M 13 95])
 .ret)
 .skip))
 (.seq (.region 0 [.M 97 5,
 .o 98 (.ah lC) [97,.ki 1],
 .M 96 98,
 .o 99 (.ext 0) [96],
 .o 100 (.ext 1) [96],
 .M 18 99,
 .M 19 100])
 (.seq (.region 0 [.M 101 16,
 .M 102 18,
 .o 103 (.ah nU) [101,102],
 .o 104 (.ext 0) [103],
 .o 105 (.ext 1) [103],
 .M 12 104,
 .M 13 105])
 .ret)))))))))⟩
def JD:EF:=⟨[0,1],[.tmp 4,.tmp 5],(.seq (.region 1 [.o 2 (.box 0) [0],
 .C 4 (.int .i64 0),
 .C 5 .aG])
 (.seq (.seq (.region 0 [.o 10 (.aY 9) [2],
 .o 11 (.ah mg) [10],
 .M 6 11])
 (.seq (.region 0 [.M 12 6,
 .o 13 (.eqN true true) [12,.k .aG]])
 (.cond (.t 13) (.seq (.region 0 [.M 14 6,
 .C 4 (.int .i64 0),
 .M 5 14])
 .ret)
 .skip)))
 (.seq (.region 0 [.o 16 (.aY 9) [2],
 .M 17 1,
 .o 18 (.ah Bl) [16,17],
 .M 15 18,
 .o 19 (.ext 0) [15],
 .o 20 (.ext 1) [15],
 .M 7 19,
 .M 8 20])
 (.seq (.seq (.region 0 [.M 21 8,
 .o 22 .not [21],
 .M 23 22,
 .g 23 false 24 .aX [1],
 .g 23 false 25 (.aK 0) [2],
 .g 23 false 26 .au [25],
 .g 23 false 27 (.aj .leq) [24,26],
 .o 28 .pick [23,.kb true,27]])
 (.cond (.t 28) (.seq (.region 0 [.o 29 (.ah dG) [.ki 4],
 .C 4 (.int .i64 0),
 .M 5 29])
 .ret)
 .skip))
 (.seq (.region 0 [.o 31 (.aY 9) [2],
 .M 32 7,
 .o 33 (.aj .add) [32,.ki 1],
 .o 34 (.ah rY) [31,33],
 .M 30 34,
 .o 35 (.ext 0) [30],
 .o 36 (.ext 1) [30],
 .M 9 35,
 .M 8 36])
 (.seq (.seq (.region 0 [.M 37 8,
 .o 38 .not [37]])
 (.cond (.t 38) (.seq (.region 0 [.o 39 (.ah dG) [.ki 4],
 .C 4 (.int .i64 0),
 .M 5 39])
 .ret)
 .skip))
 (.seq (.region 0 [.M 40 9,
 .M 4 40,
 .C 5 .aG])
 .ret)))))))⟩
def AO:EC:=(.seq (.seq (.region 0 [.M 37 5,
 .o 38 (.aK 1) [1],
 .o 39 .au [38],
 .o 40 (.aj .lss) [37,39]])
 (.cond (.t 40) .skip
 (.exit 0)))
 (.seq (.block 1 (.region 0 [.M 43 4,
 .o 44 (.aK 0) [1],
 .o 45 .au [44],
 .M 46 5,
 .o 47 (.ah jg) [45,46],
 .o 48 (.aj .add) [43,47],
 .M 4 48]))
 (.region 0 [.M 41 5,
 .o 42 (.aj .add) [41,.ki 1],
 .M 5 42])))
def TQ:EF:=⟨[0],[.tmp 2,.tmp 3],(.seq (.region 1 [.o 1 (.box 0) [0],
 .C 2 (.int .i64 0),
 .C 3 .aG])
 (.seq (.seq (.drawn 0 [(0,.o 6 (.aK 0) [1]),
 (1,.o 7 .au [6]),
 (2,.o 8 (.aj .lss) [7,.ki 1900]),
 (3,.M 9 8),
 (4,.g 9 false 10 (.aK 0) [1]),
 (5,.g 9 false 11 .au [10]),
 (6,.g 9 false 12 (.aj .gtr) [11,.ki 2199]),
 (7,.o 13 .pick [9,.kb true,12]),
 (8,.M 14 13),
 (9,.g 14 false 15 (.aK 2) [1]),
 (10,.g 14 false 16 .au [15]),
 (11,.g 14 false 17 (.aj .lss) [16,.ki 1]),
 (12,.o 18 .pick [14,.kb true,17]),
 (13,.M 19 18),
 (14,.g 19 false 20 (.aK 2) [1]),
 (15,.g 19 false 21 .au [20]),
 (16,.g 19 false 22 (.aK 0) [1]),
 (17,.g 19 false 23 .au [22]),
 (18,.g 19 false 24 (.aK 1) [1]),
 (19,.g 19 false 25 .au [24]),
 (20,.g 19 false 26 (.ah jg) [23,25]),
 (21,.g 19 false 27 (.aj .gtr) [21,26]),
 (22,.o 28 .pick [19,.kb true,27])])
 (.cond (.t 28) (.seq (.region 0 [.o 29 (.ah dG) [.ki 4],
 .C 2 (.int .i64 0),
 .M 3 29])
 .ret)
 .skip))
 (.seq (.drawn 0 [(0,.o 30 (.aK 0) [1]),
 (1,.o 31 .au [30]),
 (2,.o 32 (.ah rJ) [31]),
 (3,.o 33 (.aK 2) [1]),
 (4,.o 34 .au [33]),
 (5,.o 35 (.aj .add) [32,34]),
 (6,.o 36 (.aj .sub) [35,.ki 1]),
 (7,.M 4 36)])
 (.seq (.seq (.region 0 [.C 5 (.int .i64 1)])
 (.block 0 (.loop [1,4,5] [4] AO)))
 (.seq (.region 0 [.M 49 4,
 .M 2 49,
 .C 3 .aG])
 .ret)))))⟩
def t_:EC:=(.seq (.seq (.region 0 [.o 15 (.aK 0) [4],
 .o 16 .au [15],
 .o 17 (.aj .add) [16,.ki 1],
 .o 18 (.ah rJ) [17],
 .M 19 0,
 .o 20 (.aj .leq) [18,19]])
 (.cond (.t 20) .skip
 (.exit 0)))
 (.block 1 (.region 0 [.o 21 (.aK 0) [4],
 .o 22 .au [21],
 .o 23 (.aj .add) [22,.ki 1],
 .o 24 (.aK 0) [4],
 ⟨.store 1,[24,23],none,none⟩])))
def uf:EC:=(.seq (.seq (.region 0 [.M 30 5,
 .o 31 (.aK 0) [4],
 .o 32 .au [31],
 .o 33 (.aK 1) [4],
 .o 34 .au [33],
 .o 35 (.ah jg) [32,34],
 .o 36 (.aj .geq) [30,35]])
 (.cond (.t 36) .skip
 (.exit 2)))
 (.block 3 (.seq (.region 0 [.M 37 5,
 .o 38 (.aK 0) [4],
 .o 39 .au [38],
 .o 40 (.aK 1) [4],
 .o 41 .au [40],
 .o 42 (.ah jg) [39,41],
 .o 43 (.aj .sub) [37,42],
 .M 5 43])
 (.region 0 [.o 44 (.aK 1) [4],
 .o 45 .au [44],
 .o 46 (.aj .add) [45,.ki 1],
 .o 47 (.aK 1) [4],
 ⟨.store 1,[47,46],none,none⟩]))))
def Jz:EF:=⟨[0],[.cell 2 true 3,.tmp 3],(.seq (.region 1 [.o 2 (.alloc 0 [.int .i64 0,.int .i64 0,.int .i64 0]) [],
 .C 3 .aG])
 (.seq (.seq (.region 0 [.M 6 0,
 .o 7 (.ah IZ) [6],
 .o 8 .not [7]])
 (.cond (.t 8) (.seq (.region 0 [.o 9 (.build [.int .i64 0,.int .i64 0,.int .i64 0] []) [],
 .o 10 (.ah dG) [.ki 4],
 ⟨.store 3,[2,9],none,none⟩,
 .M 3 10])
 .ret)
 .skip))
 (.seq (.region 1 [.M 11 0,
 .o 12 (.aj .quo) [11,.ki 366],
 .o 13 (.aj .add) [.ki 1900,12],
 .o 14 (.build [.int .i64 0,.int .i64 0,.int .i64 0] [(0,1),(1,1)]) [13,.ki 1],
 .o 4 (.alloc 0 [.int .i64 0,.int .i64 0,.int .i64 0]) [],
 ⟨.store 3,[4,14],none,none⟩])
 (.seq (.block 0 (.loop [0,2,4] [0,2,4] t_))
 (.seq (.region 0 [.M 25 0,
 .o 26 (.aK 0) [4],
 .o 27 .au [26],
 .o 28 (.ah rJ) [27],
 .o 29 (.aj .sub) [25,28],
 .M 5 29])
 (.seq (.block 2 (.loop [2,4,5] [2,4,5] uf))
 (.seq (.region 0 [.M 48 5,
 .o 49 (.aj .add) [48,.ki 1],
 .o 50 (.aK 2) [4],
 ⟨.store 1,[50,49],none,none⟩])
 (.seq (.region 0 [.o 51 (.aY 3) [4],
 ⟨.store 3,[2,51],none,none⟩,
 .C 3 .aG])
 .ret))))))))⟩
def Nh:EF:=⟨[0,1,2],[.tmp 6,.tmp 7],(.seq (.region 0 [.C 6 (.int .i64 0),
 .C 7 .aG])
 (.seq (.region 1 [.M 14 0,
 .o 15 (.ah gU) [14],
 .M 13 15,
 .o 16 (.ext 0) [13],
 .o 17 (.ext 1) [13],
 .o 8 (.alloc 0 [.int .i64 0,.int .i64 0,.int .i64 0]) [],
 ⟨.store 3,[8,16],none,none⟩,
 .M 9 17])
 (.seq (.seq (.region 0 [.M 18 9,
 .o 19 (.eqN true true) [18,.k .aG]])
 (.cond (.t 19) (.seq (.region 0 [.M 20 9,
 .C 6 (.int .i64 0),
 .M 7 20])
 .ret)
 .skip))
 (.seq (.seq (.region 0 [.M 21 1,
 .o 22 (.aj .lss) [21,.ki (-3600)],
 .M 23 22,
 .g 23 false 24 .aX [1],
 .g 23 false 25 (.aj .gtr) [24,.ki 3600],
 .o 26 .pick [23,.kb true,25]])
 (.cond (.t 26) (.seq (.region 0 [.o 27 (.ah dG) [.ki 4],
 .C 6 (.int .i64 0),
 .M 7 27])
 .ret)
 .skip))
 (.seq (.region 0 [.o 28 (.aK 0) [8],
 .o 29 .au [28],
 .o 30 (.aj .mul) [29,.ki 12],
 .o 31 (.aK 1) [8],
 .o 32 .au [31],
 .o 33 (.aj .add) [30,32],
 .o 34 (.aj .sub) [33,.ki 1],
 .M 35 1,
 .o 36 (.aj .add) [34,35],
 .M 10 36])
 (.seq (.region 0 [.M 37 10,
 .o 38 (.aj .quo) [37,.ki 12],
 .M 39 10,
 .o 40 (.aj .rem) [39,.ki 12],
 .o 41 (.aj .add) [40,.ki 1],
 .M 11 38,
 .M 12 41])
 (.seq (.seq (.region 0 [.M 42 2,
 .M 43 42,
 .g 43 true 44 .aX [0],
 .g 43 true 45 (.ah vk) [44],
 .o 46 .pick [43,45,.kb false]])
 (.cond (.t 46) (.seq (.region 0 [.M 47 11,
 .M 48 12,
 .o 49 (.ah Am) [47,48],
 .o 50 (.ext 0) [49],
 .o 51 (.ext 1) [49],
 .M 6 50,
 .M 7 51])
 .ret)
 .skip))
 (.seq (.drawn 0 [(0,.M 52 11),
 (1,.M 53 12),
 (2,.o 54 (.aK 2) [8]),
 (3,.o 55 .au [54]),
 (4,.M 56 11),
 (5,.M 57 12),
 (6,.o 58 (.ah jg) [56,57]),
 (7,.o 59 .mn [55,58]),
 (8,.o 60 (.build [.int .i64 0,.int .i64 0,.int .i64 0] [(0,1),(1,1),(2,1)]) [52,53,59]),
 (9,.o 61 (.ah wE) [60]),
 (10,.o 62 (.ext 0) [61]),
 (11,.o 63 (.ext 1) [61]),
 (12,.M 6 62),
 (13,.M 7 63)])
 .ret))))))))⟩
def acY:EF:=⟨[0],[.tmp 2,.tmp 3],(.seq (.region 0 [.C 2 (.int .i64 0),
 .C 3 .aG])
 (.seq (.seq (.region 0 [.M 17 0,
 .o 18 (.aj .lss) [17,.ki 1900],
 .M 19 18,
 .g 19 false 20 .aX [0],
 .g 19 false 21 (.aj .gtr) [20,.ki 2199],
 .o 22 .pick [19,.kb true,21]])
 (.cond (.t 22) (.seq (.region 0 [.o 23 (.ah dG) [.ki 4],
 .C 2 (.int .i64 0),
 .M 3 23])
 .ret)
 .skip))
 (.seq (.region 0 [.M 24 0,
 .o 25 (.aj .rem) [24,.ki 19],
 .M 26 0,
 .o 27 (.aj .quo) [26,.ki 100],
 .M 28 0,
 .o 29 (.aj .rem) [28,.ki 100],
 .M 4 25,
 .M 5 27,
 .M 6 29])
 (.seq (.region 0 [.M 30 5,
 .o 31 (.aj .quo) [30,.ki 4],
 .M 32 5,
 .o 33 (.aj .rem) [32,.ki 4],
 .M 7 31,
 .M 8 33])
 (.seq (.region 0 [.M 34 5,
 .o 35 (.aj .add) [34,.ki 8],
 .o 36 (.aj .quo) [35,.ki 25],
 .M 9 36])
 (.seq (.region 0 [.M 37 5,
 .M 38 9,
 .o 39 (.aj .sub) [37,38],
 .o 40 (.aj .add) [39,.ki 1],
 .o 41 (.aj .quo) [40,.ki 3],
 .M 10 41])
 (.seq (.region 0 [.M 42 4,
 .o 43 (.aj .mul) [.ki 19,42],
 .M 44 5,
 .o 45 (.aj .add) [43,44],
 .M 46 7,
 .o 47 (.aj .sub) [45,46],
 .M 48 10,
 .o 49 (.aj .sub) [47,48],
 .o 50 (.aj .add) [49,.ki 15],
 .o 51 (.aj .rem) [50,.ki 30],
 .M 11 51])
 (.seq (.region 0 [.M 52 6,
 .o 53 (.aj .quo) [52,.ki 4],
 .M 54 6,
 .o 55 (.aj .rem) [54,.ki 4],
 .M 12 53,
 .M 13 55])
 (.seq (.region 0 [.M 56 8,
 .o 57 (.aj .mul) [.ki 2,56],
 .o 58 (.aj .add) [.ki 32,57],
 .M 59 12,
 .o 60 (.aj .mul) [.ki 2,59],
 .o 61 (.aj .add) [58,60],
 .M 62 11,
 .o 63 (.aj .sub) [61,62],
 .M 64 13,
 .o 65 (.aj .sub) [63,64],
 .o 66 (.aj .rem) [65,.ki 7],
 .M 14 66])
 (.seq (.region 0 [.M 67 4,
 .M 68 11,
 .o 69 (.aj .mul) [.ki 11,68],
 .o 70 (.aj .add) [67,69],
 .M 71 14,
 .o 72 (.aj .mul) [.ki 22,71],
 .o 73 (.aj .add) [70,72],
 .o 74 (.aj .quo) [73,.ki 451],
 .M 15 74])
 (.seq (.region 0 [.M 75 11,
 .M 76 14,
 .o 77 (.aj .add) [75,76],
 .M 78 15,
 .o 79 (.aj .mul) [.ki 7,78],
 .o 80 (.aj .sub) [77,79],
 .o 81 (.aj .add) [80,.ki 114],
 .M 16 81])
 (.seq (.region 0 [.M 82 0,
 .M 83 16,
 .o 84 (.aj .quo) [83,.ki 31],
 .M 85 16,
 .o 86 (.aj .rem) [85,.ki 31],
 .o 87 (.aj .add) [86,.ki 1],
 .o 88 (.build [.int .i64 0,.int .i64 0,.int .i64 0] [(0,1),(1,1),(2,1)]) [82,84,87],
 .o 89 (.ah wE) [88],
 .o 90 (.ext 0) [89],
 .o 91 (.ext 1) [89],
 .M 2 90,
 .M 3 91])
 .ret))))))))))))⟩
def Az:EC:=(.seq (.region 0 [.o 38 (.aj .lss) [37,36]])
 (.seq (.cond (.t 38) .skip
 (.exit 1))
 (.seq (.block 2 (.seq (.region 0 [.o 39 (.bM 1) [35,37],
 .o 40 .au [39],
 .M 8 40])
 (.region 0 [.M 41 6,
 .o 42 .oP [41],
 .o 43 (.aK 0) [42],
 .o 44 .au [43],
 .M 45 8,
 ⟨.Zo,[44,45,.kb true],none,none⟩])))
 (.region 0 [.o 46 (.aj .add) [37,.ki 1],
 .M 37 46]))))
def AA:EC:=(.seq (.seq (.region 0 [.M 53 11,
 .o 54 (.aj .leq) [53,.ki 2199]])
 (.cond (.t 54) .skip
 (.exit 5)))
 (.seq (.join [6,10,11,47,48,49] (.block 6 (.seq (.region 0 [.o 58 (.aY 6) [10],
 .M 59 11,
 .o 60 (.ah DL) [58,59],
 .M 57 60,
 .o 61 (.ext 0) [57],
 .o 62 (.ext 1) [57],
 .M 12 61,
 .M 13 62])
 (.seq (.region 0 [.M 63 13])
 (.join [6,10,11,47,48,49] (.cond (.t 63) (.region 0 [.M 64 6,
 .o 65 .oP [64],
 .o 66 (.aK 0) [65],
 .o 67 .au [66],
 .M 68 12,
 ⟨.Zo,[67,68,.kb true],none,none⟩])
 .skip))))))
 (.region 0 [.M 55 11,
 .o 56 (.aj .add) [55,.ki 1],
 .M 11 56])))
def yE:EC:=(.seq (.region 0 [.o 50 (.aj .lss) [49,48]])
 (.seq (.cond (.t 50) .skip
 (.exit 3))
 (.seq (.block 4 (.seq (.region 1 [.o 51 (.bM 6) [47,49],
 .o 52 (.aY 6) [51],
 .o 10 (.alloc 0 [.int .i64 0,.int .i64 0,.int .i64 0,.int .i64 0,.int .i64 0,.bool false]) [],
 ⟨.store 6,[10,52],none,none⟩])
 (.seq (.region 0 [.C 11 (.int .i64 1900)])
 (.block 5 (.loop [6,10,11,47,48,49] [6,47,48,49] AA)))))
 (.region 0 [.o 69 (.aj .add) [49,.ki 1],
 .M 49 69]))))
def TP:EF:=⟨[0,1],[.tmp 4,.tmp 5],(.seq (.region 0 [.C 4 .aV,
 .C 5 .aG])
 (.seq (.block 0 (.seq (.region 0 [.M 15 0,
 .o 16 .b_ [15],
 .o 17 (.aj .gtr) [16,.ki 20],
 .M 18 17,
 .g 18 false 19 .aX [1],
 .g 18 false 20 .b_ [19],
 .g 18 false 21 (.aj .gtr) [20,.ki 100],
 .o 22 .pick [18,.kb true,21],
 .M 14 22])
 (.cond (.t 14) (.seq (.region 0 [.o 23 (.ah dG) [.ki 2],
 .C 4 .aV,
 .M 5 23])
 (.XP [4,5] .ret))
 (.seq (.region 0 [.M 25 0,
 .o 26 (.ah iF) [25,.k (.func IX [])],
 .M 24 26])
 (.cond (.t 24) (.seq (.region 0 [.o 27 (.ah dG) [.ki 1],
 .C 4 .aV,
 .M 5 27])
 (.XP [4,5] .ret))
 (.seq (.region 0 [.M 29 1,
 .o 30 (.ah jZ) [29,.k (.func IY [])],
 .M 28 30])
 (.cond (.t 28) (.seq (.region 0 [.o 31 (.ah dG) [.ki 4],
 .C 4 .aV,
 .M 5 31])
 (.XP [4,5] .ret))
 .skip)))))))
 (.seq (.region 2 [.o 32 (.mkm 0) [],
 .o 33 (.build [.zq] [(0,1)]) [32],
 .o 34 (.box 1) [33],
 .M 6 34])
 (.seq (.seq (.region 0 [.M 35 1,
 .o 36 .b_ [35],
 .C 37 (.int .i64 0)])
 (.block 1 (.loop [0,6,35,36,37] [0,6] Az)))
 (.seq (.seq (.region 0 [.M 47 0,
 .o 48 .b_ [47],
 .C 49 (.int .i64 0)])
 (.block 3 (.loop [6,47,48,49] [6] yE)))
 (.seq (.region 0 [.M 70 6,
 .M 4 70,
 .C 5 .aG])
 (.XP [4,5] .ret)))))))⟩
def am7:EF:=⟨[0,1,2],[.tmp 6,.tmp 7],(.seq (.region 0 [.C 6 (.int .i64 0),
 .C 7 .aG])
 (.seq (.seq (.region 0 [.M 9 2,
 .o 10 (.aj .lss) [9,.ki 0],
 .M 11 10,
 .g 11 false 12 .aX [2],
 .g 11 false 13 (.aj .gtr) [12,.ki 4],
 .o 14 .pick [11,.kb true,13]])
 (.cond (.t 14) (.seq (.region 0 [.o 15 (.ah dG) [.ki 1],
 .C 6 (.int .i64 0),
 .M 7 15])
 .ret)
 .skip))
 (.seq (.seq (.region 0 [.M 16 1,
 .o 17 (.ah fD) [16],
 .o 18 (.aj .lss) [17,.ki 0]])
 (.cond (.t 18) (.seq (.region 0 [.o 19 (.ah dG) [.ki 4],
 .C 6 (.int .i64 0),
 .M 7 19])
 .ret)
 .skip))
 (.seq (.region 0 [.M 20 1,
 .M 8 20])
 (.seq (.seq (.region 0 [.M 21 2])
 (.join [8] (.block 0 (.seq (.join [0,1,8] (.block 4 (.seq (.block 3 (.seq (.join [0,1,8] (.block 2 (.seq (.block 1 (.seq (.seq (.seq (.region 0 [.o 23 (.aj .eql) [21,.ki 2],
 .M 22 23])
 (.cond (.t 22) (.exit 1)
 .skip))
 (.seq (.seq (.region 0 [.o 25 (.aj .eql) [21,.ki 3],
 .M 24 25])
 (.cond (.t 24) (.exit 2)
 .skip))
 (.seq (.seq (.region 0 [.o 27 (.aj .eql) [21,.ki 4],
 .M 26 27])
 (.cond (.t 26) (.exit 3)
 .skip))
 (.seq (.region 0 [.o 29 (.aj .eql) [21,.ki 1],
 .M 28 29])
 (.cond (.t 28) (.exit 4)
 .skip)))))
 (.exit 0)))
 (.seq (.region 0 [.M 30 0,
 .M 31 1,
 .o 32 (.ah wu) [30,31,.ki 1],
 .M 8 32])
 (.seq (.region 0 [.M 33 8,
 .M 34 1,
 .o 35 (.ah Fb) [33,34]])
 (.cond (.t 35) (.exit 0)
 .skip))))))
 (.seq (.region 0 [.M 36 0,
 .M 37 1,
 .o 38 (.ah wu) [36,37,.ki (-1)],
 .M 8 38])
 (.exit 0))))
 (.seq (.region 0 [.M 39 0,
 .M 40 1,
 .o 41 (.ah wu) [39,40,.ki (-1)],
 .M 8 41])
 (.seq (.region 0 [.M 42 8,
 .M 43 1,
 .o 44 (.ah Fb) [42,43]])
 (.cond (.t 44) (.exit 0)
 .skip))))))
 (.seq (.region 0 [.M 45 0,
 .M 46 1,
 .o 47 (.ah wu) [45,46,.ki 1],
 .M 8 47])
 (.exit 0))))))
 (.seq (.seq (.region 0 [.M 48 8,
 .o 49 (.aj .eql) [48,.ki (-1)]])
 (.cond (.t 49) (.seq (.region 0 [.o 50 (.ah dG) [.ki 4],
 .C 6 (.int .i64 0),
 .M 7 50])
 .ret)
 .skip))
 (.seq (.region 0 [.M 51 8,
 .M 6 51,
 .C 7 .aG])
 .ret)))))))⟩
def VI:EF:=⟨[],[.tmp 0],(.seq (.region 0 [.C 0 (.int .i64 0)])
 (.seq (.region 0 [.C 0 (.int .i64 1)])
 .ret))⟩
def Yp:EF:=⟨[],[.tmp 0],(.seq (.region 0 [.C 0 (.bool false)])
 (.seq (.region 0 [.o 1 (.ah uN) [],
 .M 0 1])
 .ret))⟩
def ak0:EF:=⟨[0],[.tmp 2],(.seq (.region 0 [.C 2 (.str [])])
 (.seq (.region 1 [.M 6 0,
 .o 7 (.ah gU) [6],
 .M 5 7,
 .o 8 (.ext 0) [5],
 .o 9 (.ext 1) [5],
 .o 3 (.alloc 0 [.int .i64 0,.int .i64 0,.int .i64 0]) [],
 ⟨.store 3,[3,8],none,none⟩,
 .M 4 9])
 (.seq (.seq (.region 0 [.M 10 4,
 .o 11 (.eqN true true) [10,.k .aG]])
 (.cond (.t 11) (.seq (.region 0 [.C 2 (.str [])])
 .ret)
 .skip))
 (.seq (.drawn 0 [(0,.o 12 (.aK 0) [3]),
 (1,.o 13 .au [12]),
 (2,.o 14 (.ah zh) [13,.ki 4]),
 (3,.o 15 (.eX .add) [14,.k (.str [45])]),
 (4,.o 16 (.aK 1) [3]),
 (5,.o 17 .au [16]),
 (6,.o 18 (.ah zh) [17,.ki 2]),
 (7,.o 19 (.eX .add) [15,18]),
 (8,.o 20 (.eX .add) [19,.k (.str [45])]),
 (9,.o 21 (.aK 2) [3]),
 (10,.o 22 .au [21]),
 (11,.o 23 (.ah zh) [22,.ki 2]),
 (12,.o 24 (.eX .add) [20,23]),
 (13,.M 2 24)])
 .ret))))⟩
def aeE:EF:=⟨[0,1],[.tmp 4],(.seq (.region 0 [.C 4 (.bool false)])
 (.seq (.seq (.region 0 [.M 5 1,
 .o 6 (.ah fD) [5]])
 (.join [0,1,4] (.block 0 (.seq (.seq (.region 0 [.o 8 (.aj .eql) [6,.ki (-1)],
 .M 7 8])
 (.join [0,1,7] (.cond (.t 7) .skip
 (.seq (.region 0 [.o 9 (.aj .eql) [6,.ki 0],
 .M 7 9])
 (.join [0,1,7] (.cond (.t 7) .skip
 (.region 0 [.o 10 (.aj .eql) [6,.ki 6],
 .M 7 10])))))))
 (.cond (.t 7) (.seq (.region 0 [.C 4 (.bool false)])
 .ret)
 .skip)))))
 (.seq (.region 0 [.M 11 0,
 .o 12 (.xO false) [11,.k .aV],
 .M 13 12,
 .g 13 false 14 .aX [0],
 .g 13 false 15 .oP [14],
 .g 13 false 16 (.aK 0) [15],
 .g 13 false 17 .au [16],
 .g 13 false 18 .aX [1],
 .g 13 false 19 .Zn [17,18],
 .g 13 false 20 .not [19],
 .o 21 .pick [13,.kb true,20],
 .M 4 21])
 .ret)))⟩
def Ey:EF:=⟨[0],[.tmp 2],(.seq (.region 0 [.C 2 (.int .i64 0)])
 (.seq (.seq (.region 0 [.M 3 0,
 .o 4 (.ah IZ) [3],
 .o 5 .not [4]])
 (.cond (.t 5) (.seq (.region 0 [.C 2 (.int .i64 (-1))])
 .ret)
 .skip))
 (.seq (.region 0 [.M 6 0,
 .o 7 (.aj .add) [6,.ki 1],
 .o 8 (.aj .rem) [7,.ki 7],
 .M 2 8])
 .ret)))⟩
def ac_:EC:=(.seq (.seq (.region 0 [.M 20 7,
 .o 21 (.aK 0) [5],
 .o 22 .au [21],
 .o 23 (.aj .add) [22,.ki 1],
 .o 24 (.aj .leq) [20,23]])
 (.cond (.t 24) .skip
 (.exit 0)))
 (.seq (.block 1 (.seq (.region 0 [.o 28 (.aY 6) [2],
 .M 29 7,
 .o 30 (.ah DL) [28,29],
 .M 27 30,
 .o 31 (.ext 0) [27],
 .o 32 (.ext 1) [27],
 .M 8 31,
 .M 9 32])
 (.seq (.region 0 [.M 33 9,
 .M 34 33,
 .g 34 true 35 .aX [8],
 .g 34 true 36 .aX [1],
 .g 34 true 37 (.aj .eql) [35,36],
 .o 38 .pick [34,37,.kb false]])
 (.cond (.t 38) (.seq (.region 0 [.C 4 (.bool true)])
 .ret)
 .skip))))
 (.region 0 [.M 25 7,
 .o 26 (.aj .add) [25,.ki 1],
 .M 7 26])))
def aoO:EF:=⟨[0,1],[.tmp 4],(.seq (.region 1 [.o 2 (.box 0) [0],
 .C 4 (.bool false)])
 (.seq (.region 1 [.M 11 1,
 .o 12 (.ah gU) [11],
 .M 10 12,
 .o 13 (.ext 0) [10],
 .o 14 (.ext 1) [10],
 .o 5 (.alloc 0 [.int .i64 0,.int .i64 0,.int .i64 0]) [],
 ⟨.store 3,[5,13],none,none⟩,
 .M 6 14])
 (.seq (.seq (.region 0 [.M 15 6,
 .o 16 (.eqN true true) [15,.k .aG]])
 (.cond (.t 16) (.seq (.region 0 [.C 4 (.bool false)])
 .ret)
 .skip))
 (.seq (.seq (.region 0 [.o 17 (.aK 0) [5],
 .o 18 .au [17],
 .o 19 (.aj .sub) [18,.ki 1],
 .M 7 19])
 (.block 0 (.loop [1,2,5,7] [4] ac_)))
 (.seq (.region 0 [.C 4 (.bool false)])
 .ret)))))⟩
def JB:EF:=⟨[0],[.tmp 2],(.seq (.region 0 [.C 2 (.bool false)])
 (.seq (.region 1 [.M 6 0,
 .o 7 (.ah gU) [6],
 .M 5 7,
 .o 8 (.ext 0) [5],
 .o 9 (.ext 1) [5],
 .o 3 (.alloc 0 [.int .i64 0,.int .i64 0,.int .i64 0]) [],
 ⟨.store 3,[3,8],none,none⟩,
 .M 4 9])
 (.seq (.drawn 0 [(0,.M 10 4),
 (1,.o 11 (.eqN false true) [10,.k .aG]),
 (2,.M 12 11),
 (3,.g 12 true 13 (.aK 2) [3]),
 (4,.g 12 true 14 .au [13]),
 (5,.g 12 true 15 (.aK 0) [3]),
 (6,.g 12 true 16 .au [15]),
 (7,.g 12 true 17 (.aK 1) [3]),
 (8,.g 12 true 18 .au [17]),
 (9,.g 12 true 19 (.ah jg) [16,18]),
 (10,.g 12 true 20 (.aj .eql) [14,19]),
 (11,.o 21 .pick [12,20,.kb false]),
 (12,.M 2 21)])
 .ret)))⟩
def Ua:EF:=⟨[0],[.tmp 2,.tmp 3],(.seq (.region 0 [.C 2 .aV,
 .C 3 .aG])
 (.seq (.region 0 [.M 9 0,
 .o 10 (.ah strings_CutPrefix) [9,.k (.str [45])],
 .M 8 10,
 .o 11 (.ext 0) [8],
 .o 12 (.ext 1) [8],
 .M 4 11,
 .M 5 12])
 (.seq (.region 0 [.M 14 4,
 .o 15 (.ah nM) [14],
 .M 13 15,
 .o 16 (.ext 0) [13],
 .o 17 (.ext 1) [13],
 .M 6 16,
 .M 7 17])
 (.seq (.seq (.region 0 [.M 18 7,
 .o 19 (.eqN true true) [18,.k .aG],
 .M 20 19,
 .g 20 false 21 .aX [5],
 .g 20 false 22 .aX [21],
 .g 22 true 23 .aX [6],
 .g 22 true 24 (.ah fQ) [23],
 .g 20 false 25 .pick [22,24,.kb false],
 .o 26 .pick [20,.kb true,25]])
 (.cond (.t 26) (.seq (.region 0 [.o 27 (.ah dG) [.ki 1],
 .C 2 .aV,
 .M 3 27])
 .ret)
 .skip))
 (.seq (.region 0 [.M 28 5,
 .M 29 6,
 .o 30 (.ah iH) [28,29],
 .M 2 30,
 .C 3 .aG])
 .ret)))))⟩
def o7:EC:=(.seq (.seq (.region 0 [.M 3 0,
 .o 4 .b_ [3],
 .o 5 (.aj .gtr) [4,.ki 0],
 .M 6 5,
 .g 6 true 7 .aX [0],
 .g 6 true 8 .aX [0],
 .g 6 true 9 .b_ [8],
 .g 6 true 10 (.aj .sub) [9,.ki 1],
 .g 6 true 11 (.bM 1) [7,10],
 .g 6 true 12 .au [11],
 .g 6 true 13 (.aj .eql) [12,.k (.int .u64 0)],
 .o 14 .pick [6,13,.kb false]])
 (.cond (.t 14) .skip
 (.exit 0)))
 (.block 1 (.region 0 [.M 15 0,
 .M 16 0,
 .o 17 .b_ [16],
 .o 18 (.aj .sub) [17,.ki 1],
 .o 19 (.RX 1 false true) [15,18],
 .M 0 19])))
def Pe:EF:=⟨[0],[.tmp 2],(.seq (.region 0 [.C 2 .aV])
 (.seq (.block 0 (.loop [0] [0] o7))
 (.seq (.region 1 [.M 20 0,
 .o 21 (.build [.sl 0 []] [(0,1)]) [20],
 .o 22 (.box 0) [21],
 .M 2 22])
 .ret)))⟩
def Dk:EF:=⟨[0],[.tmp 2],(.seq (.region 0 [.C 2 (.sl 0 [])])
 (.seq (.seq (.region 0 [.M 3 0,
 .o 4 (.xO false) [3,.k .aV]])
 (.cond (.t 4) (.seq (.region 0 [.C 2 (.sl 0 [])])
 .ret)
 .skip))
 (.seq (.region 0 [.M 5 0,
 .o 6 .oP [5],
 .o 7 (.aK 0) [6],
 .o 8 .au [7],
 .M 2 8])
 .ret)))⟩
def qX:EC:=(.seq (.seq (.region 0 [.M 21 5,
 .o 22 (.aj .geq) [21,.ki 0]])
 (.cond (.t 22) .skip
 (.exit 0)))
 (.seq (.block 1 (.block 2 (.seq (.drawn 0 [(0,.M 26 0),
 (1,.M 27 5),
 (2,.o 28 (.bM 1) [26,27]),
 (3,.o 29 .au [28]),
 (4,.M 30 1),
 (5,.M 31 5),
 (6,.o 32 (.bM 1) [30,31]),
 (7,.o 33 .au [32]),
 (8,.o 34 (.aj .lss) [29,33]),
 (9,.M 25 34)])
 (.cond (.t 25) (.seq (.region 0 [.C 4 (.int .i64 (-1))])
 .ret)
 (.seq (.drawn 0 [(0,.M 36 0),
 (1,.M 37 5),
 (2,.o 38 (.bM 1) [36,37]),
 (3,.o 39 .au [38]),
 (4,.M 40 1),
 (5,.M 41 5),
 (6,.o 42 (.bM 1) [40,41]),
 (7,.o 43 .au [42]),
 (8,.o 44 (.aj .gtr) [39,43]),
 (9,.M 35 44)])
 (.cond (.t 35) (.seq (.region 0 [.C 4 (.int .i64 1)])
 .ret)
 .skip))))))
 (.region 0 [.M 23 5,
 .o 24 (.aj .sub) [23,.ki 1],
 .M 5 24])))
def GX:EF:=⟨[0,1],[.tmp 4],(.seq (.region 0 [.C 4 (.int .i64 0)])
 (.seq (.seq (.region 0 [.M 6 0,
 .o 7 .b_ [6],
 .M 8 1,
 .o 9 .b_ [8],
 .o 10 (.aj .neq) [7,9]])
 (.cond (.t 10) (.seq (.region 0 [.M 11 0,
 .o 12 .b_ [11],
 .M 13 1,
 .o 14 .b_ [13],
 .o 15 (.aj .sub) [12,14],
 .o 16 .mx [15,.ki (-1)],
 .o 17 .mn [16,.ki 1],
 .M 4 17])
 .ret)
 .skip))
 (.seq (.seq (.region 0 [.M 18 0,
 .o 19 .b_ [18],
 .o 20 (.aj .sub) [19,.ki 1],
 .M 5 20])
 (.block 0 (.loop [0,1,5] [4] qX)))
 (.seq (.region 0 [.C 4 (.int .i64 0)])
 .ret))))⟩
def qm:EC:=(.join [0,1,4,5] (.block 1 (.seq (.seq (.region 0 [.M 17 0,
 .M 18 1,
 .o 19 (.bJ nS) [17,18]])
 (.join [0,1,4,5] (.block 2 (.seq (.region 0 [.o 21 (.aj .eql) [19,.ki 0],
 .M 20 21])
 (.join [0,1,4,5] (.cond (.t 20) (.seq (.region 0 [.M 22 0,
 .o 23 (.bJ gI) [22],
 .M 24 5,
 .o 25 (.ah nat_bit) [24],
 .o 26 (.xG jm) [23,25],
 .M 4 26])
 .ret)
 (.seq (.region 0 [.o 28 (.aj .eql) [19,.ki (-1)],
 .M 27 28])
 (.join [0,1,5] (.cond (.t 27) (.region 0 [.M 29 1,
 .M 30 0,
 .M 0 29,
 .M 1 30])
 .skip)))))))))
 (.region 0 [.M 31 0,
 .M 32 1,
 .o 33 (.bJ D5) [31,32],
 .o 34 (.bJ Cc) [33],
 .M 0 34]))))
def JC:EF:=⟨[0,1],[.tmp 4],(.seq (.region 0 [.C 4 .aV])
 (.seq (.region 0 [.M 6 0,
 .o 7 (.bJ Bd) [6],
 .M 8 1,
 .o 9 (.bJ Bd) [8],
 .o 10 .mn [7,9],
 .M 5 10])
 (.seq (.region 0 [.M 11 0,
 .o 12 (.bJ dW) [11],
 .o 13 (.bJ Cc) [12],
 .M 14 1,
 .o 15 (.bJ dW) [14],
 .o 16 (.bJ Cc) [15],
 .M 0 13,
 .M 1 16])
 (.block 0 (.loop [0,1,5] [4] qm)))))⟩
def wX:EC:=(.seq (.seq (.region 0 [.M 15 8,
 .o 16 (.aj .geq) [15,.ki 0]])
 (.cond (.t 16) .skip
 (.exit 0)))
 (.seq (.block 1 (.region 0 [.M 20 6,
 .M 21 8,
 .M 22 7,
 .M 23 0,
 .M 24 8,
 .o 25 (.bM 1) [23,24],
 .o 26 .au [25],
 .M 27 1,
 .o 28 (.ah uT) [22,26,27],
 .M 19 28,
 .o 29 (.ext 0) [19],
 .o 30 (.ext 1) [19],
 .o 31 (.bM 1) [20,21],
 ⟨.store 1,[31,29],none,none⟩,
 .M 7 30]))
 (.region 0 [.M 17 8,
 .o 18 (.aj .sub) [17,.ki 1],
 .M 8 18])))
def Nq:EF:=⟨[0,1],[.tmp 4,.tmp 5],(.seq (.region 0 [.C 4 (.sl 0 []),
 .C 5 (.int .u64 0)])
 (.seq (.region 1 [.M 9 0,
 .o 10 .b_ [9],
 .o 11 (.Iu 0 1 [.int .u64 0]) [10,10],
 .M 6 11])
 (.seq (.region 0 [.C 7 (.int .u64 0)])
 (.seq (.seq (.region 0 [.M 12 0,
 .o 13 .b_ [12],
 .o 14 (.aj .sub) [13,.ki 1],
 .M 8 14])
 (.block 0 (.loop [0,1,6,7,8] [6,7] wX)))
 (.seq (.region 0 [.M 32 6,
 .M 33 7,
 .M 4 32,
 .M 5 33])
 .ret)))))⟩
def rU:EC:=(.seq (.seq (.region 0 [.M 66 12])
 (.cond (.t 66) .skip
 (.exit 2)))
 (.seq (.block 3 (.seq (.region 0 [.M 73 9,
 .M 74 10,
 .o 75 (.bM 1) [73,74],
 .o 76 .au [75],
 .o 77 (.aj .sub) [76,.k (.int .u64 1)],
 .o 78 (.bM 1) [73,74],
 ⟨.store 1,[78,77],none,none⟩])
 (.region 0 [.M 79 11,
 .M 80 8,
 .o 81 (.bJ DY) [79,80]])))
 (.region 0 [.M 67 11,
 .M 68 8,
 .o 69 .b_ [68],
 .o 70 (.bM 1) [67,69],
 .o 71 .au [70],
 .o 72 (.aj .neq) [71,.k (.int .u64 0)],
 .M 12 72])))
def zn:EC:=(.seq (.seq (.region 0 [.M 41 10,
 .o 42 (.aj .geq) [41,.ki 0]])
 (.cond (.t 42) .skip
 (.exit 0)))
 (.seq (.block 1 (.seq (.region 0 [.M 45 7,
 .M 46 10,
 .M 47 10,
 .M 48 8,
 .o 49 .b_ [48],
 .o 50 (.aj .add) [47,49],
 .o 51 (.aj .add) [50,.ki 1],
 .o 52 (.RX 1 true true) [45,46,51],
 .M 11 52])
 (.seq (.region 0 [.M 53 9,
 .M 54 10,
 .M 55 11,
 .M 56 8,
 .o 57 (.bJ DZ) [55,56],
 .o 58 (.bM 1) [53,54],
 ⟨.store 1,[58,57],none,none⟩])
 (.seq (.region 0 [.M 59 11,
 .M 60 8,
 .M 61 9,
 .M 62 10,
 .o 63 (.bM 1) [61,62],
 .o 64 .au [63],
 .o 65 (.bJ D6) [59,60,64],
 .M 12 65])
 (.block 2 (.loop [1,6,7,8,9,10,11,12] [1,6,7,8,9,10] rU))))))
 (.region 0 [.M 43 10,
 .o 44 (.aj .sub) [43,.ki 1],
 .M 10 44])))
def zo:EC:=(.seq (.region 0 [.o 88 (.aj .lss) [87,86]])
 (.seq (.cond (.t 88) .skip
 (.exit 4))
 (.seq (.block 5 (.seq (.region 0 [.M 89 87,
 .M 14 89])
 (.drawn 0 [(0,.M 90 13),
 (1,.M 91 14),
 (2,.M 92 7),
 (3,.M 93 14),
 (4,.o 94 (.bM 1) [92,93]),
 (5,.o 95 .au [94]),
 (6,.M 96 6),
 (7,.o 97 (.sh false) [95,96]),
 (8,.M 98 7),
 (9,.M 99 14),
 (10,.o 100 (.aj .add) [99,.ki 1]),
 (11,.o 101 (.bM 1) [98,100]),
 (12,.o 102 .au [101]),
 (13,.o 103 (.sh true) [102,.k (.int .u64 1)]),
 (14,.M 104 6),
 (15,.o 105 (.aj .sub) [.ki 63,104]),
 (16,.o 106 (.sh true) [103,105]),
 (17,.o 107 (.aj .or) [97,106]),
 (18,.o 108 (.bM 1) [90,91]),
 (19,⟨.store 1,[108,107],none,none⟩)])))
 (.region 0 [.o 109 (.aj .add) [87,.ki 1],
 .M 87 109]))))
def O_:EF:=⟨[0,1],[.tmp 4,.tmp 5],(.seq (.region 0 [.C 4 (.sl 0 []),
 .C 5 (.sl 0 [])])
 (.seq (.region 0 [.M 15 1,
 .M 16 1,
 .o 17 .b_ [16],
 .o 18 (.aj .sub) [17,.ki 1],
 .o 19 (.bM 1) [15,18],
 .o 20 .au [19],
 .o 21 (.ah bits_LeadingZeros64) [20],
 .M 6 21])
 (.seq (.drawn 0 [(0,.M 22 0),
 (1,.M 23 6),
 (2,.o 24 (.bJ Bc) [22,23]),
 (3,.M 25 1),
 (4,.M 26 6),
 (5,.o 27 (.bJ Bc) [25,26]),
 (6,.M 28 1),
 (7,.o 29 .b_ [28]),
 (8,.o 30 (.RX 1 false true) [27,29]),
 (9,.M 7 24),
 (10,.M 8 30)])
 (.seq (.region 1 [.M 31 0,
 .o 32 .b_ [31],
 .M 33 1,
 .o 34 .b_ [33],
 .o 35 (.aj .sub) [32,34],
 .o 36 (.aj .add) [35,.ki 1],
 .o 37 (.Iu 0 1 [.int .u64 0]) [36,36],
 .M 9 37])
 (.seq (.seq (.region 0 [.M 38 9,
 .o 39 .b_ [38],
 .o 40 (.aj .sub) [39,.ki 1],
 .M 10 40])
 (.block 0 (.loop [1,6,7,8,9,10] [1,6,7,9] zn)))
 (.seq (.region 1 [.M 82 1,
 .o 83 .b_ [82],
 .o 84 (.Iu 0 1 [.int .u64 0]) [83,83],
 .M 13 84])
 (.seq (.seq (.region 0 [.M 85 13,
 .o 86 .b_ [85],
 .C 87 (.int .i64 0)])
 (.block 4 (.loop [6,7,9,13,86,87] [9,13] zo)))
 (.seq (.region 0 [.M 110 9,
 .M 111 13,
 .M 4 110,
 .M 5 111])
 .ret))))))))⟩
def fJ:EC:=(.seq (.seq (.region 0 [.M 7 2,
 .M 8 3,
 .o 9 (.aj .lss) [7,8]])
 (.cond (.t 9) .skip
 (.exit 0)))
 (.seq (.block 1 (.drawn 0 [(0,.M 14 0),
 (1,.M 15 2),
 (2,.M 16 0),
 (3,.M 17 3),
 (4,.M 18 0),
 (5,.M 19 3),
 (6,.o 20 (.bM 1) [18,19]),
 (7,.o 21 .au [20]),
 (8,.M 22 0),
 (9,.M 23 2),
 (10,.o 24 (.bM 1) [22,23]),
 (11,.o 25 .au [24]),
 (12,.o 26 (.bM 1) [14,15]),
 (13,⟨.store 1,[26,21],none,none⟩),
 (14,.o 27 (.bM 1) [16,17]),
 (15,⟨.store 1,[27,25],none,none⟩)]))
 (.region 0 [.M 10 2,
 .o 11 (.aj .add) [10,.ki 1],
 .M 12 3,
 .o 13 (.aj .sub) [12,.ki 1],
 .M 2 11,
 .M 3 13])))
def qI:EF:=⟨[0],[],(.seq (.region 0 [.M 4 0,
 .o 5 .b_ [4],
 .o 6 (.aj .sub) [5,.ki 1],
 .C 2 (.int .i64 0),
 .M 3 6])
 (.block 0 (.loop [0,2,3] [] fJ)))⟩
def oK:EC:=(.seq (.seq (.region 0 [.M 9 1,
 .o 10 (.aj .gtr) [9,.ki 0]])
 (.cond (.t 10) .skip
 (.exit 0)))
 (.seq (.join [1,5,6] (.block 1 (.seq (.seq (.region 0 [.M 13 1,
 .o 14 (.aj .and) [13,.ki 1],
 .o 15 (.aj .eql) [14,.ki 1]])
 (.join [1,5,6] (.cond (.t 15) (.region 0 [.M 16 5,
 .M 17 6,
 .o 18 (.ah jm) [16,17],
 .M 5 18])
 .skip)))
 (.seq (.region 0 [.M 19 1,
 .o 20 (.aj .gtr) [19,.ki 1]])
 (.join [1,5,6] (.cond (.t 20) (.region 0 [.M 21 6,
 .M 22 6,
 .o 23 (.ah jm) [21,22],
 .M 6 23])
 .skip))))))
 (.region 0 [.M 11 1,
 .o 12 (.sh false) [11,.k (.int .u64 1)],
 .M 1 12])))
def GU:EF:=⟨[0,1],[.tmp 4],(.seq (.region 0 [.C 4 .aV])
 (.seq (.region 0 [.o 7 (.ah iW) [.k (.int .u64 1)],
 .M 8 0,
 .M 5 7,
 .M 6 8])
 (.seq (.block 0 (.loop [1,5,6] [5] oK))
 (.seq (.region 0 [.M 24 5,
 .M 4 24])
 .ret))))⟩
def Ew:EF:=⟨[0],[.tmp 2],(.seq (.region 0 [.C 2 (.bool false)])
 (.seq (.region 0 [.M 3 0,
 .o 4 (.ah fD) [3],
 .o 5 (.aj .geq) [4,.ki 0],
 .M 2 5])
 .ret))⟩
def Jw:EF:=⟨[0,1,2],[.tmp 6],(.seq (.region 0 [.C 6 (.int .i64 0)])
 (.seq (.region 1 [.M 12 1,
 .o 13 (.ah gU) [12],
 .M 11 13,
 .o 14 (.ext 0) [11],
 .o 15 (.ext 1) [11],
 .o 7 (.alloc 0 [.int .i64 0,.int .i64 0,.int .i64 0]) [],
 ⟨.store 3,[7,14],none,none⟩,
 .M 8 15])
 (.seq (.region 1 [.M 17 2,
 .o 18 (.ah gU) [17],
 .M 16 18,
 .o 19 (.ext 0) [16],
 .o 20 (.ext 1) [16],
 .o 9 (.alloc 0 [.int .i64 0,.int .i64 0,.int .i64 0]) [],
 ⟨.store 3,[9,19],none,none⟩,
 .M 10 20])
 (.seq (.seq (.region 0 [.M 21 8,
 .o 22 (.eqN true true) [21,.k .aG],
 .M 23 22,
 .g 23 false 24 .aX [10],
 .g 23 false 25 (.eqN true true) [24,.k .aG],
 .o 26 .pick [23,.kb true,25],
 .M 27 26,
 .g 27 false 28 .aX [0],
 .g 27 false 29 (.ah yG) [28],
 .g 27 false 30 .not [29],
 .o 31 .pick [27,.kb true,30]])
 (.cond (.t 31) (.seq (.region 0 [.C 6 (.int .i64 0)])
 .ret)
 .skip))
 (.seq (.seq (.region 0 [.M 32 0,
 .o 33 (.aj .neq) [32,.ki 1]])
 (.cond (.t 33) (.seq (.region 0 [.M 34 2,
 .M 35 1,
 .o 36 (.aj .sub) [34,35],
 .M 6 36])
 .ret)
 .skip))
 (.seq (.region 0 [.o 37 (.aK 0) [9],
 .o 38 .au [37],
 .o 39 (.aK 0) [7],
 .o 40 .au [39],
 .o 41 (.aj .sub) [38,40],
 .o 42 (.aj .mul) [.ki 360,41],
 .o 43 (.aK 1) [9],
 .o 44 .au [43],
 .o 45 (.aK 1) [7],
 .o 46 .au [45],
 .o 47 (.aj .sub) [44,46],
 .o 48 (.aj .mul) [.ki 30,47],
 .o 49 (.aj .add) [42,48],
 .o 50 (.aK 2) [9],
 .o 51 .au [50],
 .o 52 .mn [51,.ki 30],
 .o 53 (.aj .add) [49,52],
 .o 54 (.aK 2) [7],
 .o 55 .au [54],
 .o 56 .mn [55,.ki 30],
 .o 57 (.aj .sub) [53,56],
 .M 6 57])
 .ret))))))⟩
def qo:EC:=(.seq (.block 1 (.seq (.region 0 [.o 12 (.aY 9) [2],
 .M 13 6,
 .o 14 (.ah rY) [12,13],
 .M 11 14,
 .o 15 (.ext 0) [11],
 .o 16 (.ext 1) [11],
 .M 7 15,
 .M 8 16])
 (.seq (.seq (.region 0 [.M 17 8,
 .o 18 .not [17],
 .M 19 18,
 .g 19 false 20 .aX [7],
 .g 19 false 21 .aX [1],
 .g 19 false 22 (.aj .lss) [20,21],
 .o 23 .pick [19,.kb true,22]])
 (.cond (.t 23) (.seq (.region 0 [.C 4 (.int .i64 0),
 .C 5 (.bool false)])
 .ret)
 .skip))
 (.seq (.region 0 [.M 24 7,
 .M 25 1,
 .o 26 (.aj .eql) [24,25]])
 (.cond (.t 26) (.seq (.region 0 [.M 27 6,
 .M 4 27,
 .C 5 (.bool true)])
 .ret)
 .skip)))))
 (.region 0 [.M 9 6,
 .o 10 (.aj .add) [9,.ki 1],
 .M 6 10]))
def JE:EF:=⟨[0,1],[.tmp 4,.tmp 5],(.seq (.region 1 [.o 2 (.box 0) [0],
 .C 4 (.int .i64 0),
 .C 5 (.bool false)])
 (.seq (.region 0 [.C 6 (.int .i64 0)])
 (.block 0 (.loop [1,2,6] [4,5] qo))))⟩
def Gx:EF:=⟨[0,1],[.tmp 4],(.seq (.region 0 [.C 4 (.int .i64 0)])
 (.seq (.seq (.region 0 [.M 5 1])
 (.join [4] (.block 0 (.seq (.region 0 [.o 7 (.aj .eql) [5,.ki 2],
 .M 6 7])
 (.join [4] (.cond (.t 6) (.seq (.seq (.region 0 [.M 8 0,
 .o 9 (.ah DI) [8]])
 (.cond (.t 9) (.seq (.region 0 [.C 4 (.int .i64 29)])
 .ret)
 .skip))
 (.seq (.region 0 [.C 4 (.int .i64 28)])
 .ret))
 (.seq (.seq (.region 0 [.o 11 (.aj .eql) [5,.ki 4],
 .M 10 11])
 (.join [5,10] (.cond (.t 10) .skip
 (.seq (.region 0 [.o 12 (.aj .eql) [5,.ki 6],
 .M 10 12])
 (.join [5,10] (.cond (.t 10) .skip
 (.seq (.region 0 [.o 13 (.aj .eql) [5,.ki 9],
 .M 10 13])
 (.join [5,10] (.cond (.t 10) .skip
 (.region 0 [.o 14 (.aj .eql) [5,.ki 11],
 .M 10 14]))))))))))
 (.join [4] (.cond (.t 10) (.seq (.region 0 [.C 4 (.int .i64 30)])
 .ret)
 (.seq (.seq (.region 0 [.o 16 (.aj .eql) [5,.ki 1],
 .M 15 16])
 (.join [15] (.cond (.t 15) .skip
 (.seq (.region 0 [.o 17 (.aj .eql) [5,.ki 3],
 .M 15 17])
 (.join [15] (.cond (.t 15) .skip
 (.seq (.region 0 [.o 18 (.aj .eql) [5,.ki 5],
 .M 15 18])
 (.join [15] (.cond (.t 15) .skip
 (.seq (.region 0 [.o 19 (.aj .eql) [5,.ki 7],
 .M 15 19])
 (.join [15] (.cond (.t 15) .skip
 (.seq (.region 0 [.o 20 (.aj .eql) [5,.ki 8],
 .M 15 20])
 (.join [15] (.cond (.t 15) .skip
 (.seq (.region 0 [.o 21 (.aj .eql) [5,.ki 10],
 .M 15 21])
 (.join [15] (.cond (.t 15) .skip
 (.region 0 [.o 22 (.aj .eql) [5,.ki 12],
 .M 15 22])))))))))))))))))))
 (.cond (.t 15) (.seq (.region 0 [.C 4 (.int .i64 31)])
 .ret)
 .skip)))))))))))
 (.seq (.region 0 [.C 4 (.int .i64 0)])
 .ret)))⟩
def Gy:EF:=⟨[0],[.tmp 2],(.seq (.region 0 [.C 2 (.int .i64 0)])
 (.seq (.region 0 [.M 5 0,
 .o 6 (.aj .sub) [5,.ki 1],
 .M 3 6,
 .C 4 (.int .i64 1899)])
 (.seq (.region 0 [.M 7 0,
 .o 8 (.aj .sub) [7,.ki 1900],
 .o 9 (.aj .mul) [.ki 365,8],
 .M 10 3,
 .o 11 (.aj .quo) [10,.ki 4],
 .M 12 3,
 .o 13 (.aj .quo) [12,.ki 100],
 .o 14 (.aj .sub) [11,13],
 .M 15 3,
 .o 16 (.aj .quo) [15,.ki 400],
 .o 17 (.aj .add) [14,16],
 .o 18 (.aj .add) [9,17],
 .M 19 4,
 .o 20 (.aj .quo) [19,.ki 4],
 .M 21 4,
 .o 22 (.aj .quo) [21,.ki 100],
 .o 23 (.aj .sub) [20,22],
 .M 24 4,
 .o 25 (.aj .quo) [24,.ki 400],
 .o 26 (.aj .add) [23,25],
 .o 27 (.aj .sub) [18,26],
 .M 2 27])
 .ret)))⟩
def TR:EF:=⟨[0],[.tmp 2],(.seq (.region 0 [.C 2 (.bool false)])
 (.seq (.region 0 [.M 3 0,
 .o 4 (.aj .geq) [3,.ki 0],
 .M 5 4,
 .g 5 true 6 .aX [0],
 .g 5 true 7 (.aj .leq) [6,.ki 109572],
 .o 8 .pick [5,7,.kb false],
 .M 2 8])
 .ret))⟩
def Nj:EF:=⟨[0,1],[.tmp 4,.tmp 5],(.seq (.region 0 [.C 4 (.int .i64 0),
 .C 5 .aG])
 (.seq (.region 0 [.M 6 0,
 .M 7 1,
 .M 8 0,
 .M 9 1,
 .o 10 (.ah jg) [8,9],
 .o 11 (.build [.int .i64 0,.int .i64 0,.int .i64 0] [(0,1),(1,1),(2,1)]) [6,7,10],
 .o 12 (.ah wE) [11],
 .o 13 (.ext 0) [12],
 .o 14 (.ext 1) [12],
 .M 4 13,
 .M 5 14])
 .ret))⟩
def JH:EF:=⟨[0,1],[.tmp 4],(.seq (.region 0 [.C 4 (.bool false)])
 (.seq (.region 0 [.M 5 0,
 .M 6 1,
 .o 7 (.ah lD) [5,6],
 .o 8 (.aj .geq) [7,.ki 0],
 .M 4 8])
 .ret))⟩
def akY:EF:=⟨[0],[.tmp 2],(.seq (.region 1 [.o 1 (.box 0) [0],
 .C 2 (.bool false)])
 (.seq (.region 0 [.o 3 (.aY 6) [1],
 .o 4 (.ah Ij) [3],
 .o 5 .not [4],
 .M 2 5])
 .ret))⟩
def am5:EF:=⟨[0],[.tmp 2],(.seq (.region 1 [.o 1 (.box 0) [0],
 .C 2 (.bool false)])
 (.seq (.seq (.region 0 [.o 4 (.aK 0) [1],
 .o 5 .au [4]])
 (.block 0 (.seq (.region 0 [.o 7 (.aj .eql) [5,.ki 1],
 .M 6 7])
 (.cond (.t 6) (.seq (.drawn 0 [(0,.o 8 (.aK 2) [1]),
 (1,.o 9 .au [8]),
 (2,.o 10 (.aK 1) [1]),
 (3,.o 11 .au [10]),
 (4,.o 12 (.ah jg) [.ki 2000,11]),
 (5,.o 13 (.ah lY) [9,.ki 1,12]),
 (6,.M 14 13),
 (7,.g 14 true 15 (.aK 3) [1]),
 (8,.g 14 true 16 .au [15]),
 (9,.g 14 true 17 (.aj .eql) [16,.ki 0]),
 (10,.o 18 .pick [14,17,.kb false]),
 (11,.M 19 18),
 (12,.g 19 true 20 (.aK 4) [1]),
 (13,.g 19 true 21 .au [20]),
 (14,.g 19 true 22 (.aj .eql) [21,.ki 0]),
 (15,.o 23 .pick [19,22,.kb false]),
 (16,.M 2 23)])
 .ret)
 (.seq (.region 0 [.o 25 (.aj .eql) [5,.ki 2],
 .M 24 25])
 (.cond (.t 24) (.seq (.region 0 [.o 26 (.aK 3) [1],
 .o 27 .au [26],
 .o 28 (.ah lY) [27,.ki 1,.ki 5],
 .M 29 28,
 .g 29 false 30 (.aK 3) [1],
 .g 29 false 31 .au [30],
 .g 29 false 32 (.aj .eql) [31,.ki (-1)],
 .o 33 .pick [29,.kb true,32],
 .M 3 33])
 (.seq (.region 0 [.o 34 (.aK 1) [1],
 .o 35 .au [34],
 .o 36 (.ah lY) [35,.ki 1,.ki 12],
 .M 37 36,
 .g 37 true 38 .aX [3],
 .o 39 .pick [37,38,.kb false],
 .M 40 39,
 .g 40 true 41 (.aK 4) [1],
 .g 40 true 42 .au [41],
 .g 40 true 43 (.ah lY) [42,.ki 0,.ki 6],
 .o 44 .pick [40,43,.kb false],
 .M 45 44,
 .g 45 true 46 (.aK 2) [1],
 .g 45 true 47 .au [46],
 .g 45 true 48 (.aj .eql) [47,.ki 0],
 .o 49 .pick [45,48,.kb false],
 .M 50 49,
 .g 50 true 51 (.aK 5) [1],
 .g 50 true 52 .au [51],
 .g 50 true 53 .not [52],
 .o 54 .pick [50,53,.kb false],
 .M 2 54])
 .ret))
 (.seq (.region 0 [.o 56 (.aj .eql) [5,.ki 3],
 .M 55 56])
 (.cond (.t 55) (.seq (.region 0 [.o 57 (.aK 3) [1],
 .o 58 .au [57],
 .o 59 (.ah lY) [58,.ki (-100),.ki 100],
 .M 60 59,
 .g 60 true 61 (.aK 1) [1],
 .g 60 true 62 .au [61],
 .g 60 true 63 (.aj .eql) [62,.ki 0],
 .o 64 .pick [60,63,.kb false],
 .M 65 64,
 .g 65 true 66 (.aK 2) [1],
 .g 65 true 67 .au [66],
 .g 65 true 68 (.aj .eql) [67,.ki 0],
 .o 69 .pick [65,68,.kb false],
 .M 70 69,
 .g 70 true 71 (.aK 4) [1],
 .g 70 true 72 .au [71],
 .g 70 true 73 (.aj .eql) [72,.ki 0],
 .o 74 .pick [70,73,.kb false],
 .M 75 74,
 .g 75 true 76 (.aK 5) [1],
 .g 75 true 77 .au [76],
 .g 75 true 78 .not [77],
 .o 79 .pick [75,78,.kb false],
 .M 2 79])
 .ret)
 .skip))))))))
 (.seq (.region 0 [.C 2 (.bool false)])
 .ret)))⟩
def Pj:EF:=⟨[0,1],[.tmp 4],(.seq (.region 0 [.C 4 (.bool false)])
 (.seq (.region 0 [.M 5 0,
 .M 6 1,
 .o 7 (.ah pV) [5,6],
 .o 8 (.aj .geq) [7,.ki 0],
 .M 4 8])
 .ret))⟩
def akZ:EF:=⟨[0],[.tmp 2],(.seq (.region 0 [.C 2 (.bool false)])
 (.seq (.region 0 [.M 3 0,
 .o 4 (.ah fD) [3],
 .o 5 (.aj .lss) [4,.ki 0],
 .M 2 5])
 .ret))⟩
def O7:EF:=⟨[0,1],[.tmp 4,.tmp 5],(.seq (.region 1 [.o 2 (.box 0) [0],
 .C 4 (.int .i64 0),
 .C 5 (.bool false)])
 (.seq (.seq (.region 0 [.o 9 (.aY 6) [2],
 .o 10 (.ah Ij) [9],
 .o 11 .not [10]])
 (.cond (.t 11) (.seq (.region 0 [.C 4 (.int .i64 0),
 .C 5 (.bool false)])
 .ret)
 .skip))
 (.seq (.region 0 [.C 6 (.int .i64 0),
 .C 7 (.bool true)])
 (.seq (.region 0 [.C 8 .aG])
 (.seq (.seq (.region 0 [.o 12 (.aK 0) [2],
 .o 13 .au [12]])
 (.join [2,6,7,8] (.block 0 (.seq (.region 0 [.o 15 (.aj .eql) [13,.ki 1],
 .M 14 15])
 (.join [2,6,7,8] (.cond (.t 14) (.region 0 [.M 17 1,
 .o 18 (.aK 1) [2],
 .o 19 .au [18],
 .o 20 (.aK 2) [2],
 .o 21 .au [20],
 .o 22 (.build [.int .i64 0,.int .i64 0,.int .i64 0] [(0,1),(1,1),(2,1)]) [17,19,21],
 .o 23 (.ah wE) [22],
 .M 16 23,
 .o 24 (.ext 0) [16],
 .o 25 (.ext 1) [16],
 .M 6 24,
 .M 8 25])
 (.seq (.region 0 [.o 27 (.aj .eql) [13,.ki 2],
 .M 26 27])
 (.join [2,6,7,8] (.cond (.t 26) (.region 0 [.o 29 (.aY 6) [2],
 .M 30 1,
 .o 31 (.ah QM) [29,30],
 .M 28 31,
 .o 32 (.ext 0) [28],
 .o 33 (.ext 1) [28],
 .M 6 32,
 .M 7 33])
 (.seq (.region 0 [.o 35 (.aj .eql) [13,.ki 3],
 .M 34 35])
 (.join [2,6,7,8] (.cond (.t 34) (.seq (.region 0 [.M 37 1,
 .o 38 (.ah yj) [37],
 .M 36 38,
 .o 39 (.ext 0) [36],
 .o 40 (.ext 1) [36],
 .M 6 39,
 .M 8 40])
 (.region 0 [.M 41 6,
 .o 42 (.aK 3) [2],
 .o 43 .au [42],
 .o 44 (.aj .add) [41,43],
 .M 6 44]))
 .skip))))))))))))
 (.seq (.seq (.region 0 [.M 45 8,
 .o 46 (.eqN true true) [45,.k .aG],
 .M 47 46,
 .g 47 false 48 .aX [7],
 .g 47 false 49 .not [48],
 .o 50 .pick [47,.kb true,49]])
 (.cond (.t 50) (.seq (.region 0 [.C 4 (.int .i64 0),
 .C 5 (.bool false)])
 .ret)
 .skip))
 (.seq (.seq (.region 0 [.o 51 (.aK 5) [2],
 .o 52 .au [51]])
 (.join [6] (.cond (.t 52) (.region 0 [.M 53 6,
 .o 54 (.ah DN) [53],
 .M 6 54])
 .skip)))
 (.seq (.seq (.region 0 [.M 55 6,
 .o 56 (.ah lY) [55,.ki 0,.ki 109572],
 .o 57 .not [56]])
 (.cond (.t 57) (.seq (.region 0 [.C 4 (.int .i64 0),
 .C 5 (.bool false)])
 .ret)
 .skip))
 (.seq (.region 0 [.M 58 6,
 .M 4 58,
 .C 5 (.bool true)])
 .ret)))))))))⟩
def V5:EC:=(.seq (.seq (.region 0 [.M 7 1,
 .o 8 (.ah fD) [7],
 .o 9 (.aj .geq) [8,.ki 0]])
 (.cond (.t 9) .skip
 (.exit 0)))
 (.seq (.block 1 (.seq (.region 0 [.M 13 0,
 .M 14 1,
 .o 15 (.ah wM) [13,14]])
 (.cond (.t 15) (.seq (.region 0 [.M 16 1,
 .M 6 16])
 .ret)
 .skip)))
 (.region 0 [.M 10 1,
 .M 11 2,
 .o 12 (.aj .add) [10,11],
 .M 1 12])))
def ahu:EF:=⟨[0,1,2],[.tmp 6],(.seq (.region 0 [.C 6 (.int .i64 0)])
 (.seq (.block 0 (.loop [0,1,2] [6] V5))
 (.seq (.region 0 [.C 6 (.int .i64 (-1))])
 .ret)))⟩
def aiY:EF:=⟨[0,1],[.tmp 4],(.seq (.region 0 [.C 4 (.bool false)])
 (.seq (.region 1 [.M 10 0,
 .o 11 (.ah gU) [10],
 .M 9 11,
 .o 12 (.ext 0) [9],
 .o 13 (.ext 1) [9],
 .o 5 (.alloc 0 [.int .i64 0,.int .i64 0,.int .i64 0]) [],
 ⟨.store 3,[5,12],none,none⟩,
 .M 6 13])
 (.seq (.region 1 [.M 15 1,
 .o 16 (.ah gU) [15],
 .M 14 16,
 .o 17 (.ext 0) [14],
 .o 18 (.ext 1) [14],
 .o 7 (.alloc 0 [.int .i64 0,.int .i64 0,.int .i64 0]) [],
 ⟨.store 3,[7,17],none,none⟩,
 .M 8 18])
 (.seq (.region 0 [.M 19 6,
 .o 20 (.eqN false true) [19,.k .aG],
 .M 21 20,
 .g 21 true 22 (.aK 0) [5],
 .g 21 true 23 .au [22],
 .g 21 true 24 (.aK 0) [7],
 .g 21 true 25 .au [24],
 .g 21 true 26 (.aj .eql) [23,25],
 .o 27 .pick [21,26,.kb false],
 .M 28 27,
 .g 28 true 29 (.aK 1) [5],
 .g 28 true 30 .au [29],
 .g 28 true 31 (.aK 1) [7],
 .g 28 true 32 .au [31],
 .g 28 true 33 (.aj .eql) [30,32],
 .o 34 .pick [28,33,.kb false],
 .M 4 34])
 .ret))))⟩
def Yq:EF:=⟨[],[.tmp 0],(.seq (.region 0 [.C 0 (.bool false)])
 (.seq (.region 0 [.o 19 (.ah nM) [.k (.str [49,50,51,52,53,54,55,56,57,48,49,50,51,52,53,54,55,56,57,48,49,50,51,52,53,54,55,56,57,48])],
 .M 18 19,
 .o 20 (.ext 0) [18],
 .o 21 (.ext 1) [18],
 .M 1 20,
 .M 2 21])
 (.seq (.region 0 [.o 22 (.ah iW) [.k (.int .u64 7)],
 .M 3 22])
 (.seq (.seq (.region 0 [.M 23 1,
 .o 24 (.xO false) [23,.k .aV],
 .M 25 24,
 .g 25 false 26 .aX [3],
 .g 25 false 27 (.xO false) [26,.k .aV],
 .o 28 .pick [25,.kb true,27]])
 (.cond (.t 28) (.seq (.region 0 [.C 0 (.bool false)])
 .ret)
 .skip))
 (.seq (.region 0 [.M 30 1,
 .M 31 3,
 .o 32 (.ah jl) [30,31],
 .M 29 32,
 .o 33 (.ext 0) [29],
 .o 34 (.ext 1) [29],
 .o 35 (.ext 2) [29],
 .M 4 33,
 .M 5 34,
 .M 6 35])
 (.seq (.region 1 [.o 36 (.ah jI) [.ki (-7)],
 .o 37 (.build [.aV,.aV] []) [],
 .o 8 (.alloc 0 [.aV,.aV]) [],
 .M 7 36,
 ⟨.store 2,[8,37],none,none⟩])
 (.seq (.region 0 [.o 39 (.ah lC) [.ki (-6),.ki 4],
 .M 38 39,
 .o 40 (.ext 0) [38],
 .o 41 (.ext 1) [38],
 .M 9 40,
 .M 10 41])
 (.seq (.region 0 [.M 43 9,
 .o 44 (.ah NT) [43,.ki 2,.ki 1],
 .M 42 44,
 .o 45 (.ext 0) [42],
 .o 46 (.ext 1) [42],
 .M 11 45,
 .M 12 46])
 (.seq (.seq (.region 0 [.M 47 4,
 .o 48 (.xO false) [47,.k .aV],
 .M 49 48,
 .g 49 false 50 .aX [5],
 .g 49 false 51 (.xO false) [50,.k .aV],
 .o 52 .pick [49,.kb true,51],
 .M 53 52,
 .g 53 false 54 .aX [7],
 .g 53 false 55 (.xO false) [54,.k .aV],
 .o 56 .pick [53,.kb true,55],
 .M 57 56,
 .g 57 false 58 .aX [9],
 .g 57 false 59 (.xO false) [58,.k .aV],
 .o 60 .pick [57,.kb true,59]])
 (.cond (.t 60) (.seq (.region 0 [.C 0 (.bool false)])
 .ret)
 .skip))
 (.seq (.region 0 [.o 62 (.ah wF) [.k (.str [45,49,46,53,48])],
 .M 61 62,
 .o 63 (.ext 0) [61],
 .o 64 (.ext 1) [61],
 .o 65 (.ext 2) [61],
 .M 13 63,
 .M 14 64,
 .M 15 65])
 (.seq (.region 0 [.M 67 9,
 .o 68 (.ah NU) [67,.ki 2],
 .M 66 68,
 .o 69 (.ext 0) [66],
 .o 70 (.ext 1) [66],
 .M 16 69,
 .M 17 70])
 (.seq (.region 0 [.o 71 (.ah uJ) [],
 .M 72 71,
 .g 72 true 73 .aX [2],
 .g 72 true 74 (.eqN false true) [73,.k .aG],
 .o 75 .pick [72,74,.kb false],
 .M 76 75,
 .g 76 true 77 .aX [6],
 .g 76 true 78 (.eqN false true) [77,.k .aG],
 .o 79 .pick [76,78,.kb false],
 .M 80 79,
 .g 80 true 81 .aX [4],
 .g 80 true 82 .aX [3],
 .g 80 true 83 (.ah jm) [81,82],
 .g 80 true 84 .aX [5],
 .g 80 true 85 (.ah ji) [83,84],
 .g 80 true 86 .aX [1],
 .g 80 true 87 (.ah kQ) [85,86],
 .g 80 true 88 (.aj .eql) [87,.ki 0],
 .o 89 .pick [80,88,.kb false],
 .M 90 89,
 .g 90 true 91 .aX [1],
 .g 90 true 92 (.ah jF) [91],
 .g 90 true 93 (.eX .eql) [92,.k (.str [49,50,51,52,53,54,55,56,57,48,49,50,51,52,53,54,55,56,57,48,49,50,51,52,53,54,55,56,57,48])],
 .o 94 .pick [90,93,.kb false],
 .M 95 94,
 .g 95 true 96 .aX [7],
 .g 95 true 97 (.ah jH) [96],
 .g 95 true 98 (.eX .eql) [97,.k (.str [45,55])],
 .o 99 .pick [95,98,.kb false],
 .M 100 99,
 .g 100 true 101 (.xG kJ) [8],
 .g 100 true 102 (.aj .eql) [101,.ki 0],
 .o 103 .pick [100,102,.kb false],
 .M 104 103,
 .g 104 true 105 .aX [10],
 .g 104 true 106 (.eqN false true) [105,.k .aG],
 .o 107 .pick [104,106,.kb false],
 .M 108 107,
 .g 108 true 109 .aX [9],
 .g 108 true 110 (.ah fE) [109],
 .g 108 true 111 (.eX .eql) [110,.k (.str [45,51,47,50])],
 .o 112 .pick [108,111,.kb false],
 .M 113 112,
 .g 113 true 114 .aX [12],
 .g 113 true 115 (.eqN false true) [114,.k .aG],
 .o 116 .pick [113,115,.kb false],
 .M 117 116,
 .g 117 true 118 .aX [11],
 .g 117 true 119 (.eX .eql) [118,.k (.str [45,49,46,53,48])],
 .o 120 .pick [117,119,.kb false],
 .M 121 120,
 .g 121 true 122 .aX [15],
 .g 121 true 123 (.eqN false true) [122,.k .aG],
 .o 124 .pick [121,123,.kb false],
 .M 125 124,
 .g 125 true 126 .aX [14],
 .g 125 true 127 (.aj .eql) [126,.ki 2],
 .o 128 .pick [125,127,.kb false],
 .M 129 128,
 .g 129 true 130 .aX [13],
 .g 129 true 131 .aX [9],
 .g 129 true 132 (.ah jo) [130,131],
 .g 129 true 133 (.aj .eql) [132,.ki 0],
 .o 134 .pick [129,133,.kb false],
 .M 135 134,
 .g 135 true 136 .aX [17],
 .g 135 true 137 (.eqN false true) [136,.k .aG],
 .o 138 .pick [135,137,.kb false],
 .M 139 138,
 .g 139 true 140 .aX [16],
 .g 139 true 141 (.aj .eql) [140,.ki (-2)],
 .o 142 .pick [139,141,.kb false],
 .M 143 142,
 .g 143 true 144 (.ah iW) [.k (.int .u64 10)],
 .g 143 true 145 (.ah rQ) [144,.ki 20],
 .g 143 true 146 (.ah DX) [145,.ki 2],
 .g 143 true 147 (.ah jF) [146],
 .g 143 true 148 (.eX .eql) [147,.k (.str [49,48,48,48,48,48,48,48,48,48,48])],
 .o 149 .pick [143,148,.kb false],
 .M 0 149])
 .ret))))))))))))⟩
def aht:EF:=⟨[0,1],[.tmp 4],(.seq (.region 0 [.C 4 (.str [])])
 (.seq (.region 0 [.M 6 0,
 .o 7 (.ah strconv_Itoa) [6],
 .M 5 7])
 (.seq (.region 0 [.M 8 1,
 .M 9 5,
 .o 10 .wV [9],
 .o 11 (.aj .sub) [8,10],
 .o 12 .mx [11,.ki 0],
 .o 13 (.ah strings_Repeat) [.k (.str [48]),12],
 .M 14 5,
 .o 15 (.eX .add) [13,14],
 .M 4 15])
 .ret)))⟩
def vX:EC:=(.seq (.seq (.region 0 [.M 4 0,
 .M 5 3,
 .o 6 (.bM 1) [4,5],
 .o 7 .au [6],
 .o 8 (.aj .eql) [7,.k (.int .u64 0)]])
 (.cond (.t 8) .skip
 (.exit 0)))
 (.block 1 (.region 0 [.M 9 3,
 .o 10 (.aj .add) [9,.ki 1],
 .M 3 10])))
def Pg:EF:=⟨[0],[.tmp 2],(.seq (.region 0 [.C 2 (.int .i64 0)])
 (.seq (.region 0 [.C 3 (.int .i64 0)])
 (.seq (.block 0 (.loop [0,3] [0,3] vX))
 (.seq (.region 0 [.M 11 3,
 .o 12 (.aj .mul) [.ki 64,11],
 .M 13 0,
 .M 14 3,
 .o 15 (.bM 1) [13,14],
 .o 16 .au [15],
 .o 17 (.ah bits_TrailingZeros64) [16],
 .o 18 (.aj .add) [12,17],
 .M 2 18])
 .ret))))⟩
def yM:EC:=(.seq (.region 0 [.o 16 (.aj .lss) [15,14]])
 (.seq (.cond (.t 16) .skip
 (.exit 0))
 (.seq (.join [0,3,14,15] (.block 1 (.seq (.region 0 [.M 17 15,
 .M 4 17])
 (.seq (.region 0 [.M 18 0,
 .M 19 4,
 .o 20 (.bM 1) [18,19],
 .o 21 .au [20],
 .M 22 3,
 .o 23 (.sh false) [21,22],
 .o 24 (.bM 1) [18,19],
 ⟨.store 1,[24,23],none,none⟩])
 (.seq (.region 0 [.M 25 4,
 .o 26 (.aj .add) [25,.ki 1],
 .M 27 0,
 .o 28 .b_ [27],
 .o 29 (.aj .lss) [26,28]])
 (.join [0,3,14,15] (.cond (.t 29) (.drawn 0 [(0,.M 30 0),
 (1,.M 31 4),
 (2,.o 32 (.bM 1) [30,31]),
 (3,.o 33 .au [32]),
 (4,.M 34 0),
 (5,.M 35 4),
 (6,.o 36 (.aj .add) [35,.ki 1]),
 (7,.o 37 (.bM 1) [34,36]),
 (8,.o 38 .au [37]),
 (9,.o 39 (.sh true) [38,.k (.int .u64 1)]),
 (10,.M 40 3),
 (11,.o 41 (.aj .sub) [.ki 63,40]),
 (12,.o 42 (.sh true) [39,41]),
 (13,.o 43 (.aj .or) [33,42]),
 (14,.o 44 (.bM 1) [30,31]),
 (15,⟨.store 1,[44,43],none,none⟩)])
 .skip)))))))
 (.region 0 [.o 45 (.aj .add) [15,.ki 1],
 .M 15 45]))))
def T_:EF:=⟨[0],[.tmp 2],(.seq (.region 0 [.C 2 (.sl 0 [])])
 (.seq (.region 0 [.M 5 0,
 .o 6 (.bJ Bd) [5],
 .M 3 6])
 (.seq (.region 0 [.M 7 0,
 .M 8 3,
 .o 9 (.aj .quo) [8,.ki 64],
 .o 10 (.RX 1 true false) [7,9],
 .M 11 3,
 .o 12 (.aj .rem) [11,.ki 64],
 .M 0 10,
 .M 3 12])
 (.seq (.seq (.region 0 [.M 13 0,
 .o 14 .b_ [13],
 .C 15 (.int .i64 0)])
 (.block 0 (.loop [0,3,14,15] [0] yM)))
 (.seq (.region 0 [.M 46 0,
 .o 47 (.bJ gI) [46],
 .o 48 .oP [47],
 .o 49 (.aK 0) [48],
 .o 50 .au [49],
 .M 2 50])
 .ret)))))⟩
def TY:EF:=⟨[0],[.tmp 2],(.seq (.region 0 [.C 2 .aV])
 (.seq (.region 1 [.M 4 0,
 .o 5 (.aj .quo) [4,.ki 64],
 .o 6 (.aj .add) [5,.ki 1],
 .o 7 (.Iu 0 1 [.int .u64 0]) [6,6],
 .M 3 7])
 (.seq (.region 0 [.M 8 3,
 .M 9 0,
 .o 10 (.aj .quo) [9,.ki 64],
 .M 11 0,
 .o 12 (.aj .rem) [11,.ki 64],
 .o 13 (.sh true) [.k (.int .u64 1),12],
 .o 14 (.bM 1) [8,10],
 ⟨.store 1,[14,13],none,none⟩])
 (.seq (.region 0 [.M 15 3,
 .o 16 (.xG gI) [15],
 .M 2 16])
 .ret))))⟩
def vW:EC:=(.seq (.region 0 [.o 11 (.aj .lss) [10,9]])
 (.seq (.cond (.t 11) .skip
 (.exit 0))
 (.seq (.join [0,1,5,9,10] (.block 1 (.seq (.region 0 [.M 12 10,
 .M 6 12])
 (.seq (.region 0 [.C 7 (.int .u64 0)])
 (.seq (.seq (.region 0 [.M 13 6,
 .M 14 1,
 .o 15 .b_ [14],
 .o 16 (.aj .lss) [13,15]])
 (.join [0,1,5,6,7,9,10] (.cond (.t 16) (.region 0 [.M 17 1,
 .M 18 6,
 .o 19 (.bM 1) [17,18],
 .o 20 .au [19],
 .M 7 20])
 .skip)))
 (.region 0 [.M 22 0,
 .M 23 6,
 .M 24 0,
 .M 25 6,
 .o 26 (.bM 1) [24,25],
 .o 27 .au [26],
 .M 28 7,
 .M 29 5,
 .o 30 (.ah bits_Sub64) [27,28,29],
 .M 21 30,
 .o 31 (.ext 0) [21],
 .o 32 (.ext 1) [21],
 .o 33 (.bM 1) [22,23],
 ⟨.store 1,[33,31],none,none⟩,
 .M 5 32]))))))
 (.region 0 [.o 34 (.aj .add) [10,.ki 1],
 .M 10 34]))))
def O9:EF:=⟨[0,1],[.tmp 4],(.seq (.region 0 [.C 4 (.sl 0 [])])
 (.seq (.region 0 [.C 5 (.int .u64 0)])
 (.seq (.seq (.region 0 [.M 8 0,
 .o 9 .b_ [8],
 .C 10 (.int .i64 0)])
 (.block 0 (.loop [0,1,5,9,10] [0] vW)))
 (.seq (.region 0 [.M 35 0,
 .o 36 (.bJ gI) [35],
 .o 37 .oP [36],
 .o 38 (.aK 0) [37],
 .o 39 .au [38],
 .M 4 39])
 .ret))))⟩
def qc:EC:=(.seq (.seq (.region 0 [.M 67 15,
 .o 68 (.aj .geq) [67,.k (.int .u64 4294967296)],
 .M 69 68,
 .g 69 false 70 .aX [15],
 .g 69 false 71 .aX [10],
 .g 69 false 72 (.aj .mul) [70,71],
 .g 69 false 73 .aX [16],
 .g 69 false 74 (.aj .mul) [.k (.int .u64 4294967296),73],
 .g 69 false 75 .aX [13],
 .g 69 false 76 (.aj .add) [74,75],
 .g 69 false 77 (.aj .gtr) [72,76],
 .o 78 .pick [69,.kb true,77]])
 (.cond (.t 78) .skip
 (.exit 0)))
 (.block 1 (.seq (.region 0 [.M 79 15,
 .o 80 (.aj .sub) [79,.k (.int .u64 1)],
 .M 15 80])
 (.seq (.region 0 [.M 81 16,
 .M 82 9,
 .o 83 (.aj .add) [81,82],
 .M 16 83])
 (.seq (.region 0 [.M 84 16,
 .o 85 (.aj .geq) [84,.k (.int .u64 4294967296)]])
 (.cond (.t 85) (.exit 0)
 .skip))))))
def qg:EC:=(.seq (.seq (.region 0 [.M 102 18,
 .o 103 (.aj .geq) [102,.k (.int .u64 4294967296)],
 .M 104 103,
 .g 104 false 105 .aX [18],
 .g 104 false 106 .aX [10],
 .g 104 false 107 (.aj .mul) [105,106],
 .g 104 false 108 .aX [16],
 .g 104 false 109 (.aj .mul) [.k (.int .u64 4294967296),108],
 .g 104 false 110 .aX [14],
 .g 104 false 111 (.aj .add) [109,110],
 .g 104 false 112 (.aj .gtr) [107,111],
 .o 113 .pick [104,.kb true,112]])
 (.cond (.t 113) .skip
 (.exit 2)))
 (.block 3 (.seq (.region 0 [.M 114 18,
 .o 115 (.aj .sub) [114,.k (.int .u64 1)],
 .M 18 115])
 (.seq (.region 0 [.M 116 16,
 .M 117 9,
 .o 118 (.aj .add) [116,117],
 .M 16 118])
 (.seq (.region 0 [.M 119 16,
 .o 120 (.aj .geq) [119,.k (.int .u64 4294967296)]])
 (.cond (.t 120) (.exit 2)
 .skip))))))
def Jt:EF:=⟨[0,1,2],[.tmp 6,.tmp 7],(.seq (.region 0 [.C 6 (.int .u64 0),
 .C 7 (.int .u64 0)])
 (.seq (.seq (.region 0 [.M 19 2,
 .o 20 (.aj .eql) [19,.k (.int .u64 0)]])
 (.join [0,1,2] (.cond (.t 20) (.region 0 [.o 21 .stop [],
 ⟨.stop,[],none,none⟩])
 .skip)))
 (.seq (.seq (.region 0 [.M 22 2,
 .M 23 0,
 .o 24 (.aj .leq) [22,23]])
 (.join [0,1,2] (.cond (.t 24) (.region 0 [.o 25 .stop [],
 ⟨.stop,[],none,none⟩])
 .skip)))
 (.seq (.seq (.region 0 [.M 26 0,
 .o 27 (.aj .eql) [26,.k (.int .u64 0)]])
 (.cond (.t 27) (.seq (.drawn 0 [(0,.M 28 1),
 (1,.M 29 2),
 (2,.o 30 (.aj .quo) [28,29]),
 (3,.M 31 1),
 (4,.M 32 2),
 (5,.o 33 (.aj .rem) [31,32]),
 (6,.M 6 30),
 (7,.M 7 33)])
 .ret)
 .skip))
 (.seq (.region 0 [.M 34 2,
 .o 35 (.ah bits_LeadingZeros64) [34],
 .o 36 (.conv .u64) [35],
 .M 8 36])
 (.seq (.region 0 [.M 37 2,
 .M 38 8,
 .o 39 (.sh true) [37,38],
 .M 2 39])
 (.seq (.region 0 [.M 40 2,
 .o 41 (.sh false) [40,.k (.int .u64 32)],
 .M 9 41])
 (.seq (.region 0 [.M 42 2,
 .o 43 (.aj .and) [42,.k (.int .u64 4294967295)],
 .M 10 43])
 (.seq (.region 0 [.M 44 0,
 .M 45 8,
 .o 46 (.sh true) [44,45],
 .M 47 1,
 .M 48 8,
 .o 49 (.aj .sub) [.k (.int .u64 64),48],
 .o 50 (.sh false) [47,49],
 .o 51 (.aj .or) [46,50],
 .M 11 51])
 (.seq (.region 0 [.M 52 1,
 .M 53 8,
 .o 54 (.sh true) [52,53],
 .M 12 54])
 (.seq (.region 0 [.M 55 12,
 .o 56 (.sh false) [55,.k (.int .u64 32)],
 .M 13 56])
 (.seq (.region 0 [.M 57 12,
 .o 58 (.aj .and) [57,.k (.int .u64 4294967295)],
 .M 14 58])
 (.seq (.region 0 [.M 59 11,
 .M 60 9,
 .o 61 (.aj .quo) [59,60],
 .M 15 61])
 (.seq (.region 0 [.M 62 11,
 .M 63 15,
 .M 64 9,
 .o 65 (.aj .mul) [63,64],
 .o 66 (.aj .sub) [62,65],
 .M 16 66])
 (.seq (.block 0 (.loop [2,8,9,10,11,13,14,15,16] [2,8,9,10,11,13,14,15] qc))
 (.seq (.region 0 [.M 86 11,
 .o 87 (.aj .mul) [86,.k (.int .u64 4294967296)],
 .M 88 13,
 .o 89 (.aj .add) [87,88],
 .M 90 15,
 .M 91 2,
 .o 92 (.aj .mul) [90,91],
 .o 93 (.aj .sub) [89,92],
 .M 17 93])
 (.seq (.region 0 [.M 94 17,
 .M 95 9,
 .o 96 (.aj .quo) [94,95],
 .M 18 96])
 (.seq (.region 0 [.M 97 17,
 .M 98 18,
 .M 99 9,
 .o 100 (.aj .mul) [98,99],
 .o 101 (.aj .sub) [97,100],
 .M 16 101])
 (.seq (.block 2 (.loop [2,8,9,10,14,15,16,17,18] [2,8,14,15,17,18] qg))
 (.seq (.region 0 [.M 121 15,
 .o 122 (.aj .mul) [121,.k (.int .u64 4294967296)],
 .M 123 18,
 .o 124 (.aj .add) [122,123],
 .M 125 17,
 .o 126 (.aj .mul) [125,.k (.int .u64 4294967296)],
 .M 127 14,
 .o 128 (.aj .add) [126,127],
 .M 129 18,
 .M 130 2,
 .o 131 (.aj .mul) [129,130],
 .o 132 (.aj .sub) [128,131],
 .M 133 8,
 .o 134 (.sh false) [132,133],
 .M 6 124,
 .M 7 134])
 .ret))))))))))))))))))))⟩
def vV:EC:=(.seq (.region 0 [.o 15 (.aj .lss) [14,13]])
 (.seq (.cond (.t 15) .skip
 (.exit 0))
 (.seq (.block 1 (.seq (.region 0 [.M 16 14,
 .o 17 (.bM 1) [12,14],
 .o 18 .au [17],
 .M 6 16,
 .M 7 18])
 (.seq (.drawn 0 [(0,.M 19 5),
 (1,.M 20 6),
 (2,.o 21 (.bM 1) [19,20]),
 (3,.o 22 .au [21]),
 (4,.M 23 7),
 (5,.M 24 1),
 (6,.o 25 (.sh true) [23,24]),
 (7,.o 26 (.aj .or) [22,25]),
 (8,.o 27 (.bM 1) [19,20]),
 (9,⟨.store 1,[27,26],none,none⟩)])
 (.region 0 [.M 28 5,
 .M 29 6,
 .o 30 (.aj .add) [29,.ki 1],
 .M 31 7,
 .o 32 (.sh false) [31,.k (.int .u64 1)],
 .M 33 1,
 .o 34 (.aj .sub) [.ki 63,33],
 .o 35 (.sh false) [32,34],
 .o 36 (.bM 1) [28,30],
 ⟨.store 1,[36,35],none,none⟩]))))
 (.region 0 [.o 37 (.aj .add) [14,.ki 1],
 .M 14 37]))))
def O8:EF:=⟨[0,1],[.tmp 4],(.seq (.region 0 [.C 4 (.sl 0 [])])
 (.seq (.region 1 [.M 8 0,
 .o 9 .b_ [8],
 .o 10 (.aj .add) [9,.ki 1],
 .o 11 (.Iu 0 1 [.int .u64 0]) [10,10],
 .M 5 11])
 (.seq (.seq (.region 0 [.M 12 0,
 .o 13 .b_ [12],
 .C 14 (.int .i64 0)])
 (.block 0 (.loop [1,5,12,13,14] [5] vV)))
 (.seq (.region 0 [.M 38 5,
 .M 4 38])
 .ret))))⟩
def sO:EC:=(.block 1 (.seq (.region 0 [.M 49 8,
 .M 50 6,
 .o 51 (.ah bits_Mul64) [49,50],
 .M 48 51,
 .o 52 (.ext 0) [48],
 .o 53 (.ext 1) [48],
 .M 10 52,
 .M 11 53])
 (.seq (.seq (.region 0 [.M 54 10,
 .M 55 9,
 .o 56 (.aj .lss) [54,55],
 .M 57 56,
 .g 57 false 58 .aX [10],
 .g 57 false 59 .aX [9],
 .g 57 false 60 (.aj .eql) [58,59],
 .g 57 false 61 .aX [60],
 .g 61 true 62 .aX [11],
 .g 61 true 63 .aX [0],
 .g 61 true 64 .aX [7],
 .g 61 true 65 (.aj .sub) [64,.ki 2],
 .g 61 true 66 (.bM 1) [63,65],
 .g 61 true 67 .au [66],
 .g 61 true 68 (.aj .leq) [62,67],
 .g 57 false 69 .pick [61,68,.kb false],
 .o 70 .pick [57,.kb true,69]])
 (.cond (.t 70) (.seq (.region 0 [.M 71 8,
 .M 4 71])
 .ret)
 .skip))
 (.seq (.region 0 [.M 72 8,
 .o 73 (.aj .sub) [72,.k (.int .u64 1)],
 .M 8 73])
 (.seq (.region 0 [.C 12 (.int .u64 0)])
 (.seq (.region 0 [.M 75 9,
 .M 76 5,
 .o 77 (.ah bits_Add64) [75,76,.k (.int .u64 0)],
 .M 74 77,
 .o 78 (.ext 0) [74],
 .o 79 (.ext 1) [74],
 .M 9 78,
 .M 12 79])
 (.seq (.region 0 [.M 80 12,
 .o 81 (.aj .neq) [80,.k (.int .u64 0)]])
 (.cond (.t 81) (.seq (.region 0 [.M 82 8,
 .M 4 82])
 .ret)
 .skip))))))))
def Np:EF:=⟨[0,1],[.tmp 4],(.seq (.region 0 [.C 4 (.int .u64 0)])
 (.seq (.drawn 0 [(0,.M 13 1),
 (1,.M 14 1),
 (2,.o 15 .b_ [14]),
 (3,.o 16 (.aj .sub) [15,.ki 1]),
 (4,.o 17 (.bM 1) [13,16]),
 (5,.o 18 .au [17]),
 (6,.M 19 1),
 (7,.M 20 1),
 (8,.o 21 .b_ [20]),
 (9,.o 22 (.aj .sub) [21,.ki 2]),
 (10,.o 23 (.bM 1) [19,22]),
 (11,.o 24 .au [23]),
 (12,.M 5 18),
 (13,.M 6 24)])
 (.seq (.region 0 [.M 25 0,
 .o 26 .b_ [25],
 .o 27 (.aj .sub) [26,.ki 1],
 .M 7 27])
 (.seq (.seq (.region 0 [.M 28 0,
 .M 29 7,
 .o 30 (.bM 1) [28,29],
 .o 31 .au [30],
 .M 32 5,
 .o 33 (.aj .geq) [31,32]])
 (.cond (.t 33) (.seq (.region 0 [.C 4 (.int .u64 18446744073709551615)])
 .ret)
 .skip))
 (.seq (.drawn 0 [(0,.M 35 0),
 (1,.M 36 7),
 (2,.o 37 (.bM 1) [35,36]),
 (3,.o 38 .au [37]),
 (4,.M 39 0),
 (5,.M 40 7),
 (6,.o 41 (.aj .sub) [40,.ki 1]),
 (7,.o 42 (.bM 1) [39,41]),
 (8,.o 43 .au [42]),
 (9,.M 44 5),
 (10,.o 45 (.ah uT) [38,43,44]),
 (11,.M 34 45),
 (12,.o 46 (.ext 0) [34]),
 (13,.o 47 (.ext 1) [34]),
 (14,.M 8 46),
 (15,.M 9 47)])
 (.block 0 (.loop [0,5,6,7,8,9] [4] sO)))))))⟩
def wY:EC:=(.seq (.region 0 [.o 17 (.aj .lss) [16,15]])
 (.seq (.cond (.t 17) .skip
 (.exit 0))
 (.seq (.block 1 (.seq (.region 0 [.M 18 16,
 .o 19 (.bM 1) [14,16],
 .o 20 .au [19],
 .M 9 18,
 .M 10 20])
 (.seq (.region 0 [.M 22 2,
 .M 23 10,
 .o 24 (.ah bits_Mul64) [22,23],
 .M 21 24,
 .o 25 (.ext 0) [21],
 .o 26 (.ext 1) [21],
 .M 11 25,
 .M 12 26])
 (.seq (.region 0 [.C 13 (.int .u64 0)])
 (.seq (.region 0 [.M 28 12,
 .M 29 7,
 .o 30 (.ah bits_Add64) [28,29,.k (.int .u64 0)],
 .M 27 30,
 .o 31 (.ext 0) [27],
 .o 32 (.ext 1) [27],
 .M 12 31,
 .M 13 32])
 (.seq (.region 0 [.M 33 11,
 .M 34 13,
 .o 35 (.aj .add) [33,34],
 .M 7 35])
 (.region 0 [.M 37 0,
 .M 38 9,
 .M 39 0,
 .M 40 9,
 .o 41 (.bM 1) [39,40],
 .o 42 .au [41],
 .M 43 12,
 .M 44 8,
 .o 45 (.ah bits_Sub64) [42,43,44],
 .M 36 45,
 .o 46 (.ext 0) [36],
 .o 47 (.ext 1) [36],
 .o 48 (.bM 1) [37,38],
 ⟨.store 1,[48,46],none,none⟩,
 .M 8 47])))))))
 (.region 0 [.o 49 (.aj .add) [16,.ki 1],
 .M 16 49]))))
def Nr:EF:=⟨[0,1,2],[.tmp 6],(.seq (.region 0 [.C 6 (.bool false)])
 (.seq (.region 0 [.C 7 (.int .u64 0),
 .C 8 (.int .u64 0)])
 (.seq (.seq (.region 0 [.M 14 1,
 .o 15 .b_ [14],
 .C 16 (.int .i64 0)])
 (.block 0 (.loop [0,1,2,7,8,14,15,16] [0,1,7,8] wY)))
 (.seq (.region 0 [.M 51 0,
 .M 52 1,
 .o 53 .b_ [52],
 .M 54 0,
 .M 55 1,
 .o 56 .b_ [55],
 .o 57 (.bM 1) [54,56],
 .o 58 .au [57],
 .M 59 7,
 .M 60 8,
 .o 61 (.ah bits_Sub64) [58,59,60],
 .M 50 61,
 .o 62 (.ext 0) [50],
 .o 63 (.ext 1) [50],
 .o 64 (.bM 1) [51,53],
 ⟨.store 1,[64,62],none,none⟩,
 .M 8 63])
 (.seq (.region 0 [.M 65 8,
 .o 66 (.aj .neq) [65,.k (.int .u64 0)],
 .M 6 66])
 .ret)))))⟩
def wW:EC:=(.seq (.region 0 [.o 10 (.aj .lss) [9,8]])
 (.seq (.cond (.t 10) .skip
 (.exit 0))
 (.seq (.block 1 (.seq (.region 0 [.M 11 9,
 .o 12 (.bM 1) [7,9],
 .o 13 .au [12],
 .M 5 11,
 .M 6 13])
 (.region 0 [.M 15 0,
 .M 16 5,
 .M 17 0,
 .M 18 5,
 .o 19 (.bM 1) [17,18],
 .o 20 .au [19],
 .M 21 6,
 .M 22 4,
 .o 23 (.ah bits_Add64) [20,21,22],
 .M 14 23,
 .o 24 (.ext 0) [14],
 .o 25 (.ext 1) [14],
 .o 26 (.bM 1) [15,16],
 ⟨.store 1,[26,24],none,none⟩,
 .M 4 25])))
 (.region 0 [.o 27 (.aj .add) [9,.ki 1],
 .M 9 27]))))
def Nl:EF:=⟨[0,1],[],(.seq (.region 0 [.C 4 (.int .u64 0)])
 (.seq (.seq (.region 0 [.M 7 1,
 .o 8 .b_ [7],
 .C 9 (.int .i64 0)])
 (.block 0 (.loop [0,1,4,7,8,9] [0,1,4] wW)))
 (.region 0 [.M 28 0,
 .M 29 1,
 .o 30 .b_ [29],
 .o 31 (.bM 1) [28,30],
 .o 32 .au [31],
 .M 33 4,
 .o 34 (.aj .add) [32,33],
 .o 35 (.bM 1) [28,30],
 ⟨.store 1,[35,34],none,none⟩])))⟩
def M_:EF:=⟨[0],[.tmp 2],(.seq (.region 0 [.C 2 (.bool false)])
 (.seq (.region 0 [.M 3 0,
 .o 4 (.aj .rem) [3,.ki 4],
 .o 5 (.aj .eql) [4,.ki 0],
 .M 6 5,
 .g 6 true 7 .aX [0],
 .g 6 true 8 (.aj .rem) [7,.ki 100],
 .g 6 true 9 (.aj .neq) [8,.ki 0],
 .g 6 true 10 .aX [9],
 .g 10 false 11 .aX [0],
 .g 10 false 12 (.aj .rem) [11,.ki 400],
 .g 10 false 13 (.aj .eql) [12,.ki 0],
 .g 6 true 14 .pick [10,.kb true,13],
 .o 15 .pick [6,14,.kb false],
 .M 2 15])
 .ret))⟩
def Ah:EC:=(.seq (.region 0 [.o 9 (.aj .lss) [8,7]])
 (.seq (.cond (.t 9) .skip
 (.exit 0))
 (.seq (.block 1 (.seq (.region 0 [.M 10 8,
 .M 5 10])
 (.seq (.region 0 [.M 11 1,
 .M 12 0,
 .M 13 5,
 .o 14 (.bM 6) [12,13],
 .o 15 (.aY 6) [14],
 .o 16 .Es [11,15]])
 (.cond (.t 16) (.seq (.region 0 [.M 17 5,
 .M 4 17])
 .ret)
 .skip))))
 (.region 0 [.o 18 (.aj .add) [8,.ki 1],
 .M 8 18]))))
def NV:EF:=⟨[0,1],[.tmp 4],(.seq (.region 0 [.C 4 (.int .i64 0)])
 (.seq (.seq (.region 0 [.M 6 0,
 .o 7 .b_ [6],
 .C 8 (.int .i64 0)])
 (.block 0 (.loop [0,1,7,8] [4] Ah)))
 (.seq (.region 0 [.C 4 (.int .i64 (-1))])
 .ret)))⟩
def GH:EF:=⟨[0,1,2],[.tmp 6],(.seq (.region 0 [.C 6 (.bool false)])
 (.seq (.region 0 [.M 7 0,
 .M 8 1,
 .o 9 (.aj .geq) [7,8],
 .M 10 9,
 .g 10 true 11 .aX [0],
 .g 10 true 12 .aX [2],
 .g 10 true 13 (.aj .leq) [11,12],
 .o 14 .pick [10,13,.kb false],
 .M 6 14])
 .ret))⟩
def FM:EC:=(.seq (.region 0 [.o 9 (.aj .lss) [8,7]])
 (.seq (.cond (.t 9) .skip
 (.exit 0))
 (.seq (.block 1 (.seq (.region 0 [.M 10 8,
 .M 5 10])
 (.seq (.region 0 [.M 11 1,
 .M 12 0,
 .M 13 5,
 .o 14 (.bM 1) [12,13],
 .o 15 .au [14],
 .o 16 .Es [11,15]])
 (.cond (.t 16) (.seq (.region 0 [.M 17 5,
 .M 4 17])
 .ret)
 .skip))))
 (.region 0 [.o 18 (.aj .add) [8,.ki 1],
 .M 8 18]))))
def UO:EF:=⟨[0,1],[.tmp 4],(.seq (.region 0 [.C 4 (.int .i64 0)])
 (.seq (.seq (.region 0 [.M 6 0,
 .o 7 .b_ [6],
 .C 8 (.int .i64 0)])
 (.block 0 (.loop [0,1,7,8] [4] FM)))
 (.seq (.region 0 [.C 4 (.int .i64 (-1))])
 .ret)))⟩
def am6:EF:=⟨[0,1],[.tmp 4,.tmp 5],(.seq (.region 1 [.o 2 (.box 0) [0],
 .C 4 (.int .i64 0),
 .C 5 (.bool false)])
 (.seq (.region 0 [.M 12 1,
 .o 13 (.aK 1) [2],
 .o 14 .au [13],
 .o 15 (.ah Am) [12,14],
 .M 11 15,
 .o 16 (.ext 0) [11],
 .o 17 (.ext 1) [11],
 .M 6 16,
 .M 7 17])
 (.seq (.seq (.region 0 [.M 18 7,
 .o 19 (.eqN true true) [18,.k .aG]])
 (.cond (.t 19) (.seq (.region 0 [.C 4 (.int .i64 0),
 .C 5 (.bool false)])
 .ret)
 .skip))
 (.seq (.region 0 [.M 20 1,
 .o 21 (.aK 1) [2],
 .o 22 .au [21],
 .o 23 (.ah jg) [20,22],
 .M 8 23])
 (.seq (.seq (.region 0 [.o 24 (.aK 3) [2],
 .o 25 .au [24],
 .o 26 (.aj .eql) [25,.ki (-1)]])
 (.cond (.t 26) (.seq (.drawn 0 [(0,.M 27 6),
 (1,.M 28 6),
 (2,.o 29 (.ah fD) [28]),
 (3,.o 30 (.aK 4) [2]),
 (4,.o 31 .au [30]),
 (5,.o 32 (.aj .sub) [29,31]),
 (6,.o 33 (.aj .add) [32,.ki 7]),
 (7,.o 34 (.aj .rem) [33,.ki 7]),
 (8,.o 35 (.aj .sub) [27,34]),
 (9,.M 4 35),
 (10,.C 5 (.bool true))])
 .ret)
 .skip))
 (.seq (.region 0 [.M 36 6,
 .M 37 8,
 .o 38 (.aj .sub) [36,37],
 .o 39 (.aj .add) [38,.ki 1],
 .M 9 39])
 (.seq (.drawn 0 [(0,.M 40 9),
 (1,.o 41 (.aK 4) [2]),
 (2,.o 42 .au [41]),
 (3,.M 43 9),
 (4,.o 44 (.ah fD) [43]),
 (5,.o 45 (.aj .sub) [42,44]),
 (6,.o 46 (.aj .add) [45,.ki 7]),
 (7,.o 47 (.aj .rem) [46,.ki 7]),
 (8,.o 48 (.aj .add) [40,47]),
 (9,.o 49 (.aK 3) [2]),
 (10,.o 50 .au [49]),
 (11,.o 51 (.aj .sub) [50,.ki 1]),
 (12,.o 52 (.aj .mul) [.ki 7,51]),
 (13,.o 53 (.aj .add) [48,52]),
 (14,.M 10 53)])
 (.seq (.region 0 [.M 54 10,
 .M 55 10,
 .M 56 6,
 .o 57 (.aj .leq) [55,56],
 .M 4 54,
 .M 5 57])
 .ret))))))))⟩
def aeF:EF:=⟨[0],[.tmp 2],(.seq (.region 0 [.C 2 (.int .i64 0)])
 (.seq (.seq (.region 0 [.M 3 0,
 .o 4 (.ah fD) [3]])
 (.block 0 (.seq (.region 0 [.o 6 (.aj .eql) [4,.ki 6],
 .M 5 6])
 (.cond (.t 5) (.seq (.region 0 [.M 7 0,
 .o 8 (.aj .sub) [7,.ki 1],
 .M 2 8])
 .ret)
 (.seq (.region 0 [.o 10 (.aj .eql) [4,.ki 0],
 .M 9 10])
 (.cond (.t 9) (.seq (.region 0 [.M 11 0,
 .o 12 (.aj .add) [11,.ki 1],
 .M 2 12])
 .ret)
 .skip))))))
 (.seq (.region 0 [.M 13 0,
 .M 2 13])
 .ret)))⟩
def ak1:EF:=⟨[0,1,2],[.tmp 6,.tmp 7],(.seq (.region 0 [.C 6 (.str []),
 .C 7 .aG])
 (.seq (.block 0 (.seq (.region 0 [.M 9 1,
 .o 10 (.aj .lss) [9,.ki 0],
 .M 11 10,
 .g 11 false 12 .aX [1],
 .g 11 false 13 (.aj .gtr) [12,.ki 20],
 .o 14 .pick [11,.kb true,13],
 .M 8 14])
 (.cond (.t 8) (.seq (.region 0 [.o 15 (.ah dG) [.ki 2],
 .C 6 (.str []),
 .M 7 15])
 .ret)
 (.seq (.region 0 [.M 17 2,
 .o 18 (.ah KQ) [17],
 .o 19 .not [18],
 .M 16 19])
 (.cond (.t 16) (.seq (.region 0 [.o 20 (.ah dG) [.ki 1],
 .C 6 (.str []),
 .M 7 20])
 .ret)
 .skip)))))
 (.seq (.region 0 [.M 21 0,
 .o 22 (.ah dO) [21],
 .M 23 1,
 .o 24 (.ah I7) [23],
 .o 25 (.ah bW) [22,24],
 .M 26 0,
 .o 27 (.ah dD) [26],
 .M 28 2,
 .o 29 (.ah I8) [25,27,28],
 .M 30 1,
 .o 31 (.ah Js) [29,30],
 .M 6 31,
 .C 7 .aG])
 .ret)))⟩
def ak2:EF:=⟨[0,1],[.tmp 4,.tmp 5],(.seq (.region 0 [.C 4 (.int .i64 0),
 .C 5 .aG])
 (.seq (.seq (.region 0 [.M 8 1,
 .o 9 (.ah KQ) [8],
 .o 10 .not [9]])
 (.cond (.t 10) (.seq (.region 0 [.o 11 (.ah dG) [.ki 1],
 .C 4 (.int .i64 0),
 .M 5 11])
 .ret)
 .skip))
 (.seq (.region 0 [.M 13 0,
 .o 14 (.ah dO) [13],
 .M 15 0,
 .o 16 (.ah dD) [15],
 .M 17 1,
 .o 18 (.ah I8) [14,16,17],
 .o 19 (.ah BO) [18],
 .M 12 19,
 .o 20 (.ext 0) [12],
 .o 21 (.ext 1) [12],
 .M 6 20,
 .M 7 21])
 (.seq (.seq (.region 0 [.M 22 7,
 .o 23 .not [22]])
 (.cond (.t 23) (.seq (.region 0 [.o 24 (.ah dG) [.ki 11],
 .C 4 (.int .i64 0),
 .M 5 24])
 .ret)
 .skip))
 (.seq (.region 0 [.M 25 6,
 .M 4 25,
 .C 5 .aG])
 .ret)))))⟩
def Yn:EF:=⟨[],[.tmp 0],(.seq (.region 0 [.C 0 (.bool false)])
 (.seq (.region 0 [.o 1 (.ah uK) [],
 .M 0 1])
 .ret))⟩
end Go.Ev.Code
