/- A part of the proof of riskZero_card, yieldPar_card, pricePar_card. -/
import Derived.Test.YtheeamloonpolaaGreatDoorCCodeA
set_option linter.unusedVariables false
namespace Go.Ev.Code
open Go.Ev
def Ur:EC:=(.seq (.seq (.region 0 [.M 33 6,
 .o 34 (.aj .geq) [33,.ki 0]])
 (.cond (.t 34) .skip
 (.exit 1)))
 (.seq (.join [0,1,5,6] (.block 2 (.seq (.region 0 [.M 37 5,
 .M 38 6,
 .o 39 (.ah nat_bit) [38],
 .o 40 (.ah ji) [37,39],
 .M 7 40])
 (.seq (.region 0 [.M 41 7,
 .o 42 (.ah ql) [41],
 .o 43 (.aj .sub) [42,.ki 1],
 .M 44 1,
 .o 45 (.aj .mul) [43,44],
 .M 46 0,
 .o 47 (.ah ql) [46],
 .o 48 (.aj .lss) [45,47],
 .M 49 48,
 .g 49 true 50 .aX [7],
 .g 49 true 51 .aX [1],
 .g 49 true 52 (.ah rQ) [50,51],
 .g 49 true 53 .aX [0],
 .g 49 true 54 (.ah kQ) [52,53],
 .g 49 true 55 (.aj .leq) [54,.ki 0],
 .o 56 .pick [49,55,.kb false]])
 (.join [0,1,5,6] (.cond (.t 56) (.region 0 [.M 57 7,
 .M 5 57])
 .skip))))))
 (.region 0 [.M 35 6,
 .o 36 (.aj .sub) [35,.ki 1],
 .M 6 36])))
def aeG:EF:=⟨[0,1],[.tmp 4],(.seq (.region 0 [.C 4 .aV])
 (.seq (.block 0 (.seq (.region 0 [.M 9 1,
 .o 10 (.aj .leq) [9,.ki 1],
 .M 11 10,
 .g 11 false 12 .aX [0],
 .g 11 false 13 (.ah fQ) [12],
 .o 14 .pick [11,.kb true,13],
 .M 8 14])
 (.cond (.t 8) (.seq (.region 0 [.M 15 0,
 .o 16 (.ah dI) [15],
 .o 17 (.ah gI) [16],
 .M 4 17])
 .ret)
 (.seq (.region 0 [.M 19 1,
 .M 20 0,
 .o 21 (.ah ql) [20],
 .o 22 (.aj .geq) [19,21],
 .M 18 22])
 (.cond (.t 18) (.seq (.region 0 [.o 23 (.ah iW) [.k (.int .u64 1)],
 .M 4 23])
 .ret)
 .skip)))))
 (.seq (.region 0 [.o 24 (.ah iW) [.k (.int .u64 0)],
 .M 5 24])
 (.seq (.seq (.region 0 [.M 25 0,
 .o 26 (.ah ql) [25],
 .M 27 1,
 .o 28 (.aj .add) [26,27],
 .o 29 (.aj .sub) [28,.ki 1],
 .M 30 1,
 .o 31 (.aj .quo) [29,30],
 .o 32 (.aj .sub) [31,.ki 1],
 .M 6 32])
 (.block 1 (.loop [0,1,5,6] [5] Ur)))
 (.seq (.region 0 [.M 58 5,
 .M 4 58])
 .ret)))))⟩
def am4:EF:=⟨[0],[.tmp 2],(.seq (.region 0 [.C 2 (.bool false)])
 (.seq (.region 0 [.M 3 0,
 .o 4 (.aj .eql) [3,.ki 1],
 .M 5 4,
 .g 5 false 6 .aX [0],
 .g 5 false 7 (.aj .eql) [6,.ki 2],
 .o 8 .pick [5,.kb true,7],
 .M 9 8,
 .g 9 false 10 .aX [0],
 .g 9 false 11 (.aj .eql) [10,.ki 3],
 .o 12 .pick [9,.kb true,11],
 .M 2 12])
 .ret))⟩
def aiW:EF:=⟨[0,1],[.tmp 4],(.seq (.region 0 [.C 4 (.str [])])
 (.seq (.region 0 [.M 6 0,
 .o 7 (.ah bV) [6],
 .o 8 (.ah jF) [7],
 .M 5 8])
 (.seq (.seq (.region 0 [.M 9 5,
 .o 10 .wV [9],
 .M 11 1,
 .o 12 (.aj .leq) [10,11]])
 (.join [0,1,5] (.cond (.t 12) (.region 0 [.M 13 1,
 .o 14 (.aj .add) [13,.ki 1],
 .M 15 5,
 .o 16 .wV [15],
 .o 17 (.aj .sub) [14,16],
 .o 18 (.ah strings_Repeat) [.k (.str [48]),17],
 .M 19 5,
 .o 20 (.eX .add) [18,19],
 .M 5 20])
 .skip)))
 (.seq (.seq (.region 0 [.M 21 1,
 .o 22 (.aj .gtr) [21,.ki 0]])
 (.join [0,5] (.cond (.t 22) (.drawn 0 [(0,.M 23 5),
 (1,.M 24 5),
 (2,.o 25 .wV [24]),
 (3,.M 26 1),
 (4,.o 27 (.aj .sub) [25,26]),
 (5,.o 28 (.Wi false true) [23,27]),
 (6,.o 29 (.eX .add) [28,.k (.str [46])]),
 (7,.M 30 5),
 (8,.M 31 5),
 (9,.o 32 .wV [31]),
 (10,.M 33 1),
 (11,.o 34 (.aj .sub) [32,33]),
 (12,.o 35 (.Wi true false) [30,34]),
 (13,.o 36 (.eX .add) [29,35]),
 (14,.M 5 36)])
 .skip)))
 (.seq (.seq (.region 0 [.M 37 0,
 .o 38 (.ah dK) [37],
 .o 39 (.aj .lss) [38,.ki 0]])
 (.join [5] (.cond (.t 39) (.region 0 [.M 40 5,
 .o 41 (.eX .add) [.k (.str [45]),40],
 .M 5 41])
 .skip)))
 (.seq (.region 0 [.M 42 5,
 .M 4 42])
 .ret))))))⟩
def ak3:EF:=⟨[0,1,2],[.tmp 6],(.seq (.region 0 [.C 6 .aV])
 (.seq (.region 0 [.M 16 0,
 .o 17 (.ah bV) [16],
 .M 18 1,
 .o 19 (.ah bV) [18],
 .o 20 (.ah jl) [17,19],
 .M 15 20,
 .o 21 (.ext 0) [15],
 .o 22 (.ext 1) [15],
 .o 23 (.ext 2) [15],
 .M 7 21,
 .M 8 22,
 .M 9 23])
 (.seq (.region 0 [.M 25 7,
 .o 26 (.ah iW) [.k (.int .u64 2)],
 .o 27 (.ah jl) [25,26],
 .M 24 27,
 .o 28 (.ext 0) [24],
 .o 29 (.ext 1) [24],
 .o 30 (.ext 2) [24],
 .M 10 28,
 .M 11 29,
 .M 12 30])
 (.seq (.region 0 [.M 31 8,
 .M 32 8,
 .o 33 (.ah ji) [31,32],
 .M 34 1,
 .o 35 (.ah bV) [34],
 .o 36 (.ah kQ) [33,35],
 .M 13 36])
 (.seq (.region 0 [.M 37 13,
 .o 38 (.aj .gtr) [37,.ki 0],
 .M 39 38,
 .g 39 false 40 .aX [13],
 .g 39 false 41 (.aj .eql) [40,.ki 0],
 .g 39 false 42 .aX [41],
 .g 42 true 43 .aX [2],
 .g 42 true 44 (.aj .eql) [43,.ki 1],
 .g 42 true 45 .aX [44],
 .g 45 false 46 .aX [11],
 .g 45 false 47 (.ah fQ) [46],
 .g 45 false 48 .not [47],
 .g 42 true 49 .pick [45,.kb true,48],
 .g 39 false 50 .pick [42,49,.kb false],
 .o 51 .pick [39,.kb true,50],
 .M 14 51])
 (.seq (.seq (.region 0 [.M 52 14,
 .M 53 52,
 .g 53 true 54 .aX [2],
 .g 53 true 55 (.aj .neq) [54,.ki 3],
 .o 56 .pick [53,55,.kb false]])
 (.join [0,7] (.cond (.t 56) (.region 0 [.M 57 7,
 .o 58 (.ah iW) [.k (.int .u64 1)],
 .o 59 (.ah ji) [57,58],
 .M 7 59])
 .skip)))
 (.seq (.region 0 [.M 60 0,
 .o 61 (.ah dK) [60],
 .o 62 (.aj .lss) [61,.ki 0],
 .M 63 7,
 .o 64 (.ah iH) [62,63],
 .M 6 64])
 .ret)))))))⟩
def ac1:EF:=⟨[0],[.tmp 2,.tmp 3],(.seq (.region 0 [.C 2 (.int .i64 0),
 .C 3 (.bool false)])
 (.seq (.region 0 [.M 7 0,
 .o 8 (.ah bV) [7],
 .o 9 (.ah BN) [8],
 .M 6 9,
 .o 10 (.ext 0) [6],
 .o 11 (.ext 1) [6],
 .M 4 10,
 .M 5 11])
 (.seq (.block 0 (.seq (.region 0 [.M 13 5,
 .o 14 .not [13],
 .M 12 14])
 (.cond (.t 12) (.seq (.region 0 [.C 2 (.int .i64 0),
 .C 3 (.bool false)])
 .ret)
 (.seq (.region 0 [.M 16 0,
 .o 17 (.ah dK) [16],
 .o 18 (.aj .lss) [17,.ki 0],
 .M 19 18,
 .g 19 true 20 .aX [4],
 .g 19 true 21 (.aj .leq) [20,.k (.int .u64 9223372036854775808)],
 .o 22 .pick [19,21,.kb false],
 .M 15 22])
 (.cond (.t 15) (.seq (.region 0 [.M 23 4,
 .o 24 .neg [23],
 .o 25 (.conv .i64) [24],
 .M 2 25,
 .C 3 (.bool true)])
 .ret)
 (.seq (.region 0 [.M 27 0,
 .o 28 (.ah dK) [27],
 .o 29 (.aj .geq) [28,.ki 0],
 .M 30 29,
 .g 30 true 31 .aX [4],
 .g 30 true 32 (.aj .lss) [31,.k (.int .u64 9223372036854775808)],
 .o 33 .pick [30,32,.kb false],
 .M 26 33])
 (.cond (.t 26) (.seq (.region 0 [.M 34 4,
 .o 35 (.conv .i64) [34],
 .M 2 35,
 .C 3 (.bool true)])
 .ret)
 .skip)))))))
 (.seq (.region 0 [.C 2 (.int .i64 0),
 .C 3 (.bool false)])
 .ret))))⟩
def Yo:EF:=⟨[],[.tmp 0],(.seq (.region 0 [.C 0 (.bool false)])
 (.seq (.region 0 [.o 3 (.ah gY) [.ki 4,.k (.str [98])],
 .o 4 (.ah JJ) [.k (.str [97]),3],
 .M 1 4])
 (.seq (.region 0 [.M 5 1,
 .o 6 (.ah vS) [5],
 .M 2 6])
 (.seq (.seq (.region 0 [.M 7 1,
 .o 8 (.eqN false true) [7,.k .aG],
 .M 9 8,
 .g 9 false 10 .aX [2],
 .g 9 false 11 .b_ [10],
 .g 9 false 12 (.aj .neq) [11,.ki 2],
 .o 13 .pick [9,.kb true,12]])
 (.cond (.t 13) (.seq (.region 0 [.C 0 (.bool false)])
 .ret)
 .skip))
 (.seq (.region 0 [.M 14 2,
 .o 15 (.bM 1) [14,.ki 0],
 .o 16 .au [15],
 .o 17 (.eX .eql) [16,.k (.str [97])],
 .M 18 17,
 .g 18 true 19 .aX [2],
 .g 18 true 20 (.bM 1) [19,.ki 1],
 .g 18 true 21 .au [20],
 .g 18 true 22 (.eX .eql) [21,.k (.str [98])],
 .o 23 .pick [18,22,.kb false],
 .M 24 23,
 .g 24 true 25 .aX [1],
 .g 24 true 26 (.ah iT) [25],
 .g 24 true 27 (.aj .eql) [26,.ki 4],
 .o 28 .pick [24,27,.kb false],
 .M 29 28,
 .g 29 true 30 .aX [1],
 .g 29 true 31 (.JO [(jQ,pY),(kZ,kT)]) [30],
 .g 29 true 32 (.eX .eql) [31,.k (.str [97,58,32,98,58,32,101,114,114,111,114,32,52])],
 .o 33 .pick [29,32,.kb false],
 .M 34 33,
 .g 34 true 35 .aX [1],
 .g 34 true 36 (.ah dG) [.ki 4],
 .g 34 true 37 (.ah I9) [35,36],
 .o 38 .pick [34,37,.kb false],
 .M 39 38,
 .g 39 true 40 .aX [1],
 .g 39 true 41 (.ah dG) [.ki 1],
 .g 39 true 42 (.ah I9) [40,41],
 .g 39 true 43 .not [42],
 .o 44 .pick [39,43,.kb false],
 .M 45 44,
 .g 45 true 46 (.ah dG) [.ki 0],
 .g 45 true 47 (.eqN false true) [46,.k .aG],
 .o 48 .pick [45,47,.kb false],
 .M 49 48,
 .g 49 true 50 (.ah dG) [.ki 3],
 .g 49 true 51 (.ah dG) [.ki 3],
 .g 49 true 52 (.eqF false [kZ]) [50,51],
 .o 53 .pick [49,52,.kb false],
 .M 0 53])
 .ret)))))⟩
def ac0:EF:=⟨[0],[.tmp 2],(.seq (.region 0 [.C 2 (.int .i64 0)])
 (.seq (.region 0 [.M 4 0,
 .o 5 (.ah dI) [4],
 .M 3 5])
 (.seq (.seq (.region 0 [.M 6 3,
 .o 7 .b_ [6],
 .o 8 (.aj .eql) [7,.ki 0]])
 (.cond (.t 8) (.seq (.region 0 [.C 2 (.int .i64 0)])
 .ret)
 .skip))
 (.seq (.region 0 [.M 9 3,
 .o 10 .b_ [9],
 .o 11 (.aj .mul) [.ki 64,10],
 .M 12 3,
 .M 13 3,
 .o 14 .b_ [13],
 .o 15 (.aj .sub) [14,.ki 1],
 .o 16 (.bM 1) [12,15],
 .o 17 .au [16],
 .o 18 (.ah bits_LeadingZeros64) [17],
 .o 19 (.aj .sub) [11,18],
 .M 2 19])
 .ret))))⟩
def acZ:EF:=⟨[0],[.tmp 2,.tmp 3],(.seq (.region 0 [.C 2 (.int .u64 0),
 .C 3 (.bool false)])
 (.seq (.seq (.region 0 [.M 5 0,
 .o 6 (.ah dI) [5],
 .M 4 6])
 (.seq (.region 0 [.M 7 4,
 .o 8 .b_ [7]])
 (.block 0 (.seq (.region 0 [.o 10 (.aj .eql) [8,.ki 0],
 .M 9 10])
 (.cond (.t 9) (.seq (.region 0 [.C 2 (.int .u64 0),
 .C 3 (.bool true)])
 .ret)
 (.seq (.region 0 [.o 12 (.aj .eql) [8,.ki 1],
 .M 11 12])
 (.cond (.t 11) (.seq (.region 0 [.M 13 4,
 .o 14 (.bM 1) [13,.ki 0],
 .o 15 .au [14],
 .M 2 15,
 .C 3 (.bool true)])
 .ret)
 .skip)))))))
 (.seq (.region 0 [.C 2 (.int .u64 0),
 .C 3 (.bool false)])
 .ret)))⟩
def aiX:EF:=⟨[0,1],[.tmp 4],(.seq (.region 0 [.C 4 .aG])
 (.seq (.seq (.region 0 [.M 5 1,
 .o 6 (.eqN false true) [5,.k .aG]])
 (.cond (.t 6) (.seq (.region 0 [.C 4 .aG])
 .ret)
 .skip))
 (.seq (.region 1 [.M 7 1,
 .o 8 (.ah iT) [7],
 .M 9 0,
 .M 10 1,
 .o 11 (.build [.int .i64 0,.str [],.aG] [(0,1),(1,1),(2,1)]) [8,9,10],
 .o 12 (.box 0) [11],
 .o 13 (.Xc jQ) [12],
 .M 4 13])
 .ret)))⟩
def VJ:EC:=(.seq (.seq (.region 0 [.M 6 0,
 .o 7 (.eqN true true) [6,.k .aG]])
 (.cond (.t 7) .skip
 (.exit 0)))
 (.seq (.join [0,3] (.block 1 (.seq (.region 0 [.M 11 0,
 .o 12 (.ZU jQ .aV) [11],
 .M 10 12,
 .o 13 (.ext 0) [10],
 .o 14 (.ext 1) [10],
 .M 4 13,
 .M 5 14])
 (.seq (.region 0 [.M 15 5,
 .M 16 15,
 .g 16 true 17 .aX [4],
 .g 16 true 18 (.xO true) [17,.k .aV],
 .o 19 .pick [16,18,.kb false],
 .M 20 19,
 .g 20 true 21 .aX [4],
 .g 20 true 22 .oP [21],
 .g 20 true 23 (.aK 1) [22],
 .g 20 true 24 .au [23],
 .g 20 true 25 (.eX .neq) [24,.k (.str [])],
 .o 26 .pick [20,25,.kb false]])
 (.join [0,3] (.cond (.t 26) (.region 1 [.M 27 3,
 .M 28 4,
 .o 29 .oP [28],
 .o 30 (.aK 1) [29],
 .o 31 .au [30],
 .o 32 (.Df 1 1 [.str []] [(0,1)]) [31],
 .o 33 (.app 0 1) [27,32],
 .M 3 33])
 .skip))))))
 (.region 0 [.M 8 0,
 .o 9 (.ah uh) [8],
 .M 0 9])))
def Oz:EF:=⟨[0],[.tmp 2],(.seq (.region 0 [.C 2 .cu])
 (.seq (.region 0 [.C 3 .cu])
 (.seq (.block 0 (.loop [0,3] [3] VJ))
 (.seq (.region 0 [.M 34 3,
 .M 2 34])
 .ret))))⟩
def ak4:EF:=⟨[0,1],[.tmp 4],(.seq (.region 0 [.C 4 (.bool false)])
 (.seq (.seq (.region 0 [.M 6 0,
 .o 7 (.eqN false true) [6,.k .aG],
 .M 8 7,
 .g 8 false 9 .aX [1],
 .g 8 false 10 (.eqN false true) [9,.k .aG],
 .o 11 .pick [8,.kb true,10]])
 (.cond (.t 11) (.seq (.region 0 [.M 12 0,
 .M 13 1,
 .o 14 (.eqF false [kZ]) [12,13],
 .M 4 14])
 .ret)
 .skip))
 (.seq (.region 0 [.M 15 1,
 .o 16 (.ah iG) [15],
 .o 17 (.JO [(BJ,eU)]) [16],
 .M 5 17])
 (.seq (.region 0 [.M 18 0,
 .M 19 1,
 .M 20 5,
 .o 21 (.ah I_) [18,19,20],
 .M 4 21])
 .ret))))⟩
def JA:EF:=⟨[0],[.tmp 2],(.seq (.region 0 [.C 2 .aG])
 (.seq (.region 0 [.M 6 0,
 .o 7 (.Vg [(jQ,true),(kZ,false),(BJ,false)]) [6],
 .M 5 7,
 .o 8 (.ext 0) [5],
 .o 9 (.ext 1) [5],
 .M 3 8,
 .M 4 9])
 (.seq (.seq (.region 0 [.M 10 4,
 .o 11 .not [10]])
 (.cond (.t 11) (.seq (.region 0 [.C 2 .aG])
 .ret)
 .skip))
 (.seq (.region 0 [.M 12 3,
 .o 13 (.JO [(jQ,iU)]) [12],
 .M 2 13])
 .ret))))⟩
def Y6:EC:=(.seq (.region 0 [.o 46 (.aj .lss) [45,44]])
 (.seq (.cond (.t 46) .skip
 (.exit 3))
 (.seq (.block 4 (.seq (.region 0 [.o 47 (.bM 1) [43,45],
 .o 48 .au [47],
 .M 12 48])
 (.seq (.region 0 [.M 49 12,
 .M 50 1,
 .M 51 2,
 .o 52 (.ah I_) [49,50,51]])
 (.cond (.t 52) (.seq (.region 0 [.C 6 (.bool true)])
 .ret)
 .skip))))
 (.region 0 [.o 53 (.aj .add) [45,.ki 1],
 .M 45 53]))))
def Y7:EC:=(.block 1 (.seq (.seq (.region 0 [.M 14 2,
 .M 15 14,
 .g 15 true 16 .aX [0],
 .g 15 true 17 .aX [1],
 .g 15 true 18 (.eqF false [kZ]) [16,17],
 .o 19 .pick [15,18,.kb false]])
 (.cond (.t 19) (.seq (.region 0 [.C 6 (.bool true)])
 .ret)
 .skip))
 (.seq (.seq (.region 0 [.M 21 0,
 .o 22 (.Vg [(jQ,true),(kZ,false),(BJ,false)]) [21],
 .M 20 22,
 .o 23 (.ext 0) [20],
 .o 24 (.ext 1) [20],
 .M 7 23,
 .M 8 24])
 (.seq (.region 0 [.M 25 8,
 .M 26 25,
 .g 26 true 27 .aX [7],
 .g 26 true 28 .aX [1],
 .g 26 true 29 (.JO [(jQ,zV)]) [27,28],
 .o 30 .pick [26,29,.kb false]])
 (.cond (.t 30) (.seq (.region 0 [.C 6 (.bool true)])
 .ret)
 .skip)))
 (.seq (.region 0 [.M 31 0])
 (.block 2 (.seq (.region 0 [.o 32 (.Vg [(jQ,true),(kZ,false),(BJ,false)]) [31],
 .o 33 (.ext 1) [32],
 .o 34 (.ext 0) [32]])
 (.cond (.t 33) (.seq (.region 0 [.M 9 34])
 (.seq (.region 0 [.M 35 9,
 .o 36 (.JO [(jQ,iU)]) [35],
 .M 0 36])
 (.seq (.region 0 [.M 37 0,
 .o 38 (.eqN false true) [37,.k .aG]])
 (.cond (.t 38) (.seq (.region 0 [.C 6 (.bool false)])
 .ret)
 .skip))))
 (.seq (.region 0 [.o 39 (.Vg [(jQ,false),(kZ,false),(BJ,false)]) [31],
 .o 40 (.ext 1) [39],
 .o 41 (.ext 0) [39]])
 (.cond (.t 40) (.seq (.region 0 [.M 10 41])
 (.seq (.seq (.region 0 [.M 42 10,
 .o 43 (.JO [(jQ,iU)]) [42],
 .o 44 .b_ [43],
 .C 45 (.int .i64 0)])
 (.block 3 (.loop [1,2,43,44,45] [6] Y6)))
 (.seq (.region 0 [.C 6 (.bool false)])
 .ret)))
 (.seq (.region 0 [.M 13 31])
 (.seq (.region 0 [.C 6 (.bool false)])
 .ret)))))))))))
def ak5:EF:=⟨[0,1,2],[.tmp 6],(.seq (.region 0 [.C 6 (.bool false)])
 (.block 0 (.loop [0,1,2] [6] Y7)))⟩
def abx:EF:=⟨[0,1],[.tmp 4],(.seq (.region 0 [.C 4 (.bool false)])
 (.seq (.region 0 [.M 8 1,
 .o 9 (.ZU kZ (.int .i64 0)) [8],
 .M 7 9,
 .o 10 (.ext 0) [7],
 .o 11 (.ext 1) [7],
 .M 5 10,
 .M 6 11])
 (.seq (.region 0 [.M 12 0,
 .o 13 (.xO true) [12,.k .aV],
 .M 14 13,
 .g 14 true 15 .aX [6],
 .o 16 .pick [14,15,.kb false],
 .M 17 16,
 .g 17 true 18 .aX [5],
 .g 17 true 19 .aX [0],
 .g 17 true 20 .oP [19],
 .g 17 true 21 (.aK 0) [20],
 .g 17 true 22 .au [21],
 .g 17 true 23 (.aj .eql) [18,22],
 .o 24 .pick [17,23,.kb false],
 .M 4 24])
 .ret)))⟩
def AQ:EF:=⟨[0],[.tmp 2],(.seq (.region 0 [.C 2 .aG])
 (.seq (.seq (.region 0 [.M 3 0,
 .o 4 (.xO false) [3,.k .aV]])
 (.cond (.t 4) (.seq (.region 0 [.C 2 .aG])
 .ret)
 .skip))
 (.seq (.region 0 [.M 5 0,
 .o 6 .oP [5],
 .o 7 (.aK 2) [6],
 .o 8 .au [7],
 .M 2 8])
 .ret)))⟩
def CQ:EF:=⟨[0],[.tmp 2],(.seq (.region 0 [.C 2 (.str [])])
 (.seq (.region 0 [.M 3 0,
 .o 4 (.ah strconv_Itoa) [3],
 .o 5 (.eX .add) [.k (.str [101,114,114,111,114,32]),4],
 .M 2 5])
 .ret))⟩
end Go.Ev.Code
