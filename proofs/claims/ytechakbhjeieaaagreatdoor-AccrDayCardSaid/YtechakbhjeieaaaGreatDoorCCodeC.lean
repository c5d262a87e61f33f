/- Part of accrDay_card. -/
import Derived.Test.YtechakbhjeieaaaGreatDoorCCodeA
set_option linter.unusedVariables false
namespace Go.Ev.Code
open Go.Ev
def gU:EC:=(.seq (.seq (.region 0 [.M 4 0,
 .o 5 (.aj .gtr) [4,.k (.int .u64 0)]])
 (.cond (.t 5) .skip
 (.exit 0)))
 (.seq (.block 1 (.region 1 [.M 8 3,
 .M 9 0,
 .o 10 (.aj .rem) [9,.k (.int .u64 1000000000)],
 .o 11 (.Em 1 1 [.int .u64 0] [(0,1)]) [10],
 .o 12 (.app 0 1) [8,11],
 .M 3 12]))
 (.region 0 [.M 6 0,
 .o 7 (.aj .quo) [6,.k (.int .u64 1000000000)],
 .M 0 7])))
def A8:EF:=⟨[0],[.tmp 2],(.seq (.region 0 [.C 2 .bH])
 (.seq (.region 0 [.C 3 .bH])
 (.seq (.block 0 (.loop [0,3] [3] gU))
 (.seq (.region 0 [.M 13 3,
 .M 2 13])
 .ret))))⟩
def ni:EC:=(.seq (.seq (.region 0 [.M 8 6,
 .M 9 1,
 .o 10 (.aj .lss) [8,9]])
 (.cond (.t 10) .skip
 (.exit 0)))
 (.seq (.block 1 (.region 0 [.M 13 5,
 .M 14 0,
 .o 15 (.ah iK) [13,14],
 .M 5 15]))
 (.region 0 [.M 11 6,
 .o 12 (.aj .add) [11,.ki 1],
 .M 6 12])))
def A_:EF:=⟨[0,1],[.tmp 4],(.seq (.region 0 [.C 4 (.sl 0 [])])
 (.seq (.region 0 [.o 7 (.ah f_) [.k (.int .u64 1)],
 .M 5 7])
 (.seq (.seq (.region 0 [.C 6 (.int .i64 0)])
 (.block 0 (.loop [0,1,5,6] [5] ni)))
 (.seq (.region 0 [.M 16 5,
 .M 4 16])
 .ret))))⟩
def CO:EF:=⟨[0],[.cell 2 true 2],(.seq (.region 1 [.o 2 (.alloc 0 [.bool false,.sl 0 []]) []])
 (.seq (.seq (.region 0 [.M 3 0,
 .o 4 (.aj .lss) [3,.ki 0]])
 (.cond (.t 4) (.seq (.region 0 [.M 5 0,
 .o 6 (.aj .add) [5,.ki 1],
 .o 7 .neg [6],
 .o 8 (.conv .u64) [7],
 .o 9 (.aj .add) [8,.k (.int .u64 1)],
 .o 10 (.ah f_) [9],
 .o 11 (.build [.bool false,.sl 0 []] [(0,1),(1,1)]) [.kb true,10],
 ⟨.store 2,[2,11],none,none⟩])
 .ret)
 .skip))
 (.seq (.region 0 [.M 12 0,
 .o 13 (.conv .u64) [12],
 .o 14 (.ah f_) [13],
 .o 15 (.build [.bool false,.sl 0 []] [(0,1),(1,1)]) [.kb false,14],
 ⟨.store 2,[2,15],none,none⟩])
 .ret)))⟩
def zF:EF:=⟨[0,1],[.tmp 4],(.seq (.region 2 [.o 2 (.box 0) [0],
 .o 3 (.box 1) [1],
 .C 4 (.int .i64 0)])
 (.seq (.drawn 1 [(0,.o 6 (.aU 2) [2]),
 (1,.o 7 (.aU 2) [3]),
 (2,.o 8 (.ah oI) [7]),
 (3,.o 9 (.ah m_) [6,8]),
 (4,.o 5 (.alloc 0 [.bool false,.sl 0 []]) []),
 (5,⟨.store 2,[5,9],none,none⟩)])
 (.seq (.block 0 (.seq (.region 0 [.o 11 (.aC 1) [5],
 .o 12 .ak [11],
 .o 13 .bM [12],
 .o 14 (.aj .eql) [13,.ki 0],
 .M 10 14])
 (.cond (.t 10) (.seq (.region 0 [.C 4 (.int .i64 0)])
 .ret)
 (.seq (.region 0 [.o 16 (.aC 0) [5],
 .o 17 .ak [16],
 .M 15 17])
 (.cond (.t 15) (.seq (.region 0 [.C 4 (.int .i64 (-1))])
 .ret)
 .skip)))))
 (.seq (.region 0 [.C 4 (.int .i64 1)])
 .ret))))⟩
def AY:EF:=⟨[0,1],[.cell 4 true 2],(.seq (.region 1 [.o 4 (.alloc 0 [.bool false,.sl 0 []]) []])
 (.seq (.region 0 [.M 5 0,
 .M 6 5,
 .g 6 true 7 .aT [1],
 .g 6 true 8 .bM [7],
 .g 6 true 9 (.aj .gtr) [8,.ki 0],
 .o 10 .pick [6,9,.kb false],
 .M 11 1,
 .o 12 (.build [.bool false,.sl 0 []] [(0,1),(1,1)]) [10,11],
 ⟨.store 2,[4,12],none,none⟩])
 .ret))⟩
def zO:EF:=⟨[0,1,2,3,4,5],[.cell 12 true 3,.tmp 13],(.seq (.region 1 [.o 12 (.alloc 0 [.bool false,.sl 0 [],.sl 0 []]) [],
 .C 13 (.int .i64 0)])
 (.seq (.region 0 [.M 15 0,
 .o 16 (.aj .eql) [15,.ki 4],
 .M 14 16])
 (.seq (.block 0 (.seq (.region 0 [.M 18 0,
 .o 19 (.aj .lss) [18,.ki 1],
 .M 20 19,
 .g 20 false 21 .aT [0],
 .g 20 false 22 (.aj .gtr) [21,.ki 4],
 .o 23 .pick [20,.kb true,22],
 .M 17 23])
 (.cond (.t 17) (.seq (.region 0 [.o 24 (.build [.bool false,.sl 0 [],.sl 0 []] []) [],
 ⟨.store 3,[12,24],none,none⟩,
 .C 13 (.int .i64 1)])
 .ret)
 (.seq (.region 0 [.M 26 1,
 .o 27 (.ah fB) [26],
 .o 28 .not [27],
 .M 29 28,
 .g 29 false 30 .aT [2],
 .g 29 false 31 (.ah fB) [30],
 .g 29 false 32 .not [31],
 .o 33 .pick [29,.kb true,32],
 .M 34 33,
 .g 34 false 35 .aT [14],
 .g 34 false 36 .aT [35],
 .g 36 true 37 .aT [3],
 .g 36 true 38 (.ah fB) [37],
 .g 36 true 39 .not [38],
 .g 36 true 40 .aT [39],
 .g 40 false 41 .aT [4],
 .g 40 false 42 (.ah fB) [41],
 .g 40 false 43 .not [42],
 .g 36 true 44 .pick [40,.kb true,43],
 .g 34 false 45 .pick [36,44,.kb false],
 .o 46 .pick [34,.kb true,45],
 .M 47 46,
 .g 47 false 48 .aT [2],
 .g 47 false 49 .aT [1],
 .g 47 false 50 (.aj .lss) [48,49],
 .o 51 .pick [47,.kb true,50],
 .M 25 51])
 (.cond (.t 25) (.seq (.region 0 [.o 52 (.build [.bool false,.sl 0 [],.sl 0 []] []) [],
 ⟨.store 3,[12,52],none,none⟩,
 .C 13 (.int .i64 4)])
 .ret)
 (.seq (.region 0 [.M 54 14,
 .M 55 54,
 .g 55 true 56 .aT [3],
 .g 55 true 57 .aT [4],
 .g 55 true 58 (.aj .geq) [56,57],
 .g 55 true 59 .aT [58],
 .g 59 false 60 .aT [5],
 .g 59 false 61 (.aj .lss) [60,.ki 1],
 .g 55 true 62 .pick [59,.kb true,61],
 .o 63 .pick [55,62,.kb false],
 .M 53 63])
 (.cond (.t 53) (.seq (.region 0 [.o 64 (.build [.bool false,.sl 0 [],.sl 0 []] []) [],
 ⟨.store 3,[12,64],none,none⟩,
 .C 13 (.int .i64 2)])
 .ret)
 (.seq (.region 0 [.M 66 14,
 .M 65 66])
 (.cond (.t 65) (.seq (.region 0 [.M 67 2,
 .M 68 1,
 .o 69 (.aj .sub) [67,68],
 .M 70 5,
 .M 71 4,
 .M 72 3,
 .o 73 (.aj .sub) [71,72],
 .o 74 (.aj .mul) [70,73],
 .o 75 (.ah iL) [69,74],
 ⟨.store 3,[12,75],none,none⟩,
 .C 13 (.int .i64 0)])
 .ret)
 (.seq (.region 0 [.M 77 0,
 .o 78 (.aj .eql) [77,.ki 3],
 .M 76 78])
 (.cond (.t 76) (.seq (.region 0 [.M 79 2,
 .M 80 1,
 .o 81 (.aj .sub) [79,80],
 .o 82 (.ah iL) [81,.ki 365],
 ⟨.store 3,[12,82],none,none⟩,
 .C 13 (.int .i64 0)])
 .ret)
 .skip)))))))))))
 (.seq (.region 0 [.M 83 0,
 .M 84 1,
 .M 85 2,
 .o 86 (.ah pW) [83,84,85],
 .o 87 (.ah iL) [86,.ki 360],
 ⟨.store 3,[12,87],none,none⟩,
 .C 13 (.int .i64 0)])
 .ret))))⟩
def mW:EC:=(.seq (.seq (.region 0 [.M 19 5,
 .o 20 (.aj .geq) [19,.ki 0]])
 (.cond (.t 20) .skip
 (.exit 0)))
 (.seq (.block 1 (.seq (.seq (.drawn 0 [(0,.M 23 0),
 (1,.M 24 5),
 (2,.o 25 (.bF 1) [23,24]),
 (3,.o 26 .ak [25]),
 (4,.M 27 1),
 (5,.M 28 5),
 (6,.o 29 (.bF 1) [27,28]),
 (7,.o 30 .ak [29]),
 (8,.o 31 (.aj .lss) [26,30])])
 (.cond (.t 31) (.seq (.region 0 [.C 4 (.int .i64 (-1))])
 .ret)
 .skip))
 (.seq (.drawn 0 [(0,.M 32 0),
 (1,.M 33 5),
 (2,.o 34 (.bF 1) [32,33]),
 (3,.o 35 .ak [34]),
 (4,.M 36 1),
 (5,.M 37 5),
 (6,.o 38 (.bF 1) [36,37]),
 (7,.o 39 .ak [38]),
 (8,.o 40 (.aj .gtr) [35,39])])
 (.cond (.t 40) (.seq (.region 0 [.C 4 (.int .i64 1)])
 .ret)
 .skip))))
 (.region 0 [.M 21 5,
 .o 22 (.aj .sub) [21,.ki 1],
 .M 5 22])))
def AX:EF:=⟨[0,1],[.tmp 4],(.seq (.region 0 [.C 4 (.int .i64 0)])
 (.seq (.seq (.region 0 [.M 6 0,
 .o 7 .bM [6],
 .M 8 1,
 .o 9 .bM [8],
 .o 10 (.aj .neq) [7,9]])
 (.cond (.t 10) (.seq (.seq (.region 0 [.M 11 0,
 .o 12 .bM [11],
 .M 13 1,
 .o 14 .bM [13],
 .o 15 (.aj .lss) [12,14]])
 (.cond (.t 15) (.seq (.region 0 [.C 4 (.int .i64 (-1))])
 .ret)
 .skip))
 (.seq (.region 0 [.C 4 (.int .i64 1)])
 .ret))
 .skip))
 (.seq (.seq (.region 0 [.M 16 0,
 .o 17 .bM [16],
 .o 18 (.aj .sub) [17,.ki 1],
 .M 5 18])
 (.block 0 (.loop [0,1,5] [4] mW)))
 (.seq (.region 0 [.C 4 (.int .i64 0)])
 .ret))))⟩
def nC:EC:=(.seq (.seq (.region 0 [.M 48 5,
 .M 49 7,
 .o 50 (.bF 1) [48,49],
 .o 51 .ak [50],
 .o 52 (.aj .eql) [51,.k (.int .u64 0)]])
 (.cond (.t 52) .skip
 (.exit 2)))
 (.block 3 (.seq (.region 0 [.M 53 5,
 .M 54 7,
 .o 55 (.bF 1) [53,54],
 ⟨.store 1,[55,.k (.int .u64 999999999)],none,none⟩])
 (.region 0 [.M 56 7,
 .o 57 (.aj .add) [56,.ki 1],
 .M 7 57]))))
def kG:EC:=(.seq (.seq (.region 0 [.M 10 6,
 .M 11 1,
 .o 12 .bM [11],
 .o 13 (.aj .lss) [10,12]])
 (.cond (.t 13) .skip
 (.exit 0)))
 (.seq (.join [1,5,6] (.block 1 (.seq (.seq (.drawn 0 [(0,.M 16 5),
 (1,.M 17 6),
 (2,.o 18 (.bF 1) [16,17]),
 (3,.o 19 .ak [18]),
 (4,.M 20 1),
 (5,.M 21 6),
 (6,.o 22 (.bF 1) [20,21]),
 (7,.o 23 .ak [22]),
 (8,.o 24 (.aj .geq) [19,23])])
 (.cond (.t 24) (.seq (.drawn 0 [(0,.M 25 5),
 (1,.M 26 6),
 (2,.o 27 (.bF 1) [25,26]),
 (3,.o 28 .ak [27]),
 (4,.M 29 1),
 (5,.M 30 6),
 (6,.o 31 (.bF 1) [29,30]),
 (7,.o 32 .ak [31]),
 (8,.o 33 (.aj .sub) [28,32]),
 (9,.o 34 (.bF 1) [25,26]),
 (10,⟨.store 1,[34,33],none,none⟩)])
 (.exit 1))
 .skip))
 (.seq (.drawn 0 [(0,.M 35 5),
 (1,.M 36 6),
 (2,.o 37 (.bF 1) [35,36]),
 (3,.o 38 .ak [37]),
 (4,.M 39 1),
 (5,.M 40 6),
 (6,.o 41 (.bF 1) [39,40]),
 (7,.o 42 .ak [41]),
 (8,.o 43 (.aj .sub) [.k (.int .u64 1000000000),42]),
 (9,.o 44 (.aj .add) [38,43]),
 (10,.o 45 (.bF 1) [35,36]),
 (11,⟨.store 1,[45,44],none,none⟩)])
 (.seq (.region 0 [.M 46 6,
 .o 47 (.aj .add) [46,.ki 1],
 .M 7 47])
 (.seq (.block 2 (.loop [1,5,6,7] [1,5,6,7] nC))
 (.region 0 [.M 58 5,
 .M 59 7,
 .o 60 (.bF 1) [58,59],
 .o 61 .ak [60],
 .o 62 (.aj .sub) [61,.k (.int .u64 1)],
 .o 63 (.bF 1) [58,59],
 ⟨.store 1,[63,62],none,none⟩])))))))
 (.region 0 [.M 14 6,
 .o 15 (.aj .add) [14,.ki 1],
 .M 6 15])))
def Ba:EF:=⟨[0,1],[.tmp 4],(.seq (.region 0 [.C 4 .bH])
 (.seq (.region 1 [.M 8 0,
 .o 9 (.app 0 1) [.k .bH,8],
 .M 5 9])
 (.seq (.seq (.region 0 [.C 6 (.int .i64 0)])
 (.block 0 (.loop [1,5,6] [5] kG)))
 (.seq (.region 0 [.M 64 5,
 .o 65 (.uf kR) [64],
 .M 4 65])
 .ret))))⟩
def jK:EC:=(.seq (.seq (.region 0 [.M 3 0,
 .o 4 .bM [3],
 .o 5 (.aj .gtr) [4,.ki 0],
 .M 6 5,
 .g 6 true 7 .aT [0],
 .g 6 true 8 .aT [0],
 .g 6 true 9 .bM [8],
 .g 6 true 10 (.aj .sub) [9,.ki 1],
 .g 6 true 11 (.bF 1) [7,10],
 .g 6 true 12 .ak [11],
 .g 6 true 13 (.aj .eql) [12,.k (.int .u64 0)],
 .o 14 .pick [6,13,.kb false]])
 (.cond (.t 14) .skip
 (.exit 0)))
 (.block 1 (.region 0 [.M 15 0,
 .M 16 0,
 .o 17 .bM [16],
 .o 18 (.aj .sub) [17,.ki 1],
 .o 19 (.PL 1 false true) [15,18],
 .M 0 19])))
def zK:EF:=⟨[0],[.tmp 2],(.seq (.region 0 [.C 2 (.sl 0 [])])
 (.seq (.block 0 (.loop [0] [0] jK))
 (.seq (.region 0 [.M 20 0,
 .M 2 20])
 .ret)))⟩
def rU:EC:=(.seq (.seq (.region 0 [.M 67 15,
 .o 68 (.aj .geq) [67,.k (.int .u64 4294967296)],
 .M 69 68,
 .g 69 false 70 .aT [15],
 .g 69 false 71 .aT [10],
 .g 69 false 72 (.aj .mul) [70,71],
 .g 69 false 73 .aT [16],
 .g 69 false 74 (.aj .mul) [.k (.int .u64 4294967296),73],
 .g 69 false 75 .aT [13],
 .g 69 false 76 (.aj .add) [74,75],
 .g 69 false 77 (.aj .gtr) [72,76],
 .o 78 .pick [69,.kb true,77]])
 (.cond (.t 78) .skip
 (.exit 0)))
 (.block 1 (.seq (.region 0 [.M 79 15,
 .o 80 (.aj .sub) [79,.k (.int .u64 1)],
 .M 15 80])
 (.seq (.region 0 [.M 81 16,
 .M 82 9,
 .o 83 (.aj .add) [81,82],
 .M 16 83])
 (.seq (.region 0 [.M 84 16,
 .o 85 (.aj .geq) [84,.k (.int .u64 4294967296)]])
 (.cond (.t 85) (.exit 0)
 .skip))))))
def rV:EC:=(.seq (.seq (.region 0 [.M 102 18,
 .o 103 (.aj .geq) [102,.k (.int .u64 4294967296)],
 .M 104 103,
 .g 104 false 105 .aT [18],
 .g 104 false 106 .aT [10],
 .g 104 false 107 (.aj .mul) [105,106],
 .g 104 false 108 .aT [16],
 .g 104 false 109 (.aj .mul) [.k (.int .u64 4294967296),108],
 .g 104 false 110 .aT [14],
 .g 104 false 111 (.aj .add) [109,110],
 .g 104 false 112 (.aj .gtr) [107,111],
 .o 113 .pick [104,.kb true,112]])
 (.cond (.t 113) .skip
 (.exit 2)))
 (.block 3 (.seq (.region 0 [.M 114 18,
 .o 115 (.aj .sub) [114,.k (.int .u64 1)],
 .M 18 115])
 (.seq (.region 0 [.M 116 16,
 .M 117 9,
 .o 118 (.aj .add) [116,117],
 .M 16 118])
 (.seq (.region 0 [.M 119 16,
 .o 120 (.aj .geq) [119,.k (.int .u64 4294967296)]])
 (.cond (.t 120) (.exit 2)
 .skip))))))
def Ky:EF:=⟨[0,1,2],[.tmp 6,.tmp 7],(.seq (.region 0 [.C 6 (.int .u64 0),
 .C 7 (.int .u64 0)])
 (.seq (.seq (.region 0 [.M 19 2,
 .o 20 (.aj .eql) [19,.k (.int .u64 0)]])
 (.join [0,1,2] (.cond (.t 20) (.region 0 [.o 21 .stop [],
 ⟨.stop,[],none,none⟩])
 .skip)))
 (.seq (.seq (.region 0 [.M 22 2,
 .M 23 0,
 .o 24 (.aj .leq) [22,23]])
 (.join [0,1,2] (.cond (.t 24) (.region 0 [.o 25 .stop [],
 ⟨.stop,[],none,none⟩])
 .skip)))
 (.seq (.seq (.region 0 [.M 26 0,
 .o 27 (.aj .eql) [26,.k (.int .u64 0)]])
 (.cond (.t 27) (.seq (.drawn 0 [(0,.M 28 1),
 (1,.M 29 2),
 (2,.o 30 (.aj .quo) [28,29]),
 (3,.M 31 1),
 (4,.M 32 2),
 (5,.o 33 (.aj .rem) [31,32]),
 (6,.M 6 30),
 (7,.M 7 33)])
 .ret)
 .skip))
 (.seq (.region 0 [.M 34 2,
 .o 35 (.ah bits_LeadingZeros64) [34],
 .o 36 (.conv .u64) [35],
 .M 8 36])
 (.seq (.region 0 [.M 37 2,
 .M 38 8,
 .o 39 (.sh true) [37,38],
 .M 2 39])
 (.seq (.region 0 [.M 40 2,
 .o 41 (.sh false) [40,.k (.int .u64 32)],
 .M 9 41])
 (.seq (.region 0 [.M 42 2,
 .o 43 (.aj .and) [42,.k (.int .u64 4294967295)],
 .M 10 43])
 (.seq (.region 0 [.M 44 0,
 .M 45 8,
 .o 46 (.sh true) [44,45],
 .M 47 1,
 .M 48 8,
 .o 49 (.aj .sub) [.k (.int .u64 64),48],
 .o 50 (.sh false) [47,49],
 .o 51 (.aj .or) [46,50],
 .M 11 51])
 (.seq (.region 0 [.M 52 1,
 .M 53 8,
 .o 54 (.sh true) [52,53],
 .M 12 54])
 (.seq (.region 0 [.M 55 12,
 .o 56 (.sh false) [55,.k (.int .u64 32)],
 .M 13 56])
 (.seq (.region 0 [.M 57 12,
 .o 58 (.aj .and) [57,.k (.int .u64 4294967295)],
 .M 14 58])
 (.seq (.region 0 [.M 59 11,
 .M 60 9,
 .o 61 (.aj .quo) [59,60],
 .M 15 61])
 (.seq (.region 0 [.M 62 11,
 .M 63 15,
 .M 64 9,
 .o 65 (.aj .mul) [63,64],
 .o 66 (.aj .sub) [62,65],
 .M 16 66])
 (.seq (.block 0 (.loop [2,8,9,10,11,13,14,15,16] [2,8,9,10,11,13,14,15] rU))
 (.seq (.region 0 [.M 86 11,
 .o 87 (.aj .mul) [86,.k (.int .u64 4294967296)],
 .M 88 13,
 .o 89 (.aj .add) [87,88],
 .M 90 15,
 .M 91 2,
 .o 92 (.aj .mul) [90,91],
 .o 93 (.aj .sub) [89,92],
 .M 17 93])
 (.seq (.region 0 [.M 94 17,
 .M 95 9,
 .o 96 (.aj .quo) [94,95],
 .M 18 96])
 (.seq (.region 0 [.M 97 17,
 .M 98 18,
 .M 99 9,
 .o 100 (.aj .mul) [98,99],
 .o 101 (.aj .sub) [97,100],
 .M 16 101])
 (.seq (.block 2 (.loop [2,8,9,10,14,15,16,17,18] [2,8,14,15,17,18] rV))
 (.seq (.region 0 [.M 121 15,
 .o 122 (.aj .mul) [121,.k (.int .u64 4294967296)],
 .M 123 18,
 .o 124 (.aj .add) [122,123],
 .M 125 17,
 .o 126 (.aj .mul) [125,.k (.int .u64 4294967296)],
 .M 127 14,
 .o 128 (.aj .add) [126,127],
 .M 129 18,
 .M 130 2,
 .o 131 (.aj .mul) [129,130],
 .o 132 (.aj .sub) [128,131],
 .M 133 8,
 .o 134 (.sh false) [132,133],
 .M 6 124,
 .M 7 134])
 .ret))))))))))))))))))))⟩
def xE:EC:=(.seq (.seq (.region 0 [.M 4 0,
 .M 5 3,
 .o 6 (.bF 1) [4,5],
 .o 7 .ak [6],
 .o 8 (.aj .eql) [7,.k (.int .u64 0)]])
 (.cond (.t 8) .skip
 (.exit 0)))
 (.block 1 (.region 0 [.M 9 3,
 .o 10 (.aj .add) [9,.ki 1],
 .M 3 10])))
def P5:EF:=⟨[0],[.tmp 2],(.seq (.region 0 [.C 2 (.int .i64 0)])
 (.seq (.region 0 [.C 3 (.int .i64 0)])
 (.seq (.block 0 (.loop [0,3] [0,3] xE))
 (.seq (.region 0 [.M 11 3,
 .o 12 (.aj .mul) [.ki 64,11],
 .M 13 0,
 .M 14 3,
 .o 15 (.bF 1) [13,14],
 .o 16 .ak [15],
 .o 17 (.ah bits_TrailingZeros64) [16],
 .o 18 (.aj .add) [12,17],
 .M 2 18])
 .ret))))⟩
def zV:EC:=(.seq (.region 0 [.o 16 (.aj .lss) [15,14]])
 (.seq (.cond (.t 16) .skip
 (.exit 0))
 (.seq (.join [0,3,14,15] (.block 1 (.seq (.region 0 [.M 17 15,
 .M 4 17])
 (.seq (.region 0 [.M 18 0,
 .M 19 4,
 .o 20 (.bF 1) [18,19],
 .o 21 .ak [20],
 .M 22 3,
 .o 23 (.sh false) [21,22],
 .o 24 (.bF 1) [18,19],
 ⟨.store 1,[24,23],none,none⟩])
 (.seq (.region 0 [.M 25 4,
 .o 26 (.aj .add) [25,.ki 1],
 .M 27 0,
 .o 28 .bM [27],
 .o 29 (.aj .lss) [26,28]])
 (.join [0,3,14,15] (.cond (.t 29) (.drawn 0 [(0,.M 30 0),
 (1,.M 31 4),
 (2,.o 32 (.bF 1) [30,31]),
 (3,.o 33 .ak [32]),
 (4,.M 34 0),
 (5,.M 35 4),
 (6,.o 36 (.aj .add) [35,.ki 1]),
 (7,.o 37 (.bF 1) [34,36]),
 (8,.o 38 .ak [37]),
 (9,.o 39 (.sh true) [38,.k (.int .u64 1)]),
 (10,.M 40 3),
 (11,.o 41 (.aj .sub) [.ki 63,40]),
 (12,.o 42 (.sh true) [39,41]),
 (13,.o 43 (.aj .or) [33,42]),
 (14,.o 44 (.bF 1) [30,31]),
 (15,⟨.store 1,[44,43],none,none⟩)])
 .skip)))))))
 (.region 0 [.o 45 (.aj .add) [15,.ki 1],
 .M 15 45]))))
def Uo:EF:=⟨[0],[.tmp 2],(.seq (.region 0 [.C 2 (.sl 0 [])])
 (.seq (.region 0 [.M 5 0,
 .o 6 (.bK CW) [5],
 .M 3 6])
 (.seq (.region 0 [.M 7 0,
 .M 8 3,
 .o 9 (.aj .quo) [8,.ki 64],
 .o 10 (.PL 1 true false) [7,9],
 .M 11 3,
 .o 12 (.aj .rem) [11,.ki 64],
 .M 0 10,
 .M 3 12])
 (.seq (.seq (.region 0 [.M 13 0,
 .o 14 .bM [13],
 .C 15 (.int .i64 0)])
 (.block 0 (.loop [0,3,14,15] [0] zV)))
 (.seq (.region 0 [.M 46 0,
 .o 47 (.bK gJ) [46],
 .o 48 .qG [47],
 .o 49 (.aC 0) [48],
 .o 50 .ak [49],
 .M 2 50])
 .ret)))))⟩
def Un:EF:=⟨[0],[.tmp 2],(.seq (.region 0 [.C 2 .aY])
 (.seq (.region 1 [.M 4 0,
 .o 5 (.aj .quo) [4,.ki 64],
 .o 6 (.aj .add) [5,.ki 1],
 .o 7 (.G6 0 1 [.int .u64 0]) [6,6],
 .M 3 7])
 (.seq (.region 0 [.M 8 3,
 .M 9 0,
 .o 10 (.aj .quo) [9,.ki 64],
 .M 11 0,
 .o 12 (.aj .rem) [11,.ki 64],
 .o 13 (.sh true) [.k (.int .u64 1),12],
 .o 14 (.bF 1) [8,10],
 ⟨.store 1,[14,13],none,none⟩])
 (.seq (.region 0 [.M 15 3,
 .o 16 (.uf gJ) [15],
 .M 2 16])
 .ret))))⟩
def xC:EC:=(.seq (.region 0 [.o 11 (.aj .lss) [10,9]])
 (.seq (.cond (.t 11) .skip
 (.exit 0))
 (.seq (.join [0,1,5,9,10] (.block 1 (.seq (.region 0 [.M 12 10,
 .M 6 12])
 (.seq (.region 0 [.C 7 (.int .u64 0)])
 (.seq (.seq (.region 0 [.M 13 6,
 .M 14 1,
 .o 15 .bM [14],
 .o 16 (.aj .lss) [13,15]])
 (.join [0,1,5,6,7,9,10] (.cond (.t 16) (.region 0 [.M 17 1,
 .M 18 6,
 .o 19 (.bF 1) [17,18],
 .o 20 .ak [19],
 .M 7 20])
 .skip)))
 (.region 0 [.M 22 0,
 .M 23 6,
 .M 24 0,
 .M 25 6,
 .o 26 (.bF 1) [24,25],
 .o 27 .ak [26],
 .M 28 7,
 .M 29 5,
 .o 30 (.ah bits_Sub64) [27,28,29],
 .M 21 30,
 .o 31 (.ext 0) [21],
 .o 32 (.ext 1) [21],
 .o 33 (.bF 1) [22,23],
 ⟨.store 1,[33,31],none,none⟩,
 .M 5 32]))))))
 (.region 0 [.o 34 (.aj .add) [10,.ki 1],
 .M 10 34]))))
def PX:EF:=⟨[0,1],[.tmp 4],(.seq (.region 0 [.C 4 (.sl 0 [])])
 (.seq (.region 0 [.C 5 (.int .u64 0)])
 (.seq (.seq (.region 0 [.M 8 0,
 .o 9 .bM [8],
 .C 10 (.int .i64 0)])
 (.block 0 (.loop [0,1,5,9,10] [0] xC)))
 (.seq (.region 0 [.M 35 0,
 .o 36 (.bK gJ) [35],
 .o 37 .qG [36],
 .o 38 (.aC 0) [37],
 .o 39 .ak [38],
 .M 4 39])
 .ret))))⟩
def xB:EC:=(.seq (.region 0 [.o 15 (.aj .lss) [14,13]])
 (.seq (.cond (.t 15) .skip
 (.exit 0))
 (.seq (.block 1 (.seq (.region 0 [.M 16 14,
 .o 17 (.bF 1) [12,14],
 .o 18 .ak [17],
 .M 6 16,
 .M 7 18])
 (.seq (.drawn 0 [(0,.M 19 5),
 (1,.M 20 6),
 (2,.o 21 (.bF 1) [19,20]),
 (3,.o 22 .ak [21]),
 (4,.M 23 7),
 (5,.M 24 1),
 (6,.o 25 (.sh true) [23,24]),
 (7,.o 26 (.aj .or) [22,25]),
 (8,.o 27 (.bF 1) [19,20]),
 (9,⟨.store 1,[27,26],none,none⟩)])
 (.region 0 [.M 28 5,
 .M 29 6,
 .o 30 (.aj .add) [29,.ki 1],
 .M 31 7,
 .o 32 (.sh false) [31,.k (.int .u64 1)],
 .M 33 1,
 .o 34 (.aj .sub) [.ki 63,33],
 .o 35 (.sh false) [32,34],
 .o 36 (.bF 1) [28,30],
 ⟨.store 1,[36,35],none,none⟩]))))
 (.region 0 [.o 37 (.aj .add) [14,.ki 1],
 .M 14 37]))))
def PW:EF:=⟨[0,1],[.tmp 4],(.seq (.region 0 [.C 4 (.sl 0 [])])
 (.seq (.region 1 [.M 8 0,
 .o 9 .bM [8],
 .o 10 (.aj .add) [9,.ki 1],
 .o 11 (.G6 0 1 [.int .u64 0]) [10,10],
 .M 5 11])
 (.seq (.seq (.region 0 [.M 12 0,
 .o 13 .bM [12],
 .C 14 (.int .i64 0)])
 (.block 0 (.loop [1,5,12,13,14] [5] xB)))
 (.seq (.region 0 [.M 38 5,
 .M 4 38])
 .ret))))⟩
def uO:EC:=(.block 1 (.seq (.region 0 [.M 49 8,
 .M 50 6,
 .o 51 (.ah bits_Mul64) [49,50],
 .M 48 51,
 .o 52 (.ext 0) [48],
 .o 53 (.ext 1) [48],
 .M 10 52,
 .M 11 53])
 (.seq (.seq (.region 0 [.M 54 10,
 .M 55 9,
 .o 56 (.aj .lss) [54,55],
 .M 57 56,
 .g 57 false 58 .aT [10],
 .g 57 false 59 .aT [9],
 .g 57 false 60 (.aj .eql) [58,59],
 .g 57 false 61 .aT [60],
 .g 61 true 62 .aT [11],
 .g 61 true 63 .aT [0],
 .g 61 true 64 .aT [7],
 .g 61 true 65 (.aj .sub) [64,.ki 2],
 .g 61 true 66 (.bF 1) [63,65],
 .g 61 true 67 .ak [66],
 .g 61 true 68 (.aj .leq) [62,67],
 .g 57 false 69 .pick [61,68,.kb false],
 .o 70 .pick [57,.kb true,69]])
 (.cond (.t 70) (.seq (.region 0 [.M 71 8,
 .M 4 71])
 .ret)
 .skip))
 (.seq (.region 0 [.M 72 8,
 .o 73 (.aj .sub) [72,.k (.int .u64 1)],
 .M 8 73])
 (.seq (.region 0 [.C 12 (.int .u64 0)])
 (.seq (.region 0 [.M 75 9,
 .M 76 5,
 .o 77 (.ah bits_Add64) [75,76,.k (.int .u64 0)],
 .M 74 77,
 .o 78 (.ext 0) [74],
 .o 79 (.ext 1) [74],
 .M 9 78,
 .M 12 79])
 (.seq (.region 0 [.M 80 12,
 .o 81 (.aj .neq) [80,.k (.int .u64 0)]])
 (.cond (.t 81) (.seq (.region 0 [.M 82 8,
 .M 4 82])
 .ret)
 .skip))))))))
def NK:EF:=⟨[0,1],[.tmp 4],(.seq (.region 0 [.C 4 (.int .u64 0)])
 (.seq (.drawn 0 [(0,.M 13 1),
 (1,.M 14 1),
 (2,.o 15 .bM [14]),
 (3,.o 16 (.aj .sub) [15,.ki 1]),
 (4,.o 17 (.bF 1) [13,16]),
 (5,.o 18 .ak [17]),
 (6,.M 19 1),
 (7,.M 20 1),
 (8,.o 21 .bM [20]),
 (9,.o 22 (.aj .sub) [21,.ki 2]),
 (10,.o 23 (.bF 1) [19,22]),
 (11,.o 24 .ak [23]),
 (12,.M 5 18),
 (13,.M 6 24)])
 (.seq (.region 0 [.M 25 0,
 .o 26 .bM [25],
 .o 27 (.aj .sub) [26,.ki 1],
 .M 7 27])
 (.seq (.seq (.region 0 [.M 28 0,
 .M 29 7,
 .o 30 (.bF 1) [28,29],
 .o 31 .ak [30],
 .M 32 5,
 .o 33 (.aj .geq) [31,32]])
 (.cond (.t 33) (.seq (.region 0 [.C 4 (.int .u64 18446744073709551615)])
 .ret)
 .skip))
 (.seq (.drawn 0 [(0,.M 35 0),
 (1,.M 36 7),
 (2,.o 37 (.bF 1) [35,36]),
 (3,.o 38 .ak [37]),
 (4,.M 39 0),
 (5,.M 40 7),
 (6,.o 41 (.aj .sub) [40,.ki 1]),
 (7,.o 42 (.bF 1) [39,41]),
 (8,.o 43 .ak [42]),
 (9,.M 44 5),
 (10,.o 45 (.ah wJ) [38,43,44]),
 (11,.M 34 45),
 (12,.o 46 (.ext 0) [34]),
 (13,.o 47 (.ext 1) [34]),
 (14,.M 8 46),
 (15,.M 9 47)])
 (.block 0 (.loop [0,5,6,7,8,9] [4] uO)))))))⟩
def yx:EC:=(.seq (.region 0 [.o 17 (.aj .lss) [16,15]])
 (.seq (.cond (.t 17) .skip
 (.exit 0))
 (.seq (.block 1 (.seq (.region 0 [.M 18 16,
 .o 19 (.bF 1) [14,16],
 .o 20 .ak [19],
 .M 9 18,
 .M 10 20])
 (.seq (.region 0 [.M 22 2,
 .M 23 10,
 .o 24 (.ah bits_Mul64) [22,23],
 .M 21 24,
 .o 25 (.ext 0) [21],
 .o 26 (.ext 1) [21],
 .M 11 25,
 .M 12 26])
 (.seq (.region 0 [.C 13 (.int .u64 0)])
 (.seq (.region 0 [.M 28 12,
 .M 29 7,
 .o 30 (.ah bits_Add64) [28,29,.k (.int .u64 0)],
 .M 27 30,
 .o 31 (.ext 0) [27],
 .o 32 (.ext 1) [27],
 .M 12 31,
 .M 13 32])
 (.seq (.region 0 [.M 33 11,
 .M 34 13,
 .o 35 (.aj .add) [33,34],
 .M 7 35])
 (.region 0 [.M 37 0,
 .M 38 9,
 .M 39 0,
 .M 40 9,
 .o 41 (.bF 1) [39,40],
 .o 42 .ak [41],
 .M 43 12,
 .M 44 8,
 .o 45 (.ah bits_Sub64) [42,43,44],
 .M 36 45,
 .o 46 (.ext 0) [36],
 .o 47 (.ext 1) [36],
 .o 48 (.bF 1) [37,38],
 ⟨.store 1,[48,46],none,none⟩,
 .M 8 47])))))))
 (.region 0 [.o 49 (.aj .add) [16,.ki 1],
 .M 16 49]))))
def NQ:EF:=⟨[0,1,2],[.tmp 6],(.seq (.region 0 [.C 6 (.bool false)])
 (.seq (.region 0 [.C 7 (.int .u64 0),
 .C 8 (.int .u64 0)])
 (.seq (.seq (.region 0 [.M 14 1,
 .o 15 .bM [14],
 .C 16 (.int .i64 0)])
 (.block 0 (.loop [0,1,2,7,8,14,15,16] [0,1,7,8] yx)))
 (.seq (.region 0 [.M 51 0,
 .M 52 1,
 .o 53 .bM [52],
 .M 54 0,
 .M 55 1,
 .o 56 .bM [55],
 .o 57 (.bF 1) [54,56],
 .o 58 .ak [57],
 .M 59 7,
 .M 60 8,
 .o 61 (.ah bits_Sub64) [58,59,60],
 .M 50 61,
 .o 62 (.ext 0) [50],
 .o 63 (.ext 1) [50],
 .o 64 (.bF 1) [51,53],
 ⟨.store 1,[64,62],none,none⟩,
 .M 8 63])
 (.seq (.region 0 [.M 65 8,
 .o 66 (.aj .neq) [65,.k (.int .u64 0)],
 .M 6 66])
 .ret)))))⟩
def yu:EC:=(.seq (.region 0 [.o 10 (.aj .lss) [9,8]])
 (.seq (.cond (.t 10) .skip
 (.exit 0))
 (.seq (.block 1 (.seq (.region 0 [.M 11 9,
 .o 12 (.bF 1) [7,9],
 .o 13 .ak [12],
 .M 5 11,
 .M 6 13])
 (.region 0 [.M 15 0,
 .M 16 5,
 .M 17 0,
 .M 18 5,
 .o 19 (.bF 1) [17,18],
 .o 20 .ak [19],
 .M 21 6,
 .M 22 4,
 .o 23 (.ah bits_Add64) [20,21,22],
 .M 14 23,
 .o 24 (.ext 0) [14],
 .o 25 (.ext 1) [14],
 .o 26 (.bF 1) [15,16],
 ⟨.store 1,[26,24],none,none⟩,
 .M 4 25])))
 (.region 0 [.o 27 (.aj .add) [9,.ki 1],
 .M 9 27]))))
def NJ:EF:=⟨[0,1],[],(.seq (.region 0 [.C 4 (.int .u64 0)])
 (.seq (.seq (.region 0 [.M 7 1,
 .o 8 .bM [7],
 .C 9 (.int .i64 0)])
 (.block 0 (.loop [0,1,4,7,8,9] [0,1,4] yu)))
 (.region 0 [.M 28 0,
 .M 29 1,
 .o 30 .bM [29],
 .o 31 (.bF 1) [28,30],
 .o 32 .ak [31],
 .M 33 4,
 .o 34 (.aj .add) [32,33],
 .o 35 (.bF 1) [28,30],
 ⟨.store 1,[35,34],none,none⟩])))⟩
def Nz:EF:=⟨[0],[.tmp 2],(.seq (.region 0 [.C 2 (.bool false)])
 (.seq (.region 0 [.M 3 0,
 .o 4 (.aj .rem) [3,.ki 4],
 .o 5 (.aj .eql) [4,.ki 0],
 .M 6 5,
 .g 6 true 7 .aT [0],
 .g 6 true 8 (.aj .rem) [7,.ki 100],
 .g 6 true 9 (.aj .neq) [8,.ki 0],
 .g 6 true 10 .aT [9],
 .g 10 false 11 .aT [0],
 .g 10 false 12 (.aj .rem) [11,.ki 400],
 .g 10 false 13 (.aj .eql) [12,.ki 0],
 .g 6 true 14 .pick [10,.kb true,13],
 .o 15 .pick [6,14,.kb false],
 .M 2 15])
 .ret))⟩
def BM:EC:=(.seq (.region 0 [.o 9 (.aj .lss) [8,7]])
 (.seq (.cond (.t 9) .skip
 (.exit 0))
 (.seq (.block 1 (.seq (.region 0 [.M 10 8,
 .M 5 10])
 (.seq (.region 0 [.M 11 1,
 .M 12 0,
 .M 13 5,
 .o 14 (.bF 6) [12,13],
 .o 15 (.aU 6) [14],
 .o 16 .FW [11,15]])
 (.cond (.t 16) (.seq (.region 0 [.M 17 5,
 .M 4 17])
 .ret)
 .skip))))
 (.region 0 [.o 18 (.aj .add) [8,.ki 1],
 .M 8 18]))))
def Oy:EF:=⟨[0,1],[.tmp 4],(.seq (.region 0 [.C 4 (.int .i64 0)])
 (.seq (.seq (.region 0 [.M 6 0,
 .o 7 .bM [6],
 .C 8 (.int .i64 0)])
 (.block 0 (.loop [0,1,7,8] [4] BM)))
 (.seq (.region 0 [.C 4 (.int .i64 (-1))])
 .ret)))⟩
def Il:EF:=⟨[0,1,2],[.tmp 6],(.seq (.region 0 [.C 6 (.bool false)])
 (.seq (.region 0 [.M 7 0,
 .M 8 1,
 .o 9 (.aj .geq) [7,8],
 .M 10 9,
 .g 10 true 11 .aT [0],
 .g 10 true 12 .aT [2],
 .g 10 true 13 (.aj .leq) [11,12],
 .o 14 .pick [10,13,.kb false],
 .M 6 14])
 .ret))⟩
def GI:EC:=(.seq (.region 0 [.o 9 (.aj .lss) [8,7]])
 (.seq (.cond (.t 9) .skip
 (.exit 0))
 (.seq (.block 1 (.seq (.region 0 [.M 10 8,
 .M 5 10])
 (.seq (.region 0 [.M 11 1,
 .M 12 0,
 .M 13 5,
 .o 14 (.bF 1) [12,13],
 .o 15 .ak [14],
 .o 16 .FW [11,15]])
 (.cond (.t 16) (.seq (.region 0 [.M 17 5,
 .M 4 17])
 .ret)
 .skip))))
 (.region 0 [.o 18 (.aj .add) [8,.ki 1],
 .M 8 18]))))
def Vf:EF:=⟨[0,1],[.tmp 4],(.seq (.region 0 [.C 4 (.int .i64 0)])
 (.seq (.seq (.region 0 [.M 6 0,
 .o 7 .bM [6],
 .C 8 (.int .i64 0)])
 (.block 0 (.loop [0,1,7,8] [4] GI)))
 (.seq (.region 0 [.C 4 (.int .i64 (-1))])
 .ret)))⟩
def anl:EF:=⟨[0,1],[.tmp 4,.tmp 5],(.seq (.region 1 [.o 2 (.box 0) [0],
 .C 4 (.int .i64 0),
 .C 5 (.bool false)])
 (.seq (.region 0 [.M 12 1,
 .o 13 (.aC 1) [2],
 .o 14 .ak [13],
 .o 15 (.ah BP) [12,14],
 .M 11 15,
 .o 16 (.ext 0) [11],
 .o 17 (.ext 1) [11],
 .M 6 16,
 .M 7 17])
 (.seq (.seq (.region 0 [.M 18 7,
 .o 19 (.eqN true true) [18,.k .aK]])
 (.cond (.t 19) (.seq (.region 0 [.C 4 (.int .i64 0),
 .C 5 (.bool false)])
 .ret)
 .skip))
 (.seq (.region 0 [.M 20 1,
 .o 21 (.aC 1) [2],
 .o 22 .ak [21],
 .o 23 (.ah jv) [20,22],
 .M 8 23])
 (.seq (.seq (.region 0 [.o 24 (.aC 3) [2],
 .o 25 .ak [24],
 .o 26 (.aj .eql) [25,.ki (-1)]])
 (.cond (.t 26) (.seq (.drawn 0 [(0,.M 27 6),
 (1,.M 28 6),
 (2,.o 29 (.ah fF) [28]),
 (3,.o 30 (.aC 4) [2]),
 (4,.o 31 .ak [30]),
 (5,.o 32 (.aj .sub) [29,31]),
 (6,.o 33 (.aj .add) [32,.ki 7]),
 (7,.o 34 (.aj .rem) [33,.ki 7]),
 (8,.o 35 (.aj .sub) [27,34]),
 (9,.M 4 35),
 (10,.C 5 (.bool true))])
 .ret)
 .skip))
 (.seq (.region 0 [.M 36 6,
 .M 37 8,
 .o 38 (.aj .sub) [36,37],
 .o 39 (.aj .add) [38,.ki 1],
 .M 9 39])
 (.seq (.drawn 0 [(0,.M 40 9),
 (1,.o 41 (.aC 4) [2]),
 (2,.o 42 .ak [41]),
 (3,.M 43 9),
 (4,.o 44 (.ah fF) [43]),
 (5,.o 45 (.aj .sub) [42,44]),
 (6,.o 46 (.aj .add) [45,.ki 7]),
 (7,.o 47 (.aj .rem) [46,.ki 7]),
 (8,.o 48 (.aj .add) [40,47]),
 (9,.o 49 (.aC 3) [2]),
 (10,.o 50 .ak [49]),
 (11,.o 51 (.aj .sub) [50,.ki 1]),
 (12,.o 52 (.aj .mul) [.ki 7,51]),
 (13,.o 53 (.aj .add) [48,52]),
 (14,.M 10 53)])
 (.seq (.region 0 [.M 54 10,
 .M 55 10,
 .M 56 6,
 .o 57 (.aj .leq) [55,56],
 .M 4 54,
 .M 5 57])
 .ret))))))))⟩
def ae4:EF:=⟨[0],[.tmp 2],(.seq (.region 0 [.C 2 (.int .i64 0)])
 (.seq (.seq (.region 0 [.M 3 0,
 .o 4 (.ah fF) [3]])
 (.block 0 (.seq (.region 0 [.o 6 (.aj .eql) [4,.ki 6],
 .M 5 6])
 (.cond (.t 5) (.seq (.region 0 [.M 7 0,
 .o 8 (.aj .sub) [7,.ki 1],
 .M 2 8])
 .ret)
 (.seq (.region 0 [.o 10 (.aj .eql) [4,.ki 0],
 .M 9 10])
 (.cond (.t 9) (.seq (.region 0 [.M 11 0,
 .o 12 (.aj .add) [11,.ki 1],
 .M 2 12])
 .ret)
 .skip))))))
 (.seq (.region 0 [.M 13 0,
 .M 2 13])
 .ret)))⟩
def alg:EF:=⟨[0,1,2],[.tmp 6,.tmp 7],(.seq (.region 0 [.C 6 (.str []),
 .C 7 .aK])
 (.seq (.block 0 (.seq (.region 0 [.M 9 1,
 .o 10 (.aj .lss) [9,.ki 0],
 .M 11 10,
 .g 11 false 12 .aT [1],
 .g 11 false 13 (.aj .gtr) [12,.ki 20],
 .o 14 .pick [11,.kb true,13],
 .M 8 14])
 (.cond (.t 8) (.seq (.region 0 [.o 15 (.ah dB) [.ki 2],
 .C 6 (.str []),
 .M 7 15])
 .ret)
 (.seq (.region 0 [.M 17 2,
 .o 18 (.ah MG) [17],
 .o 19 .not [18],
 .M 16 19])
 (.cond (.t 16) (.seq (.region 0 [.o 20 (.ah dB) [.ki 1],
 .C 6 (.str []),
 .M 7 20])
 .ret)
 .skip)))))
 (.seq (.region 0 [.M 21 0,
 .o 22 (.ah dI) [21],
 .M 23 1,
 .o 24 (.ah JI) [23],
 .o 25 (.ah bZ) [22,24],
 .M 26 0,
 .o 27 (.ah dh) [26],
 .M 28 2,
 .o 29 (.ah JJ) [25,27,28],
 .M 30 1,
 .o 31 (.ah Kw) [29,30],
 .M 6 31,
 .C 7 .aK])
 .ret)))⟩
def alh:EF:=⟨[0,1],[.tmp 4,.tmp 5],(.seq (.region 0 [.C 4 (.int .i64 0),
 .C 5 .aK])
 (.seq (.seq (.region 0 [.M 8 1,
 .o 9 (.ah MG) [8],
 .o 10 .not [9]])
 (.cond (.t 10) (.seq (.region 0 [.o 11 (.ah dB) [.ki 1],
 .C 4 (.int .i64 0),
 .M 5 11])
 .ret)
 .skip))
 (.seq (.region 0 [.M 13 0,
 .o 14 (.ah dI) [13],
 .M 15 0,
 .o 16 (.ah dh) [15],
 .M 17 1,
 .o 18 (.ah JJ) [14,16,17],
 .o 19 (.ah Dy) [18],
 .M 12 19,
 .o 20 (.ext 0) [12],
 .o 21 (.ext 1) [12],
 .M 6 20,
 .M 7 21])
 (.seq (.seq (.region 0 [.M 22 7,
 .o 23 .not [22]])
 (.cond (.t 23) (.seq (.region 0 [.o 24 (.ah dB) [.ki 11],
 .C 4 (.int .i64 0),
 .M 5 24])
 .ret)
 .skip))
 (.seq (.region 0 [.M 25 6,
 .M 4 25,
 .C 5 .aK])
 .ret)))))⟩
def YJ:EF:=⟨[],[.tmp 0],(.seq (.region 0 [.C 0 (.bool false)])
 (.seq (.region 0 [.o 1 (.ah wu) [],
 .M 0 1])
 .ret))⟩
def qw:EC:=(.seq (.seq (.region 0 [.M 9 1,
 .o 10 (.aj .gtr) [9,.ki 0]])
 (.cond (.t 10) .skip
 (.exit 0)))
 (.seq (.join [1,5,6] (.block 1 (.seq (.seq (.region 0 [.M 13 1,
 .o 14 (.aj .and) [13,.ki 1],
 .o 15 (.aj .eql) [14,.ki 1]])
 (.join [1,5,6] (.cond (.t 15) (.region 0 [.M 16 5,
 .M 17 6,
 .o 18 (.ah jA) [16,17],
 .M 5 18])
 .skip)))
 (.seq (.region 0 [.M 19 1,
 .o 20 (.aj .gtr) [19,.ki 1]])
 (.join [1,5,6] (.cond (.t 20) (.region 0 [.M 21 6,
 .M 22 6,
 .o 23 (.ah jA) [21,22],
 .M 6 23])
 .skip))))))
 (.region 0 [.M 11 1,
 .o 12 (.sh false) [11,.k (.int .u64 1)],
 .M 1 12])))
def Iw:EF:=⟨[0,1],[.tmp 4],(.seq (.region 0 [.C 4 .aY])
 (.seq (.region 0 [.o 7 (.ah ji) [.k (.int .u64 1)],
 .M 8 0,
 .M 5 7,
 .M 6 8])
 (.seq (.block 0 (.loop [1,5,6] [5] qw))
 (.seq (.region 0 [.M 24 5,
 .M 4 24])
 .ret))))⟩
def UD:EC:=(.seq (.seq (.region 0 [.M 33 6,
 .o 34 (.aj .geq) [33,.ki 0]])
 (.cond (.t 34) .skip
 (.exit 1)))
 (.seq (.join [0,1,5,6] (.block 2 (.seq (.region 0 [.M 37 5,
 .M 38 6,
 .o 39 (.ah nat_bit) [38],
 .o 40 (.ah jw) [37,39],
 .M 7 40])
 (.seq (.region 0 [.M 41 7,
 .o 42 (.ah rX) [41],
 .o 43 (.aj .sub) [42,.ki 1],
 .M 44 1,
 .o 45 (.aj .mul) [43,44],
 .M 46 0,
 .o 47 (.ah rX) [46],
 .o 48 (.aj .lss) [45,47],
 .M 49 48,
 .g 49 true 50 .aT [7],
 .g 49 true 51 .aT [1],
 .g 49 true 52 (.ah uw) [50,51],
 .g 49 true 53 .aT [0],
 .g 49 true 54 (.ah lg) [52,53],
 .g 49 true 55 (.aj .leq) [54,.ki 0],
 .o 56 .pick [49,55,.kb false]])
 (.join [0,1,5,6] (.cond (.t 56) (.region 0 [.M 57 7,
 .M 5 57])
 .skip))))))
 (.region 0 [.M 35 6,
 .o 36 (.aj .sub) [35,.ki 1],
 .M 6 36])))
def ae5:EF:=⟨[0,1],[.tmp 4],(.seq (.region 0 [.C 4 .aY])
 (.seq (.block 0 (.seq (.region 0 [.M 9 1,
 .o 10 (.aj .leq) [9,.ki 1],
 .M 11 10,
 .g 11 false 12 .aT [0],
 .g 11 false 13 (.ah fV) [12],
 .o 14 .pick [11,.kb true,13],
 .M 8 14])
 (.cond (.t 8) (.seq (.region 0 [.M 15 0,
 .o 16 (.ah dF) [15],
 .o 17 (.ah gJ) [16],
 .M 4 17])
 .ret)
 (.seq (.region 0 [.M 19 1,
 .M 20 0,
 .o 21 (.ah rX) [20],
 .o 22 (.aj .geq) [19,21],
 .M 18 22])
 (.cond (.t 18) (.seq (.region 0 [.o 23 (.ah ji) [.k (.int .u64 1)],
 .M 4 23])
 .ret)
 .skip)))))
 (.seq (.region 0 [.o 24 (.ah ji) [.k (.int .u64 0)],
 .M 5 24])
 (.seq (.seq (.region 0 [.M 25 0,
 .o 26 (.ah rX) [25],
 .M 27 1,
 .o 28 (.aj .add) [26,27],
 .o 29 (.aj .sub) [28,.ki 1],
 .M 30 1,
 .o 31 (.aj .quo) [29,30],
 .o 32 (.aj .sub) [31,.ki 1],
 .M 6 32])
 (.block 1 (.loop [0,1,5,6] [5] UD)))
 (.seq (.region 0 [.M 58 5,
 .M 4 58])
 .ret)))))⟩
def yO:EF:=⟨[0],[.cell 2 true 2],(.seq (.region 2 [.o 1 (.box 0) [0],
 .o 2 (.alloc 1 [.bool false,.sl 0 []]) []])
 (.seq (.region 0 [.o 3 (.aC 0) [1],
 .o 4 .ak [3],
 .o 5 .not [4],
 .o 6 (.aC 1) [1],
 .o 7 .ak [6],
 .o 8 (.ah fG) [5,7],
 ⟨.store 2,[2,8],none,none⟩])
 .ret))⟩
def zL:EF:=⟨[0,1,2],[.tmp 6],(.seq (.region 0 [.C 6 (.int .i64 0)])
 (.seq (.seq (.region 0 [.M 9 1,
 .o 10 (.ah fB) [9],
 .o 11 .not [10],
 .M 12 11,
 .g 12 false 13 .aT [2],
 .g 12 false 14 (.ah fB) [13],
 .g 12 false 15 .not [14],
 .o 16 .pick [12,.kb true,15],
 .M 17 16,
 .g 17 false 18 .aT [0],
 .g 17 false 19 (.aj .lss) [18,.ki 1],
 .o 20 .pick [17,.kb true,19],
 .M 21 20,
 .g 21 false 22 .aT [0],
 .g 21 false 23 (.aj .gtr) [22,.ki 4],
 .o 24 .pick [21,.kb true,23]])
 (.cond (.t 24) (.seq (.region 0 [.C 6 (.int .i64 0)])
 .ret)
 .skip))
 (.seq (.seq (.region 0 [.M 25 0,
 .o 26 (.aj .neq) [25,.ki 1]])
 (.cond (.t 26) (.seq (.region 0 [.M 27 2,
 .M 28 1,
 .o 29 (.aj .sub) [27,28],
 .M 6 29])
 .ret)
 .skip))
 (.seq (.region 2 [.M 30 1,
 .o 31 (.ah gB) [30],
 .M 32 2,
 .o 33 (.ah gB) [32],
 .o 7 (.alloc 0 [.int .i64 0,.int .i64 0,.int .i64 0]) [],
 .o 8 (.alloc 1 [.int .i64 0,.int .i64 0,.int .i64 0]) [],
 ⟨.store 3,[7,31],none,none⟩,
 ⟨.store 3,[8,33],none,none⟩])
 (.seq (.region 0 [.o 34 (.aC 0) [8],
 .o 35 .ak [34],
 .o 36 (.aC 0) [7],
 .o 37 .ak [36],
 .o 38 (.aj .sub) [35,37],
 .o 39 (.aj .mul) [.ki 360,38],
 .o 40 (.aC 1) [8],
 .o 41 .ak [40],
 .o 42 (.aC 1) [7],
 .o 43 .ak [42],
 .o 44 (.aj .sub) [41,43],
 .o 45 (.aj .mul) [.ki 30,44],
 .o 46 (.aj .add) [39,45],
 .o 47 (.aC 2) [8],
 .o 48 .ak [47],
 .o 49 .mn [48,.ki 30],
 .o 50 (.aj .add) [46,49],
 .o 51 (.aC 2) [7],
 .o 52 .ak [51],
 .o 53 .mn [52,.ki 30],
 .o 54 (.aj .sub) [50,53],
 .M 6 54])
 .ret)))))⟩
def anj:EF:=⟨[0],[.tmp 2],(.seq (.region 0 [.C 2 (.bool false)])
 (.seq (.region 0 [.M 3 0,
 .o 4 (.aj .eql) [3,.ki 1],
 .M 5 4,
 .g 5 false 6 .aT [0],
 .g 5 false 7 (.aj .eql) [6,.ki 2],
 .o 8 .pick [5,.kb true,7],
 .M 9 8,
 .g 9 false 10 .aT [0],
 .g 9 false 11 (.aj .eql) [10,.ki 3],
 .o 12 .pick [9,.kb true,11],
 .M 2 12])
 .ret))⟩
def aje:EF:=⟨[0,1],[.tmp 4],(.seq (.region 0 [.C 4 (.str [])])
 (.seq (.region 0 [.M 6 0,
 .o 7 (.ah bW) [6],
 .o 8 (.ah jR) [7],
 .M 5 8])
 (.seq (.seq (.region 0 [.M 9 5,
 .o 10 .qY [9],
 .M 11 1,
 .o 12 (.aj .leq) [10,11]])
 (.join [0,1,5] (.cond (.t 12) (.region 0 [.M 13 1,
 .o 14 (.aj .add) [13,.ki 1],
 .M 15 5,
 .o 16 .qY [15],
 .o 17 (.aj .sub) [14,16],
 .o 18 (.ah strings_Repeat) [.k (.str [48]),17],
 .M 19 5,
 .o 20 (.gq .add) [18,19],
 .M 5 20])
 .skip)))
 (.seq (.seq (.region 0 [.M 21 1,
 .o 22 (.aj .gtr) [21,.ki 0]])
 (.join [0,5] (.cond (.t 22) (.drawn 0 [(0,.M 23 5),
 (1,.M 24 5),
 (2,.o 25 .qY [24]),
 (3,.M 26 1),
 (4,.o 27 (.aj .sub) [25,26]),
 (5,.o 28 (.WU false true) [23,27]),
 (6,.o 29 (.gq .add) [28,.k (.str [46])]),
 (7,.M 30 5),
 (8,.M 31 5),
 (9,.o 32 .qY [31]),
 (10,.M 33 1),
 (11,.o 34 (.aj .sub) [32,33]),
 (12,.o 35 (.WU true false) [30,34]),
 (13,.o 36 (.gq .add) [29,35]),
 (14,.M 5 36)])
 .skip)))
 (.seq (.seq (.region 0 [.M 37 0,
 .o 38 (.ah dG) [37],
 .o 39 (.aj .lss) [38,.ki 0]])
 (.join [5] (.cond (.t 39) (.region 0 [.M 40 5,
 .o 41 (.gq .add) [.k (.str [45]),40],
 .M 5 41])
 .skip)))
 (.seq (.region 0 [.M 42 5,
 .M 4 42])
 .ret))))))⟩
def ali:EF:=⟨[0,1,2],[.tmp 6],(.seq (.region 0 [.C 6 .aY])
 (.seq (.region 0 [.M 16 0,
 .o 17 (.ah bW) [16],
 .M 18 1,
 .o 19 (.ah bW) [18],
 .o 20 (.ah jy) [17,19],
 .M 15 20,
 .o 21 (.ext 0) [15],
 .o 22 (.ext 1) [15],
 .o 23 (.ext 2) [15],
 .M 7 21,
 .M 8 22,
 .M 9 23])
 (.seq (.region 0 [.M 25 7,
 .o 26 (.ah ji) [.k (.int .u64 2)],
 .o 27 (.ah jy) [25,26],
 .M 24 27,
 .o 28 (.ext 0) [24],
 .o 29 (.ext 1) [24],
 .o 30 (.ext 2) [24],
 .M 10 28,
 .M 11 29,
 .M 12 30])
 (.seq (.region 0 [.M 31 8,
 .M 32 8,
 .o 33 (.ah jw) [31,32],
 .M 34 1,
 .o 35 (.ah bW) [34],
 .o 36 (.ah lg) [33,35],
 .M 13 36])
 (.seq (.region 0 [.M 37 13,
 .o 38 (.aj .gtr) [37,.ki 0],
 .M 39 38,
 .g 39 false 40 .aT [13],
 .g 39 false 41 (.aj .eql) [40,.ki 0],
 .g 39 false 42 .aT [41],
 .g 42 true 43 .aT [2],
 .g 42 true 44 (.aj .eql) [43,.ki 1],
 .g 42 true 45 .aT [44],
 .g 45 false 46 .aT [11],
 .g 45 false 47 (.ah fV) [46],
 .g 45 false 48 .not [47],
 .g 42 true 49 .pick [45,.kb true,48],
 .g 39 false 50 .pick [42,49,.kb false],
 .o 51 .pick [39,.kb true,50],
 .M 14 51])
 (.seq (.seq (.region 0 [.M 52 14,
 .M 53 52,
 .g 53 true 54 .aT [2],
 .g 53 true 55 (.aj .neq) [54,.ki 3],
 .o 56 .pick [53,55,.kb false]])
 (.join [0,7] (.cond (.t 56) (.region 0 [.M 57 7,
 .o 58 (.ah ji) [.k (.int .u64 1)],
 .o 59 (.ah jw) [57,58],
 .M 7 59])
 .skip)))
 (.seq (.region 0 [.M 60 0,
 .o 61 (.ah dG) [60],
 .o 62 (.aj .lss) [61,.ki 0],
 .M 63 7,
 .o 64 (.ah jd) [62,63],
 .M 6 64])
 .ret)))))))⟩
def adA:EF:=⟨[0],[.tmp 2,.tmp 3],(.seq (.region 0 [.C 2 (.int .i64 0),
 .C 3 (.bool false)])
 (.seq (.region 0 [.M 7 0,
 .o 8 (.ah bW) [7],
 .o 9 (.ah Dx) [8],
 .M 6 9,
 .o 10 (.ext 0) [6],
 .o 11 (.ext 1) [6],
 .M 4 10,
 .M 5 11])
 (.seq (.block 0 (.seq (.region 0 [.M 13 5,
 .o 14 .not [13],
 .M 12 14])
 (.cond (.t 12) (.seq (.region 0 [.C 2 (.int .i64 0),
 .C 3 (.bool false)])
 .ret)
 (.seq (.region 0 [.M 16 0,
 .o 17 (.ah dG) [16],
 .o 18 (.aj .lss) [17,.ki 0],
 .M 19 18,
 .g 19 true 20 .aT [4],
 .g 19 true 21 (.aj .leq) [20,.k (.int .u64 9223372036854775808)],
 .o 22 .pick [19,21,.kb false],
 .M 15 22])
 (.cond (.t 15) (.seq (.region 0 [.M 23 4,
 .o 24 .neg [23],
 .o 25 (.conv .i64) [24],
 .M 2 25,
 .C 3 (.bool true)])
 .ret)
 (.seq (.region 0 [.M 27 0,
 .o 28 (.ah dG) [27],
 .o 29 (.aj .geq) [28,.ki 0],
 .M 30 29,
 .g 30 true 31 .aT [4],
 .g 30 true 32 (.aj .lss) [31,.k (.int .u64 9223372036854775808)],
 .o 33 .pick [30,32,.kb false],
 .M 26 33])
 (.cond (.t 26) (.seq (.region 0 [.M 34 4,
 .o 35 (.conv .i64) [34],
 .M 2 35,
 .C 3 (.bool true)])
 .ret)
 .skip)))))))
 (.seq (.region 0 [.C 2 (.int .i64 0),
 .C 3 (.bool false)])
 .ret))))⟩
def YK:EF:=⟨[],[.tmp 0],(.seq (.region 0 [.C 0 (.bool false)])
 (.seq (.region 0 [.o 3 (.ah iw) [.ki 4,.k (.str [98])],
 .o 4 (.ah KN) [.k (.str [97]),3],
 .M 1 4])
 (.seq (.region 0 [.M 5 1,
 .o 6 (.ah xq) [5],
 .M 2 6])
 (.seq (.seq (.region 0 [.M 7 1,
 .o 8 (.eqN false true) [7,.k .aK],
 .M 9 8,
 .g 9 false 10 .aT [2],
 .g 9 false 11 .bM [10],
 .g 9 false 12 (.aj .neq) [11,.ki 2],
 .o 13 .pick [9,.kb true,12]])
 (.cond (.t 13) (.seq (.region 0 [.C 0 (.bool false)])
 .ret)
 .skip))
 (.seq (.region 0 [.M 14 2,
 .o 15 (.bF 1) [14,.ki 0],
 .o 16 .ak [15],
 .o 17 (.gq .eql) [16,.k (.str [97])],
 .M 18 17,
 .g 18 true 19 .aT [2],
 .g 18 true 20 (.bF 1) [19,.ki 1],
 .g 18 true 21 .ak [20],
 .g 18 true 22 (.gq .eql) [21,.k (.str [98])],
 .o 23 .pick [18,22,.kb false],
 .M 24 23,
 .g 24 true 25 .aT [1],
 .g 24 true 26 (.ah zS) [25],
 .g 24 true 27 (.aj .eql) [26,.ki 4],
 .o 28 .pick [24,27,.kb false],
 .M 29 28,
 .g 29 true 30 .aT [1],
 .g 29 true 31 (.KP [(jY,rO),(lN,lF)]) [30],
 .g 29 true 32 (.gq .eql) [31,.k (.str [97,58,32,98,58,32,101,114,114,111,114,32,52])],
 .o 33 .pick [29,32,.kb false],
 .M 34 33,
 .g 34 true 35 .aT [1],
 .g 34 true 36 (.ah dB) [.ki 4],
 .g 34 true 37 (.ah JK) [35,36],
 .o 38 .pick [34,37,.kb false],
 .M 39 38,
 .g 39 true 40 .aT [1],
 .g 39 true 41 (.ah dB) [.ki 1],
 .g 39 true 42 (.ah JK) [40,41],
 .g 39 true 43 .not [42],
 .o 44 .pick [39,43,.kb false],
 .M 45 44,
 .g 45 true 46 (.ah dB) [.ki 0],
 .g 45 true 47 (.eqN false true) [46,.k .aK],
 .o 48 .pick [45,47,.kb false],
 .M 49 48,
 .g 49 true 50 (.ah dB) [.ki 3],
 .g 49 true 51 (.ah dB) [.ki 3],
 .g 49 true 52 (.eqF false [lN]) [50,51],
 .o 53 .pick [49,52,.kb false],
 .M 0 53])
 .ret)))))⟩
def adz:EF:=⟨[0],[.tmp 2],(.seq (.region 0 [.C 2 (.int .i64 0)])
 (.seq (.region 0 [.M 4 0,
 .o 5 (.ah dF) [4],
 .M 3 5])
 (.seq (.seq (.region 0 [.M 6 3,
 .o 7 .bM [6],
 .o 8 (.aj .eql) [7,.ki 0]])
 (.cond (.t 8) (.seq (.region 0 [.C 2 (.int .i64 0)])
 .ret)
 .skip))
 (.seq (.region 0 [.M 9 3,
 .o 10 .bM [9],
 .o 11 (.aj .mul) [.ki 64,10],
 .M 12 3,
 .M 13 3,
 .o 14 .bM [13],
 .o 15 (.aj .sub) [14,.ki 1],
 .o 16 (.bF 1) [12,15],
 .o 17 .ak [16],
 .o 18 (.ah bits_LeadingZeros64) [17],
 .o 19 (.aj .sub) [11,18],
 .M 2 19])
 .ret))))⟩
def ady:EF:=⟨[0],[.tmp 2,.tmp 3],(.seq (.region 0 [.C 2 (.int .u64 0),
 .C 3 (.bool false)])
 (.seq (.seq (.region 0 [.M 5 0,
 .o 6 (.ah dF) [5],
 .M 4 6])
 (.seq (.region 0 [.M 7 4,
 .o 8 .bM [7]])
 (.block 0 (.seq (.region 0 [.o 10 (.aj .eql) [8,.ki 0],
 .M 9 10])
 (.cond (.t 9) (.seq (.region 0 [.C 2 (.int .u64 0),
 .C 3 (.bool true)])
 .ret)
 (.seq (.region 0 [.o 12 (.aj .eql) [8,.ki 1],
 .M 11 12])
 (.cond (.t 11) (.seq (.region 0 [.M 13 4,
 .o 14 (.bF 1) [13,.ki 0],
 .o 15 .ak [14],
 .M 2 15,
 .C 3 (.bool true)])
 .ret)
 .skip)))))))
 (.seq (.region 0 [.C 2 (.int .u64 0),
 .C 3 (.bool false)])
 .ret)))⟩
def ajf:EF:=⟨[0,1],[.tmp 4],(.seq (.region 0 [.C 4 .aK])
 (.seq (.seq (.region 0 [.M 5 1,
 .o 6 (.eqN false true) [5,.k .aK]])
 (.cond (.t 6) (.seq (.region 0 [.C 4 .aK])
 .ret)
 .skip))
 (.seq (.region 1 [.M 7 1,
 .o 8 (.ah zS) [7],
 .M 9 0,
 .M 10 1,
 .o 11 (.build [.int .i64 0,.str [],.aK] [(0,1),(1,1),(2,1)]) [8,9,10],
 .o 12 (.box 0) [11],
 .o 13 (.Xy jY) [12],
 .M 4 13])
 .ret)))⟩
def Wn:EC:=(.seq (.seq (.region 0 [.M 6 0,
 .o 7 (.eqN true true) [6,.k .aK]])
 (.cond (.t 7) .skip
 (.exit 0)))
 (.seq (.join [0,3] (.block 1 (.seq (.region 0 [.M 11 0,
 .o 12 (.aaw jY .aY) [11],
 .M 10 12,
 .o 13 (.ext 0) [10],
 .o 14 (.ext 1) [10],
 .M 4 13,
 .M 5 14])
 (.seq (.region 0 [.M 15 5,
 .M 16 15,
 .g 16 true 17 .aT [4],
 .g 16 true 18 (.yV true) [17,.k .aY],
 .o 19 .pick [16,18,.kb false],
 .M 20 19,
 .g 20 true 21 .aT [4],
 .g 20 true 22 .qG [21],
 .g 20 true 23 (.aC 1) [22],
 .g 20 true 24 .ak [23],
 .g 20 true 25 (.gq .neq) [24,.k (.str [])],
 .o 26 .pick [20,25,.kb false]])
 (.join [0,3] (.cond (.t 26) (.region 1 [.M 27 3,
 .M 28 4,
 .o 29 .qG [28],
 .o 30 (.aC 1) [29],
 .o 31 .ak [30],
 .o 32 (.Em 1 1 [.str []] [(0,1)]) [31],
 .o 33 (.app 0 1) [27,32],
 .M 3 33])
 .skip))))))
 (.region 0 [.M 8 0,
 .o 9 (.ah vN) [8],
 .M 0 9])))
def O5:EF:=⟨[0],[.tmp 2],(.seq (.region 0 [.C 2 .bH])
 (.seq (.region 0 [.C 3 .bH])
 (.seq (.block 0 (.loop [0,3] [3] Wn))
 (.seq (.region 0 [.M 34 3,
 .M 2 34])
 .ret))))⟩
def alj:EF:=⟨[0,1],[.tmp 4],(.seq (.region 0 [.C 4 (.bool false)])
 (.seq (.seq (.region 0 [.M 6 0,
 .o 7 (.eqN false true) [6,.k .aK],
 .M 8 7,
 .g 8 false 9 .aT [1],
 .g 8 false 10 (.eqN false true) [9,.k .aK],
 .o 11 .pick [8,.kb true,10]])
 (.cond (.t 11) (.seq (.region 0 [.M 12 0,
 .M 13 1,
 .o 14 (.eqF false [lN]) [12,13],
 .M 4 14])
 .ret)
 .skip))
 (.seq (.region 0 [.M 15 1,
 .o 16 (.ah iT) [15],
 .o 17 (.KP [(Dt,eU)]) [16],
 .M 5 17])
 (.seq (.region 0 [.M 18 0,
 .M 19 1,
 .M 20 5,
 .o 21 (.ah JL) [18,19,20],
 .M 4 21])
 .ret))))⟩
def KF:EF:=⟨[0],[.tmp 2],(.seq (.region 0 [.C 2 .aK])
 (.seq (.region 0 [.M 6 0,
 .o 7 (.VF [(jY,true),(lN,false),(Dt,false)]) [6],
 .M 5 7,
 .o 8 (.ext 0) [5],
 .o 9 (.ext 1) [5],
 .M 3 8,
 .M 4 9])
 (.seq (.seq (.region 0 [.M 10 4,
 .o 11 .not [10]])
 (.cond (.t 11) (.seq (.region 0 [.C 2 .aK])
 .ret)
 .skip))
 (.seq (.region 0 [.M 12 3,
 .o 13 (.KP [(jY,jg)]) [12],
 .M 2 13])
 .ret))))⟩
def Zw:EC:=(.seq (.region 0 [.o 46 (.aj .lss) [45,44]])
 (.seq (.cond (.t 46) .skip
 (.exit 3))
 (.seq (.block 4 (.seq (.region 0 [.o 47 (.bF 1) [43,45],
 .o 48 .ak [47],
 .M 12 48])
 (.seq (.region 0 [.M 49 12,
 .M 50 1,
 .M 51 2,
 .o 52 (.ah JL) [49,50,51]])
 (.cond (.t 52) (.seq (.region 0 [.C 6 (.bool true)])
 .ret)
 .skip))))
 (.region 0 [.o 53 (.aj .add) [45,.ki 1],
 .M 45 53]))))
def Zx:EC:=(.block 1 (.seq (.seq (.region 0 [.M 14 2,
 .M 15 14,
 .g 15 true 16 .aT [0],
 .g 15 true 17 .aT [1],
 .g 15 true 18 (.eqF false [lN]) [16,17],
 .o 19 .pick [15,18,.kb false]])
 (.cond (.t 19) (.seq (.region 0 [.C 6 (.bool true)])
 .ret)
 .skip))
 (.seq (.seq (.region 0 [.M 21 0,
 .o 22 (.VF [(jY,true),(lN,false),(Dt,false)]) [21],
 .M 20 22,
 .o 23 (.ext 0) [20],
 .o 24 (.ext 1) [20],
 .M 7 23,
 .M 8 24])
 (.seq (.region 0 [.M 25 8,
 .M 26 25,
 .g 26 true 27 .aT [7],
 .g 26 true 28 .aT [1],
 .g 26 true 29 (.KP [(jY,BA)]) [27,28],
 .o 30 .pick [26,29,.kb false]])
 (.cond (.t 30) (.seq (.region 0 [.C 6 (.bool true)])
 .ret)
 .skip)))
 (.seq (.region 0 [.M 31 0])
 (.block 2 (.seq (.region 0 [.o 32 (.VF [(jY,true),(lN,false),(Dt,false)]) [31],
 .o 33 (.ext 1) [32],
 .o 34 (.ext 0) [32]])
 (.cond (.t 33) (.seq (.region 0 [.M 9 34])
 (.seq (.region 0 [.M 35 9,
 .o 36 (.KP [(jY,jg)]) [35],
 .M 0 36])
 (.seq (.region 0 [.M 37 0,
 .o 38 (.eqN false true) [37,.k .aK]])
 (.cond (.t 38) (.seq (.region 0 [.C 6 (.bool false)])
 .ret)
 .skip))))
 (.seq (.region 0 [.o 39 (.VF [(jY,false),(lN,false),(Dt,false)]) [31],
 .o 40 (.ext 1) [39],
 .o 41 (.ext 0) [39]])
 (.cond (.t 40) (.seq (.region 0 [.M 10 41])
 (.seq (.seq (.region 0 [.M 42 10,
 .o 43 (.KP [(jY,jg)]) [42],
 .o 44 .bM [43],
 .C 45 (.int .i64 0)])
 (.block 3 (.loop [1,2,43,44,45] [6] Zw)))
 (.seq (.region 0 [.C 6 (.bool false)])
 .ret)))
 (.seq (.region 0 [.M 13 31])
 (.seq (.region 0 [.C 6 (.bool false)])
 .ret)))))))))))
def alk:EF:=⟨[0,1,2],[.tmp 6],(.seq (.region 0 [.C 6 (.bool false)])
 (.block 0 (.loop [0,1,2] [6] Zx)))⟩
def acd:EF:=⟨[0,1],[.tmp 4],(.seq (.region 0 [.C 4 (.bool false)])
 (.seq (.region 0 [.M 8 1,
 .o 9 (.aaw lN (.int .i64 0)) [8],
 .M 7 9,
 .o 10 (.ext 0) [7],
 .o 11 (.ext 1) [7],
 .M 5 10,
 .M 6 11])
 (.seq (.region 0 [.M 12 0,
 .o 13 (.yV true) [12,.k .aY],
 .M 14 13,
 .g 14 true 15 .aT [6],
 .o 16 .pick [14,15,.kb false],
 .M 17 16,
 .g 17 true 18 .aT [5],
 .g 17 true 19 .aT [0],
 .g 17 true 20 .qG [19],
 .g 17 true 21 (.aC 0) [20],
 .g 17 true 22 .ak [21],
 .g 17 true 23 (.aj .eql) [18,22],
 .o 24 .pick [17,23,.kb false],
 .M 4 24])
 .ret)))⟩
def CJ:EF:=⟨[0],[.tmp 2],(.seq (.region 0 [.C 2 .aK])
 (.seq (.seq (.region 0 [.M 3 0,
 .o 4 (.yV false) [3,.k .aY]])
 (.cond (.t 4) (.seq (.region 0 [.C 2 .aK])
 .ret)
 .skip))
 (.seq (.region 0 [.M 5 0,
 .o 6 .qG [5],
 .o 7 (.aC 2) [6],
 .o 8 .ak [7],
 .M 2 8])
 .ret)))⟩
def Ee:EF:=⟨[0],[.tmp 2],(.seq (.region 0 [.C 2 (.str [])])
 (.seq (.region 0 [.M 3 0,
 .o 4 (.ah strconv_Itoa) [3],
 .o 5 (.gq .add) [.k (.str [101,114,114,111,114,32]),4],
 .M 2 5])
 .ret))⟩
end Go.Ev.Code
