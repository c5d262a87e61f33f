/- A part of the proof of flowSum_card, flowParts_card, flowEx_card, accrWhole_card, priceZero_card. -/
import Derived.Test.YtnokhmkkpcfilaaGreatDoorCCodeA
set_option linter.unusedVariables false
namespace Go.Ev.Code
open Go.Ev
def QL : EC := (.seq (.seq (.region 0 [.M 33 6,
 .o 34 (.aj .geq) [33, .ki 0]])
 (.cond (.t 34) .skip
 (.exit 1)))
 (.seq (.join [0, 1, 5, 6] (.block 2 (.seq (.region 0 [.M 37 5,
 .M 38 6,
 .o 39 (.ah nat_bit) [38],
 .o 40 (.ah iI) [37, 39],
 .M 7 40])
 (.seq (.region 0 [.M 41 7,
 .o 42 (.ah oI) [41],
 .o 43 (.aj .sub) [42, .ki 1],
 .M 44 1,
 .o 45 (.aj .mul) [43, 44],
 .M 46 0,
 .o 47 (.ah oI) [46],
 .o 48 (.aj .lss) [45, 47],
 .M 49 48,
 .g 49 true 50 .aW [7],
 .g 49 true 51 .aW [1],
 .g 49 true 52 (.ah qj) [50, 51],
 .g 49 true 53 .aW [0],
 .g 49 true 54 (.ah jS) [52, 53],
 .g 49 true 55 (.aj .leq) [54, .ki 0],
 .o 56 .pick [49, 55, .kb false]])
 (.join [0, 1, 5, 6] (.cond (.t 56) (.region 0 [.M 57 7,
 .M 5 57])
 .skip))))))
 (.region 0 [.M 35 6,
 .o 36 (.aj .sub) [35, .ki 1],
 .M 6 36])))
def ab6 : EF := ⟨[0, 1], [.tmp 4], (.seq (.region 0 [.C 4 .aV])
 (.seq (.block 0 (.seq (.region 0 [.M 9 1,
 .o 10 (.aj .leq) [9, .ki 1],
 .M 11 10,
 .g 11 false 12 .aW [0],
 .g 11 false 13 (.ah fC) [12],
 .o 14 .pick [11, .kb true, 13],
 .M 8 14])
 (.cond (.t 8) (.seq (.region 0 [.M 15 0,
 .o 16 (.ah cu) [15],
 .o 17 (.ah fF) [16],
 .M 4 17])
 .ret)
 (.seq (.region 0 [.M 19 1,
 .M 20 0,
 .o 21 (.ah oI) [20],
 .o 22 (.aj .geq) [19, 21],
 .M 18 22])
 (.cond (.t 18) (.seq (.region 0 [.o 23 (.ah iD) [.k (.int .u64 1)],
 .M 4 23])
 .ret)
 .skip)))))
 (.seq (.region 0 [.o 24 (.ah iD) [.k (.int .u64 0)],
 .M 5 24])
 (.seq (.seq (.region 0 [.M 25 0,
 .o 26 (.ah oI) [25],
 .M 27 1,
 .o 28 (.aj .add) [26, 27],
 .o 29 (.aj .sub) [28, .ki 1],
 .M 30 1,
 .o 31 (.aj .quo) [29, 30],
 .o 32 (.aj .sub) [31, .ki 1],
 .M 6 32])
 (.block 1 (.loop [0, 1, 5, 6] [5] QL)))
 (.seq (.region 0 [.M 58 5,
 .M 4 58])
 .ret)))))⟩
def akl : EF := ⟨[0], [.tmp 2], (.seq (.region 0 [.C 2 (.bool false)])
 (.seq (.region 0 [.M 3 0,
 .o 4 (.aj .eql) [3, .ki 1],
 .M 5 4,
 .g 5 false 6 .aW [0],
 .g 5 false 7 (.aj .eql) [6, .ki 2],
 .o 8 .pick [5, .kb true, 7],
 .M 9 8,
 .g 9 false 10 .aW [0],
 .g 9 false 11 (.aj .eql) [10, .ki 3],
 .o 12 .pick [9, .kb true, 11],
 .M 2 12])
 .ret))⟩
def ags : EF := ⟨[0, 1], [.tmp 4], (.seq (.region 0 [.C 4 (.str [])])
 (.seq (.region 0 [.M 6 0,
 .o 7 (.ah bK) [6],
 .o 8 (.ah je) [7],
 .M 5 8])
 (.seq (.seq (.region 0 [.M 9 5,
 .o 10 .yx [9],
 .M 11 1,
 .o 12 (.aj .leq) [10, 11]])
 (.join [0, 1, 5] (.cond (.t 12) (.region 0 [.M 13 1,
 .o 14 (.aj .add) [13, .ki 1],
 .M 15 5,
 .o 16 .yx [15],
 .o 17 (.aj .sub) [14, 16],
 .o 18 (.ah strings_Repeat) [.k (.str [48]), 17],
 .M 19 5,
 .o 20 (.fE .add) [18, 19],
 .M 5 20])
 .skip)))
 (.seq (.seq (.region 0 [.M 21 1,
 .o 22 (.aj .gtr) [21, .ki 0]])
 (.join [0, 5] (.cond (.t 22) (.drawn 0 [(0, .M 23 5),
 (1, .M 24 5),
 (2, .o 25 .yx [24]),
 (3, .M 26 1),
 (4, .o 27 (.aj .sub) [25, 26]),
 (5, .o 28 (.XB false true) [23, 27]),
 (6, .o 29 (.fE .add) [28, .k (.str [46])]),
 (7, .M 30 5),
 (8, .M 31 5),
 (9, .o 32 .yx [31]),
 (10, .M 33 1),
 (11, .o 34 (.aj .sub) [32, 33]),
 (12, .o 35 (.XB true false) [30, 34]),
 (13, .o 36 (.fE .add) [29, 35]),
 (14, .M 5 36)])
 .skip)))
 (.seq (.seq (.region 0 [.M 37 0,
 .o 38 (.ah cZ) [37],
 .o 39 (.aj .lss) [38, .ki 0]])
 (.join [5] (.cond (.t 39) (.region 0 [.M 40 5,
 .o 41 (.fE .add) [.k (.str [45]), 40],
 .M 5 41])
 .skip)))
 (.seq (.region 0 [.M 42 5,
 .M 4 42])
 .ret))))))⟩
def aiy : EF := ⟨[0, 1, 2], [.tmp 6], (.seq (.region 0 [.C 6 .aV])
 (.seq (.region 0 [.M 16 0,
 .o 17 (.ah bK) [16],
 .M 18 1,
 .o 19 (.ah bK) [18],
 .o 20 (.ah iJ) [17, 19],
 .M 15 20,
 .o 21 (.ext 0) [15],
 .o 22 (.ext 1) [15],
 .o 23 (.ext 2) [15],
 .M 7 21,
 .M 8 22,
 .M 9 23])
 (.seq (.region 0 [.M 25 7,
 .o 26 (.ah iD) [.k (.int .u64 2)],
 .o 27 (.ah iJ) [25, 26],
 .M 24 27,
 .o 28 (.ext 0) [24],
 .o 29 (.ext 1) [24],
 .o 30 (.ext 2) [24],
 .M 10 28,
 .M 11 29,
 .M 12 30])
 (.seq (.region 0 [.M 31 8,
 .M 32 8,
 .o 33 (.ah iI) [31, 32],
 .M 34 1,
 .o 35 (.ah bK) [34],
 .o 36 (.ah jS) [33, 35],
 .M 13 36])
 (.seq (.region 0 [.M 37 13,
 .o 38 (.aj .gtr) [37, .ki 0],
 .M 39 38,
 .g 39 false 40 .aW [13],
 .g 39 false 41 (.aj .eql) [40, .ki 0],
 .g 39 false 42 .aW [41],
 .g 42 true 43 .aW [2],
 .g 42 true 44 (.aj .eql) [43, .ki 1],
 .g 42 true 45 .aW [44],
 .g 45 false 46 .aW [11],
 .g 45 false 47 (.ah fC) [46],
 .g 45 false 48 .not [47],
 .g 42 true 49 .pick [45, .kb true, 48],
 .g 39 false 50 .pick [42, 49, .kb false],
 .o 51 .pick [39, .kb true, 50],
 .M 14 51])
 (.seq (.seq (.region 0 [.M 52 14,
 .M 53 52,
 .g 53 true 54 .aW [2],
 .g 53 true 55 (.aj .neq) [54, .ki 3],
 .o 56 .pick [53, 55, .kb false]])
 (.join [0, 7] (.cond (.t 56) (.region 0 [.M 57 7,
 .o 58 (.ah iD) [.k (.int .u64 1)],
 .o 59 (.ah iI) [57, 58],
 .M 7 59])
 .skip)))
 (.seq (.region 0 [.M 60 0,
 .o 61 (.ah cZ) [60],
 .o 62 (.aj .lss) [61, .ki 0],
 .M 63 7,
 .o 64 (.ah gW) [62, 63],
 .M 6 64])
 .ret)))))))⟩
def aat : EF := ⟨[0], [.tmp 2, .tmp 3], (.seq (.region 0 [.C 2 (.int .i64 0),
 .C 3 (.bool false)])
 (.seq (.region 0 [.M 7 0,
 .o 8 (.ah bK) [7],
 .o 9 (.ah zS) [8],
 .M 6 9,
 .o 10 (.ext 0) [6],
 .o 11 (.ext 1) [6],
 .M 4 10,
 .M 5 11])
 (.seq (.block 0 (.seq (.region 0 [.M 13 5,
 .o 14 .not [13],
 .M 12 14])
 (.cond (.t 12) (.seq (.region 0 [.C 2 (.int .i64 0),
 .C 3 (.bool false)])
 .ret)
 (.seq (.region 0 [.M 16 0,
 .o 17 (.ah cZ) [16],
 .o 18 (.aj .lss) [17, .ki 0],
 .M 19 18,
 .g 19 true 20 .aW [4],
 .g 19 true 21 (.aj .leq) [20, .k (.int .u64 9223372036854775808)],
 .o 22 .pick [19, 21, .kb false],
 .M 15 22])
 (.cond (.t 15) (.seq (.region 0 [.M 23 4,
 .o 24 .neg [23],
 .o 25 (.conv .i64) [24],
 .M 2 25,
 .C 3 (.bool true)])
 .ret)
 (.seq (.region 0 [.M 27 0,
 .o 28 (.ah cZ) [27],
 .o 29 (.aj .geq) [28, .ki 0],
 .M 30 29,
 .g 30 true 31 .aW [4],
 .g 30 true 32 (.aj .lss) [31, .k (.int .u64 9223372036854775808)],
 .o 33 .pick [30, 32, .kb false],
 .M 26 33])
 (.cond (.t 26) (.seq (.region 0 [.M 34 4,
 .o 35 (.conv .i64) [34],
 .M 2 35,
 .C 3 (.bool true)])
 .ret)
 .skip)))))))
 (.seq (.region 0 [.C 2 (.int .i64 0),
 .C 3 (.bool false)])
 .ret))))⟩
def Vz : EF := ⟨[], [.tmp 0], (.seq (.region 0 [.C 0 (.bool false)])
 (.seq (.region 0 [.o 3 (.ah fU) [.ki 4, .k (.str [98])],
 .o 4 (.ah H_) [.k (.str [97]), 3],
 .M 1 4])
 (.seq (.region 0 [.M 5 1,
 .o 6 (.ah tK) [5],
 .M 2 6])
 (.seq (.seq (.region 0 [.M 7 1,
 .o 8 (.eqN false true) [7, .k .aF],
 .M 9 8,
 .g 9 false 10 .aW [2],
 .g 9 false 11 .bI [10],
 .g 9 false 12 (.aj .neq) [11, .ki 2],
 .o 13 .pick [9, .kb true, 12]])
 (.cond (.t 13) (.seq (.region 0 [.C 0 (.bool false)])
 .ret)
 .skip))
 (.seq (.region 0 [.M 14 2,
 .o 15 (.bH 1) [14, .ki 0],
 .o 16 .au [15],
 .o 17 (.fE .eql) [16, .k (.str [97])],
 .M 18 17,
 .g 18 true 19 .aW [2],
 .g 18 true 20 (.bH 1) [19, .ki 1],
 .g 18 true 21 .au [20],
 .g 18 true 22 (.fE .eql) [21, .k (.str [98])],
 .o 23 .pick [18, 22, .kb false],
 .M 24 23,
 .g 24 true 25 .aW [1],
 .g 24 true 26 (.ah mg) [25],
 .g 24 true 27 (.aj .eql) [26, .ki 4],
 .o 28 .pick [24, 27, .kb false],
 .M 29 28,
 .g 29 true 30 .aW [1],
 .g 29 true 31 (.Ic [(j_, jU), (jl, ou)]) [30],
 .g 29 true 32 (.fE .eql) [31, .k (.str [97, 58, 32, 98, 58, 32, 101, 114, 114, 111, 114, 32, 52])],
 .o 33 .pick [29, 32, .kb false],
 .M 34 33,
 .g 34 true 35 .aW [1],
 .g 34 true 36 (.ah b_) [.ki 4],
 .g 34 true 37 (.ah GV) [35, 36],
 .o 38 .pick [34, 37, .kb false],
 .M 39 38,
 .g 39 true 40 .aW [1],
 .g 39 true 41 (.ah b_) [.ki 1],
 .g 39 true 42 (.ah GV) [40, 41],
 .g 39 true 43 .not [42],
 .o 44 .pick [39, 43, .kb false],
 .M 45 44,
 .g 45 true 46 (.ah b_) [.ki 0],
 .g 45 true 47 (.eqN false true) [46, .k .aF],
 .o 48 .pick [45, 47, .kb false],
 .M 49 48,
 .g 49 true 50 (.ah b_) [.ki 3],
 .g 49 true 51 (.ah b_) [.ki 3],
 .g 49 true 52 (.eqF false [j_]) [50, 51],
 .o 53 .pick [49, 52, .kb false],
 .M 0 53])
 .ret)))))⟩
def aas : EF := ⟨[0], [.tmp 2], (.seq (.region 0 [.C 2 (.int .i64 0)])
 (.seq (.region 0 [.M 4 0,
 .o 5 (.ah cu) [4],
 .M 3 5])
 (.seq (.seq (.region 0 [.M 6 3,
 .o 7 .bI [6],
 .o 8 (.aj .eql) [7, .ki 0]])
 (.cond (.t 8) (.seq (.region 0 [.C 2 (.int .i64 0)])
 .ret)
 .skip))
 (.seq (.region 0 [.M 9 3,
 .o 10 .bI [9],
 .o 11 (.aj .mul) [.ki 64, 10],
 .M 12 3,
 .M 13 3,
 .o 14 .bI [13],
 .o 15 (.aj .sub) [14, .ki 1],
 .o 16 (.bH 1) [12, 15],
 .o 17 .au [16],
 .o 18 (.ah bits_LeadingZeros64) [17],
 .o 19 (.aj .sub) [11, 18],
 .M 2 19])
 .ret))))⟩
def aar : EF := ⟨[0], [.tmp 2, .tmp 3], (.seq (.region 0 [.C 2 (.int .u64 0),
 .C 3 (.bool false)])
 (.seq (.seq (.region 0 [.M 5 0,
 .o 6 (.ah cu) [5],
 .M 4 6])
 (.seq (.region 0 [.M 7 4,
 .o 8 .bI [7]])
 (.block 0 (.seq (.region 0 [.o 10 (.aj .eql) [8, .ki 0],
 .M 9 10])
 (.cond (.t 9) (.seq (.region 0 [.C 2 (.int .u64 0),
 .C 3 (.bool true)])
 .ret)
 (.seq (.region 0 [.o 12 (.aj .eql) [8, .ki 1],
 .M 11 12])
 (.cond (.t 11) (.seq (.region 0 [.M 13 4,
 .o 14 (.bH 1) [13, .ki 0],
 .o 15 .au [14],
 .M 2 15,
 .C 3 (.bool true)])
 .ret)
 .skip)))))))
 (.seq (.region 0 [.C 2 (.int .u64 0),
 .C 3 (.bool false)])
 .ret)))⟩
def agt : EF := ⟨[0, 1], [.tmp 4], (.seq (.region 0 [.C 4 .aF])
 (.seq (.seq (.region 0 [.M 5 1,
 .o 6 (.eqN false true) [5, .k .aF]])
 (.cond (.t 6) (.seq (.region 0 [.C 4 .aF])
 .ret)
 .skip))
 (.seq (.region 1 [.M 7 1,
 .o 8 (.ah mg) [7],
 .M 9 0,
 .M 10 1,
 .o 11 (.build [.int .i64 0, .str [], .aF] [(0, 1), (1, 1), (2, 1)]) [8, 9, 10],
 .o 12 (.box 0) [11],
 .o 13 (.Uk jl) [12],
 .M 4 13])
 .ret)))⟩
def SE : EC := (.seq (.seq (.region 0 [.M 6 0,
 .o 7 (.eqN true true) [6, .k .aF]])
 (.cond (.t 7) .skip
 (.exit 0)))
 (.seq (.join [0, 3] (.block 1 (.seq (.region 0 [.M 11 0,
 .o 12 (.XD jl .aV) [11],
 .M 10 12,
 .o 13 (.ext 0) [10],
 .o 14 (.ext 1) [10],
 .M 4 13,
 .M 5 14])
 (.seq (.region 0 [.M 15 5,
 .M 16 15,
 .g 16 true 17 .aW [4],
 .g 16 true 18 (.vw true) [17, .k .aV],
 .o 19 .pick [16, 18, .kb false],
 .M 20 19,
 .g 20 true 21 .aW [4],
 .g 20 true 22 .nC [21],
 .g 20 true 23 (.aG 1) [22],
 .g 20 true 24 .au [23],
 .g 20 true 25 (.fE .neq) [24, .k (.str [])],
 .o 26 .pick [20, 25, .kb false]])
 (.join [0, 3] (.cond (.t 26) (.region 1 [.M 27 3,
 .M 28 4,
 .o 29 .nC [28],
 .o 30 (.aG 1) [29],
 .o 31 .au [30],
 .o 32 (.Jb 1 1 [.str []] [(0, 1)]) [31],
 .o 33 (.app 0 1) [27, 32],
 .M 3 33])
 .skip))))))
 (.region 0 [.M 8 0,
 .o 9 (.ah ru) [8],
 .M 0 9])))
def LK : EF := ⟨[0], [.tmp 2], (.seq (.region 0 [.C 2 .dA])
 (.seq (.region 0 [.C 3 .dA])
 (.seq (.block 0 (.loop [0, 3] [3] SE))
 (.seq (.region 0 [.M 34 3,
 .M 2 34])
 .ret))))⟩
def aiz : EF := ⟨[0, 1], [.tmp 4], (.seq (.region 0 [.C 4 (.bool false)])
 (.seq (.seq (.region 0 [.M 6 0,
 .o 7 (.eqN false true) [6, .k .aF],
 .M 8 7,
 .g 8 false 9 .aW [1],
 .g 8 false 10 (.eqN false true) [9, .k .aF],
 .o 11 .pick [8, .kb true, 10]])
 (.cond (.t 11) (.seq (.region 0 [.M 12 0,
 .M 13 1,
 .o 14 (.eqF false [j_]) [12, 13],
 .M 4 14])
 .ret)
 .skip))
 (.seq (.region 0 [.M 15 1,
 .o 16 (.ah gU) [15],
 .o 17 (.Ic [(zN, dR)]) [16],
 .M 5 17])
 (.seq (.region 0 [.M 18 0,
 .M 19 1,
 .M 20 5,
 .o 21 (.ah GX) [18, 19, 20],
 .M 4 21])
 .ret))))⟩
def Hw : EF := ⟨[0], [.tmp 2], (.seq (.region 0 [.C 2 .aF])
 (.seq (.region 0 [.M 6 0,
 .o 7 (.RJ [(j_, false), (jl, true), (zN, false)]) [6],
 .M 5 7,
 .o 8 (.ext 0) [5],
 .o 9 (.ext 1) [5],
 .M 3 8,
 .M 4 9])
 (.seq (.seq (.region 0 [.M 10 4,
 .o 11 .not [10]])
 (.cond (.t 11) (.seq (.region 0 [.C 2 .aF])
 .ret)
 .skip))
 (.seq (.region 0 [.M 12 3,
 .o 13 (.Ic [(jl, iy)]) [12],
 .M 2 13])
 .ret))))⟩
def Wy : EC := (.seq (.region 0 [.o 46 (.aj .lss) [45, 44]])
 (.seq (.cond (.t 46) .skip
 (.exit 3))
 (.seq (.block 4 (.seq (.region 0 [.o 47 (.bH 1) [43, 45],
 .o 48 .au [47],
 .M 12 48])
 (.seq (.region 0 [.M 49 12,
 .M 50 1,
 .M 51 2,
 .o 52 (.ah GX) [49, 50, 51]])
 (.cond (.t 52) (.seq (.region 0 [.C 6 (.bool true)])
 .ret)
 .skip))))
 (.region 0 [.o 53 (.aj .add) [45, .ki 1],
 .M 45 53]))))
def WA : EC := (.block 1 (.seq (.seq (.region 0 [.M 14 2,
 .M 15 14,
 .g 15 true 16 .aW [0],
 .g 15 true 17 .aW [1],
 .g 15 true 18 (.eqF false [j_]) [16, 17],
 .o 19 .pick [15, 18, .kb false]])
 (.cond (.t 19) (.seq (.region 0 [.C 6 (.bool true)])
 .ret)
 .skip))
 (.seq (.seq (.region 0 [.M 21 0,
 .o 22 (.RJ [(j_, false), (jl, true), (zN, false)]) [21],
 .M 20 22,
 .o 23 (.ext 0) [20],
 .o 24 (.ext 1) [20],
 .M 7 23,
 .M 8 24])
 (.seq (.region 0 [.M 25 8,
 .M 26 25,
 .g 26 true 27 .aW [7],
 .g 26 true 28 .aW [1],
 .g 26 true 29 (.Ic [(jl, yt)]) [27, 28],
 .o 30 .pick [26, 29, .kb false]])
 (.cond (.t 30) (.seq (.region 0 [.C 6 (.bool true)])
 .ret)
 .skip)))
 (.seq (.region 0 [.M 31 0])
 (.block 2 (.seq (.region 0 [.o 32 (.RJ [(j_, false), (jl, true), (zN, false)]) [31],
 .o 33 (.ext 1) [32],
 .o 34 (.ext 0) [32]])
 (.cond (.t 33) (.seq (.region 0 [.M 9 34])
 (.seq (.region 0 [.M 35 9,
 .o 36 (.Ic [(jl, iy)]) [35],
 .M 0 36])
 (.seq (.region 0 [.M 37 0,
 .o 38 (.eqN false true) [37, .k .aF]])
 (.cond (.t 38) (.seq (.region 0 [.C 6 (.bool false)])
 .ret)
 .skip))))
 (.seq (.region 0 [.o 39 (.RJ [(j_, false), (jl, false), (zN, false)]) [31],
 .o 40 (.ext 1) [39],
 .o 41 (.ext 0) [39]])
 (.cond (.t 40) (.seq (.region 0 [.M 10 41])
 (.seq (.seq (.region 0 [.M 42 10,
 .o 43 (.Ic [(jl, iy)]) [42],
 .o 44 .bI [43],
 .C 45 (.int .i64 0)])
 (.block 3 (.loop [1, 2, 43, 44, 45] [6] Wy)))
 (.seq (.region 0 [.C 6 (.bool false)])
 .ret)))
 (.seq (.region 0 [.M 13 31])
 (.seq (.region 0 [.C 6 (.bool false)])
 .ret)))))))))))
def aiA : EF := ⟨[0, 1, 2], [.tmp 6], (.seq (.region 0 [.C 6 (.bool false)])
 (.block 0 (.loop [0, 1, 2] [6] WA)))⟩
def Am : EF := ⟨[0], [.tmp 2], (.seq (.region 0 [.C 2 (.str [])])
 (.seq (.region 0 [.M 3 0,
 .o 4 (.ah strconv_Itoa) [3],
 .o 5 (.fE .add) [.k (.str [101, 114, 114, 111, 114, 32]), 4],
 .M 2 5])
 .ret))⟩
def Y0 : EF := ⟨[0, 1], [.tmp 4], (.seq (.region 0 [.C 4 (.bool false)])
 (.seq (.region 0 [.M 8 1,
 .o 9 (.XD j_ (.int .i64 0)) [8],
 .M 7 9,
 .o 10 (.ext 0) [7],
 .o 11 (.ext 1) [7],
 .M 5 10,
 .M 6 11])
 (.seq (.region 0 [.M 12 0,
 .o 13 (.vw true) [12, .k .aV],
 .M 14 13,
 .g 14 true 15 .aW [6],
 .o 16 .pick [14, 15, .kb false],
 .M 17 16,
 .g 17 true 18 .aW [5],
 .g 17 true 19 .aW [0],
 .g 17 true 20 .nC [19],
 .g 17 true 21 (.aG 0) [20],
 .g 17 true 22 .au [21],
 .g 17 true 23 (.aj .eql) [18, 22],
 .o 24 .pick [17, 23, .kb false],
 .M 4 24])
 .ret)))⟩
def y5 : EF := ⟨[0], [.tmp 2], (.seq (.region 0 [.C 2 .aF])
 (.seq (.seq (.region 0 [.M 3 0,
 .o 4 (.vw false) [3, .k .aV]])
 (.cond (.t 4) (.seq (.region 0 [.C 2 .aF])
 .ret)
 .skip))
 (.seq (.region 0 [.M 5 0,
 .o 6 .nC [5],
 .o 7 (.aG 2) [6],
 .o 8 .au [7],
 .M 2 8])
 .ret)))⟩
end Go.Ev.Code
