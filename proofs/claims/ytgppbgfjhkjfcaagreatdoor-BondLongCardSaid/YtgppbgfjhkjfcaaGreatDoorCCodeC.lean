/- A part of the proof of planLone_card, bondLong_card. -/
import Derived.Test.YtgppbgfjhkjfcaaGreatDoorCCodeA
set_option linter.unusedVariables false
namespace Go.Ev.Code
open Go.Ev
def tZ : EC := (.seq (.region 0 [.o 16 (.aj .lss) [.t 15, .t 14]])
 (.seq (.cond (.t 16) .skip
 (.exit 0))
 (.seq (.join [0, 3, 14, 15] (.block 1 (.seq (.region 0 [.M 17 15,
 .M 4 17])
 (.seq (.region 0 [.M 18 0,
 .M 19 4,
 .o 20 (.aQ 1) [.t 18, .t 19],
 .o 21 .ak [.t 20],
 .M 22 3,
 .o 23 (.sh false) [.t 21, .t 22],
 .o 24 (.aQ 1) [.t 18, .t 19],
 ⟨.store 1, [.t 24, .t 23], none, none⟩])
 (.seq (.region 0 [.M 25 4,
 .o 26 (.aj .add) [.t 25, .k (.int .i64 1)],
 .M 27 0,
 .o 28 .aZ [.t 27],
 .o 29 (.aj .lss) [.t 26, .t 28]])
 (.join [0, 3, 14, 15] (.cond (.t 29) (.drawn 0 [(0, .M 30 0),
 (1, .M 31 4),
 (2, .o 32 (.aQ 1) [.t 30, .t 31]),
 (3, .o 33 .ak [.t 32]),
 (4, .M 34 0),
 (5, .M 35 4),
 (6, .o 36 (.aj .add) [.t 35, .k (.int .i64 1)]),
 (7, .o 37 (.aQ 1) [.t 34, .t 36]),
 (8, .o 38 .ak [.t 37]),
 (9, .o 39 (.sh true) [.t 38, .k (.int .u64 1)]),
 (10, .M 40 3),
 (11, .o 41 (.aj .sub) [.k (.int .i64 63), .t 40]),
 (12, .o 42 (.sh true) [.t 39, .t 41]),
 (13, .o 43 (.aj .or) [.t 33, .t 42]),
 (14, .o 44 (.aQ 1) [.t 30, .t 31]),
 (15, ⟨.store 1, [.t 44, .t 43], none, none⟩)])
 .skip)))))))
 (.region 0 [.o 45 (.aj .add) [.t 15, .k (.int .i64 1)],
 .M 15 45]))))
def LH : EF := ⟨[0], [.tmp 2], (.seq (.region 0 [.C 2 (.sl 0 [])])
 (.seq (.region 0 [.M 5 0,
 .o 6 (.aY wu) [.t 5],
 .M 3 6])
 (.seq (.region 0 [.M 7 0,
 .M 8 3,
 .o 9 (.aj .quo) [.t 8, .k (.int .i64 64)],
 .o 10 (.Hr 1 true false) [.t 7, .t 9],
 .M 11 3,
 .o 12 (.aj .rem) [.t 11, .k (.int .i64 64)],
 .M 0 10,
 .M 3 12])
 (.seq (.seq (.region 0 [.M 13 0,
 .o 14 .aZ [.t 13],
 .C 15 (.int .i64 0)])
 (.block 0 (.loop [0, 3, 14, 15] [0] tZ)))
 (.seq (.region 0 [.M 46 0,
 .o 47 (.aY dX) [.t 46],
 .o 48 .kN [.t 47],
 .o 49 (.ay 0) [.t 48],
 .o 50 .ak [.t 49],
 .M 2 50])
 .ret)))))⟩
def LG : EF := ⟨[0], [.tmp 2], (.seq (.region 0 [.C 2 (.aK)])
 (.seq (.region 1 [.M 4 0,
 .o 5 (.aj .quo) [.t 4, .k (.int .i64 64)],
 .o 6 (.aj .add) [.t 5, .k (.int .i64 1)],
 .o 7 (.zG 0 1 [.int .u64 0]) [.t 6, .t 6],
 .M 3 7])
 (.seq (.region 0 [.M 8 3,
 .M 9 0,
 .o 10 (.aj .quo) [.t 9, .k (.int .i64 64)],
 .M 11 0,
 .o 12 (.aj .rem) [.t 11, .k (.int .i64 64)],
 .o 13 (.sh true) [.k (.int .u64 1), .t 12],
 .o 14 (.aQ 1) [.t 8, .t 10],
 ⟨.store 1, [.t 14, .t 13], none, none⟩])
 (.seq (.region 0 [.M 15 3,
 .o 16 (.nN dX) [.t 15],
 .M 2 16])
 .ret))))⟩
def qH : EC := (.seq (.region 0 [.o 11 (.aj .lss) [.t 10, .t 9]])
 (.seq (.cond (.t 11) .skip
 (.exit 0))
 (.seq (.join [0, 1, 5, 9, 10] (.block 1 (.seq (.region 0 [.M 12 10,
 .M 6 12])
 (.seq (.region 0 [.C 7 (.int .u64 0)])
 (.seq (.seq (.region 0 [.M 13 6,
 .M 14 1,
 .o 15 .aZ [.t 14],
 .o 16 (.aj .lss) [.t 13, .t 15]])
 (.join [0, 1, 5, 6, 7, 9, 10] (.cond (.t 16) (.region 0 [.M 17 1,
 .M 18 6,
 .o 19 (.aQ 1) [.t 17, .t 18],
 .o 20 .ak [.t 19],
 .M 7 20])
 .skip)))
 (.region 0 [.M 22 0,
 .M 23 6,
 .M 24 0,
 .M 25 6,
 .o 26 (.aQ 1) [.t 24, .t 25],
 .o 27 .ak [.t 26],
 .M 28 7,
 .M 29 5,
 .o 30 (.ah bits_Sub64) [.t 27, .t 28, .t 29],
 .M 21 30,
 .o 31 (.ext 0) [.t 21],
 .o 32 (.ext 1) [.t 21],
 .o 33 (.aQ 1) [.t 22, .t 23],
 ⟨.store 1, [.t 33, .t 31], none, none⟩,
 .M 5 32]))))))
 (.region 0 [.o 34 (.aj .add) [.t 10, .k (.int .i64 1)],
 .M 10 34]))))
def H8 : EF := ⟨[0, 1], [.tmp 4], (.seq (.region 0 [.C 4 (.sl 0 [])])
 (.seq (.region 0 [.C 5 (.int .u64 0)])
 (.seq (.seq (.region 0 [.M 8 0,
 .o 9 .aZ [.t 8],
 .C 10 (.int .i64 0)])
 (.block 0 (.loop [0, 1, 5, 9, 10] [0] qH)))
 (.seq (.region 0 [.M 35 0,
 .o 36 (.aY dX) [.t 35],
 .o 37 .kN [.t 36],
 .o 38 (.ay 0) [.t 37],
 .o 39 .ak [.t 38],
 .M 4 39])
 .ret))))⟩
def lV : EC := (.seq (.seq (.region 0 [.M 67 15,
 .o 68 (.aj .geq) [.t 67, .k (.int .u64 4294967296)],
 .M 69 68,
 .g 69 false 70 (.aF) [.t 15],
 .g 69 false 71 (.aF) [.t 10],
 .g 69 false 72 (.aj .mul) [.t 70, .t 71],
 .g 69 false 73 (.aF) [.t 16],
 .g 69 false 74 (.aj .mul) [.k (.int .u64 4294967296), .t 73],
 .g 69 false 75 (.aF) [.t 13],
 .g 69 false 76 (.aj .add) [.t 74, .t 75],
 .g 69 false 77 (.aj .gtr) [.t 72, .t 76],
 .o 78 .pick [.t 69, .k (.bool true), .t 77]])
 (.cond (.t 78) .skip
 (.exit 0)))
 (.block 1 (.seq (.region 0 [.M 79 15,
 .o 80 (.aj .sub) [.t 79, .k (.int .u64 1)],
 .M 15 80])
 (.seq (.region 0 [.M 81 16,
 .M 82 9,
 .o 83 (.aj .add) [.t 81, .t 82],
 .M 16 83])
 (.seq (.region 0 [.M 84 16,
 .o 85 (.aj .geq) [.t 84, .k (.int .u64 4294967296)]])
 (.cond (.t 85) (.exit 0)
 .skip))))))
def lW : EC := (.seq (.seq (.region 0 [.M 102 18,
 .o 103 (.aj .geq) [.t 102, .k (.int .u64 4294967296)],
 .M 104 103,
 .g 104 false 105 (.aF) [.t 18],
 .g 104 false 106 (.aF) [.t 10],
 .g 104 false 107 (.aj .mul) [.t 105, .t 106],
 .g 104 false 108 (.aF) [.t 16],
 .g 104 false 109 (.aj .mul) [.k (.int .u64 4294967296), .t 108],
 .g 104 false 110 (.aF) [.t 14],
 .g 104 false 111 (.aj .add) [.t 109, .t 110],
 .g 104 false 112 (.aj .gtr) [.t 107, .t 111],
 .o 113 .pick [.t 104, .k (.bool true), .t 112]])
 (.cond (.t 113) .skip
 (.exit 2)))
 (.block 3 (.seq (.region 0 [.M 114 18,
 .o 115 (.aj .sub) [.t 114, .k (.int .u64 1)],
 .M 18 115])
 (.seq (.region 0 [.M 116 16,
 .M 117 9,
 .o 118 (.aj .add) [.t 116, .t 117],
 .M 16 118])
 (.seq (.region 0 [.M 119 16,
 .o 120 (.aj .geq) [.t 119, .k (.int .u64 4294967296)]])
 (.cond (.t 120) (.exit 2)
 .skip))))))
def C_ : EF := ⟨[0, 1, 2], [.tmp 6, .tmp 7], (.seq (.region 0 [.C 6 (.int .u64 0),
 .C 7 (.int .u64 0)])
 (.seq (.seq (.region 0 [.M 19 2,
 .o 20 (.aj .eql) [.t 19, .k (.int .u64 0)]])
 (.join [0, 1, 2] (.cond (.t 20) (.region 0 [.o 21 .stop [],
 ⟨.stop, [], none, none⟩])
 .skip)))
 (.seq (.seq (.region 0 [.M 22 2,
 .M 23 0,
 .o 24 (.aj .leq) [.t 22, .t 23]])
 (.join [0, 1, 2] (.cond (.t 24) (.region 0 [.o 25 .stop [],
 ⟨.stop, [], none, none⟩])
 .skip)))
 (.seq (.seq (.region 0 [.M 26 0,
 .o 27 (.aj .eql) [.t 26, .k (.int .u64 0)]])
 (.cond (.t 27) (.seq (.drawn 0 [(0, .M 28 1),
 (1, .M 29 2),
 (2, .o 30 (.aj .quo) [.t 28, .t 29]),
 (3, .M 31 1),
 (4, .M 32 2),
 (5, .o 33 (.aj .rem) [.t 31, .t 32]),
 (6, .M 6 30),
 (7, .M 7 33)])
 .ret)
 .skip))
 (.seq (.region 0 [.M 34 2,
 .o 35 (.ah bits_LeadingZeros64) [.t 34],
 .o 36 (.conv .u64) [.t 35],
 .M 8 36])
 (.seq (.region 0 [.M 37 2,
 .M 38 8,
 .o 39 (.sh true) [.t 37, .t 38],
 .M 2 39])
 (.seq (.region 0 [.M 40 2,
 .o 41 (.sh false) [.t 40, .k (.int .u64 32)],
 .M 9 41])
 (.seq (.region 0 [.M 42 2,
 .o 43 (.aj .and) [.t 42, .k (.int .u64 4294967295)],
 .M 10 43])
 (.seq (.region 0 [.M 44 0,
 .M 45 8,
 .o 46 (.sh true) [.t 44, .t 45],
 .M 47 1,
 .M 48 8,
 .o 49 (.aj .sub) [.k (.int .u64 64), .t 48],
 .o 50 (.sh false) [.t 47, .t 49],
 .o 51 (.aj .or) [.t 46, .t 50],
 .M 11 51])
 (.seq (.region 0 [.M 52 1,
 .M 53 8,
 .o 54 (.sh true) [.t 52, .t 53],
 .M 12 54])
 (.seq (.region 0 [.M 55 12,
 .o 56 (.sh false) [.t 55, .k (.int .u64 32)],
 .M 13 56])
 (.seq (.region 0 [.M 57 12,
 .o 58 (.aj .and) [.t 57, .k (.int .u64 4294967295)],
 .M 14 58])
 (.seq (.region 0 [.M 59 11,
 .M 60 9,
 .o 61 (.aj .quo) [.t 59, .t 60],
 .M 15 61])
 (.seq (.region 0 [.M 62 11,
 .M 63 15,
 .M 64 9,
 .o 65 (.aj .mul) [.t 63, .t 64],
 .o 66 (.aj .sub) [.t 62, .t 65],
 .M 16 66])
 (.seq (.block 0 (.loop [2, 8, 9, 10, 11, 13, 14, 15, 16] [2, 8, 9, 10, 11, 13, 14, 15] lV))
 (.seq (.region 0 [.M 86 11,
 .o 87 (.aj .mul) [.t 86, .k (.int .u64 4294967296)],
 .M 88 13,
 .o 89 (.aj .add) [.t 87, .t 88],
 .M 90 15,
 .M 91 2,
 .o 92 (.aj .mul) [.t 90, .t 91],
 .o 93 (.aj .sub) [.t 89, .t 92],
 .M 17 93])
 (.seq (.region 0 [.M 94 17,
 .M 95 9,
 .o 96 (.aj .quo) [.t 94, .t 95],
 .M 18 96])
 (.seq (.region 0 [.M 97 17,
 .M 98 18,
 .M 99 9,
 .o 100 (.aj .mul) [.t 98, .t 99],
 .o 101 (.aj .sub) [.t 97, .t 100],
 .M 16 101])
 (.seq (.block 2 (.loop [2, 8, 9, 10, 14, 15, 16, 17, 18] [2, 8, 14, 15, 17, 18] lW))
 (.seq (.region 0 [.M 121 15,
 .o 122 (.aj .mul) [.t 121, .k (.int .u64 4294967296)],
 .M 123 18,
 .o 124 (.aj .add) [.t 122, .t 123],
 .M 125 17,
 .o 126 (.aj .mul) [.t 125, .k (.int .u64 4294967296)],
 .M 127 14,
 .o 128 (.aj .add) [.t 126, .t 127],
 .M 129 18,
 .M 130 2,
 .o 131 (.aj .mul) [.t 129, .t 130],
 .o 132 (.aj .sub) [.t 128, .t 131],
 .M 133 8,
 .o 134 (.sh false) [.t 132, .t 133],
 .M 6 124,
 .M 7 134])
 .ret))))))))))))))))))))⟩
def qG : EC := (.seq (.region 0 [.o 15 (.aj .lss) [.t 14, .t 13]])
 (.seq (.cond (.t 15) .skip
 (.exit 0))
 (.seq (.block 1 (.seq (.region 0 [.M 16 14,
 .o 17 (.aQ 1) [.t 12, .t 14],
 .o 18 .ak [.t 17],
 .M 6 16,
 .M 7 18])
 (.seq (.drawn 0 [(0, .M 19 5),
 (1, .M 20 6),
 (2, .o 21 (.aQ 1) [.t 19, .t 20]),
 (3, .o 22 .ak [.t 21]),
 (4, .M 23 7),
 (5, .M 24 1),
 (6, .o 25 (.sh true) [.t 23, .t 24]),
 (7, .o 26 (.aj .or) [.t 22, .t 25]),
 (8, .o 27 (.aQ 1) [.t 19, .t 20]),
 (9, ⟨.store 1, [.t 27, .t 26], none, none⟩)])
 (.region 0 [.M 28 5,
 .M 29 6,
 .o 30 (.aj .add) [.t 29, .k (.int .i64 1)],
 .M 31 7,
 .o 32 (.sh false) [.t 31, .k (.int .u64 1)],
 .M 33 1,
 .o 34 (.aj .sub) [.k (.int .i64 63), .t 33],
 .o 35 (.sh false) [.t 32, .t 34],
 .o 36 (.aQ 1) [.t 28, .t 30],
 ⟨.store 1, [.t 36, .t 35], none, none⟩]))))
 (.region 0 [.o 37 (.aj .add) [.t 14, .k (.int .i64 1)],
 .M 14 37]))))
def H7 : EF := ⟨[0, 1], [.tmp 4], (.seq (.region 0 [.C 4 (.sl 0 [])])
 (.seq (.region 1 [.M 8 0,
 .o 9 .aZ [.t 8],
 .o 10 (.aj .add) [.t 9, .k (.int .i64 1)],
 .o 11 (.zG 0 1 [.int .u64 0]) [.t 10, .t 10],
 .M 5 11])
 (.seq (.seq (.region 0 [.M 12 0,
 .o 13 .aZ [.t 12],
 .C 14 (.int .i64 0)])
 (.block 0 (.loop [1, 5, 12, 13, 14] [5] qG)))
 (.seq (.region 0 [.M 38 5,
 .M 4 38])
 .ret))))⟩
def og : EC := (.block 1 (.seq (.region 0 [.M 49 8,
 .M 50 6,
 .o 51 (.ah bits_Mul64) [.t 49, .t 50],
 .M 48 51,
 .o 52 (.ext 0) [.t 48],
 .o 53 (.ext 1) [.t 48],
 .M 10 52,
 .M 11 53])
 (.seq (.seq (.region 0 [.M 54 10,
 .M 55 9,
 .o 56 (.aj .lss) [.t 54, .t 55],
 .M 57 56,
 .g 57 false 58 (.aF) [.t 10],
 .g 57 false 59 (.aF) [.t 9],
 .g 57 false 60 (.aj .eql) [.t 58, .t 59],
 .g 57 false 61 (.aF) [.t 60],
 .g 61 true 62 (.aF) [.t 11],
 .g 61 true 63 (.aF) [.t 0],
 .g 61 true 64 (.aF) [.t 7],
 .g 61 true 65 (.aj .sub) [.t 64, .k (.int .i64 2)],
 .g 61 true 66 (.aQ 1) [.t 63, .t 65],
 .g 61 true 67 (.ak) [.t 66],
 .g 61 true 68 (.aj .leq) [.t 62, .t 67],
 .g 57 false 69 (.pick) [.t 61, .t 68, .k (.bool false)],
 .o 70 .pick [.t 57, .k (.bool true), .t 69]])
 (.cond (.t 70) (.seq (.region 0 [.M 71 8,
 .M 4 71])
 .ret)
 .skip))
 (.seq (.region 0 [.M 72 8,
 .o 73 (.aj .sub) [.t 72, .k (.int .u64 1)],
 .M 8 73])
 (.seq (.region 0 [.C 12 (.int .u64 0)])
 (.seq (.region 0 [.M 75 9,
 .M 76 5,
 .o 77 (.ah bits_Add64) [.t 75, .t 76, .k (.int .u64 0)],
 .M 74 77,
 .o 78 (.ext 0) [.t 74],
 .o 79 (.ext 1) [.t 74],
 .M 9 78,
 .M 12 79])
 (.seq (.region 0 [.M 80 12,
 .o 81 (.aj .neq) [.t 80, .k (.int .u64 0)]])
 (.cond (.t 81) (.seq (.region 0 [.M 82 8,
 .M 4 82])
 .ret)
 .skip))))))))
def FI : EF := ⟨[0, 1], [.tmp 4], (.seq (.region 0 [.C 4 (.int .u64 0)])
 (.seq (.drawn 0 [(0, .M 13 1),
 (1, .M 14 1),
 (2, .o 15 .aZ [.t 14]),
 (3, .o 16 (.aj .sub) [.t 15, .k (.int .i64 1)]),
 (4, .o 17 (.aQ 1) [.t 13, .t 16]),
 (5, .o 18 .ak [.t 17]),
 (6, .M 19 1),
 (7, .M 20 1),
 (8, .o 21 .aZ [.t 20]),
 (9, .o 22 (.aj .sub) [.t 21, .k (.int .i64 2)]),
 (10, .o 23 (.aQ 1) [.t 19, .t 22]),
 (11, .o 24 .ak [.t 23]),
 (12, .M 5 18),
 (13, .M 6 24)])
 (.seq (.region 0 [.M 25 0,
 .o 26 .aZ [.t 25],
 .o 27 (.aj .sub) [.t 26, .k (.int .i64 1)],
 .M 7 27])
 (.seq (.seq (.region 0 [.M 28 0,
 .M 29 7,
 .o 30 (.aQ 1) [.t 28, .t 29],
 .o 31 .ak [.t 30],
 .M 32 5,
 .o 33 (.aj .geq) [.t 31, .t 32]])
 (.cond (.t 33) (.seq (.region 0 [.C 4 (.int .u64 18446744073709551615)])
 .ret)
 .skip))
 (.seq (.drawn 0 [(0, .M 35 0),
 (1, .M 36 7),
 (2, .o 37 (.aQ 1) [.t 35, .t 36]),
 (3, .o 38 .ak [.t 37]),
 (4, .M 39 0),
 (5, .M 40 7),
 (6, .o 41 (.aj .sub) [.t 40, .k (.int .i64 1)]),
 (7, .o 42 (.aQ 1) [.t 39, .t 41]),
 (8, .o 43 .ak [.t 42]),
 (9, .M 44 5),
 (10, .o 45 (.ah qg) [.t 38, .t 43, .t 44]),
 (11, .M 34 45),
 (12, .o 46 (.ext 0) [.t 34]),
 (13, .o 47 (.ext 1) [.t 34]),
 (14, .M 8 46),
 (15, .M 9 47)])
 (.block 0 (.loop [0, 5, 6, 7, 8, 9] [4] og)))))))⟩
def rC : EC := (.seq (.region 0 [.o 17 (.aj .lss) [.t 16, .t 15]])
 (.seq (.cond (.t 17) .skip
 (.exit 0))
 (.seq (.block 1 (.seq (.region 0 [.M 18 16,
 .o 19 (.aQ 1) [.t 14, .t 16],
 .o 20 .ak [.t 19],
 .M 9 18,
 .M 10 20])
 (.seq (.region 0 [.M 22 2,
 .M 23 10,
 .o 24 (.ah bits_Mul64) [.t 22, .t 23],
 .M 21 24,
 .o 25 (.ext 0) [.t 21],
 .o 26 (.ext 1) [.t 21],
 .M 11 25,
 .M 12 26])
 (.seq (.region 0 [.C 13 (.int .u64 0)])
 (.seq (.region 0 [.M 28 12,
 .M 29 7,
 .o 30 (.ah bits_Add64) [.t 28, .t 29, .k (.int .u64 0)],
 .M 27 30,
 .o 31 (.ext 0) [.t 27],
 .o 32 (.ext 1) [.t 27],
 .M 12 31,
 .M 13 32])
 (.seq (.region 0 [.M 33 11,
 .M 34 13,
 .o 35 (.aj .add) [.t 33, .t 34],
 .M 7 35])
 (.region 0 [.M 37 0,
 .M 38 9,
 .M 39 0,
 .M 40 9,
 .o 41 (.aQ 1) [.t 39, .t 40],
 .o 42 .ak [.t 41],
 .M 43 12,
 .M 44 8,
 .o 45 (.ah bits_Sub64) [.t 42, .t 43, .t 44],
 .M 36 45,
 .o 46 (.ext 0) [.t 36],
 .o 47 (.ext 1) [.t 36],
 .o 48 (.aQ 1) [.t 37, .t 38],
 ⟨.store 1, [.t 48, .t 46], none, none⟩,
 .M 8 47])))))))
 (.region 0 [.o 49 (.aj .add) [.t 16, .k (.int .i64 1)],
 .M 16 49]))))
def FM : EF := ⟨[0, 1, 2], [.tmp 6], (.seq (.region 0 [.C 6 (.bool false)])
 (.seq (.region 0 [.C 7 (.int .u64 0),
 .C 8 (.int .u64 0)])
 (.seq (.seq (.region 0 [.M 14 1,
 .o 15 .aZ [.t 14],
 .C 16 (.int .i64 0)])
 (.block 0 (.loop [0, 1, 2, 7, 8, 14, 15, 16] [0, 1, 7, 8] rC)))
 (.seq (.region 0 [.M 51 0,
 .M 52 1,
 .o 53 .aZ [.t 52],
 .M 54 0,
 .M 55 1,
 .o 56 .aZ [.t 55],
 .o 57 (.aQ 1) [.t 54, .t 56],
 .o 58 .ak [.t 57],
 .M 59 7,
 .M 60 8,
 .o 61 (.ah bits_Sub64) [.t 58, .t 59, .t 60],
 .M 50 61,
 .o 62 (.ext 0) [.t 50],
 .o 63 (.ext 1) [.t 50],
 .o 64 (.aQ 1) [.t 51, .t 53],
 ⟨.store 1, [.t 64, .t 62], none, none⟩,
 .M 8 63])
 (.seq (.region 0 [.M 65 8,
 .o 66 (.aj .neq) [.t 65, .k (.int .u64 0)],
 .M 6 66])
 .ret)))))⟩
def qZ : EC := (.seq (.region 0 [.o 10 (.aj .lss) [.t 9, .t 8]])
 (.seq (.cond (.t 10) .skip
 (.exit 0))
 (.seq (.block 1 (.seq (.region 0 [.M 11 9,
 .o 12 (.aQ 1) [.t 7, .t 9],
 .o 13 .ak [.t 12],
 .M 5 11,
 .M 6 13])
 (.region 0 [.M 15 0,
 .M 16 5,
 .M 17 0,
 .M 18 5,
 .o 19 (.aQ 1) [.t 17, .t 18],
 .o 20 .ak [.t 19],
 .M 21 6,
 .M 22 4,
 .o 23 (.ah bits_Add64) [.t 20, .t 21, .t 22],
 .M 14 23,
 .o 24 (.ext 0) [.t 14],
 .o 25 (.ext 1) [.t 14],
 .o 26 (.aQ 1) [.t 15, .t 16],
 ⟨.store 1, [.t 26, .t 24], none, none⟩,
 .M 4 25])))
 (.region 0 [.o 27 (.aj .add) [.t 9, .k (.int .i64 1)],
 .M 9 27]))))
def FH : EF := ⟨[0, 1], [], (.seq (.region 0 [.C 4 (.int .u64 0)])
 (.seq (.seq (.region 0 [.M 7 1,
 .o 8 .aZ [.t 7],
 .C 9 (.int .i64 0)])
 (.block 0 (.loop [0, 1, 4, 7, 8, 9] [0, 1, 4] qZ)))
 (.region 0 [.M 28 0,
 .M 29 1,
 .o 30 .aZ [.t 29],
 .o 31 (.aQ 1) [.t 28, .t 30],
 .o 32 .ak [.t 31],
 .M 33 4,
 .o 34 (.aj .add) [.t 32, .t 33],
 .o 35 (.aQ 1) [.t 28, .t 30],
 ⟨.store 1, [.t 35, .t 34], none, none⟩])))⟩
def vw : EC := (.seq (.region 0 [.o 9 (.aj .lss) [.t 8, .t 7]])
 (.seq (.cond (.t 9) .skip
 (.exit 0))
 (.seq (.block 1 (.seq (.region 0 [.M 10 8,
 .M 5 10])
 (.seq (.region 0 [.M 11 1,
 .M 12 0,
 .M 13 5,
 .o 14 (.aQ 6) [.t 12, .t 13],
 .o 15 (.aN 6) [.t 14],
 .o 16 .yO [.t 11, .t 15]])
 (.cond (.t 16) (.seq (.region 0 [.M 17 5,
 .M 4 17])
 .ret)
 .skip))))
 (.region 0 [.o 18 (.aj .add) [.t 8, .k (.int .i64 1)],
 .M 8 18]))))
def F8 : EF := ⟨[0, 1], [.tmp 4], (.seq (.region 0 [.C 4 (.int .i64 0)])
 (.seq (.seq (.region 0 [.M 6 0,
 .o 7 .aZ [.t 6],
 .C 8 (.int .i64 0)])
 (.block 0 (.loop [0, 1, 7, 8] [4] vw)))
 (.seq (.region 0 [.C 4 (.int .i64 (-1))])
 .ret)))⟩
def Ai : EF := ⟨[0, 1, 2], [.tmp 6], (.seq (.region 0 [.C 6 (.bool false)])
 (.seq (.region 0 [.M 7 0,
 .M 8 1,
 .o 9 (.aj .geq) [.t 7, .t 8],
 .M 10 9,
 .g 10 true 11 (.aF) [.t 0],
 .g 10 true 12 (.aF) [.t 2],
 .g 10 true 13 (.aj .leq) [.t 11, .t 12],
 .o 14 .pick [.t 10, .t 13, .k (.bool false)],
 .M 6 14])
 .ret))⟩
def zB : EC := (.seq (.region 0 [.o 9 (.aj .lss) [.t 8, .t 7]])
 (.seq (.cond (.t 9) .skip
 (.exit 0))
 (.seq (.block 1 (.seq (.region 0 [.M 10 8,
 .M 5 10])
 (.seq (.region 0 [.M 11 1,
 .M 12 0,
 .M 13 5,
 .o 14 (.aQ 1) [.t 12, .t 13],
 .o 15 .ak [.t 14],
 .o 16 .yO [.t 11, .t 15]])
 (.cond (.t 16) (.seq (.region 0 [.M 17 5,
 .M 4 17])
 .ret)
 .skip))))
 (.region 0 [.o 18 (.aj .add) [.t 8, .k (.int .i64 1)],
 .M 8 18]))))
def MV : EF := ⟨[0, 1], [.tmp 4], (.seq (.region 0 [.C 4 (.int .i64 0)])
 (.seq (.seq (.region 0 [.M 6 0,
 .o 7 .aZ [.t 6],
 .C 8 (.int .i64 0)])
 (.block 0 (.loop [0, 1, 7, 8] [4] zB)))
 (.seq (.region 0 [.C 4 (.int .i64 (-1))])
 .ret)))⟩
def agV : EF := ⟨[0, 1], [.tmp 4, .tmp 5], (.seq (.region 1 [.o 2 (.box 0) [.t 0],
 .C 4 (.int .i64 0),
 .C 5 (.bool false)])
 (.seq (.region 0 [.M 12 1,
 .o 13 (.ay 1) [.t 2],
 .o 14 .ak [.t 13],
 .o 15 (.ah tX) [.t 12, .t 14],
 .M 11 15,
 .o 16 (.ext 0) [.t 11],
 .o 17 (.ext 1) [.t 11],
 .M 6 16,
 .M 7 17])
 (.seq (.seq (.region 0 [.M 18 7,
 .o 19 (.eqN true true) [.t 18, .k (.aB)]])
 (.cond (.t 19) (.seq (.region 0 [.C 4 (.int .i64 0),
 .C 5 (.bool false)])
 .ret)
 .skip))
 (.seq (.region 0 [.M 20 1,
 .o 21 (.ay 1) [.t 2],
 .o 22 .ak [.t 21],
 .o 23 (.ah fO) [.t 20, .t 22],
 .M 8 23])
 (.seq (.seq (.region 0 [.o 24 (.ay 3) [.t 2],
 .o 25 .ak [.t 24],
 .o 26 (.aj .eql) [.t 25, .k (.int .i64 (-1))]])
 (.cond (.t 26) (.seq (.drawn 0 [(0, .M 27 6),
 (1, .M 28 6),
 (2, .o 29 (.ah dK) [.t 28]),
 (3, .o 30 (.ay 4) [.t 2]),
 (4, .o 31 .ak [.t 30]),
 (5, .o 32 (.aj .sub) [.t 29, .t 31]),
 (6, .o 33 (.aj .add) [.t 32, .k (.int .i64 7)]),
 (7, .o 34 (.aj .rem) [.t 33, .k (.int .i64 7)]),
 (8, .o 35 (.aj .sub) [.t 27, .t 34]),
 (9, .M 4 35),
 (10, .C 5 (.bool true))])
 .ret)
 .skip))
 (.seq (.region 0 [.M 36 6,
 .M 37 8,
 .o 38 (.aj .sub) [.t 36, .t 37],
 .o 39 (.aj .add) [.t 38, .k (.int .i64 1)],
 .M 9 39])
 (.seq (.drawn 0 [(0, .M 40 9),
 (1, .o 41 (.ay 4) [.t 2]),
 (2, .o 42 .ak [.t 41]),
 (3, .M 43 9),
 (4, .o 44 (.ah dK) [.t 43]),
 (5, .o 45 (.aj .sub) [.t 42, .t 44]),
 (6, .o 46 (.aj .add) [.t 45, .k (.int .i64 7)]),
 (7, .o 47 (.aj .rem) [.t 46, .k (.int .i64 7)]),
 (8, .o 48 (.aj .add) [.t 40, .t 47]),
 (9, .o 49 (.ay 3) [.t 2]),
 (10, .o 50 .ak [.t 49]),
 (11, .o 51 (.aj .sub) [.t 50, .k (.int .i64 1)]),
 (12, .o 52 (.aj .mul) [.k (.int .i64 7), .t 51]),
 (13, .o 53 (.aj .add) [.t 48, .t 52]),
 (14, .M 10 53)])
 (.seq (.region 0 [.M 54 10,
 .M 55 10,
 .M 56 6,
 .o 57 (.aj .leq) [.t 55, .t 56],
 .M 4 54,
 .M 5 57])
 .ret))))))))⟩
def YM : EF := ⟨[0], [.tmp 2], (.seq (.region 0 [.C 2 (.int .i64 0)])
 (.seq (.seq (.region 0 [.M 3 0,
 .o 4 (.ah dK) [.t 3]])
 (.block 0 (.seq (.region 0 [.o 6 (.aj .eql) [.t 4, .k (.int .i64 6)],
 .M 5 6])
 (.cond (.t 5) (.seq (.region 0 [.M 7 0,
 .o 8 (.aj .sub) [.t 7, .k (.int .i64 1)],
 .M 2 8])
 .ret)
 (.seq (.region 0 [.o 10 (.aj .eql) [.t 4, .k (.int .i64 0)],
 .M 9 10])
 (.cond (.t 9) (.seq (.region 0 [.M 11 0,
 .o 12 (.aj .add) [.t 11, .k (.int .i64 1)],
 .M 2 12])
 .ret)
 .skip))))))
 (.seq (.region 0 [.M 13 0,
 .M 2 13])
 .ret)))⟩
def ae3 : EF := ⟨[0, 1, 2], [.tmp 6, .tmp 7], (.seq (.region 0 [.C 6 (.str []),
 .C 7 (.aB)])
 (.seq (.block 0 (.seq (.region 0 [.M 9 1,
 .o 10 (.aj .lss) [.t 9, .k (.int .i64 0)],
 .M 11 10,
 .g 11 false 12 (.aF) [.t 1],
 .g 11 false 13 (.aj .gtr) [.t 12, .k (.int .i64 20)],
 .o 14 .pick [.t 11, .k (.bool true), .t 13],
 .M 8 14])
 (.cond (.t 8) (.seq (.region 0 [.o 15 (.ah bM) [.k (.int .i64 2)],
 .C 6 (.str []),
 .M 7 15])
 .ret)
 (.seq (.region 0 [.M 17 2,
 .o 18 (.ah Ez) [.t 17],
 .o 19 .not [.t 18],
 .M 16 19])
 (.cond (.t 16) (.seq (.region 0 [.o 20 (.ah bM) [.k (.int .i64 1)],
 .C 6 (.str []),
 .M 7 20])
 .ret)
 .skip)))))
 (.seq (.region 0 [.M 21 0,
 .o 22 (.ah bZ) [.t 21],
 .M 23 1,
 .o 24 (.ah Cj) [.t 23],
 .o 25 (.ah bD) [.t 22, .t 24],
 .M 26 0,
 .o 27 (.ah bJ) [.t 26],
 .M 28 2,
 .o 29 (.ah Cm) [.t 25, .t 27, .t 28],
 .M 30 1,
 .o 31 (.ah C9) [.t 29, .t 30],
 .M 6 31,
 .C 7 (.aB)])
 .ret)))⟩
def ae4 : EF := ⟨[0, 1], [.tmp 4, .tmp 5], (.seq (.region 0 [.C 4 (.int .i64 0),
 .C 5 (.aB)])
 (.seq (.seq (.region 0 [.M 8 1,
 .o 9 (.ah Ez) [.t 8],
 .o 10 .not [.t 9]])
 (.cond (.t 10) (.seq (.region 0 [.o 11 (.ah bM) [.k (.int .i64 1)],
 .C 4 (.int .i64 0),
 .M 5 11])
 .ret)
 .skip))
 (.seq (.region 0 [.M 13 0,
 .o 14 (.ah bZ) [.t 13],
 .M 15 0,
 .o 16 (.ah bJ) [.t 15],
 .M 17 1,
 .o 18 (.ah Cm) [.t 14, .t 16, .t 17],
 .o 19 (.ah wQ) [.t 18],
 .M 12 19,
 .o 20 (.ext 0) [.t 12],
 .o 21 (.ext 1) [.t 12],
 .M 6 20,
 .M 7 21])
 (.seq (.seq (.region 0 [.M 22 7,
 .o 23 .not [.t 22]])
 (.cond (.t 23) (.seq (.region 0 [.o 24 (.ah bM) [.k (.int .i64 11)],
 .C 4 (.int .i64 0),
 .M 5 24])
 .ret)
 .skip))
 (.seq (.region 0 [.M 25 6,
 .M 4 25,
 .C 5 (.aB)])
 .ret)))))⟩
def QB : EF := ⟨[], [.tmp 0], (.seq (.region 0 [.C 0 (.bool false)])
 (.seq (.region 0 [.o 1 (.ah pK) [],
 .M 0 1])
 .ret))⟩
def kL : EC := (.seq (.seq (.region 0 [.M 9 1,
 .o 10 (.aj .gtr) [.t 9, .k (.int .i64 0)]])
 (.cond (.t 10) .skip
 (.exit 0)))
 (.seq (.join [1, 5, 6] (.block 1 (.seq (.seq (.region 0 [.M 13 1,
 .o 14 (.aj .and) [.t 13, .k (.int .i64 1)],
 .o 15 (.aj .eql) [.t 14, .k (.int .i64 1)]])
 (.join [1, 5, 6] (.cond (.t 15) (.region 0 [.M 16 5,
 .M 17 6,
 .o 18 (.ah fV) [.t 16, .t 17],
 .M 5 18])
 .skip)))
 (.seq (.region 0 [.M 19 1,
 .o 20 (.aj .gtr) [.t 19, .k (.int .i64 1)]])
 (.join [1, 5, 6] (.cond (.t 20) (.region 0 [.M 21 6,
 .M 22 6,
 .o 23 (.ah fV) [.t 21, .t 22],
 .M 6 23])
 .skip))))))
 (.region 0 [.M 11 1,
 .o 12 (.sh false) [.t 11, .k (.int .u64 1)],
 .M 1 12])))
def Ar : EF := ⟨[0, 1], [.tmp 4], (.seq (.region 0 [.C 4 (.aK)])
 (.seq (.region 0 [.o 7 (.ah fK) [.k (.int .u64 1)],
 .M 8 0,
 .M 5 7,
 .M 6 8])
 (.seq (.block 0 (.loop [1, 5, 6] [5] kL))
 (.seq (.region 0 [.M 24 5,
 .M 4 24])
 .ret))))⟩
def LZ : EC := (.seq (.seq (.region 0 [.M 33 6,
 .o 34 (.aj .geq) [.t 33, .k (.int .i64 0)]])
 (.cond (.t 34) .skip
 (.exit 1)))
 (.seq (.join [0, 1, 5, 6] (.block 2 (.seq (.region 0 [.M 37 5,
 .M 38 6,
 .o 39 (.ah nat_bit) [.t 38],
 .o 40 (.ah fQ) [.t 37, .t 39],
 .M 7 40])
 (.seq (.region 0 [.M 41 7,
 .o 42 (.ah lX) [.t 41],
 .o 43 (.aj .sub) [.t 42, .k (.int .i64 1)],
 .M 44 1,
 .o 45 (.aj .mul) [.t 43, .t 44],
 .M 46 0,
 .o 47 (.ah lX) [.t 46],
 .o 48 (.aj .lss) [.t 45, .t 47],
 .M 49 48,
 .g 49 true 50 (.aF) [.t 7],
 .g 49 true 51 (.aF) [.t 1],
 .g 49 true 52 (.ah nT) [.t 50, .t 51],
 .g 49 true 53 (.aF) [.t 0],
 .g 49 true 54 (.ah iR) [.t 52, .t 53],
 .g 49 true 55 (.aj .leq) [.t 54, .k (.int .i64 0)],
 .o 56 .pick [.t 49, .t 55, .k (.bool false)]])
 (.join [0, 1, 5, 6] (.cond (.t 56) (.region 0 [.M 57 7,
 .M 5 57])
 .skip))))))
 (.region 0 [.M 35 6,
 .o 36 (.aj .sub) [.t 35, .k (.int .i64 1)],
 .M 6 36])))
def YN : EF := ⟨[0, 1], [.tmp 4], (.seq (.region 0 [.C 4 (.aK)])
 (.seq (.block 0 (.seq (.region 0 [.M 9 1,
 .o 10 (.aj .leq) [.t 9, .k (.int .i64 1)],
 .M 11 10,
 .g 11 false 12 (.aF) [.t 0],
 .g 11 false 13 (.ah dR) [.t 12],
 .o 14 .pick [.t 11, .k (.bool true), .t 13],
 .M 8 14])
 (.cond (.t 8) (.seq (.region 0 [.M 15 0,
 .o 16 (.ah bP) [.t 15],
 .o 17 (.ah dX) [.t 16],
 .M 4 17])
 .ret)
 (.seq (.region 0 [.M 19 1,
 .M 20 0,
 .o 21 (.ah lX) [.t 20],
 .o 22 (.aj .geq) [.t 19, .t 21],
 .M 18 22])
 (.cond (.t 18) (.seq (.region 0 [.o 23 (.ah fK) [.k (.int .u64 1)],
 .M 4 23])
 .ret)
 .skip)))))
 (.seq (.region 0 [.o 24 (.ah fK) [.k (.int .u64 0)],
 .M 5 24])
 (.seq (.seq (.region 0 [.M 25 0,
 .o 26 (.ah lX) [.t 25],
 .M 27 1,
 .o 28 (.aj .add) [.t 26, .t 27],
 .o 29 (.aj .sub) [.t 28, .k (.int .i64 1)],
 .M 30 1,
 .o 31 (.aj .quo) [.t 29, .t 30],
 .o 32 (.aj .sub) [.t 31, .k (.int .i64 1)],
 .M 6 32])
 (.block 1 (.loop [0, 1, 5, 6] [5] LZ)))
 (.seq (.region 0 [.M 58 5,
 .M 4 58])
 .ret)))))⟩
def Gq : EC := (.seq (.seq (.region 0 [.M 19 5,
 .o 20 (.aj .geq) [.t 19, .k (.int .i64 0)]])
 (.cond (.t 20) .skip
 (.exit 0)))
 (.seq (.block 1 (.seq (.seq (.drawn 0 [(0, .M 23 0),
 (1, .M 24 5),
 (2, .o 25 (.aQ 1) [.t 23, .t 24]),
 (3, .o 26 .ak [.t 25]),
 (4, .M 27 1),
 (5, .M 28 5),
 (6, .o 29 (.aQ 1) [.t 27, .t 28]),
 (7, .o 30 .ak [.t 29]),
 (8, .o 31 (.aj .lss) [.t 26, .t 30])])
 (.cond (.t 31) (.seq (.region 0 [.C 4 (.int .i64 (-1))])
 .ret)
 .skip))
 (.seq (.drawn 0 [(0, .M 32 0),
 (1, .M 33 5),
 (2, .o 34 (.aQ 1) [.t 32, .t 33]),
 (3, .o 35 .ak [.t 34]),
 (4, .M 36 1),
 (5, .M 37 5),
 (6, .o 38 (.aQ 1) [.t 36, .t 37]),
 (7, .o 39 .ak [.t 38]),
 (8, .o 40 (.aj .gtr) [.t 35, .t 39])])
 (.cond (.t 40) (.seq (.region 0 [.C 4 (.int .i64 1)])
 .ret)
 .skip))))
 (.region 0 [.M 21 5,
 .o 22 (.aj .sub) [.t 21, .k (.int .i64 1)],
 .M 5 22])))
def Ul : EF := ⟨[0, 1], [.tmp 4], (.seq (.region 0 [.C 4 (.int .i64 0)])
 (.seq (.seq (.region 0 [.M 6 0,
 .o 7 .aZ [.t 6],
 .M 8 1,
 .o 9 .aZ [.t 8],
 .o 10 (.aj .neq) [.t 7, .t 9]])
 (.cond (.t 10) (.seq (.seq (.region 0 [.M 11 0,
 .o 12 .aZ [.t 11],
 .M 13 1,
 .o 14 .aZ [.t 13],
 .o 15 (.aj .lss) [.t 12, .t 14]])
 (.cond (.t 15) (.seq (.region 0 [.C 4 (.int .i64 (-1))])
 .ret)
 .skip))
 (.seq (.region 0 [.C 4 (.int .i64 1)])
 .ret))
 .skip))
 (.seq (.seq (.region 0 [.M 16 0,
 .o 17 .aZ [.t 16],
 .o 18 (.aj .sub) [.t 17, .k (.int .i64 1)],
 .M 5 18])
 (.block 0 (.loop [0, 1, 5] [4] Gq)))
 (.seq (.region 0 [.C 4 (.int .i64 0)])
 .ret))))⟩
def Gw : EC := (.seq (.seq (.region 0 [.M 48 5,
 .M 49 7,
 .o 50 (.aQ 1) [.t 48, .t 49],
 .o 51 .ak [.t 50],
 .o 52 (.aj .eql) [.t 51, .k (.int .u64 0)]])
 (.cond (.t 52) .skip
 (.exit 2)))
 (.block 3 (.seq (.region 0 [.M 53 5,
 .M 54 7,
 .o 55 (.aQ 1) [.t 53, .t 54],
 ⟨.store 1, [.t 55, .k (.int .u64 999999999)], none, none⟩])
 (.region 0 [.M 56 7,
 .o 57 (.aj .add) [.t 56, .k (.int .i64 1)],
 .M 7 57]))))
def Gx : EC := (.seq (.seq (.region 0 [.M 10 6,
 .M 11 1,
 .o 12 .aZ [.t 11],
 .o 13 (.aj .lss) [.t 10, .t 12]])
 (.cond (.t 13) .skip
 (.exit 0)))
 (.seq (.join [1, 5, 6] (.block 1 (.seq (.seq (.drawn 0 [(0, .M 16 5),
 (1, .M 17 6),
 (2, .o 18 (.aQ 1) [.t 16, .t 17]),
 (3, .o 19 .ak [.t 18]),
 (4, .M 20 1),
 (5, .M 21 6),
 (6, .o 22 (.aQ 1) [.t 20, .t 21]),
 (7, .o 23 .ak [.t 22]),
 (8, .o 24 (.aj .geq) [.t 19, .t 23])])
 (.cond (.t 24) (.seq (.drawn 0 [(0, .M 25 5),
 (1, .M 26 6),
 (2, .o 27 (.aQ 1) [.t 25, .t 26]),
 (3, .o 28 .ak [.t 27]),
 (4, .M 29 1),
 (5, .M 30 6),
 (6, .o 31 (.aQ 1) [.t 29, .t 30]),
 (7, .o 32 .ak [.t 31]),
 (8, .o 33 (.aj .sub) [.t 28, .t 32]),
 (9, .o 34 (.aQ 1) [.t 25, .t 26]),
 (10, ⟨.store 1, [.t 34, .t 33], none, none⟩)])
 (.exit 1))
 .skip))
 (.seq (.drawn 0 [(0, .M 35 5),
 (1, .M 36 6),
 (2, .o 37 (.aQ 1) [.t 35, .t 36]),
 (3, .o 38 .ak [.t 37]),
 (4, .M 39 1),
 (5, .M 40 6),
 (6, .o 41 (.aQ 1) [.t 39, .t 40]),
 (7, .o 42 .ak [.t 41]),
 (8, .o 43 (.aj .sub) [.k (.int .u64 1000000000), .t 42]),
 (9, .o 44 (.aj .add) [.t 38, .t 43]),
 (10, .o 45 (.aQ 1) [.t 35, .t 36]),
 (11, ⟨.store 1, [.t 45, .t 44], none, none⟩)])
 (.seq (.region 0 [.M 46 6,
 .o 47 (.aj .add) [.t 46, .k (.int .i64 1)],
 .M 7 47])
 (.seq (.block 2 (.loop [1, 5, 6, 7] [1, 5, 6, 7] Gw))
 (.region 0 [.M 58 5,
 .M 59 7,
 .o 60 (.aQ 1) [.t 58, .t 59],
 .o 61 .ak [.t 60],
 .o 62 (.aj .sub) [.t 61, .k (.int .u64 1)],
 .o 63 (.aQ 1) [.t 58, .t 59],
 ⟨.store 1, [.t 63, .t 62], none, none⟩])))))))
 (.region 0 [.M 14 6,
 .o 15 (.aj .add) [.t 14, .k (.int .i64 1)],
 .M 6 15])))
def Us : EF := ⟨[0, 1], [.tmp 4], (.seq (.region 0 [.C 4 (.bK)])
 (.seq (.region 1 [.M 8 0,
 .o 9 (.app 0 1) [.k (.bK), .t 8],
 .M 5 9])
 (.seq (.seq (.region 0 [.C 6 (.int .i64 0)])
 (.block 0 (.loop [1, 5, 6] [5] Gx)))
 (.seq (.region 0 [.M 64 5,
 .o 65 (.nN kD) [.t 64],
 .M 4 65])
 .ret))))⟩
def agT : EF := ⟨[0], [.tmp 2], (.seq (.region 0 [.C 2 (.bool false)])
 (.seq (.region 0 [.M 3 0,
 .o 4 (.aj .eql) [.t 3, .k (.int .i64 1)],
 .M 5 4,
 .g 5 false 6 (.aF) [.t 0],
 .g 5 false 7 (.aj .eql) [.t 6, .k (.int .i64 2)],
 .o 8 .pick [.t 5, .k (.bool true), .t 7],
 .M 9 8,
 .g 9 false 10 (.aF) [.t 0],
 .g 9 false 11 (.aj .eql) [.t 10, .k (.int .i64 3)],
 .o 12 .pick [.t 9, .k (.bool true), .t 11],
 .M 2 12])
 .ret))⟩
def acZ : EF := ⟨[0, 1], [.tmp 4], (.seq (.region 0 [.C 4 (.str [])])
 (.seq (.region 0 [.M 6 0,
 .o 7 (.ah bC) [.t 6],
 .o 8 (.ah gQ) [.t 7],
 .M 5 8])
 (.seq (.seq (.region 0 [.M 9 5,
 .o 10 .mD [.t 9],
 .M 11 1,
 .o 12 (.aj .leq) [.t 10, .t 11]])
 (.join [0, 1, 5] (.cond (.t 12) (.region 0 [.M 13 1,
 .o 14 (.aj .add) [.t 13, .k (.int .i64 1)],
 .M 15 5,
 .o 16 .mD [.t 15],
 .o 17 (.aj .sub) [.t 14, .t 16],
 .o 18 (.ah strings_Repeat) [.k (.str [48]), .t 17],
 .M 19 5,
 .o 20 (.dP .add) [.t 18, .t 19],
 .M 5 20])
 .skip)))
 (.seq (.seq (.region 0 [.M 21 1,
 .o 22 (.aj .gtr) [.t 21, .k (.int .i64 0)]])
 (.join [0, 5] (.cond (.t 22) (.drawn 0 [(0, .M 23 5),
 (1, .M 24 5),
 (2, .o 25 .mD [.t 24]),
 (3, .M 26 1),
 (4, .o 27 (.aj .sub) [.t 25, .t 26]),
 (5, .o 28 (.Qs false true) [.t 23, .t 27]),
 (6, .o 29 (.dP .add) [.t 28, .k (.str [46])]),
 (7, .M 30 5),
 (8, .M 31 5),
 (9, .o 32 .mD [.t 31]),
 (10, .M 33 1),
 (11, .o 34 (.aj .sub) [.t 32, .t 33]),
 (12, .o 35 (.Qs true false) [.t 30, .t 34]),
 (13, .o 36 (.dP .add) [.t 29, .t 35]),
 (14, .M 5 36)])
 .skip)))
 (.seq (.seq (.region 0 [.M 37 0,
 .o 38 (.ah bT) [.t 37],
 .o 39 (.aj .lss) [.t 38, .k (.int .i64 0)]])
 (.join [5] (.cond (.t 39) (.region 0 [.M 40 5,
 .o 41 (.dP .add) [.k (.str [45]), .t 40],
 .M 5 41])
 .skip)))
 (.seq (.region 0 [.M 42 5,
 .M 4 42])
 .ret))))))⟩
def ae5 : EF := ⟨[0, 1, 2], [.tmp 6], (.seq (.region 0 [.C 6 (.aK)])
 (.seq (.region 0 [.M 16 0,
 .o 17 (.ah bC) [.t 16],
 .M 18 1,
 .o 19 (.ah bC) [.t 18],
 .o 20 (.ah fU) [.t 17, .t 19],
 .M 15 20,
 .o 21 (.ext 0) [.t 15],
 .o 22 (.ext 1) [.t 15],
 .o 23 (.ext 2) [.t 15],
 .M 7 21,
 .M 8 22,
 .M 9 23])
 (.seq (.region 0 [.M 25 7,
 .o 26 (.ah fK) [.k (.int .u64 2)],
 .o 27 (.ah fU) [.t 25, .t 26],
 .M 24 27,
 .o 28 (.ext 0) [.t 24],
 .o 29 (.ext 1) [.t 24],
 .o 30 (.ext 2) [.t 24],
 .M 10 28,
 .M 11 29,
 .M 12 30])
 (.seq (.region 0 [.M 31 8,
 .M 32 8,
 .o 33 (.ah fQ) [.t 31, .t 32],
 .M 34 1,
 .o 35 (.ah bC) [.t 34],
 .o 36 (.ah iR) [.t 33, .t 35],
 .M 13 36])
 (.seq (.region 0 [.M 37 13,
 .o 38 (.aj .gtr) [.t 37, .k (.int .i64 0)],
 .M 39 38,
 .g 39 false 40 (.aF) [.t 13],
 .g 39 false 41 (.aj .eql) [.t 40, .k (.int .i64 0)],
 .g 39 false 42 (.aF) [.t 41],
 .g 42 true 43 (.aF) [.t 2],
 .g 42 true 44 (.aj .eql) [.t 43, .k (.int .i64 1)],
 .g 42 true 45 (.aF) [.t 44],
 .g 45 false 46 (.aF) [.t 11],
 .g 45 false 47 (.ah dR) [.t 46],
 .g 45 false 48 (.not) [.t 47],
 .g 42 true 49 (.pick) [.t 45, .k (.bool true), .t 48],
 .g 39 false 50 (.pick) [.t 42, .t 49, .k (.bool false)],
 .o 51 .pick [.t 39, .k (.bool true), .t 50],
 .M 14 51])
 (.seq (.seq (.region 0 [.M 52 14,
 .M 53 52,
 .g 53 true 54 (.aF) [.t 2],
 .g 53 true 55 (.aj .neq) [.t 54, .k (.int .i64 3)],
 .o 56 .pick [.t 53, .t 55, .k (.bool false)]])
 (.join [0, 7] (.cond (.t 56) (.region 0 [.M 57 7,
 .o 58 (.ah fK) [.k (.int .u64 1)],
 .o 59 (.ah fQ) [.t 57, .t 58],
 .M 7 59])
 .skip)))
 (.seq (.region 0 [.M 60 0,
 .o 61 (.ah bT) [.t 60],
 .o 62 (.aj .lss) [.t 61, .k (.int .i64 0)],
 .M 63 7,
 .o 64 (.ah fG) [.t 62, .t 63],
 .M 6 64])
 .ret)))))))⟩
def Xl : EF := ⟨[0], [.tmp 2, .tmp 3], (.seq (.region 0 [.C 2 (.int .i64 0),
 .C 3 (.bool false)])
 (.seq (.region 0 [.M 7 0,
 .o 8 (.ah bC) [.t 7],
 .o 9 (.ah wP) [.t 8],
 .M 6 9,
 .o 10 (.ext 0) [.t 6],
 .o 11 (.ext 1) [.t 6],
 .M 4 10,
 .M 5 11])
 (.seq (.block 0 (.seq (.region 0 [.M 13 5,
 .o 14 .not [.t 13],
 .M 12 14])
 (.cond (.t 12) (.seq (.region 0 [.C 2 (.int .i64 0),
 .C 3 (.bool false)])
 .ret)
 (.seq (.region 0 [.M 16 0,
 .o 17 (.ah bT) [.t 16],
 .o 18 (.aj .lss) [.t 17, .k (.int .i64 0)],
 .M 19 18,
 .g 19 true 20 (.aF) [.t 4],
 .g 19 true 21 (.aj .leq) [.t 20, .k (.int .u64 9223372036854775808)],
 .o 22 .pick [.t 19, .t 21, .k (.bool false)],
 .M 15 22])
 (.cond (.t 15) (.seq (.region 0 [.M 23 4,
 .o 24 .neg [.t 23],
 .o 25 (.conv .i64) [.t 24],
 .M 2 25,
 .C 3 (.bool true)])
 .ret)
 (.seq (.region 0 [.M 27 0,
 .o 28 (.ah bT) [.t 27],
 .o 29 (.aj .geq) [.t 28, .k (.int .i64 0)],
 .M 30 29,
 .g 30 true 31 (.aF) [.t 4],
 .g 30 true 32 (.aj .lss) [.t 31, .k (.int .u64 9223372036854775808)],
 .o 33 .pick [.t 30, .t 32, .k (.bool false)],
 .M 26 33])
 (.cond (.t 26) (.seq (.region 0 [.M 34 4,
 .o 35 (.conv .i64) [.t 34],
 .M 2 35,
 .C 3 (.bool true)])
 .ret)
 .skip)))))))
 (.seq (.region 0 [.C 2 (.int .i64 0),
 .C 3 (.bool false)])
 .ret))))⟩
def QC : EF := ⟨[], [.tmp 0], (.seq (.region 0 [.C 0 (.bool false)])
 (.seq (.region 0 [.o 3 (.ah eH) [.k (.int .i64 4), .k (.str [98])],
 .o 4 (.ah Du) [.k (.str [97]), .t 3],
 .M 1 4])
 (.seq (.region 0 [.M 5 1,
 .o 6 (.ah qC) [.t 5],
 .M 2 6])
 (.seq (.seq (.region 0 [.M 7 1,
 .o 8 (.eqN false true) [.t 7, .k (.aB)],
 .M 9 8,
 .g 9 false 10 (.aF) [.t 2],
 .g 9 false 11 (.aZ) [.t 10],
 .g 9 false 12 (.aj .neq) [.t 11, .k (.int .i64 2)],
 .o 13 .pick [.t 9, .k (.bool true), .t 12]])
 (.cond (.t 13) (.seq (.region 0 [.C 0 (.bool false)])
 .ret)
 .skip))
 (.seq (.region 0 [.M 14 2,
 .o 15 (.aQ 1) [.t 14, .k (.int .i64 0)],
 .o 16 .ak [.t 15],
 .o 17 (.dP .eql) [.t 16, .k (.str [97])],
 .M 18 17,
 .g 18 true 19 (.aF) [.t 2],
 .g 18 true 20 (.aQ 1) [.t 19, .k (.int .i64 1)],
 .g 18 true 21 (.ak) [.t 20],
 .g 18 true 22 (.dP .eql) [.t 21, .k (.str [98])],
 .o 23 .pick [.t 18, .t 22, .k (.bool false)],
 .M 24 23,
 .g 24 true 25 (.aF) [.t 1],
 .g 24 true 26 (.ah j_) [.t 25],
 .g 24 true 27 (.aj .eql) [.t 26, .k (.int .i64 4)],
 .o 28 .pick [.t 24, .t 27, .k (.bool false)],
 .M 29 28,
 .g 29 true 30 (.aF) [.t 1],
 .g 29 true 31 (.Dw [(h_, lQ), (jc, iW)]) [.t 30],
 .g 29 true 32 (.dP .eql) [.t 31, .k (.str [97, 58, 32, 98, 58, 32, 101, 114, 114, 111, 114, 32, 52])],
 .o 33 .pick [.t 29, .t 32, .k (.bool false)],
 .M 34 33,
 .g 34 true 35 (.aF) [.t 1],
 .g 34 true 36 (.ah bM) [.k (.int .i64 4)],
 .g 34 true 37 (.ah CB) [.t 35, .t 36],
 .o 38 .pick [.t 34, .t 37, .k (.bool false)],
 .M 39 38,
 .g 39 true 40 (.aF) [.t 1],
 .g 39 true 41 (.ah bM) [.k (.int .i64 1)],
 .g 39 true 42 (.ah CB) [.t 40, .t 41],
 .g 39 true 43 (.not) [.t 42],
 .o 44 .pick [.t 39, .t 43, .k (.bool false)],
 .M 45 44,
 .g 45 true 46 (.ah bM) [.k (.int .i64 0)],
 .g 45 true 47 (.eqN false true) [.t 46, .k (.aB)],
 .o 48 .pick [.t 45, .t 47, .k (.bool false)],
 .M 49 48,
 .g 49 true 50 (.ah bM) [.k (.int .i64 3)],
 .g 49 true 51 (.ah bM) [.k (.int .i64 3)],
 .g 49 true 52 (.eqF false [jc]) [.t 50, .t 51],
 .o 53 .pick [.t 49, .t 52, .k (.bool false)],
 .M 0 53])
 .ret)))))⟩
def Xk : EF := ⟨[0], [.tmp 2], (.seq (.region 0 [.C 2 (.int .i64 0)])
 (.seq (.region 0 [.M 4 0,
 .o 5 (.ah bP) [.t 4],
 .M 3 5])
 (.seq (.seq (.region 0 [.M 6 3,
 .o 7 .aZ [.t 6],
 .o 8 (.aj .eql) [.t 7, .k (.int .i64 0)]])
 (.cond (.t 8) (.seq (.region 0 [.C 2 (.int .i64 0)])
 .ret)
 .skip))
 (.seq (.region 0 [.M 9 3,
 .o 10 .aZ [.t 9],
 .o 11 (.aj .mul) [.k (.int .i64 64), .t 10],
 .M 12 3,
 .M 13 3,
 .o 14 .aZ [.t 13],
 .o 15 (.aj .sub) [.t 14, .k (.int .i64 1)],
 .o 16 (.aQ 1) [.t 12, .t 15],
 .o 17 .ak [.t 16],
 .o 18 (.ah bits_LeadingZeros64) [.t 17],
 .o 19 (.aj .sub) [.t 11, .t 18],
 .M 2 19])
 .ret))))⟩
def Xj : EF := ⟨[0], [.tmp 2, .tmp 3], (.seq (.region 0 [.C 2 (.int .u64 0),
 .C 3 (.bool false)])
 (.seq (.seq (.region 0 [.M 5 0,
 .o 6 (.ah bP) [.t 5],
 .M 4 6])
 (.seq (.region 0 [.M 7 4,
 .o 8 .aZ [.t 7]])
 (.block 0 (.seq (.region 0 [.o 10 (.aj .eql) [.t 8, .k (.int .i64 0)],
 .M 9 10])
 (.cond (.t 9) (.seq (.region 0 [.C 2 (.int .u64 0),
 .C 3 (.bool true)])
 .ret)
 (.seq (.region 0 [.o 12 (.aj .eql) [.t 8, .k (.int .i64 1)],
 .M 11 12])
 (.cond (.t 11) (.seq (.region 0 [.M 13 4,
 .o 14 (.aQ 1) [.t 13, .k (.int .i64 0)],
 .o 15 .ak [.t 14],
 .M 2 15,
 .C 3 (.bool true)])
 .ret)
 .skip)))))))
 (.seq (.region 0 [.C 2 (.int .u64 0),
 .C 3 (.bool false)])
 .ret)))⟩
def ac0 : EF := ⟨[0, 1], [.tmp 4], (.seq (.region 0 [.C 4 (.aB)])
 (.seq (.seq (.region 0 [.M 5 1,
 .o 6 (.eqN false true) [.t 5, .k (.aB)]])
 (.cond (.t 6) (.seq (.region 0 [.C 4 (.aB)])
 .ret)
 .skip))
 (.seq (.region 1 [.M 7 1,
 .o 8 (.ah j_) [.t 7],
 .M 9 0,
 .M 10 1,
 .o 11 (.build [.int .i64 0, .str [], .aB] [(0, 1), (1, 1), (2, 1)]) [.t 8, .t 9, .t 10],
 .o 12 (.box 0) [.t 11],
 .o 13 (.O8 h_) [.t 12],
 .M 4 13])
 .ret)))⟩
def N7 : EC := (.seq (.seq (.region 0 [.M 6 0,
 .o 7 (.eqN true true) [.t 6, .k (.aB)]])
 (.cond (.t 7) .skip
 (.exit 0)))
 (.seq (.join [0, 3] (.block 1 (.seq (.region 0 [.M 11 0,
 .o 12 (.TB h_ (.aK)) [.t 11],
 .M 10 12,
 .o 13 (.ext 0) [.t 10],
 .o 14 (.ext 1) [.t 10],
 .M 4 13,
 .M 5 14])
 (.seq (.region 0 [.M 15 5,
 .M 16 15,
 .g 16 true 17 (.aF) [.t 4],
 .g 16 true 18 (.r_ true) [.t 17, .k (.aK)],
 .o 19 .pick [.t 16, .t 18, .k (.bool false)],
 .M 20 19,
 .g 20 true 21 (.aF) [.t 4],
 .g 20 true 22 (.kN) [.t 21],
 .g 20 true 23 (.ay 1) [.t 22],
 .g 20 true 24 (.ak) [.t 23],
 .g 20 true 25 (.dP .neq) [.t 24, .k (.str [])],
 .o 26 .pick [.t 20, .t 25, .k (.bool false)]])
 (.join [0, 3] (.cond (.t 26) (.region 1 [.M 27 3,
 .M 28 4,
 .o 29 .kN [.t 28],
 .o 30 (.ay 1) [.t 29],
 .o 31 .ak [.t 30],
 .o 32 (.xW 1 1 [.str []] [(0, 1)]) [.t 31],
 .o 33 (.app 0 1) [.t 27, .t 32],
 .M 3 33])
 .skip))))))
 (.region 0 [.M 8 0,
 .o 9 (.ah oZ) [.t 8],
 .M 0 9])))
def GV : EF := ⟨[0], [.tmp 2], (.seq (.region 0 [.C 2 (.bK)])
 (.seq (.region 0 [.C 3 (.bK)])
 (.seq (.block 0 (.loop [0, 3] [3] N7))
 (.seq (.region 0 [.M 34 3,
 .M 2 34])
 .ret))))⟩
def ae6 : EF := ⟨[0, 1], [.tmp 4], (.seq (.region 0 [.C 4 (.bool false)])
 (.seq (.seq (.region 0 [.M 6 0,
 .o 7 (.eqN false true) [.t 6, .k (.aB)],
 .M 8 7,
 .g 8 false 9 (.aF) [.t 1],
 .g 8 false 10 (.eqN false true) [.t 9, .k (.aB)],
 .o 11 .pick [.t 8, .k (.bool true), .t 10]])
 (.cond (.t 11) (.seq (.region 0 [.M 12 0,
 .M 13 1,
 .o 14 (.eqF false [jc]) [.t 12, .t 13],
 .M 4 14])
 .ret)
 .skip))
 (.seq (.region 0 [.M 15 1,
 .o 16 (.ah fB) [.t 15],
 .o 17 (.Dw [(wM, dA)]) [.t 16],
 .M 5 17])
 (.seq (.region 0 [.M 18 0,
 .M 19 1,
 .M 20 5,
 .o 21 (.ah CG) [.t 18, .t 19, .t 20],
 .M 4 21])
 .ret))))⟩
def Dk : EF := ⟨[0], [.tmp 2], (.seq (.region 0 [.C 2 (.aB)])
 (.seq (.region 0 [.M 6 0,
 .o 7 (.Nw [(h_, true), (jc, false), (wM, false)]) [.t 6],
 .M 5 7,
 .o 8 (.ext 0) [.t 5],
 .o 9 (.ext 1) [.t 5],
 .M 3 8,
 .M 4 9])
 (.seq (.seq (.region 0 [.M 10 4,
 .o 11 .not [.t 10]])
 (.cond (.t 11) (.seq (.region 0 [.C 2 (.aB)])
 .ret)
 .skip))
 (.seq (.region 0 [.M 12 3,
 .o 13 (.Dw [(h_, fH)]) [.t 12],
 .M 2 13])
 .ret))))⟩
def Rq : EC := (.seq (.region 0 [.o 46 (.aj .lss) [.t 45, .t 44]])
 (.seq (.cond (.t 46) .skip
 (.exit 3))
 (.seq (.block 4 (.seq (.region 0 [.o 47 (.aQ 1) [.t 43, .t 45],
 .o 48 .ak [.t 47],
 .M 12 48])
 (.seq (.region 0 [.M 49 12,
 .M 50 1,
 .M 51 2,
 .o 52 (.ah CG) [.t 49, .t 50, .t 51]])
 (.cond (.t 52) (.seq (.region 0 [.C 6 (.bool true)])
 .ret)
 .skip))))
 (.region 0 [.o 53 (.aj .add) [.t 45, .k (.int .i64 1)],
 .M 45 53]))))
def Rt : EC := (.block 1 (.seq (.seq (.region 0 [.M 14 2,
 .M 15 14,
 .g 15 true 16 (.aF) [.t 0],
 .g 15 true 17 (.aF) [.t 1],
 .g 15 true 18 (.eqF false [jc]) [.t 16, .t 17],
 .o 19 .pick [.t 15, .t 18, .k (.bool false)]])
 (.cond (.t 19) (.seq (.region 0 [.C 6 (.bool true)])
 .ret)
 .skip))
 (.seq (.seq (.region 0 [.M 21 0,
 .o 22 (.Nw [(h_, true), (jc, false), (wM, false)]) [.t 21],
 .M 20 22,
 .o 23 (.ext 0) [.t 20],
 .o 24 (.ext 1) [.t 20],
 .M 7 23,
 .M 8 24])
 (.seq (.region 0 [.M 25 8,
 .M 26 25,
 .g 26 true 27 (.aF) [.t 7],
 .g 26 true 28 (.aF) [.t 1],
 .g 26 true 29 (.Dw [(h_, uU)]) [.t 27, .t 28],
 .o 30 .pick [.t 26, .t 29, .k (.bool false)]])
 (.cond (.t 30) (.seq (.region 0 [.C 6 (.bool true)])
 .ret)
 .skip)))
 (.seq (.region 0 [.M 31 0])
 (.block 2 (.seq (.region 0 [.o 32 (.Nw [(h_, true), (jc, false), (wM, false)]) [.t 31],
 .o 33 (.ext 1) [.t 32],
 .o 34 (.ext 0) [.t 32]])
 (.cond (.t 33) (.seq (.region 0 [.M 9 34])
 (.seq (.region 0 [.M 35 9,
 .o 36 (.Dw [(h_, fH)]) [.t 35],
 .M 0 36])
 (.seq (.region 0 [.M 37 0,
 .o 38 (.eqN false true) [.t 37, .k (.aB)]])
 (.cond (.t 38) (.seq (.region 0 [.C 6 (.bool false)])
 .ret)
 .skip))))
 (.seq (.region 0 [.o 39 (.Nw [(h_, false), (jc, false), (wM, false)]) [.t 31],
 .o 40 (.ext 1) [.t 39],
 .o 41 (.ext 0) [.t 39]])
 (.cond (.t 40) (.seq (.region 0 [.M 10 41])
 (.seq (.seq (.region 0 [.M 42 10,
 .o 43 (.Dw [(h_, fH)]) [.t 42],
 .o 44 .aZ [.t 43],
 .C 45 (.int .i64 0)])
 (.block 3 (.loop [1, 2, 43, 44, 45] [6] Rq)))
 (.seq (.region 0 [.C 6 (.bool false)])
 .ret)))
 (.seq (.region 0 [.M 13 31])
 (.seq (.region 0 [.C 6 (.bool false)])
 .ret)))))))))))
def ae7 : EF := ⟨[0, 1, 2], [.tmp 6], (.seq (.region 0 [.C 6 (.bool false)])
 (.block 0 (.loop [0, 1, 2] [6] Rt)))⟩
def Vr : EF := ⟨[0, 1], [.tmp 4], (.seq (.region 0 [.C 4 (.bool false)])
 (.seq (.region 0 [.M 8 1,
 .o 9 (.TB jc (.int .i64 0)) [.t 8],
 .M 7 9,
 .o 10 (.ext 0) [.t 7],
 .o 11 (.ext 1) [.t 7],
 .M 5 10,
 .M 6 11])
 (.seq (.region 0 [.M 12 0,
 .o 13 (.r_ true) [.t 12, .k (.aK)],
 .M 14 13,
 .g 14 true 15 (.aF) [.t 6],
 .o 16 .pick [.t 14, .t 15, .k (.bool false)],
 .M 17 16,
 .g 17 true 18 (.aF) [.t 5],
 .g 17 true 19 (.aF) [.t 0],
 .g 17 true 20 (.kN) [.t 19],
 .g 17 true 21 (.ay 0) [.t 20],
 .g 17 true 22 (.ak) [.t 21],
 .g 17 true 23 (.aj .eql) [.t 18, .t 22],
 .o 24 .pick [.t 17, .t 23, .k (.bool false)],
 .M 4 24])
 .ret)))⟩
def vW : EF := ⟨[0], [.tmp 2], (.seq (.region 0 [.C 2 (.aB)])
 (.seq (.seq (.region 0 [.M 3 0,
 .o 4 (.r_ false) [.t 3, .k (.aK)]])
 (.cond (.t 4) (.seq (.region 0 [.C 2 (.aB)])
 .ret)
 .skip))
 (.seq (.region 0 [.M 5 0,
 .o 6 .kN [.t 5],
 .o 7 (.ay 2) [.t 6],
 .o 8 .ak [.t 7],
 .M 2 8])
 .ret)))⟩
def xE : EF := ⟨[0], [.tmp 2], (.seq (.region 0 [.C 2 (.str [])])
 (.seq (.region 0 [.M 3 0,
 .o 4 (.ah strconv_Itoa) [.t 3],
 .o 5 (.dP .add) [.k (.str [101, 114, 114, 111, 114, 32]), .t 4],
 .M 2 5])
 .ret))⟩
end Go.Ev.Code
