/- A part of the proof of planLone_card, bondLong_card. -/
import Derived.Test.YtgppbgfjhkjfcaaGreatDoorCCodeA
set_option linter.unusedVariables false
namespace Go.Ev.Code
open Go.Ev
def MI : EC := (.seq (.region 0 [.o 37 (.aj .lss) [.t 36, .t 35]])
 (.seq (.cond (.t 37) .skip
 (.exit 0))
 (.seq (.block 1 (.seq (.region 1 [.o 38 (.aQ 2) [.t 34, .t 36],
 .o 39 (.aN 2) [.t 38],
 .o 12 (.alloc 0 [.int .i64 0, .str []]) [],
 ⟨.store 2, [.t 12, .t 39], none, none⟩])
 (.seq (.region 0 [.o 41 (.ay 1) [.t 12],
 .o 42 .ak [.t 41],
 .o 43 (.ah IC) [.t 42],
 .M 40 43,
 .o 44 (.ext 0) [.t 40],
 .o 45 (.ext 1) [.t 40],
 .M 13 44,
 .M 14 45])
 (.region 1 [.M 46 10,
 .M 47 13,
 .o 48 (.xW 1 1 [.aK] [(0, 1)]) [.t 47],
 .o 49 (.app 0 1) [.t 46, .t 48],
 .M 10 49]))))
 (.region 0 [.o 50 (.aj .add) [.t 36, .k (.int .i64 1)],
 .M 36 50]))))
def YQ : EF := ⟨[0, 1], [.tmp 4], (.seq (.region 1 [.o 2 (.box 0) [.t 0],
 .C 4 (.bK)])
 (.seq (.region 0 [.o 20 (.aN 9) [.t 2],
 .o 21 (.ah iU) [.t 20],
 .M 19 21,
 .o 22 (.ext 0) [.t 19],
 .o 23 (.ext 1) [.t 19],
 .M 5 22,
 .M 6 23])
 (.seq (.region 0 [.o 25 (.aN 9) [.t 2],
 .o 26 (.ah qN) [.t 25],
 .M 24 26,
 .o 27 (.ext 0) [.t 24],
 .o 28 (.ext 1) [.t 24],
 .M 7 27,
 .M 8 28])
 (.seq (.region 0 [.M 29 5,
 .M 30 1,
 .o 31 (.ah CS) [.t 29, .t 30],
 .M 9 31])
 (.seq (.region 0 [.C 10 (.bK)])
 (.seq (.seq (.region 0 [.M 32 7,
 .M 33 9,
 .o 34 (.Hr 2 true false) [.t 32, .t 33],
 .o 35 .aZ [.t 34],
 .C 36 (.int .i64 0)])
 (.block 0 (.loop [1, 2, 5, 9, 10, 34, 35, 36] [1, 2, 5, 9, 10] MI)))
 (.seq (.seq (.region 0 [.o 52 (.aN 9) [.t 2],
 .M 53 1,
 .o 54 (.ah En) [.t 52, .t 53],
 .M 51 54,
 .o 55 (.ext 0) [.t 51],
 .o 56 (.ext 1) [.t 51],
 .M 15 55,
 .M 16 56])
 (.seq (.region 0 [.M 57 15])
 (.join [10] (.cond (.t 57) (.seq (.drawn 0 [(0, .o 59 (.aN 9) [.t 2]),
 (1, .M 60 5),
 (2, .M 61 9),
 (3, .o 62 (.aQ 2) [.t 60, .t 61]),
 (4, .o 63 (.aN 2) [.t 62]),
 (5, .o 64 (.ah qY) [.t 59, .t 63]),
 (6, .M 58 64),
 (7, .o 65 (.ext 0) [.t 58]),
 (8, .o 66 (.ext 1) [.t 58]),
 (9, .M 17 65),
 (10, .M 18 66)])
 (.region 0 [.M 67 10,
 .M 68 10,
 .o 69 (.aQ 1) [.t 68, .k (.int .i64 0)],
 .o 70 .ak [.t 69],
 .M 71 17,
 .o 72 (.ah jD) [.t 70, .t 71],
 .o 73 (.aQ 1) [.t 67, .k (.int .i64 0)],
 ⟨.store 1, [.t 73, .t 72], none, none⟩]))
 .skip))))
 (.seq (.region 0 [.M 74 10,
 .M 4 74])
 .ret))))))))⟩
def aiD : EF := ⟨[0, 1], [.tmp 4], (.seq (.region 0 [.C 4 (.aK)])
 (.seq (.region 0 [.M 8 0,
 .M 9 1,
 .o 10 (.ah jq) [.t 8, .t 9],
 .M 7 10,
 .o 11 (.ext 0) [.t 7],
 .o 12 (.ext 1) [.t 7],
 .M 5 11,
 .M 6 12])
 (.seq (.region 0 [.M 13 5,
 .M 4 13])
 .ret)))⟩
def QG : EF := ⟨[], [.tmp 0], (.seq (.region 0 [.C 0 (.bool false)])
 (.seq (.region 0 [.o 17 (.build [.int .i64 0, .int .i64 0, .int .i64 0] [(0, 1), (1, 1), (2, 1)]) [.k (.int .i64 2000), .k (.int .i64 2), .k (.int .i64 29)],
 .o 18 (.ah qM) [.t 17],
 .M 16 18,
 .o 19 (.ext 0) [.t 16],
 .o 20 (.ext 1) [.t 16],
 .M 1 19,
 .M 2 20])
 (.seq (.region 1 [.M 22 1,
 .o 23 (.ah eF) [.t 22],
 .M 21 23,
 .o 24 (.ext 0) [.t 21],
 .o 25 (.ext 1) [.t 21],
 .o 3 (.alloc 0 [.int .i64 0, .int .i64 0, .int .i64 0]) [],
 ⟨.store 3, [.t 3, .t 24], none, none⟩,
 .M 4 25])
 (.seq (.region 0 [.M 27 1,
 .o 28 (.ah kJ) [.t 27, .k (.int .i64 12), .k (.bool false)],
 .M 26 28,
 .o 29 (.ext 0) [.t 26],
 .o 30 (.ext 1) [.t 26],
 .M 5 29,
 .M 6 30])
 (.seq (.region 0 [.o 32 (.ah sQ) [.k (.int .i64 2024)],
 .M 31 32,
 .o 33 (.ext 0) [.t 31],
 .o 34 (.ext 1) [.t 31],
 .M 7 33,
 .M 8 34])
 (.seq (.region 1 [.o 35 (.build [.int .i64 0, .int .i64 0, .int .i64 0, .int .i64 0, .int .i64 0, .bool false] [(0, 1), (1, 1), (2, 1)]) [.k (.int .i64 1), .k (.int .i64 1), .k (.int .i64 1)],
 .o 9 (.alloc 0 [.int .i64 0, .int .i64 0, .int .i64 0, .int .i64 0, .int .i64 0, .bool false]) [],
 ⟨.store 6, [.t 9, .t 35], none, none⟩])
 (.seq (.region 0 [.o 37 (.aN 6) [.t 9],
 .o 38 (.xW 6 1 [.int .i64 0, .int .i64 0, .int .i64 0, .int .i64 0, .int .i64 0, .bool false] [(0, 6)]) [.t 37],
 .o 39 (.ah yN) [.t 38, .k (.sl 0 [])],
 .M 36 39,
 .o 40 (.ext 0) [.t 36],
 .o 41 (.ext 1) [.t 36],
 .M 10 40,
 .M 11 41])
 (.seq (.seq (.region 0 [.M 42 10,
 .o 43 (.r_ false) [.t 42, .k (.aK)]])
 (.cond (.t 43) (.seq (.region 0 [.C 0 (.bool false)])
 .ret)
 .skip))
 (.seq (.region 0 [.M 45 10,
 .o 46 (.ah JJ) [.t 45, .k (.int .i64 0), .k (.int .i64 1)],
 .M 44 46,
 .o 47 (.ext 0) [.t 44],
 .o 48 (.ext 1) [.t 44],
 .M 12 47,
 .M 13 48])
 (.seq (.region 0 [.o 50 (.ah mY) [],
 .M 51 1,
 .M 52 5,
 .o 53 (.ah qh) [.t 50, .t 51, .t 52, .k (.int .i64 0), .k (.int .i64 0), .k (.int .i64 0)],
 .M 49 53,
 .o 54 (.ext 0) [.t 49],
 .o 55 (.ext 1) [.t 49],
 .M 14 54,
 .M 15 55])
 (.seq (.seq (.region 0 [.M 56 14,
 .o 57 (.r_ false) [.t 56, .k (.aK)]])
 (.cond (.t 57) (.seq (.region 0 [.C 0 (.bool false)])
 .ret)
 .skip))
 (.seq (.region 0 [.o 58 (.ah pO) [],
 .M 59 58,
 .g 59 true 60 (.aF) [.t 2],
 .g 59 true 61 (.eqN false true) [.t 60, .k (.aB)],
 .o 62 .pick [.t 59, .t 61, .k (.bool false)],
 .M 63 62,
 .g 63 true 64 (.aF) [.t 4],
 .g 63 true 65 (.eqN false true) [.t 64, .k (.aB)],
 .o 66 .pick [.t 63, .t 65, .k (.bool false)],
 .M 67 66,
 .g 67 true 68 (.ay 2) [.t 3],
 .g 67 true 69 (.ak) [.t 68],
 .g 67 true 70 (.aj .eql) [.t 69, .k (.int .i64 29)],
 .o 71 .pick [.t 67, .t 70, .k (.bool false)],
 .M 72 71,
 .g 72 true 73 (.aF) [.t 1],
 .g 72 true 74 (.ah xY) [.t 73],
 .g 72 true 75 (.dP .eql) [.t 74, .k (.str [50, 48, 48, 48, 45, 48, 50, 45, 50, 57])],
 .o 76 .pick [.t 72, .t 75, .k (.bool false)],
 .M 77 76,
 .g 77 true 78 (.aF) [.t 6],
 .g 77 true 79 (.eqN false true) [.t 78, .k (.aB)],
 .o 80 .pick [.t 77, .t 79, .k (.bool false)],
 .M 81 80,
 .g 81 true 82 (.aF) [.t 5],
 .g 81 true 83 (.ah xY) [.t 82],
 .g 81 true 84 (.dP .eql) [.t 83, .k (.str [50, 48, 48, 49, 45, 48, 50, 45, 50, 56])],
 .o 85 .pick [.t 81, .t 84, .k (.bool false)],
 .M 86 85,
 .g 86 true 87 (.aF) [.t 8],
 .g 86 true 88 (.eqN false true) [.t 87, .k (.aB)],
 .o 89 .pick [.t 86, .t 88, .k (.bool false)],
 .M 90 89,
 .g 90 true 91 (.aF) [.t 7],
 .g 90 true 92 (.ah xY) [.t 91],
 .g 90 true 93 (.dP .eql) [.t 92, .k (.str [50, 48, 50, 52, 45, 48, 51, 45, 51, 49])],
 .o 94 .pick [.t 90, .t 93, .k (.bool false)],
 .M 95 94,
 .g 95 true 96 (.aF) [.t 11],
 .g 95 true 97 (.eqN false true) [.t 96, .k (.aB)],
 .o 98 .pick [.t 95, .t 97, .k (.bool false)],
 .M 99 98,
 .g 99 true 100 (.aF) [.t 10],
 .g 99 true 101 (.ah qR) [.t 100, .k (.int .i64 0)],
 .g 99 true 102 (.not) [.t 101],
 .o 103 .pick [.t 99, .t 102, .k (.bool false)],
 .M 104 103,
 .g 104 true 105 (.aF) [.t 10],
 .g 104 true 106 (.ah qR) [.t 105, .k (.int .i64 1)],
 .o 107 .pick [.t 104, .t 106, .k (.bool false)],
 .M 108 107,
 .g 108 true 109 (.aF) [.t 13],
 .g 108 true 110 (.eqN false true) [.t 109, .k (.aB)],
 .o 111 .pick [.t 108, .t 110, .k (.bool false)],
 .M 112 111,
 .g 112 true 113 (.aF) [.t 12],
 .g 112 true 114 (.aj .eql) [.t 113, .k (.int .i64 1)],
 .o 115 .pick [.t 112, .t 114, .k (.bool false)],
 .M 116 115,
 .g 116 true 117 (.aF) [.t 15],
 .g 116 true 118 (.eqN false true) [.t 117, .k (.aB)],
 .o 119 .pick [.t 116, .t 118, .k (.bool false)],
 .M 120 119,
 .g 120 true 121 (.aF) [.t 14],
 .g 120 true 122 (.ah dY) [.t 121],
 .g 120 true 123 (.dP .eql) [.t 122, .k (.str [51, 53, 57, 47, 51, 54, 48])],
 .o 124 .pick [.t 120, .t 123, .k (.bool false)],
 .M 125 124,
 .g 125 true 126 (.ah dK) [.k (.int .i64 0)],
 .g 125 true 127 (.aj .eql) [.t 126, .k (.int .i64 1)],
 .o 128 .pick [.t 125, .t 127, .k (.bool false)],
 .M 129 128,
 .g 129 true 130 (.aN 6) [.t 9],
 .g 129 true 131 (.ah N8) [.t 130, .k (.int .i64 0)],
 .o 132 .pick [.t 129, .t 131, .k (.bool false)],
 .M 133 132,
 .g 133 true 134 (.aF) [.t 1],
 .g 133 true 135 (.ah nR) [.t 134],
 .o 136 .pick [.t 133, .t 135, .k (.bool false)],
 .M 137 136,
 .g 137 true 138 (.aF) [.t 10],
 .g 137 true 139 (.xW 1 2 [.aK] [(0, 1), (1, 1)]) [.t 138, .k (.aK)],
 .g 137 true 140 (.ah BA) [.t 139],
 .g 137 true 141 (.r_ true) [.t 140, .k (.aK)],
 .o 142 .pick [.t 137, .t 141, .k (.bool false)],
 .M 0 142])
 .ret))))))))))))⟩
def yY : EF := ⟨[0], [.tmp 2], (.seq (.region 0 [.C 2 (.str [])])
 (.seq (.seq (.region 0 [.M 3 0,
 .o 4 (.ah bT) [.t 3],
 .o 5 (.aj .lss) [.t 4, .k (.int .i64 0)]])
 (.cond (.t 5) (.seq (.region 0 [.M 6 0,
 .o 7 (.ah bC) [.t 6],
 .o 8 (.ah gQ) [.t 7],
 .o 9 (.dP .add) [.k (.str [45]), .t 8],
 .M 2 9])
 .ret)
 .skip))
 (.seq (.region 0 [.M 10 0,
 .o 11 (.ah bC) [.t 10],
 .o 12 (.ah gQ) [.t 11],
 .M 2 12])
 .ret)))⟩
def Ll : EF := ⟨[0], [.tmp 2], (.seq (.region 0 [.C 2 (.aK)])
 (.seq (.region 0 [.M 6 0,
 .o 7 (.ah jq) [.t 6, .k (.int .i64 1)],
 .M 5 7,
 .o 8 (.ext 0) [.t 5],
 .o 9 (.ext 1) [.t 5],
 .M 3 8,
 .M 4 9])
 (.seq (.region 0 [.M 10 3,
 .M 2 10])
 .ret)))⟩
def Df : EF := ⟨[0], [.tmp 2, .tmp 3, .tmp 4], (.seq (.region 0 [.C 2 (.aK),
 .C 3 (.bool false),
 .C 4 (.aB)])
 (.seq (.region 0 [.M 9 0,
 .o 10 (.ah sO) [.t 9],
 .M 8 10,
 .o 11 (.ext 0) [.t 8],
 .o 12 (.ext 1) [.t 8],
 .o 13 (.ext 2) [.t 8],
 .M 5 11,
 .M 6 12,
 .M 7 13])
 (.seq (.region 0 [.M 14 5,
 .M 15 6,
 .o 16 (.aj .leq) [.t 15, .k (.int .i64 6)],
 .M 17 7,
 .M 2 14,
 .M 3 16,
 .M 4 17])
 .ret)))⟩
def uq : EC := (.seq (.region 0 [.o 9 (.aj .lss) [.t 8, .t 7]])
 (.seq (.cond (.t 9) .skip
 (.exit 0))
 (.seq (.block 1 (.seq (.region 0 [.M 10 8,
 .M 5 10])
 (.seq (.region 0 [.M 11 1,
 .M 12 0,
 .M 13 5,
 .o 14 (.aQ 2) [.t 12, .t 13],
 .o 15 (.aN 2) [.t 14],
 .o 16 .yO [.t 11, .t 15]])
 (.cond (.t 16) (.seq (.region 0 [.M 17 5,
 .M 4 17])
 .ret)
 .skip))))
 (.region 0 [.o 18 (.aj .add) [.t 8, .k (.int .i64 1)],
 .M 8 18]))))
def D_ : EF := ⟨[0, 1], [.tmp 4], (.seq (.region 0 [.C 4 (.int .i64 0)])
 (.seq (.seq (.region 0 [.M 6 0,
 .o 7 .aZ [.t 6],
 .C 8 (.int .i64 0)])
 (.block 0 (.loop [0, 1, 7, 8] [4] uq)))
 (.seq (.region 0 [.C 4 (.int .i64 (-1))])
 .ret)))⟩
def ae9 : EF := ⟨[0, 1], [.tmp 3], (.seq (.region 1 [.o 2 (.box 0) [.t 0],
 .C 3 (.bool false)])
 (.seq (.region 0 [.o 4 (.ay 0) [.t 2],
 .o 5 .ak [.t 4],
 .o 6 .ak [.t 1],
 .o 7 (.aj .leq) [.t 5, .t 6],
 .M 8 7,
 .g 8 true 9 (.ak) [.t 1],
 .g 8 true 10 (.ay 1) [.t 2],
 .g 8 true 11 (.ak) [.t 10],
 .g 8 true 12 (.aj .lss) [.t 9, .t 11],
 .o 13 .pick [.t 8, .t 12, .k (.bool false)],
 .M 3 13])
 .ret))⟩
def tV : EF := ⟨[0], [.tmp 2], (.seq (.region 0 [.C 2 (.int .i64 0)])
 (.seq (.seq (.region 0 [.M 3 0,
 .o 4 (.ah jv) [.t 3]])
 (.cond (.t 4) (.seq (.region 0 [.C 2 (.int .i64 366)])
 .ret)
 .skip))
 (.seq (.region 0 [.C 2 (.int .i64 365)])
 .ret)))⟩
def tN : EF := ⟨[0], [.tmp 2], (.seq (.region 0 [.C 2 (.bool false)])
 (.seq (.region 0 [.M 3 0,
 .o 4 (.aj .rem) [.t 3, .k (.int .i64 4)],
 .o 5 (.aj .eql) [.t 4, .k (.int .i64 0)],
 .M 6 5,
 .g 6 true 7 (.aF) [.t 0],
 .g 6 true 8 (.aj .rem) [.t 7, .k (.int .i64 100)],
 .g 6 true 9 (.aj .neq) [.t 8, .k (.int .i64 0)],
 .g 6 true 10 (.aF) [.t 9],
 .g 10 false 11 (.aF) [.t 0],
 .g 10 false 12 (.aj .rem) [.t 11, .k (.int .i64 400)],
 .g 10 false 13 (.aj .eql) [.t 12, .k (.int .i64 0)],
 .g 6 true 14 (.pick) [.t 10, .k (.bool true), .t 13],
 .o 15 .pick [.t 6, .t 14, .k (.bool false)],
 .M 2 15])
 .ret))⟩
def AQ : EF := ⟨[0, 1], [.tmp 4, .tmp 5], (.seq (.region 1 [.o 2 (.box 0) [.t 0],
 .C 4 (.int .i64 0),
 .C 5 (.bool false)])
 (.seq (.drawn 0 [(0, .o 9 (.ay 1) [.t 2]),
 (1, .o 10 .ak [.t 9]),
 (2, .M 11 1),
 (3, .o 12 .neg [.t 11]),
 (4, .o 13 (.aN 9) [.t 2]),
 (5, .o 14 (.ah jB) [.t 13]),
 (6, .o 15 (.aj .mul) [.t 12, .t 14]),
 (7, .o 16 (.ay 7) [.t 2]),
 (8, .o 17 .ak [.t 16]),
 (9, .o 18 (.ah kJ) [.t 10, .t 15, .t 17]),
 (10, .M 8 18),
 (11, .o 19 (.ext 0) [.t 8]),
 (12, .o 20 (.ext 1) [.t 8]),
 (13, .M 6 19),
 (14, .M 7 20)])
 (.seq (.drawn 0 [(0, .M 21 6),
 (1, .M 22 7),
 (2, .o 23 (.eqN false true) [.t 22, .k (.aB)]),
 (3, .M 4 21),
 (4, .M 5 23)])
 .ret)))⟩
def lZ : EC := (.seq (.block 1 (.seq (.region 0 [.o 12 (.aN 9) [.t 2],
 .M 13 6,
 .o 14 (.ah nY) [.t 12, .t 13],
 .M 11 14,
 .o 15 (.ext 0) [.t 11],
 .o 16 (.ext 1) [.t 11],
 .M 7 15,
 .M 8 16])
 (.seq (.seq (.region 0 [.M 17 8,
 .o 18 .not [.t 17],
 .M 19 18,
 .g 19 false 20 (.aF) [.t 7],
 .g 19 false 21 (.aF) [.t 1],
 .g 19 false 22 (.aj .lss) [.t 20, .t 21],
 .o 23 .pick [.t 19, .k (.bool true), .t 22]])
 (.cond (.t 23) (.seq (.region 0 [.C 4 (.int .i64 0),
 .C 5 (.bool false)])
 .ret)
 .skip))
 (.seq (.region 0 [.M 24 7,
 .M 25 1,
 .o 26 (.aj .eql) [.t 24, .t 25]])
 (.cond (.t 26) (.seq (.region 0 [.M 27 6,
 .M 4 27,
 .C 5 (.bool true)])
 .ret)
 .skip)))))
 (.region 0 [.M 9 6,
 .o 10 (.aj .add) [.t 9, .k (.int .i64 1)],
 .M 6 10]))
def Dq : EF := ⟨[0, 1], [.tmp 4, .tmp 5], (.seq (.region 1 [.o 2 (.box 0) [.t 0],
 .C 4 (.int .i64 0),
 .C 5 (.bool false)])
 (.seq (.region 0 [.C 6 (.int .i64 0)])
 (.block 0 (.loop [1, 2, 6] [4, 5] lZ))))⟩
def Ag : EF := ⟨[0], [.tmp 2], (.seq (.region 0 [.C 2 (.int .i64 0)])
 (.seq (.region 0 [.M 5 0,
 .o 6 (.aj .sub) [.t 5, .k (.int .i64 1)],
 .M 3 6,
 .C 4 (.int .i64 1899)])
 (.seq (.region 0 [.M 7 0,
 .o 8 (.aj .sub) [.t 7, .k (.int .i64 1900)],
 .o 9 (.aj .mul) [.k (.int .i64 365), .t 8],
 .M 10 3,
 .o 11 (.aj .quo) [.t 10, .k (.int .i64 4)],
 .M 12 3,
 .o 13 (.aj .quo) [.t 12, .k (.int .i64 100)],
 .o 14 (.aj .sub) [.t 11, .t 13],
 .M 15 3,
 .o 16 (.aj .quo) [.t 15, .k (.int .i64 400)],
 .o 17 (.aj .add) [.t 14, .t 16],
 .o 18 (.aj .add) [.t 9, .t 17],
 .M 19 4,
 .o 20 (.aj .quo) [.t 19, .k (.int .i64 4)],
 .M 21 4,
 .o 22 (.aj .quo) [.t 21, .k (.int .i64 100)],
 .o 23 (.aj .sub) [.t 20, .t 22],
 .M 24 4,
 .o 25 (.aj .quo) [.t 24, .k (.int .i64 400)],
 .o 26 (.aj .add) [.t 23, .t 25],
 .o 27 (.aj .sub) [.t 18, .t 26],
 .M 2 27])
 .ret)))⟩
def Fq : EF := ⟨[0], [.tmp 2], (.seq (.region 0 [.C 2 (.bool false)])
 (.seq (.region 0 [.M 3 0,
 .o 4 (.aj .rem) [.t 3, .k (.int .i64 4)],
 .o 5 (.aj .eql) [.t 4, .k (.int .i64 0)],
 .M 6 5,
 .g 6 true 7 (.aF) [.t 0],
 .g 6 true 8 (.aj .rem) [.t 7, .k (.int .i64 100)],
 .g 6 true 9 (.aj .neq) [.t 8, .k (.int .i64 0)],
 .g 6 true 10 (.aF) [.t 9],
 .g 10 false 11 (.aF) [.t 0],
 .g 10 false 12 (.aj .rem) [.t 11, .k (.int .i64 400)],
 .g 10 false 13 (.aj .eql) [.t 12, .k (.int .i64 0)],
 .g 6 true 14 (.pick) [.t 10, .k (.bool true), .t 13],
 .o 15 .pick [.t 6, .t 14, .k (.bool false)],
 .M 2 15])
 .ret))⟩
def Lr : EF := ⟨[0], [.tmp 2], (.seq (.region 0 [.C 2 (.bool false)])
 (.seq (.region 0 [.M 3 0,
 .o 4 (.aj .geq) [.t 3, .k (.int .i64 0)],
 .M 5 4,
 .g 5 true 6 (.aF) [.t 0],
 .g 5 true 7 (.aj .leq) [.t 6, .k (.int .i64 109572)],
 .o 8 .pick [.t 5, .t 7, .k (.bool false)],
 .M 2 8])
 .ret))⟩
def AB : EF := ⟨[0, 1], [.tmp 4], (.seq (.region 0 [.C 4 (.int .i64 0)])
 (.seq (.region 0 [.M 5 0,
 .M 6 1,
 .o 7 (.ah nV) [.t 5, .t 6],
 .o 8 (.ah bT) [.t 7],
 .M 4 8])
 .ret))⟩
def Ib : EF := ⟨[0, 1], [.tmp 4], (.seq (.region 0 [.C 4 (.aK)])
 (.seq (.region 0 [.M 8 0,
 .M 9 1,
 .o 10 (.ah lS) [.t 8, .t 9],
 .M 7 10,
 .o 11 (.ext 0) [.t 7],
 .o 12 (.ext 1) [.t 7],
 .M 5 11,
 .M 6 12])
 (.seq (.region 0 [.M 13 5,
 .M 4 13])
 .ret)))⟩
def CV : EC := (.seq (.seq (.region 0 [.M 23 7,
 .M 24 5,
 .o 25 .mD [.t 24],
 .o 26 (.aj .lss) [.t 23, .t 25],
 .M 27 26,
 .g 27 true 28 (.aF) [.t 5],
 .g 27 true 29 (.aF) [.t 7],
 .g 27 true 30 (.zD) [.t 28, .t 29],
 .g 27 true 31 (.aj .neq) [.t 30, .k (.int .u8 46)],
 .o 32 .pick [.t 27, .t 31, .k (.bool false)]])
 (.cond (.t 32) .skip
 (.exit 0)))
 (.block 1 (.region 0 [.M 33 7,
 .o 34 (.aj .add) [.t 33, .k (.int .i64 1)],
 .M 7 34])))
def CW : EC := (.seq (.seq (.region 0 [.M 71 11,
 .M 72 5,
 .o 73 .mD [.t 72],
 .o 74 (.aj .lss) [.t 71, .t 73]])
 (.cond (.t 74) .skip
 (.exit 2)))
 (.seq (.block 3 (.seq (.seq (.region 0 [.M 77 5,
 .M 78 11,
 .o 79 .zD [.t 77, .t 78],
 .o 80 (.aj .lss) [.t 79, .k (.int .u8 48)],
 .M 81 80,
 .g 81 false 82 (.aF) [.t 5],
 .g 81 false 83 (.aF) [.t 11],
 .g 81 false 84 (.zD) [.t 82, .t 83],
 .g 81 false 85 (.aj .gtr) [.t 84, .k (.int .u8 57)],
 .o 86 .pick [.t 81, .k (.bool true), .t 85]])
 (.cond (.t 86) (.seq (.region 0 [.o 87 (.build [.bool false, .sl 0 [], .sl 0 []] []) [],
 ⟨.store 3, [.t 2, .t 87], none, none⟩,
 .C 3 (.int .i64 0),
 .C 4 (.bool false)])
 .ret)
 .skip))
 (.drawn 0 [(0, .M 88 9),
 (1, .o 89 (.ah fM) [.k (.int .u64 10)]),
 (2, .o 90 (.ah lJ) [.t 88, .t 89]),
 (3, .M 91 5),
 (4, .M 92 11),
 (5, .o 93 .zD [.t 91, .t 92]),
 (6, .o 94 (.aj .sub) [.t 93, .k (.int .u8 48)]),
 (7, .o 95 (.conv .u64) [.t 94]),
 (8, .o 96 (.ah fM) [.t 95]),
 (9, .o 97 (.ah oK) [.t 90, .t 96]),
 (10, .M 9 97)])))
 (.region 0 [.M 75 11,
 .o 76 (.aj .add) [.t 75, .k (.int .i64 1)],
 .M 11 76])))
def O1 : EF := ⟨[0], [.cell 2 true 3, .tmp 3, .tmp 4], (.seq (.region 1 [.o 2 (.alloc 0 [.bool false, .sl 0 [], .sl 0 []]) [],
 .C 3 (.int .i64 0),
 .C 4 (.bool false)])
 (.seq (.drawn 0 [(0, .M 12 0),
 (1, .M 13 0),
 (2, .o 14 (.dP .neq) [.t 13, .k (.str [])]),
 (3, .M 15 14),
 (4, .g 15 true 16 (.aF) [.t 0]),
 (5, .g 15 true 17 (.zD) [.t 16, .k (.int .i64 0)]),
 (6, .g 15 true 18 (.aj .eql) [.t 17, .k (.int .u8 45)]),
 (7, .o 19 .pick [.t 15, .t 18, .k (.bool false)]),
 (8, .M 5 12),
 (9, .M 6 19)])
 (.seq (.seq (.region 0 [.M 20 6])
 (.join [0, 2, 5, 6] (.cond (.t 20) (.region 0 [.M 21 5,
 .o 22 (.Qs true false) [.t 21, .k (.int .i64 1)],
 .M 5 22])
 .skip)))
 (.seq (.region 0 [.C 7 (.int .i64 0)])
 (.seq (.block 0 (.loop [0, 2, 5, 6, 7] [0, 2, 5, 6, 7] CV))
 (.seq (.region 0 [.M 35 5,
 .o 36 .mD [.t 35],
 .M 37 7,
 .o 38 (.aj .sub) [.t 36, .t 37],
 .o 39 (.aj .sub) [.t 38, .k (.int .i64 1)],
 .o 40 .mx [.k (.int .i64 0), .t 39],
 .M 8 40])
 (.seq (.seq (.region 0 [.M 41 0,
 .o 42 .mD [.t 41],
 .o 43 (.aj .gtr) [.t 42, .k (.int .i64 60)],
 .M 44 43,
 .g 44 false 45 (.aF) [.t 7],
 .g 44 false 46 (.aF) [.t 5],
 .g 44 false 47 (.mD) [.t 46],
 .g 44 false 48 (.aj .lss) [.t 45, .t 47],
 .g 44 false 49 (.aF) [.t 48],
 .g 49 true 50 (.aF) [.t 8],
 .g 49 true 51 (.aj .lss) [.t 50, .k (.int .i64 1)],
 .g 49 true 52 (.aF) [.t 51],
 .g 52 false 53 (.aF) [.t 8],
 .g 52 false 54 (.aj .gtr) [.t 53, .k (.int .i64 20)],
 .g 49 true 55 (.pick) [.t 52, .k (.bool true), .t 54],
 .g 44 false 56 (.pick) [.t 49, .t 55, .k (.bool false)],
 .o 57 .pick [.t 44, .k (.bool true), .t 56]])
 (.cond (.t 57) (.seq (.region 0 [.o 58 (.build [.bool false, .sl 0 [], .sl 0 []] []) [],
 ⟨.store 3, [.t 2, .t 58], none, none⟩,
 .C 3 (.int .i64 0),
 .C 4 (.bool false)])
 .ret)
 .skip))
 (.seq (.region 0 [.M 60 5,
 .M 61 7,
 .o 62 (.Qs false true) [.t 60, .t 61],
 .o 63 (.ah rO) [.t 62],
 .M 59 63,
 .o 64 (.ext 0) [.t 59],
 .o 65 (.ext 1) [.t 59],
 .M 9 64,
 .M 10 65])
 (.seq (.seq (.region 0 [.M 66 10,
 .o 67 .not [.t 66]])
 (.cond (.t 67) (.seq (.region 0 [.o 68 (.build [.bool false, .sl 0 [], .sl 0 []] []) [],
 ⟨.store 3, [.t 2, .t 68], none, none⟩,
 .C 3 (.int .i64 0),
 .C 4 (.bool false)])
 .ret)
 .skip))
 (.seq (.seq (.region 0 [.M 69 7,
 .o 70 (.aj .add) [.t 69, .k (.int .i64 1)],
 .M 11 70])
 (.block 2 (.loop [2, 5, 6, 8, 9, 11] [2, 3, 4, 6, 8, 9] CW)))
 (.seq (.seq (.region 0 [.M 98 6,
 .M 99 98,
 .g 99 true 100 (.aF) [.t 9],
 .g 99 true 101 (.aZ) [.t 100],
 .g 99 true 102 (.aj .eql) [.t 101, .k (.int .i64 0)],
 .o 103 .pick [.t 99, .t 102, .k (.bool false)]])
 (.cond (.t 103) (.seq (.region 0 [.o 104 (.build [.bool false, .sl 0 [], .sl 0 []] []) [],
 ⟨.store 3, [.t 2, .t 104], none, none⟩,
 .C 3 (.int .i64 0),
 .C 4 (.bool false)])
 .ret)
 .skip))
 (.seq (.region 0 [.M 105 6,
 .M 106 9,
 .o 107 (.build [.bool false, .sl 0 []] [(0, 1), (1, 1)]) [.t 105, .t 106],
 .o 108 (.ah fM) [.k (.int .u64 10)],
 .M 109 8,
 .o 110 (.ah uj) [.t 108, .t 109],
 .o 111 (.build [.bool false, .sl 0 [], .sl 0 []] [(0, 2), (2, 1)]) [.t 107, .t 110],
 .M 112 8,
 ⟨.store 3, [.t 2, .t 111], none, none⟩,
 .M 3 112,
 .C 4 (.bool true)])
 .ret))))))))))))⟩
def QK : EF := ⟨[0], [.cell 2 true 3], (.seq (.region 1 [.o 2 (.alloc 0 [.bool false, .sl 0 [], .sl 0 []]) []])
 (.seq (.region 0 [.M 3 0,
 .o 4 (.ah vg) [.t 3],
 .o 5 (.ah fM) [.k (.int .u64 1)],
 .o 6 (.build [.bool false, .sl 0 [], .sl 0 []] [(0, 2), (2, 1)]) [.t 4, .t 5],
 ⟨.store 3, [.t 2, .t 6], none, none⟩])
 .ret))⟩
def QI : EF := ⟨[0, 1], [.tmp 4], (.seq (.region 2 [.o 2 (.box 0) [.t 0],
 .o 3 (.box 1) [.t 1],
 .C 4 (.int .i64 0)])
 (.seq (.drawn 0 [(0, .o 5 (.ay 0) [.t 2]),
 (1, .o 6 (.aN 2) [.t 5]),
 (2, .o 7 (.ay 2) [.t 3]),
 (3, .o 8 .ak [.t 7]),
 (4, .o 9 (.build [.bool false, .sl 0 []] [(0, 1), (1, 1)]) [.k (.bool false), .t 8]),
 (5, .o 10 (.ah lU) [.t 6, .t 9]),
 (6, .o 11 (.ay 0) [.t 3]),
 (7, .o 12 (.aN 2) [.t 11]),
 (8, .o 13 (.ay 2) [.t 2]),
 (9, .o 14 .ak [.t 13]),
 (10, .o 15 (.build [.bool false, .sl 0 []] [(0, 1), (1, 1)]) [.k (.bool false), .t 14]),
 (11, .o 16 (.ah lU) [.t 12, .t 15]),
 (12, .o 17 (.ah rM) [.t 10, .t 16]),
 (13, .M 4 17)])
 .ret))⟩
def yS : EF := ⟨[0], [.tmp 2], (.seq (.region 0 [.C 2 (.int .i64 0)])
 (.seq (.seq (.region 0 [.M 3 0,
 .o 4 (.ah Cc) [.t 3],
 .o 5 .not [.t 4]])
 (.cond (.t 5) (.seq (.region 0 [.C 2 (.int .i64 (-1))])
 .ret)
 .skip))
 (.seq (.region 0 [.M 6 0,
 .o 7 (.aj .add) [.t 6, .k (.int .i64 1)],
 .o 8 (.aj .rem) [.t 7, .k (.int .i64 7)],
 .M 2 8])
 .ret)))⟩
def FB : EF := ⟨[0, 1, 2], [.tmp 6, .tmp 7], (.seq (.region 0 [.C 6 (.int .i64 0),
 .C 7 (.aB)])
 (.seq (.region 1 [.M 14 0,
 .o 15 (.ah eF) [.t 14],
 .M 13 15,
 .o 16 (.ext 0) [.t 13],
 .o 17 (.ext 1) [.t 13],
 .o 8 (.alloc 0 [.int .i64 0, .int .i64 0, .int .i64 0]) [],
 ⟨.store 3, [.t 8, .t 16], none, none⟩,
 .M 9 17])
 (.seq (.seq (.region 0 [.M 18 9,
 .o 19 (.eqN true true) [.t 18, .k (.aB)]])
 (.cond (.t 19) (.seq (.region 0 [.M 20 9,
 .C 6 (.int .i64 0),
 .M 7 20])
 .ret)
 .skip))
 (.seq (.seq (.region 0 [.M 21 1,
 .o 22 (.aj .lss) [.t 21, .k (.int .i64 (-3600))],
 .M 23 22,
 .g 23 false 24 (.aF) [.t 1],
 .g 23 false 25 (.aj .gtr) [.t 24, .k (.int .i64 3600)],
 .o 26 .pick [.t 23, .k (.bool true), .t 25]])
 (.cond (.t 26) (.seq (.region 0 [.o 27 (.ah bM) [.k (.int .i64 4)],
 .C 6 (.int .i64 0),
 .M 7 27])
 .ret)
 .skip))
 (.seq (.region 0 [.o 28 (.ay 0) [.t 8],
 .o 29 .ak [.t 28],
 .o 30 (.aj .mul) [.t 29, .k (.int .i64 12)],
 .o 31 (.ay 1) [.t 8],
 .o 32 .ak [.t 31],
 .o 33 (.aj .add) [.t 30, .t 32],
 .o 34 (.aj .sub) [.t 33, .k (.int .i64 1)],
 .M 35 1,
 .o 36 (.aj .add) [.t 34, .t 35],
 .M 10 36])
 (.seq (.region 0 [.M 37 10,
 .o 38 (.aj .quo) [.t 37, .k (.int .i64 12)],
 .M 39 10,
 .o 40 (.aj .rem) [.t 39, .k (.int .i64 12)],
 .o 41 (.aj .add) [.t 40, .k (.int .i64 1)],
 .M 11 38,
 .M 12 41])
 (.seq (.seq (.region 0 [.M 42 2,
 .M 43 42,
 .g 43 true 44 (.aF) [.t 0],
 .g 43 true 45 (.ah nR) [.t 44],
 .o 46 .pick [.t 43, .t 45, .k (.bool false)]])
 (.cond (.t 46) (.seq (.region 0 [.M 47 11,
 .M 48 12,
 .o 49 (.ah tX) [.t 47, .t 48],
 .o 50 (.ext 0) [.t 49],
 .o 51 (.ext 1) [.t 49],
 .M 6 50,
 .M 7 51])
 .ret)
 .skip))
 (.seq (.drawn 0 [(0, .M 52 11),
 (1, .M 53 12),
 (2, .o 54 (.ay 2) [.t 8]),
 (3, .o 55 .ak [.t 54]),
 (4, .M 56 11),
 (5, .M 57 12),
 (6, .o 58 (.ah fO) [.t 56, .t 57]),
 (7, .o 59 .mn [.t 55, .t 58]),
 (8, .o 60 (.build [.int .i64 0, .int .i64 0, .int .i64 0] [(0, 1), (1, 1), (2, 1)]) [.t 52, .t 53, .t 59]),
 (9, .o 61 (.ah qM) [.t 60]),
 (10, .o 62 (.ext 0) [.t 61]),
 (11, .o 63 (.ext 1) [.t 61]),
 (12, .M 6 62),
 (13, .M 7 63)])
 .ret))))))))⟩
def AV : EF := ⟨[0, 1], [.tmp 4], (.seq (.region 0 [.C 4 (.int .i64 0)])
 (.seq (.region 0 [.M 5 0,
 .o 6 (.ah bZ) [.t 5],
 .M 7 1,
 .o 8 (.ah bJ) [.t 7],
 .o 9 (.ah bD) [.t 6, .t 8],
 .M 10 1,
 .o 11 (.ah bZ) [.t 10],
 .M 12 0,
 .o 13 (.ah bJ) [.t 12],
 .o 14 (.ah bD) [.t 11, .t 13],
 .o 15 (.ah kX) [.t 9, .t 14],
 .M 4 15])
 .ret))⟩
def Rz : EC := (.seq (.seq (.region 0 [.M 27 6,
 .o 28 (.aQ 2) [.t 27, .k (.int .i64 0)],
 .o 29 (.ay 0) [.t 28],
 .o 30 .ak [.t 29],
 .M 31 1,
 .o 32 (.aj .leq) [.t 30, .t 31]])
 (.cond (.t 32) .skip
 (.exit 0)))
 (.block 1 (.region 0 [.M 33 6,
 .o 34 (.Hr 2 true false) [.t 33, .k (.int .i64 1)],
 .M 6 34])))
def ae8 : EF := ⟨[0, 1], [.tmp 4, .tmp 5], (.seq (.region 1 [.o 2 (.box 0) [.t 0],
 .C 4 (.sl 0 []),
 .C 5 (.aB)])
 (.seq (.region 0 [.o 9 (.aN 9) [.t 2],
 .o 10 (.aY qN) [.t 9],
 .M 8 10,
 .o 11 (.ext 0) [.t 8],
 .o 12 (.ext 1) [.t 8],
 .M 6 11,
 .M 7 12])
 (.seq (.seq (.region 0 [.M 13 7,
 .o 14 (.eqN true true) [.t 13, .k (.aB)]])
 (.cond (.t 14) (.seq (.region 0 [.M 15 7,
 .C 4 (.sl 0 []),
 .M 5 15])
 .ret)
 .skip))
 (.seq (.seq (.region 0 [.M 16 1,
 .o 17 (.ay 0) [.t 2],
 .o 18 .ak [.t 17],
 .o 19 (.aj .lss) [.t 16, .t 18],
 .M 20 19,
 .g 20 false 21 (.aF) [.t 1],
 .g 20 false 22 (.ay 1) [.t 2],
 .g 20 false 23 (.ak) [.t 22],
 .g 20 false 24 (.aj .geq) [.t 21, .t 23],
 .o 25 .pick [.t 20, .k (.bool true), .t 24]])
 (.cond (.t 25) (.seq (.region 0 [.o 26 (.ah bM) [.k (.int .i64 6)],
 .C 4 (.sl 0 []),
 .M 5 26])
 .ret)
 .skip))
 (.seq (.block 0 (.loop [1, 2, 6] [1, 2, 6] Rz))
 (.seq (.seq (.drawn 0 [(0, .o 35 (.ay 8) [.t 2]),
 (1, .o 36 .ak [.t 35]),
 (2, .o 37 (.aj .gtr) [.t 36, .k (.int .i64 0)]),
 (3, .M 38 37),
 (4, .g 38 true 39 (.aF) [.t 1]),
 (5, .g 38 true 40 (.aF) [.t 6]),
 (6, .g 38 true 41 (.aQ 2) [.t 40, .k (.int .i64 0)]),
 (7, .g 38 true 42 (.ay 0) [.t 41]),
 (8, .g 38 true 43 (.ak) [.t 42]),
 (9, .g 38 true 44 (.ay 8) [.t 2]),
 (10, .g 38 true 45 (.ak) [.t 44]),
 (11, .g 38 true 46 (.aj .sub) [.t 43, .t 45]),
 (12, .g 38 true 47 (.aj .geq) [.t 39, .t 46]),
 (13, .o 48 .pick [.t 38, .t 47, .k (.bool false)])])
 (.join [4, 5, 6] (.cond (.t 48) (.seq (.seq (.region 0 [.M 49 6,
 .o 50 .aZ [.t 49],
 .o 51 (.aj .gtr) [.t 50, .k (.int .i64 1)]])
 (.cond (.t 51) (.seq (.region 0 [.M 52 6,
 .o 53 (.Hr 2 true false) [.t 52, .k (.int .i64 1)],
 .M 4 53,
 .C 5 (.aB)])
 .ret)
 .skip))
 (.region 0 [.M 54 6,
 .o 55 (.aN 9) [.t 2],
 .o 56 (.ah kU) [.t 55],
 .o 57 (.ah dY) [.t 56],
 .o 58 (.aQ 2) [.t 54, .k (.int .i64 0)],
 .o 59 (.ay 1) [.t 58],
 ⟨.store 1, [.t 59, .t 57], none, none⟩]))
 .skip)))
 (.seq (.region 0 [.M 60 6,
 .M 4 60,
 .C 5 (.aB)])
 .ret)))))))⟩
def AO : EF := ⟨[0], [.tmp 2], (.seq (.region 0 [.C 2 (.aK)])
 (.seq (.region 0 [.M 3 0,
 .o 4 (.ah bT) [.t 3],
 .o 5 (.aj .geq) [.t 4, .k (.int .i64 0)],
 .M 6 0,
 .o 7 (.ah bC) [.t 6],
 .o 8 (.ah fG) [.t 5, .t 7],
 .M 2 8])
 .ret))⟩
def aiC : EF := ⟨[0], [.tmp 2, .tmp 3], (.seq (.region 0 [.C 2 (.aK),
 .C 3 (.aB)])
 (.seq (.region 0 [.M 14 0,
 .o 15 (.ah strings_Cut) [.t 14, .k (.str [47])],
 .M 13 15,
 .o 16 (.ext 0) [.t 13],
 .o 17 (.ext 1) [.t 13],
 .o 18 (.ext 2) [.t 13],
 .M 4 16,
 .M 5 17,
 .M 6 18])
 (.seq (.seq (.region 0 [.M 19 6,
 .o 20 .not [.t 19]])
 (.join [0, 4, 5] (.cond (.t 20) (.region 0 [.C 5 (.str [49])])
 .skip)))
 (.seq (.region 0 [.M 22 4,
 .o 23 (.ah Oe) [.t 22],
 .M 21 23,
 .o 24 (.ext 0) [.t 21],
 .o 25 (.ext 1) [.t 21],
 .M 7 24,
 .M 8 25])
 (.seq (.region 0 [.M 27 5,
 .o 28 (.ah jS) [.t 27],
 .M 26 28,
 .o 29 (.ext 0) [.t 26],
 .o 30 (.ext 1) [.t 26],
 .M 9 29,
 .M 10 30])
 (.seq (.seq (.region 0 [.M 31 8,
 .o 32 (.eqN true true) [.t 31, .k (.aB)],
 .M 33 32,
 .g 33 false 34 (.aF) [.t 10],
 .g 33 false 35 (.eqN true true) [.t 34, .k (.aB)],
 .o 36 .pick [.t 33, .k (.bool true), .t 35],
 .M 37 36,
 .g 37 false 38 (.aF) [.t 9],
 .g 37 false 39 (.ah dR) [.t 38],
 .o 40 .pick [.t 37, .k (.bool true), .t 39]])
 (.cond (.t 40) (.seq (.region 0 [.o 41 (.ah bM) [.k (.int .i64 1)],
 .C 2 (.aK),
 .M 3 41])
 .ret)
 .skip))
 (.seq (.region 0 [.M 43 7,
 .M 44 9,
 .o 45 (.ah fG) [.k (.bool false), .t 44],
 .o 46 (.ah lS) [.t 43, .t 45],
 .M 42 46,
 .o 47 (.ext 0) [.t 42],
 .o 48 (.ext 1) [.t 42],
 .M 11 47,
 .M 12 48])
 (.seq (.seq (.region 0 [.M 49 11,
 .o 50 (.ah dY) [.t 49],
 .M 51 0,
 .o 52 (.dP .neq) [.t 50, .t 51]])
 (.cond (.t 52) (.seq (.region 0 [.o 53 (.ah bM) [.k (.int .i64 1)],
 .C 2 (.aK),
 .M 3 53])
 .ret)
 .skip))
 (.seq (.region 0 [.M 54 11,
 .M 2 54,
 .C 3 (.aB)])
 .ret)))))))))⟩
def LJ : EF := ⟨[0, 1], [.tmp 4], (.seq (.region 0 [.C 4 (.aK)])
 (.seq (.region 1 [.M 5 0,
 .M 6 5,
 .g 6 true 7 (.aF) [.t 1],
 .g 6 true 8 (.ah dR) [.t 7],
 .g 6 true 9 (.not) [.t 8],
 .o 10 .pick [.t 6, .t 9, .k (.bool false)],
 .M 11 1,
 .o 12 (.build [.bool false, .aK] [(0, 1), (1, 1)]) [.t 10, .t 11],
 .o 13 (.box 0) [.t 12],
 .M 4 13])
 .ret))⟩
def OX : EF := ⟨[0], [.tmp 2], (.seq (.region 0 [.C 2 (.aK)])
 (.seq (.region 0 [.M 3 0,
 .o 4 (.xW 1 1 [.int .u64 0] [(0, 1)]) [.t 3],
 .o 5 (.ah dX) [.t 4],
 .M 2 5])
 .ret))⟩
def Az : EF := ⟨[0], [.tmp 2], (.seq (.region 0 [.C 2 (.aK)])
 (.seq (.seq (.region 0 [.M 3 0,
 .o 4 (.r_ false) [.t 3, .k (.aK)],
 .M 5 4,
 .g 5 false 6 (.aF) [.t 0],
 .g 5 false 7 (.kN) [.t 6],
 .g 5 false 8 (.ay 1) [.t 7],
 .g 5 false 9 (.ak) [.t 8],
 .g 5 false 10 (.r_ false) [.t 9, .k (.aK)],
 .o 11 .pick [.t 5, .k (.bool true), .t 10]])
 (.cond (.t 11) (.seq (.region 0 [.o 12 (.ah fK) [.k (.int .u64 0)],
 .M 2 12])
 .ret)
 .skip))
 (.seq (.region 0 [.M 13 0,
 .o 14 .kN [.t 13],
 .o 15 (.ay 1) [.t 14],
 .o 16 .ak [.t 15],
 .M 2 16])
 .ret)))⟩
def ny : EC := (.seq (.region 0 [.o 36 (.aj .lss) [.t 35, .t 34]])
 (.seq (.cond (.t 36) .skip
 (.exit 2))
 (.seq (.block 3 (.seq (.region 0 [.M 37 35,
 .o 38 (.aQ 1) [.t 33, .t 35],
 .o 39 .ak [.t 38],
 .M 11 37,
 .M 12 39])
 (.seq (.region 0 [.M 41 9,
 .M 42 12,
 .o 43 (.ah bits_Mul64) [.t 41, .t 42],
 .M 40 43,
 .o 44 (.ext 0) [.t 40],
 .o 45 (.ext 1) [.t 40],
 .M 13 44,
 .M 14 45])
 (.seq (.region 0 [.C 15 (.int .u64 0)])
 (.seq (.region 0 [.M 47 14,
 .M 48 7,
 .M 49 8,
 .M 50 11,
 .o 51 (.aj .add) [.t 49, .t 50],
 .o 52 (.aQ 1) [.t 48, .t 51],
 .o 53 .ak [.t 52],
 .o 54 (.ah bits_Add64) [.t 47, .t 53, .k (.int .u64 0)],
 .M 46 54,
 .o 55 (.ext 0) [.t 46],
 .o 56 (.ext 1) [.t 46],
 .M 14 55,
 .M 15 56])
 (.seq (.region 0 [.M 57 13,
 .M 58 15,
 .o 59 (.aj .add) [.t 57, .t 58],
 .M 13 59])
 (.seq (.region 0 [.M 61 14,
 .M 62 10,
 .o 63 (.ah bits_Add64) [.t 61, .t 62, .k (.int .u64 0)],
 .M 60 63,
 .o 64 (.ext 0) [.t 60],
 .o 65 (.ext 1) [.t 60],
 .M 14 64,
 .M 15 65])
 (.region 0 [.M 66 7,
 .M 67 8,
 .M 68 11,
 .o 69 (.aj .add) [.t 67, .t 68],
 .M 70 14,
 .M 71 13,
 .M 72 15,
 .o 73 (.aj .add) [.t 71, .t 72],
 .o 74 (.aQ 1) [.t 66, .t 69],
 ⟨.store 1, [.t 74, .t 70], none, none⟩,
 .M 10 73]))))))))
 (.region 0 [.o 75 (.aj .add) [.t 35, .k (.int .i64 1)],
 .M 35 75]))))
def nC : EC := (.seq (.region 0 [.o 29 (.aj .lss) [.t 28, .t 27]])
 (.seq (.cond (.t 29) .skip
 (.exit 0))
 (.seq (.block 1 (.seq (.region 0 [.M 30 28,
 .o 31 (.aQ 1) [.t 26, .t 28],
 .o 32 .ak [.t 31],
 .M 8 30,
 .M 9 32])
 (.seq (.region 0 [.C 10 (.int .u64 0)])
 (.seq (.seq (.region 0 [.M 33 6,
 .o 34 .aZ [.t 33],
 .C 35 (.int .i64 0)])
 (.block 2 (.loop [6, 7, 8, 9, 10, 26, 27, 28, 33, 34, 35] [6, 7, 8, 10, 26, 27, 28] ny)))
 (.region 0 [.M 76 7,
 .M 77 8,
 .M 78 6,
 .o 79 .aZ [.t 78],
 .o 80 (.aj .add) [.t 77, .t 79],
 .M 81 10,
 .o 82 (.aQ 1) [.t 76, .t 80],
 ⟨.store 1, [.t 82, .t 81], none, none⟩])))))
 (.region 0 [.o 83 (.aj .add) [.t 28, .k (.int .i64 1)],
 .M 28 83]))))
def Aq : EF := ⟨[0, 1], [.tmp 4], (.seq (.region 0 [.C 4 (.aK)])
 (.seq (.region 0 [.M 16 0,
 .o 17 (.ah bP) [.t 16],
 .M 18 1,
 .o 19 (.ah bP) [.t 18],
 .M 5 17,
 .M 6 19])
 (.seq (.region 1 [.M 20 5,
 .o 21 .aZ [.t 20],
 .M 22 6,
 .o 23 .aZ [.t 22],
 .o 24 (.aj .add) [.t 21, .t 23],
 .o 25 (.zG 0 1 [.int .u64 0]) [.t 24, .t 24],
 .M 7 25])
 (.seq (.seq (.region 0 [.M 26 5,
 .o 27 .aZ [.t 26],
 .C 28 (.int .i64 0)])
 (.block 0 (.loop [6, 7, 26, 27, 28] [7] nC)))
 (.seq (.region 0 [.M 84 7,
 .o 85 (.nN dX) [.t 84],
 .M 4 85])
 .ret)))))⟩
def kK : EC := (.seq (.region 0 [.o 29 (.aj .lss) [.t 28, .t 27]])
 (.seq (.cond (.t 29) .skip
 (.exit 0))
 (.seq (.join [5, 6, 7, 8, 27, 28] (.block 1 (.seq (.region 0 [.M 30 28,
 .M 9 30])
 (.seq (.region 0 [.C 10 (.int .u64 0)])
 (.seq (.seq (.region 0 [.M 31 9,
 .M 32 6,
 .o 33 .aZ [.t 32],
 .o 34 (.aj .lss) [.t 31, .t 33]])
 (.join [5, 6, 7, 8, 9, 10, 27, 28] (.cond (.t 34) (.region 0 [.M 35 6,
 .M 36 9,
 .o 37 (.aQ 1) [.t 35, .t 36],
 .o 38 .ak [.t 37],
 .M 10 38])
 .skip)))
 (.region 0 [.M 40 7,
 .M 41 9,
 .M 42 5,
 .M 43 9,
 .o 44 (.aQ 1) [.t 42, .t 43],
 .o 45 .ak [.t 44],
 .M 46 10,
 .M 47 8,
 .o 48 (.ah bits_Add64) [.t 45, .t 46, .t 47],
 .M 39 48,
 .o 49 (.ext 0) [.t 39],
 .o 50 (.ext 1) [.t 39],
 .o 51 (.aQ 1) [.t 40, .t 41],
 ⟨.store 1, [.t 51, .t 49], none, none⟩,
 .M 8 50]))))))
 (.region 0 [.o 52 (.aj .add) [.t 28, .k (.int .i64 1)],
 .M 28 52]))))
def Aj : EF := ⟨[0, 1], [.tmp 4], (.seq (.region 0 [.C 4 (.aK)])
 (.seq (.region 0 [.M 11 0,
 .o 12 (.ah bP) [.t 11],
 .M 13 1,
 .o 14 (.ah bP) [.t 13],
 .M 5 12,
 .M 6 14])
 (.seq (.seq (.region 0 [.M 15 5,
 .o 16 .aZ [.t 15],
 .M 17 6,
 .o 18 .aZ [.t 17],
 .o 19 (.aj .lss) [.t 16, .t 18]])
 (.join [5, 6] (.cond (.t 19) (.region 0 [.M 20 6,
 .M 21 5,
 .M 5 20,
 .M 6 21])
 .skip)))
 (.seq (.region 1 [.M 22 5,
 .o 23 .aZ [.t 22],
 .o 24 (.aj .add) [.t 23, .k (.int .i64 1)],
 .o 25 (.zG 0 1 [.int .u64 0]) [.t 24, .t 24],
 .M 7 25])
 (.seq (.region 0 [.C 8 (.int .u64 0)])
 (.seq (.seq (.region 0 [.M 26 5,
 .o 27 .aZ [.t 26],
 .C 28 (.int .i64 0)])
 (.block 0 (.loop [5, 6, 7, 8, 27, 28] [5, 7, 8] kK)))
 (.seq (.region 0 [.M 53 7,
 .M 54 5,
 .o 55 .aZ [.t 54],
 .M 56 8,
 .o 57 (.aQ 1) [.t 53, .t 55],
 ⟨.store 1, [.t 57, .t 56], none, none⟩])
 (.seq (.region 0 [.M 58 7,
 .o 59 (.nN dX) [.t 58],
 .M 4 59])
 .ret))))))))⟩
def Ak : EF := ⟨[0, 1], [.tmp 4], (.seq (.region 0 [.C 4 (.int .i64 0)])
 (.seq (.region 0 [.M 5 0,
 .o 6 (.ah bP) [.t 5],
 .M 7 1,
 .o 8 (.ah bP) [.t 7],
 .o 9 (.ah jV) [.t 6, .t 8],
 .M 4 9])
 .ret))⟩
def nD : EC := (.seq (.region 0 [.o 27 (.aj .lss) [.t 26, .t 25]])
 (.seq (.cond (.t 27) .skip
 (.exit 0))
 (.seq (.join [6, 7, 8, 9, 25, 26] (.block 1 (.seq (.region 0 [.M 28 26,
 .M 10 28])
 (.seq (.region 0 [.C 11 (.int .u64 0)])
 (.seq (.seq (.region 0 [.M 29 10,
 .M 30 7,
 .o 31 .aZ [.t 30],
 .o 32 (.aj .lss) [.t 29, .t 31]])
 (.join [6, 7, 8, 9, 10, 11, 25, 26] (.cond (.t 32) (.region 0 [.M 33 7,
 .M 34 10,
 .o 35 (.aQ 1) [.t 33, .t 34],
 .o 36 .ak [.t 35],
 .M 11 36])
 .skip)))
 (.region 0 [.M 38 8,
 .M 39 10,
 .M 40 6,
 .M 41 10,
 .o 42 (.aQ 1) [.t 40, .t 41],
 .o 43 .ak [.t 42],
 .M 44 11,
 .M 45 9,
 .o 46 (.ah bits_Sub64) [.t 43, .t 44, .t 45],
 .M 37 46,
 .o 47 (.ext 0) [.t 37],
 .o 48 (.ext 1) [.t 37],
 .o 49 (.aQ 1) [.t 38, .t 39],
 ⟨.store 1, [.t 49, .t 47], none, none⟩,
 .M 9 48]))))))
 (.region 0 [.o 50 (.aj .add) [.t 26, .k (.int .i64 1)],
 .M 26 50]))))
def Au : EF := ⟨[0, 1], [.tmp 4, .tmp 5], (.seq (.region 0 [.C 4 (.aK),
 .C 5 (.aB)])
 (.seq (.region 0 [.M 12 0,
 .o 13 (.ah bP) [.t 12],
 .M 14 1,
 .o 15 (.ah bP) [.t 14],
 .M 6 13,
 .M 7 15])
 (.seq (.seq (.region 0 [.M 16 6,
 .M 17 7,
 .o 18 (.ah jV) [.t 16, .t 17],
 .o 19 (.aj .lss) [.t 18, .k (.int .i64 0)]])
 (.cond (.t 19) (.seq (.region 0 [.o 20 (.ah bM) [.k (.int .i64 2)],
 .C 4 (.aK),
 .M 5 20])
 .ret)
 .skip))
 (.seq (.region 1 [.M 21 6,
 .o 22 .aZ [.t 21],
 .o 23 (.zG 0 1 [.int .u64 0]) [.t 22, .t 22],
 .M 8 23])
 (.seq (.region 0 [.C 9 (.int .u64 0)])
 (.seq (.seq (.region 0 [.M 24 6,
 .o 25 .aZ [.t 24],
 .C 26 (.int .i64 0)])
 (.block 0 (.loop [6, 7, 8, 9, 25, 26] [8] nD)))
 (.seq (.region 0 [.M 51 8,
 .o 52 (.nN dX) [.t 51],
 .M 4 52,
 .C 5 (.aB)])
 .ret)))))))⟩
def L_ : EC := (.seq (.region 0 [.o 21 (.aj .lss) [.t 20, .t 19]])
 (.seq (.cond (.t 21) .skip
 (.exit 0))
 (.seq (.block 1 (.seq (.region 0 [.o 22 (.aQ 1) [.t 18, .t 20],
 .o 23 .ak [.t 22],
 .M 6 23])
 (.seq (.region 0 [.M 24 4,
 .o 25 (.ah bC) [.t 24],
 .M 26 6,
 .o 27 (.ah bJ) [.t 26],
 .o 28 (.ah bC) [.t 27],
 .o 29 (.ah kV) [.t 25, .t 28],
 .o 30 (.ah fG) [.k (.bool false), .t 29],
 .M 7 30])
 (.seq (.region 0 [.M 32 6,
 .o 33 (.ah bJ) [.t 32],
 .M 34 7,
 .o 35 (.ah uJ) [.t 33, .t 34],
 .M 31 35,
 .o 36 (.ext 0) [.t 31],
 .o 37 (.ext 1) [.t 31],
 .o 38 (.ext 2) [.t 31],
 .M 8 36,
 .M 9 37,
 .M 10 38])
 (.region 0 [.M 39 4,
 .M 40 8,
 .o 41 (.ah bD) [.t 39, .t 40],
 .M 4 41])))))
 (.region 0 [.o 42 (.aj .add) [.t 20, .k (.int .i64 1)],
 .M 20 42]))))
def Mc : EC := (.seq (.region 0 [.o 46 (.aj .lss) [.t 45, .t 44]])
 (.seq (.cond (.t 46) .skip
 (.exit 2))
 (.seq (.block 3 (.seq (.region 0 [.o 47 (.aQ 1) [.t 43, .t 45],
 .o 48 .ak [.t 47],
 .M 13 48])
 (.seq (.region 0 [.M 50 4,
 .M 51 13,
 .o 52 (.ah bJ) [.t 51],
 .o 53 (.ah uJ) [.t 50, .t 52],
 .M 49 53,
 .o 54 (.ext 0) [.t 49],
 .o 55 (.ext 1) [.t 49],
 .o 56 (.ext 2) [.t 49],
 .M 14 54,
 .M 15 55,
 .M 16 56])
 (.region 1 [.M 57 11,
 .M 58 13,
 .o 59 (.ah bZ) [.t 58],
 .M 60 14,
 .o 61 (.ah bD) [.t 59, .t 60],
 .o 62 (.xW 1 1 [.aK] [(0, 1)]) [.t 61],
 .o 63 (.app 0 1) [.t 57, .t 62],
 .M 11 63]))))
 (.region 0 [.o 64 (.aj .add) [.t 45, .k (.int .i64 1)],
 .M 45 64]))))
def YO : EF := ⟨[0], [.tmp 2, .tmp 3], (.seq (.region 0 [.C 2 (.bK),
 .C 3 (.aK)])
 (.seq (.region 0 [.o 17 (.ah gV) [.k (.int .i64 1)],
 .M 4 17])
 (.seq (.seq (.region 0 [.M 18 0,
 .o 19 .aZ [.t 18],
 .C 20 (.int .i64 0)])
 (.block 0 (.loop [0, 4, 18, 19, 20] [0, 4] L_)))
 (.seq (.region 0 [.C 11 (.bK)])
 (.seq (.seq (.region 0 [.M 43 0,
 .o 44 .aZ [.t 43],
 .C 45 (.int .i64 0)])
 (.block 2 (.loop [4, 11, 43, 44, 45] [4, 11] Mc)))
 (.seq (.region 0 [.M 65 11,
 .M 66 4,
 .M 2 65,
 .M 3 66])
 .ret))))))⟩
def yV : EF := ⟨[0], [.tmp 2], (.seq (.region 0 [.C 2 (.bool false)])
 (.seq (.region 0 [.M 3 0,
 .o 4 (.ah bP) [.t 3],
 .o 5 .aZ [.t 4],
 .o 6 (.aj .eql) [.t 5, .k (.int .i64 0)],
 .M 2 6])
 .ret))⟩
def Ap : EF := ⟨[0, 1], [.tmp 4], (.seq (.region 0 [.C 4 (.aK)])
 (.seq (.seq (.region 0 [.M 8 0,
 .M 9 1,
 .o 10 (.ah iR) [.t 8, .t 9],
 .o 11 (.aj .lss) [.t 10, .k (.int .i64 0)]])
 (.join [0, 1] (.cond (.t 11) (.region 0 [.M 12 1,
 .M 13 0,
 .M 0 12,
 .M 1 13])
 .skip)))
 (.seq (.seq (.region 0 [.M 14 1,
 .o 15 (.ah dR) [.t 14]])
 (.cond (.t 15) (.seq (.region 0 [.M 16 0,
 .o 17 (.ah bP) [.t 16],
 .o 18 (.ah dX) [.t 17],
 .M 4 18])
 .ret)
 .skip))
 (.seq (.region 0 [.M 20 0,
 .M 21 1,
 .o 22 (.ah fU) [.t 20, .t 21],
 .M 19 22,
 .o 23 (.ext 0) [.t 19],
 .o 24 (.ext 1) [.t 19],
 .o 25 (.ext 2) [.t 19],
 .M 5 23,
 .M 6 24,
 .M 7 25])
 (.seq (.seq (.region 0 [.M 26 6,
 .o 27 (.ah dR) [.t 26]])
 (.cond (.t 27) (.seq (.region 0 [.M 28 1,
 .o 29 (.ah bP) [.t 28],
 .o 30 (.ah dX) [.t 29],
 .M 4 30])
 .ret)
 .skip))
 (.seq (.region 0 [.M 31 1,
 .o 32 (.ah bP) [.t 31],
 .M 33 6,
 .o 34 (.ah bP) [.t 33],
 .o 35 (.ah tY) [.t 32, .t 34],
 .M 4 35])
 .ret))))))⟩
def Am : EF := ⟨[0, 1], [.tmp 4, .tmp 5, .tmp 6], (.seq (.region 0 [.C 4 (.aK),
 .C 5 (.aK),
 .C 6 (.aB)])
 (.seq (.region 0 [.M 13 0,
 .o 14 (.ah bP) [.t 13],
 .M 15 1,
 .o 16 (.ah bP) [.t 15],
 .M 7 14,
 .M 8 16])
 (.seq (.block 0 (.seq (.region 0 [.M 18 8,
 .o 19 .aZ [.t 18],
 .o 20 (.aj .eql) [.t 19, .k (.int .i64 0)],
 .M 17 20])
 (.cond (.t 17) (.seq (.region 0 [.o 21 (.ah bM) [.k (.int .i64 3)],
 .C 4 (.aK),
 .C 5 (.aK),
 .M 6 21])
 .ret)
 (.seq (.region 0 [.M 23 7,
 .M 24 8,
 .o 25 (.ah jV) [.t 23, .t 24],
 .o 26 (.aj .lss) [.t 25, .k (.int .i64 0)],
 .M 22 26])
 (.cond (.t 22) (.seq (.region 0 [.o 27 (.ah fK) [.k (.int .u64 0)],
 .M 28 7,
 .o 29 (.ah dX) [.t 28],
 .M 4 27,
 .M 5 29,
 .C 6 (.aB)])
 .ret)
 (.seq (.region 0 [.M 31 8,
 .o 32 .aZ [.t 31],
 .o 33 (.aj .eql) [.t 32, .k (.int .i64 1)],
 .M 30 33])
 (.cond (.t 30) (.seq (.region 0 [.M 35 7,
 .M 36 8,
 .o 37 (.aQ 1) [.t 36, .k (.int .i64 0)],
 .o 38 .ak [.t 37],
 .o 39 (.ah t_) [.t 35, .t 38],
 .M 34 39,
 .o 40 (.ext 0) [.t 34],
 .o 41 (.ext 1) [.t 34],
 .M 9 40,
 .M 10 41])
 (.seq (.region 0 [.M 42 9,
 .o 43 (.ah dX) [.t 42],
 .M 44 10,
 .o 45 (.ah fK) [.t 44],
 .M 4 43,
 .M 5 45,
 .C 6 (.aB)])
 .ret))
 .skip)))))))
 (.seq (.region 0 [.M 47 7,
 .M 48 8,
 .o 49 (.ah BM) [.t 47, .t 48],
 .M 46 49,
 .o 50 (.ext 0) [.t 46],
 .o 51 (.ext 1) [.t 46],
 .M 11 50,
 .M 12 51])
 (.seq (.region 0 [.M 52 11,
 .o 53 (.ah dX) [.t 52],
 .M 54 12,
 .o 55 (.ah dX) [.t 54],
 .M 4 53,
 .M 5 55,
 .C 6 (.aB)])
 .ret)))))⟩
def eY : EC := (.seq (.seq (.region 0 [.M 12 7,
 .o 13 (.ay 0) [.t 3],
 .o 14 .ak [.t 13],
 .o 15 (.aj .gtr) [.t 12, .t 14]])
 (.cond (.t 15) .skip
 (.exit 0)))
 (.block 1 (.seq (.region 0 [.o 17 (.aN 9) [.t 2],
 .M 18 7,
 .o 19 (.ah lI) [.t 17, .t 18],
 .M 16 19,
 .o 20 (.ext 0) [.t 16],
 .o 21 (.ext 1) [.t 16],
 .M 8 20,
 .M 9 21])
 (.seq (.seq (.region 0 [.M 22 9,
 .o 23 (.eqN true true) [.t 22, .k (.aB)]])
 (.cond (.t 23) (.seq (.region 0 [.M 24 9,
 .C 4 (.bK),
 .M 5 24])
 .ret)
 .skip))
 (.seq (.region 1 [.M 25 6,
 .M 26 8,
 .M 27 7,
 .o 28 (.build [.int .i64 0, .int .i64 0] [(0, 1), (1, 1)]) [.t 26, .t 27],
 .o 29 (.xW 2 1 [.int .i64 0, .int .i64 0] [(0, 2)]) [.t 28],
 .o 30 (.app 0 2) [.t 25, .t 29],
 .M 6 30])
 (.region 0 [.M 31 8,
 .M 7 31]))))))
def Ah : EF := ⟨[0, 1], [.tmp 4, .tmp 5], (.seq (.region 2 [.o 2 (.box 0) [.t 0],
 .o 3 (.box 1) [.t 1],
 .C 4 (.bK),
 .C 5 (.aB)])
 (.seq (.region 0 [.C 6 (.bK)])
 (.seq (.seq (.region 0 [.o 10 (.ay 1) [.t 3],
 .o 11 .ak [.t 10],
 .M 7 11])
 (.block 0 (.loop [2, 3, 6, 7] [4, 5, 6] eY)))
 (.seq (.region 0 [.M 32 6,
 .M 4 32,
 .C 5 (.aB)])
 .ret))))⟩
def Di : EF := ⟨[0, 1, 2, 3, 4, 5], [.tmp 12, .tmp 13], (.seq (.region 0 [.C 12 (.aK),
 .C 13 (.aB)])
 (.seq (.region 0 [.C 14 (.func qU [])])
 (.seq (.block 0 (.seq (.region 0 [.M 21 0,
 .o 22 (.ah tH) [.t 21],
 .o 23 .not [.t 22],
 .M 20 23])
 (.cond (.t 20) (.seq (.region 0 [.o 24 (.ah bM) [.k (.int .i64 1)],
 .C 12 (.aK),
 .M 13 24])
 .ret)
 (.seq (.region 0 [.M 26 14,
 .M 27 1,
 .o 28 .yO [.t 26, .t 27],
 .o 29 .not [.t 28],
 .M 30 29,
 .g 30 false 31 (.aF) [.t 14],
 .g 30 false 32 (.aF) [.t 2],
 .g 30 false 33 (.yO) [.t 31, .t 32],
 .g 30 false 34 (.not) [.t 33],
 .o 35 .pick [.t 30, .k (.bool true), .t 34],
 .M 36 35,
 .g 36 false 37 (.aF) [.t 2],
 .g 36 false 38 (.aF) [.t 1],
 .g 36 false 39 (.aj .lss) [.t 37, .t 38],
 .o 40 .pick [.t 36, .k (.bool true), .t 39],
 .M 41 40,
 .g 41 false 42 (.aF) [.t 0],
 .g 41 false 43 (.aj .eql) [.t 42, .k (.int .i64 4)],
 .g 41 false 44 (.aF) [.t 43],
 .g 44 true 45 (.aF) [.t 14],
 .g 44 true 46 (.aF) [.t 3],
 .g 44 true 47 (.yO) [.t 45, .t 46],
 .g 44 true 48 (.not) [.t 47],
 .g 44 true 49 (.aF) [.t 48],
 .g 49 false 50 (.aF) [.t 14],
 .g 49 false 51 (.aF) [.t 4],
 .g 49 false 52 (.yO) [.t 50, .t 51],
 .g 49 false 53 (.not) [.t 52],
 .g 44 true 54 (.pick) [.t 49, .k (.bool true), .t 53],
 .g 41 false 55 (.pick) [.t 44, .t 54, .k (.bool false)],
 .o 56 .pick [.t 41, .k (.bool true), .t 55],
 .M 25 56])
 (.cond (.t 25) (.seq (.region 0 [.o 57 (.ah bM) [.k (.int .i64 4)],
 .C 12 (.aK),
 .M 13 57])
 .ret)
 (.seq (.region 0 [.M 59 0,
 .o 60 (.aj .eql) [.t 59, .k (.int .i64 4)],
 .M 61 60,
 .g 61 true 62 (.aF) [.t 3],
 .g 61 true 63 (.aF) [.t 4],
 .g 61 true 64 (.aj .geq) [.t 62, .t 63],
 .g 61 true 65 (.aF) [.t 64],
 .g 65 false 66 (.aF) [.t 5],
 .g 65 false 67 (.aj .lss) [.t 66, .k (.int .i64 1)],
 .g 61 true 68 (.pick) [.t 65, .k (.bool true), .t 67],
 .o 69 .pick [.t 61, .t 68, .k (.bool false)],
 .M 58 69])
 (.cond (.t 58) (.seq (.region 0 [.o 70 (.ah bM) [.k (.int .i64 2)],
 .C 12 (.aK),
 .M 13 70])
 .ret)
 .skip)))))))
 (.seq (.region 0 [.C 15 (.int .i64 360)])
 (.seq (.seq (.region 0 [.M 71 0])
 (.join [0, 1, 2, 5, 15] (.block 1 (.seq (.region 0 [.o 73 (.aj .eql) [.t 71, .k (.int .i64 3)],
 .M 72 73])
 (.join [0, 1, 2, 5, 15] (.cond (.t 72) (.region 0 [.C 15 (.int .i64 365)])
 (.seq (.region 0 [.o 75 (.aj .eql) [.t 71, .k (.int .i64 4)],
 .M 74 75])
 (.join [0, 1, 2, 5, 15] (.cond (.t 74) (.region 0 [.M 76 4,
 .M 77 3,
 .o 78 (.aj .sub) [.t 76, .t 77],
 .M 15 78])
 .skip)))))))))
 (.seq (.region 0 [.M 80 0,
 .M 81 1,
 .M 82 2,
 .o 83 (.ah vS) [.t 80, .t 81, .t 82],
 .M 84 15,
 .o 85 (.ah jq) [.t 83, .t 84],
 .M 79 85,
 .o 86 (.ext 0) [.t 79],
 .o 87 (.ext 1) [.t 79],
 .M 16 86,
 .M 17 87])
 (.seq (.seq (.region 0 [.M 88 17,
 .o 89 (.eqN true true) [.t 88, .k (.aB)],
 .M 90 89,
 .g 90 false 91 (.aF) [.t 0],
 .g 90 false 92 (.aj .neq) [.t 91, .k (.int .i64 4)],
 .o 93 .pick [.t 90, .k (.bool true), .t 92]])
 (.cond (.t 93) (.seq (.region 0 [.M 94 16,
 .M 95 17,
 .M 12 94,
 .M 13 95])
 .ret)
 .skip))
 (.seq (.region 0 [.M 97 5,
 .o 98 (.ah jq) [.t 97, .k (.int .i64 1)],
 .M 96 98,
 .o 99 (.ext 0) [.t 96],
 .o 100 (.ext 1) [.t 96],
 .M 18 99,
 .M 19 100])
 (.seq (.region 0 [.M 101 16,
 .M 102 18,
 .o 103 (.ah kZ) [.t 101, .t 102],
 .o 104 (.ext 0) [.t 103],
 .o 105 (.ext 1) [.t 103],
 .M 12 104,
 .M 13 105])
 .ret)))))))))⟩
def abC : EF := ⟨[0, 1], [.tmp 4, .tmp 5, .tmp 6], (.seq (.region 0 [.C 4 (.aK),
 .C 5 (.aK),
 .C 6 (.aB)])
 (.seq (.region 0 [.M 12 0,
 .o 13 (.ah bC) [.t 12],
 .M 14 1,
 .o 15 (.ah bC) [.t 14],
 .o 16 (.ah fU) [.t 13, .t 15],
 .M 11 16,
 .o 17 (.ext 0) [.t 11],
 .o 18 (.ext 1) [.t 11],
 .o 19 (.ext 2) [.t 11],
 .M 7 17,
 .M 8 18,
 .M 9 19])
 (.seq (.seq (.region 0 [.M 20 9,
 .o 21 (.eqN true true) [.t 20, .k (.aB)]])
 (.cond (.t 21) (.seq (.region 0 [.M 22 9,
 .C 4 (.aK),
 .C 5 (.aK),
 .M 6 22])
 .ret)
 .skip))
 (.seq (.region 0 [.M 23 0,
 .o 24 (.ah bT) [.t 23],
 .M 25 1,
 .o 26 (.ah bT) [.t 25],
 .o 27 (.aj .mul) [.t 24, .t 26],
 .o 28 (.aj .lss) [.t 27, .k (.int .i64 0)],
 .M 10 28])
 (.seq (.seq (.region 0 [.M 29 10,
 .M 30 29,
 .g 30 true 31 (.aF) [.t 8],
 .g 30 true 32 (.ah dR) [.t 31],
 .g 30 true 33 (.not) [.t 32],
 .o 34 .pick [.t 30, .t 33, .k (.bool false)]])
 (.join [1, 7, 8, 10] (.cond (.t 34) (.seq (.region 0 [.M 35 7,
 .o 36 (.ah fK) [.k (.int .u64 1)],
 .o 37 (.ah fQ) [.t 35, .t 36],
 .M 7 37])
 (.region 0 [.M 39 1,
 .o 40 (.ah bC) [.t 39],
 .M 41 8,
 .o 42 (.ah jU) [.t 40, .t 41],
 .M 38 42,
 .o 43 (.ext 0) [.t 38],
 .o 44 (.ext 1) [.t 38],
 .M 8 43]))
 .skip)))
 (.seq (.region 0 [.M 45 10,
 .M 46 7,
 .o 47 (.ah fG) [.t 45, .t 46],
 .M 48 1,
 .o 49 (.ah bT) [.t 48],
 .o 50 (.aj .lss) [.t 49, .k (.int .i64 0)],
 .M 51 8,
 .o 52 (.ah fG) [.t 50, .t 51],
 .M 4 47,
 .M 5 52,
 .C 6 (.aB)])
 .ret))))))⟩
def Xi : EF := ⟨[0], [.tmp 2, .tmp 3], (.seq (.region 0 [.C 2 (.int .i64 0),
 .C 3 (.aB)])
 (.seq (.seq (.region 0 [.M 17 0,
 .o 18 (.aj .lss) [.t 17, .k (.int .i64 1900)],
 .M 19 18,
 .g 19 false 20 (.aF) [.t 0],
 .g 19 false 21 (.aj .gtr) [.t 20, .k (.int .i64 2199)],
 .o 22 .pick [.t 19, .k (.bool true), .t 21]])
 (.cond (.t 22) (.seq (.region 0 [.o 23 (.ah bM) [.k (.int .i64 4)],
 .C 2 (.int .i64 0),
 .M 3 23])
 .ret)
 .skip))
 (.seq (.region 0 [.M 24 0,
 .o 25 (.aj .rem) [.t 24, .k (.int .i64 19)],
 .M 26 0,
 .o 27 (.aj .quo) [.t 26, .k (.int .i64 100)],
 .M 28 0,
 .o 29 (.aj .rem) [.t 28, .k (.int .i64 100)],
 .M 4 25,
 .M 5 27,
 .M 6 29])
 (.seq (.region 0 [.M 30 5,
 .o 31 (.aj .quo) [.t 30, .k (.int .i64 4)],
 .M 32 5,
 .o 33 (.aj .rem) [.t 32, .k (.int .i64 4)],
 .M 7 31,
 .M 8 33])
 (.seq (.region 0 [.M 34 5,
 .o 35 (.aj .add) [.t 34, .k (.int .i64 8)],
 .o 36 (.aj .quo) [.t 35, .k (.int .i64 25)],
 .M 9 36])
 (.seq (.region 0 [.M 37 5,
 .M 38 9,
 .o 39 (.aj .sub) [.t 37, .t 38],
 .o 40 (.aj .add) [.t 39, .k (.int .i64 1)],
 .o 41 (.aj .quo) [.t 40, .k (.int .i64 3)],
 .M 10 41])
 (.seq (.region 0 [.M 42 4,
 .o 43 (.aj .mul) [.k (.int .i64 19), .t 42],
 .M 44 5,
 .o 45 (.aj .add) [.t 43, .t 44],
 .M 46 7,
 .o 47 (.aj .sub) [.t 45, .t 46],
 .M 48 10,
 .o 49 (.aj .sub) [.t 47, .t 48],
 .o 50 (.aj .add) [.t 49, .k (.int .i64 15)],
 .o 51 (.aj .rem) [.t 50, .k (.int .i64 30)],
 .M 11 51])
 (.seq (.region 0 [.M 52 6,
 .o 53 (.aj .quo) [.t 52, .k (.int .i64 4)],
 .M 54 6,
 .o 55 (.aj .rem) [.t 54, .k (.int .i64 4)],
 .M 12 53,
 .M 13 55])
 (.seq (.region 0 [.M 56 8,
 .o 57 (.aj .mul) [.k (.int .i64 2), .t 56],
 .o 58 (.aj .add) [.k (.int .i64 32), .t 57],
 .M 59 12,
 .o 60 (.aj .mul) [.k (.int .i64 2), .t 59],
 .o 61 (.aj .add) [.t 58, .t 60],
 .M 62 11,
 .o 63 (.aj .sub) [.t 61, .t 62],
 .M 64 13,
 .o 65 (.aj .sub) [.t 63, .t 64],
 .o 66 (.aj .rem) [.t 65, .k (.int .i64 7)],
 .M 14 66])
 (.seq (.region 0 [.M 67 4,
 .M 68 11,
 .o 69 (.aj .mul) [.k (.int .i64 11), .t 68],
 .o 70 (.aj .add) [.t 67, .t 69],
 .M 71 14,
 .o 72 (.aj .mul) [.k (.int .i64 22), .t 71],
 .o 73 (.aj .add) [.t 70, .t 72],
 .o 74 (.aj .quo) [.t 73, .k (.int .i64 451)],
 .M 15 74])
 (.seq (.region 0 [.M 75 11,
 .M 76 14,
 .o 77 (.aj .add) [.t 75, .t 76],
 .M 78 15,
 .o 79 (.aj .mul) [.k (.int .i64 7), .t 78],
 .o 80 (.aj .sub) [.t 77, .t 79],
 .o 81 (.aj .add) [.t 80, .k (.int .i64 114)],
 .M 16 81])
 (.seq (.region 0 [.M 82 0,
 .M 83 16,
 .o 84 (.aj .quo) [.t 83, .k (.int .i64 31)],
 .M 85 16,
 .o 86 (.aj .rem) [.t 85, .k (.int .i64 31)],
 .o 87 (.aj .add) [.t 86, .k (.int .i64 1)],
 .o 88 (.build [.int .i64 0, .int .i64 0, .int .i64 0] [(0, 1), (1, 1), (2, 1)]) [.t 82, .t 84, .t 87],
 .o 89 (.ah qM) [.t 88],
 .o 90 (.ext 0) [.t 89],
 .o 91 (.ext 1) [.t 89],
 .M 2 90,
 .M 3 91])
 .ret))))))))))))⟩
def vM : EC := (.seq (.region 0 [.o 38 (.aj .lss) [.t 37, .t 36]])
 (.seq (.cond (.t 38) .skip
 (.exit 1))
 (.seq (.block 2 (.seq (.region 0 [.o 39 (.aQ 1) [.t 35, .t 37],
 .o 40 .ak [.t 39],
 .M 8 40])
 (.region 0 [.M 41 6,
 .o 42 .kN [.t 41],
 .o 43 (.ay 0) [.t 42],
 .o 44 .ak [.t 43],
 .M 45 8,
 ⟨.Sm, [.t 44, .t 45, .k (.bool true)], none, none⟩])))
 (.region 0 [.o 46 (.aj .add) [.t 37, .k (.int .i64 1)],
 .M 37 46]))))
def vN : EC := (.seq (.seq (.region 0 [.M 53 11,
 .o 54 (.aj .leq) [.t 53, .k (.int .i64 2199)]])
 (.cond (.t 54) .skip
 (.exit 5)))
 (.seq (.join [6, 10, 11, 47, 48, 49] (.block 6 (.seq (.region 0 [.o 58 (.aN 6) [.t 10],
 .M 59 11,
 .o 60 (.ah x9) [.t 58, .t 59],
 .M 57 60,
 .o 61 (.ext 0) [.t 57],
 .o 62 (.ext 1) [.t 57],
 .M 12 61,
 .M 13 62])
 (.seq (.region 0 [.M 63 13])
 (.join [6, 10, 11, 47, 48, 49] (.cond (.t 63) (.region 0 [.M 64 6,
 .o 65 .kN [.t 64],
 .o 66 (.ay 0) [.t 65],
 .o 67 .ak [.t 66],
 .M 68 12,
 ⟨.Sm, [.t 67, .t 68, .k (.bool true)], none, none⟩])
 .skip))))))
 (.region 0 [.M 55 11,
 .o 56 (.aj .add) [.t 55, .k (.int .i64 1)],
 .M 11 56])))
def tq : EC := (.seq (.region 0 [.o 50 (.aj .lss) [.t 49, .t 48]])
 (.seq (.cond (.t 50) .skip
 (.exit 3))
 (.seq (.block 4 (.seq (.region 1 [.o 51 (.aQ 6) [.t 47, .t 49],
 .o 52 (.aN 6) [.t 51],
 .o 10 (.alloc 0 [.int .i64 0, .int .i64 0, .int .i64 0, .int .i64 0, .int .i64 0, .bool false]) [],
 ⟨.store 6, [.t 10, .t 52], none, none⟩])
 (.seq (.region 0 [.C 11 (.int .i64 1900)])
 (.block 5 (.loop [6, 10, 11, 47, 48, 49] [6, 47, 48, 49] vN)))))
 (.region 0 [.o 69 (.aj .add) [.t 49, .k (.int .i64 1)],
 .M 49 69]))))
def Lm : EF := ⟨[0, 1], [.tmp 4, .tmp 5], (.seq (.region 0 [.C 4 (.aK),
 .C 5 (.aB)])
 (.seq (.block 0 (.seq (.region 0 [.M 15 0,
 .o 16 .aZ [.t 15],
 .o 17 (.aj .gtr) [.t 16, .k (.int .i64 20)],
 .M 18 17,
 .g 18 false 19 (.aF) [.t 1],
 .g 18 false 20 (.aZ) [.t 19],
 .g 18 false 21 (.aj .gtr) [.t 20, .k (.int .i64 100)],
 .o 22 .pick [.t 18, .k (.bool true), .t 21],
 .M 14 22])
 (.cond (.t 14) (.seq (.region 0 [.o 23 (.ah bM) [.k (.int .i64 2)],
 .C 4 (.aK),
 .M 5 23])
 (.RD [4, 5] .ret))
 (.seq (.region 0 [.M 25 0,
 .o 26 (.ah fA) [.t 25, .k (.func B_ [])],
 .M 24 26])
 (.cond (.t 24) (.seq (.region 0 [.o 27 (.ah bM) [.k (.int .i64 1)],
 .C 4 (.aK),
 .M 5 27])
 (.RD [4, 5] .ret))
 (.seq (.region 0 [.M 29 1,
 .o 30 (.ah iC) [.t 29, .k (.func Cb [])],
 .M 28 30])
 (.cond (.t 28) (.seq (.region 0 [.o 31 (.ah bM) [.k (.int .i64 4)],
 .C 4 (.aK),
 .M 5 31])
 (.RD [4, 5] .ret))
 .skip)))))))
 (.seq (.region 2 [.o 32 (.Z5 0) [],
 .o 33 (.build [.uI] [(0, 1)]) [.t 32],
 .o 34 (.box 1) [.t 33],
 .M 6 34])
 (.seq (.seq (.region 0 [.M 35 1,
 .o 36 .aZ [.t 35],
 .C 37 (.int .i64 0)])
 (.block 1 (.loop [0, 6, 35, 36, 37] [0, 6] vM)))
 (.seq (.seq (.region 0 [.M 47 0,
 .o 48 .aZ [.t 47],
 .C 49 (.int .i64 0)])
 (.block 3 (.loop [6, 47, 48, 49] [6] tq)))
 (.seq (.region 0 [.M 70 6,
 .M 4 70,
 .C 5 (.aB)])
 (.RD [4, 5] .ret)))))))⟩
def agW : EF := ⟨[0, 1, 2], [.tmp 6, .tmp 7], (.seq (.region 0 [.C 6 (.int .i64 0),
 .C 7 (.aB)])
 (.seq (.seq (.region 0 [.M 9 2,
 .o 10 (.aj .lss) [.t 9, .k (.int .i64 0)],
 .M 11 10,
 .g 11 false 12 (.aF) [.t 2],
 .g 11 false 13 (.aj .gtr) [.t 12, .k (.int .i64 4)],
 .o 14 .pick [.t 11, .k (.bool true), .t 13]])
 (.cond (.t 14) (.seq (.region 0 [.o 15 (.ah bM) [.k (.int .i64 1)],
 .C 6 (.int .i64 0),
 .M 7 15])
 .ret)
 .skip))
 (.seq (.seq (.region 0 [.M 16 1,
 .o 17 (.ah dK) [.t 16],
 .o 18 (.aj .lss) [.t 17, .k (.int .i64 0)]])
 (.cond (.t 18) (.seq (.region 0 [.o 19 (.ah bM) [.k (.int .i64 4)],
 .C 6 (.int .i64 0),
 .M 7 19])
 .ret)
 .skip))
 (.seq (.region 0 [.M 20 1,
 .M 8 20])
 (.seq (.seq (.region 0 [.M 21 2])
 (.join [8] (.block 0 (.seq (.join [0, 1, 8] (.block 4 (.seq (.block 3 (.seq (.join [0, 1, 8] (.block 2 (.seq (.block 1 (.seq (.seq (.seq (.region 0 [.o 23 (.aj .eql) [.t 21, .k (.int .i64 2)],
 .M 22 23])
 (.cond (.t 22) (.exit 1)
 .skip))
 (.seq (.seq (.region 0 [.o 25 (.aj .eql) [.t 21, .k (.int .i64 3)],
 .M 24 25])
 (.cond (.t 24) (.exit 2)
 .skip))
 (.seq (.seq (.region 0 [.o 27 (.aj .eql) [.t 21, .k (.int .i64 4)],
 .M 26 27])
 (.cond (.t 26) (.exit 3)
 .skip))
 (.seq (.region 0 [.o 29 (.aj .eql) [.t 21, .k (.int .i64 1)],
 .M 28 29])
 (.cond (.t 28) (.exit 4)
 .skip)))))
 (.exit 0)))
 (.seq (.region 0 [.M 30 0,
 .M 31 1,
 .o 32 (.ah qK) [.t 30, .t 31, .k (.int .i64 1)],
 .M 8 32])
 (.seq (.region 0 [.M 33 8,
 .M 34 1,
 .o 35 (.ah zl) [.t 33, .t 34]])
 (.cond (.t 35) (.exit 0)
 .skip))))))
 (.seq (.region 0 [.M 36 0,
 .M 37 1,
 .o 38 (.ah qK) [.t 36, .t 37, .k (.int .i64 (-1))],
 .M 8 38])
 (.exit 0))))
 (.seq (.region 0 [.M 39 0,
 .M 40 1,
 .o 41 (.ah qK) [.t 39, .t 40, .k (.int .i64 (-1))],
 .M 8 41])
 (.seq (.region 0 [.M 42 8,
 .M 43 1,
 .o 44 (.ah zl) [.t 42, .t 43]])
 (.cond (.t 44) (.exit 0)
 .skip))))))
 (.seq (.region 0 [.M 45 0,
 .M 46 1,
 .o 47 (.ah qK) [.t 45, .t 46, .k (.int .i64 1)],
 .M 8 47])
 (.exit 0))))))
 (.seq (.seq (.region 0 [.M 48 8,
 .o 49 (.aj .eql) [.t 48, .k (.int .i64 (-1))]])
 (.cond (.t 49) (.seq (.region 0 [.o 50 (.ah bM) [.k (.int .i64 4)],
 .C 6 (.int .i64 0),
 .M 7 50])
 .ret)
 .skip))
 (.seq (.region 0 [.M 51 8,
 .M 6 51,
 .C 7 (.aB)])
 .ret)))))))⟩
def NY : EF := ⟨[], [.tmp 0], (.seq (.region 0 [.C 0 (.int .i64 0)])
 (.seq (.region 0 [.C 0 (.int .i64 1)])
 .ret))⟩
def QD : EF := ⟨[], [.tmp 0], (.seq (.region 0 [.C 0 (.bool false)])
 (.seq (.region 0 [.o 1 (.ah pR) [],
 .M 0 1])
 .ret))⟩
def ae2 : EF := ⟨[0], [.tmp 2], (.seq (.region 0 [.C 2 (.str [])])
 (.seq (.region 1 [.M 6 0,
 .o 7 (.ah eF) [.t 6],
 .M 5 7,
 .o 8 (.ext 0) [.t 5],
 .o 9 (.ext 1) [.t 5],
 .o 3 (.alloc 0 [.int .i64 0, .int .i64 0, .int .i64 0]) [],
 ⟨.store 3, [.t 3, .t 8], none, none⟩,
 .M 4 9])
 (.seq (.seq (.region 0 [.M 10 4,
 .o 11 (.eqN true true) [.t 10, .k (.aB)]])
 (.cond (.t 11) (.seq (.region 0 [.C 2 (.str [])])
 .ret)
 .skip))
 (.seq (.drawn 0 [(0, .o 12 (.ay 0) [.t 3]),
 (1, .o 13 .ak [.t 12]),
 (2, .o 14 (.ah uy) [.t 13, .k (.int .i64 4)]),
 (3, .o 15 (.dP .add) [.t 14, .k (.str [45])]),
 (4, .o 16 (.ay 1) [.t 3]),
 (5, .o 17 .ak [.t 16]),
 (6, .o 18 (.ah uy) [.t 17, .k (.int .i64 2)]),
 (7, .o 19 (.dP .add) [.t 15, .t 18]),
 (8, .o 20 (.dP .add) [.t 19, .k (.str [45])]),
 (9, .o 21 (.ay 2) [.t 3]),
 (10, .o 22 .ak [.t 21]),
 (11, .o 23 (.ah uy) [.t 22, .k (.int .i64 2)]),
 (12, .o 24 (.dP .add) [.t 20, .t 23]),
 (13, .M 2 24)])
 .ret))))⟩
def YL : EF := ⟨[0, 1], [.tmp 4], (.seq (.region 0 [.C 4 (.bool false)])
 (.seq (.seq (.region 0 [.M 5 1,
 .o 6 (.ah dK) [.t 5]])
 (.join [0, 1, 4] (.block 0 (.seq (.seq (.region 0 [.o 8 (.aj .eql) [.t 6, .k (.int .i64 (-1))],
 .M 7 8])
 (.join [0, 1, 7] (.cond (.t 7) .skip
 (.seq (.region 0 [.o 9 (.aj .eql) [.t 6, .k (.int .i64 0)],
 .M 7 9])
 (.join [0, 1, 7] (.cond (.t 7) .skip
 (.region 0 [.o 10 (.aj .eql) [.t 6, .k (.int .i64 6)],
 .M 7 10])))))))
 (.cond (.t 7) (.seq (.region 0 [.C 4 (.bool false)])
 .ret)
 .skip)))))
 (.seq (.region 0 [.M 11 0,
 .o 12 (.r_ false) [.t 11, .k (.aK)],
 .M 13 12,
 .g 13 false 14 (.aF) [.t 0],
 .g 13 false 15 (.kN) [.t 14],
 .g 13 false 16 (.ay 0) [.t 15],
 .g 13 false 17 (.ak) [.t 16],
 .g 13 false 18 (.aF) [.t 1],
 .g 13 false 19 (.Sl) [.t 17, .t 18],
 .g 13 false 20 (.not) [.t 19],
 .o 21 .pick [.t 13, .k (.bool true), .t 20],
 .M 4 21])
 .ret)))⟩
def Xt : EC := (.seq (.seq (.region 0 [.M 20 7,
 .o 21 (.ay 0) [.t 5],
 .o 22 .ak [.t 21],
 .o 23 (.aj .add) [.t 22, .k (.int .i64 1)],
 .o 24 (.aj .leq) [.t 20, .t 23]])
 (.cond (.t 24) .skip
 (.exit 0)))
 (.seq (.block 1 (.seq (.region 0 [.o 28 (.aN 6) [.t 2],
 .M 29 7,
 .o 30 (.ah x9) [.t 28, .t 29],
 .M 27 30,
 .o 31 (.ext 0) [.t 27],
 .o 32 (.ext 1) [.t 27],
 .M 8 31,
 .M 9 32])
 (.seq (.region 0 [.M 33 9,
 .M 34 33,
 .g 34 true 35 (.aF) [.t 8],
 .g 34 true 36 (.aF) [.t 1],
 .g 34 true 37 (.aj .eql) [.t 35, .t 36],
 .o 38 .pick [.t 34, .t 37, .k (.bool false)]])
 (.cond (.t 38) (.seq (.region 0 [.C 4 (.bool true)])
 .ret)
 .skip))))
 (.region 0 [.M 25 7,
 .o 26 (.aj .add) [.t 25, .k (.int .i64 1)],
 .M 7 26])))
def aiz : EF := ⟨[0, 1], [.tmp 4], (.seq (.region 1 [.o 2 (.box 0) [.t 0],
 .C 4 (.bool false)])
 (.seq (.region 1 [.M 11 1,
 .o 12 (.ah eF) [.t 11],
 .M 10 12,
 .o 13 (.ext 0) [.t 10],
 .o 14 (.ext 1) [.t 10],
 .o 5 (.alloc 0 [.int .i64 0, .int .i64 0, .int .i64 0]) [],
 ⟨.store 3, [.t 5, .t 13], none, none⟩,
 .M 6 14])
 (.seq (.seq (.region 0 [.M 15 6,
 .o 16 (.eqN true true) [.t 15, .k (.aB)]])
 (.cond (.t 16) (.seq (.region 0 [.C 4 (.bool false)])
 .ret)
 .skip))
 (.seq (.seq (.region 0 [.o 17 (.ay 0) [.t 5],
 .o 18 .ak [.t 17],
 .o 19 (.aj .sub) [.t 18, .k (.int .i64 1)],
 .M 7 19])
 (.block 0 (.loop [1, 2, 5, 7] [4] Xt)))
 (.seq (.region 0 [.C 4 (.bool false)])
 .ret)))))⟩
def jf : EC := (.seq (.seq (.region 0 [.M 10 4,
 .o 11 .aZ [.t 10],
 .o 12 (.aj .gtr) [.t 11, .k (.int .i64 0)]])
 (.cond (.t 12) .skip
 (.exit 0)))
 (.join [3, 4] (.block 1 (.seq (.region 0 [.C 5 (.int .u64 0)])
 (.seq (.region 0 [.M 14 4,
 .o 15 (.nN t_) [.t 14, .k (.int .u64 1000000000000000000)],
 .M 13 15,
 .o 16 (.ext 0) [.t 13],
 .o 17 (.ext 1) [.t 13],
 .M 4 16,
 .M 5 17])
 (.seq (.region 0 [.M 18 4,
 .o 19 (.nN dX) [.t 18],
 .o 20 .kN [.t 19],
 .o 21 (.ay 0) [.t 20],
 .o 22 .ak [.t 21],
 .M 4 22])
 (.seq (.region 0 [.M 23 5,
 .o 24 (.ah d_) [.t 23, .k (.int .i64 10)],
 .M 6 24])
 (.seq (.seq (.region 0 [.M 25 4,
 .o 26 .aZ [.t 25],
 .o 27 (.aj .gtr) [.t 26, .k (.int .i64 0)]])
 (.join [3, 4, 6] (.cond (.t 27) (.region 0 [.M 28 6,
 .o 29 .mD [.t 28],
 .o 30 (.aj .sub) [.k (.int .i64 18), .t 29],
 .o 31 (.ah strings_Repeat) [.k (.str [48]), .t 30],
 .M 32 6,
 .o 33 (.dP .add) [.t 31, .t 32],
 .M 6 33])
 .skip)))
 (.region 1 [.M 34 3,
 .M 35 6,
 .o 36 (.xW 1 1 [.str []] [(0, 1)]) [.t 35],
 .o 37 (.app 0 1) [.t 34, .t 36],
 .M 3 37])))))))))
def yU : EF := ⟨[0], [.tmp 2], (.seq (.region 0 [.C 2 (.str [])])
 (.seq (.region 0 [.C 3 (.bK)])
 (.seq (.seq (.region 0 [.M 7 0,
 .o 8 (.ah bP) [.t 7],
 .o 9 (.aY cZ) [.t 8],
 .M 4 9])
 (.block 0 (.loop [3, 4] [3] jf)))
 (.seq (.seq (.region 0 [.M 38 3,
 .o 39 .aZ [.t 38],
 .o 40 (.aj .eql) [.t 39, .k (.int .i64 0)]])
 (.cond (.t 40) (.seq (.region 0 [.C 2 (.str [48])])
 .ret)
 .skip))
 (.seq (.region 0 [.M 41 3,
 .o 42 (.aY slices_Reverse_string) [.t 41]])
 (.seq (.region 0 [.M 43 3,
 .o 44 (.nN strings_Join) [.t 43, .k (.str [])],
 .M 2 44])
 .ret))))))⟩
def Ls : EF := ⟨[0], [.tmp 2, .tmp 3, .tmp 4], (.seq (.region 0 [.C 2 (.aK),
 .C 3 (.int .i64 0),
 .C 4 (.aB)])
 (.seq (.region 0 [.M 19 0,
 .o 20 (.ah strings_CutPrefix) [.t 19, .k (.str [45])],
 .M 18 20,
 .o 21 (.ext 0) [.t 18],
 .o 22 (.ext 1) [.t 18],
 .M 5 21,
 .M 6 22])
 (.seq (.region 0 [.M 24 5,
 .o 25 (.ah strings_Cut) [.t 24, .k (.str [46])],
 .M 23 25,
 .o 26 (.ext 0) [.t 23],
 .o 27 (.ext 1) [.t 23],
 .o 28 (.ext 2) [.t 23],
 .M 7 26,
 .M 8 27,
 .M 9 28])
 (.seq (.region 0 [.M 29 0,
 .o 30 .mD [.t 29],
 .o 31 (.aj .gtr) [.t 30, .k (.int .i64 60)],
 .M 32 31,
 .g 32 false 33 (.aF) [.t 9],
 .g 32 false 34 (.aF) [.t 33],
 .g 34 true 35 (.aF) [.t 8],
 .g 34 true 36 (.dP .eql) [.t 35, .k (.str [])],
 .g 34 true 37 (.aF) [.t 36],
 .g 37 false 38 (.aF) [.t 8],
 .g 37 false 39 (.mD) [.t 38],
 .g 37 false 40 (.aj .gtr) [.t 39, .k (.int .i64 20)],
 .g 34 true 41 (.pick) [.t 37, .k (.bool true), .t 40],
 .g 34 true 42 (.aF) [.t 41],
 .g 42 false 43 (.aF) [.t 8],
 .g 42 false 44 (.ah jy) [.t 43, .k (.str [48, 49, 50, 51, 52, 53, 54, 55, 56, 57])],
 .g 42 false 45 (.dP .neq) [.t 44, .k (.str [])],
 .g 34 true 46 (.pick) [.t 42, .k (.bool true), .t 45],
 .g 32 false 47 (.pick) [.t 34, .t 46, .k (.bool false)],
 .o 48 .pick [.t 32, .k (.bool true), .t 47],
 .M 10 48])
 (.seq (.region 0 [.M 50 7,
 .o 51 (.ah jS) [.t 50],
 .M 49 51,
 .o 52 (.ext 0) [.t 49],
 .o 53 (.ext 1) [.t 49],
 .M 11 52,
 .M 12 53])
 (.seq (.seq (.region 0 [.M 54 10,
 .M 55 54,
 .g 55 false 56 (.aF) [.t 12],
 .g 55 false 57 (.eqN true true) [.t 56, .k (.aB)],
 .o 58 .pick [.t 55, .k (.bool true), .t 57]])
 (.cond (.t 58) (.seq (.region 0 [.o 59 (.ah bM) [.k (.int .i64 1)],
 .C 2 (.aK),
 .C 3 (.int .i64 0),
 .M 4 59])
 .ret)
 .skip))
 (.seq (.region 0 [.o 61 (.ah jS) [.k (.str [48])],
 .M 60 61,
 .o 62 (.ext 0) [.t 60],
 .o 63 (.ext 1) [.t 60],
 .M 13 62,
 .M 14 63])
 (.seq (.seq (.region 0 [.M 64 7,
 .M 65 8,
 .o 66 (.dP .add) [.t 64, .t 65],
 .o 67 (.ah f_) [.t 66, .k (.str [48])],
 .M 15 67])
 (.seq (.region 0 [.M 68 15,
 .o 69 (.dP .neq) [.t 68, .k (.str [])]])
 (.join [6, 8, 13] (.cond (.t 69) (.region 0 [.M 71 15,
 .o 72 (.ah jS) [.t 71],
 .M 70 72,
 .o 73 (.ext 0) [.t 70],
 .o 74 (.ext 1) [.t 70],
 .M 13 73])
 .skip))))
 (.seq (.seq (.region 0 [.M 75 6,
 .M 76 75,
 .g 76 true 77 (.aF) [.t 13],
 .g 76 true 78 (.ah dR) [.t 77],
 .o 79 .pick [.t 76, .t 78, .k (.bool false)]])
 (.cond (.t 79) (.seq (.region 0 [.o 80 (.ah bM) [.k (.int .i64 1)],
 .C 2 (.aK),
 .C 3 (.int .i64 0),
 .M 4 80])
 .ret)
 .skip))
 (.seq (.region 0 [.M 82 6,
 .M 83 13,
 .o 84 (.ah fG) [.t 82, .t 83],
 .M 85 8,
 .o 86 .mD [.t 85],
 .o 87 (.ah Cj) [.t 86],
 .o 88 (.ah lS) [.t 84, .t 87],
 .M 81 88,
 .o 89 (.ext 0) [.t 81],
 .o 90 (.ext 1) [.t 81],
 .M 16 89,
 .M 17 90])
 (.seq (.region 0 [.M 91 16,
 .M 92 8,
 .o 93 .mD [.t 92],
 .M 2 91,
 .M 3 93,
 .C 4 (.aB)])
 .ret)))))))))))⟩
def AP : EF := ⟨[0, 1], [.tmp 4], (.seq (.region 0 [.C 4 (.aK)])
 (.seq (.region 0 [.M 5 0,
 .M 6 1,
 .o 7 (.ah kY) [.t 6],
 .o 8 (.ah eX) [.t 5, .t 7],
 .M 4 8])
 .ret))⟩
def Ed : EC := (.seq (.seq (.region 0 [.M 35 7,
 .M 36 5,
 .o 37 (.aj .lss) [.t 35, .t 36]])
 (.cond (.t 37) .skip
 (.exit 2)))
 (.seq (.block 3 (.seq (.seq (.region 0 [.M 40 0,
 .M 41 7,
 .o 42 .zD [.t 40, .t 41],
 .o 43 (.aj .lss) [.t 42, .k (.int .u8 48)],
 .M 44 43,
 .g 44 false 45 (.aF) [.t 0],
 .g 44 false 46 (.aF) [.t 7],
 .g 44 false 47 (.zD) [.t 45, .t 46],
 .g 44 false 48 (.aj .gtr) [.t 47, .k (.int .u8 57)],
 .o 49 .pick [.t 44, .k (.bool true), .t 48]])
 (.cond (.t 49) (.seq (.region 0 [.C 2 (.bK),
 .C 3 (.bool false)])
 .ret)
 .skip))
 (.region 0 [.M 50 6,
 .o 51 (.aj .mul) [.t 50, .k (.int .u64 10)],
 .M 52 0,
 .M 53 7,
 .o 54 .zD [.t 52, .t 53],
 .o 55 (.aj .sub) [.t 54, .k (.int .u8 48)],
 .o 56 (.conv .u64) [.t 55],
 .o 57 (.aj .add) [.t 51, .t 56],
 .M 6 57])))
 (.region 0 [.M 38 7,
 .o 39 (.aj .add) [.t 38, .k (.int .i64 1)],
 .M 7 39])))
def Ee : EC := (.seq (.seq (.region 0 [.M 28 5,
 .o 29 (.aj .gtr) [.t 28, .k (.int .i64 0)]])
 (.cond (.t 29) .skip
 (.exit 0)))
 (.seq (.block 1 (.seq (.region 0 [.C 6 (.int .u64 0)])
 (.seq (.seq (.region 0 [.M 32 5,
 .o 33 (.aj .sub) [.t 32, .k (.int .i64 9)],
 .o 34 .mx [.t 33, .k (.int .i64 0)],
 .M 7 34])
 (.block 2 (.loop [0, 4, 5, 6, 7] [0, 2, 3, 4, 5, 6] Ed)))
 (.region 1 [.M 58 4,
 .M 59 6,
 .o 60 (.xW 1 1 [.int .u64 0] [(0, 1)]) [.t 59],
 .o 61 (.app 0 1) [.t 58, .t 60],
 .M 4 61]))))
 (.region 0 [.M 30 5,
 .o 31 (.aj .sub) [.t 30, .k (.int .i64 9)],
 .M 5 31])))
def Rw : EF := ⟨[0], [.tmp 2, .tmp 3], (.seq (.region 0 [.C 2 (.bK),
 .C 3 (.bool false)])
 (.seq (.seq (.region 0 [.M 8 0,
 .o 9 .mD [.t 8],
 .o 10 (.aj .lss) [.t 9, .k (.int .i64 1)],
 .M 11 10,
 .g 11 false 12 (.aF) [.t 0],
 .g 11 false 13 (.mD) [.t 12],
 .g 11 false 14 (.aj .gtr) [.t 13, .k (.int .i64 4000)],
 .o 15 .pick [.t 11, .k (.bool true), .t 14],
 .M 16 15,
 .g 16 false 17 (.aF) [.t 0],
 .g 16 false 18 (.mD) [.t 17],
 .g 16 false 19 (.aj .gtr) [.t 18, .k (.int .i64 1)],
 .g 16 false 20 (.aF) [.t 19],
 .g 20 true 21 (.aF) [.t 0],
 .g 20 true 22 (.zD) [.t 21, .k (.int .i64 0)],
 .g 20 true 23 (.aj .eql) [.t 22, .k (.int .u8 48)],
 .g 16 false 24 (.pick) [.t 20, .t 23, .k (.bool false)],
 .o 25 .pick [.t 16, .k (.bool true), .t 24]])
 (.cond (.t 25) (.seq (.region 0 [.C 2 (.bK),
 .C 3 (.bool false)])
 .ret)
 .skip))
 (.seq (.region 0 [.C 4 (.bK)])
 (.seq (.seq (.region 0 [.M 26 0,
 .o 27 .mD [.t 26],
 .M 5 27])
 (.block 0 (.loop [0, 4, 5] [2, 3, 4] Ee)))
 (.seq (.region 0 [.M 62 4,
 .o 63 (.nN kD) [.t 62],
 .M 2 63,
 .C 3 (.bool true)])
 .ret)))))⟩
def Gp : EC := (.seq (.seq (.region 0 [.M 8 7,
 .M 9 0,
 .o 10 .aZ [.t 9],
 .o 11 (.aj .lss) [.t 8, .t 10],
 .M 12 11,
 .g 12 false 13 (.aF) [.t 7],
 .g 12 false 14 (.aF) [.t 1],
 .g 12 false 15 (.aZ) [.t 14],
 .g 12 false 16 (.aj .lss) [.t 13, .t 15],
 .o 17 .pick [.t 12, .k (.bool true), .t 16],
 .M 18 17,
 .g 18 false 19 (.aF) [.t 6],
 .g 18 false 20 (.aj .gtr) [.t 19, .k (.int .u64 0)],
 .o 21 .pick [.t 18, .k (.bool true), .t 20]])
 (.cond (.t 21) .skip
 (.exit 0)))
 (.seq (.join [0, 1, 5, 6, 7] (.block 1 (.seq (.seq (.region 0 [.M 24 7,
 .M 25 0,
 .o 26 .aZ [.t 25],
 .o 27 (.aj .lss) [.t 24, .t 26]])
 (.join [0, 1, 5, 6, 7] (.cond (.t 27) (.region 0 [.M 28 6,
 .M 29 0,
 .M 30 7,
 .o 31 (.aQ 1) [.t 29, .t 30],
 .o 32 .ak [.t 31],
 .o 33 (.aj .add) [.t 28, .t 32],
 .M 6 33])
 .skip)))
 (.seq (.seq (.region 0 [.M 34 7,
 .M 35 1,
 .o 36 .aZ [.t 35],
 .o 37 (.aj .lss) [.t 34, .t 36]])
 (.join [0, 1, 5, 6, 7] (.cond (.t 37) (.region 0 [.M 38 6,
 .M 39 1,
 .M 40 7,
 .o 41 (.aQ 1) [.t 39, .t 40],
 .o 42 .ak [.t 41],
 .o 43 (.aj .add) [.t 38, .t 42],
 .M 6 43])
 .skip)))
 (.seq (.region 1 [.M 44 5,
 .M 45 6,
 .o 46 (.aj .rem) [.t 45, .k (.int .u64 1000000000)],
 .o 47 (.xW 1 1 [.int .u64 0] [(0, 1)]) [.t 46],
 .o 48 (.app 0 1) [.t 44, .t 47],
 .M 5 48])
 (.region 0 [.M 49 6,
 .o 50 (.aj .quo) [.t 49, .k (.int .u64 1000000000)],
 .M 6 50]))))))
 (.region 0 [.M 22 7,
 .o 23 (.aj .add) [.t 22, .k (.int .i64 1)],
 .M 7 23])))
def Uk : EF := ⟨[0, 1], [.tmp 4], (.seq (.region 0 [.C 4 (.bK)])
 (.seq (.region 0 [.C 5 (.bK)])
 (.seq (.region 0 [.C 6 (.int .u64 0)])
 (.seq (.seq (.region 0 [.C 7 (.int .i64 0)])
 (.block 0 (.loop [0, 1, 5, 6, 7] [5] Gp)))
 (.seq (.region 0 [.M 51 5,
 .M 4 51])
 .ret)))))⟩
def Gs : EC := (.seq (.seq (.region 0 [.M 30 8,
 .M 31 1,
 .o 32 .aZ [.t 31],
 .o 33 (.aj .lss) [.t 30, .t 32],
 .M 34 33,
 .g 34 false 35 (.aF) [.t 7],
 .g 34 false 36 (.aj .gtr) [.t 35, .k (.int .u64 0)],
 .o 37 .pick [.t 34, .k (.bool true), .t 36]])
 (.cond (.t 37) .skip
 (.exit 2)))
 (.seq (.join [0, 1, 5, 6, 7, 8] (.block 3 (.seq (.region 0 [.M 40 5,
 .M 41 6,
 .M 42 8,
 .o 43 (.aj .add) [.t 41, .t 42],
 .o 44 (.aQ 1) [.t 40, .t 43],
 .o 45 .ak [.t 44],
 .M 46 7,
 .o 47 (.aj .add) [.t 45, .t 46],
 .M 9 47])
 (.seq (.seq (.region 0 [.M 48 8,
 .M 49 1,
 .o 50 .aZ [.t 49],
 .o 51 (.aj .lss) [.t 48, .t 50]])
 (.join [0, 1, 5, 6, 8, 9] (.cond (.t 51) (.drawn 0 [(0, .M 52 9),
 (1, .M 53 0),
 (2, .M 54 6),
 (3, .o 55 (.aQ 1) [.t 53, .t 54]),
 (4, .o 56 .ak [.t 55]),
 (5, .M 57 1),
 (6, .M 58 8),
 (7, .o 59 (.aQ 1) [.t 57, .t 58]),
 (8, .o 60 .ak [.t 59]),
 (9, .o 61 (.aj .mul) [.t 56, .t 60]),
 (10, .o 62 (.aj .add) [.t 52, .t 61]),
 (11, .M 9 62)])
 .skip)))
 (.seq (.region 0 [.M 63 5,
 .M 64 6,
 .M 65 8,
 .o 66 (.aj .add) [.t 64, .t 65],
 .M 67 9,
 .o 68 (.aj .rem) [.t 67, .k (.int .u64 1000000000)],
 .o 69 (.aQ 1) [.t 63, .t 66],
 ⟨.store 1, [.t 69, .t 68], none, none⟩])
 (.region 0 [.M 70 9,
 .o 71 (.aj .quo) [.t 70, .k (.int .u64 1000000000)],
 .M 7 71]))))))
 (.region 0 [.M 38 8,
 .o 39 (.aj .add) [.t 38, .k (.int .i64 1)],
 .M 8 39])))
def Gt : EC := (.seq (.seq (.region 0 [.M 24 6,
 .M 25 0,
 .o 26 .aZ [.t 25],
 .o 27 (.aj .lss) [.t 24, .t 26]])
 (.cond (.t 27) .skip
 (.exit 0)))
 (.seq (.block 1 (.seq (.region 0 [.C 7 (.int .u64 0)])
 (.seq (.region 0 [.C 8 (.int .i64 0)])
 (.block 2 (.loop [0, 1, 5, 6, 7, 8] [0, 1, 5, 6] Gs)))))
 (.region 0 [.M 28 6,
 .o 29 (.aj .add) [.t 28, .k (.int .i64 1)],
 .M 6 29])))
def Un : EF := ⟨[0, 1], [.tmp 4], (.seq (.region 0 [.C 4 (.sl 0 [])])
 (.seq (.seq (.region 0 [.M 10 0,
 .o 11 .aZ [.t 10],
 .o 12 (.aj .eql) [.t 11, .k (.int .i64 0)],
 .M 13 12,
 .g 13 false 14 (.aF) [.t 1],
 .g 13 false 15 (.aZ) [.t 14],
 .g 13 false 16 (.aj .eql) [.t 15, .k (.int .i64 0)],
 .o 17 .pick [.t 13, .k (.bool true), .t 16]])
 (.cond (.t 17) (.seq (.region 0 [.C 4 (.sl 0 [])])
 .ret)
 .skip))
 (.seq (.region 1 [.M 18 0,
 .o 19 .aZ [.t 18],
 .M 20 1,
 .o 21 .aZ [.t 20],
 .o 22 (.aj .add) [.t 19, .t 21],
 .o 23 (.zG 0 1 [.int .u64 0]) [.t 22, .t 22],
 .M 5 23])
 (.seq (.seq (.region 0 [.C 6 (.int .i64 0)])
 (.block 0 (.loop [0, 1, 5, 6] [5] Gt)))
 (.seq (.region 0 [.M 72 5,
 .o 73 (.nN kD) [.t 72],
 .M 4 73])
 .ret)))))⟩
def Gu : EC := (.seq (.seq (.region 0 [.M 4 0,
 .o 5 (.aj .gtr) [.t 4, .k (.int .u64 0)]])
 (.cond (.t 5) .skip
 (.exit 0)))
 (.seq (.block 1 (.region 1 [.M 8 3,
 .M 9 0,
 .o 10 (.aj .rem) [.t 9, .k (.int .u64 1000000000)],
 .o 11 (.xW 1 1 [.int .u64 0] [(0, 1)]) [.t 10],
 .o 12 (.app 0 1) [.t 8, .t 11],
 .M 3 12]))
 (.region 0 [.M 6 0,
 .o 7 (.aj .quo) [.t 6, .k (.int .u64 1000000000)],
 .M 0 7])))
def Uo : EF := ⟨[0], [.tmp 2], (.seq (.region 0 [.C 2 (.bK)])
 (.seq (.region 0 [.C 3 (.bK)])
 (.seq (.block 0 (.loop [0, 3] [3] Gu))
 (.seq (.region 0 [.M 13 3,
 .M 2 13])
 .ret))))⟩
def Gv : EC := (.seq (.seq (.region 0 [.M 8 6,
 .M 9 1,
 .o 10 (.aj .lss) [.t 8, .t 9]])
 (.cond (.t 10) .skip
 (.exit 0)))
 (.seq (.block 1 (.region 0 [.M 13 5,
 .M 14 0,
 .o 15 (.ah lJ) [.t 13, .t 14],
 .M 5 15]))
 (.region 0 [.M 11 6,
 .o 12 (.aj .add) [.t 11, .k (.int .i64 1)],
 .M 6 12])))
def Ur : EF := ⟨[0, 1], [.tmp 4], (.seq (.region 0 [.C 4 (.sl 0 [])])
 (.seq (.region 0 [.o 7 (.ah fM) [.k (.int .u64 1)],
 .M 5 7])
 (.seq (.seq (.region 0 [.C 6 (.int .i64 0)])
 (.block 0 (.loop [0, 1, 5, 6] [5] Gv)))
 (.seq (.region 0 [.M 16 5,
 .M 4 16])
 .ret))))⟩
def Vs : EF := ⟨[0], [.cell 2 true 2], (.seq (.region 1 [.o 2 (.alloc 0 [.bool false, .sl 0 []]) []])
 (.seq (.seq (.region 0 [.M 3 0,
 .o 4 (.aj .lss) [.t 3, .k (.int .i64 0)]])
 (.cond (.t 4) (.seq (.region 0 [.M 5 0,
 .o 6 (.aj .add) [.t 5, .k (.int .i64 1)],
 .o 7 .neg [.t 6],
 .o 8 (.conv .u64) [.t 7],
 .o 9 (.aj .add) [.t 8, .k (.int .u64 1)],
 .o 10 (.ah fM) [.t 9],
 .o 11 (.build [.bool false, .sl 0 []] [(0, 1), (1, 1)]) [.k (.bool true), .t 10],
 ⟨.store 2, [.t 2, .t 11], none, none⟩])
 .ret)
 .skip))
 (.seq (.region 0 [.M 12 0,
 .o 13 (.conv .u64) [.t 12],
 .o 14 (.ah fM) [.t 13],
 .o 15 (.build [.bool false, .sl 0 []] [(0, 1), (1, 1)]) [.k (.bool false), .t 14],
 ⟨.store 2, [.t 2, .t 15], none, none⟩])
 .ret)))⟩
def Ru : EF := ⟨[0, 1], [.tmp 4], (.seq (.region 2 [.o 2 (.box 0) [.t 0],
 .o 3 (.box 1) [.t 1],
 .C 4 (.int .i64 0)])
 (.seq (.drawn 1 [(0, .o 6 (.aN 2) [.t 2]),
 (1, .o 7 (.aN 2) [.t 3]),
 (2, .o 8 (.ah pW) [.t 7]),
 (3, .o 9 (.ah rP) [.t 6, .t 8]),
 (4, .o 5 (.alloc 0 [.bool false, .sl 0 []]) []),
 (5, ⟨.store 2, [.t 5, .t 9], none, none⟩)])
 (.seq (.block 0 (.seq (.region 0 [.o 11 (.ay 1) [.t 5],
 .o 12 .ak [.t 11],
 .o 13 .aZ [.t 12],
 .o 14 (.aj .eql) [.t 13, .k (.int .i64 0)],
 .M 10 14])
 (.cond (.t 10) (.seq (.region 0 [.C 4 (.int .i64 0)])
 .ret)
 (.seq (.region 0 [.o 16 (.ay 0) [.t 5],
 .o 17 .ak [.t 16],
 .M 15 17])
 (.cond (.t 15) (.seq (.region 0 [.C 4 (.int .i64 (-1))])
 .ret)
 .skip)))))
 (.seq (.region 0 [.C 4 (.int .i64 1)])
 .ret))))⟩
def QJ : EF := ⟨[0, 1], [.cell 4 true 2], (.seq (.region 3 [.o 2 (.box 0) [.t 0],
 .o 3 (.box 1) [.t 1],
 .o 4 (.alloc 2 [.bool false, .sl 0 []]) []])
 (.seq (.drawn 0 [(0, .o 5 (.ay 0) [.t 2]),
 (1, .o 6 .ak [.t 5]),
 (2, .o 7 (.ay 0) [.t 3]),
 (3, .o 8 .ak [.t 7]),
 (4, .o 9 (.U1 true) [.t 6, .t 8]),
 (5, .o 10 (.ay 1) [.t 2]),
 (6, .o 11 .ak [.t 10]),
 (7, .o 12 (.ay 1) [.t 3]),
 (8, .o 13 .ak [.t 12]),
 (9, .o 14 (.ah lJ) [.t 11, .t 13]),
 (10, .o 15 (.ah jh) [.t 9, .t 14]),
 (11, ⟨.store 2, [.t 4, .t 15], none, none⟩)])
 .ret))⟩
def aiA : EF := ⟨[0], [.tmp 2, .tmp 3], (.seq (.region 0 [.C 2 (.aK),
 .C 3 (.aB)])
 (.seq (.region 0 [.M 9 0,
 .o 10 (.ah strings_CutPrefix) [.t 9, .k (.str [45])],
 .M 8 10,
 .o 11 (.ext 0) [.t 8],
 .o 12 (.ext 1) [.t 8],
 .M 4 11,
 .M 5 12])
 (.seq (.region 0 [.M 14 4,
 .o 15 (.ah jS) [.t 14],
 .M 13 15,
 .o 16 (.ext 0) [.t 13],
 .o 17 (.ext 1) [.t 13],
 .M 6 16,
 .M 7 17])
 (.seq (.seq (.region 0 [.M 18 7,
 .o 19 (.eqN true true) [.t 18, .k (.aB)],
 .M 20 19,
 .g 20 false 21 (.aF) [.t 5],
 .g 20 false 22 (.aF) [.t 21],
 .g 22 true 23 (.aF) [.t 6],
 .g 22 true 24 (.ah dR) [.t 23],
 .g 20 false 25 (.pick) [.t 22, .t 24, .k (.bool false)],
 .o 26 .pick [.t 20, .k (.bool true), .t 25]])
 (.cond (.t 26) (.seq (.region 0 [.o 27 (.ah bM) [.k (.int .i64 1)],
 .C 2 (.aK),
 .M 3 27])
 .ret)
 .skip))
 (.seq (.region 0 [.M 28 5,
 .M 29 6,
 .o 30 (.ah fG) [.t 28, .t 29],
 .M 2 30,
 .C 3 (.aB)])
 .ret)))))⟩
def nS : EC := (.seq (.seq (.region 0 [.M 41 0,
 .o 42 (.dP .neq) [.t 41, .k (.str [])]])
 (.cond (.t 42) .skip
 (.exit 0)))
 (.seq (.block 1 (.seq (.region 0 [.M 44 0,
 .M 45 7,
 .o 46 (.Qs false true) [.t 44, .t 45],
 .o 47 (.ah fF) [.t 46, .k (.int .i64 10), .k (.int .i64 64)],
 .M 43 47,
 .o 48 (.ext 0) [.t 43],
 .o 49 (.ext 1) [.t 43],
 .M 8 48,
 .M 9 49])
 (.seq (.region 0 [.M 50 5,
 .M 51 6,
 .o 52 (.ah fV) [.t 50, .t 51],
 .M 53 8,
 .o 54 (.ah fK) [.t 53],
 .o 55 (.ah fQ) [.t 52, .t 54],
 .M 5 55])
 (.region 0 [.M 56 0,
 .M 57 7,
 .o 58 (.Qs true false) [.t 56, .t 57],
 .M 0 58]))))
 (.region 0 [.C 7 (.int .i64 18)])))
def LD : EF := ⟨[0], [.tmp 2, .tmp 3], (.seq (.region 0 [.C 2 (.aK),
 .C 3 (.aB)])
 (.seq (.region 0 [.M 10 0,
 .o 11 (.dP .eql) [.t 10, .k (.str [])],
 .M 12 11,
 .g 12 false 13 (.aF) [.t 0],
 .g 12 false 14 (.mD) [.t 13],
 .g 12 false 15 (.aj .gtr) [.t 14, .k (.int .i64 4000)],
 .o 16 .pick [.t 12, .k (.bool true), .t 15],
 .M 17 16,
 .g 17 false 18 (.aF) [.t 0],
 .g 17 false 19 (.mD) [.t 18],
 .g 17 false 20 (.aj .gtr) [.t 19, .k (.int .i64 1)],
 .g 17 false 21 (.aF) [.t 20],
 .g 21 true 22 (.aF) [.t 0],
 .g 21 true 23 (.zD) [.t 22, .k (.int .i64 0)],
 .g 21 true 24 (.aj .eql) [.t 23, .k (.int .u8 48)],
 .g 17 false 25 (.pick) [.t 21, .t 24, .k (.bool false)],
 .o 26 .pick [.t 17, .k (.bool true), .t 25],
 .M 27 26,
 .g 27 false 28 (.aF) [.t 0],
 .g 27 false 29 (.ah jy) [.t 28, .k (.str [48, 49, 50, 51, 52, 53, 54, 55, 56, 57])],
 .g 27 false 30 (.dP .neq) [.t 29, .k (.str [])],
 .o 31 .pick [.t 27, .k (.bool true), .t 30],
 .M 4 31])
 (.seq (.seq (.region 0 [.M 32 4])
 (.cond (.t 32) (.seq (.region 0 [.o 33 (.ah bM) [.k (.int .i64 1)],
 .C 2 (.aK),
 .M 3 33])
 .ret)
 .skip))
 (.seq (.region 0 [.o 34 (.ah fK) [.k (.int .u64 0)],
 .o 35 (.ah fK) [.k (.int .u64 1000000000000000000)],
 .M 5 34,
 .M 6 35])
 (.seq (.seq (.region 0 [.M 36 0,
 .o 37 .mD [.t 36],
 .o 38 (.aj .sub) [.t 37, .k (.int .i64 1)],
 .o 39 (.aj .rem) [.t 38, .k (.int .i64 18)],
 .o 40 (.aj .add) [.t 39, .k (.int .i64 1)],
 .M 7 40])
 (.block 0 (.loop [0, 5, 6, 7] [5] nS)))
 (.seq (.region 0 [.M 59 5,
 .M 2 59,
 .C 3 (.aB)])
 .ret))))))⟩
def kW : EC := (.seq (.seq (.region 0 [.M 3 0,
 .o 4 .aZ [.t 3],
 .o 5 (.aj .gtr) [.t 4, .k (.int .i64 0)],
 .M 6 5,
 .g 6 true 7 (.aF) [.t 0],
 .g 6 true 8 (.aF) [.t 0],
 .g 6 true 9 (.aZ) [.t 8],
 .g 6 true 10 (.aj .sub) [.t 9, .k (.int .i64 1)],
 .g 6 true 11 (.aQ 1) [.t 7, .t 10],
 .g 6 true 12 (.ak) [.t 11],
 .g 6 true 13 (.aj .eql) [.t 12, .k (.int .u64 0)],
 .o 14 .pick [.t 6, .t 13, .k (.bool false)]])
 (.cond (.t 14) .skip
 (.exit 0)))
 (.block 1 (.region 0 [.M 15 0,
 .M 16 0,
 .o 17 .aZ [.t 16],
 .o 18 (.aj .sub) [.t 17, .k (.int .i64 1)],
 .o 19 (.Hr 1 false true) [.t 15, .t 18],
 .M 0 19])))
def H_ : EF := ⟨[0], [.tmp 2], (.seq (.region 0 [.C 2 (.aK)])
 (.seq (.block 0 (.loop [0] [0] kW))
 (.seq (.region 1 [.M 20 0,
 .o 21 (.build [.sl 0 []] [(0, 1)]) [.t 20],
 .o 22 (.box 0) [.t 21],
 .M 2 22])
 .ret)))⟩
def xP : EF := ⟨[0], [.tmp 2], (.seq (.region 0 [.C 2 (.sl 0 [])])
 (.seq (.seq (.region 0 [.M 3 0,
 .o 4 (.r_ false) [.t 3, .k (.aK)]])
 (.cond (.t 4) (.seq (.region 0 [.C 2 (.sl 0 [])])
 .ret)
 .skip))
 (.seq (.region 0 [.M 5 0,
 .o 6 .kN [.t 5],
 .o 7 (.ay 0) [.t 6],
 .o 8 .ak [.t 7],
 .M 2 8])
 .ret)))⟩
def nG : EC := (.seq (.seq (.region 0 [.M 21 5,
 .o 22 (.aj .geq) [.t 21, .k (.int .i64 0)]])
 (.cond (.t 22) .skip
 (.exit 0)))
 (.seq (.block 1 (.block 2 (.seq (.drawn 0 [(0, .M 26 0),
 (1, .M 27 5),
 (2, .o 28 (.aQ 1) [.t 26, .t 27]),
 (3, .o 29 .ak [.t 28]),
 (4, .M 30 1),
 (5, .M 31 5),
 (6, .o 32 (.aQ 1) [.t 30, .t 31]),
 (7, .o 33 .ak [.t 32]),
 (8, .o 34 (.aj .lss) [.t 29, .t 33]),
 (9, .M 25 34)])
 (.cond (.t 25) (.seq (.region 0 [.C 4 (.int .i64 (-1))])
 .ret)
 (.seq (.drawn 0 [(0, .M 36 0),
 (1, .M 37 5),
 (2, .o 38 (.aQ 1) [.t 36, .t 37]),
 (3, .o 39 .ak [.t 38]),
 (4, .M 40 1),
 (5, .M 41 5),
 (6, .o 42 (.aQ 1) [.t 40, .t 41]),
 (7, .o 43 .ak [.t 42]),
 (8, .o 44 (.aj .gtr) [.t 39, .t 43]),
 (9, .M 35 44)])
 (.cond (.t 35) (.seq (.region 0 [.C 4 (.int .i64 1)])
 .ret)
 .skip))))))
 (.region 0 [.M 23 5,
 .o 24 (.aj .sub) [.t 23, .k (.int .i64 1)],
 .M 5 24])))
def Aw : EF := ⟨[0, 1], [.tmp 4], (.seq (.region 0 [.C 4 (.int .i64 0)])
 (.seq (.seq (.region 0 [.M 6 0,
 .o 7 .aZ [.t 6],
 .M 8 1,
 .o 9 .aZ [.t 8],
 .o 10 (.aj .neq) [.t 7, .t 9]])
 (.cond (.t 10) (.seq (.region 0 [.M 11 0,
 .o 12 .aZ [.t 11],
 .M 13 1,
 .o 14 .aZ [.t 13],
 .o 15 (.aj .sub) [.t 12, .t 14],
 .o 16 .mx [.t 15, .k (.int .i64 (-1))],
 .o 17 .mn [.t 16, .k (.int .i64 1)],
 .M 4 17])
 .ret)
 .skip))
 (.seq (.seq (.region 0 [.M 18 0,
 .o 19 .aZ [.t 18],
 .o 20 (.aj .sub) [.t 19, .k (.int .i64 1)],
 .M 5 20])
 (.block 0 (.loop [0, 1, 5] [4] nG)))
 (.seq (.region 0 [.C 4 (.int .i64 0)])
 .ret))))⟩
def lY : EC := (.join [0, 1, 4, 5] (.block 1 (.seq (.seq (.region 0 [.M 17 0,
 .M 18 1,
 .o 19 (.aY jV) [.t 17, .t 18]])
 (.join [0, 1, 4, 5] (.block 2 (.seq (.region 0 [.o 21 (.aj .eql) [.t 19, .k (.int .i64 0)],
 .M 20 21])
 (.join [0, 1, 4, 5] (.cond (.t 20) (.seq (.region 0 [.M 22 0,
 .o 23 (.aY dX) [.t 22],
 .M 24 5,
 .o 25 (.ah nat_bit) [.t 24],
 .o 26 (.nN fV) [.t 23, .t 25],
 .M 4 26])
 .ret)
 (.seq (.region 0 [.o 28 (.aj .eql) [.t 19, .k (.int .i64 (-1))],
 .M 27 28])
 (.join [0, 1, 5] (.cond (.t 27) (.region 0 [.M 29 1,
 .M 30 0,
 .M 0 29,
 .M 1 30])
 .skip)))))))))
 (.region 0 [.M 31 0,
 .M 32 1,
 .o 33 (.aY yx) [.t 31, .t 32],
 .o 34 (.aY xu) [.t 33],
 .M 0 34]))))
def Dn : EF := ⟨[0, 1], [.tmp 4], (.seq (.region 0 [.C 4 (.aK)])
 (.seq (.region 0 [.M 6 0,
 .o 7 (.aY wu) [.t 6],
 .M 8 1,
 .o 9 (.aY wu) [.t 8],
 .o 10 .mn [.t 7, .t 9],
 .M 5 10])
 (.seq (.region 0 [.M 11 0,
 .o 12 (.aY cZ) [.t 11],
 .o 13 (.aY xu) [.t 12],
 .M 14 1,
 .o 15 (.aY cZ) [.t 14],
 .o 16 (.aY xu) [.t 15],
 .M 0 13,
 .M 1 16])
 (.block 0 (.loop [0, 1, 5] [4] lY)))))⟩
def ru : EC := (.seq (.seq (.region 0 [.M 15 8,
 .o 16 (.aj .geq) [.t 15, .k (.int .i64 0)]])
 (.cond (.t 16) .skip
 (.exit 0)))
 (.seq (.block 1 (.region 0 [.M 20 6,
 .M 21 8,
 .M 22 7,
 .M 23 0,
 .M 24 8,
 .o 25 (.aQ 1) [.t 23, .t 24],
 .o 26 .ak [.t 25],
 .M 27 1,
 .o 28 (.ah qg) [.t 22, .t 26, .t 27],
 .M 19 28,
 .o 29 (.ext 0) [.t 19],
 .o 30 (.ext 1) [.t 19],
 .o 31 (.aQ 1) [.t 20, .t 21],
 ⟨.store 1, [.t 31, .t 29], none, none⟩,
 .M 7 30]))
 (.region 0 [.M 17 8,
 .o 18 (.aj .sub) [.t 17, .k (.int .i64 1)],
 .M 8 18])))
def FK : EF := ⟨[0, 1], [.tmp 4, .tmp 5], (.seq (.region 0 [.C 4 (.sl 0 []),
 .C 5 (.int .u64 0)])
 (.seq (.region 1 [.M 9 0,
 .o 10 .aZ [.t 9],
 .o 11 (.zG 0 1 [.int .u64 0]) [.t 10, .t 10],
 .M 6 11])
 (.seq (.region 0 [.C 7 (.int .u64 0)])
 (.seq (.seq (.region 0 [.M 12 0,
 .o 13 .aZ [.t 12],
 .o 14 (.aj .sub) [.t 13, .k (.int .i64 1)],
 .M 8 14])
 (.block 0 (.loop [0, 1, 6, 7, 8] [6, 7] ru)))
 (.seq (.region 0 [.M 32 6,
 .M 33 7,
 .M 4 32,
 .M 5 33])
 .ret)))))⟩
def nU : EC := (.seq (.seq (.region 0 [.M 66 12])
 (.cond (.t 66) .skip
 (.exit 2)))
 (.seq (.block 3 (.seq (.region 0 [.M 73 9,
 .M 74 10,
 .o 75 (.aQ 1) [.t 73, .t 74],
 .o 76 .ak [.t 75],
 .o 77 (.aj .sub) [.t 76, .k (.int .u64 1)],
 .o 78 (.aQ 1) [.t 73, .t 74],
 ⟨.store 1, [.t 78, .t 77], none, none⟩])
 (.region 0 [.M 79 11,
 .M 80 8,
 .o 81 (.aY yu) [.t 79, .t 80]])))
 (.region 0 [.M 67 11,
 .M 68 8,
 .o 69 .aZ [.t 68],
 .o 70 (.aQ 1) [.t 67, .t 69],
 .o 71 .ak [.t 70],
 .o 72 (.aj .neq) [.t 71, .k (.int .u64 0)],
 .M 12 72])))
def uG : EC := (.seq (.seq (.region 0 [.M 41 10,
 .o 42 (.aj .geq) [.t 41, .k (.int .i64 0)]])
 (.cond (.t 42) .skip
 (.exit 0)))
 (.seq (.block 1 (.seq (.region 0 [.M 45 7,
 .M 46 10,
 .M 47 10,
 .M 48 8,
 .o 49 .aZ [.t 48],
 .o 50 (.aj .add) [.t 47, .t 49],
 .o 51 (.aj .add) [.t 50, .k (.int .i64 1)],
 .o 52 (.Hr 1 true true) [.t 45, .t 46, .t 51],
 .M 11 52])
 (.seq (.region 0 [.M 53 9,
 .M 54 10,
 .M 55 11,
 .M 56 8,
 .o 57 (.aY yw) [.t 55, .t 56],
 .o 58 (.aQ 1) [.t 53, .t 54],
 ⟨.store 1, [.t 58, .t 57], none, none⟩])
 (.seq (.region 0 [.M 59 11,
 .M 60 8,
 .M 61 9,
 .M 62 10,
 .o 63 (.aQ 1) [.t 61, .t 62],
 .o 64 .ak [.t 63],
 .o 65 (.aY yA) [.t 59, .t 60, .t 64],
 .M 12 65])
 (.block 2 (.loop [1, 6, 7, 8, 9, 10, 11, 12] [1, 6, 7, 8, 9, 10] nU))))))
 (.region 0 [.M 43 10,
 .o 44 (.aj .sub) [.t 43, .k (.int .i64 1)],
 .M 10 44])))
def uH : EC := (.seq (.region 0 [.o 88 (.aj .lss) [.t 87, .t 86]])
 (.seq (.cond (.t 88) .skip
 (.exit 4))
 (.seq (.block 5 (.seq (.region 0 [.M 89 87,
 .M 14 89])
 (.drawn 0 [(0, .M 90 13),
 (1, .M 91 14),
 (2, .M 92 7),
 (3, .M 93 14),
 (4, .o 94 (.aQ 1) [.t 92, .t 93]),
 (5, .o 95 .ak [.t 94]),
 (6, .M 96 6),
 (7, .o 97 (.sh false) [.t 95, .t 96]),
 (8, .M 98 7),
 (9, .M 99 14),
 (10, .o 100 (.aj .add) [.t 99, .k (.int .i64 1)]),
 (11, .o 101 (.aQ 1) [.t 98, .t 100]),
 (12, .o 102 .ak [.t 101]),
 (13, .o 103 (.sh true) [.t 102, .k (.int .u64 1)]),
 (14, .M 104 6),
 (15, .o 105 (.aj .sub) [.k (.int .i64 63), .t 104]),
 (16, .o 106 (.sh true) [.t 103, .t 105]),
 (17, .o 107 (.aj .or) [.t 97, .t 106]),
 (18, .o 108 (.aQ 1) [.t 90, .t 91]),
 (19, ⟨.store 1, [.t 108, .t 107], none, none⟩)])))
 (.region 0 [.o 109 (.aj .add) [.t 87, .k (.int .i64 1)],
 .M 87 109]))))
def H9 : EF := ⟨[0, 1], [.tmp 4, .tmp 5], (.seq (.region 0 [.C 4 (.sl 0 []),
 .C 5 (.sl 0 [])])
 (.seq (.region 0 [.M 15 1,
 .M 16 1,
 .o 17 .aZ [.t 16],
 .o 18 (.aj .sub) [.t 17, .k (.int .i64 1)],
 .o 19 (.aQ 1) [.t 15, .t 18],
 .o 20 .ak [.t 19],
 .o 21 (.ah bits_LeadingZeros64) [.t 20],
 .M 6 21])
 (.seq (.drawn 0 [(0, .M 22 0),
 (1, .M 23 6),
 (2, .o 24 (.aY wo) [.t 22, .t 23]),
 (3, .M 25 1),
 (4, .M 26 6),
 (5, .o 27 (.aY wo) [.t 25, .t 26]),
 (6, .M 28 1),
 (7, .o 29 .aZ [.t 28]),
 (8, .o 30 (.Hr 1 false true) [.t 27, .t 29]),
 (9, .M 7 24),
 (10, .M 8 30)])
 (.seq (.region 1 [.M 31 0,
 .o 32 .aZ [.t 31],
 .M 33 1,
 .o 34 .aZ [.t 33],
 .o 35 (.aj .sub) [.t 32, .t 34],
 .o 36 (.aj .add) [.t 35, .k (.int .i64 1)],
 .o 37 (.zG 0 1 [.int .u64 0]) [.t 36, .t 36],
 .M 9 37])
 (.seq (.seq (.region 0 [.M 38 9,
 .o 39 .aZ [.t 38],
 .o 40 (.aj .sub) [.t 39, .k (.int .i64 1)],
 .M 10 40])
 (.block 0 (.loop [1, 6, 7, 8, 9, 10] [1, 6, 7, 9] uG)))
 (.seq (.region 1 [.M 82 1,
 .o 83 .aZ [.t 82],
 .o 84 (.zG 0 1 [.int .u64 0]) [.t 83, .t 83],
 .M 13 84])
 (.seq (.seq (.region 0 [.M 85 13,
 .o 86 .aZ [.t 85],
 .C 87 (.int .i64 0)])
 (.block 4 (.loop [6, 7, 9, 13, 86, 87] [9, 13] uH)))
 (.seq (.region 0 [.M 110 9,
 .M 111 13,
 .M 4 110,
 .M 5 111])
 .ret))))))))⟩
def yR : EF := ⟨[0], [.tmp 2], (.seq (.region 0 [.C 2 (.bool false)])
 (.seq (.region 0 [.M 3 0,
 .o 4 (.ah dK) [.t 3],
 .o 5 (.aj .geq) [.t 4, .k (.int .i64 0)],
 .M 2 5])
 .ret))⟩
def Dh : EF := ⟨[0, 1, 2], [.tmp 6], (.seq (.region 0 [.C 6 (.int .i64 0)])
 (.seq (.region 1 [.M 12 1,
 .o 13 (.ah eF) [.t 12],
 .M 11 13,
 .o 14 (.ext 0) [.t 11],
 .o 15 (.ext 1) [.t 11],
 .o 7 (.alloc 0 [.int .i64 0, .int .i64 0, .int .i64 0]) [],
 ⟨.store 3, [.t 7, .t 14], none, none⟩,
 .M 8 15])
 (.seq (.region 1 [.M 17 2,
 .o 18 (.ah eF) [.t 17],
 .M 16 18,
 .o 19 (.ext 0) [.t 16],
 .o 20 (.ext 1) [.t 16],
 .o 9 (.alloc 0 [.int .i64 0, .int .i64 0, .int .i64 0]) [],
 ⟨.store 3, [.t 9, .t 19], none, none⟩,
 .M 10 20])
 (.seq (.seq (.region 0 [.M 21 8,
 .o 22 (.eqN true true) [.t 21, .k (.aB)],
 .M 23 22,
 .g 23 false 24 (.aF) [.t 10],
 .g 23 false 25 (.eqN true true) [.t 24, .k (.aB)],
 .o 26 .pick [.t 23, .k (.bool true), .t 25],
 .M 27 26,
 .g 27 false 28 (.aF) [.t 0],
 .g 27 false 29 (.ah tH) [.t 28],
 .g 27 false 30 (.not) [.t 29],
 .o 31 .pick [.t 27, .k (.bool true), .t 30]])
 (.cond (.t 31) (.seq (.region 0 [.C 6 (.int .i64 0)])
 .ret)
 .skip))
 (.seq (.seq (.region 0 [.M 32 0,
 .o 33 (.aj .neq) [.t 32, .k (.int .i64 1)]])
 (.cond (.t 33) (.seq (.region 0 [.M 34 2,
 .M 35 1,
 .o 36 (.aj .sub) [.t 34, .t 35],
 .M 6 36])
 .ret)
 .skip))
 (.seq (.region 0 [.o 37 (.ay 0) [.t 9],
 .o 38 .ak [.t 37],
 .o 39 (.ay 0) [.t 7],
 .o 40 .ak [.t 39],
 .o 41 (.aj .sub) [.t 38, .t 40],
 .o 42 (.aj .mul) [.k (.int .i64 360), .t 41],
 .o 43 (.ay 1) [.t 9],
 .o 44 .ak [.t 43],
 .o 45 (.ay 1) [.t 7],
 .o 46 .ak [.t 45],
 .o 47 (.aj .sub) [.t 44, .t 46],
 .o 48 (.aj .mul) [.k (.int .i64 30), .t 47],
 .o 49 (.aj .add) [.t 42, .t 48],
 .o 50 (.ay 2) [.t 9],
 .o 51 .ak [.t 50],
 .o 52 .mn [.t 51, .k (.int .i64 30)],
 .o 53 (.aj .add) [.t 49, .t 52],
 .o 54 (.ay 2) [.t 7],
 .o 55 .ak [.t 54],
 .o 56 .mn [.t 55, .k (.int .i64 30)],
 .o 57 (.aj .sub) [.t 53, .t 56],
 .M 6 57])
 .ret))))))⟩
def Dt : EF := ⟨[0, 1], [.tmp 4], (.seq (.region 0 [.C 4 (.bool false)])
 (.seq (.region 0 [.M 5 0,
 .M 6 1,
 .o 7 (.ah ji) [.t 5, .t 6],
 .o 8 (.aj .geq) [.t 7, .k (.int .i64 0)],
 .M 4 8])
 .ret))⟩
def ae0 : EF := ⟨[0], [.tmp 2], (.seq (.region 1 [.o 1 (.box 0) [.t 0],
 .C 2 (.bool false)])
 (.seq (.region 0 [.o 3 (.aN 6) [.t 1],
 .o 4 (.ah BI) [.t 3],
 .o 5 .not [.t 4],
 .M 2 5])
 .ret))⟩
def agU : EF := ⟨[0], [.tmp 2], (.seq (.region 1 [.o 1 (.box 0) [.t 0],
 .C 2 (.bool false)])
 (.seq (.seq (.region 0 [.o 4 (.ay 0) [.t 1],
 .o 5 .ak [.t 4]])
 (.block 0 (.seq (.region 0 [.o 7 (.aj .eql) [.t 5, .k (.int .i64 1)],
 .M 6 7])
 (.cond (.t 6) (.seq (.drawn 0 [(0, .o 8 (.ay 2) [.t 1]),
 (1, .o 9 .ak [.t 8]),
 (2, .o 10 (.ay 1) [.t 1]),
 (3, .o 11 .ak [.t 10]),
 (4, .o 12 (.ah fO) [.k (.int .i64 2000), .t 11]),
 (5, .o 13 (.ah jC) [.t 9, .k (.int .i64 1), .t 12]),
 (6, .M 14 13),
 (7, .g 14 true 15 (.ay 3) [.t 1]),
 (8, .g 14 true 16 (.ak) [.t 15]),
 (9, .g 14 true 17 (.aj .eql) [.t 16, .k (.int .i64 0)]),
 (10, .o 18 .pick [.t 14, .t 17, .k (.bool false)]),
 (11, .M 19 18),
 (12, .g 19 true 20 (.ay 4) [.t 1]),
 (13, .g 19 true 21 (.ak) [.t 20]),
 (14, .g 19 true 22 (.aj .eql) [.t 21, .k (.int .i64 0)]),
 (15, .o 23 .pick [.t 19, .t 22, .k (.bool false)]),
 (16, .M 2 23)])
 .ret)
 (.seq (.region 0 [.o 25 (.aj .eql) [.t 5, .k (.int .i64 2)],
 .M 24 25])
 (.cond (.t 24) (.seq (.region 0 [.o 26 (.ay 3) [.t 1],
 .o 27 .ak [.t 26],
 .o 28 (.ah jC) [.t 27, .k (.int .i64 1), .k (.int .i64 5)],
 .M 29 28,
 .g 29 false 30 (.ay 3) [.t 1],
 .g 29 false 31 (.ak) [.t 30],
 .g 29 false 32 (.aj .eql) [.t 31, .k (.int .i64 (-1))],
 .o 33 .pick [.t 29, .k (.bool true), .t 32],
 .M 3 33])
 (.seq (.region 0 [.o 34 (.ay 1) [.t 1],
 .o 35 .ak [.t 34],
 .o 36 (.ah jC) [.t 35, .k (.int .i64 1), .k (.int .i64 12)],
 .M 37 36,
 .g 37 true 38 (.aF) [.t 3],
 .o 39 .pick [.t 37, .t 38, .k (.bool false)],
 .M 40 39,
 .g 40 true 41 (.ay 4) [.t 1],
 .g 40 true 42 (.ak) [.t 41],
 .g 40 true 43 (.ah jC) [.t 42, .k (.int .i64 0), .k (.int .i64 6)],
 .o 44 .pick [.t 40, .t 43, .k (.bool false)],
 .M 45 44,
 .g 45 true 46 (.ay 2) [.t 1],
 .g 45 true 47 (.ak) [.t 46],
 .g 45 true 48 (.aj .eql) [.t 47, .k (.int .i64 0)],
 .o 49 .pick [.t 45, .t 48, .k (.bool false)],
 .M 50 49,
 .g 50 true 51 (.ay 5) [.t 1],
 .g 50 true 52 (.ak) [.t 51],
 .g 50 true 53 (.not) [.t 52],
 .o 54 .pick [.t 50, .t 53, .k (.bool false)],
 .M 2 54])
 .ret))
 (.seq (.region 0 [.o 56 (.aj .eql) [.t 5, .k (.int .i64 3)],
 .M 55 56])
 (.cond (.t 55) (.seq (.region 0 [.o 57 (.ay 3) [.t 1],
 .o 58 .ak [.t 57],
 .o 59 (.ah jC) [.t 58, .k (.int .i64 (-100)), .k (.int .i64 100)],
 .M 60 59,
 .g 60 true 61 (.ay 1) [.t 1],
 .g 60 true 62 (.ak) [.t 61],
 .g 60 true 63 (.aj .eql) [.t 62, .k (.int .i64 0)],
 .o 64 .pick [.t 60, .t 63, .k (.bool false)],
 .M 65 64,
 .g 65 true 66 (.ay 2) [.t 1],
 .g 65 true 67 (.ak) [.t 66],
 .g 65 true 68 (.aj .eql) [.t 67, .k (.int .i64 0)],
 .o 69 .pick [.t 65, .t 68, .k (.bool false)],
 .M 70 69,
 .g 70 true 71 (.ay 4) [.t 1],
 .g 70 true 72 (.ak) [.t 71],
 .g 70 true 73 (.aj .eql) [.t 72, .k (.int .i64 0)],
 .o 74 .pick [.t 70, .t 73, .k (.bool false)],
 .M 75 74,
 .g 75 true 76 (.ay 5) [.t 1],
 .g 75 true 77 (.ak) [.t 76],
 .g 75 true 78 (.not) [.t 77],
 .o 79 .pick [.t 75, .t 78, .k (.bool false)],
 .M 2 79])
 .ret)
 .skip))))))))
 (.seq (.region 0 [.C 2 (.bool false)])
 .ret)))⟩
def Ic : EF := ⟨[0, 1], [.tmp 4], (.seq (.region 0 [.C 4 (.bool false)])
 (.seq (.region 0 [.M 5 0,
 .M 6 1,
 .o 7 (.ah lM) [.t 5, .t 6],
 .o 8 (.aj .geq) [.t 7, .k (.int .i64 0)],
 .M 4 8])
 .ret))⟩
def ae1 : EF := ⟨[0], [.tmp 2], (.seq (.region 0 [.C 2 (.bool false)])
 (.seq (.region 0 [.M 3 0,
 .o 4 (.ah dK) [.t 3],
 .o 5 (.aj .lss) [.t 4, .k (.int .i64 0)],
 .M 2 5])
 .ret))⟩
def H6 : EF := ⟨[0, 1], [.tmp 4, .tmp 5], (.seq (.region 1 [.o 2 (.box 0) [.t 0],
 .C 4 (.int .i64 0),
 .C 5 (.bool false)])
 (.seq (.seq (.region 0 [.o 9 (.aN 6) [.t 2],
 .o 10 (.ah BI) [.t 9],
 .o 11 .not [.t 10]])
 (.cond (.t 11) (.seq (.region 0 [.C 4 (.int .i64 0),
 .C 5 (.bool false)])
 .ret)
 .skip))
 (.seq (.region 0 [.C 6 (.int .i64 0),
 .C 7 (.bool true)])
 (.seq (.region 0 [.C 8 (.aB)])
 (.seq (.seq (.region 0 [.o 12 (.ay 0) [.t 2],
 .o 13 .ak [.t 12]])
 (.join [2, 6, 7, 8] (.block 0 (.seq (.region 0 [.o 15 (.aj .eql) [.t 13, .k (.int .i64 1)],
 .M 14 15])
 (.join [2, 6, 7, 8] (.cond (.t 14) (.region 0 [.M 17 1,
 .o 18 (.ay 1) [.t 2],
 .o 19 .ak [.t 18],
 .o 20 (.ay 2) [.t 2],
 .o 21 .ak [.t 20],
 .o 22 (.build [.int .i64 0, .int .i64 0, .int .i64 0] [(0, 1), (1, 1), (2, 1)]) [.t 17, .t 19, .t 21],
 .o 23 (.ah qM) [.t 22],
 .M 16 23,
 .o 24 (.ext 0) [.t 16],
 .o 25 (.ext 1) [.t 16],
 .M 6 24,
 .M 8 25])
 (.seq (.region 0 [.o 27 (.aj .eql) [.t 13, .k (.int .i64 2)],
 .M 26 27])
 (.join [2, 6, 7, 8] (.cond (.t 26) (.region 0 [.o 29 (.aN 6) [.t 2],
 .M 30 1,
 .o 31 (.ah Jr) [.t 29, .t 30],
 .M 28 31,
 .o 32 (.ext 0) [.t 28],
 .o 33 (.ext 1) [.t 28],
 .M 6 32,
 .M 7 33])
 (.seq (.region 0 [.o 35 (.aj .eql) [.t 13, .k (.int .i64 3)],
 .M 34 35])
 (.join [2, 6, 7, 8] (.cond (.t 34) (.seq (.region 0 [.M 37 1,
 .o 38 (.ah sQ) [.t 37],
 .M 36 38,
 .o 39 (.ext 0) [.t 36],
 .o 40 (.ext 1) [.t 36],
 .M 6 39,
 .M 8 40])
 (.region 0 [.M 41 6,
 .o 42 (.ay 3) [.t 2],
 .o 43 .ak [.t 42],
 .o 44 (.aj .add) [.t 41, .t 43],
 .M 6 44]))
 .skip))))))))))))
 (.seq (.seq (.region 0 [.M 45 8,
 .o 46 (.eqN true true) [.t 45, .k (.aB)],
 .M 47 46,
 .g 47 false 48 (.aF) [.t 7],
 .g 47 false 49 (.not) [.t 48],
 .o 50 .pick [.t 47, .k (.bool true), .t 49]])
 (.cond (.t 50) (.seq (.region 0 [.C 4 (.int .i64 0),
 .C 5 (.bool false)])
 .ret)
 .skip))
 (.seq (.seq (.region 0 [.o 51 (.ay 5) [.t 2],
 .o 52 .ak [.t 51]])
 (.join [6] (.cond (.t 52) (.region 0 [.M 53 6,
 .o 54 (.ah yc) [.t 53],
 .M 6 54])
 .skip)))
 (.seq (.seq (.region 0 [.M 55 6,
 .o 56 (.ah jC) [.t 55, .k (.int .i64 0), .k (.int .i64 109572)],
 .o 57 .not [.t 56]])
 (.cond (.t 57) (.seq (.region 0 [.C 4 (.int .i64 0),
 .C 5 (.bool false)])
 .ret)
 .skip))
 (.seq (.region 0 [.M 58 6,
 .M 4 58,
 .C 5 (.bool true)])
 .ret)))))))))⟩
def Ou : EC := (.seq (.seq (.region 0 [.M 7 1,
 .o 8 (.ah dK) [.t 7],
 .o 9 (.aj .geq) [.t 8, .k (.int .i64 0)]])
 (.cond (.t 9) .skip
 (.exit 0)))
 (.seq (.block 1 (.seq (.region 0 [.M 13 0,
 .M 14 1,
 .o 15 (.ah qR) [.t 13, .t 14]])
 (.cond (.t 15) (.seq (.region 0 [.M 16 1,
 .M 6 16])
 .ret)
 .skip)))
 (.region 0 [.M 10 1,
 .M 11 2,
 .o 12 (.aj .add) [.t 10, .t 11],
 .M 1 12])))
def abG : EF := ⟨[0, 1, 2], [.tmp 6], (.seq (.region 0 [.C 6 (.int .i64 0)])
 (.seq (.block 0 (.loop [0, 1, 2] [6] Ou))
 (.seq (.region 0 [.C 6 (.int .i64 (-1))])
 .ret)))⟩
def ac3 : EF := ⟨[0, 1], [.tmp 4], (.seq (.region 0 [.C 4 (.bool false)])
 (.seq (.region 1 [.M 10 0,
 .o 11 (.ah eF) [.t 10],
 .M 9 11,
 .o 12 (.ext 0) [.t 9],
 .o 13 (.ext 1) [.t 9],
 .o 5 (.alloc 0 [.int .i64 0, .int .i64 0, .int .i64 0]) [],
 ⟨.store 3, [.t 5, .t 12], none, none⟩,
 .M 6 13])
 (.seq (.region 1 [.M 15 1,
 .o 16 (.ah eF) [.t 15],
 .M 14 16,
 .o 17 (.ext 0) [.t 14],
 .o 18 (.ext 1) [.t 14],
 .o 7 (.alloc 0 [.int .i64 0, .int .i64 0, .int .i64 0]) [],
 ⟨.store 3, [.t 7, .t 17], none, none⟩,
 .M 8 18])
 (.seq (.region 0 [.M 19 6,
 .o 20 (.eqN false true) [.t 19, .k (.aB)],
 .M 21 20,
 .g 21 true 22 (.ay 0) [.t 5],
 .g 21 true 23 (.ak) [.t 22],
 .g 21 true 24 (.ay 0) [.t 7],
 .g 21 true 25 (.ak) [.t 24],
 .g 21 true 26 (.aj .eql) [.t 23, .t 25],
 .o 27 .pick [.t 21, .t 26, .k (.bool false)],
 .M 28 27,
 .g 28 true 29 (.ay 1) [.t 5],
 .g 28 true 30 (.ak) [.t 29],
 .g 28 true 31 (.ay 1) [.t 7],
 .g 28 true 32 (.ak) [.t 31],
 .g 28 true 33 (.aj .eql) [.t 30, .t 32],
 .o 34 .pick [.t 28, .t 33, .k (.bool false)],
 .M 4 34])
 .ret))))⟩
def QE : EF := ⟨[], [.tmp 0], (.seq (.region 0 [.C 0 (.bool false)])
 (.seq (.region 0 [.o 19 (.ah jS) [.k (.str [49, 50, 51, 52, 53, 54, 55, 56, 57, 48, 49, 50, 51, 52, 53, 54, 55, 56, 57, 48, 49, 50, 51, 52, 53, 54, 55, 56, 57, 48])],
 .M 18 19,
 .o 20 (.ext 0) [.t 18],
 .o 21 (.ext 1) [.t 18],
 .M 1 20,
 .M 2 21])
 (.seq (.region 0 [.o 22 (.ah fK) [.k (.int .u64 7)],
 .M 3 22])
 (.seq (.seq (.region 0 [.M 23 1,
 .o 24 (.r_ false) [.t 23, .k (.aK)],
 .M 25 24,
 .g 25 false 26 (.aF) [.t 3],
 .g 25 false 27 (.r_ false) [.t 26, .k (.aK)],
 .o 28 .pick [.t 25, .k (.bool true), .t 27]])
 (.cond (.t 28) (.seq (.region 0 [.C 0 (.bool false)])
 .ret)
 .skip))
 (.seq (.region 0 [.M 30 1,
 .M 31 3,
 .o 32 (.ah fU) [.t 30, .t 31],
 .M 29 32,
 .o 33 (.ext 0) [.t 29],
 .o 34 (.ext 1) [.t 29],
 .o 35 (.ext 2) [.t 29],
 .M 4 33,
 .M 5 34,
 .M 6 35])
 (.seq (.region 1 [.o 36 (.ah gV) [.k (.int .i64 (-7))],
 .o 37 (.build [.aK, .aK] []) [],
 .o 8 (.alloc 0 [.aK, .aK]) [],
 .M 7 36,
 ⟨.store 2, [.t 8, .t 37], none, none⟩])
 (.seq (.region 0 [.o 39 (.ah jq) [.k (.int .i64 (-6)), .k (.int .i64 4)],
 .M 38 39,
 .o 40 (.ext 0) [.t 38],
 .o 41 (.ext 1) [.t 38],
 .M 9 40,
 .M 10 41])
 (.seq (.region 0 [.M 43 9,
 .o 44 (.ah F6) [.t 43, .k (.int .i64 2), .k (.int .i64 1)],
 .M 42 44,
 .o 45 (.ext 0) [.t 42],
 .o 46 (.ext 1) [.t 42],
 .M 11 45,
 .M 12 46])
 (.seq (.seq (.region 0 [.M 47 4,
 .o 48 (.r_ false) [.t 47, .k (.aK)],
 .M 49 48,
 .g 49 false 50 (.aF) [.t 5],
 .g 49 false 51 (.r_ false) [.t 50, .k (.aK)],
 .o 52 .pick [.t 49, .k (.bool true), .t 51],
 .M 53 52,
 .g 53 false 54 (.aF) [.t 7],
 .g 53 false 55 (.r_ false) [.t 54, .k (.aK)],
 .o 56 .pick [.t 53, .k (.bool true), .t 55],
 .M 57 56,
 .g 57 false 58 (.aF) [.t 9],
 .g 57 false 59 (.r_ false) [.t 58, .k (.aK)],
 .o 60 .pick [.t 57, .k (.bool true), .t 59]])
 (.cond (.t 60) (.seq (.region 0 [.C 0 (.bool false)])
 .ret)
 .skip))
 (.seq (.region 0 [.o 62 (.ah sO) [.k (.str [45, 49, 46, 53, 48])],
 .M 61 62,
 .o 63 (.ext 0) [.t 61],
 .o 64 (.ext 1) [.t 61],
 .o 65 (.ext 2) [.t 61],
 .M 13 63,
 .M 14 64,
 .M 15 65])
 (.seq (.region 0 [.M 67 9,
 .o 68 (.ah F7) [.t 67, .k (.int .i64 2)],
 .M 66 68,
 .o 69 (.ext 0) [.t 66],
 .o 70 (.ext 1) [.t 66],
 .M 16 69,
 .M 17 70])
 (.seq (.region 0 [.o 71 (.ah pJ) [],
 .M 72 71,
 .g 72 true 73 (.aF) [.t 2],
 .g 72 true 74 (.eqN false true) [.t 73, .k (.aB)],
 .o 75 .pick [.t 72, .t 74, .k (.bool false)],
 .M 76 75,
 .g 76 true 77 (.aF) [.t 6],
 .g 76 true 78 (.eqN false true) [.t 77, .k (.aB)],
 .o 79 .pick [.t 76, .t 78, .k (.bool false)],
 .M 80 79,
 .g 80 true 81 (.aF) [.t 4],
 .g 80 true 82 (.aF) [.t 3],
 .g 80 true 83 (.ah fV) [.t 81, .t 82],
 .g 80 true 84 (.aF) [.t 5],
 .g 80 true 85 (.ah fQ) [.t 83, .t 84],
 .g 80 true 86 (.aF) [.t 1],
 .g 80 true 87 (.ah iR) [.t 85, .t 86],
 .g 80 true 88 (.aj .eql) [.t 87, .k (.int .i64 0)],
 .o 89 .pick [.t 80, .t 88, .k (.bool false)],
 .M 90 89,
 .g 90 true 91 (.aF) [.t 1],
 .g 90 true 92 (.ah gQ) [.t 91],
 .g 90 true 93 (.dP .eql) [.t 92, .k (.str [49, 50, 51, 52, 53, 54, 55, 56, 57, 48, 49, 50, 51, 52, 53, 54, 55, 56, 57, 48, 49, 50, 51, 52, 53, 54, 55, 56, 57, 48])],
 .o 94 .pick [.t 90, .t 93, .k (.bool false)],
 .M 95 94,
 .g 95 true 96 (.aF) [.t 7],
 .g 95 true 97 (.ah gU) [.t 96],
 .g 95 true 98 (.dP .eql) [.t 97, .k (.str [45, 55])],
 .o 99 .pick [.t 95, .t 98, .k (.bool false)],
 .M 100 99,
 .g 100 true 101 (.nN iL) [.t 8],
 .g 100 true 102 (.aj .eql) [.t 101, .k (.int .i64 0)],
 .o 103 .pick [.t 100, .t 102, .k (.bool false)],
 .M 104 103,
 .g 104 true 105 (.aF) [.t 10],
 .g 104 true 106 (.eqN false true) [.t 105, .k (.aB)],
 .o 107 .pick [.t 104, .t 106, .k (.bool false)],
 .M 108 107,
 .g 108 true 109 (.aF) [.t 9],
 .g 108 true 110 (.ah dY) [.t 109],
 .g 108 true 111 (.dP .eql) [.t 110, .k (.str [45, 51, 47, 50])],
 .o 112 .pick [.t 108, .t 111, .k (.bool false)],
 .M 113 112,
 .g 113 true 114 (.aF) [.t 12],
 .g 113 true 115 (.eqN false true) [.t 114, .k (.aB)],
 .o 116 .pick [.t 113, .t 115, .k (.bool false)],
 .M 117 116,
 .g 117 true 118 (.aF) [.t 11],
 .g 117 true 119 (.dP .eql) [.t 118, .k (.str [45, 49, 46, 53, 48])],
 .o 120 .pick [.t 117, .t 119, .k (.bool false)],
 .M 121 120,
 .g 121 true 122 (.aF) [.t 15],
 .g 121 true 123 (.eqN false true) [.t 122, .k (.aB)],
 .o 124 .pick [.t 121, .t 123, .k (.bool false)],
 .M 125 124,
 .g 125 true 126 (.aF) [.t 14],
 .g 125 true 127 (.aj .eql) [.t 126, .k (.int .i64 2)],
 .o 128 .pick [.t 125, .t 127, .k (.bool false)],
 .M 129 128,
 .g 129 true 130 (.aF) [.t 13],
 .g 129 true 131 (.aF) [.t 9],
 .g 129 true 132 (.ah jX) [.t 130, .t 131],
 .g 129 true 133 (.aj .eql) [.t 132, .k (.int .i64 0)],
 .o 134 .pick [.t 129, .t 133, .k (.bool false)],
 .M 135 134,
 .g 135 true 136 (.aF) [.t 17],
 .g 135 true 137 (.eqN false true) [.t 136, .k (.aB)],
 .o 138 .pick [.t 135, .t 137, .k (.bool false)],
 .M 139 138,
 .g 139 true 140 (.aF) [.t 16],
 .g 139 true 141 (.aj .eql) [.t 140, .k (.int .i64 (-2))],
 .o 142 .pick [.t 139, .t 141, .k (.bool false)],
 .M 143 142,
 .g 143 true 144 (.ah fK) [.k (.int .u64 10)],
 .g 143 true 145 (.ah nT) [.t 144, .k (.int .i64 20)],
 .g 143 true 146 (.ah yt) [.t 145, .k (.int .i64 2)],
 .g 143 true 147 (.ah gQ) [.t 146],
 .g 143 true 148 (.dP .eql) [.t 147, .k (.str [49, 48, 48, 48, 48, 48, 48, 48, 48, 48, 48])],
 .o 149 .pick [.t 143, .t 148, .k (.bool false)],
 .M 0 149])
 .ret))))))))))))⟩
def abB : EF := ⟨[0, 1], [.tmp 4], (.seq (.region 0 [.C 4 (.str [])])
 (.seq (.region 0 [.M 6 0,
 .o 7 (.ah strconv_Itoa) [.t 6],
 .M 5 7])
 (.seq (.region 0 [.M 8 1,
 .M 9 5,
 .o 10 .mD [.t 9],
 .o 11 (.aj .sub) [.t 8, .t 10],
 .o 12 .mx [.t 11, .k (.int .i64 0)],
 .o 13 (.ah strings_Repeat) [.k (.str [48]), .t 12],
 .M 14 5,
 .o 15 (.dP .add) [.t 13, .t 14],
 .M 4 15])
 .ret)))⟩
def dM : EC := (.seq (.seq (.region 0 [.M 7 2,
 .M 8 3,
 .o 9 (.aj .lss) [.t 7, .t 8]])
 (.cond (.t 9) .skip
 (.exit 0)))
 (.seq (.block 1 (.drawn 0 [(0, .M 14 0),
 (1, .M 15 2),
 (2, .M 16 0),
 (3, .M 17 3),
 (4, .M 18 0),
 (5, .M 19 3),
 (6, .o 20 (.aQ 1) [.t 18, .t 19]),
 (7, .o 21 .ak [.t 20]),
 (8, .M 22 0),
 (9, .M 23 2),
 (10, .o 24 (.aQ 1) [.t 22, .t 23]),
 (11, .o 25 .ak [.t 24]),
 (12, .o 26 (.aQ 1) [.t 14, .t 15]),
 (13, ⟨.store 1, [.t 26, .t 21], none, none⟩),
 (14, .o 27 (.aQ 1) [.t 16, .t 17]),
 (15, ⟨.store 1, [.t 27, .t 25], none, none⟩)]))
 (.region 0 [.M 10 2,
 .o 11 (.aj .add) [.t 10, .k (.int .i64 1)],
 .M 12 3,
 .o 13 (.aj .sub) [.t 12, .k (.int .i64 1)],
 .M 2 11,
 .M 3 13])))
def mM : EF := ⟨[0], [], (.seq (.region 0 [.M 4 0,
 .o 5 .aZ [.t 4],
 .o 6 (.aj .sub) [.t 5, .k (.int .i64 1)],
 .C 2 (.int .i64 0),
 .M 3 6])
 (.block 0 (.loop [0, 2, 3] [] dM)))⟩
def Lu : EF := ⟨[0], [.tmp 2], (.seq (.region 0 [.C 2 (.aK)])
 (.seq (.region 0 [.o 3 (.ah fK) [.k (.int .u64 10)],
 .M 4 0,
 .o 5 (.ah nT) [.t 3, .t 4],
 .o 6 (.ah fG) [.k (.bool false), .t 5],
 .M 2 6])
 .ret))⟩
def Ef : EC := (.seq (.seq (.region 0 [.M 3 0,
 .o 4 .aZ [.t 3],
 .o 5 (.aj .gtr) [.t 4, .k (.int .i64 0)],
 .M 6 5,
 .g 6 true 7 (.aF) [.t 0],
 .g 6 true 8 (.aF) [.t 0],
 .g 6 true 9 (.aZ) [.t 8],
 .g 6 true 10 (.aj .sub) [.t 9, .k (.int .i64 1)],
 .g 6 true 11 (.aQ 1) [.t 7, .t 10],
 .g 6 true 12 (.ak) [.t 11],
 .g 6 true 13 (.aj .eql) [.t 12, .k (.int .u64 0)],
 .o 14 .pick [.t 6, .t 13, .k (.bool false)]])
 (.cond (.t 14) .skip
 (.exit 0)))
 (.block 1 (.region 0 [.M 15 0,
 .M 16 0,
 .o 17 .aZ [.t 16],
 .o 18 (.aj .sub) [.t 17, .k (.int .i64 1)],
 .o 19 (.Hr 1 false true) [.t 15, .t 18],
 .M 0 19])))
def Ry : EF := ⟨[0], [.tmp 2], (.seq (.region 0 [.C 2 (.sl 0 [])])
 (.seq (.block 0 (.loop [0] [0] Ef))
 (.seq (.region 0 [.M 20 0,
 .M 2 20])
 .ret)))⟩
def Rx : EF := ⟨[0, 1], [.cell 4 true 2], (.seq (.region 3 [.o 2 (.box 0) [.t 0],
 .o 3 (.box 1) [.t 1],
 .o 4 (.alloc 2 [.bool false, .sl 0 []]) []])
 (.seq (.seq (.region 0 [.o 5 (.ay 0) [.t 2],
 .o 6 .ak [.t 5],
 .o 7 (.ay 0) [.t 3],
 .o 8 .ak [.t 7],
 .o 9 (.U1 false) [.t 6, .t 8]])
 (.cond (.t 9) (.seq (.drawn 0 [(0, .o 10 (.ay 0) [.t 2]),
 (1, .o 11 .ak [.t 10]),
 (2, .o 12 (.ay 1) [.t 2]),
 (3, .o 13 .ak [.t 12]),
 (4, .o 14 (.ay 1) [.t 3]),
 (5, .o 15 .ak [.t 14]),
 (6, .o 16 (.ah oK) [.t 13, .t 15]),
 (7, .o 17 (.ah jh) [.t 11, .t 16]),
 (8, ⟨.store 2, [.t 4, .t 17], none, none⟩)])
 .ret)
 .skip))
 (.seq (.seq (.region 0 [.o 18 (.ay 1) [.t 2],
 .o 19 .ak [.t 18],
 .o 20 (.ay 1) [.t 3],
 .o 21 .ak [.t 20],
 .o 22 (.ah uh) [.t 19, .t 21],
 .o 23 (.aj .geq) [.t 22, .k (.int .i64 0)]])
 (.cond (.t 23) (.seq (.drawn 0 [(0, .o 24 (.ay 0) [.t 2]),
 (1, .o 25 .ak [.t 24]),
 (2, .o 26 (.ay 1) [.t 2]),
 (3, .o 27 .ak [.t 26]),
 (4, .o 28 (.ay 1) [.t 3]),
 (5, .o 29 .ak [.t 28]),
 (6, .o 30 (.ah oL) [.t 27, .t 29]),
 (7, .o 31 (.ah jh) [.t 25, .t 30]),
 (8, ⟨.store 2, [.t 4, .t 31], none, none⟩)])
 .ret)
 .skip))
 (.seq (.drawn 0 [(0, .o 32 (.ay 0) [.t 3]),
 (1, .o 33 .ak [.t 32]),
 (2, .o 34 (.ay 1) [.t 3]),
 (3, .o 35 .ak [.t 34]),
 (4, .o 36 (.ay 1) [.t 2]),
 (5, .o 37 .ak [.t 36]),
 (6, .o 38 (.ah oL) [.t 35, .t 37]),
 (7, .o 39 (.ah jh) [.t 33, .t 38]),
 (8, ⟨.store 2, [.t 4, .t 39], none, none⟩)])
 .ret))))⟩
def QH : EF := ⟨[0], [.cell 2 true 2], (.seq (.region 2 [.o 1 (.box 0) [.t 0],
 .o 2 (.alloc 1 [.bool false, .sl 0 []]) []])
 (.seq (.region 0 [.o 3 (.ay 0) [.t 1],
 .o 4 .ak [.t 3],
 .o 5 .not [.t 4],
 .o 6 (.ay 1) [.t 1],
 .o 7 .ak [.t 6],
 .o 8 (.ah jh) [.t 5, .t 7],
 ⟨.store 2, [.t 2, .t 8], none, none⟩])
 .ret))⟩
def Um : EF := ⟨[0, 1], [.cell 4 true 2], (.seq (.region 1 [.o 4 (.alloc 0 [.bool false, .sl 0 []]) []])
 (.seq (.region 0 [.M 5 0,
 .M 6 5,
 .g 6 true 7 (.aF) [.t 1],
 .g 6 true 8 (.aZ) [.t 7],
 .g 6 true 9 (.aj .gtr) [.t 8, .k (.int .i64 0)],
 .o 10 .pick [.t 6, .t 9, .k (.bool false)],
 .M 11 1,
 .o 12 (.build [.bool false, .sl 0 []] [(0, 1), (1, 1)]) [.t 10, .t 11],
 ⟨.store 2, [.t 4, .t 12], none, none⟩])
 .ret))⟩
def qI : EC := (.seq (.seq (.region 0 [.M 4 0,
 .M 5 3,
 .o 6 (.aQ 1) [.t 4, .t 5],
 .o 7 .ak [.t 6],
 .o 8 (.aj .eql) [.t 7, .k (.int .u64 0)]])
 (.cond (.t 8) .skip
 (.exit 0)))
 (.block 1 (.region 0 [.M 9 3,
 .o 10 (.aj .add) [.t 9, .k (.int .i64 1)],
 .M 3 10])))
def Ia : EF := ⟨[0], [.tmp 2], (.seq (.region 0 [.C 2 (.int .i64 0)])
 (.seq (.region 0 [.C 3 (.int .i64 0)])
 (.seq (.block 0 (.loop [0, 3] [0, 3] qI))
 (.seq (.region 0 [.M 11 3,
 .o 12 (.aj .mul) [.k (.int .i64 64), .t 11],
 .M 13 0,
 .M 14 3,
 .o 15 (.aQ 1) [.t 13, .t 14],
 .o 16 .ak [.t 15],
 .o 17 (.ah bits_TrailingZeros64) [.t 16],
 .o 18 (.aj .add) [.t 12, .t 17],
 .M 2 18])
 .ret))))⟩
end Go.Ev.Code
