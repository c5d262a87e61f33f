/- A part of the proof of planLone_card, bondLong_card. -/
import Derived.Test.YtgppbgfjhkjfcaaGreatDoorCDef
set_option linter.unusedVariables false
section
namespace Go.Ev.Code
open Go.Ev
def oJ : Nat := 3
def qA : Nat := 4
def gY : Nat := 5
def gX : Nat := 6
def dO : Nat := 7
def eP : Nat := 8
def iF : Nat := 9
def bY : Nat := 10
def iU : Nat := 11
def fD : Nat := 12
def gW : Nat := 13
def tX : Nat := 14
def nR : Nat := 15
def gJ : Nat := 16
def qN : Nat := 17
def jr : Nat := 18
def jd : Nat := 19
def NT : Nat := 20
def xw : Nat := 21
def wF : Nat := 22
def wV : Nat := 23
def pU : Nat := 24
def dY : Nat := 25
def iL : Nat := 26
def jB : Nat := 27
def jA : Nat := 28
def CS : Nat := 29
def gZ : Nat := 30
def fE : Nat := 31
def kE : Nat := 32
def dF : Nat := 33
def jG : Nat := 34
def rF : Nat := 35
def slices_Reverse_int : Nat := 36
def eH : Nat := 37
def j_ : Nat := 38
def lI : Nat := 39
def qM : Nat := 40
def fO : Nat := 41
def eF : Nat := 42
def nZ : Nat := 43
def qY : Nat := 44
def iV : Nat := 45
def kU : Nat := 46
def gB : Nat := 47
def dJ : Nat := 48
def gG : Nat := 49
def xR : Nat := 50
def xU : Nat := 51
def tH : Nat := 52
def w_ : Nat := 53
def FX : Nat := 54
def En : Nat := 55
def jD : Nat := 56
def wR : Nat := 57
def bM : Nat := 58
def gV : Nat := 59
def bD : Nat := 60
def eX : Nat := 61
def yD : Nat := 62
def bJ : Nat := 63
def bZ : Nat := 64
def bT : Nat := 65
def lS : Nat := 66
def zh : Nat := 67
def qE : Nat := 68
def kZ : Nat := 69
def Gj : Nat := 70
def jq : Nat := 71
def fZ : Nat := 72
def zV : Nat := 73
def yH : Nat := 74
def Oo : Nat := 75
def pV : Nat := 76
def gU : Nat := 77
def oC : Nat := 78
def nM : Nat := 79
def iw : Nat := 80
def Gi : Nat := 81
def iI : Nat := 82
def jv : Nat := 83
def nY : Nat := 84
def wE : Nat := 86
def nO : Nat := 87
def xX : Nat := 88
def Cc : Nat := 89
def kX : Nat := 90
def rH : Nat := 91
def oq : Nat := 92
def iY : Nat := 93
def lT : Nat := 94
def dK : Nat := 95
def kJ : Nat := 96
def jX : Nat := 97
def CJ : Nat := 98
def kY : Nat := 99
def IC : Nat := 100
def fG : Nat := 101
def fK : Nat := 102
def bC : Nat := 103
def fV : Nat := 104
def fQ : Nat := 105
def iR : Nat := 106
def jU : Nat := 107
def yC : Nat := 108
def dR : Nat := 109
def kV : Nat := 110
def fU : Nat := 111
def uD : Nat := 112
def qh : Nat := 113
def uJ : Nat := 114
def sQ : Nat := 115
def yN : Nat := 116
def JJ : Nat := 117
def mY : Nat := 118
def pO : Nat := 119
def xY : Nat := 120
def qR : Nat := 121
def N8 : Nat := 122
def BA : Nat := 123
def gQ : Nat := 124
def sO : Nat := 125
def nV : Nat := 130
def rO : Nat := 131
def oK : Nat := 132
def lJ : Nat := 133
def fM : Nat := 134
def uj : Nat := 135
def vg : Nat := 136
def rM : Nat := 137
def lU : Nat := 138
def strings_Cut : Nat := 139
def Oe : Nat := 140
def jS : Nat := 141
def dX : Nat := 142
def bP : Nat := 143
def bits_Mul64 : Nat := 144
def bits_Add64 : Nat := 145
def jV : Nat := 146
def bits_Sub64 : Nat := 147
def tY : Nat := 148
def t_ : Nat := 149
def BM : Nat := 150
def qU : Nat := 151
def vS : Nat := 152
def fA : Nat := 153
def B_ : Nat := 154
def BI : Nat := 155
def iC : Nat := 156
def Cb : Nat := 157
def x9 : Nat := 158
def qK : Nat := 159
def zl : Nat := 160
def pR : Nat := 161
def uy : Nat := 162
def cZ : Nat := 163
def d_ : Nat := 164
def strings_Repeat : Nat := 165
def slices_Reverse_string : Nat := 166
def strings_Join : Nat := 167
def strings_CutPrefix : Nat := 168
def jy : Nat := 169
def f_ : Nat := 170
def Cj : Nat := 171
def fB : Nat := 172
def kD : Nat := 175
def rP : Nat := 176
def pW : Nat := 177
def jh : Nat := 178
def fF : Nat := 180
def wu : Nat := 181
def xu : Nat := 182
def nat_bit : Nat := 183
def yx : Nat := 184
def qg : Nat := 185
def bits_LeadingZeros64 : Nat := 186
def wo : Nat := 187
def yw : Nat := 188
def yA : Nat := 189
def yu : Nat := 190
def ji : Nat := 191
def jC : Nat := 192
def lM : Nat := 193
def Jr : Nat := 194
def yc : Nat := 195
def F6 : Nat := 196
def F7 : Nat := 197
def pJ : Nat := 198
def nT : Nat := 199
def yt : Nat := 200
def strconv_Itoa : Nat := 201
def uh : Nat := 217
def oL : Nat := 218
def bits_TrailingZeros64 : Nat := 222
def Ez : Nat := 224
def C9 : Nat := 225
def Cm : Nat := 226
def wQ : Nat := 227
def pK : Nat := 228
def lX : Nat := 229
def wP : Nat := 253
def Du : Nat := 254
def qC : Nat := 255
def CB : Nat := 256
def oZ : Nat := 271
def CG : Nat := 272
def lQ : Nat := 296
def uU : Nat := 297
def fH : Nat := 298
def iW : Nat := 299
def dA : Nat := 306
def h_ : Nat := 117
def jc : Nat := 134
def wM : Nat := 229
def hndB : Nat := 16
end Go.Ev.Code
end
section
namespace Go.Ev.Code
open Go.Ev
def Ku : EF := ⟨[0, 1, 2], [.tmp 6], (.seq (.region 0 [.C 6 (.bool false)])
 (.seq (.region 0 [.o 21 (.ah dO) [],
 .M 7 21])
 (.seq (.seq (.region 0 [.M 22 7,
 .o 23 .not [.t 22]])
 (.cond (.t 23) (.seq (.region 0 [.C 6 (.bool false)])
 .ret)
 .skip))
 (.seq (.region 1 [.o 24 (.ah eP) [.k (.str [53]), .k (.int .i64 4)],
 .o 8 (.alloc 0 [.int .i64 0, .int .i64 0, .int .i64 0, .str [], .str [], .int .i64 0, .int .i64 0, .bool false, .int .i64 0]) [],
 ⟨.store 9, [.t 8, .t 24], none, none⟩])
 (.seq (.region 0 [.M 25 0,
 .o 26 (.ah iF) [.t 25],
 .o 27 (.aj .rem) [.t 26, .k (.int .i64 80000)],
 .o 28 (.aj .add) [.k (.int .i64 20000), .t 27],
 .o 29 (.ay 1) [.t 8],
 ⟨.store 1, [.t 29, .t 28], none, none⟩])
 (.seq (.region 0 [.M 30 1,
 .o 31 (.aj .rem) [.t 30, .k (.int .i64 8)],
 .o 32 (.aj .add) [.t 31, .k (.int .i64 8)],
 .o 33 (.aj .rem) [.t 32, .k (.int .i64 8)],
 .o 34 (.aj .add) [.k (.int .i64 2), .t 33],
 .M 35 2,
 .o 36 (.aj .rem) [.t 35, .k (.int .i64 27)],
 .o 37 (.aj .add) [.t 36, .k (.int .i64 27)],
 .o 38 (.aj .rem) [.t 37, .k (.int .i64 27)],
 .o 39 (.aj .add) [.k (.int .i64 1), .t 38],
 .M 1 34,
 .M 2 39])
 (.seq (.region 0 [.o 41 (.ay 1) [.t 8],
 .o 42 .ak [.t 41],
 .M 43 1,
 .o 44 (.aj .mul) [.k (.int .i64 (-6)), .t 43],
 .o 45 (.ah bY) [.t 42, .t 44, .k (.bool false)],
 .M 40 45,
 .o 46 (.ext 0) [.t 40],
 .o 47 (.ext 1) [.t 40],
 .M 9 46,
 .M 10 47])
 (.seq (.seq (.region 0 [.M 48 10,
 .o 49 .not [.t 48]])
 (.cond (.t 49) (.seq (.region 0 [.C 6 (.bool false)])
 .ret)
 .skip))
 (.seq (.region 0 [.M 50 9,
 .M 51 2,
 .o 52 (.aj .add) [.t 50, .t 51],
 .o 53 (.ay 0) [.t 8],
 ⟨.store 1, [.t 53, .t 52], none, none⟩])
 (.seq (.region 0 [.o 55 (.ay 1) [.t 8],
 .o 56 .ak [.t 55],
 .M 57 1,
 .o 58 (.aj .sub) [.t 57, .k (.int .i64 1)],
 .o 59 (.aj .mul) [.k (.int .i64 (-6)), .t 58],
 .o 60 (.ah bY) [.t 56, .t 59, .k (.bool false)],
 .M 54 60,
 .o 61 (.ext 0) [.t 54],
 .o 62 (.ext 1) [.t 54],
 .M 11 61,
 .M 12 62])
 (.seq (.region 0 [.o 64 (.aN 9) [.t 8],
 .o 65 (.ah iU) [.t 64],
 .M 63 65,
 .o 66 (.ext 0) [.t 63],
 .o 67 (.ext 1) [.t 63],
 .M 13 66,
 .M 14 67])
 (.seq (.region 0 [.o 68 (.ay 6) [.t 8],
 ⟨.store 1, [.t 68, .k (.int .i64 1)], none, none⟩])
 (.seq (.region 0 [.o 70 (.aN 9) [.t 8],
 .o 71 (.ah iU) [.t 70],
 .M 69 71,
 .o 72 (.ext 0) [.t 69],
 .o 73 (.ext 1) [.t 69],
 .M 15 72,
 .M 16 73])
 (.seq (.region 0 [.o 74 (.ay 6) [.t 8],
 ⟨.store 1, [.t 74, .k (.int .i64 2)], none, none⟩])
 (.seq (.region 0 [.o 76 (.aN 9) [.t 8],
 .o 77 (.ah iU) [.t 76],
 .M 75 77,
 .o 78 (.ext 0) [.t 75],
 .o 79 (.ext 1) [.t 75],
 .M 17 78,
 .M 18 79])
 (.seq (.seq (.region 0 [.M 80 14,
 .o 81 (.ah fD) [.t 80, .k (.int .i64 5)],
 .o 82 .not [.t 81],
 .M 83 82,
 .g 83 false 84 (.aF) [.t 13],
 .g 83 false 85 (.aZ) [.t 84],
 .g 83 false 86 (.aj .neq) [.t 85, .k (.int .i64 0)],
 .o 87 .pick [.t 83, .k (.bool true), .t 86],
 .M 88 87,
 .g 88 false 89 (.aF) [.t 16],
 .g 88 false 90 (.eqN true true) [.t 89, .k (.aB)],
 .o 91 .pick [.t 88, .k (.bool true), .t 90],
 .M 92 91,
 .g 92 false 93 (.aF) [.t 18],
 .g 92 false 94 (.eqN true true) [.t 93, .k (.aB)],
 .o 95 .pick [.t 92, .k (.bool true), .t 94],
 .M 96 95,
 .g 96 false 97 (.aF) [.t 15],
 .g 96 false 98 (.aZ) [.t 97],
 .g 96 false 99 (.aF) [.t 1],
 .g 96 false 100 (.aj .neq) [.t 98, .t 99],
 .o 101 .pick [.t 96, .k (.bool true), .t 100],
 .M 102 101,
 .g 102 false 103 (.aF) [.t 17],
 .g 102 false 104 (.aZ) [.t 103],
 .g 102 false 105 (.aF) [.t 1],
 .g 102 false 106 (.aj .sub) [.t 105, .k (.int .i64 1)],
 .g 102 false 107 (.aj .neq) [.t 104, .t 106],
 .o 108 .pick [.t 102, .k (.bool true), .t 107]])
 (.cond (.t 108) (.seq (.region 0 [.C 6 (.bool false)])
 .ret)
 .skip))
 (.seq (.region 0 [.o 110 (.ay 1) [.t 8],
 .o 111 .ak [.t 110],
 .M 112 1,
 .o 113 (.aj .sub) [.t 112, .k (.int .i64 2)],
 .o 114 (.aj .mul) [.k (.int .i64 (-6)), .t 113],
 .o 115 (.ah bY) [.t 111, .t 114, .k (.bool false)],
 .M 109 115,
 .o 116 (.ext 0) [.t 109],
 .o 117 (.ext 1) [.t 109],
 .M 19 116,
 .M 20 117])
 (.seq (.drawn 0 [(0, .M 118 15),
 (1, .o 119 (.aQ 2) [.t 118, .k (.int .i64 0)]),
 (2, .o 120 (.aN 2) [.t 119]),
 (3, .o 121 (.ay 0) [.t 8]),
 (4, .o 122 .ak [.t 121]),
 (5, .M 123 11),
 (6, .o 124 (.build [.int .i64 0, .int .i64 0] [(0, 1), (1, 1)]) [.t 122, .t 123]),
 (7, .o 125 (.Xh false [1, 1]) [.t 120, .t 124]),
 (8, .M 126 125),
 (9, .g 126 true 127 (.aF) [.t 17]),
 (10, .g 126 true 128 (.aQ 2) [.t 127, .k (.int .i64 0)]),
 (11, .g 126 true 129 (.aN 2) [.t 128]),
 (12, .g 126 true 130 (.ay 0) [.t 8]),
 (13, .g 126 true 131 (.ak) [.t 130]),
 (14, .g 126 true 132 (.aF) [.t 19]),
 (15, .g 126 true 133 (.build [.int .i64 0, .int .i64 0] [(0, 1), (1, 1)]) [.t 131, .t 132]),
 (16, .g 126 true 134 (.Xh false [1, 1]) [.t 129, .t 133]),
 (17, .o 135 .pick [.t 126, .t 134, .k (.bool false)]),
 (18, .M 136 135),
 (19, .g 136 true 137 (.aN 9) [.t 8]),
 (20, .g 136 true 138 (.aF) [.t 15]),
 (21, .g 136 true 139 (.aQ 2) [.t 138, .k (.int .i64 0)]),
 (22, .g 136 true 140 (.aN 2) [.t 139]),
 (23, .g 136 true 141 (.ah gW) [.t 137, .t 140]),
 (24, .g 136 true 142 (.not) [.t 141]),
 (25, .o 143 .pick [.t 136, .t 142, .k (.bool false)]),
 (26, .M 144 143),
 (27, .g 144 true 145 (.aN 9) [.t 8]),
 (28, .g 144 true 146 (.aF) [.t 17]),
 (29, .g 144 true 147 (.aQ 2) [.t 146, .k (.int .i64 0)]),
 (30, .g 144 true 148 (.aN 2) [.t 147]),
 (31, .g 144 true 149 (.ah gW) [.t 145, .t 148]),
 (32, .g 144 true 150 (.not) [.t 149]),
 (33, .o 151 .pick [.t 144, .t 150, .k (.bool false)]),
 (34, .M 6 151)])
 .ret))))))))))))))))))⟩
def zy : EC := (.seq (.region 0 [.o 73 (.aj .lss) [.t 72, .t 71]])
 (.seq (.cond (.t 73) .skip
 (.exit 0))
 (.seq (.block 1 (.seq (.region 0 [.M 74 72,
 .M 15 74])
 (.seq (.drawn 0 [(0, .M 75 3),
 (1, .M 76 75),
 (2, .g 76 true 77 (.aF) [.t 13]),
 (3, .g 76 true 78 (.aF) [.t 15]),
 (4, .g 76 true 79 (.aQ 2) [.t 77, .t 78]),
 (5, .g 76 true 80 (.ay 1) [.t 79]),
 (6, .g 76 true 81 (.ak) [.t 80]),
 (7, .g 76 true 82 (.ah nR) [.t 81]),
 (8, .g 76 true 83 (.not) [.t 82]),
 (9, .o 84 .pick [.t 76, .t 83, .k (.bool false)]),
 (10, .M 85 84),
 (11, .g 85 false 86 (.aF) [.t 13]),
 (12, .g 85 false 87 (.aF) [.t 15]),
 (13, .g 85 false 88 (.aQ 2) [.t 86, .t 87]),
 (14, .g 85 false 89 (.ay 0) [.t 88]),
 (15, .g 85 false 90 (.ak) [.t 89]),
 (16, .g 85 false 91 (.aF) [.t 13]),
 (17, .g 85 false 92 (.aF) [.t 15]),
 (18, .g 85 false 93 (.aQ 2) [.t 91, .t 92]),
 (19, .g 85 false 94 (.ay 1) [.t 93]),
 (20, .g 85 false 95 (.ak) [.t 94]),
 (21, .g 85 false 96 (.ah gJ) [.t 90, .t 95]),
 (22, .g 85 false 97 (.aF) [.t 2]),
 (23, .g 85 false 98 (.aj .quo) [.k (.int .i64 12), .t 97]),
 (24, .g 85 false 99 (.aj .neq) [.t 96, .t 98]),
 (25, .o 100 .pick [.t 85, .k (.bool true), .t 99])])
 (.cond (.t 100) (.seq (.region 0 [.C 8 (.bool false)])
 .ret)
 .skip))))
 (.region 0 [.o 101 (.aj .add) [.t 72, .k (.int .i64 1)],
 .M 72 101]))))
def MS : EF := ⟨[0, 1, 2, 3], [.tmp 8], (.seq (.region 0 [.C 8 (.bool false)])
 (.seq (.region 0 [.o 16 (.ah dO) [],
 .M 9 16])
 (.seq (.seq (.region 0 [.M 17 9,
 .o 18 .not [.t 17]])
 (.cond (.t 18) (.seq (.region 0 [.C 8 (.bool false)])
 .ret)
 .skip))
 (.seq (.drawn 0 [(0, .M 19 0),
 (1, .o 20 (.aj .rem) [.t 19, .k (.int .i64 150)]),
 (2, .o 21 (.aj .add) [.t 20, .k (.int .i64 150)]),
 (3, .o 22 (.aj .rem) [.t 21, .k (.int .i64 150)]),
 (4, .o 23 (.aj .add) [.k (.int .i64 1960), .t 22]),
 (5, .M 24 1),
 (6, .o 25 (.aj .rem) [.t 24, .k (.int .i64 12)]),
 (7, .o 26 (.aj .add) [.t 25, .k (.int .i64 12)]),
 (8, .o 27 (.aj .rem) [.t 26, .k (.int .i64 12)]),
 (9, .o 28 (.aj .add) [.k (.int .i64 1), .t 27]),
 (10, .o 29 (.xW 1 3 [.int .i64 0] [(0, 1), (1, 1), (2, 1)]) [.k (.int .i64 1), .k (.int .i64 2), .k (.int .i64 4)]),
 (11, .M 30 2),
 (12, .o 31 (.aj .rem) [.t 30, .k (.int .i64 3)]),
 (13, .o 32 (.aj .add) [.t 31, .k (.int .i64 3)]),
 (14, .o 33 (.aj .rem) [.t 32, .k (.int .i64 3)]),
 (15, .o 34 (.aQ 1) [.t 29, .t 33]),
 (16, .o 35 .O6 [.t 34]),
 (17, .M 0 23),
 (18, .M 1 28),
 (19, .M 2 35)])
 (.seq (.region 0 [.M 37 0,
 .M 38 1,
 .o 39 (.ah tX) [.t 37, .t 38],
 .M 36 39,
 .o 40 (.ext 0) [.t 36],
 .o 41 (.ext 1) [.t 36],
 .M 10 40,
 .M 11 41])
 (.seq (.region 1 [.o 42 (.ah eP) [.k (.str [52]), .k (.int .i64 1)],
 .o 12 (.alloc 0 [.int .i64 0, .int .i64 0, .int .i64 0, .str [], .str [], .int .i64 0, .int .i64 0, .bool false, .int .i64 0]) [],
 ⟨.store 9, [.t 12, .t 42], none, none⟩])
 (.seq (.region 0 [.M 43 2,
 .M 44 3,
 .M 45 10,
 .o 46 (.ay 2) [.t 12],
 ⟨.store 1, [.t 46, .t 43], none, none⟩,
 .o 47 (.ay 7) [.t 12],
 ⟨.store 1, [.t 47, .t 44], none, none⟩,
 .o 48 (.ay 1) [.t 12],
 ⟨.store 1, [.t 48, .t 45], none, none⟩])
 (.seq (.region 0 [.M 50 10,
 .M 51 3,
 .o 52 (.ah bY) [.t 50, .k (.int .i64 (-60)), .t 51],
 .M 49 52,
 .o 53 (.ext 0) [.t 49],
 .o 54 (.ext 1) [.t 49],
 .o 55 (.ay 0) [.t 12],
 ⟨.store 1, [.t 55, .t 53], none, none⟩])
 (.seq (.region 0 [.o 57 (.aN 9) [.t 12],
 .o 58 (.ah iU) [.t 57],
 .M 56 58,
 .o 59 (.ext 0) [.t 56],
 .o 60 (.ext 1) [.t 56],
 .M 13 59,
 .M 14 60])
 (.seq (.seq (.region 0 [.M 61 14,
 .o 62 (.eqN true true) [.t 61, .k (.aB)],
 .M 63 62,
 .g 63 false 64 (.aF) [.t 13],
 .g 63 false 65 (.aZ) [.t 64],
 .g 63 false 66 (.aF) [.t 2],
 .g 63 false 67 (.aj .mul) [.k (.int .i64 5), .t 66],
 .g 63 false 68 (.aj .neq) [.t 65, .t 67],
 .o 69 .pick [.t 63, .k (.bool true), .t 68]])
 (.cond (.t 69) (.seq (.region 0 [.C 8 (.bool false)])
 .ret)
 .skip))
 (.seq (.seq (.region 0 [.M 70 13,
 .o 71 .aZ [.t 70],
 .C 72 (.int .i64 0)])
 (.block 0 (.loop [2, 3, 13, 71, 72] [8] zy)))
 (.seq (.region 0 [.C 8 (.bool true)])
 .ret))))))))))))⟩
def mG : EF := ⟨[0, 1, 2], [.tmp 6], (.seq (.region 0 [.C 6 (.bool false)])
 (.seq (.region 0 [.o 13 (.ah dO) [],
 .M 7 13])
 (.seq (.seq (.region 0 [.M 14 7,
 .o 15 .not [.t 14]])
 (.cond (.t 15) (.seq (.region 0 [.C 6 (.bool false)])
 .ret)
 .skip))
 (.seq (.region 1 [.o 16 (.ah eP) [.k (.str [53]), .k (.int .i64 1)],
 .o 8 (.alloc 0 [.int .i64 0, .int .i64 0, .int .i64 0, .str [], .str [], .int .i64 0, .int .i64 0, .bool false, .int .i64 0]) [],
 ⟨.store 9, [.t 8, .t 16], none, none⟩])
 (.seq (.region 0 [.M 17 0,
 .o 18 (.ah iF) [.t 17],
 .o 19 (.aj .rem) [.t 18, .k (.int .i64 80000)],
 .o 20 (.aj .add) [.k (.int .i64 20000), .t 19],
 .o 21 (.ay 1) [.t 8],
 ⟨.store 1, [.t 21, .t 20], none, none⟩])
 (.seq (.region 0 [.o 22 (.ay 1) [.t 8],
 .o 23 .ak [.t 22],
 .o 24 (.aj .sub) [.t 23, .k (.int .i64 1)],
 .M 25 1,
 .o 26 (.aj .rem) [.t 25, .k (.int .i64 150)],
 .o 27 (.aj .add) [.t 26, .k (.int .i64 150)],
 .o 28 (.aj .rem) [.t 27, .k (.int .i64 150)],
 .o 29 (.aj .sub) [.t 24, .t 28],
 .o 30 (.ay 0) [.t 8],
 ⟨.store 1, [.t 30, .t 29], none, none⟩])
 (.seq (.region 0 [.o 31 (.ay 6) [.t 8],
 ⟨.store 1, [.t 31, .k (.int .i64 1)], none, none⟩])
 (.seq (.seq (.region 0 [.M 32 2])
 (.join [8] (.cond (.t 32) (.region 0 [.o 33 (.ay 6) [.t 8],
 ⟨.store 1, [.t 33, .k (.int .i64 2)], none, none⟩])
 .skip)))
 (.seq (.region 0 [.o 35 (.aN 9) [.t 8],
 .o 36 (.ah iU) [.t 35],
 .M 34 36,
 .o 37 (.ext 0) [.t 34],
 .o 38 (.ext 1) [.t 34],
 .M 9 37,
 .M 10 38])
 (.seq (.region 0 [.o 40 (.aN 9) [.t 8],
 .o 41 (.ah qN) [.t 40],
 .M 39 41,
 .o 42 (.ext 0) [.t 39],
 .o 43 (.ext 1) [.t 39],
 .M 11 42,
 .M 12 43])
 (.seq (.drawn 0 [(0, .M 44 10),
 (1, .o 45 (.eqN false true) [.t 44, .k (.aB)]),
 (2, .M 46 45),
 (3, .g 46 true 47 (.aF) [.t 9]),
 (4, .g 46 true 48 (.aZ) [.t 47]),
 (5, .g 46 true 49 (.aj .eql) [.t 48, .k (.int .i64 1)]),
 (6, .o 50 .pick [.t 46, .t 49, .k (.bool false)]),
 (7, .M 51 50),
 (8, .g 51 true 52 (.aF) [.t 9]),
 (9, .g 51 true 53 (.aQ 2) [.t 52, .k (.int .i64 0)]),
 (10, .g 51 true 54 (.aN 2) [.t 53]),
 (11, .g 51 true 55 (.ay 0) [.t 8]),
 (12, .g 51 true 56 (.ak) [.t 55]),
 (13, .g 51 true 57 (.ay 1) [.t 8]),
 (14, .g 51 true 58 (.ak) [.t 57]),
 (15, .g 51 true 59 (.build [.int .i64 0, .int .i64 0] [(0, 1), (1, 1)]) [.t 56, .t 58]),
 (16, .g 51 true 60 (.Xh false [1, 1]) [.t 54, .t 59]),
 (17, .o 61 .pick [.t 51, .t 60, .k (.bool false)]),
 (18, .M 62 61),
 (19, .g 62 true 63 (.aF) [.t 12]),
 (20, .g 62 true 64 (.eqN false true) [.t 63, .k (.aB)]),
 (21, .o 65 .pick [.t 62, .t 64, .k (.bool false)]),
 (22, .M 66 65),
 (23, .g 66 true 67 (.aF) [.t 11]),
 (24, .g 66 true 68 (.aZ) [.t 67]),
 (25, .g 66 true 69 (.aj .eql) [.t 68, .k (.int .i64 1)]),
 (26, .o 70 .pick [.t 66, .t 69, .k (.bool false)]),
 (27, .M 71 70),
 (28, .g 71 true 72 (.aF) [.t 11]),
 (29, .g 71 true 73 (.aQ 2) [.t 72, .k (.int .i64 0)]),
 (30, .g 71 true 74 (.ay 0) [.t 73]),
 (31, .g 71 true 75 (.ak) [.t 74]),
 (32, .g 71 true 76 (.ay 1) [.t 8]),
 (33, .g 71 true 77 (.ak) [.t 76]),
 (34, .g 71 true 78 (.aj .eql) [.t 75, .t 77]),
 (35, .o 79 .pick [.t 71, .t 78, .k (.bool false)]),
 (36, .M 6 79)])
 .ret)))))))))))⟩
def mF : EF := ⟨[0, 1, 2], [.tmp 6], (.seq (.region 0 [.C 6 (.bool false)])
 (.seq (.region 0 [.o 14 (.ah dO) [],
 .M 7 14])
 (.seq (.seq (.region 0 [.M 15 7,
 .o 16 .not [.t 15]])
 (.cond (.t 16) (.seq (.region 0 [.C 6 (.bool false)])
 .ret)
 .skip))
 (.seq (.region 1 [.o 17 (.ah eP) [.k (.str [53]), .k (.int .i64 4)],
 .o 8 (.alloc 0 [.int .i64 0, .int .i64 0, .int .i64 0, .str [], .str [], .int .i64 0, .int .i64 0, .bool false, .int .i64 0]) [],
 ⟨.store 9, [.t 8, .t 17], none, none⟩])
 (.seq (.drawn 0 [(0, .M 18 0),
 (1, .o 19 (.ah iF) [.t 18]),
 (2, .o 20 .mn [.t 19, .k (.int .i64 97572)]),
 (3, .o 21 (.xW 1 4 [.int .i64 0] [(0, 1), (1, 1), (2, 1), (3, 1)]) [.k (.int .i64 1), .k (.int .i64 2), .k (.int .i64 4), .k (.int .i64 12)]),
 (4, .M 22 1),
 (5, .o 23 (.aj .rem) [.t 22, .k (.int .i64 4)]),
 (6, .o 24 (.aj .add) [.t 23, .k (.int .i64 4)]),
 (7, .o 25 (.aj .rem) [.t 24, .k (.int .i64 4)]),
 (8, .o 26 (.aQ 1) [.t 21, .t 25]),
 (9, .o 27 .O6 [.t 26]),
 (10, .o 28 (.ay 0) [.t 8]),
 (11, ⟨.store 1, [.t 28, .t 20], none, none⟩),
 (12, .o 29 (.ay 2) [.t 8]),
 (13, ⟨.store 1, [.t 29, .t 27], none, none⟩),
 (14, .o 30 (.ay 6) [.t 8]),
 (15, ⟨.store 1, [.t 30, .k (.int .i64 1)], none, none⟩)])
 (.seq (.region 0 [.o 32 (.ay 0) [.t 8],
 .o 33 .ak [.t 32],
 .o 34 (.ah bY) [.t 33, .k (.int .i64 360), .k (.bool false)],
 .M 31 34,
 .o 35 (.ext 0) [.t 31],
 .o 36 (.ext 1) [.t 31],
 .M 9 35,
 .M 10 36])
 (.seq (.seq (.region 0 [.M 37 10,
 .o 38 .not [.t 37]])
 (.cond (.t 38) (.seq (.region 0 [.C 6 (.bool false)])
 .ret)
 .skip))
 (.seq (.region 0 [.M 39 9,
 .M 40 2,
 .o 41 (.aj .rem) [.t 40, .k (.int .i64 3)],
 .o 42 (.aj .add) [.t 39, .t 41],
 .o 43 (.ay 1) [.t 8],
 ⟨.store 1, [.t 43, .t 42], none, none⟩])
 (.seq (.region 0 [.o 45 (.aN 9) [.t 8],
 .o 46 (.ah jr) [.t 45],
 .M 44 46,
 .o 47 (.ext 0) [.t 44],
 .o 48 (.ext 1) [.t 44],
 .M 11 47,
 .M 12 48])
 (.seq (.region 0 [.o 49 (.aN 9) [.t 8],
 .o 50 (.ah jd) [.t 49],
 .M 13 50])
 (.seq (.seq (.region 0 [.o 51 (.ay 1) [.t 8],
 .o 52 .ak [.t 51],
 .M 53 9,
 .o 54 (.aj .gtr) [.t 52, .t 53]])
 (.cond (.t 54) (.seq (.region 0 [.M 55 11,
 .o 56 (.aj .eql) [.t 55, .k (.int .i64 5)],
 .M 57 56,
 .g 57 true 58 (.aF) [.t 12],
 .g 57 true 59 (.dP .eql) [.t 58, .k (.str [109, 97, 116, 117, 114, 101])],
 .o 60 .pick [.t 57, .t 59, .k (.bool false)],
 .M 61 60,
 .g 61 true 62 (.aF) [.t 13],
 .g 61 true 63 (.aF) [.t 11],
 .g 61 true 64 (.ah fD) [.t 62, .t 63],
 .o 65 .pick [.t 61, .t 64, .k (.bool false)],
 .M 6 65])
 .ret)
 .skip))
 (.seq (.region 0 [.M 66 13,
 .M 67 11,
 .o 68 (.ah fD) [.t 66, .t 67],
 .M 69 68,
 .g 69 true 70 (.ay 2) [.t 8],
 .g 69 true 71 (.ak) [.t 70],
 .g 69 true 72 (.aj .eql) [.t 71, .k (.int .i64 12)],
 .g 69 true 73 (.aF) [.t 11],
 .g 69 true 74 (.aj .eql) [.t 73, .k (.int .i64 5)],
 .g 69 true 75 (.aF) [.t 74],
 .g 75 true 76 (.aF) [.t 12],
 .g 75 true 77 (.dP .eql) [.t 76, .k (.str [102, 108, 111, 119, 115])],
 .g 69 true 78 (.pick) [.t 75, .t 77, .k (.bool false)],
 .g 69 true 79 (.U1 false) [.t 72, .t 78],
 .o 80 .pick [.t 69, .t 79, .k (.bool false)],
 .M 6 80])
 .ret))))))))))))⟩
def O0 : EF := ⟨[], [.tmp 0], (.seq (.region 0 [.C 0 (.bool false)])
 (.seq (.region 1 [.o 15 (.ah eP) [.k (.str [54]), .k (.int .i64 1)],
 .o 1 (.alloc 0 [.int .i64 0, .int .i64 0, .int .i64 0, .str [], .str [], .int .i64 0, .int .i64 0, .bool false, .int .i64 0]) [],
 ⟨.store 9, [.t 1, .t 15], none, none⟩])
 (.seq (.region 0 [.o 17 (.aN 9) [.t 1],
 .o 18 (.ah iU) [.t 17],
 .M 16 18,
 .o 19 (.ext 0) [.t 16],
 .o 20 (.ext 1) [.t 16],
 .M 2 19,
 .M 3 20])
 (.seq (.region 0 [.o 22 (.aN 9) [.t 1],
 .o 23 (.ah qN) [.t 22],
 .M 21 23,
 .o 24 (.ext 0) [.t 21],
 .o 25 (.ext 1) [.t 21],
 .M 4 24,
 .M 5 25])
 (.seq (.region 0 [.o 27 (.aN 9) [.t 1],
 .o 28 (.ay 0) [.t 1],
 .o 29 .ak [.t 28],
 .o 30 (.aj .add) [.t 29, .k (.int .i64 91)],
 .o 31 (.ah NT) [.t 27, .t 30],
 .M 26 31,
 .o 32 (.ext 0) [.t 26],
 .o 33 (.ext 1) [.t 26],
 .M 6 32,
 .M 7 33])
 (.seq (.region 1 [.o 34 (.build [.int .i64 0, .int .i64 0, .int .i64 0, .str [], .str [], .int .i64 0, .int .i64 0, .bool false, .int .i64 0] [(0, 1), (1, 1), (2, 1), (3, 1), (4, 1), (5, 1)]) [.k (.int .i64 36524), .k (.int .i64 36890), .k (.int .i64 1), .k (.str [54]), .k (.str [49, 48, 48]), .k (.int .i64 1)],
 .o 8 (.alloc 0 [.int .i64 0, .int .i64 0, .int .i64 0, .str [], .str [], .int .i64 0, .int .i64 0, .bool false, .int .i64 0]) [],
 ⟨.store 9, [.t 8, .t 34], none, none⟩])
 (.seq (.region 0 [.o 36 (.aN 9) [.t 8],
 .o 37 (.ay 0) [.t 8],
 .o 38 .ak [.t 37],
 .o 39 (.ah xw) [.t 36, .t 38, .k (.int .i64 6000000)],
 .M 35 39,
 .o 40 (.ext 0) [.t 35],
 .o 41 (.ext 1) [.t 35],
 .M 9 40,
 .M 10 41])
 (.seq (.region 0 [.o 43 (.aN 9) [.t 1],
 .o 44 (.ay 0) [.t 1],
 .o 45 .ak [.t 44],
 .o 46 (.ah wF) [.t 43, .t 45],
 .M 42 46,
 .o 47 (.ext 0) [.t 42],
 .o 48 (.ext 1) [.t 42],
 .M 11 47,
 .M 12 48])
 (.seq (.region 0 [.o 50 (.aN 9) [.t 8],
 .o 51 (.ay 0) [.t 8],
 .o 52 .ak [.t 51],
 .o 53 (.ah wV) [.t 50, .t 52, .k (.int .i64 6000000)],
 .M 49 53,
 .o 54 (.ext 0) [.t 49],
 .o 55 (.ext 1) [.t 49],
 .M 13 54,
 .M 14 55])
 (.seq (.seq (.region 0 [.M 56 6,
 .o 57 (.r_ false) [.t 56, .k (.aK)],
 .M 58 57,
 .g 58 false 59 (.aF) [.t 9],
 .g 58 false 60 (.r_ false) [.t 59, .k (.aK)],
 .o 61 .pick [.t 58, .k (.bool true), .t 60],
 .M 62 61,
 .g 62 false 63 (.aF) [.t 11],
 .g 62 false 64 (.r_ false) [.t 63, .k (.aK)],
 .o 65 .pick [.t 62, .k (.bool true), .t 64],
 .M 66 65,
 .g 66 false 67 (.aF) [.t 13],
 .g 66 false 68 (.r_ false) [.t 67, .k (.aK)],
 .o 69 .pick [.t 66, .k (.bool true), .t 68],
 .M 70 69,
 .g 70 false 71 (.aF) [.t 2],
 .g 70 false 72 (.aZ) [.t 71],
 .g 70 false 73 (.aj .neq) [.t 72, .k (.int .i64 10)],
 .o 74 .pick [.t 70, .k (.bool true), .t 73],
 .M 75 74,
 .g 75 false 76 (.aF) [.t 4],
 .g 75 false 77 (.aZ) [.t 76],
 .g 75 false 78 (.aj .neq) [.t 77, .k (.int .i64 10)],
 .o 79 .pick [.t 75, .k (.bool true), .t 78]])
 (.cond (.t 79) (.seq (.region 0 [.C 0 (.bool false)])
 .ret)
 .skip))
 (.seq (.drawn 0 [(0, .o 80 (.ah pU) []),
 (1, .M 81 80),
 (2, .g 81 true 82 (.aN 9) [.t 1]),
 (3, .g 81 true 83 (.ah jd) [.t 82]),
 (4, .g 81 true 84 (.eqN false true) [.t 83, .k (.aB)]),
 (5, .o 85 .pick [.t 81, .t 84, .k (.bool false)]),
 (6, .M 86 85),
 (7, .g 86 true 87 (.aF) [.t 3]),
 (8, .g 86 true 88 (.eqN false true) [.t 87, .k (.aB)]),
 (9, .o 89 .pick [.t 86, .t 88, .k (.bool false)]),
 (10, .M 90 89),
 (11, .g 90 true 91 (.aF) [.t 2]),
 (12, .g 90 true 92 (.aQ 2) [.t 91, .k (.int .i64 0)]),
 (13, .g 90 true 93 (.ay 0) [.t 92]),
 (14, .g 90 true 94 (.ak) [.t 93]),
 (15, .g 90 true 95 (.ay 0) [.t 1]),
 (16, .g 90 true 96 (.ak) [.t 95]),
 (17, .g 90 true 97 (.aj .eql) [.t 94, .t 96]),
 (18, .o 98 .pick [.t 90, .t 97, .k (.bool false)]),
 (19, .M 99 98),
 (20, .g 99 true 100 (.aF) [.t 2]),
 (21, .g 99 true 101 (.aQ 2) [.t 100, .k (.int .i64 9)]),
 (22, .g 99 true 102 (.ay 1) [.t 101]),
 (23, .g 99 true 103 (.ak) [.t 102]),
 (24, .g 99 true 104 (.ay 1) [.t 1]),
 (25, .g 99 true 105 (.ak) [.t 104]),
 (26, .g 99 true 106 (.aj .eql) [.t 103, .t 105]),
 (27, .o 107 .pick [.t 99, .t 106, .k (.bool false)]),
 (28, .M 108 107),
 (29, .g 108 true 109 (.aF) [.t 5]),
 (30, .g 108 true 110 (.eqN false true) [.t 109, .k (.aB)]),
 (31, .o 111 .pick [.t 108, .t 110, .k (.bool false)]),
 (32, .M 112 111),
 (33, .g 112 true 113 (.aF) [.t 4]),
 (34, .g 112 true 114 (.aQ 2) [.t 113, .k (.int .i64 0)]),
 (35, .g 112 true 115 (.ay 1) [.t 114]),
 (36, .g 112 true 116 (.ak) [.t 115]),
 (37, .g 112 true 117 (.dP .eql) [.t 116, .k (.str [51])]),
 (38, .o 118 .pick [.t 112, .t 117, .k (.bool false)]),
 (39, .M 119 118),
 (40, .g 119 true 120 (.aF) [.t 4]),
 (41, .g 119 true 121 (.aQ 2) [.t 120, .k (.int .i64 9)]),
 (42, .g 119 true 122 (.ay 1) [.t 121]),
 (43, .g 119 true 123 (.ak) [.t 122]),
 (44, .g 119 true 124 (.dP .eql) [.t 123, .k (.str [49, 48, 51])]),
 (45, .o 125 .pick [.t 119, .t 124, .k (.bool false)]),
 (46, .M 126 125),
 (47, .g 126 true 127 (.aF) [.t 7]),
 (48, .g 126 true 128 (.eqN false true) [.t 127, .k (.aB)]),
 (49, .o 129 .pick [.t 126, .t 128, .k (.bool false)]),
 (50, .M 130 129),
 (51, .g 130 true 131 (.aF) [.t 6]),
 (52, .g 130 true 132 (.ah dY) [.t 131]),
 (53, .g 130 true 133 (.dP .eql) [.t 132, .k (.str [51, 47, 50])]),
 (54, .o 134 .pick [.t 130, .t 133, .k (.bool false)]),
 (55, .M 135 134),
 (56, .g 135 true 136 (.aF) [.t 10]),
 (57, .g 135 true 137 (.eqN false true) [.t 136, .k (.aB)]),
 (58, .o 138 .pick [.t 135, .t 137, .k (.bool false)]),
 (59, .M 139 138),
 (60, .g 139 true 140 (.aF) [.t 9]),
 (61, .g 139 true 141 (.ah dY) [.t 140]),
 (62, .g 139 true 142 (.dP .eql) [.t 141, .k (.str [49, 48, 48])]),
 (63, .o 143 .pick [.t 139, .t 142, .k (.bool false)]),
 (64, .M 144 143),
 (65, .g 144 true 145 (.aF) [.t 12]),
 (66, .g 144 true 146 (.eqN false true) [.t 145, .k (.aB)]),
 (67, .o 147 .pick [.t 144, .t 146, .k (.bool false)]),
 (68, .M 148 147),
 (69, .g 148 true 149 (.aF) [.t 11]),
 (70, .g 148 true 150 (.ah dY) [.t 149]),
 (71, .g 148 true 151 (.dP .eql) [.t 150, .k (.str [49])]),
 (72, .o 152 .pick [.t 148, .t 151, .k (.bool false)]),
 (73, .M 153 152),
 (74, .g 153 true 154 (.aF) [.t 14]),
 (75, .g 153 true 155 (.eqN false true) [.t 154, .k (.aB)]),
 (76, .o 156 .pick [.t 153, .t 155, .k (.bool false)]),
 (77, .M 157 156),
 (78, .g 157 true 158 (.aF) [.t 13]),
 (79, .g 157 true 159 (.ah iL) [.t 158]),
 (80, .g 157 true 160 (.aj .gtr) [.t 159, .k (.int .i64 0)]),
 (81, .o 161 .pick [.t 157, .t 160, .k (.bool false)]),
 (82, .M 162 161),
 (83, .g 162 true 163 (.aN 9) [.t 1]),
 (84, .g 162 true 164 (.ah jB) [.t 163]),
 (85, .g 162 true 165 (.aj .eql) [.t 164, .k (.int .i64 6)]),
 (86, .o 166 .pick [.t 162, .t 165, .k (.bool false)]),
 (87, .M 167 166),
 (88, .g 167 true 168 (.aN 9) [.t 1]),
 (89, .g 167 true 169 (.ah jA) [.t 168]),
 (90, .g 167 true 170 (.ah dY) [.t 169]),
 (91, .g 167 true 171 (.dP .eql) [.t 170, .k (.str [54])]),
 (92, .o 172 .pick [.t 167, .t 171, .k (.bool false)]),
 (93, .M 173 172),
 (94, .g 173 true 174 (.aF) [.t 2]),
 (95, .g 173 true 175 (.ay 0) [.t 1]),
 (96, .g 173 true 176 (.ak) [.t 175]),
 (97, .g 173 true 177 (.ah CS) [.t 174, .t 176]),
 (98, .g 173 true 178 (.aj .eql) [.t 177, .k (.int .i64 0)]),
 (99, .o 179 .pick [.t 173, .t 178, .k (.bool false)]),
 (100, .M 0 179)])
 .ret)))))))))))⟩
def rW : EF := ⟨[0, 1], [.cell 4 true 9], (.seq (.region 1 [.o 4 (.alloc 0 [.int .i64 0, .int .i64 0, .int .i64 0, .str [], .str [], .int .i64 0, .int .i64 0, .bool false, .int .i64 0]) []])
 (.seq (.region 0 [.M 5 0,
 .M 6 1,
 .o 7 (.build [.int .i64 0, .int .i64 0, .int .i64 0, .str [], .str [], .int .i64 0, .int .i64 0, .bool false, .int .i64 0] [(0, 1), (1, 1), (2, 1), (3, 1), (4, 1), (5, 1), (6, 1)]) [.k (.int .i64 36524), .k (.int .i64 38351), .k (.int .i64 2), .t 5, .k (.str [49, 48, 48]), .t 6, .k (.int .i64 0)],
 ⟨.store 9, [.t 4, .t 7], none, none⟩])
 .ret))⟩
def tJ : EF := ⟨[0], [.tmp 2], (.seq (.region 0 [.C 2 (.int .i64 0)])
 (.seq (.region 0 [.M 3 0,
 .o 4 (.aj .rem) [.t 3, .k (.int .i64 109573)],
 .o 5 (.aj .add) [.t 4, .k (.int .i64 109572)],
 .o 6 (.aj .add) [.t 5, .k (.int .i64 1)],
 .o 7 (.aj .rem) [.t 6, .k (.int .i64 109573)],
 .M 2 7])
 .ret))⟩
def dL : EC := (.seq (.seq (.region 0 [.M 28 1,
 .o 29 (.aj .gtr) [.t 28, .k (.int .i64 0)]])
 (.cond (.t 29) .skip
 (.exit 0)))
 (.seq (.join [1, 8, 9] (.block 1 (.seq (.region 0 [.o 32 (.ay 1) [.t 8],
 .o 33 .ak [.t 32],
 .o 34 (.aj .add) [.t 33, .k (.int .i64 1)],
 .o 35 (.ay 1) [.t 8],
 ⟨.store 1, [.t 35, .t 34], none, none⟩])
 (.seq (.region 0 [.o 36 (.ay 1) [.t 8],
 .o 37 .ak [.t 36],
 .o 38 (.aj .gtr) [.t 37, .k (.int .i64 12)]])
 (.join [1, 8, 9] (.cond (.t 38) (.region 0 [.o 39 (.ay 0) [.t 8],
 .o 40 .ak [.t 39],
 .o 41 (.aj .add) [.t 40, .k (.int .i64 1)],
 .o 42 (.ay 0) [.t 8],
 ⟨.store 1, [.t 42, .t 41], none, none⟩,
 .o 43 (.ay 1) [.t 8],
 ⟨.store 1, [.t 43, .k (.int .i64 1)], none, none⟩])
 .skip))))))
 (.region 0 [.M 30 1,
 .o 31 (.aj .sub) [.t 30, .k (.int .i64 1)],
 .M 1 31])))
def dZ : EC := (.seq (.seq (.region 0 [.M 44 1,
 .o 45 (.aj .lss) [.t 44, .k (.int .i64 0)]])
 (.cond (.t 45) .skip
 (.exit 2)))
 (.seq (.join [1, 8, 9] (.block 3 (.seq (.region 0 [.o 48 (.ay 1) [.t 8],
 .o 49 .ak [.t 48],
 .o 50 (.aj .sub) [.t 49, .k (.int .i64 1)],
 .o 51 (.ay 1) [.t 8],
 ⟨.store 1, [.t 51, .t 50], none, none⟩])
 (.seq (.region 0 [.o 52 (.ay 1) [.t 8],
 .o 53 .ak [.t 52],
 .o 54 (.aj .lss) [.t 53, .k (.int .i64 1)]])
 (.join [1, 8, 9] (.cond (.t 54) (.region 0 [.o 55 (.ay 0) [.t 8],
 .o 56 .ak [.t 55],
 .o 57 (.aj .sub) [.t 56, .k (.int .i64 1)],
 .o 58 (.ay 0) [.t 8],
 ⟨.store 1, [.t 58, .t 57], none, none⟩,
 .o 59 (.ay 1) [.t 8],
 ⟨.store 1, [.t 59, .k (.int .i64 12)], none, none⟩])
 .skip))))))
 (.region 0 [.M 46 1,
 .o 47 (.aj .add) [.t 46, .k (.int .i64 1)],
 .M 1 47])))
def mJ : EF := ⟨[0, 1, 2], [.tmp 6, .tmp 7], (.seq (.region 0 [.C 6 (.int .i64 0),
 .C 7 (.bool false)])
 (.seq (.seq (.region 0 [.M 10 0,
 .o 11 (.ah gZ) [.t 10],
 .o 12 .not [.t 11],
 .M 13 12,
 .g 13 false 14 (.aF) [.t 1],
 .g 13 false 15 (.aj .lss) [.t 14, .k (.int .i64 (-3600))],
 .o 16 .pick [.t 13, .k (.bool true), .t 15],
 .M 17 16,
 .g 17 false 18 (.aF) [.t 1],
 .g 17 false 19 (.aj .gtr) [.t 18, .k (.int .i64 3600)],
 .o 20 .pick [.t 17, .k (.bool true), .t 19]])
 (.cond (.t 20) (.seq (.region 0 [.C 6 (.int .i64 0),
 .C 7 (.bool false)])
 .ret)
 .skip))
 (.seq (.region 1 [.M 21 0,
 .o 22 (.ah fE) [.t 21],
 .o 8 (.alloc 0 [.int .i64 0, .int .i64 0, .int .i64 0]) [],
 ⟨.store 3, [.t 8, .t 22], none, none⟩])
 (.seq (.region 0 [.M 23 2,
 .M 24 23,
 .g 24 true 25 (.aF) [.t 0],
 .g 24 true 26 (.ah kE) [.t 25],
 .o 27 .pick [.t 24, .t 26, .k (.bool false)],
 .M 9 27])
 (.seq (.block 0 (.loop [1, 8, 9] [1, 8, 9] dL))
 (.seq (.block 2 (.loop [1, 8, 9] [8, 9] dZ))
 (.seq (.seq (.drawn 0 [(0, .M 60 9),
 (1, .M 61 60),
 (2, .g 61 false 62 (.ay 2) [.t 8]),
 (3, .g 61 false 63 (.ak) [.t 62]),
 (4, .g 61 false 64 (.ay 0) [.t 8]),
 (5, .g 61 false 65 (.ak) [.t 64]),
 (6, .g 61 false 66 (.ay 1) [.t 8]),
 (7, .g 61 false 67 (.ak) [.t 66]),
 (8, .g 61 false 68 (.ah dF) [.t 65, .t 67]),
 (9, .g 61 false 69 (.aj .gtr) [.t 63, .t 68]),
 (10, .o 70 .pick [.t 61, .k (.bool true), .t 69])])
 (.join [8] (.cond (.t 70) (.region 0 [.o 71 (.ay 0) [.t 8],
 .o 72 .ak [.t 71],
 .o 73 (.ay 1) [.t 8],
 .o 74 .ak [.t 73],
 .o 75 (.ah dF) [.t 72, .t 74],
 .o 76 (.ay 2) [.t 8],
 ⟨.store 1, [.t 76, .t 75], none, none⟩])
 .skip)))
 (.seq (.region 0 [.o 77 (.aN 3) [.t 8],
 .o 78 (.ah jG) [.t 77],
 .o 79 (.ext 0) [.t 78],
 .o 80 (.ext 1) [.t 78],
 .M 6 79,
 .M 7 80])
 .ret))))))))⟩
def uf : EC := (.seq (.region 0 [.o 30 (.aj .lss) [.t 29, .t 28]])
 (.seq (.cond (.t 30) .skip
 (.exit 0))
 (.seq (.block 1 (.seq (.region 0 [.o 31 (.aQ 1) [.t 27, .t 29],
 .o 32 .ak [.t 31],
 .M 11 32])
 (.seq (.region 1 [.M 33 8,
 .M 34 9,
 .M 35 11,
 .o 36 (.build [.int .i64 0, .int .i64 0] [(0, 1), (1, 1)]) [.t 34, .t 35],
 .o 37 (.xW 2 1 [.int .i64 0, .int .i64 0] [(0, 2)]) [.t 36],
 .o 38 (.app 0 2) [.t 33, .t 37],
 .M 8 38])
 (.region 0 [.M 39 11,
 .M 9 39]))))
 (.region 0 [.o 40 (.aj .add) [.t 29, .k (.int .i64 1)],
 .M 29 40]))))
def LK : EF := ⟨[0], [.tmp 2, .tmp 3], (.seq (.region 1 [.o 1 (.box 0) [.t 0],
 .C 2 (.bK),
 .C 3 (.aB)])
 (.seq (.seq (.region 0 [.o 12 (.aN 9) [.t 1],
 .o 13 (.ah jd) [.t 12],
 .M 4 13])
 (.seq (.region 0 [.M 14 4,
 .o 15 (.eqN true true) [.t 14, .k (.aB)]])
 (.cond (.t 15) (.seq (.region 0 [.M 16 4,
 .C 2 (.bK),
 .M 3 16])
 .ret)
 .skip)))
 (.seq (.region 0 [.o 18 (.aN 9) [.t 1],
 .o 19 (.aY rF) [.t 18],
 .M 17 19,
 .o 20 (.ext 0) [.t 17],
 .o 21 (.ext 1) [.t 17],
 .o 22 (.ext 2) [.t 17],
 .M 5 20,
 .M 6 21,
 .M 7 22])
 (.seq (.region 0 [.M 23 5,
 .o 24 (.aY slices_Reverse_int) [.t 23]])
 (.seq (.region 0 [.C 8 (.bK)])
 (.seq (.region 0 [.o 25 (.ay 0) [.t 1],
 .o 26 .ak [.t 25],
 .M 9 26])
 (.seq (.seq (.region 0 [.M 27 5,
 .o 28 .aZ [.t 27],
 .C 29 (.int .i64 0)])
 (.block 0 (.loop [1, 6, 7, 8, 9, 27, 28, 29] [1, 6, 7, 8] uf)))
 (.seq (.seq (.region 0 [.M 41 7,
 .M 42 41,
 .g 42 true 43 (.aF) [.t 6],
 .g 42 true 44 (.ay 0) [.t 1],
 .g 42 true 45 (.ak) [.t 44],
 .g 42 true 46 (.aj .eql) [.t 43, .t 45],
 .o 47 .pick [.t 42, .t 46, .k (.bool false)]])
 (.cond (.t 47) (.seq (.region 0 [.M 48 8,
 .M 2 48,
 .C 3 (.aB)])
 .ret)
 .skip))
 (.seq (.join [2, 3, 8] (.block 2 (.seq (.region 0 [.o 50 (.ay 6) [.t 1],
 .o 51 .ak [.t 50],
 .o 52 (.aj .eql) [.t 51, .k (.int .i64 0)],
 .M 49 52])
 (.join [2, 3, 8] (.cond (.t 49) (.seq (.region 0 [.o 53 (.ah eH) [.k (.int .i64 5), .k (.str [115, 116, 117, 98])],
 .C 2 (.bK),
 .M 3 53])
 .ret)
 (.seq (.region 0 [.o 55 (.ay 6) [.t 1],
 .o 56 .ak [.t 55],
 .o 57 (.aj .eql) [.t 56, .k (.int .i64 2)],
 .M 58 57,
 .g 58 true 59 (.aF) [.t 8],
 .g 58 true 60 (.aZ) [.t 59],
 .g 58 true 61 (.aj .gtr) [.t 60, .k (.int .i64 1)],
 .o 62 .pick [.t 58, .t 61, .k (.bool false)],
 .M 54 62])
 (.join [8] (.cond (.t 54) (.seq (.region 0 [.M 63 8,
 .o 64 (.ay 0) [.t 1],
 .o 65 .ak [.t 64],
 .o 66 (.aQ 2) [.t 63, .k (.int .i64 1)],
 .o 67 (.ay 0) [.t 66],
 ⟨.store 1, [.t 67, .t 65], none, none⟩])
 (.region 0 [.M 68 8,
 .o 69 (.Hr 2 true false) [.t 68, .k (.int .i64 1)],
 .M 8 69]))
 .skip))))))))
 (.seq (.region 0 [.M 70 8,
 .M 2 70,
 .C 3 (.aB)])
 .ret))))))))))⟩
def rX : EF := ⟨[0, 1], [.tmp 4], (.seq (.region 0 [.C 4 (.bool false)])
 (.seq (.region 0 [.M 5 0,
 .o 6 (.ah j_) [.t 5],
 .M 7 1,
 .o 8 (.aj .eql) [.t 6, .t 7],
 .M 4 8])
 .ret))⟩
def yZ : EF := ⟨[0, 1], [.tmp 4], (.seq (.region 2 [.o 2 (.box 0) [.t 0],
 .o 3 (.box 1) [.t 1],
 .C 4 (.bool false)])
 (.seq (.region 0 [.o 8 (.aN 9) [.t 2],
 .o 9 (.ay 1) [.t 3],
 .o 10 .ak [.t 9],
 .o 11 (.ah lI) [.t 8, .t 10],
 .M 7 11,
 .o 12 (.ext 0) [.t 7],
 .o 13 (.ext 1) [.t 7],
 .M 5 12,
 .M 6 13])
 (.seq (.region 0 [.M 14 6,
 .o 15 (.eqN false true) [.t 14, .k (.aB)],
 .M 16 15,
 .g 16 true 17 (.aF) [.t 5],
 .g 16 true 18 (.ay 0) [.t 3],
 .g 16 true 19 (.ak) [.t 18],
 .g 16 true 20 (.aj .eql) [.t 17, .t 19],
 .o 21 .pick [.t 16, .t 20, .k (.bool false)],
 .M 4 21])
 .ret)))⟩
def FD : EF := ⟨[0, 1], [.tmp 4, .tmp 5], (.seq (.region 0 [.C 4 (.int .i64 0),
 .C 5 (.aB)])
 (.seq (.region 0 [.M 6 0,
 .M 7 1,
 .M 8 0,
 .M 9 1,
 .o 10 (.ah fO) [.t 8, .t 9],
 .o 11 (.build [.int .i64 0, .int .i64 0, .int .i64 0] [(0, 1), (1, 1), (2, 1)]) [.t 6, .t 7, .t 10],
 .o 12 (.ah qM) [.t 11],
 .o 13 (.ext 0) [.t 12],
 .o 14 (.ext 1) [.t 12],
 .M 4 13,
 .M 5 14])
 .ret))⟩
def Dl : EF := ⟨[0], [.tmp 2], (.seq (.region 0 [.C 2 (.bool false)])
 (.seq (.region 1 [.M 6 0,
 .o 7 (.ah eF) [.t 6],
 .M 5 7,
 .o 8 (.ext 0) [.t 5],
 .o 9 (.ext 1) [.t 5],
 .o 3 (.alloc 0 [.int .i64 0, .int .i64 0, .int .i64 0]) [],
 ⟨.store 3, [.t 3, .t 8], none, none⟩,
 .M 4 9])
 (.seq (.drawn 0 [(0, .M 10 4),
 (1, .o 11 (.eqN false true) [.t 10, .k (.aB)]),
 (2, .M 12 11),
 (3, .g 12 true 13 (.ay 2) [.t 3]),
 (4, .g 12 true 14 (.ak) [.t 13]),
 (5, .g 12 true 15 (.ay 0) [.t 3]),
 (6, .g 12 true 16 (.ak) [.t 15]),
 (7, .g 12 true 17 (.ay 1) [.t 3]),
 (8, .g 12 true 18 (.ak) [.t 17]),
 (9, .g 12 true 19 (.ah fO) [.t 16, .t 18]),
 (10, .g 12 true 20 (.aj .eql) [.t 14, .t 19]),
 (11, .o 21 .pick [.t 12, .t 20, .k (.bool false)]),
 (12, .M 2 21)])
 .ret)))⟩
def xO : EF := ⟨[0, 1], [.tmp 4], (.seq (.region 0 [.C 4 (.int .i64 0)])
 (.seq (.region 1 [.M 10 0,
 .o 11 (.ah eF) [.t 10],
 .M 9 11,
 .o 12 (.ext 0) [.t 9],
 .o 13 (.ext 1) [.t 9],
 .o 5 (.alloc 0 [.int .i64 0, .int .i64 0, .int .i64 0]) [],
 ⟨.store 3, [.t 5, .t 12], none, none⟩,
 .M 6 13])
 (.seq (.region 1 [.M 15 1,
 .o 16 (.ah eF) [.t 15],
 .M 14 16,
 .o 17 (.ext 0) [.t 14],
 .o 18 (.ext 1) [.t 14],
 .o 7 (.alloc 0 [.int .i64 0, .int .i64 0, .int .i64 0]) [],
 ⟨.store 3, [.t 7, .t 17], none, none⟩,
 .M 8 18])
 (.seq (.seq (.region 0 [.M 19 6,
 .o 20 (.eqN true true) [.t 19, .k (.aB)],
 .M 21 20,
 .g 21 false 22 (.aF) [.t 8],
 .g 21 false 23 (.eqN true true) [.t 22, .k (.aB)],
 .o 24 .pick [.t 21, .k (.bool true), .t 23]])
 (.cond (.t 24) (.seq (.region 0 [.C 4 (.int .i64 0)])
 .ret)
 .skip))
 (.seq (.region 0 [.o 25 (.ay 0) [.t 7],
 .o 26 .ak [.t 25],
 .o 27 (.ay 0) [.t 5],
 .o 28 .ak [.t 27],
 .o 29 (.aj .sub) [.t 26, .t 28],
 .o 30 (.aj .mul) [.t 29, .k (.int .i64 12)],
 .o 31 (.ay 1) [.t 7],
 .o 32 .ak [.t 31],
 .o 33 (.aj .add) [.t 30, .t 32],
 .o 34 (.ay 1) [.t 5],
 .o 35 .ak [.t 34],
 .o 36 (.aj .sub) [.t 33, .t 35],
 .M 4 36])
 .ret)))))⟩
def lC : EC := (.seq (.region 0 [.o 24 (.aj .lss) [.t 23, .t 22]])
 (.seq (.cond (.t 24) .skip
 (.exit 0))
 (.seq (.join [1, 2, 3, 4, 6, 7, 21, 22, 23] (.block 1 (.seq (.region 1 [.M 25 23,
 .o 26 (.aQ 2) [.t 21, .t 23],
 .o 27 (.aN 2) [.t 26],
 .o 9 (.alloc 0 [.int .i64 0, .int .i64 0]) [],
 .M 8 25,
 ⟨.store 2, [.t 9, .t 27], none, none⟩])
 (.seq (.region 0 [.M 28 6,
 .M 10 28])
 (.seq (.seq (.region 0 [.M 29 8,
 .o 30 (.aj .eql) [.t 29, .k (.int .i64 0)]])
 (.join [1, 2, 3, 4, 6, 7, 8, 9, 10, 21, 22, 23] (.cond (.t 30) (.seq (.region 0 [.o 32 (.aN 9) [.t 1],
 .o 33 (.aN 2) [.t 9],
 .o 34 (.ah qY) [.t 32, .t 33],
 .M 31 34,
 .o 35 (.ext 0) [.t 31],
 .o 36 (.ext 1) [.t 31],
 .M 10 35,
 .M 5 36])
 (.seq (.region 0 [.M 37 5,
 .o 38 (.eqN true true) [.t 37, .k (.aB)]])
 (.cond (.t 38) (.seq (.region 0 [.M 39 5,
 .C 2 (.bK),
 .M 3 39])
 .ret)
 .skip)))
 .skip)))
 (.seq (.seq (.region 0 [.M 40 8,
 .M 41 4,
 .o 42 .aZ [.t 41],
 .o 43 (.aj .sub) [.t 42, .k (.int .i64 1)],
 .o 44 (.aj .eql) [.t 40, .t 43]])
 (.join [1, 4, 6, 7, 9, 10, 21, 22, 23] (.cond (.t 44) (.region 0 [.M 45 10,
 .o 46 (.aN 9) [.t 1],
 .o 47 (.ah kU) [.t 46],
 .o 48 (.ah iV) [.t 45, .t 47],
 .M 10 48])
 .skip)))
 (.drawn 1 [(0, .M 49 7),
 (1, .o 50 (.ay 1) [.t 9]),
 (2, .o 51 .ak [.t 50]),
 (3, .M 52 10),
 (4, .o 53 (.ah dY) [.t 52]),
 (5, .o 54 (.build [.int .i64 0, .str []] [(0, 1), (1, 1)]) [.t 51, .t 53]),
 (6, .o 55 (.xW 2 1 [.int .i64 0, .str []] [(0, 2)]) [.t 54]),
 (7, .o 56 (.app 0 2) [.t 49, .t 55]),
 (8, .M 7 56)])))))))
 (.region 0 [.o 57 (.aj .add) [.t 23, .k (.int .i64 1)],
 .M 23 57]))))
def LC : EF := ⟨[0], [.tmp 2, .tmp 3], (.seq (.region 1 [.o 1 (.box 0) [.t 0],
 .C 2 (.bK),
 .C 3 (.aB)])
 (.seq (.region 0 [.o 12 (.aN 9) [.t 1],
 .o 13 (.ah iU) [.t 12],
 .M 11 13,
 .o 14 (.ext 0) [.t 11],
 .o 15 (.ext 1) [.t 11],
 .M 4 14,
 .M 5 15])
 (.seq (.seq (.region 0 [.M 16 5,
 .o 17 (.eqN true true) [.t 16, .k (.aB)]])
 (.cond (.t 17) (.seq (.region 0 [.M 18 5,
 .C 2 (.bK),
 .M 3 18])
 .ret)
 .skip))
 (.seq (.region 0 [.o 19 (.aN 9) [.t 1],
 .o 20 (.ah nZ) [.t 19],
 .M 6 20])
 (.seq (.region 0 [.C 7 (.bK)])
 (.seq (.seq (.region 0 [.M 21 4,
 .o 22 .aZ [.t 21],
 .C 23 (.int .i64 0)])
 (.block 0 (.loop [1, 4, 6, 7, 21, 22, 23] [2, 3, 7] lC)))
 (.seq (.region 0 [.M 58 7,
 .M 2 58,
 .C 3 (.aB)])
 .ret)))))))⟩
def qm : EF := ⟨[0], [.tmp 2, .tmp 3], (.seq (.region 1 [.o 1 (.box 0) [.t 0],
 .C 2 (.int .i64 0),
 .C 3 (.str [])])
 (.seq (.seq (.region 0 [.o 10 (.ay 0) [.t 1],
 .o 11 .ak [.t 10],
 .o 12 (.ah gZ) [.t 11],
 .o 13 .not [.t 12]])
 (.cond (.t 13) (.seq (.region 0 [.C 2 (.int .i64 4),
 .C 3 (.str [105, 115, 115, 117, 101])])
 .ret)
 .skip))
 (.seq (.seq (.region 0 [.o 14 (.ay 1) [.t 1],
 .o 15 .ak [.t 14],
 .o 16 (.ah gZ) [.t 15],
 .o 17 .not [.t 16]])
 (.cond (.t 17) (.seq (.region 0 [.C 2 (.int .i64 4),
 .C 3 (.str [109, 97, 116, 117, 114, 101])])
 .ret)
 .skip))
 (.seq (.region 0 [.o 19 (.ay 0) [.t 1],
 .o 20 .ak [.t 19],
 .o 21 (.ah bY) [.t 20, .k (.int .i64 360), .k (.bool false)],
 .M 18 21,
 .o 22 (.ext 0) [.t 18],
 .o 23 (.ext 1) [.t 18],
 .M 4 22,
 .M 5 23])
 (.seq (.seq (.region 0 [.o 24 (.ay 1) [.t 1],
 .o 25 .ak [.t 24],
 .o 26 (.ay 0) [.t 1],
 .o 27 .ak [.t 26],
 .o 28 (.aj .leq) [.t 25, .t 27],
 .M 29 28,
 .g 29 false 30 (.aF) [.t 5],
 .g 29 false 31 (.aF) [.t 30],
 .g 31 true 32 (.ay 1) [.t 1],
 .g 31 true 33 (.ak) [.t 32],
 .g 31 true 34 (.aF) [.t 4],
 .g 31 true 35 (.aj .gtr) [.t 33, .t 34],
 .g 29 false 36 (.pick) [.t 31, .t 35, .k (.bool false)],
 .o 37 .pick [.t 29, .k (.bool true), .t 36]])
 (.cond (.t 37) (.seq (.region 0 [.C 2 (.int .i64 5),
 .C 3 (.str [109, 97, 116, 117, 114, 101])])
 .ret)
 .skip))
 (.seq (.seq (.region 0 [.o 38 (.aN 9) [.t 1],
 .o 39 (.ah gB) [.t 38],
 .o 40 (.aj .eql) [.t 39, .k (.int .i64 0)]])
 (.cond (.t 40) (.seq (.region 0 [.C 2 (.int .i64 5),
 .C 3 (.str [102, 114, 101, 113])])
 .ret)
 .skip))
 (.seq (.seq (.region 1 [.o 42 (.ay 3) [.t 1],
 .o 43 .ak [.t 42],
 .o 44 (.ah dJ) [.t 43, .k (.int .i64 0), .k (.int .i64 30), .k (.bool true)],
 .M 41 44,
 .o 45 (.ext 0) [.t 41],
 .o 46 (.ext 1) [.t 41],
 .o 6 (.alloc 0 [.bool false, .sl 0 [], .sl 0 []]) [],
 ⟨.store 3, [.t 6, .t 45], none, none⟩,
 .M 7 46])
 (.seq (.region 0 [.M 47 7,
 .o 48 (.aj .neq) [.t 47, .k (.int .i64 0)]])
 (.cond (.t 48) (.seq (.region 0 [.M 49 7,
 .M 2 49,
 .C 3 (.str [99, 111, 117, 112, 111, 110])])
 .ret)
 .skip)))
 (.seq (.seq (.region 1 [.o 51 (.ay 4) [.t 1],
 .o 52 .ak [.t 51],
 .o 53 (.ah dJ) [.t 52, .k (.int .i64 0), .k (.int .i64 200), .k (.bool false)],
 .M 50 53,
 .o 54 (.ext 0) [.t 50],
 .o 55 (.ext 1) [.t 50],
 .o 8 (.alloc 0 [.bool false, .sl 0 [], .sl 0 []]) [],
 ⟨.store 3, [.t 8, .t 54], none, none⟩,
 .M 9 55])
 (.seq (.region 0 [.M 56 9,
 .o 57 (.aj .neq) [.t 56, .k (.int .i64 0)]])
 (.cond (.t 57) (.seq (.region 0 [.M 58 9,
 .M 2 58,
 .C 3 (.str [114, 101, 100, 101, 101, 109])])
 .ret)
 .skip)))
 (.seq (.block 0 (.seq (.region 0 [.o 60 (.ay 5) [.t 1],
 .o 61 .ak [.t 60],
 .o 62 (.aj .lss) [.t 61, .k (.int .i64 1)],
 .M 63 62,
 .g 63 false 64 (.ay 5) [.t 1],
 .g 63 false 65 (.ak) [.t 64],
 .g 63 false 66 (.aj .gtr) [.t 65, .k (.int .i64 4)],
 .o 67 .pick [.t 63, .k (.bool true), .t 66],
 .M 59 67])
 (.cond (.t 59) (.seq (.region 0 [.C 2 (.int .i64 5),
 .C 3 (.str [99, 111, 117, 110, 116])])
 .ret)
 (.seq (.region 0 [.o 69 (.ay 6) [.t 1],
 .o 70 .ak [.t 69],
 .o 71 (.aj .lss) [.t 70, .k (.int .i64 0)],
 .M 72 71,
 .g 72 false 73 (.ay 6) [.t 1],
 .g 72 false 74 (.ak) [.t 73],
 .g 72 false 75 (.aj .gtr) [.t 74, .k (.int .i64 2)],
 .o 76 .pick [.t 72, .k (.bool true), .t 75],
 .M 68 76])
 (.cond (.t 68) (.seq (.region 0 [.C 2 (.int .i64 5),
 .C 3 (.str [115, 116, 117, 98])])
 .ret)
 (.seq (.region 0 [.o 78 (.ay 8) [.t 1],
 .o 79 .ak [.t 78],
 .o 80 (.aj .lss) [.t 79, .k (.int .i64 0)],
 .M 81 80,
 .g 81 false 82 (.ay 8) [.t 1],
 .g 81 false 83 (.ak) [.t 82],
 .g 81 false 84 (.aj .gtr) [.t 83, .k (.int .i64 30)],
 .o 85 .pick [.t 81, .k (.bool true), .t 84],
 .M 77 85])
 (.cond (.t 77) (.seq (.region 0 [.C 2 (.int .i64 5),
 .C 3 (.str [101, 120])])
 .ret)
 (.seq (.drawn 0 [(0, .o 87 (.ay 0) [.t 1]),
 (1, .o 88 .ak [.t 87]),
 (2, .o 89 (.ay 1) [.t 1]),
 (3, .o 90 .ak [.t 89]),
 (4, .o 91 (.ah gG) [.t 88, .t 90]),
 (5, .o 92 (.aN 9) [.t 1]),
 (6, .o 93 (.ah gB) [.t 92]),
 (7, .o 94 (.aj .quo) [.t 91, .t 93]),
 (8, .o 95 (.aj .add) [.t 94, .k (.int .i64 2)]),
 (9, .o 96 (.aj .gtr) [.t 95, .k (.int .i64 200)]),
 (10, .M 86 96)])
 (.cond (.t 86) (.seq (.region 0 [.C 2 (.int .i64 5),
 .C 3 (.str [102, 108, 111, 119, 115])])
 .ret)
 .skip)))))))))
 (.seq (.region 0 [.C 2 (.int .i64 0),
 .C 3 (.str [])])
 .ret))))))))))⟩
def Dc : EF := ⟨[0], [.tmp 2], (.seq (.region 1 [.o 1 (.box 0) [.t 0],
 .C 2 (.aB)])
 (.seq (.seq (.region 0 [.o 5 (.aN 9) [.t 1],
 .o 6 (.ah xR) [.t 5],
 .M 3 6])
 (.seq (.region 0 [.M 7 3,
 .o 8 (.eqN true true) [.t 7, .k (.aB)]])
 (.cond (.t 8) (.seq (.region 0 [.M 9 3,
 .M 2 9])
 .ret)
 .skip)))
 (.seq (.seq (.region 0 [.o 10 (.aN 9) [.t 1],
 .o 11 (.ah jB) [.t 10],
 .o 12 (.aj .eql) [.t 11, .k (.int .i64 0)]])
 (.cond (.t 12) (.seq (.region 0 [.o 13 (.ah eH) [.k (.int .i64 5), .k (.str [102, 114, 101, 113])],
 .M 2 13])
 .ret)
 .skip))
 (.seq (.seq (.region 0 [.o 14 (.aN 9) [.t 1],
 .o 15 (.ah xU) [.t 14],
 .M 4 15])
 (.seq (.region 0 [.M 16 4,
 .o 17 (.eqN true true) [.t 16, .k (.aB)]])
 (.cond (.t 17) (.seq (.region 0 [.M 18 4,
 .M 2 18])
 .ret)
 .skip)))
 (.seq (.block 0 (.seq (.region 0 [.o 20 (.ay 5) [.t 1],
 .o 21 .ak [.t 20],
 .o 22 (.ah tH) [.t 21],
 .o 23 .not [.t 22],
 .M 19 23])
 (.cond (.t 19) (.seq (.region 0 [.o 24 (.ah eH) [.k (.int .i64 5), .k (.str [99, 111, 117, 110, 116])],
 .M 2 24])
 .ret)
 (.seq (.region 0 [.o 26 (.ay 6) [.t 1],
 .o 27 .ak [.t 26],
 .o 28 (.aj .lss) [.t 27, .k (.int .i64 0)],
 .M 29 28,
 .g 29 false 30 (.ay 6) [.t 1],
 .g 29 false 31 (.ak) [.t 30],
 .g 29 false 32 (.aj .gtr) [.t 31, .k (.int .i64 2)],
 .o 33 .pick [.t 29, .k (.bool true), .t 32],
 .M 25 33])
 (.cond (.t 25) (.seq (.region 0 [.o 34 (.ah eH) [.k (.int .i64 5), .k (.str [115, 116, 117, 98])],
 .M 2 34])
 .ret)
 (.seq (.region 0 [.o 36 (.ay 8) [.t 1],
 .o 37 .ak [.t 36],
 .o 38 (.aj .lss) [.t 37, .k (.int .i64 0)],
 .M 39 38,
 .g 39 false 40 (.ay 8) [.t 1],
 .g 39 false 41 (.ak) [.t 40],
 .g 39 false 42 (.aj .gtr) [.t 41, .k (.int .i64 30)],
 .o 43 .pick [.t 39, .k (.bool true), .t 42],
 .M 35 43])
 (.cond (.t 35) (.seq (.region 0 [.o 44 (.ah eH) [.k (.int .i64 5), .k (.str [101, 120])],
 .M 2 44])
 .ret)
 (.seq (.drawn 0 [(0, .o 46 (.ay 0) [.t 1]),
 (1, .o 47 .ak [.t 46]),
 (2, .o 48 (.ay 1) [.t 1]),
 (3, .o 49 .ak [.t 48]),
 (4, .o 50 (.ah gJ) [.t 47, .t 49]),
 (5, .o 51 (.aN 9) [.t 1]),
 (6, .o 52 (.ah jB) [.t 51]),
 (7, .o 53 (.aj .quo) [.t 50, .t 52]),
 (8, .o 54 (.aj .add) [.t 53, .k (.int .i64 2)]),
 (9, .o 55 (.aj .gtr) [.t 54, .k (.int .i64 200)]),
 (10, .M 45 55)])
 (.cond (.t 45) (.seq (.region 0 [.o 56 (.ah eH) [.k (.int .i64 5), .k (.str [102, 108, 111, 119, 115])],
 .M 2 56])
 .ret)
 .skip)))))))))
 (.seq (.region 0 [.C 2 (.aB)])
 .ret))))))⟩
def aiy : EF := ⟨[0, 1], [.tmp 4, .tmp 5], (.seq (.region 1 [.o 2 (.box 0) [.t 0],
 .C 4 (.aK),
 .C 5 (.aB)])
 (.seq (.region 1 [.o 13 (.aN 9) [.t 2],
 .M 14 1,
 .o 15 (.ah w_) [.t 13, .t 14],
 .M 12 15,
 .o 16 (.ext 0) [.t 12],
 .o 17 (.ext 1) [.t 12],
 .o 6 (.alloc 0 [.int .i64 0, .int .i64 0]) [],
 ⟨.store 2, [.t 6, .t 16], none, none⟩,
 .M 7 17])
 (.seq (.seq (.region 0 [.M 18 7,
 .o 19 (.eqN true true) [.t 18, .k (.aB)]])
 (.cond (.t 19) (.seq (.region 0 [.M 20 7,
 .C 4 (.aK),
 .M 5 20])
 .ret)
 .skip))
 (.seq (.region 0 [.o 22 (.aN 9) [.t 2],
 .o 23 (.aN 2) [.t 6],
 .M 24 1,
 .o 25 (.ah FX) [.t 22, .t 23, .t 24],
 .M 21 25,
 .o 26 (.ext 0) [.t 21],
 .o 27 (.ext 1) [.t 21],
 .M 8 26,
 .M 7 27])
 (.seq (.seq (.region 0 [.M 28 7,
 .o 29 (.eqN true true) [.t 28, .k (.aB)]])
 (.cond (.t 29) (.seq (.region 0 [.M 30 7,
 .C 4 (.aK),
 .M 5 30])
 .ret)
 .skip))
 (.seq (.seq (.region 0 [.o 32 (.aN 9) [.t 2],
 .M 33 1,
 .o 34 (.ah En) [.t 32, .t 33],
 .M 31 34,
 .o 35 (.ext 0) [.t 31],
 .o 36 (.ext 1) [.t 31],
 .M 9 35,
 .M 10 36])
 (.seq (.region 0 [.M 37 9,
 .o 38 .not [.t 37]])
 (.cond (.t 38) (.seq (.region 0 [.M 39 8,
 .M 4 39,
 .C 5 (.aB)])
 .ret)
 .skip)))
 (.seq (.region 0 [.o 41 (.aN 9) [.t 2],
 .o 42 (.aN 2) [.t 6],
 .o 43 (.ah qY) [.t 41, .t 42],
 .M 40 43,
 .o 44 (.ext 0) [.t 40],
 .o 45 (.ext 1) [.t 40],
 .M 11 44,
 .M 7 45])
 (.seq (.seq (.region 0 [.M 46 7,
 .o 47 (.eqN true true) [.t 46, .k (.aB)]])
 (.cond (.t 47) (.seq (.region 0 [.M 48 7,
 .C 4 (.aK),
 .M 5 48])
 .ret)
 .skip))
 (.seq (.region 0 [.M 49 8,
 .M 50 11,
 .o 51 (.ah jD) [.t 49, .t 50],
 .M 4 51,
 .C 5 (.aB)])
 .ret)))))))))⟩
def abD : EF := ⟨[0, 1, 2], [.tmp 6, .tmp 7], (.seq (.region 1 [.o 3 (.box 0) [.t 0],
 .C 6 (.aK),
 .C 7 (.aB)])
 (.seq (.region 0 [.o 18 (.aN 9) [.t 3],
 .M 19 1,
 .o 20 (.ah wR) [.t 18, .t 19],
 .M 17 20,
 .o 21 (.ext 0) [.t 17],
 .o 22 (.ext 1) [.t 17],
 .M 8 21,
 .M 9 22])
 (.seq (.seq (.region 0 [.M 23 9,
 .o 24 (.eqN true true) [.t 23, .k (.aB)]])
 (.cond (.t 24) (.seq (.region 0 [.M 25 9,
 .C 6 (.aK),
 .M 7 25])
 .ret)
 .skip))
 (.seq (.seq (.region 0 [.M 26 2,
 .o 27 (.aj .lss) [.t 26, .k (.int .i64 (-2000000))],
 .M 28 27,
 .g 28 false 29 (.aF) [.t 2],
 .g 28 false 30 (.aj .gtr) [.t 29, .k (.int .i64 100000000)],
 .o 31 .pick [.t 28, .k (.bool true), .t 30]])
 (.cond (.t 31) (.seq (.region 0 [.o 32 (.ah bM) [.k (.int .i64 2)],
 .C 6 (.aK),
 .M 7 32])
 .ret)
 .skip))
 (.seq (.region 0 [.o 34 (.aN 9) [.t 3],
 .M 35 1,
 .o 36 (.ah wF) [.t 34, .t 35],
 .M 33 36,
 .o 37 (.ext 0) [.t 33],
 .o 38 (.ext 1) [.t 33],
 .M 10 37,
 .M 9 38])
 (.seq (.seq (.region 0 [.M 39 9,
 .o 40 (.eqN true true) [.t 39, .k (.aB)]])
 (.cond (.t 40) (.seq (.region 0 [.M 41 9,
 .C 6 (.aK),
 .M 7 41])
 .ret)
 .skip))
 (.seq (.drawn 0 [(0, .o 42 (.ah gV) [.k (.int .i64 100000000)]),
 (1, .o 43 (.ay 2) [.t 3]),
 (2, .o 44 .ak [.t 43]),
 (3, .o 45 (.ah gV) [.t 44]),
 (4, .o 46 (.ah bD) [.t 42, .t 45]),
 (5, .M 11 46)])
 (.seq (.region 0 [.M 47 11,
 .M 48 2,
 .o 49 (.ah gV) [.t 48],
 .o 50 (.ah eX) [.t 47, .t 49],
 .M 12 50])
 (.seq (.region 0 [.M 52 8,
 .M 53 12,
 .M 54 11,
 .o 55 (.ah yD) [.t 52, .t 53, .t 54],
 .M 51 55,
 .o 56 (.ext 0) [.t 51],
 .o 57 (.ext 1) [.t 51],
 .M 13 56,
 .M 14 57])
 (.seq (.region 0 [.M 58 10,
 .o 59 (.ah bJ) [.t 58],
 .M 60 11,
 .o 61 (.ah bD) [.t 59, .t 60],
 .M 15 61])
 (.seq (.region 0 [.M 62 15,
 .M 63 10,
 .o 64 (.ah bZ) [.t 63],
 .M 65 2,
 .o 66 (.ah gV) [.t 65],
 .o 67 (.ah bD) [.t 64, .t 66],
 .o 68 (.ah eX) [.t 62, .t 67],
 .M 16 68])
 (.seq (.seq (.region 0 [.M 69 16,
 .o 70 (.ah bT) [.t 69],
 .o 71 (.aj .leq) [.t 70, .k (.int .i64 0)]])
 (.cond (.t 71) (.seq (.region 0 [.o 72 (.ah bM) [.k (.int .i64 3)],
 .C 6 (.aK),
 .M 7 72])
 .ret)
 .skip))
 (.seq (.region 0 [.M 73 13,
 .M 74 15,
 .o 75 (.ah bD) [.t 73, .t 74],
 .M 76 14,
 .M 77 16,
 .o 78 (.ah bD) [.t 76, .t 77],
 .o 79 (.ah lS) [.t 75, .t 78],
 .o 80 (.ext 0) [.t 79],
 .o 81 (.ext 1) [.t 79],
 .M 6 80,
 .M 7 81])
 .ret)))))))))))))⟩
def ac1 : EF := ⟨[0, 1], [.tmp 4, .tmp 5], (.seq (.region 1 [.o 2 (.box 0) [.t 0],
 .C 4 (.aK),
 .C 5 (.aB)])
 (.seq (.region 0 [.o 17 (.aN 9) [.t 2],
 .M 18 1,
 .o 19 (.ah zh) [.t 17, .t 18],
 .M 16 19,
 .o 20 (.ext 0) [.t 16],
 .o 21 (.ext 1) [.t 16],
 .o 22 (.ext 2) [.t 16],
 .M 6 20,
 .M 7 21,
 .M 8 22])
 (.seq (.seq (.region 0 [.M 23 8,
 .o 24 (.eqN true true) [.t 23, .k (.aB)]])
 (.cond (.t 24) (.seq (.region 0 [.M 25 8,
 .C 4 (.aK),
 .M 5 25])
 .ret)
 .skip))
 (.seq (.region 1 [.M 26 6,
 .M 27 7,
 .o 28 (.aQ 2) [.t 26, .t 27],
 .o 29 (.aN 2) [.t 28],
 .o 9 (.alloc 0 [.int .i64 0, .int .i64 0]) [],
 ⟨.store 2, [.t 9, .t 29], none, none⟩])
 (.seq (.region 0 [.o 31 (.aN 9) [.t 2],
 .o 32 (.aN 2) [.t 9],
 .o 33 (.ay 0) [.t 9],
 .o 34 .ak [.t 33],
 .o 35 (.ay 1) [.t 9],
 .o 36 .ak [.t 35],
 .o 37 (.ah qE) [.t 31, .t 32, .t 34, .t 36],
 .M 30 37,
 .o 38 (.ext 0) [.t 30],
 .o 39 (.ext 1) [.t 30],
 .M 10 38,
 .M 8 39])
 (.seq (.seq (.region 0 [.M 40 8,
 .o 41 (.eqN true true) [.t 40, .k (.aB)]])
 (.cond (.t 41) (.seq (.region 0 [.M 42 8,
 .C 4 (.aK),
 .M 5 42])
 .ret)
 .skip))
 (.seq (.region 0 [.o 44 (.aN 9) [.t 2],
 .o 45 (.aN 2) [.t 9],
 .o 46 (.ay 0) [.t 9],
 .o 47 .ak [.t 46],
 .M 48 1,
 .o 49 (.ah qE) [.t 44, .t 45, .t 47, .t 48],
 .M 43 49,
 .o 50 (.ext 0) [.t 43],
 .o 51 (.ext 1) [.t 43],
 .M 11 50,
 .M 8 51])
 (.seq (.seq (.region 0 [.M 52 8,
 .o 53 (.eqN true true) [.t 52, .k (.aB)]])
 (.cond (.t 53) (.seq (.region 0 [.M 54 8,
 .C 4 (.aK),
 .M 5 54])
 .ret)
 .skip))
 (.seq (.region 0 [.M 56 11,
 .M 57 10,
 .o 58 (.ah kZ) [.t 56, .t 57],
 .M 55 58,
 .o 59 (.ext 0) [.t 55],
 .o 60 (.ext 1) [.t 55],
 .M 12 59,
 .M 8 60])
 (.seq (.seq (.region 0 [.M 61 8,
 .o 62 (.eqN true true) [.t 61, .k (.aB)]])
 (.cond (.t 62) (.seq (.region 0 [.M 63 8,
 .C 4 (.aK),
 .M 5 63])
 .ret)
 .skip))
 (.seq (.region 0 [.o 64 (.ah Gj) [],
 .M 65 12,
 .o 66 (.ah jD) [.t 64, .t 65],
 .M 13 66])
 (.seq (.seq (.region 0 [.o 67 (.aN 9) [.t 2],
 .o 68 (.aN 2) [.t 9],
 .o 69 (.ah gW) [.t 67, .t 68],
 .o 70 .not [.t 69]])
 (.join [13] (.cond (.t 70) (.seq (.region 0 [.o 72 (.ay 2) [.t 2],
 .o 73 .ak [.t 72],
 .o 74 (.ah jq) [.t 73, .k (.int .i64 1)],
 .M 71 74,
 .o 75 (.ext 0) [.t 71],
 .o 76 (.ext 1) [.t 71],
 .M 14 75,
 .M 15 76])
 (.region 0 [.M 77 13,
 .M 78 14,
 .o 79 (.ah fZ) [.t 77, .t 78],
 .M 80 10,
 .o 81 (.ah fZ) [.t 79, .t 80],
 .M 13 81]))
 .skip)))
 (.seq (.region 0 [.M 82 13,
 .M 4 82,
 .C 5 (.aB)])
 .ret)))))))))))))⟩
def Xn : EF := ⟨[0, 1, 2], [.tmp 6, .tmp 7], (.seq (.region 1 [.o 3 (.box 0) [.t 0],
 .C 6 (.aK),
 .C 7 (.aB)])
 (.seq (.seq (.region 0 [.o 18 (.aN 9) [.t 3],
 .M 19 1,
 .M 20 2,
 .o 21 (.ah xw) [.t 18, .t 19, .t 20],
 .M 17 21,
 .o 22 (.ext 0) [.t 17],
 .o 23 (.ext 1) [.t 17],
 .M 8 22,
 .M 9 23])
 (.seq (.region 0 [.M 24 9,
 .o 25 (.eqN true true) [.t 24, .k (.aB)]])
 (.cond (.t 25) (.seq (.region 0 [.M 26 9,
 .C 6 (.aK),
 .M 7 26])
 .ret)
 .skip)))
 (.seq (.region 0 [.o 28 (.aN 9) [.t 3],
 .M 29 1,
 .o 30 (.ah wF) [.t 28, .t 29],
 .M 27 30,
 .o 31 (.ext 0) [.t 27],
 .o 32 (.ext 1) [.t 27],
 .M 10 31,
 .M 11 32])
 (.seq (.seq (.region 0 [.M 33 11,
 .o 34 (.eqN true true) [.t 33, .k (.aB)]])
 (.cond (.t 34) (.seq (.region 0 [.M 35 11,
 .C 6 (.aK),
 .M 7 35])
 .ret)
 .skip))
 (.seq (.drawn 0 [(0, .o 36 (.ah gV) [.k (.int .i64 100000000)]),
 (1, .o 37 (.ay 2) [.t 3]),
 (2, .o 38 .ak [.t 37]),
 (3, .o 39 (.ah gV) [.t 38]),
 (4, .o 40 (.ah bD) [.t 36, .t 39]),
 (5, .M 12 40)])
 (.seq (.region 0 [.M 41 12,
 .M 42 2,
 .o 43 (.ah gV) [.t 42],
 .o 44 (.ah eX) [.t 41, .t 43],
 .M 13 44])
 (.seq (.region 0 [.o 46 (.aN 9) [.t 3],
 .M 47 1,
 .o 48 (.ah yH) [.t 46, .t 47],
 .M 49 13,
 .M 50 12,
 .o 51 (.ah zV) [.t 48, .t 49, .t 50],
 .M 45 51,
 .o 52 (.ext 0) [.t 45],
 .o 53 (.ext 1) [.t 45],
 .M 14 52,
 .M 15 53])
 (.seq (.region 0 [.M 55 14,
 .M 56 15,
 .o 57 (.ah lS) [.t 55, .t 56],
 .M 54 57,
 .o 58 (.ext 0) [.t 54],
 .o 59 (.ext 1) [.t 54],
 .M 16 58,
 .M 11 59])
 (.seq (.seq (.region 0 [.M 60 11,
 .o 61 (.eqN true true) [.t 60, .k (.aB)]])
 (.cond (.t 61) (.seq (.region 0 [.M 62 11,
 .C 6 (.aK),
 .M 7 62])
 .ret)
 .skip))
 (.seq (.drawn 0 [(0, .M 63 16),
 (1, .M 64 10),
 (2, .o 65 (.ah iV) [.t 63, .t 64]),
 (3, .o 66 (.ay 2) [.t 3]),
 (4, .o 67 .ak [.t 66]),
 (5, .o 68 (.ah Oo) [.k (.int .i64 1), .t 67]),
 (6, .o 69 (.ah fZ) [.t 65, .t 68]),
 (7, .M 6 69),
 (8, .C 7 (.aB))])
 .ret))))))))))⟩
def QF : EF := ⟨[], [.tmp 0], (.seq (.region 0 [.C 0 (.bool false)])
 (.seq (.region 0 [.o 1 (.ah pV) [],
 .M 0 1])
 .ret))⟩
def y8 : EF := ⟨[0], [.tmp 2], (.seq (.region 0 [.C 2 (.str [])])
 (.seq (.seq (.region 0 [.M 4 0,
 .o 5 (.ah bJ) [.t 4],
 .o 6 (.ah gU) [.t 5],
 .M 3 6])
 (.seq (.region 0 [.M 7 3,
 .o 8 (.dP .neq) [.t 7, .k (.str [49])]])
 (.cond (.t 8) (.seq (.region 0 [.M 9 0,
 .o 10 (.ah bZ) [.t 9],
 .o 11 (.ah gU) [.t 10],
 .o 12 (.dP .add) [.t 11, .k (.str [47])],
 .M 13 3,
 .o 14 (.dP .add) [.t 12, .t 13],
 .M 2 14])
 .ret)
 .skip)))
 (.seq (.region 0 [.M 15 0,
 .o 16 (.ah bZ) [.t 15],
 .o 17 (.ah gU) [.t 16],
 .M 2 17])
 .ret)))⟩
def y7 : EF := ⟨[0], [.tmp 2], (.seq (.region 0 [.C 2 (.int .i64 0)])
 (.seq (.region 0 [.M 3 0,
 .o 4 (.ah bZ) [.t 3],
 .o 5 (.ah bT) [.t 4],
 .M 2 5])
 .ret))⟩
def Ad : EF := ⟨[0], [.tmp 2], (.seq (.region 1 [.o 1 (.box 0) [.t 0],
 .C 2 (.int .i64 0)])
 (.seq (.seq (.region 0 [.o 3 (.ay 2) [.t 1],
 .o 4 .ak [.t 3]])
 (.join [2] (.block 0 (.seq (.seq (.region 0 [.o 6 (.aj .eql) [.t 4, .k (.int .i64 1)],
 .M 5 6])
 (.join [1, 5] (.cond (.t 5) .skip
 (.seq (.region 0 [.o 7 (.aj .eql) [.t 4, .k (.int .i64 2)],
 .M 5 7])
 (.join [1, 5] (.cond (.t 5) .skip
 (.seq (.region 0 [.o 8 (.aj .eql) [.t 4, .k (.int .i64 4)],
 .M 5 8])
 (.join [1, 5] (.cond (.t 5) .skip
 (.region 0 [.o 9 (.aj .eql) [.t 4, .k (.int .i64 12)],
 .M 5 9]))))))))))
 (.cond (.t 5) (.seq (.region 0 [.o 10 (.ay 2) [.t 1],
 .o 11 .ak [.t 10],
 .o 12 (.aj .quo) [.k (.int .i64 12), .t 11],
 .M 2 12])
 .ret)
 .skip)))))
 (.seq (.region 0 [.C 2 (.int .i64 0)])
 .ret)))⟩
def Ac : EF := ⟨[0], [.tmp 2], (.seq (.region 1 [.o 1 (.box 0) [.t 0],
 .C 2 (.aK)])
 (.seq (.seq (.region 0 [.o 6 (.aN 9) [.t 1],
 .o 7 (.ah jd) [.t 6],
 .o 8 (.eqN true true) [.t 7, .k (.aB)]])
 (.cond (.t 8) (.seq (.region 0 [.o 9 (.ah oC) [.k (.int .i64 0)],
 .M 2 9])
 .ret)
 .skip))
 (.seq (.region 0 [.o 11 (.ay 3) [.t 1],
 .o 12 .ak [.t 11],
 .o 13 (.ah nM) [.t 12],
 .M 10 13,
 .o 14 (.ext 0) [.t 10],
 .o 15 (.ext 1) [.t 10],
 .o 16 (.ext 2) [.t 10],
 .M 3 14,
 .M 4 15,
 .M 5 16])
 (.seq (.region 0 [.M 17 3,
 .M 2 17])
 .ret))))⟩
def aiB : EF := ⟨[0, 1], [.tmp 4], (.seq (.region 1 [.o 3 (.box 0) [.t 1],
 .C 4 (.int .i64 0)])
 (.seq (.region 0 [.M 5 0,
 .o 6 (.V6 Gi) [.t 3],
 .o 7 (.nN iw) [.t 5, .t 6],
 .M 4 7])
 .ret))⟩
def vX : EF := ⟨[0], [.tmp 2], (.seq (.region 0 [.C 2 (.bool false)])
 (.seq (.region 0 [.M 3 0,
 .o 4 (.aj .geq) [.t 3, .k (.int .i64 0)],
 .M 5 4,
 .g 5 true 6 (.aF) [.t 0],
 .g 5 true 7 (.aj .leq) [.t 6, .k (.int .i64 109572)],
 .o 8 .pick [.t 5, .t 7, .k (.bool false)],
 .M 2 8])
 .ret))⟩
def iG : EC := (.seq (.seq (.region 0 [.M 5 0,
 .o 6 (.ay 0) [.t 3],
 .o 7 .ak [.t 6],
 .o 8 (.ah iI) [.t 7],
 .o 9 (.aj .geq) [.t 5, .t 8]])
 (.cond (.t 9) .skip
 (.exit 0)))
 (.block 1 (.seq (.region 0 [.M 10 0,
 .o 11 (.ay 0) [.t 3],
 .o 12 .ak [.t 11],
 .o 13 (.ah iI) [.t 12],
 .o 14 (.aj .sub) [.t 10, .t 13],
 .M 0 14])
 (.region 0 [.o 15 (.ay 0) [.t 3],
 .o 16 .ak [.t 15],
 .o 17 (.aj .add) [.t 16, .k (.int .i64 1)],
 .o 18 (.ay 0) [.t 3],
 ⟨.store 1, [.t 18, .t 17], none, none⟩]))))
def iH : EC := (.seq (.seq (.region 0 [.M 19 0,
 .o 20 (.ay 0) [.t 3],
 .o 21 .ak [.t 20],
 .o 22 (.ay 1) [.t 3],
 .o 23 .ak [.t 22],
 .o 24 (.ah dF) [.t 21, .t 23],
 .o 25 (.aj .geq) [.t 19, .t 24]])
 (.cond (.t 25) .skip
 (.exit 2)))
 (.block 3 (.seq (.region 0 [.M 26 0,
 .o 27 (.ay 0) [.t 3],
 .o 28 .ak [.t 27],
 .o 29 (.ay 1) [.t 3],
 .o 30 .ak [.t 29],
 .o 31 (.ah dF) [.t 28, .t 30],
 .o 32 (.aj .sub) [.t 26, .t 31],
 .M 0 32])
 (.region 0 [.o 33 (.ay 1) [.t 3],
 .o 34 .ak [.t 33],
 .o 35 (.aj .add) [.t 34, .k (.int .i64 1)],
 .o 36 (.ay 1) [.t 3],
 ⟨.store 1, [.t 36, .t 35], none, none⟩]))))
def rY : EF := ⟨[0], [.cell 2 true 3], (.seq (.region 1 [.o 2 (.alloc 0 [.int .i64 0, .int .i64 0, .int .i64 0]) []])
 (.seq (.region 1 [.o 4 (.build [.int .i64 0, .int .i64 0, .int .i64 0] [(0, 1), (1, 1)]) [.k (.int .i64 1900), .k (.int .i64 1)],
 .o 3 (.alloc 0 [.int .i64 0, .int .i64 0, .int .i64 0]) [],
 ⟨.store 3, [.t 3, .t 4], none, none⟩])
 (.seq (.block 0 (.loop [0, 2, 3] [0, 2, 3] iG))
 (.seq (.block 2 (.loop [0, 2, 3] [0, 2, 3] iH))
 (.seq (.region 0 [.M 37 0,
 .o 38 (.aj .add) [.t 37, .k (.int .i64 1)],
 .o 39 (.ay 2) [.t 3],
 ⟨.store 1, [.t 39, .t 38], none, none⟩])
 (.seq (.region 0 [.o 40 (.aN 3) [.t 3],
 ⟨.store 3, [.t 2, .t 40], none, none⟩])
 .ret))))))⟩
def tK : EF := ⟨[0], [.tmp 2], (.seq (.region 0 [.C 2 (.bool false)])
 (.seq (.region 1 [.M 4 0,
 .o 5 (.ah fE) [.t 4],
 .o 3 (.alloc 0 [.int .i64 0, .int .i64 0, .int .i64 0]) [],
 ⟨.store 3, [.t 3, .t 5], none, none⟩])
 (.seq (.drawn 0 [(0, .o 6 (.ay 2) [.t 3]),
 (1, .o 7 .ak [.t 6]),
 (2, .o 8 (.ay 0) [.t 3]),
 (3, .o 9 .ak [.t 8]),
 (4, .o 10 (.ay 1) [.t 3]),
 (5, .o 11 .ak [.t 10]),
 (6, .o 12 (.ah dF) [.t 9, .t 11]),
 (7, .o 13 (.aj .eql) [.t 7, .t 12]),
 (8, .M 2 13)])
 .ret)))⟩
def qo : EF := ⟨[0, 1], [.tmp 4], (.seq (.region 0 [.C 4 (.int .i64 0)])
 (.seq (.seq (.region 0 [.M 5 1])
 (.join [4] (.block 0 (.seq (.seq (.region 0 [.o 7 (.aj .eql) [.t 5, .k (.int .i64 1)],
 .M 6 7])
 (.join [0, 5, 6] (.cond (.t 6) .skip
 (.seq (.region 0 [.o 8 (.aj .eql) [.t 5, .k (.int .i64 3)],
 .M 6 8])
 (.join [0, 5, 6] (.cond (.t 6) .skip
 (.seq (.region 0 [.o 9 (.aj .eql) [.t 5, .k (.int .i64 5)],
 .M 6 9])
 (.join [0, 5, 6] (.cond (.t 6) .skip
 (.seq (.region 0 [.o 10 (.aj .eql) [.t 5, .k (.int .i64 7)],
 .M 6 10])
 (.join [0, 5, 6] (.cond (.t 6) .skip
 (.seq (.region 0 [.o 11 (.aj .eql) [.t 5, .k (.int .i64 8)],
 .M 6 11])
 (.join [0, 5, 6] (.cond (.t 6) .skip
 (.seq (.region 0 [.o 12 (.aj .eql) [.t 5, .k (.int .i64 10)],
 .M 6 12])
 (.join [0, 5, 6] (.cond (.t 6) .skip
 (.region 0 [.o 13 (.aj .eql) [.t 5, .k (.int .i64 12)],
 .M 6 13])))))))))))))))))))
 (.join [4] (.cond (.t 6) (.seq (.region 0 [.C 4 (.int .i64 31)])
 .ret)
 (.seq (.seq (.region 0 [.o 15 (.aj .eql) [.t 5, .k (.int .i64 4)],
 .M 14 15])
 (.join [0, 5, 14] (.cond (.t 14) .skip
 (.seq (.region 0 [.o 16 (.aj .eql) [.t 5, .k (.int .i64 6)],
 .M 14 16])
 (.join [0, 5, 14] (.cond (.t 14) .skip
 (.seq (.region 0 [.o 17 (.aj .eql) [.t 5, .k (.int .i64 9)],
 .M 14 17])
 (.join [0, 5, 14] (.cond (.t 14) .skip
 (.region 0 [.o 18 (.aj .eql) [.t 5, .k (.int .i64 11)],
 .M 14 18]))))))))))
 (.cond (.t 14) (.seq (.region 0 [.C 4 (.int .i64 30)])
 .ret)
 (.seq (.region 0 [.o 20 (.aj .eql) [.t 5, .k (.int .i64 2)],
 .M 19 20])
 (.cond (.t 19) (.seq (.seq (.region 0 [.M 21 0,
 .o 22 (.ah jv) [.t 21]])
 (.cond (.t 22) (.seq (.region 0 [.C 4 (.int .i64 29)])
 .ret)
 .skip))
 (.seq (.region 0 [.C 4 (.int .i64 28)])
 .ret))
 .skip))))))))))
 (.seq (.region 0 [.C 4 (.int .i64 0)])
 .ret)))⟩
def jM : EC := (.seq (.seq (.region 0 [.M 30 5,
 .o 31 (.ay 0) [.t 1],
 .o 32 .ak [.t 31],
 .o 33 (.aj .lss) [.t 30, .t 32]])
 (.cond (.t 33) .skip
 (.exit 0)))
 (.seq (.block 1 (.region 0 [.M 36 4,
 .M 37 5,
 .o 38 (.ah iI) [.t 37],
 .o 39 (.aj .add) [.t 36, .t 38],
 .M 4 39]))
 (.region 0 [.M 34 5,
 .o 35 (.aj .add) [.t 34, .k (.int .i64 1)],
 .M 5 35])))
def jO : EC := (.seq (.seq (.region 0 [.M 40 6,
 .o 41 (.ay 1) [.t 1],
 .o 42 .ak [.t 41],
 .o 43 (.aj .lss) [.t 40, .t 42]])
 (.cond (.t 43) .skip
 (.exit 2)))
 (.seq (.block 3 (.region 0 [.M 46 4,
 .o 47 (.ay 0) [.t 1],
 .o 48 .ak [.t 47],
 .M 49 6,
 .o 50 (.ah dF) [.t 48, .t 49],
 .o 51 (.aj .add) [.t 46, .t 50],
 .M 4 51]))
 (.region 0 [.M 44 6,
 .o 45 (.aj .add) [.t 44, .k (.int .i64 1)],
 .M 6 45])))
def vY : EF := ⟨[0], [.tmp 2, .tmp 3], (.seq (.region 1 [.o 1 (.box 0) [.t 0],
 .C 2 (.int .i64 0),
 .C 3 (.bool false)])
 (.seq (.seq (.drawn 0 [(0, .o 7 (.ay 0) [.t 1]),
 (1, .o 8 .ak [.t 7]),
 (2, .o 9 (.aj .lss) [.t 8, .k (.int .i64 1900)]),
 (3, .M 10 9),
 (4, .g 10 false 11 (.ay 0) [.t 1]),
 (5, .g 10 false 12 (.ak) [.t 11]),
 (6, .g 10 false 13 (.aj .gtr) [.t 12, .k (.int .i64 2199)]),
 (7, .o 14 .pick [.t 10, .k (.bool true), .t 13]),
 (8, .M 15 14),
 (9, .g 15 false 16 (.ay 2) [.t 1]),
 (10, .g 15 false 17 (.ak) [.t 16]),
 (11, .g 15 false 18 (.aj .lss) [.t 17, .k (.int .i64 1)]),
 (12, .o 19 .pick [.t 15, .k (.bool true), .t 18]),
 (13, .M 20 19),
 (14, .g 20 false 21 (.ay 2) [.t 1]),
 (15, .g 20 false 22 (.ak) [.t 21]),
 (16, .g 20 false 23 (.ay 0) [.t 1]),
 (17, .g 20 false 24 (.ak) [.t 23]),
 (18, .g 20 false 25 (.ay 1) [.t 1]),
 (19, .g 20 false 26 (.ak) [.t 25]),
 (20, .g 20 false 27 (.ah dF) [.t 24, .t 26]),
 (21, .g 20 false 28 (.aj .gtr) [.t 22, .t 27]),
 (22, .o 29 .pick [.t 20, .k (.bool true), .t 28])])
 (.cond (.t 29) (.seq (.region 0 [.C 2 (.int .i64 0),
 .C 3 (.bool false)])
 .ret)
 .skip))
 (.seq (.region 0 [.C 4 (.int .i64 0)])
 (.seq (.seq (.region 0 [.C 5 (.int .i64 1900)])
 (.block 0 (.loop [1, 4, 5] [1, 4] jM)))
 (.seq (.seq (.region 0 [.C 6 (.int .i64 1)])
 (.block 2 (.loop [1, 4, 6] [1, 4] jO)))
 (.seq (.region 0 [.M 52 4,
 .o 53 (.ay 2) [.t 1],
 .o 54 .ak [.t 53],
 .o 55 (.aj .add) [.t 52, .t 54],
 .o 56 (.aj .sub) [.t 55, .k (.int .i64 1)],
 .M 2 56,
 .C 3 (.bool true)])
 .ret))))))⟩
def jP : EC := (.seq (.block 1 (.seq (.region 0 [.o 12 (.aN 9) [.t 1],
 .M 13 6,
 .o 14 (.ah nY) [.t 12, .t 13],
 .M 11 14,
 .o 15 (.ext 0) [.t 11],
 .o 16 (.ext 1) [.t 11],
 .M 7 15,
 .M 8 16])
 (.seq (.seq (.region 0 [.M 17 8,
 .o 18 .not [.t 17],
 .M 19 18,
 .g 19 false 20 (.aF) [.t 7],
 .g 19 false 21 (.ay 0) [.t 1],
 .g 19 false 22 (.ak) [.t 21],
 .g 19 false 23 (.aj .leq) [.t 20, .t 22],
 .o 24 .pick [.t 19, .k (.bool true), .t 23]])
 (.cond (.t 24) (.seq (.region 0 [.M 25 5,
 .M 26 7,
 .M 27 8,
 .M 2 25,
 .M 3 26,
 .M 4 27])
 .ret)
 .skip))
 (.region 1 [.M 28 5,
 .M 29 7,
 .o 30 (.xW 1 1 [.int .i64 0] [(0, 1)]) [.t 29],
 .o 31 (.app 0 1) [.t 28, .t 30],
 .M 5 31]))))
 (.region 0 [.M 9 6,
 .o 10 (.aj .add) [.t 9, .k (.int .i64 1)],
 .M 6 10]))
def y5 : EF := ⟨[0], [.tmp 2, .tmp 3, .tmp 4], (.seq (.region 1 [.o 1 (.box 0) [.t 0],
 .C 2 (.bK),
 .C 3 (.int .i64 0),
 .C 4 (.bool false)])
 (.seq (.region 0 [.C 5 (.bK)])
 (.seq (.region 0 [.C 6 (.int .i64 0)])
 (.block 0 (.loop [1, 5, 6] [2, 3, 4] jP)))))⟩
def eG : EC := (.seq (.seq (.region 0 [.M 7 2,
 .M 8 3,
 .o 9 (.aj .lss) [.t 7, .t 8]])
 (.cond (.t 9) .skip
 (.exit 0)))
 (.seq (.block 1 (.drawn 0 [(0, .M 14 0),
 (1, .M 15 2),
 (2, .M 16 0),
 (3, .M 17 3),
 (4, .M 18 0),
 (5, .M 19 3),
 (6, .o 20 (.aQ 1) [.t 18, .t 19]),
 (7, .o 21 .ak [.t 20]),
 (8, .M 22 0),
 (9, .M 23 2),
 (10, .o 24 (.aQ 1) [.t 22, .t 23]),
 (11, .o 25 .ak [.t 24]),
 (12, .o 26 (.aQ 1) [.t 14, .t 15]),
 (13, ⟨.store 1, [.t 26, .t 21], none, none⟩),
 (14, .o 27 (.aQ 1) [.t 16, .t 17]),
 (15, ⟨.store 1, [.t 27, .t 25], none, none⟩)]))
 (.region 0 [.M 10 2,
 .o 11 (.aj .add) [.t 10, .k (.int .i64 1)],
 .M 12 3,
 .o 13 (.aj .sub) [.t 12, .k (.int .i64 1)],
 .M 2 11,
 .M 3 13])))
def qp : EF := ⟨[0], [], (.seq (.region 0 [.M 4 0,
 .o 5 .aZ [.t 4],
 .o 6 (.aj .sub) [.t 5, .k (.int .i64 1)],
 .C 2 (.int .i64 0),
 .M 3 6])
 (.block 0 (.loop [0, 2, 3] [] eG)))⟩
def Fv : EF := ⟨[0, 1], [.tmp 4], (.seq (.region 0 [.C 4 (.aB)])
 (.seq (.seq (.region 0 [.M 5 0,
 .o 6 (.aj .eql) [.t 5, .k (.int .i64 0)]])
 (.cond (.t 6) (.seq (.region 0 [.C 4 (.aB)])
 .ret)
 .skip))
 (.seq (.region 1 [.M 7 0,
 .M 8 1,
 .o 9 (.build [.int .i64 0, .str [], .aB] [(0, 1), (1, 1)]) [.t 7, .t 8],
 .o 10 (.box 0) [.t 9],
 .o 11 (.O8 h_) [.t 10],
 .M 4 11])
 .ret)))⟩
def Dp : EF := ⟨[0, 1], [.tmp 4, .tmp 5], (.seq (.region 1 [.o 2 (.box 0) [.t 0],
 .C 4 (.int .i64 0),
 .C 5 (.aB)])
 (.seq (.seq (.region 0 [.o 10 (.aN 9) [.t 2],
 .o 11 (.ah jd) [.t 10],
 .M 6 11])
 (.seq (.region 0 [.M 12 6,
 .o 13 (.eqN true true) [.t 12, .k (.aB)]])
 (.cond (.t 13) (.seq (.region 0 [.M 14 6,
 .C 4 (.int .i64 0),
 .M 5 14])
 .ret)
 .skip)))
 (.seq (.region 0 [.o 16 (.aN 9) [.t 2],
 .M 17 1,
 .o 18 (.ah wE) [.t 16, .t 17],
 .M 15 18,
 .o 19 (.ext 0) [.t 15],
 .o 20 (.ext 1) [.t 15],
 .M 7 19,
 .M 8 20])
 (.seq (.seq (.region 0 [.M 21 8,
 .o 22 .not [.t 21],
 .M 23 22,
 .g 23 false 24 (.aF) [.t 1],
 .g 23 false 25 (.ay 0) [.t 2],
 .g 23 false 26 (.ak) [.t 25],
 .g 23 false 27 (.aj .leq) [.t 24, .t 26],
 .o 28 .pick [.t 23, .k (.bool true), .t 27]])
 (.cond (.t 28) (.seq (.region 0 [.o 29 (.ah bM) [.k (.int .i64 4)],
 .C 4 (.int .i64 0),
 .M 5 29])
 .ret)
 .skip))
 (.seq (.region 0 [.o 31 (.aN 9) [.t 2],
 .M 32 7,
 .o 33 (.aj .add) [.t 32, .k (.int .i64 1)],
 .o 34 (.ah nY) [.t 31, .t 33],
 .M 30 34,
 .o 35 (.ext 0) [.t 30],
 .o 36 (.ext 1) [.t 30],
 .M 9 35,
 .M 8 36])
 (.seq (.seq (.region 0 [.M 37 8,
 .o 38 .not [.t 37]])
 (.cond (.t 38) (.seq (.region 0 [.o 39 (.ah bM) [.k (.int .i64 4)],
 .C 4 (.int .i64 0),
 .M 5 39])
 .ret)
 .skip))
 (.seq (.region 0 [.M 40 9,
 .M 4 40,
 .C 5 (.aB)])
 .ret)))))))⟩
def vT : EC := (.seq (.seq (.region 0 [.M 37 5,
 .o 38 (.ay 1) [.t 1],
 .o 39 .ak [.t 38],
 .o 40 (.aj .lss) [.t 37, .t 39]])
 (.cond (.t 40) .skip
 (.exit 0)))
 (.seq (.block 1 (.region 0 [.M 43 4,
 .o 44 (.ay 0) [.t 1],
 .o 45 .ak [.t 44],
 .M 46 5,
 .o 47 (.ah fO) [.t 45, .t 46],
 .o 48 (.aj .add) [.t 43, .t 47],
 .M 4 48]))
 (.region 0 [.M 41 5,
 .o 42 (.aj .add) [.t 41, .k (.int .i64 1)],
 .M 5 42])))
def Lp : EF := ⟨[0], [.tmp 2, .tmp 3], (.seq (.region 1 [.o 1 (.box 0) [.t 0],
 .C 2 (.int .i64 0),
 .C 3 (.aB)])
 (.seq (.seq (.drawn 0 [(0, .o 6 (.ay 0) [.t 1]),
 (1, .o 7 .ak [.t 6]),
 (2, .o 8 (.aj .lss) [.t 7, .k (.int .i64 1900)]),
 (3, .M 9 8),
 (4, .g 9 false 10 (.ay 0) [.t 1]),
 (5, .g 9 false 11 (.ak) [.t 10]),
 (6, .g 9 false 12 (.aj .gtr) [.t 11, .k (.int .i64 2199)]),
 (7, .o 13 .pick [.t 9, .k (.bool true), .t 12]),
 (8, .M 14 13),
 (9, .g 14 false 15 (.ay 2) [.t 1]),
 (10, .g 14 false 16 (.ak) [.t 15]),
 (11, .g 14 false 17 (.aj .lss) [.t 16, .k (.int .i64 1)]),
 (12, .o 18 .pick [.t 14, .k (.bool true), .t 17]),
 (13, .M 19 18),
 (14, .g 19 false 20 (.ay 2) [.t 1]),
 (15, .g 19 false 21 (.ak) [.t 20]),
 (16, .g 19 false 22 (.ay 0) [.t 1]),
 (17, .g 19 false 23 (.ak) [.t 22]),
 (18, .g 19 false 24 (.ay 1) [.t 1]),
 (19, .g 19 false 25 (.ak) [.t 24]),
 (20, .g 19 false 26 (.ah fO) [.t 23, .t 25]),
 (21, .g 19 false 27 (.aj .gtr) [.t 21, .t 26]),
 (22, .o 28 .pick [.t 19, .k (.bool true), .t 27])])
 (.cond (.t 28) (.seq (.region 0 [.o 29 (.ah bM) [.k (.int .i64 4)],
 .C 2 (.int .i64 0),
 .M 3 29])
 .ret)
 .skip))
 (.seq (.drawn 0 [(0, .o 30 (.ay 0) [.t 1]),
 (1, .o 31 .ak [.t 30]),
 (2, .o 32 (.ah nO) [.t 31]),
 (3, .o 33 (.ay 2) [.t 1]),
 (4, .o 34 .ak [.t 33]),
 (5, .o 35 (.aj .add) [.t 32, .t 34]),
 (6, .o 36 (.aj .sub) [.t 35, .k (.int .i64 1)]),
 (7, .M 4 36)])
 (.seq (.seq (.region 0 [.C 5 (.int .i64 1)])
 (.block 0 (.loop [1, 4, 5] [4] vT)))
 (.seq (.region 0 [.M 49 4,
 .M 2 49,
 .C 3 (.aB)])
 .ret)))))⟩
def Af : EF := ⟨[0, 1], [.tmp 4], (.seq (.region 0 [.C 4 (.int .i64 0)])
 (.seq (.seq (.region 0 [.M 5 1])
 (.join [4] (.block 0 (.seq (.region 0 [.o 7 (.aj .eql) [.t 5, .k (.int .i64 2)],
 .M 6 7])
 (.join [4] (.cond (.t 6) (.seq (.seq (.region 0 [.M 8 0,
 .o 9 (.ah xX) [.t 8]])
 (.cond (.t 9) (.seq (.region 0 [.C 4 (.int .i64 29)])
 .ret)
 .skip))
 (.seq (.region 0 [.C 4 (.int .i64 28)])
 .ret))
 (.seq (.seq (.region 0 [.o 11 (.aj .eql) [.t 5, .k (.int .i64 4)],
 .M 10 11])
 (.join [5, 10] (.cond (.t 10) .skip
 (.seq (.region 0 [.o 12 (.aj .eql) [.t 5, .k (.int .i64 6)],
 .M 10 12])
 (.join [5, 10] (.cond (.t 10) .skip
 (.seq (.region 0 [.o 13 (.aj .eql) [.t 5, .k (.int .i64 9)],
 .M 10 13])
 (.join [5, 10] (.cond (.t 10) .skip
 (.region 0 [.o 14 (.aj .eql) [.t 5, .k (.int .i64 11)],
 .M 10 14]))))))))))
 (.join [4] (.cond (.t 10) (.seq (.region 0 [.C 4 (.int .i64 30)])
 .ret)
 (.seq (.seq (.region 0 [.o 16 (.aj .eql) [.t 5, .k (.int .i64 1)],
 .M 15 16])
 (.join [15] (.cond (.t 15) .skip
 (.seq (.region 0 [.o 17 (.aj .eql) [.t 5, .k (.int .i64 3)],
 .M 15 17])
 (.join [15] (.cond (.t 15) .skip
 (.seq (.region 0 [.o 18 (.aj .eql) [.t 5, .k (.int .i64 5)],
 .M 15 18])
 (.join [15] (.cond (.t 15) .skip
 (.seq (.region 0 [.o 19 (.aj .eql) [.t 5, .k (.int .i64 7)],
 .M 15 19])
 (.join [15] (.cond (.t 15) .skip
 (.seq (.region 0 [.o 20 (.aj .eql) [.t 5, .k (.int .i64 8)],
 .M 15 20])
 (.join [15] (.cond (.t 15) .skip
 (.seq (.region 0 [.o 21 (.aj .eql) [.t 5, .k (.int .i64 10)],
 .M 15 21])
 (.join [15] (.cond (.t 15) .skip
 (.region 0 [.o 22 (.aj .eql) [.t 5, .k (.int .i64 12)],
 .M 15 22])))))))))))))))))))
 (.cond (.t 15) (.seq (.region 0 [.C 4 (.int .i64 31)])
 .ret)
 .skip)))))))))))
 (.seq (.region 0 [.C 4 (.int .i64 0)])
 .ret)))⟩
def oU : EC := (.seq (.seq (.region 0 [.o 15 (.ay 0) [.t 4],
 .o 16 .ak [.t 15],
 .o 17 (.aj .add) [.t 16, .k (.int .i64 1)],
 .o 18 (.ah nO) [.t 17],
 .M 19 0,
 .o 20 (.aj .leq) [.t 18, .t 19]])
 (.cond (.t 20) .skip
 (.exit 0)))
 (.block 1 (.region 0 [.o 21 (.ay 0) [.t 4],
 .o 22 .ak [.t 21],
 .o 23 (.aj .add) [.t 22, .k (.int .i64 1)],
 .o 24 (.ay 0) [.t 4],
 ⟨.store 1, [.t 24, .t 23], none, none⟩])))
def oV : EC := (.seq (.seq (.region 0 [.M 30 5,
 .o 31 (.ay 0) [.t 4],
 .o 32 .ak [.t 31],
 .o 33 (.ay 1) [.t 4],
 .o 34 .ak [.t 33],
 .o 35 (.ah fO) [.t 32, .t 34],
 .o 36 (.aj .geq) [.t 30, .t 35]])
 (.cond (.t 36) .skip
 (.exit 2)))
 (.block 3 (.seq (.region 0 [.M 37 5,
 .o 38 (.ay 0) [.t 4],
 .o 39 .ak [.t 38],
 .o 40 (.ay 1) [.t 4],
 .o 41 .ak [.t 40],
 .o 42 (.ah fO) [.t 39, .t 41],
 .o 43 (.aj .sub) [.t 37, .t 42],
 .M 5 43])
 (.region 0 [.o 44 (.ay 1) [.t 4],
 .o 45 .ak [.t 44],
 .o 46 (.aj .add) [.t 45, .k (.int .i64 1)],
 .o 47 (.ay 1) [.t 4],
 ⟨.store 1, [.t 47, .t 46], none, none⟩]))))
def Dj : EF := ⟨[0], [.cell 2 true 3, .tmp 3], (.seq (.region 1 [.o 2 (.alloc 0 [.int .i64 0, .int .i64 0, .int .i64 0]) [],
 .C 3 (.aB)])
 (.seq (.seq (.region 0 [.M 6 0,
 .o 7 (.ah Cc) [.t 6],
 .o 8 .not [.t 7]])
 (.cond (.t 8) (.seq (.region 0 [.o 9 (.build [.int .i64 0, .int .i64 0, .int .i64 0] []) [],
 .o 10 (.ah bM) [.k (.int .i64 4)],
 ⟨.store 3, [.t 2, .t 9], none, none⟩,
 .M 3 10])
 .ret)
 .skip))
 (.seq (.region 1 [.M 11 0,
 .o 12 (.aj .quo) [.t 11, .k (.int .i64 366)],
 .o 13 (.aj .add) [.k (.int .i64 1900), .t 12],
 .o 14 (.build [.int .i64 0, .int .i64 0, .int .i64 0] [(0, 1), (1, 1)]) [.t 13, .k (.int .i64 1)],
 .o 4 (.alloc 0 [.int .i64 0, .int .i64 0, .int .i64 0]) [],
 ⟨.store 3, [.t 4, .t 14], none, none⟩])
 (.seq (.block 0 (.loop [0, 2, 4] [0, 2, 4] oU))
 (.seq (.region 0 [.M 25 0,
 .o 26 (.ay 0) [.t 4],
 .o 27 .ak [.t 26],
 .o 28 (.ah nO) [.t 27],
 .o 29 (.aj .sub) [.t 25, .t 28],
 .M 5 29])
 (.seq (.block 2 (.loop [2, 4, 5] [2, 4, 5] oV))
 (.seq (.region 0 [.M 48 5,
 .o 49 (.aj .add) [.t 48, .k (.int .i64 1)],
 .o 50 (.ay 2) [.t 4],
 ⟨.store 1, [.t 50, .t 49], none, none⟩])
 (.seq (.region 0 [.o 51 (.aN 3) [.t 4],
 ⟨.store 3, [.t 2, .t 51], none, none⟩,
 .C 3 (.aB)])
 .ret))))))))⟩
def yT : EF := ⟨[0], [.tmp 2], (.seq (.region 1 [.o 1 (.box 0) [.t 0],
 .C 2 (.aK)])
 (.seq (.region 0 [.o 6 (.ay 2) [.t 1],
 .o 7 .ak [.t 6],
 .o 8 (.ah jq) [.k (.int .i64 1), .t 7],
 .M 5 8,
 .o 9 (.ext 0) [.t 5],
 .o 10 (.ext 1) [.t 5],
 .M 3 9,
 .M 4 10])
 (.seq (.region 0 [.o 11 (.aN 9) [.t 1],
 .o 12 (.ah jA) [.t 11],
 .M 13 3,
 .o 14 (.ah fZ) [.t 12, .t 13],
 .M 2 14])
 .ret)))⟩
def HY : EF := ⟨[0, 1], [.tmp 4, .tmp 5], (.seq (.region 2 [.o 2 (.box 0) [.t 0],
 .o 3 (.box 1) [.t 1],
 .C 4 (.aK),
 .C 5 (.aB)])
 (.seq (.seq (.region 0 [.o 11 (.aN 9) [.t 2],
 .o 12 (.ah iU) [.t 11],
 .M 10 12,
 .o 13 (.ext 0) [.t 10],
 .o 14 (.ext 1) [.t 10],
 .M 6 13,
 .M 7 14])
 (.seq (.region 0 [.M 15 7,
 .o 16 (.eqN true true) [.t 15, .k (.aB)]])
 (.cond (.t 16) (.seq (.region 0 [.M 17 7,
 .C 4 (.aK),
 .M 5 17])
 .ret)
 .skip)))
 (.seq (.seq (.region 0 [.o 18 (.aN 9) [.t 2],
 .o 19 (.aN 2) [.t 3],
 .o 20 (.ah gW) [.t 18, .t 19]])
 (.cond (.t 20) (.seq (.region 0 [.o 21 (.aN 9) [.t 2],
 .o 22 (.ah nZ) [.t 21],
 .M 4 22,
 .C 5 (.aB)])
 .ret)
 .skip))
 (.seq (.region 0 [.o 24 (.aN 9) [.t 2],
 .o 25 (.aN 2) [.t 3],
 .o 26 (.ay 0) [.t 3],
 .o 27 .ak [.t 26],
 .o 28 (.ay 1) [.t 3],
 .o 29 .ak [.t 28],
 .o 30 (.ah qE) [.t 24, .t 25, .t 27, .t 29],
 .M 23 30,
 .o 31 (.ext 0) [.t 23],
 .o 32 (.ext 1) [.t 23],
 .M 8 31,
 .M 9 32])
 (.seq (.seq (.region 0 [.M 33 9,
 .o 34 (.eqN true true) [.t 33, .k (.aB)]])
 (.cond (.t 34) (.seq (.region 0 [.M 35 9,
 .C 4 (.aK),
 .M 5 35])
 .ret)
 .skip))
 (.seq (.region 0 [.o 36 (.aN 9) [.t 2],
 .o 37 (.ah jA) [.t 36],
 .M 38 8,
 .o 39 (.ah fZ) [.t 37, .t 38],
 .M 4 39,
 .C 5 (.aB)])
 .ret))))))⟩
def AU : EF := ⟨[0, 1], [.tmp 4], (.seq (.region 0 [.C 4 (.aK)])
 (.seq (.seq (.region 0 [.M 5 0,
 .o 6 (.ah bJ) [.t 5],
 .M 7 1,
 .o 8 (.ah bJ) [.t 7],
 .o 9 (.ah kX) [.t 6, .t 8],
 .o 10 (.aj .eql) [.t 9, .k (.int .i64 0)]])
 (.cond (.t 10) (.seq (.region 0 [.M 11 0,
 .o 12 (.ah bZ) [.t 11],
 .M 13 1,
 .o 14 (.ah bZ) [.t 13],
 .o 15 (.ah eX) [.t 12, .t 14],
 .M 16 0,
 .o 17 (.ah bJ) [.t 16],
 .o 18 (.ah rH) [.t 15, .t 17],
 .M 4 18])
 .ret)
 .skip))
 (.seq (.region 0 [.M 19 0,
 .o 20 (.ah bZ) [.t 19],
 .M 21 1,
 .o 22 (.ah bJ) [.t 21],
 .o 23 (.ah bD) [.t 20, .t 22],
 .M 24 1,
 .o 25 (.ah bZ) [.t 24],
 .M 26 0,
 .o 27 (.ah bJ) [.t 26],
 .o 28 (.ah bD) [.t 25, .t 27],
 .o 29 (.ah eX) [.t 23, .t 28],
 .M 30 0,
 .o 31 (.ah bJ) [.t 30],
 .M 32 1,
 .o 33 (.ah bJ) [.t 32],
 .o 34 (.ah bD) [.t 31, .t 33],
 .o 35 (.ah rH) [.t 29, .t 34],
 .M 4 35])
 .ret)))⟩
def Ae : EF := ⟨[0], [.tmp 2], (.seq (.region 1 [.o 1 (.box 0) [.t 0],
 .C 2 (.aK)])
 (.seq (.seq (.region 0 [.o 6 (.aN 9) [.t 1],
 .o 7 (.ah jd) [.t 6],
 .o 8 (.eqN true true) [.t 7, .k (.aB)]])
 (.cond (.t 8) (.seq (.region 0 [.o 9 (.ah oC) [.k (.int .i64 0)],
 .M 2 9])
 .ret)
 .skip))
 (.seq (.region 0 [.o 11 (.ay 4) [.t 1],
 .o 12 .ak [.t 11],
 .o 13 (.ah nM) [.t 12],
 .M 10 13,
 .o 14 (.ext 0) [.t 10],
 .o 15 (.ext 1) [.t 10],
 .o 16 (.ext 2) [.t 10],
 .M 3 14,
 .M 4 15,
 .M 5 16])
 (.seq (.region 0 [.M 17 3,
 .M 2 17])
 .ret))))⟩
def oD : EF := ⟨[0], [.tmp 2], (.seq (.region 1 [.o 1 (.box 0) [.t 0],
 .C 2 (.int .i64 0)])
 (.seq (.seq (.region 0 [.o 3 (.ay 2) [.t 1],
 .o 4 .ak [.t 3]])
 (.join [2] (.block 0 (.seq (.seq (.region 0 [.o 6 (.aj .eql) [.t 4, .k (.int .i64 1)],
 .M 5 6])
 (.join [1, 5] (.cond (.t 5) .skip
 (.seq (.region 0 [.o 7 (.aj .eql) [.t 4, .k (.int .i64 2)],
 .M 5 7])
 (.join [1, 5] (.cond (.t 5) .skip
 (.seq (.region 0 [.o 8 (.aj .eql) [.t 4, .k (.int .i64 4)],
 .M 5 8])
 (.join [1, 5] (.cond (.t 5) .skip
 (.region 0 [.o 9 (.aj .eql) [.t 4, .k (.int .i64 12)],
 .M 5 9]))))))))))
 (.cond (.t 5) (.seq (.region 0 [.o 10 (.ay 2) [.t 1],
 .o 11 .ak [.t 10],
 .o 12 (.aj .quo) [.k (.int .i64 12), .t 11],
 .M 2 12])
 .ret)
 .skip)))))
 (.seq (.region 0 [.C 2 (.int .i64 0)])
 .ret)))⟩
def NZ : EF := ⟨[0, 1, 2, 3], [.cell 8 true 3, .tmp 9], (.seq (.region 1 [.o 8 (.alloc 0 [.bool false, .sl 0 [], .sl 0 []]) [],
 .C 9 (.int .i64 0)])
 (.seq (.region 1 [.M 15 0,
 .o 16 (.ah oq) [.t 15],
 .M 14 16,
 .o 17 (.ext 0) [.t 14],
 .o 18 (.ext 1) [.t 14],
 .o 19 (.ext 2) [.t 14],
 .o 10 (.alloc 0 [.bool false, .sl 0 [], .sl 0 []]) [],
 ⟨.store 3, [.t 10, .t 17], none, none⟩,
 .M 11 18,
 .M 12 19])
 (.seq (.seq (.region 0 [.M 20 12,
 .o 21 .not [.t 20]])
 (.cond (.t 21) (.seq (.region 0 [.o 22 (.ah iY) [.k (.int .i64 0)],
 ⟨.store 3, [.t 8, .t 22], none, none⟩,
 .C 9 (.int .i64 1)])
 .ret)
 .skip))
 (.seq (.drawn 0 [(0, .o 23 (.aN 3) [.t 10]),
 (1, .M 24 1),
 (2, .o 25 (.ah iY) [.t 24]),
 (3, .o 26 (.ah lT) [.t 23, .t 25]),
 (4, .M 13 26)])
 (.seq (.seq (.drawn 0 [(0, .M 27 11),
 (1, .o 28 (.aj .gtr) [.t 27, .k (.int .i64 6)]),
 (2, .M 29 28),
 (3, .g 29 false 30 (.aF) [.t 13]),
 (4, .g 29 false 31 (.aj .lss) [.t 30, .k (.int .i64 0)]),
 (5, .o 32 .pick [.t 29, .k (.bool true), .t 31]),
 (6, .M 33 32),
 (7, .g 33 false 34 (.aF) [.t 13]),
 (8, .g 33 false 35 (.aj .eql) [.t 34, .k (.int .i64 0)]),
 (9, .g 33 false 36 (.aF) [.t 35]),
 (10, .g 36 true 37 (.aF) [.t 3]),
 (11, .g 36 true 38 (.not) [.t 37]),
 (12, .g 33 false 39 (.pick) [.t 36, .t 38, .k (.bool false)]),
 (13, .o 40 .pick [.t 33, .k (.bool true), .t 39]),
 (14, .M 41 40),
 (15, .g 41 false 42 (.aN 3) [.t 10]),
 (16, .g 41 false 43 (.aF) [.t 2]),
 (17, .g 41 false 44 (.ah iY) [.t 43]),
 (18, .g 41 false 45 (.ah lT) [.t 42, .t 44]),
 (19, .g 41 false 46 (.aj .gtr) [.t 45, .k (.int .i64 0)]),
 (20, .o 47 .pick [.t 41, .k (.bool true), .t 46])])
 (.cond (.t 47) (.seq (.region 0 [.o 48 (.ah iY) [.k (.int .i64 0)],
 ⟨.store 3, [.t 8, .t 48], none, none⟩,
 .C 9 (.int .i64 5)])
 .ret)
 .skip))
 (.seq (.region 0 [.o 49 (.aN 3) [.t 10],
 ⟨.store 3, [.t 8, .t 49], none, none⟩,
 .C 9 (.int .i64 0)])
 .ret))))))⟩
def oG : EF := ⟨[0, 1], [.tmp 4], (.seq (.region 0 [.C 4 (.int .i64 0)])
 (.seq (.seq (.region 0 [.M 7 0,
 .o 8 (.ah gZ) [.t 7],
 .o 9 .not [.t 8],
 .M 10 9,
 .g 10 false 11 (.aF) [.t 1],
 .g 10 false 12 (.ah gZ) [.t 11],
 .g 10 false 13 (.not) [.t 12],
 .o 14 .pick [.t 10, .k (.bool true), .t 13]])
 (.cond (.t 14) (.seq (.region 0 [.C 4 (.int .i64 0)])
 .ret)
 .skip))
 (.seq (.region 2 [.M 15 0,
 .o 16 (.ah fE) [.t 15],
 .M 17 1,
 .o 18 (.ah fE) [.t 17],
 .o 5 (.alloc 0 [.int .i64 0, .int .i64 0, .int .i64 0]) [],
 .o 6 (.alloc 1 [.int .i64 0, .int .i64 0, .int .i64 0]) [],
 ⟨.store 3, [.t 5, .t 16], none, none⟩,
 ⟨.store 3, [.t 6, .t 18], none, none⟩])
 (.seq (.region 0 [.o 19 (.ay 0) [.t 6],
 .o 20 .ak [.t 19],
 .o 21 (.ay 0) [.t 5],
 .o 22 .ak [.t 21],
 .o 23 (.aj .sub) [.t 20, .t 22],
 .o 24 (.aj .mul) [.k (.int .i64 12), .t 23],
 .o 25 (.ay 1) [.t 6],
 .o 26 .ak [.t 25],
 .o 27 (.aj .add) [.t 24, .t 26],
 .o 28 (.ay 1) [.t 5],
 .o 29 .ak [.t 28],
 .o 30 (.aj .sub) [.t 27, .t 29],
 .M 4 30])
 .ret))))⟩
def Fh : EF := ⟨[0], [.tmp 2], (.seq (.region 1 [.o 1 (.box 0) [.t 0],
 .C 2 (.aB)])
 (.seq (.block 0 (.seq (.region 0 [.o 6 (.ay 0) [.t 1],
 .o 7 .ak [.t 6],
 .o 8 (.ah dK) [.t 7],
 .o 9 (.aj .lss) [.t 8, .k (.int .i64 0)],
 .M 5 9])
 (.cond (.t 5) (.seq (.region 0 [.o 10 (.ah eH) [.k (.int .i64 4), .k (.str [105, 115, 115, 117, 101])],
 .M 2 10])
 .ret)
 (.seq (.region 0 [.o 12 (.ay 1) [.t 1],
 .o 13 .ak [.t 12],
 .o 14 (.ah dK) [.t 13],
 .o 15 (.aj .lss) [.t 14, .k (.int .i64 0)],
 .M 11 15])
 (.cond (.t 11) (.seq (.region 0 [.o 16 (.ah eH) [.k (.int .i64 4), .k (.str [109, 97, 116, 117, 114, 101])],
 .M 2 16])
 .ret)
 (.seq (.region 0 [.o 18 (.ay 1) [.t 1],
 .o 19 .ak [.t 18],
 .o 20 (.ay 0) [.t 1],
 .o 21 .ak [.t 20],
 .o 22 (.aj .leq) [.t 19, .t 21],
 .M 17 22])
 (.cond (.t 17) (.seq (.region 0 [.o 23 (.ah eH) [.k (.int .i64 5), .k (.str [109, 97, 116, 117, 114, 101])],
 .M 2 23])
 .ret)
 .skip)))))))
 (.seq (.seq (.region 0 [.o 25 (.ay 0) [.t 1],
 .o 26 .ak [.t 25],
 .o 27 (.ah kJ) [.t 26, .k (.int .i64 360), .k (.bool false)],
 .M 24 27,
 .o 28 (.ext 0) [.t 24],
 .o 29 (.ext 1) [.t 24],
 .M 3 28,
 .M 4 29])
 (.seq (.region 0 [.M 30 4,
 .o 31 (.eqN false true) [.t 30, .k (.aB)],
 .M 32 31,
 .g 32 true 33 (.ay 1) [.t 1],
 .g 32 true 34 (.ak) [.t 33],
 .g 32 true 35 (.aF) [.t 3],
 .g 32 true 36 (.aj .gtr) [.t 34, .t 35],
 .o 37 .pick [.t 32, .t 36, .k (.bool false)]])
 (.cond (.t 37) (.seq (.region 0 [.o 38 (.ah eH) [.k (.int .i64 5), .k (.str [109, 97, 116, 117, 114, 101])],
 .M 2 38])
 .ret)
 .skip)))
 (.seq (.region 0 [.C 2 (.aB)])
 .ret))))⟩
def Fj : EF := ⟨[0], [.tmp 2], (.seq (.region 1 [.o 1 (.box 0) [.t 0],
 .C 2 (.aB)])
 (.seq (.region 0 [.o 7 (.ay 3) [.t 1],
 .o 8 .ak [.t 7],
 .o 9 (.ah nM) [.t 8],
 .M 6 9,
 .o 10 (.ext 0) [.t 6],
 .o 11 (.ext 1) [.t 6],
 .o 12 (.ext 2) [.t 6],
 .M 3 10,
 .M 4 11,
 .M 5 12])
 (.seq (.block 0 (.seq (.region 0 [.M 14 5,
 .o 15 (.eqN true true) [.t 14, .k (.aB)],
 .M 13 15])
 (.cond (.t 13) (.seq (.region 0 [.o 16 (.ah eH) [.k (.int .i64 1), .k (.str [99, 111, 117, 112, 111, 110])],
 .M 2 16])
 .ret)
 (.seq (.region 0 [.M 18 4,
 .o 19 .not [.t 18],
 .M 20 19,
 .g 20 false 21 (.aF) [.t 3],
 .g 20 false 22 (.ah iL) [.t 21],
 .g 20 false 23 (.aj .lss) [.t 22, .k (.int .i64 0)],
 .o 24 .pick [.t 20, .k (.bool true), .t 23],
 .M 25 24,
 .g 25 false 26 (.aF) [.t 3],
 .g 25 false 27 (.ah oC) [.k (.int .i64 30)],
 .g 25 false 28 (.ah jX) [.t 26, .t 27],
 .g 25 false 29 (.aj .gtr) [.t 28, .k (.int .i64 0)],
 .o 30 .pick [.t 25, .k (.bool true), .t 29],
 .M 17 30])
 (.cond (.t 17) (.seq (.region 0 [.o 31 (.ah eH) [.k (.int .i64 5), .k (.str [99, 111, 117, 112, 111, 110])],
 .M 2 31])
 .ret)
 .skip)))))
 (.seq (.region 0 [.o 33 (.ay 4) [.t 1],
 .o 34 .ak [.t 33],
 .o 35 (.ah nM) [.t 34],
 .M 32 35,
 .o 36 (.ext 0) [.t 32],
 .o 37 (.ext 1) [.t 32],
 .o 38 (.ext 2) [.t 32],
 .M 3 36,
 .M 4 37,
 .M 5 38])
 (.seq (.block 1 (.seq (.region 0 [.M 40 5,
 .o 41 (.eqN true true) [.t 40, .k (.aB)],
 .M 39 41])
 (.cond (.t 39) (.seq (.region 0 [.o 42 (.ah eH) [.k (.int .i64 1), .k (.str [114, 101, 100, 101, 101, 109])],
 .M 2 42])
 .ret)
 (.seq (.region 0 [.M 44 4,
 .o 45 .not [.t 44],
 .M 46 45,
 .g 46 false 47 (.aF) [.t 3],
 .g 46 false 48 (.ah iL) [.t 47],
 .g 46 false 49 (.aj .leq) [.t 48, .k (.int .i64 0)],
 .o 50 .pick [.t 46, .k (.bool true), .t 49],
 .M 51 50,
 .g 51 false 52 (.aF) [.t 3],
 .g 51 false 53 (.ah oC) [.k (.int .i64 200)],
 .g 51 false 54 (.ah jX) [.t 52, .t 53],
 .g 51 false 55 (.aj .gtr) [.t 54, .k (.int .i64 0)],
 .o 56 .pick [.t 51, .k (.bool true), .t 55],
 .M 43 56])
 (.cond (.t 43) (.seq (.region 0 [.o 57 (.ah eH) [.k (.int .i64 5), .k (.str [114, 101, 100, 101, 101, 109])],
 .M 2 57])
 .ret)
 .skip)))))
 (.seq (.region 0 [.C 2 (.aB)])
 .ret))))))⟩
def Fp : EF := ⟨[0], [.tmp 2], (.seq (.region 0 [.C 2 (.bool false)])
 (.seq (.region 0 [.M 3 0,
 .o 4 (.aj .geq) [.t 3, .k (.int .i64 1)],
 .M 5 4,
 .g 5 true 6 (.aF) [.t 0],
 .g 5 true 7 (.aj .leq) [.t 6, .k (.int .i64 4)],
 .o 8 .pick [.t 5, .t 7, .k (.bool false)],
 .M 2 8])
 .ret))⟩
def abA : EF := ⟨[0, 1], [.cell 4 true 2, .tmp 5], (.seq (.region 2 [.o 2 (.box 0) [.t 0],
 .o 4 (.alloc 1 [.int .i64 0, .int .i64 0]) [],
 .C 5 (.aB)])
 (.seq (.seq (.region 0 [.o 11 (.aN 9) [.t 2],
 .M 12 1,
 .o 13 (.ah CJ) [.t 11, .t 12],
 .M 10 13,
 .o 14 (.ext 0) [.t 10],
 .o 15 (.ext 1) [.t 10],
 .M 6 14,
 .M 7 15])
 (.seq (.region 0 [.M 16 7,
 .o 17 (.eqN true true) [.t 16, .k (.aB)]])
 (.cond (.t 17) (.seq (.region 0 [.o 18 (.build [.int .i64 0, .int .i64 0] []) [],
 .M 19 7,
 ⟨.store 2, [.t 4, .t 18], none, none⟩,
 .M 5 19])
 .ret)
 .skip)))
 (.seq (.region 0 [.o 21 (.aN 9) [.t 2],
 .o 22 (.ah iU) [.t 21],
 .M 20 22,
 .o 23 (.ext 0) [.t 20],
 .o 24 (.ext 1) [.t 20],
 .M 8 23,
 .M 9 24])
 (.seq (.seq (.region 0 [.M 25 9,
 .o 26 (.eqN true true) [.t 25, .k (.aB)]])
 (.cond (.t 26) (.seq (.region 0 [.o 27 (.build [.int .i64 0, .int .i64 0] []) [],
 .M 28 9,
 ⟨.store 2, [.t 4, .t 27], none, none⟩,
 .M 5 28])
 .ret)
 .skip))
 (.seq (.region 0 [.M 29 8,
 .M 30 8,
 .M 31 1,
 .o 32 (.ah CS) [.t 30, .t 31],
 .o 33 (.aQ 2) [.t 29, .t 32],
 .o 34 (.aN 2) [.t 33],
 ⟨.store 2, [.t 4, .t 34], none, none⟩,
 .C 5 (.aB)])
 .ret)))))⟩
def aeZ : EF := ⟨[0, 1, 2], [.tmp 6, .tmp 7], (.seq (.region 2 [.o 3 (.box 0) [.t 0],
 .o 4 (.box 1) [.t 1],
 .C 6 (.aK),
 .C 7 (.aB)])
 (.seq (.seq (.region 0 [.o 13 (.ay 5) [.t 3],
 .o 14 .ak [.t 13],
 .o 15 (.aj .eql) [.t 14, .k (.int .i64 4)],
 .M 16 15,
 .g 16 true 17 (.aN 9) [.t 3],
 .g 16 true 18 (.aN 2) [.t 4],
 .g 16 true 19 (.ah gW) [.t 17, .t 18],
 .o 20 .pick [.t 16, .t 19, .k (.bool false)]])
 (.cond (.t 20) (.seq (.region 0 [.o 22 (.aN 9) [.t 3],
 .o 23 (.aN 2) [.t 4],
 .o 24 (.ah qY) [.t 22, .t 23],
 .M 21 24,
 .o 25 (.ext 0) [.t 21],
 .o 26 (.ext 1) [.t 21],
 .M 8 25,
 .M 9 26])
 (.seq (.seq (.region 0 [.M 27 9,
 .o 28 (.eqN true true) [.t 27, .k (.aB)]])
 (.cond (.t 28) (.seq (.region 0 [.M 29 9,
 .C 6 (.aK),
 .M 7 29])
 .ret)
 .skip))
 (.seq (.region 0 [.M 31 2,
 .o 32 (.ay 0) [.t 4],
 .o 33 .ak [.t 32],
 .o 34 (.aj .sub) [.t 31, .t 33],
 .o 35 (.ay 1) [.t 4],
 .o 36 .ak [.t 35],
 .o 37 (.ay 0) [.t 4],
 .o 38 .ak [.t 37],
 .o 39 (.aj .sub) [.t 36, .t 38],
 .o 40 (.ah jq) [.t 34, .t 39],
 .M 30 40,
 .o 41 (.ext 0) [.t 30],
 .o 42 (.ext 1) [.t 30],
 .M 10 41,
 .M 9 42])
 (.seq (.region 0 [.M 43 8,
 .M 44 10,
 .o 45 (.ah fZ) [.t 43, .t 44],
 .M 46 9,
 .M 6 45,
 .M 7 46])
 .ret))))
 .skip))
 (.seq (.region 0 [.o 48 (.aN 9) [.t 3],
 .o 49 (.aN 2) [.t 4],
 .o 50 (.ay 0) [.t 4],
 .o 51 .ak [.t 50],
 .M 52 2,
 .o 53 (.ah qE) [.t 48, .t 49, .t 51, .t 52],
 .M 47 53,
 .o 54 (.ext 0) [.t 47],
 .o 55 (.ext 1) [.t 47],
 .M 11 54,
 .M 12 55])
 (.seq (.seq (.region 0 [.M 56 12,
 .o 57 (.eqN true true) [.t 56, .k (.aB)]])
 (.cond (.t 57) (.seq (.region 0 [.M 58 12,
 .C 6 (.aK),
 .M 7 58])
 .ret)
 .skip))
 (.seq (.region 0 [.o 59 (.aN 9) [.t 3],
 .o 60 (.ah jA) [.t 59],
 .M 61 11,
 .o 62 (.ah fZ) [.t 60, .t 61],
 .M 6 62,
 .C 7 (.aB)])
 .ret)))))⟩
def aix : EF := ⟨[0, 1], [.tmp 4, .tmp 5], (.seq (.region 1 [.o 2 (.box 0) [.t 0],
 .C 4 (.bool false),
 .C 5 (.aB)])
 (.seq (.region 1 [.o 9 (.aN 9) [.t 2],
 .M 10 1,
 .o 11 (.ah w_) [.t 9, .t 10],
 .M 8 11,
 .o 12 (.ext 0) [.t 8],
 .o 13 (.ext 1) [.t 8],
 .o 6 (.alloc 0 [.int .i64 0, .int .i64 0]) [],
 ⟨.store 2, [.t 6, .t 12], none, none⟩,
 .M 7 13])
 (.seq (.region 0 [.M 14 7,
 .o 15 (.eqN false true) [.t 14, .k (.aB)],
 .M 16 15,
 .g 16 true 17 (.ay 8) [.t 2],
 .g 16 true 18 (.ak) [.t 17],
 .g 16 true 19 (.aj .gtr) [.t 18, .k (.int .i64 0)],
 .o 20 .pick [.t 16, .t 19, .k (.bool false)],
 .M 21 20,
 .g 21 true 22 (.aF) [.t 1],
 .g 21 true 23 (.ay 1) [.t 6],
 .g 21 true 24 (.ak) [.t 23],
 .g 21 true 25 (.ay 8) [.t 2],
 .g 21 true 26 (.ak) [.t 25],
 .g 21 true 27 (.aj .sub) [.t 24, .t 26],
 .g 21 true 28 (.aj .geq) [.t 22, .t 27],
 .o 29 .pick [.t 21, .t 28, .k (.bool false)],
 .M 30 7,
 .M 4 29,
 .M 5 30])
 .ret)))⟩
def A_ : EF := ⟨[0, 1], [.tmp 4], (.seq (.region 0 [.C 4 (.aK)])
 (.seq (.region 1 [.M 5 0,
 .M 6 1,
 .o 7 (.ah bZ) [.t 6],
 .o 8 (.ah kY) [.t 7],
 .M 9 1,
 .o 10 (.ah bJ) [.t 9],
 .o 11 (.build [.aK, .aK] [(0, 1), (1, 1)]) [.t 8, .t 10],
 .o 12 (.box 0) [.t 11],
 .o 13 (.nN iV) [.t 5, .t 12],
 .M 4 13])
 .ret))⟩
def JF : EC := (.seq (.region 0 [.o 42 (.aj .lss) [.t 41, .t 40]])
 (.seq (.cond (.t 42) .skip
 (.exit 0))
 (.seq (.block 1 (.seq (.region 1 [.o 43 (.aQ 2) [.t 39, .t 41],
 .o 44 (.aN 2) [.t 43],
 .o 12 (.alloc 0 [.int .i64 0, .str []]) [],
 ⟨.store 2, [.t 12, .t 44], none, none⟩])
 (.seq (.region 0 [.o 46 (.ay 1) [.t 12],
 .o 47 .ak [.t 46],
 .o 48 (.ah IC) [.t 47],
 .M 45 48,
 .o 49 (.ext 0) [.t 45],
 .o 50 (.ext 1) [.t 45],
 .M 13 49,
 .M 14 50])
 (.region 1 [.M 51 10,
 .M 52 13,
 .o 53 (.xW 1 1 [.aK] [(0, 1)]) [.t 52],
 .o 54 (.app 0 1) [.t 51, .t 53],
 .M 10 54]))))
 (.region 0 [.o 55 (.aj .add) [.t 41, .k (.int .i64 1)],
 .M 41 55]))))
def Xm : EF := ⟨[0, 1], [.tmp 4, .tmp 5], (.seq (.region 1 [.o 2 (.box 0) [.t 0],
 .C 4 (.bK),
 .C 5 (.aB)])
 (.seq (.region 0 [.o 20 (.aN 9) [.t 2],
 .M 21 1,
 .o 22 (.ah zh) [.t 20, .t 21],
 .M 19 22,
 .o 23 (.ext 0) [.t 19],
 .o 24 (.ext 1) [.t 19],
 .o 25 (.ext 2) [.t 19],
 .M 6 23,
 .M 7 24,
 .M 8 25])
 (.seq (.seq (.region 0 [.M 26 8,
 .o 27 (.eqN true true) [.t 26, .k (.aB)]])
 (.cond (.t 27) (.seq (.region 0 [.M 28 8,
 .C 4 (.bK),
 .M 5 28])
 .ret)
 .skip))
 (.seq (.region 0 [.o 30 (.aN 9) [.t 2],
 .o 31 (.ah qN) [.t 30],
 .M 29 31,
 .o 32 (.ext 0) [.t 29],
 .o 33 (.ext 1) [.t 29],
 .M 9 32,
 .M 8 33])
 (.seq (.seq (.region 0 [.M 34 8,
 .o 35 (.eqN true true) [.t 34, .k (.aB)]])
 (.cond (.t 35) (.seq (.region 0 [.M 36 8,
 .C 4 (.bK),
 .M 5 36])
 .ret)
 .skip))
 (.seq (.region 0 [.C 10 (.bK)])
 (.seq (.seq (.region 0 [.M 37 9,
 .M 38 7,
 .o 39 (.Hr 2 true false) [.t 37, .t 38],
 .o 40 .aZ [.t 39],
 .C 41 (.int .i64 0)])
 (.block 0 (.loop [1, 2, 6, 7, 10, 39, 40, 41] [1, 2, 6, 7, 10] JF)))
 (.seq (.seq (.region 0 [.o 57 (.aN 9) [.t 2],
 .M 58 1,
 .o 59 (.ah En) [.t 57, .t 58],
 .M 56 59,
 .o 60 (.ext 0) [.t 56],
 .o 61 (.ext 1) [.t 56],
 .M 15 60,
 .M 16 61])
 (.seq (.region 0 [.M 62 15])
 (.join [4, 5, 10] (.cond (.t 62) (.seq (.drawn 0 [(0, .o 64 (.aN 9) [.t 2]),
 (1, .M 65 6),
 (2, .M 66 7),
 (3, .o 67 (.aQ 2) [.t 65, .t 66]),
 (4, .o 68 (.aN 2) [.t 67]),
 (5, .o 69 (.ah qY) [.t 64, .t 68]),
 (6, .M 63 69),
 (7, .o 70 (.ext 0) [.t 63]),
 (8, .o 71 (.ext 1) [.t 63]),
 (9, .M 17 70),
 (10, .M 18 71)])
 (.seq (.seq (.region 0 [.M 72 18,
 .o 73 (.eqN true true) [.t 72, .k (.aB)]])
 (.cond (.t 73) (.seq (.region 0 [.M 74 18,
 .C 4 (.bK),
 .M 5 74])
 .ret)
 .skip))
 (.region 0 [.M 75 10,
 .M 76 10,
 .o 77 (.aQ 1) [.t 76, .k (.int .i64 0)],
 .o 78 .ak [.t 77],
 .M 79 17,
 .o 80 (.ah jD) [.t 78, .t 79],
 .o 81 (.aQ 1) [.t 75, .k (.int .i64 0)],
 ⟨.store 1, [.t 81, .t 80], none, none⟩])))
 .skip))))
 (.seq (.region 0 [.M 82 10,
 .M 4 82,
 .C 5 (.aB)])
 .ret)))))))))⟩
def Hz : EF := ⟨[0], [.tmp 2], (.seq (.region 0 [.C 2 (.aB)])
 (.seq (.seq (.region 0 [.M 3 0,
 .o 4 (.aj .eql) [.t 3, .k (.int .i64 0)]])
 (.cond (.t 4) (.seq (.region 0 [.C 2 (.aB)])
 .ret)
 .skip))
 (.seq (.region 0 [.M 5 0,
 .o 6 (.O8 jc) [.t 5],
 .M 2 6])
 .ret)))⟩
def OY : EF := ⟨[0], [.tmp 2], (.seq (.region 0 [.C 2 (.aK)])
 (.seq (.seq (.region 0 [.M 3 0,
 .o 4 (.aj .lss) [.t 3, .k (.int .i64 0)]])
 (.cond (.t 4) (.seq (.region 0 [.M 5 0,
 .o 6 (.conv .u64) [.t 5],
 .o 7 .neg [.t 6],
 .o 8 (.ah fK) [.t 7],
 .o 9 (.ah fG) [.k (.bool true), .t 8],
 .M 2 9])
 .ret)
 .skip))
 (.seq (.region 0 [.M 10 0,
 .o 11 (.conv .u64) [.t 10],
 .o 12 (.ah fK) [.t 11],
 .o 13 (.ah fG) [.k (.bool false), .t 12],
 .M 2 13])
 .ret)))⟩
def AL : EF := ⟨[0, 1], [.tmp 4], (.seq (.region 0 [.C 4 (.aK)])
 (.seq (.region 0 [.M 5 0,
 .o 6 (.ah bT) [.t 5],
 .M 7 1,
 .o 8 (.ah bT) [.t 7],
 .o 9 (.aj .mul) [.t 6, .t 8],
 .o 10 (.aj .lss) [.t 9, .k (.int .i64 0)],
 .M 11 0,
 .o 12 (.ah bC) [.t 11],
 .M 13 1,
 .o 14 (.ah bC) [.t 13],
 .o 15 (.ah fV) [.t 12, .t 14],
 .o 16 (.ah fG) [.t 10, .t 15],
 .M 4 16])
 .ret))⟩
def AA : EF := ⟨[0, 1], [.tmp 4], (.seq (.region 0 [.C 4 (.aK)])
 (.seq (.region 0 [.M 11 0,
 .o 12 (.ah bT) [.t 11],
 .o 13 (.aj .lss) [.t 12, .k (.int .i64 0)],
 .M 14 1,
 .o 15 (.ah bT) [.t 14],
 .o 16 (.aj .lss) [.t 15, .k (.int .i64 0)],
 .M 5 13,
 .M 6 16])
 (.seq (.seq (.region 0 [.M 17 5,
 .M 18 6,
 .o 19 (.U1 false) [.t 17, .t 18]])
 (.cond (.t 19) (.seq (.region 0 [.M 20 5,
 .M 21 0,
 .o 22 (.ah bC) [.t 21],
 .M 23 1,
 .o 24 (.ah bC) [.t 23],
 .o 25 (.ah fQ) [.t 22, .t 24],
 .o 26 (.ah fG) [.t 20, .t 25],
 .M 4 26])
 .ret)
 .skip))
 (.seq (.seq (.region 0 [.M 27 0,
 .o 28 (.ah bC) [.t 27],
 .M 29 1,
 .o 30 (.ah bC) [.t 29],
 .o 31 (.ah iR) [.t 28, .t 30],
 .o 32 (.aj .lss) [.t 31, .k (.int .i64 0)]])
 (.cond (.t 32) (.seq (.region 0 [.M 34 1,
 .o 35 (.ah bC) [.t 34],
 .M 36 0,
 .o 37 (.ah bC) [.t 36],
 .o 38 (.ah jU) [.t 35, .t 37],
 .M 33 38,
 .o 39 (.ext 0) [.t 33],
 .o 40 (.ext 1) [.t 33],
 .M 7 39,
 .M 8 40])
 (.seq (.region 0 [.M 41 6,
 .M 42 7,
 .o 43 (.ah fG) [.t 41, .t 42],
 .M 4 43])
 .ret))
 .skip))
 (.seq (.region 0 [.M 45 0,
 .o 46 (.ah bC) [.t 45],
 .M 47 1,
 .o 48 (.ah bC) [.t 47],
 .o 49 (.ah jU) [.t 46, .t 48],
 .M 44 49,
 .o 50 (.ext 0) [.t 44],
 .o 51 (.ext 1) [.t 44],
 .M 9 50,
 .M 10 51])
 (.seq (.region 0 [.M 52 5,
 .M 53 9,
 .o 54 (.ah fG) [.t 52, .t 53],
 .M 4 54])
 .ret))))))⟩
def Md : EC := (.seq (.seq (.region 0 [.M 23 12,
 .o 24 (.aj .geq) [.t 23, .k (.int .i64 0)]])
 (.cond (.t 24) .skip
 (.exit 0)))
 (.seq (.join [1, 2, 8, 9, 10, 11, 12] (.block 1 (.seq (.drawn 0 [(0, .M 27 10),
 (1, .M 28 2),
 (2, .o 29 (.ah bD) [.t 27, .t 28]),
 (3, .M 30 8),
 (4, .M 31 12),
 (5, .o 32 (.aQ 1) [.t 30, .t 31]),
 (6, .o 33 .ak [.t 32]),
 (7, .M 34 11),
 (8, .o 35 (.ah bD) [.t 33, .t 34]),
 (9, .o 36 (.ah eX) [.t 29, .t 35]),
 (10, .M 10 36)])
 (.seq (.region 0 [.M 37 12,
 .o 38 (.aj .gtr) [.t 37, .k (.int .i64 0)]])
 (.join [1, 2, 8, 9, 10, 11, 12] (.cond (.t 38) (.region 0 [.M 39 11,
 .M 40 1,
 .o 41 (.ah bD) [.t 39, .t 40],
 .M 11 41])
 .skip))))))
 (.region 0 [.M 25 12,
 .o 26 (.aj .sub) [.t 25, .k (.int .i64 1)],
 .M 12 26])))
def YP : EF := ⟨[0, 1, 2], [.tmp 6, .tmp 7], (.seq (.region 0 [.C 6 (.aK),
 .C 7 (.aK)])
 (.seq (.region 0 [.M 14 0,
 .o 15 (.ah yC) [.t 14],
 .M 13 15,
 .o 16 (.ext 0) [.t 13],
 .o 17 (.ext 1) [.t 13],
 .M 8 16,
 .M 9 17])
 (.seq (.region 0 [.o 18 (.ah gV) [.k (.int .i64 0)],
 .o 19 (.ah gV) [.k (.int .i64 1)],
 .M 10 18,
 .M 11 19])
 (.seq (.seq (.region 0 [.M 20 8,
 .o 21 .aZ [.t 20],
 .o 22 (.aj .sub) [.t 21, .k (.int .i64 1)],
 .M 12 22])
 (.block 0 (.loop [1, 2, 8, 9, 10, 11, 12] [9, 10, 11] Md)))
 (.seq (.region 0 [.M 42 10,
 .M 43 9,
 .M 44 11,
 .o 45 (.ah bD) [.t 43, .t 44],
 .M 6 42,
 .M 7 45])
 .ret)))))⟩
def AX : EF := ⟨[0], [.tmp 2], (.seq (.region 0 [.C 2 (.aK)])
 (.seq (.seq (.region 0 [.M 3 0,
 .o 4 (.r_ false) [.t 3, .k (.aK)],
 .M 5 4,
 .g 5 false 6 (.aF) [.t 0],
 .g 5 false 7 (.kN) [.t 6],
 .g 5 false 8 (.ay 1) [.t 7],
 .g 5 false 9 (.ak) [.t 8],
 .g 5 false 10 (.r_ false) [.t 9, .k (.aK)],
 .o 11 .pick [.t 5, .k (.bool true), .t 10]])
 (.cond (.t 11) (.seq (.region 0 [.o 12 (.ah gV) [.k (.int .i64 1)],
 .M 2 12])
 .ret)
 .skip))
 (.seq (.region 0 [.M 13 0,
 .o 14 .kN [.t 13],
 .o 15 (.ay 1) [.t 14],
 .o 16 .ak [.t 15],
 .M 2 16])
 .ret)))⟩
def A8 : EF := ⟨[0], [.tmp 2], (.seq (.region 0 [.C 2 (.aK)])
 (.seq (.seq (.region 0 [.M 3 0,
 .o 4 (.r_ false) [.t 3, .k (.aK)],
 .M 5 4,
 .g 5 false 6 (.aF) [.t 0],
 .g 5 false 7 (.kN) [.t 6],
 .g 5 false 8 (.ay 0) [.t 7],
 .g 5 false 9 (.ak) [.t 8],
 .g 5 false 10 (.r_ false) [.t 9, .k (.aK)],
 .o 11 .pick [.t 5, .k (.bool true), .t 10]])
 (.cond (.t 11) (.seq (.region 0 [.o 12 (.ah gV) [.k (.int .i64 0)],
 .M 2 12])
 .ret)
 .skip))
 (.seq (.region 0 [.M 13 0,
 .o 14 .kN [.t 13],
 .o 15 (.ay 0) [.t 14],
 .o 16 .ak [.t 15],
 .M 2 16])
 .ret)))⟩
def yX : EF := ⟨[0], [.tmp 2], (.seq (.region 0 [.C 2 (.int .i64 0)])
 (.seq (.block 0 (.seq (.region 0 [.M 4 0,
 .o 5 (.ah bC) [.t 4],
 .o 6 (.ah dR) [.t 5],
 .M 3 6])
 (.cond (.t 3) (.seq (.region 0 [.C 2 (.int .i64 0)])
 .ret)
 (.seq (.region 0 [.M 8 0,
 .o 9 .kN [.t 8],
 .o 10 (.ay 0) [.t 9],
 .o 11 .ak [.t 10],
 .M 7 11])
 (.cond (.t 7) (.seq (.region 0 [.C 2 (.int .i64 (-1))])
 .ret)
 .skip)))))
 (.seq (.region 0 [.C 2 (.int .i64 1)])
 .ret)))⟩
def LM : EF := ⟨[0, 1], [.tmp 4, .tmp 5], (.seq (.region 0 [.C 4 (.aK),
 .C 5 (.aB)])
 (.seq (.seq (.region 0 [.M 13 1,
 .o 14 (.ah bT) [.t 13],
 .o 15 (.aj .eql) [.t 14, .k (.int .i64 0)]])
 (.cond (.t 15) (.seq (.region 0 [.o 16 (.ah bM) [.k (.int .i64 3)],
 .C 4 (.aK),
 .M 5 16])
 .ret)
 .skip))
 (.seq (.region 0 [.M 17 0,
 .o 18 (.ah bC) [.t 17],
 .M 19 1,
 .o 20 (.ah bC) [.t 19],
 .o 21 (.ah kV) [.t 18, .t 20],
 .M 6 21])
 (.seq (.region 0 [.M 23 0,
 .o 24 (.ah bC) [.t 23],
 .M 25 6,
 .o 26 (.ah fU) [.t 24, .t 25],
 .M 22 26,
 .o 27 (.ext 0) [.t 22],
 .o 28 (.ext 1) [.t 22],
 .o 29 (.ext 2) [.t 22],
 .M 7 27,
 .M 8 28,
 .M 9 29])
 (.seq (.region 0 [.M 31 1,
 .o 32 (.ah bC) [.t 31],
 .M 33 6,
 .o 34 (.ah fU) [.t 32, .t 33],
 .M 30 34,
 .o 35 (.ext 0) [.t 30],
 .o 36 (.ext 1) [.t 30],
 .o 37 (.ext 2) [.t 30],
 .M 10 35,
 .M 11 36,
 .M 12 37])
 (.seq (.region 1 [.M 38 0,
 .o 39 (.ah bT) [.t 38],
 .M 40 1,
 .o 41 (.ah bT) [.t 40],
 .o 42 (.aj .mul) [.t 39, .t 41],
 .o 43 (.aj .lss) [.t 42, .k (.int .i64 0)],
 .M 44 7,
 .o 45 (.ah fG) [.t 43, .t 44],
 .M 46 10,
 .o 47 (.ah fG) [.k (.bool false), .t 46],
 .o 48 (.build [.aK, .aK] [(0, 1), (1, 1)]) [.t 45, .t 47],
 .o 49 (.box 0) [.t 48],
 .M 4 49,
 .C 5 (.aB)])
 .ret))))))⟩
def ac2 : EF := ⟨[0, 1], [.tmp 4, .tmp 5, .tmp 6], (.seq (.region 1 [.o 2 (.box 0) [.t 0],
 .C 4 (.sl 0 []),
 .C 5 (.int .i64 0),
 .C 6 (.aB)])
 (.seq (.seq (.region 0 [.o 12 (.aN 9) [.t 2],
 .M 13 1,
 .o 14 (.ah CJ) [.t 12, .t 13],
 .M 11 14,
 .o 15 (.ext 0) [.t 11],
 .o 16 (.ext 1) [.t 11],
 .M 7 15,
 .M 8 16])
 (.seq (.region 0 [.M 17 8,
 .o 18 (.eqN true true) [.t 17, .k (.aB)]])
 (.cond (.t 18) (.seq (.region 0 [.M 19 8,
 .C 4 (.sl 0 []),
 .C 5 (.int .i64 0),
 .M 6 19])
 .ret)
 .skip)))
 (.seq (.region 0 [.o 21 (.aN 9) [.t 2],
 .o 22 (.ah iU) [.t 21],
 .M 20 22,
 .o 23 (.ext 0) [.t 20],
 .o 24 (.ext 1) [.t 20],
 .M 9 23,
 .M 10 24])
 (.seq (.region 0 [.M 25 9,
 .M 26 9,
 .M 27 1,
 .o 28 (.ah CS) [.t 26, .t 27],
 .M 29 10,
 .M 4 25,
 .M 5 28,
 .M 6 29])
 .ret))))⟩
def qX : EC := (.seq (.region 0 [.o 80 (.aj .lss) [.t 79, .t 78]])
 (.seq (.cond (.t 80) .skip
 (.exit 0))
 (.seq (.block 1 (.seq (.region 1 [.o 81 (.aQ 2) [.t 77, .t 79],
 .o 82 (.aN 2) [.t 81],
 .o 17 (.alloc 0 [.int .i64 0, .int .i64 0]) [],
 ⟨.store 2, [.t 17, .t 82], none, none⟩])
 (.seq (.region 0 [.M 83 3,
 .o 84 (.ay 1) [.t 17],
 .o 85 .ak [.t 84],
 .o 86 .mn [.t 83, .t 85],
 .M 87 2,
 .o 88 (.ay 0) [.t 17],
 .o 89 .ak [.t 88],
 .o 90 .mx [.t 87, .t 89],
 .o 91 (.aj .sub) [.t 86, .t 90],
 .M 18 91])
 (.seq (.region 0 [.M 93 18,
 .o 94 .mx [.t 93, .k (.int .i64 0)],
 .o 95 (.ay 2) [.t 4],
 .o 96 .ak [.t 95],
 .o 97 (.ay 1) [.t 17],
 .o 98 .ak [.t 97],
 .o 99 (.ay 0) [.t 17],
 .o 100 .ak [.t 99],
 .o 101 (.aj .sub) [.t 98, .t 100],
 .o 102 (.aj .mul) [.t 96, .t 101],
 .o 103 (.ah jq) [.t 94, .t 102],
 .M 92 103,
 .o 104 (.ext 0) [.t 92],
 .o 105 (.ext 1) [.t 92],
 .M 19 104,
 .M 20 105])
 (.region 0 [.M 106 14,
 .M 107 19,
 .o 108 (.ah iV) [.t 106, .t 107],
 .M 14 108])))))
 (.region 0 [.o 109 (.aj .add) [.t 79, .k (.int .i64 1)],
 .M 79 109]))))
def Fz : EF := ⟨[0, 1, 2, 3], [.tmp 8, .tmp 9], (.seq (.region 2 [.o 4 (.box 0) [.t 0],
 .o 5 (.box 1) [.t 1],
 .C 8 (.aK),
 .C 9 (.aB)])
 (.seq (.seq (.region 0 [.o 22 (.aN 9) [.t 4],
 .o 23 (.ah iU) [.t 22],
 .M 21 23,
 .o 24 (.ext 0) [.t 21],
 .o 25 (.ext 1) [.t 21],
 .M 10 24,
 .M 11 25])
 (.seq (.region 0 [.M 26 11,
 .o 27 (.eqN true true) [.t 26, .k (.aB)]])
 (.cond (.t 27) (.seq (.region 0 [.M 28 11,
 .C 8 (.aK),
 .M 9 28])
 .ret)
 .skip)))
 (.seq (.region 0 [.C 12 (.sl 0 [])])
 (.seq (.seq (.region 0 [.o 29 (.ay 5) [.t 4],
 .o 30 .ak [.t 29],
 .o 31 (.aj .eql) [.t 30, .k (.int .i64 4)]])
 (.join [2, 3, 4, 5, 8, 9, 12] (.cond (.t 31) (.seq (.region 0 [.C 13 (.aB)])
 (.seq (.region 0 [.o 33 (.aN 9) [.t 4],
 .o 34 (.aN 2) [.t 5],
 .o 35 (.ah uD) [.t 33, .t 34],
 .M 32 35,
 .o 36 (.ext 0) [.t 32],
 .o 37 (.ext 1) [.t 32],
 .M 12 36,
 .M 13 37])
 (.seq (.region 0 [.M 38 13,
 .o 39 (.eqN true true) [.t 38, .k (.aB)]])
 (.cond (.t 39) (.seq (.region 0 [.M 40 13,
 .C 8 (.aK),
 .M 9 40])
 .ret)
 .skip))))
 .skip)))
 (.seq (.seq (.region 0 [.M 41 2,
 .o 42 (.ay 0) [.t 5],
 .o 43 .ak [.t 42],
 .o 44 (.aj .lss) [.t 41, .t 43],
 .M 45 44,
 .g 45 false 46 (.aF) [.t 3],
 .g 45 false 47 (.aF) [.t 2],
 .g 45 false 48 (.aj .lss) [.t 46, .t 47],
 .o 49 .pick [.t 45, .k (.bool true), .t 48],
 .M 50 49,
 .g 50 false 51 (.ay 1) [.t 5],
 .g 50 false 52 (.ak) [.t 51],
 .g 50 false 53 (.aF) [.t 3],
 .g 50 false 54 (.aj .lss) [.t 52, .t 53],
 .o 55 .pick [.t 50, .k (.bool true), .t 54]])
 (.cond (.t 55) (.seq (.region 0 [.o 56 (.ah bM) [.k (.int .i64 6)],
 .C 8 (.aK),
 .M 9 56])
 .ret)
 .skip))
 (.seq (.seq (.region 0 [.o 57 (.ay 5) [.t 4],
 .o 58 .ak [.t 57],
 .o 59 (.aj .neq) [.t 58, .k (.int .i64 4)]])
 (.cond (.t 59) (.seq (.region 0 [.o 60 (.ay 5) [.t 4],
 .o 61 .ak [.t 60],
 .M 62 2,
 .M 63 3,
 .o 64 (.ay 0) [.t 5],
 .o 65 .ak [.t 64],
 .o 66 (.ay 1) [.t 5],
 .o 67 .ak [.t 66],
 .o 68 (.ay 2) [.t 4],
 .o 69 .ak [.t 68],
 .o 70 (.ah qh) [.t 61, .t 62, .t 63, .t 65, .t 67, .t 69],
 .o 71 (.ext 0) [.t 70],
 .o 72 (.ext 1) [.t 70],
 .M 8 71,
 .M 9 72])
 .ret)
 .skip))
 (.seq (.region 0 [.o 74 (.ah jq) [.k (.int .i64 0), .k (.int .i64 1)],
 .M 73 74,
 .o 75 (.ext 0) [.t 73],
 .o 76 (.ext 1) [.t 73],
 .M 14 75,
 .M 15 76])
 (.seq (.seq (.region 0 [.M 77 12,
 .o 78 .aZ [.t 77],
 .C 79 (.int .i64 0)])
 (.block 0 (.loop [2, 3, 4, 14, 77, 78, 79] [14] qX)))
 (.seq (.region 0 [.M 110 14,
 .M 8 110,
 .C 9 (.aB)])
 .ret)))))))))⟩
def AY : EF := ⟨[0, 1], [.tmp 4, .tmp 5], (.seq (.region 0 [.C 4 (.aK),
 .C 5 (.aB)])
 (.seq (.region 0 [.M 6 0,
 .o 7 (.ah bZ) [.t 6],
 .M 8 1,
 .o 9 (.ah bJ) [.t 8],
 .o 10 (.ah bD) [.t 7, .t 9],
 .M 11 0,
 .o 12 (.ah bJ) [.t 11],
 .M 13 1,
 .o 14 (.ah bZ) [.t 13],
 .o 15 (.ah bD) [.t 12, .t 14],
 .o 16 (.ah lS) [.t 10, .t 15],
 .o 17 (.ext 0) [.t 16],
 .o 18 (.ext 1) [.t 16],
 .M 4 17,
 .M 5 18])
 .ret))⟩
def ae_ : EF := ⟨[], [.tmp 0], (.seq (.region 0 [.C 0 (.aK)])
 (.seq (.region 0 [.o 4 (.ah jq) [.k (.int .i64 1), .k (.int .i64 1)],
 .M 3 4,
 .o 5 (.ext 0) [.t 3],
 .o 6 (.ext 1) [.t 3],
 .M 1 5,
 .M 2 6])
 (.seq (.region 0 [.M 7 1,
 .M 0 7])
 .ret)))⟩
def OZ : EF := ⟨[0, 1], [.tmp 4, .tmp 5], (.seq (.region 0 [.C 4 (.aK),
 .C 5 (.aB)])
 (.seq (.region 0 [.M 6 0,
 .o 7 (.ah gV) [.t 6],
 .M 8 1,
 .o 9 (.ah gV) [.t 8],
 .o 10 (.ah lS) [.t 7, .t 9],
 .o 11 (.ext 0) [.t 10],
 .o 12 (.ext 1) [.t 10],
 .M 4 11,
 .M 5 12])
 .ret))⟩
def AZ : EF := ⟨[0, 1], [.tmp 4], (.seq (.region 0 [.C 4 (.aK)])
 (.seq (.region 0 [.M 5 0,
 .o 6 (.ah bZ) [.t 5],
 .M 7 1,
 .o 8 (.ah bZ) [.t 7],
 .o 9 (.ah bD) [.t 6, .t 8],
 .M 10 0,
 .o 11 (.ah bJ) [.t 10],
 .M 12 1,
 .o 13 (.ah bJ) [.t 12],
 .o 14 (.ah bD) [.t 11, .t 13],
 .o 15 (.ah rH) [.t 9, .t 14],
 .M 4 15])
 .ret))⟩
def Oq : EC := (.seq (.region 0 [.o 24 (.aj .lss) [.t 23, .t 22]])
 (.seq (.cond (.t 24) .skip
 (.exit 0))
 (.seq (.block 1 (.seq (.region 0 [.o 25 (.aQ 1) [.t 21, .t 23],
 .o 26 .ak [.t 25],
 .M 10 26])
 (.seq (.region 0 [.M 28 8,
 .M 29 10,
 .o 30 (.ah bJ) [.t 29],
 .o 31 (.ah lS) [.t 28, .t 30],
 .M 27 31,
 .o 32 (.ext 0) [.t 27],
 .o 33 (.ext 1) [.t 27],
 .M 11 32,
 .M 12 33])
 (.region 0 [.M 34 8,
 .M 35 11,
 .o 36 (.ah bJ) [.t 35],
 .o 37 (.ah bD) [.t 34, .t 36],
 .M 8 37]))))
 (.region 0 [.o 38 (.aj .add) [.t 23, .k (.int .i64 1)],
 .M 23 38]))))
def Ot : EC := (.seq (.seq (.region 0 [.M 45 16,
 .o 46 (.aj .geq) [.t 45, .k (.int .i64 0)]])
 (.cond (.t 46) .skip
 (.exit 2)))
 (.seq (.block 3 (.seq (.region 0 [.M 50 8,
 .M 51 0,
 .M 52 16,
 .o 53 (.aQ 1) [.t 51, .t 52],
 .o 54 .ak [.t 53],
 .o 55 (.ah bJ) [.t 54],
 .o 56 (.ah uJ) [.t 50, .t 55],
 .M 49 56,
 .o 57 (.ext 0) [.t 49],
 .o 58 (.ext 1) [.t 49],
 .o 59 (.ext 2) [.t 49],
 .M 17 57,
 .M 18 58,
 .M 19 59])
 (.seq (.region 0 [.M 60 13,
 .M 61 14,
 .o 62 (.ah eX) [.t 60, .t 61],
 .M 63 2,
 .o 64 (.ah bD) [.t 62, .t 63],
 .M 13 64])
 (.seq (.drawn 0 [(0, .M 65 14),
 (1, .M 66 2),
 (2, .o 67 (.ah bD) [.t 65, .t 66]),
 (3, .M 68 0),
 (4, .M 69 16),
 (5, .o 70 (.aQ 1) [.t 68, .t 69]),
 (6, .o 71 .ak [.t 70]),
 (7, .o 72 (.ah bZ) [.t 71]),
 (8, .M 73 17),
 (9, .o 74 (.ah bD) [.t 72, .t 73]),
 (10, .M 75 15),
 (11, .o 76 (.ah bD) [.t 74, .t 75]),
 (12, .o 77 (.ah eX) [.t 67, .t 76]),
 (13, .M 14 77)])
 (.region 0 [.M 78 15,
 .M 79 1,
 .o 80 (.ah bD) [.t 78, .t 79],
 .M 15 80])))))
 (.region 0 [.M 47 16,
 .o 48 (.aj .sub) [.t 47, .k (.int .i64 1)],
 .M 16 48])))
def abE : EF := ⟨[0, 1, 2], [.tmp 6, .tmp 7], (.seq (.region 0 [.C 6 (.aK),
 .C 7 (.aK)])
 (.seq (.region 0 [.o 20 (.ah gV) [.k (.int .i64 1)],
 .M 8 20])
 (.seq (.seq (.region 0 [.M 21 0,
 .o 22 .aZ [.t 21],
 .C 23 (.int .i64 0)])
 (.block 0 (.loop [0, 1, 2, 8, 21, 22, 23] [0, 1, 2, 8] Oq)))
 (.seq (.region 0 [.o 39 (.ah gV) [.k (.int .i64 0)],
 .o 40 (.ah gV) [.k (.int .i64 0)],
 .o 41 (.ah gV) [.k (.int .i64 1)],
 .M 13 39,
 .M 14 40,
 .M 15 41])
 (.seq (.seq (.region 0 [.M 42 0,
 .o 43 .aZ [.t 42],
 .o 44 (.aj .sub) [.t 43, .k (.int .i64 1)],
 .M 16 44])
 (.block 2 (.loop [0, 1, 2, 8, 13, 14, 15, 16] [13, 14] Ot)))
 (.seq (.region 0 [.M 81 13,
 .M 82 14,
 .M 6 81,
 .M 7 82])
 .ret))))))⟩
end Go.Ev.Code
end
