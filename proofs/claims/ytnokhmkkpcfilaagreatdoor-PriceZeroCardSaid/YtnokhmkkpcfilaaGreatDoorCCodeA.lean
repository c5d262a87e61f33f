/- A part of the proof of flowSum_card, flowParts_card, flowEx_card, accrWhole_card, priceZero_card. -/
import Derived.Test.YtnokhmkkpcfilaaGreatDoorCDef
set_option linter.unusedVariables false
section
namespace Go.Ev.Code
open Go.Ev
def jE : Nat := 3
def iM : Nat := 4
def jZ : Nat := 5
def iL : Nat := 6
def iO : Nat := 7
def dF : Nat := 8
def kH : Nat := 9
def vN : Nat := 10
def lT : Nat := 11
def Af : Nat := 12
def iF : Nat := 13
def jq : Nat := 14
def gG : Nat := 15
def jR : Nat := 16
def kW : Nat := 17
def lH : Nat := 18
def iW : Nat := 19
def h_ : Nat := 20
def gI : Nat := 21
def jh : Nat := 22
def gZ : Nat := 23
def jD : Nat := 24
def fA : Nat := 25
def yF : Nat := 26
def Aa : Nat := 27
def oG : Nat := 28
def xY : Nat := 29
def nX : Nat := 30
def gY : Nat := 31
def qB : Nat := 32
def sS : Nat := 33
def zV : Nat := 34
def rW : Nat := 35
def kT : Nat := 36
def fG : Nat := 37
def kN : Nat := 38
def kJ : Nat := 39
def qF : Nat := 40
def qL : Nat := 41
def pX : Nat := 42
def strings_Cut : Nat := 43
def Ju : Nat := 44
def lS : Nat := 45
def fC : Nat := 46
def b_ : Nat := 47
def mZ : Nat := 48
def gW : Nat := 49
def dB : Nat := 50
def cZ : Nat := 51
def nM : Nat := 52
def bY : Nat := 53
def nK : Nat := 54
def uS : Nat := 55
def gu : Nat := 56
def bM : Nat := 57
def uM : Nat := 58
def slices_Reverse_int : Nat := 59
def fU : Nat := 60
def xw : Nat := 61
def sF : Nat := 62
def mg : Nat := 63
def jg : Nat := 64
def nZ : Nat := 65
def pK : Nat := 66
def jW : Nat := 67
def mJ : Nat := 68
def dU : Nat := 69
def kX : Nat := 70
def fJ : Nat := 71
def wQ : Nat := 72
def tJ : Nat := 73
def Bf : Nat := 74
def rC : Nat := 75
def uO : Nat := 76
def wS : Nat := 77
def lX : Nat := 78
def BL : Nat := 79
def Ew : Nat := 80
def BP : Nat := 81
def Tc : Nat := 82
def rX : Nat := 83
def Bg : Nat := 84
def Bh : Nat := 85
def vZ : Nat := 86
def jK : Nat := 87
def jf : Nat := 88
def vJ : Nat := 89
def strings_CutPrefix : Nat := 91
def kM : Nat := 92
def iD : Nat := 93
def g_ : Nat := 94
def iK : Nat := 95
def iI : Nat := 96
def cu : Nat := 97
def bK : Nat := 98
def nI : Nat := 99
def iJ : Nat := 100
def qo : Nat := 101
def jS : Nat := 102
def lU : Nat := 103
def qA : Nat := 104
def uq : Nat := 105
def eu : Nat := 106
def yV : Nat := 107
def zC : Nat := 109
def jH : Nat := 110
def kK : Nat := 111
def uN : Nat := 112
def qm : Nat := 113
def ug : Nat := 114
def fM : Nat := 115
def mW : Nat := 116
def vK : Nat := 117
def B_ : Nat := 118
def O0 : Nat := 119
def oZ : Nat := 120
def rU : Nat := 121
def Bl : Nat := 122
def uo : Nat := 123
def SG : Nat := 124
def sQ : Nat := 125
def F8 : Nat := 126
def je : Nat := 127
def iQ : Nat := 128
def GR : Nat := 129
def fF : Nat := 139
def bits_Mul64 : Nat := 142
def bits_Add64 : Nat := 143
def wK : Nat := 144
def lV : Nat := 145
def wM : Nat := 146
def Gp : Nat := 147
def bits_Sub64 : Nat := 148
def GK : Nat := 149
def iH : Nat := 154
def pY : Nat := 155
def yO : Nat := 156
def gQ : Nat := 157
def GH : Nat := 158
def Gi : Nat := 159
def jB : Nat := 160
def GI : Nat := 161
def Bo : Nat := 162
def t_ : Nat := 163
def DX : Nat := 164
def rV : Nat := 165
def xq : Nat := 166
def dJ : Nat := 167
def fK : Nat := 168
def strings_Repeat : Nat := 169
def slices_Reverse_string : Nat := 170
def strings_Join : Nat := 171
def qj : Nat := 172
def zu : Nat := 188
def Ae : Nat := 189
def nat_bit : Nat := 190
def BH : Nat := 191
def sD : Nat := 192
def bits_LeadingZeros64 : Nat := 193
def zo : Nat := 194
def BG : Nat := 195
def BI : Nat := 196
def BF : Nat := 197
def gU : Nat := 198
def Bj : Nat := 201
def kD : Nat := 202
def kQ : Nat := 203
def og : Nat := 204
def OB : Nat := 205
def Bq : Nat := 206
def KN : Nat := 207
def KO : Nat := 208
def rP : Nat := 209
def BD : Nat := 210
def strconv_Itoa : Nat := 211
def bits_TrailingZeros64 : Nat := 226
def Jo : Nat := 228
def Hf : Nat := 229
def GU : Nat := 230
def zT : Nat := 231
def rQ : Nat := 232
def oI : Nat := 233
def zS : Nat := 244
def H_ : Nat := 245
def tK : Nat := 246
def GV : Nat := 247
def ru : Nat := 255
def GX : Nat := 256
def jU : Nat := 276
def ou : Nat := 277
def yt : Nat := 278
def iy : Nat := 279
def dR : Nat := 298
def j_ : Nat := 134
def jl : Nat := 143
def zN : Nat := 242
def hndB : Nat := 16
end Go.Ev.Code
namespace Go.Ev
instance (n : Nat) : OfNat yM n := ⟨.t n⟩
abbrev yM.ki (n : Int) : yM := .k (.int .i64 n)
abbrev yM.kb (b : Bool) : yM := .k (.bool b)
end Go.Ev
end
section
namespace Go.Ev.Code
open Go.Ev
def ig : EC := (.seq (.seq (.region 0 [.M 37 7,
 .M 38 4,
 .o 39 .bI [38],
 .o 40 (.aj .lss) [37, 39]])
 (.cond (.t 40) .skip
 (.exit 0)))
 (.seq (.block 1 (.seq (.region 0 [.M 44 4,
 .M 45 7,
 .o 46 (.bH 2) [44, 45],
 .o 47 (.aG 1) [46],
 .o 48 .au [47],
 .o 49 (.ah Af) [48],
 .M 43 49,
 .o 50 (.ext 0) [43],
 .o 51 (.ext 1) [43],
 .M 8 50,
 .M 9 51])
 (.seq (.seq (.region 0 [.M 52 9,
 .o 53 (.eqN true true) [52, .k .aF],
 .M 54 53,
 .g 54 false 55 .aW [8],
 .g 54 false 56 (.ah iF) [55],
 .g 54 false 57 (.aj .lss) [56, .ki 0],
 .o 58 .pick [54, .kb true, 57]])
 (.cond (.t 58) (.seq (.region 0 [.C 2 (.bool false)])
 .ret)
 .skip))
 (.region 0 [.M 59 6,
 .M 60 8,
 .o 61 (.ah jq) [59, 60],
 .M 6 61]))))
 (.region 0 [.M 41 7,
 .o 42 (.aj .add) [41, .ki 1],
 .M 7 42])))
def qc : EF := ⟨[0], [.tmp 2], (.seq (.region 1 [.o 1 (.box 0) [0],
 .C 2 (.bool false)])
 (.seq (.region 0 [.o 10 (.ah dF) [],
 .M 3 10])
 (.seq (.seq (.region 0 [.M 11 3,
 .o 12 .not [11]])
 (.cond (.t 12) (.seq (.region 0 [.C 2 (.bool false)])
 .ret)
 .skip))
 (.seq (.region 0 [.o 13 (.aU 9) [1],
 .o 14 (.ah kH) [13],
 ⟨.store 9, [1, 14], none, none⟩])
 (.seq (.region 0 [.o 16 (.aU 9) [1],
 .o 17 (.ah vN) [16],
 .M 15 17,
 .o 18 (.ext 0) [15],
 .o 19 (.ext 1) [15],
 .M 4 18,
 .M 5 19])
 (.seq (.seq (.region 0 [.M 20 5,
 .o 21 (.eqN true true) [20, .k .aF],
 .M 22 21,
 .g 22 false 23 .aW [4],
 .g 22 false 24 .bI [23],
 .g 22 false 25 (.aG 2) [1],
 .g 22 false 26 .au [25],
 .g 22 false 27 (.aj .add) [26, .ki 1],
 .g 22 false 28 (.aj .lss) [24, 27],
 .o 29 .pick [22, .kb true, 28]])
 (.cond (.t 29) (.seq (.region 0 [.C 2 (.bool true)])
 .ret)
 .skip))
 (.seq (.region 0 [.o 30 (.aU 9) [1],
 .o 31 (.ah lT) [30],
 .M 6 31])
 (.seq (.seq (.region 0 [.M 32 4,
 .o 33 .bI [32],
 .o 34 (.aG 2) [1],
 .o 35 .au [34],
 .o 36 (.aj .sub) [33, 35],
 .M 7 36])
 (.block 0 (.loop [1, 4, 6, 7] [1, 2, 6] ig)))
 (.seq (.region 0 [.M 62 6,
 .o 63 (.aU 9) [1],
 .o 64 (.ah jR) [63],
 .o 65 (.ah gG) [62, 64],
 .o 66 (.ah iF) [65],
 .o 67 (.aj .eql) [66, .ki 0],
 .M 2 67])
 .ret)))))))))⟩
def nT : EF := ⟨[0, 1, 2, 3], [.tmp 8], (.seq (.region 1 [.o 4 (.box 0) [0],
 .C 8 (.bool false)])
 (.seq (.region 0 [.o 26 (.ah dF) [],
 .M 9 26])
 (.seq (.seq (.region 0 [.M 27 9,
 .o 28 .not [27]])
 (.cond (.t 28) (.seq (.region 0 [.C 8 (.bool false)])
 .ret)
 .skip))
 (.seq (.region 0 [.o 29 (.aU 9) [4],
 .o 30 (.ah kH) [29],
 ⟨.store 9, [4, 30], none, none⟩])
 (.seq (.region 0 [.o 32 (.aU 9) [4],
 .o 33 (.ah kW) [32],
 .M 31 33,
 .o 34 (.ext 0) [31],
 .o 35 (.ext 1) [31],
 .M 10 34,
 .M 11 35])
 (.seq (.seq (.region 0 [.M 36 11,
 .o 37 (.eqN true true) [36, .k .aF]])
 (.cond (.t 37) (.seq (.region 0 [.C 8 (.bool true)])
 .ret)
 .skip))
 (.seq (.region 1 [.M 38 10,
 .M 39 1,
 .o 40 (.aj .and) [39, .ki 1023],
 .M 41 10,
 .o 42 .bI [41],
 .o 43 (.aj .rem) [40, 42],
 .o 44 (.bH 2) [38, 43],
 .o 45 (.aU 2) [44],
 .o 12 (.alloc 0 [.int .i64 0, .int .i64 0]) [],
 ⟨.store 2, [12, 45], none, none⟩])
 (.seq (.region 0 [.o 46 (.aG 1) [12],
 .o 47 .au [46],
 .o 48 (.aG 0) [12],
 .o 49 .au [48],
 .o 50 (.aj .sub) [47, 49],
 .o 51 (.aj .add) [50, .ki 1],
 .M 13 51])
 (.seq (.drawn 0 [(0, .o 52 (.aG 0) [12]),
 (1, .o 53 .au [52]),
 (2, .M 54 2),
 (3, .o 55 (.aj .and) [54, .ki 1023]),
 (4, .M 56 13),
 (5, .o 57 (.aj .rem) [55, 56]),
 (6, .o 58 (.aj .add) [53, 57]),
 (7, .o 59 (.aG 0) [12]),
 (8, .o 60 .au [59]),
 (9, .M 61 3),
 (10, .o 62 (.aj .and) [61, .ki 1023]),
 (11, .M 63 13),
 (12, .o 64 (.aj .rem) [62, 63]),
 (13, .o 65 (.aj .add) [60, 64]),
 (14, .M 14 58),
 (15, .M 15 65)])
 (.seq (.seq (.region 0 [.M 66 14,
 .M 67 15,
 .o 68 (.aj .gtr) [66, 67]])
 (.join [4, 12, 14, 15] (.cond (.t 68) (.region 0 [.M 69 15,
 .M 70 14,
 .M 14 69,
 .M 15 70])
 .skip)))
 (.seq (.region 0 [.o 72 (.aU 9) [4],
 .o 73 (.aU 2) [12],
 .o 74 (.aG 0) [12],
 .o 75 .au [74],
 .M 76 14,
 .o 77 (.ah lH) [72, 73, 75, 76],
 .M 71 77,
 .o 78 (.ext 0) [71],
 .o 79 (.ext 1) [71],
 .M 16 78,
 .M 17 79])
 (.seq (.region 0 [.o 81 (.aU 9) [4],
 .o 82 (.aU 2) [12],
 .M 83 14,
 .M 84 15,
 .o 85 (.ah lH) [81, 82, 83, 84],
 .M 80 85,
 .o 86 (.ext 0) [80],
 .o 87 (.ext 1) [80],
 .M 18 86,
 .M 19 87])
 (.seq (.region 0 [.o 89 (.aU 9) [4],
 .o 90 (.aU 2) [12],
 .M 91 15,
 .o 92 (.aG 1) [12],
 .o 93 .au [92],
 .o 94 (.ah lH) [89, 90, 91, 93],
 .M 88 94,
 .o 95 (.ext 0) [88],
 .o 96 (.ext 1) [88],
 .M 20 95,
 .M 21 96])
 (.seq (.region 0 [.o 98 (.aU 9) [4],
 .o 99 (.aU 2) [12],
 .o 100 (.aG 0) [12],
 .o 101 .au [100],
 .o 102 (.aG 1) [12],
 .o 103 .au [102],
 .o 104 (.ah lH) [98, 99, 101, 103],
 .M 97 104,
 .o 105 (.ext 0) [97],
 .o 106 (.ext 1) [97],
 .M 22 105,
 .M 23 106])
 (.seq (.seq (.region 0 [.M 107 17,
 .o 108 (.eqN true true) [107, .k .aF],
 .M 109 108,
 .g 109 false 110 .aW [19],
 .g 109 false 111 (.eqN true true) [110, .k .aF],
 .o 112 .pick [109, .kb true, 111],
 .M 113 112,
 .g 113 false 114 .aW [21],
 .g 113 false 115 (.eqN true true) [114, .k .aF],
 .o 116 .pick [113, .kb true, 115],
 .M 117 116,
 .g 117 false 118 .aW [23],
 .g 117 false 119 (.eqN true true) [118, .k .aF],
 .o 120 .pick [117, .kb true, 119]])
 (.cond (.t 120) (.seq (.region 0 [.M 121 17,
 .o 122 (.ah iW) [121, .ki 4],
 .M 123 122,
 .g 123 false 124 .aW [23],
 .g 123 false 125 (.ah iW) [124, .ki 4],
 .o 126 .pick [123, .kb true, 125],
 .M 8 126])
 .ret)
 .skip))
 (.seq (.region 0 [.o 128 (.aG 2) [4],
 .o 129 .au [128],
 .o 130 (.ah h_) [.ki 1, 129],
 .M 127 130,
 .o 131 (.ext 0) [127],
 .o 132 (.ext 1) [127],
 .M 24 131,
 .M 25 132])
 (.seq (.region 0 [.M 133 16,
 .M 134 18,
 .o 135 (.ah gG) [133, 134],
 .M 136 20,
 .o 137 (.ah gG) [135, 136],
 .M 138 22,
 .o 139 (.ah gI) [137, 138],
 .o 140 (.aj .eql) [139, .ki 0],
 .M 141 140,
 .g 141 true 142 (.aG 5) [4],
 .g 141 true 143 .au [142],
 .g 141 true 144 (.aj .neq) [143, .ki 4],
 .g 141 true 145 .aW [144],
 .g 145 false 146 (.aU 9) [4],
 .g 145 false 147 (.aU 2) [12],
 .g 145 false 148 (.ah jh) [146, 147],
 .g 145 false 149 .not [148],
 .g 141 true 150 .pick [145, .kb true, 149],
 .g 141 true 151 .aW [150],
 .g 151 false 152 .aW [22],
 .g 151 false 153 .aW [24],
 .g 151 false 154 (.ah gI) [152, 153],
 .g 151 false 155 (.aj .eql) [154, .ki 0],
 .g 141 true 156 .pick [151, .kb true, 155],
 .o 157 .pick [141, 156, .kb false],
 .M 8 157])
 .ret)))))))))))))))))⟩
def qN : EF := ⟨[0, 1, 2], [.tmp 6], (.seq (.region 0 [.C 6 (.bool false)])
 (.seq (.region 0 [.o 26 (.ah dF) [],
 .M 7 26])
 (.seq (.seq (.region 0 [.M 27 7,
 .o 28 .not [27]])
 (.cond (.t 28) (.seq (.region 0 [.C 6 (.bool false)])
 .ret)
 .skip))
 (.seq (.region 1 [.o 29 (.ah gZ) [.k (.str [54]), .ki 4],
 .o 8 (.alloc 0 [.int .i64 0, .int .i64 0, .int .i64 0, .str [], .str [], .int .i64 0, .int .i64 0, .bool false, .int .i64 0]) [],
 ⟨.store 9, [8, 29], none, none⟩])
 (.seq (.region 0 [.M 30 0,
 .o 31 (.ah jD) [30],
 .o 32 (.aj .rem) [31, .ki 90000],
 .o 33 (.aj .add) [.ki 3000, 32],
 .o 34 (.aG 0) [8],
 ⟨.store 1, [34, 33], none, none⟩])
 (.seq (.region 0 [.o 36 (.aG 0) [8],
 .o 37 .au [36],
 .o 38 (.ah fA) [37, .ki 36, .kb false],
 .M 35 38,
 .o 39 (.ext 0) [35],
 .o 40 (.ext 1) [35],
 .o 41 (.aG 1) [8],
 ⟨.store 1, [41, 39], none, none⟩])
 (.seq (.region 0 [.M 42 2,
 .o 43 (.aj .rem) [42, .ki 30],
 .o 44 (.aj .add) [43, .ki 30],
 .o 45 (.aj .rem) [44, .ki 30],
 .o 46 (.aj .add) [.ki 1, 45],
 .o 47 (.aG 6) [8],
 ⟨.store 1, [47, .ki 1], none, none⟩,
 .o 48 (.aG 8) [8],
 ⟨.store 1, [48, 46], none, none⟩])
 (.seq (.region 0 [.o 49 (.aG 0) [8],
 .o 50 .au [49],
 .M 51 1,
 .o 52 (.aj .rem) [51, .ki 1000],
 .o 53 (.aj .add) [52, .ki 1000],
 .o 54 (.aj .rem) [53, .ki 1000],
 .o 55 (.aj .add) [50, 54],
 .M 9 55])
 (.seq (.region 0 [.o 57 (.aU 9) [8],
 .o 58 (.ah kW) [57],
 .M 56 58,
 .o 59 (.ext 0) [56],
 .o 60 (.ext 1) [56],
 .M 10 59,
 .M 11 60])
 (.seq (.region 0 [.M 61 10,
 .M 62 9,
 .o 63 (.ah yF) [61, 62],
 .M 12 63])
 (.seq (.seq (.region 0 [.M 64 11,
 .o 65 (.eqN true true) [64, .k .aF],
 .M 66 65,
 .g 66 false 67 .aW [12],
 .g 66 false 68 (.aj .lss) [67, .ki 0],
 .o 69 .pick [66, .kb true, 68]])
 (.cond (.t 69) (.seq (.region 0 [.M 70 11,
 .o 71 (.eqN false true) [70, .k .aF],
 .M 6 71])
 .ret)
 .skip))
 (.seq (.region 0 [.o 73 (.aU 9) [8],
 .M 74 9,
 .o 75 (.ah Aa) [73, 74],
 .M 72 75,
 .o 76 (.ext 0) [72],
 .o 77 (.ext 1) [72],
 .M 13 76,
 .M 14 77])
 (.seq (.region 0 [.o 79 (.aU 9) [8],
 .M 80 9,
 .o 81 (.ah oG) [79, 80],
 .M 78 81,
 .o 82 (.ext 0) [78],
 .o 83 (.ext 1) [78],
 .M 15 82,
 .M 16 83])
 (.seq (.region 1 [.o 84 (.aU 9) [8],
 .o 17 (.alloc 0 [.int .i64 0, .int .i64 0, .int .i64 0, .str [], .str [], .int .i64 0, .int .i64 0, .bool false, .int .i64 0]) [],
 ⟨.store 9, [17, 84], none, none⟩])
 (.seq (.region 0 [.o 85 (.aG 8) [17],
 ⟨.store 1, [85, .ki 0], none, none⟩])
 (.seq (.region 0 [.o 87 (.aU 9) [17],
 .M 88 9,
 .o 89 (.ah oG) [87, 88],
 .M 86 89,
 .o 90 (.ext 0) [86],
 .o 91 (.ext 1) [86],
 .M 18 90,
 .M 19 91])
 (.seq (.region 0 [.o 93 (.aU 9) [8],
 .M 94 9,
 .o 95 (.ah xY) [93, 94],
 .M 92 95,
 .o 96 (.ext 0) [92],
 .o 97 (.ext 1) [92],
 .M 20 96,
 .M 21 97])
 (.seq (.region 0 [.o 99 (.aU 9) [17],
 .M 100 9,
 .o 101 (.ah xY) [99, 100],
 .M 98 101,
 .o 102 (.ext 0) [98],
 .o 103 (.ext 1) [98],
 .M 22 102,
 .M 23 103])
 (.seq (.drawn 0 [(0, .o 105 (.aU 9) [8]),
 (1, .M 106 10),
 (2, .M 107 12),
 (3, .o 108 (.bH 2) [106, 107]),
 (4, .o 109 (.aU 2) [108]),
 (5, .o 110 (.ah nX) [105, 109]),
 (6, .M 104 110),
 (7, .o 111 (.ext 0) [104]),
 (8, .o 112 (.ext 1) [104]),
 (9, .M 24 111),
 (10, .M 25 112)])
 (.seq (.seq (.drawn 0 [(0, .M 113 14),
 (1, .o 114 (.eqN true true) [113, .k .aF]),
 (2, .M 115 114),
 (3, .g 115 false 116 .aW [16]),
 (4, .g 115 false 117 (.eqN true true) [116, .k .aF]),
 (5, .o 118 .pick [115, .kb true, 117]),
 (6, .M 119 118),
 (7, .g 119 false 120 .aW [19]),
 (8, .g 119 false 121 (.eqN true true) [120, .k .aF]),
 (9, .o 122 .pick [119, .kb true, 121]),
 (10, .M 123 122),
 (11, .g 123 false 124 .aW [21]),
 (12, .g 123 false 125 (.eqN true true) [124, .k .aF]),
 (13, .o 126 .pick [123, .kb true, 125]),
 (14, .M 127 126),
 (15, .g 127 false 128 .aW [23]),
 (16, .g 127 false 129 (.eqN true true) [128, .k .aF]),
 (17, .o 130 .pick [127, .kb true, 129]),
 (18, .M 131 130),
 (19, .g 131 false 132 .aW [25]),
 (20, .g 131 false 133 (.eqN true true) [132, .k .aF]),
 (21, .o 134 .pick [131, .kb true, 133]),
 (22, .M 135 134),
 (23, .g 135 false 136 .aW [13]),
 (24, .g 135 false 137 .aW [9]),
 (25, .g 135 false 138 .aW [10]),
 (26, .g 135 false 139 .aW [12]),
 (27, .g 135 false 140 (.bH 2) [138, 139]),
 (28, .g 135 false 141 (.aG 1) [140]),
 (29, .g 135 false 142 .au [141]),
 (30, .g 135 false 143 (.aG 8) [8]),
 (31, .g 135 false 144 .au [143]),
 (32, .g 135 false 145 (.aj .sub) [142, 144]),
 (33, .g 135 false 146 (.aj .geq) [137, 145]),
 (34, .g 135 false 147 (.eqB true) [136, 146]),
 (35, .o 148 .pick [135, .kb true, 147])])
 (.cond (.t 148) (.seq (.region 0 [.C 6 (.bool false)])
 .ret)
 .skip))
 (.seq (.seq (.region 0 [.M 149 13,
 .o 150 .not [149]])
 (.cond (.t 150) (.seq (.region 0 [.M 151 15,
 .o 152 .bI [151],
 .M 153 18,
 .o 154 .bI [153],
 .o 155 (.aj .eql) [152, 154],
 .M 156 155,
 .g 156 true 157 .aW [20],
 .g 156 true 158 .aW [22],
 .g 156 true 159 (.ah gI) [157, 158],
 .g 156 true 160 (.aj .eql) [159, .ki 0],
 .o 161 .pick [156, 160, .kb false],
 .M 6 161])
 .ret)
 .skip))
 (.seq (.region 0 [.M 162 15,
 .o 163 .bI [162],
 .M 164 18,
 .o 165 .bI [164],
 .o 166 (.aj .sub) [165, .ki 1],
 .o 167 (.aj .eql) [163, 166],
 .M 168 167,
 .g 168 false 169 .aW [18],
 .g 168 false 170 .bI [169],
 .g 168 false 171 (.aj .eql) [170, .ki 1],
 .o 172 .pick [168, .kb true, 171],
 .M 173 172,
 .g 173 true 174 .aW [22],
 .g 173 true 175 .aW [20],
 .g 173 true 176 (.ah jq) [174, 175],
 .g 173 true 177 .aW [24],
 .g 173 true 178 (.ah gI) [176, 177],
 .g 173 true 179 (.aj .eql) [178, .ki 0],
 .o 180 .pick [173, 179, .kb false],
 .M 6 180])
 .ret))))))))))))))))))))))⟩
def nS : EF := ⟨[0, 1], [.tmp 4], (.seq (.region 0 [.C 4 (.bool false)])
 (.seq (.region 0 [.o 16 (.ah dF) [],
 .M 5 16])
 (.seq (.seq (.region 0 [.M 17 5,
 .o 18 .not [17]])
 (.cond (.t 18) (.seq (.region 0 [.C 4 (.bool false)])
 .ret)
 .skip))
 (.seq (.region 1 [.o 19 (.ah gZ) [.k (.str [55, 46, 50, 53]), .ki 4],
 .o 6 (.alloc 0 [.int .i64 0, .int .i64 0, .int .i64 0, .str [], .str [], .int .i64 0, .int .i64 0, .bool false, .int .i64 0]) [],
 ⟨.store 9, [6, 19], none, none⟩])
 (.seq (.region 0 [.M 20 0,
 .o 21 (.ah jD) [20],
 .o 22 (.aj .rem) [21, .ki 90000],
 .o 23 (.aj .add) [.ki 3000, 22],
 .o 24 (.aG 0) [6],
 ⟨.store 1, [24, 23], none, none⟩])
 (.seq (.region 0 [.o 26 (.aG 0) [6],
 .o 27 .au [26],
 .o 28 (.ah fA) [27, .ki 60, .kb false],
 .M 25 28,
 .o 29 (.ext 0) [25],
 .o 30 (.ext 1) [25],
 .o 31 (.aG 1) [6],
 ⟨.store 1, [31, 29], none, none⟩])
 (.seq (.region 0 [.o 32 (.aG 6) [6],
 ⟨.store 1, [32, .ki 1], none, none⟩])
 (.seq (.region 0 [.o 34 (.aU 9) [6],
 .o 35 (.ah kW) [34],
 .M 33 35,
 .o 36 (.ext 0) [33],
 .o 37 (.ext 1) [33],
 .M 7 36,
 .M 8 37])
 (.seq (.seq (.region 0 [.M 38 8,
 .o 39 (.eqN true true) [38, .k .aF],
 .M 40 39,
 .g 40 false 41 .aW [7],
 .g 40 false 42 .bI [41],
 .g 40 false 43 (.aj .eql) [42, .ki 0],
 .o 44 .pick [40, .kb true, 43]])
 (.cond (.t 44) (.seq (.region 0 [.C 4 (.bool false)])
 .ret)
 .skip))
 (.seq (.region 1 [.M 45 7,
 .M 46 1,
 .M 47 7,
 .o 48 .bI [47],
 .o 49 (.aj .rem) [46, 48],
 .M 50 7,
 .o 51 .bI [50],
 .o 52 (.aj .add) [49, 51],
 .M 53 7,
 .o 54 .bI [53],
 .o 55 (.aj .rem) [52, 54],
 .o 56 (.bH 2) [45, 55],
 .o 57 (.aU 2) [56],
 .o 9 (.alloc 0 [.int .i64 0, .int .i64 0]) [],
 ⟨.store 2, [9, 57], none, none⟩])
 (.seq (.region 0 [.o 59 (.aU 9) [6],
 .o 60 (.aG 1) [9],
 .o 61 .au [60],
 .o 62 (.aj .sub) [61, .ki 1],
 .o 63 (.ah xY) [59, 62],
 .M 58 63,
 .o 64 (.ext 0) [58],
 .o 65 (.ext 1) [58],
 .M 10 64,
 .M 11 65])
 (.seq (.region 0 [.o 67 (.aU 9) [6],
 .o 68 (.aU 2) [9],
 .o 69 (.ah nX) [67, 68],
 .M 66 69,
 .o 70 (.ext 0) [66],
 .o 71 (.ext 1) [66],
 .M 12 70,
 .M 13 71])
 (.seq (.region 0 [.o 73 (.aG 1) [9],
 .o 74 .au [73],
 .o 75 (.aj .sub) [74, .ki 1],
 .o 76 (.aG 0) [9],
 .o 77 .au [76],
 .o 78 (.aj .sub) [75, 77],
 .o 79 (.aG 1) [9],
 .o 80 .au [79],
 .o 81 (.aG 0) [9],
 .o 82 .au [81],
 .o 83 (.aj .sub) [80, 82],
 .o 84 (.ah h_) [78, 83],
 .M 72 84,
 .o 85 (.ext 0) [72],
 .o 86 (.ext 1) [72],
 .M 14 85,
 .M 15 86])
 (.seq (.region 0 [.M 87 11,
 .o 88 (.eqN false true) [87, .k .aF],
 .M 89 88,
 .g 89 true 90 .aW [13],
 .g 89 true 91 (.eqN false true) [90, .k .aF],
 .o 92 .pick [89, 91, .kb false],
 .M 93 92,
 .g 93 true 94 (.aU 9) [6],
 .g 93 true 95 (.aU 2) [9],
 .g 93 true 96 (.ah jh) [94, 95],
 .g 93 true 97 .not [96],
 .g 93 true 98 .aW [97],
 .g 98 false 99 .aW [10],
 .g 98 false 100 .aW [12],
 .g 98 false 101 .aW [14],
 .g 98 false 102 (.ah gY) [100, 101],
 .g 98 false 103 (.ah gI) [99, 102],
 .g 98 false 104 (.aj .eql) [103, .ki 0],
 .g 93 true 105 .pick [98, .kb true, 104],
 .o 106 .pick [93, 105, .kb false],
 .M 4 106])
 .ret))))))))))))))⟩
def f_ : EC := (.seq (.region 0 [.o 96 (.aj .lss) [95, 94]])
 (.seq (.cond (.t 96) .skip
 (.exit 0))
 (.seq (.block 1 (.seq (.region 0 [.M 97 95,
 .M 18 97])
 (.seq (.region 0 [.M 99 14,
 .M 100 18,
 .o 101 (.bH 2) [99, 100],
 .o 102 (.aG 1) [101],
 .o 103 .au [102],
 .o 104 (.ah Af) [103],
 .M 98 104,
 .o 105 (.ext 0) [98],
 .o 106 (.ext 1) [98],
 .M 19 105,
 .M 20 106])
 (.region 0 [.M 107 16,
 .M 108 19,
 .o 109 (.ah gG) [107, 108],
 .M 16 109]))))
 (.region 0 [.o 110 (.aj .add) [95, .ki 1],
 .M 95 110]))))
def nU : EF := ⟨[0, 1, 2], [.tmp 6], (.seq (.region 0 [.C 6 (.bool false)])
 (.seq (.region 0 [.o 21 (.ah dF) [],
 .M 7 21])
 (.seq (.seq (.region 0 [.M 22 7,
 .o 23 .not [22]])
 (.cond (.t 23) (.seq (.region 0 [.C 6 (.bool false)])
 .ret)
 .skip))
 (.seq (.region 1 [.M 24 2,
 .o 25 (.aj .rem) [24, .ki 4],
 .o 26 (.aj .add) [25, .ki 4],
 .o 27 (.aj .rem) [26, .ki 4],
 .o 28 (.aj .add) [.ki 1, 27],
 .o 29 (.ah gZ) [.k (.str [51, 46, 53]), 28],
 .o 8 (.alloc 0 [.int .i64 0, .int .i64 0, .int .i64 0, .str [], .str [], .int .i64 0, .int .i64 0, .bool false, .int .i64 0]) [],
 ⟨.store 9, [8, 29], none, none⟩])
 (.seq (.region 0 [.M 30 0,
 .o 31 (.ah jD) [30],
 .o 32 (.aj .rem) [31, .ki 90000],
 .o 33 (.aj .add) [.ki 3000, 32],
 .o 34 (.aG 0) [8],
 ⟨.store 1, [34, 33], none, none⟩])
 (.seq (.region 0 [.o 36 (.aG 0) [8],
 .o 37 .au [36],
 .o 38 (.ah fA) [37, .ki 60, .kb false],
 .M 35 38,
 .o 39 (.ext 0) [35],
 .o 40 (.ext 1) [35],
 .o 41 (.aG 1) [8],
 ⟨.store 1, [41, 39], none, none⟩])
 (.seq (.region 0 [.o 42 (.aG 6) [8],
 ⟨.store 1, [42, .ki 1], none, none⟩])
 (.seq (.region 0 [.o 44 (.aU 9) [8],
 .o 45 (.ah kW) [44],
 .M 43 45,
 .o 46 (.ext 0) [43],
 .o 47 (.ext 1) [43],
 .M 9 46,
 .M 10 47])
 (.seq (.seq (.region 0 [.M 48 10,
 .o 49 (.eqN true true) [48, .k .aF]])
 (.cond (.t 49) (.seq (.region 0 [.C 6 (.bool false)])
 .ret)
 .skip))
 (.seq (.region 1 [.M 50 9,
 .M 51 1,
 .M 52 9,
 .o 53 .bI [52],
 .o 54 (.aj .rem) [51, 53],
 .M 55 9,
 .o 56 .bI [55],
 .o 57 (.aj .add) [54, 56],
 .M 58 9,
 .o 59 .bI [58],
 .o 60 (.aj .rem) [57, 59],
 .o 61 (.bH 2) [50, 60],
 .o 62 (.aU 2) [61],
 .o 11 (.alloc 0 [.int .i64 0, .int .i64 0]) [],
 ⟨.store 2, [11, 62], none, none⟩])
 (.seq (.region 0 [.o 64 (.aU 9) [8],
 .o 65 (.aG 0) [11],
 .o 66 .au [65],
 .o 67 (.ah qB) [64, 66, .ki 0],
 .M 63 67,
 .o 68 (.ext 0) [63],
 .o 69 (.ext 1) [63],
 .M 12 68,
 .M 13 69])
 (.seq (.region 0 [.o 71 (.aU 9) [8],
 .o 72 (.aG 0) [11],
 .o 73 .au [72],
 .o 74 (.ah oG) [71, 73],
 .M 70 74,
 .o 75 (.ext 0) [70],
 .o 76 (.ext 1) [70],
 .M 14 75,
 .M 15 76])
 (.seq (.seq (.region 0 [.M 77 13,
 .o 78 (.eqN true true) [77, .k .aF],
 .M 79 78,
 .g 79 false 80 .aW [15],
 .g 79 false 81 (.eqN true true) [80, .k .aF],
 .o 82 .pick [79, .kb true, 81]])
 (.cond (.t 82) (.seq (.region 0 [.M 83 13,
 .o 84 (.ah iW) [83, .ki 3],
 .M 85 84,
 .g 85 true 86 .aW [15],
 .g 85 true 87 (.eqN false true) [86, .k .aF],
 .o 88 .pick [85, 87, .kb false],
 .M 6 88])
 .ret)
 .skip))
 (.seq (.region 0 [.o 90 (.ah h_) [.ki 0, .ki 1],
 .M 89 90,
 .o 91 (.ext 0) [89],
 .o 92 (.ext 1) [89],
 .M 16 91,
 .M 17 92])
 (.seq (.seq (.region 0 [.M 93 14,
 .o 94 .bI [93],
 .C 95 (.int .i64 0)])
 (.block 0 (.loop [12, 14, 16, 94, 95] [12, 16] f_)))
 (.seq (.region 0 [.M 111 12,
 .M 112 16,
 .o 113 (.ah gI) [111, 112],
 .o 114 (.aj .eql) [113, .ki 0],
 .M 6 114])
 .ret))))))))))))))))⟩
def Uc : EF := ⟨[], [.tmp 0], (.seq (.region 0 [.C 0 (.bool false)])
 (.seq (.region 1 [.o 15 (.ah gZ) [.k (.str [54]), .ki 1],
 .o 1 (.alloc 0 [.int .i64 0, .int .i64 0, .int .i64 0, .str [], .str [], .int .i64 0, .int .i64 0, .bool false, .int .i64 0]) [],
 ⟨.store 9, [1, 15], none, none⟩])
 (.seq (.region 0 [.o 17 (.aU 9) [1],
 .o 18 (.ah kW) [17],
 .M 16 18,
 .o 19 (.ext 0) [16],
 .o 20 (.ext 1) [16],
 .M 2 19,
 .M 3 20])
 (.seq (.region 0 [.o 22 (.aU 9) [1],
 .o 23 (.ah vN) [22],
 .M 21 23,
 .o 24 (.ext 0) [21],
 .o 25 (.ext 1) [21],
 .M 4 24,
 .M 5 25])
 (.seq (.region 0 [.o 27 (.aU 9) [1],
 .o 28 (.aG 0) [1],
 .o 29 .au [28],
 .o 30 (.aj .add) [29, .ki 91],
 .o 31 (.ah xY) [27, 30],
 .M 26 31,
 .o 32 (.ext 0) [26],
 .o 33 (.ext 1) [26],
 .M 6 32,
 .M 7 33])
 (.seq (.region 1 [.o 34 (.build [.int .i64 0, .int .i64 0, .int .i64 0, .str [], .str [], .int .i64 0, .int .i64 0, .bool false, .int .i64 0] [(0, 1), (1, 1), (2, 1), (3, 1), (4, 1), (5, 1)]) [.ki 36524, .ki 36890, .ki 1, .k (.str [54]), .k (.str [49, 48, 48]), .ki 1],
 .o 8 (.alloc 0 [.int .i64 0, .int .i64 0, .int .i64 0, .str [], .str [], .int .i64 0, .int .i64 0, .bool false, .int .i64 0]) [],
 ⟨.store 9, [8, 34], none, none⟩])
 (.seq (.region 0 [.o 36 (.aU 9) [8],
 .o 37 (.aG 0) [8],
 .o 38 .au [37],
 .o 39 (.ah qB) [36, 38, .ki 6000000],
 .M 35 39,
 .o 40 (.ext 0) [35],
 .o 41 (.ext 1) [35],
 .M 9 40,
 .M 10 41])
 (.seq (.region 0 [.o 43 (.aU 9) [1],
 .o 44 (.aG 0) [1],
 .o 45 .au [44],
 .o 46 (.ah sS) [43, 45],
 .M 42 46,
 .o 47 (.ext 0) [42],
 .o 48 (.ext 1) [42],
 .M 11 47,
 .M 12 48])
 (.seq (.region 0 [.o 50 (.aU 9) [8],
 .o 51 (.aG 0) [8],
 .o 52 .au [51],
 .o 53 (.ah zV) [50, 52, .ki 6000000],
 .M 49 53,
 .o 54 (.ext 0) [49],
 .o 55 (.ext 1) [49],
 .M 13 54,
 .M 14 55])
 (.seq (.seq (.region 0 [.M 56 6,
 .o 57 (.vw false) [56, .k .aV],
 .M 58 57,
 .g 58 false 59 .aW [9],
 .g 58 false 60 (.vw false) [59, .k .aV],
 .o 61 .pick [58, .kb true, 60],
 .M 62 61,
 .g 62 false 63 .aW [11],
 .g 62 false 64 (.vw false) [63, .k .aV],
 .o 65 .pick [62, .kb true, 64],
 .M 66 65,
 .g 66 false 67 .aW [13],
 .g 66 false 68 (.vw false) [67, .k .aV],
 .o 69 .pick [66, .kb true, 68],
 .M 70 69,
 .g 70 false 71 .aW [2],
 .g 70 false 72 .bI [71],
 .g 70 false 73 (.aj .neq) [72, .ki 10],
 .o 74 .pick [70, .kb true, 73],
 .M 75 74,
 .g 75 false 76 .aW [4],
 .g 75 false 77 .bI [76],
 .g 75 false 78 (.aj .neq) [77, .ki 10],
 .o 79 .pick [75, .kb true, 78]])
 (.cond (.t 79) (.seq (.region 0 [.C 0 (.bool false)])
 .ret)
 .skip))
 (.seq (.drawn 0 [(0, .o 80 (.ah rW) []),
 (1, .M 81 80),
 (2, .g 81 true 82 (.aU 9) [1]),
 (3, .g 81 true 83 (.ah kT) [82]),
 (4, .g 81 true 84 (.eqN false true) [83, .k .aF]),
 (5, .o 85 .pick [81, 84, .kb false]),
 (6, .M 86 85),
 (7, .g 86 true 87 .aW [3]),
 (8, .g 86 true 88 (.eqN false true) [87, .k .aF]),
 (9, .o 89 .pick [86, 88, .kb false]),
 (10, .M 90 89),
 (11, .g 90 true 91 .aW [2]),
 (12, .g 90 true 92 (.bH 2) [91, .ki 0]),
 (13, .g 90 true 93 (.aG 0) [92]),
 (14, .g 90 true 94 .au [93]),
 (15, .g 90 true 95 (.aG 0) [1]),
 (16, .g 90 true 96 .au [95]),
 (17, .g 90 true 97 (.aj .eql) [94, 96]),
 (18, .o 98 .pick [90, 97, .kb false]),
 (19, .M 99 98),
 (20, .g 99 true 100 .aW [2]),
 (21, .g 99 true 101 (.bH 2) [100, .ki 9]),
 (22, .g 99 true 102 (.aG 1) [101]),
 (23, .g 99 true 103 .au [102]),
 (24, .g 99 true 104 (.aG 1) [1]),
 (25, .g 99 true 105 .au [104]),
 (26, .g 99 true 106 (.aj .eql) [103, 105]),
 (27, .o 107 .pick [99, 106, .kb false]),
 (28, .M 108 107),
 (29, .g 108 true 109 .aW [5]),
 (30, .g 108 true 110 (.eqN false true) [109, .k .aF]),
 (31, .o 111 .pick [108, 110, .kb false]),
 (32, .M 112 111),
 (33, .g 112 true 113 .aW [4]),
 (34, .g 112 true 114 (.bH 2) [113, .ki 0]),
 (35, .g 112 true 115 (.aG 1) [114]),
 (36, .g 112 true 116 .au [115]),
 (37, .g 112 true 117 (.fE .eql) [116, .k (.str [51])]),
 (38, .o 118 .pick [112, 117, .kb false]),
 (39, .M 119 118),
 (40, .g 119 true 120 .aW [4]),
 (41, .g 119 true 121 (.bH 2) [120, .ki 9]),
 (42, .g 119 true 122 (.aG 1) [121]),
 (43, .g 119 true 123 .au [122]),
 (44, .g 119 true 124 (.fE .eql) [123, .k (.str [49, 48, 51])]),
 (45, .o 125 .pick [119, 124, .kb false]),
 (46, .M 126 125),
 (47, .g 126 true 127 .aW [7]),
 (48, .g 126 true 128 (.eqN false true) [127, .k .aF]),
 (49, .o 129 .pick [126, 128, .kb false]),
 (50, .M 130 129),
 (51, .g 130 true 131 .aW [6]),
 (52, .g 130 true 132 (.ah fG) [131]),
 (53, .g 130 true 133 (.fE .eql) [132, .k (.str [51, 47, 50])]),
 (54, .o 134 .pick [130, 133, .kb false]),
 (55, .M 135 134),
 (56, .g 135 true 136 .aW [10]),
 (57, .g 135 true 137 (.eqN false true) [136, .k .aF]),
 (58, .o 138 .pick [135, 137, .kb false]),
 (59, .M 139 138),
 (60, .g 139 true 140 .aW [9]),
 (61, .g 139 true 141 (.ah fG) [140]),
 (62, .g 139 true 142 (.fE .eql) [141, .k (.str [49, 48, 48])]),
 (63, .o 143 .pick [139, 142, .kb false]),
 (64, .M 144 143),
 (65, .g 144 true 145 .aW [12]),
 (66, .g 144 true 146 (.eqN false true) [145, .k .aF]),
 (67, .o 147 .pick [144, 146, .kb false]),
 (68, .M 148 147),
 (69, .g 148 true 149 .aW [11]),
 (70, .g 148 true 150 (.ah fG) [149]),
 (71, .g 148 true 151 (.fE .eql) [150, .k (.str [49])]),
 (72, .o 152 .pick [148, 151, .kb false]),
 (73, .M 153 152),
 (74, .g 153 true 154 .aW [14]),
 (75, .g 153 true 155 (.eqN false true) [154, .k .aF]),
 (76, .o 156 .pick [153, 155, .kb false]),
 (77, .M 157 156),
 (78, .g 157 true 158 .aW [13]),
 (79, .g 157 true 159 (.ah iF) [158]),
 (80, .g 157 true 160 (.aj .gtr) [159, .ki 0]),
 (81, .o 161 .pick [157, 160, .kb false]),
 (82, .M 162 161),
 (83, .g 162 true 163 (.aU 9) [1]),
 (84, .g 162 true 164 (.ah kN) [163]),
 (85, .g 162 true 165 (.aj .eql) [164, .ki 6]),
 (86, .o 166 .pick [162, 165, .kb false]),
 (87, .M 167 166),
 (88, .g 167 true 168 (.aU 9) [1]),
 (89, .g 167 true 169 (.ah jR) [168]),
 (90, .g 167 true 170 (.ah fG) [169]),
 (91, .g 167 true 171 (.fE .eql) [170, .k (.str [54])]),
 (92, .o 172 .pick [167, 171, .kb false]),
 (93, .M 173 172),
 (94, .g 173 true 174 .aW [2]),
 (95, .g 173 true 175 (.aG 0) [1]),
 (96, .g 173 true 176 .au [175]),
 (97, .g 173 true 177 (.ah yF) [174, 176]),
 (98, .g 173 true 178 (.aj .eql) [177, .ki 0]),
 (99, .o 179 .pick [173, 178, .kb false]),
 (100, .M 0 179)])
 .ret)))))))))))⟩
def wo : EF := ⟨[0], [.cell 2 true 9], (.seq (.region 2 [.o 1 (.box 0) [0],
 .o 2 (.alloc 1 [.int .i64 0, .int .i64 0, .int .i64 0, .str [], .str [], .int .i64 0, .int .i64 0, .bool false, .int .i64 0]) []])
 (.seq (.drawn 0 [(0, .o 3 (.aG 3) [1]),
 (1, .o 4 .au [3]),
 (2, .o 5 (.ah kJ) [4, .ki 30]),
 (3, .o 6 (.aG 4) [1]),
 (4, .o 7 .au [6]),
 (5, .o 8 (.ah kJ) [7, .ki 30]),
 (6, .o 9 (.aG 3) [1]),
 (7, ⟨.store 1, [9, 5], none, none⟩),
 (8, .o 10 (.aG 4) [1]),
 (9, ⟨.store 1, [10, 8], none, none⟩)])
 (.seq (.region 0 [.o 11 (.aU 9) [1],
 ⟨.store 9, [2, 11], none, none⟩])
 .ret)))⟩
def nV : EC := (.seq (.region 0 [.o 24 (.aj .lss) [23, 22]])
 (.seq (.cond (.t 24) .skip
 (.exit 0))
 (.seq (.join [1, 2, 3, 4, 6, 7, 21, 22, 23] (.block 1 (.seq (.region 1 [.M 25 23,
 .o 26 (.bH 2) [21, 23],
 .o 27 (.aU 2) [26],
 .o 9 (.alloc 0 [.int .i64 0, .int .i64 0]) [],
 .M 8 25,
 ⟨.store 2, [9, 27], none, none⟩])
 (.seq (.region 0 [.M 28 6,
 .M 10 28])
 (.seq (.seq (.region 0 [.M 29 8,
 .o 30 (.aj .eql) [29, .ki 0]])
 (.join [1, 2, 3, 4, 6, 7, 8, 9, 10, 21, 22, 23] (.cond (.t 30) (.seq (.region 0 [.o 32 (.aU 9) [1],
 .o 33 (.aU 2) [9],
 .o 34 (.ah nX) [32, 33],
 .M 31 34,
 .o 35 (.ext 0) [31],
 .o 36 (.ext 1) [31],
 .M 10 35,
 .M 5 36])
 (.seq (.region 0 [.M 37 5,
 .o 38 (.eqN true true) [37, .k .aF]])
 (.cond (.t 38) (.seq (.region 0 [.M 39 5,
 .C 2 .dA,
 .M 3 39])
 .ret)
 .skip)))
 .skip)))
 (.seq (.seq (.region 0 [.M 40 8,
 .M 41 4,
 .o 42 .bI [41],
 .o 43 (.aj .sub) [42, .ki 1],
 .o 44 (.aj .eql) [40, 43]])
 (.join [1, 4, 6, 7, 9, 10, 21, 22, 23] (.cond (.t 44) (.region 0 [.M 45 10,
 .o 46 (.aU 9) [1],
 .o 47 (.ah lT) [46],
 .o 48 (.ah gG) [45, 47],
 .M 10 48])
 .skip)))
 (.drawn 1 [(0, .M 49 7),
 (1, .o 50 (.aG 1) [9]),
 (2, .o 51 .au [50]),
 (3, .M 52 10),
 (4, .o 53 (.ah fG) [52]),
 (5, .o 54 (.build [.int .i64 0, .str []] [(0, 1), (1, 1)]) [51, 53]),
 (6, .o 55 (.Jb 2 1 [.int .i64 0, .str []] [(0, 2)]) [54]),
 (7, .o 56 (.app 0 2) [49, 55]),
 (8, .M 7 56)])))))))
 (.region 0 [.o 57 (.aj .add) [23, .ki 1],
 .M 23 57]))))
def Qv : EF := ⟨[0], [.tmp 2, .tmp 3], (.seq (.region 1 [.o 1 (.box 0) [0],
 .C 2 .dA,
 .C 3 .aF])
 (.seq (.region 0 [.o 12 (.aU 9) [1],
 .o 13 (.ah kW) [12],
 .M 11 13,
 .o 14 (.ext 0) [11],
 .o 15 (.ext 1) [11],
 .M 4 14,
 .M 5 15])
 (.seq (.seq (.region 0 [.M 16 5,
 .o 17 (.eqN true true) [16, .k .aF]])
 (.cond (.t 17) (.seq (.region 0 [.M 18 5,
 .C 2 .dA,
 .M 3 18])
 .ret)
 .skip))
 (.seq (.region 0 [.o 19 (.aU 9) [1],
 .o 20 (.ah qF) [19],
 .M 6 20])
 (.seq (.region 0 [.C 7 .dA])
 (.seq (.seq (.region 0 [.M 21 4,
 .o 22 .bI [21],
 .C 23 (.int .i64 0)])
 (.block 0 (.loop [1, 4, 6, 7, 21, 22, 23] [2, 3, 7] nV)))
 (.seq (.region 0 [.M 58 7,
 .M 2 58,
 .C 3 .aF])
 .ret)))))))⟩
def EN : EF := ⟨[0], [.tmp 2], (.seq (.region 1 [.o 1 (.box 0) [0],
 .C 2 .aV])
 (.seq (.seq (.region 0 [.o 6 (.aU 9) [1],
 .o 7 (.ah kT) [6],
 .o 8 (.eqN true true) [7, .k .aF]])
 (.cond (.t 8) (.seq (.region 0 [.o 9 (.ah qL) [.ki 0],
 .M 2 9])
 .ret)
 .skip))
 (.seq (.region 0 [.o 11 (.aG 4) [1],
 .o 12 .au [11],
 .o 13 (.ah pX) [12],
 .M 10 13,
 .o 14 (.ext 0) [10],
 .o 15 (.ext 1) [10],
 .o 16 (.ext 2) [10],
 .M 3 14,
 .M 4 15,
 .M 5 16])
 (.seq (.region 0 [.M 17 3,
 .M 2 17])
 .ret))))⟩
def QD : EF := ⟨[0], [.tmp 2, .tmp 3], (.seq (.region 0 [.C 2 .aV,
 .C 3 .aF])
 (.seq (.region 0 [.M 14 0,
 .o 15 (.ah strings_Cut) [14, .k (.str [47])],
 .M 13 15,
 .o 16 (.ext 0) [13],
 .o 17 (.ext 1) [13],
 .o 18 (.ext 2) [13],
 .M 4 16,
 .M 5 17,
 .M 6 18])
 (.seq (.seq (.region 0 [.M 19 6,
 .o 20 .not [19]])
 (.join [0, 4, 5] (.cond (.t 20) (.region 0 [.C 5 (.str [49])])
 .skip)))
 (.seq (.region 0 [.M 22 4,
 .o 23 (.ah Ju) [22],
 .M 21 23,
 .o 24 (.ext 0) [21],
 .o 25 (.ext 1) [21],
 .M 7 24,
 .M 8 25])
 (.seq (.region 0 [.M 27 5,
 .o 28 (.ah lS) [27],
 .M 26 28,
 .o 29 (.ext 0) [26],
 .o 30 (.ext 1) [26],
 .M 9 29,
 .M 10 30])
 (.seq (.seq (.region 0 [.M 31 8,
 .o 32 (.eqN true true) [31, .k .aF],
 .M 33 32,
 .g 33 false 34 .aW [10],
 .g 33 false 35 (.eqN true true) [34, .k .aF],
 .o 36 .pick [33, .kb true, 35],
 .M 37 36,
 .g 37 false 38 .aW [9],
 .g 37 false 39 (.ah fC) [38],
 .o 40 .pick [37, .kb true, 39]])
 (.cond (.t 40) (.seq (.region 0 [.o 41 (.ah b_) [.ki 1],
 .C 2 .aV,
 .M 3 41])
 .ret)
 .skip))
 (.seq (.region 0 [.M 43 7,
 .M 44 9,
 .o 45 (.ah gW) [.kb false, 44],
 .o 46 (.ah mZ) [43, 45],
 .M 42 46,
 .o 47 (.ext 0) [42],
 .o 48 (.ext 1) [42],
 .M 11 47,
 .M 12 48])
 (.seq (.seq (.region 0 [.M 49 11,
 .o 50 (.ah fG) [49],
 .M 51 0,
 .o 52 (.fE .neq) [50, 51]])
 (.cond (.t 52) (.seq (.region 0 [.o 53 (.ah b_) [.ki 1],
 .C 2 .aV,
 .M 3 53])
 .ret)
 .skip))
 (.seq (.region 0 [.M 54 11,
 .M 2 54,
 .C 3 .aF])
 .ret)))))))))⟩
def CV : EF := ⟨[0], [.tmp 2], (.seq (.region 0 [.C 2 (.int .i64 0)])
 (.seq (.region 0 [.M 3 0,
 .o 4 (.ah dB) [3],
 .o 5 (.ah cZ) [4],
 .M 2 5])
 .ret))⟩
def FN : EF := ⟨[0, 1], [.tmp 4], (.seq (.region 0 [.C 4 .aV])
 (.seq (.region 1 [.M 5 0,
 .M 6 1,
 .o 7 (.ah dB) [6],
 .o 8 (.ah nM) [7],
 .M 9 1,
 .o 10 (.ah bY) [9],
 .o 11 (.build [.aV, .aV] [(0, 1), (1, 1)]) [8, 10],
 .o 12 (.box 0) [11],
 .o 13 (.uZ gG) [5, 12],
 .M 4 13])
 .ret))⟩
def FB : EF := ⟨[0, 1], [.tmp 4], (.seq (.region 0 [.C 4 .aV])
 (.seq (.seq (.region 0 [.M 5 0,
 .o 6 (.ah bY) [5],
 .M 7 1,
 .o 8 (.ah bY) [7],
 .o 9 (.ah nK) [6, 8],
 .o 10 (.aj .eql) [9, .ki 0]])
 (.cond (.t 10) (.seq (.region 0 [.M 11 0,
 .o 12 (.ah dB) [11],
 .M 13 1,
 .o 14 (.ah dB) [13],
 .o 15 (.ah gu) [12, 14],
 .M 16 0,
 .o 17 (.ah bY) [16],
 .o 18 (.ah uS) [15, 17],
 .M 4 18])
 .ret)
 .skip))
 (.seq (.region 0 [.M 19 0,
 .o 20 (.ah dB) [19],
 .M 21 1,
 .o 22 (.ah bY) [21],
 .o 23 (.ah bM) [20, 22],
 .M 24 1,
 .o 25 (.ah dB) [24],
 .M 26 0,
 .o 27 (.ah bY) [26],
 .o 28 (.ah bM) [25, 27],
 .o 29 (.ah gu) [23, 28],
 .M 30 0,
 .o 31 (.ah bY) [30],
 .M 32 1,
 .o 33 (.ah bY) [32],
 .o 34 (.ah bM) [31, 33],
 .o 35 (.ah uS) [29, 34],
 .M 4 35])
 .ret)))⟩
def EL : EF := ⟨[0], [.tmp 2], (.seq (.region 1 [.o 1 (.box 0) [0],
 .C 2 .aV])
 (.seq (.seq (.region 0 [.o 6 (.aU 9) [1],
 .o 7 (.ah kT) [6],
 .o 8 (.eqN true true) [7, .k .aF]])
 (.cond (.t 8) (.seq (.region 0 [.o 9 (.ah qL) [.ki 0],
 .M 2 9])
 .ret)
 .skip))
 (.seq (.region 0 [.o 11 (.aG 3) [1],
 .o 12 .au [11],
 .o 13 (.ah pX) [12],
 .M 10 13,
 .o 14 (.ext 0) [10],
 .o 15 (.ext 1) [10],
 .o 16 (.ext 2) [10],
 .M 3 14,
 .M 4 15,
 .M 5 16])
 (.seq (.region 0 [.M 17 3,
 .M 2 17])
 .ret))))⟩
def wR : EC := (.seq (.region 0 [.o 30 (.aj .lss) [29, 28]])
 (.seq (.cond (.t 30) .skip
 (.exit 0))
 (.seq (.block 1 (.seq (.region 0 [.o 31 (.bH 1) [27, 29],
 .o 32 .au [31],
 .M 11 32])
 (.seq (.region 1 [.M 33 8,
 .M 34 9,
 .M 35 11,
 .o 36 (.build [.int .i64 0, .int .i64 0] [(0, 1), (1, 1)]) [34, 35],
 .o 37 (.Jb 2 1 [.int .i64 0, .int .i64 0] [(0, 2)]) [36],
 .o 38 (.app 0 2) [33, 37],
 .M 8 38])
 (.region 0 [.M 39 11,
 .M 9 39]))))
 (.region 0 [.o 40 (.aj .add) [29, .ki 1],
 .M 29 40]))))
def QC : EF := ⟨[0], [.tmp 2, .tmp 3], (.seq (.region 1 [.o 1 (.box 0) [0],
 .C 2 .dA,
 .C 3 .aF])
 (.seq (.seq (.region 0 [.o 12 (.aU 9) [1],
 .o 13 (.ah kT) [12],
 .M 4 13])
 (.seq (.region 0 [.M 14 4,
 .o 15 (.eqN true true) [14, .k .aF]])
 (.cond (.t 15) (.seq (.region 0 [.M 16 4,
 .C 2 .dA,
 .M 3 16])
 .ret)
 .skip)))
 (.seq (.region 0 [.o 18 (.aU 9) [1],
 .o 19 (.bF uM) [18],
 .M 17 19,
 .o 20 (.ext 0) [17],
 .o 21 (.ext 1) [17],
 .o 22 (.ext 2) [17],
 .M 5 20,
 .M 6 21,
 .M 7 22])
 (.seq (.region 0 [.M 23 5,
 .o 24 (.bF slices_Reverse_int) [23]])
 (.seq (.region 0 [.C 8 .dA])
 (.seq (.region 0 [.o 25 (.aG 0) [1],
 .o 26 .au [25],
 .M 9 26])
 (.seq (.seq (.region 0 [.M 27 5,
 .o 28 .bI [27],
 .C 29 (.int .i64 0)])
 (.block 0 (.loop [1, 6, 7, 8, 9, 27, 28, 29] [1, 6, 7, 8] wR)))
 (.seq (.seq (.region 0 [.M 41 7,
 .M 42 41,
 .g 42 true 43 .aW [6],
 .g 42 true 44 (.aG 0) [1],
 .g 42 true 45 .au [44],
 .g 42 true 46 (.aj .eql) [43, 45],
 .o 47 .pick [42, 46, .kb false]])
 (.cond (.t 47) (.seq (.region 0 [.M 48 8,
 .M 2 48,
 .C 3 .aF])
 .ret)
 .skip))
 (.seq (.join [2, 3, 8] (.block 2 (.seq (.region 0 [.o 50 (.aG 6) [1],
 .o 51 .au [50],
 .o 52 (.aj .eql) [51, .ki 0],
 .M 49 52])
 (.join [2, 3, 8] (.cond (.t 49) (.seq (.region 0 [.o 53 (.ah fU) [.ki 5, .k (.str [115, 116, 117, 98])],
 .C 2 .dA,
 .M 3 53])
 .ret)
 (.seq (.region 0 [.o 55 (.aG 6) [1],
 .o 56 .au [55],
 .o 57 (.aj .eql) [56, .ki 2],
 .M 58 57,
 .g 58 true 59 .aW [8],
 .g 58 true 60 .bI [59],
 .g 58 true 61 (.aj .gtr) [60, .ki 1],
 .o 62 .pick [58, 61, .kb false],
 .M 54 62])
 (.join [8] (.cond (.t 54) (.seq (.region 0 [.M 63 8,
 .o 64 (.aG 0) [1],
 .o 65 .au [64],
 .o 66 (.bH 2) [63, .ki 1],
 .o 67 (.aG 0) [66],
 ⟨.store 1, [67, 65], none, none⟩])
 (.region 0 [.M 68 8,
 .o 69 (.Pj 2 true false) [68, .ki 1],
 .M 8 69]))
 .skip))))))))
 (.seq (.region 0 [.M 70 8,
 .M 2 70,
 .C 3 .aF])
 .ret))))))))))⟩
def uD : EC := (.seq (.region 0 [.o 80 (.aj .lss) [79, 78]])
 (.seq (.cond (.t 80) .skip
 (.exit 0))
 (.seq (.block 1 (.seq (.region 1 [.o 81 (.bH 2) [77, 79],
 .o 82 (.aU 2) [81],
 .o 17 (.alloc 0 [.int .i64 0, .int .i64 0]) [],
 ⟨.store 2, [17, 82], none, none⟩])
 (.seq (.region 0 [.M 83 3,
 .o 84 (.aG 1) [17],
 .o 85 .au [84],
 .o 86 .mn [83, 85],
 .M 87 2,
 .o 88 (.aG 0) [17],
 .o 89 .au [88],
 .o 90 .mx [87, 89],
 .o 91 (.aj .sub) [86, 90],
 .M 18 91])
 (.seq (.region 0 [.M 93 18,
 .o 94 .mx [93, .ki 0],
 .o 95 (.aG 2) [4],
 .o 96 .au [95],
 .o 97 (.aG 1) [17],
 .o 98 .au [97],
 .o 99 (.aG 0) [17],
 .o 100 .au [99],
 .o 101 (.aj .sub) [98, 100],
 .o 102 (.aj .mul) [96, 101],
 .o 103 (.ah h_) [94, 102],
 .M 92 103,
 .o 104 (.ext 0) [92],
 .o 105 (.ext 1) [92],
 .M 19 104,
 .M 20 105])
 (.region 0 [.M 106 14,
 .M 107 19,
 .o 108 (.ah gG) [106, 107],
 .M 14 108])))))
 (.region 0 [.o 109 (.aj .add) [79, .ki 1],
 .M 79 109]))))
def J8 : EF := ⟨[0, 1, 2, 3], [.tmp 8, .tmp 9], (.seq (.region 2 [.o 4 (.box 0) [0],
 .o 5 (.box 1) [1],
 .C 8 .aV,
 .C 9 .aF])
 (.seq (.seq (.region 0 [.o 22 (.aU 9) [4],
 .o 23 (.ah kW) [22],
 .M 21 23,
 .o 24 (.ext 0) [21],
 .o 25 (.ext 1) [21],
 .M 10 24,
 .M 11 25])
 (.seq (.region 0 [.M 26 11,
 .o 27 (.eqN true true) [26, .k .aF]])
 (.cond (.t 27) (.seq (.region 0 [.M 28 11,
 .C 8 .aV,
 .M 9 28])
 .ret)
 .skip)))
 (.seq (.region 0 [.C 12 (.sl 0 [])])
 (.seq (.seq (.region 0 [.o 29 (.aG 5) [4],
 .o 30 .au [29],
 .o 31 (.aj .eql) [30, .ki 4]])
 (.join [2, 3, 4, 5, 8, 9, 12] (.cond (.t 31) (.seq (.region 0 [.C 13 .aF])
 (.seq (.region 0 [.o 33 (.aU 9) [4],
 .o 34 (.aU 2) [5],
 .o 35 (.ah xw) [33, 34],
 .M 32 35,
 .o 36 (.ext 0) [32],
 .o 37 (.ext 1) [32],
 .M 12 36,
 .M 13 37])
 (.seq (.region 0 [.M 38 13,
 .o 39 (.eqN true true) [38, .k .aF]])
 (.cond (.t 39) (.seq (.region 0 [.M 40 13,
 .C 8 .aV,
 .M 9 40])
 .ret)
 .skip))))
 .skip)))
 (.seq (.seq (.region 0 [.M 41 2,
 .o 42 (.aG 0) [5],
 .o 43 .au [42],
 .o 44 (.aj .lss) [41, 43],
 .M 45 44,
 .g 45 false 46 .aW [3],
 .g 45 false 47 .aW [2],
 .g 45 false 48 (.aj .lss) [46, 47],
 .o 49 .pick [45, .kb true, 48],
 .M 50 49,
 .g 50 false 51 (.aG 1) [5],
 .g 50 false 52 .au [51],
 .g 50 false 53 .aW [3],
 .g 50 false 54 (.aj .lss) [52, 53],
 .o 55 .pick [50, .kb true, 54]])
 (.cond (.t 55) (.seq (.region 0 [.o 56 (.ah b_) [.ki 6],
 .C 8 .aV,
 .M 9 56])
 .ret)
 .skip))
 (.seq (.seq (.region 0 [.o 57 (.aG 5) [4],
 .o 58 .au [57],
 .o 59 (.aj .neq) [58, .ki 4]])
 (.cond (.t 59) (.seq (.region 0 [.o 60 (.aG 5) [4],
 .o 61 .au [60],
 .M 62 2,
 .M 63 3,
 .o 64 (.aG 0) [5],
 .o 65 .au [64],
 .o 66 (.aG 1) [5],
 .o 67 .au [66],
 .o 68 (.aG 2) [4],
 .o 69 .au [68],
 .o 70 (.ah sF) [61, 62, 63, 65, 67, 69],
 .o 71 (.ext 0) [70],
 .o 72 (.ext 1) [70],
 .M 8 71,
 .M 9 72])
 .ret)
 .skip))
 (.seq (.region 0 [.o 74 (.ah h_) [.ki 0, .ki 1],
 .M 73 74,
 .o 75 (.ext 0) [73],
 .o 76 (.ext 1) [73],
 .M 14 75,
 .M 15 76])
 (.seq (.seq (.region 0 [.M 77 12,
 .o 78 .bI [77],
 .C 79 (.int .i64 0)])
 (.block 0 (.loop [2, 3, 4, 14, 77, 78, 79] [14] uD)))
 (.seq (.region 0 [.M 110 14,
 .M 8 110,
 .C 9 .aF])
 .ret)))))))))⟩
def vg : EF := ⟨[0, 1], [.tmp 4], (.seq (.region 0 [.C 4 (.bool false)])
 (.seq (.region 0 [.M 5 0,
 .o 6 (.ah mg) [5],
 .M 7 1,
 .o 8 (.aj .eql) [6, 7],
 .M 4 8])
 .ret))⟩
def Ub : EF := ⟨[0, 1], [.tmp 4, .tmp 5], (.seq (.region 0 [.C 4 .aV,
 .C 5 .aF])
 (.seq (.region 0 [.M 6 0,
 .o 7 (.ah jg) [6],
 .M 8 1,
 .o 9 (.ah jg) [8],
 .o 10 (.ah mZ) [7, 9],
 .o 11 (.ext 0) [10],
 .o 12 (.ext 1) [10],
 .M 4 11,
 .M 5 12])
 .ret))⟩
def FD : EF := ⟨[0, 1], [.tmp 4], (.seq (.region 0 [.C 4 (.int .i64 0)])
 (.seq (.region 0 [.M 5 0,
 .o 6 (.ah dB) [5],
 .M 7 1,
 .o 8 (.ah bY) [7],
 .o 9 (.ah bM) [6, 8],
 .M 10 1,
 .o 11 (.ah dB) [10],
 .M 12 0,
 .o 13 (.ah bY) [12],
 .o 14 (.ah bM) [11, 13],
 .o 15 (.ah nK) [9, 14],
 .M 4 15])
 .ret))⟩
def CP : EF := ⟨[0, 1], [.tmp 4], (.seq (.region 2 [.o 2 (.box 0) [0],
 .o 3 (.box 1) [1],
 .C 4 (.bool false)])
 (.seq (.region 0 [.o 8 (.aU 9) [2],
 .o 9 (.aG 1) [3],
 .o 10 .au [9],
 .o 11 (.ah nZ) [8, 10],
 .M 7 11,
 .o 12 (.ext 0) [7],
 .o 13 (.ext 1) [7],
 .M 5 12,
 .M 6 13])
 (.seq (.region 0 [.M 14 6,
 .o 15 (.eqN false true) [14, .k .aF],
 .M 16 15,
 .g 16 true 17 .aW [5],
 .g 16 true 18 (.aG 0) [3],
 .g 16 true 19 .au [18],
 .g 16 true 20 (.aj .eql) [17, 19],
 .o 21 .pick [16, 20, .kb false],
 .M 4 21])
 .ret)))⟩
def u_ : EF := ⟨[0, 1], [.cell 4 true 9], (.seq (.region 1 [.o 4 (.alloc 0 [.int .i64 0, .int .i64 0, .int .i64 0, .str [], .str [], .int .i64 0, .int .i64 0, .bool false, .int .i64 0]) []])
 (.seq (.region 0 [.M 5 0,
 .M 6 1,
 .o 7 (.build [.int .i64 0, .int .i64 0, .int .i64 0, .str [], .str [], .int .i64 0, .int .i64 0, .bool false, .int .i64 0] [(0, 1), (1, 1), (2, 1), (3, 1), (4, 1), (5, 1), (6, 1)]) [.ki 36524, .ki 38351, .ki 2, 5, .k (.str [49, 48, 48]), 6, .ki 0],
 ⟨.store 9, [4, 7], none, none⟩])
 .ret))⟩
def wu : EF := ⟨[0], [.tmp 2], (.seq (.region 0 [.C 2 (.int .i64 0)])
 (.seq (.region 0 [.M 3 0,
 .o 4 (.aj .rem) [3, .ki 109573],
 .o 5 (.aj .add) [4, .ki 109572],
 .o 6 (.aj .add) [5, .ki 1],
 .o 7 (.aj .rem) [6, .ki 109573],
 .M 2 7])
 .ret))⟩
def eP : EC := (.seq (.seq (.region 0 [.M 28 1,
 .o 29 (.aj .gtr) [28, .ki 0]])
 (.cond (.t 29) .skip
 (.exit 0)))
 (.seq (.join [1, 8, 9] (.block 1 (.seq (.region 0 [.o 32 (.aG 1) [8],
 .o 33 .au [32],
 .o 34 (.aj .add) [33, .ki 1],
 .o 35 (.aG 1) [8],
 ⟨.store 1, [35, 34], none, none⟩])
 (.seq (.region 0 [.o 36 (.aG 1) [8],
 .o 37 .au [36],
 .o 38 (.aj .gtr) [37, .ki 12]])
 (.join [1, 8, 9] (.cond (.t 38) (.region 0 [.o 39 (.aG 0) [8],
 .o 40 .au [39],
 .o 41 (.aj .add) [40, .ki 1],
 .o 42 (.aG 0) [8],
 ⟨.store 1, [42, 41], none, none⟩,
 .o 43 (.aG 1) [8],
 ⟨.store 1, [43, .ki 1], none, none⟩])
 .skip))))))
 (.region 0 [.M 30 1,
 .o 31 (.aj .sub) [30, .ki 1],
 .M 1 31])))
def fH : EC := (.seq (.seq (.region 0 [.M 44 1,
 .o 45 (.aj .lss) [44, .ki 0]])
 (.cond (.t 45) .skip
 (.exit 2)))
 (.seq (.join [1, 8, 9] (.block 3 (.seq (.region 0 [.o 48 (.aG 1) [8],
 .o 49 .au [48],
 .o 50 (.aj .sub) [49, .ki 1],
 .o 51 (.aG 1) [8],
 ⟨.store 1, [51, 50], none, none⟩])
 (.seq (.region 0 [.o 52 (.aG 1) [8],
 .o 53 .au [52],
 .o 54 (.aj .lss) [53, .ki 1]])
 (.join [1, 8, 9] (.cond (.t 54) (.region 0 [.o 55 (.aG 0) [8],
 .o 56 .au [55],
 .o 57 (.aj .sub) [56, .ki 1],
 .o 58 (.aG 0) [8],
 ⟨.store 1, [58, 57], none, none⟩,
 .o 59 (.aG 1) [8],
 ⟨.store 1, [59, .ki 12], none, none⟩])
 .skip))))))
 (.region 0 [.M 46 1,
 .o 47 (.aj .add) [46, .ki 1],
 .M 1 47])))
def oO : EF := ⟨[0, 1, 2], [.tmp 6, .tmp 7], (.seq (.region 0 [.C 6 (.int .i64 0),
 .C 7 (.bool false)])
 (.seq (.seq (.region 0 [.M 10 0,
 .o 11 (.ah pK) [10],
 .o 12 .not [11],
 .M 13 12,
 .g 13 false 14 .aW [1],
 .g 13 false 15 (.aj .lss) [14, .ki (-3600)],
 .o 16 .pick [13, .kb true, 15],
 .M 17 16,
 .g 17 false 18 .aW [1],
 .g 17 false 19 (.aj .gtr) [18, .ki 3600],
 .o 20 .pick [17, .kb true, 19]])
 (.cond (.t 20) (.seq (.region 0 [.C 6 (.int .i64 0),
 .C 7 (.bool false)])
 .ret)
 .skip))
 (.seq (.region 1 [.M 21 0,
 .o 22 (.ah jW) [21],
 .o 8 (.alloc 0 [.int .i64 0, .int .i64 0, .int .i64 0]) [],
 ⟨.store 3, [8, 22], none, none⟩])
 (.seq (.region 0 [.M 23 2,
 .M 24 23,
 .g 24 true 25 .aW [0],
 .g 24 true 26 (.ah mJ) [25],
 .o 27 .pick [24, 26, .kb false],
 .M 9 27])
 (.seq (.block 0 (.loop [1, 8, 9] [1, 8, 9] eP))
 (.seq (.block 2 (.loop [1, 8, 9] [8, 9] fH))
 (.seq (.seq (.drawn 0 [(0, .M 60 9),
 (1, .M 61 60),
 (2, .g 61 false 62 (.aG 2) [8]),
 (3, .g 61 false 63 .au [62]),
 (4, .g 61 false 64 (.aG 0) [8]),
 (5, .g 61 false 65 .au [64]),
 (6, .g 61 false 66 (.aG 1) [8]),
 (7, .g 61 false 67 .au [66]),
 (8, .g 61 false 68 (.ah dU) [65, 67]),
 (9, .g 61 false 69 (.aj .gtr) [63, 68]),
 (10, .o 70 .pick [61, .kb true, 69])])
 (.join [8] (.cond (.t 70) (.region 0 [.o 71 (.aG 0) [8],
 .o 72 .au [71],
 .o 73 (.aG 1) [8],
 .o 74 .au [73],
 .o 75 (.ah dU) [72, 74],
 .o 76 (.aG 2) [8],
 ⟨.store 1, [76, 75], none, none⟩])
 .skip)))
 (.seq (.region 0 [.o 77 (.aU 3) [8],
 .o 78 (.ah kX) [77],
 .o 79 (.ext 0) [78],
 .o 80 (.ext 1) [78],
 .M 6 79,
 .M 7 80])
 .ret))))))))⟩
def QB : EF := ⟨[0, 1], [.tmp 4], (.seq (.region 1 [.o 3 (.box 0) [1],
 .C 4 (.int .i64 0)])
 (.seq (.region 0 [.M 5 0,
 .o 6 (.Zu wQ) [3],
 .o 7 (.uZ fJ) [5, 6],
 .M 4 7])
 .ret))⟩
def Qm : EF := ⟨[0, 1], [.tmp 4, .tmp 5], (.seq (.region 1 [.o 2 (.box 0) [0],
 .C 4 (.bool false),
 .C 5 .aF])
 (.seq (.region 1 [.o 9 (.aU 9) [2],
 .M 10 1,
 .o 11 (.ah tJ) [9, 10],
 .M 8 11,
 .o 12 (.ext 0) [8],
 .o 13 (.ext 1) [8],
 .o 6 (.alloc 0 [.int .i64 0, .int .i64 0]) [],
 ⟨.store 2, [6, 12], none, none⟩,
 .M 7 13])
 (.seq (.region 0 [.M 14 7,
 .o 15 (.eqN false true) [14, .k .aF],
 .M 16 15,
 .g 16 true 17 (.aG 8) [2],
 .g 16 true 18 .au [17],
 .g 16 true 19 (.aj .gtr) [18, .ki 0],
 .o 20 .pick [16, 19, .kb false],
 .M 21 20,
 .g 21 true 22 .aW [1],
 .g 21 true 23 (.aG 1) [6],
 .g 21 true 24 .au [23],
 .g 21 true 25 (.aG 8) [2],
 .g 21 true 26 .au [25],
 .g 21 true 27 (.aj .sub) [24, 26],
 .g 21 true 28 (.aj .geq) [22, 27],
 .o 29 .pick [21, 28, .kb false],
 .M 30 7,
 .M 4 29,
 .M 5 30])
 .ret)))⟩
def uz : EC := (.seq (.seq (.region 0 [.M 27 6,
 .o 28 (.bH 2) [27, .ki 0],
 .o 29 (.aG 0) [28],
 .o 30 .au [29],
 .M 31 1,
 .o 32 (.aj .leq) [30, 31]])
 (.cond (.t 32) .skip
 (.exit 0)))
 (.block 1 (.region 0 [.M 33 6,
 .o 34 (.Pj 2 true false) [33, .ki 1],
 .M 6 34])))
def J7 : EF := ⟨[0, 1], [.tmp 4, .tmp 5], (.seq (.region 1 [.o 2 (.box 0) [0],
 .C 4 (.sl 0 []),
 .C 5 .aF])
 (.seq (.region 0 [.o 9 (.aU 9) [2],
 .o 10 (.bF vN) [9],
 .M 8 10,
 .o 11 (.ext 0) [8],
 .o 12 (.ext 1) [8],
 .M 6 11,
 .M 7 12])
 (.seq (.seq (.region 0 [.M 13 7,
 .o 14 (.eqN true true) [13, .k .aF]])
 (.cond (.t 14) (.seq (.region 0 [.M 15 7,
 .C 4 (.sl 0 []),
 .M 5 15])
 .ret)
 .skip))
 (.seq (.seq (.region 0 [.M 16 1,
 .o 17 (.aG 0) [2],
 .o 18 .au [17],
 .o 19 (.aj .lss) [16, 18],
 .M 20 19,
 .g 20 false 21 .aW [1],
 .g 20 false 22 (.aG 1) [2],
 .g 20 false 23 .au [22],
 .g 20 false 24 (.aj .geq) [21, 23],
 .o 25 .pick [20, .kb true, 24]])
 (.cond (.t 25) (.seq (.region 0 [.o 26 (.ah b_) [.ki 6],
 .C 4 (.sl 0 []),
 .M 5 26])
 .ret)
 .skip))
 (.seq (.block 0 (.loop [1, 2, 6] [1, 2, 6] uz))
 (.seq (.seq (.drawn 0 [(0, .o 35 (.aG 8) [2]),
 (1, .o 36 .au [35]),
 (2, .o 37 (.aj .gtr) [36, .ki 0]),
 (3, .M 38 37),
 (4, .g 38 true 39 .aW [1]),
 (5, .g 38 true 40 .aW [6]),
 (6, .g 38 true 41 (.bH 2) [40, .ki 0]),
 (7, .g 38 true 42 (.aG 0) [41]),
 (8, .g 38 true 43 .au [42]),
 (9, .g 38 true 44 (.aG 8) [2]),
 (10, .g 38 true 45 .au [44]),
 (11, .g 38 true 46 (.aj .sub) [43, 45]),
 (12, .g 38 true 47 (.aj .geq) [39, 46]),
 (13, .o 48 .pick [38, 47, .kb false])])
 (.join [4, 5, 6] (.cond (.t 48) (.seq (.seq (.region 0 [.M 49 6,
 .o 50 .bI [49],
 .o 51 (.aj .gtr) [50, .ki 1]])
 (.cond (.t 51) (.seq (.region 0 [.M 52 6,
 .o 53 (.Pj 2 true false) [52, .ki 1],
 .M 4 53,
 .C 5 .aF])
 .ret)
 .skip))
 (.region 0 [.M 54 6,
 .o 55 (.aU 9) [2],
 .o 56 (.ah lT) [55],
 .o 57 (.ah fG) [56],
 .o 58 (.bH 2) [54, .ki 0],
 .o 59 (.aG 1) [58],
 ⟨.store 1, [59, 57], none, none⟩]))
 .skip)))
 (.seq (.region 0 [.M 60 6,
 .M 4 60,
 .C 5 .aF])
 .ret)))))))⟩
def Qn : EF := ⟨[0, 1], [.tmp 4, .tmp 5], (.seq (.region 1 [.o 2 (.box 0) [0],
 .C 4 .aV,
 .C 5 .aF])
 (.seq (.region 1 [.o 13 (.aU 9) [2],
 .M 14 1,
 .o 15 (.ah tJ) [13, 14],
 .M 12 15,
 .o 16 (.ext 0) [12],
 .o 17 (.ext 1) [12],
 .o 6 (.alloc 0 [.int .i64 0, .int .i64 0]) [],
 ⟨.store 2, [6, 16], none, none⟩,
 .M 7 17])
 (.seq (.seq (.region 0 [.M 18 7,
 .o 19 (.eqN true true) [18, .k .aF]])
 (.cond (.t 19) (.seq (.region 0 [.M 20 7,
 .C 4 .aV,
 .M 5 20])
 .ret)
 .skip))
 (.seq (.region 0 [.o 22 (.aU 9) [2],
 .o 23 (.aU 2) [6],
 .M 24 1,
 .o 25 (.ah Bf) [22, 23, 24],
 .M 21 25,
 .o 26 (.ext 0) [21],
 .o 27 (.ext 1) [21],
 .M 8 26,
 .M 7 27])
 (.seq (.seq (.region 0 [.M 28 7,
 .o 29 (.eqN true true) [28, .k .aF]])
 (.cond (.t 29) (.seq (.region 0 [.M 30 7,
 .C 4 .aV,
 .M 5 30])
 .ret)
 .skip))
 (.seq (.seq (.region 0 [.o 32 (.aU 9) [2],
 .M 33 1,
 .o 34 (.ah Aa) [32, 33],
 .M 31 34,
 .o 35 (.ext 0) [31],
 .o 36 (.ext 1) [31],
 .M 9 35,
 .M 10 36])
 (.seq (.region 0 [.M 37 9,
 .o 38 .not [37]])
 (.cond (.t 38) (.seq (.region 0 [.M 39 8,
 .M 4 39,
 .C 5 .aF])
 .ret)
 .skip)))
 (.seq (.region 0 [.o 41 (.aU 9) [2],
 .o 42 (.aU 2) [6],
 .o 43 (.ah nX) [41, 42],
 .M 40 43,
 .o 44 (.ext 0) [40],
 .o 45 (.ext 1) [40],
 .M 11 44,
 .M 7 45])
 (.seq (.seq (.region 0 [.M 46 7,
 .o 47 (.eqN true true) [46, .k .aF]])
 (.cond (.t 47) (.seq (.region 0 [.M 48 7,
 .C 4 .aV,
 .M 5 48])
 .ret)
 .skip))
 (.seq (.region 0 [.M 49 8,
 .M 50 11,
 .o 51 (.ah jq) [49, 50],
 .M 4 51,
 .C 5 .aF])
 .ret)))))))))⟩
def MK : EF := ⟨[0, 1], [.tmp 4, .tmp 5], (.seq (.region 2 [.o 2 (.box 0) [0],
 .o 3 (.box 1) [1],
 .C 4 .aV,
 .C 5 .aF])
 (.seq (.seq (.region 0 [.o 11 (.aU 9) [2],
 .o 12 (.ah kW) [11],
 .M 10 12,
 .o 13 (.ext 0) [10],
 .o 14 (.ext 1) [10],
 .M 6 13,
 .M 7 14])
 (.seq (.region 0 [.M 15 7,
 .o 16 (.eqN true true) [15, .k .aF]])
 (.cond (.t 16) (.seq (.region 0 [.M 17 7,
 .C 4 .aV,
 .M 5 17])
 .ret)
 .skip)))
 (.seq (.seq (.region 0 [.o 18 (.aU 9) [2],
 .o 19 (.aU 2) [3],
 .o 20 (.ah jh) [18, 19]])
 (.cond (.t 20) (.seq (.region 0 [.o 21 (.aU 9) [2],
 .o 22 (.ah qF) [21],
 .M 4 22,
 .C 5 .aF])
 .ret)
 .skip))
 (.seq (.region 0 [.o 24 (.aU 9) [2],
 .o 25 (.aU 2) [3],
 .o 26 (.aG 0) [3],
 .o 27 .au [26],
 .o 28 (.aG 1) [3],
 .o 29 .au [28],
 .o 30 (.ah lH) [24, 25, 27, 29],
 .M 23 30,
 .o 31 (.ext 0) [23],
 .o 32 (.ext 1) [23],
 .M 8 31,
 .M 9 32])
 (.seq (.seq (.region 0 [.M 33 9,
 .o 34 (.eqN true true) [33, .k .aF]])
 (.cond (.t 34) (.seq (.region 0 [.M 35 9,
 .C 4 .aV,
 .M 5 35])
 .ret)
 .skip))
 (.seq (.region 0 [.o 36 (.aU 9) [2],
 .o 37 (.ah jR) [36],
 .M 38 8,
 .o 39 (.ah gY) [37, 38],
 .M 4 39,
 .C 5 .aF])
 .ret))))))⟩
def FK : EF := ⟨[0, 1], [.tmp 4], (.seq (.region 0 [.C 4 .aV])
 (.seq (.region 0 [.M 5 0,
 .o 6 (.ah dB) [5],
 .M 7 1,
 .o 8 (.ah dB) [7],
 .o 9 (.ah bM) [6, 8],
 .M 10 0,
 .o 11 (.ah bY) [10],
 .M 12 1,
 .o 13 (.ah bY) [12],
 .o 14 (.ah bM) [11, 13],
 .o 15 (.ah uS) [9, 14],
 .M 4 15])
 .ret))⟩
def Fz : EF := ⟨[0, 1, 2], [.tmp 6, .tmp 7], (.seq (.region 1 [.o 3 (.box 0) [0],
 .C 6 .aV,
 .C 7 .aF])
 (.seq (.region 0 [.o 18 (.aU 9) [3],
 .M 19 1,
 .o 20 (.ah rC) [18, 19],
 .M 17 20,
 .o 21 (.ext 0) [17],
 .o 22 (.ext 1) [17],
 .M 8 21,
 .M 9 22])
 (.seq (.seq (.region 0 [.M 23 9,
 .o 24 (.eqN true true) [23, .k .aF]])
 (.cond (.t 24) (.seq (.region 0 [.M 25 9,
 .C 6 .aV,
 .M 7 25])
 .ret)
 .skip))
 (.seq (.seq (.region 0 [.M 26 2,
 .o 27 (.aj .lss) [26, .ki (-2000000)],
 .M 28 27,
 .g 28 false 29 .aW [2],
 .g 28 false 30 (.aj .gtr) [29, .ki 100000000],
 .o 31 .pick [28, .kb true, 30]])
 (.cond (.t 31) (.seq (.region 0 [.o 32 (.ah b_) [.ki 2],
 .C 6 .aV,
 .M 7 32])
 .ret)
 .skip))
 (.seq (.region 0 [.o 34 (.aU 9) [3],
 .M 35 1,
 .o 36 (.ah sS) [34, 35],
 .M 33 36,
 .o 37 (.ext 0) [33],
 .o 38 (.ext 1) [33],
 .M 10 37,
 .M 9 38])
 (.seq (.seq (.region 0 [.M 39 9,
 .o 40 (.eqN true true) [39, .k .aF]])
 (.cond (.t 40) (.seq (.region 0 [.M 41 9,
 .C 6 .aV,
 .M 7 41])
 .ret)
 .skip))
 (.seq (.drawn 0 [(0, .o 42 (.ah jg) [.ki 100000000]),
 (1, .o 43 (.aG 2) [3]),
 (2, .o 44 .au [43]),
 (3, .o 45 (.ah jg) [44]),
 (4, .o 46 (.ah bM) [42, 45]),
 (5, .M 11 46)])
 (.seq (.region 0 [.M 47 11,
 .M 48 2,
 .o 49 (.ah jg) [48],
 .o 50 (.ah gu) [47, 49],
 .M 12 50])
 (.seq (.region 0 [.M 52 8,
 .M 53 12,
 .M 54 11,
 .o 55 (.ah uO) [52, 53, 54],
 .M 51 55,
 .o 56 (.ext 0) [51],
 .o 57 (.ext 1) [51],
 .M 13 56,
 .M 14 57])
 (.seq (.region 0 [.M 58 10,
 .o 59 (.ah bY) [58],
 .M 60 11,
 .o 61 (.ah bM) [59, 60],
 .M 15 61])
 (.seq (.region 0 [.M 62 15,
 .M 63 10,
 .o 64 (.ah dB) [63],
 .M 65 2,
 .o 66 (.ah jg) [65],
 .o 67 (.ah bM) [64, 66],
 .o 68 (.ah gu) [62, 67],
 .M 16 68])
 (.seq (.seq (.region 0 [.M 69 16,
 .o 70 (.ah cZ) [69],
 .o 71 (.aj .leq) [70, .ki 0]])
 (.cond (.t 71) (.seq (.region 0 [.o 72 (.ah b_) [.ki 3],
 .C 6 .aV,
 .M 7 72])
 .ret)
 .skip))
 (.seq (.region 0 [.M 73 13,
 .M 74 15,
 .o 75 (.ah bM) [73, 74],
 .M 76 14,
 .M 77 16,
 .o 78 (.ah bM) [76, 77],
 .o 79 (.ah mZ) [75, 78],
 .o 80 (.ext 0) [79],
 .o 81 (.ext 1) [79],
 .M 6 80,
 .M 7 81])
 .ret)))))))))))))⟩
def H7 : EF := ⟨[0, 1], [.tmp 4, .tmp 5], (.seq (.region 1 [.o 2 (.box 0) [0],
 .C 4 .aV,
 .C 5 .aF])
 (.seq (.region 0 [.o 17 (.aU 9) [2],
 .M 18 1,
 .o 19 (.ah wS) [17, 18],
 .M 16 19,
 .o 20 (.ext 0) [16],
 .o 21 (.ext 1) [16],
 .o 22 (.ext 2) [16],
 .M 6 20,
 .M 7 21,
 .M 8 22])
 (.seq (.seq (.region 0 [.M 23 8,
 .o 24 (.eqN true true) [23, .k .aF]])
 (.cond (.t 24) (.seq (.region 0 [.M 25 8,
 .C 4 .aV,
 .M 5 25])
 .ret)
 .skip))
 (.seq (.region 1 [.M 26 6,
 .M 27 7,
 .o 28 (.bH 2) [26, 27],
 .o 29 (.aU 2) [28],
 .o 9 (.alloc 0 [.int .i64 0, .int .i64 0]) [],
 ⟨.store 2, [9, 29], none, none⟩])
 (.seq (.region 0 [.o 31 (.aU 9) [2],
 .o 32 (.aU 2) [9],
 .o 33 (.aG 0) [9],
 .o 34 .au [33],
 .o 35 (.aG 1) [9],
 .o 36 .au [35],
 .o 37 (.ah lH) [31, 32, 34, 36],
 .M 30 37,
 .o 38 (.ext 0) [30],
 .o 39 (.ext 1) [30],
 .M 10 38,
 .M 8 39])
 (.seq (.seq (.region 0 [.M 40 8,
 .o 41 (.eqN true true) [40, .k .aF]])
 (.cond (.t 41) (.seq (.region 0 [.M 42 8,
 .C 4 .aV,
 .M 5 42])
 .ret)
 .skip))
 (.seq (.region 0 [.o 44 (.aU 9) [2],
 .o 45 (.aU 2) [9],
 .o 46 (.aG 0) [9],
 .o 47 .au [46],
 .M 48 1,
 .o 49 (.ah lH) [44, 45, 47, 48],
 .M 43 49,
 .o 50 (.ext 0) [43],
 .o 51 (.ext 1) [43],
 .M 11 50,
 .M 8 51])
 (.seq (.seq (.region 0 [.M 52 8,
 .o 53 (.eqN true true) [52, .k .aF]])
 (.cond (.t 53) (.seq (.region 0 [.M 54 8,
 .C 4 .aV,
 .M 5 54])
 .ret)
 .skip))
 (.seq (.region 0 [.M 56 11,
 .M 57 10,
 .o 58 (.ah lX) [56, 57],
 .M 55 58,
 .o 59 (.ext 0) [55],
 .o 60 (.ext 1) [55],
 .M 12 59,
 .M 8 60])
 (.seq (.seq (.region 0 [.M 61 8,
 .o 62 (.eqN true true) [61, .k .aF]])
 (.cond (.t 62) (.seq (.region 0 [.M 63 8,
 .C 4 .aV,
 .M 5 63])
 .ret)
 .skip))
 (.seq (.region 0 [.o 64 (.ah BL) [],
 .M 65 12,
 .o 66 (.ah jq) [64, 65],
 .M 13 66])
 (.seq (.seq (.region 0 [.o 67 (.aU 9) [2],
 .o 68 (.aU 2) [9],
 .o 69 (.ah jh) [67, 68],
 .o 70 .not [69]])
 (.join [13] (.cond (.t 70) (.seq (.region 0 [.o 72 (.aG 2) [2],
 .o 73 .au [72],
 .o 74 (.ah h_) [73, .ki 1],
 .M 71 74,
 .o 75 (.ext 0) [71],
 .o 76 (.ext 1) [71],
 .M 14 75,
 .M 15 76])
 (.region 0 [.M 77 13,
 .M 78 14,
 .o 79 (.ah gY) [77, 78],
 .M 80 10,
 .o 81 (.ah gY) [79, 80],
 .M 13 81]))
 .skip)))
 (.seq (.region 0 [.M 82 13,
 .M 4 82,
 .C 5 .aF])
 .ret)))))))))))))⟩
def aau : EF := ⟨[0, 1, 2], [.tmp 6, .tmp 7], (.seq (.region 1 [.o 3 (.box 0) [0],
 .C 6 .aV,
 .C 7 .aF])
 (.seq (.seq (.region 0 [.o 18 (.aU 9) [3],
 .M 19 1,
 .M 20 2,
 .o 21 (.ah qB) [18, 19, 20],
 .M 17 21,
 .o 22 (.ext 0) [17],
 .o 23 (.ext 1) [17],
 .M 8 22,
 .M 9 23])
 (.seq (.region 0 [.M 24 9,
 .o 25 (.eqN true true) [24, .k .aF]])
 (.cond (.t 25) (.seq (.region 0 [.M 26 9,
 .C 6 .aV,
 .M 7 26])
 .ret)
 .skip)))
 (.seq (.region 0 [.o 28 (.aU 9) [3],
 .M 29 1,
 .o 30 (.ah sS) [28, 29],
 .M 27 30,
 .o 31 (.ext 0) [27],
 .o 32 (.ext 1) [27],
 .M 10 31,
 .M 11 32])
 (.seq (.seq (.region 0 [.M 33 11,
 .o 34 (.eqN true true) [33, .k .aF]])
 (.cond (.t 34) (.seq (.region 0 [.M 35 11,
 .C 6 .aV,
 .M 7 35])
 .ret)
 .skip))
 (.seq (.drawn 0 [(0, .o 36 (.ah jg) [.ki 100000000]),
 (1, .o 37 (.aG 2) [3]),
 (2, .o 38 .au [37]),
 (3, .o 39 (.ah jg) [38]),
 (4, .o 40 (.ah bM) [36, 39]),
 (5, .M 12 40)])
 (.seq (.region 0 [.M 41 12,
 .M 42 2,
 .o 43 (.ah jg) [42],
 .o 44 (.ah gu) [41, 43],
 .M 13 44])
 (.seq (.region 0 [.o 46 (.aU 9) [3],
 .M 47 1,
 .o 48 (.ah BP) [46, 47],
 .M 49 13,
 .M 50 12,
 .o 51 (.ah Ew) [48, 49, 50],
 .M 45 51,
 .o 52 (.ext 0) [45],
 .o 53 (.ext 1) [45],
 .M 14 52,
 .M 15 53])
 (.seq (.region 0 [.M 55 14,
 .M 56 15,
 .o 57 (.ah mZ) [55, 56],
 .M 54 57,
 .o 58 (.ext 0) [54],
 .o 59 (.ext 1) [54],
 .M 16 58,
 .M 11 59])
 (.seq (.seq (.region 0 [.M 60 11,
 .o 61 (.eqN true true) [60, .k .aF]])
 (.cond (.t 61) (.seq (.region 0 [.M 62 11,
 .C 6 .aV,
 .M 7 62])
 .ret)
 .skip))
 (.seq (.drawn 0 [(0, .M 63 16),
 (1, .M 64 10),
 (2, .o 65 (.ah gG) [63, 64]),
 (3, .o 66 (.aG 2) [3]),
 (4, .o 67 .au [66]),
 (5, .o 68 (.ah Tc) [.ki 1, 67]),
 (6, .o 69 (.ah gY) [65, 68]),
 (7, .M 6 69),
 (8, .C 7 .aF)])
 .ret))))))))))⟩
def VD : EF := ⟨[], [.tmp 0], (.seq (.region 0 [.C 0 (.bool false)])
 (.seq (.region 0 [.o 1 (.ah rX) [],
 .M 0 1])
 .ret))⟩
def Ho : EF := ⟨[0], [.tmp 2], (.seq (.region 1 [.o 1 (.box 0) [0],
 .C 2 .aF])
 (.seq (.seq (.region 0 [.o 5 (.aU 9) [1],
 .o 6 (.ah Bg) [5],
 .M 3 6])
 (.seq (.region 0 [.M 7 3,
 .o 8 (.eqN true true) [7, .k .aF]])
 (.cond (.t 8) (.seq (.region 0 [.M 9 3,
 .M 2 9])
 .ret)
 .skip)))
 (.seq (.seq (.region 0 [.o 10 (.aU 9) [1],
 .o 11 (.ah kN) [10],
 .o 12 (.aj .eql) [11, .ki 0]])
 (.cond (.t 12) (.seq (.region 0 [.o 13 (.ah fU) [.ki 5, .k (.str [102, 114, 101, 113])],
 .M 2 13])
 .ret)
 .skip))
 (.seq (.seq (.region 0 [.o 14 (.aU 9) [1],
 .o 15 (.ah Bh) [14],
 .M 4 15])
 (.seq (.region 0 [.M 16 4,
 .o 17 (.eqN true true) [16, .k .aF]])
 (.cond (.t 17) (.seq (.region 0 [.M 18 4,
 .M 2 18])
 .ret)
 .skip)))
 (.seq (.block 0 (.seq (.region 0 [.o 20 (.aG 5) [1],
 .o 21 .au [20],
 .o 22 (.ah vZ) [21],
 .o 23 .not [22],
 .M 19 23])
 (.cond (.t 19) (.seq (.region 0 [.o 24 (.ah fU) [.ki 5, .k (.str [99, 111, 117, 110, 116])],
 .M 2 24])
 .ret)
 (.seq (.region 0 [.o 26 (.aG 6) [1],
 .o 27 .au [26],
 .o 28 (.aj .lss) [27, .ki 0],
 .M 29 28,
 .g 29 false 30 (.aG 6) [1],
 .g 29 false 31 .au [30],
 .g 29 false 32 (.aj .gtr) [31, .ki 2],
 .o 33 .pick [29, .kb true, 32],
 .M 25 33])
 (.cond (.t 25) (.seq (.region 0 [.o 34 (.ah fU) [.ki 5, .k (.str [115, 116, 117, 98])],
 .M 2 34])
 .ret)
 (.seq (.region 0 [.o 36 (.aG 8) [1],
 .o 37 .au [36],
 .o 38 (.aj .lss) [37, .ki 0],
 .M 39 38,
 .g 39 false 40 (.aG 8) [1],
 .g 39 false 41 .au [40],
 .g 39 false 42 (.aj .gtr) [41, .ki 30],
 .o 43 .pick [39, .kb true, 42],
 .M 35 43])
 (.cond (.t 35) (.seq (.region 0 [.o 44 (.ah fU) [.ki 5, .k (.str [101, 120])],
 .M 2 44])
 .ret)
 (.seq (.drawn 0 [(0, .o 46 (.aG 0) [1]),
 (1, .o 47 .au [46]),
 (2, .o 48 (.aG 1) [1]),
 (3, .o 49 .au [48]),
 (4, .o 50 (.ah jK) [47, 49]),
 (5, .o 51 (.aU 9) [1]),
 (6, .o 52 (.ah kN) [51]),
 (7, .o 53 (.aj .quo) [50, 52]),
 (8, .o 54 (.aj .add) [53, .ki 2]),
 (9, .o 55 (.aj .gtr) [54, .ki 200]),
 (10, .M 45 55)])
 (.cond (.t 45) (.seq (.region 0 [.o 56 (.ah fU) [.ki 5, .k (.str [102, 108, 111, 119, 115])],
 .M 2 56])
 .ret)
 .skip)))))))))
 (.seq (.region 0 [.C 2 .aF])
 .ret))))))⟩
def CW : EF := ⟨[0], [.tmp 2], (.seq (.region 0 [.C 2 (.str [])])
 (.seq (.seq (.region 0 [.M 4 0,
 .o 5 (.ah bY) [4],
 .o 6 (.ah jf) [5],
 .M 3 6])
 (.seq (.region 0 [.M 7 3,
 .o 8 (.fE .neq) [7, .k (.str [49])]])
 (.cond (.t 8) (.seq (.region 0 [.M 9 0,
 .o 10 (.ah dB) [9],
 .o 11 (.ah jf) [10],
 .o 12 (.fE .add) [11, .k (.str [47])],
 .M 13 3,
 .o 14 (.fE .add) [12, 13],
 .M 2 14])
 .ret)
 .skip)))
 (.seq (.region 0 [.M 15 0,
 .o 16 (.ah dB) [15],
 .o 17 (.ah jf) [16],
 .M 2 17])
 .ret)))⟩
def EM : EF := ⟨[0], [.tmp 2], (.seq (.region 1 [.o 1 (.box 0) [0],
 .C 2 (.int .i64 0)])
 (.seq (.seq (.region 0 [.o 3 (.aG 2) [1],
 .o 4 .au [3]])
 (.join [2] (.block 0 (.seq (.seq (.region 0 [.o 6 (.aj .eql) [4, .ki 1],
 .M 5 6])
 (.join [1, 5] (.cond (.t 5) .skip
 (.seq (.region 0 [.o 7 (.aj .eql) [4, .ki 2],
 .M 5 7])
 (.join [1, 5] (.cond (.t 5) .skip
 (.seq (.region 0 [.o 8 (.aj .eql) [4, .ki 4],
 .M 5 8])
 (.join [1, 5] (.cond (.t 5) .skip
 (.region 0 [.o 9 (.aj .eql) [4, .ki 12],
 .M 5 9]))))))))))
 (.cond (.t 5) (.seq (.region 0 [.o 10 (.aG 2) [1],
 .o 11 .au [10],
 .o 12 (.aj .quo) [.ki 12, 11],
 .M 2 12])
 .ret)
 .skip)))))
 (.seq (.region 0 [.C 2 (.int .i64 0)])
 .ret)))⟩
def wz : EF := ⟨[0, 1], [.tmp 4], (.seq (.region 0 [.C 4 (.str [])])
 (.seq (.region 0 [.M 5 0,
 .M 6 0,
 .o 7 .yx [6],
 .M 8 1,
 .o 9 .mn [7, 8],
 .o 10 (.XB false true) [5, 9],
 .M 4 10])
 .ret))⟩
def Cm : EF := ⟨[0], [.tmp 2], (.seq (.region 1 [.o 1 (.box 0) [0],
 .C 2 .aV])
 (.seq (.region 0 [.o 6 (.aG 2) [1],
 .o 7 .au [6],
 .o 8 (.ah h_) [.ki 1, 7],
 .M 5 8,
 .o 9 (.ext 0) [5],
 .o 10 (.ext 1) [5],
 .M 3 9,
 .M 4 10])
 (.seq (.region 0 [.o 11 (.aU 9) [1],
 .o 12 (.ah jR) [11],
 .M 13 3,
 .o 14 (.ah gY) [12, 13],
 .M 2 14])
 .ret)))⟩
def Qo : EF := ⟨[0], [.tmp 2], (.seq (.region 0 [.C 2 .aV])
 (.seq (.region 0 [.M 6 0,
 .o 7 (.ah h_) [6, .ki 1],
 .M 5 7,
 .o 8 (.ext 0) [5],
 .o 9 (.ext 1) [5],
 .M 3 8,
 .M 4 9])
 (.seq (.region 0 [.M 10 3,
 .M 2 10])
 .ret)))⟩
def Hq : EF := ⟨[0], [.tmp 2, .tmp 3, .tmp 4], (.seq (.region 0 [.C 2 .aV,
 .C 3 (.bool false),
 .C 4 .aF])
 (.seq (.region 0 [.M 9 0,
 .o 10 (.ah vJ) [9],
 .M 8 10,
 .o 11 (.ext 0) [8],
 .o 12 (.ext 1) [8],
 .o 13 (.ext 2) [8],
 .M 5 11,
 .M 6 12,
 .M 7 13])
 (.seq (.region 0 [.M 14 5,
 .M 15 6,
 .o 16 (.aj .leq) [15, .ki 6],
 .M 17 7,
 .M 2 14,
 .M 3 16,
 .M 4 17])
 .ret)))⟩
def Qz : EF := ⟨[0], [.tmp 2, .tmp 3], (.seq (.region 0 [.C 2 .aV,
 .C 3 .aF])
 (.seq (.region 0 [.M 9 0,
 .o 10 (.ah strings_CutPrefix) [9, .k (.str [45])],
 .M 8 10,
 .o 11 (.ext 0) [8],
 .o 12 (.ext 1) [8],
 .M 4 11,
 .M 5 12])
 (.seq (.region 0 [.M 14 4,
 .o 15 (.ah lS) [14],
 .M 13 15,
 .o 16 (.ext 0) [13],
 .o 17 (.ext 1) [13],
 .M 6 16,
 .M 7 17])
 (.seq (.seq (.region 0 [.M 18 7,
 .o 19 (.eqN true true) [18, .k .aF],
 .M 20 19,
 .g 20 false 21 .aW [5],
 .g 20 false 22 .aW [21],
 .g 22 true 23 .aW [6],
 .g 22 true 24 (.ah fC) [23],
 .g 20 false 25 .pick [22, 24, .kb false],
 .o 26 .pick [20, .kb true, 25]])
 (.cond (.t 26) (.seq (.region 0 [.o 27 (.ah b_) [.ki 1],
 .C 2 .aV,
 .M 3 27])
 .ret)
 .skip))
 (.seq (.region 0 [.M 28 5,
 .M 29 6,
 .o 30 (.ah gW) [28, 29],
 .M 2 30,
 .C 3 .aF])
 .ret)))))⟩
def qh : EC := (.seq (.seq (.region 0 [.M 41 0,
 .o 42 (.fE .neq) [41, .k (.str [])]])
 (.cond (.t 42) .skip
 (.exit 0)))
 (.seq (.block 1 (.seq (.region 0 [.M 44 0,
 .M 45 7,
 .o 46 (.XB false true) [44, 45],
 .o 47 (.ah g_) [46, .ki 10, .ki 64],
 .M 43 47,
 .o 48 (.ext 0) [43],
 .o 49 (.ext 1) [43],
 .M 8 48,
 .M 9 49])
 (.seq (.region 0 [.M 50 5,
 .M 51 6,
 .o 52 (.ah iK) [50, 51],
 .M 53 8,
 .o 54 (.ah iD) [53],
 .o 55 (.ah iI) [52, 54],
 .M 5 55])
 (.region 0 [.M 56 0,
 .M 57 7,
 .o 58 (.XB true false) [56, 57],
 .M 0 58]))))
 (.region 0 [.C 7 (.int .i64 18)])))
def Qw : EF := ⟨[0], [.tmp 2, .tmp 3], (.seq (.region 0 [.C 2 .aV,
 .C 3 .aF])
 (.seq (.region 0 [.M 10 0,
 .o 11 (.fE .eql) [10, .k (.str [])],
 .M 12 11,
 .g 12 false 13 .aW [0],
 .g 12 false 14 .yx [13],
 .g 12 false 15 (.aj .gtr) [14, .ki 4000],
 .o 16 .pick [12, .kb true, 15],
 .M 17 16,
 .g 17 false 18 .aW [0],
 .g 17 false 19 .yx [18],
 .g 17 false 20 (.aj .gtr) [19, .ki 1],
 .g 17 false 21 .aW [20],
 .g 21 true 22 .aW [0],
 .g 21 true 23 .Zp [22, .ki 0],
 .g 21 true 24 (.aj .eql) [23, .k (.int .u8 48)],
 .g 17 false 25 .pick [21, 24, .kb false],
 .o 26 .pick [17, .kb true, 25],
 .M 27 26,
 .g 27 false 28 .aW [0],
 .g 27 false 29 (.ah kM) [28, .k (.str [48, 49, 50, 51, 52, 53, 54, 55, 56, 57])],
 .g 27 false 30 (.fE .neq) [29, .k (.str [])],
 .o 31 .pick [27, .kb true, 30],
 .M 4 31])
 (.seq (.seq (.region 0 [.M 32 4])
 (.cond (.t 32) (.seq (.region 0 [.o 33 (.ah b_) [.ki 1],
 .C 2 .aV,
 .M 3 33])
 .ret)
 .skip))
 (.seq (.region 0 [.o 34 (.ah iD) [.k (.int .u64 0)],
 .o 35 (.ah iD) [.k (.int .u64 1000000000000000000)],
 .M 5 34,
 .M 6 35])
 (.seq (.seq (.region 0 [.M 36 0,
 .o 37 .yx [36],
 .o 38 (.aj .sub) [37, .ki 1],
 .o 39 (.aj .rem) [38, .ki 18],
 .o 40 (.aj .add) [39, .ki 1],
 .M 7 40])
 (.block 0 (.loop [0, 5, 6, 7] [5] qh)))
 (.seq (.region 0 [.M 59 5,
 .M 2 59,
 .C 3 .aF])
 .ret))))))⟩
def CG : EF := ⟨[0], [.tmp 2], (.seq (.region 0 [.C 2 (.bool false)])
 (.seq (.region 0 [.M 3 0,
 .o 4 (.ah cu) [3],
 .o 5 .bI [4],
 .o 6 (.aj .eql) [5, .ki 0],
 .M 2 6])
 .ret))⟩
def MJ : EF := ⟨[0], [.tmp 2], (.seq (.region 0 [.C 2 .aF])
 (.seq (.seq (.region 0 [.M 3 0,
 .o 4 (.aj .eql) [3, .ki 0]])
 (.cond (.t 4) (.seq (.region 0 [.C 2 .aF])
 .ret)
 .skip))
 (.seq (.region 0 [.M 5 0,
 .o 6 (.Uk j_) [5],
 .M 2 6])
 .ret)))⟩
def QE : EF := ⟨[0, 1], [.tmp 4, .tmp 5], (.seq (.region 0 [.C 4 .aV,
 .C 5 .aF])
 (.seq (.seq (.region 0 [.M 13 1,
 .o 14 (.ah cZ) [13],
 .o 15 (.aj .eql) [14, .ki 0]])
 (.cond (.t 15) (.seq (.region 0 [.o 16 (.ah b_) [.ki 3],
 .C 4 .aV,
 .M 5 16])
 .ret)
 .skip))
 (.seq (.region 0 [.M 17 0,
 .o 18 (.ah bK) [17],
 .M 19 1,
 .o 20 (.ah bK) [19],
 .o 21 (.ah nI) [18, 20],
 .M 6 21])
 (.seq (.region 0 [.M 23 0,
 .o 24 (.ah bK) [23],
 .M 25 6,
 .o 26 (.ah iJ) [24, 25],
 .M 22 26,
 .o 27 (.ext 0) [22],
 .o 28 (.ext 1) [22],
 .o 29 (.ext 2) [22],
 .M 7 27,
 .M 8 28,
 .M 9 29])
 (.seq (.region 0 [.M 31 1,
 .o 32 (.ah bK) [31],
 .M 33 6,
 .o 34 (.ah iJ) [32, 33],
 .M 30 34,
 .o 35 (.ext 0) [30],
 .o 36 (.ext 1) [30],
 .o 37 (.ext 2) [30],
 .M 10 35,
 .M 11 36,
 .M 12 37])
 (.seq (.region 1 [.M 38 0,
 .o 39 (.ah cZ) [38],
 .M 40 1,
 .o 41 (.ah cZ) [40],
 .o 42 (.aj .mul) [39, 41],
 .o 43 (.aj .lss) [42, .ki 0],
 .M 44 7,
 .o 45 (.ah gW) [43, 44],
 .M 46 10,
 .o 47 (.ah gW) [.kb false, 46],
 .o 48 (.build [.aV, .aV] [(0, 1), (1, 1)]) [45, 47],
 .o 49 (.box 0) [48],
 .M 4 49,
 .C 5 .aF])
 .ret))))))⟩
def QA : EF := ⟨[0, 1], [.tmp 4], (.seq (.region 0 [.C 4 .aV])
 (.seq (.region 1 [.M 5 0,
 .M 6 5,
 .g 6 true 7 .aW [1],
 .g 6 true 8 (.ah fC) [7],
 .g 6 true 9 .not [8],
 .o 10 .pick [6, 9, .kb false],
 .M 11 1,
 .o 12 (.build [.bool false, .aV] [(0, 1), (1, 1)]) [10, 11],
 .o 13 (.box 0) [12],
 .M 4 13])
 .ret))⟩
def FM : EF := ⟨[0], [.tmp 2], (.seq (.region 0 [.C 2 .aV])
 (.seq (.seq (.region 0 [.M 3 0,
 .o 4 (.vw false) [3, .k .aV],
 .M 5 4,
 .g 5 false 6 .aW [0],
 .g 5 false 7 .nC [6],
 .g 5 false 8 (.aG 0) [7],
 .g 5 false 9 .au [8],
 .g 5 false 10 (.vw false) [9, .k .aV],
 .o 11 .pick [5, .kb true, 10]])
 (.cond (.t 11) (.seq (.region 0 [.o 12 (.ah jg) [.ki 0],
 .M 2 12])
 .ret)
 .skip))
 (.seq (.region 0 [.M 13 0,
 .o 14 .nC [13],
 .o 15 (.aG 0) [14],
 .o 16 .au [15],
 .M 2 16])
 .ret)))⟩
def CJ : EF := ⟨[0], [.tmp 2], (.seq (.region 0 [.C 2 (.int .i64 0)])
 (.seq (.block 0 (.seq (.region 0 [.M 4 0,
 .o 5 (.ah bK) [4],
 .o 6 (.ah fC) [5],
 .M 3 6])
 (.cond (.t 3) (.seq (.region 0 [.C 2 (.int .i64 0)])
 .ret)
 (.seq (.region 0 [.M 8 0,
 .o 9 .nC [8],
 .o 10 (.aG 0) [9],
 .o 11 .au [10],
 .M 7 11])
 (.cond (.t 7) (.seq (.region 0 [.C 2 (.int .i64 (-1))])
 .ret)
 .skip)))))
 (.seq (.region 0 [.C 2 (.int .i64 1)])
 .ret)))⟩
def Fp : EF := ⟨[0], [.tmp 2], (.seq (.region 0 [.C 2 .aV])
 (.seq (.region 0 [.M 3 0,
 .o 4 (.ah cZ) [3],
 .o 5 (.aj .geq) [4, .ki 0],
 .M 6 0,
 .o 7 (.ah bK) [6],
 .o 8 (.ah gW) [5, 7],
 .M 2 8])
 .ret))⟩
def FH : EF := ⟨[0], [.tmp 2], (.seq (.region 0 [.C 2 .aV])
 (.seq (.seq (.region 0 [.M 3 0,
 .o 4 (.vw false) [3, .k .aV],
 .M 5 4,
 .g 5 false 6 .aW [0],
 .g 5 false 7 .nC [6],
 .g 5 false 8 (.aG 1) [7],
 .g 5 false 9 .au [8],
 .g 5 false 10 (.vw false) [9, .k .aV],
 .o 11 .pick [5, .kb true, 10]])
 (.cond (.t 11) (.seq (.region 0 [.o 12 (.ah jg) [.ki 1],
 .M 2 12])
 .ret)
 .skip))
 (.seq (.region 0 [.M 13 0,
 .o 14 .nC [13],
 .o 15 (.aG 1) [14],
 .o 16 .au [15],
 .M 2 16])
 .ret)))⟩
def Fg : EF := ⟨[0, 1], [.tmp 4], (.seq (.region 0 [.C 4 (.int .i64 0)])
 (.seq (.region 0 [.M 5 0,
 .M 6 1,
 .o 7 (.ah qo) [5, 6],
 .o 8 (.ah cZ) [7],
 .M 4 8])
 .ret))⟩
def MS : EF := ⟨[0, 1], [.tmp 4], (.seq (.region 0 [.C 4 .aV])
 (.seq (.region 0 [.M 8 0,
 .M 9 1,
 .o 10 (.ah mZ) [8, 9],
 .M 7 10,
 .o 11 (.ext 0) [7],
 .o 12 (.ext 1) [7],
 .M 5 11,
 .M 6 12])
 (.seq (.region 0 [.M 13 5,
 .M 4 13])
 .ret)))⟩
def Fe : EF := ⟨[0, 1], [.tmp 4], (.seq (.region 0 [.C 4 .aV])
 (.seq (.region 0 [.M 11 0,
 .o 12 (.ah cZ) [11],
 .o 13 (.aj .lss) [12, .ki 0],
 .M 14 1,
 .o 15 (.ah cZ) [14],
 .o 16 (.aj .lss) [15, .ki 0],
 .M 5 13,
 .M 6 16])
 (.seq (.seq (.region 0 [.M 17 5,
 .M 18 6,
 .o 19 (.eqB false) [17, 18]])
 (.cond (.t 19) (.seq (.region 0 [.M 20 5,
 .M 21 0,
 .o 22 (.ah bK) [21],
 .M 23 1,
 .o 24 (.ah bK) [23],
 .o 25 (.ah iI) [22, 24],
 .o 26 (.ah gW) [20, 25],
 .M 4 26])
 .ret)
 .skip))
 (.seq (.seq (.region 0 [.M 27 0,
 .o 28 (.ah bK) [27],
 .M 29 1,
 .o 30 (.ah bK) [29],
 .o 31 (.ah jS) [28, 30],
 .o 32 (.aj .lss) [31, .ki 0]])
 (.cond (.t 32) (.seq (.region 0 [.M 34 1,
 .o 35 (.ah bK) [34],
 .M 36 0,
 .o 37 (.ah bK) [36],
 .o 38 (.ah lU) [35, 37],
 .M 33 38,
 .o 39 (.ext 0) [33],
 .o 40 (.ext 1) [33],
 .M 7 39,
 .M 8 40])
 (.seq (.region 0 [.M 41 6,
 .M 42 7,
 .o 43 (.ah gW) [41, 42],
 .M 4 43])
 .ret))
 .skip))
 (.seq (.region 0 [.M 45 0,
 .o 46 (.ah bK) [45],
 .M 47 1,
 .o 48 (.ah bK) [47],
 .o 49 (.ah lU) [46, 48],
 .M 44 49,
 .o 50 (.ext 0) [44],
 .o 51 (.ext 1) [44],
 .M 9 50,
 .M 10 51])
 (.seq (.region 0 [.M 52 5,
 .M 53 9,
 .o 54 (.ah gW) [52, 53],
 .M 4 54])
 .ret))))))⟩
def Fj : EF := ⟨[0, 1], [.tmp 4], (.seq (.region 0 [.C 4 .aV])
 (.seq (.region 0 [.M 5 0,
 .o 6 (.ah cZ) [5],
 .M 7 1,
 .o 8 (.ah cZ) [7],
 .o 9 (.aj .mul) [6, 8],
 .o 10 (.aj .lss) [9, .ki 0],
 .M 11 0,
 .o 12 (.ah bK) [11],
 .M 13 1,
 .o 14 (.ah bK) [13],
 .o 15 (.ah iK) [12, 14],
 .o 16 (.ah gW) [10, 15],
 .M 4 16])
 .ret))⟩
def lI : EC := (.seq (.block 1 (.seq (.region 0 [.o 12 (.aU 9) [1],
 .M 13 6,
 .o 14 (.ah qA) [12, 13],
 .M 11 14,
 .o 15 (.ext 0) [11],
 .o 16 (.ext 1) [11],
 .M 7 15,
 .M 8 16])
 (.seq (.seq (.region 0 [.M 17 8,
 .o 18 .not [17],
 .M 19 18,
 .g 19 false 20 .aW [7],
 .g 19 false 21 (.aG 0) [1],
 .g 19 false 22 .au [21],
 .g 19 false 23 (.aj .leq) [20, 22],
 .o 24 .pick [19, .kb true, 23]])
 (.cond (.t 24) (.seq (.region 0 [.M 25 5,
 .M 26 7,
 .M 27 8,
 .M 2 25,
 .M 3 26,
 .M 4 27])
 .ret)
 .skip))
 (.region 1 [.M 28 5,
 .M 29 7,
 .o 30 (.Jb 1 1 [.int .i64 0] [(0, 1)]) [29],
 .o 31 (.app 0 1) [28, 30],
 .M 5 31]))))
 (.region 0 [.M 9 6,
 .o 10 (.aj .add) [9, .ki 1],
 .M 6 10]))
def CQ : EF := ⟨[0], [.tmp 2, .tmp 3, .tmp 4], (.seq (.region 1 [.o 1 (.box 0) [0],
 .C 2 .dA,
 .C 3 (.int .i64 0),
 .C 4 (.bool false)])
 (.seq (.region 0 [.C 5 .dA])
 (.seq (.region 0 [.C 6 (.int .i64 0)])
 (.block 0 (.loop [1, 5, 6] [2, 3, 4] lI)))))⟩
def fP : EC := (.seq (.seq (.region 0 [.M 7 2,
 .M 8 3,
 .o 9 (.aj .lss) [7, 8]])
 (.cond (.t 9) .skip
 (.exit 0)))
 (.seq (.block 1 (.drawn 0 [(0, .M 14 0),
 (1, .M 15 2),
 (2, .M 16 0),
 (3, .M 17 3),
 (4, .M 18 0),
 (5, .M 19 3),
 (6, .o 20 (.bH 1) [18, 19]),
 (7, .o 21 .au [20]),
 (8, .M 22 0),
 (9, .M 23 2),
 (10, .o 24 (.bH 1) [22, 23]),
 (11, .o 25 .au [24]),
 (12, .o 26 (.bH 1) [14, 15]),
 (13, ⟨.store 1, [26, 21], none, none⟩),
 (14, .o 27 (.bH 1) [16, 17]),
 (15, ⟨.store 1, [27, 25], none, none⟩)]))
 (.region 0 [.M 10 2,
 .o 11 (.aj .add) [10, .ki 1],
 .M 12 3,
 .o 13 (.aj .sub) [12, .ki 1],
 .M 2 11,
 .M 3 13])))
def sJ : EF := ⟨[0], [], (.seq (.region 0 [.M 4 0,
 .o 5 .bI [4],
 .o 6 (.aj .sub) [5, .ki 1],
 .C 2 (.int .i64 0),
 .M 3 6])
 (.block 0 (.loop [0, 2, 3] [] fP)))⟩
def J6 : EF := ⟨[0, 1], [.tmp 4], (.seq (.region 0 [.C 4 .aF])
 (.seq (.seq (.region 0 [.M 5 0,
 .o 6 (.aj .eql) [5, .ki 0]])
 (.cond (.t 6) (.seq (.region 0 [.C 4 .aF])
 .ret)
 .skip))
 (.seq (.region 1 [.M 7 0,
 .M 8 1,
 .o 9 (.build [.int .i64 0, .str [], .aF] [(0, 1), (1, 1)]) [7, 8],
 .o 10 (.box 0) [9],
 .o 11 (.Uk jl) [10],
 .M 4 11])
 .ret)))⟩
def gK : EC := (.seq (.seq (.region 0 [.M 12 7,
 .o 13 (.aG 0) [3],
 .o 14 .au [13],
 .o 15 (.aj .gtr) [12, 14]])
 (.cond (.t 15) .skip
 (.exit 0)))
 (.block 1 (.seq (.region 0 [.o 17 (.aU 9) [2],
 .M 18 7,
 .o 19 (.ah nZ) [17, 18],
 .M 16 19,
 .o 20 (.ext 0) [16],
 .o 21 (.ext 1) [16],
 .M 8 20,
 .M 9 21])
 (.seq (.seq (.region 0 [.M 22 9,
 .o 23 (.eqN true true) [22, .k .aF]])
 (.cond (.t 23) (.seq (.region 0 [.M 24 9,
 .C 4 .dA,
 .M 5 24])
 .ret)
 .skip))
 (.seq (.region 1 [.M 25 6,
 .M 26 8,
 .M 27 7,
 .o 28 (.build [.int .i64 0, .int .i64 0] [(0, 1), (1, 1)]) [26, 27],
 .o 29 (.Jb 2 1 [.int .i64 0, .int .i64 0] [(0, 2)]) [28],
 .o 30 (.app 0 2) [25, 29],
 .M 6 30])
 (.region 0 [.M 31 8,
 .M 7 31]))))))
def ET : EF := ⟨[0, 1], [.tmp 4, .tmp 5], (.seq (.region 2 [.o 2 (.box 0) [0],
 .o 3 (.box 1) [1],
 .C 4 .dA,
 .C 5 .aF])
 (.seq (.region 0 [.C 6 .dA])
 (.seq (.seq (.region 0 [.o 10 (.aG 1) [3],
 .o 11 .au [10],
 .M 7 11])
 (.block 0 (.loop [2, 3, 6, 7] [4, 5, 6] gK)))
 (.seq (.region 0 [.M 32 6,
 .M 4 32,
 .C 5 .aF])
 .ret))))⟩
def Ht : EF := ⟨[0, 1, 2, 3, 4, 5], [.tmp 12, .tmp 13], (.seq (.region 0 [.C 12 .aV,
 .C 13 .aF])
 (.seq (.region 0 [.C 14 (.func uq [])])
 (.seq (.block 0 (.seq (.region 0 [.M 21 0,
 .o 22 (.ah vZ) [21],
 .o 23 .not [22],
 .M 20 23])
 (.cond (.t 20) (.seq (.region 0 [.o 24 (.ah b_) [.ki 1],
 .C 12 .aV,
 .M 13 24])
 .ret)
 (.seq (.region 0 [.M 26 14,
 .M 27 1,
 .o 28 .Cb [26, 27],
 .o 29 .not [28],
 .M 30 29,
 .g 30 false 31 .aW [14],
 .g 30 false 32 .aW [2],
 .g 30 false 33 .Cb [31, 32],
 .g 30 false 34 .not [33],
 .o 35 .pick [30, .kb true, 34],
 .M 36 35,
 .g 36 false 37 .aW [2],
 .g 36 false 38 .aW [1],
 .g 36 false 39 (.aj .lss) [37, 38],
 .o 40 .pick [36, .kb true, 39],
 .M 41 40,
 .g 41 false 42 .aW [0],
 .g 41 false 43 (.aj .eql) [42, .ki 4],
 .g 41 false 44 .aW [43],
 .g 44 true 45 .aW [14],
 .g 44 true 46 .aW [3],
 .g 44 true 47 .Cb [45, 46],
 .g 44 true 48 .not [47],
 .g 44 true 49 .aW [48],
 .g 49 false 50 .aW [14],
 .g 49 false 51 .aW [4],
 .g 49 false 52 .Cb [50, 51],
 .g 49 false 53 .not [52],
 .g 44 true 54 .pick [49, .kb true, 53],
 .g 41 false 55 .pick [44, 54, .kb false],
 .o 56 .pick [41, .kb true, 55],
 .M 25 56])
 (.cond (.t 25) (.seq (.region 0 [.o 57 (.ah b_) [.ki 4],
 .C 12 .aV,
 .M 13 57])
 .ret)
 (.seq (.region 0 [.M 59 0,
 .o 60 (.aj .eql) [59, .ki 4],
 .M 61 60,
 .g 61 true 62 .aW [3],
 .g 61 true 63 .aW [4],
 .g 61 true 64 (.aj .geq) [62, 63],
 .g 61 true 65 .aW [64],
 .g 65 false 66 .aW [5],
 .g 65 false 67 (.aj .lss) [66, .ki 1],
 .g 61 true 68 .pick [65, .kb true, 67],
 .o 69 .pick [61, 68, .kb false],
 .M 58 69])
 (.cond (.t 58) (.seq (.region 0 [.o 70 (.ah b_) [.ki 2],
 .C 12 .aV,
 .M 13 70])
 .ret)
 .skip)))))))
 (.seq (.region 0 [.C 15 (.int .i64 360)])
 (.seq (.seq (.region 0 [.M 71 0])
 (.join [0, 1, 2, 5, 15] (.block 1 (.seq (.region 0 [.o 73 (.aj .eql) [71, .ki 3],
 .M 72 73])
 (.join [0, 1, 2, 5, 15] (.cond (.t 72) (.region 0 [.C 15 (.int .i64 365)])
 (.seq (.region 0 [.o 75 (.aj .eql) [71, .ki 4],
 .M 74 75])
 (.join [0, 1, 2, 5, 15] (.cond (.t 74) (.region 0 [.M 76 4,
 .M 77 3,
 .o 78 (.aj .sub) [76, 77],
 .M 15 78])
 .skip)))))))))
 (.seq (.region 0 [.M 80 0,
 .M 81 1,
 .M 82 2,
 .o 83 (.ah yV) [80, 81, 82],
 .M 84 15,
 .o 85 (.ah h_) [83, 84],
 .M 79 85,
 .o 86 (.ext 0) [79],
 .o 87 (.ext 1) [79],
 .M 16 86,
 .M 17 87])
 (.seq (.seq (.region 0 [.M 88 17,
 .o 89 (.eqN true true) [88, .k .aF],
 .M 90 89,
 .g 90 false 91 .aW [0],
 .g 90 false 92 (.aj .neq) [91, .ki 4],
 .o 93 .pick [90, .kb true, 92]])
 (.cond (.t 93) (.seq (.region 0 [.M 94 16,
 .M 95 17,
 .M 12 94,
 .M 13 95])
 .ret)
 .skip))
 (.seq (.region 0 [.M 97 5,
 .o 98 (.ah h_) [97, .ki 1],
 .M 96 98,
 .o 99 (.ext 0) [96],
 .o 100 (.ext 1) [96],
 .M 18 99,
 .M 19 100])
 (.seq (.region 0 [.M 101 16,
 .M 102 18,
 .o 103 (.ah lX) [101, 102],
 .o 104 (.ext 0) [103],
 .o 105 (.ext 1) [103],
 .M 12 104,
 .M 13 105])
 .ret)))))))))⟩
def Ua : EF := ⟨[0], [.tmp 2], (.seq (.region 0 [.C 2 .aV])
 (.seq (.seq (.region 0 [.M 3 0,
 .o 4 (.aj .lss) [3, .ki 0]])
 (.cond (.t 4) (.seq (.region 0 [.M 5 0,
 .o 6 (.conv .u64) [5],
 .o 7 .neg [6],
 .o 8 (.ah iD) [7],
 .o 9 (.ah gW) [.kb true, 8],
 .M 2 9])
 .ret)
 .skip))
 (.seq (.region 0 [.M 10 0,
 .o 11 (.conv .u64) [10],
 .o 12 (.ah iD) [11],
 .o 13 (.ah gW) [.kb false, 12],
 .M 2 13])
 .ret)))⟩
def HY : EF := ⟨[0, 1], [.tmp 4, .tmp 5], (.seq (.region 1 [.o 2 (.box 0) [0],
 .C 4 (.int .i64 0),
 .C 5 .aF])
 (.seq (.seq (.region 0 [.o 10 (.aU 9) [2],
 .o 11 (.ah kT) [10],
 .M 6 11])
 (.seq (.region 0 [.M 12 6,
 .o 13 (.eqN true true) [12, .k .aF]])
 (.cond (.t 13) (.seq (.region 0 [.M 14 6,
 .C 4 (.int .i64 0),
 .M 5 14])
 .ret)
 .skip)))
 (.seq (.region 0 [.o 16 (.aU 9) [2],
 .M 17 1,
 .o 18 (.ah zC) [16, 17],
 .M 15 18,
 .o 19 (.ext 0) [15],
 .o 20 (.ext 1) [15],
 .M 7 19,
 .M 8 20])
 (.seq (.seq (.region 0 [.M 21 8,
 .o 22 .not [21],
 .M 23 22,
 .g 23 false 24 .aW [1],
 .g 23 false 25 (.aG 0) [2],
 .g 23 false 26 .au [25],
 .g 23 false 27 (.aj .leq) [24, 26],
 .o 28 .pick [23, .kb true, 27]])
 (.cond (.t 28) (.seq (.region 0 [.o 29 (.ah b_) [.ki 4],
 .C 4 (.int .i64 0),
 .M 5 29])
 .ret)
 .skip))
 (.seq (.region 0 [.o 31 (.aU 9) [2],
 .M 32 7,
 .o 33 (.aj .add) [32, .ki 1],
 .o 34 (.ah qA) [31, 33],
 .M 30 34,
 .o 35 (.ext 0) [30],
 .o 36 (.ext 1) [30],
 .M 9 35,
 .M 8 36])
 (.seq (.seq (.region 0 [.M 37 8,
 .o 38 .not [37]])
 (.cond (.t 38) (.seq (.region 0 [.o 39 (.ah b_) [.ki 4],
 .C 4 (.int .i64 0),
 .M 5 39])
 .ret)
 .skip))
 (.seq (.region 0 [.M 40 9,
 .M 4 40,
 .C 5 .aF])
 .ret)))))))⟩
def y7 : EF := ⟨[0], [.tmp 2], (.seq (.region 0 [.C 2 (.bool false)])
 (.seq (.region 0 [.M 3 0,
 .o 4 (.aj .geq) [3, .ki 0],
 .M 5 4,
 .g 5 true 6 .aW [0],
 .g 5 true 7 (.aj .leq) [6, .ki 109572],
 .o 8 .pick [5, 7, .kb false],
 .M 2 8])
 .ret))⟩
def jF : EC := (.seq (.seq (.region 0 [.M 5 0,
 .o 6 (.aG 0) [3],
 .o 7 .au [6],
 .o 8 (.ah jH) [7],
 .o 9 (.aj .geq) [5, 8]])
 (.cond (.t 9) .skip
 (.exit 0)))
 (.block 1 (.seq (.region 0 [.M 10 0,
 .o 11 (.aG 0) [3],
 .o 12 .au [11],
 .o 13 (.ah jH) [12],
 .o 14 (.aj .sub) [10, 13],
 .M 0 14])
 (.region 0 [.o 15 (.aG 0) [3],
 .o 16 .au [15],
 .o 17 (.aj .add) [16, .ki 1],
 .o 18 (.aG 0) [3],
 ⟨.store 1, [18, 17], none, none⟩]))))
def jG : EC := (.seq (.seq (.region 0 [.M 19 0,
 .o 20 (.aG 0) [3],
 .o 21 .au [20],
 .o 22 (.aG 1) [3],
 .o 23 .au [22],
 .o 24 (.ah dU) [21, 23],
 .o 25 (.aj .geq) [19, 24]])
 (.cond (.t 25) .skip
 (.exit 2)))
 (.block 3 (.seq (.region 0 [.M 26 0,
 .o 27 (.aG 0) [3],
 .o 28 .au [27],
 .o 29 (.aG 1) [3],
 .o 30 .au [29],
 .o 31 (.ah dU) [28, 30],
 .o 32 (.aj .sub) [26, 31],
 .M 0 32])
 (.region 0 [.o 33 (.aG 1) [3],
 .o 34 .au [33],
 .o 35 (.aj .add) [34, .ki 1],
 .o 36 (.aG 1) [3],
 ⟨.store 1, [36, 35], none, none⟩]))))
def vk : EF := ⟨[0], [.cell 2 true 3], (.seq (.region 1 [.o 2 (.alloc 0 [.int .i64 0, .int .i64 0, .int .i64 0]) []])
 (.seq (.region 1 [.o 4 (.build [.int .i64 0, .int .i64 0, .int .i64 0] [(0, 1), (1, 1)]) [.ki 1900, .ki 1],
 .o 3 (.alloc 0 [.int .i64 0, .int .i64 0, .int .i64 0]) [],
 ⟨.store 3, [3, 4], none, none⟩])
 (.seq (.block 0 (.loop [0, 2, 3] [0, 2, 3] jF))
 (.seq (.block 2 (.loop [0, 2, 3] [0, 2, 3] jG))
 (.seq (.region 0 [.M 37 0,
 .o 38 (.aj .add) [37, .ki 1],
 .o 39 (.aG 2) [3],
 ⟨.store 1, [39, 38], none, none⟩])
 (.seq (.region 0 [.o 40 (.aU 3) [3],
 ⟨.store 3, [2, 40], none, none⟩])
 .ret))))))⟩
def wC : EF := ⟨[0], [.tmp 2], (.seq (.region 0 [.C 2 (.bool false)])
 (.seq (.region 1 [.M 4 0,
 .o 5 (.ah jW) [4],
 .o 3 (.alloc 0 [.int .i64 0, .int .i64 0, .int .i64 0]) [],
 ⟨.store 3, [3, 5], none, none⟩])
 (.seq (.drawn 0 [(0, .o 6 (.aG 2) [3]),
 (1, .o 7 .au [6]),
 (2, .o 8 (.aG 0) [3]),
 (3, .o 9 .au [8]),
 (4, .o 10 (.aG 1) [3]),
 (5, .o 11 .au [10]),
 (6, .o 12 (.ah dU) [9, 11]),
 (7, .o 13 (.aj .eql) [7, 12]),
 (8, .M 2 13)])
 .ret)))⟩
def sH : EF := ⟨[0, 1], [.tmp 4], (.seq (.region 0 [.C 4 (.int .i64 0)])
 (.seq (.seq (.region 0 [.M 5 1])
 (.join [4] (.block 0 (.seq (.seq (.region 0 [.o 7 (.aj .eql) [5, .ki 1],
 .M 6 7])
 (.join [0, 5, 6] (.cond (.t 6) .skip
 (.seq (.region 0 [.o 8 (.aj .eql) [5, .ki 3],
 .M 6 8])
 (.join [0, 5, 6] (.cond (.t 6) .skip
 (.seq (.region 0 [.o 9 (.aj .eql) [5, .ki 5],
 .M 6 9])
 (.join [0, 5, 6] (.cond (.t 6) .skip
 (.seq (.region 0 [.o 10 (.aj .eql) [5, .ki 7],
 .M 6 10])
 (.join [0, 5, 6] (.cond (.t 6) .skip
 (.seq (.region 0 [.o 11 (.aj .eql) [5, .ki 8],
 .M 6 11])
 (.join [0, 5, 6] (.cond (.t 6) .skip
 (.seq (.region 0 [.o 12 (.aj .eql) [5, .ki 10],
 .M 6 12])
 (.join [0, 5, 6] (.cond (.t 6) .skip
 (.region 0 [.o 13 (.aj .eql) [5, .ki 12],
 .M 6 13])))))))))))))))))))
 (.join [4] (.cond (.t 6) (.seq (.region 0 [.C 4 (.int .i64 31)])
 .ret)
 (.seq (.seq (.region 0 [.o 15 (.aj .eql) [5, .ki 4],
 .M 14 15])
 (.join [0, 5, 14] (.cond (.t 14) .skip
 (.seq (.region 0 [.o 16 (.aj .eql) [5, .ki 6],
 .M 14 16])
 (.join [0, 5, 14] (.cond (.t 14) .skip
 (.seq (.region 0 [.o 17 (.aj .eql) [5, .ki 9],
 .M 14 17])
 (.join [0, 5, 14] (.cond (.t 14) .skip
 (.region 0 [.o 18 (.aj .eql) [5, .ki 11],
 .M 14 18]))))))))))
 (.cond (.t 14) (.seq (.region 0 [.C 4 (.int .i64 30)])
 .ret)
 (.seq (.region 0 [.o 20 (.aj .eql) [5, .ki 2],
 .M 19 20])
 (.cond (.t 19) (.seq (.seq (.region 0 [.M 21 0,
 .o 22 (.ah kK) [21]])
 (.cond (.t 22) (.seq (.region 0 [.C 4 (.int .i64 29)])
 .ret)
 .skip))
 (.seq (.region 0 [.C 4 (.int .i64 28)])
 .ret))
 .skip))))))))))
 (.seq (.region 0 [.C 4 (.int .i64 0)])
 .ret)))⟩
def lD : EC := (.seq (.seq (.region 0 [.M 30 5,
 .o 31 (.aG 0) [1],
 .o 32 .au [31],
 .o 33 (.aj .lss) [30, 32]])
 (.cond (.t 33) .skip
 (.exit 0)))
 (.seq (.block 1 (.region 0 [.M 36 4,
 .M 37 5,
 .o 38 (.ah jH) [37],
 .o 39 (.aj .add) [36, 38],
 .M 4 39]))
 (.region 0 [.M 34 5,
 .o 35 (.aj .add) [34, .ki 1],
 .M 5 35])))
def lF : EC := (.seq (.seq (.region 0 [.M 40 6,
 .o 41 (.aG 1) [1],
 .o 42 .au [41],
 .o 43 (.aj .lss) [40, 42]])
 (.cond (.t 43) .skip
 (.exit 2)))
 (.seq (.block 3 (.region 0 [.M 46 4,
 .o 47 (.aG 0) [1],
 .o 48 .au [47],
 .M 49 6,
 .o 50 (.ah dU) [48, 49],
 .o 51 (.aj .add) [46, 50],
 .M 4 51]))
 (.region 0 [.M 44 6,
 .o 45 (.aj .add) [44, .ki 1],
 .M 6 45])))
def y8 : EF := ⟨[0], [.tmp 2, .tmp 3], (.seq (.region 1 [.o 1 (.box 0) [0],
 .C 2 (.int .i64 0),
 .C 3 (.bool false)])
 (.seq (.seq (.drawn 0 [(0, .o 7 (.aG 0) [1]),
 (1, .o 8 .au [7]),
 (2, .o 9 (.aj .lss) [8, .ki 1900]),
 (3, .M 10 9),
 (4, .g 10 false 11 (.aG 0) [1]),
 (5, .g 10 false 12 .au [11]),
 (6, .g 10 false 13 (.aj .gtr) [12, .ki 2199]),
 (7, .o 14 .pick [10, .kb true, 13]),
 (8, .M 15 14),
 (9, .g 15 false 16 (.aG 2) [1]),
 (10, .g 15 false 17 .au [16]),
 (11, .g 15 false 18 (.aj .lss) [17, .ki 1]),
 (12, .o 19 .pick [15, .kb true, 18]),
 (13, .M 20 19),
 (14, .g 20 false 21 (.aG 2) [1]),
 (15, .g 20 false 22 .au [21]),
 (16, .g 20 false 23 (.aG 0) [1]),
 (17, .g 20 false 24 .au [23]),
 (18, .g 20 false 25 (.aG 1) [1]),
 (19, .g 20 false 26 .au [25]),
 (20, .g 20 false 27 (.ah dU) [24, 26]),
 (21, .g 20 false 28 (.aj .gtr) [22, 27]),
 (22, .o 29 .pick [20, .kb true, 28])])
 (.cond (.t 29) (.seq (.region 0 [.C 2 (.int .i64 0),
 .C 3 (.bool false)])
 .ret)
 .skip))
 (.seq (.region 0 [.C 4 (.int .i64 0)])
 (.seq (.seq (.region 0 [.C 5 (.int .i64 1900)])
 (.block 0 (.loop [1, 4, 5] [1, 4] lD)))
 (.seq (.seq (.region 0 [.C 6 (.int .i64 1)])
 (.block 2 (.loop [1, 4, 6] [1, 4] lF)))
 (.seq (.region 0 [.M 52 4,
 .o 53 (.aG 2) [1],
 .o 54 .au [53],
 .o 55 (.aj .add) [52, 54],
 .o 56 (.aj .sub) [55, .ki 1],
 .M 2 56,
 .C 3 (.bool true)])
 .ret))))))⟩
def eU : EC := (.seq (.region 0 [.o 9 (.aj .lss) [8, 7]])
 (.seq (.cond (.t 9) .skip
 (.exit 0))
 (.seq (.block 1 (.seq (.region 0 [.M 10 8,
 .M 5 10])
 (.seq (.region 0 [.M 11 1,
 .M 12 0,
 .M 13 5,
 .o 14 (.bH 2) [12, 13],
 .o 15 (.aU 2) [14],
 .o 16 .Cb [11, 15]])
 (.cond (.t 16) (.seq (.region 0 [.M 17 5,
 .M 4 17])
 .ret)
 .skip))))
 (.region 0 [.o 18 (.aj .add) [8, .ki 1],
 .M 8 18]))))
def kE : EF := ⟨[0, 1], [.tmp 4], (.seq (.region 0 [.C 4 (.int .i64 0)])
 (.seq (.seq (.region 0 [.M 6 0,
 .o 7 .bI [6],
 .C 8 (.int .i64 0)])
 (.block 0 (.loop [0, 1, 7, 8] [4] eU)))
 (.seq (.region 0 [.C 4 (.int .i64 (-1))])
 .ret)))⟩
def Ku : EF := ⟨[0, 1], [.tmp 3], (.seq (.region 1 [.o 2 (.box 0) [0],
 .C 3 (.bool false)])
 (.seq (.region 0 [.o 4 (.aG 0) [2],
 .o 5 .au [4],
 .o 6 .au [1],
 .o 7 (.aj .leq) [5, 6],
 .M 8 7,
 .g 8 true 9 .au [1],
 .g 8 true 10 (.aG 1) [2],
 .g 8 true 11 .au [10],
 .g 8 true 12 (.aj .lss) [9, 11],
 .o 13 .pick [8, 12, .kb false],
 .M 3 13])
 .ret))⟩
def EK : EF := ⟨[0, 1], [.cell 4 true 2, .tmp 5], (.seq (.region 2 [.o 2 (.box 0) [0],
 .o 4 (.alloc 1 [.int .i64 0, .int .i64 0]) [],
 .C 5 .aF])
 (.seq (.seq (.region 0 [.o 11 (.aU 9) [2],
 .M 12 1,
 .o 13 (.ah oG) [11, 12],
 .M 10 13,
 .o 14 (.ext 0) [10],
 .o 15 (.ext 1) [10],
 .M 6 14,
 .M 7 15])
 (.seq (.region 0 [.M 16 7,
 .o 17 (.eqN true true) [16, .k .aF]])
 (.cond (.t 17) (.seq (.region 0 [.o 18 (.build [.int .i64 0, .int .i64 0] []) [],
 .M 19 7,
 ⟨.store 2, [4, 18], none, none⟩,
 .M 5 19])
 .ret)
 .skip)))
 (.seq (.region 0 [.o 21 (.aU 9) [2],
 .o 22 (.ah kW) [21],
 .M 20 22,
 .o 23 (.ext 0) [20],
 .o 24 (.ext 1) [20],
 .M 8 23,
 .M 9 24])
 (.seq (.seq (.region 0 [.M 25 9,
 .o 26 (.eqN true true) [25, .k .aF]])
 (.cond (.t 26) (.seq (.region 0 [.o 27 (.build [.int .i64 0, .int .i64 0] []) [],
 .M 28 9,
 ⟨.store 2, [4, 27], none, none⟩,
 .M 5 28])
 .ret)
 .skip))
 (.seq (.region 0 [.M 29 8,
 .M 30 8,
 .M 31 1,
 .o 32 (.ah yF) [30, 31],
 .o 33 (.bH 2) [29, 32],
 .o 34 (.aU 2) [33],
 ⟨.store 2, [4, 34], none, none⟩,
 .C 5 .aF])
 .ret)))))⟩
def JY : EF := ⟨[0, 1, 2], [.tmp 6, .tmp 7], (.seq (.region 2 [.o 3 (.box 0) [0],
 .o 4 (.box 1) [1],
 .C 6 .aV,
 .C 7 .aF])
 (.seq (.seq (.region 0 [.o 13 (.aG 5) [3],
 .o 14 .au [13],
 .o 15 (.aj .eql) [14, .ki 4],
 .M 16 15,
 .g 16 true 17 (.aU 9) [3],
 .g 16 true 18 (.aU 2) [4],
 .g 16 true 19 (.ah jh) [17, 18],
 .o 20 .pick [16, 19, .kb false]])
 (.cond (.t 20) (.seq (.region 0 [.o 22 (.aU 9) [3],
 .o 23 (.aU 2) [4],
 .o 24 (.ah nX) [22, 23],
 .M 21 24,
 .o 25 (.ext 0) [21],
 .o 26 (.ext 1) [21],
 .M 8 25,
 .M 9 26])
 (.seq (.seq (.region 0 [.M 27 9,
 .o 28 (.eqN true true) [27, .k .aF]])
 (.cond (.t 28) (.seq (.region 0 [.M 29 9,
 .C 6 .aV,
 .M 7 29])
 .ret)
 .skip))
 (.seq (.region 0 [.M 31 2,
 .o 32 (.aG 0) [4],
 .o 33 .au [32],
 .o 34 (.aj .sub) [31, 33],
 .o 35 (.aG 1) [4],
 .o 36 .au [35],
 .o 37 (.aG 0) [4],
 .o 38 .au [37],
 .o 39 (.aj .sub) [36, 38],
 .o 40 (.ah h_) [34, 39],
 .M 30 40,
 .o 41 (.ext 0) [30],
 .o 42 (.ext 1) [30],
 .M 10 41,
 .M 9 42])
 (.seq (.region 0 [.M 43 8,
 .M 44 10,
 .o 45 (.ah gY) [43, 44],
 .M 46 9,
 .M 6 45,
 .M 7 46])
 .ret))))
 .skip))
 (.seq (.region 0 [.o 48 (.aU 9) [3],
 .o 49 (.aU 2) [4],
 .o 50 (.aG 0) [4],
 .o 51 .au [50],
 .M 52 2,
 .o 53 (.ah lH) [48, 49, 51, 52],
 .M 47 53,
 .o 54 (.ext 0) [47],
 .o 55 (.ext 1) [47],
 .M 11 54,
 .M 12 55])
 (.seq (.seq (.region 0 [.M 56 12,
 .o 57 (.eqN true true) [56, .k .aF]])
 (.cond (.t 57) (.seq (.region 0 [.M 58 12,
 .C 6 .aV,
 .M 7 58])
 .ret)
 .skip))
 (.seq (.region 0 [.o 59 (.aU 9) [3],
 .o 60 (.ah jR) [59],
 .M 61 11,
 .o 62 (.ah gY) [60, 61],
 .M 6 62,
 .C 7 .aF])
 .ret)))))⟩
def kG : EC := (.seq (.region 0 [.o 42 (.aj .lss) [41, 40]])
 (.seq (.cond (.t 42) .skip
 (.exit 0))
 (.seq (.block 1 (.seq (.region 1 [.o 43 (.bH 2) [39, 41],
 .o 44 (.aU 2) [43],
 .o 12 (.alloc 0 [.int .i64 0, .str []]) [],
 ⟨.store 2, [12, 44], none, none⟩])
 (.seq (.region 0 [.o 46 (.aG 1) [12],
 .o 47 .au [46],
 .o 48 (.ah Af) [47],
 .M 45 48,
 .o 49 (.ext 0) [45],
 .o 50 (.ext 1) [45],
 .M 13 49,
 .M 14 50])
 (.region 1 [.M 51 10,
 .M 52 13,
 .o 53 (.Jb 1 1 [.aV] [(0, 1)]) [52],
 .o 54 (.app 0 1) [51, 53],
 .M 10 54]))))
 (.region 0 [.o 55 (.aj .add) [41, .ki 1],
 .M 41 55]))))
def AU : EF := ⟨[0, 1], [.tmp 4, .tmp 5], (.seq (.region 1 [.o 2 (.box 0) [0],
 .C 4 .dA,
 .C 5 .aF])
 (.seq (.region 0 [.o 20 (.aU 9) [2],
 .M 21 1,
 .o 22 (.ah wS) [20, 21],
 .M 19 22,
 .o 23 (.ext 0) [19],
 .o 24 (.ext 1) [19],
 .o 25 (.ext 2) [19],
 .M 6 23,
 .M 7 24,
 .M 8 25])
 (.seq (.seq (.region 0 [.M 26 8,
 .o 27 (.eqN true true) [26, .k .aF]])
 (.cond (.t 27) (.seq (.region 0 [.M 28 8,
 .C 4 .dA,
 .M 5 28])
 .ret)
 .skip))
 (.seq (.region 0 [.o 30 (.aU 9) [2],
 .o 31 (.ah vN) [30],
 .M 29 31,
 .o 32 (.ext 0) [29],
 .o 33 (.ext 1) [29],
 .M 9 32,
 .M 8 33])
 (.seq (.seq (.region 0 [.M 34 8,
 .o 35 (.eqN true true) [34, .k .aF]])
 (.cond (.t 35) (.seq (.region 0 [.M 36 8,
 .C 4 .dA,
 .M 5 36])
 .ret)
 .skip))
 (.seq (.region 0 [.C 10 .dA])
 (.seq (.seq (.region 0 [.M 37 9,
 .M 38 7,
 .o 39 (.Pj 2 true false) [37, 38],
 .o 40 .bI [39],
 .C 41 (.int .i64 0)])
 (.block 0 (.loop [1, 2, 6, 7, 10, 39, 40, 41] [1, 2, 6, 7, 10] kG)))
 (.seq (.seq (.region 0 [.o 57 (.aU 9) [2],
 .M 58 1,
 .o 59 (.ah Aa) [57, 58],
 .M 56 59,
 .o 60 (.ext 0) [56],
 .o 61 (.ext 1) [56],
 .M 15 60,
 .M 16 61])
 (.seq (.region 0 [.M 62 15])
 (.join [4, 5, 10] (.cond (.t 62) (.seq (.drawn 0 [(0, .o 64 (.aU 9) [2]),
 (1, .M 65 6),
 (2, .M 66 7),
 (3, .o 67 (.bH 2) [65, 66]),
 (4, .o 68 (.aU 2) [67]),
 (5, .o 69 (.ah nX) [64, 68]),
 (6, .M 63 69),
 (7, .o 70 (.ext 0) [63]),
 (8, .o 71 (.ext 1) [63]),
 (9, .M 17 70),
 (10, .M 18 71)])
 (.seq (.seq (.region 0 [.M 72 18,
 .o 73 (.eqN true true) [72, .k .aF]])
 (.cond (.t 73) (.seq (.region 0 [.M 74 18,
 .C 4 .dA,
 .M 5 74])
 .ret)
 .skip))
 (.region 0 [.M 75 10,
 .M 76 10,
 .o 77 (.bH 1) [76, .ki 0],
 .o 78 .au [77],
 .M 79 17,
 .o 80 (.ah jq) [78, 79],
 .o 81 (.bH 1) [75, .ki 0],
 ⟨.store 1, [81, 80], none, none⟩])))
 .skip))))
 (.seq (.region 0 [.M 82 10,
 .M 4 82,
 .C 5 .aF])
 .ret)))))))))⟩
def iE : EC := (.seq (.seq (.region 0 [.M 23 12,
 .o 24 (.aj .geq) [23, .ki 0]])
 (.cond (.t 24) .skip
 (.exit 0)))
 (.seq (.join [1, 2, 8, 9, 10, 11, 12] (.block 1 (.seq (.drawn 0 [(0, .M 27 10),
 (1, .M 28 2),
 (2, .o 29 (.ah bM) [27, 28]),
 (3, .M 30 8),
 (4, .M 31 12),
 (5, .o 32 (.bH 1) [30, 31]),
 (6, .o 33 .au [32]),
 (7, .M 34 11),
 (8, .o 35 (.ah bM) [33, 34]),
 (9, .o 36 (.ah gu) [29, 35]),
 (10, .M 10 36)])
 (.seq (.region 0 [.M 37 12,
 .o 38 (.aj .gtr) [37, .ki 0]])
 (.join [1, 2, 8, 9, 10, 11, 12] (.cond (.t 38) (.region 0 [.M 39 11,
 .M 40 1,
 .o 41 (.ah bM) [39, 40],
 .M 11 41])
 .skip))))))
 (.region 0 [.M 25 12,
 .o 26 (.aj .sub) [25, .ki 1],
 .M 12 26])))
def CU : EF := ⟨[0, 1, 2], [.tmp 6, .tmp 7], (.seq (.region 0 [.C 6 .aV,
 .C 7 .aV])
 (.seq (.region 0 [.M 14 0,
 .o 15 (.ah uN) [14],
 .M 13 15,
 .o 16 (.ext 0) [13],
 .o 17 (.ext 1) [13],
 .M 8 16,
 .M 9 17])
 (.seq (.region 0 [.o 18 (.ah jg) [.ki 0],
 .o 19 (.ah jg) [.ki 1],
 .M 10 18,
 .M 11 19])
 (.seq (.seq (.region 0 [.M 20 8,
 .o 21 .bI [20],
 .o 22 (.aj .sub) [21, .ki 1],
 .M 12 22])
 (.block 0 (.loop [1, 2, 8, 9, 10, 11, 12] [9, 10, 11] iE)))
 (.seq (.region 0 [.M 42 10,
 .M 43 9,
 .M 44 11,
 .o 45 (.ah bM) [43, 44],
 .M 6 42,
 .M 7 45])
 .ret)))))⟩
def H8 : EF := ⟨[0, 1], [.tmp 4, .tmp 5, .tmp 6], (.seq (.region 1 [.o 2 (.box 0) [0],
 .C 4 (.sl 0 []),
 .C 5 (.int .i64 0),
 .C 6 .aF])
 (.seq (.seq (.region 0 [.o 12 (.aU 9) [2],
 .M 13 1,
 .o 14 (.ah oG) [12, 13],
 .M 11 14,
 .o 15 (.ext 0) [11],
 .o 16 (.ext 1) [11],
 .M 7 15,
 .M 8 16])
 (.seq (.region 0 [.M 17 8,
 .o 18 (.eqN true true) [17, .k .aF]])
 (.cond (.t 18) (.seq (.region 0 [.M 19 8,
 .C 4 (.sl 0 []),
 .C 5 (.int .i64 0),
 .M 6 19])
 .ret)
 .skip)))
 (.seq (.region 0 [.o 21 (.aU 9) [2],
 .o 22 (.ah kW) [21],
 .M 20 22,
 .o 23 (.ext 0) [20],
 .o 24 (.ext 1) [20],
 .M 9 23,
 .M 10 24])
 (.seq (.region 0 [.M 25 9,
 .M 26 9,
 .M 27 1,
 .o 28 (.ah yF) [26, 27],
 .M 29 10,
 .M 4 25,
 .M 5 28,
 .M 6 29])
 .ret))))⟩
def FI : EF := ⟨[0, 1], [.tmp 4, .tmp 5], (.seq (.region 0 [.C 4 .aV,
 .C 5 .aF])
 (.seq (.region 0 [.M 6 0,
 .o 7 (.ah dB) [6],
 .M 8 1,
 .o 9 (.ah bY) [8],
 .o 10 (.ah bM) [7, 9],
 .M 11 0,
 .o 12 (.ah bY) [11],
 .M 13 1,
 .o 14 (.ah dB) [13],
 .o 15 (.ah bM) [12, 14],
 .o 16 (.ah mZ) [10, 15],
 .o 17 (.ext 0) [16],
 .o 18 (.ext 1) [16],
 .M 4 17,
 .M 5 18])
 .ret))⟩
def Kv : EF := ⟨[], [.tmp 0], (.seq (.region 0 [.C 0 .aV])
 (.seq (.region 0 [.o 4 (.ah h_) [.ki 1, .ki 1],
 .M 3 4,
 .o 5 (.ext 0) [3],
 .o 6 (.ext 1) [3],
 .M 1 5,
 .M 2 6])
 (.seq (.region 0 [.M 7 1,
 .M 0 7])
 .ret)))⟩
def Td : EC := (.seq (.region 0 [.o 24 (.aj .lss) [23, 22]])
 (.seq (.cond (.t 24) .skip
 (.exit 0))
 (.seq (.block 1 (.seq (.region 0 [.o 25 (.bH 1) [21, 23],
 .o 26 .au [25],
 .M 10 26])
 (.seq (.region 0 [.M 28 8,
 .M 29 10,
 .o 30 (.ah bY) [29],
 .o 31 (.ah mZ) [28, 30],
 .M 27 31,
 .o 32 (.ext 0) [27],
 .o 33 (.ext 1) [27],
 .M 11 32,
 .M 12 33])
 (.region 0 [.M 34 8,
 .M 35 11,
 .o 36 (.ah bY) [35],
 .o 37 (.ah bM) [34, 36],
 .M 8 37]))))
 (.region 0 [.o 38 (.aj .add) [23, .ki 1],
 .M 23 38]))))
def Tf : EC := (.seq (.seq (.region 0 [.M 45 16,
 .o 46 (.aj .geq) [45, .ki 0]])
 (.cond (.t 46) .skip
 (.exit 2)))
 (.seq (.block 3 (.seq (.region 0 [.M 50 8,
 .M 51 0,
 .M 52 16,
 .o 53 (.bH 1) [51, 52],
 .o 54 .au [53],
 .o 55 (.ah bY) [54],
 .o 56 (.ah qm) [50, 55],
 .M 49 56,
 .o 57 (.ext 0) [49],
 .o 58 (.ext 1) [49],
 .o 59 (.ext 2) [49],
 .M 17 57,
 .M 18 58,
 .M 19 59])
 (.seq (.region 0 [.M 60 13,
 .M 61 14,
 .o 62 (.ah gu) [60, 61],
 .M 63 2,
 .o 64 (.ah bM) [62, 63],
 .M 13 64])
 (.seq (.drawn 0 [(0, .M 65 14),
 (1, .M 66 2),
 (2, .o 67 (.ah bM) [65, 66]),
 (3, .M 68 0),
 (4, .M 69 16),
 (5, .o 70 (.bH 1) [68, 69]),
 (6, .o 71 .au [70]),
 (7, .o 72 (.ah dB) [71]),
 (8, .M 73 17),
 (9, .o 74 (.ah bM) [72, 73]),
 (10, .M 75 15),
 (11, .o 76 (.ah bM) [74, 75]),
 (12, .o 77 (.ah gu) [67, 76]),
 (13, .M 14 77)])
 (.region 0 [.M 78 15,
 .M 79 1,
 .o 80 (.ah bM) [78, 79],
 .M 15 80])))))
 (.region 0 [.M 47 16,
 .o 48 (.aj .sub) [47, .ki 1],
 .M 16 48])))
def ae7 : EF := ⟨[0, 1, 2], [.tmp 6, .tmp 7], (.seq (.region 0 [.C 6 .aV,
 .C 7 .aV])
 (.seq (.region 0 [.o 20 (.ah jg) [.ki 1],
 .M 8 20])
 (.seq (.seq (.region 0 [.M 21 0,
 .o 22 .bI [21],
 .C 23 (.int .i64 0)])
 (.block 0 (.loop [0, 1, 2, 8, 21, 22, 23] [0, 1, 2, 8] Td)))
 (.seq (.region 0 [.o 39 (.ah jg) [.ki 0],
 .o 40 (.ah jg) [.ki 0],
 .o 41 (.ah jg) [.ki 1],
 .M 13 39,
 .M 14 40,
 .M 15 41])
 (.seq (.seq (.region 0 [.M 42 0,
 .o 43 .bI [42],
 .o 44 (.aj .sub) [43, .ki 1],
 .M 16 44])
 (.block 2 (.loop [0, 1, 2, 8, 13, 14, 15, 16] [13, 14] Tf)))
 (.seq (.region 0 [.M 81 13,
 .M 82 14,
 .M 6 81,
 .M 7 82])
 .ret))))))⟩
end Go.Ev.Code
end
