/- A part of the proof of priceFalls_card, riskSigns_card, yieldBack_card, yieldEdge_card, yieldFalls_card. -/
import Derived.Test.YtnokhmkkpcfilabGreatDoorCDef
set_option linter.unusedVariables false
section
namespace Go.Ev.Code
open Go.Ev
def iU : Nat := 3
def jr : Nat := 4
def jv : Nat := 5
def jw : Nat := 6
def iV : Nat := 7
def dO : Nat := 8
def iF : Nat := 9
def iQ : Nat := 10
def fV : Nat := 11
def iG : Nat := 12
def iM : Nat := 13
def pI : Nat := 14
def KQ : Nat := 15
def yH : Nat := 16
def iE : Nat := 17
def gZ : Nat := 18
def jQ : Nat := 19
def jq : Nat := 20
def iO : Nat := 21
def iR : Nat := 22
def yK : Nat := 23
def mG : Nat := 24
def nJ : Nat := 25
def sO : Nat := 26
def qA : Nat := 27
def zh : Nat := 28
def Dv : Nat := 29
def jo : Nat := 30
def uo : Nat := 31
def sW : Nat := 32
def lJ : Nat := 33
def gu : Nat := 34
def lF : Nat := 35
def lD : Nat := 36
def Bc : Nat := 37
def lg : Nat := 38
def dN : Nat := 40
def bZ : Nat := 41
def dw : Nat := 42
def nY : Nat := 43
def jH : Nat := 44
def iq : Nat := 45
def yI : Nat := 46
def wC : Nat := 47
def nI : Nat := 48
def gV : Nat := 49
def Bj : Nat := 50
def uS : Nat := 51
def lH : Nat := 52
def dI : Nat := 53
def cZ : Nat := 54
def wz : Nat := 55
def nZ : Nat := 56
def uX : Nat := 57
def lq : Nat := 58
def mJ : Nat := 59
def vY : Nat := 60
def slices_Reverse_int : Nat := 61
def gW : Nat := 62
def qX : Nat := 63
def rX : Nat := 64
def nU : Nat := 65
def uH : Nat := 66
def Cj : Nat := 67
def Du : Nat := 68
def rY : Nat := 69
def wo : Nat := 70
def xR : Nat := 71
def uJ : Nat := 72
def Df : Nat := 73
def kX : Nat := 74
def sZ : Nat := 75
def CB : Nat := 76
def CG : Nat := 77
def xA : Nat := 78
def jY : Nat := 79
def jG : Nat := 80
def rE : Nat := 81
def qI : Nat := 82
def gG : Nat := 83
def xP : Nat := 84
def iJ : Nat := 89
def bW : Nat := 90
def jm : Nat := 91
def qR : Nat := 92
def jc : Nat := 93
def ji : Nat := 94
def kC : Nat := 95
def mW : Nat := 96
def qQ : Nat := 97
def IW : Nat := 98
def nV : Nat := 99
def jl : Nat := 100
def xE : Nat := 101
def fK : Nat := 102
def strings_CutPrefix : Nat := 103
def strings_Cut : Nat := 104
def lC : Nat := 105
def mP : Nat := 106
def jy : Nat := 107
def IG : Nat := 108
def qU : Nat := 109
def vZ : Nat := 110
def yA : Nat := 111
def tY : Nat := 112
def oI : Nat := 113
def uV : Nat := 114
def gJ : Nat := 115
def nC : Nat := 116
def wX : Nat := 117
def Dz : Nat := 118
def Qu : Nat := 119
def qg : Nat := 120
def sU : Nat := 121
def CO : Nat := 122
def vC : Nat := 123
def fC : Nat := 124
def UO : Nat := 125
def um : Nat := 126
def Hz : Nat := 127
def jE : Nat := 128
def iI : Nat := 129
def dD : Nat := 132
def bits_Mul64 : Nat := 133
def bits_Add64 : Nat := 134
def gq : Nat := 135
def mX : Nat := 136
def bits_Sub64 : Nat := 137
def KI : Nat := 138
def xK : Nat := 139
def xO : Nat := 140
def Ib : Nat := 141
def iT : Nat := 151
def qM : Nat := 152
def vF : Nat := 153
def zJ : Nat := 154
def Af : Nat := 155
def jh : Nat := 156
def qJ : Nat := 157
def Iz : Nat := 158
def zA : Nat := 159
def iD : Nat := 160
def Iw : Nat := 161
def H7 : Nat := 162
def jS : Nat := 163
def Iy : Nat := 164
def CQ : Nat := 165
def uT : Nat := 166
def EX : Nat := 167
def sV : Nat := 168
def yt : Nat := 169
def dW : Nat := 170
def gI : Nat := 171
def strings_Repeat : Nat := 172
def slices_Reverse_string : Nat := 173
def strings_Join : Nat := 174
def zY : Nat := 175
def A_ : Nat := 176
def nat_bit : Nat := 177
def C9 : Nat := 178
def tV : Nat := 179
def bits_LeadingZeros64 : Nat := 180
def zX : Nat := 181
def CZ : Nat := 182
def C_ : Nat := 183
def CY : Nat := 184
def CJ : Nat := 193
def kR : Nat := 194
def lG : Nat := 195
def oU : Nat := 196
def P8 : Nat := 197
def CS : Nat := 198
def MK : Nat := 199
def ML : Nat := 200
def sQ : Nat := 201
def CX : Nat := 202
def strconv_Itoa : Nat := 203
def bits_TrailingZeros64 : Nat := 211
def KA : Nat := 226
def Jb : Nat := 227
def II : Nat := 228
def AL : Nat := 229
def sS : Nat := 230
def o9 : Nat := 231
def AB : Nat := 246
def Js : Nat := 247
def uI : Nat := 248
def IK : Nat := 249
def rW : Nat := 257
def IL : Nat := 258
def oW : Nat := 278
def y8 : Nat := 279
def iY : Nat := 280
def kH : Nat := 281
def eP : Nat := 288
def kK : Nat := 150
def jO : Nat := 69
def Ar : Nat := 187
def hndB : Nat := 16
end Go.Ev.Code
namespace Go.Ev
instance (n : Nat) : OfNat zy n := ⟨.t n⟩
abbrev zy.ki (n : Int) : zy := .k (.int .i64 n)
abbrev zy.kb (b : Bool) : zy := .k (.bool b)
end Go.Ev
end
section
namespace Go.Ev.Code
open Go.Ev
def nN : EF := ⟨[0, 1, 2, 3], [.tmp 8], (.seq (.region 1 [.o 4 (.box 0) [0],
 .C 8 (.bool false)])
 (.seq (.region 0 [.o 14 (.ah dO) [],
 .M 9 14])
 (.seq (.seq (.region 0 [.M 15 9,
 .o 16 .not [15]])
 (.cond (.t 16) (.seq (.region 0 [.C 8 (.bool false)])
 .ret)
 .skip))
 (.seq (.region 0 [.o 17 (.aW 9) [4],
 .o 18 (.ah iF) [17],
 ⟨.store 9, [4, 18], none, none⟩])
 (.seq (.region 0 [.M 19 2,
 .o 20 (.ah iQ) [19],
 .M 21 3,
 .o 22 (.ah iQ) [21],
 .M 2 20,
 .M 3 22])
 (.seq (.seq (.region 0 [.M 23 2,
 .M 24 3,
 .o 25 (.aj .gtr) [23, 24]])
 (.join [1, 2, 3, 4] (.cond (.t 25) (.region 0 [.M 26 3,
 .M 27 2,
 .M 2 26,
 .M 3 27])
 .skip)))
 (.seq (.region 0 [.o 29 (.aW 9) [4],
 .M 30 1,
 .M 31 2,
 .o 32 (.ah fV) [29, 30, 31],
 .M 28 32,
 .o 33 (.ext 0) [28],
 .o 34 (.ext 1) [28],
 .M 10 33,
 .M 11 34])
 (.seq (.region 0 [.o 36 (.aW 9) [4],
 .M 37 1,
 .M 38 3,
 .o 39 (.ah fV) [36, 37, 38],
 .M 35 39,
 .o 40 (.ext 0) [35],
 .o 41 (.ext 1) [35],
 .M 12 40,
 .M 13 41])
 (.seq (.seq (.region 0 [.M 42 11,
 .o 43 (.eqN true true) [42, .k .aF],
 .M 44 43,
 .g 44 false 45 .aX [13],
 .g 44 false 46 (.eqN true true) [45, .k .aF],
 .o 47 .pick [44, .kb true, 46]])
 (.cond (.t 47) (.seq (.region 0 [.M 48 11,
 .o 49 (.ah iG) [48],
 .M 50 13,
 .o 51 (.ah iG) [50],
 .o 52 (.aj .eql) [49, 51],
 .M 8 52])
 .ret)
 .skip))
 (.seq (.region 0 [.M 53 10,
 .M 54 12,
 .o 55 (.ah iM) [53, 54],
 .o 56 (.aj .geq) [55, .ki 0],
 .M 8 56])
 .ret))))))))))⟩
def oz : EF := ⟨[0, 1, 2], [.tmp 6], (.seq (.region 1 [.o 3 (.box 0) [0],
 .C 6 (.bool false)])
 (.seq (.region 0 [.o 14 (.ah dO) [],
 .M 7 14])
 (.seq (.seq (.region 0 [.M 15 7,
 .o 16 .not [15]])
 (.cond (.t 16) (.seq (.region 0 [.C 6 (.bool false)])
 .ret)
 .skip))
 (.seq (.region 0 [.o 17 (.aW 9) [3],
 .o 18 (.ah iF) [17],
 .M 19 2,
 .o 20 (.ah iQ) [19],
 ⟨.store 9, [3, 18], none, none⟩,
 .M 2 20])
 (.seq (.region 0 [.o 22 (.aW 9) [3],
 .M 23 1,
 .M 24 2,
 .o 25 (.ah pI) [22, 23, 24],
 .M 21 25,
 .o 26 (.ext 0) [21],
 .o 27 (.ext 1) [21],
 .M 8 26,
 .M 9 27])
 (.seq (.region 0 [.o 29 (.aW 9) [3],
 .M 30 1,
 .M 31 2,
 .o 32 (.ah KQ) [29, 30, 31],
 .M 28 32,
 .o 33 (.ext 0) [28],
 .o 34 (.ext 1) [28],
 .M 10 33,
 .M 11 34])
 (.seq (.region 0 [.o 36 (.aW 9) [3],
 .M 37 1,
 .M 38 2,
 .o 39 (.ah yH) [36, 37, 38],
 .M 35 39,
 .o 40 (.ext 0) [35],
 .o 41 (.ext 1) [35],
 .M 12 40,
 .M 13 41])
 (.seq (.seq (.region 0 [.M 42 9,
 .o 43 (.eqN true true) [42, .k .aF]])
 (.cond (.t 43) (.seq (.region 0 [.M 44 8,
 .o 45 (.vI false) [44, .k .aK],
 .M 6 45])
 .ret)
 .skip))
 (.seq (.seq (.region 0 [.M 46 8,
 .o 47 (.ah iE) [46],
 .o 48 (.aj .lss) [47, .ki 0]])
 (.cond (.t 48) (.seq (.region 0 [.C 6 (.bool false)])
 .ret)
 .skip))
 (.seq (.region 0 [.M 49 11,
 .o 50 (.eqN true true) [49, .k .aF],
 .M 51 50,
 .g 51 true 52 .aX [13],
 .g 51 true 53 (.eqN true true) [52, .k .aF],
 .o 54 .pick [51, 53, .kb false],
 .M 55 54,
 .g 55 false 56 .aX [11],
 .g 55 false 57 (.eqN false true) [56, .k .aF],
 .g 55 false 58 .aX [57],
 .g 58 true 59 .aX [13],
 .g 58 true 60 (.eqN false true) [59, .k .aF],
 .g 55 false 61 .pick [58, 60, .kb false],
 .g 55 false 62 .aX [61],
 .g 62 true 63 .aX [10],
 .g 62 true 64 (.ah iE) [63],
 .g 62 true 65 (.aj .geq) [64, .ki 0],
 .g 55 false 66 .pick [62, 65, .kb false],
 .g 55 false 67 .aX [66],
 .g 67 true 68 .aX [12],
 .g 67 true 69 (.ah iE) [68],
 .g 67 true 70 (.aj .geq) [69, .ki 0],
 .g 55 false 71 .pick [67, 70, .kb false],
 .o 72 .pick [55, .kb true, 71],
 .M 6 72])
 .ret))))))))))⟩
def oC : EF := ⟨[0, 1, 2], [.tmp 6], (.seq (.region 1 [.o 3 (.box 0) [0],
 .C 6 (.bool false)])
 (.seq (.region 0 [.o 14 (.ah dO) [],
 .M 7 14])
 (.seq (.seq (.region 0 [.M 15 7,
 .o 16 .not [15]])
 (.cond (.t 16) (.seq (.region 0 [.C 6 (.bool false)])
 .ret)
 .skip))
 (.seq (.region 0 [.o 17 (.aW 9) [3],
 .o 18 (.ah iF) [17],
 .M 19 2,
 .o 20 (.ah iQ) [19],
 ⟨.store 9, [3, 18], none, none⟩,
 .M 2 20])
 (.seq (.region 0 [.o 22 (.aW 9) [3],
 .M 23 1,
 .M 24 2,
 .o 25 (.ah fV) [22, 23, 24],
 .M 21 25,
 .o 26 (.ext 0) [21],
 .o 27 (.ext 1) [21],
 .M 8 26,
 .M 9 27])
 (.seq (.region 0 [.o 29 (.aW 9) [3],
 .M 30 1,
 .M 31 8,
 .o 32 (.ah gZ) [29, 30, 31],
 .M 28 32,
 .o 33 (.ext 0) [28],
 .o 34 (.ext 1) [28],
 .M 10 33,
 .M 11 34])
 (.seq (.seq (.region 0 [.M 35 9,
 .o 36 (.eqN true true) [35, .k .aF]])
 (.cond (.t 36) (.seq (.region 0 [.C 6 (.bool true)])
 .ret)
 .skip))
 (.seq (.region 0 [.o 38 (.aW 9) [3],
 .M 39 1,
 .M 40 10,
 .o 41 (.ah fV) [38, 39, 40],
 .M 37 41,
 .o 42 (.ext 0) [37],
 .o 43 (.ext 1) [37],
 .M 12 42,
 .M 13 43])
 (.seq (.region 0 [.M 44 11,
 .o 45 (.eqN false true) [44, .k .aF],
 .M 46 45,
 .g 46 true 47 .aX [10],
 .g 46 true 48 .aX [2],
 .g 46 true 49 (.aj .geq) [47, 48],
 .o 50 .pick [46, 49, .kb false],
 .M 51 50,
 .g 51 true 52 .aX [13],
 .g 51 true 53 (.eqN false true) [52, .k .aF],
 .o 54 .pick [51, 53, .kb false],
 .M 55 54,
 .g 55 true 56 .aX [12],
 .g 55 true 57 .aX [8],
 .g 55 true 58 (.ah iM) [56, 57],
 .g 55 true 59 (.aj .eql) [58, .ki 0],
 .o 60 .pick [55, 59, .kb false],
 .M 6 60])
 .ret)))))))))⟩
def oD : EF := ⟨[0, 1], [.tmp 4], (.seq (.region 1 [.o 2 (.box 0) [0],
 .C 4 (.bool false)])
 (.seq (.region 0 [.o 20 (.ah dO) [],
 .M 5 20])
 (.seq (.seq (.region 0 [.M 21 5,
 .o 22 .not [21]])
 (.cond (.t 22) (.seq (.region 0 [.C 4 (.bool false)])
 .ret)
 .skip))
 (.seq (.region 0 [.o 23 (.aW 9) [2],
 .o 24 (.ah iF) [23],
 ⟨.store 9, [2, 24], none, none⟩])
 (.seq (.region 0 [.o 26 (.aW 9) [2],
 .M 27 1,
 .o 28 (.ah fV) [26, 27, .ki (-2000000)],
 .M 25 28,
 .o 29 (.ext 0) [25],
 .o 30 (.ext 1) [25],
 .M 6 29,
 .M 7 30])
 (.seq (.region 0 [.o 32 (.aW 9) [2],
 .M 33 1,
 .o 34 (.ah fV) [32, 33, .ki 100000000],
 .M 31 34,
 .o 35 (.ext 0) [31],
 .o 36 (.ext 1) [31],
 .M 8 35,
 .M 9 36])
 (.seq (.seq (.region 0 [.M 37 7,
 .o 38 (.eqN true true) [37, .k .aF],
 .M 39 38,
 .g 39 false 40 .aX [9],
 .g 39 false 41 (.eqN true true) [40, .k .aF],
 .o 42 .pick [39, .kb true, 41]])
 (.cond (.t 42) (.seq (.region 0 [.M 43 7,
 .o 44 (.ah iG) [43],
 .M 45 9,
 .o 46 (.ah iG) [45],
 .o 47 (.aj .eql) [44, 46],
 .M 4 47])
 .ret)
 .skip))
 (.seq (.region 0 [.o 49 (.ah jQ) [.ki 1, .ki 1000000007],
 .M 48 49,
 .o 50 (.ext 0) [48],
 .o 51 (.ext 1) [48],
 .M 10 50,
 .M 11 51])
 (.seq (.region 0 [.o 53 (.aW 9) [2],
 .M 54 1,
 .M 55 6,
 .o 56 (.ah gZ) [53, 54, 55],
 .M 52 56,
 .o 57 (.ext 0) [52],
 .o 58 (.ext 1) [52],
 .M 12 57,
 .M 13 58])
 (.seq (.region 0 [.o 60 (.aW 9) [2],
 .M 61 1,
 .M 62 8,
 .o 63 (.ah gZ) [60, 61, 62],
 .M 59 63,
 .o 64 (.ext 0) [59],
 .o 65 (.ext 1) [59],
 .M 14 64,
 .M 15 65])
 (.seq (.drawn 0 [(0, .o 67 (.aW 9) [2]),
 (1, .M 68 1),
 (2, .M 69 6),
 (3, .M 70 10),
 (4, .o 71 (.ah jq) [69, 70]),
 (5, .o 72 (.ah gZ) [67, 68, 71]),
 (6, .M 66 72),
 (7, .o 73 (.ext 0) [66]),
 (8, .o 74 (.ext 1) [66]),
 (9, .M 16 73),
 (10, .M 17 74)])
 (.seq (.drawn 0 [(0, .o 76 (.aW 9) [2]),
 (1, .M 77 1),
 (2, .M 78 8),
 (3, .M 79 10),
 (4, .o 80 (.ah iO) [78, 79]),
 (5, .o 81 (.ah gZ) [76, 77, 80]),
 (6, .M 75 81),
 (7, .o 82 (.ext 0) [75]),
 (8, .o 83 (.ext 1) [75]),
 (9, .M 18 82),
 (10, .M 19 83)])
 (.seq (.region 0 [.M 84 13,
 .o 85 (.eqN false true) [84, .k .aF],
 .M 86 85,
 .g 86 true 87 .aX [12],
 .g 86 true 88 (.aj .geq) [87, .ki (-2000000)],
 .o 89 .pick [86, 88, .kb false],
 .M 90 89,
 .g 90 true 91 .aX [15],
 .g 90 true 92 (.eqN false true) [91, .k .aF],
 .o 93 .pick [90, 92, .kb false],
 .M 94 93,
 .g 94 true 95 .aX [14],
 .g 94 true 96 (.aj .eql) [95, .ki 100000000],
 .o 97 .pick [94, 96, .kb false],
 .M 98 97,
 .g 98 true 99 .aX [17],
 .g 98 true 100 (.ah iR) [99, .ki 7],
 .o 101 .pick [98, 100, .kb false],
 .M 102 101,
 .g 102 true 103 .aX [19],
 .g 102 true 104 (.ah iR) [103, .ki 7],
 .o 105 .pick [102, 104, .kb false],
 .M 4 105])
 .ret)))))))))))))⟩
def nO : EF := ⟨[0, 1, 2, 3], [.tmp 8], (.seq (.region 1 [.o 4 (.box 0) [0],
 .C 8 (.bool false)])
 (.seq (.region 0 [.o 14 (.ah dO) [],
 .M 9 14])
 (.seq (.seq (.region 0 [.M 15 9,
 .o 16 .not [15]])
 (.cond (.t 16) (.seq (.region 0 [.C 8 (.bool false)])
 .ret)
 .skip))
 (.seq (.region 0 [.o 17 (.aW 9) [4],
 .o 18 (.ah iF) [17],
 ⟨.store 9, [4, 18], none, none⟩])
 (.seq (.region 0 [.M 19 2,
 .o 20 (.aj .rem) [19, .ki 30000],
 .o 21 (.aj .add) [20, .ki 30000],
 .o 22 (.aj .rem) [21, .ki 30000],
 .o 23 (.aj .add) [.ki 1, 22],
 .M 24 3,
 .o 25 (.aj .rem) [24, .ki 30000],
 .o 26 (.aj .add) [25, .ki 30000],
 .o 27 (.aj .rem) [26, .ki 30000],
 .o 28 (.aj .add) [.ki 1, 27],
 .M 2 23,
 .M 3 28])
 (.seq (.seq (.region 0 [.M 29 2,
 .M 30 3,
 .o 31 (.aj .gtr) [29, 30]])
 (.join [1, 2, 3, 4] (.cond (.t 31) (.region 0 [.M 32 3,
 .M 33 2,
 .M 2 32,
 .M 3 33])
 .skip)))
 (.seq (.drawn 0 [(0, .o 35 (.aW 9) [4]),
 (1, .M 36 1),
 (2, .M 37 2),
 (3, .o 38 (.ah nJ) [37]),
 (4, .o 39 (.ah mG) [38, .ki 2]),
 (5, .o 40 (.ah yK) [35, 36, 39]),
 (6, .M 34 40),
 (7, .o 41 (.ext 0) [34]),
 (8, .o 42 (.ext 1) [34]),
 (9, .M 10 41),
 (10, .M 11 42)])
 (.seq (.drawn 0 [(0, .o 44 (.aW 9) [4]),
 (1, .M 45 1),
 (2, .M 46 3),
 (3, .o 47 (.ah nJ) [46]),
 (4, .o 48 (.ah mG) [47, .ki 2]),
 (5, .o 49 (.ah yK) [44, 45, 48]),
 (6, .M 43 49),
 (7, .o 50 (.ext 0) [43]),
 (8, .o 51 (.ext 1) [43]),
 (9, .M 12 50),
 (10, .M 13 51)])
 (.seq (.seq (.region 0 [.M 52 11,
 .o 53 (.eqN true true) [52, .k .aF],
 .M 54 53,
 .g 54 false 55 .aX [13],
 .g 54 false 56 (.eqN true true) [55, .k .aF],
 .o 57 .pick [54, .kb true, 56]])
 (.cond (.t 57) (.seq (.region 0 [.M 58 11,
 .o 59 (.ah iG) [58],
 .M 60 13,
 .o 61 (.ah iG) [60],
 .o 62 (.aj .eql) [59, 61],
 .M 63 62,
 .g 63 false 64 .aX [11],
 .g 63 false 65 (.ah iR) [64, .ki 7],
 .o 66 .pick [63, .kb true, 65],
 .M 67 66,
 .g 67 false 68 .aX [13],
 .g 67 false 69 (.ah iR) [68, .ki 7],
 .o 70 .pick [67, .kb true, 69],
 .M 8 70])
 .ret)
 .skip))
 (.seq (.region 0 [.M 71 10,
 .M 72 12,
 .o 73 (.aj .geq) [71, 72],
 .M 8 73])
 .ret))))))))))⟩
def VD : EF := ⟨[], [.tmp 0], (.seq (.region 0 [.C 0 (.bool false)])
 (.seq (.region 1 [.o 15 (.ah sO) [.k (.str [54]), .ki 1],
 .o 1 (.alloc 0 [.int .i64 0, .int .i64 0, .int .i64 0, .str [], .str [], .int .i64 0, .int .i64 0, .bool false, .int .i64 0]) [],
 ⟨.store 9, [1, 15], none, none⟩])
 (.seq (.region 0 [.o 17 (.aW 9) [1],
 .o 18 (.ah qA) [17],
 .M 16 18,
 .o 19 (.ext 0) [16],
 .o 20 (.ext 1) [16],
 .M 2 19,
 .M 3 20])
 (.seq (.region 0 [.o 22 (.aW 9) [1],
 .o 23 (.ah zh) [22],
 .M 21 23,
 .o 24 (.ext 0) [21],
 .o 25 (.ext 1) [21],
 .M 4 24,
 .M 5 25])
 (.seq (.region 0 [.o 27 (.aW 9) [1],
 .o 28 (.aU 0) [1],
 .o 29 .aC [28],
 .o 30 (.aj .add) [29, .ki 91],
 .o 31 (.ah Dv) [27, 30],
 .M 26 31,
 .o 32 (.ext 0) [26],
 .o 33 (.ext 1) [26],
 .M 6 32,
 .M 7 33])
 (.seq (.region 1 [.o 34 (.build [.int .i64 0, .int .i64 0, .int .i64 0, .str [], .str [], .int .i64 0, .int .i64 0, .bool false, .int .i64 0] [(0, 1), (1, 1), (2, 1), (3, 1), (4, 1), (5, 1)]) [.ki 36524, .ki 36890, .ki 1, .k (.str [54]), .k (.str [49, 48, 48]), .ki 1],
 .o 8 (.alloc 0 [.int .i64 0, .int .i64 0, .int .i64 0, .str [], .str [], .int .i64 0, .int .i64 0, .bool false, .int .i64 0]) [],
 ⟨.store 9, [8, 34], none, none⟩])
 (.seq (.region 0 [.o 36 (.aW 9) [8],
 .o 37 (.aU 0) [8],
 .o 38 .aC [37],
 .o 39 (.ah jo) [36, 38, .ki 6000000],
 .M 35 39,
 .o 40 (.ext 0) [35],
 .o 41 (.ext 1) [35],
 .M 9 40,
 .M 10 41])
 (.seq (.region 0 [.o 43 (.aW 9) [1],
 .o 44 (.aU 0) [1],
 .o 45 .aC [44],
 .o 46 (.ah uo) [43, 45],
 .M 42 46,
 .o 47 (.ext 0) [42],
 .o 48 (.ext 1) [42],
 .M 11 47,
 .M 12 48])
 (.seq (.region 0 [.o 50 (.aW 9) [8],
 .o 51 (.aU 0) [8],
 .o 52 .aC [51],
 .o 53 (.ah pI) [50, 52, .ki 6000000],
 .M 49 53,
 .o 54 (.ext 0) [49],
 .o 55 (.ext 1) [49],
 .M 13 54,
 .M 14 55])
 (.seq (.seq (.region 0 [.M 56 6,
 .o 57 (.vI false) [56, .k .aK],
 .M 58 57,
 .g 58 false 59 .aX [9],
 .g 58 false 60 (.vI false) [59, .k .aK],
 .o 61 .pick [58, .kb true, 60],
 .M 62 61,
 .g 62 false 63 .aX [11],
 .g 62 false 64 (.vI false) [63, .k .aK],
 .o 65 .pick [62, .kb true, 64],
 .M 66 65,
 .g 66 false 67 .aX [13],
 .g 66 false 68 (.vI false) [67, .k .aK],
 .o 69 .pick [66, .kb true, 68],
 .M 70 69,
 .g 70 false 71 .aX [2],
 .g 70 false 72 .dh [71],
 .g 70 false 73 (.aj .neq) [72, .ki 10],
 .o 74 .pick [70, .kb true, 73],
 .M 75 74,
 .g 75 false 76 .aX [4],
 .g 75 false 77 .dh [76],
 .g 75 false 78 (.aj .neq) [77, .ki 10],
 .o 79 .pick [75, .kb true, 78]])
 (.cond (.t 79) (.seq (.region 0 [.C 0 (.bool false)])
 .ret)
 .skip))
 (.seq (.drawn 0 [(0, .o 80 (.ah sW) []),
 (1, .M 81 80),
 (2, .g 81 true 82 (.aW 9) [1]),
 (3, .g 81 true 83 (.ah lJ) [82]),
 (4, .g 81 true 84 (.eqN false true) [83, .k .aF]),
 (5, .o 85 .pick [81, 84, .kb false]),
 (6, .M 86 85),
 (7, .g 86 true 87 .aX [3]),
 (8, .g 86 true 88 (.eqN false true) [87, .k .aF]),
 (9, .o 89 .pick [86, 88, .kb false]),
 (10, .M 90 89),
 (11, .g 90 true 91 .aX [2]),
 (12, .g 90 true 92 (.bM 2) [91, .ki 0]),
 (13, .g 90 true 93 (.aU 0) [92]),
 (14, .g 90 true 94 .aC [93]),
 (15, .g 90 true 95 (.aU 0) [1]),
 (16, .g 90 true 96 .aC [95]),
 (17, .g 90 true 97 (.aj .eql) [94, 96]),
 (18, .o 98 .pick [90, 97, .kb false]),
 (19, .M 99 98),
 (20, .g 99 true 100 .aX [2]),
 (21, .g 99 true 101 (.bM 2) [100, .ki 9]),
 (22, .g 99 true 102 (.aU 1) [101]),
 (23, .g 99 true 103 .aC [102]),
 (24, .g 99 true 104 (.aU 1) [1]),
 (25, .g 99 true 105 .aC [104]),
 (26, .g 99 true 106 (.aj .eql) [103, 105]),
 (27, .o 107 .pick [99, 106, .kb false]),
 (28, .M 108 107),
 (29, .g 108 true 109 .aX [5]),
 (30, .g 108 true 110 (.eqN false true) [109, .k .aF]),
 (31, .o 111 .pick [108, 110, .kb false]),
 (32, .M 112 111),
 (33, .g 112 true 113 .aX [4]),
 (34, .g 112 true 114 (.bM 2) [113, .ki 0]),
 (35, .g 112 true 115 (.aU 1) [114]),
 (36, .g 112 true 116 .aC [115]),
 (37, .g 112 true 117 (.fB .eql) [116, .k (.str [51])]),
 (38, .o 118 .pick [112, 117, .kb false]),
 (39, .M 119 118),
 (40, .g 119 true 120 .aX [4]),
 (41, .g 119 true 121 (.bM 2) [120, .ki 9]),
 (42, .g 119 true 122 (.aU 1) [121]),
 (43, .g 119 true 123 .aC [122]),
 (44, .g 119 true 124 (.fB .eql) [123, .k (.str [49, 48, 51])]),
 (45, .o 125 .pick [119, 124, .kb false]),
 (46, .M 126 125),
 (47, .g 126 true 127 .aX [7]),
 (48, .g 126 true 128 (.eqN false true) [127, .k .aF]),
 (49, .o 129 .pick [126, 128, .kb false]),
 (50, .M 130 129),
 (51, .g 130 true 131 .aX [6]),
 (52, .g 130 true 132 (.ah gu) [131]),
 (53, .g 130 true 133 (.fB .eql) [132, .k (.str [51, 47, 50])]),
 (54, .o 134 .pick [130, 133, .kb false]),
 (55, .M 135 134),
 (56, .g 135 true 136 .aX [10]),
 (57, .g 135 true 137 (.eqN false true) [136, .k .aF]),
 (58, .o 138 .pick [135, 137, .kb false]),
 (59, .M 139 138),
 (60, .g 139 true 140 .aX [9]),
 (61, .g 139 true 141 (.ah gu) [140]),
 (62, .g 139 true 142 (.fB .eql) [141, .k (.str [49, 48, 48])]),
 (63, .o 143 .pick [139, 142, .kb false]),
 (64, .M 144 143),
 (65, .g 144 true 145 .aX [12]),
 (66, .g 144 true 146 (.eqN false true) [145, .k .aF]),
 (67, .o 147 .pick [144, 146, .kb false]),
 (68, .M 148 147),
 (69, .g 148 true 149 .aX [11]),
 (70, .g 148 true 150 (.ah gu) [149]),
 (71, .g 148 true 151 (.fB .eql) [150, .k (.str [49])]),
 (72, .o 152 .pick [148, 151, .kb false]),
 (73, .M 153 152),
 (74, .g 153 true 154 .aX [14]),
 (75, .g 153 true 155 (.eqN false true) [154, .k .aF]),
 (76, .o 156 .pick [153, 155, .kb false]),
 (77, .M 157 156),
 (78, .g 157 true 158 .aX [13]),
 (79, .g 157 true 159 (.ah iE) [158]),
 (80, .g 157 true 160 (.aj .gtr) [159, .ki 0]),
 (81, .o 161 .pick [157, 160, .kb false]),
 (82, .M 162 161),
 (83, .g 162 true 163 (.aW 9) [1]),
 (84, .g 162 true 164 (.ah lF) [163]),
 (85, .g 162 true 165 (.aj .eql) [164, .ki 6]),
 (86, .o 166 .pick [162, 165, .kb false]),
 (87, .M 167 166),
 (88, .g 167 true 168 (.aW 9) [1]),
 (89, .g 167 true 169 (.ah lD) [168]),
 (90, .g 167 true 170 (.ah gu) [169]),
 (91, .g 167 true 171 (.fB .eql) [170, .k (.str [54])]),
 (92, .o 172 .pick [167, 171, .kb false]),
 (93, .M 173 172),
 (94, .g 173 true 174 .aX [2]),
 (95, .g 173 true 175 (.aU 0) [1]),
 (96, .g 173 true 176 .aC [175]),
 (97, .g 173 true 177 (.ah Bc) [174, 176]),
 (98, .g 173 true 178 (.aj .eql) [177, .ki 0]),
 (99, .o 179 .pick [173, 178, .kb false]),
 (100, .M 0 179)])
 .ret)))))))))))⟩
def xB : EF := ⟨[0], [.cell 2 true 9], (.seq (.region 2 [.o 1 (.box 0) [0],
 .o 2 (.alloc 1 [.int .i64 0, .int .i64 0, .int .i64 0, .str [], .str [], .int .i64 0, .int .i64 0, .bool false, .int .i64 0]) []])
 (.seq (.drawn 0 [(0, .o 3 (.aU 3) [1]),
 (1, .o 4 .aC [3]),
 (2, .o 5 (.ah lg) [4, .ki 30]),
 (3, .o 6 (.aU 4) [1]),
 (4, .o 7 .aC [6]),
 (5, .o 8 (.ah lg) [7, .ki 30]),
 (6, .o 9 (.aU 3) [1]),
 (7, ⟨.store 1, [9, 5], none, none⟩),
 (8, .o 10 (.aU 4) [1]),
 (9, ⟨.store 1, [10, 8], none, none⟩)])
 (.seq (.region 0 [.o 11 (.aW 9) [1],
 ⟨.store 9, [2, 11], none, none⟩])
 .ret)))⟩
def wK : EF := ⟨[0], [.tmp 2], (.seq (.region 0 [.C 2 (.int .i64 0)])
 (.seq (.region 0 [.C 3 (.int .i64 102000001)])
 (.seq (.region 0 [.M 4 0,
 .M 5 3,
 .o 6 (.aj .rem) [4, 5],
 .M 7 3,
 .o 8 (.aj .add) [6, 7],
 .M 9 3,
 .o 10 (.aj .rem) [8, 9],
 .o 11 (.aj .add) [.ki (-2000000), 10],
 .M 2 11])
 .ret)))⟩
def GR : EF := ⟨[0, 1, 2], [.tmp 6, .tmp 7], (.seq (.region 1 [.o 3 (.box 0) [0],
 .C 6 .aK,
 .C 7 .aF])
 (.seq (.region 0 [.o 12 (.aW 9) [3],
 .M 13 1,
 .M 14 2,
 .o 15 (.ah jo) [12, 13, 14],
 .M 11 15,
 .o 16 (.ext 0) [11],
 .o 17 (.ext 1) [11],
 .M 8 16,
 .M 9 17])
 (.seq (.seq (.region 0 [.M 18 9,
 .o 19 (.eqN true true) [18, .k .aF]])
 (.cond (.t 19) (.seq (.region 0 [.M 20 9,
 .C 6 .aK,
 .M 7 20])
 .ret)
 .skip))
 (.seq (.region 0 [.o 22 (.aW 9) [3],
 .M 23 1,
 .o 24 (.ah Dv) [22, 23],
 .M 21 24,
 .o 25 (.ext 0) [21],
 .o 26 (.ext 1) [21],
 .M 10 25,
 .M 9 26])
 (.seq (.seq (.region 0 [.M 27 9,
 .o 28 (.eqN true true) [27, .k .aF]])
 (.cond (.t 28) (.seq (.region 0 [.M 29 9,
 .C 6 .aK,
 .M 7 29])
 .ret)
 .skip))
 (.seq (.region 0 [.M 30 8,
 .M 31 10,
 .o 32 (.ah iO) [30, 31],
 .M 6 32,
 .C 7 .aF])
 .ret))))))⟩
def GX : EF := ⟨[0, 1], [.tmp 4], (.seq (.region 0 [.C 4 (.int .i64 0)])
 (.seq (.region 0 [.M 5 0,
 .o 6 (.ah dN) [5],
 .M 7 1,
 .o 8 (.ah dw) [7],
 .o 9 (.ah bZ) [6, 8],
 .M 10 1,
 .o 11 (.ah dN) [10],
 .M 12 0,
 .o 13 (.ah dw) [12],
 .o 14 (.ah bZ) [11, 13],
 .o 15 (.ah nY) [9, 14],
 .M 4 15])
 .ret))⟩
def BP : EF := ⟨[0, 1, 2], [.tmp 6, .tmp 7], (.seq (.region 1 [.o 3 (.box 0) [0],
 .C 6 .aK,
 .C 7 .aF])
 (.seq (.seq (.region 0 [.o 18 (.aW 9) [3],
 .M 19 1,
 .M 20 2,
 .o 21 (.ah jo) [18, 19, 20],
 .M 17 21,
 .o 22 (.ext 0) [17],
 .o 23 (.ext 1) [17],
 .M 8 22,
 .M 9 23])
 (.seq (.region 0 [.M 24 9,
 .o 25 (.eqN true true) [24, .k .aF]])
 (.cond (.t 25) (.seq (.region 0 [.M 26 9,
 .C 6 .aK,
 .M 7 26])
 .ret)
 .skip)))
 (.seq (.region 0 [.o 28 (.aW 9) [3],
 .M 29 1,
 .o 30 (.ah uo) [28, 29],
 .M 27 30,
 .o 31 (.ext 0) [27],
 .o 32 (.ext 1) [27],
 .M 10 31,
 .M 11 32])
 (.seq (.seq (.region 0 [.M 33 11,
 .o 34 (.eqN true true) [33, .k .aF]])
 (.cond (.t 34) (.seq (.region 0 [.M 35 11,
 .C 6 .aK,
 .M 7 35])
 .ret)
 .skip))
 (.seq (.drawn 0 [(0, .o 36 (.ah jH) [.ki 100000000]),
 (1, .o 37 (.aU 2) [3]),
 (2, .o 38 .aC [37]),
 (3, .o 39 (.ah jH) [38]),
 (4, .o 40 (.ah bZ) [36, 39]),
 (5, .M 12 40)])
 (.seq (.region 0 [.M 41 12,
 .M 42 2,
 .o 43 (.ah jH) [42],
 .o 44 (.ah iq) [41, 43],
 .M 13 44])
 (.seq (.region 0 [.o 46 (.aW 9) [3],
 .M 47 1,
 .o 48 (.ah wC) [46, 47],
 .M 49 13,
 .M 50 12,
 .o 51 (.ah yI) [48, 49, 50],
 .M 45 51,
 .o 52 (.ext 0) [45],
 .o 53 (.ext 1) [45],
 .M 14 52,
 .M 15 53])
 (.seq (.region 0 [.M 55 14,
 .M 56 15,
 .o 57 (.ah nI) [55, 56],
 .M 54 57,
 .o 58 (.ext 0) [54],
 .o 59 (.ext 1) [54],
 .M 16 58,
 .M 11 59])
 (.seq (.seq (.region 0 [.M 60 11,
 .o 61 (.eqN true true) [60, .k .aF]])
 (.cond (.t 61) (.seq (.region 0 [.M 62 11,
 .C 6 .aK,
 .M 7 62])
 .ret)
 .skip))
 (.seq (.drawn 0 [(0, .M 63 16),
 (1, .M 64 10),
 (2, .o 65 (.ah jq) [63, 64]),
 (3, .o 66 (.aU 2) [3]),
 (4, .o 67 .aC [66]),
 (5, .o 68 (.ah Bj) [.ki 1, 67]),
 (6, .o 69 (.ah gV) [65, 68]),
 (7, .M 6 69),
 (8, .C 7 .aF)])
 .ret))))))))))⟩
def SE : EF := ⟨[0, 1, 2], [.tmp 6, .tmp 7], (.seq (.region 1 [.o 3 (.box 0) [0],
 .C 6 .aK,
 .C 7 .aF])
 (.seq (.region 1 [.o 11 (.aW 9) [3],
 .M 12 1,
 .M 13 2,
 .o 14 (.ah uS) [11, 12, 13],
 .M 10 14,
 .o 15 (.ext 0) [10],
 .o 16 (.ext 1) [10],
 .o 8 (.alloc 0 [.aK, .aK, .aK]) [],
 ⟨.store 3, [8, 15], none, none⟩,
 .M 9 16])
 (.seq (.seq (.region 0 [.M 17 9,
 .o 18 (.eqN true true) [17, .k .aF]])
 (.cond (.t 18) (.seq (.region 0 [.M 19 9,
 .C 6 .aK,
 .M 7 19])
 .ret)
 .skip))
 (.seq (.region 0 [.o 20 (.D_ 1 3) [8, .ki 0],
 .o 21 .aC [20],
 .o 22 (.D_ 1 3) [8, .ki 2],
 .o 23 .aC [22],
 .o 24 (.ah iO) [21, 23],
 .o 25 (.ah Bj) [.ki 1, .ki 2],
 .o 26 (.ah gV) [24, 25],
 .M 6 26,
 .C 7 .aF])
 .ret))))⟩
def G8 : EF := ⟨[0, 1, 2], [.tmp 6, .tmp 7], (.seq (.region 1 [.o 3 (.box 0) [0],
 .C 6 .aK,
 .C 7 .aF])
 (.seq (.region 1 [.o 12 (.aW 9) [3],
 .M 13 1,
 .M 14 2,
 .o 15 (.ah uS) [12, 13, 14],
 .M 11 15,
 .o 16 (.ext 0) [11],
 .o 17 (.ext 1) [11],
 .o 8 (.alloc 0 [.aK, .aK, .aK]) [],
 ⟨.store 3, [8, 16], none, none⟩,
 .M 9 17])
 (.seq (.seq (.region 0 [.M 18 9,
 .o 19 (.eqN true true) [18, .k .aF]])
 (.cond (.t 19) (.seq (.region 0 [.M 20 9,
 .C 6 .aK,
 .M 7 20])
 .ret)
 .skip))
 (.seq (.drawn 0 [(0, .o 22 (.D_ 1 3) [8, .ki 0]),
 (1, .o 23 .aC [22]),
 (2, .o 24 (.D_ 1 3) [8, .ki 2]),
 (3, .o 25 .aC [24]),
 (4, .o 26 (.ah jq) [23, 25]),
 (5, .o 27 (.D_ 1 3) [8, .ki 1]),
 (6, .o 28 .aC [27]),
 (7, .o 29 (.ah Bj) [.ki 2, .ki 1]),
 (8, .o 30 (.ah gV) [28, 29]),
 (9, .o 31 (.ah iO) [26, 30]),
 (10, .o 32 (.D_ 1 3) [8, .ki 1]),
 (11, .o 33 .aC [32]),
 (12, .o 34 (.ah lH) [31, 33]),
 (13, .M 21 34),
 (14, .o 35 (.ext 0) [21]),
 (15, .o 36 (.ext 1) [21]),
 (16, .M 10 35),
 (17, .M 9 36)])
 (.seq (.seq (.region 0 [.M 37 9,
 .o 38 (.eqN true true) [37, .k .aF]])
 (.cond (.t 38) (.seq (.region 0 [.M 39 9,
 .C 6 .aK,
 .M 7 39])
 .ret)
 .skip))
 (.seq (.region 0 [.M 40 10,
 .o 41 (.ah Bj) [.ki 100000000, .ki 1],
 .o 42 (.ah gV) [40, 41],
 .M 6 42,
 .C 7 .aF])
 .ret))))))⟩
def DZ : EF := ⟨[0], [.tmp 2], (.seq (.region 0 [.C 2 (.int .i64 0)])
 (.seq (.region 0 [.M 3 0,
 .o 4 (.ah dN) [3],
 .o 5 (.ah dI) [4],
 .M 2 5])
 .ret))⟩
def sH : EC := (.seq (.seq (.region 0 [.M 54 8,
 .o 55 (.aj .add) [54, .ki 1],
 .M 56 9,
 .o 57 (.aj .lss) [55, 56]])
 (.cond (.t 57) .skip
 (.exit 1)))
 (.join [1, 2, 3, 6, 7, 8, 9] (.block 2 (.seq (.region 0 [.M 58 8,
 .M 59 9,
 .M 60 8,
 .o 61 (.aj .sub) [59, 60],
 .o 62 (.aj .quo) [61, .ki 2],
 .o 63 (.aj .add) [58, 62],
 .M 14 63])
 (.seq (.region 0 [.o 65 (.aW 9) [3],
 .M 66 1,
 .M 67 14,
 .o 68 (.ah fV) [65, 66, 67],
 .M 64 68,
 .o 69 (.ext 0) [64],
 .o 70 (.ext 1) [64],
 .M 15 69,
 .M 16 70])
 (.seq (.seq (.region 0 [.M 71 16,
 .o 72 (.eqN true true) [71, .k .aF]])
 (.cond (.t 72) (.seq (.region 0 [.M 73 16,
 .C 6 (.int .i64 0),
 .M 7 73])
 .ret)
 .skip))
 (.seq (.region 0 [.M 74 15,
 .M 75 2,
 .o 76 (.ah iM) [74, 75],
 .o 77 (.aj .geq) [76, .ki 0]])
 (.join [1, 2, 3, 8, 9] (.cond (.t 77) (.region 0 [.M 78 14,
 .M 8 78])
 (.region 0 [.M 79 14,
 .M 9 79]))))))))))
def Jr : EF := ⟨[0, 1, 2], [.tmp 6, .tmp 7], (.seq (.region 1 [.o 3 (.box 0) [0],
 .C 6 (.int .i64 0),
 .C 7 .aF])
 (.seq (.region 0 [.C 8 (.int .i64 (-2000000)),
 .C 9 (.int .i64 100000000)])
 (.seq (.region 0 [.o 18 (.aW 9) [3],
 .M 19 1,
 .M 20 8,
 .o 21 (.ah fV) [18, 19, 20],
 .M 17 21,
 .o 22 (.ext 0) [17],
 .o 23 (.ext 1) [17],
 .M 10 22,
 .M 11 23])
 (.seq (.seq (.region 0 [.M 24 11,
 .o 25 (.eqN true true) [24, .k .aF]])
 (.cond (.t 25) (.seq (.region 0 [.M 26 11,
 .C 6 (.int .i64 0),
 .M 7 26])
 .ret)
 .skip))
 (.seq (.region 0 [.o 28 (.aW 9) [3],
 .M 29 1,
 .M 30 9,
 .o 31 (.ah fV) [28, 29, 30],
 .M 27 31,
 .o 32 (.ext 0) [27],
 .o 33 (.ext 1) [27],
 .M 12 32,
 .M 11 33])
 (.seq (.seq (.region 0 [.M 34 11,
 .o 35 (.eqN true true) [34, .k .aF]])
 (.cond (.t 35) (.seq (.region 0 [.M 36 11,
 .C 6 (.int .i64 0),
 .M 7 36])
 .ret)
 .skip))
 (.seq (.seq (.region 0 [.M 37 12,
 .M 38 2,
 .o 39 (.ah iM) [37, 38],
 .M 13 39])
 (.block 0 (.seq (.region 0 [.M 41 10,
 .M 42 2,
 .o 43 (.ah iM) [41, 42],
 .o 44 (.aj .lss) [43, .ki 0],
 .M 45 44,
 .g 45 false 46 .aX [13],
 .g 45 false 47 (.aj .gtr) [46, .ki 0],
 .o 48 .pick [45, .kb true, 47],
 .M 40 48])
 (.cond (.t 40) (.seq (.region 0 [.o 49 (.ah cZ) [.ki 7],
 .C 6 (.int .i64 0),
 .M 7 49])
 .ret)
 (.seq (.region 0 [.M 51 13,
 .o 52 (.aj .eql) [51, .ki 0],
 .M 50 52])
 (.cond (.t 50) (.seq (.region 0 [.M 53 9,
 .M 6 53,
 .C 7 .aF])
 .ret)
 .skip))))))
 (.seq (.block 1 (.loop [1, 2, 3, 8, 9] [6, 7, 8] sH))
 (.seq (.region 0 [.M 80 8,
 .M 6 80,
 .C 7 .aF])
 .ret)))))))))⟩
def VB : EF := ⟨[0, 1], [.tmp 4, .tmp 5], (.seq (.region 0 [.C 4 .aK,
 .C 5 .aF])
 (.seq (.region 0 [.M 6 0,
 .o 7 (.ah jH) [6],
 .M 8 1,
 .o 9 (.ah jH) [8],
 .o 10 (.ah nI) [7, 9],
 .o 11 (.ext 0) [10],
 .o 12 (.ext 1) [10],
 .M 4 11,
 .M 5 12])
 .ret))⟩
def GV : EF := ⟨[0, 1], [.tmp 4], (.seq (.region 0 [.C 4 .aK])
 (.seq (.seq (.region 0 [.M 5 0,
 .o 6 (.ah dw) [5],
 .M 7 1,
 .o 8 (.ah dw) [7],
 .o 9 (.ah nY) [6, 8],
 .o 10 (.aj .eql) [9, .ki 0]])
 (.cond (.t 10) (.seq (.region 0 [.M 11 0,
 .o 12 (.ah dN) [11],
 .M 13 1,
 .o 14 (.ah dN) [13],
 .o 15 (.ah iq) [12, 14],
 .M 16 0,
 .o 17 (.ah dw) [16],
 .o 18 (.ah wz) [15, 17],
 .M 4 18])
 .ret)
 .skip))
 (.seq (.region 0 [.M 19 0,
 .o 20 (.ah dN) [19],
 .M 21 1,
 .o 22 (.ah dw) [21],
 .o 23 (.ah bZ) [20, 22],
 .M 24 1,
 .o 25 (.ah dN) [24],
 .M 26 0,
 .o 27 (.ah dw) [26],
 .o 28 (.ah bZ) [25, 27],
 .o 29 (.ah iq) [23, 28],
 .M 30 0,
 .o 31 (.ah dw) [30],
 .M 32 1,
 .o 33 (.ah dw) [32],
 .o 34 (.ah bZ) [31, 33],
 .o 35 (.ah wz) [29, 34],
 .M 4 35])
 .ret)))⟩
def G7 : EF := ⟨[0, 1], [.tmp 4], (.seq (.region 0 [.C 4 .aK])
 (.seq (.region 1 [.M 5 0,
 .M 6 1,
 .o 7 (.ah dN) [6],
 .o 8 (.ah nZ) [7],
 .M 9 1,
 .o 10 (.ah dw) [9],
 .o 11 (.build [.aK, .aK] [(0, 1), (1, 1)]) [8, 10],
 .o 12 (.box 0) [11],
 .o 13 (.wI jq) [5, 12],
 .M 4 13])
 .ret))⟩
def wL : EF := ⟨[0, 1], [.tmp 4], (.seq (.region 0 [.C 4 (.bool false)])
 (.seq (.region 0 [.M 5 0,
 .o 6 (.ah iG) [5],
 .M 7 1,
 .o 8 (.aj .eql) [6, 7],
 .M 4 8])
 .ret))⟩
def Ou : EF := ⟨[0, 1, 2], [.tmp 6, .tmp 7], (.seq (.region 1 [.o 3 (.box 0) [0],
 .C 6 (.int .i64 0),
 .C 7 .aF])
 (.seq (.region 0 [.M 12 2,
 .o 13 (.ah uX) [12],
 .M 11 13,
 .o 14 (.ext 0) [11],
 .o 15 (.ext 1) [11],
 .o 16 (.ext 2) [11],
 .M 8 14,
 .M 9 15,
 .M 10 16])
 (.seq (.seq (.region 0 [.M 17 10,
 .o 18 (.eqN true true) [17, .k .aF]])
 (.cond (.t 18) (.seq (.region 0 [.M 19 10,
 .C 6 (.int .i64 0),
 .M 7 19])
 .ret)
 .skip))
 (.seq (.region 0 [.o 20 (.aW 9) [3],
 .M 21 1,
 .M 22 8,
 .o 23 (.ah gZ) [20, 21, 22],
 .o 24 (.ext 0) [23],
 .o 25 (.ext 1) [23],
 .M 6 24,
 .M 7 25])
 .ret))))⟩
def iy : EC := (.seq (.seq (.region 0 [.M 9 5,
 .o 10 .uj [9],
 .M 11 1,
 .o 12 (.aj .leq) [10, 11]])
 (.cond (.t 12) .skip
 (.exit 0)))
 (.block 1 (.region 0 [.M 13 5,
 .o 14 (.fB .add) [.k (.str [48]), 13],
 .M 5 14])))
def yN : EF := ⟨[0, 1], [.tmp 4], (.seq (.region 1 [.o 2 (.box 0) [0],
 .C 4 (.str [])])
 (.seq (.region 0 [.o 6 (.aU 1) [2],
 .o 7 .aC [6],
 .o 8 (.ah lq) [7],
 .M 5 8])
 (.seq (.block 0 (.loop [1, 2, 5] [1, 2, 5] iy))
 (.seq (.seq (.region 0 [.M 15 1,
 .o 16 (.aj .gtr) [15, .ki 0]])
 (.join [2, 5] (.cond (.t 16) (.drawn 0 [(0, .M 17 5),
 (1, .M 18 5),
 (2, .o 19 .uj [18]),
 (3, .M 20 1),
 (4, .o 21 (.aj .sub) [19, 20]),
 (5, .o 22 (.TD false true) [17, 21]),
 (6, .o 23 (.fB .add) [22, .k (.str [46])]),
 (7, .M 24 5),
 (8, .M 25 5),
 (9, .o 26 .uj [25]),
 (10, .M 27 1),
 (11, .o 28 (.aj .sub) [26, 27]),
 (12, .o 29 (.TD true false) [24, 28]),
 (13, .o 30 (.fB .add) [23, 29]),
 (14, .M 5 30)])
 .skip)))
 (.seq (.seq (.region 0 [.o 31 (.aU 0) [2],
 .o 32 .aC [31]])
 (.cond (.t 32) (.seq (.region 0 [.M 33 5,
 .o 34 (.fB .add) [.k (.str [45]), 33],
 .M 4 34])
 .ret)
 .skip))
 (.seq (.region 0 [.M 35 5,
 .M 4 35])
 .ret))))))⟩
def zN : EF := ⟨[0], [.cell 2 true 2], (.seq (.region 1 [.o 2 (.alloc 0 [.bool false, .sl 0 []]) []])
 (.seq (.seq (.region 0 [.M 3 0,
 .o 4 (.aj .lss) [3, .ki 0]])
 (.cond (.t 4) (.seq (.region 0 [.M 5 0,
 .o 6 (.aj .add) [5, .ki 1],
 .o 7 .neg [6],
 .o 8 (.conv .u64) [7],
 .o 9 (.aj .add) [8, .k (.int .u64 1)],
 .o 10 (.ah mJ) [9],
 .o 11 (.build [.bool false, .sl 0 []] [(0, 1), (1, 1)]) [.kb true, 10],
 ⟨.store 2, [2, 11], none, none⟩])
 .ret)
 .skip))
 (.seq (.region 0 [.M 12 0,
 .o 13 (.conv .u64) [12],
 .o 14 (.ah mJ) [13],
 .o 15 (.build [.bool false, .sl 0 []] [(0, 1), (1, 1)]) [.kb false, 14],
 ⟨.store 2, [2, 15], none, none⟩])
 .ret)))⟩
def Xk : EF := ⟨[0, 1], [.cell 4 true 9], (.seq (.region 1 [.o 4 (.alloc 0 [.int .i64 0, .int .i64 0, .int .i64 0, .str [], .str [], .int .i64 0, .int .i64 0, .bool false, .int .i64 0]) []])
 (.seq (.region 0 [.M 5 0,
 .M 6 1,
 .o 7 (.build [.int .i64 0, .int .i64 0, .int .i64 0, .str [], .str [], .int .i64 0, .int .i64 0, .bool false, .int .i64 0] [(0, 1), (1, 1), (2, 1), (3, 1), (4, 1), (5, 1), (6, 1)]) [.ki 36524, .ki 38351, .ki 2, 5, .k (.str [49, 48, 48]), 6, .ki 0],
 ⟨.store 9, [4, 7], none, none⟩])
 .ret))⟩
def xQ : EC := (.seq (.region 0 [.o 30 (.aj .lss) [29, 28]])
 (.seq (.cond (.t 30) .skip
 (.exit 0))
 (.seq (.block 1 (.seq (.region 0 [.o 31 (.bM 1) [27, 29],
 .o 32 .aC [31],
 .M 11 32])
 (.seq (.region 1 [.M 33 8,
 .M 34 9,
 .M 35 11,
 .o 36 (.build [.int .i64 0, .int .i64 0] [(0, 1), (1, 1)]) [34, 35],
 .o 37 (.Iu 2 1 [.int .i64 0, .int .i64 0] [(0, 2)]) [36],
 .o 38 (.app 0 2) [33, 37],
 .M 8 38])
 (.region 0 [.M 39 11,
 .M 9 39]))))
 (.region 0 [.o 40 (.aj .add) [29, .ki 1],
 .M 29 40]))))
def SA : EF := ⟨[0], [.tmp 2, .tmp 3], (.seq (.region 1 [.o 1 (.box 0) [0],
 .C 2 .dA,
 .C 3 .aF])
 (.seq (.seq (.region 0 [.o 12 (.aW 9) [1],
 .o 13 (.ah lJ) [12],
 .M 4 13])
 (.seq (.region 0 [.M 14 4,
 .o 15 (.eqN true true) [14, .k .aF]])
 (.cond (.t 15) (.seq (.region 0 [.M 16 4,
 .C 2 .dA,
 .M 3 16])
 .ret)
 .skip)))
 (.seq (.region 0 [.o 18 (.aW 9) [1],
 .o 19 (.bH vY) [18],
 .M 17 19,
 .o 20 (.ext 0) [17],
 .o 21 (.ext 1) [17],
 .o 22 (.ext 2) [17],
 .M 5 20,
 .M 6 21,
 .M 7 22])
 (.seq (.region 0 [.M 23 5,
 .o 24 (.bH slices_Reverse_int) [23]])
 (.seq (.region 0 [.C 8 .dA])
 (.seq (.region 0 [.o 25 (.aU 0) [1],
 .o 26 .aC [25],
 .M 9 26])
 (.seq (.seq (.region 0 [.M 27 5,
 .o 28 .dh [27],
 .C 29 (.int .i64 0)])
 (.block 0 (.loop [1, 6, 7, 8, 9, 27, 28, 29] [1, 6, 7, 8] xQ)))
 (.seq (.seq (.region 0 [.M 41 7,
 .M 42 41,
 .g 42 true 43 .aX [6],
 .g 42 true 44 (.aU 0) [1],
 .g 42 true 45 .aC [44],
 .g 42 true 46 (.aj .eql) [43, 45],
 .o 47 .pick [42, 46, .kb false]])
 (.cond (.t 47) (.seq (.region 0 [.M 48 8,
 .M 2 48,
 .C 3 .aF])
 .ret)
 .skip))
 (.seq (.join [2, 3, 8] (.block 2 (.seq (.region 0 [.o 50 (.aU 6) [1],
 .o 51 .aC [50],
 .o 52 (.aj .eql) [51, .ki 0],
 .M 49 52])
 (.join [2, 3, 8] (.cond (.t 49) (.seq (.region 0 [.o 53 (.ah gW) [.ki 5, .k (.str [115, 116, 117, 98])],
 .C 2 .dA,
 .M 3 53])
 .ret)
 (.seq (.region 0 [.o 55 (.aU 6) [1],
 .o 56 .aC [55],
 .o 57 (.aj .eql) [56, .ki 2],
 .M 58 57,
 .g 58 true 59 .aX [8],
 .g 58 true 60 .dh [59],
 .g 58 true 61 (.aj .gtr) [60, .ki 1],
 .o 62 .pick [58, 61, .kb false],
 .M 54 62])
 (.join [8] (.cond (.t 54) (.seq (.region 0 [.M 63 8,
 .o 64 (.aU 0) [1],
 .o 65 .aC [64],
 .o 66 (.bM 2) [63, .ki 1],
 .o 67 (.aU 0) [66],
 ⟨.store 1, [67, 65], none, none⟩])
 (.region 0 [.M 68 8,
 .o 69 (.QI 2 true false) [68, .ki 1],
 .M 8 69]))
 .skip))))))))
 (.seq (.region 0 [.M 70 8,
 .M 2 70,
 .C 3 .aF])
 .ret))))))))))⟩
def oG : EC := (.seq (.region 0 [.o 24 (.aj .lss) [23, 22]])
 (.seq (.cond (.t 24) .skip
 (.exit 0))
 (.seq (.join [1, 2, 3, 4, 6, 7, 21, 22, 23] (.block 1 (.seq (.region 1 [.M 25 23,
 .o 26 (.bM 2) [21, 23],
 .o 27 (.aW 2) [26],
 .o 9 (.alloc 0 [.int .i64 0, .int .i64 0]) [],
 .M 8 25,
 ⟨.store 2, [9, 27], none, none⟩])
 (.seq (.region 0 [.M 28 6,
 .M 10 28])
 (.seq (.seq (.region 0 [.M 29 8,
 .o 30 (.aj .eql) [29, .ki 0]])
 (.join [1, 2, 3, 4, 6, 7, 8, 9, 10, 21, 22, 23] (.cond (.t 30) (.seq (.region 0 [.o 32 (.aW 9) [1],
 .o 33 (.aW 2) [9],
 .o 34 (.ah rX) [32, 33],
 .M 31 34,
 .o 35 (.ext 0) [31],
 .o 36 (.ext 1) [31],
 .M 10 35,
 .M 5 36])
 (.seq (.region 0 [.M 37 5,
 .o 38 (.eqN true true) [37, .k .aF]])
 (.cond (.t 38) (.seq (.region 0 [.M 39 5,
 .C 2 .dA,
 .M 3 39])
 .ret)
 .skip)))
 .skip)))
 (.seq (.seq (.region 0 [.M 40 8,
 .M 41 4,
 .o 42 .dh [41],
 .o 43 (.aj .sub) [42, .ki 1],
 .o 44 (.aj .eql) [40, 43]])
 (.join [1, 4, 6, 7, 9, 10, 21, 22, 23] (.cond (.t 44) (.region 0 [.M 45 10,
 .o 46 (.aW 9) [1],
 .o 47 (.ah nU) [46],
 .o 48 (.ah jq) [45, 47],
 .M 10 48])
 .skip)))
 (.drawn 1 [(0, .M 49 7),
 (1, .o 50 (.aU 1) [9]),
 (2, .o 51 .aC [50]),
 (3, .M 52 10),
 (4, .o 53 (.ah gu) [52]),
 (5, .o 54 (.build [.int .i64 0, .str []] [(0, 1), (1, 1)]) [51, 53]),
 (6, .o 55 (.Iu 2 1 [.int .i64 0, .str []] [(0, 2)]) [54]),
 (7, .o 56 (.app 0 2) [49, 55]),
 (8, .M 7 56)])))))))
 (.region 0 [.o 57 (.aj .add) [23, .ki 1],
 .M 23 57]))))
def Si : EF := ⟨[0], [.tmp 2, .tmp 3], (.seq (.region 1 [.o 1 (.box 0) [0],
 .C 2 .dA,
 .C 3 .aF])
 (.seq (.region 0 [.o 12 (.aW 9) [1],
 .o 13 (.ah qA) [12],
 .M 11 13,
 .o 14 (.ext 0) [11],
 .o 15 (.ext 1) [11],
 .M 4 14,
 .M 5 15])
 (.seq (.seq (.region 0 [.M 16 5,
 .o 17 (.eqN true true) [16, .k .aF]])
 (.cond (.t 17) (.seq (.region 0 [.M 18 5,
 .C 2 .dA,
 .M 3 18])
 .ret)
 .skip))
 (.seq (.region 0 [.o 19 (.aW 9) [1],
 .o 20 (.ah qX) [19],
 .M 6 20])
 (.seq (.region 0 [.C 7 .dA])
 (.seq (.seq (.region 0 [.M 21 4,
 .o 22 .dh [21],
 .C 23 (.int .i64 0)])
 (.block 0 (.loop [1, 4, 6, 7, 21, 22, 23] [2, 3, 7] oG)))
 (.seq (.region 0 [.M 58 7,
 .M 2 58,
 .C 3 .aF])
 .ret)))))))⟩
def RQ : EF := ⟨[0, 1], [.tmp 4, .tmp 5], (.seq (.region 1 [.o 2 (.box 0) [0],
 .C 4 .aK,
 .C 5 .aF])
 (.seq (.region 1 [.o 13 (.aW 9) [2],
 .M 14 1,
 .o 15 (.ah uH) [13, 14],
 .M 12 15,
 .o 16 (.ext 0) [12],
 .o 17 (.ext 1) [12],
 .o 6 (.alloc 0 [.int .i64 0, .int .i64 0]) [],
 ⟨.store 2, [6, 16], none, none⟩,
 .M 7 17])
 (.seq (.seq (.region 0 [.M 18 7,
 .o 19 (.eqN true true) [18, .k .aF]])
 (.cond (.t 19) (.seq (.region 0 [.M 20 7,
 .C 4 .aK,
 .M 5 20])
 .ret)
 .skip))
 (.seq (.region 0 [.o 22 (.aW 9) [2],
 .o 23 (.aW 2) [6],
 .M 24 1,
 .o 25 (.ah Cj) [22, 23, 24],
 .M 21 25,
 .o 26 (.ext 0) [21],
 .o 27 (.ext 1) [21],
 .M 8 26,
 .M 7 27])
 (.seq (.seq (.region 0 [.M 28 7,
 .o 29 (.eqN true true) [28, .k .aF]])
 (.cond (.t 29) (.seq (.region 0 [.M 30 7,
 .C 4 .aK,
 .M 5 30])
 .ret)
 .skip))
 (.seq (.seq (.region 0 [.o 32 (.aW 9) [2],
 .M 33 1,
 .o 34 (.ah Du) [32, 33],
 .M 31 34,
 .o 35 (.ext 0) [31],
 .o 36 (.ext 1) [31],
 .M 9 35,
 .M 10 36])
 (.seq (.region 0 [.M 37 9,
 .o 38 .not [37]])
 (.cond (.t 38) (.seq (.region 0 [.M 39 8,
 .M 4 39,
 .C 5 .aF])
 .ret)
 .skip)))
 (.seq (.region 0 [.o 41 (.aW 9) [2],
 .o 42 (.aW 2) [6],
 .o 43 (.ah rX) [41, 42],
 .M 40 43,
 .o 44 (.ext 0) [40],
 .o 45 (.ext 1) [40],
 .M 11 44,
 .M 7 45])
 (.seq (.seq (.region 0 [.M 46 7,
 .o 47 (.eqN true true) [46, .k .aF]])
 (.cond (.t 47) (.seq (.region 0 [.M 48 7,
 .C 4 .aK,
 .M 5 48])
 .ret)
 .skip))
 (.seq (.region 0 [.M 49 8,
 .M 50 11,
 .o 51 (.ah iO) [49, 50],
 .M 4 51,
 .C 5 .aF])
 .ret)))))))))⟩
def GU : EF := ⟨[0, 1, 2], [.tmp 6, .tmp 7], (.seq (.region 1 [.o 3 (.box 0) [0],
 .C 6 .aK,
 .C 7 .aF])
 (.seq (.region 0 [.o 18 (.aW 9) [3],
 .M 19 1,
 .o 20 (.ah rY) [18, 19],
 .M 17 20,
 .o 21 (.ext 0) [17],
 .o 22 (.ext 1) [17],
 .M 8 21,
 .M 9 22])
 (.seq (.seq (.region 0 [.M 23 9,
 .o 24 (.eqN true true) [23, .k .aF]])
 (.cond (.t 24) (.seq (.region 0 [.M 25 9,
 .C 6 .aK,
 .M 7 25])
 .ret)
 .skip))
 (.seq (.seq (.region 0 [.M 26 2,
 .o 27 (.aj .lss) [26, .ki (-2000000)],
 .M 28 27,
 .g 28 false 29 .aX [2],
 .g 28 false 30 (.aj .gtr) [29, .ki 100000000],
 .o 31 .pick [28, .kb true, 30]])
 (.cond (.t 31) (.seq (.region 0 [.o 32 (.ah cZ) [.ki 2],
 .C 6 .aK,
 .M 7 32])
 .ret)
 .skip))
 (.seq (.region 0 [.o 34 (.aW 9) [3],
 .M 35 1,
 .o 36 (.ah uo) [34, 35],
 .M 33 36,
 .o 37 (.ext 0) [33],
 .o 38 (.ext 1) [33],
 .M 10 37,
 .M 9 38])
 (.seq (.seq (.region 0 [.M 39 9,
 .o 40 (.eqN true true) [39, .k .aF]])
 (.cond (.t 40) (.seq (.region 0 [.M 41 9,
 .C 6 .aK,
 .M 7 41])
 .ret)
 .skip))
 (.seq (.drawn 0 [(0, .o 42 (.ah jH) [.ki 100000000]),
 (1, .o 43 (.aU 2) [3]),
 (2, .o 44 .aC [43]),
 (3, .o 45 (.ah jH) [44]),
 (4, .o 46 (.ah bZ) [42, 45]),
 (5, .M 11 46)])
 (.seq (.region 0 [.M 47 11,
 .M 48 2,
 .o 49 (.ah jH) [48],
 .o 50 (.ah iq) [47, 49],
 .M 12 50])
 (.seq (.region 0 [.M 52 8,
 .M 53 12,
 .M 54 11,
 .o 55 (.ah wo) [52, 53, 54],
 .M 51 55,
 .o 56 (.ext 0) [51],
 .o 57 (.ext 1) [51],
 .M 13 56,
 .M 14 57])
 (.seq (.region 0 [.M 58 10,
 .o 59 (.ah dw) [58],
 .M 60 11,
 .o 61 (.ah bZ) [59, 60],
 .M 15 61])
 (.seq (.region 0 [.M 62 15,
 .M 63 10,
 .o 64 (.ah dN) [63],
 .M 65 2,
 .o 66 (.ah jH) [65],
 .o 67 (.ah bZ) [64, 66],
 .o 68 (.ah iq) [62, 67],
 .M 16 68])
 (.seq (.seq (.region 0 [.M 69 16,
 .o 70 (.ah dI) [69],
 .o 71 (.aj .leq) [70, .ki 0]])
 (.cond (.t 71) (.seq (.region 0 [.o 72 (.ah cZ) [.ki 3],
 .C 6 .aK,
 .M 7 72])
 .ret)
 .skip))
 (.seq (.region 0 [.M 73 13,
 .M 74 15,
 .o 75 (.ah bZ) [73, 74],
 .M 76 14,
 .M 77 16,
 .o 78 (.ah bZ) [76, 77],
 .o 79 (.ah nI) [75, 78],
 .o 80 (.ext 0) [79],
 .o 81 (.ext 1) [79],
 .M 6 80,
 .M 7 81])
 .ret)))))))))))))⟩
def Jo : EF := ⟨[0, 1], [.tmp 4, .tmp 5], (.seq (.region 1 [.o 2 (.box 0) [0],
 .C 4 .aK,
 .C 5 .aF])
 (.seq (.region 0 [.o 17 (.aW 9) [2],
 .M 18 1,
 .o 19 (.ah xR) [17, 18],
 .M 16 19,
 .o 20 (.ext 0) [16],
 .o 21 (.ext 1) [16],
 .o 22 (.ext 2) [16],
 .M 6 20,
 .M 7 21,
 .M 8 22])
 (.seq (.seq (.region 0 [.M 23 8,
 .o 24 (.eqN true true) [23, .k .aF]])
 (.cond (.t 24) (.seq (.region 0 [.M 25 8,
 .C 4 .aK,
 .M 5 25])
 .ret)
 .skip))
 (.seq (.region 1 [.M 26 6,
 .M 27 7,
 .o 28 (.bM 2) [26, 27],
 .o 29 (.aW 2) [28],
 .o 9 (.alloc 0 [.int .i64 0, .int .i64 0]) [],
 ⟨.store 2, [9, 29], none, none⟩])
 (.seq (.region 0 [.o 31 (.aW 9) [2],
 .o 32 (.aW 2) [9],
 .o 33 (.aU 0) [9],
 .o 34 .aC [33],
 .o 35 (.aU 1) [9],
 .o 36 .aC [35],
 .o 37 (.ah uJ) [31, 32, 34, 36],
 .M 30 37,
 .o 38 (.ext 0) [30],
 .o 39 (.ext 1) [30],
 .M 10 38,
 .M 8 39])
 (.seq (.seq (.region 0 [.M 40 8,
 .o 41 (.eqN true true) [40, .k .aF]])
 (.cond (.t 41) (.seq (.region 0 [.M 42 8,
 .C 4 .aK,
 .M 5 42])
 .ret)
 .skip))
 (.seq (.region 0 [.o 44 (.aW 9) [2],
 .o 45 (.aW 2) [9],
 .o 46 (.aU 0) [9],
 .o 47 .aC [46],
 .M 48 1,
 .o 49 (.ah uJ) [44, 45, 47, 48],
 .M 43 49,
 .o 50 (.ext 0) [43],
 .o 51 (.ext 1) [43],
 .M 11 50,
 .M 8 51])
 (.seq (.seq (.region 0 [.M 52 8,
 .o 53 (.eqN true true) [52, .k .aF]])
 (.cond (.t 53) (.seq (.region 0 [.M 54 8,
 .C 4 .aK,
 .M 5 54])
 .ret)
 .skip))
 (.seq (.region 0 [.M 56 11,
 .M 57 10,
 .o 58 (.ah lH) [56, 57],
 .M 55 58,
 .o 59 (.ext 0) [55],
 .o 60 (.ext 1) [55],
 .M 12 59,
 .M 8 60])
 (.seq (.seq (.region 0 [.M 61 8,
 .o 62 (.eqN true true) [61, .k .aF]])
 (.cond (.t 62) (.seq (.region 0 [.M 63 8,
 .C 4 .aK,
 .M 5 63])
 .ret)
 .skip))
 (.seq (.region 0 [.o 64 (.ah Df) [],
 .M 65 12,
 .o 66 (.ah iO) [64, 65],
 .M 13 66])
 (.seq (.seq (.region 0 [.o 67 (.aW 9) [2],
 .o 68 (.aW 2) [9],
 .o 69 (.ah kX) [67, 68],
 .o 70 .not [69]])
 (.join [13] (.cond (.t 70) (.seq (.region 0 [.o 72 (.aU 2) [2],
 .o 73 .aC [72],
 .o 74 (.ah jQ) [73, .ki 1],
 .M 71 74,
 .o 75 (.ext 0) [71],
 .o 76 (.ext 1) [71],
 .M 14 75,
 .M 15 76])
 (.region 0 [.M 77 13,
 .M 78 14,
 .o 79 (.ah gV) [77, 78],
 .M 80 10,
 .o 81 (.ah gV) [79, 80],
 .M 13 81]))
 .skip)))
 (.seq (.region 0 [.M 82 13,
 .M 4 82,
 .C 5 .aF])
 .ret)))))))))))))⟩
def Xp : EF := ⟨[], [.tmp 0], (.seq (.region 0 [.C 0 (.bool false)])
 (.seq (.region 0 [.o 1 (.ah sZ) [],
 .M 0 1])
 .ret))⟩
def Jd : EF := ⟨[0], [.tmp 2], (.seq (.region 1 [.o 1 (.box 0) [0],
 .C 2 .aF])
 (.seq (.seq (.region 0 [.o 5 (.aW 9) [1],
 .o 6 (.ah CB) [5],
 .M 3 6])
 (.seq (.region 0 [.M 7 3,
 .o 8 (.eqN true true) [7, .k .aF]])
 (.cond (.t 8) (.seq (.region 0 [.M 9 3,
 .M 2 9])
 .ret)
 .skip)))
 (.seq (.seq (.region 0 [.o 10 (.aW 9) [1],
 .o 11 (.ah lF) [10],
 .o 12 (.aj .eql) [11, .ki 0]])
 (.cond (.t 12) (.seq (.region 0 [.o 13 (.ah gW) [.ki 5, .k (.str [102, 114, 101, 113])],
 .M 2 13])
 .ret)
 .skip))
 (.seq (.seq (.region 0 [.o 14 (.aW 9) [1],
 .o 15 (.ah CG) [14],
 .M 4 15])
 (.seq (.region 0 [.M 16 4,
 .o 17 (.eqN true true) [16, .k .aF]])
 (.cond (.t 17) (.seq (.region 0 [.M 18 4,
 .M 2 18])
 .ret)
 .skip)))
 (.seq (.block 0 (.seq (.region 0 [.o 20 (.aU 5) [1],
 .o 21 .aC [20],
 .o 22 (.ah xA) [21],
 .o 23 .not [22],
 .M 19 23])
 (.cond (.t 19) (.seq (.region 0 [.o 24 (.ah gW) [.ki 5, .k (.str [99, 111, 117, 110, 116])],
 .M 2 24])
 .ret)
 (.seq (.region 0 [.o 26 (.aU 6) [1],
 .o 27 .aC [26],
 .o 28 (.aj .lss) [27, .ki 0],
 .M 29 28,
 .g 29 false 30 (.aU 6) [1],
 .g 29 false 31 .aC [30],
 .g 29 false 32 (.aj .gtr) [31, .ki 2],
 .o 33 .pick [29, .kb true, 32],
 .M 25 33])
 (.cond (.t 25) (.seq (.region 0 [.o 34 (.ah gW) [.ki 5, .k (.str [115, 116, 117, 98])],
 .M 2 34])
 .ret)
 (.seq (.region 0 [.o 36 (.aU 8) [1],
 .o 37 .aC [36],
 .o 38 (.aj .lss) [37, .ki 0],
 .M 39 38,
 .g 39 false 40 (.aU 8) [1],
 .g 39 false 41 .aC [40],
 .g 39 false 42 (.aj .gtr) [41, .ki 30],
 .o 43 .pick [39, .kb true, 42],
 .M 35 43])
 (.cond (.t 35) (.seq (.region 0 [.o 44 (.ah gW) [.ki 5, .k (.str [101, 120])],
 .M 2 44])
 .ret)
 (.seq (.drawn 0 [(0, .o 46 (.aU 0) [1]),
 (1, .o 47 .aC [46]),
 (2, .o 48 (.aU 1) [1]),
 (3, .o 49 .aC [48]),
 (4, .o 50 (.ah jY) [47, 49]),
 (5, .o 51 (.aW 9) [1]),
 (6, .o 52 (.ah lF) [51]),
 (7, .o 53 (.aj .quo) [50, 52]),
 (8, .o 54 (.aj .add) [53, .ki 2]),
 (9, .o 55 (.aj .gtr) [54, .ki 200]),
 (10, .M 45 55)])
 (.cond (.t 45) (.seq (.region 0 [.o 56 (.ah gW) [.ki 5, .k (.str [102, 108, 111, 119, 115])],
 .M 2 56])
 .ret)
 .skip)))))))))
 (.seq (.region 0 [.C 2 .aF])
 .ret))))))⟩
def D5 : EF := ⟨[0], [.tmp 2], (.seq (.region 0 [.C 2 (.str [])])
 (.seq (.seq (.region 0 [.M 4 0,
 .o 5 (.ah dw) [4],
 .o 6 (.ah jG) [5],
 .M 3 6])
 (.seq (.region 0 [.M 7 3,
 .o 8 (.fB .neq) [7, .k (.str [49])]])
 (.cond (.t 8) (.seq (.region 0 [.M 9 0,
 .o 10 (.ah dN) [9],
 .o 11 (.ah jG) [10],
 .o 12 (.fB .add) [11, .k (.str [47])],
 .M 13 3,
 .o 14 (.fB .add) [12, 13],
 .M 2 14])
 .ret)
 .skip)))
 (.seq (.region 0 [.M 15 0,
 .o 16 (.ah dN) [15],
 .o 17 (.ah jG) [16],
 .M 2 17])
 .ret)))⟩
def Gg : EF := ⟨[0], [.tmp 2], (.seq (.region 1 [.o 1 (.box 0) [0],
 .C 2 (.int .i64 0)])
 (.seq (.seq (.region 0 [.o 3 (.aU 2) [1],
 .o 4 .aC [3]])
 (.join [2] (.block 0 (.seq (.seq (.region 0 [.o 6 (.aj .eql) [4, .ki 1],
 .M 5 6])
 (.join [1, 5] (.cond (.t 5) .skip
 (.seq (.region 0 [.o 7 (.aj .eql) [4, .ki 2],
 .M 5 7])
 (.join [1, 5] (.cond (.t 5) .skip
 (.seq (.region 0 [.o 8 (.aj .eql) [4, .ki 4],
 .M 5 8])
 (.join [1, 5] (.cond (.t 5) .skip
 (.region 0 [.o 9 (.aj .eql) [4, .ki 12],
 .M 5 9]))))))))))
 (.cond (.t 5) (.seq (.region 0 [.o 10 (.aU 2) [1],
 .o 11 .aC [10],
 .o 12 (.aj .quo) [.ki 12, 11],
 .M 2 12])
 .ret)
 .skip)))))
 (.seq (.region 0 [.C 2 (.int .i64 0)])
 .ret)))⟩
def Gf : EF := ⟨[0], [.tmp 2], (.seq (.region 1 [.o 1 (.box 0) [0],
 .C 2 .aK])
 (.seq (.seq (.region 0 [.o 6 (.aW 9) [1],
 .o 7 (.ah lJ) [6],
 .o 8 (.eqN true true) [7, .k .aF]])
 (.cond (.t 8) (.seq (.region 0 [.o 9 (.ah rE) [.ki 0],
 .M 2 9])
 .ret)
 .skip))
 (.seq (.region 0 [.o 11 (.aU 3) [1],
 .o 12 .aC [11],
 .o 13 (.ah qI) [12],
 .M 10 13,
 .o 14 (.ext 0) [10],
 .o 15 (.ext 1) [10],
 .o 16 (.ext 2) [10],
 .M 3 14,
 .M 4 15,
 .M 5 16])
 (.seq (.region 0 [.M 17 3,
 .M 2 17])
 .ret))))⟩
def Sz : EF := ⟨[0, 1], [.tmp 4], (.seq (.region 1 [.o 3 (.box 0) [1],
 .C 4 (.int .i64 0)])
 (.seq (.region 0 [.M 5 0,
 .o 6 (.aaR xP) [3],
 .o 7 (.wI gG) [5, 6],
 .M 4 7])
 .ret))⟩
def xC : EF := ⟨[0, 1], [.tmp 4], (.seq (.region 0 [.C 4 (.str [])])
 (.seq (.region 0 [.M 5 0,
 .M 6 0,
 .o 7 .uj [6],
 .M 8 1,
 .o 9 .mn [7, 8],
 .o 10 (.TD false true) [5, 9],
 .M 4 10])
 .ret))⟩
def G6 : EF := ⟨[0], [.tmp 2], (.seq (.region 0 [.C 2 .aK])
 (.seq (.seq (.region 0 [.M 3 0,
 .o 4 (.vI false) [3, .k .aK],
 .M 5 4,
 .g 5 false 6 .aX [0],
 .g 5 false 7 .nR [6],
 .g 5 false 8 (.aU 0) [7],
 .g 5 false 9 .aC [8],
 .g 5 false 10 (.vI false) [9, .k .aK],
 .o 11 .pick [5, .kb true, 10]])
 (.cond (.t 11) (.seq (.region 0 [.o 12 (.ah jH) [.ki 0],
 .M 2 12])
 .ret)
 .skip))
 (.seq (.region 0 [.M 13 0,
 .o 14 .nR [13],
 .o 15 (.aU 0) [14],
 .o 16 .aC [15],
 .M 2 16])
 .ret)))⟩
def GI : EF := ⟨[0, 1], [.tmp 4], (.seq (.region 0 [.C 4 .aK])
 (.seq (.region 0 [.M 5 0,
 .o 6 (.ah dI) [5],
 .M 7 1,
 .o 8 (.ah dI) [7],
 .o 9 (.aj .mul) [6, 8],
 .o 10 (.aj .lss) [9, .ki 0],
 .M 11 0,
 .o 12 (.ah bW) [11],
 .M 13 1,
 .o 14 (.ah bW) [13],
 .o 15 (.ah jm) [12, 14],
 .o 16 (.ah iJ) [10, 15],
 .M 4 16])
 .ret))⟩
def GY : EF := ⟨[0], [.tmp 2], (.seq (.region 0 [.C 2 .aK])
 (.seq (.seq (.region 0 [.M 3 0,
 .o 4 (.vI false) [3, .k .aK],
 .M 5 4,
 .g 5 false 6 .aX [0],
 .g 5 false 7 .nR [6],
 .g 5 false 8 (.aU 1) [7],
 .g 5 false 9 .aC [8],
 .g 5 false 10 (.vI false) [9, .k .aK],
 .o 11 .pick [5, .kb true, 10]])
 (.cond (.t 11) (.seq (.region 0 [.o 12 (.ah jH) [.ki 1],
 .M 2 12])
 .ret)
 .skip))
 (.seq (.region 0 [.M 13 0,
 .o 14 .nR [13],
 .o 15 (.aU 1) [14],
 .o 16 .aC [15],
 .M 2 16])
 .ret)))⟩
def Gz : EF := ⟨[0, 1], [.tmp 4], (.seq (.region 0 [.C 4 (.int .i64 0)])
 (.seq (.region 0 [.M 5 0,
 .M 6 1,
 .o 7 (.ah qR) [5, 6],
 .o 8 (.ah dI) [7],
 .M 4 8])
 .ret))⟩
def VA : EF := ⟨[0], [.tmp 2], (.seq (.region 0 [.C 2 .aK])
 (.seq (.seq (.region 0 [.M 3 0,
 .o 4 (.aj .lss) [3, .ki 0]])
 (.cond (.t 4) (.seq (.region 0 [.M 5 0,
 .o 6 (.conv .u64) [5],
 .o 7 .neg [6],
 .o 8 (.ah jc) [7],
 .o 9 (.ah iJ) [.kb true, 8],
 .M 2 9])
 .ret)
 .skip))
 (.seq (.region 0 [.M 10 0,
 .o 11 (.conv .u64) [10],
 .o 12 (.ah jc) [11],
 .o 13 (.ah iJ) [.kb false, 12],
 .M 2 13])
 .ret)))⟩
def Gy : EF := ⟨[0, 1], [.tmp 4], (.seq (.region 0 [.C 4 .aK])
 (.seq (.region 0 [.M 11 0,
 .o 12 (.ah dI) [11],
 .o 13 (.aj .lss) [12, .ki 0],
 .M 14 1,
 .o 15 (.ah dI) [14],
 .o 16 (.aj .lss) [15, .ki 0],
 .M 5 13,
 .M 6 16])
 (.seq (.seq (.region 0 [.M 17 5,
 .M 18 6,
 .o 19 (.eqB false) [17, 18]])
 (.cond (.t 19) (.seq (.region 0 [.M 20 5,
 .M 21 0,
 .o 22 (.ah bW) [21],
 .M 23 1,
 .o 24 (.ah bW) [23],
 .o 25 (.ah ji) [22, 24],
 .o 26 (.ah iJ) [20, 25],
 .M 4 26])
 .ret)
 .skip))
 (.seq (.seq (.region 0 [.M 27 0,
 .o 28 (.ah bW) [27],
 .M 29 1,
 .o 30 (.ah bW) [29],
 .o 31 (.ah kC) [28, 30],
 .o 32 (.aj .lss) [31, .ki 0]])
 (.cond (.t 32) (.seq (.region 0 [.M 34 1,
 .o 35 (.ah bW) [34],
 .M 36 0,
 .o 37 (.ah bW) [36],
 .o 38 (.ah mW) [35, 37],
 .M 33 38,
 .o 39 (.ext 0) [33],
 .o 40 (.ext 1) [33],
 .M 7 39,
 .M 8 40])
 (.seq (.region 0 [.M 41 6,
 .M 42 7,
 .o 43 (.ah iJ) [41, 42],
 .M 4 43])
 .ret))
 .skip))
 (.seq (.region 0 [.M 45 0,
 .o 46 (.ah bW) [45],
 .M 47 1,
 .o 48 (.ah bW) [47],
 .o 49 (.ah mW) [46, 48],
 .M 44 49,
 .o 50 (.ext 0) [44],
 .o 51 (.ext 1) [44],
 .M 9 50,
 .M 10 51])
 (.seq (.region 0 [.M 52 5,
 .M 53 9,
 .o 54 (.ah iJ) [52, 53],
 .M 4 54])
 .ret))))))⟩
def qC : EC := (.seq (.region 0 [.o 24 (.aj .lss) [23, 22]])
 (.seq (.cond (.t 24) .skip
 (.exit 0))
 (.seq (.block 1 (.seq (.region 0 [.o 25 (.bM 1) [21, 23],
 .o 26 .aC [25],
 .M 10 26])
 (.seq (.region 0 [.M 28 8,
 .M 29 10,
 .o 30 (.ah dw) [29],
 .o 31 (.ah nI) [28, 30],
 .M 27 31,
 .o 32 (.ext 0) [27],
 .o 33 (.ext 1) [27],
 .M 11 32,
 .M 12 33])
 (.region 0 [.M 34 8,
 .M 35 11,
 .o 36 (.ah dw) [35],
 .o 37 (.ah bZ) [34, 36],
 .M 8 37]))))
 (.region 0 [.o 38 (.aj .add) [23, .ki 1],
 .M 23 38]))))
def kF : EC := (.seq (.seq (.region 0 [.M 45 16,
 .o 46 (.aj .geq) [45, .ki 0]])
 (.cond (.t 46) .skip
 (.exit 2)))
 (.seq (.block 3 (.seq (.region 0 [.M 50 8,
 .M 51 0,
 .M 52 16,
 .o 53 (.bM 1) [51, 52],
 .o 54 .aC [53],
 .o 55 (.ah dw) [54],
 .o 56 (.ah qQ) [50, 55],
 .M 49 56,
 .o 57 (.ext 0) [49],
 .o 58 (.ext 1) [49],
 .o 59 (.ext 2) [49],
 .M 17 57,
 .M 18 58,
 .M 19 59])
 (.seq (.region 0 [.M 60 13,
 .M 61 14,
 .o 62 (.ah iq) [60, 61],
 .M 63 2,
 .o 64 (.ah bZ) [62, 63],
 .M 13 64])
 (.seq (.drawn 0 [(0, .M 65 14),
 (1, .M 66 2),
 (2, .o 67 (.ah bZ) [65, 66]),
 (3, .M 68 0),
 (4, .M 69 16),
 (5, .o 70 (.bM 1) [68, 69]),
 (6, .o 71 .aC [70]),
 (7, .o 72 (.ah dN) [71]),
 (8, .M 73 17),
 (9, .o 74 (.ah bZ) [72, 73]),
 (10, .M 75 15),
 (11, .o 76 (.ah bZ) [74, 75]),
 (12, .o 77 (.ah iq) [67, 76]),
 (13, .M 14 77)])
 (.region 0 [.M 78 15,
 .M 79 1,
 .o 80 (.ah bZ) [78, 79],
 .M 15 80])))))
 (.region 0 [.M 47 16,
 .o 48 (.aj .sub) [47, .ki 1],
 .M 16 48])))
def G_ : EF := ⟨[0, 1, 2], [.tmp 6, .tmp 7], (.seq (.region 0 [.C 6 .aK,
 .C 7 .aK])
 (.seq (.region 0 [.o 20 (.ah jH) [.ki 1],
 .M 8 20])
 (.seq (.seq (.region 0 [.M 21 0,
 .o 22 .dh [21],
 .C 23 (.int .i64 0)])
 (.block 0 (.loop [0, 1, 2, 8, 21, 22, 23] [0, 1, 2, 8] qC)))
 (.seq (.region 0 [.o 39 (.ah jH) [.ki 0],
 .o 40 (.ah jH) [.ki 0],
 .o 41 (.ah jH) [.ki 1],
 .M 13 39,
 .M 14 40,
 .M 15 41])
 (.seq (.seq (.region 0 [.M 42 0,
 .o 43 .dh [42],
 .o 44 (.aj .sub) [43, .ki 1],
 .M 16 44])
 (.block 2 (.loop [0, 1, 2, 8, 13, 14, 15, 16] [13, 14] kF)))
 (.seq (.region 0 [.M 81 13,
 .M 82 14,
 .M 6 81,
 .M 7 82])
 .ret))))))⟩
def mM : EC := (.seq (.region 0 [.o 37 (.aj .lss) [36, 35]])
 (.seq (.cond (.t 37) .skip
 (.exit 0))
 (.seq (.block 1 (.seq (.region 1 [.o 38 (.bM 2) [34, 36],
 .o 39 (.aW 2) [38],
 .o 12 (.alloc 0 [.int .i64 0, .str []]) [],
 ⟨.store 2, [12, 39], none, none⟩])
 (.seq (.region 0 [.o 41 (.aU 1) [12],
 .o 42 .aC [41],
 .o 43 (.ah IW) [42],
 .M 40 43,
 .o 44 (.ext 0) [40],
 .o 45 (.ext 1) [40],
 .M 13 44,
 .M 14 45])
 (.region 1 [.M 46 10,
 .M 47 13,
 .o 48 (.Iu 1 1 [.aK] [(0, 1)]) [47],
 .o 49 (.app 0 1) [46, 48],
 .M 10 49]))))
 (.region 0 [.o 50 (.aj .add) [36, .ki 1],
 .M 36 50]))))
def D6 : EF := ⟨[0, 1], [.tmp 4], (.seq (.region 1 [.o 2 (.box 0) [0],
 .C 4 .dA])
 (.seq (.region 0 [.o 20 (.aW 9) [2],
 .o 21 (.ah qA) [20],
 .M 19 21,
 .o 22 (.ext 0) [19],
 .o 23 (.ext 1) [19],
 .M 5 22,
 .M 6 23])
 (.seq (.region 0 [.o 25 (.aW 9) [2],
 .o 26 (.ah zh) [25],
 .M 24 26,
 .o 27 (.ext 0) [24],
 .o 28 (.ext 1) [24],
 .M 7 27,
 .M 8 28])
 (.seq (.region 0 [.M 29 5,
 .M 30 1,
 .o 31 (.ah Bc) [29, 30],
 .M 9 31])
 (.seq (.region 0 [.C 10 .dA])
 (.seq (.seq (.region 0 [.M 32 7,
 .M 33 9,
 .o 34 (.QI 2 true false) [32, 33],
 .o 35 .dh [34],
 .C 36 (.int .i64 0)])
 (.block 0 (.loop [1, 2, 5, 9, 10, 34, 35, 36] [1, 2, 5, 9, 10] mM)))
 (.seq (.seq (.region 0 [.o 52 (.aW 9) [2],
 .M 53 1,
 .o 54 (.ah Du) [52, 53],
 .M 51 54,
 .o 55 (.ext 0) [51],
 .o 56 (.ext 1) [51],
 .M 15 55,
 .M 16 56])
 (.seq (.region 0 [.M 57 15])
 (.join [10] (.cond (.t 57) (.seq (.drawn 0 [(0, .o 59 (.aW 9) [2]),
 (1, .M 60 5),
 (2, .M 61 9),
 (3, .o 62 (.bM 2) [60, 61]),
 (4, .o 63 (.aW 2) [62]),
 (5, .o 64 (.ah rX) [59, 63]),
 (6, .M 58 64),
 (7, .o 65 (.ext 0) [58]),
 (8, .o 66 (.ext 1) [58]),
 (9, .M 17 65),
 (10, .M 18 66)])
 (.region 0 [.M 67 10,
 .M 68 10,
 .o 69 (.bM 1) [68, .ki 0],
 .o 70 .aC [69],
 .M 71 17,
 .o 72 (.ah iO) [70, 71],
 .o 73 (.bM 1) [67, .ki 0],
 ⟨.store 1, [73, 72], none, none⟩]))
 .skip))))
 (.seq (.region 0 [.M 74 10,
 .M 4 74])
 .ret))))))))⟩
def SC : EF := ⟨[0, 1], [.tmp 4, .tmp 5], (.seq (.region 0 [.C 4 .aK,
 .C 5 .aF])
 (.seq (.seq (.region 0 [.M 13 1,
 .o 14 (.ah dI) [13],
 .o 15 (.aj .eql) [14, .ki 0]])
 (.cond (.t 15) (.seq (.region 0 [.o 16 (.ah cZ) [.ki 3],
 .C 4 .aK,
 .M 5 16])
 .ret)
 .skip))
 (.seq (.region 0 [.M 17 0,
 .o 18 (.ah bW) [17],
 .M 19 1,
 .o 20 (.ah bW) [19],
 .o 21 (.ah nV) [18, 20],
 .M 6 21])
 (.seq (.region 0 [.M 23 0,
 .o 24 (.ah bW) [23],
 .M 25 6,
 .o 26 (.ah jl) [24, 25],
 .M 22 26,
 .o 27 (.ext 0) [22],
 .o 28 (.ext 1) [22],
 .o 29 (.ext 2) [22],
 .M 7 27,
 .M 8 28,
 .M 9 29])
 (.seq (.region 0 [.M 31 1,
 .o 32 (.ah bW) [31],
 .M 33 6,
 .o 34 (.ah jl) [32, 33],
 .M 30 34,
 .o 35 (.ext 0) [30],
 .o 36 (.ext 1) [30],
 .o 37 (.ext 2) [30],
 .M 10 35,
 .M 11 36,
 .M 12 37])
 (.seq (.region 1 [.M 38 0,
 .o 39 (.ah dI) [38],
 .M 40 1,
 .o 41 (.ah dI) [40],
 .o 42 (.aj .mul) [39, 41],
 .o 43 (.aj .lss) [42, .ki 0],
 .M 44 7,
 .o 45 (.ah iJ) [43, 44],
 .M 46 10,
 .o 47 (.ah iJ) [.kb false, 46],
 .o 48 (.build [.aK, .aK] [(0, 1), (1, 1)]) [45, 47],
 .o 49 (.box 0) [48],
 .M 4 49,
 .C 5 .aF])
 .ret))))))⟩
def G5 : EF := ⟨[0, 1], [.tmp 4], (.seq (.region 0 [.C 4 .aK])
 (.seq (.region 0 [.M 5 0,
 .o 6 (.ah dN) [5],
 .M 7 1,
 .o 8 (.ah dN) [7],
 .o 9 (.ah bZ) [6, 8],
 .M 10 0,
 .o 11 (.ah dw) [10],
 .M 12 1,
 .o 13 (.ah dw) [12],
 .o 14 (.ah bZ) [11, 13],
 .o 15 (.ah wz) [9, 14],
 .M 4 15])
 .ret))⟩
def SG : EF := ⟨[0, 1], [.tmp 4], (.seq (.region 0 [.C 4 .aK])
 (.seq (.region 0 [.M 8 0,
 .M 9 1,
 .o 10 (.ah jQ) [8, 9],
 .M 7 10,
 .o 11 (.ext 0) [7],
 .o 12 (.ext 1) [7],
 .M 5 11,
 .M 6 12])
 (.seq (.region 0 [.M 13 5,
 .M 4 13])
 .ret)))⟩
def jK : EC := (.seq (.region 0 [.o 33 (.aj .lss) [32, .ki 3]])
 (.seq (.cond (.t 33) .skip
 (.exit 0))
 (.seq (.block 1 (.seq (.region 0 [.M 34 32,
 .M 11 34])
 (.seq (.region 0 [.o 36 (.aW 9) [3],
 .M 37 1,
 .M 38 2,
 .M 39 11,
 .o 40 (.aj .sub) [39, .ki 1],
 .o 41 (.aj .mul) [40, .ki 10000],
 .o 42 (.aj .add) [38, 41],
 .o 43 (.ah jo) [36, 37, 42],
 .M 35 43,
 .o 44 (.ext 0) [35],
 .o 45 (.ext 1) [35],
 .M 12 44,
 .M 13 45])
 (.seq (.seq (.region 0 [.M 46 13,
 .o 47 (.eqN true true) [46, .k .aF]])
 (.cond (.t 47) (.seq (.region 0 [.o 48 (.aW 3) [8],
 .M 49 13,
 ⟨.store 3, [6, 48], none, none⟩,
 .M 7 49])
 .ret)
 .skip))
 (.region 0 [.M 50 11,
 .M 51 12,
 .o 52 (.D_ 1 3) [8, 50],
 ⟨.store 1, [52, 51], none, none⟩])))))
 (.region 0 [.o 53 (.aj .add) [32, .ki 1],
 .M 32 53]))))
def G9 : EF := ⟨[0, 1, 2], [.cell 6 true 3, .tmp 7], (.seq (.region 2 [.o 3 (.box 0) [0],
 .o 6 (.alloc 1 [.aK, .aK, .aK]) [],
 .C 7 .aF])
 (.seq (.region 1 [.o 8 (.alloc 0 [.aK, .aK, .aK]) []])
 (.seq (.seq (.region 0 [.o 15 (.aW 9) [3],
 .M 16 1,
 .o 17 (.ah xE) [15, 16],
 .M 14 17,
 .o 18 (.ext 0) [14],
 .o 19 (.ext 1) [14],
 .M 9 18,
 .M 10 19])
 (.seq (.region 0 [.M 20 10,
 .o 21 (.eqN true true) [20, .k .aF]])
 (.cond (.t 21) (.seq (.region 0 [.o 22 (.aW 3) [8],
 .M 23 10,
 ⟨.store 3, [6, 22], none, none⟩,
 .M 7 23])
 .ret)
 .skip)))
 (.seq (.seq (.region 0 [.M 24 2,
 .o 25 (.aj .lss) [24, .ki (-1990000)],
 .M 26 25,
 .g 26 false 27 .aX [2],
 .g 26 false 28 (.aj .gtr) [27, .ki 99990000],
 .o 29 .pick [26, .kb true, 28]])
 (.cond (.t 29) (.seq (.drawn 0 [(0, .o 30 (.aW 3) [8]),
 (1, .o 31 (.ah cZ) [.ki 2]),
 (2, ⟨.store 3, [6, 30], none, none⟩),
 (3, .M 7 31)])
 .ret)
 .skip))
 (.seq (.seq (.region 0 [.C 32 (.int .i64 0)])
 (.block 0 (.loop [1, 2, 3, 6, 8, 32] [6, 7, 8] jK)))
 (.seq (.region 0 [.o 54 (.aW 3) [8],
 ⟨.store 3, [6, 54], none, none⟩,
 .C 7 .aF])
 .ret))))))⟩
def GZ : EF := ⟨[0, 1], [.tmp 4, .tmp 5], (.seq (.region 0 [.C 4 .aK,
 .C 5 .aF])
 (.seq (.region 0 [.M 6 0,
 .o 7 (.ah dN) [6],
 .M 8 1,
 .o 9 (.ah dw) [8],
 .o 10 (.ah bZ) [7, 9],
 .M 11 0,
 .o 12 (.ah dw) [11],
 .M 13 1,
 .o 14 (.ah dN) [13],
 .o 15 (.ah bZ) [12, 14],
 .o 16 (.ah nI) [10, 15],
 .o 17 (.ext 0) [16],
 .o 18 (.ext 1) [16],
 .M 4 17,
 .M 5 18])
 .ret))⟩
def DT : EF := ⟨[0], [.tmp 2], (.seq (.region 0 [.C 2 (.int .i64 0)])
 (.seq (.block 0 (.seq (.region 0 [.M 4 0,
 .o 5 (.ah bW) [4],
 .o 6 (.ah fK) [5],
 .M 3 6])
 (.cond (.t 3) (.seq (.region 0 [.C 2 (.int .i64 0)])
 .ret)
 (.seq (.region 0 [.M 8 0,
 .o 9 .nR [8],
 .o 10 (.aU 0) [9],
 .o 11 .aC [10],
 .M 7 11])
 (.cond (.t 7) (.seq (.region 0 [.C 2 (.int .i64 (-1))])
 .ret)
 .skip)))))
 (.seq (.region 0 [.C 2 (.int .i64 1)])
 .ret)))⟩
def Oe : EF := ⟨[0], [.tmp 2], (.seq (.region 0 [.C 2 .aF])
 (.seq (.seq (.region 0 [.M 3 0,
 .o 4 (.aj .eql) [3, .ki 0]])
 (.cond (.t 4) (.seq (.region 0 [.C 2 .aF])
 .ret)
 .skip))
 (.seq (.region 0 [.M 5 0,
 .o 6 (.VL kK) [5],
 .M 2 6])
 .ret)))⟩
def Oq : EF := ⟨[0, 1], [.tmp 4], (.seq (.region 0 [.C 4 .aK])
 (.seq (.region 0 [.M 8 0,
 .M 9 1,
 .o 10 (.ah nI) [8, 9],
 .M 7 10,
 .o 11 (.ext 0) [7],
 .o 12 (.ext 1) [7],
 .M 5 11,
 .M 6 12])
 (.seq (.region 0 [.M 13 5,
 .M 4 13])
 .ret)))⟩
def GK : EF := ⟨[0], [.tmp 2], (.seq (.region 0 [.C 2 .aK])
 (.seq (.region 0 [.M 3 0,
 .o 4 (.ah dI) [3],
 .o 5 (.aj .geq) [4, .ki 0],
 .M 6 0,
 .o 7 (.ah bW) [6],
 .o 8 (.ah iJ) [5, 7],
 .M 2 8])
 .ret))⟩
def RZ : EF := ⟨[0], [.tmp 2, .tmp 3, .tmp 4], (.seq (.region 0 [.C 2 .aK,
 .C 3 (.int .i64 0),
 .C 4 .aF])
 (.seq (.region 0 [.M 19 0,
 .o 20 (.ah strings_CutPrefix) [19, .k (.str [45])],
 .M 18 20,
 .o 21 (.ext 0) [18],
 .o 22 (.ext 1) [18],
 .M 5 21,
 .M 6 22])
 (.seq (.region 0 [.M 24 5,
 .o 25 (.ah strings_Cut) [24, .k (.str [46])],
 .M 23 25,
 .o 26 (.ext 0) [23],
 .o 27 (.ext 1) [23],
 .o 28 (.ext 2) [23],
 .M 7 26,
 .M 8 27,
 .M 9 28])
 (.seq (.region 0 [.M 29 0,
 .o 30 .uj [29],
 .o 31 (.aj .gtr) [30, .ki 60],
 .M 32 31,
 .g 32 false 33 .aX [9],
 .g 32 false 34 .aX [33],
 .g 34 true 35 .aX [8],
 .g 34 true 36 (.fB .eql) [35, .k (.str [])],
 .g 34 true 37 .aX [36],
 .g 37 false 38 .aX [8],
 .g 37 false 39 .uj [38],
 .g 37 false 40 (.aj .gtr) [39, .ki 20],
 .g 34 true 41 .pick [37, .kb true, 40],
 .g 34 true 42 .aX [41],
 .g 42 false 43 .aX [8],
 .g 42 false 44 (.ah lC) [43, .k (.str [48, 49, 50, 51, 52, 53, 54, 55, 56, 57])],
 .g 42 false 45 (.fB .neq) [44, .k (.str [])],
 .g 34 true 46 .pick [42, .kb true, 45],
 .g 32 false 47 .pick [34, 46, .kb false],
 .o 48 .pick [32, .kb true, 47],
 .M 10 48])
 (.seq (.region 0 [.M 50 7,
 .o 51 (.ah mP) [50],
 .M 49 51,
 .o 52 (.ext 0) [49],
 .o 53 (.ext 1) [49],
 .M 11 52,
 .M 12 53])
 (.seq (.seq (.region 0 [.M 54 10,
 .M 55 54,
 .g 55 false 56 .aX [12],
 .g 55 false 57 (.eqN true true) [56, .k .aF],
 .o 58 .pick [55, .kb true, 57]])
 (.cond (.t 58) (.seq (.region 0 [.o 59 (.ah cZ) [.ki 1],
 .C 2 .aK,
 .C 3 (.int .i64 0),
 .M 4 59])
 .ret)
 .skip))
 (.seq (.region 0 [.o 61 (.ah mP) [.k (.str [48])],
 .M 60 61,
 .o 62 (.ext 0) [60],
 .o 63 (.ext 1) [60],
 .M 13 62,
 .M 14 63])
 (.seq (.seq (.region 0 [.M 64 7,
 .M 65 8,
 .o 66 (.fB .add) [64, 65],
 .o 67 (.ah jy) [66, .k (.str [48])],
 .M 15 67])
 (.seq (.region 0 [.M 68 15,
 .o 69 (.fB .neq) [68, .k (.str [])]])
 (.join [6, 8, 13] (.cond (.t 69) (.region 0 [.M 71 15,
 .o 72 (.ah mP) [71],
 .M 70 72,
 .o 73 (.ext 0) [70],
 .o 74 (.ext 1) [70],
 .M 13 73])
 .skip))))
 (.seq (.seq (.region 0 [.M 75 6,
 .M 76 75,
 .g 76 true 77 .aX [13],
 .g 76 true 78 (.ah fK) [77],
 .o 79 .pick [76, 78, .kb false]])
 (.cond (.t 79) (.seq (.region 0 [.o 80 (.ah cZ) [.ki 1],
 .C 2 .aK,
 .C 3 (.int .i64 0),
 .M 4 80])
 .ret)
 .skip))
 (.seq (.region 0 [.M 82 6,
 .M 83 13,
 .o 84 (.ah iJ) [82, 83],
 .M 85 8,
 .o 86 .uj [85],
 .o 87 (.ah IG) [86],
 .o 88 (.ah nI) [84, 87],
 .M 81 88,
 .o 89 (.ext 0) [81],
 .o 90 (.ext 1) [81],
 .M 16 89,
 .M 17 90])
 (.seq (.region 0 [.M 91 16,
 .M 92 8,
 .o 93 .uj [92],
 .M 2 91,
 .M 3 93,
 .C 4 .aF])
 .ret)))))))))))⟩
def jJ : EC := (.seq (.seq (.region 0 [.M 17 6,
 .o 18 (.aj .lss) [17, .ki 9]])
 (.cond (.t 18) .skip
 (.exit 2)))
 (.seq (.block 3 (.seq (.region 0 [.M 21 5,
 .o 22 (.aj .rem) [21, .k (.int .u64 10)],
 .o 23 (.aj .add) [.k (.int .u64 48), 22],
 .o 24 (.conv .u8) [23],
 .o 25 (.Iu 1 1 [.int .u8 0] [(0, 1)]) [24],
 .o 26 .b2s [25],
 .M 27 3,
 .o 28 (.fB .add) [26, 27],
 .M 3 28])
 (.region 0 [.M 29 5,
 .o 30 (.aj .quo) [29, .k (.int .u64 10)],
 .M 5 30])))
 (.region 0 [.M 19 6,
 .o 20 (.aj .add) [19, .ki 1],
 .M 6 20])))
def gQ : EC := (.seq (.seq (.region 0 [.M 7 4,
 .M 8 0,
 .o 9 .dh [8],
 .o 10 (.aj .lss) [7, 9]])
 (.cond (.t 10) .skip
 (.exit 0)))
 (.seq (.block 1 (.seq (.region 0 [.M 13 0,
 .M 14 4,
 .o 15 (.bM 1) [13, 14],
 .o 16 .aC [15],
 .M 5 16])
 (.seq (.region 0 [.C 6 (.int .i64 0)])
 (.block 2 (.loop [0, 3, 4, 5, 6] [0, 3, 4] jJ)))))
 (.region 0 [.M 11 4,
 .o 12 (.aj .add) [11, .ki 1],
 .M 4 12])))
def iK : EC := (.seq (.seq (.region 0 [.M 31 3,
 .o 32 .uj [31],
 .o 33 (.aj .gtr) [32, .ki 1],
 .M 34 33,
 .g 34 true 35 .aX [3],
 .g 34 true 36 .X9 [35, .ki 0],
 .g 34 true 37 (.aj .eql) [36, .k (.int .u8 48)],
 .o 38 .pick [34, 37, .kb false]])
 (.cond (.t 38) .skip
 (.exit 4)))
 (.block 5 (.region 0 [.M 39 3,
 .o 40 (.TD true false) [39, .ki 1],
 .M 3 40])))
def t_ : EF := ⟨[0], [.tmp 2], (.seq (.region 0 [.C 2 (.str [])])
 (.seq (.region 0 [.C 3 (.str [])])
 (.seq (.seq (.region 0 [.C 4 (.int .i64 0)])
 (.block 0 (.loop [0, 3, 4] [3] gQ)))
 (.seq (.block 4 (.loop [3] [3] iK))
 (.seq (.seq (.region 0 [.M 41 3,
 .o 42 (.fB .eql) [41, .k (.str [])]])
 (.cond (.t 42) (.seq (.region 0 [.C 2 (.str [48])])
 .ret)
 .skip))
 (.seq (.region 0 [.M 43 3,
 .M 2 43])
 .ret))))))⟩
def jg : EC := (.seq (.seq (.region 0 [.M 4 0,
 .o 5 (.aj .gtr) [4, .k (.int .u64 0)]])
 (.cond (.t 5) .skip
 (.exit 0)))
 (.seq (.block 1 (.region 1 [.M 8 3,
 .M 9 0,
 .o 10 (.aj .rem) [9, .k (.int .u64 1000000000)],
 .o 11 (.Iu 1 1 [.int .u64 0] [(0, 1)]) [10],
 .o 12 (.app 0 1) [8, 11],
 .M 3 12]))
 (.region 0 [.M 6 0,
 .o 7 (.aj .quo) [6, .k (.int .u64 1000000000)],
 .M 0 7])))
def yO : EF := ⟨[0], [.tmp 2], (.seq (.region 0 [.C 2 .dA])
 (.seq (.region 0 [.C 3 .dA])
 (.seq (.block 0 (.loop [0, 3] [3] jg))
 (.seq (.region 0 [.M 13 3,
 .M 2 13])
 .ret))))⟩
def mg : EC := (.seq (.block 1 (.seq (.region 0 [.o 12 (.aW 9) [1],
 .M 13 6,
 .o 14 (.ah qU) [12, 13],
 .M 11 14,
 .o 15 (.ext 0) [11],
 .o 16 (.ext 1) [11],
 .M 7 15,
 .M 8 16])
 (.seq (.seq (.region 0 [.M 17 8,
 .o 18 .not [17],
 .M 19 18,
 .g 19 false 20 .aX [7],
 .g 19 false 21 (.aU 0) [1],
 .g 19 false 22 .aC [21],
 .g 19 false 23 (.aj .leq) [20, 22],
 .o 24 .pick [19, .kb true, 23]])
 (.cond (.t 24) (.seq (.region 0 [.M 25 5,
 .M 26 7,
 .M 27 8,
 .M 2 25,
 .M 3 26,
 .M 4 27])
 .ret)
 .skip))
 (.region 1 [.M 28 5,
 .M 29 7,
 .o 30 (.Iu 1 1 [.int .i64 0] [(0, 1)]) [29],
 .o 31 (.app 0 1) [28, 30],
 .M 5 31]))))
 (.region 0 [.M 9 6,
 .o 10 (.aj .add) [9, .ki 1],
 .M 6 10]))
def DW : EF := ⟨[0], [.tmp 2, .tmp 3, .tmp 4], (.seq (.region 1 [.o 1 (.box 0) [0],
 .C 2 .dA,
 .C 3 (.int .i64 0),
 .C 4 (.bool false)])
 (.seq (.region 0 [.C 5 .dA])
 (.seq (.region 0 [.C 6 (.int .i64 0)])
 (.block 0 (.loop [1, 5, 6] [2, 3, 4] mg)))))⟩
def gU : EC := (.seq (.seq (.region 0 [.M 7 2,
 .M 8 3,
 .o 9 (.aj .lss) [7, 8]])
 (.cond (.t 9) .skip
 (.exit 0)))
 (.seq (.block 1 (.drawn 0 [(0, .M 14 0),
 (1, .M 15 2),
 (2, .M 16 0),
 (3, .M 17 3),
 (4, .M 18 0),
 (5, .M 19 3),
 (6, .o 20 (.bM 1) [18, 19]),
 (7, .o 21 .aC [20]),
 (8, .M 22 0),
 (9, .M 23 2),
 (10, .o 24 (.bM 1) [22, 23]),
 (11, .o 25 .aC [24]),
 (12, .o 26 (.bM 1) [14, 15]),
 (13, ⟨.store 1, [26, 21], none, none⟩),
 (14, .o 27 (.bM 1) [16, 17]),
 (15, ⟨.store 1, [27, 25], none, none⟩)]))
 (.region 0 [.M 10 2,
 .o 11 (.aj .add) [10, .ki 1],
 .M 12 3,
 .o 13 (.aj .sub) [12, .ki 1],
 .M 2 11,
 .M 3 13])))
def uf : EF := ⟨[0], [], (.seq (.region 0 [.M 4 0,
 .o 5 .dh [4],
 .o 6 (.aj .sub) [5, .ki 1],
 .C 2 (.int .i64 0),
 .M 3 6])
 (.block 0 (.loop [0, 2, 3] [] gU)))⟩
def LM : EF := ⟨[0, 1], [.tmp 4], (.seq (.region 0 [.C 4 .aF])
 (.seq (.seq (.region 0 [.M 5 0,
 .o 6 (.aj .eql) [5, .ki 0]])
 (.cond (.t 6) (.seq (.region 0 [.C 4 .aF])
 .ret)
 .skip))
 (.seq (.region 1 [.M 7 0,
 .M 8 1,
 .o 9 (.build [.int .i64 0, .str [], .aF] [(0, 1), (1, 1)]) [7, 8],
 .o 10 (.box 0) [9],
 .o 11 (.VL jO) [10],
 .M 4 11])
 .ret)))⟩
def DL : EF := ⟨[0], [.tmp 2], (.seq (.region 1 [.o 1 (.box 0) [0],
 .C 2 .aK])
 (.seq (.region 0 [.o 6 (.aU 2) [1],
 .o 7 .aC [6],
 .o 8 (.ah jQ) [.ki 1, 7],
 .M 5 8,
 .o 9 (.ext 0) [5],
 .o 10 (.ext 1) [5],
 .M 3 9,
 .M 4 10])
 (.seq (.region 0 [.o 11 (.aW 9) [1],
 .o 12 (.ah lD) [11],
 .M 13 3,
 .o 14 (.ah gV) [12, 13],
 .M 2 14])
 .ret)))⟩
def Og : EF := ⟨[0, 1], [.tmp 4, .tmp 5], (.seq (.region 2 [.o 2 (.box 0) [0],
 .o 3 (.box 1) [1],
 .C 4 .aK,
 .C 5 .aF])
 (.seq (.seq (.region 0 [.o 11 (.aW 9) [2],
 .o 12 (.ah qA) [11],
 .M 10 12,
 .o 13 (.ext 0) [10],
 .o 14 (.ext 1) [10],
 .M 6 13,
 .M 7 14])
 (.seq (.region 0 [.M 15 7,
 .o 16 (.eqN true true) [15, .k .aF]])
 (.cond (.t 16) (.seq (.region 0 [.M 17 7,
 .C 4 .aK,
 .M 5 17])
 .ret)
 .skip)))
 (.seq (.seq (.region 0 [.o 18 (.aW 9) [2],
 .o 19 (.aW 2) [3],
 .o 20 (.ah kX) [18, 19]])
 (.cond (.t 20) (.seq (.region 0 [.o 21 (.aW 9) [2],
 .o 22 (.ah qX) [21],
 .M 4 22,
 .C 5 .aF])
 .ret)
 .skip))
 (.seq (.region 0 [.o 24 (.aW 9) [2],
 .o 25 (.aW 2) [3],
 .o 26 (.aU 0) [3],
 .o 27 .aC [26],
 .o 28 (.aU 1) [3],
 .o 29 .aC [28],
 .o 30 (.ah uJ) [24, 25, 27, 29],
 .M 23 30,
 .o 31 (.ext 0) [23],
 .o 32 (.ext 1) [23],
 .M 8 31,
 .M 9 32])
 (.seq (.seq (.region 0 [.M 33 9,
 .o 34 (.eqN true true) [33, .k .aF]])
 (.cond (.t 34) (.seq (.region 0 [.M 35 9,
 .C 4 .aK,
 .M 5 35])
 .ret)
 .skip))
 (.seq (.region 0 [.o 36 (.aW 9) [2],
 .o 37 (.ah lD) [36],
 .M 38 8,
 .o 39 (.ah gV) [37, 38],
 .M 4 39,
 .C 5 .aF])
 .ret))))))⟩
def Gh : EF := ⟨[0], [.tmp 2], (.seq (.region 1 [.o 1 (.box 0) [0],
 .C 2 .aK])
 (.seq (.seq (.region 0 [.o 6 (.aW 9) [1],
 .o 7 (.ah lJ) [6],
 .o 8 (.eqN true true) [7, .k .aF]])
 (.cond (.t 8) (.seq (.region 0 [.o 9 (.ah rE) [.ki 0],
 .M 2 9])
 .ret)
 .skip))
 (.seq (.region 0 [.o 11 (.aU 4) [1],
 .o 12 .aC [11],
 .o 13 (.ah qI) [12],
 .M 10 13,
 .o 14 (.ext 0) [10],
 .o 15 (.ext 1) [10],
 .o 16 (.ext 2) [10],
 .M 3 14,
 .M 4 15,
 .M 5 16])
 (.seq (.region 0 [.M 17 3,
 .M 2 17])
 .ret))))⟩
def F9 : EF := ⟨[0, 1], [.cell 4 true 2, .tmp 5], (.seq (.region 2 [.o 2 (.box 0) [0],
 .o 4 (.alloc 1 [.int .i64 0, .int .i64 0]) [],
 .C 5 .aF])
 (.seq (.seq (.region 0 [.o 11 (.aW 9) [2],
 .M 12 1,
 .o 13 (.ah xE) [11, 12],
 .M 10 13,
 .o 14 (.ext 0) [10],
 .o 15 (.ext 1) [10],
 .M 6 14,
 .M 7 15])
 (.seq (.region 0 [.M 16 7,
 .o 17 (.eqN true true) [16, .k .aF]])
 (.cond (.t 17) (.seq (.region 0 [.o 18 (.build [.int .i64 0, .int .i64 0] []) [],
 .M 19 7,
 ⟨.store 2, [4, 18], none, none⟩,
 .M 5 19])
 .ret)
 .skip)))
 (.seq (.region 0 [.o 21 (.aW 9) [2],
 .o 22 (.ah qA) [21],
 .M 20 22,
 .o 23 (.ext 0) [20],
 .o 24 (.ext 1) [20],
 .M 8 23,
 .M 9 24])
 (.seq (.seq (.region 0 [.M 25 9,
 .o 26 (.eqN true true) [25, .k .aF]])
 (.cond (.t 26) (.seq (.region 0 [.o 27 (.build [.int .i64 0, .int .i64 0] []) [],
 .M 28 9,
 ⟨.store 2, [4, 27], none, none⟩,
 .M 5 28])
 .ret)
 .skip))
 (.seq (.region 0 [.M 29 8,
 .M 30 8,
 .M 31 1,
 .o 32 (.ah Bc) [30, 31],
 .o 33 (.bM 2) [29, 32],
 .o 34 (.aW 2) [33],
 ⟨.store 2, [4, 34], none, none⟩,
 .C 5 .aF])
 .ret)))))⟩
def LD : EF := ⟨[0, 1, 2], [.tmp 6, .tmp 7], (.seq (.region 2 [.o 3 (.box 0) [0],
 .o 4 (.box 1) [1],
 .C 6 .aK,
 .C 7 .aF])
 (.seq (.seq (.region 0 [.o 13 (.aU 5) [3],
 .o 14 .aC [13],
 .o 15 (.aj .eql) [14, .ki 4],
 .M 16 15,
 .g 16 true 17 (.aW 9) [3],
 .g 16 true 18 (.aW 2) [4],
 .g 16 true 19 (.ah kX) [17, 18],
 .o 20 .pick [16, 19, .kb false]])
 (.cond (.t 20) (.seq (.region 0 [.o 22 (.aW 9) [3],
 .o 23 (.aW 2) [4],
 .o 24 (.ah rX) [22, 23],
 .M 21 24,
 .o 25 (.ext 0) [21],
 .o 26 (.ext 1) [21],
 .M 8 25,
 .M 9 26])
 (.seq (.seq (.region 0 [.M 27 9,
 .o 28 (.eqN true true) [27, .k .aF]])
 (.cond (.t 28) (.seq (.region 0 [.M 29 9,
 .C 6 .aK,
 .M 7 29])
 .ret)
 .skip))
 (.seq (.region 0 [.M 31 2,
 .o 32 (.aU 0) [4],
 .o 33 .aC [32],
 .o 34 (.aj .sub) [31, 33],
 .o 35 (.aU 1) [4],
 .o 36 .aC [35],
 .o 37 (.aU 0) [4],
 .o 38 .aC [37],
 .o 39 (.aj .sub) [36, 38],
 .o 40 (.ah jQ) [34, 39],
 .M 30 40,
 .o 41 (.ext 0) [30],
 .o 42 (.ext 1) [30],
 .M 10 41,
 .M 9 42])
 (.seq (.region 0 [.M 43 8,
 .M 44 10,
 .o 45 (.ah gV) [43, 44],
 .M 46 9,
 .M 6 45,
 .M 7 46])
 .ret))))
 .skip))
 (.seq (.region 0 [.o 48 (.aW 9) [3],
 .o 49 (.aW 2) [4],
 .o 50 (.aU 0) [4],
 .o 51 .aC [50],
 .M 52 2,
 .o 53 (.ah uJ) [48, 49, 51, 52],
 .M 47 53,
 .o 54 (.ext 0) [47],
 .o 55 (.ext 1) [47],
 .M 11 54,
 .M 12 55])
 (.seq (.seq (.region 0 [.M 56 12,
 .o 57 (.eqN true true) [56, .k .aF]])
 (.cond (.t 57) (.seq (.region 0 [.M 58 12,
 .C 6 .aK,
 .M 7 58])
 .ret)
 .skip))
 (.seq (.region 0 [.o 59 (.aW 9) [3],
 .o 60 (.ah lD) [59],
 .M 61 11,
 .o 62 (.ah gV) [60, 61],
 .M 6 62,
 .C 7 .aF])
 .ret)))))⟩
def RP : EF := ⟨[0, 1], [.tmp 4, .tmp 5], (.seq (.region 1 [.o 2 (.box 0) [0],
 .C 4 (.bool false),
 .C 5 .aF])
 (.seq (.region 1 [.o 9 (.aW 9) [2],
 .M 10 1,
 .o 11 (.ah uH) [9, 10],
 .M 8 11,
 .o 12 (.ext 0) [8],
 .o 13 (.ext 1) [8],
 .o 6 (.alloc 0 [.int .i64 0, .int .i64 0]) [],
 ⟨.store 2, [6, 12], none, none⟩,
 .M 7 13])
 (.seq (.region 0 [.M 14 7,
 .o 15 (.eqN false true) [14, .k .aF],
 .M 16 15,
 .g 16 true 17 (.aU 8) [2],
 .g 16 true 18 .aC [17],
 .g 16 true 19 (.aj .gtr) [18, .ki 0],
 .o 20 .pick [16, 19, .kb false],
 .M 21 20,
 .g 21 true 22 .aX [1],
 .g 21 true 23 (.aU 1) [6],
 .g 21 true 24 .aC [23],
 .g 21 true 25 (.aU 8) [2],
 .g 21 true 26 .aC [25],
 .g 21 true 27 (.aj .sub) [24, 26],
 .g 21 true 28 (.aj .geq) [22, 27],
 .o 29 .pick [21, 28, .kb false],
 .M 30 7,
 .M 4 29,
 .M 5 30])
 .ret)))⟩
def kY : EC := (.seq (.region 0 [.o 42 (.aj .lss) [41, 40]])
 (.seq (.cond (.t 42) .skip
 (.exit 0))
 (.seq (.block 1 (.seq (.region 1 [.o 43 (.bM 2) [39, 41],
 .o 44 (.aW 2) [43],
 .o 12 (.alloc 0 [.int .i64 0, .str []]) [],
 ⟨.store 2, [12, 44], none, none⟩])
 (.seq (.region 0 [.o 46 (.aU 1) [12],
 .o 47 .aC [46],
 .o 48 (.ah IW) [47],
 .M 45 48,
 .o 49 (.ext 0) [45],
 .o 50 (.ext 1) [45],
 .M 13 49,
 .M 14 50])
 (.region 1 [.M 51 10,
 .M 52 13,
 .o 53 (.Iu 1 1 [.aK] [(0, 1)]) [52],
 .o 54 (.app 0 1) [51, 53],
 .M 10 54]))))
 (.region 0 [.o 55 (.aj .add) [41, .ki 1],
 .M 41 55]))))
def BO : EF := ⟨[0, 1], [.tmp 4, .tmp 5], (.seq (.region 1 [.o 2 (.box 0) [0],
 .C 4 .dA,
 .C 5 .aF])
 (.seq (.region 0 [.o 20 (.aW 9) [2],
 .M 21 1,
 .o 22 (.ah xR) [20, 21],
 .M 19 22,
 .o 23 (.ext 0) [19],
 .o 24 (.ext 1) [19],
 .o 25 (.ext 2) [19],
 .M 6 23,
 .M 7 24,
 .M 8 25])
 (.seq (.seq (.region 0 [.M 26 8,
 .o 27 (.eqN true true) [26, .k .aF]])
 (.cond (.t 27) (.seq (.region 0 [.M 28 8,
 .C 4 .dA,
 .M 5 28])
 .ret)
 .skip))
 (.seq (.region 0 [.o 30 (.aW 9) [2],
 .o 31 (.ah zh) [30],
 .M 29 31,
 .o 32 (.ext 0) [29],
 .o 33 (.ext 1) [29],
 .M 9 32,
 .M 8 33])
 (.seq (.seq (.region 0 [.M 34 8,
 .o 35 (.eqN true true) [34, .k .aF]])
 (.cond (.t 35) (.seq (.region 0 [.M 36 8,
 .C 4 .dA,
 .M 5 36])
 .ret)
 .skip))
 (.seq (.region 0 [.C 10 .dA])
 (.seq (.seq (.region 0 [.M 37 9,
 .M 38 7,
 .o 39 (.QI 2 true false) [37, 38],
 .o 40 .dh [39],
 .C 41 (.int .i64 0)])
 (.block 0 (.loop [1, 2, 6, 7, 10, 39, 40, 41] [1, 2, 6, 7, 10] kY)))
 (.seq (.seq (.region 0 [.o 57 (.aW 9) [2],
 .M 58 1,
 .o 59 (.ah Du) [57, 58],
 .M 56 59,
 .o 60 (.ext 0) [56],
 .o 61 (.ext 1) [56],
 .M 15 60,
 .M 16 61])
 (.seq (.region 0 [.M 62 15])
 (.join [4, 5, 10] (.cond (.t 62) (.seq (.drawn 0 [(0, .o 64 (.aW 9) [2]),
 (1, .M 65 6),
 (2, .M 66 7),
 (3, .o 67 (.bM 2) [65, 66]),
 (4, .o 68 (.aW 2) [67]),
 (5, .o 69 (.ah rX) [64, 68]),
 (6, .M 63 69),
 (7, .o 70 (.ext 0) [63]),
 (8, .o 71 (.ext 1) [63]),
 (9, .M 17 70),
 (10, .M 18 71)])
 (.seq (.seq (.region 0 [.M 72 18,
 .o 73 (.eqN true true) [72, .k .aF]])
 (.cond (.t 73) (.seq (.region 0 [.M 74 18,
 .C 4 .dA,
 .M 5 74])
 .ret)
 .skip))
 (.region 0 [.M 75 10,
 .M 76 10,
 .o 77 (.bM 1) [76, .ki 0],
 .o 78 .aC [77],
 .M 79 17,
 .o 80 (.ah iO) [78, 79],
 .o 81 (.bM 1) [75, .ki 0],
 ⟨.store 1, [81, 80], none, none⟩])))
 .skip))))
 (.seq (.region 0 [.M 82 10,
 .M 4 82,
 .C 5 .aF])
 .ret)))))))))⟩
def je : EC := (.seq (.seq (.region 0 [.M 23 12,
 .o 24 (.aj .geq) [23, .ki 0]])
 (.cond (.t 24) .skip
 (.exit 0)))
 (.seq (.join [1, 2, 8, 9, 10, 11, 12] (.block 1 (.seq (.drawn 0 [(0, .M 27 10),
 (1, .M 28 2),
 (2, .o 29 (.ah bZ) [27, 28]),
 (3, .M 30 8),
 (4, .M 31 12),
 (5, .o 32 (.bM 1) [30, 31]),
 (6, .o 33 .aC [32]),
 (7, .M 34 11),
 (8, .o 35 (.ah bZ) [33, 34]),
 (9, .o 36 (.ah iq) [29, 35]),
 (10, .M 10 36)])
 (.seq (.region 0 [.M 37 12,
 .o 38 (.aj .gtr) [37, .ki 0]])
 (.join [1, 2, 8, 9, 10, 11, 12] (.cond (.t 38) (.region 0 [.M 39 11,
 .M 40 1,
 .o 41 (.ah bZ) [39, 40],
 .M 11 41])
 .skip))))))
 (.region 0 [.M 25 12,
 .o 26 (.aj .sub) [25, .ki 1],
 .M 12 26])))
def DY : EF := ⟨[0, 1, 2], [.tmp 6, .tmp 7], (.seq (.region 0 [.C 6 .aK,
 .C 7 .aK])
 (.seq (.region 0 [.M 14 0,
 .o 15 (.ah vZ) [14],
 .M 13 15,
 .o 16 (.ext 0) [13],
 .o 17 (.ext 1) [13],
 .M 8 16,
 .M 9 17])
 (.seq (.region 0 [.o 18 (.ah jH) [.ki 0],
 .o 19 (.ah jH) [.ki 1],
 .M 10 18,
 .M 11 19])
 (.seq (.seq (.region 0 [.M 20 8,
 .o 21 .dh [20],
 .o 22 (.aj .sub) [21, .ki 1],
 .M 12 22])
 (.block 0 (.loop [1, 2, 8, 9, 10, 11, 12] [9, 10, 11] je)))
 (.seq (.region 0 [.M 42 10,
 .M 43 9,
 .M 44 11,
 .o 45 (.ah bZ) [43, 44],
 .M 6 42,
 .M 7 45])
 .ret)))))⟩
def Jp : EF := ⟨[0, 1], [.tmp 4, .tmp 5, .tmp 6], (.seq (.region 1 [.o 2 (.box 0) [0],
 .C 4 (.sl 0 []),
 .C 5 (.int .i64 0),
 .C 6 .aF])
 (.seq (.seq (.region 0 [.o 12 (.aW 9) [2],
 .M 13 1,
 .o 14 (.ah xE) [12, 13],
 .M 11 14,
 .o 15 (.ext 0) [11],
 .o 16 (.ext 1) [11],
 .M 7 15,
 .M 8 16])
 (.seq (.region 0 [.M 17 8,
 .o 18 (.eqN true true) [17, .k .aF]])
 (.cond (.t 18) (.seq (.region 0 [.M 19 8,
 .C 4 (.sl 0 []),
 .C 5 (.int .i64 0),
 .M 6 19])
 .ret)
 .skip)))
 (.seq (.region 0 [.o 21 (.aW 9) [2],
 .o 22 (.ah qA) [21],
 .M 20 22,
 .o 23 (.ext 0) [20],
 .o 24 (.ext 1) [20],
 .M 9 23,
 .M 10 24])
 (.seq (.region 0 [.M 25 9,
 .M 26 9,
 .M 27 1,
 .o 28 (.ah Bc) [26, 27],
 .M 29 10,
 .M 4 25,
 .M 5 28,
 .M 6 29])
 .ret))))⟩
def vM : EC := (.seq (.region 0 [.o 80 (.aj .lss) [79, 78]])
 (.seq (.cond (.t 80) .skip
 (.exit 0))
 (.seq (.block 1 (.seq (.region 1 [.o 81 (.bM 2) [77, 79],
 .o 82 (.aW 2) [81],
 .o 17 (.alloc 0 [.int .i64 0, .int .i64 0]) [],
 ⟨.store 2, [17, 82], none, none⟩])
 (.seq (.region 0 [.M 83 3,
 .o 84 (.aU 1) [17],
 .o 85 .aC [84],
 .o 86 .mn [83, 85],
 .M 87 2,
 .o 88 (.aU 0) [17],
 .o 89 .aC [88],
 .o 90 .mx [87, 89],
 .o 91 (.aj .sub) [86, 90],
 .M 18 91])
 (.seq (.region 0 [.M 93 18,
 .o 94 .mx [93, .ki 0],
 .o 95 (.aU 2) [4],
 .o 96 .aC [95],
 .o 97 (.aU 1) [17],
 .o 98 .aC [97],
 .o 99 (.aU 0) [17],
 .o 100 .aC [99],
 .o 101 (.aj .sub) [98, 100],
 .o 102 (.aj .mul) [96, 101],
 .o 103 (.ah jQ) [94, 102],
 .M 92 103,
 .o 104 (.ext 0) [92],
 .o 105 (.ext 1) [92],
 .M 19 104,
 .M 20 105])
 (.region 0 [.M 106 14,
 .M 107 19,
 .o 108 (.ah jq) [106, 107],
 .M 14 108])))))
 (.region 0 [.o 109 (.aj .add) [79, .ki 1],
 .M 79 109]))))
def LQ : EF := ⟨[0, 1, 2, 3], [.tmp 8, .tmp 9], (.seq (.region 2 [.o 4 (.box 0) [0],
 .o 5 (.box 1) [1],
 .C 8 .aK,
 .C 9 .aF])
 (.seq (.seq (.region 0 [.o 22 (.aW 9) [4],
 .o 23 (.ah qA) [22],
 .M 21 23,
 .o 24 (.ext 0) [21],
 .o 25 (.ext 1) [21],
 .M 10 24,
 .M 11 25])
 (.seq (.region 0 [.M 26 11,
 .o 27 (.eqN true true) [26, .k .aF]])
 (.cond (.t 27) (.seq (.region 0 [.M 28 11,
 .C 8 .aK,
 .M 9 28])
 .ret)
 .skip)))
 (.seq (.region 0 [.C 12 (.sl 0 [])])
 (.seq (.seq (.region 0 [.o 29 (.aU 5) [4],
 .o 30 .aC [29],
 .o 31 (.aj .eql) [30, .ki 4]])
 (.join [2, 3, 4, 5, 8, 9, 12] (.cond (.t 31) (.seq (.region 0 [.C 13 .aF])
 (.seq (.region 0 [.o 33 (.aW 9) [4],
 .o 34 (.aW 2) [5],
 .o 35 (.ah yA) [33, 34],
 .M 32 35,
 .o 36 (.ext 0) [32],
 .o 37 (.ext 1) [32],
 .M 12 36,
 .M 13 37])
 (.seq (.region 0 [.M 38 13,
 .o 39 (.eqN true true) [38, .k .aF]])
 (.cond (.t 39) (.seq (.region 0 [.M 40 13,
 .C 8 .aK,
 .M 9 40])
 .ret)
 .skip))))
 .skip)))
 (.seq (.seq (.region 0 [.M 41 2,
 .o 42 (.aU 0) [5],
 .o 43 .aC [42],
 .o 44 (.aj .lss) [41, 43],
 .M 45 44,
 .g 45 false 46 .aX [3],
 .g 45 false 47 .aX [2],
 .g 45 false 48 (.aj .lss) [46, 47],
 .o 49 .pick [45, .kb true, 48],
 .M 50 49,
 .g 50 false 51 (.aU 1) [5],
 .g 50 false 52 .aC [51],
 .g 50 false 53 .aX [3],
 .g 50 false 54 (.aj .lss) [52, 53],
 .o 55 .pick [50, .kb true, 54]])
 (.cond (.t 55) (.seq (.region 0 [.o 56 (.ah cZ) [.ki 6],
 .C 8 .aK,
 .M 9 56])
 .ret)
 .skip))
 (.seq (.seq (.region 0 [.o 57 (.aU 5) [4],
 .o 58 .aC [57],
 .o 59 (.aj .neq) [58, .ki 4]])
 (.cond (.t 59) (.seq (.region 0 [.o 60 (.aU 5) [4],
 .o 61 .aC [60],
 .M 62 2,
 .M 63 3,
 .o 64 (.aU 0) [5],
 .o 65 .aC [64],
 .o 66 (.aU 1) [5],
 .o 67 .aC [66],
 .o 68 (.aU 2) [4],
 .o 69 .aC [68],
 .o 70 (.ah tY) [61, 62, 63, 65, 67, 69],
 .o 71 (.ext 0) [70],
 .o 72 (.ext 1) [70],
 .M 8 71,
 .M 9 72])
 .ret)
 .skip))
 (.seq (.region 0 [.o 74 (.ah jQ) [.ki 0, .ki 1],
 .M 73 74,
 .o 75 (.ext 0) [73],
 .o 76 (.ext 1) [73],
 .M 14 75,
 .M 15 76])
 (.seq (.seq (.region 0 [.M 77 12,
 .o 78 .dh [77],
 .C 79 (.int .i64 0)])
 (.block 0 (.loop [2, 3, 4, 14, 77, 78, 79] [14] vM)))
 (.seq (.region 0 [.M 110 14,
 .M 8 110,
 .C 9 .aF])
 .ret)))))))))⟩
def L8 : EF := ⟨[], [.tmp 0], (.seq (.region 0 [.C 0 .aK])
 (.seq (.region 0 [.o 4 (.ah jQ) [.ki 1, .ki 1],
 .M 3 4,
 .o 5 (.ext 0) [3],
 .o 6 (.ext 1) [3],
 .M 1 5,
 .M 2 6])
 (.seq (.region 0 [.M 7 1,
 .M 0 7])
 .ret)))⟩
def DV : EF := ⟨[0, 1], [.tmp 4], (.seq (.region 2 [.o 2 (.box 0) [0],
 .o 3 (.box 1) [1],
 .C 4 (.bool false)])
 (.seq (.region 0 [.o 8 (.aW 9) [2],
 .o 9 (.aU 1) [3],
 .o 10 .aC [9],
 .o 11 (.ah oI) [8, 10],
 .M 7 11,
 .o 12 (.ext 0) [7],
 .o 13 (.ext 1) [7],
 .M 5 12,
 .M 6 13])
 (.seq (.region 0 [.M 14 6,
 .o 15 (.eqN false true) [14, .k .aF],
 .M 16 15,
 .g 16 true 17 .aX [5],
 .g 16 true 18 (.aU 0) [3],
 .g 16 true 19 .aC [18],
 .g 16 true 20 (.aj .eql) [17, 19],
 .o 21 .pick [16, 20, .kb false],
 .M 4 21])
 .ret)))⟩
def Xq : EF := ⟨[], [.tmp 0], (.seq (.region 0 [.C 0 (.bool false)])
 (.seq (.region 0 [.o 17 (.build [.int .i64 0, .int .i64 0, .int .i64 0] [(0, 1), (1, 1), (2, 1)]) [.ki 2000, .ki 2, .ki 29],
 .o 18 (.ah uV) [17],
 .M 16 18,
 .o 19 (.ext 0) [16],
 .o 20 (.ext 1) [16],
 .M 1 19,
 .M 2 20])
 (.seq (.region 1 [.M 22 1,
 .o 23 (.ah gJ) [22],
 .M 21 23,
 .o 24 (.ext 0) [21],
 .o 25 (.ext 1) [21],
 .o 3 (.alloc 0 [.int .i64 0, .int .i64 0, .int .i64 0]) [],
 ⟨.store 3, [3, 24], none, none⟩,
 .M 4 25])
 (.seq (.region 0 [.M 27 1,
 .o 28 (.ah nC) [27, .ki 12, .kb false],
 .M 26 28,
 .o 29 (.ext 0) [26],
 .o 30 (.ext 1) [26],
 .M 5 29,
 .M 6 30])
 (.seq (.region 0 [.o 32 (.ah wX) [.ki 2024],
 .M 31 32,
 .o 33 (.ext 0) [31],
 .o 34 (.ext 1) [31],
 .M 7 33,
 .M 8 34])
 (.seq (.region 1 [.o 35 (.build [.int .i64 0, .int .i64 0, .int .i64 0, .int .i64 0, .int .i64 0, .bool false] [(0, 1), (1, 1), (2, 1)]) [.ki 1, .ki 1, .ki 1],
 .o 9 (.alloc 0 [.int .i64 0, .int .i64 0, .int .i64 0, .int .i64 0, .int .i64 0, .bool false]) [],
 ⟨.store 6, [9, 35], none, none⟩])
 (.seq (.region 0 [.o 37 (.aW 6) [9],
 .o 38 (.Iu 6 1 [.int .i64 0, .int .i64 0, .int .i64 0, .int .i64 0, .int .i64 0, .bool false] [(0, 6)]) [37],
 .o 39 (.ah Dz) [38, .k (.sl 0 [])],
 .M 36 39,
 .o 40 (.ext 0) [36],
 .o 41 (.ext 1) [36],
 .M 10 40,
 .M 11 41])
 (.seq (.seq (.region 0 [.M 42 10,
 .o 43 (.vI false) [42, .k .aK]])
 (.cond (.t 43) (.seq (.region 0 [.C 0 (.bool false)])
 .ret)
 .skip))
 (.seq (.region 0 [.M 45 10,
 .o 46 (.ah Qu) [45, .ki 0, .ki 1],
 .M 44 46,
 .o 47 (.ext 0) [44],
 .o 48 (.ext 1) [44],
 .M 12 47,
 .M 13 48])
 (.seq (.region 0 [.o 50 (.ah qg) [],
 .M 51 1,
 .M 52 5,
 .o 53 (.ah tY) [50, 51, 52, .ki 0, .ki 0, .ki 0],
 .M 49 53,
 .o 54 (.ext 0) [49],
 .o 55 (.ext 1) [49],
 .M 14 54,
 .M 15 55])
 (.seq (.seq (.region 0 [.M 56 14,
 .o 57 (.vI false) [56, .k .aK]])
 (.cond (.t 57) (.seq (.region 0 [.C 0 (.bool false)])
 .ret)
 .skip))
 (.seq (.region 0 [.o 58 (.ah sU) [],
 .M 59 58,
 .g 59 true 60 .aX [2],
 .g 59 true 61 (.eqN false true) [60, .k .aF],
 .o 62 .pick [59, 61, .kb false],
 .M 63 62,
 .g 63 true 64 .aX [4],
 .g 63 true 65 (.eqN false true) [64, .k .aF],
 .o 66 .pick [63, 65, .kb false],
 .M 67 66,
 .g 67 true 68 (.aU 2) [3],
 .g 67 true 69 .aC [68],
 .g 67 true 70 (.aj .eql) [69, .ki 29],
 .o 71 .pick [67, 70, .kb false],
 .M 72 71,
 .g 72 true 73 .aX [1],
 .g 72 true 74 (.ah CO) [73],
 .g 72 true 75 (.fB .eql) [74, .k (.str [50, 48, 48, 48, 45, 48, 50, 45, 50, 57])],
 .o 76 .pick [72, 75, .kb false],
 .M 77 76,
 .g 77 true 78 .aX [6],
 .g 77 true 79 (.eqN false true) [78, .k .aF],
 .o 80 .pick [77, 79, .kb false],
 .M 81 80,
 .g 81 true 82 .aX [5],
 .g 81 true 83 (.ah CO) [82],
 .g 81 true 84 (.fB .eql) [83, .k (.str [50, 48, 48, 49, 45, 48, 50, 45, 50, 56])],
 .o 85 .pick [81, 84, .kb false],
 .M 86 85,
 .g 86 true 87 .aX [8],
 .g 86 true 88 (.eqN false true) [87, .k .aF],
 .o 89 .pick [86, 88, .kb false],
 .M 90 89,
 .g 90 true 91 .aX [7],
 .g 90 true 92 (.ah CO) [91],
 .g 90 true 93 (.fB .eql) [92, .k (.str [50, 48, 50, 52, 45, 48, 51, 45, 51, 49])],
 .o 94 .pick [90, 93, .kb false],
 .M 95 94,
 .g 95 true 96 .aX [11],
 .g 95 true 97 (.eqN false true) [96, .k .aF],
 .o 98 .pick [95, 97, .kb false],
 .M 99 98,
 .g 99 true 100 .aX [10],
 .g 99 true 101 (.ah vC) [100, .ki 0],
 .g 99 true 102 .not [101],
 .o 103 .pick [99, 102, .kb false],
 .M 104 103,
 .g 104 true 105 .aX [10],
 .g 104 true 106 (.ah vC) [105, .ki 1],
 .o 107 .pick [104, 106, .kb false],
 .M 108 107,
 .g 108 true 109 .aX [13],
 .g 108 true 110 (.eqN false true) [109, .k .aF],
 .o 111 .pick [108, 110, .kb false],
 .M 112 111,
 .g 112 true 113 .aX [12],
 .g 112 true 114 (.aj .eql) [113, .ki 1],
 .o 115 .pick [112, 114, .kb false],
 .M 116 115,
 .g 116 true 117 .aX [15],
 .g 116 true 118 (.eqN false true) [117, .k .aF],
 .o 119 .pick [116, 118, .kb false],
 .M 120 119,
 .g 120 true 121 .aX [14],
 .g 120 true 122 (.ah gu) [121],
 .g 120 true 123 (.fB .eql) [122, .k (.str [51, 53, 57, 47, 51, 54, 48])],
 .o 124 .pick [120, 123, .kb false],
 .M 125 124,
 .g 125 true 126 (.ah fC) [.ki 0],
 .g 125 true 127 (.aj .eql) [126, .ki 1],
 .o 128 .pick [125, 127, .kb false],
 .M 129 128,
 .g 129 true 130 (.aW 6) [9],
 .g 129 true 131 (.ah UO) [130, .ki 0],
 .o 132 .pick [129, 131, .kb false],
 .M 133 132,
 .g 133 true 134 .aX [1],
 .g 133 true 135 (.ah um) [134],
 .o 136 .pick [133, 135, .kb false],
 .M 137 136,
 .g 137 true 138 .aX [10],
 .g 137 true 139 (.Iu 1 2 [.aK] [(0, 1), (1, 1)]) [138, .k .aK],
 .g 137 true 140 (.ah Hz) [139],
 .g 137 true 141 (.vI true) [140, .k .aK],
 .o 142 .pick [137, 141, .kb false],
 .M 0 142])
 .ret))))))))))))⟩
def LG : EF := ⟨[0], [.tmp 2], (.seq (.region 1 [.o 1 (.box 0) [0],
 .C 2 .aF])
 (.seq (.block 0 (.seq (.region 0 [.o 6 (.aU 0) [1],
 .o 7 .aC [6],
 .o 8 (.ah fC) [7],
 .o 9 (.aj .lss) [8, .ki 0],
 .M 5 9])
 (.cond (.t 5) (.seq (.region 0 [.o 10 (.ah gW) [.ki 4, .k (.str [105, 115, 115, 117, 101])],
 .M 2 10])
 .ret)
 (.seq (.region 0 [.o 12 (.aU 1) [1],
 .o 13 .aC [12],
 .o 14 (.ah fC) [13],
 .o 15 (.aj .lss) [14, .ki 0],
 .M 11 15])
 (.cond (.t 11) (.seq (.region 0 [.o 16 (.ah gW) [.ki 4, .k (.str [109, 97, 116, 117, 114, 101])],
 .M 2 16])
 .ret)
 (.seq (.region 0 [.o 18 (.aU 1) [1],
 .o 19 .aC [18],
 .o 20 (.aU 0) [1],
 .o 21 .aC [20],
 .o 22 (.aj .leq) [19, 21],
 .M 17 22])
 (.cond (.t 17) (.seq (.region 0 [.o 23 (.ah gW) [.ki 5, .k (.str [109, 97, 116, 117, 114, 101])],
 .M 2 23])
 .ret)
 .skip)))))))
 (.seq (.seq (.region 0 [.o 25 (.aU 0) [1],
 .o 26 .aC [25],
 .o 27 (.ah nC) [26, .ki 360, .kb false],
 .M 24 27,
 .o 28 (.ext 0) [24],
 .o 29 (.ext 1) [24],
 .M 3 28,
 .M 4 29])
 (.seq (.region 0 [.M 30 4,
 .o 31 (.eqN false true) [30, .k .aF],
 .M 32 31,
 .g 32 true 33 (.aU 1) [1],
 .g 32 true 34 .aC [33],
 .g 32 true 35 .aX [3],
 .g 32 true 36 (.aj .gtr) [34, 35],
 .o 37 .pick [32, 36, .kb false]])
 (.cond (.t 37) (.seq (.region 0 [.o 38 (.ah gW) [.ki 5, .k (.str [109, 97, 116, 117, 114, 101])],
 .M 2 38])
 .ret)
 .skip)))
 (.seq (.region 0 [.C 2 .aF])
 .ret))))⟩
def LH : EF := ⟨[0], [.tmp 2], (.seq (.region 1 [.o 1 (.box 0) [0],
 .C 2 .aF])
 (.seq (.region 0 [.o 7 (.aU 3) [1],
 .o 8 .aC [7],
 .o 9 (.ah qI) [8],
 .M 6 9,
 .o 10 (.ext 0) [6],
 .o 11 (.ext 1) [6],
 .o 12 (.ext 2) [6],
 .M 3 10,
 .M 4 11,
 .M 5 12])
 (.seq (.block 0 (.seq (.region 0 [.M 14 5,
 .o 15 (.eqN true true) [14, .k .aF],
 .M 13 15])
 (.cond (.t 13) (.seq (.region 0 [.o 16 (.ah gW) [.ki 1, .k (.str [99, 111, 117, 112, 111, 110])],
 .M 2 16])
 .ret)
 (.seq (.region 0 [.M 18 4,
 .o 19 .not [18],
 .M 20 19,
 .g 20 false 21 .aX [3],
 .g 20 false 22 (.ah iE) [21],
 .g 20 false 23 (.aj .lss) [22, .ki 0],
 .o 24 .pick [20, .kb true, 23],
 .M 25 24,
 .g 25 false 26 .aX [3],
 .g 25 false 27 (.ah rE) [.ki 30],
 .g 25 false 28 (.ah iM) [26, 27],
 .g 25 false 29 (.aj .gtr) [28, .ki 0],
 .o 30 .pick [25, .kb true, 29],
 .M 17 30])
 (.cond (.t 17) (.seq (.region 0 [.o 31 (.ah gW) [.ki 5, .k (.str [99, 111, 117, 112, 111, 110])],
 .M 2 31])
 .ret)
 .skip)))))
 (.seq (.region 0 [.o 33 (.aU 4) [1],
 .o 34 .aC [33],
 .o 35 (.ah qI) [34],
 .M 32 35,
 .o 36 (.ext 0) [32],
 .o 37 (.ext 1) [32],
 .o 38 (.ext 2) [32],
 .M 3 36,
 .M 4 37,
 .M 5 38])
 (.seq (.block 1 (.seq (.region 0 [.M 40 5,
 .o 41 (.eqN true true) [40, .k .aF],
 .M 39 41])
 (.cond (.t 39) (.seq (.region 0 [.o 42 (.ah gW) [.ki 1, .k (.str [114, 101, 100, 101, 101, 109])],
 .M 2 42])
 .ret)
 (.seq (.region 0 [.M 44 4,
 .o 45 .not [44],
 .M 46 45,
 .g 46 false 47 .aX [3],
 .g 46 false 48 (.ah iE) [47],
 .g 46 false 49 (.aj .leq) [48, .ki 0],
 .o 50 .pick [46, .kb true, 49],
 .M 51 50,
 .g 51 false 52 .aX [3],
 .g 51 false 53 (.ah rE) [.ki 200],
 .g 51 false 54 (.ah iM) [52, 53],
 .g 51 false 55 (.aj .gtr) [54, .ki 0],
 .o 56 .pick [51, .kb true, 55],
 .M 43 56])
 (.cond (.t 43) (.seq (.region 0 [.o 57 (.ah gW) [.ki 5, .k (.str [114, 101, 100, 101, 101, 109])],
 .M 2 57])
 .ret)
 .skip)))))
 (.seq (.region 0 [.C 2 .aF])
 .ret))))))⟩
def LJ : EF := ⟨[0], [.tmp 2], (.seq (.region 0 [.C 2 (.bool false)])
 (.seq (.region 0 [.M 3 0,
 .o 4 (.aj .geq) [3, .ki 1],
 .M 5 4,
 .g 5 true 6 .aX [0],
 .g 5 true 7 (.aj .leq) [6, .ki 4],
 .o 8 .pick [5, 7, .kb false],
 .M 2 8])
 .ret))⟩
def BM : EF := ⟨[0, 1], [.tmp 4], (.seq (.region 0 [.C 4 (.int .i64 0)])
 (.seq (.region 1 [.M 10 0,
 .o 11 (.ah gJ) [10],
 .M 9 11,
 .o 12 (.ext 0) [9],
 .o 13 (.ext 1) [9],
 .o 5 (.alloc 0 [.int .i64 0, .int .i64 0, .int .i64 0]) [],
 ⟨.store 3, [5, 12], none, none⟩,
 .M 6 13])
 (.seq (.region 1 [.M 15 1,
 .o 16 (.ah gJ) [15],
 .M 14 16,
 .o 17 (.ext 0) [14],
 .o 18 (.ext 1) [14],
 .o 7 (.alloc 0 [.int .i64 0, .int .i64 0, .int .i64 0]) [],
 ⟨.store 3, [7, 17], none, none⟩,
 .M 8 18])
 (.seq (.seq (.region 0 [.M 19 6,
 .o 20 (.eqN true true) [19, .k .aF],
 .M 21 20,
 .g 21 false 22 .aX [8],
 .g 21 false 23 (.eqN true true) [22, .k .aF],
 .o 24 .pick [21, .kb true, 23]])
 (.cond (.t 24) (.seq (.region 0 [.C 4 (.int .i64 0)])
 .ret)
 .skip))
 (.seq (.region 0 [.o 25 (.aU 0) [7],
 .o 26 .aC [25],
 .o 27 (.aU 0) [5],
 .o 28 .aC [27],
 .o 29 (.aj .sub) [26, 28],
 .o 30 (.aj .mul) [29, .ki 12],
 .o 31 (.aU 1) [7],
 .o 32 .aC [31],
 .o 33 (.aj .add) [30, 32],
 .o 34 (.aU 1) [5],
 .o 35 .aC [34],
 .o 36 (.aj .sub) [33, 35],
 .M 4 36])
 .ret)))))⟩
def DU : EF := ⟨[0], [.tmp 2], (.seq (.region 0 [.C 2 (.str [])])
 (.seq (.seq (.region 0 [.M 3 0,
 .o 4 (.ah dI) [3],
 .o 5 (.aj .lss) [4, .ki 0]])
 (.cond (.t 5) (.seq (.region 0 [.M 6 0,
 .o 7 (.ah bW) [6],
 .o 8 (.ah jE) [7],
 .o 9 (.fB .add) [.k (.str [45]), 8],
 .M 2 9])
 .ret)
 .skip))
 (.seq (.region 0 [.M 10 0,
 .o 11 (.ah bW) [10],
 .o 12 (.ah jE) [11],
 .M 2 12])
 .ret)))⟩
def RS : EF := ⟨[0], [.tmp 2], (.seq (.region 0 [.C 2 .aK])
 (.seq (.region 0 [.M 6 0,
 .o 7 (.ah jQ) [6, .ki 1],
 .M 5 7,
 .o 8 (.ext 0) [5],
 .o 9 (.ext 1) [5],
 .M 3 8,
 .M 4 9])
 (.seq (.region 0 [.M 10 3,
 .M 2 10])
 .ret)))⟩
def Je : EF := ⟨[0], [.tmp 2, .tmp 3, .tmp 4], (.seq (.region 0 [.C 2 .aK,
 .C 3 (.bool false),
 .C 4 .aF])
 (.seq (.region 0 [.M 9 0,
 .o 10 (.ah uX) [9],
 .M 8 10,
 .o 11 (.ext 0) [8],
 .o 12 (.ext 1) [8],
 .o 13 (.ext 2) [8],
 .M 5 11,
 .M 6 12,
 .M 7 13])
 (.seq (.region 0 [.M 14 5,
 .M 15 6,
 .o 16 (.aj .leq) [15, .ki 6],
 .M 17 7,
 .M 2 14,
 .M 3 16,
 .M 4 17])
 .ret)))⟩
def fD : EC := (.seq (.region 0 [.o 9 (.aj .lss) [8, 7]])
 (.seq (.cond (.t 9) .skip
 (.exit 0))
 (.seq (.block 1 (.seq (.region 0 [.M 10 8,
 .M 5 10])
 (.seq (.region 0 [.M 11 1,
 .M 12 0,
 .M 13 5,
 .o 14 (.bM 2) [12, 13],
 .o 15 (.aW 2) [14],
 .o 16 .DC [11, 15]])
 (.cond (.t 16) (.seq (.region 0 [.M 17 5,
 .M 4 17])
 .ret)
 .skip))))
 (.region 0 [.o 18 (.aj .add) [8, .ki 1],
 .M 8 18]))))
def kT : EF := ⟨[0, 1], [.tmp 4], (.seq (.region 0 [.C 4 (.int .i64 0)])
 (.seq (.seq (.region 0 [.M 6 0,
 .o 7 .dh [6],
 .C 8 (.int .i64 0)])
 (.block 0 (.loop [0, 1, 7, 8] [4] fD)))
 (.seq (.region 0 [.C 4 (.int .i64 (-1))])
 .ret)))⟩
def L6 : EF := ⟨[0, 1], [.tmp 3], (.seq (.region 1 [.o 2 (.box 0) [0],
 .C 3 (.bool false)])
 (.seq (.region 0 [.o 4 (.aU 0) [2],
 .o 5 .aC [4],
 .o 6 .aC [1],
 .o 7 (.aj .leq) [5, 6],
 .M 8 7,
 .g 8 true 9 .aC [1],
 .g 8 true 10 (.aU 1) [2],
 .g 8 true 11 .aC [10],
 .g 8 true 12 (.aj .lss) [9, 11],
 .o 13 .pick [8, 12, .kb false],
 .M 3 13])
 .ret))⟩
def Sv : EF := ⟨[0, 1], [.tmp 4], (.seq (.region 0 [.C 4 .aK])
 (.seq (.region 1 [.M 5 0,
 .M 6 5,
 .g 6 true 7 .aX [1],
 .g 6 true 8 (.ah fK) [7],
 .g 6 true 9 .not [8],
 .o 10 .pick [6, 9, .kb false],
 .M 11 1,
 .o 12 (.build [.bool false, .aK] [(0, 1), (1, 1)]) [10, 11],
 .o 13 (.box 0) [12],
 .M 4 13])
 .ret))⟩
def Gx : EF := ⟨[0], [.tmp 2], (.seq (.region 0 [.C 2 .aK])
 (.seq (.seq (.region 0 [.M 3 0,
 .o 4 (.vI false) [3, .k .aK],
 .M 5 4,
 .g 5 false 6 .aX [0],
 .g 5 false 7 .nR [6],
 .g 5 false 8 (.aU 1) [7],
 .g 5 false 9 .aC [8],
 .g 5 false 10 (.vI false) [9, .k .aK],
 .o 11 .pick [5, .kb true, 10]])
 (.cond (.t 11) (.seq (.region 0 [.o 12 (.ah jc) [.k (.int .u64 0)],
 .M 2 12])
 .ret)
 .skip))
 (.seq (.region 0 [.M 13 0,
 .o 14 .nR [13],
 .o 15 (.aU 1) [14],
 .o 16 .aC [15],
 .M 2 16])
 .ret)))⟩
def ql : EC := (.seq (.region 0 [.o 36 (.aj .lss) [35, 34]])
 (.seq (.cond (.t 36) .skip
 (.exit 2))
 (.seq (.block 3 (.seq (.region 0 [.M 37 35,
 .o 38 (.bM 1) [33, 35],
 .o 39 .aC [38],
 .M 11 37,
 .M 12 39])
 (.seq (.region 0 [.M 41 9,
 .M 42 12,
 .o 43 (.ah bits_Mul64) [41, 42],
 .M 40 43,
 .o 44 (.ext 0) [40],
 .o 45 (.ext 1) [40],
 .M 13 44,
 .M 14 45])
 (.seq (.region 0 [.C 15 (.int .u64 0)])
 (.seq (.region 0 [.M 47 14,
 .M 48 7,
 .M 49 8,
 .M 50 11,
 .o 51 (.aj .add) [49, 50],
 .o 52 (.bM 1) [48, 51],
 .o 53 .aC [52],
 .o 54 (.ah bits_Add64) [47, 53, .k (.int .u64 0)],
 .M 46 54,
 .o 55 (.ext 0) [46],
 .o 56 (.ext 1) [46],
 .M 14 55,
 .M 15 56])
 (.seq (.region 0 [.M 57 13,
 .M 58 15,
 .o 59 (.aj .add) [57, 58],
 .M 13 59])
 (.seq (.region 0 [.M 61 14,
 .M 62 10,
 .o 63 (.ah bits_Add64) [61, 62, .k (.int .u64 0)],
 .M 60 63,
 .o 64 (.ext 0) [60],
 .o 65 (.ext 1) [60],
 .M 14 64,
 .M 15 65])
 (.region 0 [.M 66 7,
 .M 67 8,
 .M 68 11,
 .o 69 (.aj .add) [67, 68],
 .M 70 14,
 .M 71 13,
 .M 72 15,
 .o 73 (.aj .add) [71, 72],
 .o 74 (.bM 1) [66, 69],
 ⟨.store 1, [74, 70], none, none⟩,
 .M 10 73]))))))))
 (.region 0 [.o 75 (.aj .add) [35, .ki 1],
 .M 35 75]))))
def qm : EC := (.seq (.region 0 [.o 29 (.aj .lss) [28, 27]])
 (.seq (.cond (.t 29) .skip
 (.exit 0))
 (.seq (.block 1 (.seq (.region 0 [.M 30 28,
 .o 31 (.bM 1) [26, 28],
 .o 32 .aC [31],
 .M 8 30,
 .M 9 32])
 (.seq (.region 0 [.C 10 (.int .u64 0)])
 (.seq (.seq (.region 0 [.M 33 6,
 .o 34 .dh [33],
 .C 35 (.int .i64 0)])
 (.block 2 (.loop [6, 7, 8, 9, 10, 26, 27, 28, 33, 34, 35] [6, 7, 8, 10, 26, 27, 28] ql)))
 (.region 0 [.M 76 7,
 .M 77 8,
 .M 78 6,
 .o 79 .dh [78],
 .o 80 (.aj .add) [77, 79],
 .M 81 10,
 .o 82 (.bM 1) [76, 80],
 ⟨.store 1, [82, 81], none, none⟩])))))
 (.region 0 [.o 83 (.aj .add) [28, .ki 1],
 .M 28 83]))))
def Gt : EF := ⟨[0, 1], [.tmp 4], (.seq (.region 0 [.C 4 .aK])
 (.seq (.region 0 [.M 16 0,
 .o 17 (.ah dD) [16],
 .M 18 1,
 .o 19 (.ah dD) [18],
 .M 5 17,
 .M 6 19])
 (.seq (.region 1 [.M 20 5,
 .o 21 .dh [20],
 .M 22 6,
 .o 23 .dh [22],
 .o 24 (.aj .add) [21, 23],
 .o 25 (.Ia 0 1 [.int .u64 0]) [24, 24],
 .M 7 25])
 (.seq (.seq (.region 0 [.M 26 5,
 .o 27 .dh [26],
 .C 28 (.int .i64 0)])
 (.block 0 (.loop [6, 7, 26, 27, 28] [7] qm)))
 (.seq (.region 0 [.M 84 7,
 .o 85 (.wI gq) [84],
 .M 4 85])
 .ret)))))⟩
def GL : EF := ⟨[0, 1], [.tmp 4], (.seq (.region 0 [.C 4 .aK])
 (.seq (.region 0 [.M 5 0,
 .M 6 1,
 .o 7 (.ah nZ) [6],
 .o 8 (.ah iq) [5, 7],
 .M 4 8])
 .ret))⟩
def Vz : EF := ⟨[0], [.tmp 2], (.seq (.region 0 [.C 2 .aK])
 (.seq (.region 0 [.M 3 0,
 .o 4 (.Iu 1 1 [.int .u64 0] [(0, 1)]) [3],
 .o 5 (.ah gq) [4],
 .M 2 5])
 .ret))⟩
end Go.Ev.Code
end
