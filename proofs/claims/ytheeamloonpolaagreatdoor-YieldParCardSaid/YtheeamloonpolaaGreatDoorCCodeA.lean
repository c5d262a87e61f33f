/- A part of the proof of riskZero_card, yieldPar_card, pricePar_card. -/
import Derived.Test.YtheeamloonpolaaGreatDoorCDef
set_option linter.unusedVariables false
section
namespace Go.Ev.Code
open Go.Ev
def jL:Nat:=4
def jJ:Nat:=5
def jM:Nat:=6
def d_:Nat:=7
def kV:Nat:=8
def iL:Nat:=9
def jc:Nat:=10
def iQ:Nat:=11
def j_:Nat:=12
def dY:Nat:=13
def iC:Nat:=14
def iT:Nat:=15
def jT:Nat:=16
def jU:Nat:=17
def jo:Nat:=18
def iM:Nat:=19
def oq:Nat:=20
def fE:Nat:=21
def lS:Nat:=22
def jB:Nat:=23
def jR:Nat:=24
def nN:Nat:=25
def BK:Nat:=26
def zZ:Nat:=27
def Em:Nat:=28
def vC:Nat:=29
def uO:Nat:=30
def mg:Nat:=31
def kJ:Nat:=32
def lX:Nat:=33
def lW:Nat:=34
def Ci:Nat:=35
def jd:Nat:=36
def nI:Nat:=37
def qZ:Nat:=38
def oC:Nat:=39
def fA:Nat:=40
def mF:Nat:=41
def uo:Nat:=42
def dG:Nat:=43
def jI:Nat:=44
def bW:Nat:=45
def iy:Nat:=46
def xq:Nat:=47
def dD:Nat:=48
def dO:Nat:=49
def dK:Nat:=50
def oL:Nat:=51
def o8:Nat:=53
def xw:Nat:=54
def o9:Nat:=55
def kD:Nat:=56
def zy:Nat:=57
def xA:Nat:=58
def jq:Nat:=59
def L9:Nat:=60
def jH:Nat:=61
def kX:Nat:=62
def xg:Nat:=63
def slices_Reverse_int:Nat:=64
def gY:Nat:=65
def wF:Nat:=66
def vI:Nat:=67
def sJ:Nat:=68
def uj:Nat:=69
def oW:Nat:=70
def vN:Nat:=71
def Dx:Nat:=72
def Ej:Nat:=73
def yS:Nat:=74
def vT:Nat:=75
def nU:Nat:=76
def D8:Nat:=77
def lN:Nat:=78
def lC:Nat:=79
def uP:Nat:=80
def DC:Nat:=81
def DF:Nat:=82
def yG:Nat:=83
def kG:Nat:=84
def sV:Nat:=85
def rH:Nat:=86
def gK:Nat:=87
def yP:Nat:=88
def lT:Nat:=89
def Je:Nat:=90
def iH:Nat:=91
def iW:Nat:=92
def bV:Nat:=93
def jm:Nat:=94
def ji:Nat:=95
def kQ:Nat:=96
def nR:Nat:=97
def xk:Nat:=98
def fQ:Nat:=99
def oZ:Nat:=100
def jl:Nat:=101
def rX:Nat:=106
def rW:Nat:=107
def jF:Nat:=108
def kY:Nat:=109
def rY:Nat:=110
def strings_CutPrefix:Nat:=111
def strings_Cut:Nat:=112
def lV:Nat:=113
def nM:Nat:=114
def jr:Nat:=115
def I7:Nat:=116
def Ak:Nat:=117
def zk:Nat:=118
def uU:Nat:=119
def pO:Nat:=120
def wE:Nat:=121
def gU:Nat:=122
def oI:Nat:=123
def yj:Nat:=124
def Ep:Nat:=125
def Ry:Nat:=126
def qO:Nat:=127
def uM:Nat:=128
def DJ:Nat:=129
def wM:Nat:=130
def fD:Nat:=131
def VL:Nat:=132
def vk:Nat:=133
def Ie:Nat:=134
def LU:Nat:=135
def gI:Nat:=136
def dI:Nat:=137
def bits_Mul64:Nat:=138
def bits_Add64:Nat:=139
def nS:Nat:=140
def bits_Sub64:Nat:=141
def yL:Nat:=142
def yN:Nat:=143
def Iw:Nat:=144
def iG:Nat:=145
def dW:Nat:=148
def gQ:Nat:=149
def strings_Repeat:Nat:=150
def slices_Reverse_string:Nat:=151
def strings_Join:Nat:=152
def iO:Nat:=162
def rQ:Nat:=163
def wO:Nat:=164
def AL:Nat:=165
def Bl:Nat:=166
def jg:Nat:=167
def rJ:Nat:=168
def IZ:Nat:=169
def Am:Nat:=170
def iF:Nat:=171
def IX:Nat:=172
def Ij:Nat:=173
def jZ:Nat:=174
def IY:Nat:=175
def DL:Nat:=176
def wu:Nat:=177
def Fb:Nat:=178
def uN:Nat:=179
def zh:Nat:=180
def Bd:Nat:=181
def Cc:Nat:=182
def nat_bit:Nat:=183
def D5:Nat:=184
def uT:Nat:=185
def bits_LeadingZeros64:Nat:=186
def Bc:Nat:=187
def DZ:Nat:=188
def D6:Nat:=189
def DY:Nat:=190
def DI:Nat:=206
def lD:Nat:=207
def lY:Nat:=208
def pV:Nat:=209
def QM:Nat:=210
def DN:Nat:=211
def NT:Nat:=212
def NU:Nat:=213
def uJ:Nat:=214
def DX:Nat:=215
def strconv_Itoa:Nat:=216
def bits_TrailingZeros64:Nat:=217
def KQ:Nat:=239
def Js:Nat:=240
def I8:Nat:=241
def BO:Nat:=242
def uK:Nat:=243
def ql:Nat:=244
def BN:Nat:=258
def JJ:Nat:=259
def vS:Nat:=260
def I9:Nat:=261
def uh:Nat:=264
def I_:Nat:=265
def pY:Nat:=283
def zV:Nat:=284
def iU:Nat:=285
def kT:Nat:=286
def eU:Nat:=293
def kZ:Nat:=127
def jQ:Nat:=88
def BJ:Nat:=198
def hndB:Nat:=16
end Go.Ev.Code
namespace Go.Ev
instance (n:Nat):OfNat Aj n:=⟨.t n⟩
abbrev Aj.ki (n:Int):Aj := .k (.int .i64 n)
abbrev Aj.kb (b:Bool):Aj := .k (.bool b)
end Go.Ev
end
section
namespace Go.Ev.Code
open Go.Ev
def qF:EF:=⟨[0,1,2,3],[.tmp 8],(.seq (.region 0 [.C 8 (.bool false)])
 (.seq (.region 0 [.o 14 (.ah d_) [],
 .M 9 14])
 (.seq (.seq (.region 0 [.M 15 9,
 .o 16 .not [15]])
 (.cond (.t 16) (.seq (.region 0 [.C 8 (.bool false)])
 .ret)
 .skip))
 (.seq (.region 0 [.M 17 1,
 .o 18 (.aj .rem) [17,.ki 10],
 .o 19 (.aj .add) [18,.ki 10],
 .o 20 (.aj .rem) [19,.ki 10],
 .o 21 (.aj .add) [.ki 1,20],
 .M 22 3,
 .o 23 (.ah kV) [22],
 .M 1 21,
 .M 3 23])
 (.seq (.region 1 [.o 24 (.ah iL) [.k (.str [48]),.ki 1],
 .o 10 (.alloc 0 [.int .i64 0,.int .i64 0,.int .i64 0,.str [],.str [],.int .i64 0,.int .i64 0,.bool false,.int .i64 0]) [],
 ⟨.store 9,[10,24],none,none⟩])
 (.seq (.drawn 0 [(0,.M 25 0),
 (1,.o 26 (.ah j_) [25]),
 (2,.o 27 (.aj .rem) [26,.ki 90000]),
 (3,.o 28 (.aj .add) [.ki 3000,27]),
 (4,.o 29 (.Df 1 3 [.int .i64 0] [(0,1),(1,1),(2,1)]) [.ki 1,.ki 2,.ki 4]),
 (5,.M 30 2),
 (6,.o 31 (.aj .rem) [30,.ki 3]),
 (7,.o 32 (.aj .add) [31,.ki 3]),
 (8,.o 33 (.aj .rem) [32,.ki 3]),
 (9,.o 34 (.bM 1) [29,33]),
 (10,.o 35 .W9 [34]),
 (11,.o 36 (.aK 0) [10]),
 (12,⟨.store 1,[36,28],none,none⟩),
 (13,.o 37 (.aK 2) [10]),
 (14,⟨.store 1,[37,35],none,none⟩)])
 (.seq (.region 1 [.o 38 (.aK 0) [10],
 .o 39 .au [38],
 .o 40 (.ah iM) [39],
 .o 11 (.alloc 0 [.int .i64 0,.int .i64 0,.int .i64 0]) [],
 ⟨.store 3,[11,40],none,none⟩])
 (.seq (.seq (.region 0 [.o 41 (.aK 2) [11],
 .o 42 .au [41],
 .o 43 (.aj .gtr) [42,.ki 28]])
 (.join [1,3,10] (.cond (.t 43) (.region 0 [.o 44 (.aK 0) [10],
 .o 45 .au [44],
 .o 46 (.aj .sub) [45,.ki 3],
 .o 47 (.aK 0) [10],
 ⟨.store 1,[47,46],none,none⟩])
 .skip)))
 (.seq (.region 0 [.o 49 (.aK 0) [10],
 .o 50 .au [49],
 .M 51 1,
 .o 52 (.aj .mul) [.ki 12,51],
 .o 53 (.ah dY) [50,52,.kb false],
 .M 48 53,
 .o 54 (.ext 0) [48],
 .o 55 (.ext 1) [48],
 .o 56 (.aK 1) [10],
 ⟨.store 1,[56,54],none,none⟩])
 (.seq (.region 0 [.o 58 (.aY 9) [10],
 .o 59 (.aK 0) [10],
 .o 60 .au [59],
 .M 61 3,
 .o 62 (.ah oq) [58,60,61],
 .M 57 62,
 .o 63 (.ext 0) [57],
 .o 64 (.ext 1) [57],
 .M 12 63,
 .M 13 64])
 (.seq (.region 0 [.M 65 13,
 .o 66 (.eqN false true) [65,.k .aG],
 .M 67 66,
 .g 67 true 68 .aX [12],
 .g 67 true 69 (.ah fE) [68],
 .g 67 true 70 .aX [1],
 .g 67 true 71 (.ah iQ) [70],
 .g 67 true 72 (.ah lS) [71],
 .g 67 true 73 (.eX .eql) [69,72],
 .o 74 .pick [67,73,.kb false],
 .M 8 74])
 .ret)))))))))))⟩
def qC:EF:=⟨[0,1,2,3],[.tmp 8],(.seq (.region 0 [.C 8 (.bool false)])
 (.seq (.region 0 [.o 15 (.ah d_) [],
 .M 9 15])
 (.seq (.seq (.region 0 [.M 16 9,
 .o 17 .not [16]])
 (.cond (.t 17) (.seq (.region 0 [.C 8 (.bool false)])
 .ret)
 .skip))
 (.seq (.drawn 0 [(0,.M 18 0),
 (1,.o 19 (.aj .rem) [18,.ki 9]),
 (2,.o 20 (.aj .add) [19,.ki 9]),
 (3,.o 21 (.aj .rem) [20,.ki 9]),
 (4,.o 22 (.aj .add) [.ki 1,21]),
 (5,.o 23 (.Df 1 4 [.int .i64 0] [(0,1),(1,1),(2,1),(3,1)]) [.ki 1,.ki 2,.ki 4,.ki 12]),
 (6,.M 24 1),
 (7,.o 25 (.aj .rem) [24,.ki 4]),
 (8,.o 26 (.aj .add) [25,.ki 4]),
 (9,.o 27 (.aj .rem) [26,.ki 4]),
 (10,.o 28 (.bM 1) [23,27]),
 (11,.o 29 .W9 [28]),
 (12,.M 0 22),
 (13,.M 1 29)])
 (.seq (.region 0 [.M 30 3,
 .o 31 (.aj .rem) [30,.ki 1200],
 .o 32 (.aj .add) [31,.ki 1200],
 .o 33 (.aj .rem) [32,.ki 1200],
 .M 3 33])
 (.seq (.region 1 [.M 34 1,
 .M 35 3,
 .o 36 (.ah iQ) [35],
 .o 37 (.ah jc) [36,.ki 2],
 .o 38 (.build [.int .i64 0,.int .i64 0,.int .i64 0,.str [],.str [],.int .i64 0,.int .i64 0,.bool false,.int .i64 0] [(0,1),(2,1),(3,1),(4,1),(5,1),(6,1)]) [.ki 36524,34,37,.k (.str [49,48,48]),.ki 4,.ki 0],
 .o 10 (.alloc 0 [.int .i64 0,.int .i64 0,.int .i64 0,.str [],.str [],.int .i64 0,.int .i64 0,.bool false,.int .i64 0]) [],
 ⟨.store 9,[10,38],none,none⟩])
 (.seq (.region 0 [.o 40 (.aK 0) [10],
 .o 41 .au [40],
 .M 42 0,
 .o 43 (.aj .mul) [.ki 12,42],
 .o 44 (.ah dY) [41,43,.kb false],
 .M 39 44,
 .o 45 (.ext 0) [39],
 .o 46 (.ext 1) [39],
 .o 47 (.aK 1) [10],
 ⟨.store 1,[47,45],none,none⟩])
 (.seq (.region 0 [.o 49 (.aY 9) [10],
 .o 50 (.ah jB) [49],
 .M 48 50,
 .o 51 (.ext 0) [48],
 .o 52 (.ext 1) [48],
 .M 11 51,
 .M 12 52])
 (.seq (.seq (.region 0 [.M 53 12,
 .o 54 .not [53]])
 (.cond (.t 54) (.seq (.region 0 [.C 8 (.bool false)])
 .ret)
 .skip))
 (.seq (.drawn 0 [(0,.o 56 (.aY 9) [10]),
 (1,.M 57 11),
 (2,.M 58 2),
 (3,.M 59 11),
 (4,.o 60 .b_ [59]),
 (5,.o 61 (.aj .rem) [58,60]),
 (6,.M 62 11),
 (7,.o 63 .b_ [62]),
 (8,.o 64 (.aj .add) [61,63]),
 (9,.M 65 11),
 (10,.o 66 .b_ [65]),
 (11,.o 67 (.aj .rem) [64,66]),
 (12,.o 68 (.bM 2) [57,67]),
 (13,.o 69 (.aK 0) [68]),
 (14,.o 70 .au [69]),
 (15,.M 71 3),
 (16,.o 72 (.aj .mul) [71,.ki 10000]),
 (17,.o 73 (.ah jR) [56,70,72]),
 (18,.M 55 73),
 (19,.o 74 (.ext 0) [55]),
 (20,.o 75 (.ext 1) [55]),
 (21,.M 13 74),
 (22,.M 14 75)])
 (.seq (.region 0 [.M 76 14,
 .o 77 (.eqN false true) [76,.k .aG],
 .M 78 77,
 .g 78 true 79 .aX [13],
 .g 78 true 80 (.ah fE) [79],
 .g 78 true 81 (.eX .eql) [80,.k (.str [49,48,48])],
 .o 82 .pick [78,81,.kb false],
 .M 8 82])
 .ret)))))))))))⟩
def qG:EF:=⟨[0,1,2,3],[.tmp 8],(.seq (.region 0 [.C 8 (.bool false)])
 (.seq (.region 0 [.o 15 (.ah d_) [],
 .M 9 15])
 (.seq (.seq (.region 0 [.M 16 9,
 .o 17 .not [16]])
 (.cond (.t 17) (.seq (.region 0 [.C 8 (.bool false)])
 .ret)
 .skip))
 (.seq (.region 0 [.M 18 1,
 .o 19 (.aj .rem) [18,.ki 8],
 .o 20 (.aj .add) [19,.ki 8],
 .o 21 (.aj .rem) [20,.ki 8],
 .o 22 (.aj .add) [.ki 1,21],
 .M 23 3,
 .o 24 (.aj .rem) [23,.ki 1000],
 .o 25 (.aj .add) [24,.ki 1000],
 .o 26 (.aj .rem) [25,.ki 1000],
 .M 1 22,
 .M 3 26])
 (.seq (.region 1 [.M 27 3,
 .o 28 (.ah iQ) [27],
 .o 29 (.ah jc) [28,.ki 2],
 .o 30 (.ah iL) [29,.ki 4],
 .o 10 (.alloc 0 [.int .i64 0,.int .i64 0,.int .i64 0,.str [],.str [],.int .i64 0,.int .i64 0,.bool false,.int .i64 0]) [],
 ⟨.store 9,[10,30],none,none⟩])
 (.seq (.region 0 [.M 31 0,
 .o 32 (.ah j_) [31],
 .o 33 (.aj .rem) [32,.ki 90000],
 .o 34 (.aj .add) [.ki 3000,33],
 .o 35 (.aK 0) [10],
 ⟨.store 1,[35,34],none,none⟩])
 (.seq (.seq (.region 0 [.o 36 (.aK 0) [10],
 .o 37 .au [36],
 .o 38 (.ah iM) [37],
 .o 39 (.fld 2) [38],
 .o 40 (.aj .gtr) [39,.ki 28]])
 (.join [1,2,3,10] (.cond (.t 40) (.region 0 [.o 41 (.aK 0) [10],
 .o 42 .au [41],
 .o 43 (.aj .sub) [42,.ki 3],
 .o 44 (.aK 0) [10],
 ⟨.store 1,[44,43],none,none⟩])
 .skip)))
 (.seq (.region 0 [.o 46 (.aK 0) [10],
 .o 47 .au [46],
 .M 48 1,
 .o 49 (.aj .mul) [.ki 12,48],
 .o 50 (.ah dY) [47,49,.kb false],
 .M 45 50,
 .o 51 (.ext 0) [45],
 .o 52 (.ext 1) [45],
 .o 53 (.aK 1) [10],
 ⟨.store 1,[53,51],none,none⟩])
 (.seq (.region 0 [.o 55 (.aY 9) [10],
 .o 56 (.ah nN) [55],
 .M 54 56,
 .o 57 (.ext 0) [54],
 .o 58 (.ext 1) [54],
 .M 11 57,
 .M 12 58])
 (.seq (.seq (.region 0 [.M 59 12,
 .o 60 (.eqN true true) [59,.k .aG]])
 (.cond (.t 60) (.seq (.region 0 [.C 8 (.bool false)])
 .ret)
 .skip))
 (.seq (.drawn 0 [(0,.o 62 (.aY 9) [10]),
 (1,.M 63 11),
 (2,.M 64 2),
 (3,.M 65 11),
 (4,.o 66 .b_ [65]),
 (5,.o 67 (.aj .rem) [64,66]),
 (6,.M 68 11),
 (7,.o 69 .b_ [68]),
 (8,.o 70 (.aj .add) [67,69]),
 (9,.M 71 11),
 (10,.o 72 .b_ [71]),
 (11,.o 73 (.aj .rem) [70,72]),
 (12,.o 74 (.bM 2) [63,73]),
 (13,.o 75 (.aK 0) [74]),
 (14,.o 76 .au [75]),
 (15,.o 77 (.ah BK) [62,76,.k (.str [49,48,48])]),
 (16,.M 61 77),
 (17,.o 78 (.ext 0) [61]),
 (18,.o 79 (.ext 1) [61]),
 (19,.M 13 78),
 (20,.M 14 79)])
 (.seq (.region 0 [.M 80 14,
 .o 81 (.eqN false true) [80,.k .aG],
 .M 82 81,
 .g 82 true 83 .aX [13],
 .g 82 true 84 .aX [3],
 .g 82 true 85 (.aj .mul) [84,.ki 10000],
 .g 82 true 86 (.aj .eql) [83,85],
 .o 87 .pick [82,86,.kb false],
 .M 8 87])
 .ret))))))))))))⟩
def WV:EF:=⟨[],[.tmp 0],(.seq (.region 0 [.C 0 (.bool false)])
 (.seq (.region 1 [.o 15 (.ah iL) [.k (.str [54]),.ki 1],
 .o 1 (.alloc 0 [.int .i64 0,.int .i64 0,.int .i64 0,.str [],.str [],.int .i64 0,.int .i64 0,.bool false,.int .i64 0]) [],
 ⟨.store 9,[1,15],none,none⟩])
 (.seq (.region 0 [.o 17 (.aY 9) [1],
 .o 18 (.ah nN) [17],
 .M 16 18,
 .o 19 (.ext 0) [16],
 .o 20 (.ext 1) [16],
 .M 2 19,
 .M 3 20])
 (.seq (.region 0 [.o 22 (.aY 9) [1],
 .o 23 (.ah zZ) [22],
 .M 21 23,
 .o 24 (.ext 0) [21],
 .o 25 (.ext 1) [21],
 .M 4 24,
 .M 5 25])
 (.seq (.region 0 [.o 27 (.aY 9) [1],
 .o 28 (.aK 0) [1],
 .o 29 .au [28],
 .o 30 (.aj .add) [29,.ki 91],
 .o 31 (.ah Em) [27,30],
 .M 26 31,
 .o 32 (.ext 0) [26],
 .o 33 (.ext 1) [26],
 .M 6 32,
 .M 7 33])
 (.seq (.region 1 [.o 34 (.build [.int .i64 0,.int .i64 0,.int .i64 0,.str [],.str [],.int .i64 0,.int .i64 0,.bool false,.int .i64 0] [(0,1),(1,1),(2,1),(3,1),(4,1),(5,1)]) [.ki 36524,.ki 36890,.ki 1,.k (.str [54]),.k (.str [49,48,48]),.ki 1],
 .o 8 (.alloc 0 [.int .i64 0,.int .i64 0,.int .i64 0,.str [],.str [],.int .i64 0,.int .i64 0,.bool false,.int .i64 0]) [],
 ⟨.store 9,[8,34],none,none⟩])
 (.seq (.region 0 [.o 36 (.aY 9) [8],
 .o 37 (.aK 0) [8],
 .o 38 .au [37],
 .o 39 (.ah iC) [36,38,.ki 6000000],
 .M 35 39,
 .o 40 (.ext 0) [35],
 .o 41 (.ext 1) [35],
 .M 9 40,
 .M 10 41])
 (.seq (.region 0 [.o 43 (.aY 9) [1],
 .o 44 (.aK 0) [1],
 .o 45 .au [44],
 .o 46 (.ah vC) [43,45],
 .M 42 46,
 .o 47 (.ext 0) [42],
 .o 48 (.ext 1) [42],
 .M 11 47,
 .M 12 48])
 (.seq (.region 0 [.o 50 (.aY 9) [8],
 .o 51 (.aK 0) [8],
 .o 52 .au [51],
 .o 53 (.ah oq) [50,52,.ki 6000000],
 .M 49 53,
 .o 54 (.ext 0) [49],
 .o 55 (.ext 1) [49],
 .M 13 54,
 .M 14 55])
 (.seq (.seq (.region 0 [.M 56 6,
 .o 57 (.xO false) [56,.k .aV],
 .M 58 57,
 .g 58 false 59 .aX [9],
 .g 58 false 60 (.xO false) [59,.k .aV],
 .o 61 .pick [58,.kb true,60],
 .M 62 61,
 .g 62 false 63 .aX [11],
 .g 62 false 64 (.xO false) [63,.k .aV],
 .o 65 .pick [62,.kb true,64],
 .M 66 65,
 .g 66 false 67 .aX [13],
 .g 66 false 68 (.xO false) [67,.k .aV],
 .o 69 .pick [66,.kb true,68],
 .M 70 69,
 .g 70 false 71 .aX [2],
 .g 70 false 72 .b_ [71],
 .g 70 false 73 (.aj .neq) [72,.ki 10],
 .o 74 .pick [70,.kb true,73],
 .M 75 74,
 .g 75 false 76 .aX [4],
 .g 75 false 77 .b_ [76],
 .g 75 false 78 (.aj .neq) [77,.ki 10],
 .o 79 .pick [75,.kb true,78]])
 (.cond (.t 79) (.seq (.region 0 [.C 0 (.bool false)])
 .ret)
 .skip))
 (.seq (.drawn 0 [(0,.o 80 (.ah uO) []),
 (1,.M 81 80),
 (2,.g 81 true 82 (.aY 9) [1]),
 (3,.g 81 true 83 (.ah mg) [82]),
 (4,.g 81 true 84 (.eqN false true) [83,.k .aG]),
 (5,.o 85 .pick [81,84,.kb false]),
 (6,.M 86 85),
 (7,.g 86 true 87 .aX [3]),
 (8,.g 86 true 88 (.eqN false true) [87,.k .aG]),
 (9,.o 89 .pick [86,88,.kb false]),
 (10,.M 90 89),
 (11,.g 90 true 91 .aX [2]),
 (12,.g 90 true 92 (.bM 2) [91,.ki 0]),
 (13,.g 90 true 93 (.aK 0) [92]),
 (14,.g 90 true 94 .au [93]),
 (15,.g 90 true 95 (.aK 0) [1]),
 (16,.g 90 true 96 .au [95]),
 (17,.g 90 true 97 (.aj .eql) [94,96]),
 (18,.o 98 .pick [90,97,.kb false]),
 (19,.M 99 98),
 (20,.g 99 true 100 .aX [2]),
 (21,.g 99 true 101 (.bM 2) [100,.ki 9]),
 (22,.g 99 true 102 (.aK 1) [101]),
 (23,.g 99 true 103 .au [102]),
 (24,.g 99 true 104 (.aK 1) [1]),
 (25,.g 99 true 105 .au [104]),
 (26,.g 99 true 106 (.aj .eql) [103,105]),
 (27,.o 107 .pick [99,106,.kb false]),
 (28,.M 108 107),
 (29,.g 108 true 109 .aX [5]),
 (30,.g 108 true 110 (.eqN false true) [109,.k .aG]),
 (31,.o 111 .pick [108,110,.kb false]),
 (32,.M 112 111),
 (33,.g 112 true 113 .aX [4]),
 (34,.g 112 true 114 (.bM 2) [113,.ki 0]),
 (35,.g 112 true 115 (.aK 1) [114]),
 (36,.g 112 true 116 .au [115]),
 (37,.g 112 true 117 (.eX .eql) [116,.k (.str [51])]),
 (38,.o 118 .pick [112,117,.kb false]),
 (39,.M 119 118),
 (40,.g 119 true 120 .aX [4]),
 (41,.g 119 true 121 (.bM 2) [120,.ki 9]),
 (42,.g 119 true 122 (.aK 1) [121]),
 (43,.g 119 true 123 .au [122]),
 (44,.g 119 true 124 (.eX .eql) [123,.k (.str [49,48,51])]),
 (45,.o 125 .pick [119,124,.kb false]),
 (46,.M 126 125),
 (47,.g 126 true 127 .aX [7]),
 (48,.g 126 true 128 (.eqN false true) [127,.k .aG]),
 (49,.o 129 .pick [126,128,.kb false]),
 (50,.M 130 129),
 (51,.g 130 true 131 .aX [6]),
 (52,.g 130 true 132 (.ah fE) [131]),
 (53,.g 130 true 133 (.eX .eql) [132,.k (.str [51,47,50])]),
 (54,.o 134 .pick [130,133,.kb false]),
 (55,.M 135 134),
 (56,.g 135 true 136 .aX [10]),
 (57,.g 135 true 137 (.eqN false true) [136,.k .aG]),
 (58,.o 138 .pick [135,137,.kb false]),
 (59,.M 139 138),
 (60,.g 139 true 140 .aX [9]),
 (61,.g 139 true 141 (.ah fE) [140]),
 (62,.g 139 true 142 (.eX .eql) [141,.k (.str [49,48,48])]),
 (63,.o 143 .pick [139,142,.kb false]),
 (64,.M 144 143),
 (65,.g 144 true 145 .aX [12]),
 (66,.g 144 true 146 (.eqN false true) [145,.k .aG]),
 (67,.o 147 .pick [144,146,.kb false]),
 (68,.M 148 147),
 (69,.g 148 true 149 .aX [11]),
 (70,.g 148 true 150 (.ah fE) [149]),
 (71,.g 148 true 151 (.eX .eql) [150,.k (.str [49])]),
 (72,.o 152 .pick [148,151,.kb false]),
 (73,.M 153 152),
 (74,.g 153 true 154 .aX [14]),
 (75,.g 153 true 155 (.eqN false true) [154,.k .aG]),
 (76,.o 156 .pick [153,155,.kb false]),
 (77,.M 157 156),
 (78,.g 157 true 158 .aX [13]),
 (79,.g 157 true 159 (.ah kJ) [158]),
 (80,.g 157 true 160 (.aj .gtr) [159,.ki 0]),
 (81,.o 161 .pick [157,160,.kb false]),
 (82,.M 162 161),
 (83,.g 162 true 163 (.aY 9) [1]),
 (84,.g 162 true 164 (.ah lX) [163]),
 (85,.g 162 true 165 (.aj .eql) [164,.ki 6]),
 (86,.o 166 .pick [162,165,.kb false]),
 (87,.M 167 166),
 (88,.g 167 true 168 (.aY 9) [1]),
 (89,.g 167 true 169 (.ah lW) [168]),
 (90,.g 167 true 170 (.ah fE) [169]),
 (91,.g 167 true 171 (.eX .eql) [170,.k (.str [54])]),
 (92,.o 172 .pick [167,171,.kb false]),
 (93,.M 173 172),
 (94,.g 173 true 174 .aX [2]),
 (95,.g 173 true 175 (.aK 0) [1]),
 (96,.g 173 true 176 .au [175]),
 (97,.g 173 true 177 (.ah Ci) [174,176]),
 (98,.g 173 true 178 (.aj .eql) [177,.ki 0]),
 (99,.o 179 .pick [173,178,.kb false]),
 (100,.M 0 179)])
 .ret)))))))))))⟩
def xI:EF:=⟨[0],[.tmp 2],(.seq (.region 0 [.C 2 (.int .i64 0)])
 (.seq (.region 0 [.C 3 (.int .i64 102000001)])
 (.seq (.region 0 [.M 4 0,
 .M 5 3,
 .o 6 (.aj .rem) [4,5],
 .M 7 3,
 .o 8 (.aj .add) [6,7],
 .M 9 3,
 .o 10 (.aj .rem) [8,9],
 .o 11 (.aj .add) [.ki (-2000000),10],
 .M 2 11])
 .ret)))⟩
def xH:EF:=⟨[0,1],[.cell 4 true 9],(.seq (.region 1 [.o 4 (.alloc 0 [.int .i64 0,.int .i64 0,.int .i64 0,.str [],.str [],.int .i64 0,.int .i64 0,.bool false,.int .i64 0]) []])
 (.seq (.region 0 [.M 5 0,
 .M 6 1,
 .o 7 (.build [.int .i64 0,.int .i64 0,.int .i64 0,.str [],.str [],.int .i64 0,.int .i64 0,.bool false,.int .i64 0] [(0,1),(1,1),(2,1),(3,1),(4,1),(5,1),(6,1)]) [.ki 36524,.ki 38351,.ki 2,5,.k (.str [49,48,48]),6,.ki 0],
 ⟨.store 9,[4,7],none,none⟩])
 .ret))⟩
def iD:EC:=(.seq (.seq (.region 0 [.M 9 5,
 .o 10 .wV [9],
 .M 11 1,
 .o 12 (.aj .leq) [10,11]])
 (.cond (.t 12) .skip
 (.exit 0)))
 (.block 1 (.region 0 [.M 13 5,
 .o 14 (.eX .add) [.k (.str [48]),13],
 .M 5 14])))
def zH:EF:=⟨[0,1],[.tmp 4],(.seq (.region 1 [.o 2 (.box 0) [0],
 .C 4 (.str [])])
 (.seq (.region 0 [.o 6 (.aK 1) [2],
 .o 7 .au [6],
 .o 8 (.ah jd) [7],
 .M 5 8])
 (.seq (.block 0 (.loop [1,2,5] [1,2,5] iD))
 (.seq (.seq (.region 0 [.M 15 1,
 .o 16 (.aj .gtr) [15,.ki 0]])
 (.join [2,5] (.cond (.t 16) (.drawn 0 [(0,.M 17 5),
 (1,.M 18 5),
 (2,.o 19 .wV [18]),
 (3,.M 20 1),
 (4,.o 21 (.aj .sub) [19,20]),
 (5,.o 22 (.Wi false true) [17,21]),
 (6,.o 23 (.eX .add) [22,.k (.str [46])]),
 (7,.M 24 5),
 (8,.M 25 5),
 (9,.o 26 .wV [25]),
 (10,.M 27 1),
 (11,.o 28 (.aj .sub) [26,27]),
 (12,.o 29 (.Wi true false) [24,28]),
 (13,.o 30 (.eX .add) [23,29]),
 (14,.M 5 30)])
 .skip)))
 (.seq (.seq (.region 0 [.o 31 (.aK 0) [2],
 .o 32 .au [31]])
 (.cond (.t 32) (.seq (.region 0 [.M 33 5,
 .o 34 (.eX .add) [.k (.str [45]),33],
 .M 4 34])
 .ret)
 .skip))
 (.seq (.region 0 [.M 35 5,
 .M 4 35])
 .ret))))))⟩
def AU:EF:=⟨[0],[.cell 2 true 2],(.seq (.region 1 [.o 2 (.alloc 0 [.bool false,.sl 0 []]) []])
 (.seq (.seq (.region 0 [.M 3 0,
 .o 4 (.aj .lss) [3,.ki 0]])
 (.cond (.t 4) (.seq (.region 0 [.M 5 0,
 .o 6 (.aj .add) [5,.ki 1],
 .o 7 .neg [6],
 .o 8 (.conv .u64) [7],
 .o 9 (.aj .add) [8,.k (.int .u64 1)],
 .o 10 (.ah nI) [9],
 .o 11 (.build [.bool false,.sl 0 []] [(0,1),(1,1)]) [.kb true,10],
 ⟨.store 2,[2,11],none,none⟩])
 .ret)
 .skip))
 (.seq (.region 0 [.M 12 0,
 .o 13 (.conv .u64) [12],
 .o 14 (.ah nI) [13],
 .o 15 (.build [.bool false,.sl 0 []] [(0,1),(1,1)]) [.kb false,14],
 ⟨.store 2,[2,15],none,none⟩])
 .ret)))⟩
def yH:EF:=⟨[0],[.tmp 2],(.seq (.region 0 [.C 2 (.int .i64 0)])
 (.seq (.region 0 [.M 3 0,
 .o 4 (.aj .rem) [3,.ki 109573],
 .o 5 (.aj .add) [4,.ki 109572],
 .o 6 (.aj .add) [5,.ki 1],
 .o 7 (.aj .rem) [6,.ki 109573],
 .M 2 7])
 .ret))⟩
def fG:EC:=(.seq (.seq (.region 0 [.M 28 1,
 .o 29 (.aj .gtr) [28,.ki 0]])
 (.cond (.t 29) .skip
 (.exit 0)))
 (.seq (.join [1,8,9] (.block 1 (.seq (.region 0 [.o 32 (.aK 1) [8],
 .o 33 .au [32],
 .o 34 (.aj .add) [33,.ki 1],
 .o 35 (.aK 1) [8],
 ⟨.store 1,[35,34],none,none⟩])
 (.seq (.region 0 [.o 36 (.aK 1) [8],
 .o 37 .au [36],
 .o 38 (.aj .gtr) [37,.ki 12]])
 (.join [1,8,9] (.cond (.t 38) (.region 0 [.o 39 (.aK 0) [8],
 .o 40 .au [39],
 .o 41 (.aj .add) [40,.ki 1],
 .o 42 (.aK 0) [8],
 ⟨.store 1,[42,41],none,none⟩,
 .o 43 (.aK 1) [8],
 ⟨.store 1,[43,.ki 1],none,none⟩])
 .skip))))))
 (.region 0 [.M 30 1,
 .o 31 (.aj .sub) [30,.ki 1],
 .M 1 31])))
def gJ:EC:=(.seq (.seq (.region 0 [.M 44 1,
 .o 45 (.aj .lss) [44,.ki 0]])
 (.cond (.t 45) .skip
 (.exit 2)))
 (.seq (.join [1,8,9] (.block 3 (.seq (.region 0 [.o 48 (.aK 1) [8],
 .o 49 .au [48],
 .o 50 (.aj .sub) [49,.ki 1],
 .o 51 (.aK 1) [8],
 ⟨.store 1,[51,50],none,none⟩])
 (.seq (.region 0 [.o 52 (.aK 1) [8],
 .o 53 .au [52],
 .o 54 (.aj .lss) [53,.ki 1]])
 (.join [1,8,9] (.cond (.t 54) (.region 0 [.o 55 (.aK 0) [8],
 .o 56 .au [55],
 .o 57 (.aj .sub) [56,.ki 1],
 .o 58 (.aK 0) [8],
 ⟨.store 1,[58,57],none,none⟩,
 .o 59 (.aK 1) [8],
 ⟨.store 1,[59,.ki 12],none,none⟩])
 .skip))))))
 (.region 0 [.M 46 1,
 .o 47 (.aj .add) [46,.ki 1],
 .M 1 47])))
def qH:EF:=⟨[0,1,2],[.tmp 6,.tmp 7],(.seq (.region 0 [.C 6 (.int .i64 0),
 .C 7 (.bool false)])
 (.seq (.seq (.region 0 [.M 10 0,
 .o 11 (.ah qZ) [10],
 .o 12 .not [11],
 .M 13 12,
 .g 13 false 14 .aX [1],
 .g 13 false 15 (.aj .lss) [14,.ki (-3600)],
 .o 16 .pick [13,.kb true,15],
 .M 17 16,
 .g 17 false 18 .aX [1],
 .g 17 false 19 (.aj .gtr) [18,.ki 3600],
 .o 20 .pick [17,.kb true,19]])
 (.cond (.t 20) (.seq (.region 0 [.C 6 (.int .i64 0),
 .C 7 (.bool false)])
 .ret)
 .skip))
 (.seq (.region 1 [.M 21 0,
 .o 22 (.ah iM) [21],
 .o 8 (.alloc 0 [.int .i64 0,.int .i64 0,.int .i64 0]) [],
 ⟨.store 3,[8,22],none,none⟩])
 (.seq (.region 0 [.M 23 2,
 .M 24 23,
 .g 24 true 25 .aX [0],
 .g 24 true 26 (.ah oC) [25],
 .o 27 .pick [24,26,.kb false],
 .M 9 27])
 (.seq (.block 0 (.loop [1,8,9] [1,8,9] fG))
 (.seq (.block 2 (.loop [1,8,9] [8,9] gJ))
 (.seq (.seq (.drawn 0 [(0,.M 60 9),
 (1,.M 61 60),
 (2,.g 61 false 62 (.aK 2) [8]),
 (3,.g 61 false 63 .au [62]),
 (4,.g 61 false 64 (.aK 0) [8]),
 (5,.g 61 false 65 .au [64]),
 (6,.g 61 false 66 (.aK 1) [8]),
 (7,.g 61 false 67 .au [66]),
 (8,.g 61 false 68 (.ah fA) [65,67]),
 (9,.g 61 false 69 (.aj .gtr) [63,68]),
 (10,.o 70 .pick [61,.kb true,69])])
 (.join [8] (.cond (.t 70) (.region 0 [.o 71 (.aK 0) [8],
 .o 72 .au [71],
 .o 73 (.aK 1) [8],
 .o 74 .au [73],
 .o 75 (.ah fA) [72,74],
 .o 76 (.aK 2) [8],
 ⟨.store 1,[76,75],none,none⟩])
 .skip)))
 (.seq (.region 0 [.o 77 (.aY 3) [8],
 .o 78 (.ah mF) [77],
 .o 79 (.ext 0) [78],
 .o 80 (.ext 1) [78],
 .M 6 79,
 .M 7 80])
 .ret))))))))⟩
def Hf:EF:=⟨[0,1,2],[.tmp 6,.tmp 7],(.seq (.region 1 [.o 3 (.box 0) [0],
 .C 6 .aV,
 .C 7 .aG])
 (.seq (.region 0 [.o 18 (.aY 9) [3],
 .M 19 1,
 .o 20 (.ah uo) [18,19],
 .M 17 20,
 .o 21 (.ext 0) [17],
 .o 22 (.ext 1) [17],
 .M 8 21,
 .M 9 22])
 (.seq (.seq (.region 0 [.M 23 9,
 .o 24 (.eqN true true) [23,.k .aG]])
 (.cond (.t 24) (.seq (.region 0 [.M 25 9,
 .C 6 .aV,
 .M 7 25])
 .ret)
 .skip))
 (.seq (.seq (.region 0 [.M 26 2,
 .o 27 (.aj .lss) [26,.ki (-2000000)],
 .M 28 27,
 .g 28 false 29 .aX [2],
 .g 28 false 30 (.aj .gtr) [29,.ki 100000000],
 .o 31 .pick [28,.kb true,30]])
 (.cond (.t 31) (.seq (.region 0 [.o 32 (.ah dG) [.ki 2],
 .C 6 .aV,
 .M 7 32])
 .ret)
 .skip))
 (.seq (.region 0 [.o 34 (.aY 9) [3],
 .M 35 1,
 .o 36 (.ah vC) [34,35],
 .M 33 36,
 .o 37 (.ext 0) [33],
 .o 38 (.ext 1) [33],
 .M 10 37,
 .M 9 38])
 (.seq (.seq (.region 0 [.M 39 9,
 .o 40 (.eqN true true) [39,.k .aG]])
 (.cond (.t 40) (.seq (.region 0 [.M 41 9,
 .C 6 .aV,
 .M 7 41])
 .ret)
 .skip))
 (.seq (.drawn 0 [(0,.o 42 (.ah jI) [.ki 100000000]),
 (1,.o 43 (.aK 2) [3]),
 (2,.o 44 .au [43]),
 (3,.o 45 (.ah jI) [44]),
 (4,.o 46 (.ah bW) [42,45]),
 (5,.M 11 46)])
 (.seq (.region 0 [.M 47 11,
 .M 48 2,
 .o 49 (.ah jI) [48],
 .o 50 (.ah iy) [47,49],
 .M 12 50])
 (.seq (.region 0 [.M 52 8,
 .M 53 12,
 .M 54 11,
 .o 55 (.ah xq) [52,53,54],
 .M 51 55,
 .o 56 (.ext 0) [51],
 .o 57 (.ext 1) [51],
 .M 13 56,
 .M 14 57])
 (.seq (.region 0 [.M 58 10,
 .o 59 (.ah dD) [58],
 .M 60 11,
 .o 61 (.ah bW) [59,60],
 .M 15 61])
 (.seq (.region 0 [.M 62 15,
 .M 63 10,
 .o 64 (.ah dO) [63],
 .M 65 2,
 .o 66 (.ah jI) [65],
 .o 67 (.ah bW) [64,66],
 .o 68 (.ah iy) [62,67],
 .M 16 68])
 (.seq (.seq (.region 0 [.M 69 16,
 .o 70 (.ah dK) [69],
 .o 71 (.aj .leq) [70,.ki 0]])
 (.cond (.t 71) (.seq (.region 0 [.o 72 (.ah dG) [.ki 3],
 .C 6 .aV,
 .M 7 72])
 .ret)
 .skip))
 (.seq (.region 0 [.M 73 13,
 .M 74 15,
 .o 75 (.ah bW) [73,74],
 .M 76 14,
 .M 77 16,
 .o 78 (.ah bW) [76,77],
 .o 79 (.ah oL) [75,78],
 .o 80 (.ext 0) [79],
 .o 81 (.ext 1) [79],
 .M 6 80,
 .M 7 81])
 .ret)))))))))))))⟩
def Hg:EF:=⟨[0,1],[.tmp 4],(.seq (.region 0 [.C 4 .aV])
 (.seq (.seq (.region 0 [.M 5 0,
 .o 6 (.ah dD) [5],
 .M 7 1,
 .o 8 (.ah dD) [7],
 .o 9 (.ah o8) [6,8],
 .o 10 (.aj .eql) [9,.ki 0]])
 (.cond (.t 10) (.seq (.region 0 [.M 11 0,
 .o 12 (.ah dO) [11],
 .M 13 1,
 .o 14 (.ah dO) [13],
 .o 15 (.ah iy) [12,14],
 .M 16 0,
 .o 17 (.ah dD) [16],
 .o 18 (.ah xw) [15,17],
 .M 4 18])
 .ret)
 .skip))
 (.seq (.region 0 [.M 19 0,
 .o 20 (.ah dO) [19],
 .M 21 1,
 .o 22 (.ah dD) [21],
 .o 23 (.ah bW) [20,22],
 .M 24 1,
 .o 25 (.ah dO) [24],
 .M 26 0,
 .o 27 (.ah dD) [26],
 .o 28 (.ah bW) [25,27],
 .o 29 (.ah iy) [23,28],
 .M 30 0,
 .o 31 (.ah dD) [30],
 .M 32 1,
 .o 33 (.ah dD) [32],
 .o 34 (.ah bW) [31,33],
 .o 35 (.ah xw) [29,34],
 .M 4 35])
 .ret)))⟩
def Hu:EF:=⟨[0,1],[.tmp 4],(.seq (.region 0 [.C 4 .aV])
 (.seq (.region 1 [.M 5 0,
 .M 6 1,
 .o 7 (.ah dO) [6],
 .o 8 (.ah o9) [7],
 .M 9 1,
 .o 10 (.ah dD) [9],
 .o 11 (.build [.aV,.aV] [(0,1),(1,1)]) [8,10],
 .o 12 (.box 0) [11],
 .o 13 (.xG jT) [5,12],
 .M 4 13])
 .ret))⟩
def Hl:EF:=⟨[0,1],[.tmp 4],(.seq (.region 0 [.C 4 (.int .i64 0)])
 (.seq (.region 0 [.M 5 0,
 .o 6 (.ah dO) [5],
 .M 7 1,
 .o 8 (.ah dD) [7],
 .o 9 (.ah bW) [6,8],
 .M 10 1,
 .o 11 (.ah dO) [10],
 .M 12 0,
 .o 13 (.ah dD) [12],
 .o 14 (.ah bW) [11,13],
 .o 15 (.ah o8) [9,14],
 .M 4 15])
 .ret))⟩
def ku:EC:=(.seq (.seq (.region 0 [.M 5 0,
 .o 6 (.aK 0) [3],
 .o 7 .au [6],
 .o 8 (.ah kD) [7],
 .o 9 (.aj .geq) [5,8]])
 (.cond (.t 9) .skip
 (.exit 0)))
 (.block 1 (.seq (.region 0 [.M 10 0,
 .o 11 (.aK 0) [3],
 .o 12 .au [11],
 .o 13 (.ah kD) [12],
 .o 14 (.aj .sub) [10,13],
 .M 0 14])
 (.region 0 [.o 15 (.aK 0) [3],
 .o 16 .au [15],
 .o 17 (.aj .add) [16,.ki 1],
 .o 18 (.aK 0) [3],
 ⟨.store 1,[18,17],none,none⟩]))))
def kC:EC:=(.seq (.seq (.region 0 [.M 19 0,
 .o 20 (.aK 0) [3],
 .o 21 .au [20],
 .o 22 (.aK 1) [3],
 .o 23 .au [22],
 .o 24 (.ah fA) [21,23],
 .o 25 (.aj .geq) [19,24]])
 (.cond (.t 25) .skip
 (.exit 2)))
 (.block 3 (.seq (.region 0 [.M 26 0,
 .o 27 (.aK 0) [3],
 .o 28 .au [27],
 .o 29 (.aK 1) [3],
 .o 30 .au [29],
 .o 31 (.ah fA) [28,30],
 .o 32 (.aj .sub) [26,31],
 .M 0 32])
 (.region 0 [.o 33 (.aK 1) [3],
 .o 34 .au [33],
 .o 35 (.aj .add) [34,.ki 1],
 .o 36 (.aK 1) [3],
 ⟨.store 1,[36,35],none,none⟩]))))
def xK:EF:=⟨[0],[.cell 2 true 3],(.seq (.region 1 [.o 2 (.alloc 0 [.int .i64 0,.int .i64 0,.int .i64 0]) []])
 (.seq (.region 1 [.o 4 (.build [.int .i64 0,.int .i64 0,.int .i64 0] [(0,1),(1,1)]) [.ki 1900,.ki 1],
 .o 3 (.alloc 0 [.int .i64 0,.int .i64 0,.int .i64 0]) [],
 ⟨.store 3,[3,4],none,none⟩])
 (.seq (.block 0 (.loop [0,2,3] [0,2,3] ku))
 (.seq (.block 2 (.loop [0,2,3] [0,2,3] kC))
 (.seq (.region 0 [.M 37 0,
 .o 38 (.aj .add) [37,.ki 1],
 .o 39 (.aK 2) [3],
 ⟨.store 1,[39,38],none,none⟩])
 (.seq (.region 0 [.o 40 (.aY 3) [3],
 ⟨.store 3,[2,40],none,none⟩])
 .ret))))))⟩
def Dn:EF:=⟨[0,1,2],[.tmp 6,.tmp 7],(.seq (.region 1 [.o 3 (.box 0) [0],
 .C 6 .aV,
 .C 7 .aG])
 (.seq (.seq (.region 0 [.o 18 (.aY 9) [3],
 .M 19 1,
 .M 20 2,
 .o 21 (.ah iC) [18,19,20],
 .M 17 21,
 .o 22 (.ext 0) [17],
 .o 23 (.ext 1) [17],
 .M 8 22,
 .M 9 23])
 (.seq (.region 0 [.M 24 9,
 .o 25 (.eqN true true) [24,.k .aG]])
 (.cond (.t 25) (.seq (.region 0 [.M 26 9,
 .C 6 .aV,
 .M 7 26])
 .ret)
 .skip)))
 (.seq (.region 0 [.o 28 (.aY 9) [3],
 .M 29 1,
 .o 30 (.ah vC) [28,29],
 .M 27 30,
 .o 31 (.ext 0) [27],
 .o 32 (.ext 1) [27],
 .M 10 31,
 .M 11 32])
 (.seq (.seq (.region 0 [.M 33 11,
 .o 34 (.eqN true true) [33,.k .aG]])
 (.cond (.t 34) (.seq (.region 0 [.M 35 11,
 .C 6 .aV,
 .M 7 35])
 .ret)
 .skip))
 (.seq (.drawn 0 [(0,.o 36 (.ah jI) [.ki 100000000]),
 (1,.o 37 (.aK 2) [3]),
 (2,.o 38 .au [37]),
 (3,.o 39 (.ah jI) [38]),
 (4,.o 40 (.ah bW) [36,39]),
 (5,.M 12 40)])
 (.seq (.region 0 [.M 41 12,
 .M 42 2,
 .o 43 (.ah jI) [42],
 .o 44 (.ah iy) [41,43],
 .M 13 44])
 (.seq (.region 0 [.o 46 (.aY 9) [3],
 .M 47 1,
 .o 48 (.ah xA) [46,47],
 .M 49 13,
 .M 50 12,
 .o 51 (.ah zy) [48,49,50],
 .M 45 51,
 .o 52 (.ext 0) [45],
 .o 53 (.ext 1) [45],
 .M 14 52,
 .M 15 53])
 (.seq (.region 0 [.M 55 14,
 .M 56 15,
 .o 57 (.ah oL) [55,56],
 .M 54 57,
 .o 58 (.ext 0) [54],
 .o 59 (.ext 1) [54],
 .M 16 58,
 .M 11 59])
 (.seq (.seq (.region 0 [.M 60 11,
 .o 61 (.eqN true true) [60,.k .aG]])
 (.cond (.t 61) (.seq (.region 0 [.M 62 11,
 .C 6 .aV,
 .M 7 62])
 .ret)
 .skip))
 (.seq (.drawn 0 [(0,.M 63 16),
 (1,.M 64 10),
 (2,.o 65 (.ah jT) [63,64]),
 (3,.o 66 (.aK 2) [3]),
 (4,.o 67 .au [66]),
 (5,.o 68 (.ah L9) [.ki 1,67]),
 (6,.o 69 (.ah jq) [65,68]),
 (7,.M 6 69),
 (8,.C 7 .aG)])
 .ret))))))))))⟩
def ES:EF:=⟨[0],[.tmp 2],(.seq (.region 0 [.C 2 (.str [])])
 (.seq (.seq (.region 0 [.M 4 0,
 .o 5 (.ah dD) [4],
 .o 6 (.ah jH) [5],
 .M 3 6])
 (.seq (.region 0 [.M 7 3,
 .o 8 (.eX .neq) [7,.k (.str [49])]])
 (.cond (.t 8) (.seq (.region 0 [.M 9 0,
 .o 10 (.ah dO) [9],
 .o 11 (.ah jH) [10],
 .o 12 (.eX .add) [11,.k (.str [47])],
 .M 13 3,
 .o 14 (.eX .add) [12,13],
 .M 2 14])
 .ret)
 .skip)))
 (.seq (.region 0 [.M 15 0,
 .o 16 (.ah dO) [15],
 .o 17 (.ah jH) [16],
 .M 2 17])
 .ret)))⟩
def uY:EF:=⟨[0],[.tmp 2],(.seq (.region 1 [.o 1 (.box 0) [0],
 .C 2 (.str [])])
 (.seq (.seq (.region 0 [.o 3 (.aK 0) [1],
 .o 4 .au [3]])
 (.cond (.t 4) (.seq (.region 0 [.o 5 (.aK 1) [1],
 .o 6 .au [5],
 .o 7 (.ah jd) [6],
 .o 8 (.eX .add) [.k (.str [45]),7],
 .M 2 8])
 .ret)
 .skip))
 (.seq (.region 0 [.o 9 (.aK 1) [1],
 .o 10 .au [9],
 .o 11 (.ah jd) [10],
 .M 2 11])
 .ret)))⟩
def iZ:EC:=(.seq (.block 1 (.seq (.region 0 [.o 14 (.aY 9) [1],
 .M 15 5,
 .o 16 (.ah kX) [14,15],
 .M 13 16,
 .o 17 (.ext 0) [13],
 .o 18 (.ext 1) [13],
 .M 6 17,
 .M 7 18])
 (.seq (.seq (.region 0 [.M 19 7,
 .o 20 .not [19],
 .M 21 20,
 .g 21 false 22 .aX [6],
 .g 21 false 23 (.aK 0) [1],
 .g 21 false 24 .au [23],
 .g 21 false 25 (.aj .lss) [22,24],
 .o 26 .pick [21,.kb true,25]])
 (.cond (.t 26) (.exit 0)
 .skip))
 (.region 1 [.M 27 4,
 .M 28 6,
 .o 29 (.Df 1 1 [.int .i64 0] [(0,1)]) [28],
 .o 30 (.app 0 1) [27,29],
 .M 4 30]))))
 (.region 0 [.M 11 5,
 .o 12 (.aj .add) [11,.ki 1],
 .M 5 12]))
def h_:EC:=(.seq (.seq (.region 0 [.M 34 9,
 .o 35 (.aj .gtr) [34,.ki 0]])
 (.cond (.t 35) .skip
 (.exit 2)))
 (.seq (.block 3 (.drawn 1 [(0,.M 38 8),
 (1,.M 39 4),
 (2,.M 40 9),
 (3,.o 41 (.bM 1) [39,40]),
 (4,.o 42 .au [41]),
 (5,.M 43 4),
 (6,.M 44 9),
 (7,.o 45 (.aj .sub) [44,.ki 1]),
 (8,.o 46 (.bM 1) [43,45]),
 (9,.o 47 .au [46]),
 (10,.o 48 (.build [.int .i64 0,.int .i64 0] [(0,1),(1,1)]) [42,47]),
 (11,.o 49 (.Df 2 1 [.int .i64 0,.int .i64 0] [(0,2)]) [48]),
 (12,.o 50 (.app 0 2) [38,49]),
 (13,.M 8 50)]))
 (.region 0 [.M 36 9,
 .o 37 (.aj .sub) [36,.ki 1],
 .M 9 37])))
def xJ:EF:=⟨[0],[.tmp 2,.tmp 3],(.seq (.region 1 [.o 1 (.box 0) [0],
 .C 2 .cu,
 .C 3 (.bool false)])
 (.seq (.region 0 [.C 4 .cu])
 (.seq (.seq (.region 0 [.C 5 (.int .i64 0)])
 (.block 0 (.loop [1,4,5] [1,4] iZ)))
 (.seq (.region 0 [.C 8 .cu])
 (.seq (.seq (.region 0 [.M 31 4,
 .o 32 .b_ [31],
 .o 33 (.aj .sub) [32,.ki 1],
 .M 9 33])
 (.block 2 (.loop [1,4,8,9] [1,4,8] h_)))
 (.seq (.region 0 [.M 51 4,
 .M 52 4,
 .o 53 .b_ [52],
 .o 54 (.aj .sub) [53,.ki 1],
 .o 55 (.bM 1) [51,54],
 .o 56 .au [55],
 .M 10 56])
 (.seq (.seq (.region 0 [.M 57 10,
 .o 58 (.aK 0) [1],
 .o 59 .au [58],
 .o 60 (.aj .eql) [57,59]])
 (.cond (.t 60) (.seq (.region 0 [.M 61 8,
 .M 2 61,
 .C 3 (.bool true)])
 .ret)
 .skip))
 (.seq (.block 4 (.seq (.region 0 [.o 63 (.aK 6) [1],
 .o 64 .au [63],
 .o 65 (.aj .eql) [64,.ki 0],
 .M 62 65])
 (.cond (.t 62) (.seq (.region 0 [.C 2 .cu,
 .C 3 (.bool false)])
 .ret)
 (.seq (.region 0 [.o 67 (.aK 6) [1],
 .o 68 .au [67],
 .o 69 (.aj .eql) [68,.ki 2],
 .M 70 69,
 .g 70 true 71 .aX [8],
 .g 70 true 72 .b_ [71],
 .g 70 true 73 (.aj .gtr) [72,.ki 0],
 .o 74 .pick [70,73,.kb false],
 .M 66 74])
 (.cond (.t 66) (.seq (.region 0 [.M 75 8,
 .o 76 (.aK 0) [1],
 .o 77 .au [76],
 .o 78 (.bM 2) [75,.ki 0],
 .o 79 (.aK 0) [78],
 ⟨.store 1,[79,77],none,none⟩])
 (.seq (.region 0 [.M 80 8,
 .M 2 80,
 .C 3 (.bool true)])
 .ret))
 .skip)))))
 (.seq (.region 2 [.o 81 (.aK 0) [1],
 .o 82 .au [81],
 .M 83 10,
 .o 84 (.build [.int .i64 0,.int .i64 0] [(0,1),(1,1)]) [82,83],
 .o 85 (.YU 0 2 1 [.int .i64 0,.int .i64 0] [(0,2)]) [84],
 .M 86 8,
 .o 87 (.app 1 2) [85,86],
 .M 2 87,
 .C 3 (.bool true)])
 .ret)))))))))⟩
def He:EF:=⟨[0,1,2],[.tmp 6,.tmp 7],(.seq (.region 1 [.o 3 (.box 0) [0],
 .C 6 .aV,
 .C 7 .aG])
 (.seq (.region 0 [.o 12 (.aY 9) [3],
 .M 13 1,
 .M 14 2,
 .o 15 (.ah iC) [12,13,14],
 .M 11 15,
 .o 16 (.ext 0) [11],
 .o 17 (.ext 1) [11],
 .M 8 16,
 .M 9 17])
 (.seq (.seq (.region 0 [.M 18 9,
 .o 19 (.eqN true true) [18,.k .aG]])
 (.cond (.t 19) (.seq (.region 0 [.M 20 9,
 .C 6 .aV,
 .M 7 20])
 .ret)
 .skip))
 (.seq (.region 0 [.o 22 (.aY 9) [3],
 .M 23 1,
 .o 24 (.ah Em) [22,23],
 .M 21 24,
 .o 25 (.ext 0) [21],
 .o 26 (.ext 1) [21],
 .M 10 25,
 .M 9 26])
 (.seq (.seq (.region 0 [.M 27 9,
 .o 28 (.eqN true true) [27,.k .aG]])
 (.cond (.t 28) (.seq (.region 0 [.M 29 9,
 .C 6 .aV,
 .M 7 29])
 .ret)
 .skip))
 (.seq (.region 0 [.M 30 8,
 .M 31 10,
 .o 32 (.ah jU) [30,31],
 .M 6 32,
 .C 7 .aG])
 .ret))))))⟩
def yQ:EC:=(.seq (.region 0 [.o 30 (.aj .lss) [29,28]])
 (.seq (.cond (.t 30) .skip
 (.exit 0))
 (.seq (.block 1 (.seq (.region 0 [.o 31 (.bM 1) [27,29],
 .o 32 .au [31],
 .M 11 32])
 (.seq (.region 1 [.M 33 8,
 .M 34 9,
 .M 35 11,
 .o 36 (.build [.int .i64 0,.int .i64 0] [(0,1),(1,1)]) [34,35],
 .o 37 (.Df 2 1 [.int .i64 0,.int .i64 0] [(0,2)]) [36],
 .o 38 (.app 0 2) [33,37],
 .M 8 38])
 (.region 0 [.M 39 11,
 .M 9 39]))))
 (.region 0 [.o 40 (.aj .add) [29,.ki 1],
 .M 29 40]))))
def Ud:EF:=⟨[0],[.tmp 2,.tmp 3],(.seq (.region 1 [.o 1 (.box 0) [0],
 .C 2 .cu,
 .C 3 .aG])
 (.seq (.seq (.region 0 [.o 12 (.aY 9) [1],
 .o 13 (.ah mg) [12],
 .M 4 13])
 (.seq (.region 0 [.M 14 4,
 .o 15 (.eqN true true) [14,.k .aG]])
 (.cond (.t 15) (.seq (.region 0 [.M 16 4,
 .C 2 .cu,
 .M 3 16])
 .ret)
 .skip)))
 (.seq (.region 0 [.o 18 (.aY 9) [1],
 .o 19 (.bJ xg) [18],
 .M 17 19,
 .o 20 (.ext 0) [17],
 .o 21 (.ext 1) [17],
 .o 22 (.ext 2) [17],
 .M 5 20,
 .M 6 21,
 .M 7 22])
 (.seq (.region 0 [.M 23 5,
 .o 24 (.bJ slices_Reverse_int) [23]])
 (.seq (.region 0 [.C 8 .cu])
 (.seq (.region 0 [.o 25 (.aK 0) [1],
 .o 26 .au [25],
 .M 9 26])
 (.seq (.seq (.region 0 [.M 27 5,
 .o 28 .b_ [27],
 .C 29 (.int .i64 0)])
 (.block 0 (.loop [1,6,7,8,9,27,28,29] [1,6,7,8] yQ)))
 (.seq (.seq (.region 0 [.M 41 7,
 .M 42 41,
 .g 42 true 43 .aX [6],
 .g 42 true 44 (.aK 0) [1],
 .g 42 true 45 .au [44],
 .g 42 true 46 (.aj .eql) [43,45],
 .o 47 .pick [42,46,.kb false]])
 (.cond (.t 47) (.seq (.region 0 [.M 48 8,
 .M 2 48,
 .C 3 .aG])
 .ret)
 .skip))
 (.seq (.join [2,3,8] (.block 2 (.seq (.region 0 [.o 50 (.aK 6) [1],
 .o 51 .au [50],
 .o 52 (.aj .eql) [51,.ki 0],
 .M 49 52])
 (.join [2,3,8] (.cond (.t 49) (.seq (.region 0 [.o 53 (.ah gY) [.ki 5,.k (.str [115,116,117,98])],
 .C 2 .cu,
 .M 3 53])
 .ret)
 (.seq (.region 0 [.o 55 (.aK 6) [1],
 .o 56 .au [55],
 .o 57 (.aj .eql) [56,.ki 2],
 .M 58 57,
 .g 58 true 59 .aX [8],
 .g 58 true 60 .b_ [59],
 .g 58 true 61 (.aj .gtr) [60,.ki 1],
 .o 62 .pick [58,61,.kb false],
 .M 54 62])
 (.join [8] (.cond (.t 54) (.seq (.region 0 [.M 63 8,
 .o 64 (.aK 0) [1],
 .o 65 .au [64],
 .o 66 (.bM 2) [63,.ki 1],
 .o 67 (.aK 0) [66],
 ⟨.store 1,[67,65],none,none⟩])
 (.region 0 [.M 68 8,
 .o 69 (.RX 2 true false) [68,.ki 1],
 .M 8 69]))
 .skip))))))))
 (.seq (.region 0 [.M 70 8,
 .M 2 70,
 .C 3 .aG])
 .ret))))))))))⟩
def Pm:EF:=⟨[0,1,2],[.tmp 6,.tmp 7],(.seq (.region 1 [.o 3 (.box 0) [0],
 .C 6 (.int .i64 0),
 .C 7 .aG])
 (.seq (.region 0 [.M 12 2,
 .o 13 (.ah wF) [12],
 .M 11 13,
 .o 14 (.ext 0) [11],
 .o 15 (.ext 1) [11],
 .o 16 (.ext 2) [11],
 .M 8 14,
 .M 9 15,
 .M 10 16])
 (.seq (.seq (.region 0 [.M 17 10,
 .o 18 (.eqN true true) [17,.k .aG]])
 (.cond (.t 18) (.seq (.region 0 [.M 19 10,
 .C 6 (.int .i64 0),
 .M 7 19])
 .ret)
 .skip))
 (.seq (.region 0 [.o 20 (.aY 9) [3],
 .M 21 1,
 .M 22 8,
 .o 23 (.ah vI) [20,21,22],
 .o 24 (.ext 0) [23],
 .o 25 (.ext 1) [23],
 .M 6 24,
 .M 7 25])
 .ret))))⟩
def pJ:EC:=(.seq (.region 0 [.o 24 (.aj .lss) [23,22]])
 (.seq (.cond (.t 24) .skip
 (.exit 0))
 (.seq (.join [1,2,3,4,6,7,21,22,23] (.block 1 (.seq (.region 1 [.M 25 23,
 .o 26 (.bM 2) [21,23],
 .o 27 (.aY 2) [26],
 .o 9 (.alloc 0 [.int .i64 0,.int .i64 0]) [],
 .M 8 25,
 ⟨.store 2,[9,27],none,none⟩])
 (.seq (.region 0 [.M 28 6,
 .M 10 28])
 (.seq (.seq (.region 0 [.M 29 8,
 .o 30 (.aj .eql) [29,.ki 0]])
 (.join [1,2,3,4,6,7,8,9,10,21,22,23] (.cond (.t 30) (.seq (.region 0 [.o 32 (.aY 9) [1],
 .o 33 (.aY 2) [9],
 .o 34 (.ah uj) [32,33],
 .M 31 34,
 .o 35 (.ext 0) [31],
 .o 36 (.ext 1) [31],
 .M 10 35,
 .M 5 36])
 (.seq (.region 0 [.M 37 5,
 .o 38 (.eqN true true) [37,.k .aG]])
 (.cond (.t 38) (.seq (.region 0 [.M 39 5,
 .C 2 .cu,
 .M 3 39])
 .ret)
 .skip)))
 .skip)))
 (.seq (.seq (.region 0 [.M 40 8,
 .M 41 4,
 .o 42 .b_ [41],
 .o 43 (.aj .sub) [42,.ki 1],
 .o 44 (.aj .eql) [40,43]])
 (.join [1,4,6,7,9,10,21,22,23] (.cond (.t 44) (.region 0 [.M 45 10,
 .o 46 (.aY 9) [1],
 .o 47 (.ah oW) [46],
 .o 48 (.ah jT) [45,47],
 .M 10 48])
 .skip)))
 (.drawn 1 [(0,.M 49 7),
 (1,.o 50 (.aK 1) [9]),
 (2,.o 51 .au [50]),
 (3,.M 52 10),
 (4,.o 53 (.ah fE) [52]),
 (5,.o 54 (.build [.int .i64 0,.str []] [(0,1),(1,1)]) [51,53]),
 (6,.o 55 (.Df 2 1 [.int .i64 0,.str []] [(0,2)]) [54]),
 (7,.o 56 (.app 0 2) [49,55]),
 (8,.M 7 56)])))))))
 (.region 0 [.o 57 (.aj .add) [23,.ki 1],
 .M 23 57]))))
def TV:EF:=⟨[0],[.tmp 2,.tmp 3],(.seq (.region 1 [.o 1 (.box 0) [0],
 .C 2 .cu,
 .C 3 .aG])
 (.seq (.region 0 [.o 12 (.aY 9) [1],
 .o 13 (.ah nN) [12],
 .M 11 13,
 .o 14 (.ext 0) [11],
 .o 15 (.ext 1) [11],
 .M 4 14,
 .M 5 15])
 (.seq (.seq (.region 0 [.M 16 5,
 .o 17 (.eqN true true) [16,.k .aG]])
 (.cond (.t 17) (.seq (.region 0 [.M 18 5,
 .C 2 .cu,
 .M 3 18])
 .ret)
 .skip))
 (.seq (.region 0 [.o 19 (.aY 9) [1],
 .o 20 (.ah sJ) [19],
 .M 6 20])
 (.seq (.region 0 [.C 7 .cu])
 (.seq (.seq (.region 0 [.M 21 4,
 .o 22 .b_ [21],
 .C 23 (.int .i64 0)])
 (.block 0 (.loop [1,4,6,7,21,22,23] [2,3,7] pJ)))
 (.seq (.region 0 [.M 58 7,
 .M 2 58,
 .C 3 .aG])
 .ret)))))))⟩
def TM:EF:=⟨[0,1],[.tmp 4,.tmp 5],(.seq (.region 1 [.o 2 (.box 0) [0],
 .C 4 .aV,
 .C 5 .aG])
 (.seq (.region 1 [.o 13 (.aY 9) [2],
 .M 14 1,
 .o 15 (.ah vN) [13,14],
 .M 12 15,
 .o 16 (.ext 0) [12],
 .o 17 (.ext 1) [12],
 .o 6 (.alloc 0 [.int .i64 0,.int .i64 0]) [],
 ⟨.store 2,[6,16],none,none⟩,
 .M 7 17])
 (.seq (.seq (.region 0 [.M 18 7,
 .o 19 (.eqN true true) [18,.k .aG]])
 (.cond (.t 19) (.seq (.region 0 [.M 20 7,
 .C 4 .aV,
 .M 5 20])
 .ret)
 .skip))
 (.seq (.region 0 [.o 22 (.aY 9) [2],
 .o 23 (.aY 2) [6],
 .M 24 1,
 .o 25 (.ah Dx) [22,23,24],
 .M 21 25,
 .o 26 (.ext 0) [21],
 .o 27 (.ext 1) [21],
 .M 8 26,
 .M 7 27])
 (.seq (.seq (.region 0 [.M 28 7,
 .o 29 (.eqN true true) [28,.k .aG]])
 (.cond (.t 29) (.seq (.region 0 [.M 30 7,
 .C 4 .aV,
 .M 5 30])
 .ret)
 .skip))
 (.seq (.seq (.region 0 [.o 32 (.aY 9) [2],
 .M 33 1,
 .o 34 (.ah Ej) [32,33],
 .M 31 34,
 .o 35 (.ext 0) [31],
 .o 36 (.ext 1) [31],
 .M 9 35,
 .M 10 36])
 (.seq (.region 0 [.M 37 9,
 .o 38 .not [37]])
 (.cond (.t 38) (.seq (.region 0 [.M 39 8,
 .M 4 39,
 .C 5 .aG])
 .ret)
 .skip)))
 (.seq (.region 0 [.o 41 (.aY 9) [2],
 .o 42 (.aY 2) [6],
 .o 43 (.ah uj) [41,42],
 .M 40 43,
 .o 44 (.ext 0) [40],
 .o 45 (.ext 1) [40],
 .M 11 44,
 .M 7 45])
 (.seq (.seq (.region 0 [.M 46 7,
 .o 47 (.eqN true true) [46,.k .aG]])
 (.cond (.t 47) (.seq (.region 0 [.M 48 7,
 .C 4 .aV,
 .M 5 48])
 .ret)
 .skip))
 (.seq (.region 0 [.M 49 8,
 .M 50 11,
 .o 51 (.ah jU) [49,50],
 .M 4 51,
 .C 5 .aG])
 .ret)))))))))⟩
def JF:EF:=⟨[0,1],[.tmp 4,.tmp 5],(.seq (.region 1 [.o 2 (.box 0) [0],
 .C 4 .aV,
 .C 5 .aG])
 (.seq (.region 0 [.o 17 (.aY 9) [2],
 .M 18 1,
 .o 19 (.ah yS) [17,18],
 .M 16 19,
 .o 20 (.ext 0) [16],
 .o 21 (.ext 1) [16],
 .o 22 (.ext 2) [16],
 .M 6 20,
 .M 7 21,
 .M 8 22])
 (.seq (.seq (.region 0 [.M 23 8,
 .o 24 (.eqN true true) [23,.k .aG]])
 (.cond (.t 24) (.seq (.region 0 [.M 25 8,
 .C 4 .aV,
 .M 5 25])
 .ret)
 .skip))
 (.seq (.region 1 [.M 26 6,
 .M 27 7,
 .o 28 (.bM 2) [26,27],
 .o 29 (.aY 2) [28],
 .o 9 (.alloc 0 [.int .i64 0,.int .i64 0]) [],
 ⟨.store 2,[9,29],none,none⟩])
 (.seq (.region 0 [.o 31 (.aY 9) [2],
 .o 32 (.aY 2) [9],
 .o 33 (.aK 0) [9],
 .o 34 .au [33],
 .o 35 (.aK 1) [9],
 .o 36 .au [35],
 .o 37 (.ah vT) [31,32,34,36],
 .M 30 37,
 .o 38 (.ext 0) [30],
 .o 39 (.ext 1) [30],
 .M 10 38,
 .M 8 39])
 (.seq (.seq (.region 0 [.M 40 8,
 .o 41 (.eqN true true) [40,.k .aG]])
 (.cond (.t 41) (.seq (.region 0 [.M 42 8,
 .C 4 .aV,
 .M 5 42])
 .ret)
 .skip))
 (.seq (.region 0 [.o 44 (.aY 9) [2],
 .o 45 (.aY 2) [9],
 .o 46 (.aK 0) [9],
 .o 47 .au [46],
 .M 48 1,
 .o 49 (.ah vT) [44,45,47,48],
 .M 43 49,
 .o 50 (.ext 0) [43],
 .o 51 (.ext 1) [43],
 .M 11 50,
 .M 8 51])
 (.seq (.seq (.region 0 [.M 52 8,
 .o 53 (.eqN true true) [52,.k .aG]])
 (.cond (.t 53) (.seq (.region 0 [.M 54 8,
 .C 4 .aV,
 .M 5 54])
 .ret)
 .skip))
 (.seq (.region 0 [.M 56 11,
 .M 57 10,
 .o 58 (.ah nU) [56,57],
 .M 55 58,
 .o 59 (.ext 0) [55],
 .o 60 (.ext 1) [55],
 .M 12 59,
 .M 8 60])
 (.seq (.seq (.region 0 [.M 61 8,
 .o 62 (.eqN true true) [61,.k .aG]])
 (.cond (.t 62) (.seq (.region 0 [.M 63 8,
 .C 4 .aV,
 .M 5 63])
 .ret)
 .skip))
 (.seq (.region 0 [.o 64 (.ah D8) [],
 .M 65 12,
 .o 66 (.ah jU) [64,65],
 .M 13 66])
 (.seq (.seq (.region 0 [.o 67 (.aY 9) [2],
 .o 68 (.aY 2) [9],
 .o 69 (.ah lN) [67,68],
 .o 70 .not [69]])
 (.join [13] (.cond (.t 70) (.seq (.region 0 [.o 72 (.aK 2) [2],
 .o 73 .au [72],
 .o 74 (.ah lC) [73,.ki 1],
 .M 71 74,
 .o 75 (.ext 0) [71],
 .o 76 (.ext 1) [71],
 .M 14 75,
 .M 15 76])
 (.region 0 [.M 77 13,
 .M 78 14,
 .o 79 (.ah jq) [77,78],
 .M 80 10,
 .o 81 (.ah jq) [79,80],
 .M 13 81]))
 .skip)))
 (.seq (.region 0 [.M 82 13,
 .M 4 82,
 .C 5 .aG])
 .ret)))))))))))))⟩
def Yr:EF:=⟨[],[.tmp 0],(.seq (.region 0 [.C 0 (.bool false)])
 (.seq (.region 0 [.o 1 (.ah uP) [],
 .M 0 1])
 .ret))⟩
def Ju:EF:=⟨[0],[.tmp 2],(.seq (.region 1 [.o 1 (.box 0) [0],
 .C 2 .aG])
 (.seq (.seq (.region 0 [.o 5 (.aY 9) [1],
 .o 6 (.ah DC) [5],
 .M 3 6])
 (.seq (.region 0 [.M 7 3,
 .o 8 (.eqN true true) [7,.k .aG]])
 (.cond (.t 8) (.seq (.region 0 [.M 9 3,
 .M 2 9])
 .ret)
 .skip)))
 (.seq (.seq (.region 0 [.o 10 (.aY 9) [1],
 .o 11 (.ah lX) [10],
 .o 12 (.aj .eql) [11,.ki 0]])
 (.cond (.t 12) (.seq (.region 0 [.o 13 (.ah gY) [.ki 5,.k (.str [102,114,101,113])],
 .M 2 13])
 .ret)
 .skip))
 (.seq (.seq (.region 0 [.o 14 (.aY 9) [1],
 .o 15 (.ah DF) [14],
 .M 4 15])
 (.seq (.region 0 [.M 16 4,
 .o 17 (.eqN true true) [16,.k .aG]])
 (.cond (.t 17) (.seq (.region 0 [.M 18 4,
 .M 2 18])
 .ret)
 .skip)))
 (.seq (.block 0 (.seq (.region 0 [.o 20 (.aK 5) [1],
 .o 21 .au [20],
 .o 22 (.ah yG) [21],
 .o 23 .not [22],
 .M 19 23])
 (.cond (.t 19) (.seq (.region 0 [.o 24 (.ah gY) [.ki 5,.k (.str [99,111,117,110,116])],
 .M 2 24])
 .ret)
 (.seq (.region 0 [.o 26 (.aK 6) [1],
 .o 27 .au [26],
 .o 28 (.aj .lss) [27,.ki 0],
 .M 29 28,
 .g 29 false 30 (.aK 6) [1],
 .g 29 false 31 .au [30],
 .g 29 false 32 (.aj .gtr) [31,.ki 2],
 .o 33 .pick [29,.kb true,32],
 .M 25 33])
 (.cond (.t 25) (.seq (.region 0 [.o 34 (.ah gY) [.ki 5,.k (.str [115,116,117,98])],
 .M 2 34])
 .ret)
 (.seq (.region 0 [.o 36 (.aK 8) [1],
 .o 37 .au [36],
 .o 38 (.aj .lss) [37,.ki 0],
 .M 39 38,
 .g 39 false 40 (.aK 8) [1],
 .g 39 false 41 .au [40],
 .g 39 false 42 (.aj .gtr) [41,.ki 30],
 .o 43 .pick [39,.kb true,42],
 .M 35 43])
 (.cond (.t 35) (.seq (.region 0 [.o 44 (.ah gY) [.ki 5,.k (.str [101,120])],
 .M 2 44])
 .ret)
 (.seq (.drawn 0 [(0,.o 46 (.aK 0) [1]),
 (1,.o 47 .au [46]),
 (2,.o 48 (.aK 1) [1]),
 (3,.o 49 .au [48]),
 (4,.o 50 (.ah kG) [47,49]),
 (5,.o 51 (.aY 9) [1]),
 (6,.o 52 (.ah lX) [51]),
 (7,.o 53 (.aj .quo) [50,52]),
 (8,.o 54 (.aj .add) [53,.ki 2]),
 (9,.o 55 (.aj .gtr) [54,.ki 200]),
 (10,.M 45 55)])
 (.cond (.t 45) (.seq (.region 0 [.o 56 (.ah gY) [.ki 5,.k (.str [102,108,111,119,115])],
 .M 2 56])
 .ret)
 .skip)))))))))
 (.seq (.region 0 [.C 2 .aG])
 .ret))))))⟩
def EP:EF:=⟨[0],[.tmp 2],(.seq (.region 0 [.C 2 (.int .i64 0)])
 (.seq (.region 0 [.M 3 0,
 .o 4 (.ah dO) [3],
 .o 5 (.ah dK) [4],
 .M 2 5])
 .ret))⟩
def Gv:EF:=⟨[0],[.tmp 2],(.seq (.region 1 [.o 1 (.box 0) [0],
 .C 2 (.int .i64 0)])
 (.seq (.seq (.region 0 [.o 3 (.aK 2) [1],
 .o 4 .au [3]])
 (.join [2] (.block 0 (.seq (.seq (.region 0 [.o 6 (.aj .eql) [4,.ki 1],
 .M 5 6])
 (.join [1,5] (.cond (.t 5) .skip
 (.seq (.region 0 [.o 7 (.aj .eql) [4,.ki 2],
 .M 5 7])
 (.join [1,5] (.cond (.t 5) .skip
 (.seq (.region 0 [.o 8 (.aj .eql) [4,.ki 4],
 .M 5 8])
 (.join [1,5] (.cond (.t 5) .skip
 (.region 0 [.o 9 (.aj .eql) [4,.ki 12],
 .M 5 9]))))))))))
 (.cond (.t 5) (.seq (.region 0 [.o 10 (.aK 2) [1],
 .o 11 .au [10],
 .o 12 (.aj .quo) [.ki 12,11],
 .M 2 12])
 .ret)
 .skip)))))
 (.seq (.region 0 [.C 2 (.int .i64 0)])
 .ret)))⟩
def Gu:EF:=⟨[0],[.tmp 2],(.seq (.region 1 [.o 1 (.box 0) [0],
 .C 2 .aV])
 (.seq (.seq (.region 0 [.o 6 (.aY 9) [1],
 .o 7 (.ah mg) [6],
 .o 8 (.eqN true true) [7,.k .aG]])
 (.cond (.t 8) (.seq (.region 0 [.o 9 (.ah sV) [.ki 0],
 .M 2 9])
 .ret)
 .skip))
 (.seq (.region 0 [.o 11 (.aK 3) [1],
 .o 12 .au [11],
 .o 13 (.ah rH) [12],
 .M 10 13,
 .o 14 (.ext 0) [10],
 .o 15 (.ext 1) [10],
 .o 16 (.ext 2) [10],
 .M 3 14,
 .M 4 15,
 .M 5 16])
 (.seq (.region 0 [.M 17 3,
 .M 2 17])
 .ret))))⟩
def Uc:EF:=⟨[0,1],[.tmp 4],(.seq (.region 1 [.o 3 (.box 0) [1],
 .C 4 (.int .i64 0)])
 (.seq (.region 0 [.M 5 0,
 .o 6 (.ab1 yP) [3],
 .o 7 (.xG gK) [5,6],
 .M 4 7])
 .ret))⟩
def jO:EC:=(.seq (.seq (.region 0 [.M 17 6,
 .o 18 (.aj .lss) [17,.ki 9]])
 (.cond (.t 18) .skip
 (.exit 2)))
 (.seq (.block 3 (.seq (.region 0 [.M 21 5,
 .o 22 (.aj .rem) [21,.k (.int .u64 10)],
 .o 23 (.aj .add) [.k (.int .u64 48),22],
 .o 24 (.conv .u8) [23],
 .o 25 (.Df 1 1 [.int .u8 0] [(0,1)]) [24],
 .o 26 .b2s [25],
 .M 27 3,
 .o 28 (.eX .add) [26,27],
 .M 3 28])
 (.region 0 [.M 29 5,
 .o 30 (.aj .quo) [29,.k (.int .u64 10)],
 .M 5 30])))
 (.region 0 [.M 19 6,
 .o 20 (.aj .add) [19,.ki 1],
 .M 6 20])))
def gV:EC:=(.seq (.seq (.region 0 [.M 7 4,
 .M 8 0,
 .o 9 .b_ [8],
 .o 10 (.aj .lss) [7,9]])
 (.cond (.t 10) .skip
 (.exit 0)))
 (.seq (.block 1 (.seq (.region 0 [.M 13 0,
 .M 14 4,
 .o 15 (.bM 1) [13,14],
 .o 16 .au [15],
 .M 5 16])
 (.seq (.region 0 [.C 6 (.int .i64 0)])
 (.block 2 (.loop [0,3,4,5,6] [0,3,4] jO)))))
 (.region 0 [.M 11 4,
 .o 12 (.aj .add) [11,.ki 1],
 .M 4 12])))
def iI:EC:=(.seq (.seq (.region 0 [.M 31 3,
 .o 32 .wV [31],
 .o 33 (.aj .gtr) [32,.ki 1],
 .M 34 33,
 .g 34 true 35 .aX [3],
 .g 34 true 36 .Ze [35,.ki 0],
 .g 34 true 37 (.aj .eql) [36,.k (.int .u8 48)],
 .o 38 .pick [34,37,.kb false]])
 (.cond (.t 38) .skip
 (.exit 4)))
 (.block 5 (.region 0 [.M 39 3,
 .o 40 (.Wi true false) [39,.ki 1],
 .M 3 40])))
def uZ:EF:=⟨[0],[.tmp 2],(.seq (.region 0 [.C 2 (.str [])])
 (.seq (.region 0 [.C 3 (.str [])])
 (.seq (.seq (.region 0 [.C 4 (.int .i64 0)])
 (.block 0 (.loop [0,3,4] [3] gV)))
 (.seq (.block 4 (.loop [3] [3] iI))
 (.seq (.seq (.region 0 [.M 41 3,
 .o 42 (.eX .eql) [41,.k (.str [])]])
 (.cond (.t 42) (.seq (.region 0 [.C 2 (.str [48])])
 .ret)
 .skip))
 (.seq (.region 0 [.M 43 3,
 .M 2 43])
 .ret))))))⟩
def je:EC:=(.seq (.seq (.region 0 [.M 4 0,
 .o 5 (.aj .gtr) [4,.k (.int .u64 0)]])
 (.cond (.t 5) .skip
 (.exit 0)))
 (.seq (.block 1 (.region 1 [.M 8 3,
 .M 9 0,
 .o 10 (.aj .rem) [9,.k (.int .u64 1000000000)],
 .o 11 (.Df 1 1 [.int .u64 0] [(0,1)]) [10],
 .o 12 (.app 0 1) [8,11],
 .M 3 12]))
 (.region 0 [.M 6 0,
 .o 7 (.aj .quo) [6,.k (.int .u64 1000000000)],
 .M 0 7])))
def zI:EF:=⟨[0],[.tmp 2],(.seq (.region 0 [.C 2 .cu])
 (.seq (.region 0 [.C 3 .cu])
 (.seq (.block 0 (.loop [0,3] [3] je))
 (.seq (.region 0 [.M 13 3,
 .M 2 13])
 .ret))))⟩
def AV:EF:=⟨[0],[.tmp 2],(.seq (.region 0 [.C 2 (.bool false)])
 (.seq (.region 0 [.M 3 0,
 .o 4 (.aj .geq) [3,.ki 0],
 .M 5 4,
 .g 5 true 6 .aX [0],
 .g 5 true 7 (.aj .leq) [6,.ki 109572],
 .o 8 .pick [5,7,.kb false],
 .M 2 8])
 .ret))⟩
def yI:EF:=⟨[0],[.tmp 2],(.seq (.region 0 [.C 2 (.bool false)])
 (.seq (.region 1 [.M 4 0,
 .o 5 (.ah iM) [4],
 .o 3 (.alloc 0 [.int .i64 0,.int .i64 0,.int .i64 0]) [],
 ⟨.store 3,[3,5],none,none⟩])
 (.seq (.drawn 0 [(0,.o 6 (.aK 2) [3]),
 (1,.o 7 .au [6]),
 (2,.o 8 (.aK 0) [3]),
 (3,.o 9 .au [8]),
 (4,.o 10 (.aK 1) [3]),
 (5,.o 11 .au [10]),
 (6,.o 12 (.ah fA) [9,11]),
 (7,.o 13 (.aj .eql) [7,12]),
 (8,.M 2 13)])
 .ret)))⟩
def u_:EF:=⟨[0,1],[.tmp 4],(.seq (.region 0 [.C 4 (.int .i64 0)])
 (.seq (.seq (.region 0 [.M 5 1])
 (.join [4] (.block 0 (.seq (.seq (.region 0 [.o 7 (.aj .eql) [5,.ki 1],
 .M 6 7])
 (.join [0,5,6] (.cond (.t 6) .skip
 (.seq (.region 0 [.o 8 (.aj .eql) [5,.ki 3],
 .M 6 8])
 (.join [0,5,6] (.cond (.t 6) .skip
 (.seq (.region 0 [.o 9 (.aj .eql) [5,.ki 5],
 .M 6 9])
 (.join [0,5,6] (.cond (.t 6) .skip
 (.seq (.region 0 [.o 10 (.aj .eql) [5,.ki 7],
 .M 6 10])
 (.join [0,5,6] (.cond (.t 6) .skip
 (.seq (.region 0 [.o 11 (.aj .eql) [5,.ki 8],
 .M 6 11])
 (.join [0,5,6] (.cond (.t 6) .skip
 (.seq (.region 0 [.o 12 (.aj .eql) [5,.ki 10],
 .M 6 12])
 (.join [0,5,6] (.cond (.t 6) .skip
 (.region 0 [.o 13 (.aj .eql) [5,.ki 12],
 .M 6 13])))))))))))))))))))
 (.join [4] (.cond (.t 6) (.seq (.region 0 [.C 4 (.int .i64 31)])
 .ret)
 (.seq (.seq (.region 0 [.o 15 (.aj .eql) [5,.ki 4],
 .M 14 15])
 (.join [0,5,14] (.cond (.t 14) .skip
 (.seq (.region 0 [.o 16 (.aj .eql) [5,.ki 6],
 .M 14 16])
 (.join [0,5,14] (.cond (.t 14) .skip
 (.seq (.region 0 [.o 17 (.aj .eql) [5,.ki 9],
 .M 14 17])
 (.join [0,5,14] (.cond (.t 14) .skip
 (.region 0 [.o 18 (.aj .eql) [5,.ki 11],
 .M 14 18]))))))))))
 (.cond (.t 14) (.seq (.region 0 [.C 4 (.int .i64 30)])
 .ret)
 (.seq (.region 0 [.o 20 (.aj .eql) [5,.ki 2],
 .M 19 20])
 (.cond (.t 19) (.seq (.seq (.region 0 [.M 21 0,
 .o 22 (.ah lT) [21]])
 (.cond (.t 22) (.seq (.region 0 [.C 4 (.int .i64 29)])
 .ret)
 .skip))
 (.seq (.region 0 [.C 4 (.int .i64 28)])
 .ret))
 .skip))))))))))
 (.seq (.region 0 [.C 4 (.int .i64 0)])
 .ret)))⟩
def mZ:EC:=(.seq (.seq (.region 0 [.M 30 5,
 .o 31 (.aK 0) [1],
 .o 32 .au [31],
 .o 33 (.aj .lss) [30,32]])
 (.cond (.t 33) .skip
 (.exit 0)))
 (.seq (.block 1 (.region 0 [.M 36 4,
 .M 37 5,
 .o 38 (.ah kD) [37],
 .o 39 (.aj .add) [36,38],
 .M 4 39]))
 (.region 0 [.M 34 5,
 .o 35 (.aj .add) [34,.ki 1],
 .M 5 35])))
def m_:EC:=(.seq (.seq (.region 0 [.M 40 6,
 .o 41 (.aK 1) [1],
 .o 42 .au [41],
 .o 43 (.aj .lss) [40,42]])
 (.cond (.t 43) .skip
 (.exit 2)))
 (.seq (.block 3 (.region 0 [.M 46 4,
 .o 47 (.aK 0) [1],
 .o 48 .au [47],
 .M 49 6,
 .o 50 (.ah fA) [48,49],
 .o 51 (.aj .add) [46,50],
 .M 4 51]))
 (.region 0 [.M 44 6,
 .o 45 (.aj .add) [44,.ki 1],
 .M 6 45])))
def AX:EF:=⟨[0],[.tmp 2,.tmp 3],(.seq (.region 1 [.o 1 (.box 0) [0],
 .C 2 (.int .i64 0),
 .C 3 (.bool false)])
 (.seq (.seq (.drawn 0 [(0,.o 7 (.aK 0) [1]),
 (1,.o 8 .au [7]),
 (2,.o 9 (.aj .lss) [8,.ki 1900]),
 (3,.M 10 9),
 (4,.g 10 false 11 (.aK 0) [1]),
 (5,.g 10 false 12 .au [11]),
 (6,.g 10 false 13 (.aj .gtr) [12,.ki 2199]),
 (7,.o 14 .pick [10,.kb true,13]),
 (8,.M 15 14),
 (9,.g 15 false 16 (.aK 2) [1]),
 (10,.g 15 false 17 .au [16]),
 (11,.g 15 false 18 (.aj .lss) [17,.ki 1]),
 (12,.o 19 .pick [15,.kb true,18]),
 (13,.M 20 19),
 (14,.g 20 false 21 (.aK 2) [1]),
 (15,.g 20 false 22 .au [21]),
 (16,.g 20 false 23 (.aK 0) [1]),
 (17,.g 20 false 24 .au [23]),
 (18,.g 20 false 25 (.aK 1) [1]),
 (19,.g 20 false 26 .au [25]),
 (20,.g 20 false 27 (.ah fA) [24,26]),
 (21,.g 20 false 28 (.aj .gtr) [22,27]),
 (22,.o 29 .pick [20,.kb true,28])])
 (.cond (.t 29) (.seq (.region 0 [.C 2 (.int .i64 0),
 .C 3 (.bool false)])
 .ret)
 .skip))
 (.seq (.region 0 [.C 4 (.int .i64 0)])
 (.seq (.seq (.region 0 [.C 5 (.int .i64 1900)])
 (.block 0 (.loop [1,4,5] [1,4] mZ)))
 (.seq (.seq (.region 0 [.C 6 (.int .i64 1)])
 (.block 2 (.loop [1,4,6] [1,4] m_)))
 (.seq (.region 0 [.M 52 4,
 .o 53 (.aK 2) [1],
 .o 54 .au [53],
 .o 55 (.aj .add) [52,54],
 .o 56 (.aj .sub) [55,.ki 1],
 .M 2 56,
 .C 3 (.bool true)])
 .ret))))))⟩
def lQ:EC:=(.seq (.region 0 [.o 42 (.aj .lss) [41,40]])
 (.seq (.cond (.t 42) .skip
 (.exit 0))
 (.seq (.block 1 (.seq (.region 1 [.o 43 (.bM 2) [39,41],
 .o 44 (.aY 2) [43],
 .o 12 (.alloc 0 [.int .i64 0,.str []]) [],
 ⟨.store 2,[12,44],none,none⟩])
 (.seq (.region 0 [.o 46 (.aK 1) [12],
 .o 47 .au [46],
 .o 48 (.ah Je) [47],
 .M 45 48,
 .o 49 (.ext 0) [45],
 .o 50 (.ext 1) [45],
 .M 13 49,
 .M 14 50])
 (.region 1 [.M 51 10,
 .M 52 13,
 .o 53 (.Df 1 1 [.aV] [(0,1)]) [52],
 .o 54 (.app 0 1) [51,53],
 .M 10 54]))))
 (.region 0 [.o 55 (.aj .add) [41,.ki 1],
 .M 41 55]))))
def Dl:EF:=⟨[0,1],[.tmp 4,.tmp 5],(.seq (.region 1 [.o 2 (.box 0) [0],
 .C 4 .cu,
 .C 5 .aG])
 (.seq (.region 0 [.o 20 (.aY 9) [2],
 .M 21 1,
 .o 22 (.ah yS) [20,21],
 .M 19 22,
 .o 23 (.ext 0) [19],
 .o 24 (.ext 1) [19],
 .o 25 (.ext 2) [19],
 .M 6 23,
 .M 7 24,
 .M 8 25])
 (.seq (.seq (.region 0 [.M 26 8,
 .o 27 (.eqN true true) [26,.k .aG]])
 (.cond (.t 27) (.seq (.region 0 [.M 28 8,
 .C 4 .cu,
 .M 5 28])
 .ret)
 .skip))
 (.seq (.region 0 [.o 30 (.aY 9) [2],
 .o 31 (.ah zZ) [30],
 .M 29 31,
 .o 32 (.ext 0) [29],
 .o 33 (.ext 1) [29],
 .M 9 32,
 .M 8 33])
 (.seq (.seq (.region 0 [.M 34 8,
 .o 35 (.eqN true true) [34,.k .aG]])
 (.cond (.t 35) (.seq (.region 0 [.M 36 8,
 .C 4 .cu,
 .M 5 36])
 .ret)
 .skip))
 (.seq (.region 0 [.C 10 .cu])
 (.seq (.seq (.region 0 [.M 37 9,
 .M 38 7,
 .o 39 (.RX 2 true false) [37,38],
 .o 40 .b_ [39],
 .C 41 (.int .i64 0)])
 (.block 0 (.loop [1,2,6,7,10,39,40,41] [1,2,6,7,10] lQ)))
 (.seq (.seq (.region 0 [.o 57 (.aY 9) [2],
 .M 58 1,
 .o 59 (.ah Ej) [57,58],
 .M 56 59,
 .o 60 (.ext 0) [56],
 .o 61 (.ext 1) [56],
 .M 15 60,
 .M 16 61])
 (.seq (.region 0 [.M 62 15])
 (.join [4,5,10] (.cond (.t 62) (.seq (.drawn 0 [(0,.o 64 (.aY 9) [2]),
 (1,.M 65 6),
 (2,.M 66 7),
 (3,.o 67 (.bM 2) [65,66]),
 (4,.o 68 (.aY 2) [67]),
 (5,.o 69 (.ah uj) [64,68]),
 (6,.M 63 69),
 (7,.o 70 (.ext 0) [63]),
 (8,.o 71 (.ext 1) [63]),
 (9,.M 17 70),
 (10,.M 18 71)])
 (.seq (.seq (.region 0 [.M 72 18,
 .o 73 (.eqN true true) [72,.k .aG]])
 (.cond (.t 73) (.seq (.region 0 [.M 74 18,
 .C 4 .cu,
 .M 5 74])
 .ret)
 .skip))
 (.region 0 [.M 75 10,
 .M 76 10,
 .o 77 (.bM 1) [76,.ki 0],
 .o 78 .au [77],
 .M 79 17,
 .o 80 (.ah jU) [78,79],
 .o 81 (.bM 1) [75,.ki 0],
 ⟨.store 1,[81,80],none,none⟩])))
 .skip))))
 (.seq (.region 0 [.M 82 10,
 .M 4 82,
 .C 5 .aG])
 .ret)))))))))⟩
def O5:EF:=⟨[0],[.tmp 2],(.seq (.region 0 [.C 2 .aG])
 (.seq (.seq (.region 0 [.M 3 0,
 .o 4 (.aj .eql) [3,.ki 0]])
 (.cond (.t 4) (.seq (.region 0 [.C 2 .aG])
 .ret)
 .skip))
 (.seq (.region 0 [.M 5 0,
 .o 6 (.Xc kZ) [5],
 .M 2 6])
 .ret)))⟩
def WT:EF:=⟨[0],[.tmp 2],(.seq (.region 0 [.C 2 .aV])
 (.seq (.seq (.region 0 [.M 3 0,
 .o 4 (.aj .lss) [3,.ki 0]])
 (.cond (.t 4) (.seq (.region 0 [.M 5 0,
 .o 6 (.conv .u64) [5],
 .o 7 .neg [6],
 .o 8 (.ah iW) [7],
 .o 9 (.ah iH) [.kb true,8],
 .M 2 9])
 .ret)
 .skip))
 (.seq (.region 0 [.M 10 0,
 .o 11 (.conv .u64) [10],
 .o 12 (.ah iW) [11],
 .o 13 (.ah iH) [.kb false,12],
 .M 2 13])
 .ret)))⟩
def G7:EF:=⟨[0,1],[.tmp 4],(.seq (.region 0 [.C 4 .aV])
 (.seq (.region 0 [.M 5 0,
 .o 6 (.ah dK) [5],
 .M 7 1,
 .o 8 (.ah dK) [7],
 .o 9 (.aj .mul) [6,8],
 .o 10 (.aj .lss) [9,.ki 0],
 .M 11 0,
 .o 12 (.ah bV) [11],
 .M 13 1,
 .o 14 (.ah bV) [13],
 .o 15 (.ah jm) [12,14],
 .o 16 (.ah iH) [10,15],
 .M 4 16])
 .ret))⟩
def GZ:EF:=⟨[0,1],[.tmp 4],(.seq (.region 0 [.C 4 .aV])
 (.seq (.region 0 [.M 11 0,
 .o 12 (.ah dK) [11],
 .o 13 (.aj .lss) [12,.ki 0],
 .M 14 1,
 .o 15 (.ah dK) [14],
 .o 16 (.aj .lss) [15,.ki 0],
 .M 5 13,
 .M 6 16])
 (.seq (.seq (.region 0 [.M 17 5,
 .M 18 6,
 .o 19 (.eqB false) [17,18]])
 (.cond (.t 19) (.seq (.region 0 [.M 20 5,
 .M 21 0,
 .o 22 (.ah bV) [21],
 .M 23 1,
 .o 24 (.ah bV) [23],
 .o 25 (.ah ji) [22,24],
 .o 26 (.ah iH) [20,25],
 .M 4 26])
 .ret)
 .skip))
 (.seq (.seq (.region 0 [.M 27 0,
 .o 28 (.ah bV) [27],
 .M 29 1,
 .o 30 (.ah bV) [29],
 .o 31 (.ah kQ) [28,30],
 .o 32 (.aj .lss) [31,.ki 0]])
 (.cond (.t 32) (.seq (.region 0 [.M 34 1,
 .o 35 (.ah bV) [34],
 .M 36 0,
 .o 37 (.ah bV) [36],
 .o 38 (.ah nR) [35,37],
 .M 33 38,
 .o 39 (.ext 0) [33],
 .o 40 (.ext 1) [33],
 .M 7 39,
 .M 8 40])
 (.seq (.region 0 [.M 41 6,
 .M 42 7,
 .o 43 (.ah iH) [41,42],
 .M 4 43])
 .ret))
 .skip))
 (.seq (.region 0 [.M 45 0,
 .o 46 (.ah bV) [45],
 .M 47 1,
 .o 48 (.ah bV) [47],
 .o 49 (.ah nR) [46,48],
 .M 44 49,
 .o 50 (.ext 0) [44],
 .o 51 (.ext 1) [44],
 .M 9 50,
 .M 10 51])
 (.seq (.region 0 [.M 52 5,
 .M 53 9,
 .o 54 (.ah iH) [52,53],
 .M 4 54])
 .ret))))))⟩
def iY:EC:=(.seq (.seq (.region 0 [.M 23 12,
 .o 24 (.aj .geq) [23,.ki 0]])
 (.cond (.t 24) .skip
 (.exit 0)))
 (.seq (.join [1,2,8,9,10,11,12] (.block 1 (.seq (.drawn 0 [(0,.M 27 10),
 (1,.M 28 2),
 (2,.o 29 (.ah bW) [27,28]),
 (3,.M 30 8),
 (4,.M 31 12),
 (5,.o 32 (.bM 1) [30,31]),
 (6,.o 33 .au [32]),
 (7,.M 34 11),
 (8,.o 35 (.ah bW) [33,34]),
 (9,.o 36 (.ah iy) [29,35]),
 (10,.M 10 36)])
 (.seq (.region 0 [.M 37 12,
 .o 38 (.aj .gtr) [37,.ki 0]])
 (.join [1,2,8,9,10,11,12] (.cond (.t 38) (.region 0 [.M 39 11,
 .M 40 1,
 .o 41 (.ah bW) [39,40],
 .M 11 41])
 .skip))))))
 (.region 0 [.M 25 12,
 .o 26 (.aj .sub) [25,.ki 1],
 .M 12 26])))
def EN:EF:=⟨[0,1,2],[.tmp 6,.tmp 7],(.seq (.region 0 [.C 6 .aV,
 .C 7 .aV])
 (.seq (.region 0 [.M 14 0,
 .o 15 (.ah xk) [14],
 .M 13 15,
 .o 16 (.ext 0) [13],
 .o 17 (.ext 1) [13],
 .M 8 16,
 .M 9 17])
 (.seq (.region 0 [.o 18 (.ah jI) [.ki 0],
 .o 19 (.ah jI) [.ki 1],
 .M 10 18,
 .M 11 19])
 (.seq (.seq (.region 0 [.M 20 8,
 .o 21 .b_ [20],
 .o 22 (.aj .sub) [21,.ki 1],
 .M 12 22])
 (.block 0 (.loop [1,2,8,9,10,11,12] [9,10,11] iY)))
 (.seq (.region 0 [.M 42 10,
 .M 43 9,
 .M 44 11,
 .o 45 (.ah bW) [43,44],
 .M 6 42,
 .M 7 45])
 .ret)))))⟩
def Ho:EF:=⟨[0],[.tmp 2],(.seq (.region 0 [.C 2 .aV])
 (.seq (.seq (.region 0 [.M 3 0,
 .o 4 (.xO false) [3,.k .aV],
 .M 5 4,
 .g 5 false 6 .aX [0],
 .g 5 false 7 .oP [6],
 .g 5 false 8 (.aK 1) [7],
 .g 5 false 9 .au [8],
 .g 5 false 10 (.xO false) [9,.k .aV],
 .o 11 .pick [5,.kb true,10]])
 (.cond (.t 11) (.seq (.region 0 [.o 12 (.ah jI) [.ki 1],
 .M 2 12])
 .ret)
 .skip))
 (.seq (.region 0 [.M 13 0,
 .o 14 .oP [13],
 .o 15 (.aK 1) [14],
 .o 16 .au [15],
 .M 2 16])
 .ret)))⟩
def Ht:EF:=⟨[0],[.tmp 2],(.seq (.region 0 [.C 2 .aV])
 (.seq (.seq (.region 0 [.M 3 0,
 .o 4 (.xO false) [3,.k .aV],
 .M 5 4,
 .g 5 false 6 .aX [0],
 .g 5 false 7 .oP [6],
 .g 5 false 8 (.aK 0) [7],
 .g 5 false 9 .au [8],
 .g 5 false 10 (.xO false) [9,.k .aV],
 .o 11 .pick [5,.kb true,10]])
 (.cond (.t 11) (.seq (.region 0 [.o 12 (.ah jI) [.ki 0],
 .M 2 12])
 .ret)
 .skip))
 (.seq (.region 0 [.M 13 0,
 .o 14 .oP [13],
 .o 15 (.aK 0) [14],
 .o 16 .au [15],
 .M 2 16])
 .ret)))⟩
def EI:EF:=⟨[0],[.tmp 2],(.seq (.region 0 [.C 2 (.int .i64 0)])
 (.seq (.block 0 (.seq (.region 0 [.M 4 0,
 .o 5 (.ah bV) [4],
 .o 6 (.ah fQ) [5],
 .M 3 6])
 (.cond (.t 3) (.seq (.region 0 [.C 2 (.int .i64 0)])
 .ret)
 (.seq (.region 0 [.M 8 0,
 .o 9 .oP [8],
 .o 10 (.aK 0) [9],
 .o 11 .au [10],
 .M 7 11])
 (.cond (.t 7) (.seq (.region 0 [.C 2 (.int .i64 (-1))])
 .ret)
 .skip)))))
 (.seq (.region 0 [.C 2 (.int .i64 1)])
 .ret)))⟩
def Uf:EF:=⟨[0,1],[.tmp 4,.tmp 5],(.seq (.region 0 [.C 4 .aV,
 .C 5 .aG])
 (.seq (.seq (.region 0 [.M 13 1,
 .o 14 (.ah dK) [13],
 .o 15 (.aj .eql) [14,.ki 0]])
 (.cond (.t 15) (.seq (.region 0 [.o 16 (.ah dG) [.ki 3],
 .C 4 .aV,
 .M 5 16])
 .ret)
 .skip))
 (.seq (.region 0 [.M 17 0,
 .o 18 (.ah bV) [17],
 .M 19 1,
 .o 20 (.ah bV) [19],
 .o 21 (.ah oZ) [18,20],
 .M 6 21])
 (.seq (.region 0 [.M 23 0,
 .o 24 (.ah bV) [23],
 .M 25 6,
 .o 26 (.ah jl) [24,25],
 .M 22 26,
 .o 27 (.ext 0) [22],
 .o 28 (.ext 1) [22],
 .o 29 (.ext 2) [22],
 .M 7 27,
 .M 8 28,
 .M 9 29])
 (.seq (.region 0 [.M 31 1,
 .o 32 (.ah bV) [31],
 .M 33 6,
 .o 34 (.ah jl) [32,33],
 .M 30 34,
 .o 35 (.ext 0) [30],
 .o 36 (.ext 1) [30],
 .o 37 (.ext 2) [30],
 .M 10 35,
 .M 11 36,
 .M 12 37])
 (.seq (.region 1 [.M 38 0,
 .o 39 (.ah dK) [38],
 .M 40 1,
 .o 41 (.ah dK) [40],
 .o 42 (.aj .mul) [39,41],
 .o 43 (.aj .lss) [42,.ki 0],
 .M 44 7,
 .o 45 (.ah iH) [43,44],
 .M 46 10,
 .o 47 (.ah iH) [.kb false,46],
 .o 48 (.build [.aV,.aV] [(0,1),(1,1)]) [45,47],
 .o 49 (.box 0) [48],
 .M 4 49,
 .C 5 .aG])
 .ret))))))⟩
def G5:EF:=⟨[0,1],[.tmp 4],(.seq (.region 0 [.C 4 (.int .i64 0)])
 (.seq (.region 0 [.M 5 0,
 .M 6 1,
 .o 7 (.ah rX) [5,6],
 .o 8 (.ah dK) [7],
 .M 4 8])
 .ret))⟩
def Ph:EF:=⟨[0,1],[.tmp 4],(.seq (.region 0 [.C 4 .aV])
 (.seq (.region 0 [.M 8 0,
 .M 9 1,
 .o 10 (.ah oL) [8,9],
 .M 7 10,
 .o 11 (.ext 0) [7],
 .o 12 (.ext 1) [7],
 .M 5 11,
 .M 6 12])
 (.seq (.region 0 [.M 13 5,
 .M 4 13])
 .ret)))⟩
def G8:EF:=⟨[0],[.tmp 2],(.seq (.region 0 [.C 2 .aV])
 (.seq (.region 0 [.M 3 0,
 .o 4 (.ah dK) [3],
 .o 5 (.aj .geq) [4,.ki 0],
 .M 6 0,
 .o 7 (.ah bV) [6],
 .o 8 (.ah iH) [5,7],
 .M 2 8])
 .ret))⟩
def yK:EF:=⟨[0],[.tmp 2],(.seq (.region 0 [.C 2 (.int .i64 0)])
 (.seq (.seq (.region 0 [.M 3 0,
 .o 4 (.ah lT) [3]])
 (.cond (.t 4) (.seq (.region 0 [.C 2 (.int .i64 366)])
 .ret)
 .skip))
 (.seq (.region 0 [.C 2 (.int .i64 365)])
 .ret)))⟩
def ru:EC:=(.seq (.region 0 [.o 24 (.aj .lss) [23,22]])
 (.seq (.cond (.t 24) .skip
 (.exit 0))
 (.seq (.block 1 (.seq (.region 0 [.o 25 (.bM 1) [21,23],
 .o 26 .au [25],
 .M 10 26])
 (.seq (.region 0 [.M 28 8,
 .M 29 10,
 .o 30 (.ah dD) [29],
 .o 31 (.ah oL) [28,30],
 .M 27 31,
 .o 32 (.ext 0) [27],
 .o 33 (.ext 1) [27],
 .M 11 32,
 .M 12 33])
 (.region 0 [.M 34 8,
 .M 35 11,
 .o 36 (.ah dD) [35],
 .o 37 (.ah bW) [34,36],
 .M 8 37]))))
 (.region 0 [.o 38 (.aj .add) [23,.ki 1],
 .M 23 38]))))
def kS:EC:=(.seq (.seq (.region 0 [.M 45 16,
 .o 46 (.aj .geq) [45,.ki 0]])
 (.cond (.t 46) .skip
 (.exit 2)))
 (.seq (.block 3 (.seq (.region 0 [.M 50 8,
 .M 51 0,
 .M 52 16,
 .o 53 (.bM 1) [51,52],
 .o 54 .au [53],
 .o 55 (.ah dD) [54],
 .o 56 (.ah rW) [50,55],
 .M 49 56,
 .o 57 (.ext 0) [49],
 .o 58 (.ext 1) [49],
 .o 59 (.ext 2) [49],
 .M 17 57,
 .M 18 58,
 .M 19 59])
 (.seq (.region 0 [.M 60 13,
 .M 61 14,
 .o 62 (.ah iy) [60,61],
 .M 63 2,
 .o 64 (.ah bW) [62,63],
 .M 13 64])
 (.seq (.drawn 0 [(0,.M 65 14),
 (1,.M 66 2),
 (2,.o 67 (.ah bW) [65,66]),
 (3,.M 68 0),
 (4,.M 69 16),
 (5,.o 70 (.bM 1) [68,69]),
 (6,.o 71 .au [70]),
 (7,.o 72 (.ah dO) [71]),
 (8,.M 73 17),
 (9,.o 74 (.ah bW) [72,73]),
 (10,.M 75 15),
 (11,.o 76 (.ah bW) [74,75]),
 (12,.o 77 (.ah iy) [67,76]),
 (13,.M 14 77)])
 (.region 0 [.M 78 15,
 .M 79 1,
 .o 80 (.ah bW) [78,79],
 .M 15 80])))))
 (.region 0 [.M 47 16,
 .o 48 (.aj .sub) [47,.ki 1],
 .M 16 48])))
def Hw:EF:=⟨[0,1,2],[.tmp 6,.tmp 7],(.seq (.region 0 [.C 6 .aV,
 .C 7 .aV])
 (.seq (.region 0 [.o 20 (.ah jI) [.ki 1],
 .M 8 20])
 (.seq (.seq (.region 0 [.M 21 0,
 .o 22 .b_ [21],
 .C 23 (.int .i64 0)])
 (.block 0 (.loop [0,1,2,8,21,22,23] [0,1,2,8] ru)))
 (.seq (.region 0 [.o 39 (.ah jI) [.ki 0],
 .o 40 (.ah jI) [.ki 0],
 .o 41 (.ah jI) [.ki 1],
 .M 13 39,
 .M 14 40,
 .M 15 41])
 (.seq (.seq (.region 0 [.M 42 0,
 .o 43 .b_ [42],
 .o 44 (.aj .sub) [43,.ki 1],
 .M 16 44])
 (.block 2 (.loop [0,1,2,8,13,14,15,16] [13,14] kS)))
 (.seq (.region 0 [.M 81 13,
 .M 82 14,
 .M 6 81,
 .M 7 82])
 .ret))))))⟩
def nJ:EC:=(.seq (.region 0 [.o 37 (.aj .lss) [36,35]])
 (.seq (.cond (.t 37) .skip
 (.exit 0))
 (.seq (.block 1 (.seq (.region 1 [.o 38 (.bM 2) [34,36],
 .o 39 (.aY 2) [38],
 .o 12 (.alloc 0 [.int .i64 0,.str []]) [],
 ⟨.store 2,[12,39],none,none⟩])
 (.seq (.region 0 [.o 41 (.aK 1) [12],
 .o 42 .au [41],
 .o 43 (.ah Je) [42],
 .M 40 43,
 .o 44 (.ext 0) [40],
 .o 45 (.ext 1) [40],
 .M 13 44,
 .M 14 45])
 (.region 1 [.M 46 10,
 .M 47 13,
 .o 48 (.Df 1 1 [.aV] [(0,1)]) [47],
 .o 49 (.app 0 1) [46,48],
 .M 10 49]))))
 (.region 0 [.o 50 (.aj .add) [36,.ki 1],
 .M 36 50]))))
def ET:EF:=⟨[0,1],[.tmp 4],(.seq (.region 1 [.o 2 (.box 0) [0],
 .C 4 .cu])
 (.seq (.region 0 [.o 20 (.aY 9) [2],
 .o 21 (.ah nN) [20],
 .M 19 21,
 .o 22 (.ext 0) [19],
 .o 23 (.ext 1) [19],
 .M 5 22,
 .M 6 23])
 (.seq (.region 0 [.o 25 (.aY 9) [2],
 .o 26 (.ah zZ) [25],
 .M 24 26,
 .o 27 (.ext 0) [24],
 .o 28 (.ext 1) [24],
 .M 7 27,
 .M 8 28])
 (.seq (.region 0 [.M 29 5,
 .M 30 1,
 .o 31 (.ah Ci) [29,30],
 .M 9 31])
 (.seq (.region 0 [.C 10 .cu])
 (.seq (.seq (.region 0 [.M 32 7,
 .M 33 9,
 .o 34 (.RX 2 true false) [32,33],
 .o 35 .b_ [34],
 .C 36 (.int .i64 0)])
 (.block 0 (.loop [1,2,5,9,10,34,35,36] [1,2,5,9,10] nJ)))
 (.seq (.seq (.region 0 [.o 52 (.aY 9) [2],
 .M 53 1,
 .o 54 (.ah Ej) [52,53],
 .M 51 54,
 .o 55 (.ext 0) [51],
 .o 56 (.ext 1) [51],
 .M 15 55,
 .M 16 56])
 (.seq (.region 0 [.M 57 15])
 (.join [10] (.cond (.t 57) (.seq (.drawn 0 [(0,.o 59 (.aY 9) [2]),
 (1,.M 60 5),
 (2,.M 61 9),
 (3,.o 62 (.bM 2) [60,61]),
 (4,.o 63 (.aY 2) [62]),
 (5,.o 64 (.ah uj) [59,63]),
 (6,.M 58 64),
 (7,.o 65 (.ext 0) [58]),
 (8,.o 66 (.ext 1) [58]),
 (9,.M 17 65),
 (10,.M 18 66)])
 (.region 0 [.M 67 10,
 .M 68 10,
 .o 69 (.bM 1) [68,.ki 0],
 .o 70 .au [69],
 .M 71 17,
 .o 72 (.ah jU) [70,71],
 .o 73 (.bM 1) [67,.ki 0],
 ⟨.store 1,[73,72],none,none⟩]))
 .skip))))
 (.seq (.region 0 [.M 74 10,
 .M 4 74])
 .ret))))))))⟩
def Hr:EF:=⟨[0,1],[.tmp 4],(.seq (.region 0 [.C 4 .aV])
 (.seq (.region 0 [.M 5 0,
 .o 6 (.ah dO) [5],
 .M 7 1,
 .o 8 (.ah dO) [7],
 .o 9 (.ah bW) [6,8],
 .M 10 0,
 .o 11 (.ah dD) [10],
 .M 12 1,
 .o 13 (.ah dD) [12],
 .o 14 (.ah bW) [11,13],
 .o 15 (.ah xw) [9,14],
 .M 4 15])
 .ret))⟩
def Ug:EF:=⟨[0,1],[.tmp 4],(.seq (.region 0 [.C 4 .aV])
 (.seq (.region 0 [.M 8 0,
 .M 9 1,
 .o 10 (.ah lC) [8,9],
 .M 7 10,
 .o 11 (.ext 0) [7],
 .o 12 (.ext 1) [7],
 .M 5 11,
 .M 6 12])
 (.seq (.region 0 [.M 13 5,
 .M 4 13])
 .ret)))⟩
def EJ:EF:=⟨[0],[.tmp 2],(.seq (.region 0 [.C 2 (.str [])])
 (.seq (.seq (.region 0 [.M 3 0,
 .o 4 (.ah dK) [3],
 .o 5 (.aj .lss) [4,.ki 0]])
 (.cond (.t 5) (.seq (.region 0 [.M 6 0,
 .o 7 (.ah bV) [6],
 .o 8 (.ah jF) [7],
 .o 9 (.eX .add) [.k (.str [45]),8],
 .M 2 9])
 .ret)
 .skip))
 (.seq (.region 0 [.M 10 0,
 .o 11 (.ah bV) [10],
 .o 12 (.ah jF) [11],
 .M 2 12])
 .ret)))⟩
def sZ:EF:=⟨[0,1],[.tmp 4,.tmp 5],(.seq (.region 1 [.o 2 (.box 0) [0],
 .C 4 (.int .i64 0),
 .C 5 (.bool false)])
 (.seq (.drawn 0 [(0,.o 6 (.aK 1) [2]),
 (1,.o 7 .au [6]),
 (2,.M 8 1),
 (3,.o 9 .neg [8]),
 (4,.o 10 (.aY 9) [2]),
 (5,.o 11 (.ah kY) [10]),
 (6,.o 12 (.aj .mul) [9,11]),
 (7,.o 13 (.aK 7) [2]),
 (8,.o 14 .au [13]),
 (9,.o 15 (.ah dY) [7,12,14]),
 (10,.o 16 (.ext 0) [15]),
 (11,.o 17 (.ext 1) [15]),
 (12,.M 4 16),
 (13,.M 5 17)])
 .ret))⟩
def nG:EC:=(.seq (.block 1 (.seq (.region 0 [.o 12 (.aY 9) [1],
 .M 13 6,
 .o 14 (.ah rY) [12,13],
 .M 11 14,
 .o 15 (.ext 0) [11],
 .o 16 (.ext 1) [11],
 .M 7 15,
 .M 8 16])
 (.seq (.seq (.region 0 [.M 17 8,
 .o 18 .not [17],
 .M 19 18,
 .g 19 false 20 .aX [7],
 .g 19 false 21 (.aK 0) [1],
 .g 19 false 22 .au [21],
 .g 19 false 23 (.aj .leq) [20,22],
 .o 24 .pick [19,.kb true,23]])
 (.cond (.t 24) (.seq (.region 0 [.M 25 5,
 .M 26 7,
 .M 27 8,
 .M 2 25,
 .M 3 26,
 .M 4 27])
 .ret)
 .skip))
 (.region 1 [.M 28 5,
 .M 29 7,
 .o 30 (.Df 1 1 [.int .i64 0] [(0,1)]) [29],
 .o 31 (.app 0 1) [28,30],
 .M 5 31]))))
 (.region 0 [.M 9 6,
 .o 10 (.aj .add) [9,.ki 1],
 .M 6 10]))
def EL:EF:=⟨[0],[.tmp 2,.tmp 3,.tmp 4],(.seq (.region 1 [.o 1 (.box 0) [0],
 .C 2 .cu,
 .C 3 (.int .i64 0),
 .C 4 (.bool false)])
 (.seq (.region 0 [.C 5 .cu])
 (.seq (.region 0 [.C 6 (.int .i64 0)])
 (.block 0 (.loop [1,5,6] [2,3,4] nG)))))⟩
def gW:EC:=(.seq (.seq (.region 0 [.M 7 2,
 .M 8 3,
 .o 9 (.aj .lss) [7,8]])
 (.cond (.t 9) .skip
 (.exit 0)))
 (.seq (.block 1 (.drawn 0 [(0,.M 14 0),
 (1,.M 15 2),
 (2,.M 16 0),
 (3,.M 17 3),
 (4,.M 18 0),
 (5,.M 19 3),
 (6,.o 20 (.bM 1) [18,19]),
 (7,.o 21 .au [20]),
 (8,.M 22 0),
 (9,.M 23 2),
 (10,.o 24 (.bM 1) [22,23]),
 (11,.o 25 .au [24]),
 (12,.o 26 (.bM 1) [14,15]),
 (13,⟨.store 1,[26,21],none,none⟩),
 (14,.o 27 (.bM 1) [16,17]),
 (15,⟨.store 1,[27,25],none,none⟩)]))
 (.region 0 [.M 10 2,
 .o 11 (.aj .add) [10,.ki 1],
 .M 12 3,
 .o 13 (.aj .sub) [12,.ki 1],
 .M 2 11,
 .M 3 13])))
def vg:EF:=⟨[0],[],(.seq (.region 0 [.M 4 0,
 .o 5 .b_ [4],
 .o 6 (.aj .sub) [5,.ki 1],
 .C 2 (.int .i64 0),
 .M 3 6])
 (.block 0 (.loop [0,2,3] [] gW)))⟩
def Na:EF:=⟨[0,1],[.tmp 4],(.seq (.region 0 [.C 4 .aG])
 (.seq (.seq (.region 0 [.M 5 0,
 .o 6 (.aj .eql) [5,.ki 0]])
 (.cond (.t 6) (.seq (.region 0 [.C 4 .aG])
 .ret)
 .skip))
 (.seq (.region 1 [.M 7 0,
 .M 8 1,
 .o 9 (.build [.int .i64 0,.str [],.aG] [(0,1),(1,1)]) [7,8],
 .o 10 (.box 0) [9],
 .o 11 (.Xc jQ) [10],
 .M 4 11])
 .ret)))⟩
def TS:EF:=⟨[0],[.tmp 2,.tmp 3,.tmp 4],(.seq (.region 0 [.C 2 .aV,
 .C 3 (.int .i64 0),
 .C 4 .aG])
 (.seq (.region 0 [.M 19 0,
 .o 20 (.ah strings_CutPrefix) [19,.k (.str [45])],
 .M 18 20,
 .o 21 (.ext 0) [18],
 .o 22 (.ext 1) [18],
 .M 5 21,
 .M 6 22])
 (.seq (.region 0 [.M 24 5,
 .o 25 (.ah strings_Cut) [24,.k (.str [46])],
 .M 23 25,
 .o 26 (.ext 0) [23],
 .o 27 (.ext 1) [23],
 .o 28 (.ext 2) [23],
 .M 7 26,
 .M 8 27,
 .M 9 28])
 (.seq (.region 0 [.M 29 0,
 .o 30 .wV [29],
 .o 31 (.aj .gtr) [30,.ki 60],
 .M 32 31,
 .g 32 false 33 .aX [9],
 .g 32 false 34 .aX [33],
 .g 34 true 35 .aX [8],
 .g 34 true 36 (.eX .eql) [35,.k (.str [])],
 .g 34 true 37 .aX [36],
 .g 37 false 38 .aX [8],
 .g 37 false 39 .wV [38],
 .g 37 false 40 (.aj .gtr) [39,.ki 20],
 .g 34 true 41 .pick [37,.kb true,40],
 .g 34 true 42 .aX [41],
 .g 42 false 43 .aX [8],
 .g 42 false 44 (.ah lV) [43,.k (.str [48,49,50,51,52,53,54,55,56,57])],
 .g 42 false 45 (.eX .neq) [44,.k (.str [])],
 .g 34 true 46 .pick [42,.kb true,45],
 .g 32 false 47 .pick [34,46,.kb false],
 .o 48 .pick [32,.kb true,47],
 .M 10 48])
 (.seq (.region 0 [.M 50 7,
 .o 51 (.ah nM) [50],
 .M 49 51,
 .o 52 (.ext 0) [49],
 .o 53 (.ext 1) [49],
 .M 11 52,
 .M 12 53])
 (.seq (.seq (.region 0 [.M 54 10,
 .M 55 54,
 .g 55 false 56 .aX [12],
 .g 55 false 57 (.eqN true true) [56,.k .aG],
 .o 58 .pick [55,.kb true,57]])
 (.cond (.t 58) (.seq (.region 0 [.o 59 (.ah dG) [.ki 1],
 .C 2 .aV,
 .C 3 (.int .i64 0),
 .M 4 59])
 .ret)
 .skip))
 (.seq (.region 0 [.o 61 (.ah nM) [.k (.str [48])],
 .M 60 61,
 .o 62 (.ext 0) [60],
 .o 63 (.ext 1) [60],
 .M 13 62,
 .M 14 63])
 (.seq (.seq (.region 0 [.M 64 7,
 .M 65 8,
 .o 66 (.eX .add) [64,65],
 .o 67 (.ah jr) [66,.k (.str [48])],
 .M 15 67])
 (.seq (.region 0 [.M 68 15,
 .o 69 (.eX .neq) [68,.k (.str [])]])
 (.join [6,8,13] (.cond (.t 69) (.region 0 [.M 71 15,
 .o 72 (.ah nM) [71],
 .M 70 72,
 .o 73 (.ext 0) [70],
 .o 74 (.ext 1) [70],
 .M 13 73])
 .skip))))
 (.seq (.seq (.region 0 [.M 75 6,
 .M 76 75,
 .g 76 true 77 .aX [13],
 .g 76 true 78 (.ah fQ) [77],
 .o 79 .pick [76,78,.kb false]])
 (.cond (.t 79) (.seq (.region 0 [.o 80 (.ah dG) [.ki 1],
 .C 2 .aV,
 .C 3 (.int .i64 0),
 .M 4 80])
 .ret)
 .skip))
 (.seq (.region 0 [.M 82 6,
 .M 83 13,
 .o 84 (.ah iH) [82,83],
 .M 85 8,
 .o 86 .wV [85],
 .o 87 (.ah I7) [86],
 .o 88 (.ah oL) [84,87],
 .M 81 88,
 .o 89 (.ext 0) [81],
 .o 90 (.ext 1) [81],
 .M 16 89,
 .M 17 90])
 (.seq (.region 0 [.M 91 16,
 .M 92 8,
 .o 93 .wV [92],
 .M 2 91,
 .M 3 93,
 .C 4 .aG])
 .ret)))))))))))⟩
def uD:EC:=(.seq (.seq (.region 0 [.M 54 8,
 .o 55 (.aj .add) [54,.ki 1],
 .M 56 9,
 .o 57 (.aj .lss) [55,56]])
 (.cond (.t 57) .skip
 (.exit 1)))
 (.join [1,2,3,6,7,8,9] (.block 2 (.seq (.region 0 [.M 58 8,
 .M 59 9,
 .M 60 8,
 .o 61 (.aj .sub) [59,60],
 .o 62 (.aj .quo) [61,.ki 2],
 .o 63 (.aj .add) [58,62],
 .M 14 63])
 (.seq (.region 0 [.o 65 (.aY 9) [3],
 .M 66 1,
 .M 67 14,
 .o 68 (.ah jR) [65,66,67],
 .M 64 68,
 .o 69 (.ext 0) [64],
 .o 70 (.ext 1) [64],
 .M 15 69,
 .M 16 70])
 (.seq (.seq (.region 0 [.M 71 16,
 .o 72 (.eqN true true) [71,.k .aG]])
 (.cond (.t 72) (.seq (.region 0 [.M 73 16,
 .C 6 (.int .i64 0),
 .M 7 73])
 .ret)
 .skip))
 (.seq (.region 0 [.M 74 15,
 .M 75 2,
 .o 76 (.ah jo) [74,75],
 .o 77 (.aj .geq) [76,.ki 0]])
 (.join [1,2,3,8,9] (.cond (.t 77) (.region 0 [.M 78 14,
 .M 8 78])
 (.region 0 [.M 79 14,
 .M 9 79]))))))))))
def JI:EF:=⟨[0,1,2],[.tmp 6,.tmp 7],(.seq (.region 1 [.o 3 (.box 0) [0],
 .C 6 (.int .i64 0),
 .C 7 .aG])
 (.seq (.region 0 [.C 8 (.int .i64 (-2000000)),
 .C 9 (.int .i64 100000000)])
 (.seq (.region 0 [.o 18 (.aY 9) [3],
 .M 19 1,
 .M 20 8,
 .o 21 (.ah jR) [18,19,20],
 .M 17 21,
 .o 22 (.ext 0) [17],
 .o 23 (.ext 1) [17],
 .M 10 22,
 .M 11 23])
 (.seq (.seq (.region 0 [.M 24 11,
 .o 25 (.eqN true true) [24,.k .aG]])
 (.cond (.t 25) (.seq (.region 0 [.M 26 11,
 .C 6 (.int .i64 0),
 .M 7 26])
 .ret)
 .skip))
 (.seq (.region 0 [.o 28 (.aY 9) [3],
 .M 29 1,
 .M 30 9,
 .o 31 (.ah jR) [28,29,30],
 .M 27 31,
 .o 32 (.ext 0) [27],
 .o 33 (.ext 1) [27],
 .M 12 32,
 .M 11 33])
 (.seq (.seq (.region 0 [.M 34 11,
 .o 35 (.eqN true true) [34,.k .aG]])
 (.cond (.t 35) (.seq (.region 0 [.M 36 11,
 .C 6 (.int .i64 0),
 .M 7 36])
 .ret)
 .skip))
 (.seq (.seq (.region 0 [.M 37 12,
 .M 38 2,
 .o 39 (.ah jo) [37,38],
 .M 13 39])
 (.block 0 (.seq (.region 0 [.M 41 10,
 .M 42 2,
 .o 43 (.ah jo) [41,42],
 .o 44 (.aj .lss) [43,.ki 0],
 .M 45 44,
 .g 45 false 46 .aX [13],
 .g 45 false 47 (.aj .gtr) [46,.ki 0],
 .o 48 .pick [45,.kb true,47],
 .M 40 48])
 (.cond (.t 40) (.seq (.region 0 [.o 49 (.ah dG) [.ki 7],
 .C 6 (.int .i64 0),
 .M 7 49])
 .ret)
 (.seq (.region 0 [.M 51 13,
 .o 52 (.aj .eql) [51,.ki 0],
 .M 50 52])
 (.cond (.t 50) (.seq (.region 0 [.M 53 9,
 .M 6 53,
 .C 7 .aG])
 .ret)
 .skip))))))
 (.seq (.block 1 (.loop [1,2,3,8,9] [6,7,8] uD))
 (.seq (.region 0 [.M 80 8,
 .M 6 80,
 .C 7 .aG])
 .ret)))))))))⟩
def ED:EF:=⟨[0],[.tmp 2],(.seq (.region 1 [.o 1 (.box 0) [0],
 .C 2 .aV])
 (.seq (.region 0 [.o 6 (.aK 2) [1],
 .o 7 .au [6],
 .o 8 (.ah lC) [.ki 1,7],
 .M 5 8,
 .o 9 (.ext 0) [5],
 .o 10 (.ext 1) [5],
 .M 3 9,
 .M 4 10])
 (.seq (.region 0 [.o 11 (.aY 9) [1],
 .o 12 (.ah lW) [11],
 .M 13 3,
 .o 14 (.ah jq) [12,13],
 .M 2 14])
 .ret)))⟩
def O6:EF:=⟨[0,1],[.tmp 4,.tmp 5],(.seq (.region 2 [.o 2 (.box 0) [0],
 .o 3 (.box 1) [1],
 .C 4 .aV,
 .C 5 .aG])
 (.seq (.seq (.region 0 [.o 11 (.aY 9) [2],
 .o 12 (.ah nN) [11],
 .M 10 12,
 .o 13 (.ext 0) [10],
 .o 14 (.ext 1) [10],
 .M 6 13,
 .M 7 14])
 (.seq (.region 0 [.M 15 7,
 .o 16 (.eqN true true) [15,.k .aG]])
 (.cond (.t 16) (.seq (.region 0 [.M 17 7,
 .C 4 .aV,
 .M 5 17])
 .ret)
 .skip)))
 (.seq (.seq (.region 0 [.o 18 (.aY 9) [2],
 .o 19 (.aY 2) [3],
 .o 20 (.ah lN) [18,19]])
 (.cond (.t 20) (.seq (.region 0 [.o 21 (.aY 9) [2],
 .o 22 (.ah sJ) [21],
 .M 4 22,
 .C 5 .aG])
 .ret)
 .skip))
 (.seq (.region 0 [.o 24 (.aY 9) [2],
 .o 25 (.aY 2) [3],
 .o 26 (.aK 0) [3],
 .o 27 .au [26],
 .o 28 (.aK 1) [3],
 .o 29 .au [28],
 .o 30 (.ah vT) [24,25,27,29],
 .M 23 30,
 .o 31 (.ext 0) [23],
 .o 32 (.ext 1) [23],
 .M 8 31,
 .M 9 32])
 (.seq (.seq (.region 0 [.M 33 9,
 .o 34 (.eqN true true) [33,.k .aG]])
 (.cond (.t 34) (.seq (.region 0 [.M 35 9,
 .C 4 .aV,
 .M 5 35])
 .ret)
 .skip))
 (.seq (.region 0 [.o 36 (.aY 9) [2],
 .o 37 (.ah lW) [36],
 .M 38 8,
 .o 39 (.ah jq) [37,38],
 .M 4 39,
 .C 5 .aG])
 .ret))))))⟩
def Gw:EF:=⟨[0],[.tmp 2],(.seq (.region 1 [.o 1 (.box 0) [0],
 .C 2 .aV])
 (.seq (.seq (.region 0 [.o 6 (.aY 9) [1],
 .o 7 (.ah mg) [6],
 .o 8 (.eqN true true) [7,.k .aG]])
 (.cond (.t 8) (.seq (.region 0 [.o 9 (.ah sV) [.ki 0],
 .M 2 9])
 .ret)
 .skip))
 (.seq (.region 0 [.o 11 (.aK 4) [1],
 .o 12 .au [11],
 .o 13 (.ah rH) [12],
 .M 10 13,
 .o 14 (.ext 0) [10],
 .o 15 (.ext 1) [10],
 .o 16 (.ext 2) [10],
 .M 3 14,
 .M 4 15,
 .M 5 16])
 (.seq (.region 0 [.M 17 3,
 .M 2 17])
 .ret))))⟩
def Gt:EF:=⟨[0,1],[.cell 4 true 2,.tmp 5],(.seq (.region 2 [.o 2 (.box 0) [0],
 .o 4 (.alloc 1 [.int .i64 0,.int .i64 0]) [],
 .C 5 .aG])
 (.seq (.seq (.region 0 [.o 11 (.aY 9) [2],
 .M 12 1,
 .o 13 (.ah Ak) [11,12],
 .M 10 13,
 .o 14 (.ext 0) [10],
 .o 15 (.ext 1) [10],
 .M 6 14,
 .M 7 15])
 (.seq (.region 0 [.M 16 7,
 .o 17 (.eqN true true) [16,.k .aG]])
 (.cond (.t 17) (.seq (.region 0 [.o 18 (.build [.int .i64 0,.int .i64 0] []) [],
 .M 19 7,
 ⟨.store 2,[4,18],none,none⟩,
 .M 5 19])
 .ret)
 .skip)))
 (.seq (.region 0 [.o 21 (.aY 9) [2],
 .o 22 (.ah nN) [21],
 .M 20 22,
 .o 23 (.ext 0) [20],
 .o 24 (.ext 1) [20],
 .M 8 23,
 .M 9 24])
 (.seq (.seq (.region 0 [.M 25 9,
 .o 26 (.eqN true true) [25,.k .aG]])
 (.cond (.t 26) (.seq (.region 0 [.o 27 (.build [.int .i64 0,.int .i64 0] []) [],
 .M 28 9,
 ⟨.store 2,[4,27],none,none⟩,
 .M 5 28])
 .ret)
 .skip))
 (.seq (.region 0 [.M 29 8,
 .M 30 8,
 .M 31 1,
 .o 32 (.ah Ci) [30,31],
 .o 33 (.bM 2) [29,32],
 .o 34 (.aY 2) [33],
 ⟨.store 2,[4,34],none,none⟩,
 .C 5 .aG])
 .ret)))))⟩
def MV:EF:=⟨[0,1,2],[.tmp 6,.tmp 7],(.seq (.region 2 [.o 3 (.box 0) [0],
 .o 4 (.box 1) [1],
 .C 6 .aV,
 .C 7 .aG])
 (.seq (.seq (.region 0 [.o 13 (.aK 5) [3],
 .o 14 .au [13],
 .o 15 (.aj .eql) [14,.ki 4],
 .M 16 15,
 .g 16 true 17 (.aY 9) [3],
 .g 16 true 18 (.aY 2) [4],
 .g 16 true 19 (.ah lN) [17,18],
 .o 20 .pick [16,19,.kb false]])
 (.cond (.t 20) (.seq (.region 0 [.o 22 (.aY 9) [3],
 .o 23 (.aY 2) [4],
 .o 24 (.ah uj) [22,23],
 .M 21 24,
 .o 25 (.ext 0) [21],
 .o 26 (.ext 1) [21],
 .M 8 25,
 .M 9 26])
 (.seq (.seq (.region 0 [.M 27 9,
 .o 28 (.eqN true true) [27,.k .aG]])
 (.cond (.t 28) (.seq (.region 0 [.M 29 9,
 .C 6 .aV,
 .M 7 29])
 .ret)
 .skip))
 (.seq (.region 0 [.M 31 2,
 .o 32 (.aK 0) [4],
 .o 33 .au [32],
 .o 34 (.aj .sub) [31,33],
 .o 35 (.aK 1) [4],
 .o 36 .au [35],
 .o 37 (.aK 0) [4],
 .o 38 .au [37],
 .o 39 (.aj .sub) [36,38],
 .o 40 (.ah lC) [34,39],
 .M 30 40,
 .o 41 (.ext 0) [30],
 .o 42 (.ext 1) [30],
 .M 10 41,
 .M 9 42])
 (.seq (.region 0 [.M 43 8,
 .M 44 10,
 .o 45 (.ah jq) [43,44],
 .M 46 9,
 .M 6 45,
 .M 7 46])
 .ret))))
 .skip))
 (.seq (.region 0 [.o 48 (.aY 9) [3],
 .o 49 (.aY 2) [4],
 .o 50 (.aK 0) [4],
 .o 51 .au [50],
 .M 52 2,
 .o 53 (.ah vT) [48,49,51,52],
 .M 47 53,
 .o 54 (.ext 0) [47],
 .o 55 (.ext 1) [47],
 .M 11 54,
 .M 12 55])
 (.seq (.seq (.region 0 [.M 56 12,
 .o 57 (.eqN true true) [56,.k .aG]])
 (.cond (.t 57) (.seq (.region 0 [.M 58 12,
 .C 6 .aV,
 .M 7 58])
 .ret)
 .skip))
 (.seq (.region 0 [.o 59 (.aY 9) [3],
 .o 60 (.ah lW) [59],
 .M 61 11,
 .o 62 (.ah jq) [60,61],
 .M 6 62,
 .C 7 .aG])
 .ret)))))⟩
def TL:EF:=⟨[0,1],[.tmp 4,.tmp 5],(.seq (.region 1 [.o 2 (.box 0) [0],
 .C 4 (.bool false),
 .C 5 .aG])
 (.seq (.region 1 [.o 9 (.aY 9) [2],
 .M 10 1,
 .o 11 (.ah vN) [9,10],
 .M 8 11,
 .o 12 (.ext 0) [8],
 .o 13 (.ext 1) [8],
 .o 6 (.alloc 0 [.int .i64 0,.int .i64 0]) [],
 ⟨.store 2,[6,12],none,none⟩,
 .M 7 13])
 (.seq (.region 0 [.M 14 7,
 .o 15 (.eqN false true) [14,.k .aG],
 .M 16 15,
 .g 16 true 17 (.aK 8) [2],
 .g 16 true 18 .au [17],
 .g 16 true 19 (.aj .gtr) [18,.ki 0],
 .o 20 .pick [16,19,.kb false],
 .M 21 20,
 .g 21 true 22 .aX [1],
 .g 21 true 23 (.aK 1) [6],
 .g 21 true 24 .au [23],
 .g 21 true 25 (.aK 8) [2],
 .g 21 true 26 .au [25],
 .g 21 true 27 (.aj .sub) [24,26],
 .g 21 true 28 (.aj .geq) [22,27],
 .o 29 .pick [21,28,.kb false],
 .M 30 7,
 .M 4 29,
 .M 5 30])
 .ret)))⟩
def JG:EF:=⟨[0,1],[.tmp 4,.tmp 5,.tmp 6],(.seq (.region 1 [.o 2 (.box 0) [0],
 .C 4 (.sl 0 []),
 .C 5 (.int .i64 0),
 .C 6 .aG])
 (.seq (.seq (.region 0 [.o 12 (.aY 9) [2],
 .M 13 1,
 .o 14 (.ah Ak) [12,13],
 .M 11 14,
 .o 15 (.ext 0) [11],
 .o 16 (.ext 1) [11],
 .M 7 15,
 .M 8 16])
 (.seq (.region 0 [.M 17 8,
 .o 18 (.eqN true true) [17,.k .aG]])
 (.cond (.t 18) (.seq (.region 0 [.M 19 8,
 .C 4 (.sl 0 []),
 .C 5 (.int .i64 0),
 .M 6 19])
 .ret)
 .skip)))
 (.seq (.region 0 [.o 21 (.aY 9) [2],
 .o 22 (.ah nN) [21],
 .M 20 22,
 .o 23 (.ext 0) [20],
 .o 24 (.ext 1) [20],
 .M 9 23,
 .M 10 24])
 (.seq (.region 0 [.M 25 9,
 .M 26 9,
 .M 27 1,
 .o 28 (.ah Ci) [26,27],
 .M 29 10,
 .M 4 25,
 .M 5 28,
 .M 6 29])
 .ret))))⟩
def wS:EC:=(.seq (.region 0 [.o 80 (.aj .lss) [79,78]])
 (.seq (.cond (.t 80) .skip
 (.exit 0))
 (.seq (.block 1 (.seq (.region 1 [.o 81 (.bM 2) [77,79],
 .o 82 (.aY 2) [81],
 .o 17 (.alloc 0 [.int .i64 0,.int .i64 0]) [],
 ⟨.store 2,[17,82],none,none⟩])
 (.seq (.region 0 [.M 83 3,
 .o 84 (.aK 1) [17],
 .o 85 .au [84],
 .o 86 .mn [83,85],
 .M 87 2,
 .o 88 (.aK 0) [17],
 .o 89 .au [88],
 .o 90 .mx [87,89],
 .o 91 (.aj .sub) [86,90],
 .M 18 91])
 (.seq (.region 0 [.M 93 18,
 .o 94 .mx [93,.ki 0],
 .o 95 (.aK 2) [4],
 .o 96 .au [95],
 .o 97 (.aK 1) [17],
 .o 98 .au [97],
 .o 99 (.aK 0) [17],
 .o 100 .au [99],
 .o 101 (.aj .sub) [98,100],
 .o 102 (.aj .mul) [96,101],
 .o 103 (.ah lC) [94,102],
 .M 92 103,
 .o 104 (.ext 0) [92],
 .o 105 (.ext 1) [92],
 .M 19 104,
 .M 20 105])
 (.region 0 [.M 106 14,
 .M 107 19,
 .o 108 (.ah jT) [106,107],
 .M 14 108])))))
 (.region 0 [.o 109 (.aj .add) [79,.ki 1],
 .M 79 109]))))
def Nc:EF:=⟨[0,1,2,3],[.tmp 8,.tmp 9],(.seq (.region 2 [.o 4 (.box 0) [0],
 .o 5 (.box 1) [1],
 .C 8 .aV,
 .C 9 .aG])
 (.seq (.seq (.region 0 [.o 22 (.aY 9) [4],
 .o 23 (.ah nN) [22],
 .M 21 23,
 .o 24 (.ext 0) [21],
 .o 25 (.ext 1) [21],
 .M 10 24,
 .M 11 25])
 (.seq (.region 0 [.M 26 11,
 .o 27 (.eqN true true) [26,.k .aG]])
 (.cond (.t 27) (.seq (.region 0 [.M 28 11,
 .C 8 .aV,
 .M 9 28])
 .ret)
 .skip)))
 (.seq (.region 0 [.C 12 (.sl 0 [])])
 (.seq (.seq (.region 0 [.o 29 (.aK 5) [4],
 .o 30 .au [29],
 .o 31 (.aj .eql) [30,.ki 4]])
 (.join [2,3,4,5,8,9,12] (.cond (.t 31) (.seq (.region 0 [.C 13 .aG])
 (.seq (.region 0 [.o 33 (.aY 9) [4],
 .o 34 (.aY 2) [5],
 .o 35 (.ah zk) [33,34],
 .M 32 35,
 .o 36 (.ext 0) [32],
 .o 37 (.ext 1) [32],
 .M 12 36,
 .M 13 37])
 (.seq (.region 0 [.M 38 13,
 .o 39 (.eqN true true) [38,.k .aG]])
 (.cond (.t 39) (.seq (.region 0 [.M 40 13,
 .C 8 .aV,
 .M 9 40])
 .ret)
 .skip))))
 .skip)))
 (.seq (.seq (.region 0 [.M 41 2,
 .o 42 (.aK 0) [5],
 .o 43 .au [42],
 .o 44 (.aj .lss) [41,43],
 .M 45 44,
 .g 45 false 46 .aX [3],
 .g 45 false 47 .aX [2],
 .g 45 false 48 (.aj .lss) [46,47],
 .o 49 .pick [45,.kb true,48],
 .M 50 49,
 .g 50 false 51 (.aK 1) [5],
 .g 50 false 52 .au [51],
 .g 50 false 53 .aX [3],
 .g 50 false 54 (.aj .lss) [52,53],
 .o 55 .pick [50,.kb true,54]])
 (.cond (.t 55) (.seq (.region 0 [.o 56 (.ah dG) [.ki 6],
 .C 8 .aV,
 .M 9 56])
 .ret)
 .skip))
 (.seq (.seq (.region 0 [.o 57 (.aK 5) [4],
 .o 58 .au [57],
 .o 59 (.aj .neq) [58,.ki 4]])
 (.cond (.t 59) (.seq (.region 0 [.o 60 (.aK 5) [4],
 .o 61 .au [60],
 .M 62 2,
 .M 63 3,
 .o 64 (.aK 0) [5],
 .o 65 .au [64],
 .o 66 (.aK 1) [5],
 .o 67 .au [66],
 .o 68 (.aK 2) [4],
 .o 69 .au [68],
 .o 70 (.ah uU) [61,62,63,65,67,69],
 .o 71 (.ext 0) [70],
 .o 72 (.ext 1) [70],
 .M 8 71,
 .M 9 72])
 .ret)
 .skip))
 (.seq (.region 0 [.o 74 (.ah lC) [.ki 0,.ki 1],
 .M 73 74,
 .o 75 (.ext 0) [73],
 .o 76 (.ext 1) [73],
 .M 14 75,
 .M 15 76])
 (.seq (.seq (.region 0 [.M 77 12,
 .o 78 .b_ [77],
 .C 79 (.int .i64 0)])
 (.block 0 (.loop [2,3,4,14,77,78,79] [14] wS)))
 (.seq (.region 0 [.M 110 14,
 .M 8 110,
 .C 9 .aG])
 .ret)))))))))⟩
def Hq:EF:=⟨[0,1],[.tmp 4,.tmp 5],(.seq (.region 0 [.C 4 .aV,
 .C 5 .aG])
 (.seq (.region 0 [.M 6 0,
 .o 7 (.ah dO) [6],
 .M 8 1,
 .o 9 (.ah dD) [8],
 .o 10 (.ah bW) [7,9],
 .M 11 0,
 .o 12 (.ah dD) [11],
 .M 13 1,
 .o 14 (.ah dO) [13],
 .o 15 (.ah bW) [12,14],
 .o 16 (.ah oL) [10,15],
 .o 17 (.ext 0) [16],
 .o 18 (.ext 1) [16],
 .M 4 17,
 .M 5 18])
 .ret))⟩
def Nu:EF:=⟨[],[.tmp 0],(.seq (.region 0 [.C 0 .aV])
 (.seq (.region 0 [.o 4 (.ah lC) [.ki 1,.ki 1],
 .M 3 4,
 .o 5 (.ext 0) [3],
 .o 6 (.ext 1) [3],
 .M 1 5,
 .M 2 6])
 (.seq (.region 0 [.M 7 1,
 .M 0 7])
 .ret)))⟩
def EK:EF:=⟨[0,1],[.tmp 4],(.seq (.region 2 [.o 2 (.box 0) [0],
 .o 3 (.box 1) [1],
 .C 4 (.bool false)])
 (.seq (.region 0 [.o 8 (.aY 9) [2],
 .o 9 (.aK 1) [3],
 .o 10 .au [9],
 .o 11 (.ah pO) [8,10],
 .M 7 11,
 .o 12 (.ext 0) [7],
 .o 13 (.ext 1) [7],
 .M 5 12,
 .M 6 13])
 (.seq (.region 0 [.M 14 6,
 .o 15 (.eqN false true) [14,.k .aG],
 .M 16 15,
 .g 16 true 17 .aX [5],
 .g 16 true 18 (.aK 0) [3],
 .g 16 true 19 .au [18],
 .g 16 true 20 (.aj .eql) [17,19],
 .o 21 .pick [16,20,.kb false],
 .M 4 21])
 .ret)))⟩
def WU:EF:=⟨[0,1],[.tmp 4,.tmp 5],(.seq (.region 0 [.C 4 .aV,
 .C 5 .aG])
 (.seq (.region 0 [.M 6 0,
 .o 7 (.ah jI) [6],
 .M 8 1,
 .o 9 (.ah jI) [8],
 .o 10 (.ah oL) [7,9],
 .o 11 (.ext 0) [10],
 .o 12 (.ext 1) [10],
 .M 4 11,
 .M 5 12])
 .ret))⟩
def Yt:EF:=⟨[],[.tmp 0],(.seq (.region 0 [.C 0 (.bool false)])
 (.seq (.region 0 [.o 17 (.build [.int .i64 0,.int .i64 0,.int .i64 0] [(0,1),(1,1),(2,1)]) [.ki 2000,.ki 2,.ki 29],
 .o 18 (.ah wE) [17],
 .M 16 18,
 .o 19 (.ext 0) [16],
 .o 20 (.ext 1) [16],
 .M 1 19,
 .M 2 20])
 (.seq (.region 1 [.M 22 1,
 .o 23 (.ah gU) [22],
 .M 21 23,
 .o 24 (.ext 0) [21],
 .o 25 (.ext 1) [21],
 .o 3 (.alloc 0 [.int .i64 0,.int .i64 0,.int .i64 0]) [],
 ⟨.store 3,[3,24],none,none⟩,
 .M 4 25])
 (.seq (.region 0 [.M 27 1,
 .o 28 (.ah oI) [27,.ki 12,.kb false],
 .M 26 28,
 .o 29 (.ext 0) [26],
 .o 30 (.ext 1) [26],
 .M 5 29,
 .M 6 30])
 (.seq (.region 0 [.o 32 (.ah yj) [.ki 2024],
 .M 31 32,
 .o 33 (.ext 0) [31],
 .o 34 (.ext 1) [31],
 .M 7 33,
 .M 8 34])
 (.seq (.region 1 [.o 35 (.build [.int .i64 0,.int .i64 0,.int .i64 0,.int .i64 0,.int .i64 0,.bool false] [(0,1),(1,1),(2,1)]) [.ki 1,.ki 1,.ki 1],
 .o 9 (.alloc 0 [.int .i64 0,.int .i64 0,.int .i64 0,.int .i64 0,.int .i64 0,.bool false]) [],
 ⟨.store 6,[9,35],none,none⟩])
 (.seq (.region 0 [.o 37 (.aY 6) [9],
 .o 38 (.Df 6 1 [.int .i64 0,.int .i64 0,.int .i64 0,.int .i64 0,.int .i64 0,.bool false] [(0,6)]) [37],
 .o 39 (.ah Ep) [38,.k (.sl 0 [])],
 .M 36 39,
 .o 40 (.ext 0) [36],
 .o 41 (.ext 1) [36],
 .M 10 40,
 .M 11 41])
 (.seq (.seq (.region 0 [.M 42 10,
 .o 43 (.xO false) [42,.k .aV]])
 (.cond (.t 43) (.seq (.region 0 [.C 0 (.bool false)])
 .ret)
 .skip))
 (.seq (.region 0 [.M 45 10,
 .o 46 (.ah Ry) [45,.ki 0,.ki 1],
 .M 44 46,
 .o 47 (.ext 0) [44],
 .o 48 (.ext 1) [44],
 .M 12 47,
 .M 13 48])
 (.seq (.region 0 [.o 50 (.ah qO) [],
 .M 51 1,
 .M 52 5,
 .o 53 (.ah uU) [50,51,52,.ki 0,.ki 0,.ki 0],
 .M 49 53,
 .o 54 (.ext 0) [49],
 .o 55 (.ext 1) [49],
 .M 14 54,
 .M 15 55])
 (.seq (.seq (.region 0 [.M 56 14,
 .o 57 (.xO false) [56,.k .aV]])
 (.cond (.t 57) (.seq (.region 0 [.C 0 (.bool false)])
 .ret)
 .skip))
 (.seq (.region 0 [.o 58 (.ah uM) [],
 .M 59 58,
 .g 59 true 60 .aX [2],
 .g 59 true 61 (.eqN false true) [60,.k .aG],
 .o 62 .pick [59,61,.kb false],
 .M 63 62,
 .g 63 true 64 .aX [4],
 .g 63 true 65 (.eqN false true) [64,.k .aG],
 .o 66 .pick [63,65,.kb false],
 .M 67 66,
 .g 67 true 68 (.aK 2) [3],
 .g 67 true 69 .au [68],
 .g 67 true 70 (.aj .eql) [69,.ki 29],
 .o 71 .pick [67,70,.kb false],
 .M 72 71,
 .g 72 true 73 .aX [1],
 .g 72 true 74 (.ah DJ) [73],
 .g 72 true 75 (.eX .eql) [74,.k (.str [50,48,48,48,45,48,50,45,50,57])],
 .o 76 .pick [72,75,.kb false],
 .M 77 76,
 .g 77 true 78 .aX [6],
 .g 77 true 79 (.eqN false true) [78,.k .aG],
 .o 80 .pick [77,79,.kb false],
 .M 81 80,
 .g 81 true 82 .aX [5],
 .g 81 true 83 (.ah DJ) [82],
 .g 81 true 84 (.eX .eql) [83,.k (.str [50,48,48,49,45,48,50,45,50,56])],
 .o 85 .pick [81,84,.kb false],
 .M 86 85,
 .g 86 true 87 .aX [8],
 .g 86 true 88 (.eqN false true) [87,.k .aG],
 .o 89 .pick [86,88,.kb false],
 .M 90 89,
 .g 90 true 91 .aX [7],
 .g 90 true 92 (.ah DJ) [91],
 .g 90 true 93 (.eX .eql) [92,.k (.str [50,48,50,52,45,48,51,45,51,49])],
 .o 94 .pick [90,93,.kb false],
 .M 95 94,
 .g 95 true 96 .aX [11],
 .g 95 true 97 (.eqN false true) [96,.k .aG],
 .o 98 .pick [95,97,.kb false],
 .M 99 98,
 .g 99 true 100 .aX [10],
 .g 99 true 101 (.ah wM) [100,.ki 0],
 .g 99 true 102 .not [101],
 .o 103 .pick [99,102,.kb false],
 .M 104 103,
 .g 104 true 105 .aX [10],
 .g 104 true 106 (.ah wM) [105,.ki 1],
 .o 107 .pick [104,106,.kb false],
 .M 108 107,
 .g 108 true 109 .aX [13],
 .g 108 true 110 (.eqN false true) [109,.k .aG],
 .o 111 .pick [108,110,.kb false],
 .M 112 111,
 .g 112 true 113 .aX [12],
 .g 112 true 114 (.aj .eql) [113,.ki 1],
 .o 115 .pick [112,114,.kb false],
 .M 116 115,
 .g 116 true 117 .aX [15],
 .g 116 true 118 (.eqN false true) [117,.k .aG],
 .o 119 .pick [116,118,.kb false],
 .M 120 119,
 .g 120 true 121 .aX [14],
 .g 120 true 122 (.ah fE) [121],
 .g 120 true 123 (.eX .eql) [122,.k (.str [51,53,57,47,51,54,48])],
 .o 124 .pick [120,123,.kb false],
 .M 125 124,
 .g 125 true 126 (.ah fD) [.ki 0],
 .g 125 true 127 (.aj .eql) [126,.ki 1],
 .o 128 .pick [125,127,.kb false],
 .M 129 128,
 .g 129 true 130 (.aY 6) [9],
 .g 129 true 131 (.ah VL) [130,.ki 0],
 .o 132 .pick [129,131,.kb false],
 .M 133 132,
 .g 133 true 134 .aX [1],
 .g 133 true 135 (.ah vk) [134],
 .o 136 .pick [133,135,.kb false],
 .M 137 136,
 .g 137 true 138 .aX [10],
 .g 137 true 139 (.Df 1 2 [.aV] [(0,1),(1,1)]) [138,.k .aV],
 .g 137 true 140 (.ah Ie) [139],
 .g 137 true 141 (.xO true) [140,.k .aV],
 .o 142 .pick [137,141,.kb false],
 .M 0 142])
 .ret))))))))))))⟩
def MW:EF:=⟨[0],[.tmp 2],(.seq (.region 1 [.o 1 (.box 0) [0],
 .C 2 .aG])
 (.seq (.block 0 (.seq (.region 0 [.o 6 (.aK 0) [1],
 .o 7 .au [6],
 .o 8 (.ah fD) [7],
 .o 9 (.aj .lss) [8,.ki 0],
 .M 5 9])
 (.cond (.t 5) (.seq (.region 0 [.o 10 (.ah gY) [.ki 4,.k (.str [105,115,115,117,101])],
 .M 2 10])
 .ret)
 (.seq (.region 0 [.o 12 (.aK 1) [1],
 .o 13 .au [12],
 .o 14 (.ah fD) [13],
 .o 15 (.aj .lss) [14,.ki 0],
 .M 11 15])
 (.cond (.t 11) (.seq (.region 0 [.o 16 (.ah gY) [.ki 4,.k (.str [109,97,116,117,114,101])],
 .M 2 16])
 .ret)
 (.seq (.region 0 [.o 18 (.aK 1) [1],
 .o 19 .au [18],
 .o 20 (.aK 0) [1],
 .o 21 .au [20],
 .o 22 (.aj .leq) [19,21],
 .M 17 22])
 (.cond (.t 17) (.seq (.region 0 [.o 23 (.ah gY) [.ki 5,.k (.str [109,97,116,117,114,101])],
 .M 2 23])
 .ret)
 .skip)))))))
 (.seq (.seq (.region 0 [.o 25 (.aK 0) [1],
 .o 26 .au [25],
 .o 27 (.ah oI) [26,.ki 360,.kb false],
 .M 24 27,
 .o 28 (.ext 0) [24],
 .o 29 (.ext 1) [24],
 .M 3 28,
 .M 4 29])
 (.seq (.region 0 [.M 30 4,
 .o 31 (.eqN false true) [30,.k .aG],
 .M 32 31,
 .g 32 true 33 (.aK 1) [1],
 .g 32 true 34 .au [33],
 .g 32 true 35 .aX [3],
 .g 32 true 36 (.aj .gtr) [34,35],
 .o 37 .pick [32,36,.kb false]])
 (.cond (.t 37) (.seq (.region 0 [.o 38 (.ah gY) [.ki 5,.k (.str [109,97,116,117,114,101])],
 .M 2 38])
 .ret)
 .skip)))
 (.seq (.region 0 [.C 2 .aG])
 .ret))))⟩
def MX:EF:=⟨[0],[.tmp 2],(.seq (.region 1 [.o 1 (.box 0) [0],
 .C 2 .aG])
 (.seq (.region 0 [.o 7 (.aK 3) [1],
 .o 8 .au [7],
 .o 9 (.ah rH) [8],
 .M 6 9,
 .o 10 (.ext 0) [6],
 .o 11 (.ext 1) [6],
 .o 12 (.ext 2) [6],
 .M 3 10,
 .M 4 11,
 .M 5 12])
 (.seq (.block 0 (.seq (.region 0 [.M 14 5,
 .o 15 (.eqN true true) [14,.k .aG],
 .M 13 15])
 (.cond (.t 13) (.seq (.region 0 [.o 16 (.ah gY) [.ki 1,.k (.str [99,111,117,112,111,110])],
 .M 2 16])
 .ret)
 (.seq (.region 0 [.M 18 4,
 .o 19 .not [18],
 .M 20 19,
 .g 20 false 21 .aX [3],
 .g 20 false 22 (.ah kJ) [21],
 .g 20 false 23 (.aj .lss) [22,.ki 0],
 .o 24 .pick [20,.kb true,23],
 .M 25 24,
 .g 25 false 26 .aX [3],
 .g 25 false 27 (.ah sV) [.ki 30],
 .g 25 false 28 (.ah jo) [26,27],
 .g 25 false 29 (.aj .gtr) [28,.ki 0],
 .o 30 .pick [25,.kb true,29],
 .M 17 30])
 (.cond (.t 17) (.seq (.region 0 [.o 31 (.ah gY) [.ki 5,.k (.str [99,111,117,112,111,110])],
 .M 2 31])
 .ret)
 .skip)))))
 (.seq (.region 0 [.o 33 (.aK 4) [1],
 .o 34 .au [33],
 .o 35 (.ah rH) [34],
 .M 32 35,
 .o 36 (.ext 0) [32],
 .o 37 (.ext 1) [32],
 .o 38 (.ext 2) [32],
 .M 3 36,
 .M 4 37,
 .M 5 38])
 (.seq (.block 1 (.seq (.region 0 [.M 40 5,
 .o 41 (.eqN true true) [40,.k .aG],
 .M 39 41])
 (.cond (.t 39) (.seq (.region 0 [.o 42 (.ah gY) [.ki 1,.k (.str [114,101,100,101,101,109])],
 .M 2 42])
 .ret)
 (.seq (.region 0 [.M 44 4,
 .o 45 .not [44],
 .M 46 45,
 .g 46 false 47 .aX [3],
 .g 46 false 48 (.ah kJ) [47],
 .g 46 false 49 (.aj .leq) [48,.ki 0],
 .o 50 .pick [46,.kb true,49],
 .M 51 50,
 .g 51 false 52 .aX [3],
 .g 51 false 53 (.ah sV) [.ki 200],
 .g 51 false 54 (.ah jo) [52,53],
 .g 51 false 55 (.aj .gtr) [54,.ki 0],
 .o 56 .pick [51,.kb true,55],
 .M 43 56])
 (.cond (.t 43) (.seq (.region 0 [.o 57 (.ah gY) [.ki 5,.k (.str [114,101,100,101,101,109])],
 .M 2 57])
 .ret)
 .skip)))))
 (.seq (.region 0 [.C 2 .aG])
 .ret))))))⟩
def MZ:EF:=⟨[0],[.tmp 2],(.seq (.region 0 [.C 2 (.bool false)])
 (.seq (.region 0 [.M 3 0,
 .o 4 (.aj .geq) [3,.ki 1],
 .M 5 4,
 .g 5 true 6 .aX [0],
 .g 5 true 7 (.aj .leq) [6,.ki 4],
 .o 8 .pick [5,7,.kb false],
 .M 2 8])
 .ret))⟩
end Go.Ev.Code
end
