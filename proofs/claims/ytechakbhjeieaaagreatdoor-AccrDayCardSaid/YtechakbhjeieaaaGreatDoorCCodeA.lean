/- Part of accrDay_card. -/
import Derived.Test.YtechakbhjeieaaaGreatDoorCDef
set_option linter.unusedVariables false
section
namespace Go.Ev.Code
open Go.Ev
def kN:Nat:=3
def kD:Nat:=5
def pR:Nat:=6
def pU:Nat:=7
def dY:Nat:=8
def oN:Nat:=9
def yZ:Nat:=10
def jZ:Nat:=11
def jU:Nat:=12
def lC:Nat:=13
def C_:Nat:=14
def kQ:Nat:=16
def gK:Nat:=17
def vZ:Nat:=18
def tV:Nat:=19
def DV:Nat:=20
def DY:Nat:=21
def DI:Nat:=22
def wC:Nat:=23
def nV:Nat:=24
def nN:Nat:=25
def nM:Nat:=26
def DX:Nat:=27
def mP:Nat:=28
def jl:Nat:=29
def kE:Nat:=30
def iQ:Nat:=31
def w_:Nat:=32
def EK:Nat:=33
def FP:Nat:=34
def yj:Nat:=35
def nR:Nat:=36
def dI:Nat:=37
def dG:Nat:=38
def bZ:Nat:=39
def dh:Nat:=40
def qM:Nat:=41
def Gp:Nat:=42
def xu:Nat:=43
def qO:Nat:=44
def OD:Nat:=45
def mM:Nat:=46
def lV:Nat:=47
def jC:Nat:=48
def zS:Nat:=49
def jo:Nat:=50
def jS:Nat:=51
def yD:Nat:=52
def slices_Reverse_int:Nat:=53
def iw:Nat:=54
def uK:Nat:=55
def lu:Nat:=56
def qJ:Nat:=57
def Dz:Nat:=58
def dB:Nat:=59
def jT:Nat:=60
def iG:Nat:=61
def Fg:Nat:=62
def rP:Nat:=63
def H6:Nat:=64
def Fv:Nat:=65
def WI:Nat:=66
def wE:Nat:=67
def EM:Nat:=68
def EN:Nat:=69
def zq:Nat:=70
def kX:Nat:=71
def uS:Nat:=72
def t_:Nat:=73
def gW:Nat:=74
def zX:Nat:=75
def fB:Nat:=76
def fA:Nat:=77
def iR:Nat:=78
def dR:Nat:=79
def jL:Nat:=80
def jD:Nat:=81
def lX:Nat:=82
def jJ:Nat:=83
def BO:Nat:=84
def qN:Nat:=85
def bW:Nat:=86
def fV:Nat:=87
def jd:Nat:=88
def jA:Nat:=89
def uz:Nat:=90
def Am:Nat:=91
def wK:Nat:=92
def rD:Nat:=93
def yG:Nat:=94
def mV:Nat:=96
def jR:Nat:=97
def uF:Nat:=98
def Qy:Nat:=99
def ji:Nat:=100
def jw:Nat:=101
def lg:Nat:=102
def oZ:Nat:=103
def Fe:Nat:=104
def qK:Nat:=105
def jy:Nat:=106
def Az:Nat:=107
def xK:Nat:=108
def gZ:Nat:=109
def qo:Nat:=110
def y7:Nat:=111
def FU:Nat:=112
def RY:Nat:=113
def sS:Nat:=114
def wz:Nat:=115
def ES:Nat:=116
def xX:Nat:=117
def fF:Nat:=118
def Wp:Nat:=119
def wV:Nat:=120
def Jf:Nat:=121
def y5:Nat:=122
def gB:Nat:=123
def pX:Nat:=124
def fC:Nat:=125
def og:Nat:=126
def mX:Nat:=127
def iy:Nat:=128
def lI:Nat:=129
def ny:Nat:=130
def jI:Nat:=131
def iL:Nat:=132
def lH:Nat:=133
def m_:Nat:=134
def gu:Nat:=135
def iK:Nat:=136
def dF:Nat:=137
def bits_Mul64:Nat:=138
def bits_Add64:Nat:=139
def gJ:Nat:=140
def xY:Nat:=141
def Cj:Nat:=142
def C9:Nat:=143
def dS:Nat:=148
def zW:Nat:=149
def gX:Nat:=150
def strings_Repeat:Nat:=151
def slices_Reverse_string:Nat:=152
def strings_Join:Nat:=153
def strings_Cut:Nat:=154
def Wv:Nat:=155
def oU:Nat:=156
def o7:Nat:=157
def bits_Sub64:Nat:=158
def zU:Nat:=159
def Jq:Nat:=160
def jv:Nat:=161
def ug:Nat:=162
def JF:Nat:=163
def BP:Nat:=164
def iJ:Nat:=165
def JD:Nat:=166
def Jl:Nat:=167
def kL:Nat:=168
def JE:Nat:=169
def EW:Nat:=170
def xH:Nat:=171
def Gu:Nat:=172
def wB:Nat:=173
def Aj:Nat:=174
def strings_CutPrefix:Nat:=175
def nK:Nat:=176
def jE:Nat:=177
def JI:Nat:=178
def kU:Nat:=179
def nG:Nat:=180
def mY:Nat:=181
def j_:Nat:=182
def f_:Nat:=183
def oP:Nat:=184
def n_:Nat:=185
def pV:Nat:=186
def fG:Nat:=187
def pY:Nat:=188
def oO:Nat:=189
def lW:Nat:=190
def kR:Nat:=191
def iT:Nat:=192
def wJ:Nat:=195
def iW:Nat:=204
def CW:Nat:=205
def DW:Nat:=206
def nat_bit:Nat:=207
def E_:Nat:=208
def bits_LeadingZeros64:Nat:=209
def CV:Nat:=210
def E8:Nat:=211
def Fa:Nat:=212
def E5:Nat:=213
def EP:Nat:=214
def lY:Nat:=215
def nO:Nat:=216
def rJ:Nat:=217
def Rn:Nat:=218
def EX:Nat:=219
def Ou:Nat:=220
def Ov:Nat:=221
def wo:Nat:=222
def uw:Nat:=223
def EZ:Nat:=224
def strconv_Itoa:Nat:=225
def oI:Nat:=234
def pW:Nat:=235
def bits_TrailingZeros64:Nat:=247
def MG:Nat:=249
def Kw:Nat:=250
def JJ:Nat:=251
def Dy:Nat:=252
def wu:Nat:=253
def rX:Nat:=254
def Dx:Nat:=276
def KN:Nat:=277
def xq:Nat:=278
def JK:Nat:=279
def vN:Nat:=289
def JL:Nat:=290
def rO:Nat:=313
def BA:Nat:=314
def jg:Nat:=315
def lF:Nat:=316
def eU:Nat:=323
def jY:Nat:=134
def lN:Nat:=141
def Dt:Nat:=248
def hndB:Nat:=16
end Go.Ev.Code
namespace Go.Ev
instance (n:Nat):OfNat BN n:=⟨.t n⟩
abbrev BN.ki (n:Int):BN := .k (.int .i64 n)
abbrev BN.kb (b:Bool):BN := .k (.bool b)
end Go.Ev
end
section
namespace Go.Ev.Code
open Go.Ev
def uh:EF:=⟨[0,1],[.tmp 4],(.seq (.region 1 [.o 2 (.box 0) [0],
 .C 4 (.bool false)])
 (.seq (.region 0 [.o 15 (.ah kD) [],
 .M 5 15])
 (.seq (.seq (.region 0 [.M 16 5,
 .o 17 .not [16]])
 (.cond (.t 17) (.seq (.region 0 [.C 4 (.bool false)])
 .ret)
 .skip))
 (.seq (.region 0 [.o 18 (.aU 9) [2],
 .o 19 (.ah pR) [18],
 ⟨.store 9,[2,19],none,none⟩])
 (.seq (.seq (.region 0 [.o 20 (.aU 9) [2],
 .M 21 1,
 .o 22 (.ah pU) [20,21],
 .o 23 (.aj .neq) [22,.ki 0]])
 (.cond (.t 23) (.seq (.region 0 [.C 4 (.bool true)])
 .ret)
 .skip))
 (.seq (.region 0 [.o 25 (.aU 9) [2],
 .o 26 (.ah dY) [25],
 .M 24 26,
 .o 27 (.ext 0) [24],
 .o 28 (.ext 1) [24],
 .M 6 27,
 .M 7 28])
 (.seq (.region 1 [.M 29 6,
 .M 30 6,
 .M 31 1,
 .o 32 (.ah oN) [30,31],
 .o 33 (.bF 2) [29,32],
 .o 34 (.aU 2) [33],
 .o 8 (.alloc 0 [.int .i64 0,.int .i64 0]) [],
 ⟨.store 2,[8,34],none,none⟩])
 (.seq (.region 0 [.o 36 (.aU 9) [2],
 .o 37 (.aC 0) [8],
 .o 38 .ak [37],
 .o 39 (.ah yZ) [36,38],
 .M 35 39,
 .o 40 (.ext 0) [35],
 .o 41 (.ext 1) [35],
 .M 9 40,
 .M 10 41])
 (.seq (.region 0 [.o 43 (.aU 9) [2],
 .M 44 1,
 .o 45 (.ah yZ) [43,44],
 .M 42 45,
 .o 46 (.ext 0) [42],
 .o 47 (.ext 1) [42],
 .M 11 46,
 .M 12 47])
 (.seq (.seq (.region 0 [.M 48 10,
 .o 49 (.eqN true true) [48,.k .aK],
 .M 50 49,
 .g 50 false 51 .aT [12],
 .g 50 false 52 (.eqN true true) [51,.k .aK],
 .o 53 .pick [50,.kb true,52],
 .M 54 53,
 .g 54 false 55 (.aU 9) [2],
 .g 54 false 56 (.aC 0) [8],
 .g 54 false 57 .ak [56],
 .g 54 false 58 (.ah jZ) [55,57],
 .g 54 false 59 .not [58],
 .g 54 false 60 .aT [59],
 .g 60 true 61 .aT [9],
 .g 60 true 62 (.ah jU) [61],
 .g 60 true 63 (.aj .neq) [62,.ki 0],
 .g 54 false 64 .pick [60,63,.kb false],
 .o 65 .pick [54,.kb true,64]])
 (.cond (.t 65) (.seq (.region 0 [.C 4 (.bool false)])
 .ret)
 .skip))
 (.seq (.seq (.drawn 0 [(0,.M 66 1),
 (1,.o 67 (.aj .add) [66,.ki 1]),
 (2,.o 68 (.aC 1) [8]),
 (3,.o 69 .ak [68]),
 (4,.o 70 (.aj .geq) [67,69]),
 (5,.M 71 70),
 (6,.g 71 false 72 (.aU 9) [2]),
 (7,.g 71 false 73 .aT [1]),
 (8,.g 71 false 74 (.ah jZ) [72,73]),
 (9,.g 71 false 75 (.aU 9) [2]),
 (10,.g 71 false 76 .aT [1]),
 (11,.g 71 false 77 (.aj .add) [76,.ki 1]),
 (12,.g 71 false 78 (.ah jZ) [75,77]),
 (13,.g 71 false 79 (.Zu true) [74,78]),
 (14,.o 80 .pick [71,.kb true,79])])
 (.cond (.t 80) (.seq (.region 0 [.C 4 (.bool true)])
 .ret)
 .skip))
 (.seq (.region 0 [.o 82 (.aU 9) [2],
 .M 83 1,
 .o 84 (.aj .add) [83,.ki 1],
 .o 85 (.ah yZ) [82,84],
 .M 81 85,
 .o 86 (.ext 0) [81],
 .o 87 (.ext 1) [81],
 .M 13 86,
 .M 14 87])
 (.seq (.region 0 [.M 88 14,
 .o 89 (.eqN false true) [88,.k .aK],
 .M 90 89,
 .g 90 true 91 .aT [11],
 .g 90 true 92 .aT [13],
 .g 90 true 93 (.ah lC) [91,92],
 .g 90 true 94 (.aj .leq) [93,.ki 0],
 .o 95 .pick [90,94,.kb false],
 .M 4 95])
 .ret)))))))))))))⟩
def Xr:EF:=⟨[],[.tmp 0],(.seq (.region 0 [.C 0 (.bool false)])
 (.seq (.region 1 [.o 15 (.ah vZ) [.k (.str [54]),.ki 1],
 .o 1 (.alloc 0 [.int .i64 0,.int .i64 0,.int .i64 0,.str [],.str [],.int .i64 0,.int .i64 0,.bool false,.int .i64 0]) [],
 ⟨.store 9,[1,15],none,none⟩])
 (.seq (.region 0 [.o 17 (.aU 9) [1],
 .o 18 (.ah tV) [17],
 .M 16 18,
 .o 19 (.ext 0) [16],
 .o 20 (.ext 1) [16],
 .M 2 19,
 .M 3 20])
 (.seq (.region 0 [.o 22 (.aU 9) [1],
 .o 23 (.ah DV) [22],
 .M 21 23,
 .o 24 (.ext 0) [21],
 .o 25 (.ext 1) [21],
 .M 4 24,
 .M 5 25])
 (.seq (.region 0 [.o 27 (.aU 9) [1],
 .o 28 (.aC 0) [1],
 .o 29 .ak [28],
 .o 30 (.aj .add) [29,.ki 91],
 .o 31 (.ah yZ) [27,30],
 .M 26 31,
 .o 32 (.ext 0) [26],
 .o 33 (.ext 1) [26],
 .M 6 32,
 .M 7 33])
 (.seq (.region 1 [.o 34 (.build [.int .i64 0,.int .i64 0,.int .i64 0,.str [],.str [],.int .i64 0,.int .i64 0,.bool false,.int .i64 0] [(0,1),(1,1),(2,1),(3,1),(4,1),(5,1)]) [.ki 36524,.ki 36890,.ki 1,.k (.str [54]),.k (.str [49,48,48]),.ki 1],
 .o 8 (.alloc 0 [.int .i64 0,.int .i64 0,.int .i64 0,.str [],.str [],.int .i64 0,.int .i64 0,.bool false,.int .i64 0]) [],
 ⟨.store 9,[8,34],none,none⟩])
 (.seq (.region 0 [.o 36 (.aU 9) [8],
 .o 37 (.aC 0) [8],
 .o 38 .ak [37],
 .o 39 (.ah DY) [36,38,.ki 6000000],
 .M 35 39,
 .o 40 (.ext 0) [35],
 .o 41 (.ext 1) [35],
 .M 9 40,
 .M 10 41])
 (.seq (.region 0 [.o 43 (.aU 9) [1],
 .o 44 (.aC 0) [1],
 .o 45 .ak [44],
 .o 46 (.ah C_) [43,45],
 .M 42 46,
 .o 47 (.ext 0) [42],
 .o 48 (.ext 1) [42],
 .M 11 47,
 .M 12 48])
 (.seq (.region 0 [.o 50 (.aU 9) [8],
 .o 51 (.aC 0) [8],
 .o 52 .ak [51],
 .o 53 (.ah DI) [50,52,.ki 6000000],
 .M 49 53,
 .o 54 (.ext 0) [49],
 .o 55 (.ext 1) [49],
 .M 13 54,
 .M 14 55])
 (.seq (.seq (.region 0 [.M 56 6,
 .o 57 (.yV false) [56,.k .aY],
 .M 58 57,
 .g 58 false 59 .aT [9],
 .g 58 false 60 (.yV false) [59,.k .aY],
 .o 61 .pick [58,.kb true,60],
 .M 62 61,
 .g 62 false 63 .aT [11],
 .g 62 false 64 (.yV false) [63,.k .aY],
 .o 65 .pick [62,.kb true,64],
 .M 66 65,
 .g 66 false 67 .aT [13],
 .g 66 false 68 (.yV false) [67,.k .aY],
 .o 69 .pick [66,.kb true,68],
 .M 70 69,
 .g 70 false 71 .aT [2],
 .g 70 false 72 .bM [71],
 .g 70 false 73 (.aj .neq) [72,.ki 10],
 .o 74 .pick [70,.kb true,73],
 .M 75 74,
 .g 75 false 76 .aT [4],
 .g 75 false 77 .bM [76],
 .g 75 false 78 (.aj .neq) [77,.ki 10],
 .o 79 .pick [75,.kb true,78]])
 (.cond (.t 79) (.seq (.region 0 [.C 0 (.bool false)])
 .ret)
 .skip))
 (.seq (.drawn 0 [(0,.o 80 (.ah wC) []),
 (1,.M 81 80),
 (2,.g 81 true 82 (.aU 9) [1]),
 (3,.g 81 true 83 (.ah nV) [82]),
 (4,.g 81 true 84 (.eqN false true) [83,.k .aK]),
 (5,.o 85 .pick [81,84,.kb false]),
 (6,.M 86 85),
 (7,.g 86 true 87 .aT [3]),
 (8,.g 86 true 88 (.eqN false true) [87,.k .aK]),
 (9,.o 89 .pick [86,88,.kb false]),
 (10,.M 90 89),
 (11,.g 90 true 91 .aT [2]),
 (12,.g 90 true 92 (.bF 2) [91,.ki 0]),
 (13,.g 90 true 93 (.aC 0) [92]),
 (14,.g 90 true 94 .ak [93]),
 (15,.g 90 true 95 (.aC 0) [1]),
 (16,.g 90 true 96 .ak [95]),
 (17,.g 90 true 97 (.aj .eql) [94,96]),
 (18,.o 98 .pick [90,97,.kb false]),
 (19,.M 99 98),
 (20,.g 99 true 100 .aT [2]),
 (21,.g 99 true 101 (.bF 2) [100,.ki 9]),
 (22,.g 99 true 102 (.aC 1) [101]),
 (23,.g 99 true 103 .ak [102]),
 (24,.g 99 true 104 (.aC 1) [1]),
 (25,.g 99 true 105 .ak [104]),
 (26,.g 99 true 106 (.aj .eql) [103,105]),
 (27,.o 107 .pick [99,106,.kb false]),
 (28,.M 108 107),
 (29,.g 108 true 109 .aT [5]),
 (30,.g 108 true 110 (.eqN false true) [109,.k .aK]),
 (31,.o 111 .pick [108,110,.kb false]),
 (32,.M 112 111),
 (33,.g 112 true 113 .aT [4]),
 (34,.g 112 true 114 (.bF 2) [113,.ki 0]),
 (35,.g 112 true 115 (.aC 1) [114]),
 (36,.g 112 true 116 .ak [115]),
 (37,.g 112 true 117 (.gq .eql) [116,.k (.str [51])]),
 (38,.o 118 .pick [112,117,.kb false]),
 (39,.M 119 118),
 (40,.g 119 true 120 .aT [4]),
 (41,.g 119 true 121 (.bF 2) [120,.ki 9]),
 (42,.g 119 true 122 (.aC 1) [121]),
 (43,.g 119 true 123 .ak [122]),
 (44,.g 119 true 124 (.gq .eql) [123,.k (.str [49,48,51])]),
 (45,.o 125 .pick [119,124,.kb false]),
 (46,.M 126 125),
 (47,.g 126 true 127 .aT [7]),
 (48,.g 126 true 128 (.eqN false true) [127,.k .aK]),
 (49,.o 129 .pick [126,128,.kb false]),
 (50,.M 130 129),
 (51,.g 130 true 131 .aT [6]),
 (52,.g 130 true 132 (.ah gK) [131]),
 (53,.g 130 true 133 (.gq .eql) [132,.k (.str [51,47,50])]),
 (54,.o 134 .pick [130,133,.kb false]),
 (55,.M 135 134),
 (56,.g 135 true 136 .aT [10]),
 (57,.g 135 true 137 (.eqN false true) [136,.k .aK]),
 (58,.o 138 .pick [135,137,.kb false]),
 (59,.M 139 138),
 (60,.g 139 true 140 .aT [9]),
 (61,.g 139 true 141 (.ah gK) [140]),
 (62,.g 139 true 142 (.gq .eql) [141,.k (.str [49,48,48])]),
 (63,.o 143 .pick [139,142,.kb false]),
 (64,.M 144 143),
 (65,.g 144 true 145 .aT [12]),
 (66,.g 144 true 146 (.eqN false true) [145,.k .aK]),
 (67,.o 147 .pick [144,146,.kb false]),
 (68,.M 148 147),
 (69,.g 148 true 149 .aT [11]),
 (70,.g 148 true 150 (.ah gK) [149]),
 (71,.g 148 true 151 (.gq .eql) [150,.k (.str [49])]),
 (72,.o 152 .pick [148,151,.kb false]),
 (73,.M 153 152),
 (74,.g 153 true 154 .aT [14]),
 (75,.g 153 true 155 (.eqN false true) [154,.k .aK]),
 (76,.o 156 .pick [153,155,.kb false]),
 (77,.M 157 156),
 (78,.g 157 true 158 .aT [13]),
 (79,.g 157 true 159 (.ah jU) [158]),
 (80,.g 157 true 160 (.aj .gtr) [159,.ki 0]),
 (81,.o 161 .pick [157,160,.kb false]),
 (82,.M 162 161),
 (83,.g 162 true 163 (.aU 9) [1]),
 (84,.g 162 true 164 (.ah nN) [163]),
 (85,.g 162 true 165 (.aj .eql) [164,.ki 6]),
 (86,.o 166 .pick [162,165,.kb false]),
 (87,.M 167 166),
 (88,.g 167 true 168 (.aU 9) [1]),
 (89,.g 167 true 169 (.ah nM) [168]),
 (90,.g 167 true 170 (.ah gK) [169]),
 (91,.g 167 true 171 (.gq .eql) [170,.k (.str [54])]),
 (92,.o 172 .pick [167,171,.kb false]),
 (93,.M 173 172),
 (94,.g 173 true 174 .aT [2]),
 (95,.g 173 true 175 (.aC 0) [1]),
 (96,.g 173 true 176 .ak [175]),
 (97,.g 173 true 177 (.ah DX) [174,176]),
 (98,.g 173 true 178 (.aj .eql) [177,.ki 0]),
 (99,.o 179 .pick [173,178,.kb false]),
 (100,.M 0 179)])
 .ret)))))))))))⟩
def zA:EF:=⟨[0],[.cell 2 true 9],(.seq (.region 2 [.o 1 (.box 0) [0],
 .o 2 (.alloc 1 [.int .i64 0,.int .i64 0,.int .i64 0,.str [],.str [],.int .i64 0,.int .i64 0,.bool false,.int .i64 0]) []])
 (.seq (.drawn 0 [(0,.o 3 (.aC 3) [1]),
 (1,.o 4 .ak [3]),
 (2,.o 5 (.ah mP) [4,.ki 30]),
 (3,.o 6 (.aC 4) [1]),
 (4,.o 7 .ak [6]),
 (5,.o 8 (.ah mP) [7,.ki 30]),
 (6,.o 9 (.aC 3) [1]),
 (7,⟨.store 1,[9,5],none,none⟩),
 (8,.o 10 (.aC 4) [1]),
 (9,⟨.store 1,[10,8],none,none⟩)])
 (.seq (.region 0 [.o 11 (.aU 9) [1],
 ⟨.store 9,[2,11],none,none⟩])
 .ret)))⟩
def zC:EF:=⟨[0,1],[.tmp 4],(.seq (.region 1 [.o 2 (.box 0) [0],
 .C 4 (.int .i64 0)])
 (.seq (.seq (.region 0 [.o 12 (.aU 9) [2],
 .o 13 (.ah jl) [12],
 .M 11 13,
 .o 14 (.ext 0) [11],
 .o 15 (.ext 1) [11],
 .M 5 14,
 .M 6 15])
 (.seq (.region 0 [.M 16 5,
 .o 17 (.aj .neq) [16,.ki 0]])
 (.cond (.t 17) (.seq (.region 0 [.M 18 5,
 .M 4 18])
 .ret)
 .skip)))
 (.seq (.seq (.region 0 [.o 20 (.aU 9) [2],
 .o 21 (.ah dY) [20],
 .M 19 21,
 .o 22 (.ext 0) [19],
 .o 23 (.ext 1) [19],
 .M 7 22,
 .M 8 23])
 (.seq (.region 0 [.M 24 8,
 .o 25 .not [24]])
 (.cond (.t 25) (.seq (.region 0 [.C 4 (.int .i64 5)])
 .ret)
 .skip)))
 (.seq (.seq (.region 0 [.o 27 (.aU 9) [2],
 .o 28 (.ah kE) [27],
 .M 26 28,
 .o 29 (.ext 0) [26],
 .o 30 (.ext 1) [26],
 .M 9 29,
 .M 10 30])
 (.seq (.region 0 [.M 31 10,
 .o 32 .not [31]])
 (.cond (.t 32) (.seq (.region 0 [.C 4 (.int .i64 4)])
 .ret)
 .skip)))
 (.seq (.seq (.region 0 [.M 33 1,
 .o 34 (.aC 0) [2],
 .o 35 .ak [34],
 .o 36 (.aj .lss) [33,35],
 .M 37 36,
 .g 37 false 38 .aT [1],
 .g 37 false 39 (.aC 1) [2],
 .g 37 false 40 .ak [39],
 .g 37 false 41 (.aj .geq) [38,40],
 .o 42 .pick [37,.kb true,41]])
 (.cond (.t 42) (.seq (.region 0 [.C 4 (.int .i64 6)])
 .ret)
 .skip))
 (.seq (.region 0 [.C 4 (.int .i64 0)])
 .ret))))))⟩
def jm:EC:=(.seq (.block 1 (.seq (.region 0 [.o 14 (.aU 9) [1],
 .M 15 5,
 .o 16 (.ah iQ) [14,15],
 .M 13 16,
 .o 17 (.ext 0) [13],
 .o 18 (.ext 1) [13],
 .M 6 17,
 .M 7 18])
 (.seq (.seq (.region 0 [.M 19 7,
 .o 20 .not [19],
 .M 21 20,
 .g 21 false 22 .aT [6],
 .g 21 false 23 (.aC 0) [1],
 .g 21 false 24 .ak [23],
 .g 21 false 25 (.aj .lss) [22,24],
 .o 26 .pick [21,.kb true,25]])
 (.cond (.t 26) (.exit 0)
 .skip))
 (.region 1 [.M 27 4,
 .M 28 6,
 .o 29 (.Em 1 1 [.int .i64 0] [(0,1)]) [28],
 .o 30 (.app 0 1) [27,29],
 .M 4 30]))))
 (.region 0 [.M 11 5,
 .o 12 (.aj .add) [11,.ki 1],
 .M 5 12]))
def iE:EC:=(.seq (.seq (.region 0 [.M 34 9,
 .o 35 (.aj .gtr) [34,.ki 0]])
 (.cond (.t 35) .skip
 (.exit 2)))
 (.seq (.block 3 (.drawn 1 [(0,.M 38 8),
 (1,.M 39 4),
 (2,.M 40 9),
 (3,.o 41 (.bF 1) [39,40]),
 (4,.o 42 .ak [41]),
 (5,.M 43 4),
 (6,.M 44 9),
 (7,.o 45 (.aj .sub) [44,.ki 1]),
 (8,.o 46 (.bF 1) [43,45]),
 (9,.o 47 .ak [46]),
 (10,.o 48 (.build [.int .i64 0,.int .i64 0] [(0,1),(1,1)]) [42,47]),
 (11,.o 49 (.Em 2 1 [.int .i64 0,.int .i64 0] [(0,2)]) [48]),
 (12,.o 50 (.app 0 2) [38,49]),
 (13,.M 8 50)]))
 (.region 0 [.M 36 9,
 .o 37 (.aj .sub) [36,.ki 1],
 .M 9 37])))
def yN:EF:=⟨[0],[.tmp 2,.tmp 3],(.seq (.region 1 [.o 1 (.box 0) [0],
 .C 2 .bH,
 .C 3 (.bool false)])
 (.seq (.region 0 [.C 4 .bH])
 (.seq (.seq (.region 0 [.C 5 (.int .i64 0)])
 (.block 0 (.loop [1,4,5] [1,4] jm)))
 (.seq (.region 0 [.C 8 .bH])
 (.seq (.seq (.region 0 [.M 31 4,
 .o 32 .bM [31],
 .o 33 (.aj .sub) [32,.ki 1],
 .M 9 33])
 (.block 2 (.loop [1,4,8,9] [1,4,8] iE)))
 (.seq (.region 0 [.M 51 4,
 .M 52 4,
 .o 53 .bM [52],
 .o 54 (.aj .sub) [53,.ki 1],
 .o 55 (.bF 1) [51,54],
 .o 56 .ak [55],
 .M 10 56])
 (.seq (.seq (.region 0 [.M 57 10,
 .o 58 (.aC 0) [1],
 .o 59 .ak [58],
 .o 60 (.aj .eql) [57,59]])
 (.cond (.t 60) (.seq (.region 0 [.M 61 8,
 .M 2 61,
 .C 3 (.bool true)])
 .ret)
 .skip))
 (.seq (.block 4 (.seq (.region 0 [.o 63 (.aC 6) [1],
 .o 64 .ak [63],
 .o 65 (.aj .eql) [64,.ki 0],
 .M 62 65])
 (.cond (.t 62) (.seq (.region 0 [.C 2 .bH,
 .C 3 (.bool false)])
 .ret)
 (.seq (.region 0 [.o 67 (.aC 6) [1],
 .o 68 .ak [67],
 .o 69 (.aj .eql) [68,.ki 2],
 .M 70 69,
 .g 70 true 71 .aT [8],
 .g 70 true 72 .bM [71],
 .g 70 true 73 (.aj .gtr) [72,.ki 0],
 .o 74 .pick [70,73,.kb false],
 .M 66 74])
 (.cond (.t 66) (.seq (.region 0 [.M 75 8,
 .o 76 (.aC 0) [1],
 .o 77 .ak [76],
 .o 78 (.bF 2) [75,.ki 0],
 .o 79 (.aC 0) [78],
 ⟨.store 1,[79,77],none,none⟩])
 (.seq (.region 0 [.M 80 8,
 .M 2 80,
 .C 3 (.bool true)])
 .ret))
 .skip)))))
 (.seq (.region 2 [.o 81 (.aC 0) [1],
 .o 82 .ak [81],
 .M 83 10,
 .o 84 (.build [.int .i64 0,.int .i64 0] [(0,1),(1,1)]) [82,83],
 .o 85 (.Zm 0 2 1 [.int .i64 0,.int .i64 0] [(0,2)]) [84],
 .M 86 8,
 .o 87 (.app 1 2) [85,86],
 .M 2 87,
 .C 3 (.bool true)])
 .ret)))))))))⟩
def mQ:EC:=(.seq (.seq (.region 0 [.M 6 5,
 .M 7 0,
 .o 8 .bM [7],
 .o 9 (.aj .lss) [6,8]])
 (.cond (.t 9) .skip
 (.exit 0)))
 (.seq (.block 1 (.seq (.region 0 [.M 12 0,
 .M 13 5,
 .o 14 (.bF 2) [12,13],
 .o 15 (.aC 0) [14],
 .o 16 .ak [15],
 .M 17 1,
 .o 18 (.aj .leq) [16,17],
 .M 19 18,
 .g 19 true 20 .aT [1],
 .g 19 true 21 .aT [0],
 .g 19 true 22 .aT [5],
 .g 19 true 23 (.bF 2) [21,22],
 .g 19 true 24 (.aC 1) [23],
 .g 19 true 25 .ak [24],
 .g 19 true 26 (.aj .lss) [20,25],
 .o 27 .pick [19,26,.kb false]])
 (.cond (.t 27) (.seq (.region 0 [.M 28 5,
 .M 4 28])
 .ret)
 .skip)))
 (.region 0 [.M 10 5,
 .o 11 (.aj .add) [10,.ki 1],
 .M 5 11])))
def AQ:EF:=⟨[0,1],[.tmp 4],(.seq (.region 0 [.C 4 (.int .i64 0)])
 (.seq (.seq (.region 0 [.C 5 (.int .i64 0)])
 (.block 0 (.loop [0,1,5] [4] mQ)))
 (.seq (.region 0 [.C 4 (.int .i64 (-1))])
 .ret)))⟩
def Ue:EF:=⟨[0,1],[.tmp 4,.tmp 5],(.seq (.region 1 [.o 2 (.box 0) [0],
 .C 4 .aY,
 .C 5 .aK])
 (.seq (.region 1 [.o 13 (.aU 9) [2],
 .M 14 1,
 .o 15 (.ah w_) [13,14],
 .M 12 15,
 .o 16 (.ext 0) [12],
 .o 17 (.ext 1) [12],
 .o 6 (.alloc 0 [.int .i64 0,.int .i64 0]) [],
 ⟨.store 2,[6,16],none,none⟩,
 .M 7 17])
 (.seq (.seq (.region 0 [.M 18 7,
 .o 19 (.eqN true true) [18,.k .aK]])
 (.cond (.t 19) (.seq (.region 0 [.M 20 7,
 .C 4 .aY,
 .M 5 20])
 .ret)
 .skip))
 (.seq (.region 0 [.o 22 (.aU 9) [2],
 .o 23 (.aU 2) [6],
 .M 24 1,
 .o 25 (.ah EK) [22,23,24],
 .M 21 25,
 .o 26 (.ext 0) [21],
 .o 27 (.ext 1) [21],
 .M 8 26,
 .M 7 27])
 (.seq (.seq (.region 0 [.M 28 7,
 .o 29 (.eqN true true) [28,.k .aK]])
 (.cond (.t 29) (.seq (.region 0 [.M 30 7,
 .C 4 .aY,
 .M 5 30])
 .ret)
 .skip))
 (.seq (.seq (.region 0 [.o 32 (.aU 9) [2],
 .M 33 1,
 .o 34 (.ah FP) [32,33],
 .M 31 34,
 .o 35 (.ext 0) [31],
 .o 36 (.ext 1) [31],
 .M 9 35,
 .M 10 36])
 (.seq (.region 0 [.M 37 9,
 .o 38 .not [37]])
 (.cond (.t 38) (.seq (.region 0 [.M 39 8,
 .M 4 39,
 .C 5 .aK])
 .ret)
 .skip)))
 (.seq (.region 0 [.o 41 (.aU 9) [2],
 .o 42 (.aU 2) [6],
 .o 43 (.ah yj) [41,42],
 .M 40 43,
 .o 44 (.ext 0) [40],
 .o 45 (.ext 1) [40],
 .M 11 44,
 .M 7 45])
 (.seq (.seq (.region 0 [.M 46 7,
 .o 47 (.eqN true true) [46,.k .aK]])
 (.cond (.t 47) (.seq (.region 0 [.M 48 7,
 .C 4 .aY,
 .M 5 48])
 .ret)
 .skip))
 (.seq (.region 0 [.M 49 8,
 .M 50 11,
 .o 51 (.ah nR) [49,50],
 .M 4 51,
 .C 5 .aK])
 .ret)))))))))⟩
def AU:EF:=⟨[0,1],[.tmp 4],(.seq (.region 1 [.o 2 (.box 0) [0],
 .C 4 (.bool false)])
 (.seq (.region 0 [.o 8 (.aU 9) [2],
 .o 9 (.ah dY) [8],
 .M 7 9,
 .o 10 (.ext 0) [7],
 .o 11 (.ext 1) [7],
 .M 5 10,
 .M 6 11])
 (.seq (.drawn 0 [(0,.o 12 (.aC 8) [2]),
 (1,.o 13 .ak [12]),
 (2,.o 14 (.aj .gtr) [13,.ki 0]),
 (3,.M 15 14),
 (4,.g 15 true 16 .aT [1]),
 (5,.g 15 true 17 .aT [5]),
 (6,.g 15 true 18 .aT [5]),
 (7,.g 15 true 19 .aT [1]),
 (8,.g 15 true 20 (.ah oN) [18,19]),
 (9,.g 15 true 21 (.bF 2) [17,20]),
 (10,.g 15 true 22 (.aC 1) [21]),
 (11,.g 15 true 23 .ak [22]),
 (12,.g 15 true 24 (.aC 8) [2]),
 (13,.g 15 true 25 .ak [24]),
 (14,.g 15 true 26 (.aj .sub) [23,25]),
 (15,.g 15 true 27 (.aj .geq) [16,26]),
 (16,.o 28 .pick [15,27,.kb false]),
 (17,.M 4 28)])
 .ret)))⟩
def Gi:EF:=⟨[0],[.tmp 2],(.seq (.region 0 [.C 2 (.int .i64 0)])
 (.seq (.region 0 [.M 3 0,
 .o 4 (.ah dI) [3],
 .o 5 (.ah dG) [4],
 .M 2 5])
 .ret))⟩
def IU:EF:=⟨[0,1],[.tmp 4],(.seq (.region 0 [.C 4 (.int .i64 0)])
 (.seq (.region 0 [.M 5 0,
 .o 6 (.ah dI) [5],
 .M 7 1,
 .o 8 (.ah dh) [7],
 .o 9 (.ah bZ) [6,8],
 .M 10 1,
 .o 11 (.ah dI) [10],
 .M 12 0,
 .o 13 (.ah dh) [12],
 .o 14 (.ah bZ) [11,13],
 .o 15 (.ah qM) [9,14],
 .M 4 15])
 .ret))⟩
def ajg:EF:=⟨[0,1],[.tmp 4,.tmp 5],(.seq (.region 1 [.o 2 (.box 0) [0],
 .C 4 .aY,
 .C 5 .aK])
 (.seq (.region 0 [.o 17 (.aU 9) [2],
 .M 18 1,
 .o 19 (.ah Gp) [17,18],
 .M 16 19,
 .o 20 (.ext 0) [16],
 .o 21 (.ext 1) [16],
 .o 22 (.ext 2) [16],
 .M 6 20,
 .M 7 21,
 .M 8 22])
 (.seq (.seq (.region 0 [.M 23 8,
 .o 24 (.eqN true true) [23,.k .aK]])
 (.cond (.t 24) (.seq (.region 0 [.M 25 8,
 .C 4 .aY,
 .M 5 25])
 .ret)
 .skip))
 (.seq (.region 1 [.M 26 6,
 .M 27 7,
 .o 28 (.bF 2) [26,27],
 .o 29 (.aU 2) [28],
 .o 9 (.alloc 0 [.int .i64 0,.int .i64 0]) [],
 ⟨.store 2,[9,29],none,none⟩])
 (.seq (.region 0 [.o 31 (.aU 9) [2],
 .o 32 (.aU 2) [9],
 .o 33 (.aC 0) [9],
 .o 34 .ak [33],
 .o 35 (.aC 1) [9],
 .o 36 .ak [35],
 .o 37 (.ah xu) [31,32,34,36],
 .M 30 37,
 .o 38 (.ext 0) [30],
 .o 39 (.ext 1) [30],
 .M 10 38,
 .M 8 39])
 (.seq (.seq (.region 0 [.M 40 8,
 .o 41 (.eqN true true) [40,.k .aK]])
 (.cond (.t 41) (.seq (.region 0 [.M 42 8,
 .C 4 .aY,
 .M 5 42])
 .ret)
 .skip))
 (.seq (.region 0 [.o 44 (.aU 9) [2],
 .o 45 (.aU 2) [9],
 .o 46 (.aC 0) [9],
 .o 47 .ak [46],
 .M 48 1,
 .o 49 (.ah xu) [44,45,47,48],
 .M 43 49,
 .o 50 (.ext 0) [43],
 .o 51 (.ext 1) [43],
 .M 11 50,
 .M 8 51])
 (.seq (.seq (.region 0 [.M 52 8,
 .o 53 (.eqN true true) [52,.k .aK]])
 (.cond (.t 53) (.seq (.region 0 [.M 54 8,
 .C 4 .aY,
 .M 5 54])
 .ret)
 .skip))
 (.seq (.region 0 [.M 56 11,
 .M 57 10,
 .o 58 (.ah qO) [56,57],
 .M 55 58,
 .o 59 (.ext 0) [55],
 .o 60 (.ext 1) [55],
 .M 12 59,
 .M 8 60])
 (.seq (.seq (.region 0 [.M 61 8,
 .o 62 (.eqN true true) [61,.k .aK]])
 (.cond (.t 62) (.seq (.region 0 [.M 63 8,
 .C 4 .aY,
 .M 5 63])
 .ret)
 .skip))
 (.seq (.region 0 [.o 64 (.ah OD) [],
 .M 65 12,
 .o 66 (.ah nR) [64,65],
 .M 13 66])
 (.seq (.seq (.region 0 [.o 67 (.aU 9) [2],
 .o 68 (.aU 2) [9],
 .o 69 (.ah mM) [67,68],
 .o 70 .not [69]])
 (.join [13] (.cond (.t 70) (.seq (.region 0 [.o 72 (.aC 2) [2],
 .o 73 .ak [72],
 .o 74 (.ah lV) [73,.ki 1],
 .M 71 74,
 .o 75 (.ext 0) [71],
 .o 76 (.ext 1) [71],
 .M 14 75,
 .M 15 76])
 (.region 0 [.M 77 13,
 .M 78 14,
 .o 79 (.ah jC) [77,78],
 .M 80 10,
 .o 81 (.ah jC) [79,80],
 .M 13 81]))
 .skip)))
 (.seq (.region 0 [.M 82 13,
 .M 4 82,
 .C 5 .aK])
 .ret)))))))))))))⟩
def uj:EF:=⟨[0,1],[.tmp 4],(.seq (.region 2 [.o 2 (.box 0) [0],
 .o 3 (.box 1) [1],
 .C 4 (.bool false)])
 (.seq (.region 0 [.o 8 (.aU 9) [2],
 .o 9 (.aC 1) [3],
 .o 10 .ak [9],
 .o 11 (.ah jo) [8,10],
 .M 7 11,
 .o 12 (.ext 0) [7],
 .o 13 (.ext 1) [7],
 .M 5 12,
 .M 6 13])
 (.seq (.region 0 [.M 14 6,
 .M 15 14,
 .g 15 true 16 .aT [5],
 .g 15 true 17 (.aC 0) [3],
 .g 15 true 18 .ak [17],
 .g 15 true 19 (.aj .eql) [16,18],
 .o 20 .pick [15,19,.kb false],
 .M 4 20])
 .ret)))⟩
def Gj:EF:=⟨[0],[.tmp 2],(.seq (.region 0 [.C 2 (.str [])])
 (.seq (.seq (.region 0 [.M 4 0,
 .o 5 (.ah dh) [4],
 .o 6 (.ah jS) [5],
 .M 3 6])
 (.seq (.region 0 [.M 7 3,
 .o 8 (.gq .neq) [7,.k (.str [49])]])
 (.cond (.t 8) (.seq (.region 0 [.M 9 0,
 .o 10 (.ah dI) [9],
 .o 11 (.ah jS) [10],
 .o 12 (.gq .add) [11,.k (.str [47])],
 .M 13 3,
 .o 14 (.gq .add) [12,13],
 .M 2 14])
 .ret)
 .skip)))
 (.seq (.region 0 [.M 15 0,
 .o 16 (.ah dI) [15],
 .o 17 (.ah jS) [16],
 .M 2 17])
 .ret)))⟩
def YI:EF:=⟨[0,1],[.cell 4 true 9],(.seq (.region 1 [.o 4 (.alloc 0 [.int .i64 0,.int .i64 0,.int .i64 0,.str [],.str [],.int .i64 0,.int .i64 0,.bool false,.int .i64 0]) []])
 (.seq (.region 0 [.M 5 0,
 .M 6 1,
 .o 7 (.build [.int .i64 0,.int .i64 0,.int .i64 0,.str [],.str [],.int .i64 0,.int .i64 0,.bool false,.int .i64 0] [(0,1),(1,1),(2,1),(3,1),(4,1),(5,1),(6,1)]) [.ki 36524,.ki 38351,.ki 2,5,.k (.str [49,48,48]),6,.ki 0],
 ⟨.store 9,[4,7],none,none⟩])
 .ret))⟩
def zY:EC:=(.seq (.region 0 [.o 30 (.aj .lss) [29,28]])
 (.seq (.cond (.t 30) .skip
 (.exit 0))
 (.seq (.block 1 (.seq (.region 0 [.o 31 (.bF 1) [27,29],
 .o 32 .ak [31],
 .M 11 32])
 (.seq (.region 1 [.M 33 8,
 .M 34 9,
 .M 35 11,
 .o 36 (.build [.int .i64 0,.int .i64 0] [(0,1),(1,1)]) [34,35],
 .o 37 (.Em 2 1 [.int .i64 0,.int .i64 0] [(0,2)]) [36],
 .o 38 (.app 0 2) [33,37],
 .M 8 38])
 (.region 0 [.M 39 11,
 .M 9 39]))))
 (.region 0 [.o 40 (.aj .add) [29,.ki 1],
 .M 29 40]))))
def Ut:EF:=⟨[0],[.tmp 2,.tmp 3],(.seq (.region 1 [.o 1 (.box 0) [0],
 .C 2 .bH,
 .C 3 .aK])
 (.seq (.seq (.region 0 [.o 12 (.aU 9) [1],
 .o 13 (.ah nV) [12],
 .M 4 13])
 (.seq (.region 0 [.M 14 4,
 .o 15 (.eqN true true) [14,.k .aK]])
 (.cond (.t 15) (.seq (.region 0 [.M 16 4,
 .C 2 .bH,
 .M 3 16])
 .ret)
 .skip)))
 (.seq (.region 0 [.o 18 (.aU 9) [1],
 .o 19 (.bK yD) [18],
 .M 17 19,
 .o 20 (.ext 0) [17],
 .o 21 (.ext 1) [17],
 .o 22 (.ext 2) [17],
 .M 5 20,
 .M 6 21,
 .M 7 22])
 (.seq (.region 0 [.M 23 5,
 .o 24 (.bK slices_Reverse_int) [23]])
 (.seq (.region 0 [.C 8 .bH])
 (.seq (.region 0 [.o 25 (.aC 0) [1],
 .o 26 .ak [25],
 .M 9 26])
 (.seq (.seq (.region 0 [.M 27 5,
 .o 28 .bM [27],
 .C 29 (.int .i64 0)])
 (.block 0 (.loop [1,6,7,8,9,27,28,29] [1,6,7,8] zY)))
 (.seq (.seq (.region 0 [.M 41 7,
 .M 42 41,
 .g 42 true 43 .aT [6],
 .g 42 true 44 (.aC 0) [1],
 .g 42 true 45 .ak [44],
 .g 42 true 46 (.aj .eql) [43,45],
 .o 47 .pick [42,46,.kb false]])
 (.cond (.t 47) (.seq (.region 0 [.M 48 8,
 .M 2 48,
 .C 3 .aK])
 .ret)
 .skip))
 (.seq (.join [2,3,8] (.block 2 (.seq (.region 0 [.o 50 (.aC 6) [1],
 .o 51 .ak [50],
 .o 52 (.aj .eql) [51,.ki 0],
 .M 49 52])
 (.join [2,3,8] (.cond (.t 49) (.seq (.region 0 [.o 53 (.ah iw) [.ki 5,.k (.str [115,116,117,98])],
 .C 2 .bH,
 .M 3 53])
 .ret)
 (.seq (.region 0 [.o 55 (.aC 6) [1],
 .o 56 .ak [55],
 .o 57 (.aj .eql) [56,.ki 2],
 .M 58 57,
 .g 58 true 59 .aT [8],
 .g 58 true 60 .bM [59],
 .g 58 true 61 (.aj .gtr) [60,.ki 1],
 .o 62 .pick [58,61,.kb false],
 .M 54 62])
 (.join [8] (.cond (.t 54) (.seq (.region 0 [.M 63 8,
 .o 64 (.aC 0) [1],
 .o 65 .ak [64],
 .o 66 (.bF 2) [63,.ki 1],
 .o 67 (.aC 0) [66],
 ⟨.store 1,[67,65],none,none⟩])
 (.region 0 [.M 68 8,
 .o 69 (.PL 2 true false) [68,.ki 1],
 .M 8 69]))
 .skip))))))))
 (.seq (.region 0 [.M 70 8,
 .M 2 70,
 .C 3 .aK])
 .ret))))))))))⟩
def qX:EC:=(.seq (.region 0 [.o 24 (.aj .lss) [23,22]])
 (.seq (.cond (.t 24) .skip
 (.exit 0))
 (.seq (.join [1,2,3,4,6,7,21,22,23] (.block 1 (.seq (.region 1 [.M 25 23,
 .o 26 (.bF 2) [21,23],
 .o 27 (.aU 2) [26],
 .o 9 (.alloc 0 [.int .i64 0,.int .i64 0]) [],
 .M 8 25,
 ⟨.store 2,[9,27],none,none⟩])
 (.seq (.region 0 [.M 28 6,
 .M 10 28])
 (.seq (.seq (.region 0 [.M 29 8,
 .o 30 (.aj .eql) [29,.ki 0]])
 (.join [1,2,3,4,6,7,8,9,10,21,22,23] (.cond (.t 30) (.seq (.region 0 [.o 32 (.aU 9) [1],
 .o 33 (.aU 2) [9],
 .o 34 (.ah yj) [32,33],
 .M 31 34,
 .o 35 (.ext 0) [31],
 .o 36 (.ext 1) [31],
 .M 10 35,
 .M 5 36])
 (.seq (.region 0 [.M 37 5,
 .o 38 (.eqN true true) [37,.k .aK]])
 (.cond (.t 38) (.seq (.region 0 [.M 39 5,
 .C 2 .bH,
 .M 3 39])
 .ret)
 .skip)))
 .skip)))
 (.seq (.seq (.region 0 [.M 40 8,
 .M 41 4,
 .o 42 .bM [41],
 .o 43 (.aj .sub) [42,.ki 1],
 .o 44 (.aj .eql) [40,43]])
 (.join [1,4,6,7,9,10,21,22,23] (.cond (.t 44) (.region 0 [.M 45 10,
 .o 46 (.aU 9) [1],
 .o 47 (.ah qJ) [46],
 .o 48 (.ah lu) [45,47],
 .M 10 48])
 .skip)))
 (.drawn 1 [(0,.M 49 7),
 (1,.o 50 (.aC 1) [9]),
 (2,.o 51 .ak [50]),
 (3,.M 52 10),
 (4,.o 53 (.ah gK) [52]),
 (5,.o 54 (.build [.int .i64 0,.str []] [(0,1),(1,1)]) [51,53]),
 (6,.o 55 (.Em 2 1 [.int .i64 0,.str []] [(0,2)]) [54]),
 (7,.o 56 (.app 0 2) [49,55]),
 (8,.M 7 56)])))))))
 (.region 0 [.o 57 (.aj .add) [23,.ki 1],
 .M 23 57]))))
def Ul:EF:=⟨[0],[.tmp 2,.tmp 3],(.seq (.region 1 [.o 1 (.box 0) [0],
 .C 2 .bH,
 .C 3 .aK])
 (.seq (.region 0 [.o 12 (.aU 9) [1],
 .o 13 (.ah tV) [12],
 .M 11 13,
 .o 14 (.ext 0) [11],
 .o 15 (.ext 1) [11],
 .M 4 14,
 .M 5 15])
 (.seq (.seq (.region 0 [.M 16 5,
 .o 17 (.eqN true true) [16,.k .aK]])
 (.cond (.t 17) (.seq (.region 0 [.M 18 5,
 .C 2 .bH,
 .M 3 18])
 .ret)
 .skip))
 (.seq (.region 0 [.o 19 (.aU 9) [1],
 .o 20 (.ah uK) [19],
 .M 6 20])
 (.seq (.region 0 [.C 7 .bH])
 (.seq (.seq (.region 0 [.M 21 4,
 .o 22 .bM [21],
 .C 23 (.int .i64 0)])
 (.block 0 (.loop [1,4,6,7,21,22,23] [2,3,7] qX)))
 (.seq (.region 0 [.M 58 7,
 .M 2 58,
 .C 3 .aK])
 .ret)))))))⟩
def ahW:EF:=⟨[0,1,2],[.tmp 6,.tmp 7],(.seq (.region 1 [.o 3 (.box 0) [0],
 .C 6 .aY,
 .C 7 .aK])
 (.seq (.region 0 [.o 18 (.aU 9) [3],
 .M 19 1,
 .o 20 (.ah Dz) [18,19],
 .M 17 20,
 .o 21 (.ext 0) [17],
 .o 22 (.ext 1) [17],
 .M 8 21,
 .M 9 22])
 (.seq (.seq (.region 0 [.M 23 9,
 .o 24 (.eqN true true) [23,.k .aK]])
 (.cond (.t 24) (.seq (.region 0 [.M 25 9,
 .C 6 .aY,
 .M 7 25])
 .ret)
 .skip))
 (.seq (.seq (.region 0 [.M 26 2,
 .o 27 (.aj .lss) [26,.ki (-2000000)],
 .M 28 27,
 .g 28 false 29 .aT [2],
 .g 28 false 30 (.aj .gtr) [29,.ki 100000000],
 .o 31 .pick [28,.kb true,30]])
 (.cond (.t 31) (.seq (.region 0 [.o 32 (.ah dB) [.ki 2],
 .C 6 .aY,
 .M 7 32])
 .ret)
 .skip))
 (.seq (.region 0 [.o 34 (.aU 9) [3],
 .M 35 1,
 .o 36 (.ah C_) [34,35],
 .M 33 36,
 .o 37 (.ext 0) [33],
 .o 38 (.ext 1) [33],
 .M 10 37,
 .M 9 38])
 (.seq (.seq (.region 0 [.M 39 9,
 .o 40 (.eqN true true) [39,.k .aK]])
 (.cond (.t 40) (.seq (.region 0 [.M 41 9,
 .C 6 .aY,
 .M 7 41])
 .ret)
 .skip))
 (.seq (.drawn 0 [(0,.o 42 (.ah jT) [.ki 100000000]),
 (1,.o 43 (.aC 2) [3]),
 (2,.o 44 .ak [43]),
 (3,.o 45 (.ah jT) [44]),
 (4,.o 46 (.ah bZ) [42,45]),
 (5,.M 11 46)])
 (.seq (.region 0 [.M 47 11,
 .M 48 2,
 .o 49 (.ah jT) [48],
 .o 50 (.ah iG) [47,49],
 .M 12 50])
 (.seq (.region 0 [.M 52 8,
 .M 53 12,
 .M 54 11,
 .o 55 (.ah Fg) [52,53,54],
 .M 51 55,
 .o 56 (.ext 0) [51],
 .o 57 (.ext 1) [51],
 .M 13 56,
 .M 14 57])
 (.seq (.region 0 [.M 58 10,
 .o 59 (.ah dh) [58],
 .M 60 11,
 .o 61 (.ah bZ) [59,60],
 .M 15 61])
 (.seq (.region 0 [.M 62 15,
 .M 63 10,
 .o 64 (.ah dI) [63],
 .M 65 2,
 .o 66 (.ah jT) [65],
 .o 67 (.ah bZ) [64,66],
 .o 68 (.ah iG) [62,67],
 .M 16 68])
 (.seq (.seq (.region 0 [.M 69 16,
 .o 70 (.ah dG) [69],
 .o 71 (.aj .leq) [70,.ki 0]])
 (.cond (.t 71) (.seq (.region 0 [.o 72 (.ah dB) [.ki 3],
 .C 6 .aY,
 .M 7 72])
 .ret)
 .skip))
 (.seq (.region 0 [.M 73 13,
 .M 74 15,
 .o 75 (.ah bZ) [73,74],
 .M 76 14,
 .M 77 16,
 .o 78 (.ah bZ) [76,77],
 .o 79 (.ah rP) [75,78],
 .o 80 (.ext 0) [79],
 .o 81 (.ext 1) [79],
 .M 6 80,
 .M 7 81])
 .ret)))))))))))))⟩
def adC:EF:=⟨[0,1,2],[.tmp 6,.tmp 7],(.seq (.region 1 [.o 3 (.box 0) [0],
 .C 6 .aY,
 .C 7 .aK])
 (.seq (.seq (.region 0 [.o 18 (.aU 9) [3],
 .M 19 1,
 .M 20 2,
 .o 21 (.ah DY) [18,19,20],
 .M 17 21,
 .o 22 (.ext 0) [17],
 .o 23 (.ext 1) [17],
 .M 8 22,
 .M 9 23])
 (.seq (.region 0 [.M 24 9,
 .o 25 (.eqN true true) [24,.k .aK]])
 (.cond (.t 25) (.seq (.region 0 [.M 26 9,
 .C 6 .aY,
 .M 7 26])
 .ret)
 .skip)))
 (.seq (.region 0 [.o 28 (.aU 9) [3],
 .M 29 1,
 .o 30 (.ah C_) [28,29],
 .M 27 30,
 .o 31 (.ext 0) [27],
 .o 32 (.ext 1) [27],
 .M 10 31,
 .M 11 32])
 (.seq (.seq (.region 0 [.M 33 11,
 .o 34 (.eqN true true) [33,.k .aK]])
 (.cond (.t 34) (.seq (.region 0 [.M 35 11,
 .C 6 .aY,
 .M 7 35])
 .ret)
 .skip))
 (.seq (.drawn 0 [(0,.o 36 (.ah jT) [.ki 100000000]),
 (1,.o 37 (.aC 2) [3]),
 (2,.o 38 .ak [37]),
 (3,.o 39 (.ah jT) [38]),
 (4,.o 40 (.ah bZ) [36,39]),
 (5,.M 12 40)])
 (.seq (.region 0 [.M 41 12,
 .M 42 2,
 .o 43 (.ah jT) [42],
 .o 44 (.ah iG) [41,43],
 .M 13 44])
 (.seq (.region 0 [.o 46 (.aU 9) [3],
 .M 47 1,
 .o 48 (.ah Fv) [46,47],
 .M 49 13,
 .M 50 12,
 .o 51 (.ah H6) [48,49,50],
 .M 45 51,
 .o 52 (.ext 0) [45],
 .o 53 (.ext 1) [45],
 .M 14 52,
 .M 15 53])
 (.seq (.region 0 [.M 55 14,
 .M 56 15,
 .o 57 (.ah rP) [55,56],
 .M 54 57,
 .o 58 (.ext 0) [54],
 .o 59 (.ext 1) [54],
 .M 16 58,
 .M 11 59])
 (.seq (.seq (.region 0 [.M 60 11,
 .o 61 (.eqN true true) [60,.k .aK]])
 (.cond (.t 61) (.seq (.region 0 [.M 62 11,
 .C 6 .aY,
 .M 7 62])
 .ret)
 .skip))
 (.seq (.drawn 0 [(0,.M 63 16),
 (1,.M 64 10),
 (2,.o 65 (.ah lu) [63,64]),
 (3,.o 66 (.aC 2) [3]),
 (4,.o 67 .ak [66]),
 (5,.o 68 (.ah WI) [.ki 1,67]),
 (6,.o 69 (.ah jC) [65,68]),
 (7,.M 6 69),
 (8,.C 7 .aK)])
 .ret))))))))))⟩
def YN:EF:=⟨[],[.tmp 0],(.seq (.region 0 [.C 0 (.bool false)])
 (.seq (.region 0 [.o 1 (.ah wE) [],
 .M 0 1])
 .ret))⟩
def Kz:EF:=⟨[0],[.tmp 2],(.seq (.region 1 [.o 1 (.box 0) [0],
 .C 2 .aK])
 (.seq (.seq (.region 0 [.o 5 (.aU 9) [1],
 .o 6 (.ah EM) [5],
 .M 3 6])
 (.seq (.region 0 [.M 7 3,
 .o 8 (.eqN true true) [7,.k .aK]])
 (.cond (.t 8) (.seq (.region 0 [.M 9 3,
 .M 2 9])
 .ret)
 .skip)))
 (.seq (.seq (.region 0 [.o 10 (.aU 9) [1],
 .o 11 (.ah nN) [10],
 .o 12 (.aj .eql) [11,.ki 0]])
 (.cond (.t 12) (.seq (.region 0 [.o 13 (.ah iw) [.ki 5,.k (.str [102,114,101,113])],
 .M 2 13])
 .ret)
 .skip))
 (.seq (.seq (.region 0 [.o 14 (.aU 9) [1],
 .o 15 (.ah EN) [14],
 .M 4 15])
 (.seq (.region 0 [.M 16 4,
 .o 17 (.eqN true true) [16,.k .aK]])
 (.cond (.t 17) (.seq (.region 0 [.M 18 4,
 .M 2 18])
 .ret)
 .skip)))
 (.seq (.block 0 (.seq (.region 0 [.o 20 (.aC 5) [1],
 .o 21 .ak [20],
 .o 22 (.ah zq) [21],
 .o 23 .not [22],
 .M 19 23])
 (.cond (.t 19) (.seq (.region 0 [.o 24 (.ah iw) [.ki 5,.k (.str [99,111,117,110,116])],
 .M 2 24])
 .ret)
 (.seq (.region 0 [.o 26 (.aC 6) [1],
 .o 27 .ak [26],
 .o 28 (.aj .lss) [27,.ki 0],
 .M 29 28,
 .g 29 false 30 (.aC 6) [1],
 .g 29 false 31 .ak [30],
 .g 29 false 32 (.aj .gtr) [31,.ki 2],
 .o 33 .pick [29,.kb true,32],
 .M 25 33])
 (.cond (.t 25) (.seq (.region 0 [.o 34 (.ah iw) [.ki 5,.k (.str [115,116,117,98])],
 .M 2 34])
 .ret)
 (.seq (.region 0 [.o 36 (.aC 8) [1],
 .o 37 .ak [36],
 .o 38 (.aj .lss) [37,.ki 0],
 .M 39 38,
 .g 39 false 40 (.aC 8) [1],
 .g 39 false 41 .ak [40],
 .g 39 false 42 (.aj .gtr) [41,.ki 30],
 .o 43 .pick [39,.kb true,42],
 .M 35 43])
 (.cond (.t 35) (.seq (.region 0 [.o 44 (.ah iw) [.ki 5,.k (.str [101,120])],
 .M 2 44])
 .ret)
 (.seq (.drawn 0 [(0,.o 46 (.aC 0) [1]),
 (1,.o 47 .ak [46]),
 (2,.o 48 (.aC 1) [1]),
 (3,.o 49 .ak [48]),
 (4,.o 50 (.ah kX) [47,49]),
 (5,.o 51 (.aU 9) [1]),
 (6,.o 52 (.ah nN) [51]),
 (7,.o 53 (.aj .quo) [50,52]),
 (8,.o 54 (.aj .add) [53,.ki 2]),
 (9,.o 55 (.aj .gtr) [54,.ki 200]),
 (10,.M 45 55)])
 (.cond (.t 45) (.seq (.region 0 [.o 56 (.ah iw) [.ki 5,.k (.str [102,108,111,119,115])],
 .M 2 56])
 .ret)
 .skip)))))))))
 (.seq (.region 0 [.C 2 .aK])
 .ret))))))⟩
def Ig:EF:=⟨[0],[.tmp 2],(.seq (.region 1 [.o 1 (.box 0) [0],
 .C 2 (.int .i64 0)])
 (.seq (.seq (.region 0 [.o 3 (.aC 2) [1],
 .o 4 .ak [3]])
 (.join [2] (.block 0 (.seq (.seq (.region 0 [.o 6 (.aj .eql) [4,.ki 1],
 .M 5 6])
 (.join [1,5] (.cond (.t 5) .skip
 (.seq (.region 0 [.o 7 (.aj .eql) [4,.ki 2],
 .M 5 7])
 (.join [1,5] (.cond (.t 5) .skip
 (.seq (.region 0 [.o 8 (.aj .eql) [4,.ki 4],
 .M 5 8])
 (.join [1,5] (.cond (.t 5) .skip
 (.region 0 [.o 9 (.aj .eql) [4,.ki 12],
 .M 5 9]))))))))))
 (.cond (.t 5) (.seq (.region 0 [.o 10 (.aC 2) [1],
 .o 11 .ak [10],
 .o 12 (.aj .quo) [.ki 12,11],
 .M 2 12])
 .ret)
 .skip)))))
 (.seq (.region 0 [.C 2 (.int .i64 0)])
 .ret)))⟩
def Ie:EF:=⟨[0],[.tmp 2],(.seq (.region 1 [.o 1 (.box 0) [0],
 .C 2 .aY])
 (.seq (.seq (.region 0 [.o 6 (.aU 9) [1],
 .o 7 (.ah nV) [6],
 .o 8 (.eqN true true) [7,.k .aK]])
 (.cond (.t 8) (.seq (.region 0 [.o 9 (.ah uS) [.ki 0],
 .M 2 9])
 .ret)
 .skip))
 (.seq (.region 0 [.o 11 (.aC 3) [1],
 .o 12 .ak [11],
 .o 13 (.ah t_) [12],
 .M 10 13,
 .o 14 (.ext 0) [10],
 .o 15 (.ext 1) [10],
 .o 16 (.ext 2) [10],
 .M 3 14,
 .M 4 15,
 .M 5 16])
 (.seq (.region 0 [.M 17 3,
 .M 2 17])
 .ret))))⟩
def Us:EF:=⟨[0,1],[.tmp 4],(.seq (.region 1 [.o 3 (.box 0) [1],
 .C 4 (.int .i64 0)])
 (.seq (.region 0 [.M 5 0,
 .o 6 (.acM zX) [3],
 .o 7 (.uf gW) [5,6],
 .M 4 7])
 .ret))⟩
def zB:EF:=⟨[0,1],[.tmp 4],(.seq (.region 0 [.C 4 (.str [])])
 (.seq (.region 0 [.M 5 0,
 .M 6 0,
 .o 7 .qY [6],
 .M 8 1,
 .o 9 .mn [7,8],
 .o 10 (.WU false true) [5,9],
 .M 4 10])
 .ret))⟩
def wM:EF:=⟨[0],[.tmp 2,.tmp 3],(.seq (.region 1 [.o 1 (.box 0) [0],
 .C 2 (.int .i64 0),
 .C 3 (.str [])])
 (.seq (.seq (.region 0 [.o 10 (.aC 0) [1],
 .o 11 .ak [10],
 .o 12 (.ah fB) [11],
 .o 13 .not [12]])
 (.cond (.t 13) (.seq (.region 0 [.C 2 (.int .i64 4),
 .C 3 (.str [105,115,115,117,101])])
 .ret)
 .skip))
 (.seq (.seq (.region 0 [.o 14 (.aC 1) [1],
 .o 15 .ak [14],
 .o 16 (.ah fB) [15],
 .o 17 .not [16]])
 (.cond (.t 17) (.seq (.region 0 [.C 2 (.int .i64 4),
 .C 3 (.str [109,97,116,117,114,101])])
 .ret)
 .skip))
 (.seq (.region 0 [.o 19 (.aC 0) [1],
 .o 20 .ak [19],
 .o 21 (.ah fA) [20,.ki 360,.kb false],
 .M 18 21,
 .o 22 (.ext 0) [18],
 .o 23 (.ext 1) [18],
 .M 4 22,
 .M 5 23])
 (.seq (.seq (.region 0 [.o 24 (.aC 1) [1],
 .o 25 .ak [24],
 .o 26 (.aC 0) [1],
 .o 27 .ak [26],
 .o 28 (.aj .leq) [25,27],
 .M 29 28,
 .g 29 false 30 .aT [5],
 .g 29 false 31 .aT [30],
 .g 31 true 32 (.aC 1) [1],
 .g 31 true 33 .ak [32],
 .g 31 true 34 .aT [4],
 .g 31 true 35 (.aj .gtr) [33,34],
 .g 29 false 36 .pick [31,35,.kb false],
 .o 37 .pick [29,.kb true,36]])
 (.cond (.t 37) (.seq (.region 0 [.C 2 (.int .i64 5),
 .C 3 (.str [109,97,116,117,114,101])])
 .ret)
 .skip))
 (.seq (.seq (.region 0 [.o 38 (.aU 9) [1],
 .o 39 (.ah iR) [38],
 .o 40 (.aj .eql) [39,.ki 0]])
 (.cond (.t 40) (.seq (.region 0 [.C 2 (.int .i64 5),
 .C 3 (.str [102,114,101,113])])
 .ret)
 .skip))
 (.seq (.seq (.region 1 [.o 42 (.aC 3) [1],
 .o 43 .ak [42],
 .o 44 (.ah dR) [43,.ki 0,.ki 30,.kb true],
 .M 41 44,
 .o 45 (.ext 0) [41],
 .o 46 (.ext 1) [41],
 .o 6 (.alloc 0 [.bool false,.sl 0 [],.sl 0 []]) [],
 ⟨.store 3,[6,45],none,none⟩,
 .M 7 46])
 (.seq (.region 0 [.M 47 7,
 .o 48 (.aj .neq) [47,.ki 0]])
 (.cond (.t 48) (.seq (.region 0 [.M 49 7,
 .M 2 49,
 .C 3 (.str [99,111,117,112,111,110])])
 .ret)
 .skip)))
 (.seq (.seq (.region 1 [.o 51 (.aC 4) [1],
 .o 52 .ak [51],
 .o 53 (.ah dR) [52,.ki 0,.ki 200,.kb false],
 .M 50 53,
 .o 54 (.ext 0) [50],
 .o 55 (.ext 1) [50],
 .o 8 (.alloc 0 [.bool false,.sl 0 [],.sl 0 []]) [],
 ⟨.store 3,[8,54],none,none⟩,
 .M 9 55])
 (.seq (.region 0 [.M 56 9,
 .o 57 (.aj .neq) [56,.ki 0]])
 (.cond (.t 57) (.seq (.region 0 [.M 58 9,
 .M 2 58,
 .C 3 (.str [114,101,100,101,101,109])])
 .ret)
 .skip)))
 (.seq (.block 0 (.seq (.region 0 [.o 60 (.aC 5) [1],
 .o 61 .ak [60],
 .o 62 (.aj .lss) [61,.ki 1],
 .M 63 62,
 .g 63 false 64 (.aC 5) [1],
 .g 63 false 65 .ak [64],
 .g 63 false 66 (.aj .gtr) [65,.ki 4],
 .o 67 .pick [63,.kb true,66],
 .M 59 67])
 (.cond (.t 59) (.seq (.region 0 [.C 2 (.int .i64 5),
 .C 3 (.str [99,111,117,110,116])])
 .ret)
 (.seq (.region 0 [.o 69 (.aC 6) [1],
 .o 70 .ak [69],
 .o 71 (.aj .lss) [70,.ki 0],
 .M 72 71,
 .g 72 false 73 (.aC 6) [1],
 .g 72 false 74 .ak [73],
 .g 72 false 75 (.aj .gtr) [74,.ki 2],
 .o 76 .pick [72,.kb true,75],
 .M 68 76])
 (.cond (.t 68) (.seq (.region 0 [.C 2 (.int .i64 5),
 .C 3 (.str [115,116,117,98])])
 .ret)
 (.seq (.region 0 [.o 78 (.aC 8) [1],
 .o 79 .ak [78],
 .o 80 (.aj .lss) [79,.ki 0],
 .M 81 80,
 .g 81 false 82 (.aC 8) [1],
 .g 81 false 83 .ak [82],
 .g 81 false 84 (.aj .gtr) [83,.ki 30],
 .o 85 .pick [81,.kb true,84],
 .M 77 85])
 (.cond (.t 77) (.seq (.region 0 [.C 2 (.int .i64 5),
 .C 3 (.str [101,120])])
 .ret)
 (.seq (.drawn 0 [(0,.o 87 (.aC 0) [1]),
 (1,.o 88 .ak [87]),
 (2,.o 89 (.aC 1) [1]),
 (3,.o 90 .ak [89]),
 (4,.o 91 (.ah jL) [88,90]),
 (5,.o 92 (.aU 9) [1]),
 (6,.o 93 (.ah iR) [92]),
 (7,.o 94 (.aj .quo) [91,93]),
 (8,.o 95 (.aj .add) [94,.ki 2]),
 (9,.o 96 (.aj .gtr) [95,.ki 200]),
 (10,.M 86 96)])
 (.cond (.t 86) (.seq (.region 0 [.C 2 (.int .i64 5),
 .C 3 (.str [102,108,111,119,115])])
 .ret)
 .skip)))))))))
 (.seq (.region 0 [.C 2 (.int .i64 0),
 .C 3 (.str [])])
 .ret))))))))))⟩
def eY:EC:=(.seq (.seq (.region 0 [.M 15 7,
 .M 16 4,
 .o 17 .bM [16],
 .o 18 (.aj .lss) [15,17]])
 (.cond (.t 18) .skip
 (.exit 0)))
 (.seq (.join [1,2,3,4,6,7] (.block 1 (.seq (.drawn 1 [(0,.o 22 (.aU 9) [1]),
 (1,.M 23 4),
 (2,.M 24 7),
 (3,.o 25 (.bF 2) [23,24]),
 (4,.o 26 (.aU 2) [25]),
 (5,.o 27 (.ah jD) [22,26]),
 (6,.M 21 27),
 (7,.o 28 (.ext 0) [21]),
 (8,.o 29 (.ext 1) [21]),
 (9,.o 8 (.alloc 0 [.bool false,.bH,.bH]) []),
 (10,⟨.store 3,[8,28],none,none⟩),
 (11,.M 9 29)])
 (.seq (.seq (.region 0 [.M 30 9,
 .o 31 .not [30]])
 (.cond (.t 31) (.seq (.region 0 [.C 2 .bH,
 .C 3 (.bool false)])
 .ret)
 .skip))
 (.seq (.seq (.region 0 [.M 32 7,
 .M 33 4,
 .o 34 .bM [33],
 .o 35 (.aj .sub) [34,.ki 1],
 .o 36 (.aj .eql) [32,35]])
 (.join [1,4,6,7,8] (.cond (.t 36) (.drawn 0 [(0,.o 37 (.aU 3) [8]),
 (1,.o 38 (.aU 9) [1]),
 (2,.o 39 (.ah jJ) [38]),
 (3,.o 40 (.ah lX) [37,39]),
 (4,⟨.store 3,[8,40],none,none⟩)])
 .skip)))
 (.drawn 1 [(0,.M 41 6),
 (1,.M 42 4),
 (2,.M 43 7),
 (3,.o 44 (.bF 2) [42,43]),
 (4,.o 45 (.aC 1) [44]),
 (5,.o 46 .ak [45]),
 (6,.o 47 (.aU 3) [8]),
 (7,.o 48 (.build [.int .i64 0,.bool false,.bH,.bH] [(0,1),(1,3)]) [46,47]),
 (8,.o 49 (.Em 4 1 [.int .i64 0,.bool false,.bH,.bH] [(0,4)]) [48]),
 (9,.o 50 (.app 0 4) [41,49]),
 (10,.M 6 50)]))))))
 (.region 0 [.M 19 7,
 .o 20 (.aj .add) [19,.ki 1],
 .M 7 20])))
def wO:EF:=⟨[0],[.tmp 2,.tmp 3],(.seq (.region 1 [.o 1 (.box 0) [0],
 .C 2 .bH,
 .C 3 (.bool false)])
 (.seq (.region 0 [.o 11 (.aU 9) [1],
 .o 12 (.ah dY) [11],
 .M 10 12,
 .o 13 (.ext 0) [10],
 .o 14 (.ext 1) [10],
 .M 4 13,
 .M 5 14])
 (.seq (.region 0 [.C 6 .bH])
 (.seq (.seq (.region 0 [.C 7 (.int .i64 0)])
 (.block 0 (.loop [1,4,6,7] [2,3,6] eY)))
 (.seq (.region 0 [.M 51 6,
 .M 2 51,
 .C 3 (.bool true)])
 .ret)))))⟩
def uU:EF:=⟨[0,1],[.tmp 4,.tmp 5],(.seq (.region 1 [.o 2 (.box 0) [0],
 .C 4 (.int .i64 0),
 .C 5 (.bool false)])
 (.seq (.drawn 0 [(0,.o 6 (.aC 1) [2]),
 (1,.o 7 .ak [6]),
 (2,.M 8 1),
 (3,.o 9 .neg [8]),
 (4,.o 10 (.aU 9) [2]),
 (5,.o 11 (.ah iR) [10]),
 (6,.o 12 (.aj .mul) [9,11]),
 (7,.o 13 (.aC 7) [2]),
 (8,.o 14 .ak [13]),
 (9,.o 15 (.ah fA) [7,12,14]),
 (10,.o 16 (.ext 0) [15]),
 (11,.o 17 (.ext 1) [15]),
 (12,.M 4 16),
 (13,.M 5 17)])
 .ret))⟩
def Ic:EF:=⟨[0,1],[.cell 4 true 2,.tmp 5],(.seq (.region 2 [.o 2 (.box 0) [0],
 .o 4 (.alloc 1 [.int .i64 0,.int .i64 0]) [],
 .C 5 .aK])
 (.seq (.seq (.region 0 [.o 11 (.aU 9) [2],
 .M 12 1,
 .o 13 (.ah BO) [11,12],
 .M 10 13,
 .o 14 (.ext 0) [10],
 .o 15 (.ext 1) [10],
 .M 6 14,
 .M 7 15])
 (.seq (.region 0 [.M 16 7,
 .o 17 (.eqN true true) [16,.k .aK]])
 (.cond (.t 17) (.seq (.region 0 [.o 18 (.build [.int .i64 0,.int .i64 0] []) [],
 .M 19 7,
 ⟨.store 2,[4,18],none,none⟩,
 .M 5 19])
 .ret)
 .skip)))
 (.seq (.region 0 [.o 21 (.aU 9) [2],
 .o 22 (.ah tV) [21],
 .M 20 22,
 .o 23 (.ext 0) [20],
 .o 24 (.ext 1) [20],
 .M 8 23,
 .M 9 24])
 (.seq (.seq (.region 0 [.M 25 9,
 .o 26 (.eqN true true) [25,.k .aK]])
 (.cond (.t 26) (.seq (.region 0 [.o 27 (.build [.int .i64 0,.int .i64 0] []) [],
 .M 28 9,
 ⟨.store 2,[4,27],none,none⟩,
 .M 5 28])
 .ret)
 .skip))
 (.seq (.region 0 [.M 29 8,
 .M 30 8,
 .M 31 1,
 .o 32 (.ah DX) [30,31],
 .o 33 (.bF 2) [29,32],
 .o 34 (.aU 2) [33],
 ⟨.store 2,[4,34],none,none⟩,
 .C 5 .aK])
 .ret)))))⟩
def Nu:EF:=⟨[0,1,2],[.tmp 6,.tmp 7],(.seq (.region 2 [.o 3 (.box 0) [0],
 .o 4 (.box 1) [1],
 .C 6 .aY,
 .C 7 .aK])
 (.seq (.seq (.region 0 [.o 13 (.aC 5) [3],
 .o 14 .ak [13],
 .o 15 (.aj .eql) [14,.ki 4],
 .M 16 15,
 .g 16 true 17 (.aU 9) [3],
 .g 16 true 18 (.aU 2) [4],
 .g 16 true 19 (.ah mM) [17,18],
 .o 20 .pick [16,19,.kb false]])
 (.cond (.t 20) (.seq (.region 0 [.o 22 (.aU 9) [3],
 .o 23 (.aU 2) [4],
 .o 24 (.ah yj) [22,23],
 .M 21 24,
 .o 25 (.ext 0) [21],
 .o 26 (.ext 1) [21],
 .M 8 25,
 .M 9 26])
 (.seq (.seq (.region 0 [.M 27 9,
 .o 28 (.eqN true true) [27,.k .aK]])
 (.cond (.t 28) (.seq (.region 0 [.M 29 9,
 .C 6 .aY,
 .M 7 29])
 .ret)
 .skip))
 (.seq (.region 0 [.M 31 2,
 .o 32 (.aC 0) [4],
 .o 33 .ak [32],
 .o 34 (.aj .sub) [31,33],
 .o 35 (.aC 1) [4],
 .o 36 .ak [35],
 .o 37 (.aC 0) [4],
 .o 38 .ak [37],
 .o 39 (.aj .sub) [36,38],
 .o 40 (.ah lV) [34,39],
 .M 30 40,
 .o 41 (.ext 0) [30],
 .o 42 (.ext 1) [30],
 .M 10 41,
 .M 9 42])
 (.seq (.region 0 [.M 43 8,
 .M 44 10,
 .o 45 (.ah jC) [43,44],
 .M 46 9,
 .M 6 45,
 .M 7 46])
 .ret))))
 .skip))
 (.seq (.region 0 [.o 48 (.aU 9) [3],
 .o 49 (.aU 2) [4],
 .o 50 (.aC 0) [4],
 .o 51 .ak [50],
 .M 52 2,
 .o 53 (.ah xu) [48,49,51,52],
 .M 47 53,
 .o 54 (.ext 0) [47],
 .o 55 (.ext 1) [47],
 .M 11 54,
 .M 12 55])
 (.seq (.seq (.region 0 [.M 56 12,
 .o 57 (.eqN true true) [56,.k .aK]])
 (.cond (.t 57) (.seq (.region 0 [.M 58 12,
 .C 6 .aY,
 .M 7 58])
 .ret)
 .skip))
 (.seq (.region 0 [.o 59 (.aU 9) [3],
 .o 60 (.ah nM) [59],
 .M 61 11,
 .o 62 (.ah jC) [60,61],
 .M 6 62,
 .C 7 .aK])
 .ret)))))⟩
def Ud:EF:=⟨[0,1],[.tmp 4,.tmp 5],(.seq (.region 1 [.o 2 (.box 0) [0],
 .C 4 (.bool false),
 .C 5 .aK])
 (.seq (.region 1 [.o 9 (.aU 9) [2],
 .M 10 1,
 .o 11 (.ah w_) [9,10],
 .M 8 11,
 .o 12 (.ext 0) [8],
 .o 13 (.ext 1) [8],
 .o 6 (.alloc 0 [.int .i64 0,.int .i64 0]) [],
 ⟨.store 2,[6,12],none,none⟩,
 .M 7 13])
 (.seq (.region 0 [.M 14 7,
 .o 15 (.eqN false true) [14,.k .aK],
 .M 16 15,
 .g 16 true 17 (.aC 8) [2],
 .g 16 true 18 .ak [17],
 .g 16 true 19 (.aj .gtr) [18,.ki 0],
 .o 20 .pick [16,19,.kb false],
 .M 21 20,
 .g 21 true 22 .aT [1],
 .g 21 true 23 (.aC 1) [6],
 .g 21 true 24 .ak [23],
 .g 21 true 25 (.aC 8) [2],
 .g 21 true 26 .ak [25],
 .g 21 true 27 (.aj .sub) [24,26],
 .g 21 true 28 (.aj .geq) [22,27],
 .o 29 .pick [21,28,.kb false],
 .M 30 7,
 .M 4 29,
 .M 5 30])
 .ret)))⟩
def PU:EF:=⟨[0,1],[.tmp 4,.tmp 5],(.seq (.region 2 [.o 2 (.box 0) [0],
 .o 3 (.box 1) [1],
 .C 4 .aY,
 .C 5 .aK])
 (.seq (.seq (.region 0 [.o 11 (.aU 9) [2],
 .o 12 (.ah tV) [11],
 .M 10 12,
 .o 13 (.ext 0) [10],
 .o 14 (.ext 1) [10],
 .M 6 13,
 .M 7 14])
 (.seq (.region 0 [.M 15 7,
 .o 16 (.eqN true true) [15,.k .aK]])
 (.cond (.t 16) (.seq (.region 0 [.M 17 7,
 .C 4 .aY,
 .M 5 17])
 .ret)
 .skip)))
 (.seq (.seq (.region 0 [.o 18 (.aU 9) [2],
 .o 19 (.aU 2) [3],
 .o 20 (.ah mM) [18,19]])
 (.cond (.t 20) (.seq (.region 0 [.o 21 (.aU 9) [2],
 .o 22 (.ah uK) [21],
 .M 4 22,
 .C 5 .aK])
 .ret)
 .skip))
 (.seq (.region 0 [.o 24 (.aU 9) [2],
 .o 25 (.aU 2) [3],
 .o 26 (.aC 0) [3],
 .o 27 .ak [26],
 .o 28 (.aC 1) [3],
 .o 29 .ak [28],
 .o 30 (.ah xu) [24,25,27,29],
 .M 23 30,
 .o 31 (.ext 0) [23],
 .o 32 (.ext 1) [23],
 .M 8 31,
 .M 9 32])
 (.seq (.seq (.region 0 [.M 33 9,
 .o 34 (.eqN true true) [33,.k .aK]])
 (.cond (.t 34) (.seq (.region 0 [.M 35 9,
 .C 4 .aY,
 .M 5 35])
 .ret)
 .skip))
 (.seq (.region 0 [.o 36 (.aU 9) [2],
 .o 37 (.ah nM) [36],
 .M 38 8,
 .o 39 (.ah jC) [37,38],
 .M 4 39,
 .C 5 .aK])
 .ret))))))⟩
def IZ:EF:=⟨[0,1],[.tmp 4],(.seq (.region 0 [.C 4 .aY])
 (.seq (.region 1 [.M 5 0,
 .M 6 1,
 .o 7 (.ah dI) [6],
 .o 8 (.ah qN) [7],
 .M 9 1,
 .o 10 (.ah dh) [9],
 .o 11 (.build [.aY,.aY] [(0,1),(1,1)]) [8,10],
 .o 12 (.box 0) [11],
 .o 13 (.uf lu) [5,12],
 .M 4 13])
 .ret))⟩
def IY:EF:=⟨[0],[.tmp 2],(.seq (.region 0 [.C 2 .aY])
 (.seq (.seq (.region 0 [.M 3 0,
 .o 4 (.yV false) [3,.k .aY],
 .M 5 4,
 .g 5 false 6 .aT [0],
 .g 5 false 7 .qG [6],
 .g 5 false 8 (.aC 0) [7],
 .g 5 false 9 .ak [8],
 .g 5 false 10 (.yV false) [9,.k .aY],
 .o 11 .pick [5,.kb true,10]])
 (.cond (.t 11) (.seq (.region 0 [.o 12 (.ah jT) [.ki 0],
 .M 2 12])
 .ret)
 .skip))
 (.seq (.region 0 [.M 13 0,
 .o 14 .qG [13],
 .o 15 (.aC 0) [14],
 .o 16 .ak [15],
 .M 2 16])
 .ret)))⟩
def F9:EF:=⟨[0],[.tmp 2],(.seq (.region 0 [.C 2 (.int .i64 0)])
 (.seq (.block 0 (.seq (.region 0 [.M 4 0,
 .o 5 (.ah bW) [4],
 .o 6 (.ah fV) [5],
 .M 3 6])
 (.cond (.t 3) (.seq (.region 0 [.C 2 (.int .i64 0)])
 .ret)
 (.seq (.region 0 [.M 8 0,
 .o 9 .qG [8],
 .o 10 (.aC 0) [9],
 .o 11 .ak [10],
 .M 7 11])
 (.cond (.t 7) (.seq (.region 0 [.C 2 (.int .i64 (-1))])
 .ret)
 .skip)))))
 (.seq (.region 0 [.C 2 (.int .i64 1)])
 .ret)))⟩
def II:EF:=⟨[0,1],[.tmp 4],(.seq (.region 0 [.C 4 .aY])
 (.seq (.region 0 [.M 5 0,
 .o 6 (.ah dG) [5],
 .M 7 1,
 .o 8 (.ah dG) [7],
 .o 9 (.aj .mul) [6,8],
 .o 10 (.aj .lss) [9,.ki 0],
 .M 11 0,
 .o 12 (.ah bW) [11],
 .M 13 1,
 .o 14 (.ah bW) [13],
 .o 15 (.ah jA) [12,14],
 .o 16 (.ah jd) [10,15],
 .M 4 16])
 .ret))⟩
def IV:EF:=⟨[0],[.tmp 2],(.seq (.region 0 [.C 2 .aY])
 (.seq (.seq (.region 0 [.M 3 0,
 .o 4 (.yV false) [3,.k .aY],
 .M 5 4,
 .g 5 false 6 .aT [0],
 .g 5 false 7 .qG [6],
 .g 5 false 8 (.aC 1) [7],
 .g 5 false 9 .ak [8],
 .g 5 false 10 (.yV false) [9,.k .aY],
 .o 11 .pick [5,.kb true,10]])
 (.cond (.t 11) (.seq (.region 0 [.o 12 (.ah jT) [.ki 1],
 .M 2 12])
 .ret)
 .skip))
 (.seq (.region 0 [.M 13 0,
 .o 14 .qG [13],
 .o 15 (.aC 1) [14],
 .o 16 .ak [15],
 .M 2 16])
 .ret)))⟩
def IG:EF:=⟨[0,1],[.tmp 4],(.seq (.region 0 [.C 4 (.int .i64 0)])
 (.seq (.region 0 [.M 5 0,
 .M 6 1,
 .o 7 (.ah uz) [5,6],
 .o 8 (.ah dG) [7],
 .M 4 8])
 .ret))⟩
def ajh:EF:=⟨[0,1],[.tmp 4,.tmp 5,.tmp 6],(.seq (.region 1 [.o 2 (.box 0) [0],
 .C 4 (.sl 0 []),
 .C 5 (.int .i64 0),
 .C 6 .aK])
 (.seq (.seq (.region 0 [.o 12 (.aU 9) [2],
 .M 13 1,
 .o 14 (.ah BO) [12,13],
 .M 11 14,
 .o 15 (.ext 0) [11],
 .o 16 (.ext 1) [11],
 .M 7 15,
 .M 8 16])
 (.seq (.region 0 [.M 17 8,
 .o 18 (.eqN true true) [17,.k .aK]])
 (.cond (.t 18) (.seq (.region 0 [.M 19 8,
 .C 4 (.sl 0 []),
 .C 5 (.int .i64 0),
 .M 6 19])
 .ret)
 .skip)))
 (.seq (.region 0 [.o 21 (.aU 9) [2],
 .o 22 (.ah tV) [21],
 .M 20 22,
 .o 23 (.ext 0) [20],
 .o 24 (.ext 1) [20],
 .M 9 23,
 .M 10 24])
 (.seq (.region 0 [.M 25 9,
 .M 26 9,
 .M 27 1,
 .o 28 (.ah DX) [26,27],
 .M 29 10,
 .M 4 25,
 .M 5 28,
 .M 6 29])
 .ret))))⟩
def yh:EC:=(.seq (.region 0 [.o 80 (.aj .lss) [79,78]])
 (.seq (.cond (.t 80) .skip
 (.exit 0))
 (.seq (.block 1 (.seq (.region 1 [.o 81 (.bF 2) [77,79],
 .o 82 (.aU 2) [81],
 .o 17 (.alloc 0 [.int .i64 0,.int .i64 0]) [],
 ⟨.store 2,[17,82],none,none⟩])
 (.seq (.region 0 [.M 83 3,
 .o 84 (.aC 1) [17],
 .o 85 .ak [84],
 .o 86 .mn [83,85],
 .M 87 2,
 .o 88 (.aC 0) [17],
 .o 89 .ak [88],
 .o 90 .mx [87,89],
 .o 91 (.aj .sub) [86,90],
 .M 18 91])
 (.seq (.region 0 [.M 93 18,
 .o 94 .mx [93,.ki 0],
 .o 95 (.aC 2) [4],
 .o 96 .ak [95],
 .o 97 (.aC 1) [17],
 .o 98 .ak [97],
 .o 99 (.aC 0) [17],
 .o 100 .ak [99],
 .o 101 (.aj .sub) [98,100],
 .o 102 (.aj .mul) [96,101],
 .o 103 (.ah lV) [94,102],
 .M 92 103,
 .o 104 (.ext 0) [92],
 .o 105 (.ext 1) [92],
 .M 19 104,
 .M 20 105])
 (.region 0 [.M 106 14,
 .M 107 19,
 .o 108 (.ah lu) [106,107],
 .M 14 108])))))
 (.region 0 [.o 109 (.aj .add) [79,.ki 1],
 .M 79 109]))))
def NG:EF:=⟨[0,1,2,3],[.tmp 8,.tmp 9],(.seq (.region 2 [.o 4 (.box 0) [0],
 .o 5 (.box 1) [1],
 .C 8 .aY,
 .C 9 .aK])
 (.seq (.seq (.region 0 [.o 22 (.aU 9) [4],
 .o 23 (.ah tV) [22],
 .M 21 23,
 .o 24 (.ext 0) [21],
 .o 25 (.ext 1) [21],
 .M 10 24,
 .M 11 25])
 (.seq (.region 0 [.M 26 11,
 .o 27 (.eqN true true) [26,.k .aK]])
 (.cond (.t 27) (.seq (.region 0 [.M 28 11,
 .C 8 .aY,
 .M 9 28])
 .ret)
 .skip)))
 (.seq (.region 0 [.C 12 (.sl 0 [])])
 (.seq (.seq (.region 0 [.o 29 (.aC 5) [4],
 .o 30 .ak [29],
 .o 31 (.aj .eql) [30,.ki 4]])
 (.join [2,3,4,5,8,9,12] (.cond (.t 31) (.seq (.region 0 [.C 13 .aK])
 (.seq (.region 0 [.o 33 (.aU 9) [4],
 .o 34 (.aU 2) [5],
 .o 35 (.ah Am) [33,34],
 .M 32 35,
 .o 36 (.ext 0) [32],
 .o 37 (.ext 1) [32],
 .M 12 36,
 .M 13 37])
 (.seq (.region 0 [.M 38 13,
 .o 39 (.eqN true true) [38,.k .aK]])
 (.cond (.t 39) (.seq (.region 0 [.M 40 13,
 .C 8 .aY,
 .M 9 40])
 .ret)
 .skip))))
 .skip)))
 (.seq (.seq (.region 0 [.M 41 2,
 .o 42 (.aC 0) [5],
 .o 43 .ak [42],
 .o 44 (.aj .lss) [41,43],
 .M 45 44,
 .g 45 false 46 .aT [3],
 .g 45 false 47 .aT [2],
 .g 45 false 48 (.aj .lss) [46,47],
 .o 49 .pick [45,.kb true,48],
 .M 50 49,
 .g 50 false 51 (.aC 1) [5],
 .g 50 false 52 .ak [51],
 .g 50 false 53 .aT [3],
 .g 50 false 54 (.aj .lss) [52,53],
 .o 55 .pick [50,.kb true,54]])
 (.cond (.t 55) (.seq (.region 0 [.o 56 (.ah dB) [.ki 6],
 .C 8 .aY,
 .M 9 56])
 .ret)
 .skip))
 (.seq (.seq (.region 0 [.o 57 (.aC 5) [4],
 .o 58 .ak [57],
 .o 59 (.aj .neq) [58,.ki 4]])
 (.cond (.t 59) (.seq (.region 0 [.o 60 (.aC 5) [4],
 .o 61 .ak [60],
 .M 62 2,
 .M 63 3,
 .o 64 (.aC 0) [5],
 .o 65 .ak [64],
 .o 66 (.aC 1) [5],
 .o 67 .ak [66],
 .o 68 (.aC 2) [4],
 .o 69 .ak [68],
 .o 70 (.ah wK) [61,62,63,65,67,69],
 .o 71 (.ext 0) [70],
 .o 72 (.ext 1) [70],
 .M 8 71,
 .M 9 72])
 .ret)
 .skip))
 (.seq (.region 0 [.o 74 (.ah lV) [.ki 0,.ki 1],
 .M 73 74,
 .o 75 (.ext 0) [73],
 .o 76 (.ext 1) [73],
 .M 14 75,
 .M 15 76])
 (.seq (.seq (.region 0 [.M 77 12,
 .o 78 .bM [77],
 .C 79 (.int .i64 0)])
 (.block 0 (.loop [2,3,4,14,77,78,79] [14] yh)))
 (.seq (.region 0 [.M 110 14,
 .M 8 110,
 .C 9 .aK])
 .ret)))))))))⟩
def IW:EF:=⟨[0,1],[.tmp 4,.tmp 5],(.seq (.region 0 [.C 4 .aY,
 .C 5 .aK])
 (.seq (.region 0 [.M 6 0,
 .o 7 (.ah dI) [6],
 .M 8 1,
 .o 9 (.ah dh) [8],
 .o 10 (.ah bZ) [7,9],
 .M 11 0,
 .o 12 (.ah dh) [11],
 .M 13 1,
 .o 14 (.ah dI) [13],
 .o 15 (.ah bZ) [12,14],
 .o 16 (.ah rP) [10,15],
 .o 17 (.ext 0) [16],
 .o 18 (.ext 1) [16],
 .M 4 17,
 .M 5 18])
 .ret))⟩
def alm:EF:=⟨[],[.tmp 0],(.seq (.region 0 [.C 0 .aY])
 (.seq (.region 0 [.o 4 (.ah lV) [.ki 1,.ki 1],
 .M 3 4,
 .o 5 (.ext 0) [3],
 .o 6 (.ext 1) [3],
 .M 1 5,
 .M 2 6])
 (.seq (.region 0 [.M 7 1,
 .M 0 7])
 .ret)))⟩
def Gg:EF:=⟨[0,1],[.tmp 4],(.seq (.region 2 [.o 2 (.box 0) [0],
 .o 3 (.box 1) [1],
 .C 4 (.bool false)])
 (.seq (.region 0 [.o 8 (.aU 9) [2],
 .o 9 (.aC 1) [3],
 .o 10 .ak [9],
 .o 11 (.ah rD) [8,10],
 .M 7 11,
 .o 12 (.ext 0) [7],
 .o 13 (.ext 1) [7],
 .M 5 12,
 .M 6 13])
 (.seq (.region 0 [.M 14 6,
 .o 15 (.eqN false true) [14,.k .aK],
 .M 16 15,
 .g 16 true 17 .aT [5],
 .g 16 true 18 (.aC 0) [3],
 .g 16 true 19 .ak [18],
 .g 16 true 20 (.aj .eql) [17,19],
 .o 21 .pick [16,20,.kb false],
 .M 4 21])
 .ret)))⟩
def Xq:EF:=⟨[0,1],[.tmp 4,.tmp 5],(.seq (.region 0 [.C 4 .aY,
 .C 5 .aK])
 (.seq (.region 0 [.M 6 0,
 .o 7 (.ah jT) [6],
 .M 8 1,
 .o 9 (.ah jT) [8],
 .o 10 (.ah rP) [7,9],
 .o 11 (.ext 0) [10],
 .o 12 (.ext 1) [10],
 .M 4 11,
 .M 5 12])
 .ret))⟩
def IX:EF:=⟨[0,1],[.tmp 4],(.seq (.region 0 [.C 4 .aY])
 (.seq (.region 0 [.M 5 0,
 .o 6 (.ah dI) [5],
 .M 7 1,
 .o 8 (.ah dI) [7],
 .o 9 (.ah bZ) [6,8],
 .M 10 0,
 .o 11 (.ah dh) [10],
 .M 12 1,
 .o 13 (.ah dh) [12],
 .o 14 (.ah bZ) [11,13],
 .o 15 (.ah yG) [9,14],
 .M 4 15])
 .ret))⟩
def wP:EF:=⟨[0,1],[.tmp 4,.tmp 5],(.seq (.region 1 [.o 2 (.box 0) [0],
 .C 4 (.int .i64 0),
 .C 5 (.bool false)])
 (.seq (.region 0 [.o 7 (.aU 9) [2],
 .M 8 1,
 .o 9 (.ah mV) [7,8],
 .M 6 9])
 (.seq (.seq (.region 0 [.M 10 6,
 .o 11 (.aj .lss) [10,.ki 0],
 .M 12 11,
 .g 12 false 13 .aT [1],
 .g 12 false 14 (.aC 0) [2],
 .g 12 false 15 .ak [14],
 .g 12 false 16 (.aj .leq) [13,15],
 .o 17 .pick [12,.kb true,16]])
 (.cond (.t 17) (.seq (.region 0 [.C 4 (.int .i64 0),
 .C 5 (.bool false)])
 .ret)
 .skip))
 (.seq (.region 0 [.o 18 (.aU 9) [2],
 .M 19 6,
 .o 20 (.aj .add) [19,.ki 1],
 .o 21 (.ah iQ) [18,20],
 .o 22 (.ext 0) [21],
 .o 23 (.ext 1) [21],
 .M 4 22,
 .M 5 23])
 .ret))))⟩
def Gf:EF:=⟨[0],[.tmp 2],(.seq (.region 0 [.C 2 (.str [])])
 (.seq (.seq (.region 0 [.M 3 0,
 .o 4 (.ah dG) [3],
 .o 5 (.aj .lss) [4,.ki 0]])
 (.cond (.t 5) (.seq (.region 0 [.M 6 0,
 .o 7 (.ah bW) [6],
 .o 8 (.ah jR) [7],
 .o 9 (.gq .add) [.k (.str [45]),8],
 .M 2 9])
 .ret)
 .skip))
 (.seq (.region 0 [.M 10 0,
 .o 11 (.ah bW) [10],
 .o 12 (.ah jR) [11],
 .M 2 12])
 .ret)))⟩
def oM:EC:=(.seq (.block 1 (.seq (.region 0 [.o 12 (.aU 9) [1],
 .M 13 6,
 .o 14 (.ah uF) [12,13],
 .M 11 14,
 .o 15 (.ext 0) [11],
 .o 16 (.ext 1) [11],
 .M 7 15,
 .M 8 16])
 (.seq (.seq (.region 0 [.M 17 8,
 .o 18 .not [17],
 .M 19 18,
 .g 19 false 20 .aT [7],
 .g 19 false 21 (.aC 0) [1],
 .g 19 false 22 .ak [21],
 .g 19 false 23 (.aj .leq) [20,22],
 .o 24 .pick [19,.kb true,23]])
 (.cond (.t 24) (.seq (.region 0 [.M 25 5,
 .M 26 7,
 .M 27 8,
 .M 2 25,
 .M 3 26,
 .M 4 27])
 .ret)
 .skip))
 (.region 1 [.M 28 5,
 .M 29 7,
 .o 30 (.Em 1 1 [.int .i64 0] [(0,1)]) [29],
 .o 31 (.app 0 1) [28,30],
 .M 5 31]))))
 (.region 0 [.M 9 6,
 .o 10 (.aj .add) [9,.ki 1],
 .M 6 10]))
def Gh:EF:=⟨[0],[.tmp 2,.tmp 3,.tmp 4],(.seq (.region 1 [.o 1 (.box 0) [0],
 .C 2 .bH,
 .C 3 (.int .i64 0),
 .C 4 (.bool false)])
 (.seq (.region 0 [.C 5 .bH])
 (.seq (.region 0 [.C 6 (.int .i64 0)])
 (.block 0 (.loop [1,5,6] [2,3,4] oM)))))⟩
def ig:EC:=(.seq (.seq (.region 0 [.M 7 2,
 .M 8 3,
 .o 9 (.aj .lss) [7,8]])
 (.cond (.t 9) .skip
 (.exit 0)))
 (.seq (.block 1 (.drawn 0 [(0,.M 14 0),
 (1,.M 15 2),
 (2,.M 16 0),
 (3,.M 17 3),
 (4,.M 18 0),
 (5,.M 19 3),
 (6,.o 20 (.bF 1) [18,19]),
 (7,.o 21 .ak [20]),
 (8,.M 22 0),
 (9,.M 23 2),
 (10,.o 24 (.bF 1) [22,23]),
 (11,.o 25 .ak [24]),
 (12,.o 26 (.bF 1) [14,15]),
 (13,⟨.store 1,[26,21],none,none⟩),
 (14,.o 27 (.bF 1) [16,17]),
 (15,⟨.store 1,[27,25],none,none⟩)]))
 (.region 0 [.M 10 2,
 .o 11 (.aj .add) [10,.ki 1],
 .M 12 3,
 .o 13 (.aj .sub) [12,.ki 1],
 .M 2 11,
 .M 3 13])))
def wU:EF:=⟨[0],[],(.seq (.region 0 [.M 4 0,
 .o 5 .bM [4],
 .o 6 (.aj .sub) [5,.ki 1],
 .C 2 (.int .i64 0),
 .M 3 6])
 (.block 0 (.loop [0,2,3] [] ig)))⟩
def NC:EF:=⟨[0,1],[.tmp 4],(.seq (.region 0 [.C 4 .aK])
 (.seq (.seq (.region 0 [.M 5 0,
 .o 6 (.aj .eql) [5,.ki 0]])
 (.cond (.t 6) (.seq (.region 0 [.C 4 .aK])
 .ret)
 .skip))
 (.seq (.region 1 [.M 7 0,
 .M 8 1,
 .o 9 (.build [.int .i64 0,.str [],.aK] [(0,1),(1,1)]) [7,8],
 .o 10 (.box 0) [9],
 .o 11 (.Xy jY) [10],
 .M 4 11])
 .ret)))⟩
def F6:EF:=⟨[0],[.tmp 2],(.seq (.region 1 [.o 1 (.box 0) [0],
 .C 2 .aY])
 (.seq (.region 0 [.o 6 (.aC 2) [1],
 .o 7 .ak [6],
 .o 8 (.ah lV) [.ki 1,7],
 .M 5 8,
 .o 9 (.ext 0) [5],
 .o 10 (.ext 1) [5],
 .M 3 9,
 .M 4 10])
 (.seq (.region 0 [.o 11 (.aU 9) [1],
 .o 12 (.ah nM) [11],
 .M 13 3,
 .o 14 (.ah jC) [12,13],
 .M 2 14])
 .ret)))⟩
def IQ:EF:=⟨[0,1],[.tmp 4],(.seq (.region 0 [.C 4 .aY])
 (.seq (.seq (.region 0 [.M 5 0,
 .o 6 (.ah dh) [5],
 .M 7 1,
 .o 8 (.ah dh) [7],
 .o 9 (.ah qM) [6,8],
 .o 10 (.aj .eql) [9,.ki 0]])
 (.cond (.t 10) (.seq (.region 0 [.M 11 0,
 .o 12 (.ah dI) [11],
 .M 13 1,
 .o 14 (.ah dI) [13],
 .o 15 (.ah iG) [12,14],
 .M 16 0,
 .o 17 (.ah dh) [16],
 .o 18 (.ah yG) [15,17],
 .M 4 18])
 .ret)
 .skip))
 (.seq (.region 0 [.M 19 0,
 .o 20 (.ah dI) [19],
 .M 21 1,
 .o 22 (.ah dh) [21],
 .o 23 (.ah bZ) [20,22],
 .M 24 1,
 .o 25 (.ah dI) [24],
 .M 26 0,
 .o 27 (.ah dh) [26],
 .o 28 (.ah bZ) [25,27],
 .o 29 (.ah iG) [23,28],
 .M 30 0,
 .o 31 (.ah dh) [30],
 .M 32 1,
 .o 33 (.ah dh) [32],
 .o 34 (.ah bZ) [31,33],
 .o 35 (.ah yG) [29,34],
 .M 4 35])
 .ret)))⟩
def Ih:EF:=⟨[0],[.tmp 2],(.seq (.region 1 [.o 1 (.box 0) [0],
 .C 2 .aY])
 (.seq (.seq (.region 0 [.o 6 (.aU 9) [1],
 .o 7 (.ah nV) [6],
 .o 8 (.eqN true true) [7,.k .aK]])
 (.cond (.t 8) (.seq (.region 0 [.o 9 (.ah uS) [.ki 0],
 .M 2 9])
 .ret)
 .skip))
 (.seq (.region 0 [.o 11 (.aC 4) [1],
 .o 12 .ak [11],
 .o 13 (.ah t_) [12],
 .M 10 13,
 .o 14 (.ext 0) [10],
 .o 15 (.ext 1) [10],
 .o 16 (.ext 2) [10],
 .M 3 14,
 .M 4 15,
 .M 5 16])
 (.seq (.region 0 [.M 17 3,
 .M 2 17])
 .ret))))⟩
def RJ:EC:=(.seq (.region 0 [.o 42 (.aj .lss) [41,40]])
 (.seq (.cond (.t 42) .skip
 (.exit 0))
 (.seq (.block 1 (.seq (.region 1 [.o 43 (.bF 2) [39,41],
 .o 44 (.aU 2) [43],
 .o 12 (.alloc 0 [.int .i64 0,.str []]) [],
 ⟨.store 2,[12,44],none,none⟩])
 (.seq (.region 0 [.o 46 (.aC 1) [12],
 .o 47 .ak [46],
 .o 48 (.ah Qy) [47],
 .M 45 48,
 .o 49 (.ext 0) [45],
 .o 50 (.ext 1) [45],
 .M 13 49,
 .M 14 50])
 (.region 1 [.M 51 10,
 .M 52 13,
 .o 53 (.Em 1 1 [.aY] [(0,1)]) [52],
 .o 54 (.app 0 1) [51,53],
 .M 10 54]))))
 (.region 0 [.o 55 (.aj .add) [41,.ki 1],
 .M 41 55]))))
def adB:EF:=⟨[0,1],[.tmp 4,.tmp 5],(.seq (.region 1 [.o 2 (.box 0) [0],
 .C 4 .bH,
 .C 5 .aK])
 (.seq (.region 0 [.o 20 (.aU 9) [2],
 .M 21 1,
 .o 22 (.ah Gp) [20,21],
 .M 19 22,
 .o 23 (.ext 0) [19],
 .o 24 (.ext 1) [19],
 .o 25 (.ext 2) [19],
 .M 6 23,
 .M 7 24,
 .M 8 25])
 (.seq (.seq (.region 0 [.M 26 8,
 .o 27 (.eqN true true) [26,.k .aK]])
 (.cond (.t 27) (.seq (.region 0 [.M 28 8,
 .C 4 .bH,
 .M 5 28])
 .ret)
 .skip))
 (.seq (.region 0 [.o 30 (.aU 9) [2],
 .o 31 (.ah DV) [30],
 .M 29 31,
 .o 32 (.ext 0) [29],
 .o 33 (.ext 1) [29],
 .M 9 32,
 .M 8 33])
 (.seq (.seq (.region 0 [.M 34 8,
 .o 35 (.eqN true true) [34,.k .aK]])
 (.cond (.t 35) (.seq (.region 0 [.M 36 8,
 .C 4 .bH,
 .M 5 36])
 .ret)
 .skip))
 (.seq (.region 0 [.C 10 .bH])
 (.seq (.seq (.region 0 [.M 37 9,
 .M 38 7,
 .o 39 (.PL 2 true false) [37,38],
 .o 40 .bM [39],
 .C 41 (.int .i64 0)])
 (.block 0 (.loop [1,2,6,7,10,39,40,41] [1,2,6,7,10] RJ)))
 (.seq (.seq (.region 0 [.o 57 (.aU 9) [2],
 .M 58 1,
 .o 59 (.ah FP) [57,58],
 .M 56 59,
 .o 60 (.ext 0) [56],
 .o 61 (.ext 1) [56],
 .M 15 60,
 .M 16 61])
 (.seq (.region 0 [.M 62 15])
 (.join [4,5,10] (.cond (.t 62) (.seq (.drawn 0 [(0,.o 64 (.aU 9) [2]),
 (1,.M 65 6),
 (2,.M 66 7),
 (3,.o 67 (.bF 2) [65,66]),
 (4,.o 68 (.aU 2) [67]),
 (5,.o 69 (.ah yj) [64,68]),
 (6,.M 63 69),
 (7,.o 70 (.ext 0) [63]),
 (8,.o 71 (.ext 1) [63]),
 (9,.M 17 70),
 (10,.M 18 71)])
 (.seq (.seq (.region 0 [.M 72 18,
 .o 73 (.eqN true true) [72,.k .aK]])
 (.cond (.t 73) (.seq (.region 0 [.M 74 18,
 .C 4 .bH,
 .M 5 74])
 .ret)
 .skip))
 (.region 0 [.M 75 10,
 .M 76 10,
 .o 77 (.bF 1) [76,.ki 0],
 .o 78 .ak [77],
 .M 79 17,
 .o 80 (.ah nR) [78,79],
 .o 81 (.bF 1) [75,.ki 0],
 ⟨.store 1,[81,80],none,none⟩])))
 .skip))))
 (.seq (.region 0 [.M 82 10,
 .M 4 82,
 .C 5 .aK])
 .ret)))))))))⟩
def PS:EF:=⟨[0],[.tmp 2],(.seq (.region 0 [.C 2 .aK])
 (.seq (.seq (.region 0 [.M 3 0,
 .o 4 (.aj .eql) [3,.ki 0]])
 (.cond (.t 4) (.seq (.region 0 [.C 2 .aK])
 .ret)
 .skip))
 (.seq (.region 0 [.M 5 0,
 .o 6 (.Xy lN) [5],
 .M 2 6])
 .ret)))⟩
def Xp:EF:=⟨[0],[.tmp 2],(.seq (.region 0 [.C 2 .aY])
 (.seq (.seq (.region 0 [.M 3 0,
 .o 4 (.aj .lss) [3,.ki 0]])
 (.cond (.t 4) (.seq (.region 0 [.M 5 0,
 .o 6 (.conv .u64) [5],
 .o 7 .neg [6],
 .o 8 (.ah ji) [7],
 .o 9 (.ah jd) [.kb true,8],
 .M 2 9])
 .ret)
 .skip))
 (.seq (.region 0 [.M 10 0,
 .o 11 (.conv .u64) [10],
 .o 12 (.ah ji) [11],
 .o 13 (.ah jd) [.kb false,12],
 .M 2 13])
 .ret)))⟩
def IE:EF:=⟨[0,1],[.tmp 4],(.seq (.region 0 [.C 4 .aY])
 (.seq (.region 0 [.M 11 0,
 .o 12 (.ah dG) [11],
 .o 13 (.aj .lss) [12,.ki 0],
 .M 14 1,
 .o 15 (.ah dG) [14],
 .o 16 (.aj .lss) [15,.ki 0],
 .M 5 13,
 .M 6 16])
 (.seq (.seq (.region 0 [.M 17 5,
 .M 18 6,
 .o 19 (.Zu false) [17,18]])
 (.cond (.t 19) (.seq (.region 0 [.M 20 5,
 .M 21 0,
 .o 22 (.ah bW) [21],
 .M 23 1,
 .o 24 (.ah bW) [23],
 .o 25 (.ah jw) [22,24],
 .o 26 (.ah jd) [20,25],
 .M 4 26])
 .ret)
 .skip))
 (.seq (.seq (.region 0 [.M 27 0,
 .o 28 (.ah bW) [27],
 .M 29 1,
 .o 30 (.ah bW) [29],
 .o 31 (.ah lg) [28,30],
 .o 32 (.aj .lss) [31,.ki 0]])
 (.cond (.t 32) (.seq (.region 0 [.M 34 1,
 .o 35 (.ah bW) [34],
 .M 36 0,
 .o 37 (.ah bW) [36],
 .o 38 (.ah oZ) [35,37],
 .M 33 38,
 .o 39 (.ext 0) [33],
 .o 40 (.ext 1) [33],
 .M 7 39,
 .M 8 40])
 (.seq (.region 0 [.M 41 6,
 .M 42 7,
 .o 43 (.ah jd) [41,42],
 .M 4 43])
 .ret))
 .skip))
 (.seq (.region 0 [.M 45 0,
 .o 46 (.ah bW) [45],
 .M 47 1,
 .o 48 (.ah bW) [47],
 .o 49 (.ah oZ) [46,48],
 .M 44 49,
 .o 50 (.ext 0) [44],
 .o 51 (.ext 1) [44],
 .M 9 50,
 .M 10 51])
 (.seq (.region 0 [.M 52 5,
 .M 53 9,
 .o 54 (.ah jd) [52,53],
 .M 4 54])
 .ret))))))⟩
def UJ:EC:=(.seq (.seq (.region 0 [.M 23 12,
 .o 24 (.aj .geq) [23,.ki 0]])
 (.cond (.t 24) .skip
 (.exit 0)))
 (.seq (.join [1,2,8,9,10,11,12] (.block 1 (.seq (.drawn 0 [(0,.M 27 10),
 (1,.M 28 2),
 (2,.o 29 (.ah bZ) [27,28]),
 (3,.M 30 8),
 (4,.M 31 12),
 (5,.o 32 (.bF 1) [30,31]),
 (6,.o 33 .ak [32]),
 (7,.M 34 11),
 (8,.o 35 (.ah bZ) [33,34]),
 (9,.o 36 (.ah iG) [29,35]),
 (10,.M 10 36)])
 (.seq (.region 0 [.M 37 12,
 .o 38 (.aj .gtr) [37,.ki 0]])
 (.join [1,2,8,9,10,11,12] (.cond (.t 38) (.region 0 [.M 39 11,
 .M 40 1,
 .o 41 (.ah bZ) [39,40],
 .M 11 41])
 .skip))))))
 (.region 0 [.M 25 12,
 .o 26 (.aj .sub) [25,.ki 1],
 .M 12 26])))
def ae7:EF:=⟨[0,1,2],[.tmp 6,.tmp 7],(.seq (.region 0 [.C 6 .aY,
 .C 7 .aY])
 (.seq (.region 0 [.M 14 0,
 .o 15 (.ah Fe) [14],
 .M 13 15,
 .o 16 (.ext 0) [13],
 .o 17 (.ext 1) [13],
 .M 8 16,
 .M 9 17])
 (.seq (.region 0 [.o 18 (.ah jT) [.ki 0],
 .o 19 (.ah jT) [.ki 1],
 .M 10 18,
 .M 11 19])
 (.seq (.seq (.region 0 [.M 20 8,
 .o 21 .bM [20],
 .o 22 (.aj .sub) [21,.ki 1],
 .M 12 22])
 (.block 0 (.loop [1,2,8,9,10,11,12] [9,10,11] UJ)))
 (.seq (.region 0 [.M 42 10,
 .M 43 9,
 .M 44 11,
 .o 45 (.ah bZ) [43,44],
 .M 6 42,
 .M 7 45])
 .ret)))))⟩
def Uu:EF:=⟨[0,1],[.tmp 4,.tmp 5],(.seq (.region 0 [.C 4 .aY,
 .C 5 .aK])
 (.seq (.seq (.region 0 [.M 13 1,
 .o 14 (.ah dG) [13],
 .o 15 (.aj .eql) [14,.ki 0]])
 (.cond (.t 15) (.seq (.region 0 [.o 16 (.ah dB) [.ki 3],
 .C 4 .aY,
 .M 5 16])
 .ret)
 .skip))
 (.seq (.region 0 [.M 17 0,
 .o 18 (.ah bW) [17],
 .M 19 1,
 .o 20 (.ah bW) [19],
 .o 21 (.ah qK) [18,20],
 .M 6 21])
 (.seq (.region 0 [.M 23 0,
 .o 24 (.ah bW) [23],
 .M 25 6,
 .o 26 (.ah jy) [24,25],
 .M 22 26,
 .o 27 (.ext 0) [22],
 .o 28 (.ext 1) [22],
 .o 29 (.ext 2) [22],
 .M 7 27,
 .M 8 28,
 .M 9 29])
 (.seq (.region 0 [.M 31 1,
 .o 32 (.ah bW) [31],
 .M 33 6,
 .o 34 (.ah jy) [32,33],
 .M 30 34,
 .o 35 (.ext 0) [30],
 .o 36 (.ext 1) [30],
 .o 37 (.ext 2) [30],
 .M 10 35,
 .M 11 36,
 .M 12 37])
 (.seq (.region 1 [.M 38 0,
 .o 39 (.ah dG) [38],
 .M 40 1,
 .o 41 (.ah dG) [40],
 .o 42 (.aj .mul) [39,41],
 .o 43 (.aj .lss) [42,.ki 0],
 .M 44 7,
 .o 45 (.ah jd) [43,44],
 .M 46 10,
 .o 47 (.ah jd) [.kb false,46],
 .o 48 (.build [.aY,.aY] [(0,1),(1,1)]) [45,47],
 .o 49 (.box 0) [48],
 .M 4 49,
 .C 5 .aK])
 .ret))))))⟩
def WJ:EC:=(.seq (.region 0 [.o 24 (.aj .lss) [23,22]])
 (.seq (.cond (.t 24) .skip
 (.exit 0))
 (.seq (.block 1 (.seq (.region 0 [.o 25 (.bF 1) [21,23],
 .o 26 .ak [25],
 .M 10 26])
 (.seq (.region 0 [.M 28 8,
 .M 29 10,
 .o 30 (.ah dh) [29],
 .o 31 (.ah rP) [28,30],
 .M 27 31,
 .o 32 (.ext 0) [27],
 .o 33 (.ext 1) [27],
 .M 11 32,
 .M 12 33])
 (.region 0 [.M 34 8,
 .M 35 11,
 .o 36 (.ah dh) [35],
 .o 37 (.ah bZ) [34,36],
 .M 8 37]))))
 (.region 0 [.o 38 (.aj .add) [23,.ki 1],
 .M 23 38]))))
def WL:EC:=(.seq (.seq (.region 0 [.M 45 16,
 .o 46 (.aj .geq) [45,.ki 0]])
 (.cond (.t 46) .skip
 (.exit 2)))
 (.seq (.block 3 (.seq (.region 0 [.M 50 8,
 .M 51 0,
 .M 52 16,
 .o 53 (.bF 1) [51,52],
 .o 54 .ak [53],
 .o 55 (.ah dh) [54],
 .o 56 (.ah Az) [50,55],
 .M 49 56,
 .o 57 (.ext 0) [49],
 .o 58 (.ext 1) [49],
 .o 59 (.ext 2) [49],
 .M 17 57,
 .M 18 58,
 .M 19 59])
 (.seq (.region 0 [.M 60 13,
 .M 61 14,
 .o 62 (.ah iG) [60,61],
 .M 63 2,
 .o 64 (.ah bZ) [62,63],
 .M 13 64])
 (.seq (.drawn 0 [(0,.M 65 14),
 (1,.M 66 2),
 (2,.o 67 (.ah bZ) [65,66]),
 (3,.M 68 0),
 (4,.M 69 16),
 (5,.o 70 (.bF 1) [68,69]),
 (6,.o 71 .ak [70]),
 (7,.o 72 (.ah dI) [71]),
 (8,.M 73 17),
 (9,.o 74 (.ah bZ) [72,73]),
 (10,.M 75 15),
 (11,.o 76 (.ah bZ) [74,75]),
 (12,.o 77 (.ah iG) [67,76]),
 (13,.M 14 77)])
 (.region 0 [.M 78 15,
 .M 79 1,
 .o 80 (.ah bZ) [78,79],
 .M 15 80])))))
 (.region 0 [.M 47 16,
 .o 48 (.aj .sub) [47,.ki 1],
 .M 16 48])))
def ahX:EF:=⟨[0,1,2],[.tmp 6,.tmp 7],(.seq (.region 0 [.C 6 .aY,
 .C 7 .aY])
 (.seq (.region 0 [.o 20 (.ah jT) [.ki 1],
 .M 8 20])
 (.seq (.seq (.region 0 [.M 21 0,
 .o 22 .bM [21],
 .C 23 (.int .i64 0)])
 (.block 0 (.loop [0,1,2,8,21,22,23] [0,1,2,8] WJ)))
 (.seq (.region 0 [.o 39 (.ah jT) [.ki 0],
 .o 40 (.ah jT) [.ki 0],
 .o 41 (.ah jT) [.ki 1],
 .M 13 39,
 .M 14 40,
 .M 15 41])
 (.seq (.seq (.region 0 [.M 42 0,
 .o 43 .bM [42],
 .o 44 (.aj .sub) [43,.ki 1],
 .M 16 44])
 (.block 2 (.loop [0,1,2,8,13,14,15,16] [13,14] WL)))
 (.seq (.region 0 [.M 81 13,
 .M 82 14,
 .M 6 81,
 .M 7 82])
 .ret))))))⟩
def UY:EC:=(.seq (.region 0 [.o 37 (.aj .lss) [36,35]])
 (.seq (.cond (.t 37) .skip
 (.exit 0))
 (.seq (.block 1 (.seq (.region 1 [.o 38 (.bF 2) [34,36],
 .o 39 (.aU 2) [38],
 .o 12 (.alloc 0 [.int .i64 0,.str []]) [],
 ⟨.store 2,[12,39],none,none⟩])
 (.seq (.region 0 [.o 41 (.aC 1) [12],
 .o 42 .ak [41],
 .o 43 (.ah Qy) [42],
 .M 40 43,
 .o 44 (.ext 0) [40],
 .o 45 (.ext 1) [40],
 .M 13 44,
 .M 14 45])
 (.region 1 [.M 46 10,
 .M 47 13,
 .o 48 (.Em 1 1 [.aY] [(0,1)]) [47],
 .o 49 (.app 0 1) [46,48],
 .M 10 49]))))
 (.region 0 [.o 50 (.aj .add) [36,.ki 1],
 .M 36 50]))))
def ae8:EF:=⟨[0,1],[.tmp 4],(.seq (.region 1 [.o 2 (.box 0) [0],
 .C 4 .bH])
 (.seq (.region 0 [.o 20 (.aU 9) [2],
 .o 21 (.ah tV) [20],
 .M 19 21,
 .o 22 (.ext 0) [19],
 .o 23 (.ext 1) [19],
 .M 5 22,
 .M 6 23])
 (.seq (.region 0 [.o 25 (.aU 9) [2],
 .o 26 (.ah DV) [25],
 .M 24 26,
 .o 27 (.ext 0) [24],
 .o 28 (.ext 1) [24],
 .M 7 27,
 .M 8 28])
 (.seq (.region 0 [.M 29 5,
 .M 30 1,
 .o 31 (.ah DX) [29,30],
 .M 9 31])
 (.seq (.region 0 [.C 10 .bH])
 (.seq (.seq (.region 0 [.M 32 7,
 .M 33 9,
 .o 34 (.PL 2 true false) [32,33],
 .o 35 .bM [34],
 .C 36 (.int .i64 0)])
 (.block 0 (.loop [1,2,5,9,10,34,35,36] [1,2,5,9,10] UY)))
 (.seq (.seq (.region 0 [.o 52 (.aU 9) [2],
 .M 53 1,
 .o 54 (.ah FP) [52,53],
 .M 51 54,
 .o 55 (.ext 0) [51],
 .o 56 (.ext 1) [51],
 .M 15 55,
 .M 16 56])
 (.seq (.region 0 [.M 57 15])
 (.join [10] (.cond (.t 57) (.seq (.drawn 0 [(0,.o 59 (.aU 9) [2]),
 (1,.M 60 5),
 (2,.M 61 9),
 (3,.o 62 (.bF 2) [60,61]),
 (4,.o 63 (.aU 2) [62]),
 (5,.o 64 (.ah yj) [59,63]),
 (6,.M 58 64),
 (7,.o 65 (.ext 0) [58]),
 (8,.o 66 (.ext 1) [58]),
 (9,.M 17 65),
 (10,.M 18 66)])
 (.region 0 [.M 67 10,
 .M 68 10,
 .o 69 (.bF 1) [68,.ki 0],
 .o 70 .ak [69],
 .M 71 17,
 .o 72 (.ah nR) [70,71],
 .o 73 (.bF 1) [67,.ki 0],
 ⟨.store 1,[73,72],none,none⟩]))
 .skip))))
 (.seq (.region 0 [.M 74 10,
 .M 4 74])
 .ret))))))))⟩
def ape:EF:=⟨[0,1],[.tmp 4],(.seq (.region 0 [.C 4 .aY])
 (.seq (.region 0 [.M 8 0,
 .M 9 1,
 .o 10 (.ah lV) [8,9],
 .M 7 10,
 .o 11 (.ext 0) [7],
 .o 12 (.ext 1) [7],
 .M 5 11,
 .M 6 12])
 (.seq (.region 0 [.M 13 5,
 .M 4 13])
 .ret)))⟩
def YO:EF:=⟨[],[.tmp 0],(.seq (.region 0 [.C 0 (.bool false)])
 (.seq (.region 0 [.o 17 (.build [.int .i64 0,.int .i64 0,.int .i64 0] [(0,1),(1,1),(2,1)]) [.ki 2000,.ki 2,.ki 29],
 .o 18 (.ah xK) [17],
 .M 16 18,
 .o 19 (.ext 0) [16],
 .o 20 (.ext 1) [16],
 .M 1 19,
 .M 2 20])
 (.seq (.region 1 [.M 22 1,
 .o 23 (.ah gZ) [22],
 .M 21 23,
 .o 24 (.ext 0) [21],
 .o 25 (.ext 1) [21],
 .o 3 (.alloc 0 [.int .i64 0,.int .i64 0,.int .i64 0]) [],
 ⟨.store 3,[3,24],none,none⟩,
 .M 4 25])
 (.seq (.region 0 [.M 27 1,
 .o 28 (.ah qo) [27,.ki 12,.kb false],
 .M 26 28,
 .o 29 (.ext 0) [26],
 .o 30 (.ext 1) [26],
 .M 5 29,
 .M 6 30])
 (.seq (.region 0 [.o 32 (.ah y7) [.ki 2024],
 .M 31 32,
 .o 33 (.ext 0) [31],
 .o 34 (.ext 1) [31],
 .M 7 33,
 .M 8 34])
 (.seq (.region 1 [.o 35 (.build [.int .i64 0,.int .i64 0,.int .i64 0,.int .i64 0,.int .i64 0,.bool false] [(0,1),(1,1),(2,1)]) [.ki 1,.ki 1,.ki 1],
 .o 9 (.alloc 0 [.int .i64 0,.int .i64 0,.int .i64 0,.int .i64 0,.int .i64 0,.bool false]) [],
 ⟨.store 6,[9,35],none,none⟩])
 (.seq (.region 0 [.o 37 (.aU 6) [9],
 .o 38 (.Em 6 1 [.int .i64 0,.int .i64 0,.int .i64 0,.int .i64 0,.int .i64 0,.bool false] [(0,6)]) [37],
 .o 39 (.ah FU) [38,.k (.sl 0 [])],
 .M 36 39,
 .o 40 (.ext 0) [36],
 .o 41 (.ext 1) [36],
 .M 10 40,
 .M 11 41])
 (.seq (.seq (.region 0 [.M 42 10,
 .o 43 (.yV false) [42,.k .aY]])
 (.cond (.t 43) (.seq (.region 0 [.C 0 (.bool false)])
 .ret)
 .skip))
 (.seq (.region 0 [.M 45 10,
 .o 46 (.ah RY) [45,.ki 0,.ki 1],
 .M 44 46,
 .o 47 (.ext 0) [44],
 .o 48 (.ext 1) [44],
 .M 12 47,
 .M 13 48])
 (.seq (.region 0 [.o 50 (.ah sS) [],
 .M 51 1,
 .M 52 5,
 .o 53 (.ah wK) [50,51,52,.ki 0,.ki 0,.ki 0],
 .M 49 53,
 .o 54 (.ext 0) [49],
 .o 55 (.ext 1) [49],
 .M 14 54,
 .M 15 55])
 (.seq (.seq (.region 0 [.M 56 14,
 .o 57 (.yV false) [56,.k .aY]])
 (.cond (.t 57) (.seq (.region 0 [.C 0 (.bool false)])
 .ret)
 .skip))
 (.seq (.region 0 [.o 58 (.ah wz) [],
 .M 59 58,
 .g 59 true 60 .aT [2],
 .g 59 true 61 (.eqN false true) [60,.k .aK],
 .o 62 .pick [59,61,.kb false],
 .M 63 62,
 .g 63 true 64 .aT [4],
 .g 63 true 65 (.eqN false true) [64,.k .aK],
 .o 66 .pick [63,65,.kb false],
 .M 67 66,
 .g 67 true 68 (.aC 2) [3],
 .g 67 true 69 .ak [68],
 .g 67 true 70 (.aj .eql) [69,.ki 29],
 .o 71 .pick [67,70,.kb false],
 .M 72 71,
 .g 72 true 73 .aT [1],
 .g 72 true 74 (.ah ES) [73],
 .g 72 true 75 (.gq .eql) [74,.k (.str [50,48,48,48,45,48,50,45,50,57])],
 .o 76 .pick [72,75,.kb false],
 .M 77 76,
 .g 77 true 78 .aT [6],
 .g 77 true 79 (.eqN false true) [78,.k .aK],
 .o 80 .pick [77,79,.kb false],
 .M 81 80,
 .g 81 true 82 .aT [5],
 .g 81 true 83 (.ah ES) [82],
 .g 81 true 84 (.gq .eql) [83,.k (.str [50,48,48,49,45,48,50,45,50,56])],
 .o 85 .pick [81,84,.kb false],
 .M 86 85,
 .g 86 true 87 .aT [8],
 .g 86 true 88 (.eqN false true) [87,.k .aK],
 .o 89 .pick [86,88,.kb false],
 .M 90 89,
 .g 90 true 91 .aT [7],
 .g 90 true 92 (.ah ES) [91],
 .g 90 true 93 (.gq .eql) [92,.k (.str [50,48,50,52,45,48,51,45,51,49])],
 .o 94 .pick [90,93,.kb false],
 .M 95 94,
 .g 95 true 96 .aT [11],
 .g 95 true 97 (.eqN false true) [96,.k .aK],
 .o 98 .pick [95,97,.kb false],
 .M 99 98,
 .g 99 true 100 .aT [10],
 .g 99 true 101 (.ah xX) [100,.ki 0],
 .g 99 true 102 .not [101],
 .o 103 .pick [99,102,.kb false],
 .M 104 103,
 .g 104 true 105 .aT [10],
 .g 104 true 106 (.ah xX) [105,.ki 1],
 .o 107 .pick [104,106,.kb false],
 .M 108 107,
 .g 108 true 109 .aT [13],
 .g 108 true 110 (.eqN false true) [109,.k .aK],
 .o 111 .pick [108,110,.kb false],
 .M 112 111,
 .g 112 true 113 .aT [12],
 .g 112 true 114 (.aj .eql) [113,.ki 1],
 .o 115 .pick [112,114,.kb false],
 .M 116 115,
 .g 116 true 117 .aT [15],
 .g 116 true 118 (.eqN false true) [117,.k .aK],
 .o 119 .pick [116,118,.kb false],
 .M 120 119,
 .g 120 true 121 .aT [14],
 .g 120 true 122 (.ah gK) [121],
 .g 120 true 123 (.gq .eql) [122,.k (.str [51,53,57,47,51,54,48])],
 .o 124 .pick [120,123,.kb false],
 .M 125 124,
 .g 125 true 126 (.ah fF) [.ki 0],
 .g 125 true 127 (.aj .eql) [126,.ki 1],
 .o 128 .pick [125,127,.kb false],
 .M 129 128,
 .g 129 true 130 (.aU 6) [9],
 .g 129 true 131 (.ah Wp) [130,.ki 0],
 .o 132 .pick [129,131,.kb false],
 .M 133 132,
 .g 133 true 134 .aT [1],
 .g 133 true 135 (.ah wV) [134],
 .o 136 .pick [133,135,.kb false],
 .M 137 136,
 .g 137 true 138 .aT [10],
 .g 137 true 139 (.Em 1 2 [.aY] [(0,1),(1,1)]) [138,.k .aY],
 .g 137 true 140 (.ah Jf) [139],
 .g 137 true 141 (.yV true) [140,.k .aY],
 .o 142 .pick [137,141,.kb false],
 .M 0 142])
 .ret))))))))))))⟩
def Nv:EF:=⟨[0],[.tmp 2],(.seq (.region 1 [.o 1 (.box 0) [0],
 .C 2 .aK])
 (.seq (.block 0 (.seq (.region 0 [.o 6 (.aC 0) [1],
 .o 7 .ak [6],
 .o 8 (.ah fF) [7],
 .o 9 (.aj .lss) [8,.ki 0],
 .M 5 9])
 (.cond (.t 5) (.seq (.region 0 [.o 10 (.ah iw) [.ki 4,.k (.str [105,115,115,117,101])],
 .M 2 10])
 .ret)
 (.seq (.region 0 [.o 12 (.aC 1) [1],
 .o 13 .ak [12],
 .o 14 (.ah fF) [13],
 .o 15 (.aj .lss) [14,.ki 0],
 .M 11 15])
 (.cond (.t 11) (.seq (.region 0 [.o 16 (.ah iw) [.ki 4,.k (.str [109,97,116,117,114,101])],
 .M 2 16])
 .ret)
 (.seq (.region 0 [.o 18 (.aC 1) [1],
 .o 19 .ak [18],
 .o 20 (.aC 0) [1],
 .o 21 .ak [20],
 .o 22 (.aj .leq) [19,21],
 .M 17 22])
 (.cond (.t 17) (.seq (.region 0 [.o 23 (.ah iw) [.ki 5,.k (.str [109,97,116,117,114,101])],
 .M 2 23])
 .ret)
 .skip)))))))
 (.seq (.seq (.region 0 [.o 25 (.aC 0) [1],
 .o 26 .ak [25],
 .o 27 (.ah qo) [26,.ki 360,.kb false],
 .M 24 27,
 .o 28 (.ext 0) [24],
 .o 29 (.ext 1) [24],
 .M 3 28,
 .M 4 29])
 (.seq (.region 0 [.M 30 4,
 .o 31 (.eqN false true) [30,.k .aK],
 .M 32 31,
 .g 32 true 33 (.aC 1) [1],
 .g 32 true 34 .ak [33],
 .g 32 true 35 .aT [3],
 .g 32 true 36 (.aj .gtr) [34,35],
 .o 37 .pick [32,36,.kb false]])
 (.cond (.t 37) (.seq (.region 0 [.o 38 (.ah iw) [.ki 5,.k (.str [109,97,116,117,114,101])],
 .M 2 38])
 .ret)
 .skip)))
 (.seq (.region 0 [.C 2 .aK])
 .ret))))⟩
def Nw:EF:=⟨[0],[.tmp 2],(.seq (.region 1 [.o 1 (.box 0) [0],
 .C 2 .aK])
 (.seq (.region 0 [.o 7 (.aC 3) [1],
 .o 8 .ak [7],
 .o 9 (.ah t_) [8],
 .M 6 9,
 .o 10 (.ext 0) [6],
 .o 11 (.ext 1) [6],
 .o 12 (.ext 2) [6],
 .M 3 10,
 .M 4 11,
 .M 5 12])
 (.seq (.block 0 (.seq (.region 0 [.M 14 5,
 .o 15 (.eqN true true) [14,.k .aK],
 .M 13 15])
 (.cond (.t 13) (.seq (.region 0 [.o 16 (.ah iw) [.ki 1,.k (.str [99,111,117,112,111,110])],
 .M 2 16])
 .ret)
 (.seq (.region 0 [.M 18 4,
 .o 19 .not [18],
 .M 20 19,
 .g 20 false 21 .aT [3],
 .g 20 false 22 (.ah jU) [21],
 .g 20 false 23 (.aj .lss) [22,.ki 0],
 .o 24 .pick [20,.kb true,23],
 .M 25 24,
 .g 25 false 26 .aT [3],
 .g 25 false 27 (.ah uS) [.ki 30],
 .g 25 false 28 (.ah lC) [26,27],
 .g 25 false 29 (.aj .gtr) [28,.ki 0],
 .o 30 .pick [25,.kb true,29],
 .M 17 30])
 (.cond (.t 17) (.seq (.region 0 [.o 31 (.ah iw) [.ki 5,.k (.str [99,111,117,112,111,110])],
 .M 2 31])
 .ret)
 .skip)))))
 (.seq (.region 0 [.o 33 (.aC 4) [1],
 .o 34 .ak [33],
 .o 35 (.ah t_) [34],
 .M 32 35,
 .o 36 (.ext 0) [32],
 .o 37 (.ext 1) [32],
 .o 38 (.ext 2) [32],
 .M 3 36,
 .M 4 37,
 .M 5 38])
 (.seq (.block 1 (.seq (.region 0 [.M 40 5,
 .o 41 (.eqN true true) [40,.k .aK],
 .M 39 41])
 (.cond (.t 39) (.seq (.region 0 [.o 42 (.ah iw) [.ki 1,.k (.str [114,101,100,101,101,109])],
 .M 2 42])
 .ret)
 (.seq (.region 0 [.M 44 4,
 .o 45 .not [44],
 .M 46 45,
 .g 46 false 47 .aT [3],
 .g 46 false 48 (.ah jU) [47],
 .g 46 false 49 (.aj .leq) [48,.ki 0],
 .o 50 .pick [46,.kb true,49],
 .M 51 50,
 .g 51 false 52 .aT [3],
 .g 51 false 53 (.ah uS) [.ki 200],
 .g 51 false 54 (.ah lC) [52,53],
 .g 51 false 55 (.aj .gtr) [54,.ki 0],
 .o 56 .pick [51,.kb true,55],
 .M 43 56])
 (.cond (.t 43) (.seq (.region 0 [.o 57 (.ah iw) [.ki 5,.k (.str [114,101,100,101,101,109])],
 .M 2 57])
 .ret)
 .skip)))))
 (.seq (.region 0 [.C 2 .aK])
 .ret))))))⟩
def Ny:EF:=⟨[0],[.tmp 2],(.seq (.region 0 [.C 2 (.bool false)])
 (.seq (.region 0 [.M 3 0,
 .o 4 (.aj .geq) [3,.ki 1],
 .M 5 4,
 .g 5 true 6 .aT [0],
 .g 5 true 7 (.aj .leq) [6,.ki 4],
 .o 8 .pick [5,7,.kb false],
 .M 2 8])
 .ret))⟩
def Eo:EF:=⟨[0,1],[.tmp 4],(.seq (.region 0 [.C 4 (.int .i64 0)])
 (.seq (.region 1 [.M 10 0,
 .o 11 (.ah gZ) [10],
 .M 9 11,
 .o 12 (.ext 0) [9],
 .o 13 (.ext 1) [9],
 .o 5 (.alloc 0 [.int .i64 0,.int .i64 0,.int .i64 0]) [],
 ⟨.store 3,[5,12],none,none⟩,
 .M 6 13])
 (.seq (.region 1 [.M 15 1,
 .o 16 (.ah gZ) [15],
 .M 14 16,
 .o 17 (.ext 0) [14],
 .o 18 (.ext 1) [14],
 .o 7 (.alloc 0 [.int .i64 0,.int .i64 0,.int .i64 0]) [],
 ⟨.store 3,[7,17],none,none⟩,
 .M 8 18])
 (.seq (.seq (.region 0 [.M 19 6,
 .o 20 (.eqN true true) [19,.k .aK],
 .M 21 20,
 .g 21 false 22 .aT [8],
 .g 21 false 23 (.eqN true true) [22,.k .aK],
 .o 24 .pick [21,.kb true,23]])
 (.cond (.t 24) (.seq (.region 0 [.C 4 (.int .i64 0)])
 .ret)
 .skip))
 (.seq (.region 0 [.o 25 (.aC 0) [7],
 .o 26 .ak [25],
 .o 27 (.aC 0) [5],
 .o 28 .ak [27],
 .o 29 (.aj .sub) [26,28],
 .o 30 (.aj .mul) [29,.ki 12],
 .o 31 (.aC 1) [7],
 .o 32 .ak [31],
 .o 33 (.aj .add) [30,32],
 .o 34 (.aC 1) [5],
 .o 35 .ak [34],
 .o 36 (.aj .sub) [33,35],
 .M 4 36])
 .ret)))))⟩
def Uf:EF:=⟨[0],[.tmp 2],(.seq (.region 0 [.C 2 .aY])
 (.seq (.region 0 [.M 6 0,
 .o 7 (.ah lV) [6,.ki 1],
 .M 5 7,
 .o 8 (.ext 0) [5],
 .o 9 (.ext 1) [5],
 .M 3 8,
 .M 4 9])
 (.seq (.region 0 [.M 10 3,
 .M 2 10])
 .ret)))⟩
def KA:EF:=⟨[0],[.tmp 2,.tmp 3,.tmp 4],(.seq (.region 0 [.C 2 .aY,
 .C 3 (.bool false),
 .C 4 .aK])
 (.seq (.region 0 [.M 9 0,
 .o 10 (.ah y5) [9],
 .M 8 10,
 .o 11 (.ext 0) [8],
 .o 12 (.ext 1) [8],
 .o 13 (.ext 2) [8],
 .M 5 11,
 .M 6 12,
 .M 7 13])
 (.seq (.region 0 [.M 14 5,
 .M 15 6,
 .o 16 (.aj .leq) [15,.ki 6],
 .M 17 7,
 .M 2 14,
 .M 3 16,
 .M 4 17])
 .ret)))⟩
def fK:EC:=(.seq (.region 0 [.o 9 (.aj .lss) [8,7]])
 (.seq (.cond (.t 9) .skip
 (.exit 0))
 (.seq (.block 1 (.seq (.region 0 [.M 10 8,
 .M 5 10])
 (.seq (.region 0 [.M 11 1,
 .M 12 0,
 .M 13 5,
 .o 14 (.bF 2) [12,13],
 .o 15 (.aU 2) [14],
 .o 16 .FW [11,15]])
 (.cond (.t 16) (.seq (.region 0 [.M 17 5,
 .M 4 17])
 .ret)
 .skip))))
 (.region 0 [.o 18 (.aj .add) [8,.ki 1],
 .M 8 18]))))
def mD:EF:=⟨[0,1],[.tmp 4],(.seq (.region 0 [.C 4 (.int .i64 0)])
 (.seq (.seq (.region 0 [.M 6 0,
 .o 7 .bM [6],
 .C 8 (.int .i64 0)])
 (.block 0 (.loop [0,1,7,8] [4] fK)))
 (.seq (.region 0 [.C 4 (.int .i64 (-1))])
 .ret)))⟩
def NS:EF:=⟨[0,1],[.tmp 3],(.seq (.region 1 [.o 2 (.box 0) [0],
 .C 3 (.bool false)])
 (.seq (.region 0 [.o 4 (.aC 0) [2],
 .o 5 .ak [4],
 .o 6 .ak [1],
 .o 7 (.aj .leq) [5,6],
 .M 8 7,
 .g 8 true 9 .ak [1],
 .g 8 true 10 (.aC 1) [2],
 .g 8 true 11 .ak [10],
 .g 8 true 12 (.aj .lss) [9,11],
 .o 13 .pick [8,12,.kb false],
 .M 3 13])
 .ret))⟩
def CP:EF:=⟨[0],[.tmp 2],(.seq (.region 0 [.C 2 (.bool false)])
 (.seq (.region 0 [.M 3 0,
 .o 4 (.aj .geq) [3,.ki 0],
 .M 5 4,
 .g 5 true 6 .aT [0],
 .g 5 true 7 (.aj .leq) [6,.ki 109572],
 .o 8 .pick [5,7,.kb false],
 .M 2 8])
 .ret))⟩
def fH:EC:=(.seq (.seq (.region 0 [.M 28 1,
 .o 29 (.aj .gtr) [28,.ki 0]])
 (.cond (.t 29) .skip
 (.exit 0)))
 (.seq (.join [1,8,9] (.block 1 (.seq (.region 0 [.o 32 (.aC 1) [8],
 .o 33 .ak [32],
 .o 34 (.aj .add) [33,.ki 1],
 .o 35 (.aC 1) [8],
 ⟨.store 1,[35,34],none,none⟩])
 (.seq (.region 0 [.o 36 (.aC 1) [8],
 .o 37 .ak [36],
 .o 38 (.aj .gtr) [37,.ki 12]])
 (.join [1,8,9] (.cond (.t 38) (.region 0 [.o 39 (.aC 0) [8],
 .o 40 .ak [39],
 .o 41 (.aj .add) [40,.ki 1],
 .o 42 (.aC 0) [8],
 ⟨.store 1,[42,41],none,none⟩,
 .o 43 (.aC 1) [8],
 ⟨.store 1,[43,.ki 1],none,none⟩])
 .skip))))))
 (.region 0 [.M 30 1,
 .o 31 (.aj .sub) [30,.ki 1],
 .M 1 31])))
def gV:EC:=(.seq (.seq (.region 0 [.M 44 1,
 .o 45 (.aj .lss) [44,.ki 0]])
 (.cond (.t 45) .skip
 (.exit 2)))
 (.seq (.join [1,8,9] (.block 3 (.seq (.region 0 [.o 48 (.aC 1) [8],
 .o 49 .ak [48],
 .o 50 (.aj .sub) [49,.ki 1],
 .o 51 (.aC 1) [8],
 ⟨.store 1,[51,50],none,none⟩])
 (.seq (.region 0 [.o 52 (.aC 1) [8],
 .o 53 .ak [52],
 .o 54 (.aj .lss) [53,.ki 1]])
 (.join [1,8,9] (.cond (.t 54) (.region 0 [.o 55 (.aC 0) [8],
 .o 56 .ak [55],
 .o 57 (.aj .sub) [56,.ki 1],
 .o 58 (.aC 0) [8],
 ⟨.store 1,[58,57],none,none⟩,
 .o 59 (.aC 1) [8],
 ⟨.store 1,[59,.ki 12],none,none⟩])
 .skip))))))
 (.region 0 [.M 46 1,
 .o 47 (.aj .add) [46,.ki 1],
 .M 1 47])))
def sJ:EF:=⟨[0,1,2],[.tmp 6,.tmp 7],(.seq (.region 0 [.C 6 (.int .i64 0),
 .C 7 (.bool false)])
 (.seq (.seq (.region 0 [.M 10 0,
 .o 11 (.ah fB) [10],
 .o 12 .not [11],
 .M 13 12,
 .g 13 false 14 .aT [1],
 .g 13 false 15 (.aj .lss) [14,.ki (-3600)],
 .o 16 .pick [13,.kb true,15],
 .M 17 16,
 .g 17 false 18 .aT [1],
 .g 17 false 19 (.aj .gtr) [18,.ki 3600],
 .o 20 .pick [17,.kb true,19]])
 (.cond (.t 20) (.seq (.region 0 [.C 6 (.int .i64 0),
 .C 7 (.bool false)])
 .ret)
 .skip))
 (.seq (.region 1 [.M 21 0,
 .o 22 (.ah gB) [21],
 .o 8 (.alloc 0 [.int .i64 0,.int .i64 0,.int .i64 0]) [],
 ⟨.store 3,[8,22],none,none⟩])
 (.seq (.region 0 [.M 23 2,
 .M 24 23,
 .g 24 true 25 .aT [0],
 .g 24 true 26 (.ah pX) [25],
 .o 27 .pick [24,26,.kb false],
 .M 9 27])
 (.seq (.block 0 (.loop [1,8,9] [1,8,9] fH))
 (.seq (.block 2 (.loop [1,8,9] [8,9] gV))
 (.seq (.seq (.drawn 0 [(0,.M 60 9),
 (1,.M 61 60),
 (2,.g 61 false 62 (.aC 2) [8]),
 (3,.g 61 false 63 .ak [62]),
 (4,.g 61 false 64 (.aC 0) [8]),
 (5,.g 61 false 65 .ak [64]),
 (6,.g 61 false 66 (.aC 1) [8]),
 (7,.g 61 false 67 .ak [66]),
 (8,.g 61 false 68 (.ah fC) [65,67]),
 (9,.g 61 false 69 (.aj .gtr) [63,68]),
 (10,.o 70 .pick [61,.kb true,69])])
 (.join [8] (.cond (.t 70) (.region 0 [.o 71 (.aC 0) [8],
 .o 72 .ak [71],
 .o 73 (.aC 1) [8],
 .o 74 .ak [73],
 .o 75 (.ah fC) [72,74],
 .o 76 (.aC 2) [8],
 ⟨.store 1,[76,75],none,none⟩])
 .skip)))
 (.seq (.region 0 [.o 77 (.aU 3) [8],
 .o 78 (.ah og) [77],
 .o 79 (.ext 0) [78],
 .o 80 (.ext 1) [78],
 .M 6 79,
 .M 7 80])
 .ret))))))))⟩
def uX:EF:=⟨[0],[.tmp 2],(.seq (.region 1 [.o 1 (.box 0) [0],
 .C 2 (.int .i64 0)])
 (.seq (.seq (.region 0 [.o 3 (.aC 2) [1],
 .o 4 .ak [3]])
 (.join [2] (.block 0 (.seq (.seq (.region 0 [.o 6 (.aj .eql) [4,.ki 1],
 .M 5 6])
 (.join [1,5] (.cond (.t 5) .skip
 (.seq (.region 0 [.o 7 (.aj .eql) [4,.ki 2],
 .M 5 7])
 (.join [1,5] (.cond (.t 5) .skip
 (.seq (.region 0 [.o 8 (.aj .eql) [4,.ki 4],
 .M 5 8])
 (.join [1,5] (.cond (.t 5) .skip
 (.region 0 [.o 9 (.aj .eql) [4,.ki 12],
 .M 5 9]))))))))))
 (.cond (.t 5) (.seq (.region 0 [.o 10 (.aC 2) [1],
 .o 11 .ak [10],
 .o 12 (.aj .quo) [.ki 12,11],
 .M 2 12])
 .ret)
 .skip)))))
 (.seq (.region 0 [.C 2 (.int .i64 0)])
 .ret)))⟩
def uZ:EF:=⟨[0,1,2,3],[.cell 8 true 3,.tmp 9],(.seq (.region 1 [.o 8 (.alloc 0 [.bool false,.sl 0 [],.sl 0 []]) [],
 .C 9 (.int .i64 0)])
 (.seq (.region 1 [.M 15 0,
 .o 16 (.ah mX) [15],
 .M 14 16,
 .o 17 (.ext 0) [14],
 .o 18 (.ext 1) [14],
 .o 19 (.ext 2) [14],
 .o 10 (.alloc 0 [.bool false,.sl 0 [],.sl 0 []]) [],
 ⟨.store 3,[10,17],none,none⟩,
 .M 11 18,
 .M 12 19])
 (.seq (.seq (.region 0 [.M 20 12,
 .o 21 .not [20]])
 (.cond (.t 21) (.seq (.region 0 [.o 22 (.ah iy) [.ki 0],
 ⟨.store 3,[8,22],none,none⟩,
 .C 9 (.int .i64 1)])
 .ret)
 .skip))
 (.seq (.drawn 0 [(0,.o 23 (.aU 3) [10]),
 (1,.M 24 1),
 (2,.o 25 (.ah iy) [24]),
 (3,.o 26 (.ah lI) [23,25]),
 (4,.M 13 26)])
 (.seq (.seq (.drawn 0 [(0,.M 27 11),
 (1,.o 28 (.aj .gtr) [27,.ki 6]),
 (2,.M 29 28),
 (3,.g 29 false 30 .aT [13]),
 (4,.g 29 false 31 (.aj .lss) [30,.ki 0]),
 (5,.o 32 .pick [29,.kb true,31]),
 (6,.M 33 32),
 (7,.g 33 false 34 .aT [13]),
 (8,.g 33 false 35 (.aj .eql) [34,.ki 0]),
 (9,.g 33 false 36 .aT [35]),
 (10,.g 36 true 37 .aT [3]),
 (11,.g 36 true 38 .not [37]),
 (12,.g 33 false 39 .pick [36,38,.kb false]),
 (13,.o 40 .pick [33,.kb true,39]),
 (14,.M 41 40),
 (15,.g 41 false 42 (.aU 3) [10]),
 (16,.g 41 false 43 .aT [2]),
 (17,.g 41 false 44 (.ah iy) [43]),
 (18,.g 41 false 45 (.ah lI) [42,44]),
 (19,.g 41 false 46 (.aj .gtr) [45,.ki 0]),
 (20,.o 47 .pick [41,.kb true,46])])
 (.cond (.t 47) (.seq (.region 0 [.o 48 (.ah iy) [.ki 0],
 ⟨.store 3,[8,48],none,none⟩,
 .C 9 (.int .i64 5)])
 .ret)
 .skip))
 (.seq (.region 0 [.o 49 (.aU 3) [10],
 ⟨.store 3,[8,49],none,none⟩,
 .C 9 (.int .i64 0)])
 .ret))))))⟩
def u_:EF:=⟨[0,1],[.tmp 4],(.seq (.region 0 [.C 4 (.int .i64 0)])
 (.seq (.seq (.region 0 [.M 7 0,
 .o 8 (.ah fB) [7],
 .o 9 .not [8],
 .M 10 9,
 .g 10 false 11 .aT [1],
 .g 10 false 12 (.ah fB) [11],
 .g 10 false 13 .not [12],
 .o 14 .pick [10,.kb true,13]])
 (.cond (.t 14) (.seq (.region 0 [.C 4 (.int .i64 0)])
 .ret)
 .skip))
 (.seq (.region 2 [.M 15 0,
 .o 16 (.ah gB) [15],
 .M 17 1,
 .o 18 (.ah gB) [17],
 .o 5 (.alloc 0 [.int .i64 0,.int .i64 0,.int .i64 0]) [],
 .o 6 (.alloc 1 [.int .i64 0,.int .i64 0,.int .i64 0]) [],
 ⟨.store 3,[5,16],none,none⟩,
 ⟨.store 3,[6,18],none,none⟩])
 (.seq (.region 0 [.o 19 (.aC 0) [6],
 .o 20 .ak [19],
 .o 21 (.aC 0) [5],
 .o 22 .ak [21],
 .o 23 (.aj .sub) [20,22],
 .o 24 (.aj .mul) [.ki 12,23],
 .o 25 (.aC 1) [6],
 .o 26 .ak [25],
 .o 27 (.aj .add) [24,26],
 .o 28 (.aC 1) [5],
 .o 29 .ak [28],
 .o 30 (.aj .sub) [27,29],
 .M 4 30])
 .ret))))⟩
def zD:EF:=⟨[0,1],[.cell 4 true 3,.tmp 5],(.seq (.region 3 [.o 2 (.box 0) [0],
 .o 3 (.box 1) [1],
 .o 4 (.alloc 2 [.bool false,.sl 0 [],.sl 0 []]) [],
 .C 5 (.bool false)])
 (.seq (.seq (.region 0 [.o 8 (.aU 9) [2],
 .o 9 (.aU 2) [3],
 .o 10 (.ah kQ) [8,9]])
 (.cond (.t 10) (.seq (.drawn 0 [(0,.o 11 (.aU 9) [2]),
 (1,.o 12 (.ah jI) [11]),
 (2,.o 13 (.aC 2) [2]),
 (3,.o 14 .ak [13]),
 (4,.o 15 (.ah iL) [.ki 1,14]),
 (5,.o 16 (.ah ny) [12,15]),
 (6,⟨.store 3,[4,16],none,none⟩),
 (7,.C 5 (.bool true))])
 .ret)
 .skip))
 (.seq (.region 1 [.o 18 (.aU 9) [2],
 .o 19 (.aU 2) [3],
 .o 20 (.aC 0) [3],
 .o 21 .ak [20],
 .o 22 (.aC 1) [3],
 .o 23 .ak [22],
 .o 24 (.ah lH) [18,19,21,23],
 .M 17 24,
 .o 25 (.ext 0) [17],
 .o 26 (.ext 1) [17],
 .o 6 (.alloc 0 [.bool false,.sl 0 [],.sl 0 []]) [],
 ⟨.store 3,[6,25],none,none⟩,
 .M 7 26])
 (.seq (.drawn 0 [(0,.o 27 (.aU 9) [2]),
 (1,.o 28 (.ah jI) [27]),
 (2,.o 29 (.aU 3) [6]),
 (3,.o 30 (.ah ny) [28,29]),
 (4,.M 31 7),
 (5,⟨.store 3,[4,30],none,none⟩),
 (6,.M 5 31)])
 .ret))))⟩
def Bc:EF:=⟨[0,1],[.cell 4 true 3],(.seq (.region 3 [.o 2 (.box 0) [0],
 .o 3 (.box 1) [1],
 .o 4 (.alloc 2 [.bool false,.sl 0 [],.sl 0 []]) []])
 (.seq (.drawn 0 [(0,.o 5 (.aC 0) [2]),
 (1,.o 6 (.aU 2) [5]),
 (2,.o 7 (.aC 2) [3]),
 (3,.o 8 .ak [7]),
 (4,.o 9 (.build [.bool false,.sl 0 []] [(0,1),(1,1)]) [.kb false,8]),
 (5,.o 10 (.ah gu) [6,9]),
 (6,.o 11 (.aC 0) [3]),
 (7,.o 12 (.aU 2) [11]),
 (8,.o 13 (.aC 2) [2]),
 (9,.o 14 .ak [13]),
 (10,.o 15 (.build [.bool false,.sl 0 []] [(0,1),(1,1)]) [.kb false,14]),
 (11,.o 16 (.ah gu) [12,15]),
 (12,.o 17 (.ah m_) [10,16]),
 (13,.o 18 (.aC 2) [2]),
 (14,.o 19 .ak [18]),
 (15,.o 20 (.aC 2) [3]),
 (16,.o 21 .ak [20]),
 (17,.o 22 (.ah iK) [19,21]),
 (18,.o 23 (.build [.bool false,.sl 0 [],.sl 0 []] [(0,2),(2,1)]) [17,22]),
 (19,⟨.store 3,[4,23],none,none⟩)])
 .ret))⟩
def uY:EF:=⟨[0],[.cell 2 true 3],(.seq (.region 2 [.o 1 (.box 0) [0],
 .o 2 (.alloc 1 [.bool false,.sl 0 [],.sl 0 []]) []])
 (.seq (.region 1 [.o 6 (.aC 4) [1],
 .o 7 .ak [6],
 .o 8 (.ah dR) [7,.ki 0,.ki 200,.kb false],
 .M 5 8,
 .o 9 (.ext 0) [5],
 .o 10 (.ext 1) [5],
 .o 3 (.alloc 0 [.bool false,.sl 0 [],.sl 0 []]) [],
 ⟨.store 3,[3,9],none,none⟩,
 .M 4 10])
 (.seq (.region 0 [.o 11 (.aU 3) [3],
 ⟨.store 3,[2,11],none,none⟩])
 .ret)))⟩
def yc:EC:=(.seq (.seq (.region 0 [.M 27 6,
 .o 28 (.bF 2) [27,.ki 0],
 .o 29 (.aC 0) [28],
 .o 30 .ak [29],
 .M 31 1,
 .o 32 (.aj .leq) [30,31]])
 (.cond (.t 32) .skip
 (.exit 0)))
 (.block 1 (.region 0 [.M 33 6,
 .o 34 (.PL 2 true false) [33,.ki 1],
 .M 6 34])))
def ND:EF:=⟨[0,1],[.tmp 4,.tmp 5],(.seq (.region 1 [.o 2 (.box 0) [0],
 .C 4 (.sl 0 []),
 .C 5 .aK])
 (.seq (.region 0 [.o 9 (.aU 9) [2],
 .o 10 (.bK DV) [9],
 .M 8 10,
 .o 11 (.ext 0) [8],
 .o 12 (.ext 1) [8],
 .M 6 11,
 .M 7 12])
 (.seq (.seq (.region 0 [.M 13 7,
 .o 14 (.eqN true true) [13,.k .aK]])
 (.cond (.t 14) (.seq (.region 0 [.M 15 7,
 .C 4 (.sl 0 []),
 .M 5 15])
 .ret)
 .skip))
 (.seq (.seq (.region 0 [.M 16 1,
 .o 17 (.aC 0) [2],
 .o 18 .ak [17],
 .o 19 (.aj .lss) [16,18],
 .M 20 19,
 .g 20 false 21 .aT [1],
 .g 20 false 22 (.aC 1) [2],
 .g 20 false 23 .ak [22],
 .g 20 false 24 (.aj .geq) [21,23],
 .o 25 .pick [20,.kb true,24]])
 (.cond (.t 25) (.seq (.region 0 [.o 26 (.ah dB) [.ki 6],
 .C 4 (.sl 0 []),
 .M 5 26])
 .ret)
 .skip))
 (.seq (.block 0 (.loop [1,2,6] [1,2,6] yc))
 (.seq (.seq (.drawn 0 [(0,.o 35 (.aC 8) [2]),
 (1,.o 36 .ak [35]),
 (2,.o 37 (.aj .gtr) [36,.ki 0]),
 (3,.M 38 37),
 (4,.g 38 true 39 .aT [1]),
 (5,.g 38 true 40 .aT [6]),
 (6,.g 38 true 41 (.bF 2) [40,.ki 0]),
 (7,.g 38 true 42 (.aC 0) [41]),
 (8,.g 38 true 43 .ak [42]),
 (9,.g 38 true 44 (.aC 8) [2]),
 (10,.g 38 true 45 .ak [44]),
 (11,.g 38 true 46 (.aj .sub) [43,45]),
 (12,.g 38 true 47 (.aj .geq) [39,46]),
 (13,.o 48 .pick [38,47,.kb false])])
 (.join [4,5,6] (.cond (.t 48) (.seq (.seq (.region 0 [.M 49 6,
 .o 50 .bM [49],
 .o 51 (.aj .gtr) [50,.ki 1]])
 (.cond (.t 51) (.seq (.region 0 [.M 52 6,
 .o 53 (.PL 2 true false) [52,.ki 1],
 .M 4 53,
 .C 5 .aK])
 .ret)
 .skip))
 (.region 0 [.M 54 6,
 .o 55 (.aU 9) [2],
 .o 56 (.ah qJ) [55],
 .o 57 (.ah gK) [56],
 .o 58 (.bF 2) [54,.ki 0],
 .o 59 (.aC 1) [58],
 ⟨.store 1,[59,57],none,none⟩]))
 .skip)))
 (.seq (.region 0 [.M 60 6,
 .M 4 60,
 .C 5 .aK])
 .ret)))))))⟩
def IJ:EF:=⟨[0],[.tmp 2],(.seq (.region 0 [.C 2 .aY])
 (.seq (.region 0 [.M 3 0,
 .o 4 (.ah dG) [3],
 .o 5 (.aj .geq) [4,.ki 0],
 .M 6 0,
 .o 7 (.ah bW) [6],
 .o 8 (.ah jd) [5,7],
 .M 2 8])
 .ret))⟩
def IC:EF:=⟨[0],[.tmp 2],(.seq (.region 0 [.C 2 .aY])
 (.seq (.seq (.region 0 [.M 3 0,
 .o 4 (.yV false) [3,.k .aY],
 .M 5 4,
 .g 5 false 6 .aT [0],
 .g 5 false 7 .qG [6],
 .g 5 false 8 (.aC 1) [7],
 .g 5 false 9 .ak [8],
 .g 5 false 10 (.yV false) [9,.k .aY],
 .o 11 .pick [5,.kb true,10]])
 (.cond (.t 11) (.seq (.region 0 [.o 12 (.ah ji) [.k (.int .u64 0)],
 .M 2 12])
 .ret)
 .skip))
 (.seq (.region 0 [.M 13 0,
 .o 14 .qG [13],
 .o 15 (.aC 1) [14],
 .o 16 .ak [15],
 .M 2 16])
 .ret)))⟩
def F8:EF:=⟨[0],[.tmp 2],(.seq (.region 0 [.C 2 (.bool false)])
 (.seq (.region 0 [.M 3 0,
 .o 4 (.ah dF) [3],
 .o 5 .bM [4],
 .o 6 (.aj .eql) [5,.ki 0],
 .M 2 6])
 .ret))⟩
def Ur:EF:=⟨[0,1],[.tmp 4],(.seq (.region 0 [.C 4 .aY])
 (.seq (.region 1 [.M 5 0,
 .M 6 5,
 .g 6 true 7 .aT [1],
 .g 6 true 8 (.ah fV) [7],
 .g 6 true 9 .not [8],
 .o 10 .pick [6,9,.kb false],
 .M 11 1,
 .o 12 (.build [.bool false,.aY] [(0,1),(1,1)]) [10,11],
 .o 13 (.box 0) [12],
 .M 4 13])
 .ret))⟩
end Go.Ev.Code
end
