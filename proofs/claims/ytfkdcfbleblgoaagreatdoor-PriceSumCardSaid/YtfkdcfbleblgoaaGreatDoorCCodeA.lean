/- A part of the proof of priceAll_card, yieldAll_card, priceSum_card, flowAll_card, accrAll_card. -/
import Derived.Test.YtfkdcfbleblgoaaGreatDoorProg
import Derived.Test.YtfkdcfbleblgoaaGreatDoorCDef
set_option linter.unusedVariables false
section
namespace Go.Ev.Code
open Go.Ev
def w_:Nat:=3
def vF:Nat:=4
def vC:Nat:=5
def wZ:Nat:=6
def vw:Nat:=7
def iq:Nat:=8
def Fv:Nat:=9
def TN:Nat:=10
def FD:Nat:=11
def CQ:Nat:=12
def oL:Nat:=13
def AU:Nat:=14
def fQ:Nat:=15
def Vm:Nat:=16
def mQ:Nat:=17
def uI:Nat:=18
def CP:Nat:=19
def FB:Nat:=20
def ZW:Nat:=21
def uO:Nat:=22
def kX:Nat:=23
def wG:Nat:=24
def Aw:Nat:=25
def GR:Nat:=26
def Gn:Nat:=27
def CO:Nat:=28
def CJ:Nat:=29
def AL:Nat:=30
def yj:Nat:=31
def Fz:Nat:=32
def iT:Nat:=33
def xI:Nat:=34
def wS:Nat:=35
def xJ:Nat:=36
def BZ:Nat:=37
def xK:Nat:=38
def acZ:Nat:=39
def acY:Nat:=40
def aay:Nat:=41
def qw:Nat:=42
def Au:Nat:=43
def CW:Nat:=44
def G_:Nat:=45
def XY:Nat:=46
def XZ:Nat:=47
def mV:Nat:=48
def T_:Nat:=49
def Xk:Nat:=50
def Nc:Nat:=51
def Ei:Nat:=52
def qj:Nat:=53
def Bv:Nat:=54
def Bq:Nat:=55
def adv:Nat:=56
def Qz:Nat:=57
def TP:Nat:=58
def Bz:Nat:=59
def oK:Nat:=60
def jX:Nat:=61
def mZ:Nat:=62
def sK:Nat:=63
def CV:Nat:=64
def qF:Nat:=65
def mY:Nat:=66
def AP:Nat:=67
def oO:Nat:=68
def sH:Nat:=69
def UE:Nat:=70
def OB:Nat:=71
def J_:Nat:=72
def DZ:Nat:=73
def FP:Nat:=74
def qU:Nat:=75
def oM:Nat:=76
def tJ:Nat:=77
def xM:Nat:=78
def uG:Nat:=79
def xP:Nat:=80
def Vl:Nat:=81
def yQ:Nat:=82
def qE:Nat:=83
def mX:Nat:=84
def AQ:Nat:=85
def uK:Nat:=86
def yP:Nat:=87
def FH:Nat:=88
def qR:Nat:=89
def strings_CutPrefix:Nat:=90
def strings_Cut:Nat:=91
def qQ:Nat:=92
def DJ:Nat:=93
def lC:Nat:=94
def uD:Nat:=95
def LH:Nat:=96
def Lh:Nat:=97
def ac4:Nat:=98
def D7:Nat:=99
def wH:Nat:=100
def FN:Nat:=101
def uU:Nat:=102
def yt:Nat:=103
def Oh:Nat:=104
def Vu:Nat:=105
def xG:Nat:=106
def xE:Nat:=107
def Q7:Nat:=108
def uF:Nat:=109
def G6:Nat:=111
def OQ:Nat:=112
def BU:Nat:=113
def Uy:Nat:=114
def aaz:Nat:=115
def Vg:Nat:=116
def qA:Nat:=117
def kZ:Nat:=118
def sJ:Nat:=119
def qB:Nat:=120
def FI:Nat:=121
def Q5:Nat:=122
def xO:Nat:=123
def abe:Nat:=124
def yI:Nat:=125
def BX:Nat:=126
def uS:Nat:=127
def yR:Nat:=128
def JD:Nat:=129
def slices_Reverse_int:Nat:=130
def Js:Nat:=131
def acv:Nat:=132
def ZB:Nat:=133
def ani:Nat:=134
def Nh:Nat:=135
def aaD:Nat:=136
def aaE:Nat:=137
def Ve:Nat:=138
def qY:Nat:=139
def J7:Nat:=140
def Qh:Nat:=141
def jR:Nat:=142
def Pm:Nat:=143
def y7:Nat:=144
def jy:Nat:=145
def sO:Nat:=146
def FK:Nat:=147
def IJ:Nat:=148
def AO:Nat:=149
def iE:Nat:=150
def Fh:Nat:=151
def Qn:Nat:=152
def yx:Nat:=153
def XM:Nat:=154
def FM:Nat:=155
def AA:Nat:=156
def BR:Nat:=157
def yF:Nat:=158
def iI:Nat:=159
def y8:Nat:=160
def Az:Nat:=161
def AB:Nat:=162
def CU:Nat:=163
def Jz:Nat:=173
def kM:Nat:=174
def ug:Nat:=175
def BK:Nat:=176
def vU:Nat:=177
def BN:Nat:=178
def BM:Nat:=179
def NG:Nat:=180
def FQ:Nat:=181
def yT:Nat:=182
def air:Nat:=183
def BL:Nat:=184
def BO:Nat:=185
def QZ:Nat:=186
def G7:Nat:=191
def YR:Nat:=192
def Qr:Nat:=193
def Vh:Nat:=194
def NQ:Nat:=195
def NJ:Nat:=196
def Tm:Nat:=197
def zX:Nat:=198
def Ad:Nat:=199
def Ob:Nat:=200
def Yb:Nat:=201
def aky:Nat:=202
def Il:Nat:=203
def Na:Nat:=204
def agC:Nat:=205
def Qi:Nat:=206
def amU:Nat:=207
def Lc:Nat:=208
def YI:Nat:=209
def vG:Nat:=210
def yS:Nat:=211
def XW:Nat:=212
def ac3:Nat:=213
def dV:Nat:=214
def Pg:Nat:=215
def mO:Nat:=216
def ji:Nat:=217
def strings_Repeat:Nat:=218
def slices_Reverse_string:Nat:=219
def strings_Join:Nat:=220
def CS:Nat:=221
def bits_Mul64:Nat:=230
def bits_Add64:Nat:=231
def QX:Nat:=232
def GX:Nat:=233
def aeF:Nat:=234
def aij:Nat:=235
def bits_Sub64:Nat:=236
def mW:Nat:=237
def Uz:Nat:=240
def UA:Nat:=241
def aa4:Nat:=242
def lS:Nat:=243
def aaG:Nat:=244
def aew:Nat:=245
def rW:Nat:=246
def aaH:Nat:=247
def aev:Nat:=248
def acy:Nat:=249
def ae5:Nat:=250
def Nb:Nat:=251
def abI:Nat:=252
def Qe:Nat:=253
def OL:Nat:=274
def Pe:Nat:=275
def nat_bit:Nat:=276
def TU:Nat:=277
def bits_LeadingZeros64:Nat:=278
def OJ:Nat:=279
def Vq:Nat:=280
def Vr:Nat:=281
def Vp:Nat:=282
def aaM:Nat:=283
def xw:Nat:=284
def UH:Nat:=285
def Gl:Nat:=286
def akb:Nat:=287
def Zb:Nat:=288
def agF:Nat:=289
def MZ:Nat:=290
def Zk:Nat:=291
def strconv_Itoa:Nat:=292
def bits_TrailingZeros64:Nat:=306
def Xf:Nat:=308
def M_:Nat:=309
def Xe:Nat:=310
def Xd:Nat:=318
def aes:Nat:=319
def GU:Nat:=320
def agI:Nat:=321
def Gw:Nat:=324
def agJ:Nat:=325
def wF:Nat:=343
def Kt:Nat:=344
def jO:Nat:=345
def mM:Nat:=346
def fO:Nat:=353
def lF:Nat:=194
def kN:Nat:=157
def JU:Nat:=287
def hndB:Nat:=16
end Go.Ev.Code
end
section
namespace Go.Ev
def ahu {α:Type}:List α→Nat→α→α
 | [],_,d=>d
 | x::_,0,_=>x
 | _::l,n+1,d=>ahu l n d
structure TC where
 P:Program
 nf:List (List Nat)
 nt:List (Nat×Nat)
 ov:List (Nat×K)
 js:List (Nat×List Nat)
 ns:Bool
 fr:Bool
def TC.vD (C:TC):Value→D
 | .int k n => .int k n
 | .bool b => .bool b
 | .string s => .str s.data.toList
 | .pointer _ => .iy
 | .slice _ _ _=>bif C.ns then .dh else .sl 0 []
 | .map _ => .BQ
 | .nilIface => .bQ
 | _ => .undef
def TC.fn (C:TC) (f:Nat):Nat:=ahu (ahu C.nf (f / 16) []) (f % 16) f
def TC.od (C:TC):Operand→LV
 | .tmp t => .t t
 | .const v => .k (C.vD v)
 | .func f => .k (.func (C.fn f) [])
 | _ => .k .undef
def TC.z (C:TC) (t:Nat):List D:=match (C.P.info? t).bind (·.zero) with
 | some v=>v.cells.toList.map C.vD
 | _=>[]
def TC.sz (C:TC) (t:Nat):Nat:=(pG C.P t).getD 0
def TC.el (C:TC) (t:Nat):Nat:=(JV C.P t).getD 0
def TC.off (C:TC) (t f:Nat):Nat:=match C.P.underlying t with
 | some (.struct fs)=>ahu (fs.toList.map (·.offset)) f 0
 | _=>0
def TC.bin (C:TC) (b:BinOp) (t:Nat):K :=
 let n:=match b with | .neq=>true | _=>false
 match C.P.underlying t with
 | some (.int _)=>(match b with | .shl => .sh true | .shr => .sh false | _ => .mF b)
 | some .string => .Td b
 | some .bool => .eqB n
 | some (.pointer _) => .eqP n
 | some (.interface _) => .eqN n true
 | some (.struct fs) => .eqA n (fs.toList.map fun f=>match C.P.underlying f.type with | some .bool=>0 | some (.int _)=>1 | _=>2)
 | _ => .eqS n
def TC.str (C:TC) (t:Nat):Bool:=match C.P.underlying t with | some .string=>true | _=>false
def TC.op (C:TC) (j:Nat):Op→K×List Operand
 | .move x | .assign x=>(.mov,[x])
 | .pick c a b=>(.pick,[c,a,b])
 | .alloc e=>(.alloc j (C.z e),[])
 | .box _ x=>(.box j,[x])
 | .load t x=>match x with
   | .global _=>(.stop,[])
   | _=>(match ZR C.P t with | some true => .aa0 (C.sz t) | _ => .aaZ,[x])
 | .store t x y=>(.store (C.sz t),[x,y])
 | .build t ps=>(.build (C.z t) (ps.toList.map fun p=>(placesOf C.P t p.1).getD (0,0)),ps.toList.map (·.2))
 | .buildSlice t n ps=>(.bsl (C.sz (C.el t)) n (C.z (C.el t)) (ps.toList.map fun p=>(p.1*C.sz (C.el t),C.sz (C.el t))),ps.toList.map (·.2))
 | .nilCheck x=>(.aeG,[x])
 | .binOp b t x y _=>(C.bin b t,[x,y])
 | .unOp u _ x=>(match u with | .neg => .neg | .not => .not | _ => .inv,[x])
 | .convert s d x=>(match C.P.underlying d with | some (.int k) => .conv k | _ => .b2s,[x])
 | .makeInterface t x=>(.akn ((wX C.nt t).getD t),[x])
 | .makeFunc (.func f) _ c=>(.akm (C.fn f),c.toList)
 | .makeMap _ _=>(.mkm j,[])
 | .makeSlice t x y=>(.aeD j (C.sz (C.el t)) (C.z (C.el t)),[x,y])
 | .slice t x l h _=>(bif C.str t then .slS l.isSome h.isSome else .slL (C.sz (C.el t)) l.isSome h.isSome,x::(l.toList++h.toList))
 | .fieldAddr t x f=>(.ajJ (C.off t f),[x])
 | .field t x f=>(.fld (C.off t f),[x])
 | .indexAddr t x y=>(match C.P.underlying t with | some (.array n e) => .aex (C.sz e) n | _ => .akc (C.sz (C.el t)),[x,y])
 | .index _ x y=>(.akd,[x,y])
 | .lookup _ x y _=>(.ahm,[x,y])
 | .mapUpdate _ x y z=>(.akp,[x,y,z])
 | .typeAssert x _ _ _=>(.stop,[x])
 | .extract x i=>(.ext i,[x])
 | .call c=>match c.callee with
   | .value (.func f)=>(.aaI (C.fn f),c.args.toList)
   | .value g=>(.ad9,g::c.args.toList)
   | .invoke r _=>(.stop,r::c.args.toList)
   | .builtin b=>(match b with
     | .len=>bif C.str (ahu c.argTypes.toList 0 0) then .akk else .akj
     | .min => .mn
     | .max => .mx
     | _ => .app j (C.sz (C.el (ahu c.argTypes.toList 0 0))),c.args.toList)
 | _=>(.stop,[])
def K.js:K→Nat
 | .alloc .. | .box _ | .abE .. | .aeD .. | .app .. | .mkm _=>1
 | _=>0
def aFM (o:Oper):Nat:=match o.dst,o.op with
 | some d,_=>d
 | none,.store _ (.tmp t) _=>100000+t
 | _,_=>100000
def TC.op2 (C:TC) (j:Nat) (o:Oper):K×List Operand:=match wX C.ov (aFM o) with
 | some k=>(k,(C.op j o.op).2)
 | _=>C.op j o.op
def TC.eo (C:TC) (all:List Oper) (o:Oper) (r:K×List Operand):EO :=
 ⟨r.1,r.2.map C.od,o.dst,match o.guard with
   | some (i,b)=>match ahu (all.map (·.dst)) i none with | some t=>some (t,b) | _=>none
   | _=>none⟩
def TC.go (C:TC) (all:List Oper):List (Nat×Oper)→Nat→List (Nat×EO)
 | [],_=>[]
 | (i,o)::os,j=>(i,C.eo all o (C.op2 j o))::C.go all os (j+(C.op2 j o).1.js)
def TC.cnt (C:TC):List (Nat×Oper)→Nat
 | []=>0
 | (_,o)::os=>(C.op2 0 o).1.js+C.cnt os
def zi {α:Type}:List α→Nat→List (Nat×α)
 | [],_=>[]
 | x::l,i=>(i,x)::zi l (i+1)
def TC.uses (C:TC) (all:List Oper) (o:Oper) (d:Nat):Bool :=
 (C.op 0 o.op).2.any (fun x=>match x with | .tmp t=>Nat.beq t d | _=>false) || (match (C.eo all o (.stop,[])).guard with | some (t,_)=>Nat.beq t d | _=>false)
def aDi (e:Edge):Bool:=match e.ground with | .textOnly _ | .gcOnly _=>false | _=>true
def aA2 (o:Oper) (i:Nat):Bool:=match o.op with | .store _ _ _=>o.after.toList.any (fun e=>aDi e && Nat.beq e.on i) | _=>false
def aFJ (o:Oper):Bool:=match o.op with | .alloc _=>true | _=>false
def TC.ord (C:TC) (all:List Oper):List (Nat×Oper)→List (Nat×Oper)→List (Nat×Oper)
 | [],p=>p
 | o::os,p=>bif aFJ o.2 then C.ord all os (p++[o]) else
   p.filter (fun q=>C.uses all o.2 (q.2.dst.getD 0) || aA2 o.2 q.1)++o::C.ord all os (p.filter fun q => !(C.uses all o.2 (q.2.dst.getD 0) || aA2 o.2 q.1))
def TC.rg (C:TC) (os:List Oper) (d:Bool):EC :=
 bif d then .drawn (C.cnt (zi os 0)) (C.go os (C.ord os (zi os 0) []) 0) else .region (C.cnt (zi os 0)) ((C.go os (zi os 0) 0).map (·.2))
abbrev LT:=List Nat×List Nat×EC
def TC.jn (C:TC) (n:Nat) (c:EC):EC:=match wX C.js n with
 | some l => .join l c
 | _=>c
def TC.tr {α:Type} (C:TC) (rs:List Nat):Code→Nat→List LT→(EC→Nat→List LT→α)→α
 | .skip,n,ls,k=>k .skip n ls
 | .ret,n,ls,k=>k (bif C.fr then .frz rs .ret else .ret) n ls
 | .exit i,n,ls,k=>k (.exit i) n ls
 | .region _ os d,n,ls,k=>k (C.rg os.toList d) n ls
 | .seq a b,n,ls,k=>C.tr rs a n ls fun x n ls=>C.tr rs b n ls fun y n ls=>k (.seq x y) n ls
 | .cond o a b,n,ls,k=>C.tr rs a (n+1) ls fun x m ls=>C.tr rs b m ls fun y m ls=>k (C.jn n (.cond (C.od o) x y)) m ls
 | .block i a,n,ls,k=>C.tr rs a (n+1) ls fun x m ls=>k (C.jn n (.block i x)) m ls
 | .loop _,n,ls,k=>match ls with
   | l::ls=>k (.loop l.1 l.2.1 l.2.2) n ls
   | []=>k .skip n []
 | _,n,ls,k=>k .skip n ls
def lps:Code→List Code
 | .seq a b=>lps a++lps b
 | .cond _ a b=>lps a++lps b
 | .block _ a=>lps a
 | .loop a=>lps a++[a]
 | _=>[]
def Za:Code→Bool
 | .seq a b=>Za a || Za b
 | .cond _ a b=>Za a || Za b
 | .block _ a=>Za a
 | .loop a=>Za a
 | .region _ os _=>os.toList.any fun o=>match o.op with | .call ⟨.builtin .append,_,_⟩=>true | _=>false
 | _=>false
def rsT:ResultVar→Nat
 | .tmp t=>t
 | .cell t _=>t
def upTo:Nat→List Nat→List Nat
 | 0,l=>l
 | n+1,l=>upTo n (n::l)
def aqv (f:Func):Code:=f.body.getD .skip
def TC.ef (C:TC) (f:Func) (ls:List LT):EF :=
 ⟨upTo (f.params.size+f.nfree) [],f.results.toList.map fun r=>match r with
  | .tmp t => .tmp t
  | .cell t T => .cell t (match ZR C.P T with | some true=>true | _=>false) (C.sz T),C.tr (f.results.toList.map rsT) (aqv f) 0 ls fun c _ _=>c⟩
def TC.lp (C:TC) (f:Func) (i:Nat) (ls:List LT):EC :=
 C.tr (f.results.toList.map rsT) (ahu (lps (aqv f)) i .skip) 0 ls fun c _ _=>c
def TC.of (P:Program) (nf:List (List Nat)) (nt:List (Nat×Nat)) (f:Func) (ov:List (Nat×K)) (js:List (Nat×List Nat)) (fr:Bool):TC:=⟨P,nf,nt,ov,js,Za (aqv f),fr⟩
end Go.Ev
end
section
namespace Go.Ev.Code
open Go Go.Ev
def NF:List (List Nat):=[[0,1,2,w_,vF,vC,wZ,vw,iq,Fv,TN,FD,CQ,oL,AU,fQ],
 [Vm,mQ,uI,CP,FB,ZW,uO,kX,wG,Aw,GR,Gn,CO,CJ,AL,yj],
 [Fz,iT,xI,wS,xJ,BZ,xK,acZ,acY,aay,qw,Au,CW,G_,XY,XZ],
 [mV,T_,Xk,Nc,Ei,qj,Bv,Bq,adv,Qz,TP,Bz,oK,jX,mZ,sK],
 [CV,qF,mY,AP,oO,sH,UE,OB,J_,DZ,FP,qU,oM,tJ,xM,uG],
 [xP,Vl,yQ,qE,mX,AQ,uK,yP,FH,qR,strings_CutPrefix,strings_Cut,qQ,DJ,lC,uD],
 [LH,Lh,ac4,D7,wH,FN,uU,yt,Oh,Vu,xG,xE,Q7,uF,110,G6],
 [OQ,BU,Uy,aaz,Vg,qA,kZ,sJ,qB,FI,Q5,xO,abe,yI,BX,uS],
 [yR,JD,slices_Reverse_int,Js,acv,ZB,ani,Nh,aaD,aaE,Ve,qY,J7,Qh,jR,Pm],
 [y7,jy,sO,FK,IJ,AO,iE,Fh,Qn,yx,XM,FM,AA,BR,yF,iI],
 [y8,Az,AB,CU,164,165,166,167,168,169,170,171,172,Jz,kM,ug],
 [BK,vU,BN,BM,NG,FQ,yT,air,BL,BO,QZ,187,188,189,190,G7],
 [YR,Qr,Vh,NQ,NJ,Tm,zX,Ad,Ob,Yb,aky,Il,Na,agC,Qi,amU],
 [Lc,YI,vG,yS,XW,ac3,dV,Pg,mO,ji,strings_Repeat,slices_Reverse_string,strings_Join,CS,222,223],
 [224,225,226,227,228,229,bits_Mul64,bits_Add64,QX,GX,aeF,aij,bits_Sub64,mW,238,239],
 [Uz,UA,aa4,lS,aaG,aew,rW,aaH,aev,acy,ae5,Nb,abI,Qe,254,255],
 [256,257,258,259,260,261,262,263,264,265,266,267,268,269,270,271],
 [272,273,OL,Pe,nat_bit,TU,bits_LeadingZeros64,OJ,Vq,Vr,Vp,aaM,xw,UH,Gl,akb],
 [Zb,agF,MZ,Zk,strconv_Itoa,293,294,295,296,297,298,299,300,301,302,303],
 [304,305,bits_TrailingZeros64,307,Xf,M_,Xe,311,312,313,314,315,316,317,Xd,aes],
 [GU,agI,322,323,Gw,agJ,326,327,328,329,330,331,332,333,334,335],
 [336,337,338,339,340,341,342,wF,Kt,jO,mM,347,348,349,350,351],
 [352,fO,354,355,356,357,358,359,360,361,362,363,364,365,366,367]]
def NT:List (Nat×Nat):=[(194,lF),(157,kN),(287,JU)]
noncomputable def aN (f:Func) (ls:List LT:=[]) (js:List (Nat×List Nat):=[]) (ov:List (Nat×K):=[]):EF:=(TC.of Go.Proofs.Tryz.prog NF NT f ov js false).ef f ls
noncomputable def trZ (f:Func) (ls:List LT:=[]) (js:List (Nat×List Nat):=[]) (ov:List (Nat×K):=[]):EF:=(TC.of Go.Proofs.Tryz.prog NF NT f ov js true).ef f ls
noncomputable def dS (f:Func) (i:Nat) (ls:List LT:=[]) (js:List (Nat×List Nat):=[]) (ov:List (Nat×K):=[]):EC:=(TC.of Go.Proofs.Tryz.prog NF NT f ov js false).lp f i ls
end Go.Ev.Code
end
section
namespace Go.Ev.Code
open Go Go.Ev Go.Proofs.Tryz
noncomputable section
def LZ:EC:=dS f3 0
def lY:EC:=LZ
def BG:EF:=aN f3 [([1,2,3,4,10,13,68,69],[1,2,3,4,8,13],lY)]
def zA:EF:=aN f4
def zu:EF:=aN f5 [] [] [(61,.UK 9),(62,.UK 9),(63,.UK 9),(100013,.RZ 9),(100014,.RZ 9),(100015,.RZ 9)]
def BF:EF:=aN f6
def zq:EF:=aN f7
def aep:EF:=aN f8
def I8:EF:=aN f9
def ale:EC:=dS f10 0 [] [(1,[1,2,3,4,6,7,21,22,23]),(2,[1,2,3,4,6,7,8,9,10,21,22,23]),(4,[1,4,6,7,9,10,21,22,23])]
def wU:EC:=ale
def agU:EF:=aN f10 [([1,4,6,7,21,22,23],[2,3,7],wU)]
def Ja:EF:=aN f11
def H8:EF:=aN f12
def Po:EC:=dS f13 0 [] [(1,[1,2,3,4,6,7]),(3,[1,4,6,7,8])]
def gu:EC:=Po
def Eu:EF:=aN f13 [([1,4,6,7],[2,3,6],gu)]
def EN:EF:=aN f14
def Ru:EC:=dS f15 0
def lN:EC:=Ru
def Rw:EC:=dS f15 1
def jY:EC:=Rw
def Ia:EF:=aN f15 [([1,4,5],[1,4],lN),([1,4,8,9],[1,4,8],jY)] [] [(85,.abE 0 2 1 [.int .i64 0,.int .i64 0] [(0,2)])]
def ag9:EC:=dS f16 0
def Ju:EC:=ag9
def abU:EF:=aN f16 [([2,3,4,14,77,78,79],[14],Ju)] [(1,[2,3,4,5,8,9,12])]
def Rt:EC:=dS f17 0 [] [(1,[2,3,4,5,8,9,12,13]),(3,[2,3,4,5,8,12,14])]
def fZ:EC:=Rt
def H_:EF:=aN f17 [([2,3,4,5,8,12,13],[8,9,12],fZ)]
def TK:EF:=aN f18
def Ro:EC:=dS f19 0 [] [(1,[1,2,3,7,8,10,33,34]),(2,[1,2,3,7,8,10,33,34])]
def ql:EC:=Ro
def Rq:EC:=dS f19 1
def qo:EC:=Rq
def H7:EF:=aN f19 [([1,2,3,7,8,10,33,34],[1,3,7,8,10],ql),([7,10,80,81],[6],qo)] [(2,[7,8,10]),(3,[7,8,10])]
def I_:EF:=aN f20
def aer:EF:=aN f21
def Px:EC:=dS f22 0
def iQ:EC:=Px
def Py:EC:=dS f22 1
def eP:EC:=Py
def EJ:EF:=aN f22 [([0,2,5,6,7],[0,2,5,6,7],iQ),([2,5,6,8,9,11],[2,3,4,6,8,9],eP)] [(0,[0,2,5,6])]
def Ew:EF:=aN f23
def Ie:EF:=aN f24
def ED:EF:=aN f25
def agS:EF:=aN f26 [] [(1,[6,8,13])]
def afN:EC:=dS f27 0 [] [(1,[1,2,3,6,7,8,9]),(3,[1,2,3,8,9])]
def GI:EC:=afN
def Y7:EF:=aN f27 [([1,2,3,8,9],[6,7,8],GI)]
def H6:EF:=aN f28
def HY:EF:=aN f29
def VF:EC:=dS f30 0
def iw:EC:=VF
def MJ:EF:=aN f30 [([1,2,5],[1,2,5],iw)] [(1,[2,5])]
def Oy:EF:=aN f31
def I9:EF:=aN f32
def JI:EC:=dS f33 0 [] [(1,[1,8,9]),(2,[1,8,9])]
def iJ:EC:=JI
def JJ:EC:=dS f33 1 [] [(1,[1,8,9]),(2,[1,8,9])]
def jH:EC:=JJ
def zB:EF:=aN f33 [([1,8,9],[1,8,9],iJ),([1,8,9],[8,9],jH)] [(3,[8])]
def WX:EF:=aN f34
def WY:EF:=aN f36
def Xc:EF:=aN f37 [] [] [(13,.pU xJ)]
def WZ:EF:=aN f38
def agN:EF:=aN f39
def agM:EF:=aN f40
def abK:EF:=aN f41
def BH:EF:=aN f42 [] [(0,[1,2,4,8,10]),(1,[4,10])]
def MG:EF:=aN f43
def Ih:EF:=aN f44
def WW:EF:=aN f45
def Y4:EF:=aN f46
def Y5:EF:=aN f47 [] [(4,[13])]
def Ib:EF:=aN f48 [] [(1,[4,13])]
def alM:EC:=dS f49 0
def Ll:EC:=alM
def ag1:EF:=aN f49 [([1,6,7,8,9,27,28,29],[1,6,7,8],Ll)] [(3,[2,3,8]),(4,[2,3,8]),(5,[8])] [(19,.bf JD),(24,.bf slices_Reverse_int)]
def ald:EF:=aN f50
def af4:EF:=aN f51
def YT:EF:=aN f52
def TJ:EF:=aN f53
def Wq:EF:=aN f54 [] [(0,[2]),(1,[1,5]),(2,[1,5]),(3,[1,5])]
def Wp:EF:=aN f55
def ag0:EF:=aN f56 [] [] [(7,.pU jR)]
def Tt:EF:=aN f57
def aeh:EF:=aN f58
def Ws:EF:=aN f59
end
end Go.Ev.Code
end
section
namespace Go.Ev.Code
open Go Go.Ev Go.Proofs.Tryz
noncomputable section
def Es:EF:=aN f60
def Jb:EF:=aN f61
def MS:EF:=aN f62
def Dv:EF:=aN f63
def Ig:EF:=aN f64
def VE:EC:=dS f65 0
def uM:EC:=VE
def MI:EF:=aN f65 [([0,1,5],[4],uM)]
def VK:EC:=dS f66 0
def jf:EC:=VK
def MP:EF:=aN f66 [([0,3],[3],jf)]
def EK:EF:=aN f67
def Pz:EC:=dS f68 0
def oP:EC:=Pz
def PD:EC:=dS f68 1 [([0,3,4,5,6],[0,3,4],oP)]
def iR:EC:=PD
def PE:EC:=dS f68 2
def kU:EC:=PE
def EL:EF:=aN f68 [([0,3,4],[3],iR),([3],[3],kU)]
def Dq:EF:=aN f69
def ac9:EC:=dS f70 0
def jE:EC:=ac9
def Wy:EF:=aN f70 [([2,3,6,7],[4,5,6],jE)]
def aeg:EF:=aN f71
def YW:EF:=aN f72 [] [(4,[0,1,2,5,15]),(5,[0,1,2,5,15]),(6,[0,1,2,5,15])]
def ajI:EF:=aN f73
def Jq:EF:=aN f74
def Ij:EF:=aN f75
def Ey:EF:=aN f76
def Je:EF:=aN f77
def W9:EF:=aN f78
def TB:EF:=aN f79
def Xb:EF:=aN f80
def ag8:EC:=dS f81 0
def Jt:EC:=ag8
def abT:EF:=aN f81 [([1,2,6],[1,2,6],Jt)] [(3,[4,5,6])] [(10,.bf TN)]
def SA:EC:=dS f82 0
def jA:EC:=SA
def SB:EC:=dS f82 1 [([0,4,5,6,7],[0,2,3,4,5,6],jA)]
def gJ:EC:=SB
def Jf:EF:=aN f82 [([0,4,5],[2,3,4],gJ)] [] [(63,.pU iI)]
def VD:EC:=dS f83 0 [] [(1,[0,1,5,6,7]),(2,[0,1,5,6,7]),(3,[0,1,5,6,7])]
def je:EC:=VD
def MH:EF:=aN f83 [([0,1,5,6,7],[5],je)]
def VI:EC:=dS f84 0 [] [(1,[0,1,5,6,7,8]),(2,[0,1,5,6,8,9])]
def oN:EC:=VI
def VJ:EC:=dS f84 1 [([0,1,5,6,7,8],[0,1,5,6],oN)]
def uP:EC:=VJ
def MO:EF:=aN f84 [([0,1,5,6],[5],uP)] [] [(73,.pU iI)]
def VL:EC:=dS f85 0
def uQ:EC:=VL
def MQ:EF:=aN f85 [([0,1,5,6],[5],uQ)]
def Et:EF:=aN f86
def Jd:EF:=aN f87
def Jc:EF:=aN f88
def Ii:EF:=aN f89
def alD:EC:=dS f93 0
def Af:EC:=alD
def agV:EF:=aN f93 [([0,5,6,7],[5],Af)]
def Tz:EF:=aN f95
def ag3:EF:=aN f96
def agZ:EF:=aN f97
def agT:EF:=aN f98
def Oz:EF:=aN f99
def Rx:EC:=dS f100 0
def qG:EC:=Rx
def Ry:EC:=dS f100 1
def qH:EC:=Ry
def Ik:EF:=aN f100 [([0,2,3],[0,2,3],qG),([0,2,3],[0,2,3],qH)]
def Jo:EF:=aN f101
def EP:EF:=aN f102 [] [(0,[4]),(1,[0,5,6]),(2,[0,5,6]),(3,[0,5,6]),(4,[0,5,6]),(5,[0,5,6]),(6,[0,5,6]),(7,[4]),(8,[0,5,14]),(9,[0,5,14]),(10,[0,5,14])]
def XE:EC:=dS f103 0
def wI:EC:=XE
def XF:EC:=dS f103 1
def wJ:EC:=XF
def OA:EF:=aN f103 [([1,4,5],[1,4],wI),([1,4,6],[1,4],wJ)]
def Zr:EC:=dS f104 0
def tH:EC:=Zr
def Qx:EF:=aN f104 [([1,2,6,7,10,39,40,41],[1,2,6,7,10],tH)] [(3,[4,5,10])]
def ajH:EF:=aN f105
def WS:EF:=aN f106
def WO:EF:=aN f107
def abf:EC:=dS f108 0 [] [(1,[1,2,8,9,10,11,12]),(2,[1,2,8,9,10,11,12])]
def kS:EC:=abf
def TI:EF:=aN f108 [([1,2,8,9,10,11,12],[9,10,11],kS)]
def TA:EF:=aN f109
def WQ:EF:=aN f111
def aeo:EF:=aN f112
def WT:EF:=aN f113
def Wn:EF:=aN f114
def abL:EF:=aN f115
def abQ:EF:=aN f116
def VB:EC:=dS f117 0
def uJ:EC:=VB
def MF:EF:=aN f117 [([0,1,5],[4],uJ)]
def Ji:EF:=aN f118
def Dt:EF:=aN f119
def BI:EF:=aN f120
def Jg:EF:=aN f121 [] [(0,[2,4,5])]
def Y6:EF:=aN f122
def W_:EF:=aN f123
def ab3:EF:=aN f124
def TD:EF:=aN f125
def Xa:EF:=aN f126
def EM:EF:=aN f127
def Jj:EF:=aN f128
def aa':EC:=dS f129 0
def vg:EC:=aa'
def TF:EF:=aN f129 [([1,5,6],[2,3,4],vg)]
def PO:EC:=dS f130 0
def jK:EC:=PO
def ES:EF:=aN f130 [([0,2,3],[],jK)]
def abS:EF:=aN f131
def anj:EC:=dS f132 0
def adD:EC:=anj
def ank:EC:=dS f132 1
def adE:EC:=ank
def apu:EF:=aN f132 [([0,1,2,8,21,22,23],[0,1,2,8],adD),([0,1,2,8,13,14,15,16],[13,14],adE)]
def alZ:EC:=dS f133 0
def abo:EC:=alZ
def amM:EF:=aN f133 [([1,2,5,9,10,34,35,36],[1,2,5,9,10],abo)] [(1,[10])]
def axL:EF:=aN f134
def af5:EF:=aN f135
def abM:EF:=aN f136
def abN:EF:=aN f137
def abO:EF:=aN f138
def Qv:EF:=aN f139
def agO:EF:=aN f140
def YU:EF:=aN f141
def Bd:EC:=dS f142 0
def jh:EC:=Bd
def rF:EF:=aN f142 [([0,1,7,8],[4],jh)]
def ab2:EF:=aN f143
def Du:EF:=aN f144 [] [(0,[2]),(1,[1,5]),(2,[1,5]),(3,[1,5])]
def Dx:EF:=aN f145
def Dy:EF:=aN f146
def Jh:EF:=aN f147
def VH:EC:=dS f148 0
def uN:EC:=VH
def ML:EF:=aN f148 [([0,1],[0],uN)]
def VG:EC:=dS f149 0 [] [] [(23,.abE 0 1 1 [.int .u64 0] [(0,1)]),(26,.pU iI)]
def kY:EC:=VG
def MK:EF:=aN f149 [([0,1,6,7,8],[6,7],kY)] [] [(43,.pU iI)]
def MN:EF:=aN f150
def Y2:EF:=aN f151
def Tn:EF:=aN f152
def Tq:EF:=aN f153
def YV:EF:=aN f154
def Jm:EF:=aN f155
def Pq:EC:=dS f156 0
def kT:EC:=Pq
def EH:EF:=aN f156 [([1,2,5],[4],kT)]
def WM:EF:=aN f157
end
end Go.Ev.Code
end
section
namespace Go.Ev.Code
open Go Go.Ev Go.Proofs.Tryz
noncomputable section
def aa7:EC:=dS f158 0 [] [(1,[3,4]),(2,[3,4,6])] [(15,.pU Pg),(19,.pU mO)]
def pY:EC:=aa7
def Tv:EF:=aN f158 [([3,4],[3],pY)] [] [(9,.bf dV),(42,.bf slices_Reverse_string),(44,.pU strings_Join)]
def SE:EC:=dS f159 0
def nI:EC:=SE
def Jl:EF:=aN f159 [([0],[0],nI)]
def Dw:EF:=aN f160
def EG:EF:=aN f161
def Pv:EC:=dS f162 0
def jG:EC:=Pv
def EI:EF:=aN f162 [([6,8,9,10,11,12],[6,9,10],jG)]
def Ic:EF:=aN f163
def ajG:EF:=aN f173
def adf:EC:=dS f175 0
def DK:EC:=adf
def adg:EC:=dS f175 1 [([6,7,8,9,10,26,27,28,33,34,35],[6,7,8,10,26,27,28],DK)]
def DL:EC:=adg
def WH:EF:=aN f175 [([6,7,26,27,28],[7],DL)] [] [(85,.pU mO)]
def ade:EC:=dS f176 0 [] [(1,[5,6,7,8,27,28]),(2,[5,6,7,8,9,10,27,28])]
def xY:EC:=ade
def WB:EF:=aN f176 [([5,6,7,8,27,28],[5,7,8],xY)] [(0,[5,6])] [(59,.pU mO)]
def Qw:EF:=aN f177
def WG:EF:=aN f178 [] [(0,[0,1])]
def WE:EF:=aN f179
def adh:EC:=dS f180 0 [] [(1,[1,5,6]),(2,[1,5,6]),(3,[1,5,6])]
def xZ:EC:=adh
def WI:EF:=aN f180 [([1,5,6],[5],xZ)]
def Jr:EF:=aN f181
def Jp:EF:=aN f182
def ag2:EF:=aN f183 [] [(0,[0,4,5])]
def WC:EF:=aN f184
def adi:EC:=dS f185 0 [] [(1,[6,7,8,9,25,26]),(2,[6,7,8,9,10,11,25,26])]
def DN:EC:=adi
def WJ:EF:=aN f185 [([6,7,8,9,25,26],[8],DN)] [] [(52,.pU mO)]
def abb:EC:=dS f186 0
def Am:EC:=abb
def abd:EC:=dS f186 1
def vk:EC:=abd
def TG:EF:=aN f186 [([0,4,18,19,20],[0,4],Am),([4,11,43,44,45],[4,11],vk)]
def WU:EF:=aN f191
def aef:EF:=aN f192
def YZ:EF:=aN f193 [] [(0,[0,1,5]),(1,[0,5]),(2,[5])]
def abR:EF:=aN f194 [] [(0,[0,7])]
def WV:EF:=aN f195
def WR:EF:=aN f196 [] [(1,[1,7,8,10])]
def ak6:EC:=dS f197 0
def Qp:EC:=ak6
def agQ:EF:=aN f197 [([1,4,5],[4],Qp)]
def afj:EC:=dS f198 0
def Gu:EC:=afj
def afk:EC:=dS f198 1
def Gv:EC:=afk
def YX:EF:=aN f198 [([0,2,4],[0,2,4],Gu),([2,4,5],[2,4,5],Gv)]
def abV:EF:=aN f199
def ak':EF:=aN f200
def akU:EC:=dS f201 0
def Qj:EC:=akU
def akV:EC:=dS f201 1 [] [(1,[6,10,11,47,48,49]),(2,[6,10,11,47,48,49])]
def Qk:EC:=akV
def akW:EC:=dS f201 2 [([6,10,11,47,48,49],[6,47,48,49],Qk)]
def J8:EC:=akW
def agP:EF:=trZ f201 [([0,6,35,36,37],[0,6],Qj),([6,47,48,49],[6],J8)]
def avW:EF:=aN f202 [] [(2,[8]),(3,[0,1,8]),(5,[0,1,8])]
def ac7:EF:=aN f203
def af0:EF:=aN f204
def atK:EF:=aN f205
def amJ:EF:=aN f206 [] [(0,[0,1,4]),(1,[0,1,7]),(2,[0,1,7])]
def av9:EC:=dS f207 0
def alo:EC:=av9
def axK:EF:=aN f207 [([1,2,5,7],[4],alo)]
def Y0:EF:=aN f208
def VN:EC:=dS f210 0
def uT:EC:=VN
def VO:EC:=dS f210 1 [([1,5,6,7],[1,5,6,7],uT)] [(1,[1,5,6])]
def oQ:EC:=VO
def MR:EF:=aN f210 [([1,5,6],[5],oQ)] [] [(65,.pU iI)]
def SC:EC:=dS f211 0 [] [(1,[0,1,5,6]),(2,[0,1,5,6])]
def sN:EC:=SC
def Jk:EF:=aN f211 [([0,1,5,6],[5],sN)] [(1,[0,1,5,6])]
def afr:EC:=dS f212 0
def zM:EC:=afr
def Y3:EF:=aN f212 [([1,2,6],[4,5],zM)]
def agR:EF:=aN f213
def ahr:EC:=dS f215 0
def JB:EC:=ahr
def abZ:EF:=aN f215 [([0,1,6,7,8],[6,7],JB)]
def ajd:EC:=dS f216 0
def xC:EC:=ajd
def aem:EF:=aN f216 [([0],[0],xC)]
def JQ:EC:=dS f219 0
def iK:EC:=JQ
def zC:EF:=aN f219 [([0,2,3],[],iK)]
def H9:EF:=aN f221 [] [(0,[7])]
def afq:EC:=dS f232 0 [] [(0,[0,1,4,5]),(1,[0,1,4,5]),(2,[0,1,4,5]),(3,[0,1,5])] [(19,.bf GX),(23,.bf mO),(26,.pU ug),(33,.bf TU),(34,.bf Pe)]
def zL:EC:=afq
def Y1:EF:=aN f232 [([0,1,5],[4],zL)] [] [(7,.bf OL),(9,.bf OL),(12,.bf dV),(13,.bf Pe),(15,.bf dV),(16,.bf Pe)]
def adk:EC:=dS f233 0
def DR:EC:=adk
def WL:EF:=aN f233 [([0,1,5],[4],DR)]
def aja:EC:=dS f234 0 [] [] [(81,.bf Vp)]
def BP:EC:=aja
def ajb:EC:=dS f234 1 [([1,6,7,8,9,10,11,12],[1,6,7,8,9,10],BP)] [] [(57,.bf Vq),(65,.bf Vr)]
def NH:EC:=ajb
def ajc:EC:=dS f234 2
def NI:EC:=ajc
def ael:EF:=aN f234 [([1,6,7,8,9,10],[1,6,7,9],NH),([6,7,9,13,86,87],[9,13],NI)] [] [(24,.bf OJ),(27,.bf OJ)]
def agY:EF:=aN f235
def Wu:EF:=aN f240 [] [(0,[4]),(1,[4]),(3,[5,10]),(4,[5,10]),(5,[5,10]),(6,[4]),(7,[15]),(8,[15]),(9,[15]),(10,[15]),(11,[15]),(12,[15])]
def Wv:EF:=aN f241
def abW:EF:=aN f242
def Qy:EF:=aN f243
def atI:EF:=aN f244
def avU:EF:=aN f245
def XO:EF:=aN f246
def atJ:EF:=aN f247
def aei:EF:=aN f248 [] [(1,[2,6,7,8]),(2,[2,6,7,8]),(3,[2,6,7,8]),(4,[2,6,7,8]),(6,[6])]
def anl:EC:=dS f249 0
def adF:EC:=anl
def apv:EF:=aN f249 [([0,1,2],[6],adF)]
def aq2:EF:=aN f250
def af2:EF:=aN f251 [] [] [(101,.pU qj)]
def apt:EF:=aN f252
def afg:EC:=dS f253 0
def zI:EC:=afg
def afh:EC:=dS f253 1
def zJ:EC:=afh
def YS:EF:=aN f253 [([2,8,9,10,11,13,14,15,16],[2,8,9,10,11,13,14,15],zI),([2,8,9,10,14,15,16,17,18],[2,8,14,15,17,18],zJ)] [(0,[0,1,2]),(1,[0,1,2])]
def aje:EC:=dS f274 0
def G5:EC:=aje
def aen:EF:=aN f274 [([0,3],[0,3],G5)]
def alF:EC:=dS f275 0 [] [(1,[0,3,14,15]),(2,[0,3,14,15])]
def Le:EC:=alF
def agX:EF:=aN f275 [([0,3,14,15],[0],Le)] [] [(6,.bf OL),(47,.bf mO)]
def agW:EF:=aN f276 [] [] [(16,.pU mO)]
def ai':EC:=dS f277 0 [] [(1,[0,1,5,9,10]),(2,[0,1,5,6,7,9,10])]
def GZ:EC:=ai'
def aek:EF:=aN f277 [([0,1,5,9,10],[0],GZ)] [] [(36,.bf mO)]
def ai_:EC:=dS f279 0
def GY:EC:=ai_
def aej:EF:=aN f279 [([1,5,12,13,14],[5],GY)]
def ahq:EC:=dS f280 0
def DT:EC:=ahq
def abY:EF:=aN f280 [([0,5,6,7,8,9],[4],DT)]
def aht:EC:=dS f281 0
def JC:EC:=aht
def ab1:EF:=aN f281 [([0,1,2,7,8,14,15,16],[0,1,7,8],JC)]
def ahp:EC:=dS f282 0
def JA:EC:=ahp
def abX:EF:=aN f282 [([0,1,4,7,8,9],[0,1,4],JA)]
def abP:EF:=aN f283
def Ut:EC:=dS f284 0
def Ea:EC:=Ut
def Vj:EF:=aN f284 [([0,1,7,8],[4],Ea)]
def WA:EF:=aN f285
def Z5:EC:=dS f286 0
def L8:EC:=Z5
def ab4:EF:=aN f286 [([0,1,7,8],[4],L8)]
def avV:EF:=aN f287
def amK:EF:=aN f288
def atL:EF:=aN f289
def afY:EF:=aN f290
def alE:EC:=dS f291 0 [] [(1,[0,1,5,6]),(2,[0,1,5,6])]
def aa6:EC:=alE
def amL:EF:=aN f291 [([0,1,5,6],[5],aa6)]
def alc:EF:=aN f308
end
end Go.Ev.Code
end
section
namespace Go.Ev.Code
open Go Go.Ev Go.Proofs.Tryz
noncomputable section
def afZ:EF:=aN f309 [] [] [(31,.QE [(kN,wF),(lF,mM)]),(52,.eqF false [lF])]
def alb:EF:=aN f310
def ala:EF:=aN f318
def aq1:EF:=aN f319
def amN:EC:=dS f320 0 [] [(1,[0,3]),(2,[0,3])] [(12,.ahU kN (.iy))]
def ac8:EC:=amN
def Wx:EF:=aN f320 [([0,3],[3],ac8)]
def atM:EF:=aN f321 [] [] [(14,.eqF false [lF]),(17,.QE [(JU,fO)])]
def Qu:EF:=aN f324 [] [] [(7,.acF [(kN,true),(lF,false),(JU,false)]),(13,.QE [(kN,jO)])]
def aqW:EC:=dS f325 0
def agK:EC:=aqW
def aqX:EC:=dS f325 1 [([1,2,43,44,45],[6],agK)] [] [(18,.eqF false [lF]),(22,.acF [(kN,true),(lF,false),(JU,false)]),(29,.QE [(kN,Kt)]),(32,.acF [(kN,true),(lF,false),(JU,false)]),(36,.QE [(kN,jO)]),(39,.acF [(kN,false),(lF,false),(JU,false)]),(43,.QE [(kN,jO)])]
def agL:EC:=aqX
def atN:EF:=aN f325 [([0,1,2],[6],agL)]
def ajF:EF:=aN f344 [] [] [(9,.ahU lF (.int .i64 0))]
def Ep:EF:=aN f345
def Hz:EF:=aN f346
end
end Go.Ev.Code
end
