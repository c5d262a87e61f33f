/- A part of the proof of priceWait_card. -/
import Derived.Test.YtlnjbdkgdocjeaaGreatDoorProg
import Derived.Test.YtlnjbdkgdocjeaaGreatDoorCDef
set_option linter.unusedVariables false
section
namespace Go.Ev.Code
open Go.Ev
def nR:Nat:=3
def kQ:Nat:=4
def yG:Nat:=5
def yI:Nat:=6
def gK:Nat:=7
def AB:Nat:=8
def Hy:Nat:=9
def wz:Nat:=10
def oC:Nat:=11
def rE:Nat:=12
def qJ:Nat:=13
def oD:Nat:=14
def DZ:Nat:=15
def OC:Nat:=16
def U8:Nat:=17
def aeB:Nat:=18
def Uk:Nat:=19
def Nh:Nat:=20
def D9:Nat:=21
def xW:Nat:=22
def vF:Nat:=23
def zC:Nat:=24
def aam:Nat:=25
def yH:Nat:=26
def kR:Nat:=27
def oH:Nat:=28
def mX:Nat:=29
def Oc:Nat:=30
def R_:Nat:=31
def rG:Nat:=32
def SK:Nat:=33
def zS:Nat:=34
def xw:Nat:=35
def BQ:Nat:=36
def zQ:Nat:=37
def qF:Nat:=38
def rH:Nat:=39
def oq:Nat:=40
def ru:Nat:=41
def rF:Nat:=42
def zN:Nat:=43
def kS:Nat:=44
def ou:Nat:=45
def BM:Nat:=46
def slices_Reverse_int:Nat:=47
def FU:Nat:=48
def He:Nat:=49
def Wq:Nat:=50
def rD:Nat:=51
def zD:Nat:=52
def TG:Nat:=53
def Yp:Nat:=54
def aeA:Nat:=55
def Nb:Nat:=56
def Js:Nat:=57
def P7:Nat:=58
def vT:Nat:=59
def Qe:Nat:=60
def F9:Nat:=61
def Uu:Nat:=62
def Qn:Nat:=63
def afg:Nat:=64
def D_:Nat:=65
def RD:Nat:=66
def RF:Nat:=67
def KH:Nat:=68
def mD:Nat:=69
def FN:Nat:=70
def NU:Nat:=71
def iw:Nat:=72
def F8:Nat:=73
def xC:Nat:=74
def gV:Nat:=75
def tN:Nat:=76
def fC:Nat:=77
def mZ:Nat:=78
def kF:Nat:=79
def o7:Nat:=80
def mY:Nat:=81
def RZ:Nat:=82
def J8:Nat:=83
def GY:Nat:=84
def vU:Nat:=85
def yF:Nat:=86
def JE:Nat:=87
def qY:Nat:=89
def og:Nat:=90
def F6:Nat:=91
def lq:Nat:=92
def zO:Nat:=93
def uP:Nat:=94
def n_:Nat:=95
def Et:Nat:=96
def ae8:Nat:=97
def zl:Nat:=98
def qR:Nat:=99
def qU:Nat:=100
def vM:Nat:=101
def Qd:Nat:=102
def vK:Nat:=103
def qV:Nat:=104
def Kr:Nat:=105
def Jf:Nat:=106
def uH:Nat:=107
def uK:Nat:=108
def EJ:Nat:=109
def Ou:Nat:=110
def acC:Nat:=111
def Ak:Nat:=112
def D7:Nat:=113
def Yx:Nat:=114
def GL:Nat:=115
def nV:Nat:=116
def aeY:Nat:=117
def CX:Nat:=118
def Pe:Nat:=119
def CU:Nat:=120
def lY:Nat:=121
def yM:Nat:=122
def oM:Nat:=123
def rX:Nat:=124
def uS:Nat:=125
def ql:Nat:=126
def wE:Nat:=127
def yK:Nat:=128
def tK:Nat:=129
def nH:Nat:=130
def qj:Nat:=131
def sW:Nat:=132
def lX:Nat:=133
def lN:Nat:=134
def GZ:Nat:=135
def NW:Nat:=136
def Ob:Nat:=137
def um:Nat:=142
def bits_Mul64:Nat:=143
def bits_Add64:Nat:=144
def jf:Nat:=145
def dF:Nat:=146
def F5:Nat:=147
def fP:Nat:=148
def strings_Repeat:Nat:=149
def slices_Reverse_string:Nat:=150
def strings_Join:Nat:=151
def strings_Cut:Nat:=152
def ae2:Nat:=153
def zI:Nat:=154
def zJ:Nat:=155
def bits_Sub64:Nat:=156
def Ht:Nat:=157
def WJ:Nat:=158
def Eh:Nat:=159
def J6:Nat:=160
def aad:Nat:=161
def KP:Nat:=162
def jD:Nat:=163
def RH:Nat:=164
def Wu:Nat:=165
def mV:Nat:=166
def RI:Nat:=167
def Ws:Nat:=168
def Uw:Nat:=169
def Xa:Nat:=170
def D8:Nat:=171
def TK:Nat:=172
def strings_CutPrefix:Nat:=173
def oP:Nat:=174
def jo:Nat:=175
def U4:Nat:=176
def yP:Nat:=177
def yN:Nat:=178
def sV:Nat:=179
def oW:Nat:=180
def oZ:Nat:=181
def uT:Nat:=182
def Di:Nat:=183
def yJ:Nat:=184
def jP:Nat:=185
def yO:Nat:=186
def uQ:Nat:=187
def uU:Nat:=188
def jh:Nat:=189
def jM:Nat:=190
def CJ:Nat:=193
def iR:Nat:=202
def BK:Nat:=203
def FY:Nat:=204
def nat_bit:Nat:=205
def Jz:Nat:=206
def bits_LeadingZeros64:Nat:=207
def Fj:Nat:=208
def KR:Nat:=209
def KT:Nat:=210
def KQ:Nat:=211
def RQ:Nat:=212
def qL:Nat:=213
def Ko:Nat:=214
def yZ:Nat:=215
def ab5:Nat:=216
def PS:Nat:=217
def Yz:Nat:=218
def YA:Nat:=219
def D5:Nat:=220
def En:Nat:=221
def PZ:Nat:=222
def strconv_Itoa:Nat:=223
def wC:Nat:=232
def yL:Nat:=233
def bits_TrailingZeros64:Nat:=245
def abx:Nat:=247
def V4:Nat:=248
def YB:Nat:=249
def M_:Nat:=250
def D6:Nat:=251
def MZ:Nat:=252
def MX:Nat:=274
def Wp:Nat:=275
def zH:Nat:=276
def YD:Nat:=277
def zk:Nat:=287
def YE:Nat:=288
def qg:Nat:=311
def CV:Nat:=312
def h_:Nat:=313
def jJ:Nat:=314
def dS:Nat:=321
def iU:Nat:=128
def jq:Nat:=141
def Ci:Nat:=247
def hndB:Nat:=16
end Go.Ev.Code
end
section
namespace Go.Ev
def Zl {α:Type}:List α→Nat→α→α
 | [],_,d=>d
 | x::_,0,_=>x
 | _::l,n+1,d=>Zl l n d
structure TC where
 P:Program
 nf:List (List Nat)
 nt:List (Nat×Nat)
 ov:List (Nat×K)
 js:List (Nat×List Nat)
 ns:Bool
 fr:Bool
def TC.vD (C:TC):Value→D
 | .int k n => .int k n
 | .bool b => .bool b
 | .string s => .str s.data.toList
 | .pointer _ => .fZ
 | .slice _ _ _=>bif C.ns then .bJ else .sl 0 []
 | .map _ => .vO
 | .nilIface => .bH
 | _ => .undef
def TC.fn (C:TC) (f:Nat):Nat:=Zl (Zl C.nf (f / 16) []) (f % 16) f
def TC.od (C:TC):Operand→Dp
 | .tmp t => .t t
 | .const v => .k (C.vD v)
 | .func f => .k (.func (C.fn f) [])
 | _ => .k .undef
def TC.z (C:TC) (t:Nat):List D:=match (C.P.info? t).bind (·.zero) with
 | some v=>v.cells.toList.map C.vD
 | _=>[]
def TC.sz (C:TC) (t:Nat):Nat:=(lg C.P t).getD 0
def TC.el (C:TC) (t:Nat):Nat:=(Cj C.P t).getD 0
def TC.off (C:TC) (t f:Nat):Nat:=match C.P.underlying t with
 | some (.struct fs)=>Zl (fs.toList.map (·.offset)) f 0
 | _=>0
def TC.bin (C:TC) (b:BinOp) (t:Nat):K :=
 let n:=match b with | .neq=>true | _=>false
 match C.P.underlying t with
 | some (.int _)=>(match b with | .shl => .sh true | .shr => .sh false | _ => .pK b)
 | some .string => .Ja b
 | some .bool => .eqB n
 | some (.pointer _) => .eqP n
 | some (.interface _) => .eqN n true
 | some (.struct fs) => .eqA n (fs.toList.map fun f=>match C.P.underlying f.type with | some .bool=>0 | some (.int _)=>1 | _=>2)
 | _ => .eqS n
def TC.str (C:TC) (t:Nat):Bool:=match C.P.underlying t with | some .string=>true | _=>false
def TC.op (C:TC) (j:Nat):Op→K×List Operand
 | .move x | .assign x=>(.mov,[x])
 | .pick c a b=>(.pick,[c,a,b])
 | .alloc e=>(.alloc j (C.z e),[])
 | .box _ x=>(.box j,[x])
 | .load t x=>match x with
   | .global _=>(.stop,[])
   | _=>(match QF C.P t with | some true => .Sr (C.sz t) | _ => .Sm,[x])
 | .store t x y=>(.store (C.sz t),[x,y])
 | .build t ps=>(.build (C.z t) (ps.toList.map fun p=>(placesOf C.P t p.1).getD (0,0)),ps.toList.map (·.2))
 | .buildSlice t n ps=>(.bsl (C.sz (C.el t)) n (C.z (C.el t)) (ps.toList.map fun p=>(p.1*C.sz (C.el t),C.sz (C.el t))),ps.toList.map (·.2))
 | .nilCheck x=>(.WL,[x])
 | .binOp b t x y _=>(C.bin b t,[x,y])
 | .unOp u _ x=>(match u with | .neg => .neg | .not => .not | _ => .inv,[x])
 | .convert s d x=>(match C.P.underlying d with | some (.int k) => .conv k | _ => .b2s,[x])
 | .makeInterface t x=>(.acg ((qH C.nt t).getD t),[x])
 | .makeFunc (.func f) _ c=>(.acf (C.fn f),c.toList)
 | .makeMap _ _=>(.mkm j,[])
 | .makeSlice t x y=>(.WG j (C.sz (C.el t)) (C.z (C.el t)),[x,y])
 | .slice t x l h _=>(bif C.str t then .slS l.isSome h.isSome else .slL (C.sz (C.el t)) l.isSome h.isSome,x::(l.toList++h.toList))
 | .fieldAddr t x f=>(.abD (C.off t f),[x])
 | .field t x f=>(.fld (C.off t f),[x])
 | .indexAddr t x y=>(match C.P.underlying t with | some (.array n e) => .Wv (C.sz e) n | _ => .ab6 (C.sz (C.el t)),[x,y])
 | .index _ x y=>(.ab7,[x,y])
 | .lookup _ x y _=>(.Zd,[x,y])
 | .mapUpdate _ x y z=>(.aci,[x,y,z])
 | .typeAssert x _ _ _=>(.stop,[x])
 | .extract x i=>(.ext i,[x])
 | .call c=>match c.callee with
   | .value (.func f)=>(.RJ (C.fn f),c.args.toList)
   | .value g=>(.VT,g::c.args.toList)
   | .invoke r _=>(.stop,r::c.args.toList)
   | .builtin b=>(match b with
     | .len=>bif C.str (Zl c.argTypes.toList 0 0) then .acd else .ab_
     | .min => .mn
     | .max => .mx
     | _ => .app j (C.sz (C.el (Zl c.argTypes.toList 0 0))),c.args.toList)
 | _=>(.stop,[])
def K.js:K→Nat
 | .alloc .. | .box _ | .VR .. | .WG .. | .app .. | .mkm _=>1
 | _=>0
def TC.op2 (C:TC) (j:Nat) (o:Oper):K×List Operand:=match o.dst with
 | some d=>match qH C.ov d with
   | some k=>(k,(C.op j o.op).2)
   | _=>C.op j o.op
 | _=>C.op j o.op
def TC.eo (C:TC) (all:List Oper) (o:Oper) (r:K×List Operand):EO :=
 ⟨r.1,r.2.map C.od,o.dst,match o.guard with
   | some (i,b)=>match Zl (all.map (·.dst)) i none with | some t=>some (t,b) | _=>none
   | _=>none⟩
def TC.go (C:TC) (all:List Oper):List (Nat×Oper)→Nat→List (Nat×EO)
 | [],_=>[]
 | (i,o)::os,j=>(i,C.eo all o (C.op2 j o))::C.go all os (j+(C.op2 j o).1.js)
def TC.cnt (C:TC):List (Nat×Oper)→Nat
 | []=>0
 | (_,o)::os=>(C.op2 0 o).1.js+C.cnt os
def zi {α:Type}:List α→Nat→List (Nat×α)
 | [],_=>[]
 | x::l,i=>(i,x)::zi l (i+1)
def TC.uses (C:TC) (all:List Oper) (o:Oper) (d:Nat):Bool :=
 (C.op 0 o.op).2.any (fun x=>match x with | .tmp t=>Nat.beq t d | _=>false) || (match (C.eo all o (.stop,[])).guard with | some (t,_)=>Nat.beq t d | _=>false)
def aw' (o:Oper):Bool:=match o.op with | .alloc _=>true | _=>false
def TC.ord (C:TC) (all:List Oper):List (Nat×Oper)→List (Nat×Oper)→List (Nat×Oper)
 | [],p=>p
 | o::os,p=>bif aw' o.2 then C.ord all os (p++[o]) else
   p.filter (fun q=>C.uses all o.2 (q.2.dst.getD 0))++o::C.ord all os (p.filter fun q => !C.uses all o.2 (q.2.dst.getD 0))
def TC.rg (C:TC) (os:List Oper) (d:Bool):EC :=
 bif d then .drawn (C.cnt (zi os 0)) (C.go os (C.ord os (zi os 0) []) 0) else .region (C.cnt (zi os 0)) ((C.go os (zi os 0) 0).map (·.2))
abbrev LT:=List Nat×List Nat×EC
def TC.jn (C:TC) (n:Nat) (c:EC):EC:=match qH C.js n with
 | some l => .join l c
 | _=>c
def TC.tr {α:Type} (C:TC) (rs:List Nat):Code→Nat→List LT→(EC→Nat→List LT→α)→α
 | .skip,n,ls,k=>k .skip n ls
 | .ret,n,ls,k=>k (bif C.fr then .frz rs .ret else .ret) n ls
 | .exit i,n,ls,k=>k (.exit i) n ls
 | .region _ os d,n,ls,k=>k (C.rg os.toList d) n ls
 | .seq a b,n,ls,k=>C.tr rs a n ls fun x n ls=>C.tr rs b n ls fun y n ls=>k (.seq x y) n ls
 | .cond o a b,n,ls,k=>C.tr rs a (n+1) ls fun x m ls=>C.tr rs b m ls fun y m ls=>k (C.jn n (.cond (C.od o) x y)) m ls
 | .block i a,n,ls,k=>C.tr rs a (n+1) ls fun x m ls=>k (C.jn n (.block i x)) m ls
 | .loop _,n,ls,k=>match ls with
   | l::ls=>k (.loop l.1 l.2.1 l.2.2) n ls
   | []=>k .skip n []
 | _,n,ls,k=>k .skip n ls
def lps:Code→List Code
 | .seq a b=>lps a++lps b
 | .cond _ a b=>lps a++lps b
 | .block _ a=>lps a
 | .loop a=>lps a++[a]
 | _=>[]
def PO:Code→Bool
 | .seq a b=>PO a || PO b
 | .cond _ a b=>PO a || PO b
 | .block _ a=>PO a
 | .loop a=>PO a
 | .region _ os _=>os.toList.any fun o=>match o.op with | .call ⟨.builtin .append,_,_⟩=>true | _=>false
 | _=>false
def rsT:ResultVar→Nat
 | .tmp t=>t
 | .cell t _=>t
def upTo:Nat→List Nat→List Nat
 | 0,l=>l
 | n+1,l=>upTo n (n::l)
def ah5 (f:Func):Code:=f.body.getD .skip
def TC.ef (C:TC) (f:Func) (ls:List LT):EF :=
 ⟨upTo (f.params.size+f.nfree) [],f.results.toList.map fun r=>match r with
  | .tmp t => .tmp t
  | .cell t T => .cell t (match QF C.P T with | some true=>true | _=>false) (C.sz T),C.tr (f.results.toList.map rsT) (ah5 f) 0 ls fun c _ _=>c⟩
def TC.lp (C:TC) (f:Func) (i:Nat) (ls:List LT):EC :=
 C.tr (f.results.toList.map rsT) (Zl (lps (ah5 f)) i .skip) 0 ls fun c _ _=>c
def TC.of (P:Program) (nf:List (List Nat)) (nt:List (Nat×Nat)) (f:Func) (ov:List (Nat×K)) (js:List (Nat×List Nat)) (fr:Bool):TC:=⟨P,nf,nt,ov,js,PO (ah5 f),fr⟩
end Go.Ev
end
section
namespace Go.Ev.Code
open Go Go.Ev
def NF:List (List Nat):=[[0,1,2,nR,kQ,yG,yI,gK,AB,Hy,wz,oC,rE,qJ,oD,DZ],
 [OC,U8,aeB,Uk,Nh,D9,xW,vF,zC,aam,yH,kR,oH,mX,Oc,R_],
 [rG,SK,zS,xw,BQ,zQ,qF,rH,oq,ru,rF,zN,kS,ou,BM,slices_Reverse_int],
 [FU,He,Wq,rD,zD,TG,Yp,aeA,Nb,Js,P7,vT,Qe,F9,Uu,Qn],
 [afg,D_,RD,RF,KH,mD,FN,NU,iw,F8,xC,gV,tN,fC,mZ,kF],
 [o7,mY,RZ,J8,GY,vU,yF,JE,88,qY,og,F6,lq,zO,uP,n_],
 [Et,ae8,zl,qR,qU,vM,Qd,vK,qV,Kr,Jf,uH,uK,EJ,Ou,acC],
 [Ak,D7,Yx,GL,nV,aeY,CX,Pe,CU,lY,yM,oM,rX,uS,ql,wE],
 [yK,tK,nH,qj,sW,lX,lN,GZ,NW,Ob,138,139,140,141,um,bits_Mul64],
 [bits_Add64,jf,dF,F5,fP,strings_Repeat,slices_Reverse_string,strings_Join,strings_Cut,ae2,zI,zJ,bits_Sub64,Ht,WJ,Eh],
 [J6,aad,KP,jD,RH,Wu,mV,RI,Ws,Uw,Xa,D8,TK,strings_CutPrefix,oP,jo],
 [U4,yP,yN,sV,oW,oZ,uT,Di,yJ,jP,yO,uQ,uU,jh,jM,191],
 [192,CJ,194,195,196,197,198,199,200,201,iR,BK,FY,nat_bit,Jz,bits_LeadingZeros64],
 [Fj,KR,KT,KQ,RQ,qL,Ko,yZ,ab5,PS,Yz,YA,D5,En,PZ,strconv_Itoa],
 [224,225,226,227,228,229,230,231,wC,yL,234,235,236,237,238,239],
 [240,241,242,243,244,bits_TrailingZeros64,246,abx,V4,YB,M_,D6,MZ,253,254,255],
 [256,257,258,259,260,261,262,263,264,265,266,267,268,269,270,271],
 [272,273,MX,Wp,zH,YD,278,279,280,281,282,283,284,285,286,zk],
 [YE,289,290,291,292,293,294,295,296,297,298,299,300,301,302,303],
 [304,305,306,307,308,309,310,qg,CV,h_,jJ,315,316,317,318,319],
 [320,dS,322,323,324,325,326,327,328,329,330,331,332,333,334,335]]
def NT:List (Nat×Nat):=[(128,iU),(141,jq),(247,Ci)]
noncomputable def aN (f:Func) (ls:List LT:=[]) (js:List (Nat×List Nat):=[]) (ov:List (Nat×K):=[]):EF:=(TC.of Go.Proofs.Tryz.prog NF NT f ov js false).ef f ls
noncomputable def trZ (f:Func) (ls:List LT:=[]) (js:List (Nat×List Nat):=[]) (ov:List (Nat×K):=[]):EF:=(TC.of Go.Proofs.Tryz.prog NF NT f ov js true).ef f ls
noncomputable def dN (f:Func) (i:Nat) (ls:List LT:=[]) (js:List (Nat×List Nat):=[]) (ov:List (Nat×K):=[]):EC:=(TC.of Go.Proofs.Tryz.prog NF NT f ov js false).lp f i ls
end Go.Ev.Code
end
section
namespace Go.Ev.Code
open Go Go.Ev Go.Proofs.Tryz
noncomputable section
def sH:EF:=aN f3
def Wn:EF:=aN f4
def A8:EF:=aN f5
def Ba:EF:=aN f6
def Ik:EC:=dN f7 0
def jB:EC:=Ik
def Il:EC:=dN f7 1
def iF:EC:=Il
def Ae:EF:=aN f7 [([1,4,5],[1,4],jB),([1,4,8,9],[1,4,8],iF)] [] [(85,.VR 0 2 1 [.int .i64 0,.int .i64 0] [(0,2)])]
def K_:EC:=dN f8 0
def oG:EC:=K_
def DI:EF:=aN f8 [([0,1,5],[4],oG)]
def PK:EF:=aN f9 [] [(4,[13])]
def Ac:EF:=aN f10
def Jq:EF:=aN f11
def MP:EF:=aN f12
def vH:EF:=aN f13
def Jr:EF:=aN f14
def XY:EF:=aN f15
def adN:EC:=dN f16 0
def C_:EC:=adN
def YT:EF:=aN f16 [([1,6,7,8,9,27,28,29],[1,6,7,8],C_)] [(3,[2,3,8]),(4,[2,3,8]),(5,[8])] [(19,.aU BM),(24,.aU slices_Reverse_int)]
def adh:EC:=dN f17 0 [] [(1,[1,2,3,4,6,7,21,22,23]),(2,[1,2,3,4,6,7,8,9,10,21,22,23]),(4,[1,4,6,7,9,10,21,22,23])]
def qG:EC:=adh
def YN:EF:=aN f17 [([1,4,6,7,21,22,23],[2,3,7],qG)]
def aoc:EF:=aN f18
def ahe:EF:=aN f19
def adf:EF:=aN f20
def X7:EF:=aN f21
def Pq:EF:=aN f22
def LV:EF:=aN f23 [] [(0,[2]),(1,[1,5]),(2,[1,5]),(3,[1,5])]
def LU:EF:=aN f24
def YS:EF:=aN f25 [] [] [(7,.nM iw)]
def A_:EF:=aN f26
def yc:EF:=aN f27
def Gf:EC:=dN f28 0 [] [(1,[1,2,3,4,6,7]),(3,[1,4,6,7,8])]
def dY:EC:=Gf
def yh:EF:=aN f28 [([1,4,6,7],[2,3,6],dY)]
def wP:EF:=aN f29
def PL:EF:=aN f30
def YX:EC:=dN f31 0
def BF:EC:=YX
def TS:EF:=aN f31 [([2,3,4,14,77,78,79],[14],BF)] [(1,[2,3,4,5,8,9,12])]
def MR:EF:=aN f32
def Uc:EF:=aN f33
def MW:EF:=aN f34 [] [] [(13,.nM rD)]
def Jo:EF:=aN f35
def abC:EF:=aN f36
def MS:EF:=aN f37
def MV:EF:=aN f39
def Jl:EF:=aN f40
def MJ:EF:=aN f41
def MQ:EF:=aN f42
def MI:EF:=aN f43
def yj:EF:=aN f44
def Jm:EF:=aN f45
def SE:EC:=dN f46 0
def oU:EC:=SE
def Jp:EF:=aN f46 [([1,5,6],[2,3,4],oU)]
def Gp:EC:=dN f47 0
def gZ:EC:=Gp
def yx:EF:=aN f47 [([0,2,3],[],gZ)]
def TQ:EF:=aN f48
def Ji:EF:=aN f49
def V6:EF:=aN f50
def MO:EF:=aN f51
def LW:EF:=aN f52
def ahb:EF:=aN f53
def akA:EF:=aN f54
def aob:EF:=aN f55
def acr:EC:=dN f56 0
def Qc:EC:=acr
def ade:EF:=aN f56 [([1,2,6,7,10,39,40,41],[1,2,6,7,10],Qc)] [(3,[4,5,10])]
def V5:EF:=aN f57
def abB:EF:=aN f58
def MH:EF:=aN f59
def adR:EC:=dN f60 0 [] [(1,[1,2,8,9,10,11,12]),(2,[1,2,8,9,10,11,12])]
def SL:EC:=adR
def aeO:EF:=aN f60 [([1,2,8,9,10,11,12],[9,10,11],SL)]
def YU:EF:=aN f61
def afh:EC:=dN f62 0
def Vu:EC:=afh
def afi:EC:=dN f62 1
def Vw:EC:=afi
def ahf:EF:=aN f62 [([0,1,2,8,21,22,23],[0,1,2,8],Vu),([0,1,2,8,13,14,15,16],[13,14],Vw)]
def ad4:EC:=dN f63 0
def Td:EC:=ad4
def aeP:EF:=aN f63 [([1,2,5,9,10,34,35,36],[1,2,5,9,10],Td)] [(1,[10])]
def aog:EF:=aN f64
def X8:EF:=aN f65
def TL:EF:=aN f66
def TM:EF:=aN f67
def TN:EF:=aN f68
def G8:EF:=aN f69
def YH:EF:=aN f70
def Pv:EF:=aN f71
def vg:EC:=dN f72 0
def fO:EC:=vg
def mG:EF:=aN f72 [([0,1,7,8],[4],fO)]
def Ub:EF:=aN f73
def E8:EF:=aN f74
def BR:EC:=dN f75 0 [] [(1,[1,8,9]),(2,[1,8,9])]
def eU:EC:=BR
def BU:EC:=dN f75 1 [] [(1,[1,8,9]),(2,[1,8,9])]
def gW:EC:=BU
def tY:EF:=aN f75 [([1,8,9],[1,8,9],eU),([1,8,9],[8,9],gW)] [(3,[8])]
def wR:EF:=aN f76 [] [(0,[2]),(1,[1,5]),(2,[1,5]),(3,[1,5])]
def wU:EF:=aN f77
def wV:EF:=aN f78
def Bc:EF:=aN f79
def DV:EF:=aN f80
def wS:EF:=aN f81
def YW:EC:=dN f82 0
def BD:EC:=YW
def TR:EF:=aN f82 [([1,2,6],[1,2,6],BD)] [(3,[4,5,6])] [(10,.aU U8)]
def U9:EC:=dN f83 0
def gU:EC:=U9
def L6:EF:=aN f83 [([2,3,6,7],[4,5,6],gU)]
end
end Go.Ev.Code
end
section
namespace Go.Ev.Code
open Go Go.Ev Go.Proofs.Tryz
noncomputable section
def Py:EF:=aN f84 [] [(4,[0,1,2,5,15]),(5,[0,1,2,5,15]),(6,[0,1,2,5,15])]
def MK:EF:=aN f85
def PG:EF:=aN f86
def Wj:EF:=aN f87
def MG:EF:=aN f89
def Jk:EF:=aN f90
def YR:EF:=aN f91
def Ve:EC:=dN f92 0
def wZ:EC:=Ve
def Vf:EC:=dN f92 1 [([6,7,8,9,10,26,27,28,33,34,35],[6,7,8,10,26,27,28],wZ)]
def w_:EC:=Vf
def Me:EF:=aN f92 [([6,7,26,27,28],[7],w_)] [] [(85,.nM jf)]
def ML:EF:=aN f93
def Gg:EC:=dN f94 0
def jc:EC:=Gg
def yt:EF:=aN f94 [([1,2,5],[4],jc)]
def SB:EC:=dN f95 0 [] [(1,[3,4]),(2,[3,4,6])] [(15,.nM F5),(19,.nM jf)]
def lM:EC:=SB
def Jj:EF:=aN f95 [([3,4],[3],lM)] [] [(9,.aU dF),(42,.aU slices_Reverse_string),(44,.nM strings_Join)]
def MN:EF:=aN f96
def aof:EF:=aN f97 [] [(0,[0,4,5])]
def abA:EF:=aN f98
def Vd:EC:=dN f99 0 [] [(1,[5,6,7,8,27,28]),(2,[5,6,7,8,9,10,27,28])]
def rU:EC:=Vd
def L9:EF:=aN f99 [([5,6,7,8,27,28],[5,7,8],rU)] [(0,[5,6])] [(59,.nM jf)]
def L_:EF:=aN f100
def Vh:EC:=dN f101 0 [] [(1,[6,7,8,9,25,26]),(2,[6,7,8,9,10,11,25,26])]
def xg:EC:=Vh
def MC:EF:=aN f101 [([6,7,8,9,25,26],[8],xg)] [] [(52,.nM jf)]
def adP:EC:=dN f102 0
def SH:EC:=adP
def adQ:EC:=dN f102 1
def SI:EC:=adQ
def aeN:EF:=aN f102 [([0,4,18,19,20],[0,4],SH),([4,11,43,44,45],[4,11],SI)]
def Md:EF:=aN f103 [] [(0,[0,1])]
def Mc:EF:=aN f104
def ahd:EF:=aN f105 [] [(1,[1,7,8,10])]
def ac6:EC:=dN f106 0
def G5:EC:=ac6
def YJ:EF:=aN f106 [([1,4,5],[4],G5)]
def Xq:EC:=dN f107 0
def zf:EC:=Xq
def Xr:EC:=dN f107 1
def zh:EC:=Xr
def Pz:EF:=aN f107 [([0,2,4],[0,2,4],zf),([2,4,5],[2,4,5],zh)]
def TU:EF:=aN f108
def ac_:EF:=aN f109
def acV:EC:=dN f110 0
def GN:EC:=acV
def acW:EC:=dN f110 1 [] [(1,[6,10,11,47,48,49]),(2,[6,10,11,47,48,49])]
def GR:EC:=acW
def acX:EC:=dN f110 2 [([6,10,11,47,48,49],[6,47,48,49],GR)]
def CP:EC:=acX
def YI:EF:=trZ f110 [([0,6,35,36,37],[0,6],GN),([6,47,48,49],[6],CP)]
def amw:EF:=aN f111 [] [(2,[8]),(3,[0,1,8]),(5,[0,1,8])]
def U6:EF:=aN f112
def X5:EF:=aN f113
def akD:EF:=aN f114
def aeK:EF:=aN f115 [] [(0,[0,1,4]),(1,[0,1,7]),(2,[0,1,7])]
def Jh:EF:=aN f116
def amG:EC:=dN f117 0
def adp:EC:=amG
def aod:EF:=aN f117 [([1,2,5,7],[4],adp)]
def PD:EF:=aN f118
def YL:EF:=aN f120 [] [(1,[6,8,13])]
def Io:EC:=dN f121 0
def lQ:EC:=Io
def Ip:EC:=dN f121 1
def lS:EC:=Ip
def Aj:EF:=aN f121 [([0,2,3],[0,2,3],lQ),([0,2,3],[0,2,3],lS)]
def Bq:EF:=aN f122
def yw:EF:=aN f123 [] [(0,[4]),(1,[0,5,6]),(2,[0,5,6]),(3,[0,5,6]),(4,[0,5,6]),(5,[0,5,6]),(6,[0,5,6]),(7,[4]),(8,[0,5,14]),(9,[0,5,14]),(10,[0,5,14])]
def NJ:EC:=dN f124 0
def qm:EC:=NJ
def NK:EC:=dN f124 1
def qo:EC:=NK
def E_:EF:=aN f124 [([1,4,5],[1,4],qm),([1,4,6],[1,4],qo)]
def Gh:EC:=dN f125 0
def fD:EC:=Gh
def Gi:EC:=dN f125 1
def dK:EC:=Gi
def yu:EF:=aN f125 [([0,2,5,6,7],[0,2,5,6,7],fD),([2,5,6,8,9,11],[2,3,4,6,8,9],dK)] [(0,[0,2,5,6])]
def Ai:EF:=aN f126
def Ag:EF:=aN f127
def Bj:EF:=aN f128
def wQ:EF:=aN f129
def Bf:EF:=aN f130
def Ij:EC:=dN f131 0 [] [(1,[2,3,4,5,8,9,12,13]),(3,[2,3,4,5,8,12,14])]
def dW:EC:=Ij
def Ad:EF:=aN f131 [([2,3,4,5,8,12,13],[8,9,12],dW)]
def Bh:EF:=aN f132
def Ah:EF:=aN f133
def Ld:EC:=dN f134 0 [] [(1,[0,1,5,6,7,8]),(2,[0,1,5,6,8,9])]
def kT:EC:=Ld
def Le:EC:=dN f134 1 [([0,1,5,6,7,8],[0,1,5,6],kT)]
def oJ:EC:=Le
def DN:EF:=aN f134 [([0,1,5,6],[5],oJ)] [] [(73,.nM jh)]
def Jg:EF:=aN f135
def Px:EF:=aN f136
def Xy:EC:=dN f137 0
def uq:EC:=Xy
def PI:EF:=aN f137 [([1,2,6],[4,5],uq)]
def G9:EF:=aN f142
def aa9:EC:=dN f145 0
def qX:EC:=aa9
def Wh:EF:=aN f145 [([0],[0],qX)]
def Zh:EC:=dN f147 0
def BI:EC:=Zh
def T_:EF:=aN f147 [([0,1,6,7,8],[6,7],BI)]
def Cc:EC:=dN f150 0
def eY:EC:=Cc
def tZ:EF:=aN f150 [([0,2,3],[],eY)]
def aoe:EF:=aN f153
def adE:EC:=dN f154 0
def uM:EC:=adE
def YO:EF:=aN f154 [([0,5,6,7],[5],uM)]
def Vj:EC:=dN f155 0
def xk:EC:=Vj
def MF:EF:=aN f155 [([0,1,5],[4],xk)]
def Xx:EC:=dN f157 0 [] [(0,[0,1,4,5]),(1,[0,1,4,5]),(2,[0,1,4,5]),(3,[0,1,5])] [(19,.aU zJ),(23,.aU jf),(26,.nM lq),(33,.aU Jz),(34,.aU FY)]
def uo:EC:=Xx
def PE:EF:=aN f157 [([0,1,5],[4],uo)] [] [(7,.aU BK),(9,.aU BK),(12,.aU dF),(13,.aU FY),(15,.aU dF),(16,.aU FY)]
def aa6:EC:=dN f158 0 [] [] [(81,.aU KQ)]
def vN:EC:=aa6
def aa7:EC:=dN f158 1 [([1,6,7,8,9,10,11,12],[1,6,7,8,9,10],vN)] [] [(57,.aU KR),(65,.aU KT)]
def Eo:EC:=aa7
def aa8:EC:=dN f158 2
def Ep:EC:=aa8
def V_:EF:=aN f158 [([1,6,7,8,9,10],[1,6,7,9],Eo),([6,7,9,13,86,87],[9,13],Ep)] [] [(24,.aU Fj),(27,.aU Fj)]
def LX:EF:=aN f159 [] [(0,[4]),(1,[4]),(3,[5,10]),(4,[5,10]),(5,[5,10]),(6,[4]),(7,[15]),(8,[15]),(9,[15]),(10,[15]),(11,[15]),(12,[15])]
def LY:EF:=aN f160
def YK:EF:=aN f161
def TV:EF:=aN f162
def G_:EF:=aN f163
def akB:EF:=aN f164
def amu:EF:=aN f165
def NY:EF:=aN f166
def akC:EF:=aN f167
def V7:EF:=aN f168 [] [(1,[2,6,7,8]),(2,[2,6,7,8]),(3,[2,6,7,8]),(4,[2,6,7,8]),(6,[6])]
def afj:EC:=dN f169 0
def Vx:EC:=afj
def ahg:EF:=aN f169 [([0,1,2],[6],Vx)]
def aiC:EF:=aN f170
def X6:EF:=aN f171 [] [] [(101,.nM oC)]
def ahc:EF:=aN f172
def YM:EF:=aN f176
def BA:EF:=aN f177
def Bv:EF:=aN f178
def IV:EC:=dN f179 0
def gG:EC:=IV
def IW:EC:=dN f179 1 [([0,4,5,6,7],[0,2,3,4,5,6],gG)]
def eu:EC:=IW
def Bg:EF:=aN f179 [([0,4,5],[2,3,4],eu)] [] [(63,.nM jh)]
def La:EC:=dN f180 0 [] [(1,[0,1,5,6,7]),(2,[0,1,5,6,7]),(3,[0,1,5,6,7])]
def fJ:EC:=La
def DJ:EF:=aN f180 [([0,1,5,6,7],[5],fJ)]
end
end Go.Ev.Code
end
section
namespace Go.Ev.Code
open Go Go.Ev Go.Proofs.Tryz
noncomputable section
def Lh:EC:=dN f181 0
def fK:EC:=Lh
def DR:EF:=aN f181 [([0,3],[3],fK)]
def Lj:EC:=dN f182 0
def oK:EC:=Lj
def DT:EF:=aN f182 [([0,1,5,6],[5],oK)]
def E5:EF:=aN f183
def Bd:EF:=aN f184
def DL:EF:=aN f185
def Bz:EF:=aN f186
def Lc:EC:=dN f187 0
def oI:EC:=Lc
def DK:EF:=aN f187 [([0,1,5],[4],oI)]
def Ll:EC:=dN f188 0
def oL:EC:=Ll
def Lm:EC:=dN f188 1 [([1,5,6,7],[1,5,6,7],oL)] [(1,[1,5,6])]
def kU:EC:=Lm
def DU:EF:=aN f188 [([1,5,6],[5],kU)] [] [(65,.nM jh)]
def IX:EC:=dN f189 0
def jR:EC:=IX
def Bl:EF:=aN f189 [([0],[0],jR)]
def Xn:EC:=dN f193 0
def ug:EC:=Xn
def Xo:EC:=dN f193 1
def uh:EC:=Xo
def Po:EF:=aN f193 [([2,8,9,10,11,13,14,15,16],[2,8,9,10,11,13,14,15],ug),([2,8,9,10,14,15,16,17,18],[2,8,14,15,17,18],uh)] [(0,[0,1,2]),(1,[0,1,2])]
def aa_:EC:=dN f203 0
def zM:EC:=aa_
def Wi:EF:=aN f203 [([0,3],[0,3],zM)]
def adG:EC:=dN f204 0 [] [(1,[0,3,14,15]),(2,[0,3,14,15])]
def CZ:EC:=adG
def YQ:EF:=aN f204 [([0,3,14,15],[0],CZ)] [] [(6,.aU BK),(47,.aU jf)]
def YP:EF:=aN f205 [] [] [(16,.nM jf)]
def aa5:EC:=dN f206 0 [] [(1,[0,1,5,9,10]),(2,[0,1,5,6,7,9,10])]
def zL:EC:=aa5
def V9:EF:=aN f206 [([0,1,5,9,10],[0],zL)] [] [(36,.aU jf)]
def aa4:EC:=dN f208 0
def zK:EC:=aa4
def V8:EF:=aN f208 [([1,5,12,13,14],[5],zK)]
def Zg:EC:=dN f209 0
def xq:EC:=Zg
def TY:EF:=aN f209 [([0,5,6,7,8,9],[4],xq)]
def Zj:EC:=dN f210 0
def BJ:EC:=Zj
def Ua:EF:=aN f210 [([0,1,2,7,8,14,15,16],[0,1,7,8],BJ)]
def Zf:EC:=dN f211 0
def BH:EC:=Zf
def TW:EF:=aN f211 [([0,1,4,7,8,9],[0,1,4],BH)]
def TP:EF:=aN f212
def JX:EC:=dN f213 0
def xI:EC:=JX
def KN:EF:=aN f213 [([0,1,7,8],[4],xI)]
def L8:EF:=aN f214
def QN:EC:=dN f215 0
def Dv:EC:=QN
def Ud:EF:=aN f215 [([0,1,7,8],[4],Dv)]
def amv:EF:=aN f216
def aeL:EF:=aN f217
def akE:EF:=aN f218
def akF:EF:=aN f219
def XZ:EF:=aN f220
def Vg:EC:=dN f221 0 [] [(1,[1,5,6]),(2,[1,5,6]),(3,[1,5,6])]
def rV:EC:=Vg
def MB:EF:=aN f221 [([1,5,6],[5],rV)]
def adF:EC:=dN f222 0 [] [(1,[0,1,5,6]),(2,[0,1,5,6])]
def SA:EC:=adF
def aeM:EF:=aN f222 [([0,1,5,6],[5],SA)]
def Af:EF:=aN f232
def Bo:EF:=aN f233
def ams:EF:=aN f247
def aiA:EF:=aN f248 [] [(0,[0,1,5]),(1,[0,5]),(2,[5])]
def akG:EF:=aN f249 [] [(0,[0,7])]
def adb:EF:=aN f250
def X4:EF:=aN f251 [] [] [(31,.Hg [(iU,qg),(jq,jJ)]),(52,.eqF false [jq])]
def ada:EF:=aN f252
def ac':EF:=aN f274
def aiB:EF:=aN f275
def aeQ:EC:=dN f276 0 [] [(1,[0,3]),(2,[0,3])] [(12,.ZQ iU (.fZ))]
def U7:EC:=aeQ
def LZ:EF:=aN f276 [([0,3],[3],U7)]
def akH:EF:=aN f277 [] [] [(14,.eqF false [jq]),(17,.Hg [(Ci,dS)])]
def G7:EF:=aN f287 [] [] [(7,.UE [(iU,true),(jq,false),(Ci,false)]),(13,.Hg [(iU,h_)])]
def aiv:EC:=dN f288 0
def YF:EC:=aiv
def aiw:EC:=dN f288 1 [([1,2,43,44,45],[6],YF)] [] [(18,.eqF false [jq]),(22,.UE [(iU,true),(jq,false),(Ci,false)]),(29,.Hg [(iU,CV)]),(32,.UE [(iU,true),(jq,false),(Ci,false)]),(36,.Hg [(iU,h_)]),(39,.UE [(iU,false),(jq,false),(Ci,false)]),(43,.Hg [(iU,h_)])]
def YG:EC:=aiw
def akI:EF:=aN f288 [([0,1,2],[6],YG)]
def abz:EF:=aN f312 [] [] [(9,.ZQ jq (.int .i64 0))]
def x9:EF:=aN f313
def Aa:EF:=aN f314
end
end Go.Ev.Code
end
