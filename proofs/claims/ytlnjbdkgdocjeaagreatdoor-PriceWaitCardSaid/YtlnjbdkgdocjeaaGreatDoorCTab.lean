/- A part of the proof of priceWait_card. -/
import Derived.Test.YtlnjbdkgdocjeaaGreatDoorCCodeA
import Derived.Test.YtlnjbdkgdocjeaaGreatDoorCFlat
set_option linter.unusedVariables false
section
namespace Go.Ev.Code
open Go.Ev
noncomputable def ft0:List (Nat×EF):=[(nR,sH),(kQ,Wn),(yG,A8),(yI,Ba),(gK,Ae),(AB,DI),(Hy,PK),(wz,Ac),(oC,Jq),(rE,MP),(qJ,vH),(oD,Jr),(DZ,XY),(OC,YT),(U8,YN),(aeB,aoc),(Uk,ahe),(Nh,adf),(D9,X7),(xW,Pq),(vF,LV),(zC,LU),(aam,YS),(yH,A_),(kR,yc),(oH,yh),(mX,wP),(Oc,PL),(R_,TS),(rG,MR),(SK,Uc),(zS,MW),(xw,Jo),(BQ,abC),(zQ,MS),(rH,MV),(oq,Jl),(ru,MJ),(rF,MQ),(zN,MI)]
noncomputable def ft1:List (Nat×EF):=[(kS,yj),(ou,Jm),(BM,Jp),(slices_Reverse_int,yx),(FU,TQ),(He,Ji),(Wq,V6),(rD,MO),(zD,LW),(TG,ahb),(Yp,akA),(aeA,aob),(Nb,ade),(Js,V5),(P7,abB),(vT,MH),(Qe,aeO),(F9,YU),(Uu,ahf),(Qn,aeP),(afg,aog),(D_,X8),(RD,TL),(RF,TM),(KH,TN),(mD,G8),(FN,YH),(NU,Pv),(iw,mG),(F8,Ub),(xC,E8),(gV,tY),(tN,wR),(fC,wU),(mZ,wV),(kF,Bc),(o7,DV),(mY,wS),(RZ,TR),(J8,L6)]
noncomputable def ft2:List (Nat×EF):=[(GY,Py),(vU,MK),(yF,PG),(JE,Wj),(qY,MG),(og,Jk),(F6,YR),(lq,Me),(zO,ML),(uP,yt),(n_,Jj),(Et,MN),(ae8,aof),(zl,abA),(qR,L9),(qU,L_),(vM,MC),(Qd,aeN),(vK,Md),(qV,Mc),(Kr,ahd),(Jf,YJ),(uH,Pz),(uK,TU),(EJ,ac_),(Ou,YI),(acC,amw),(Ak,U6),(D7,X5),(Yx,akD),(GL,aeK),(nV,Jh),(aeY,aod),(CX,PD),(CU,YL),(lY,Aj),(yM,Bq),(oM,yw),(rX,E_),(uS,yu)]
noncomputable def ft3:List (Nat×EF):=[(ql,Ai),(wE,Ag),(yK,Bj),(tK,wQ),(nH,Bf),(qj,Ad),(sW,Bh),(lX,Ah),(lN,DN),(GZ,Jg),(NW,Px),(Ob,PI),(um,G9),(jf,Wh),(F5,T_),(slices_Reverse_string,tZ),(ae2,aoe),(zI,YO),(zJ,MF),(Ht,PE),(WJ,V_),(Eh,LX),(J6,LY),(aad,YK),(KP,TV),(jD,G_),(RH,akB),(Wu,amu),(mV,NY),(RI,akC),(Ws,V7),(Uw,ahg),(Xa,aiC),(D8,X6),(TK,ahc),(U4,YM),(yP,BA),(yN,Bv),(sV,Bg),(oW,DJ)]
noncomputable def ft4:List (Nat×EF):=[(oZ,DR),(uT,DT),(Di,E5),(yJ,Bd),(jP,DL),(yO,Bz),(uQ,DK),(uU,DU),(jh,Bl),(CJ,Po),(BK,Wi),(FY,YQ),(nat_bit,YP),(Jz,V9),(Fj,V8),(KR,TY),(KT,Ua),(KQ,TW),(RQ,TP),(qL,KN),(Ko,L8),(yZ,Ud),(ab5,amv),(PS,aeL),(Yz,akE),(YA,akF),(D5,XZ),(En,MB),(PZ,aeM),(wC,Af),(yL,Bo),(abx,ams),(V4,aiA),(YB,akG),(M_,adb),(D6,X4),(MZ,ada),(MX,ac'),(Wp,aiB),(zH,LZ)]
noncomputable def ft5:List (Nat×EF):=[(YD,akH),(zk,G7),(YE,akI),(CV,abz),(h_,x9),(jJ,Aa)]
noncomputable def ahA:List (Nat×EF):=ft0++(ft1++(ft2++(ft3++(ft4++(ft5)))))
end Go.Ev.Code
end
section
namespace Go.Ev.Code
open Go Go.Ev
def W:Nat:=18446744073709551616
@[simp] abbrev ah (n:Nat):D := .int .u64 n
def strip (p:UInt8→Bool):List UInt8→List UInt8
 | []=>[]
 | b::bs=>if p b then strip p bs else b::bs
def cutAt (sep:UInt8):List UInt8→List UInt8→Option (List UInt8×List UInt8)
 | _,[]=>none
 | acc,b::bs=>if b==sep then some (acc.reverse,bs) else cutAt sep (b::acc) bs
def decDigits:Nat→Nat→List UInt8→List UInt8
 | 0,_,acc=>acc
 | f+1,n,acc=>if n / 10=0 then UInt8.ofNat (48+n % 10)::acc else decDigits f (n / 10) (UInt8.ofNat (48+n % 10)::acc)
def zG (n:Nat):List UInt8:=decDigits 100 n []
def Es:Nat→List UInt8→Option Nat
 | n,[]=>some n
 | n,b::bs=>if 48≤b.toNat∧b.toNat≤57 then Es (n*10+(b.toNat-48)) bs else none
def yB (sep:List UInt8):List (List UInt8)→List UInt8
 | []=>[]
 | [x]=>x
 | x::y::xs=>x++sep++yB sep (y::xs)
def strs:List D→Option (List (List UInt8))
 | []=>some []
 | .str s::ds=>(strs ds).bind fun r=>some (s::r)
 | _=>none
def u64 (n:Int):Prop:=0≤n∧n<18446744073709551616
instance (n:Int):Decidable (u64 n):=inferInstanceAs (Decidable (_∧_))
def Vm:List D→Mem→RV
 | [.int .u64 x,.int .u64 y],m=>if u64 x∧u64 y then some (.aH [ah (x.toNat*y.toNat / W),ah (x.toNat*y.toNat % W)],m) else none
 | _,_=>none
def Vk:List D→Mem→RV
 | [.int .u64 x,.int .u64 y,.int .u64 c],m=>if u64 x∧u64 y∧0≤c∧c≤1 then some (.aH [ah ((x.toNat+y.toNat+c.toNat) % W),ah ((x.toNat+y.toNat+c.toNat) / W)],m) else none
 | _,_=>none
def Vo:List D→Mem→RV
 | [.int .u64 x,.int .u64 y,.int .u64 c],m=>if u64 x∧u64 y∧0≤c∧c≤1 then some (.aH [ah ((x.toNat+W-y.toNat-c.toNat) % W),ah (if x.toNat<y.toNat+c.toNat then 1 else 0)],m) else none
 | _,_=>none
def width (x:Nat):Nat:=if x=0 then 0 else x.log2+1
def JA:List D→Mem→RV
 | [.int .u64 x],m=>if u64 x then some (.int .i64 (64-width x.toNat:Nat),m) else none
 | _,_=>none
def trail:Nat→Nat→Nat
 | 0,_=>0
 | f+1,x=>if x % 2=1 then 0 else trail f (x / 2)+1
def KW:List D→Mem→RV
 | [.int .u64 x],m=>if u64 x then some (.int .i64 (trail 64 x.toNat:Nat),m) else none
 | _,_=>none
def Vl:List D→Mem→RV
 | [.int .u64 x,.int .i64 10],m=>if u64 x then some (.str (zG x.toNat),m) else none
 | _,_=>none
def ahE:List D→Mem→RV
 | [.int .i64 n],m=>if -9223372036854775808≤n∧n≤9223372036854775807 then some (.str (if n<0 then 45::zG n.natAbs else zG n.natAbs),m) else none
 | _,_=>none
def OA:List D→Mem→RV
 | [.str s,.int .i64 n],m=>if 0≤n∧n≤1000000∧s.length≤1000 then some (.str ((List.replicate n.toNat s).flatten),m) else none
 | _,_=>none
def WQ:List D→Mem→RV
 | [.sl n cs,.str sep],m=>(strs cs).bind fun ss=>if n=cs.length∧n≤4294967296∧(yB sep ss).length≤1000000 then some (.str (yB sep ss),m) else none
 | _,_=>none
def ajl:List D→Mem→RV
 | [.str s,.str [sep]],m=>if s.length<4294967281 then (match cutAt sep [] s with
   | some (a,b)=>some (.aH [.str a,.str b,.bool true],m)
   | none=>some (.aH [.str s,.str [],.bool false],m)) else none
 | _,_=>none
def C9:List D→Mem→RV
 | [.str s,.str p],m=>if p.isPrefixOf s then some (.aH [.str (s.drop p.length),.bool true],m) else some (.aH [.str s,.bool false],m)
 | _,_=>none
def jQ:List UInt8:=[48,49,50,51,52,53,54,55,56,57]
def pTrim:List D→Mem→RV
 | [.str s,.str cs],m=>if cs=jQ∧s.length≤1000000 then some (.str (strip (fun b=>jQ.contains b) (strip (fun b=>jQ.contains b) s.reverse).reverse),m) else none
 | _,_=>none
def F7:List D→Mem→RV
 | [.str s,.str [c]],m=>if c.toNat<128∧s.length≤1000000 then some (.str (strip (fun b=>b==c) s),m) else none
 | _,_=>none
def Zp:List D→Mem→RV
 | [.str s,.int .i64 10,.int .i64 64],m=>if s≠[]∧s.length≤18 then (Es 0 s).bind fun n=>some (.aH [ah n,.bH],m) else none
 | _,_=>none
def ahD:List D→Mem→RV
 | [.bH],m=>some (.int .i64 0,m)
 | [.iface t d],m=>if t=jq then (match d with
     | .int .i64 n=>some (.int .i64 n,m)
     | _=>none)
   else if t=iU then (match d with
    | .ref (.int .i64 n::_) 0=>some (.int .i64 n,m)
    | _=>none)
   else none
 | _,_=>none
def Zo:List D→Mem→RV
 | [.sl 0 []],m=>some (.sl 0 [],m)
 | [.sl n cs],m=>if 0<n∧n=cs.length∧n≤4294967296 then some (.aG m.length 0 n 1,m++[.live cs]) else none
 | _,_=>none
def ae4:List D→Mem→RV
 | [.iface t (.int _ _)],m=>if t=jq then some (.iface Ci (.agg [.raw hndB t]),m) else none
 | _,_=>none
def Uh:List D→Mem→RV
 | [.agg [.raw b t]],m=>if b=hndB∧t=jq then some (.bool true,m) else none
 | _,_=>none
def aaf:D := .ref [.int .i64 4,.str [97],.iface iU (.ref [.int .i64 4,.str [98],.bH] 0)] 0
def ajm:List D→Mem→RV
 | [.ref [.int .i64 4,.str [97],.iface t (.ref [.int .i64 4,.str [98],.bH] 0)] 0],m=>if t=iU then some (.str [97,58,32,98,58,32,101,114,114,111,114,32,52],m) else none
 | _,_=>none
def ajn:List D→Mem→RV
 | [.sl 2 [.ref [.nZ ks] 0,.fZ]],m=>if ks.length≤1000000∧ks.all (fun k=>decide (-9223372036854775808≤k∧k≤9223372036854775807))=true then some (.ref [] 0,m) else none
 | _,_=>none
def aiZ:List (Nat×(List D→Mem→RV)):=[(bits_Mul64,Vm),(bits_Add64,Vk),(bits_Sub64,Vo),(bits_LeadingZeros64,JA),(bits_TrailingZeros64,KW),
 (fP,Vl),(strconv_Itoa,ahE),(strings_Repeat,OA),(strings_Join,WQ),(strings_Cut,ajl),(strings_CutPrefix,C9),(oP,pTrim),(jo,F7),
 (iR,Zp),(qF,ahD),(dF,Zo),(jM,ae4),(dS,Uh),(qg,ajm),(Pe,ajn)]
def EL {α:Type}:List (Nat×α)→Nat→Option α
 | [],_=>none
 | (i,e)::r,n=>bif Nat.beq i n then some e else EL r n
def ZW (t:List (Nat×(List D→Mem→RV))) (f:Nat) (args:List D) (m:Mem):RV:=match EL t f with
 | some p=>p args m
 | none=>none
end Go.Ev.Code
end
section
namespace Go.Ev.Code
open Go Go.Ev
noncomputable def TT:Tab:=⟨EL ahA,ZW aiZ⟩
noncomputable def L:eP:=TT.lim
end Go.Ev.Code
end
