/- A part of the proof of priceAll_card, yieldAll_card, priceSum_card, flowAll_card, accrAll_card. -/
import Derived.Test.YtfkdcfbleblgoaaGreatDoorCCodeA
import Derived.Test.YtfkdcfbleblgoaaGreatDoorCFlat
set_option linter.unusedVariables false
section
namespace Go.Ev.Code
open Go.Ev
noncomputable def ft0:List (Nat×EF):=[(w_,BG),(vF,zA),(vC,zu),(wZ,BF),(vw,zq),(iq,aep),(Fv,I8),(TN,agU),(FD,Ja),(CQ,H8),(oL,Eu),(AU,EN),(fQ,Ia),(Vm,abU),(mQ,H_),(uI,TK),(CP,H7),(FB,I_),(ZW,aer),(uO,EJ),(kX,Ew),(wG,Ie),(Aw,ED),(GR,agS),(Gn,Y7),(CO,H6),(CJ,HY),(AL,MJ),(yj,Oy),(Fz,I9),(iT,zB),(xI,WX),(xJ,WY),(BZ,Xc),(xK,WZ),(acZ,agN),(acY,agM),(aay,abK),(qw,BH),(Au,MG)]
noncomputable def ft1:List (Nat×EF):=[(CW,Ih),(G_,WW),(XY,Y4),(XZ,Y5),(mV,Ib),(T_,ag1),(Xk,ald),(Nc,af4),(Ei,YT),(qj,TJ),(Bv,Wq),(Bq,Wp),(adv,ag0),(Qz,Tt),(TP,aeh),(Bz,Ws),(oK,Es),(jX,Jb),(mZ,MS),(sK,Dv),(CV,Ig),(qF,MI),(mY,MP),(AP,EK),(oO,EL),(sH,Dq),(UE,Wy),(OB,aeg),(J_,YW),(DZ,ajI),(FP,Jq),(qU,Ij),(oM,Ey),(tJ,Je),(xM,W9),(uG,TB),(xP,Xb),(Vl,abT),(yQ,Jf),(qE,MH)]
noncomputable def ft2:List (Nat×EF):=[(mX,MO),(AQ,MQ),(uK,Et),(yP,Jd),(FH,Jc),(qR,Ii),(DJ,agV),(uD,Tz),(LH,ag3),(Lh,agZ),(ac4,agT),(D7,Oz),(wH,Ik),(FN,Jo),(uU,EP),(yt,OA),(Oh,Qx),(Vu,ajH),(xG,WS),(xE,WO),(Q7,TI),(uF,TA),(G6,WQ),(OQ,aeo),(BU,WT),(Uy,Wn),(aaz,abL),(Vg,abQ),(qA,MF),(kZ,Ji),(sJ,Dt),(qB,BI),(FI,Jg),(Q5,Y6),(xO,W_),(abe,ab3),(yI,TD),(BX,Xa),(uS,EM),(yR,Jj)]
noncomputable def ft3:List (Nat×EF):=[(JD,TF),(slices_Reverse_int,ES),(Js,abS),(acv,apu),(ZB,amM),(ani,axL),(Nh,af5),(aaD,abM),(aaE,abN),(Ve,abO),(qY,Qv),(J7,agO),(Qh,YU),(jR,rF),(Pm,ab2),(y7,Du),(jy,Dx),(sO,Dy),(FK,Jh),(IJ,ML),(AO,MK),(iE,MN),(Fh,Y2),(Qn,Tn),(yx,Tq),(XM,YV),(FM,Jm),(AA,EH),(BR,WM),(yF,Tv),(iI,Jl),(y8,Dw),(Az,EG),(AB,EI),(CU,Ic),(Jz,ajG),(ug,WH),(BK,WB),(vU,Qw),(BN,WG)]
noncomputable def ft4:List (Nat×EF):=[(BM,WE),(NG,WI),(FQ,Jr),(yT,Jp),(air,ag2),(BL,WC),(BO,WJ),(QZ,TG),(G7,WU),(YR,aef),(Qr,YZ),(Vh,abR),(NQ,WV),(NJ,WR),(Tm,agQ),(zX,YX),(Ad,abV),(Ob,ak'),(Yb,agP),(aky,avW),(Il,ac7),(Na,af0),(agC,atK),(Qi,amJ),(amU,axK),(Lc,Y0),(vG,MR),(yS,Jk),(XW,Y3),(ac3,agR),(Pg,abZ),(mO,aem),(slices_Reverse_string,zC),(CS,H9),(QX,Y1),(GX,WL),(aeF,ael),(aij,agY),(Uz,Wu),(UA,Wv)]
noncomputable def ft5:List (Nat×EF):=[(aa4,abW),(lS,Qy),(aaG,atI),(aew,avU),(rW,XO),(aaH,atJ),(aev,aei),(acy,apv),(ae5,aq2),(Nb,af2),(abI,apt),(Qe,YS),(OL,aen),(Pe,agX),(nat_bit,agW),(TU,aek),(OJ,aej),(Vq,abY),(Vr,ab1),(Vp,abX),(aaM,abP),(xw,Vj),(UH,WA),(Gl,ab4),(akb,avV),(Zb,amK),(agF,atL),(MZ,afY),(Zk,amL),(Xf,alc),(M_,afZ),(Xe,alb),(Xd,ala),(aes,aq1),(GU,Wx),(agI,atM),(Gw,Qu),(agJ,atN),(Kt,ajF),(jO,Ep)]
noncomputable def ft6:List (Nat×EF):=[(mM,Hz)]
noncomputable def apV:List (Nat×EF):=ft0++(ft1++(ft2++(ft3++(ft4++(ft5++(ft6))))))
end Go.Ev.Code
end
section
namespace Go.Ev.Code
open Go Go.Ev
def W:Nat:=18446744073709551616
@[simp] abbrev ak (n:Nat):D := .int .u64 n
def strip (p:UInt8→Bool):List UInt8→List UInt8
 | []=>[]
 | b::bs=>if p b then strip p bs else b::bs
def cutAt (sep:UInt8):List UInt8→List UInt8→Option (List UInt8×List UInt8)
 | _,[]=>none
 | acc,b::bs=>if b==sep then some (acc.reverse,bs) else cutAt sep (b::acc) bs
def decDigits:Nat→Nat→List UInt8→List UInt8
 | 0,_,acc=>acc
 | f+1,n,acc=>if n / 10=0 then UInt8.ofNat (48+n % 10)::acc else decDigits f (n / 10) (UInt8.ofNat (48+n % 10)::acc)
def GN (n:Nat):List UInt8:=decDigits 100 n []
def NK:Nat→List UInt8→Option Nat
 | n,[]=>some n
 | n,b::bs=>if 48≤b.toNat∧b.toNat≤57 then NK (n*10+(b.toNat-48)) bs else none
def EW (sep:List UInt8):List (List UInt8)→List UInt8
 | []=>[]
 | [x]=>x
 | x::y::xs=>x++sep++EW sep (y::xs)
def strs:List D→Option (List (List UInt8))
 | []=>some []
 | .str s::ds=>(strs ds).bind fun r=>some (s::r)
 | _=>none
def u64 (n:Int):Prop:=0≤n∧n<18446744073709551616
instance (n:Int):Decidable (u64 n):=inferInstanceAs (Decidable (_∧_))
def adp:List D→Mem→RV
 | [.int .u64 x,.int .u64 y],m=>if u64 x∧u64 y then some (.aG [ak (x.toNat*y.toNat / W),ak (x.toNat*y.toNat % W)],m) else none
 | _,_=>none
def adn:List D→Mem→RV
 | [.int .u64 x,.int .u64 y,.int .u64 c],m=>if u64 x∧u64 y∧0≤c∧c≤1 then some (.aG [ak ((x.toNat+y.toNat+c.toNat) % W),ak ((x.toNat+y.toNat+c.toNat) / W)],m) else none
 | _,_=>none
def adq:List D→Mem→RV
 | [.int .u64 x,.int .u64 y,.int .u64 c],m=>if u64 x∧u64 y∧0≤c∧c≤1 then some (.aG [ak ((x.toNat+W-y.toNat-c.toNat) % W),ak (if x.toNat<y.toNat+c.toNat then 1 else 0)],m) else none
 | _,_=>none
def width (x:Nat):Nat:=if x=0 then 0 else x.log2+1
def TV:List D→Mem→RV
 | [.int .u64 x],m=>if u64 x then some (.int .i64 (64-width x.toNat:Nat),m) else none
 | _,_=>none
def trail:Nat→Nat→Nat
 | 0,_=>0
 | f+1,x=>if x % 2=1 then 0 else trail f (x / 2)+1
def Vw:List D→Mem→RV
 | [.int .u64 x],m=>if u64 x then some (.int .i64 (trail 64 x.toNat:Nat),m) else none
 | _,_=>none
def ado:List D→Mem→RV
 | [.int .u64 x,.int .i64 10],m=>if u64 x then some (.str (GN x.toNat),m) else none
 | _,_=>none
def ap1:List D→Mem→RV
 | [.int .i64 n],m=>if -9223372036854775808≤n∧n≤9223372036854775807 then some (.str (if n<0 then 45::GN n.natAbs else GN n.natAbs),m) else none
 | _,_=>none
def Ye:List D→Mem→RV
 | [.str s,.int .i64 n],m=>if 0≤n∧n≤1000000∧s.length≤1000 then some (.str ((List.replicate n.toNat s).flatten),m) else none
 | _,_=>none
def aeJ:List D→Mem→RV
 | [.sl n cs,.str sep],m=>(strs cs).bind fun ss=>if n=cs.length∧n≤4294967296∧(EW sep ss).length≤1000000 then some (.str (EW sep ss),m) else none
 | _,_=>none
def ar2:List D→Mem→RV
 | [.str s,.str [sep]],m=>if s.length<4294967281 then (match cutAt sep [] s with
   | some (a,b)=>some (.aG [.str a,.str b,.bool true],m)
   | none=>some (.aG [.str s,.str [],.bool false],m)) else none
 | _,_=>none
def Lj:List D→Mem→RV
 | [.str s,.str p],m=>if p.isPrefixOf s then some (.aG [.str (s.drop p.length),.bool true],m) else some (.aG [.str s,.bool false],m)
 | _,_=>none
def nH:List UInt8:=[48,49,50,51,52,53,54,55,56,57]
def pTrim:List D→Mem→RV
 | [.str s,.str cs],m=>if cs=nH∧s.length≤1000000 then some (.str (strip (fun b=>nH.contains b) (strip (fun b=>nH.contains b) s.reverse).reverse),m) else none
 | _,_=>none
def Ph:List D→Mem→RV
 | [.str s,.str [c]],m=>if c.toNat<128∧s.length≤1000000 then some (.str (strip (fun b=>b==c) s),m) else none
 | _,_=>none
def ahw:List D→Mem→RV
 | [.str s,.int .i64 10,.int .i64 64],m=>if s≠[]∧s.length≤18 then (NK 0 s).bind fun n=>some (.aG [ak n,.bQ],m) else none
 | _,_=>none
def ap0:List D→Mem→RV
 | [.bQ],m=>some (.int .i64 0,m)
 | [.iface t d],m=>if t=lF then (match d with
     | .int .i64 n=>some (.int .i64 n,m)
     | _=>none)
   else if t=kN then (match d with
    | .ref (.int .i64 n::_) 0=>some (.int .i64 n,m)
    | _=>none)
   else none
 | _,_=>none
def ahv:List D→Mem→RV
 | [.sl 0 []],m=>some (.sl 0 [],m)
 | [.sl n cs],m=>if 0<n∧n=cs.length∧n≤4294967296 then some (.aO m.length 0 n 1,m++[.live cs]) else none
 | _,_=>none
def am3:List D→Mem→RV
 | [.iface t (.int _ _)],m=>if t=lF then some (.iface JU (.agg [.raw hndB t]),m) else none
 | _,_=>none
def acd:List D→Mem→RV
 | [.agg [.raw b t]],m=>if b=hndB∧t=lF then some (.bool true,m) else none
 | _,_=>none
def ah':D := .ref [.int .i64 4,.str [97],.iface kN (.ref [.int .i64 4,.str [98],.bQ] 0)] 0
def ar4:List D→Mem→RV
 | [.ref [.int .i64 4,.str [97],.iface t (.ref [.int .i64 4,.str [98],.bQ] 0)] 0],m=>if t=kN then some (.str [97,58,32,98,58,32,101,114,114,111,114,32,52],m) else none
 | _,_=>none
def ar5:List D→Mem→RV
 | [.sl 2 [.ref [.uz ks] 0,.iy]],m=>if ks.length≤1000000∧ks.all (fun k=>decide (-9223372036854775808≤k∧k≤9223372036854775807))=true then some (.ref [] 0,m) else none
 | _,_=>none
def arw:List (Nat×(List D→Mem→RV)):=[(bits_Mul64,adp),(bits_Add64,adn),(bits_Sub64,adq),(bits_LeadingZeros64,TV),(bits_TrailingZeros64,Vw),
 (ji,ado),(strconv_Itoa,ap1),(strings_Repeat,Ye),(strings_Join,aeJ),(strings_Cut,ar2),(strings_CutPrefix,Lj),(qQ,pTrim),(lC,Ph),
 (kM,ahw),(wS,ap0),(dV,ahv),(mW,am3),(fO,acd),(wF,ar4),(YI,ar5)]
def Oc {α:Type}:List (Nat×α)→Nat→Option α
 | [],_=>none
 | (i,e)::r,n=>bif Nat.beq i n then some e else Oc r n
def ah2 (t:List (Nat×(List D→Mem→RV))) (f:Nat) (args:List D) (m:Mem):RV:=match Oc t f with
 | some p=>p args m
 | none=>none
end Go.Ev.Code
end
section
namespace Go.Ev.Code
open Go Go.Ev
noncomputable def TT:Tab:=⟨Oc apV,ah2 arw⟩
noncomputable def L:h_:=TT.lim
end Go.Ev.Code
end
