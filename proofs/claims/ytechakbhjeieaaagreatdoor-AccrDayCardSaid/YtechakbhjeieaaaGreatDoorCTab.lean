/- Part of accrDay_card. -/
import Derived.Test.YtechakbhjeieaaaGreatDoorCCodeB
import Derived.Test.YtechakbhjeieaaaGreatDoorCCodeC
import Derived.Test.YtechakbhjeieaaaGreatDoorCFlat
set_option linter.unusedVariables false
section
namespace Go.Ev.Code
open Go.Ev
def ft0:List (Nat×EF):=[(kN,uh),(kD,Xr),(pR,zA),(pU,zC),(dY,yN),(oN,AQ),(yZ,Ue),(jZ,AU),(jU,Gi),(lC,IU),(C_,ajg),(kQ,uj),(gK,Gj),(vZ,YI),(tV,Ut),(DV,Ul),(DY,ahW),(DI,adC),(wC,YN),(nV,Kz),(nN,Ig),(nM,Ie),(DX,Us),(mP,zB),(jl,wM),(kE,wO),(iQ,uU),(w_,Ic),(EK,Nu),(FP,Ud),(yj,PU),(nR,IZ),(dI,IY),(dG,F9),(bZ,II),(dh,IV),(qM,IG),(Gp,ajh),(xu,NG),(qO,IW)]
def ft1:List (Nat×EF):=[(OD,alm),(mM,Gg),(lV,Xq),(jC,IX),(jo,wP),(jS,Gf),(yD,Gh),(slices_Reverse_int,wU),(iw,NC),(uK,F6),(lu,IQ),(qJ,Ih),(Dz,adB),(dB,PS),(jT,Xp),(iG,IE),(Fg,ae7),(rP,Uu),(H6,ahX),(Fv,ae8),(WI,ape),(wE,YO),(EM,Nv),(EN,Nw),(zq,Ny),(kX,Eo),(uS,Uf),(t_,KA),(gW,mD),(zX,NS),(fB,CP),(fA,sJ),(iR,uX),(dR,uZ),(jL,u_),(jD,zD),(lX,Bc),(jJ,uY),(BO,ND),(qN,IJ)]
def ft2:List (Nat×EF):=[(bW,IC),(fV,F8),(jd,Ur),(jA,Iu),(uz,IK),(Am,Ik),(wK,KD),(rD,KI),(yG,P6),(mV,wQ),(jR,F7),(uF,IL),(Qy,apd),(ji,Xo),(jw,Io),(lg,Ip),(oZ,Iy),(Fe,ae6),(qK,Ir),(jy,Iq),(Az,ahV),(xK,Uh),(gZ,KE),(qo,NH),(y7,adx),(FU,Ug),(RY,anm),(sS,Wj),(wz,YL),(ES,alf),(xX,ae3),(fF,F5),(Wp,apb),(wV,KG),(y5,Uj),(gB,yS),(pX,zM),(fC,wS),(og,CQ),(mX,wR)]
def ft3:List (Nat×EF):=[(iy,yR),(lI,yP),(ny,zJ),(jI,uV),(iL,zG),(lH,yM),(m_,zI),(gu,yQ),(iK,AZ),(dF,Ep),(gJ,PZ),(xY,FY),(Cj,KC),(C9,KJ),(zW,NP),(slices_Reverse_string,sK),(Wv,apc),(oU,Um),(o7,Iz),(zU,KH),(Jq,PY),(jv,Ii),(ug,Ij),(JF,Ui),(BP,NI),(iJ,KL),(JD,ald),(Jl,ank),(kL,P7),(JE,ale),(EW,PV),(xH,ahY),(Gu,aji),(wB,YM),(Aj,ahU),(JI,Uk),(kU,zQ),(nG,zN),(mY,zH),(j_,AV)]
def ft4:List (Nat×EF):=[(f_,A8),(oP,A_),(n_,CO),(pV,zF),(fG,AY),(pY,zO),(oO,AX),(lW,Ba),(kR,zK),(wJ,Ky),(CW,P5),(DW,Uo),(nat_bit,Un),(E_,PX),(CV,PW),(E8,NK),(Fa,NQ),(E5,NJ),(EP,Nz),(lY,Oy),(nO,Il),(rJ,Vf),(Rn,anl),(EX,ae4),(Ou,alg),(Ov,alh),(wo,YJ),(uw,Iw),(EZ,ae5),(oI,yO),(pW,zL),(MG,anj),(Kw,aje),(JJ,ali),(Dy,adA),(wu,YK),(rX,adz),(Dx,ady),(KN,ajf),(xq,O5)]
def ft5:List (Nat×EF):=[(JK,alj),(vN,KF),(JL,alk),(BA,acd),(jg,CJ),(lF,Ee)]
def aij:List (Nat×EF):=ft0++(ft1++(ft2++(ft3++(ft4++(ft5)))))
end Go.Ev.Code
end
section
namespace Go.Ev.Code
open Go Go.Ev
def W:Nat:=18446744073709551616
@[simp] abbrev aH (n:Nat):D := .int .u64 n
def strip (p:UInt8→Bool):List UInt8→List UInt8
 | []=>[]
 | b::bs=>if p b then strip p bs else b::bs
def cutAt (sep:UInt8):List UInt8→List UInt8→Option (List UInt8×List UInt8)
 | _,[]=>none
 | acc,b::bs=>if b==sep then some (acc.reverse,bs) else cutAt sep (b::acc) bs
def decDigits:Nat→Nat→List UInt8→List UInt8
 | 0,_,acc=>acc
 | f+1,n,acc=>if n / 10=0 then UInt8.ofNat (48+n % 10)::acc else decDigits f (n / 10) (UInt8.ofNat (48+n % 10)::acc)
def DU (n:Nat):List UInt8:=decDigits 100 n []
def Hw:Nat→List UInt8→Option Nat
 | n,[]=>some n
 | n,b::bs=>if 48≤b.toNat∧b.toNat≤57 then Hw (n*10+(b.toNat-48)) bs else none
def CS (sep:List UInt8):List (List UInt8)→List UInt8
 | []=>[]
 | [x]=>x
 | x::y::xs=>x++sep++CS sep (y::xs)
def strs:List D→Option (List (List UInt8))
 | []=>some []
 | .str s::ds=>(strs ds).bind fun r=>some (s::r)
 | _=>none
def u64 (n:Int):Prop:=0≤n∧n<18446744073709551616
instance (n:Int):Decidable (u64 n):=inferInstanceAs (Decidable (_∧_))
def WA:List D→Mem→RV
 | [.int .u64 x,.int .u64 y],m=>if u64 x∧u64 y then some (.bg [aH (x.toNat*y.toNat / W),aH (x.toNat*y.toNat % W)],m) else none
 | _,_=>none
def Wx:List D→Mem→RV
 | [.int .u64 x,.int .u64 y,.int .u64 c],m=>if u64 x∧u64 y∧0≤c∧c≤1 then some (.bg [aH ((x.toNat+y.toNat+c.toNat) % W),aH ((x.toNat+y.toNat+c.toNat) / W)],m) else none
 | _,_=>none
def WB:List D→Mem→RV
 | [.int .u64 x,.int .u64 y,.int .u64 c],m=>if u64 x∧u64 y∧0≤c∧c≤1 then some (.bg [aH ((x.toNat+W-y.toNat-c.toNat) % W),aH (if x.toNat<y.toNat+c.toNat then 1 else 0)],m) else none
 | _,_=>none
def width (x:Nat):Nat:=if x=0 then 0 else x.log2+1
def ML:List D→Mem→RV
 | [.int .u64 x],m=>if u64 x then some (.int .i64 (64-width x.toNat:Nat),m) else none
 | _,_=>none
def trail:Nat→Nat→Nat
 | 0,_=>0
 | f+1,x=>if x % 2=1 then 0 else trail f (x / 2)+1
def OB:List D→Mem→RV
 | [.int .u64 x],m=>if u64 x then some (.int .i64 (trail 64 x.toNat:Nat),m) else none
 | _,_=>none
def Wy:List D→Mem→RV
 | [.int .u64 x,.int .i64 10],m=>if u64 x then some (.str (DU x.toNat),m) else none
 | _,_=>none
def ail:List D→Mem→RV
 | [.int .i64 n],m=>if -9223372036854775808≤n∧n≤9223372036854775807 then some (.str (if n<0 then 45::DU n.natAbs else DU n.natAbs),m) else none
 | _,_=>none
def Qv:List D→Mem→RV
 | [.str s,.int .i64 n],m=>if 0≤n∧n≤1000000∧s.length≤1000 then some (.str ((List.replicate n.toNat s).flatten),m) else none
 | _,_=>none
def XD:List D→Mem→RV
 | [.sl n cs,.str sep],m=>(strs cs).bind fun ss=>if n=cs.length∧n≤4294967296∧(CS sep ss).length≤1000000 then some (.str (CS sep ss),m) else none
 | _,_=>none
def ajY:List D→Mem→RV
 | [.str s,.str [sep]],m=>if s.length<4294967281 then (match cutAt sep [] s with
   | some (a,b)=>some (.bg [.str a,.str b,.bool true],m)
   | none=>some (.bg [.str s,.str [],.bool false],m)) else none
 | _,_=>none
def Gn:List D→Mem→RV
 | [.str s,.str p],m=>if p.isPrefixOf s then some (.bg [.str (s.drop p.length),.bool true],m) else some (.bg [.str s,.bool false],m)
 | _,_=>none
def oQ:List UInt8:=[48,49,50,51,52,53,54,55,56,57]
def pTrim:List D→Mem→RV
 | [.str s,.str cs],m=>if cs=oQ∧s.length≤1000000 then some (.str (strip (fun b=>oQ.contains b) (strip (fun b=>oQ.contains b) s.reverse).reverse),m) else none
 | _,_=>none
def JR:List D→Mem→RV
 | [.str s,.str [c]],m=>if c.toNat<128∧s.length≤1000000 then some (.str (strip (fun b=>b==c) s),m) else none
 | _,_=>none
def Z4:List D→Mem→RV
 | [.str s,.int .i64 10,.int .i64 64],m=>if s≠[]∧s.length≤18 then (Hw 0 s).bind fun n=>some (.bg [aH n,.aK],m) else none
 | _,_=>none
def anM:List D→Mem→RV
 | [.aK],m=>some (.int .i64 0,m)
 | [.iface t d],m=>if t=lN then (match d with
     | .int .i64 n=>some (.int .i64 n,m)
     | _=>none)
   else if t=jY then (match d with
    | .ref (.int .i64 n::_) 0=>some (.int .i64 n,m)
    | _=>none)
   else none
 | _,_=>none
def ZY:List D→Mem→RV
 | [.sl 0 []],m=>some (.sl 0 [],m)
 | [.sl n cs],m=>if 0<n∧n=cs.length∧n≤4294967296 then some (.bf m.length 0 n 1,m++[.live cs]) else none
 | _,_=>none
def afh:List D→Mem→RV
 | [.iface t (.int _ _)],m=>if t=lN then some (.iface Dt (.agg [.raw hndB t]),m) else none
 | _,_=>none
def Vl:List D→Mem→RV
 | [.agg [.raw b t]],m=>if b=hndB∧t=lN then some (.bool true,m) else none
 | _,_=>none
def aaN:D := .ref [.int .i64 4,.str [97],.iface jY (.ref [.int .i64 4,.str [98],.aK] 0)] 0
def ajZ:List D→Mem→RV
 | [.ref [.int .i64 4,.str [97],.iface t (.ref [.int .i64 4,.str [98],.aK] 0)] 0],m=>if t=jY then some (.str [97,58,32,98,58,32,101,114,114,111,114,32,52],m) else none
 | _,_=>none
def aj0:List D→Mem→RV
 | [.sl 2 [.ref [.uN ks] 0,.aY]],m=>if ks.length≤1000000∧ks.all (fun k=>decide (-9223372036854775808≤k∧k≤9223372036854775807))=true then some (.ref [] 0,m) else none
 | _,_=>none
def ajC:List (Nat×(List D→Mem→RV)):=[(bits_Mul64,WA),(bits_Add64,Wx),(bits_Sub64,WB),(bits_LeadingZeros64,ML),(bits_TrailingZeros64,OB),
 (gX,Wy),(strconv_Itoa,ail),(strings_Repeat,Qv),(strings_Join,XD),(strings_Cut,ajY),(strings_CutPrefix,Gn),(nK,pTrim),(jE,JR),
 (iW,Z4),(zS,anM),(dS,ZY),(iT,afh),(eU,Vl),(rO,ajZ),(Jf,aj0)]
def I5 {α:Type}:List (Nat×α)→Nat→Option α
 | [],_=>none
 | (i,e)::r,n=>bif Nat.beq i n then some e else I5 r n
def aaB (t:List (Nat×(List D→Mem→RV))) (f:Nat) (args:List D) (m:Mem):RV:=match I5 t f with
 | some p=>p args m
 | none=>none
end Go.Ev.Code
end
section
namespace Go.Ev.Code
open Go Go.Ev
def TT:Tab:=⟨I5 aij,aaB ajC⟩
noncomputable def L:aB:=TT.lim
theorem Hr:TT.fn kN=some uh:=by kernel_rfl
theorem Za:TT.fn pR=some zA:=by kernel_rfl
theorem zn:TT.fn pU=some zC:=by kernel_rfl
theorem Ed:TT.fn dY=some yN:=by kernel_rfl
theorem aa6:TT.fn oN=some AQ:=by kernel_rfl
theorem Y9:TT.fn yZ=some Ue:=by kernel_rfl
theorem aa7:TT.fn jZ=some AU:=by kernel_rfl
theorem aeT:TT.fn jU=some Gi:=by kernel_rfl
theorem ahK:TT.fn lC=some IU:=by kernel_rfl
theorem U_:TT.fn kQ=some uj:=by kernel_rfl
theorem aeU:TT.fn gK=some Gj:=by kernel_rfl
theorem afK:TT.fn tV=some Ut:=by kernel_rfl
theorem JA:TT.fn DV=some Ul:=by kernel_rfl
theorem aiG:TT.fn nV=some Kz:=by kernel_rfl
theorem ahp:TT.fn nN=some Ig:=by kernel_rfl
theorem aho:TT.fn nM=some Ie:=by kernel_rfl
theorem aoH:TT.fn DX=some Us:=by kernel_rfl
theorem Zb:TT.fn mP=some zB:=by kernel_rfl
theorem J_:TT.fn jl=some wM:=by kernel_rfl
theorem Ko:TT.fn kE=some wO:=by kernel_rfl
theorem VW:TT.fn iQ=some uU:=by kernel_rfl
theorem O1:TT.fn w_=some Ic:=by kernel_rfl
theorem abp:TT.fn EK=some Nu:=by kernel_rfl
theorem Y8:TT.fn FP=some Ud:=by kernel_rfl
theorem amY:TT.fn yj=some PU:=by kernel_rfl
theorem ahP:TT.fn nR=some IZ:=by kernel_rfl
theorem ahO:TT.fn dI=some IY:=by kernel_rfl
theorem aeP:TT.fn dG=some F9:=by kernel_rfl
theorem ahF:TT.fn bZ=some II:=by kernel_rfl
theorem ahL:TT.fn dh=some IV:=by kernel_rfl
theorem ahE:TT.fn qM=some IG:=by kernel_rfl
theorem U9:TT.fn xu=some NG:=by kernel_rfl
theorem ahM:TT.fn qO=some IW:=by kernel_rfl
theorem aeR:TT.fn mM=some Gg:=by kernel_rfl
theorem aqt:TT.fn lV=some Xq:=by kernel_rfl
theorem ahN:TT.fn jC=some IX:=by kernel_rfl
theorem Kq:TT.fn jo=some wP:=by kernel_rfl
theorem aeQ:TT.fn jS=some Gf:=by kernel_rfl
theorem aeS:TT.fn yD=some Gh:=by kernel_rfl
theorem Xe:TT.fn slices_Reverse_int=some wU:=by kernel_rfl
theorem akU:TT.fn iw=some NC:=by kernel_rfl
theorem aeM:TT.fn uK=some F6:=by kernel_rfl
theorem ahJ:TT.fn lu=some IQ:=by kernel_rfl
theorem ahq:TT.fn qJ=some Ih:=by kernel_rfl
theorem amX:TT.fn dB=some PS:=by kernel_rfl
theorem aqs:TT.fn jT=some Xp:=by kernel_rfl
theorem ahD:TT.fn iG=some IE:=by kernel_rfl
theorem aoI:TT.fn rP=some Uu:=by kernel_rfl
theorem akQ:TT.fn EM=some Nv:=by kernel_rfl
theorem akR:TT.fn EN=some Nw:=by kernel_rfl
theorem akS:TT.fn zq=some Ny:=by kernel_rfl
theorem ada:TT.fn kX=some Eo:=by kernel_rfl
theorem aoA:TT.fn uS=some Uf:=by kernel_rfl
theorem aiH:TT.fn t_=some KA:=by kernel_rfl
theorem LW:TT.fn gW=some mD:=by kernel_rfl
theorem akZ:TT.fn zX=some NS:=by kernel_rfl
theorem ab4:TT.fn fB=some CP:=by kernel_rfl
theorem oz:TT.fn fA=some sJ:=by kernel_rfl
theorem VY:TT.fn iR=some uX:=by kernel_rfl
theorem JB:TT.fn dR=some uZ:=by kernel_rfl
theorem V4:TT.fn jL=some u_:=by kernel_rfl
theorem EI:TT.fn jD=some zD:=by kernel_rfl
theorem aa_:TT.fn lX=some Bc:=by kernel_rfl
theorem VZ:TT.fn jJ=some uY:=by kernel_rfl
theorem wZ:TT.fn BO=some ND:=by kernel_rfl
theorem ahG:TT.fn qN=some IJ:=by kernel_rfl
theorem ahC:TT.fn bW=some IC:=by kernel_rfl
theorem aeO:TT.fn fV=some F8:=by kernel_rfl
theorem aoG:TT.fn jd=some Ur:=by kernel_rfl
theorem ahy:TT.fn jA=some Iu:=by kernel_rfl
theorem ahH:TT.fn uz=some IK:=by kernel_rfl
theorem O3:TT.fn Am=some Ik:=by kernel_rfl
theorem aiJ:TT.fn wK=some KD:=by kernel_rfl
theorem QO:TT.fn rD=some KI:=by kernel_rfl
theorem am3:TT.fn yG=some P6:=by kernel_rfl
theorem Xc:TT.fn mV=some wQ:=by kernel_rfl
theorem aeN:TT.fn jR=some F7:=by kernel_rfl
theorem ahI:TT.fn uF=some IL:=by kernel_rfl
theorem aqr:TT.fn ji=some Xo:=by kernel_rfl
theorem ahu:TT.fn jw=some Io:=by kernel_rfl
theorem ahv:TT.fn lg=some Ip:=by kernel_rfl
theorem ahA:TT.fn oZ=some Iy:=by kernel_rfl
theorem ahx:TT.fn qK=some Ir:=by kernel_rfl
theorem ahw:TT.fn jy=some Iq:=by kernel_rfl
theorem afH:TT.fn xK=some Uh:=by kernel_rfl
theorem Y_:TT.fn gZ=some KE:=by kernel_rfl
theorem DN:TT.fn qo=some NH:=by kernel_rfl
theorem aoB:TT.fn FU=some Ug:=by kernel_rfl
theorem aeL:TT.fn fF=some F5:=by kernel_rfl
theorem aiK:TT.fn wV=some KG:=by kernel_rfl
theorem afI:TT.fn y5=some Uj:=by kernel_rfl
theorem YH:TT.fn gB=some yS:=by kernel_rfl
theorem Zg:TT.fn pX=some zM:=by kernel_rfl
theorem Xd:TT.fn fC=some wS:=by kernel_rfl
theorem QT:TT.fn og=some CQ:=by kernel_rfl
theorem nT:TT.fn mX=some wR:=by kernel_rfl
theorem YG:TT.fn iy=some yR:=by kernel_rfl
theorem YE:TT.fn lI=some yP:=by kernel_rfl
theorem Ze:TT.fn ny=some zJ:=by kernel_rfl
theorem VX:TT.fn jI=some uV:=by kernel_rfl
theorem Zd:TT.fn iL=some zG:=by kernel_rfl
theorem Ec:TT.fn lH=some yM:=by kernel_rfl
theorem EJ:TT.fn m_=some zI:=by kernel_rfl
theorem YF:TT.fn gu=some yQ:=by kernel_rfl
theorem GV:TT.fn iK=some AZ:=by kernel_rfl
theorem Td:TT.fn dF=some Ep:=by kernel_rfl
theorem ade:TT.fn gJ=some PZ:=by kernel_rfl
theorem aeK:TT.fn xY=some FY:=by kernel_rfl
theorem aiI:TT.fn Cj=some KC:=by kernel_rfl
theorem aiM:TT.fn C9=some KJ:=by kernel_rfl
theorem akX:TT.fn zW=some NP:=by kernel_rfl
theorem SY:TT.fn slices_Reverse_string=some sK:=by kernel_rfl
theorem afJ:TT.fn oU=some Um:=by kernel_rfl
theorem ahB:TT.fn o7=some Iz:=by kernel_rfl
theorem aiL:TT.fn zU=some KH:=by kernel_rfl
theorem am1:TT.fn Jq=some PY:=by kernel_rfl
theorem ahr:TT.fn jv=some Ii:=by kernel_rfl
theorem ahs:TT.fn ug=some Ij:=by kernel_rfl
theorem aoC:TT.fn JF=some Ui:=by kernel_rfl
theorem akV:TT.fn BP=some NI:=by kernel_rfl
theorem amZ:TT.fn EW=some PV:=by kernel_rfl
theorem aoD:TT.fn JI=some Uk:=by kernel_rfl
theorem Zi:TT.fn kU=some zQ:=by kernel_rfl
theorem Zh:TT.fn nG=some zN:=by kernel_rfl
theorem Ol:TT.fn mY=some zH:=by kernel_rfl
theorem PD:TT.fn j_=some AV:=by kernel_rfl
theorem GX:TT.fn f_=some A8:=by kernel_rfl
theorem aa9:TT.fn oP=some A_:=by kernel_rfl
theorem QS:TT.fn n_=some CO:=by kernel_rfl
theorem Zc:TT.fn pV=some zF:=by kernel_rfl
theorem GU:TT.fn fG=some AY:=by kernel_rfl
theorem Oo:TT.fn pY=some zO:=by kernel_rfl
theorem aa8:TT.fn oO=some AX:=by kernel_rfl
theorem PE:TT.fn lW=some Ba:=by kernel_rfl
theorem Zf:TT.fn kR=some zK:=by kernel_rfl
theorem aiF:TT.fn wJ=some Ky:=by kernel_rfl
theorem am2:TT.fn CW=some P5:=by kernel_rfl
theorem aoF:TT.fn DW=some Uo:=by kernel_rfl
theorem aoE:TT.fn nat_bit=some Un:=by kernel_rfl
theorem am0:TT.fn E_=some PX:=by kernel_rfl
theorem adb:TT.fn CV=some PW:=by kernel_rfl
theorem abq:TT.fn E8=some NK:=by kernel_rfl
theorem akY:TT.fn Fa=some NQ:=by kernel_rfl
theorem akW:TT.fn E5=some NJ:=by kernel_rfl
theorem akT:TT.fn EP=some Nz:=by kernel_rfl
theorem aht:TT.fn nO=some Il:=by kernel_rfl
theorem ahz:TT.fn uw=some Iw:=by kernel_rfl
theorem YD:TT.fn oI=some yO:=by kernel_rfl
theorem Om:TT.fn pW=some zL:=by kernel_rfl
end Go.Ev.Code
end
