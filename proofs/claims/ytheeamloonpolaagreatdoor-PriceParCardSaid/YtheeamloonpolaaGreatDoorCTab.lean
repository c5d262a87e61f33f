/- A part of the proof of riskZero_card, yieldPar_card, pricePar_card. -/
import Derived.KernelRfl
import Derived.Test.YtheeamloonpolaaGreatDoorCCodeA
import Derived.Test.YtheeamloonpolaaGreatDoorCCodeB
import Derived.Test.YtheeamloonpolaaGreatDoorCCodeC
import Derived.Test.YtheeamloonpolaaGreatDoorCFlat
set_option linter.unusedVariables false
section
namespace Go.Ev.Code
open Go.Ev
def ft0:List (Nat×EF):=[(jL,qF),(jJ,qC),(jM,qG),(d_,WV),(kV,xI),(iL,xH),(jc,zH),(iQ,AU),(j_,yH),(dY,qH),(iC,Hf),(jT,Hg),(jU,Hu),(jo,Hl),(iM,xK),(oq,Dn),(fE,ES),(lS,uY),(jB,xJ),(jR,He),(nN,Ud),(BK,Pm),(zZ,TV),(Em,TM),(vC,JF),(uO,Yr),(mg,Ju),(kJ,EP),(lX,Gv),(lW,Gu),(Ci,Uc),(jd,uZ),(nI,zI),(qZ,AV),(oC,yI),(fA,u_),(mF,AX),(uo,Dl),(dG,O5),(jI,WT)]
def ft1:List (Nat×EF):=[(bW,G7),(iy,GZ),(xq,EN),(dD,Ho),(dO,Ht),(dK,EI),(oL,Uf),(o8,G5),(xw,Ph),(o9,G8),(kD,yK),(zy,Hw),(xA,ET),(jq,Hr),(L9,Ug),(jH,EJ),(kX,sZ),(xg,EL),(slices_Reverse_int,vg),(gY,Na),(wF,TS),(vI,JI),(sJ,ED),(uj,O6),(oW,Gw),(vN,Gt),(Dx,MV),(Ej,TL),(yS,JG),(vT,Nc),(nU,Hq),(D8,Nu),(lN,EK),(lC,WU),(uP,Yt),(DC,MW),(DF,MX),(yG,MZ),(kG,Dj),(sV,TN)]
def ft2:List (Nat×EF):=[(rH,Jv),(gK,lI),(yP,Ns),(lT,yJ),(Je,Ue),(iH,Ub),(iW,WS),(bV,GY),(jm,GR),(ji,GI),(kQ,GK),(nR,GV),(xk,EM),(fQ,EH),(oZ,GN),(jl,GL),(rX,G9),(rW,G6),(jF,EG),(kY,tH),(rY,G_),(nM,TW),(I7,TU),(Ak,Nb),(zk,Gz),(uU,Jy),(pO,JD),(wE,TQ),(gU,Jz),(oI,Nh),(yj,acY),(Ep,TP),(Ry,am7),(qO,VI),(uM,Yp),(DJ,ak0),(wM,aeE),(fD,Ey),(VL,aoO),(vk,JB)]
def ft3:List (Nat×EF):=[(LU,Ua),(gI,Pe),(dI,Dk),(nS,GX),(yL,JC),(yN,Nq),(Iw,O_),(slices_Reverse_string,qI),(rQ,GU),(wO,Ew),(AL,Jw),(Bl,JE),(jg,Gx),(rJ,Gy),(IZ,TR),(Am,Nj),(iF,JH),(IX,akY),(Ij,am5),(jZ,Pj),(IY,akZ),(DL,O7),(wu,ahu),(Fb,aiY),(uN,Yq),(zh,aht),(Bd,Pg),(Cc,T_),(nat_bit,TY),(D5,O9),(uT,Jt),(Bc,O8),(DZ,Np),(D6,Nr),(DY,Nl),(DI,M_),(lD,NV),(lY,GH),(pV,UO),(QM,am6)]
def ft4:List (Nat×EF):=[(DN,aeF),(NT,ak1),(NU,ak2),(uJ,Yn),(DX,aeG),(KQ,am4),(Js,aiW),(I8,ak3),(BO,ac1),(uK,Yo),(ql,ac0),(BN,acZ),(JJ,aiX),(vS,Oz),(I9,ak4),(uh,JA),(I_,ak5),(zV,abx),(iU,AQ),(kT,CQ)]
def ahQ:List (Nat×EF):=ft0++(ft1++(ft2++(ft3++(ft4))))
end Go.Ev.Code
end
section
namespace Go.Ev.Code
open Go Go.Ev
def W:Nat:=18446744073709551616
@[simp] abbrev aU (n:Nat):D := .int .u64 n
def strip (p:UInt8→Bool):List UInt8→List UInt8
 | []=>[]
 | b::bs=>if p b then strip p bs else b::bs
def cutAt (sep:UInt8):List UInt8→List UInt8→Option (List UInt8×List UInt8)
 | _,[]=>none
 | acc,b::bs=>if b==sep then some (acc.reverse,bs) else cutAt sep (b::acc) bs
def decDigits:Nat→Nat→List UInt8→List UInt8
 | 0,_,acc=>acc
 | f+1,n,acc=>if n / 10=0 then UInt8.ofNat (48+n % 10)::acc else decDigits f (n / 10) (UInt8.ofNat (48+n % 10)::acc)
def Cb (n:Nat):List UInt8:=decDigits 100 n []
def Gh:Nat→List UInt8→Option Nat
 | n,[]=>some n
 | n,b::bs=>if 48≤b.toNat∧b.toNat≤57 then Gh (n*10+(b.toNat-48)) bs else none
def AY (sep:List UInt8):List (List UInt8)→List UInt8
 | []=>[]
 | [x]=>x
 | x::y::xs=>x++sep++AY sep (y::xs)
def strs:List D→Option (List (List UInt8))
 | []=>some []
 | .str s::ds=>(strs ds).bind fun r=>some (s::r)
 | _=>none
def u64 (n:Int):Prop:=0≤n∧n<18446744073709551616
instance (n:Int):Decidable (u64 n):=inferInstanceAs (Decidable (_∧_))
def VT:List D→Mem→RV
 | [.int .u64 x,.int .u64 y],m=>if u64 x∧u64 y then some (.aZ [aU (x.toNat*y.toNat / W),aU (x.toNat*y.toNat % W)],m) else none
 | _,_=>none
def VQ:List D→Mem→RV
 | [.int .u64 x,.int .u64 y,.int .u64 c],m=>if u64 x∧u64 y∧0≤c∧c≤1 then some (.aZ [aU ((x.toNat+y.toNat+c.toNat) % W),aU ((x.toNat+y.toNat+c.toNat) / W)],m) else none
 | _,_=>none
def VU:List D→Mem→RV
 | [.int .u64 x,.int .u64 y,.int .u64 c],m=>if u64 x∧u64 y∧0≤c∧c≤1 then some (.aZ [aU ((x.toNat+W-y.toNat-c.toNat) % W),aU (if x.toNat<y.toNat+c.toNat then 1 else 0)],m) else none
 | _,_=>none
def width (x:Nat):Nat:=if x=0 then 0 else x.log2+1
def LV:List D→Mem→RV
 | [.int .u64 x],m=>if u64 x then some (.int .i64 (64-width x.toNat:Nat),m) else none
 | _,_=>none
def trail:Nat→Nat→Nat
 | 0,_=>0
 | f+1,x=>if x % 2=1 then 0 else trail f (x / 2)+1
def N7:List D→Mem→RV
 | [.int .u64 x],m=>if u64 x then some (.int .i64 (trail 64 x.toNat:Nat),m) else none
 | _,_=>none
def VR:List D→Mem→RV
 | [.int .u64 x,.int .i64 10],m=>if u64 x then some (.str (Cb x.toNat),m) else none
 | _,_=>none
def ahV:List D→Mem→RV
 | [.int .i64 n],m=>if -9223372036854775808≤n∧n≤9223372036854775807 then some (.str (if n<0 then 45::Cb n.natAbs else Cb n.natAbs),m) else none
 | _,_=>none
def PX:List D→Mem→RV
 | [.str s,.int .i64 n],m=>if 0≤n∧n≤1000000∧s.length≤1000 then some (.str ((List.replicate n.toNat s).flatten),m) else none
 | _,_=>none
def Xj:List D→Mem→RV
 | [.sl n cs,.str sep],m=>(strs cs).bind fun ss=>if n=cs.length∧n≤4294967296∧(AY sep ss).length≤1000000 then some (.str (AY sep ss),m) else none
 | _,_=>none
def ajB:List D→Mem→RV
 | [.str s,.str [sep]],m=>if s.length<4294967281 then (match cutAt sep [] s with
   | some (a,b)=>some (.aZ [.str a,.str b,.bool true],m)
   | none=>some (.aZ [.str s,.str [],.bool false],m)) else none
 | _,_=>none
def EY:List D→Mem→RV
 | [.str s,.str p],m=>if p.isPrefixOf s then some (.aZ [.str (s.drop p.length),.bool true],m) else some (.aZ [.str s,.bool false],m)
 | _,_=>none
def nK:List UInt8:=[48,49,50,51,52,53,54,55,56,57]
def pTrim:List D→Mem→RV
 | [.str s,.str cs],m=>if cs=nK∧s.length≤1000000 then some (.str (strip (fun b=>nK.contains b) (strip (fun b=>nK.contains b) s.reverse).reverse),m) else none
 | _,_=>none
def Jd:List D→Mem→RV
 | [.str s,.str [c]],m=>if c.toNat<128∧s.length≤1000000 then some (.str (strip (fun b=>b==c) s),m) else none
 | _,_=>none
def Zw:List D→Mem→RV
 | [.str s,.int .i64 10,.int .i64 64],m=>if s≠[]∧s.length≤18 then (Gh 0 s).bind fun n=>some (.aZ [aU n,.aG],m) else none
 | _,_=>none
def ahU:List D→Mem→RV
 | [.aG],m=>some (.int .i64 0,m)
 | [.iface t d],m=>if t=kZ then (match d with
     | .int .i64 n=>some (.int .i64 n,m)
     | _=>none)
   else if t=jQ then (match d with
    | .ref (.int .i64 n::_) 0=>some (.int .i64 n,m)
    | _=>none)
   else none
 | _,_=>none
def Zv:List D→Mem→RV
 | [.sl 0 []],m=>some (.sl 0 [],m)
 | [.sl n cs],m=>if 0<n∧n=cs.length∧n≤4294967296 then some (.bf m.length 0 n 1,m++[.live cs]) else none
 | _,_=>none
def aeS:List D→Mem→RV
 | [.iface t (.int _ _)],m=>if t=kZ then some (.iface BJ (.agg [.raw hndB t]),m) else none
 | _,_=>none
def U0:List D→Mem→RV
 | [.agg [.raw b t]],m=>if b=hndB∧t=kZ then some (.bool true,m) else none
 | _,_=>none
def aag:D := .ref [.int .i64 4,.str [97],.iface jQ (.ref [.int .i64 4,.str [98],.aG] 0)] 0
def ajC:List D→Mem→RV
 | [.ref [.int .i64 4,.str [97],.iface t (.ref [.int .i64 4,.str [98],.aG] 0)] 0],m=>if t=jQ then some (.str [97,58,32,98,58,32,101,114,114,111,114,32,52],m) else none
 | _,_=>none
def ajD:List D→Mem→RV
 | [.sl 2 [.ref [.sK ks] 0,.aV]],m=>if ks.length≤1000000∧ks.all (fun k=>decide (-9223372036854775808≤k∧k≤9223372036854775807))=true then some (.ref [] 0,m) else none
 | _,_=>none
def ajg:List (Nat×(List D→Mem→RV)):=[(bits_Mul64,VT),(bits_Add64,VQ),(bits_Sub64,VU),(bits_LeadingZeros64,LV),(bits_TrailingZeros64,N7),
 (gQ,VR),(strconv_Itoa,ahV),(strings_Repeat,PX),(strings_Join,Xj),(strings_Cut,ajB),(strings_CutPrefix,EY),(lV,pTrim),(jr,Jd),
 (iO,Zw),(iT,ahU),(dW,Zv),(iG,aeS),(eU,U0),(pY,ajC),(Ie,ajD)]
def Hz {α:Type}:List (Nat×α)→Nat→Option α
 | [],_=>none
 | (i,e)::r,n=>bif Nat.beq i n then some e else Hz r n
def Z4 (t:List (Nat×(List D→Mem→RV))) (f:Nat) (args:List D) (m:Mem):RV:=match Hz t f with
 | some p=>p args m
 | none=>none
end Go.Ev.Code
end
section
namespace Go.Ev.Code
open Go Go.Ev
def TT:Tab:=⟨Hz ahQ,Z4 ajg⟩
noncomputable def L:aC:=TT.lim
theorem FB:TT.fn jL=some qF:=by kernel_rfl
theorem Sr:TT.fn jJ=some qC:=by kernel_rfl
theorem FD:TT.fn jM=some qG:=by kernel_rfl
theorem Yl:TT.fn kV=some xI:=by kernel_rfl
theorem Yk:TT.fn iL=some xH:=by kernel_rfl
theorem aaB:TT.fn jc=some zH:=by kernel_rfl
theorem Qr:TT.fn iQ=some AU:=by kernel_rfl
theorem YM:TT.fn j_=some yH:=by kernel_rfl
theorem mM:TT.fn dY=some qH:=by kernel_rfl
theorem yh:TT.fn iC=some Hf:=by kernel_rfl
theorem ahj:TT.fn jT=some Hg:=by kernel_rfl
theorem aho:TT.fn jU=some Hu:=by kernel_rfl
theorem ahk:TT.fn jo=some Hl:=by kernel_rfl
theorem Ym:TT.fn iM=some xK:=by kernel_rfl
theorem C_:TT.fn oq=some Dn:=by kernel_rfl
theorem aep:TT.fn fE=some ES:=by kernel_rfl
theorem WA:TT.fn lS=some uY:=by kernel_rfl
theorem CO:TT.fn jB=some xJ:=by kernel_rfl
theorem Ov:TT.fn jR=some He:=by kernel_rfl
theorem afl:TT.fn nN=some Ud:=by kernel_rfl
theorem WE:TT.fn BK=some Pm:=by kernel_rfl
theorem IV:TT.fn zZ=some TV:=by kernel_rfl
theorem YK:TT.fn Em=some TM:=by kernel_rfl
theorem Jm:TT.fn vC=some JF:=by kernel_rfl
theorem aii:TT.fn mg=some Ju:=by kernel_rfl
theorem aeo:TT.fn kJ=some EP:=by kernel_rfl
theorem ag0:TT.fn lX=some Gv:=by kernel_rfl
theorem agZ:TT.fn lW=some Gu:=by kernel_rfl
theorem aoc:TT.fn Ci=some Uc:=by kernel_rfl
theorem Jo:TT.fn jd=some uZ:=by kernel_rfl
theorem OX:TT.fn nI=some zI:=by kernel_rfl
theorem abr:TT.fn qZ=some AV:=by kernel_rfl
theorem YN:TT.fn oC=some yI:=by kernel_rfl
theorem WB:TT.fn fA=some u_:=by kernel_rfl
theorem Qs:TT.fn mF=some AX:=by kernel_rfl
theorem C9:TT.fn uo=some Dl:=by kernel_rfl
theorem amH:TT.fn dG=some O5:=by kernel_rfl
theorem ap6:TT.fn jI=some WT:=by kernel_rfl
theorem ahf:TT.fn bW=some G7:=by kernel_rfl
theorem ahc:TT.fn iy=some GZ:=by kernel_rfl
theorem aen:TT.fn xq=some EN:=by kernel_rfl
theorem ahl:TT.fn dD=some Ho:=by kernel_rfl
theorem ahn:TT.fn dO=some Ht:=by kernel_rfl
theorem aei:TT.fn dK=some EI:=by kernel_rfl
theorem afn:TT.fn oL=some Uf:=by kernel_rfl
theorem ahd:TT.fn o8=some G5:=by kernel_rfl
theorem amN:TT.fn xw=some Ph:=by kernel_rfl
theorem ahg:TT.fn o9=some G8:=by kernel_rfl
theorem YP:TT.fn kD=some yK:=by kernel_rfl
theorem ahp:TT.fn zy=some Hw:=by kernel_rfl
theorem Vx:TT.fn xA=some ET:=by kernel_rfl
theorem ahm:TT.fn jq=some Hr:=by kernel_rfl
theorem aod:TT.fn L9=some Ug:=by kernel_rfl
theorem aej:TT.fn jH=some EJ:=by kernel_rfl
theorem Vu:TT.fn kX=some sZ:=by kernel_rfl
theorem ael:TT.fn xg=some EL:=by kernel_rfl
theorem WC:TT.fn slices_Reverse_int=some vg:=by kernel_rfl
theorem akB:TT.fn gY=some Na:=by kernel_rfl
theorem afi:TT.fn wF=some TS:=by kernel_rfl
theorem Jp:TT.fn vI=some JI:=by kernel_rfl
theorem aef:TT.fn sJ=some ED:=by kernel_rfl
theorem amI:TT.fn uj=some O6:=by kernel_rfl
theorem ag1:TT.fn oW=some Gw:=by kernel_rfl
theorem Ot:TT.fn vN=some Gt:=by kernel_rfl
theorem aaP:TT.fn Dx=some MV:=by kernel_rfl
theorem YJ:TT.fn Ej=some TL:=by kernel_rfl
theorem Qq:TT.fn yS=some JG:=by kernel_rfl
theorem UM:TT.fn vT=some Nc:=by kernel_rfl
theorem XL:TT.fn nU=some Hq:=by kernel_rfl
theorem akH:TT.fn D8=some Nu:=by kernel_rfl
theorem aek:TT.fn lN=some EK:=by kernel_rfl
theorem ap7:TT.fn lC=some WU:=by kernel_rfl
theorem akx:TT.fn DC=some MW:=by kernel_rfl
theorem aky:TT.fn DF=some MX:=by kernel_rfl
theorem akz:TT.fn yG=some MZ:=by kernel_rfl
theorem acD:TT.fn kG=some Dj:=by kernel_rfl
theorem an7:TT.fn sV=some TN:=by kernel_rfl
theorem aij:TT.fn rH=some Jv:=by kernel_rfl
theorem KE:TT.fn gK=some lI:=by kernel_rfl
theorem akG:TT.fn yP=some Ns:=by kernel_rfl
theorem YO:TT.fn lT=some yJ:=by kernel_rfl
theorem afm:TT.fn Je=some Ue:=by kernel_rfl
theorem aob:TT.fn iH=some Ub:=by kernel_rfl
theorem ap5:TT.fn iW=some WS:=by kernel_rfl
theorem ahb:TT.fn bV=some GY:=by kernel_rfl
theorem ag9:TT.fn jm=some GR:=by kernel_rfl
theorem ag5:TT.fn ji=some GI:=by kernel_rfl
theorem ag6:TT.fn kQ=some GK:=by kernel_rfl
theorem ag':TT.fn nR=some GV:=by kernel_rfl
theorem aem:TT.fn xk=some EM:=by kernel_rfl
theorem aeh:TT.fn fQ=some EH:=by kernel_rfl
theorem ag8:TT.fn oZ=some GN:=by kernel_rfl
theorem ag7:TT.fn jl=some GL:=by kernel_rfl
theorem ahh:TT.fn rX=some G9:=by kernel_rfl
theorem ahe:TT.fn rW=some G6:=by kernel_rfl
theorem aeg:TT.fn jF=some EG:=by kernel_rfl
theorem Vw:TT.fn kY=some tH:=by kernel_rfl
theorem ahi:TT.fn rY=some G_:=by kernel_rfl
theorem afj:TT.fn nM=some TW:=by kernel_rfl
theorem an_:TT.fn I7=some TU:=by kernel_rfl
theorem vM:TT.fn Ak=some Nb:=by kernel_rfl
theorem Ou:TT.fn zk=some Gz:=by kernel_rfl
theorem ail:TT.fn uU=some Jy:=by kernel_rfl
theorem Qp:TT.fn pO=some JD:=by kernel_rfl
theorem afh:TT.fn wE=some TQ:=by kernel_rfl
theorem YL:TT.fn gU=some Jz:=by kernel_rfl
theorem BX:TT.fn oI=some Nh:=by kernel_rfl
theorem an8:TT.fn Ep=some TP:=by kernel_rfl
theorem aee:TT.fn fD=some Ey:=by kernel_rfl
theorem ain:TT.fn vk=some JB:=by kernel_rfl
theorem afk:TT.fn LU=some Ua:=by kernel_rfl
theorem acF:TT.fn gI=some Pe:=by kernel_rfl
theorem SE:TT.fn dI=some Dk:=by kernel_rfl
theorem aha:TT.fn nS=some GX:=by kernel_rfl
theorem aio:TT.fn yL=some JC:=by kernel_rfl
theorem akE:TT.fn yN=some Nq:=by kernel_rfl
theorem amL:TT.fn Iw=some O_:=by kernel_rfl
theorem Sz:TT.fn slices_Reverse_string=some qI:=by kernel_rfl
theorem ag_:TT.fn rQ=some GU:=by kernel_rfl
theorem aed:TT.fn wO=some Ew:=by kernel_rfl
theorem aik:TT.fn AL=some Jw:=by kernel_rfl
theorem aip:TT.fn Bl=some JE:=by kernel_rfl
theorem ag2:TT.fn jg=some Gx:=by kernel_rfl
theorem ag3:TT.fn rJ=some Gy:=by kernel_rfl
theorem an9:TT.fn IZ=some TR:=by kernel_rfl
theorem akC:TT.fn Am=some Nj:=by kernel_rfl
theorem amJ:TT.fn DL=some O7:=by kernel_rfl
theorem amM:TT.fn Bd=some Pg:=by kernel_rfl
theorem aoa:TT.fn Cc=some T_:=by kernel_rfl
theorem an':TT.fn nat_bit=some TY:=by kernel_rfl
theorem amK:TT.fn D5=some O9:=by kernel_rfl
theorem aif:TT.fn uT=some Jt:=by kernel_rfl
theorem acE:TT.fn Bc=some O8:=by kernel_rfl
theorem aaQ:TT.fn DZ=some Np:=by kernel_rfl
theorem akF:TT.fn D6=some Nr:=by kernel_rfl
theorem akD:TT.fn DY=some Nl:=by kernel_rfl
theorem akA:TT.fn DI=some M_:=by kernel_rfl
theorem ag4:TT.fn lY=some GH:=by kernel_rfl
end Go.Ev.Code
end
