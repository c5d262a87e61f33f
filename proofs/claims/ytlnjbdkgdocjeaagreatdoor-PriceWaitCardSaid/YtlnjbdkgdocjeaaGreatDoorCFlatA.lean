/- A part of the proof of priceWait_card. -/
import Derived.Test.YtlnjbdkgdocjeaaGreatDoorCFlat
import Derived.Test.YtlnjbdkgdocjeaaGreatDoorCCodeA
set_option linter.unusedVariables false
section
namespace Go.Ev.Code
open Go Go.Ev
set_option maxRecDepth 100000
attribute [local irreducible] WO Zn bd jn U5 J5 gc gop IK LH Jb fz iO hdI tlI AQ Zz Ol Zt Ew zn KZ H8 BP KY Zu SS H_ dV oV Dh Zw Uo Un Zv acv acy ZA acz ZB SV S9 Oi ZC Qh Oe EP BO Og Zy Zx SY H7 rMn rMx WZ uN qh H6 W9 Oj H9 Kv Om Ku Oh acw
attribute [local irreducible] kQ yG yI gK AB Hy wz oC rE qJ oD DZ OC U8 aeB Uk Nh D9 xW vF zC aam yH kR oH mX Oc R_ rG SK zS xw BQ zQ qF rH oq ru rF zN kS ou BM slices_Reverse_int FU He Wq rD zD TG Yp aeA Nb Js P7 vT Qe F9 Uu Qn afg D_ RD RF KH mD FN NU iw F8 xC gV tN fC mZ kF o7 mY RZ J8 GY vU yF JE qY og F6 lq zO uP n_ Et ae8 zl qR qU vM Qd vK qV Kr Jf uH uK EJ Ou acC Ak D7 Yx GL nV aeY CX Pe CU lY yM oM rX uS ql wE yK tK nH qj sW lX lN iU jq jB iF oG C_ qG dY BF oU gZ Qc SL Vu Vw Td fO eU gW BD gU
noncomputable section
variable (m:Mem) (O:eP) (b:Nat) (t0 t1 t2 t3 t4 t5 t6 t7 t8 t9 t10 t11 t12 t13 t14 t15 t16 t21 t22 t23 t27 t28 t29 t34 t35 t36 t39 t40 t41 t77 t78 t79:D)
def eX:RV:=fl (sH.step3 O [t0,t1] m)
theorem r_:sH.step2 O [t0,t1] m=eX m O t0 t1:=st
def Lp:RV:=fl (A8.step3 O [t0] m)
theorem Yf:A8.step2 O [t0] m=Lp m O t0:=st
def jl:RV:=fl (Ba.step3 O [t0,t1] m)
theorem uG:Ba.step2 O [t0,t1] m=jl m O t0 t1:=st
def gI:RV:=fl (Ae.step3 O [t0] m)
theorem z_:Ae.step2 O [t0] m=gI m O t0:=st
def Ea:RV:=fl (DI.step3 O [t0,t1] m)
theorem aas:DI.step2 O [t0,t1] m=Ea m O t0 t1:=st
def xG:RV:=fl (PK.step3 O [t0,t1] m)
theorem Gt:PK.step2 O [t0,t1] m=xG m O t0 t1:=st
def IY:RV:=fl (Ac.step3 O [t0,t1] m)
theorem XQ:Ac.step2 O [t0,t1] m=IY m O t0 t1:=st
def VB:RV:=fl (Jq.step3 O [t0] m)
theorem aey:Jq.step2 O [t0] m=VB m O t0:=st
def XJ:RV:=fl (MP.step3 O [t0,t1] m)
theorem ag5:MP.step2 O [t0,t1] m=XJ m O t0 t1:=st
def vX:RV:=fl (vH.step3 O [t0,t1] m)
theorem TD:vH.step2 O [t0,t1] m=vX m O t0 t1:=st
def JV:RV:=fl (Jr.step3 O [t0] m)
theorem aez:Jr.step2 O [t0] m=JV m O t0:=st
def oO:RV:=fl (YT.step3 O [t0] m)
theorem afu:YT.step2 O [t0] m=oO m O t0:=st
def BX:RV:=fl (YN.step3 O [t0] m)
theorem FH:YN.step2 O [t0] m=BX m O t0:=st
def ji:RV:=fl (Pq.step3 O [t0] m)
theorem ahR:Pq.step2 O [t0] m=ji m O t0:=st
def uD:RV:=fl (LV.step3 O [t0] m)
theorem agK:LV.step2 O [t0] m=uD m O t0:=st
def Nj:RV:=fl (LU.step3 O [t0] m)
theorem agJ:LU.step2 O [t0] m=Nj m O t0:=st
def agt:RV:=fl (YS.step3 O [t0,t1] m)
theorem anI:YS.step2 O [t0,t1] m=agt m O t0 t1:=st
def Lr:RV:=fl (A_.step3 O [t0,t1] m)
theorem Yg:A_.step2 O [t0,t1] m=Lr m O t0 t1:=st
def aB:RV:=fl (yc.step3 O [t0] m)
theorem Gv:yc.step2 O [t0] m=aB m O t0:=st
def yS:RV:=fl (yh.step3 O [t0] m)
theorem Gw:yh.step2 O [t0] m=yS m O t0:=st
def xH:RV:=fl (wP.step3 O [t0,t1] m)
theorem UO:wP.step2 O [t0,t1] m=xH m O t0 t1:=st
def IE:RV:=fl (PL.step3 O [t0,t1] m)
theorem OW:PL.step2 O [t0,t1] m=IE m O t0 t1:=st
def lC:RV:=fl (TS.step3 O [t0,t1,t2,t3] m)
theorem TB:TS.step2 O [t0,t1,t2,t3] m=lC m O t0 t1 t2 t3:=st
def NC:RV:=fl (MR.step3 O [t0,t1] m)
theorem Xm:MR.step2 O [t0,t1] m=NC m O t0 t1:=st
def abj:RV:=fl (Uc.step3 O [] m)
theorem akk:Uc.step2 O [] m=abj m O:=st
def XO:RV:=fl (MW.step3 O [t0,t1] m)
theorem ag9:MW.step2 O [t0,t1] m=XO m O t0 t1:=st
def Dl:RV:=fl (Jo.step3 O [t0,t1] m)
theorem aew:Jo.step2 O [t0,t1] m=Dl m O t0 t1:=st
def ajI:RV:=fl (abC.step3 O [t0,t1] m)
theorem apr:abC.step2 O [t0,t1] m=ajI m O t0 t1:=st
def XL:RV:=fl (MS.step3 O [t0,t1] m)
theorem ag7:MS.step2 O [t0,t1] m=XL m O t0 t1:=st
def XM:RV:=fl (MV.step3 O [t0] m)
theorem ag8:MV.step2 O [t0] m=XM m O t0:=st
def Dk:RV:=fl (Jl.step3 O [t0] m)
theorem aeu:Jl.step2 O [t0] m=Dk m O t0:=st
def Nv:RV:=fl (MJ.step3 O [t0,t1] m)
theorem ag0:MJ.step2 O [t0,t1] m=Nv m O t0 t1:=st
def XK:RV:=fl (MQ.step3 O [t0] m)
theorem ag6:MQ.step2 O [t0] m=XK m O t0:=st
def XH:RV:=fl (MI.step3 O [t0,t1] m)
theorem agZ:MI.step2 O [t0,t1] m=XH m O t0 t1:=st
def lU:RV:=fl (yj.step3 O [t0,t1] m)
theorem Gx:yj.step2 O [t0,t1] m=lU m O t0 t1:=st
def JU:RV:=fl (Jm.step3 O [t0] m)
theorem aev:Jm.step2 O [t0] m=JU m O t0:=st
def VA:RV:=fl (Jp.step3 O [t0] m)
theorem aex:Jp.step2 O [t0] m=VA m O t0:=st
def II:RV:=fl (yx.step3 O [t0] m)
theorem VN:yx.step2 O [t0] m=II m O t0:=st
def abf:RV:=fl (TQ.step3 O [t0,t1] m)
theorem ake:TQ.step2 O [t0,t1] m=abf m O t0 t1:=st
def Vy:RV:=fl (Ji.step3 O [t0] m)
theorem aep:Ji.step2 O [t0] m=Vy m O t0:=st
def Ot:RV:=fl (V6.step3 O [t0,t1] m)
theorem al9:V6.step2 O [t0,t1] m=Ot m O t0 t1:=st
def Nz:RV:=fl (MO.step3 O [t0,t1] m)
theorem ag4:MO.step2 O [t0,t1] m=Nz m O t0 t1:=st
def Nk:RV:=fl (LW.step3 O [t0] m)
theorem agL:LW.step2 O [t0] m=Nk m O t0:=st
def ad7:RV:=fl (V5.step3 O [t0] m)
theorem al8:V5.step2 O [t0] m=ad7 m O t0:=st
def acD:RV:=fl (abB.step3 O [t0] m)
theorem apq:abB.step2 O [t0] m=acD m O t0:=st
def pW:RV:=fl (MH.step3 O [t0,t1] m)
theorem agY:MH.step2 O [t0,t1] m=pW m O t0 t1:=st
def Tq:RV:=fl (YU.step3 O [t0,t1] m)
theorem afv:YU.step2 O [t0,t1] m=Tq m O t0 t1:=st
def vW:RV:=fl (TL.step3 O [t0] m)
theorem aj':TL.step2 O [t0] m=vW m O t0:=st
def lu:RV:=fl (TM.step3 O [t0] m)
theorem akb:TM.step2 O [t0] m=lu m O t0:=st
def Ux:RV:=fl (TN.step3 O [t0] m)
theorem akc:TN.step2 O [t0] m=Ux m O t0:=st
def Tm:RV:=fl (G8.step3 O [t0,t1] m)
theorem acM:G8.step2 O [t0,t1] m=Tm m O t0 t1:=st
def agn:RV:=fl (YH.step3 O [t0] m)
theorem anB:YH.step2 O [t0] m=agn m O t0:=st
def Qr:RV:=fl (Pv.step3 O [t0] m)
theorem ahS:Pv.step2 O [t0] m=Qr m O t0:=st
def mM:RV:=fl (mG.step3 O [t0,t1] m)
theorem IL:mG.step2 O [t0,t1] m=mM m O t0 t1:=st
def UC:RV:=fl (Ub.step3 O [t0,t1] m)
theorem akj:Ub.step2 O [t0,t1] m=UC m O t0 t1:=st
def FD:RV:=fl (E8.step3 O [t0] m)
theorem abq:E8.step2 O [t0] m=FD m O t0:=st
def dQ:RV:=fl (tY.step3 O [t0,t1,t2] m)
theorem jE:tY.step2 O [t0,t1,t2] m=dQ m O t0 t1 t2:=st
def jd:RV:=fl (wR.step3 O [t0] m)
theorem UR:wR.step2 O [t0] m=jd m O t0:=st
def dZ:RV:=fl (wU.step3 O [t0,t1,t2,t3] m)
theorem FI:wU.step2 O [t0,t1,t2,t3] m=dZ m O t0 t1 t2 t3:=st
def Gn:RV:=fl (wV.step3 O [t0,t1] m)
theorem UY:wV.step2 O [t0,t1] m=Gn m O t0 t1:=st
def uX:RV:=fl (Bc.step3 O [t0,t1] m)
theorem AU:Bc.step2 O [t0,t1] m=uX m O t0 t1:=st
def NQ:RV:=fl (DV.step3 O [t0,t1] m)
theorem aav:DV.step2 O [t0,t1] m=NQ m O t0 t1:=st
def Gm:RV:=fl (wS.step3 O [t0] m)
theorem UU:wS.step2 O [t0] m=Gm m O t0:=st
def nS:RV:=fl (TR.step3 O [t0,t1] m)
theorem qN:TR.step2 O [t0,t1] m=nS m O t0 t1:=st
def ET:RV:=fl (L6.step3 O [t0,t1] m)
theorem LK:L6.step2 O [t0,t1] m=ET m O t0 t1:=st
def jW:bI:=fl (aO O [1,4,5] [1,4] jB Ik b [t1,t4,t5] m)
theorem vC:aJ O [1,4,5] [1,4] jB b [t1,t4,t5] m=jW m O b t1 t4 t5:=eH
def jX:bI:=fl (aO O [1,4,8,9] [1,4,8] iF Il b [t1,t4,t8,t9] m)
theorem nJ:aJ O [1,4,8,9] [1,4,8] iF b [t1,t4,t8,t9] m=jX m O b t1 t4 t8 t9:=eH
def lT:bI:=fl (aO O [0,1,5] [4] oG K_ b [t0,t1,t5] m)
theorem Gu:aJ O [0,1,5] [4] oG b [t0,t1,t5] m=lT m O b t0 t1 t5:=eH
def IC:bI:=fl (aO O [1,6,7,8,9,27,28,29] [1,6,7,8] C_ adN b [t1,t6,t7,t8,t9,t27,t28,t29] m)
theorem OU:aJ O [1,6,7,8,9,27,28,29] [1,6,7,8] C_ b [t1,t6,t7,t8,t9,t27,t28,t29] m=IC m O b t1 t6 t7 t8 t9 t27 t28 t29:=eH
def gX:bI:=fl (aO O [1,4,6,7,21,22,23] [2,3,7] qG adh b [t1,t4,t6,t7,t21,t22,t23] m)
theorem iH:aJ O [1,4,6,7,21,22,23] [2,3,7] qG b [t1,t4,t6,t7,t21,t22,t23] m=gX m O b t1 t4 t6 t7 t21 t22 t23:=eH
def fF:bI:=fl (aO O [1,4,6,7] [2,3,6] dY Gf b [t1,t4,t6,t7] m)
theorem iy:aJ O [1,4,6,7] [2,3,6] dY b [t1,t4,t6,t7] m=fF m O b t1 t4 t6 t7:=eH
def JL:bI:=fl (aO O [2,3,4,14,77,78,79] [14] BF YX b [t2,t3,t4,t14,t77,t78,t79] m)
theorem UK:aJ O [2,3,4,14,77,78,79] [14] BF b [t2,t3,t4,t14,t77,t78,t79] m=JL m O b t2 t3 t4 t14 t77 t78 t79:=eH
def qw:bI:=fl (aO O [1,5,6] [2,3,4] oU SE b [t1,t5,t6] m)
theorem Dx:aJ O [1,5,6] [2,3,4] oU b [t1,t5,t6] m=qw m O b t1 t5 t6:=eH
def uf:bI:=fl (aO O [0,2,3] [] gZ Gp b [t0,t2,t3] m)
theorem Dt:aJ O [0,2,3] [] gZ b [t0,t2,t3] m=uf m O b t0 t2 t3:=eH
def iG:bI:=fl (aO O [0,1,7,8] [4] fO vg b [t0,t1,t7,t8] m)
theorem sD:aJ O [0,1,7,8] [4] fO b [t0,t1,t7,t8] m=iG m O b t0 t1 t7 t8:=eH
def iJ:bI:=fl (aO O [1,8,9] [1,8,9] eU BR b [t1,t8,t9] m)
theorem jZ:aJ O [1,8,9] [1,8,9] eU b [t1,t8,t9] m=iJ m O b t1 t8 t9:=eH
def kD:bI:=fl (aO O [1,8,9] [8,9] gW BU b [t1,t8,t9] m)
theorem pJ:aJ O [1,8,9] [8,9] gW b [t1,t8,t9] m=kD m O b t1 t8 t9:=eH
def JK:bI:=fl (aO O [1,2,6] [1,2,6] BD YW b [t1,t2,t6] m)
theorem UJ:aJ O [1,2,6] [1,2,6] BD b [t1,t2,t6] m=JK m O b t1 t2 t6:=eH
def kG:bI:=fl (aO O [2,3,6,7] [4,5,6] gU U9 b [t2,t3,t6,t7] m)
theorem m_:aJ O [2,3,6,7] [4,5,6] gU b [t2,t3,t6,t7] m=kG m O b t2 t3 t6 t7:=eH
end
end Go.Ev.Code
end
section
namespace Go.Ev.Code
open Go Go.Ev
set_option maxRecDepth 100000
attribute [local irreducible] WO Zn bd jn U5 J5 gc gop IK LH Jb fz iO hdI tlI AQ Zz Ol Zt Ew zn KZ H8 BP KY Zu SS H_ dV oV Dh Zw Uo Un Zv acv acy ZA acz ZB SV S9 Oi ZC Qh Oe EP BO Og Zy Zx SY H7 rMn rMx WZ uN qh H6 W9 Oj H9 Kv Om Ku Oh acw
attribute [local irreducible] oC rE oD xW vF mX rG BQ rH oq ru rF kS ou Js P7 vT F9 KH fC o7 vU qY og F6 lq n_ Et zl qR qU vM vK qV Kr Jf uH uK EJ GL nV CX CU lY oM ql nH lX lN GZ NW Ob um bits_Mul64 bits_Add64 jf dF F5 fP strings_Repeat slices_Reverse_string strings_Join strings_Cut ae2 zI zJ bits_Sub64 Ht WJ Eh J6 aad KP jD RH Wu mV RI Ws Uw Xa D8 TK strings_CutPrefix oP jo U4 yP yN sV oW oZ uT Di yJ jP yO uQ uU jh CJ iR BK FY nat_bit Jz bits_LeadingZeros64 Fj KR KT KQ RQ qL Ko yZ ab5 PS Yz YA D5 En PZ strconv_Itoa wZ w_ jc lM rU xg SH SI G5 zf zh GN GR CP adp lQ lS qm qo fD dK dW kT oJ uq qX BI eY uM xk uo vN Eo Ep Vx gG eu fJ
noncomputable section
variable (m:Mem) (O:eP) (b:Nat) (t0 t1 t2 t3 t4 t5 t6 t7 t8 t9 t10 t11 t12 t13 t18 t19 t20 t25 t26 t27 t28 t33 t34 t35 t36 t37 t43 t44 t45 t47 t48 t49 t86 t87:D)
def Qw:RV:=fl (Py.step3 O [t0,t1,t2,t3,t4,t5] m)
theorem ahV:Py.step2 O [t0,t1,t2,t3,t4,t5] m=Qw m O t0 t1 t2 t3 t4 t5:=st
def Nw:RV:=fl (MK.step3 O [t0] m)
theorem ag1:MK.step2 O [t0] m=Nw m O t0:=st
def xE:RV:=fl (PG.step3 O [t0,t1] m)
theorem OV:PG.step2 O [t0,t1] m=xE m O t0 t1:=st
def aeb:RV:=fl (Wj.step3 O [t0,t1] m)
theorem amd:Wj.step2 O [t0,t1] m=aeb m O t0 t1:=st
def XG:RV:=fl (MG.step3 O [t0] m)
theorem agX:MG.step2 O [t0] m=XG m O t0:=st
def Vz:RV:=fl (Jk.step3 O [t0] m)
theorem aes:Jk.step2 O [t0] m=Vz m O t0:=st
def Tn:RV:=fl (YR.step3 O [t0,t1] m)
theorem anH:YR.step2 O [t0,t1] m=Tn m O t0 t1:=st
def XD:RV:=fl (Me.step3 O [t0,t1] m)
theorem agT:Me.step2 O [t0,t1] m=XD m O t0 t1:=st
def XI:RV:=fl (ML.step3 O [t0,t1] m)
theorem ag2:ML.step2 O [t0,t1] m=XI m O t0 t1:=st
def IG:RV:=fl (yt.step3 O [t0,t1] m)
theorem VK:yt.step2 O [t0,t1] m=IG m O t0 t1:=st
def JM:RV:=fl (Jj.step3 O [t0] m)
theorem aer:Jj.step2 O [t0] m=JM m O t0:=st
def Ny:RV:=fl (MN.step3 O [t0,t1] m)
theorem ag3:MN.step2 O [t0,t1] m=Ny m O t0 t1:=st
def ajH:RV:=fl (abA.step3 O [t0] m)
theorem apo:abA.step2 O [t0] m=ajH m O t0:=st
def Np:RV:=fl (L9.step3 O [t0,t1] m)
theorem agP:L9.step2 O [t0,t1] m=Np m O t0 t1:=st
def XC:RV:=fl (L_.step3 O [t0,t1] m)
theorem agQ:L_.step2 O [t0,t1] m=XC m O t0 t1:=st
def XF:RV:=fl (MC.step3 O [t0,t1] m)
theorem agV:MC.step2 O [t0,t1] m=XF m O t0 t1:=st
def pU:RV:=fl (Md.step3 O [t0,t1] m)
theorem agS:Md.step2 O [t0,t1] m=pU m O t0 t1:=st
def EU:RV:=fl (Mc.step3 O [t0,t1] m)
theorem agR:Mc.step2 O [t0,t1] m=EU m O t0 t1:=st
def Ti:RV:=fl (YJ.step3 O [t0] m)
theorem afr:YJ.step2 O [t0] m=Ti m O t0:=st
def Qx:RV:=fl (Pz.step3 O [t0] m)
theorem Yb:Pz.step2 O [t0] m=Qx m O t0:=st
def lD:RV:=fl (TU.step3 O [t0,t1,t2] m)
theorem zA:TU.step2 O [t0,t1,t2] m=lD m O t0 t1 t2:=st
def agp:RV:=fl (YI.step3 O [t0,t1] m)
theorem anC:YI.step2 O [t0,t1] m=agp m O t0 t1:=st
def JJ:RV:=fl (Jh.step3 O [t0] m)
theorem aeo:Jh.step2 O [t0] m=JJ m O t0:=st
def ZL:RV:=fl (PD.step3 O [t0] m)
theorem ahW:PD.step2 O [t0] m=ZL m O t0:=st
def iq:RV:=fl (YL.step3 O [t0] m)
theorem afs:YL.step2 O [t0] m=iq m O t0:=st
def I8:RV:=fl (Aj.step3 O [t0] m)
theorem XW:Aj.step2 O [t0] m=I8 m O t0:=st
def B_:RV:=fl (Bq.step3 O [t0] m)
theorem Yl:Bq.step2 O [t0] m=B_ m O t0:=st
def yX:RV:=fl (yw.step3 O [t0,t1] m)
theorem VL:yw.step2 O [t0,t1] m=yX m O t0 t1:=st
def yY:RV:=fl (E_.step3 O [t0] m)
theorem OY:E_.step2 O [t0] m=yY m O t0:=st
def aW:RV:=fl (yu.step3 O [t0] m)
theorem jr:yu.step2 O [t0] m=aW m O t0:=st
def I7:RV:=fl (Ai.step3 O [t0] m)
theorem XV:Ai.step2 O [t0] m=I7 m O t0:=st
def I4:RV:=fl (Ag.step3 O [t0,t1] m)
theorem XT:Ag.step2 O [t0,t1] m=I4 m O t0 t1:=st
def Lu:RV:=fl (Bj.step3 O [t0,t1] m)
theorem Yj:Bj.step2 O [t0,t1] m=Lu m O t0 t1:=st
def Gl:RV:=fl (wQ.step3 O [t0] m)
theorem UQ:wQ.step2 O [t0] m=Gl m O t0:=st
def Ls:RV:=fl (Bf.step3 O [t0,t1] m)
theorem Yi:Bf.step2 O [t0,t1] m=Ls m O t0 t1:=st
def tV:RV:=fl (Ad.step3 O [t0,t1,t2,t3] m)
theorem zZ:Ad.step2 O [t0,t1,t2,t3] m=tV m O t0 t1 t2 t3:=st
def uZ:RV:=fl (Bh.step3 O [t0,t1] m)
theorem AV:Bh.step2 O [t0,t1] m=uZ m O t0 t1:=st
def I5:RV:=fl (Ah.step3 O [t0,t1] m)
theorem XU:Ah.step2 O [t0,t1] m=I5 m O t0 t1:=st
def wG:RV:=fl (DN.step3 O [t0,t1] m)
theorem Dz:DN.step2 O [t0,t1] m=wG m O t0 t1:=st
def JI:RV:=fl (Jg.step3 O [t0] m)
theorem aen:Jg.step2 O [t0] m=JI m O t0:=st
def Qv:RV:=fl (Px.step3 O [t0,t1,t2] m)
theorem ahU:Px.step2 O [t0,t1,t2] m=Qv m O t0 t1 t2:=st
def QA:RV:=fl (PI.step3 O [t0,t1] m)
theorem ahY:PI.step2 O [t0,t1] m=QA m O t0 t1:=st
def Iy:RV:=fl (G9.step3 O [t0] m)
theorem QT:G9.step2 O [t0] m=Iy m O t0:=st
def Xc:RV:=fl (Wh.step3 O [t0] m)
theorem acO:Wh.step2 O [t0] m=Xc m O t0:=st
def abh:RV:=fl (T_.step3 O [t0,t1] m)
theorem akh:T_.step2 O [t0,t1] m=abh m O t0 t1:=st
def Du:RV:=fl (tZ.step3 O [t0] m)
theorem QM:tZ.step2 O [t0] m=Du m O t0:=st
def xO:RV:=fl (YO.step3 O [t0] m)
theorem aft:YO.step2 O [t0] m=xO m O t0:=st
def Nq:RV:=fl (MF.step3 O [t0,t1] m)
theorem agW:MF.step2 O [t0,t1] m=Nq m O t0 t1:=st
def ZM:RV:=fl (PE.step3 O [t0,t1] m)
theorem ahX:PE.step2 O [t0,t1] m=ZM m O t0 t1:=st
def ad_:RV:=fl (V_.step3 O [t0,t1] m)
theorem amb:V_.step2 O [t0,t1] m=ad_ m O t0 t1:=st
def Nl:RV:=fl (LX.step3 O [t0,t1] m)
theorem agM:LX.step2 O [t0,t1] m=Nl m O t0 t1:=st
def XA:RV:=fl (LY.step3 O [t0] m)
theorem agN:LY.step2 O [t0] m=XA m O t0:=st
def ZK:RV:=fl (YK.step3 O [t0] m)
theorem anD:YK.step2 O [t0] m=ZK m O t0:=st
def Uy:RV:=fl (TV.step3 O [t0,t1] m)
theorem akf:TV.step2 O [t0,t1] m=Uy m O t0 t1:=st
def ad8:RV:=fl (V7.step3 O [t0,t1] m)
theorem al_:V7.step2 O [t0,t1] m=ad8 m O t0 t1:=st
def agq:RV:=fl (YM.step3 O [t0] m)
theorem anE:YM.step2 O [t0] m=agq m O t0:=st
def LD:RV:=fl (BA.step3 O [t0] m)
theorem Yn:BA.step2 O [t0] m=LD m O t0:=st
def u_:RV:=fl (Bv.step3 O [t0] m)
theorem Ym:Bv.step2 O [t0] m=u_ m O t0:=st
def jm:RV:=fl (Bg.step3 O [t0] m)
theorem KE:Bg.step2 O [t0] m=jm m O t0:=st
def Eb:RV:=fl (DJ.step3 O [t0,t1] m)
theorem NG:DJ.step2 O [t0,t1] m=Eb m O t0 t1:=st
def Fv:bI:=fl (aO O [6,7,8,9,10,26,27,28,33,34,35] [6,7,8,10,26,27,28] wZ Ve b [t6,t7,t8,t9,t10,t26,t27,t28,t33,t34,t35] m)
theorem OM:aJ O [6,7,8,9,10,26,27,28,33,34,35] [6,7,8,10,26,27,28] wZ b [t6,t7,t8,t9,t10,t26,t27,t28,t33,t34,t35] m=Fv m O b t6 t7 t8 t9 t10 t26 t27 t28 t33 t34 t35:=eH
def Fz:bI:=fl (aO O [6,7,26,27,28] [7] w_ Vf b [t6,t7,t26,t27,t28] m)
theorem OO:aJ O [6,7,26,27,28] [7] w_ b [t6,t7,t26,t27,t28] m=Fz m O b t6 t7 t26 t27 t28:=eH
def jG:bI:=fl (aO O [1,2,5] [4] jc Gg b [t1,t2,t5] m)
theorem QL:aJ O [1,2,5] [4] jc b [t1,t2,t5] m=jG m O b t1 t2 t5:=eH
def iQ:bI:=fl (aO O [3,4] [3] lM SB b [t3,t4] m)
theorem pY:aJ O [3,4] [3] lM b [t3,t4] m=iQ m O b t3 t4:=eH
def yQ:bI:=fl (aO O [5,6,7,8,27,28] [5,7,8] rU Vd b [t5,t6,t7,t8,t27,t28] m)
theorem OL:aJ O [5,6,7,8,27,28] [5,7,8] rU b [t5,t6,t7,t8,t27,t28] m=yQ m O b t5 t6 t7 t8 t27 t28:=eH
def yR:bI:=fl (aO O [6,7,8,9,25,26] [8] xg Vh b [t6,t7,t8,t9,t25,t26] m)
theorem OQ:aJ O [6,7,8,9,25,26] [8] xg b [t6,t7,t8,t9,t25,t26] m=yR m O b t6 t7 t8 t9 t25 t26:=eH
def Qy:bI:=fl (aO O [1,4,5] [4] G5 ac6 b [t1,t4,t5] m)
theorem Yc:aJ O [1,4,5] [4] G5 b [t1,t4,t5] m=Qy m O b t1 t4 t5:=eH
def Iu:bI:=fl (aO O [0,2,4] [0,2,4] zf Xq b [t0,t2,t4] m)
theorem QO:aJ O [0,2,4] [0,2,4] zf b [t0,t2,t4] m=Iu m O b t0 t2 t4:=eH
def Iw:bI:=fl (aO O [2,4,5] [2,4,5] zh Xr b [t2,t4,t5] m)
theorem QS:aJ O [2,4,5] [2,4,5] zh b [t2,t4,t5] m=Iw m O b t2 t4 t5:=eH
def ZJ:bI:=fl (aO O [0,6,35,36,37] [0,6] GN acV b [t0,t6,t35,t36,t37] m)
theorem ahT:aJ O [0,6,35,36,37] [0,6] GN b [t0,t6,t35,t36,t37] m=ZJ m O b t0 t6 t35 t36 t37:=eH
def Qs:bI:=fl (aO O [6,10,11,47,48,49] [6,47,48,49] GR acW b [t6,t10,t11,t47,t48,t49] m)
theorem X_:aJ O [6,10,11,47,48,49] [6,47,48,49] GR b [t6,t10,t11,t47,t48,t49] m=Qs m O b t6 t10 t11 t47 t48 t49:=eH
def Qu:bI:=fl (aO O [6,47,48,49] [6] CP acX b [t6,t47,t48,t49] m)
theorem Ya:aJ O [6,47,48,49] [6] CP b [t6,t47,t48,t49] m=Qu m O b t6 t47 t48 t49:=eH
def vY:bI:=fl (aO O [0,2,3] [0,2,3] lQ Io b [t0,t2,t3] m)
theorem Ee:aJ O [0,2,3] [0,2,3] lQ b [t0,t2,t3] m=vY m O b t0 t2 t3:=eH
def vZ:bI:=fl (aO O [0,2,3] [0,2,3] lS Ip b [t0,t2,t3] m)
theorem Ef:aJ O [0,2,3] [0,2,3] lS b [t0,t2,t3] m=vZ m O b t0 t2 t3:=eH
def Am:bI:=fl (aO O [1,4,5] [1,4] qm NJ b [t1,t4,t5] m)
theorem IQ:aJ O [1,4,5] [1,4] qm b [t1,t4,t5] m=Am m O b t1 t4 t5:=eH
def Ap:bI:=fl (aO O [1,4,6] [1,4] qo NK b [t1,t4,t6] m)
theorem IU:aJ O [1,4,6] [1,4] qo b [t1,t4,t6] m=Ap m O b t1 t4 t6:=eH
def mQ:bI:=fl (aO O [0,2,5,6,7] [0,2,5,6,7] fD Gh b [t0,t2,t5,t6,t7] m)
theorem Dq:aJ O [0,2,5,6,7] [0,2,5,6,7] fD b [t0,t2,t5,t6,t7] m=mQ m O b t0 t2 t5 t6 t7:=eH
def iD:bI:=fl (aO O [2,5,6,8,9,11] [2,3,4,6,8,9] dK Gi b [t2,t5,t6,t8,t9,t11] m)
theorem mO:aJ O [2,5,6,8,9,11] [2,3,4,6,8,9] dK b [t2,t5,t6,t8,t9,t11] m=iD m O b t2 t5 t6 t8 t9 t11:=eH
def iM:bI:=fl (aO O [2,3,4,5,8,12,13] [8,9,12] dW Ij b [t2,t3,t4,t5,t8,t12,t13] m)
theorem jS:aJ O [2,3,4,5,8,12,13] [8,9,12] dW b [t2,t3,t4,t5,t8,t12,t13] m=iM m O b t2 t3 t4 t5 t8 t12 t13:=eH
def qK:bI:=fl (aO O [0,1,5,6,7,8] [0,1,5,6] kT Ld b [t0,t1,t5,t6,t7,t8] m)
theorem xR:aJ O [0,1,5,6,7,8] [0,1,5,6] kT b [t0,t1,t5,t6,t7,t8] m=qK m O b t0 t1 t5 t6 t7 t8:=eH
def yT:bI:=fl (aO O [0,1,5,6] [5] oJ Le b [t0,t1,t5,t6] m)
theorem Gz:aJ O [0,1,5,6] [5] oJ b [t0,t1,t5,t6] m=yT m O b t0 t1 t5 t6:=eH
def o_:bI:=fl (aO O [1,2,6] [4,5] uq Xy b [t1,t2,t6] m)
theorem acP:aJ O [1,2,6] [4,5] uq b [t1,t2,t6] m=o_ m O b t1 t2 t6:=eH
def pV:bI:=fl (aO O [0] [0] qX aa9 b [t0] m)
theorem EH:aJ O [0] [0] qX b [t0] m=pV m O b t0:=eH
def JQ:bI:=fl (aO O [0,1,6,7,8] [6,7] BI Zh b [t0,t1,t6,t7,t8] m)
theorem UM:aJ O [0,1,6,7,8] [6,7] BI b [t0,t1,t6,t7,t8] m=JQ m O b t0 t1 t6 t7 t8:=eH
def pX:bI:=fl (aO O [0,2,3] [] eY Cc b [t0,t2,t3] m)
theorem y8:aJ O [0,2,3] [] eY b [t0,t2,t3] m=pX m O b t0 t2 t3:=eH
def Qz:bI:=fl (aO O [0,5,6,7] [5] uM adE b [t0,t5,t6,t7] m)
theorem Yd:aJ O [0,5,6,7] [5] uM b [t0,t5,t6,t7] m=Qz m O b t0 t5 t6 t7:=eH
def tq:bI:=fl (aO O [0,1,5] [4] xk Vj b [t0,t1,t5] m)
theorem OT:aJ O [0,1,5] [4] xk b [t0,t1,t5] m=tq m O b t0 t1 t5:=eH
def uV:bI:=fl (aO O [0,1,5] [4] uo Xx b [t0,t1,t5] m)
theorem Ar:aJ O [0,1,5] [4] uo b [t0,t1,t5] m=uV m O b t0 t1 t5:=eH
def EX:bI:=fl (aO O [1,6,7,8,9,10,11,12] [1,6,7,8,9,10] vN aa6 b [t1,t6,t7,t8,t9,t10,t11,t12] m)
theorem LM:aJ O [1,6,7,8,9,10,11,12] [1,6,7,8,9,10] vN b [t1,t6,t7,t8,t9,t10,t11,t12] m=EX m O b t1 t6 t7 t8 t9 t10 t11 t12:=eH
def Nr:bI:=fl (aO O [1,6,7,8,9,10] [1,6,7,9] Eo aa7 b [t1,t6,t7,t8,t9,t10] m)
theorem Xj:aJ O [1,6,7,8,9,10] [1,6,7,9] Eo b [t1,t6,t7,t8,t9,t10] m=Nr m O b t1 t6 t7 t8 t9 t10:=eH
def Ns:bI:=fl (aO O [6,7,9,13,86,87] [9,13] Ep aa8 b [t6,t7,t9,t13,t86,t87] m)
theorem Xk:aJ O [6,7,9,13,86,87] [9,13] Ep b [t6,t7,t9,t13,t86,t87] m=Ns m O b t6 t7 t9 t13 t86 t87:=eH
def d_:bI:=fl (aO O [0,4,5,6,7] [0,2,3,4,5,6] gG IV b [t0,t4,t5,t6,t7] m)
theorem wI:aJ O [0,4,5,6,7] [0,2,3,4,5,6] gG b [t0,t4,t5,t6,t7] m=d_ m O b t0 t4 t5 t6 t7:=eH
def gY:bI:=fl (aO O [0,4,5] [2,3,4] eu IW b [t0,t4,t5] m)
theorem wJ:aJ O [0,4,5] [2,3,4] eu b [t0,t4,t5] m=gY m O b t0 t4 t5:=eH
def dM:bI:=fl (aO O [0,1,5,6,7] [5] fJ La b [t0,t1,t5,t6,t7] m)
theorem dU:aJ O [0,1,5,6,7] [5] fJ b [t0,t1,t5,t6,t7] m=dM m O b t0 t1 t5 t6 t7:=eH
end
end Go.Ev.Code
end
section
namespace Go.Ev.Code
open Go Go.Ev
set_option maxRecDepth 100000
attribute [local irreducible] WO Zn bd jn U5 J5 gc gop IK LH Jb fz iO hdI tlI AQ Zz Ol Zt Ew zn KZ H8 BP KY Zu SS H_ dV oV Dh Zw Uo Un Zv acv acy ZA acz ZB SV S9 Oi ZC Qh Oe EP BO Og Zy Zx SY H7 rMn rMx WZ uN qh H6 W9 Oj H9 Kv Om Ku Oh acw
attribute [local irreducible] qF rH oq ru rF FU Js xC qY og F6 lq n_ zl qR qU qV nV lY nH sW lN um bits_Mul64 bits_Add64 jf strings_Repeat bits_Sub64 Eh KP U4 oZ jP jh jM CJ BK nat_bit bits_LeadingZeros64 En strconv_Itoa wC yL bits_TrailingZeros64 abx V4 YB M_ D6 MZ MX Wp zH YD zk YE qg CV h_ jJ dS iU jq Ci fK oK oI oL kU jR ug uh zM CZ zL zK xq BJ BH xI Dv rV SA U7 YF YG
noncomputable section
variable (m:Mem) (O:eP) (b:Nat) (t0 t1 t2 t3 t4 t5 t6 t7 t8 t9 t10 t11 t12 t13 t14 t15 t16 t17 t18 t43 t44 t45:D)
def wH:RV:=fl (DR.step3 O [t0] m)
theorem DC:DR.step2 O [t0] m=wH m O t0:=st
def NP:RV:=fl (DT.step3 O [t0,t1] m)
theorem aau:DT.step2 O [t0,t1] m=NP m O t0 t1:=st
def FB:RV:=fl (E5.step3 O [t0] m)
theorem OX:E5.step2 O [t0] m=FB m O t0:=st
def uY:RV:=fl (Bd.step3 O [t0,t1] m)
theorem Yh:Bd.step2 O [t0,t1] m=uY m O t0 t1:=st
def wF:RV:=fl (DL.step3 O [t0,t1] m)
theorem Dy:DL.step2 O [t0,t1] m=wF m O t0 t1:=st
def Cb:RV:=fl (Bz.step3 O [t0,t1,t2,t3,t4,t5] m)
theorem KG:Bz.step2 O [t0,t1,t2,t3,t4,t5] m=Cb m O t0 t1 t2 t3 t4 t5:=st
def lZ:RV:=fl (DK.step3 O [t0,t1] m)
theorem aat:DK.step2 O [t0,t1] m=lZ m O t0 t1:=st
def Ec:RV:=fl (DU.step3 O [t0,t1] m)
theorem NH:DU.step2 O [t0,t1] m=Ec m O t0 t1:=st
def LC:RV:=fl (Bl.step3 O [t0] m)
theorem Yk:Bl.step2 O [t0] m=LC m O t0:=st
def Qq:RV:=fl (Po.step3 O [t0,t1,t2] m)
theorem ahQ:Po.step2 O [t0,t1,t2] m=Qq m O t0 t1 t2:=st
def aea:RV:=fl (Wi.step3 O [t0] m)
theorem amc:Wi.step2 O [t0] m=aea m O t0:=st
def ags:RV:=fl (YQ.step3 O [t0] m)
theorem anG:YQ.step2 O [t0] m=ags m O t0:=st
def agr:RV:=fl (YP.step3 O [t0] m)
theorem anF:YP.step2 O [t0] m=agr m O t0:=st
def ad9:RV:=fl (V9.step3 O [t0,t1] m)
theorem ama:V9.step2 O [t0,t1] m=ad9 m O t0 t1:=st
def Xb:RV:=fl (V8.step3 O [t0,t1] m)
theorem acN:V8.step2 O [t0,t1] m=Xb m O t0 t1:=st
def Uz:RV:=fl (TY.step3 O [t0,t1] m)
theorem aaG:TY.step2 O [t0,t1] m=Uz m O t0 t1:=st
def UA:RV:=fl (Ua.step3 O [t0,t1,t2] m)
theorem aki:Ua.step2 O [t0,t1,t2] m=UA m O t0 t1 t2:=st
def abg:RV:=fl (TW.step3 O [t0,t1] m)
theorem akg:TW.step2 O [t0,t1] m=abg m O t0 t1:=st
def Ez:RV:=fl (TP.step3 O [t0] m)
theorem akd:TP.step2 O [t0] m=Ez m O t0:=st
def XB:RV:=fl (L8.step3 O [t0,t1,t2] m)
theorem agO:L8.step2 O [t0,t1,t2] m=XB m O t0 t1 t2:=st
def XE:RV:=fl (MB.step3 O [t0,t1] m)
theorem agU:MB.step2 O [t0,t1] m=XE m O t0 t1:=st
def IZ:RV:=fl (Af.step3 O [t0] m)
theorem XR:Af.step2 O [t0] m=IZ m O t0:=st
def BZ:RV:=fl (Bo.step3 O [t0,t1,t2] m)
theorem KF:Bo.step2 O [t0,t1,t2] m=BZ m O t0 t1 t2:=st
def fM:bI:=fl (aO O [0,3] [3] fK Lh b [t0,t3] m)
theorem iE:aJ O [0,3] [3] fK b [t0,t3] m=fM m O b t0 t3:=eH
def yU:bI:=fl (aO O [0,1,5,6] [5] oK Lj b [t0,t1,t5,t6] m)
theorem GH:aJ O [0,1,5,6] [5] oK b [t0,t1,t5,t6] m=yU m O b t0 t1 t5 t6:=eH
def lV:bI:=fl (aO O [0,1,5] [4] oI Lc b [t0,t1,t5] m)
theorem Gy:aJ O [0,1,5] [4] oI b [t0,t1,t5] m=lV m O b t0 t1 t5:=eH
def yV:bI:=fl (aO O [1,5,6,7] [1,5,6,7] oL Ll b [t1,t5,t6,t7] m)
theorem GI:aJ O [1,5,6,7] [1,5,6,7] oL b [t1,t5,t6,t7] m=yV m O b t1 t5 t6 t7:=eH
def lW:bI:=fl (aO O [1,5,6] [5] kU Lm b [t1,t5,t6] m)
theorem qB:aJ O [1,5,6] [5] kU b [t1,t5,t6] m=lW m O b t1 t5 t6:=eH
def pF:bI:=fl (aO O [0] [0] jR IX b [t0] m)
theorem FK:aJ O [0] [0] jR b [t0] m=pF m O b t0:=eH
def o8:bI:=fl (aO O [2,8,9,10,11,13,14,15,16] [2,8,9,10,11,13,14,15] ug Xn b [t2,t8,t9,t10,t11,t13,t14,t15,t16] m)
theorem acK:aJ O [2,8,9,10,11,13,14,15,16] [2,8,9,10,11,13,14,15] ug b [t2,t8,t9,t10,t11,t13,t14,t15,t16] m=o8 m O b t2 t8 t9 t10 t11 t13 t14 t15 t16:=eH
def o9:bI:=fl (aO O [2,8,9,10,14,15,16,17,18] [2,8,14,15,17,18] uh Xo b [t2,t8,t9,t10,t14,t15,t16,t17,t18] m)
theorem acL:aJ O [2,8,9,10,14,15,16,17,18] [2,8,14,15,17,18] uh b [t2,t8,t9,t10,t14,t15,t16,t17,t18] m=o9 m O b t2 t8 t9 t10 t14 t15 t16 t17 t18:=eH
def Nu:bI:=fl (aO O [0,3] [0,3] zM aa_ b [t0,t3] m)
theorem Xl:aJ O [0,3] [0,3] zM b [t0,t3] m=Nu m O b t0 t3:=eH
def Iz:bI:=fl (aO O [0,3,14,15] [0] CZ adG b [t0,t3,t14,t15] m)
theorem Ye:aJ O [0,3,14,15] [0] CZ b [t0,t3,t14,t15] m=Iz m O b t0 t3 t14 t15:=eH
def EW:bI:=fl (aO O [0,1,5,9,10] [0] zL aa5 b [t0,t1,t5,t9,t10] m)
theorem Xi:aJ O [0,1,5,9,10] [0] zL b [t0,t1,t5,t9,t10] m=EW m O b t0 t1 t5 t9 t10:=eH
def zq:bI:=fl (aO O [1,5,12,13,14] [5] zK aa4 b [t1,t5,t12,t13,t14] m)
theorem EG:aJ O [1,5,12,13,14] [5] zK b [t1,t5,t12,t13,t14] m=zq m O b t1 t5 t12 t13 t14:=eH
def jC:bI:=fl (aO O [0,5,6,7,8,9] [4] xq Zg b [t0,t5,t6,t7,t8,t9] m)
theorem CG:aJ O [0,5,6,7,8,9] [4] xq b [t0,t5,t6,t7,t8,t9] m=jC m O b t0 t5 t6 t7 t8 t9:=eH
def JR:bI:=fl (aO O [0,1,2,7,8,14,15,16] [0,1,7,8] BJ Zj b [t0,t1,t2,t7,t8,t14,t15,t16] m)
theorem UN:aJ O [0,1,2,7,8,14,15,16] [0,1,7,8] BJ b [t0,t1,t2,t7,t8,t14,t15,t16] m=JR m O b t0 t1 t2 t7 t8 t14 t15 t16:=eH
def JO:bI:=fl (aO O [0,1,4,7,8,9] [0,1,4] BH Zf b [t0,t1,t4,t7,t8,t9] m)
theorem UL:aJ O [0,1,4,7,8,9] [0,1,4] BH b [t0,t1,t4,t7,t8,t9] m=JO m O b t0 t1 t4 t7 t8 t9:=eH
def sZ:bI:=fl (aO O [1,5,6] [5] rV Vg b [t1,t5,t6] m)
theorem xQ:aJ O [1,5,6] [5] rV b [t1,t5,t6] m=sZ m O b t1 t5 t6:=eH
end
end Go.Ev.Code
end
section
end
