/- A part of the proof of priceAll_card, yieldAll_card, priceSum_card, flowAll_card, accrAll_card. -/
import Derived.Test.YtfkdcfbleblgoaaGreatDoorCFlat
import Derived.Test.YtfkdcfbleblgoaaGreatDoorCCodeA
set_option linter.unusedVariables false
section
namespace Go.Ev.Code
open Go Go.Ev
set_option maxRecDepth 100000
attribute [local irreducible] aa9 adl bd jn exM Qo gc gop OY Si Qg fz jd hdI tlI Ir aeY UY aeS JG DY Rf VA Ap yM Rh Pn Q9 aeT X4 NV eX tV IG aeV Zv Zu aeU ahA ahC aeZ ahD ae0 X5 X7 UR ae1 Xh UN LC Gy UO aeX aeW X6 Oi rMn rMx aci yL uH NU acj UU Oj Ri UZ Q_ UQ ahB
attribute [local irreducible] iq Fv TN FD CQ oL AU fQ Vm mQ uI CP FB ZW uO kX wG Aw GR Gn CO CJ AL yj Fz iT xI wS xJ BZ xK acZ acY aay qw Au CW G_ XY XZ mV T_ Xk Nc Ei qj Bv Bq adv Qz TP Bz oK jX mZ sK CV qF mY AP oO sH UE OB J_ DZ FP qU oM tJ xM uG xP Vl yQ qE mX AQ uK yP FH qR strings_CutPrefix strings_Cut qQ DJ lC uD LH Lh ac4 D7 wH FN uU yt Oh Vu xG xE Q7 uF G6 OQ BU Uy aaz Vg qA kZ sJ qB FI Q5 xO abe yI BX uS yR JD slices_Reverse_int Js acv ZB ani Nh aaD aaE Ve qY J7 Qh jR Pm lY wU gu lN jY Ju fZ ql qo iQ eP GI iw iJ jH Ll
noncomputable section
variable (m:Mem) (O:h_) (b:Nat) (t0 t1 t2 t3 t4 t5 t6 t7 t8 t9 t10 t11 t12 t13 t14 t21 t22 t23 t27 t28 t29 t33 t34 t68 t69 t77 t78 t79 t80 t81:D)
def uq:RV:=fl (BG.step3 O [t0,t1,t2,t3] m)
theorem Bl:BG.step2 O [t0,t1,t2,t3] m=uq m O t0 t1 t2 t3:=st
def gV:RV:=fl (zA.step3 O [t0,t1,t2] m)
theorem rH:zA.step2 O [t0,t1,t2] m=gV m O t0 t1 t2:=st
def rU:RV:=fl (zu.step3 O [t0,t1,t2,t3,t4] m)
theorem ZX:zu.step2 O [t0,t1,t2,t3,t4] m=rU m O t0 t1 t2 t3 t4:=st
def uo:RV:=fl (BF.step3 O [t0,t1,t2,t3] m)
theorem Bj:BF.step2 O [t0,t1,t2,t3] m=uo m O t0 t1 t2 t3:=st
def rQ:RV:=fl (zq.step3 O [t0,t1,t2,t3,t4] m)
theorem zk:zq.step2 O [t0,t1,t2,t3,t4] m=rQ m O t0 t1 t2 t3 t4:=st
def VR:RV:=fl (I8.step3 O [t0] m)
theorem agh:I8.step2 O [t0] m=VR m O t0:=st
def JK:RV:=fl (agU.step3 O [t0] m)
theorem OZ:agU.step2 O [t0] m=JK m O t0:=st
def lq:RV:=fl (Ja.step3 O [t0,t1] m)
theorem zV:Ja.step2 O [t0,t1] m=lq m O t0 t1:=st
def SI:RV:=fl (H8.step3 O [t0,t1] m)
theorem afQ:H8.step2 O [t0,t1] m=SI m O t0 t1:=st
def F5:RV:=fl (Eu.step3 O [t0] m)
theorem PY:Eu.step2 O [t0] m=F5 m O t0:=st
def Gg:RV:=fl (EN.step3 O [t0] m)
theorem P_:EN.step2 O [t0] m=Gg m O t0:=st
def jB:RV:=fl (Ia.step3 O [t0] m)
theorem Hw:Ia.step2 O [t0] m=jB m O t0:=st
def pK:RV:=fl (abU.step3 O [t0,t1,t2,t3] m)
theorem abA:abU.step2 O [t0,t1,t2,t3] m=pK m O t0 t1 t2 t3:=st
def y9:RV:=fl (H_.step3 O [t0,t1,t2,t3] m)
theorem Hu:H_.step2 O [t0,t1,t2,t3] m=y9 m O t0 t1 t2 t3:=st
def Ur:RV:=fl (TK.step3 O [t0] m)
theorem amz:TK.step2 O [t0] m=Ur m O t0:=st
def nJ:RV:=fl (H7.step3 O [t0,t1,t2] m)
theorem rY:H7.step2 O [t0,t1,t2] m=nJ m O t0 t1 t2:=st
def VU:RV:=fl (I_.step3 O [t0,t1] m)
theorem agj:I_.step2 O [t0,t1] m=VU m O t0 t1:=st
def RY:RV:=fl (aer.step3 O [t0,t1,t2] m)
theorem XJ:aer.step2 O [t0,t1,t2] m=RY m O t0 t1 t2:=st
def bF:RV:=fl (EJ.step3 O [t0] m)
theorem lI:EJ.step2 O [t0] m=bF m O t0:=st
def g_:RV:=fl (Ew.step3 O [t0,t1,t2,t3] m)
theorem iY:Ew.step2 O [t0,t1,t2,t3] m=g_ m O t0 t1 t2 t3:=st
def SL:RV:=fl (Ie.step3 O [t0,t1] m)
theorem afS:Ie.step2 O [t0,t1] m=SL m O t0 t1:=st
def F6:RV:=fl (ED.step3 O [t0] m)
theorem adT:ED.step2 O [t0] m=F6 m O t0:=st
def jQ:RV:=fl (agS.step3 O [t0] m)
theorem anA:agS.step2 O [t0] m=jQ m O t0:=st
def qP:RV:=fl (Y7.step3 O [t0,t1,t2] m)
theorem Dk:Y7.step2 O [t0,t1,t2] m=qP m O t0 t1 t2:=st
def SH:RV:=fl (H6.step3 O [t0] m)
theorem afP:H6.step2 O [t0] m=SH m O t0:=st
def SG:RV:=fl (HY.step3 O [t0,t1] m)
theorem afO:HY.step2 O [t0,t1] m=SG m O t0 t1:=st
def qW:RV:=fl (MJ.step3 O [t0,t1] m)
theorem wE:MJ.step2 O [t0,t1] m=qW m O t0 t1:=st
def yY:RV:=fl (Oy.step3 O [t0] m)
theorem Eh:Oy.step2 O [t0] m=yY m O t0:=st
def VT:RV:=fl (I9.step3 O [t0] m)
theorem agi:I9.step2 O [t0] m=VT m O t0:=st
def fG:RV:=fl (zB.step3 O [t0,t1,t2] m)
theorem lU:zB.step2 O [t0,t1,t2] m=fG m O t0 t1 t2:=st
def rE:RV:=fl (WX.step3 O [t0,t1,t2] m)
theorem zH:WX.step2 O [t0,t1,t2] m=rE m O t0 t1 t2:=st
def Xx:RV:=fl (WY.step3 O [t0,t1] m)
theorem apg:WY.step2 O [t0,t1] m=Xx m O t0 t1:=st
def afL:RV:=fl (Xc.step3 O [t0,t1] m)
theorem apm:Xc.step2 O [t0,t1] m=afL m O t0 t1:=st
def afH:RV:=fl (WZ.step3 O [t0,t1] m)
theorem aph:WZ.step2 O [t0,t1] m=afH m O t0 t1:=st
def VQ:RV:=fl (agN.step3 O [t0,t1] m)
theorem af_:agN.step2 O [t0,t1] m=VQ m O t0 t1:=st
def VP:RV:=fl (agM.step3 O [t0,t1] m)
theorem af9:agM.step2 O [t0,t1] m=VP m O t0 t1:=st
def U6:RV:=fl (abK.step3 O [t0,t1,t2,t3] m)
theorem abz:abK.step2 O [t0,t1,t2,t3] m=U6 m O t0 t1 t2 t3:=st
def jq:RV:=fl (BH.step3 O [t0,t1] m)
theorem abB:BH.step2 O [t0,t1] m=jq m O t0 t1:=st
def Np:RV:=fl (MG.step3 O [t0,t1] m)
theorem aiy:MG.step2 O [t0,t1] m=Np m O t0 t1:=st
def SQ:RV:=fl (Ih.step3 O [t0,t1,t2] m)
theorem afU:Ih.step2 O [t0,t1,t2] m=SQ m O t0 t1 t2:=st
def Ou:RV:=fl (WW.step3 O [t0,t1,t2] m)
theorem Wh:WW.step2 O [t0,t1,t2] m=Ou m O t0 t1 t2:=st
def RN:RV:=fl (Y4.step3 O [t0,t1,t2,t3,t4] m)
theorem Yu:Y4.step2 O [t0,t1,t2,t3,t4] m=RN m O t0 t1 t2 t3 t4:=st
def D9:RV:=fl (Y5.step3 O [t0,t1] m)
theorem PU:Y5.step2 O [t0,t1] m=D9 m O t0 t1:=st
def zf:RV:=fl (Ib.step3 O [t0,t1] m)
theorem Sm:Ib.step2 O [t0,t1] m=zf m O t0 t1:=st
def uX:RV:=fl (ag1.step3 O [t0] m)
theorem anD:ag1.step2 O [t0] m=uX m O t0:=st
def lg:RV:=fl (YT.step3 O [t0] m)
theorem aqc:YT.step2 O [t0] m=lg m O t0:=st
def adL:RV:=fl (TJ.step3 O [t0] m)
theorem amy:TJ.step2 O [t0] m=adL m O t0:=st
def zU:RV:=fl (Wq.step3 O [t0] m)
theorem aoW:Wq.step2 O [t0] m=zU m O t0:=st
def Xl:RV:=fl (Wp.step3 O [t0] m)
theorem aoV:Wp.step2 O [t0] m=Xl m O t0:=st
def aoF:RV:=fl (ag0.step3 O [t0,t1] m)
theorem aw7:ag0.step2 O [t0,t1] m=aoF m O t0 t1:=st
def adG:RV:=fl (Tt.step3 O [t0] m)
theorem amn:Tt.step2 O [t0] m=adG m O t0:=st
def X_:RV:=fl (aeh.step3 O [t0,t1] m)
theorem avw:aeh.step2 O [t0,t1] m=X_ m O t0 t1:=st
def Xm:RV:=fl (Ws.step3 O [t0] m)
theorem aoX:Ws.step2 O [t0] m=Xm m O t0:=st
def xg:bT:=fl (aK O [1,2,3,4,10,13,68,69] [1,2,3,4,8,13] lY LZ b [t1,t2,t3,t4,t10,t13,t68,t69] m)
theorem Iy:aH O [1,2,3,4,10,13,68,69] [1,2,3,4,8,13] lY b [t1,t2,t3,t4,t10,t13,t68,t69] m=xg m O b t1 t2 t3 t4 t10 t13 t68 t69:=fE
def jI:bT:=fl (aK O [1,4,6,7,21,22,23] [2,3,7] wU ale b [t1,t4,t6,t7,t21,t22,t23] m)
theorem j_:aH O [1,4,6,7,21,22,23] [2,3,7] wU b [t1,t4,t6,t7,t21,t22,t23] m=jI m O b t1 t4 t6 t7 t21 t22 t23:=fE
def iU:bT:=fl (aK O [1,4,6,7] [2,3,6] gu Po b [t1,t4,t6,t7] m)
theorem jS:aH O [1,4,6,7] [2,3,6] gu b [t1,t4,t6,t7] m=iU m O b t1 t4 t6 t7:=fE
def nT:bT:=fl (aK O [1,4,5] [1,4] lN Ru b [t1,t4,t5] m)
theorem Bo:aH O [1,4,5] [1,4] lN b [t1,t4,t5] m=nT m O b t1 t4 t5:=fE
def nU:bT:=fl (aK O [1,4,8,9] [1,4,8] jY Rw b [t1,t4,t8,t9] m)
theorem tX:aH O [1,4,8,9] [1,4,8] jY b [t1,t4,t8,t9] m=nU m O b t1 t4 t8 t9:=fE
def Uj:bT:=fl (aK O [2,3,4,14,77,78,79] [14] Ju ag9 b [t2,t3,t4,t14,t77,t78,t79] m)
theorem acL:aH O [2,3,4,14,77,78,79] [14] Ju b [t2,t3,t4,t14,t77,t78,t79] m=Uj m O b t2 t3 t4 t14 t77 t78 t79:=fE
def kJ:bT:=fl (aK O [2,3,4,5,8,12,13] [8,9,12] fZ Rt b [t2,t3,t4,t5,t8,t12,t13] m)
theorem nM:aH O [2,3,4,5,8,12,13] [8,9,12] fZ b [t2,t3,t4,t5,t8,t12,t13] m=kJ m O b t2 t3 t4 t5 t8 t12 t13:=fE
def jo:bT:=fl (aK O [1,2,3,7,8,10,33,34] [1,3,7,8,10] ql Ro b [t1,t2,t3,t7,t8,t10,t33,t34] m)
theorem kG:aH O [1,2,3,7,8,10,33,34] [1,3,7,8,10] ql b [t1,t2,t3,t7,t8,t10,t33,t34] m=jo m O b t1 t2 t3 t7 t8 t10 t33 t34:=fE
def Cb:bT:=fl (aK O [7,10,80,81] [6] qo Rq b [t7,t10,t80,t81] m)
theorem Nv:aH O [7,10,80,81] [6] qo b [t7,t10,t80,t81] m=Cb m O b t7 t10 t80 t81:=fE
def rV:bT:=fl (aK O [0,2,5,6,7] [0,2,5,6,7] iQ Px b [t0,t2,t5,t6,t7] m)
theorem LW:aH O [0,2,5,6,7] [0,2,5,6,7] iQ b [t0,t2,t5,t6,t7] m=rV m O b t0 t2 t5 t6 t7:=fE
def jT:bT:=fl (aK O [2,5,6,8,9,11] [2,3,4,6,8,9] eP Py b [t2,t5,t6,t8,t9,t11] m)
theorem rO:aH O [2,5,6,8,9,11] [2,3,4,6,8,9] eP b [t2,t5,t6,t8,t9,t11] m=jT m O b t2 t5 t6 t8 t9 t11:=fE
def IK:bT:=fl (aK O [1,2,3,8,9] [6,7,8] GI afN b [t1,t2,t3,t8,t9] m)
theorem Qc:aH O [1,2,3,8,9] [6,7,8] GI b [t1,t2,t3,t8,t9] m=IK m O b t1 t2 t3 t8 t9:=fE
def qL:bT:=fl (aK O [1,2,5] [1,2,5] iw VF b [t1,t2,t5] m)
theorem wO:aH O [1,2,5] [1,2,5] iw b [t1,t2,t5] m=qL m O b t1 t2 t5:=fE
def kC:bT:=fl (aK O [1,8,9] [1,8,9] iJ JI b [t1,t8,t9] m)
theorem nX:aH O [1,8,9] [1,8,9] iJ b [t1,t8,t9] m=kC m O b t1 t8 t9:=fE
def n_:bT:=fl (aK O [1,8,9] [8,9] jH JJ b [t1,t8,t9] m)
theorem vS:aH O [1,8,9] [8,9] jH b [t1,t8,t9] m=n_ m O b t1 t8 t9:=fE
def RJ:bT:=fl (aK O [1,6,7,8,9,27,28,29] [1,6,7,8] Ll alM b [t1,t6,t7,t8,t9,t27,t28,t29] m)
theorem Yr:aH O [1,6,7,8,9,27,28,29] [1,6,7,8] Ll b [t1,t6,t7,t8,t9,t27,t28,t29] m=RJ m O b t1 t6 t7 t8 t9 t27 t28 t29:=fE
end
end Go.Ev.Code
end
section
namespace Go.Ev.Code
open Go Go.Ev
set_option maxRecDepth 100000
attribute [local irreducible] aa9 adl bd jn exM Qo gc gop OY Si Qg fz jd hdI tlI Ir aeY UY aeS JG DY Rf VA Ap yM Rh Pn Q9 aeT X4 NV eX tV IG aeV Zv Zu aeU ahA ahC aeZ ahD ae0 X5 X7 UR ae1 Xh UN LC Gy UO aeX aeW X6 Oi rMn rMx aci yL uH NU acj UU Oj Ri UZ Q_ UQ ahB
attribute [local irreducible] TN Vm mQ uI uO wG GR yj iT BZ xK acY mV T_ Ei qj Bq adv TP Bz mZ qF mY oO sH OB J_ DZ qU oM tJ xM xP Vl qE mX qR qQ uD LH Lh ac4 D7 wH uU Vu xG xE uF OQ kZ sJ qB Q5 xO yI BX uS yR Js Ve J7 Qh y7 jy sO FK IJ AO iE Fh Qn yx XM FM AA BR yF iI y8 Az AB CU Jz kM ug BK vU BN BM NG FQ yT air BL BO QZ G7 YR Qr Vh NQ NJ Tm zX Ad Ob Yb aky Il Na agC Qi amU Lc YI vG yS XW ac3 lF kN uM jf oP iR kU jE Jt jA gJ je oN uP uQ Af qG qH wI wJ tH kS uJ vg jK adD adE abo jh uN kY kT
noncomputable section
variable (m:Mem) (O:h_) (b:Nat) (t0 t1 t2 t3 t4 t5 t6 t7 t8 t9 t10 t11 t12 t13 t14 t15 t16 t21 t22 t23 t34 t35 t36 t39 t40 t41:D)
def aJ:RV:=fl (Es.step3 O [t0] m)
theorem PW:Es.step2 O [t0] m=aJ m O t0:=st
def AZ:RV:=fl (Jb.step3 O [t0,t1] m)
theorem IX:Jb.step2 O [t0,t1] m=AZ m O t0 t1:=st
def XI:RV:=fl (MS.step3 O [t0,t1] m)
theorem aiC:MS.step2 O [t0,t1] m=XI m O t0 t1:=st
def PK:RV:=fl (Dv.step3 O [t0] m)
theorem acS:Dv.step2 O [t0] m=PK m O t0:=st
def SN:RV:=fl (Ig.step3 O [t0] m)
theorem afT:Ig.step2 O [t0] m=SN m O t0:=st
def qV:RV:=fl (MI.step3 O [t0,t1] m)
theorem aiz:MI.step2 O [t0,t1] m=qV m O t0 t1:=st
def C_:RV:=fl (MP.step3 O [t0] m)
theorem MB:MP.step2 O [t0] m=C_ m O t0:=st
def F8:RV:=fl (EK.step3 O [t0] m)
theorem P7:EK.step2 O [t0] m=F8 m O t0:=st
def xq:RV:=fl (EL.step3 O [t0] m)
theorem Ef:EL.step2 O [t0] m=xq m O t0:=st
def D_:RV:=fl (Dq.step3 O [t0,t1] m)
theorem acP:Dq.step2 O [t0,t1] m=D_ m O t0 t1:=st
def Om:RV:=fl (Wy.step3 O [t0,t1] m)
theorem V9:Wy.step2 O [t0,t1] m=Om m O t0 t1:=st
def al4:RV:=fl (aeg.step3 O [t0] m)
theorem avv:aeg.step2 O [t0] m=al4 m O t0:=st
def ZK:RV:=fl (YW.step3 O [t0,t1,t2,t3,t4,t5] m)
theorem aqg:YW.step2 O [t0,t1,t2,t3,t4,t5] m=ZK m O t0 t1 t2 t3 t4 t5:=st
def asz:RV:=fl (ajI.step3 O [t0,t1] m)
theorem ayY:ajI.step2 O [t0,t1] m=asz m O t0 t1:=st
def JO:RV:=fl (Jq.step3 O [t0,t1,t2,t3,t4,t5] m)
theorem Vd:Jq.step2 O [t0,t1,t2,t3,t4,t5] m=JO m O t0 t1 t2 t3 t4 t5:=st
def SV:RV:=fl (Ij.step3 O [t0] m)
theorem afW:Ij.step2 O [t0] m=SV m O t0:=st
def qJ:RV:=fl (Ey.step3 O [t0,t1] m)
theorem PZ:Ey.step2 O [t0,t1] m=qJ m O t0 t1:=st
def VX:RV:=fl (Je.step3 O [t0,t1] m)
theorem agm:Je.step2 O [t0,t1] m=VX m O t0 t1:=st
def afI:RV:=fl (W9.step3 O [t0] m)
theorem apj:W9.step2 O [t0] m=afI m O t0:=st
def Uo:RV:=fl (TB.step3 O [t0] m)
theorem ams:TB.step2 O [t0] m=Uo m O t0:=st
def afK:RV:=fl (Xb.step3 O [t0] m)
theorem apl:Xb.step2 O [t0] m=afK m O t0:=st
def um:RV:=fl (abT.step3 O [t0,t1] m)
theorem xB:abT.step2 O [t0,t1] m=um m O t0 t1:=st
def lu:RV:=fl (Jf.step3 O [t0] m)
theorem Va:Jf.step2 O [t0] m=lu m O t0:=st
def Nq:RV:=fl (MH.step3 O [t0,t1] m)
theorem XA:MH.step2 O [t0,t1] m=Nq m O t0 t1:=st
def C9:RV:=fl (MO.step3 O [t0,t1] m)
theorem Me:MO.step2 O [t0,t1] m=C9 m O t0 t1:=st
def XH:RV:=fl (MQ.step3 O [t0,t1] m)
theorem aiB:MQ.step2 O [t0,t1] m=XH m O t0 t1:=st
def FY:RV:=fl (Et.step3 O [t0,t1,t2] m)
theorem PX:Et.step2 O [t0,t1,t2] m=FY m O t0 t1 t2:=st
def VW:RV:=fl (Jd.step3 O [t0,t1] m)
theorem agl:Jd.step2 O [t0,t1] m=VW m O t0 t1:=st
def A8:RV:=fl (Jc.step3 O [t0,t1] m)
theorem agk:Jc.step2 O [t0,t1] m=A8 m O t0 t1:=st
def SS:RV:=fl (Ii.step3 O [t0,t1] m)
theorem afV:Ii.step2 O [t0,t1] m=SS m O t0 t1:=st
def Eb:RV:=fl (agV.step3 O [t0] m)
theorem anB:agV.step2 O [t0] m=Eb m O t0:=st
def adH:RV:=fl (Tz.step3 O [t0] m)
theorem amq:Tz.step2 O [t0] m=adH m O t0:=st
def abu:RV:=fl (ag3.step3 O [t0,t1] m)
theorem anF:ag3.step2 O [t0,t1] m=abu m O t0 t1:=st
def abt:RV:=fl (agZ.step3 O [t0,t1] m)
theorem aw6:agZ.step2 O [t0,t1] m=abt m O t0 t1:=st
def aoC:RV:=fl (agT.step3 O [t0] m)
theorem aw3:agT.step2 O [t0] m=aoC m O t0:=st
def OX:RV:=fl (Oz.step3 O [t0] m)
theorem ajy:Oz.step2 O [t0] m=OX m O t0:=st
def SY:RV:=fl (Ik.step3 O [t0] m)
theorem afX:Ik.step2 O [t0] m=SY m O t0:=st
def JM:RV:=fl (Jo.step3 O [t0] m)
theorem agr:Jo.step2 O [t0] m=JM m O t0:=st
def Gi:RV:=fl (EP.step3 O [t0,t1] m)
theorem adY:EP.step2 O [t0,t1] m=Gi m O t0 t1:=st
def Gj:RV:=fl (OA.step3 O [t0] m)
theorem Yw:OA.step2 O [t0] m=Gj m O t0:=st
def AX:RV:=fl (Qx.step3 O [t0,t1] m)
theorem Iw:Qx.step2 O [t0,t1] m=AX m O t0 t1:=st
def akz:RV:=fl (ajH.step3 O [t0] m)
theorem ayX:ajH.step2 O [t0] m=akz m O t0:=st
def Xu:RV:=fl (WS.step3 O [t0,t1] m)
theorem apc:WS.step2 O [t0,t1] m=Xu m O t0 t1:=st
def vY:RV:=fl (WO.step3 O [t0,t1] m)
theorem ao_:WO.step2 O [t0,t1] m=vY m O t0 t1:=st
def adK:RV:=fl (TI.step3 O [t0,t1,t2] m)
theorem amx:TI.step2 O [t0,t1,t2] m=adK m O t0 t1 t2:=st
def LP:RV:=fl (TA.step3 O [t0] m)
theorem amr:TA.step2 O [t0] m=LP m O t0:=st
def afE:RV:=fl (WQ.step3 O [t0,t1] m)
theorem apa:WQ.step2 O [t0,t1] m=afE m O t0 t1:=st
def al9:RV:=fl (aeo.step3 O [t0,t1] m)
theorem avC:aeo.step2 O [t0,t1] m=al9 m O t0 t1:=st
def Xv:RV:=fl (WT.step3 O [t0] m)
theorem apd:WT.step2 O [t0] m=Xv m O t0:=st
def Ol:RV:=fl (Wn.step3 O [t0,t1] m)
theorem V8:Wn.step2 O [t0,t1] m=Ol m O t0 t1:=st
def U7:RV:=fl (abL.step3 O [t0,t1,t2] m)
theorem aiN:abL.step2 O [t0,t1,t2] m=U7 m O t0 t1 t2:=st
def ajl:RV:=fl (abQ.step3 O [t0,t1,t2] m)
theorem atc:abQ.step2 O [t0,t1,t2] m=ajl m O t0 t1 t2:=st
def Nl:RV:=fl (MF.step3 O [t0,t1] m)
theorem aix:MF.step2 O [t0,t1] m=Nl m O t0 t1:=st
def VY:RV:=fl (Ji.step3 O [t0,t1] m)
theorem agn:Ji.step2 O [t0,t1] m=VY m O t0 t1:=st
def PI:RV:=fl (Dt.step3 O [t0] m)
theorem acQ:Dt.step2 O [t0] m=PI m O t0:=st
def Cc:RV:=fl (BI.step3 O [t0,t1] m)
theorem abC:BI.step2 O [t0,t1] m=Cc m O t0 t1:=st
def bD:RV:=fl (Jg.step3 O [t0,t1] m)
theorem jM:Jg.step2 O [t0,t1] m=bD m O t0 t1:=st
def RP:RV:=fl (Y6.step3 O [t0,t1] m)
theorem Yv:Y6.step2 O [t0,t1] m=RP m O t0 t1:=st
def Xy:RV:=fl (W_.step3 O [t0,t1] m)
theorem aff:W_.step2 O [t0,t1] m=Xy m O t0 t1:=st
def ajq:RV:=fl (ab3.step3 O [] m)
theorem atl:ab3.step2 O [] m=ajq m O:=st
def LQ:RV:=fl (TD.step3 O [t0,t1] m)
theorem amu:TD.step2 O [t0,t1] m=LQ m O t0 t1:=st
def afJ:RV:=fl (Xa.step3 O [t0,t1] m)
theorem apk:Xa.step2 O [t0,t1] m=afJ m O t0 t1:=st
def xu:RV:=fl (EM.step3 O [t0] m)
theorem adX:EM.step2 O [t0] m=xu m O t0:=st
def VZ:RV:=fl (Jj.step3 O [t0,t1] m)
theorem agp:Jj.step2 O [t0,t1] m=VZ m O t0 t1:=st
def adI:RV:=fl (TF.step3 O [t0] m)
theorem amv:TF.step2 O [t0] m=adI m O t0:=st
def RX:RV:=fl (ES.step3 O [t0] m)
theorem adZ:ES.step2 O [t0] m=RX m O t0:=st
def ajn:RV:=fl (abS.step3 O [t0,t1] m)
theorem ate:abS.step2 O [t0,t1] m=ajn m O t0 t1:=st
def B_:RV:=fl (abM.step3 O [t0] m)
theorem as8:abM.step2 O [t0] m=B_ m O t0:=st
def pJ:RV:=fl (abN.step3 O [t0] m)
theorem as9:abN.step2 O [t0] m=pJ m O t0:=st
def acz:RV:=fl (abO.step3 O [t0] m)
theorem ata:abO.step2 O [t0] m=acz m O t0:=st
def abr:RV:=fl (Qv.step3 O [t0,t1] m)
theorem akL:Qv.step2 O [t0,t1] m=abr m O t0 t1:=st
def aoA:RV:=fl (agO.step3 O [t0] m)
theorem aw0:agO.step2 O [t0] m=aoA m O t0:=st
def ZG:RV:=fl (YU.step3 O [t0] m)
theorem aqd:YU.step2 O [t0] m=ZG m O t0:=st
def rG:RV:=fl (rF.step3 O [t0,t1] m)
theorem Sj:rF.step2 O [t0,t1] m=rG m O t0 t1:=st
def acD:RV:=fl (ab2.step3 O [t0,t1] m)
theorem atj:ab2.step2 O [t0,t1] m=acD m O t0 t1:=st
def kV:RV:=fl (Du.step3 O [t0] m)
theorem acR:Du.step2 O [t0] m=kV m O t0:=st
def gG:RV:=fl (Dx.step3 O [t0,t1,t2,t3] m)
theorem O0:Dx.step2 O [t0,t1,t2,t3] m=gG m O t0 t1 t2 t3:=st
def PN:RV:=fl (Dy.step3 O [t0,t1] m)
theorem acU:Dy.step2 O [t0,t1] m=PN m O t0 t1:=st
def A_:RV:=fl (Jh.step3 O [t0,t1] m)
theorem IY:Jh.step2 O [t0,t1] m=A_ m O t0 t1:=st
def XG:RV:=fl (ML.step3 O [t0,t1] m)
theorem aiA:ML.step2 O [t0,t1] m=XG m O t0 t1:=st
def Nr:RV:=fl (MK.step3 O [t0,t1] m)
theorem XB:MK.step2 O [t0,t1] m=Nr m O t0 t1:=st
def CZ:RV:=fl (MN.step3 O [t0,t1] m)
theorem Md:MN.step2 O [t0,t1] m=CZ m O t0 t1:=st
def D8:RV:=fl (Y2.step3 O [t0,t1] m)
theorem Yt:Y2.step2 O [t0,t1] m=D8 m O t0 t1:=st
def Ug:RV:=fl (Tn.step3 O [t0] m)
theorem aml:Tn.step2 O [t0] m=Ug m O t0:=st
def Uh:RV:=fl (Tq.step3 O [t0] m)
theorem amm:Tq.step2 O [t0] m=Uh m O t0:=st
def ZJ:RV:=fl (YV.step3 O [t0,t1,t2] m)
theorem aqf:YV.step2 O [t0,t1,t2] m=ZJ m O t0 t1 t2:=st
def JL:RV:=fl (Jm.step3 O [t0,t1,t2] m)
theorem Vb:Jm.step2 O [t0,t1,t2] m=JL m O t0 t1 t2:=st
def RS:RV:=fl (EH.step3 O [t0,t1] m)
theorem adV:EH.step2 O [t0,t1] m=RS m O t0 t1:=st
def afD:RV:=fl (WM.step3 O [t0] m)
theorem ao9:WM.step2 O [t0] m=afD m O t0:=st
def qK:bT:=fl (aK O [0,1,5] [4] uM VE b [t0,t1,t5] m)
theorem P5:aH O [0,1,5] [4] uM b [t0,t1,t5] m=qK m O b t0 t1 t5:=fE
def jg:bT:=fl (aK O [0,3] [3] jf VK b [t0,t3] m)
theorem jV:aH O [0,3] [3] jf b [t0,t3] m=jg m O b t0 t3:=fE
def zF:bT:=fl (aK O [0,3,4,5,6] [0,3,4] oP Pz b [t0,t3,t4,t5,t6] m)
theorem LX:aH O [0,3,4,5,6] [0,3,4] oP b [t0,t3,t4,t5,t6] m=zF m O b t0 t3 t4 t5 t6:=fE
def jU:bT:=fl (aK O [0,3,4] [3] iR PD b [t0,t3,t4] m)
theorem lT:aH O [0,3,4] [3] iR b [t0,t3,t4] m=jU m O b t0 t3 t4:=fE
def mg:bT:=fl (aK O [3] [3] kU PE b [t3] m)
theorem zl:aH O [3] [3] kU b [t3] m=mg m O b t3:=fE
def ou:bT:=fl (aK O [2,3,6,7] [4,5,6] jE ac9 b [t2,t3,t6,t7] m)
theorem sQ:aH O [2,3,6,7] [4,5,6] jE b [t2,t3,t6,t7] m=ou m O b t2 t3 t6 t7:=fE
def Ui:bT:=fl (aK O [1,2,6] [1,2,6] Jt ag8 b [t1,t2,t6] m)
theorem acK:aH O [1,2,6] [1,2,6] Jt b [t1,t2,t6] m=Ui m O b t1 t2 t6:=fE
def gI:bT:=fl (aK O [0,4,5,6,7] [0,2,3,4,5,6] jA SA b [t0,t4,t5,t6,t7] m)
theorem Dh:aH O [0,4,5,6,7] [0,2,3,4,5,6] jA b [t0,t4,t5,t6,t7] m=gI m O b t0 t4 t5 t6 t7:=fE
def jJ:bT:=fl (aK O [0,4,5] [2,3,4] gJ SB b [t0,t4,t5] m)
theorem Di:aH O [0,4,5] [2,3,4] gJ b [t0,t4,t5] m=jJ m O b t0 t4 t5:=fE
def fF:bT:=fl (aK O [0,1,5,6,7] [5] je VD b [t0,t1,t5,t6,t7] m)
theorem fU:aH O [0,1,5,6,7] [5] je b [t0,t1,t5,t6,t7] m=fF m O b t0 t1 t5 t6 t7:=fE
def xk:bT:=fl (aK O [0,1,5,6,7,8] [0,1,5,6] oN VI b [t0,t1,t5,t6,t7,t8] m)
theorem Ee:aH O [0,1,5,6,7,8] [0,1,5,6] oN b [t0,t1,t5,t6,t7,t8] m=xk m O b t0 t1 t5 t6 t7 t8:=fE
def F9:bT:=fl (aK O [0,1,5,6] [5] uP VJ b [t0,t1,t5,t6] m)
theorem P8:aH O [0,1,5,6] [5] uP b [t0,t1,t5,t6] m=F9 m O b t0 t1 t5 t6:=fE
def Gf:bT:=fl (aK O [0,1,5,6] [5] uQ VL b [t0,t1,t5,t6] m)
theorem P9:aH O [0,1,5,6] [5] uQ b [t0,t1,t5,t6] m=Gf m O b t0 t1 t5 t6:=fE
def ZN:bT:=fl (aK O [0,5,6,7] [5] Af alD b [t0,t5,t6,t7] m)
theorem agd:aH O [0,5,6,7] [5] Af b [t0,t5,t6,t7] m=ZN m O b t0 t5 t6 t7:=fE
def Ce:bT:=fl (aK O [0,2,3] [0,2,3] qG Rx b [t0,t2,t3] m)
theorem Nw:aH O [0,2,3] [0,2,3] qG b [t0,t2,t3] m=Ce m O b t0 t2 t3:=fE
def Ci:bT:=fl (aK O [0,2,3] [0,2,3] qH Ry b [t0,t2,t3] m)
theorem Ny:aH O [0,2,3] [0,2,3] qH b [t0,t2,t3] m=Ci m O b t0 t2 t3:=fE
def Ip:bT:=fl (aK O [1,4,5] [1,4] wI XE b [t1,t4,t5] m)
theorem Sr:aH O [1,4,5] [1,4] wI b [t1,t4,t5] m=Ip m O b t1 t4 t5:=fE
def Iq:bT:=fl (aK O [1,4,6] [1,4] wJ XF b [t1,t4,t6] m)
theorem Sv:aH O [1,4,6] [1,4] wJ b [t1,t4,t6] m=Iq m O b t1 t4 t6:=fE
def AY:bT:=fl (aK O [1,2,6,7,10,39,40,41] [1,2,6,7,10] tH Zr b [t1,t2,t6,t7,t10,t39,t40,t41] m)
theorem IW:aH O [1,2,6,7,10,39,40,41] [1,2,6,7,10] tH b [t1,t2,t6,t7,t10,t39,t40,t41] m=AY m O b t1 t2 t6 t7 t10 t39 t40 t41:=fE
def CY:bT:=fl (aK O [1,2,8,9,10,11,12] [9,10,11] kS abf b [t1,t2,t8,t9,t10,t11,t12] m)
theorem Mc:aH O [1,2,8,9,10,11,12] [9,10,11] kS b [t1,t2,t8,t9,t10,t11,t12] m=CY m O b t1 t2 t8 t9 t10 t11 t12:=fE
def qI:bT:=fl (aK O [0,1,5] [4] uJ VB b [t0,t1,t5] m)
theorem PV:aH O [0,1,5] [4] uJ b [t0,t1,t5] m=qI m O b t0 t1 t5:=fE
def wL:bT:=fl (aK O [1,5,6] [2,3,4] vg aa' b [t1,t5,t6] m)
theorem L9:aH O [1,5,6] [2,3,4] vg b [t1,t5,t6] m=wL m O b t1 t5 t6:=fE
def zG:bT:=fl (aK O [0,2,3] [] jK PO b [t0,t2,t3] m)
theorem LY:aH O [0,2,3] [] jK b [t0,t2,t3] m=zG m O b t0 t2 t3:=fE
def jZ:bT:=fl (aK O [0,1,7,8] [4] jh Bd b [t0,t1,t7,t8] m)
theorem yw:aH O [0,1,7,8] [4] jh b [t0,t1,t7,t8] m=jZ m O b t0 t1 t7 t8:=fE
def F7:bT:=fl (aK O [0,1] [0] uN VH b [t0,t1] m)
theorem P6:aH O [0,1] [0] uN b [t0,t1] m=F7 m O b t0 t1:=fE
def qM:bT:=fl (aK O [0,1,6,7,8] [6,7] kY VG b [t0,t1,t6,t7,t8] m)
theorem wP:aH O [0,1,6,7,8] [6,7] kY b [t0,t1,t6,t7,t8] m=qM m O b t0 t1 t6 t7 t8:=fE
def lZ:bT:=fl (aK O [1,2,5] [4] kT Pq b [t1,t2,t5] m)
theorem ZY:aH O [1,2,5] [4] kT b [t1,t2,t5] m=lZ m O b t1 t2 t5:=fE
end
end Go.Ev.Code
end
section
namespace Go.Ev.Code
open Go Go.Ev
set_option maxRecDepth 100000
attribute [local irreducible] aa9 adl bd jn exM Qo gc gop OY Si Qg fz jd hdI tlI Ir aeY UY aeS JG DY Rf VA Ap yM Rh Pn Q9 aeT X4 NV eX tV IG aeV Zv Zu aeU ahA ahC aeZ ahD ae0 X5 X7 UR ae1 Xh UN LC Gy UO aeX aeW X6 Oi rMn rMx aci yL uH NU acj UU Oj Ri UZ Q_ UQ ahB
attribute [local irreducible] oL fQ uI GR xK Au qj Bv jX mZ qF mY OB DZ qU tJ xM uG xP mX yP strings_CutPrefix strings_Cut DJ uD LH Lh Vu xG xE uF BU Vg qA kZ iE yx BR yF iI Jz ug BK vU BN BM NG yT BL BO YR Vh NQ NJ Tm zX Ad Ob Qi Lc ac3 dV Pg mO ji strings_Repeat slices_Reverse_string strings_Join CS bits_Mul64 bits_Add64 QX GX aeF aij bits_Sub64 Uz UA aa4 lS aaG aew rW aaH aev acy ae5 Nb abI Qe OL Pe nat_bit TU bits_LeadingZeros64 OJ Vq Vr Vp aaM xw UH Gl akb Zb agF MZ Zk strconv_Itoa bits_TrailingZeros64 Xf M_ Xe Xd pY nI jG DK DL xY xZ DN Am vk Qp Gu Gv Qj Qk J8 alo uT oQ sN zM JB xC iK zL DR BP NH NI adF zI zJ G5 Le GZ GY DT JC JA Ea L8 aa6
noncomputable section
variable (m:Mem) (O:h_) (b:Nat) (t0 t1 t2 t3 t4 t5 t6 t7 t8 t9 t10 t11 t12 t13 t14 t15 t16 t17 t18 t19 t20 t25 t26 t27 t28 t33 t34 t35 t36 t37 t43 t44 t45 t47 t48 t49 t86 t87:D)
def Uk:RV:=fl (Tv.step3 O [t0] m)
theorem amo:Tv.step2 O [t0] m=Uk m O t0:=st
def V4:RV:=fl (Jl.step3 O [t0] m)
theorem agq:Jl.step2 O [t0] m=V4 m O t0:=st
def PL:RV:=fl (Dw.step3 O [t0,t1] m)
theorem acT:Dw.step2 O [t0,t1] m=PL m O t0 t1:=st
def RQ:RV:=fl (EG.step3 O [t0,t1] m)
theorem adU:EG.step2 O [t0,t1] m=RQ m O t0 t1:=st
def RU:RV:=fl (EI.step3 O [t0,t1,t2] m)
theorem adW:EI.step2 O [t0,t1,t2] m=RU m O t0 t1 t2:=st
def SK:RV:=fl (Ic.step3 O [t0] m)
theorem afR:Ic.step2 O [t0] m=SK m O t0:=st
def asy:RV:=fl (ajG.step3 O [t0] m)
theorem ayW:ajG.step2 O [t0] m=asy m O t0:=st
def afA:RV:=fl (WH.step3 O [t0,t1] m)
theorem ao5:WH.step2 O [t0,t1] m=afA m O t0 t1:=st
def Xo:RV:=fl (WB.step3 O [t0,t1] m)
theorem ao1:WB.step2 O [t0,t1] m=Xo m O t0 t1:=st
def RH:RV:=fl (Qw.step3 O [t0] m)
theorem Z9:Qw.step2 O [t0] m=RH m O t0:=st
def vW:RV:=fl (WG.step3 O [t0,t1] m)
theorem ao4:WG.step2 O [t0,t1] m=vW m O t0 t1:=st
def Oo:RV:=fl (WE.step3 O [t0,t1] m)
theorem ao3:WE.step2 O [t0,t1] m=Oo m O t0 t1:=st
def afB:RV:=fl (WI.step3 O [t0,t1] m)
theorem ao6:WI.step2 O [t0,t1] m=afB m O t0 t1:=st
def V5:RV:=fl (Jr.step3 O [t0] m)
theorem agt:Jr.step2 O [t0] m=V5 m O t0:=st
def Bc:RV:=fl (Jp.step3 O [t0] m)
theorem ags:Jp.step2 O [t0] m=Bc m O t0:=st
def ahO:RV:=fl (ag2.step3 O [t0] m)
theorem anE:ag2.step2 O [t0] m=ahO m O t0:=st
def afz:RV:=fl (WC.step3 O [t0,t1] m)
theorem ao2:WC.step2 O [t0,t1] m=afz m O t0 t1:=st
def afC:RV:=fl (WJ.step3 O [t0,t1] m)
theorem ao7:WJ.step2 O [t0,t1] m=afC m O t0 t1:=st
def adJ:RV:=fl (TG.step3 O [t0] m)
theorem amw:TG.step2 O [t0] m=adJ m O t0:=st
def afG:RV:=fl (WU.step3 O [t0,t1] m)
theorem ape:WU.step2 O [t0,t1] m=afG m O t0 t1:=st
def al3:RV:=fl (aef.step3 O [t0] m)
theorem avu:aef.step2 O [t0] m=al3 m O t0:=st
def yU:RV:=fl (YZ.step3 O [t0,t1] m)
theorem Df:YZ.step2 O [t0,t1] m=yU m O t0 t1:=st
def ajm:RV:=fl (abR.step3 O [t0,t1,t2] m)
theorem atd:abR.step2 O [t0,t1,t2] m=ajm m O t0 t1 t2:=st
def Xw:RV:=fl (WV.step3 O [t0,t1] m)
theorem apf:WV.step2 O [t0,t1] m=Xw m O t0 t1:=st
def afF:RV:=fl (WR.step3 O [t0,t1] m)
theorem apb:WR.step2 O [t0,t1] m=afF m O t0 t1:=st
def abq:RV:=fl (agQ.step3 O [t0] m)
theorem anz:agQ.step2 O [t0] m=abq m O t0:=st
def ZL:RV:=fl (YX.step3 O [t0] m)
theorem agb:YX.step2 O [t0] m=ZL m O t0:=st
def pO:RV:=fl (abV.step3 O [t0,t1,t2] m)
theorem GK:abV.step2 O [t0,t1,t2] m=pO m O t0 t1 t2:=st
def aoB:RV:=fl (agP.step3 O [t0,t1] m)
theorem aw1:agP.step2 O [t0,t1] m=aoB m O t0 t1:=st
def ahL:RV:=fl (Y0.step3 O [t0] m)
theorem aqh:Y0.step2 O [t0] m=ahL m O t0:=st
def Ns:RV:=fl (MR.step3 O [t0,t1] m)
theorem XC:MR.step2 O [t0,t1] m=Ns m O t0 t1:=st
def Ba:RV:=fl (Jk.step3 O [t0,t1] m)
theorem IZ:Jk.step2 O [t0,t1] m=Ba m O t0 t1:=st
def ZO:RV:=fl (Y3.step3 O [t0,t1] m)
theorem aqj:Y3.step2 O [t0,t1] m=ZO m O t0 t1:=st
def ahK:RV:=fl (agR.step3 O [t0] m)
theorem aw2:agR.step2 O [t0] m=ahK m O t0:=st
def ajp:RV:=fl (abZ.step3 O [t0,t1] m)
theorem ath:abZ.step2 O [t0,t1] m=ajp m O t0 t1:=st
def ae7:RV:=fl (aem.step3 O [t0] m)
theorem akN:aem.step2 O [t0] m=ae7 m O t0:=st
def L6:RV:=fl (zC.step3 O [t0] m)
theorem Z4:zC.step2 O [t0] m=L6 m O t0:=st
def Io:RV:=fl (H9.step3 O [t0,t1] m)
theorem Sl:H9.step2 O [t0,t1] m=Io m O t0 t1:=st
def ahM:RV:=fl (Y1.step3 O [t0,t1] m)
theorem aqi:Y1.step2 O [t0,t1] m=ahM m O t0 t1:=st
def Xp:RV:=fl (WL.step3 O [t0,t1] m)
theorem ao8:WL.step2 O [t0,t1] m=Xp m O t0 t1:=st
def al7:RV:=fl (ael.step3 O [t0,t1] m)
theorem avz:ael.step2 O [t0,t1] m=al7 m O t0 t1:=st
def ahN:RV:=fl (agY.step3 O [t0] m)
theorem anC:agY.step2 O [t0] m=ahN m O t0:=st
def Xn:RV:=fl (Wu.step3 O [t0,t1] m)
theorem aoY:Wu.step2 O [t0,t1] m=Xn m O t0 t1:=st
def afx:RV:=fl (Wv.step3 O [t0] m)
theorem aoZ:Wv.step2 O [t0] m=afx m O t0:=st
def acA:RV:=fl (abW.step3 O [t0,t1] m)
theorem atf:abW.step2 O [t0,t1] m=acA m O t0 t1:=st
def al5:RV:=fl (aei.step3 O [t0,t1] m)
theorem avx:aei.step2 O [t0,t1] m=al5 m O t0 t1:=st
def ZF:RV:=fl (YS.step3 O [t0,t1,t2] m)
theorem aqb:YS.step2 O [t0,t1,t2] m=ZF m O t0 t1 t2:=st
def al8:RV:=fl (aen.step3 O [t0] m)
theorem avA:aen.step2 O [t0] m=al8 m O t0:=st
def aoE:RV:=fl (agX.step3 O [t0] m)
theorem aw5:agX.step2 O [t0] m=aoE m O t0:=st
def aoD:RV:=fl (agW.step3 O [t0] m)
theorem aw4:agW.step2 O [t0] m=aoD m O t0:=st
def al6:RV:=fl (aek.step3 O [t0,t1] m)
theorem avy:aek.step2 O [t0,t1] m=al6 m O t0 t1:=st
def ae6:RV:=fl (aej.step3 O [t0,t1] m)
theorem akM:aej.step2 O [t0,t1] m=ae6 m O t0 t1:=st
def acB:RV:=fl (abY.step3 O [t0,t1] m)
theorem aiO:abY.step2 O [t0,t1] m=acB m O t0 t1:=st
def acC:RV:=fl (ab1.step3 O [t0,t1,t2] m)
theorem ati:ab1.step2 O [t0,t1,t2] m=acC m O t0 t1 t2:=st
def ajo:RV:=fl (abX.step3 O [t0,t1] m)
theorem atg:abX.step2 O [t0,t1] m=ajo m O t0 t1:=st
def NY:RV:=fl (abP.step3 O [t0] m)
theorem atb:abP.step2 O [t0] m=NY m O t0:=st
def afy:RV:=fl (WA.step3 O [t0,t1,t2] m)
theorem ao0:WA.step2 O [t0,t1,t2] m=afy m O t0 t1 t2:=st
def kL:bT:=fl (aK O [3,4] [3] pY aa7 b [t3,t4] m)
theorem wz:aH O [3,4] [3] pY b [t3,t4] m=kL m O b t3 t4:=fE
def vM:bT:=fl (aK O [0] [0] nI SE b [t0] m)
theorem O1:aH O [0] [0] nI b [t0] m=vM m O b t0:=fE
def l9:bT:=fl (aK O [6,8,9,10,11,12] [6,9,10] jG Pv b [t6,t8,t9,t10,t11,t12] m)
theorem rJ:aH O [6,8,9,10,11,12] [6,9,10] jG b [t6,t8,t9,t10,t11,t12] m=l9 m O b t6 t8 t9 t10 t11 t12:=fE
def OV:bT:=fl (aK O [6,7,8,9,10,26,27,28,33,34,35] [6,7,8,10,26,27,28] DK adf b [t6,t7,t8,t9,t10,t26,t27,t28,t33,t34,t35] m)
theorem Yn:aH O [6,7,8,9,10,26,27,28,33,34,35] [6,7,8,10,26,27,28] DK b [t6,t7,t8,t9,t10,t26,t27,t28,t33,t34,t35] m=OV m O b t6 t7 t8 t9 t10 t26 t27 t28 t33 t34 t35:=fE
def OW:bT:=fl (aK O [6,7,26,27,28] [7] DL adg b [t6,t7,t26,t27,t28] m)
theorem Yo:aH O [6,7,26,27,28] [7] DL b [t6,t7,t26,t27,t28] m=OW m O b t6 t7 t26 t27 t28:=fE
def FW:bT:=fl (aK O [5,6,7,8,27,28] [5,7,8] xY ade b [t5,t6,t7,t8,t27,t28] m)
theorem Ym:aH O [5,6,7,8,27,28] [5,7,8] xY b [t5,t6,t7,t8,t27,t28] m=FW m O b t5 t6 t7 t8 t27 t28:=fE
def yV:bT:=fl (aK O [1,5,6] [5] xZ adh b [t1,t5,t6] m)
theorem Ed:aH O [1,5,6] [5] xZ b [t1,t5,t6] m=yV m O b t1 t5 t6:=fE
def FX:bT:=fl (aK O [6,7,8,9,25,26] [8] DN adi b [t6,t7,t8,t9,t25,t26] m)
theorem Yp:aH O [6,7,8,9,25,26] [8] DN b [t6,t7,t8,t9,t25,t26] m=FX m O b t6 t7 t8 t9 t25 t26:=fE
def Nj:bT:=fl (aK O [0,4,18,19,20] [0,4] Am abb b [t0,t4,t18,t19,t20] m)
theorem Xz:aH O [0,4,18,19,20] [0,4] Am b [t0,t4,t18,t19,t20] m=Nj m O b t0 t4 t18 t19 t20:=fE
def CX:bT:=fl (aK O [4,11,43,44,45] [4,11] vk abd b [t4,t11,t43,t44,t45] m)
theorem L_:aH O [4,11,43,44,45] [4,11] vk b [t4,t11,t43,t44,t45] m=CX m O b t4 t11 t43 t44 t45:=fE
def ZM:bT:=fl (aK O [1,4,5] [4] Qp ak6 b [t1,t4,t5] m)
theorem agc:aH O [1,4,5] [4] Qp b [t1,t4,t5] m=ZM m O b t1 t4 t5:=fE
def RF:bT:=fl (aK O [0,2,4] [0,2,4] Gu afj b [t0,t2,t4] m)
theorem Z7:aH O [0,2,4] [0,2,4] Gu b [t0,t2,t4] m=RF m O b t0 t2 t4:=fE
def RG:bT:=fl (aK O [2,4,5] [2,4,5] Gv afk b [t2,t4,t5] m)
theorem Z8:aH O [2,4,5] [2,4,5] Gv b [t2,t4,t5] m=RG m O b t2 t4 t5:=fE
def ahJ:bT:=fl (aK O [0,6,35,36,37] [0,6] Qj akU b [t0,t6,t35,t36,t37] m)
theorem aqe:aH O [0,6,35,36,37] [0,6] Qj b [t0,t6,t35,t36,t37] m=ahJ m O b t0 t6 t35 t36 t37:=fE
def ZH:bT:=fl (aK O [6,10,11,47,48,49] [6,47,48,49] Qk akV b [t6,t10,t11,t47,t48,t49] m)
theorem af':aH O [6,10,11,47,48,49] [6,47,48,49] Qk b [t6,t10,t11,t47,t48,t49] m=ZH m O b t6 t10 t11 t47 t48 t49:=fE
def ZI:bT:=fl (aK O [6,47,48,49] [6] J8 akW b [t6,t47,t48,t49] m)
theorem aga:aH O [6,47,48,49] [6] J8 b [t6,t47,t48,t49] m=ZI m O b t6 t47 t48 t49:=fE
def Gh:bT:=fl (aK O [1,5,6,7] [1,5,6,7] uT VN b [t1,t5,t6,t7] m)
theorem Qa:aH O [1,5,6,7] [1,5,6,7] uT b [t1,t5,t6,t7] m=Gh m O b t1 t5 t6 t7:=fE
def qO:bT:=fl (aK O [1,5,6] [5] oQ VO b [t1,t5,t6] m)
theorem wQ:aH O [1,5,6] [5] oQ b [t1,t5,t6] m=qO m O b t1 t5 t6:=fE
def vK:bT:=fl (aK O [0,1,5,6] [5] sN SC b [t0,t1,t5,t6] m)
theorem Dj:aH O [0,1,5,6] [5] sN b [t0,t1,t5,t6] m=vK m O b t0 t1 t5 t6:=fE
def vJ:bT:=fl (aK O [1,2,6] [4,5] zM afr b [t1,t2,t6] m)
theorem akO:aH O [1,2,6] [4,5] zM b [t1,t2,t6] m=vJ m O b t1 t2 t6:=fE
def Um:bT:=fl (aK O [0,1,6,7,8] [6,7] JB ahr b [t0,t1,t6,t7,t8] m)
theorem acN:aH O [0,1,6,7,8] [6,7] JB b [t0,t1,t6,t7,t8] m=Um m O b t0 t1 t6 t7 t8:=fE
def vX:bT:=fl (aK O [0] [0] xC ajd b [t0] m)
theorem N_:aH O [0] [0] xC b [t0] m=vX m O b t0:=fE
def vZ:bT:=fl (aK O [0,2,3] [] iK JQ b [t0,t2,t3] m)
theorem Gs:aH O [0,2,3] [] iK b [t0,t2,t3] m=vZ m O b t0 t2 t3:=fE
def AV:bT:=fl (aK O [0,1,5] [4] zL afq b [t0,t1,t5] m)
theorem Iu:aH O [0,1,5] [4] zL b [t0,t1,t5] m=AV m O b t0 t1 t5:=fE
def yX:bT:=fl (aK O [0,1,5] [4] DR adk b [t0,t1,t5] m)
theorem Yq:aH O [0,1,5] [4] DR b [t0,t1,t5] m=yX m O b t0 t1 t5:=fE
def Ot:bT:=fl (aK O [1,6,7,8,9,10,11,12] [1,6,7,8,9,10] BP aja b [t1,t6,t7,t8,t9,t10,t11,t12] m)
theorem V_:aH O [1,6,7,8,9,10,11,12] [1,6,7,8,9,10] BP b [t1,t6,t7,t8,t9,t10,t11,t12] m=Ot m O b t1 t6 t7 t8 t9 t10 t11 t12:=fE
def Xq:bT:=fl (aK O [1,6,7,8,9,10] [1,6,7,9] NH ajb b [t1,t6,t7,t8,t9,t10] m)
theorem afc:aH O [1,6,7,8,9,10] [1,6,7,9] NH b [t1,t6,t7,t8,t9,t10] m=Xq m O b t1 t6 t7 t8 t9 t10:=fE
def Xr:bT:=fl (aK O [6,7,9,13,86,87] [9,13] NI ajc b [t6,t7,t9,t13,t86,t87] m)
theorem afd:aH O [6,7,9,13,86,87] [9,13] NI b [t6,t7,t9,t13,t86,t87] m=Xr m O b t6 t7 t9 t13 t86 t87:=fE
def vH:bT:=fl (aK O [2,8,9,10,11,13,14,15,16] [2,8,9,10,11,13,14,15] zI afg b [t2,t8,t9,t10,t11,t13,t14,t15,t16] m)
theorem akJ:aH O [2,8,9,10,11,13,14,15,16] [2,8,9,10,11,13,14,15] zI b [t2,t8,t9,t10,t11,t13,t14,t15,t16] m=vH m O b t2 t8 t9 t10 t11 t13 t14 t15 t16:=fE
def vI:bT:=fl (aK O [2,8,9,10,14,15,16,17,18] [2,8,14,15,17,18] zJ afh b [t2,t8,t9,t10,t14,t15,t16,t17,t18] m)
theorem akK:aH O [2,8,9,10,14,15,16,17,18] [2,8,14,15,17,18] zJ b [t2,t8,t9,t10,t14,t15,t16,t17,t18] m=vI m O b t2 t8 t9 t10 t14 t15 t16 t17 t18:=fE
def Xt:bT:=fl (aK O [0,3] [0,3] G5 aje b [t0,t3] m)
theorem afe:aH O [0,3] [0,3] G5 b [t0,t3] m=Xt m O b t0 t3:=fE
def RI:bT:=fl (aK O [0,3,14,15] [0] Le alF b [t0,t3,t14,t15] m)
theorem agf:aH O [0,3,14,15] [0] Le b [t0,t3,t14,t15] m=RI m O b t0 t3 t14 t15:=fE
def Oq:bT:=fl (aK O [0,1,5,9,10] [0] GZ ai' b [t0,t1,t5,t9,t10] m)
theorem afb:aH O [0,1,5,9,10] [0] GZ b [t0,t1,t5,t9,t10] m=Oq m O b t0 t1 t5 t9 t10:=fE
def Gz:bT:=fl (aK O [1,5,12,13,14] [5] GY ai_ b [t1,t5,t12,t13,t14] m)
theorem N9:aH O [1,5,12,13,14] [5] GY b [t1,t5,t12,t13,t14] m=Gz m O b t1 t5 t12 t13 t14:=fE
def lQ:bT:=fl (aK O [0,5,6,7,8,9] [4] DT ahq b [t0,t5,t6,t7,t8,t9] m)
theorem JZ:aH O [0,5,6,7,8,9] [4] DT b [t0,t5,t6,t7,t8,t9] m=lQ m O b t0 t5 t6 t7 t8 t9:=fE
def Un:bT:=fl (aK O [0,1,2,7,8,14,15,16] [0,1,7,8] JC aht b [t0,t1,t2,t7,t8,t14,t15,t16] m)
theorem acO:aH O [0,1,2,7,8,14,15,16] [0,1,7,8] JC b [t0,t1,t2,t7,t8,t14,t15,t16] m=Un m O b t0 t1 t2 t7 t8 t14 t15 t16:=fE
def Ul:bT:=fl (aK O [0,1,4,7,8,9] [0,1,4] JA ahp b [t0,t1,t4,t7,t8,t9] m)
theorem acM:aH O [0,1,4,7,8,9] [0,1,4] JA b [t0,t1,t4,t7,t8,t9] m=Ul m O b t0 t1 t4 t7 t8 t9:=fE
end
end Go.Ev.Code
end
section
namespace Go.Ev.Code
open Go Go.Ev
set_option maxRecDepth 100000
attribute [local irreducible] aa9 adl bd jn exM Qo gc gop OY Si Qg fz jd hdI tlI Ir aeY UY aeS JG DY Rf VA Ap yM Rh Pn Q9 aeT X4 NV eX tV IG aeV Zv Zu aeU ahA ahC aeZ ahD ae0 X5 X7 UR ae1 Xh UN LC Gy UO aeX aeW X6 Oi rMn rMx aci yL uH NU acj UU Oj Ri UZ Q_ UQ ahB
attribute [local irreducible] wS OB Js vU mW bits_LeadingZeros64 strconv_Itoa aes GU agI Gw agJ wF Kt jO mM fO lF kN JU ac8 agK agL
noncomputable section
variable (m:Mem) (O:h_) (b:Nat) (t0 t1 t2 t3 t43 t44 t45:D)
end
end Go.Ev.Code
end
