/- A part of the proof of riskZero_card, yieldPar_card, pricePar_card. -/
import Derived.KernelRfl
import Derived.Test.YtheeamloonpolaaGreatDoorCFlat
import Derived.Test.YtheeamloonpolaaGreatDoorCCodeA
import Derived.Test.YtheeamloonpolaaGreatDoorCCodeB
import Derived.Test.YtheeamloonpolaaGreatDoorCCodeC
set_option linter.unusedVariables false
section
namespace Go.Ev.Code
open Go Go.Ev
set_option maxRecDepth 100000
attribute [local irreducible] Xi Zu bd jn VH MQ gc gop KC Oj KO fz jE hdI tlI List.length List.append Dv ZG PG Zz N9 BP Oa J6 Ea N_ ZA Uw J8 gq tK E8 ZC U7 U6 ZB ab_ ace ZH acf ZI Ux Uz PD ZJ Rq Px H6 D_ Py ZF ZE Uy J5 rMn rMx Xu yT uI J4 Xv PE J7 NG PI ND Pz acd
attribute [local irreducible] jL jJ jM d_ kV iL jc iQ j_ dY iC iT jT jU jo iM oq fE lS jB jR nN BK zZ Em vC uO mg kJ lX lW Ci jd nI qZ oC fA mF uo dG jI bW iy xq dD dO dK oL o8 xw o9 kD zy xA jq L9 jH kX xg slices_Reverse_int gY wF vI sJ uj oW vN Dx Ej yS vT nU D8 lN lC uP DC DF yG kG sV rH gK yP lT Je iH iW bV jm ji kQ nR xk fQ oZ jl rX rW jF kY rY strings_CutPrefix strings_Cut lV nM jr I7 Ak zk uU pO wE gU oI yj Ep Ry qO uM DJ wM fD VL vk Ie LU gI dI bits_Mul64 bits_Add64 nS bits_Sub64 yL yN Iw iG dW gQ strings_Repeat slices_Reverse_string strings_Join iO rQ wO AL Bl jg rJ IZ Am iF IX Ij jZ IY DL wu Fb uN zh Bd Cc nat_bit D5 uT bits_LeadingZeros64 Bc DZ D6 DY DI lD lY pV QM DN NT NU uJ DX strconv_Itoa bits_TrailingZeros64 KQ Js I8 BO uK ql BN JJ vS I9 uh I_ pY zV iU kT eU kZ jQ BJ hndB iD fG gJ ku kC iZ h_ yQ pJ jO gV iI je mZ m_ lQ iY ru kS nJ nG gW uD wS
noncomputable def xX (O:aC) (t0 t1 t2 t3:D) (m:Mem):RV:=by
 refine (fun _:?a=qF.step3 O [t0,t1,t2,t3] m=>?a) ?h
 case h=>conv=>{rhs; reduce; try dsimp only [ak,ay,aF,aA]}
theorem Fp (O:aC) (t0 t1 t2 t3:D) (m:Mem):qF.step2 O [t0,t1,t2,t3] m=xX O t0 t1 t2 t3 m:=(aJ ..).trans (by kernel_rfl)
noncomputable def FI (O:aC) (t0 t1 t2 t3:D) (m:Mem):RV:=by
 refine (fun _:?a=qC.step3 O [t0,t1,t2,t3] m=>?a) ?h
 case h=>conv=>{rhs; reduce; try dsimp only [ak,ay,aF,aA]}
theorem Sj (O:aC) (t0 t1 t2 t3:D) (m:Mem):qC.step2 O [t0,t1,t2,t3] m=FI O t0 t1 t2 t3 m:=(aJ ..).trans (by kernel_rfl)
noncomputable def xY (O:aC) (t0 t1 t2 t3:D) (m:Mem):RV:=by
 refine (fun _:?a=qG.step3 O [t0,t1,t2,t3] m=>?a) ?h
 case h=>conv=>{rhs; reduce; try dsimp only [ak,ay,aF,aA]}
theorem Fq (O:aC) (t0 t1 t2 t3:D) (m:Mem):qG.step2 O [t0,t1,t2,t3] m=xY O t0 t1 t2 t3 m:=(aJ ..).trans (by kernel_rfl)
noncomputable def KI (O:aC) (t0:D) (m:Mem):RV:=by
 refine (fun _:?a=xI.step3 O [t0] m=>?a) ?h
 case h=>conv=>{rhs; reduce; try dsimp only [ak,ay,aF,aA]}
theorem Yi (O:aC) (t0:D) (m:Mem):xI.step2 O [t0] m=KI O t0 m:=(aJ ..).trans (by kernel_rfl)
noncomputable def KH (O:aC) (t0 t1:D) (m:Mem):RV:=by
 refine (fun _:?a=xH.step3 O [t0,t1] m=>?a) ?h
 case h=>conv=>{rhs; reduce; try dsimp only [ak,ay,aF,aA]}
theorem Yh (O:aC) (t0 t1:D) (m:Mem):xH.step2 O [t0,t1] m=KH O t0 t1 m:=(aJ ..).trans (by kernel_rfl)
noncomputable def BD (O:aC) (base:Nat) (t1 t2 t5:D) (m:Mem):Option (Ex×List D×Mem):=by
 refine (fun _:?a=bD O [1,2,5] [1,2,5] iD iD base [t1,t2,t5] m=>?a) ?h
 case h=>conv=>{rhs; conv=>{arg 5; delta iD}; reduce; try dsimp only [ak,ay,aF,aA]}
theorem Ji (O:aC) (base:Nat) (t1 t2 t5:D) (m:Mem):bg O [1,2,5] [1,2,5] iD base [t1,t2,t5] m=BD O base t1 t2 t5 m:=(aW ..).trans (by kernel_rfl)
noncomputable def OZ (O:aC) (t0 t1:D) (m:Mem):RV:=by
 refine (fun _:?a=zH.step3 O [t0,t1] m=>?a) ?h
 case h=>conv=>{rhs; reduce; try dsimp only [ak,ay,aF,aA]}
theorem aaA (O:aC) (t0 t1:D) (m:Mem):zH.step2 O [t0,t1] m=OZ O t0 t1 m:=(aJ ..).trans (by kernel_rfl)
noncomputable def IJ (O:aC) (t0:D) (m:Mem):RV:=by
 refine (fun _:?a=AU.step3 O [t0] m=>?a) ?h
 case h=>conv=>{rhs; reduce; try dsimp only [ak,ay,aF,aA]}
theorem Ql (O:aC) (t0:D) (m:Mem):AU.step2 O [t0] m=IJ O t0 m:=(aJ ..).trans (by kernel_rfl)
noncomputable def Og (O:aC) (t0:D) (m:Mem):RV:=by
 refine (fun _:?a=yH.step3 O [t0] m=>?a) ?h
 case h=>conv=>{rhs; reduce; try dsimp only [ak,ay,aF,aA]}
theorem YF (O:aC) (t0:D) (m:Mem):yH.step2 O [t0] m=Og O t0 m:=(aJ ..).trans (by kernel_rfl)
noncomputable def kK (O:aC) (base:Nat) (t1 t8 t9:D) (m:Mem):Option (Ex×List D×Mem):=by
 refine (fun _:?a=bD O [1,8,9] [1,8,9] fG fG base [t1,t8,t9] m=>?a) ?h
 case h=>conv=>{rhs; conv=>{arg 5; delta fG}; reduce; try dsimp only [ak,ay,aF,aA]}
theorem n_ (O:aC) (base:Nat) (t1 t8 t9:D) (m:Mem):bg O [1,8,9] [1,8,9] fG base [t1,t8,t9] m=kK O base t1 t8 t9 m:=(aW ..).trans (by kernel_rfl)
noncomputable def ou (O:aC) (base:Nat) (t1 t8 t9:D) (m:Mem):Option (Ex×List D×Mem):=by
 refine (fun _:?a=bD O [1,8,9] [8,9] gJ gJ base [t1,t8,t9] m=>?a) ?h
 case h=>conv=>{rhs; conv=>{arg 5; delta gJ}; reduce; try dsimp only [ak,ay,aF,aA]}
theorem tZ (O:aC) (base:Nat) (t1 t8 t9:D) (m:Mem):bg O [1,8,9] [8,9] gJ base [t1,t8,t9] m=ou O base t1 t8 t9 m:=(aW ..).trans (by kernel_rfl)
noncomputable def fP (O:aC) (t0 t1 t2:D) (m:Mem):RV:=by
 refine (fun _:?a=qH.step3 O [t0,t1,t2] m=>?a) ?h
 case h=>conv=>{rhs; reduce; try dsimp only [ak,ay,aF,aA]}
theorem mJ (O:aC) (t0 t1 t2:D) (m:Mem):qH.step2 O [t0,t1,t2] m=fP O t0 t1 t2 m:=(aJ ..).trans (by kernel_rfl)
noncomputable def qp (O:aC) (t0 t1 t2:D) (m:Mem):RV:=by
 refine (fun _:?a=Hf.step3 O [t0,t1,t2] m=>?a) ?h
 case h=>conv=>{rhs; reduce; try dsimp only [ak,ay,aF,aA]}
theorem yc (O:aC) (t0 t1 t2:D) (m:Mem):Hf.step2 O [t0,t1,t2] m=qp O t0 t1 t2 m:=(aJ ..).trans (by kernel_rfl)
noncomputable def OT (O:aC) (t0 t1:D) (m:Mem):RV:=by
 refine (fun _:?a=Hg.step3 O [t0,t1] m=>?a) ?h
 case h=>conv=>{rhs; reduce; try dsimp only [ak,ay,aF,aA]}
theorem agS (O:aC) (t0 t1:D) (m:Mem):Hg.step2 O [t0,t1] m=OT O t0 t1 m:=(aJ ..).trans (by kernel_rfl)
noncomputable def Ye (O:aC) (t0 t1:D) (m:Mem):RV:=by
 refine (fun _:?a=Hu.step3 O [t0,t1] m=>?a) ?h
 case h=>conv=>{rhs; reduce; try dsimp only [ak,ay,aF,aA]}
theorem agX (O:aC) (t0 t1:D) (m:Mem):Hu.step2 O [t0,t1] m=Ye O t0 t1 m:=(aJ ..).trans (by kernel_rfl)
noncomputable def Ya (O:aC) (t0 t1:D) (m:Mem):RV:=by
 refine (fun _:?a=Hl.step3 O [t0,t1] m=>?a) ?h
 case h=>conv=>{rhs; reduce; try dsimp only [ak,ay,aF,aA]}
theorem agT (O:aC) (t0 t1:D) (m:Mem):Hl.step2 O [t0,t1] m=Ya O t0 t1 m:=(aJ ..).trans (by kernel_rfl)
noncomputable def zB (O:aC) (base:Nat) (t0 t2 t3:D) (m:Mem):Option (Ex×List D×Mem):=by
 refine (fun _:?a=bD O [0,2,3] [0,2,3] ku ku base [t0,t2,t3] m=>?a) ?h
 case h=>conv=>{rhs; conv=>{arg 5; delta ku}; reduce; try dsimp only [ak,ay,aF,aA]}
theorem F7 (O:aC) (base:Nat) (t0 t2 t3:D) (m:Mem):bg O [0,2,3] [0,2,3] ku base [t0,t2,t3] m=zB O base t0 t2 t3 m:=(aW ..).trans (by kernel_rfl)
noncomputable def zC (O:aC) (base:Nat) (t0 t2 t3:D) (m:Mem):Option (Ex×List D×Mem):=by
 refine (fun _:?a=bD O [0,2,3] [0,2,3] kC kC base [t0,t2,t3] m=>?a) ?h
 case h=>conv=>{rhs; conv=>{arg 5; delta kC}; reduce; try dsimp only [ak,ay,aF,aA]}
theorem F8 (O:aC) (base:Nat) (t0 t2 t3:D) (m:Mem):bg O [0,2,3] [0,2,3] kC base [t0,t2,t3] m=zC O base t0 t2 t3 m:=(aW ..).trans (by kernel_rfl)
noncomputable def KJ (O:aC) (t0:D) (m:Mem):RV:=by
 refine (fun _:?a=xK.step3 O [t0] m=>?a) ?h
 case h=>conv=>{rhs; reduce; try dsimp only [ak,ay,aF,aA]}
theorem Yj (O:aC) (t0:D) (m:Mem):xK.step2 O [t0] m=KJ O t0 m:=(aJ ..).trans (by kernel_rfl)
noncomputable def y8 (O:aC) (t0 t1 t2:D) (m:Mem):RV:=by
 refine (fun _:?a=Dn.step3 O [t0,t1,t2] m=>?a) ?h
 case h=>conv=>{rhs; reduce; try dsimp only [ak,ay,aF,aA]}
theorem CZ (O:aC) (t0 t1 t2:D) (m:Mem):Dn.step2 O [t0,t1,t2] m=y8 O t0 t1 t2 m:=(aJ ..).trans (by kernel_rfl)
noncomputable def MJ (O:aC) (t0:D) (m:Mem):RV:=by
 refine (fun _:?a=ES.step3 O [t0] m=>?a) ?h
 case h=>conv=>{rhs; reduce; try dsimp only [ak,ay,aF,aA]}
theorem aec (O:aC) (t0:D) (m:Mem):ES.step2 O [t0] m=MJ O t0 m:=(aJ ..).trans (by kernel_rfl)
noncomputable def Kz (O:aC) (t0:D) (m:Mem):RV:=by
 refine (fun _:?a=uY.step3 O [t0] m=>?a) ?h
 case h=>conv=>{rhs; reduce; try dsimp only [ak,ay,aF,aA]}
theorem Ws (O:aC) (t0:D) (m:Mem):uY.step2 O [t0] m=Kz O t0 m:=(aJ ..).trans (by kernel_rfl)
noncomputable def nV (O:aC) (base:Nat) (t1 t4 t5:D) (m:Mem):Option (Ex×List D×Mem):=by
 refine (fun _:?a=bD O [1,4,5] [1,4] iZ iZ base [t1,t4,t5] m=>?a) ?h
 case h=>conv=>{rhs; conv=>{arg 5; delta iZ}; reduce; try dsimp only [ak,ay,aF,aA]}
theorem zf (O:aC) (base:Nat) (t1 t4 t5:D) (m:Mem):bg O [1,4,5] [1,4] iZ base [t1,t4,t5] m=nV O base t1 t4 t5 m:=(aW ..).trans (by kernel_rfl)
noncomputable def nX (O:aC) (base:Nat) (t1 t4 t8 t9:D) (m:Mem):Option (Ex×List D×Mem):=by
 refine (fun _:?a=bD O [1,4,8,9] [1,4,8] h_ h_ base [t1,t4,t8,t9] m=>?a) ?h
 case h=>conv=>{rhs; conv=>{arg 5; delta h_}; reduce; try dsimp only [ak,ay,aF,aA]}
theorem rF (O:aC) (base:Nat) (t1 t4 t8 t9:D) (m:Mem):bg O [1,4,8,9] [1,4,8] h_ base [t1,t4,t8,t9] m=nX O base t1 t4 t8 t9 m:=(aW ..).trans (by kernel_rfl)
noncomputable def jy (O:aC) (t0:D) (m:Mem):RV:=by
 refine (fun _:?a=xJ.step3 O [t0] m=>?a) ?h
 case h=>conv=>{rhs; reduce; try dsimp only [ak,ay,aF,aA]}
theorem CJ (O:aC) (t0:D) (m:Mem):xJ.step2 O [t0] m=jy O t0 m:=(aJ ..).trans (by kernel_rfl)
noncomputable def Ic (O:aC) (t0 t1 t2:D) (m:Mem):RV:=by
 refine (fun _:?a=He.step3 O [t0,t1,t2] m=>?a) ?h
 case h=>conv=>{rhs; reduce; try dsimp only [ak,ay,aF,aA]}
theorem Oq (O:aC) (t0 t1 t2:D) (m:Mem):He.step2 O [t0,t1,t2] m=Ic O t0 t1 t2 m:=(aJ ..).trans (by kernel_rfl)
noncomputable def Kw (O:aC) (base:Nat) (t1 t6 t7 t8 t9 t27 t28 t29:D) (m:Mem):Option (Ex×List D×Mem):=by
 refine (fun _:?a=bD O [1,6,7,8,9,27,28,29] [1,6,7,8] yQ yQ base [t1,t6,t7,t8,t9,t27,t28,t29] m=>?a) ?h
 case h=>conv=>{rhs; conv=>{arg 5; delta yQ}; reduce; try dsimp only [ak,ay,aF,aA]}
theorem Qi (O:aC) (base:Nat) (t1 t6 t7 t8 t9 t27 t28 t29:D) (m:Mem):bg O [1,6,7,8,9,27,28,29] [1,6,7,8] yQ base [t1,t6,t7,t8,t9,t27,t28,t29] m=Kw O base t1 t6 t7 t8 t9 t27 t28 t29 m:=(aW ..).trans (by kernel_rfl)
noncomputable def sS (O:aC) (t0:D) (m:Mem):RV:=by
 refine (fun _:?a=Ud.step3 O [t0] m=>?a) ?h
 case h=>conv=>{rhs; reduce; try dsimp only [ak,ay,aF,aA]}
theorem afe (O:aC) (t0:D) (m:Mem):Ud.step2 O [t0] m=sS O t0 m:=(aJ ..).trans (by kernel_rfl)
noncomputable def PO (O:aC) (t0 t1 t2:D) (m:Mem):RV:=by
 refine (fun _:?a=Pm.step3 O [t0,t1,t2] m=>?a) ?h
 case h=>conv=>{rhs; reduce; try dsimp only [ak,ay,aF,aA]}
theorem Wx (O:aC) (t0 t1 t2:D) (m:Mem):Pm.step2 O [t0,t1,t2] m=PO O t0 t1 t2 m:=(aJ ..).trans (by kernel_rfl)
noncomputable def jP (O:aC) (base:Nat) (t1 t4 t6 t7 t21 t22 t23:D) (m:Mem):Option (Ex×List D×Mem):=by
 refine (fun _:?a=bD O [1,4,6,7,21,22,23] [2,3,7] pJ pJ base [t1,t4,t6,t7,t21,t22,t23] m=>?a) ?h
 case h=>conv=>{rhs; conv=>{arg 5; delta pJ}; reduce; try dsimp only [ak,ay,aF,aA]}
theorem kF (O:aC) (base:Nat) (t1 t4 t6 t7 t21 t22 t23:D) (m:Mem):bg O [1,4,6,7,21,22,23] [2,3,7] pJ base [t1,t4,t6,t7,t21,t22,t23] m=jP O base t1 t4 t6 t7 t21 t22 t23 m:=(aW ..).trans (by kernel_rfl)
noncomputable def Eb (O:aC) (t0:D) (m:Mem):RV:=by
 refine (fun _:?a=TV.step3 O [t0] m=>?a) ?h
 case h=>conv=>{rhs; reduce; try dsimp only [ak,ay,aF,aA]}
theorem IU (O:aC) (t0:D) (m:Mem):TV.step2 O [t0] m=Eb O t0 m:=(aJ ..).trans (by kernel_rfl)
noncomputable def Oe (O:aC) (t0 t1:D) (m:Mem):RV:=by
 refine (fun _:?a=TM.step3 O [t0,t1] m=>?a) ?h
 case h=>conv=>{rhs; reduce; try dsimp only [ak,ay,aF,aA]}
theorem Yx (O:aC) (t0 t1:D) (m:Mem):TM.step2 O [t0,t1] m=Oe O t0 t1 m:=(aJ ..).trans (by kernel_rfl)
noncomputable def Af (O:aC) (t0 t1:D) (m:Mem):RV:=by
 refine (fun _:?a=JF.step3 O [t0,t1] m=>?a) ?h
 case h=>conv=>{rhs; reduce; try dsimp only [ak,ay,aF,aA]}
theorem Jh (O:aC) (t0 t1:D) (m:Mem):JF.step2 O [t0,t1] m=Af O t0 t1 m:=(aJ ..).trans (by kernel_rfl)
noncomputable def lU (O:aC) (t0:D) (m:Mem):RV:=by
 refine (fun _:?a=Ju.step3 O [t0] m=>?a) ?h
 case h=>conv=>{rhs; reduce; try dsimp only [ak,ay,aF,aA]}
theorem ah8 (O:aC) (t0:D) (m:Mem):Ju.step2 O [t0] m=lU O t0 m:=(aJ ..).trans (by kernel_rfl)
noncomputable def Wh (O:aC) (t0:D) (m:Mem):RV:=by
 refine (fun _:?a=EP.step3 O [t0] m=>?a) ?h
 case h=>conv=>{rhs; reduce; try dsimp only [ak,ay,aF,aA]}
theorem aeb (O:aC) (t0:D) (m:Mem):EP.step2 O [t0] m=Wh O t0 m:=(aJ ..).trans (by kernel_rfl)
noncomputable def yA (O:aC) (t0:D) (m:Mem):RV:=by
 refine (fun _:?a=Gv.step3 O [t0] m=>?a) ?h
 case h=>conv=>{rhs; reduce; try dsimp only [ak,ay,aF,aA]}
theorem agx (O:aC) (t0:D) (m:Mem):Gv.step2 O [t0] m=yA O t0 m:=(aJ ..).trans (by kernel_rfl)
noncomputable def OC (O:aC) (t0:D) (m:Mem):RV:=by
 refine (fun _:?a=Gu.step3 O [t0] m=>?a) ?h
 case h=>conv=>{rhs; reduce; try dsimp only [ak,ay,aF,aA]}
theorem agw (O:aC) (t0:D) (m:Mem):Gu.step2 O [t0] m=OC O t0 m:=(aJ ..).trans (by kernel_rfl)
noncomputable def agd (O:aC) (t0 t1:D) (m:Mem):RV:=by
 refine (fun _:?a=Uc.step3 O [t0,t1] m=>?a) ?h
 case h=>conv=>{rhs; reduce; try dsimp only [ak,ay,aF,aA]}
theorem an5 (O:aC) (t0 t1:D) (m:Mem):Uc.step2 O [t0,t1] m=agd O t0 t1 m:=(aJ ..).trans (by kernel_rfl)
noncomputable def xZ (O:aC) (base:Nat) (t0 t3 t4 t5 t6:D) (m:Mem):Option (Ex×List D×Mem):=by
 refine (fun _:?a=bD O [0,3,4,5,6] [0,3,4] jO jO base [t0,t3,t4,t5,t6] m=>?a) ?h
 case h=>conv=>{rhs; conv=>{arg 5; delta jO}; reduce; try dsimp only [ak,ay,aF,aA]}
theorem Fv (O:aC) (base:Nat) (t0 t3 t4 t5 t6:D) (m:Mem):bg O [0,3,4,5,6] [0,3,4] jO base [t0,t3,t4,t5,t6] m=xZ O base t0 t3 t4 t5 t6 m:=(aW ..).trans (by kernel_rfl)
noncomputable def qL (O:aC) (base:Nat) (t0 t3 t4:D) (m:Mem):Option (Ex×List D×Mem):=by
 refine (fun _:?a=bD O [0,3,4] [3] gV gV base [t0,t3,t4] m=>?a) ?h
 case h=>conv=>{rhs; conv=>{arg 5; delta gV}; reduce; try dsimp only [ak,ay,aF,aA]}
theorem xQ (O:aC) (base:Nat) (t0 t3 t4:D) (m:Mem):bg O [0,3,4] [3] gV base [t0,t3,t4] m=qL O base t0 t3 t4 m:=(aW ..).trans (by kernel_rfl)
noncomputable def mP (O:aC) (base:Nat) (t3:D) (m:Mem):Option (Ex×List D×Mem):=by
 refine (fun _:?a=bD O [3] [3] iI iI base [t3] m=>?a) ?h
 case h=>conv=>{rhs; conv=>{arg 5; delta iI}; reduce; try dsimp only [ak,ay,aF,aA]}
theorem xR (O:aC) (base:Nat) (t3:D) (m:Mem):bg O [3] [3] iI base [t3] m=mP O base t3 m:=(aW ..).trans (by kernel_rfl)
noncomputable def BF (O:aC) (t0:D) (m:Mem):RV:=by
 refine (fun _:?a=uZ.step3 O [t0] m=>?a) ?h
 case h=>conv=>{rhs; reduce; try dsimp only [ak,ay,aF,aA]}
theorem Jj (O:aC) (t0:D) (m:Mem):uZ.step2 O [t0] m=BF O t0 m:=(aJ ..).trans (by kernel_rfl)
noncomputable def vH (O:aC) (base:Nat) (t0 t3:D) (m:Mem):Option (Ex×List D×Mem):=by
 refine (fun _:?a=bD O [0,3] [3] je je base [t0,t3] m=>?a) ?h
 case h=>conv=>{rhs; conv=>{arg 5; delta je}; reduce; try dsimp only [ak,ay,aF,aA]}
theorem Au (O:aC) (base:Nat) (t0 t3:D) (m:Mem):bg O [0,3] [3] je base [t0,t3] m=vH O base t0 t3 m:=(aW ..).trans (by kernel_rfl)
noncomputable def F5 (O:aC) (t0:D) (m:Mem):RV:=by
 refine (fun _:?a=zI.step3 O [t0] m=>?a) ?h
 case h=>conv=>{rhs; reduce; try dsimp only [ak,ay,aF,aA]}
theorem OW (O:aC) (t0:D) (m:Mem):zI.step2 O [t0] m=F5 O t0 m:=(aJ ..).trans (by kernel_rfl)
noncomputable def IK (O:aC) (t0:D) (m:Mem):RV:=by
 refine (fun _:?a=AV.step3 O [t0] m=>?a) ?h
 case h=>conv=>{rhs; reduce; try dsimp only [ak,ay,aF,aA]}
theorem abq (O:aC) (t0:D) (m:Mem):AV.step2 O [t0] m=IK O t0 m:=(aJ ..).trans (by kernel_rfl)
noncomputable def Ec (O:aC) (t0:D) (m:Mem):RV:=by
 refine (fun _:?a=yI.step3 O [t0] m=>?a) ?h
 case h=>conv=>{rhs; reduce; try dsimp only [ak,ay,aF,aA]}
theorem YG (O:aC) (t0:D) (m:Mem):yI.step2 O [t0] m=Ec O t0 m:=(aJ ..).trans (by kernel_rfl)
noncomputable def BG (O:aC) (t0 t1:D) (m:Mem):RV:=by
 refine (fun _:?a=u_.step3 O [t0,t1] m=>?a) ?h
 case h=>conv=>{rhs; reduce; try dsimp only [ak,ay,aF,aA]}
theorem Wu (O:aC) (t0 t1:D) (m:Mem):u_.step2 O [t0,t1] m=BG O t0 t1 m:=(aJ ..).trans (by kernel_rfl)
noncomputable def CV (O:aC) (base:Nat) (t1 t4 t5:D) (m:Mem):Option (Ex×List D×Mem):=by
 refine (fun _:?a=bD O [1,4,5] [1,4] mZ mZ base [t1,t4,t5] m=>?a) ?h
 case h=>conv=>{rhs; conv=>{arg 5; delta mZ}; reduce; try dsimp only [ak,ay,aF,aA]}
theorem KF (O:aC) (base:Nat) (t1 t4 t5:D) (m:Mem):bg O [1,4,5] [1,4] mZ base [t1,t4,t5] m=CV O base t1 t4 t5 m:=(aW ..).trans (by kernel_rfl)
noncomputable def CW (O:aC) (base:Nat) (t1 t4 t6:D) (m:Mem):Option (Ex×List D×Mem):=by
 refine (fun _:?a=bD O [1,4,6] [1,4] m_ m_ base [t1,t4,t6] m=>?a) ?h
 case h=>conv=>{rhs; conv=>{arg 5; delta m_}; reduce; try dsimp only [ak,ay,aF,aA]}
theorem KG (O:aC) (base:Nat) (t1 t4 t6:D) (m:Mem):bg O [1,4,6] [1,4] m_ base [t1,t4,t6] m=CW O base t1 t4 t6 m:=(aW ..).trans (by kernel_rfl)
noncomputable def BH (O:aC) (t0:D) (m:Mem):RV:=by
 refine (fun _:?a=AX.step3 O [t0] m=>?a) ?h
 case h=>conv=>{rhs; reduce; try dsimp only [ak,ay,aF,aA]}
theorem Qm (O:aC) (t0:D) (m:Mem):AX.step2 O [t0] m=BH O t0 m:=(aJ ..).trans (by kernel_rfl)
noncomputable def yZ (O:aC) (base:Nat) (t1 t2 t6 t7 t10 t39 t40 t41:D) (m:Mem):Option (Ex×List D×Mem):=by
 refine (fun _:?a=bD O [1,2,6,7,10,39,40,41] [1,2,6,7,10] lQ lQ base [t1,t2,t6,t7,t10,t39,t40,t41] m=>?a) ?h
 case h=>conv=>{rhs; conv=>{arg 5; delta lQ}; reduce; try dsimp only [ak,ay,aF,aA]}
theorem Dw (O:aC) (base:Nat) (t1 t2 t6 t7 t10 t39 t40 t41:D) (m:Mem):bg O [1,2,6,7,10,39,40,41] [1,2,6,7,10] lQ base [t1,t2,t6,t7,t10,t39,t40,t41] m=yZ O base t1 t2 t6 t7 t10 t39 t40 t41 m:=(aW ..).trans (by kernel_rfl)
noncomputable def yY (O:aC) (t0 t1:D) (m:Mem):RV:=by
 refine (fun _:?a=Dl.step3 O [t0,t1] m=>?a) ?h
 case h=>conv=>{rhs; reduce; try dsimp only [ak,ay,aF,aA]}
theorem CY (O:aC) (t0 t1:D) (m:Mem):Dl.step2 O [t0,t1] m=yY O t0 t1 m:=(aJ ..).trans (by kernel_rfl)
noncomputable def adJ (O:aC) (t0:D) (m:Mem):RV:=by
 refine (fun _:?a=O5.step3 O [t0] m=>?a) ?h
 case h=>conv=>{rhs; reduce; try dsimp only [ak,ay,aF,aA]}
theorem amA (O:aC) (t0:D) (m:Mem):O5.step2 O [t0] m=adJ O t0 m:=(aJ ..).trans (by kernel_rfl)
noncomputable def aci (O:aC) (t0:D) (m:Mem):RV:=by
 refine (fun _:?a=WT.step3 O [t0] m=>?a) ?h
 case h=>conv=>{rhs; reduce; try dsimp only [ak,ay,aF,aA]}
theorem ap2 (O:aC) (t0:D) (m:Mem):WT.step2 O [t0] m=aci O t0 m:=(aJ ..).trans (by kernel_rfl)
noncomputable def OM (O:aC) (t0 t1:D) (m:Mem):RV:=by
 refine (fun _:?a=G7.step3 O [t0,t1] m=>?a) ?h
 case h=>conv=>{rhs; reduce; try dsimp only [ak,ay,aF,aA]}
theorem agO (O:aC) (t0 t1:D) (m:Mem):G7.step2 O [t0,t1] m=OM O t0 t1 m:=(aJ ..).trans (by kernel_rfl)
noncomputable def uy (O:aC) (t0 t1:D) (m:Mem):RV:=by
 refine (fun _:?a=GZ.step3 O [t0,t1] m=>?a) ?h
 case h=>conv=>{rhs; reduce; try dsimp only [ak,ay,aF,aA]}
theorem agL (O:aC) (t0 t1:D) (m:Mem):GZ.step2 O [t0,t1] m=uy O t0 t1 m:=(aJ ..).trans (by kernel_rfl)
noncomputable def zN (O:aC) (base:Nat) (t1 t2 t8 t9 t10 t11 t12:D) (m:Mem):Option (Ex×List D×Mem):=by
 refine (fun _:?a=bD O [1,2,8,9,10,11,12] [9,10,11] iY iY base [t1,t2,t8,t9,t10,t11,t12] m=>?a) ?h
 case h=>conv=>{rhs; conv=>{arg 5; delta iY}; reduce; try dsimp only [ak,ay,aF,aA]}
theorem FQ (O:aC) (base:Nat) (t1 t2 t8 t9 t10 t11 t12:D) (m:Mem):bg O [1,2,8,9,10,11,12] [9,10,11] iY base [t1,t2,t8,t9,t10,t11,t12] m=zN O base t1 t2 t8 t9 t10 t11 t12 m:=(aW ..).trans (by kernel_rfl)
noncomputable def V_ (O:aC) (t0 t1 t2:D) (m:Mem):RV:=by
 refine (fun _:?a=EN.step3 O [t0,t1,t2] m=>?a) ?h
 case h=>conv=>{rhs; reduce; try dsimp only [ak,ay,aF,aA]}
theorem aea (O:aC) (t0 t1 t2:D) (m:Mem):EN.step2 O [t0,t1,t2] m=V_ O t0 t1 t2 m:=(aJ ..).trans (by kernel_rfl)
noncomputable def Yb (O:aC) (t0:D) (m:Mem):RV:=by
 refine (fun _:?a=Ho.step3 O [t0] m=>?a) ?h
 case h=>conv=>{rhs; reduce; try dsimp only [ak,ay,aF,aA]}
theorem agU (O:aC) (t0:D) (m:Mem):Ho.step2 O [t0] m=Yb O t0 m:=(aJ ..).trans (by kernel_rfl)
noncomputable def Yd (O:aC) (t0:D) (m:Mem):RV:=by
 refine (fun _:?a=Ht.step3 O [t0] m=>?a) ?h
 case h=>conv=>{rhs; reduce; try dsimp only [ak,ay,aF,aA]}
theorem agW (O:aC) (t0:D) (m:Mem):Ht.step2 O [t0] m=Yd O t0 m:=(aJ ..).trans (by kernel_rfl)
noncomputable def Fg (O:aC) (t0:D) (m:Mem):RV:=by
 refine (fun _:?a=EI.step3 O [t0] m=>?a) ?h
 case h=>conv=>{rhs; reduce; try dsimp only [ak,ay,aF,aA]}
theorem ad6 (O:aC) (t0:D) (m:Mem):EI.step2 O [t0] m=Fg O t0 m:=(aJ ..).trans (by kernel_rfl)
noncomputable def UH (O:aC) (t0 t1:D) (m:Mem):RV:=by
 refine (fun _:?a=Uf.step3 O [t0,t1] m=>?a) ?h
 case h=>conv=>{rhs; reduce; try dsimp only [ak,ay,aF,aA]}
theorem afg (O:aC) (t0 t1:D) (m:Mem):Uf.step2 O [t0,t1] m=UH O t0 t1 m:=(aJ ..).trans (by kernel_rfl)
noncomputable def X8 (O:aC) (t0 t1:D) (m:Mem):RV:=by
 refine (fun _:?a=G5.step3 O [t0,t1] m=>?a) ?h
 case h=>conv=>{rhs; reduce; try dsimp only [ak,ay,aF,aA]}
theorem agM (O:aC) (t0 t1:D) (m:Mem):G5.step2 O [t0,t1] m=X8 O t0 t1 m:=(aJ ..).trans (by kernel_rfl)
noncomputable def adO (O:aC) (t0 t1:D) (m:Mem):RV:=by
 refine (fun _:?a=Ph.step3 O [t0,t1] m=>?a) ?h
 case h=>conv=>{rhs; reduce; try dsimp only [ak,ay,aF,aA]}
theorem amG (O:aC) (t0 t1:D) (m:Mem):Ph.step2 O [t0,t1] m=adO O t0 t1 m:=(aJ ..).trans (by kernel_rfl)
noncomputable def OO (O:aC) (t0:D) (m:Mem):RV:=by
 refine (fun _:?a=G8.step3 O [t0] m=>?a) ?h
 case h=>conv=>{rhs; reduce; try dsimp only [ak,ay,aF,aA]}
theorem agP (O:aC) (t0:D) (m:Mem):G8.step2 O [t0] m=OO O t0 m:=(aJ ..).trans (by kernel_rfl)
noncomputable def Oh (O:aC) (t0:D) (m:Mem):RV:=by
 refine (fun _:?a=yK.step3 O [t0] m=>?a) ?h
 case h=>conv=>{rhs; reduce; try dsimp only [ak,ay,aF,aA]}
theorem YI (O:aC) (t0:D) (m:Mem):yK.step2 O [t0] m=Oh O t0 m:=(aJ ..).trans (by kernel_rfl)
noncomputable def IL (O:aC) (base:Nat) (t0 t1 t2 t8 t21 t22 t23:D) (m:Mem):Option (Ex×List D×Mem):=by
 refine (fun _:?a=bD O [0,1,2,8,21,22,23] [0,1,2,8] ru ru base [t0,t1,t2,t8,t21,t22,t23] m=>?a) ?h
 case h=>conv=>{rhs; conv=>{arg 5; delta ru}; reduce; try dsimp only [ak,ay,aF,aA]}
theorem Qn (O:aC) (base:Nat) (t0 t1 t2 t8 t21 t22 t23:D) (m:Mem):bg O [0,1,2,8,21,22,23] [0,1,2,8] ru base [t0,t1,t2,t8,t21,t22,t23] m=IL O base t0 t1 t2 t8 t21 t22 t23 m:=(aW ..).trans (by kernel_rfl)
noncomputable def IQ (O:aC) (base:Nat) (t0 t1 t2 t8 t13 t14 t15 t16:D) (m:Mem):Option (Ex×List D×Mem):=by
 refine (fun _:?a=bD O [0,1,2,8,13,14,15,16] [13,14] kS kS base [t0,t1,t2,t8,t13,t14,t15,t16] m=>?a) ?h
 case h=>conv=>{rhs; conv=>{arg 5; delta kS}; reduce; try dsimp only [ak,ay,aF,aA]}
theorem Qo (O:aC) (base:Nat) (t0 t1 t2 t8 t13 t14 t15 t16:D) (m:Mem):bg O [0,1,2,8,13,14,15,16] [13,14] kS base [t0,t1,t2,t8,t13,t14,t15,t16] m=IQ O base t0 t1 t2 t8 t13 t14 t15 t16 m:=(aW ..).trans (by kernel_rfl)
noncomputable def Yf (O:aC) (t0 t1 t2:D) (m:Mem):RV:=by
 refine (fun _:?a=Hw.step3 O [t0,t1,t2] m=>?a) ?h
 case h=>conv=>{rhs; reduce; try dsimp only [ak,ay,aF,aA]}
theorem agY (O:aC) (t0 t1 t2:D) (m:Mem):Hw.step2 O [t0,t1,t2] m=Yf O t0 t1 t2 m:=(aJ ..).trans (by kernel_rfl)
noncomputable def zO (O:aC) (base:Nat) (t1 t2 t5 t9 t10 t34 t35 t36:D) (m:Mem):Option (Ex×List D×Mem):=by
 refine (fun _:?a=bD O [1,2,5,9,10,34,35,36] [1,2,5,9,10] nJ nJ base [t1,t2,t5,t9,t10,t34,t35,t36] m=>?a) ?h
 case h=>conv=>{rhs; conv=>{arg 5; delta nJ}; reduce; try dsimp only [ak,ay,aF,aA]}
theorem FT (O:aC) (base:Nat) (t1 t2 t5 t9 t10 t34 t35 t36:D) (m:Mem):bg O [1,2,5,9,10,34,35,36] [1,2,5,9,10] nJ base [t1,t2,t5,t9,t10,t34,t35,t36] m=zO O base t1 t2 t5 t9 t10 t34 t35 t36 m:=(aW ..).trans (by kernel_rfl)
noncomputable def MK (O:aC) (t0 t1:D) (m:Mem):RV:=by
 refine (fun _:?a=ET.step3 O [t0,t1] m=>?a) ?h
 case h=>conv=>{rhs; reduce; try dsimp only [ak,ay,aF,aA]}
theorem Vt (O:aC) (t0 t1:D) (m:Mem):ET.step2 O [t0,t1] m=MK O t0 t1 m:=(aJ ..).trans (by kernel_rfl)
noncomputable def Yc (O:aC) (t0 t1:D) (m:Mem):RV:=by
 refine (fun _:?a=Hr.step3 O [t0,t1] m=>?a) ?h
 case h=>conv=>{rhs; reduce; try dsimp only [ak,ay,aF,aA]}
theorem agV (O:aC) (t0 t1:D) (m:Mem):Hr.step2 O [t0,t1] m=Yc O t0 t1 m:=(aJ ..).trans (by kernel_rfl)
noncomputable def agf (O:aC) (t0 t1:D) (m:Mem):RV:=by
 refine (fun _:?a=Ug.step3 O [t0,t1] m=>?a) ?h
 case h=>conv=>{rhs; reduce; try dsimp only [ak,ay,aF,aA]}
theorem an6 (O:aC) (t0 t1:D) (m:Mem):Ug.step2 O [t0,t1] m=agf O t0 t1 m:=(aJ ..).trans (by kernel_rfl)
noncomputable def MI (O:aC) (t0:D) (m:Mem):RV:=by
 refine (fun _:?a=EJ.step3 O [t0] m=>?a) ?h
 case h=>conv=>{rhs; reduce; try dsimp only [ak,ay,aF,aA]}
theorem ad7 (O:aC) (t0:D) (m:Mem):EJ.step2 O [t0] m=MI O t0 m:=(aJ ..).trans (by kernel_rfl)
noncomputable def Ag (O:aC) (t0 t1:D) (m:Mem):RV:=by
 refine (fun _:?a=sZ.step3 O [t0,t1] m=>?a) ?h
 case h=>conv=>{rhs; reduce; try dsimp only [ak,ay,aF,aA]}
theorem Vr (O:aC) (t0 t1:D) (m:Mem):sZ.step2 O [t0,t1] m=Ag O t0 t1 m:=(aJ ..).trans (by kernel_rfl)
noncomputable def uS (O:aC) (base:Nat) (t1 t5 t6:D) (m:Mem):Option (Ex×List D×Mem):=by
 refine (fun _:?a=bD O [1,5,6] [2,3,4] nG nG base [t1,t5,t6] m=>?a) ?h
 case h=>conv=>{rhs; conv=>{arg 5; delta nG}; reduce; try dsimp only [ak,ay,aF,aA]}
theorem FN (O:aC) (base:Nat) (t1 t5 t6:D) (m:Mem):bg O [1,5,6] [2,3,4] nG base [t1,t5,t6] m=uS O base t1 t5 t6 m:=(aW ..).trans (by kernel_rfl)
noncomputable def V8 (O:aC) (t0:D) (m:Mem):RV:=by
 refine (fun _:?a=EL.step3 O [t0] m=>?a) ?h
 case h=>conv=>{rhs; reduce; try dsimp only [ak,ay,aF,aA]}
theorem ad9 (O:aC) (t0:D) (m:Mem):EL.step2 O [t0] m=V8 O t0 m:=(aJ ..).trans (by kernel_rfl)
noncomputable def x9 (O:aC) (base:Nat) (t0 t2 t3:D) (m:Mem):Option (Ex×List D×Mem):=by
 refine (fun _:?a=bD O [0,2,3] [] gW gW base [t0,t2,t3] m=>?a) ?h
 case h=>conv=>{rhs; conv=>{arg 5; delta gW}; reduce; try dsimp only [ak,ay,aF,aA]}
theorem Fz (O:aC) (base:Nat) (t0 t2 t3:D) (m:Mem):bg O [0,2,3] [] gW base [t0,t2,t3] m=x9 O base t0 t2 t3 m:=(aW ..).trans (by kernel_rfl)
noncomputable def KA (O:aC) (t0:D) (m:Mem):RV:=by
 refine (fun _:?a=vg.step3 O [t0] m=>?a) ?h
 case h=>conv=>{rhs; reduce; try dsimp only [ak,ay,aF,aA]}
theorem Wv (O:aC) (t0:D) (m:Mem):vg.step2 O [t0] m=KA O t0 m:=(aJ ..).trans (by kernel_rfl)
noncomputable def abh (O:aC) (t0 t1:D) (m:Mem):RV:=by
 refine (fun _:?a=Na.step3 O [t0,t1] m=>?a) ?h
 case h=>conv=>{rhs; reduce; try dsimp only [ak,ay,aF,aA]}
theorem akq (O:aC) (t0 t1:D) (m:Mem):Na.step2 O [t0,t1] m=abh O t0 t1 m:=(aJ ..).trans (by kernel_rfl)
noncomputable def jY (O:aC) (t0:D) (m:Mem):RV:=by
 refine (fun _:?a=TS.step3 O [t0] m=>?a) ?h
 case h=>conv=>{rhs; reduce; try dsimp only [ak,ay,aF,aA]}
theorem afb (O:aC) (t0:D) (m:Mem):TS.step2 O [t0] m=jY O t0 m:=(aJ ..).trans (by kernel_rfl)
noncomputable def Dt (O:aC) (base:Nat) (t1 t2 t3 t8 t9:D) (m:Mem):Option (Ex×List D×Mem):=by
 refine (fun _:?a=bD O [1,2,3,8,9] [6,7,8] uD uD base [t1,t2,t3,t8,t9] m=>?a) ?h
 case h=>conv=>{rhs; conv=>{arg 5; delta uD}; reduce; try dsimp only [ak,ay,aF,aA]}
theorem Jl (O:aC) (base:Nat) (t1 t2 t3 t8 t9:D) (m:Mem):bg O [1,2,3,8,9] [6,7,8] uD base [t1,t2,t3,t8,t9] m=Dt O base t1 t2 t3 t8 t9 m:=(aW ..).trans (by kernel_rfl)
noncomputable def Ed (O:aC) (t0 t1 t2:D) (m:Mem):RV:=by
 refine (fun _:?a=JI.step3 O [t0,t1,t2] m=>?a) ?h
 case h=>conv=>{rhs; reduce; try dsimp only [ak,ay,aF,aA]}
theorem Jk (O:aC) (t0 t1 t2:D) (m:Mem):JI.step2 O [t0,t1,t2] m=Ed O t0 t1 t2 m:=(aJ ..).trans (by kernel_rfl)
noncomputable def V6 (O:aC) (t0:D) (m:Mem):RV:=by
 refine (fun _:?a=ED.step3 O [t0] m=>?a) ?h
 case h=>conv=>{rhs; reduce; try dsimp only [ak,ay,aF,aA]}
theorem ad3 (O:aC) (t0:D) (m:Mem):ED.step2 O [t0] m=V6 O t0 m:=(aJ ..).trans (by kernel_rfl)
noncomputable def PN (O:aC) (t0 t1:D) (m:Mem):RV:=by
 refine (fun _:?a=O6.step3 O [t0,t1] m=>?a) ?h
 case h=>conv=>{rhs; reduce; try dsimp only [ak,ay,aF,aA]}
theorem amB (O:aC) (t0 t1:D) (m:Mem):O6.step2 O [t0,t1] m=PN O t0 t1 m:=(aJ ..).trans (by kernel_rfl)
noncomputable def OD (O:aC) (t0:D) (m:Mem):RV:=by
 refine (fun _:?a=Gw.step3 O [t0] m=>?a) ?h
 case h=>conv=>{rhs; reduce; try dsimp only [ak,ay,aF,aA]}
theorem agy (O:aC) (t0:D) (m:Mem):Gw.step2 O [t0] m=OD O t0 m:=(aJ ..).trans (by kernel_rfl)
noncomputable def H8 (O:aC) (t0 t1:D) (m:Mem):RV:=by
 refine (fun _:?a=Gt.step3 O [t0,t1] m=>?a) ?h
 case h=>conv=>{rhs; reduce; try dsimp only [ak,ay,aF,aA]}
theorem Ol (O:aC) (t0 t1:D) (m:Mem):Gt.step2 O [t0,t1] m=H8 O t0 t1 m:=(aJ ..).trans (by kernel_rfl)
noncomputable def NJ (O:aC) (t0 t1 t2:D) (m:Mem):RV:=by
 refine (fun _:?a=MV.step3 O [t0,t1,t2] m=>?a) ?h
 case h=>conv=>{rhs; reduce; try dsimp only [ak,ay,aF,aA]}
theorem aaM (O:aC) (t0 t1 t2:D) (m:Mem):MV.step2 O [t0,t1,t2] m=NJ O t0 t1 t2 m:=(aJ ..).trans (by kernel_rfl)
noncomputable def Oc (O:aC) (t0 t1:D) (m:Mem):RV:=by
 refine (fun _:?a=TL.step3 O [t0,t1] m=>?a) ?h
 case h=>conv=>{rhs; reduce; try dsimp only [ak,ay,aF,aA]}
theorem Yw (O:aC) (t0 t1:D) (m:Mem):TL.step2 O [t0,t1] m=Oc O t0 t1 m:=(aJ ..).trans (by kernel_rfl)
noncomputable def Ky (O:aC) (t0 t1:D) (m:Mem):RV:=by
 refine (fun _:?a=JG.step3 O [t0,t1] m=>?a) ?h
 case h=>conv=>{rhs; reduce; try dsimp only [ak,ay,aF,aA]}
theorem Qk (O:aC) (t0 t1:D) (m:Mem):JG.step2 O [t0,t1] m=Ky O t0 t1 m:=(aJ ..).trans (by kernel_rfl)
noncomputable def MB (O:aC) (base:Nat) (t2 t3 t4 t14 t77 t78 t79:D) (m:Mem):Option (Ex×List D×Mem):=by
 refine (fun _:?a=bD O [2,3,4,14,77,78,79] [14] wS wS base [t2,t3,t4,t14,t77,t78,t79] m=>?a) ?h
 case h=>conv=>{rhs; conv=>{arg 5; delta wS}; reduce; try dsimp only [ak,ay,aF,aA]}
theorem Vm (O:aC) (base:Nat) (t2 t3 t4 t14 t77 t78 t79:D) (m:Mem):bg O [2,3,4,14,77,78,79] [14] wS base [t2,t3,t4,t14,t77,t78,t79] m=MB O base t2 t3 t4 t14 t77 t78 t79 m:=(aW ..).trans (by kernel_rfl)
noncomputable def pF (O:aC) (t0 t1 t2 t3:D) (m:Mem):RV:=by
 refine (fun _:?a=Nc.step3 O [t0,t1,t2,t3] m=>?a) ?h
 case h=>conv=>{rhs; reduce; try dsimp only [ak,ay,aF,aA]}
theorem UL (O:aC) (t0 t1 t2 t3:D) (m:Mem):Nc.step2 O [t0,t1,t2,t3] m=pF O t0 t1 t2 t3 m:=(aJ ..).trans (by kernel_rfl)
noncomputable def OU (O:aC) (t0 t1:D) (m:Mem):RV:=by
 refine (fun _:?a=Hq.step3 O [t0,t1] m=>?a) ?h
 case h=>conv=>{rhs; reduce; try dsimp only [ak,ay,aF,aA]}
theorem XK (O:aC) (t0 t1:D) (m:Mem):Hq.step2 O [t0,t1] m=OU O t0 t1 m:=(aJ ..).trans (by kernel_rfl)
noncomputable def abl (O:aC) (m:Mem):RV:=by
 refine (fun _:?a=Nu.step3 O [] m=>?a) ?h
 case h=>conv=>{rhs; reduce; try dsimp only [ak,ay,aF,aA]}
theorem akw (O:aC) (m:Mem):Nu.step2 O [] m=abl O m:=(aJ ..).trans (by kernel_rfl)
noncomputable def Fh (O:aC) (t0 t1:D) (m:Mem):RV:=by
 refine (fun _:?a=EK.step3 O [t0,t1] m=>?a) ?h
 case h=>conv=>{rhs; reduce; try dsimp only [ak,ay,aF,aA]}
theorem ad8 (O:aC) (t0 t1:D) (m:Mem):EK.step2 O [t0,t1] m=Fh O t0 t1 m:=(aJ ..).trans (by kernel_rfl)
noncomputable def ajV (O:aC) (t0 t1:D) (m:Mem):RV:=by
 refine (fun _:?a=WU.step3 O [t0,t1] m=>?a) ?h
 case h=>conv=>{rhs; reduce; try dsimp only [ak,ay,aF,aA]}
theorem ap3 (O:aC) (t0 t1:D) (m:Mem):WU.step2 O [t0,t1] m=ajV O t0 t1 m:=(aJ ..).trans (by kernel_rfl)
noncomputable def zA (O:aC) (t0:D) (m:Mem):RV:=by
 refine (fun _:?a=MW.step3 O [t0] m=>?a) ?h
 case h=>conv=>{rhs; reduce; try dsimp only [ak,ay,aF,aA]}
theorem akm (O:aC) (t0:D) (m:Mem):MW.step2 O [t0] m=zA O t0 m:=(aJ ..).trans (by kernel_rfl)
noncomputable def o_ (O:aC) (t0:D) (m:Mem):RV:=by
 refine (fun _:?a=MX.step3 O [t0] m=>?a) ?h
 case h=>conv=>{rhs; reduce; try dsimp only [ak,ay,aF,aA]}
theorem akn (O:aC) (t0:D) (m:Mem):MX.step2 O [t0] m=o_ O t0 m:=(aJ ..).trans (by kernel_rfl)
noncomputable def U9 (O:aC) (t0:D) (m:Mem):RV:=by
 refine (fun _:?a=MZ.step3 O [t0] m=>?a) ?h
 case h=>conv=>{rhs; reduce; try dsimp only [ak,ay,aF,aA]}
theorem ako (O:aC) (t0:D) (m:Mem):MZ.step2 O [t0] m=U9 O t0 m:=(aJ ..).trans (by kernel_rfl)
end Go.Ev.Code
end
section
namespace Go.Ev.Code
open Go Go.Ev
set_option maxRecDepth 100000
attribute [local irreducible] Xi Zu bd jn VH MQ gc gop KC Oj KO fz jE hdI tlI List.length List.append Dv ZG PG Zz N9 BP Oa J6 Ea N_ ZA Uw J8 gq tK E8 ZC U7 U6 ZB ab_ ace ZH acf ZI Ux Uz PD ZJ Rq Px H6 D_ Py ZF ZE Uy J5 rMn rMx Xu yT uI J4 Xv PE J7 NG PI ND Pz acd
attribute [local irreducible] jL jJ jM d_ kV iL jc iQ j_ dY iC iT jT jU jo iM oq fE lS jB jR nN BK zZ Em vC uO mg kJ lX lW Ci jd nI qZ oC fA mF uo dG jI bW iy xq dD dO dK oL o8 xw o9 kD zy xA jq L9 jH kX xg slices_Reverse_int gY wF vI sJ uj oW vN Dx Ej yS vT nU D8 lN lC uP DC DF yG kG sV rH gK yP lT Je iH iW bV jm ji kQ nR xk fQ oZ jl rX rW jF kY rY strings_CutPrefix strings_Cut lV nM jr I7 Ak zk uU pO wE gU oI yj Ep Ry qO uM DJ wM fD VL vk Ie LU gI dI bits_Mul64 bits_Add64 nS bits_Sub64 yL yN Iw iG dW gQ strings_Repeat slices_Reverse_string strings_Join iO rQ wO AL Bl jg rJ IZ Am iF IX Ij jZ IY DL wu Fb uN zh Bd Cc nat_bit D5 uT bits_LeadingZeros64 Bc DZ D6 DY DI lD lY pV QM DN NT NU uJ DX strconv_Itoa bits_TrailingZeros64 KQ Js I8 BO uK ql BN JJ vS I9 uh I_ pY zV iU kT eU kZ jQ BJ hndB fH qU qV oJ qW pR nH lu rP wR iE AO t_ uf Az AA yE ac_ o7 qX qm wX rU zn zo fJ oK qo V5 vX yM vW qc qg vV sO wY wW Ah FM
noncomputable def UF (O:aC) (t0 t1:D) (m:Mem):RV:=by
 refine (fun _:?a=Dj.step3 O [t0,t1] m=>?a) ?h
 case h=>conv=>{rhs; reduce; try dsimp only [ak,ay,aF,aA]}
theorem acz (O:aC) (t0 t1:D) (m:Mem):Dj.step2 O [t0,t1] m=UF O t0 t1 m:=(aJ ..).trans (by kernel_rfl)
noncomputable def af_ (O:aC) (t0:D) (m:Mem):RV:=by
 refine (fun _:?a=TN.step3 O [t0] m=>?a) ?h
 case h=>conv=>{rhs; reduce; try dsimp only [ak,ay,aF,aA]}
theorem anY (O:aC) (t0:D) (m:Mem):TN.step2 O [t0] m=af_ O t0 m:=(aJ ..).trans (by kernel_rfl)
noncomputable def RF (O:aC) (t0:D) (m:Mem):RV:=by
 refine (fun _:?a=Jv.step3 O [t0] m=>?a) ?h
 case h=>conv=>{rhs; reduce; try dsimp only [ak,ay,aF,aA]}
theorem ah9 (O:aC) (t0:D) (m:Mem):Jv.step2 O [t0] m=RF O t0 m:=(aJ ..).trans (by kernel_rfl)
noncomputable def kE (O:aC) (base:Nat) (t0 t1 t7 t8:D) (m:Mem):Option (Ex×List D×Mem):=by
 refine (fun _:?a=bD O [0,1,7,8] [4] fH fH base [t0,t1,t7,t8] m=>?a) ?h
 case h=>conv=>{rhs; conv=>{arg 5; delta fH}; reduce; try dsimp only [ak,ay,aF,aA]}
theorem wL (O:aC) (base:Nat) (t0 t1 t7 t8:D) (m:Mem):bg O [0,1,7,8] [4] fH base [t0,t1,t7,t8] m=kE O base t0 t1 t7 t8 m:=(aW ..).trans (by kernel_rfl)
noncomputable def qA (O:aC) (t0 t1:D) (m:Mem):RV:=by
 refine (fun _:?a=lI.step3 O [t0,t1] m=>?a) ?h
 case h=>conv=>{rhs; reduce; try dsimp only [ak,ay,aF,aA]}
theorem KD (O:aC) (t0 t1:D) (m:Mem):lI.step2 O [t0,t1] m=qA O t0 t1 m:=(aJ ..).trans (by kernel_rfl)
noncomputable def Vd (O:aC) (t0 t1:D) (m:Mem):RV:=by
 refine (fun _:?a=Ns.step3 O [t0,t1] m=>?a) ?h
 case h=>conv=>{rhs; reduce; try dsimp only [ak,ay,aF,aA]}
theorem akv (O:aC) (t0 t1:D) (m:Mem):Ns.step2 O [t0,t1] m=Vd O t0 t1 m:=(aJ ..).trans (by kernel_rfl)
noncomputable def y7 (O:aC) (t0:D) (m:Mem):RV:=by
 refine (fun _:?a=yJ.step3 O [t0] m=>?a) ?h
 case h=>conv=>{rhs; reduce; try dsimp only [ak,ay,aF,aA]}
theorem YH (O:aC) (t0:D) (m:Mem):yJ.step2 O [t0] m=y7 O t0 m:=(aJ ..).trans (by kernel_rfl)
noncomputable def ZR (O:aC) (t0:D) (m:Mem):RV:=by
 refine (fun _:?a=Ue.step3 O [t0] m=>?a) ?h
 case h=>conv=>{rhs; reduce; try dsimp only [ak,ay,aF,aA]}
theorem aff (O:aC) (t0:D) (m:Mem):Ue.step2 O [t0] m=ZR O t0 m:=(aJ ..).trans (by kernel_rfl)
noncomputable def UG (O:aC) (t0 t1:D) (m:Mem):RV:=by
 refine (fun _:?a=Ub.step3 O [t0,t1] m=>?a) ?h
 case h=>conv=>{rhs; reduce; try dsimp only [ak,ay,aF,aA]}
theorem an4 (O:aC) (t0 t1:D) (m:Mem):Ub.step2 O [t0,t1] m=UG O t0 t1 m:=(aJ ..).trans (by kernel_rfl)
noncomputable def ajU (O:aC) (t0:D) (m:Mem):RV:=by
 refine (fun _:?a=WS.step3 O [t0] m=>?a) ?h
 case h=>conv=>{rhs; reduce; try dsimp only [ak,ay,aF,aA]}
theorem ap1 (O:aC) (t0:D) (m:Mem):WS.step2 O [t0] m=ajU O t0 m:=(aJ ..).trans (by kernel_rfl)
noncomputable def X7 (O:aC) (t0:D) (m:Mem):RV:=by
 refine (fun _:?a=GY.step3 O [t0] m=>?a) ?h
 case h=>conv=>{rhs; reduce; try dsimp only [ak,ay,aF,aA]}
theorem agK (O:aC) (t0:D) (m:Mem):GY.step2 O [t0] m=X7 O t0 m:=(aJ ..).trans (by kernel_rfl)
noncomputable def IG (O:aC) (base:Nat) (t6 t7 t8 t9 t10 t26 t27 t28 t33 t34 t35:D) (m:Mem):Option (Ex×List D×Mem):=by
 refine (fun _:?a=bD O [6,7,8,9,10,26,27,28,33,34,35] [6,7,8,10,26,27,28] qU qU base [t6,t7,t8,t9,t10,t26,t27,t28,t33,t34,t35] m=>?a) ?h
 case h=>conv=>{rhs; conv=>{arg 5; delta qU}; reduce; try dsimp only [ak,ay,aF,aA]}
theorem Qd (O:aC) (base:Nat) (t6 t7 t8 t9 t10 t26 t27 t28 t33 t34 t35:D) (m:Mem):bg O [6,7,8,9,10,26,27,28,33,34,35] [6,7,8,10,26,27,28] qU base [t6,t7,t8,t9,t10,t26,t27,t28,t33,t34,t35] m=IG O base t6 t7 t8 t9 t10 t26 t27 t28 t33 t34 t35 m:=(aW ..).trans (by kernel_rfl)
noncomputable def II (O:aC) (base:Nat) (t6 t7 t26 t27 t28:D) (m:Mem):Option (Ex×List D×Mem):=by
 refine (fun _:?a=bD O [6,7,26,27,28] [7] qV qV base [t6,t7,t26,t27,t28] m=>?a) ?h
 case h=>conv=>{rhs; conv=>{arg 5; delta qV}; reduce; try dsimp only [ak,ay,aF,aA]}
theorem Qe (O:aC) (base:Nat) (t6 t7 t26 t27 t28:D) (m:Mem):bg O [6,7,26,27,28] [7] qV base [t6,t7,t26,t27,t28] m=II O base t6 t7 t26 t27 t28 m:=(aW ..).trans (by kernel_rfl)
noncomputable def X4 (O:aC) (t0 t1:D) (m:Mem):RV:=by
 refine (fun _:?a=GR.step3 O [t0,t1] m=>?a) ?h
 case h=>conv=>{rhs; reduce; try dsimp only [ak,ay,aF,aA]}
theorem agG (O:aC) (t0 t1:D) (m:Mem):GR.step2 O [t0,t1] m=X4 O t0 t1 m:=(aJ ..).trans (by kernel_rfl)
noncomputable def Bz (O:aC) (base:Nat) (t5 t6 t7 t8 t27 t28:D) (m:Mem):Option (Ex×List D×Mem):=by
 refine (fun _:?a=bD O [5,6,7,8,27,28] [5,7,8] oJ oJ base [t5,t6,t7,t8,t27,t28] m=>?a) ?h
 case h=>conv=>{rhs; conv=>{arg 5; delta oJ}; reduce; try dsimp only [ak,ay,aF,aA]}
theorem Qc (O:aC) (base:Nat) (t5 t6 t7 t8 t27 t28:D) (m:Mem):bg O [5,6,7,8,27,28] [5,7,8] oJ base [t5,t6,t7,t8,t27,t28] m=Bz O base t5 t6 t7 t8 t27 t28 m:=(aW ..).trans (by kernel_rfl)
noncomputable def OG (O:aC) (t0 t1:D) (m:Mem):RV:=by
 refine (fun _:?a=GI.step3 O [t0,t1] m=>?a) ?h
 case h=>conv=>{rhs; reduce; try dsimp only [ak,ay,aF,aA]}
theorem agC (O:aC) (t0 t1:D) (m:Mem):GI.step2 O [t0,t1] m=OG O t0 t1 m:=(aJ ..).trans (by kernel_rfl)
noncomputable def XZ (O:aC) (t0 t1:D) (m:Mem):RV:=by
 refine (fun _:?a=GK.step3 O [t0,t1] m=>?a) ?h
 case h=>conv=>{rhs; reduce; try dsimp only [ak,ay,aF,aA]}
theorem agD (O:aC) (t0 t1:D) (m:Mem):GK.step2 O [t0,t1] m=XZ O t0 t1 m:=(aJ ..).trans (by kernel_rfl)
noncomputable def BA (O:aC) (base:Nat) (t6 t7 t8 t9 t25 t26:D) (m:Mem):Option (Ex×List D×Mem):=by
 refine (fun _:?a=bD O [6,7,8,9,25,26] [8] qW qW base [t6,t7,t8,t9,t25,t26] m=>?a) ?h
 case h=>conv=>{rhs; conv=>{arg 5; delta qW}; reduce; try dsimp only [ak,ay,aF,aA]}
theorem Qg (O:aC) (base:Nat) (t6 t7 t8 t9 t25 t26:D) (m:Mem):bg O [6,7,8,9,25,26] [8] qW base [t6,t7,t8,t9,t25,t26] m=BA O base t6 t7 t8 t9 t25 t26 m:=(aW ..).trans (by kernel_rfl)
noncomputable def X6 (O:aC) (t0 t1:D) (m:Mem):RV:=by
 refine (fun _:?a=GV.step3 O [t0,t1] m=>?a) ?h
 case h=>conv=>{rhs; reduce; try dsimp only [ak,ay,aF,aA]}
theorem agI (O:aC) (t0 t1:D) (m:Mem):GV.step2 O [t0,t1] m=X6 O t0 t1 m:=(aJ ..).trans (by kernel_rfl)
noncomputable def FY (O:aC) (base:Nat) (t0 t4 t18 t19 t20:D) (m:Mem):Option (Ex×List D×Mem):=by
 refine (fun _:?a=bD O [0,4,18,19,20] [0,4] pR pR base [t0,t4,t18,t19,t20] m=>?a) ?h
 case h=>conv=>{rhs; conv=>{arg 5; delta pR}; reduce; try dsimp only [ak,ay,aF,aA]}
theorem OV (O:aC) (base:Nat) (t0 t4 t18 t19 t20:D) (m:Mem):bg O [0,4,18,19,20] [0,4] pR base [t0,t4,t18,t19,t20] m=FY O base t0 t4 t18 t19 t20 m:=(aW ..).trans (by kernel_rfl)
noncomputable def zM (O:aC) (base:Nat) (t4 t11 t43 t44 t45:D) (m:Mem):Option (Ex×List D×Mem):=by
 refine (fun _:?a=bD O [4,11,43,44,45] [4,11] nH nH base [t4,t11,t43,t44,t45] m=>?a) ?h
 case h=>conv=>{rhs; conv=>{arg 5; delta nH}; reduce; try dsimp only [ak,ay,aF,aA]}
theorem FP (O:aC) (base:Nat) (t4 t11 t43 t44 t45:D) (m:Mem):bg O [4,11,43,44,45] [4,11] nH base [t4,t11,t43,t44,t45] m=zM O base t4 t11 t43 t44 t45 m:=(aW ..).trans (by kernel_rfl)
noncomputable def V9 (O:aC) (t0:D) (m:Mem):RV:=by
 refine (fun _:?a=EM.step3 O [t0] m=>?a) ?h
 case h=>conv=>{rhs; reduce; try dsimp only [ak,ay,aF,aA]}
theorem ad_ (O:aC) (t0:D) (m:Mem):EM.step2 O [t0] m=V9 O t0 m:=(aJ ..).trans (by kernel_rfl)
noncomputable def V7 (O:aC) (t0:D) (m:Mem):RV:=by
 refine (fun _:?a=EH.step3 O [t0] m=>?a) ?h
 case h=>conv=>{rhs; reduce; try dsimp only [ak,ay,aF,aA]}
theorem ad5 (O:aC) (t0:D) (m:Mem):EH.step2 O [t0] m=V7 O t0 m:=(aJ ..).trans (by kernel_rfl)
noncomputable def uq (O:aC) (t0 t1:D) (m:Mem):RV:=by
 refine (fun _:?a=GN.step3 O [t0,t1] m=>?a) ?h
 case h=>conv=>{rhs; reduce; try dsimp only [ak,ay,aF,aA]}
theorem agF (O:aC) (t0 t1:D) (m:Mem):GN.step2 O [t0,t1] m=uq O t0 t1 m:=(aJ ..).trans (by kernel_rfl)
noncomputable def H_ (O:aC) (t0 t1:D) (m:Mem):RV:=by
 refine (fun _:?a=GL.step3 O [t0,t1] m=>?a) ?h
 case h=>conv=>{rhs; reduce; try dsimp only [ak,ay,aF,aA]}
theorem agE (O:aC) (t0 t1:D) (m:Mem):GL.step2 O [t0,t1] m=H_ O t0 t1 m:=(aJ ..).trans (by kernel_rfl)
noncomputable def X_ (O:aC) (t0 t1:D) (m:Mem):RV:=by
 refine (fun _:?a=G9.step3 O [t0,t1] m=>?a) ?h
 case h=>conv=>{rhs; reduce; try dsimp only [ak,ay,aF,aA]}
theorem agQ (O:aC) (t0 t1:D) (m:Mem):G9.step2 O [t0,t1] m=X_ O t0 t1 m:=(aJ ..).trans (by kernel_rfl)
noncomputable def X9 (O:aC) (t0 t1:D) (m:Mem):RV:=by
 refine (fun _:?a=G6.step3 O [t0,t1] m=>?a) ?h
 case h=>conv=>{rhs; reduce; try dsimp only [ak,ay,aF,aA]}
theorem agN (O:aC) (t0 t1:D) (m:Mem):G6.step2 O [t0,t1] m=X9 O t0 t1 m:=(aJ ..).trans (by kernel_rfl)
noncomputable def kW (O:aC) (base:Nat) (t3 t4:D) (m:Mem):Option (Ex×List D×Mem):=by
 refine (fun _:?a=bD O [3,4] [3] lu lu base [t3,t4] m=>?a) ?h
 case h=>conv=>{rhs; conv=>{arg 5; delta lu}; reduce; try dsimp only [ak,ay,aF,aA]}
theorem uF (O:aC) (base:Nat) (t3 t4:D) (m:Mem):bg O [3,4] [3] lu base [t3,t4] m=kW O base t3 t4 m:=(aW ..).trans (by kernel_rfl)
noncomputable def MC (O:aC) (t0:D) (m:Mem):RV:=by
 refine (fun _:?a=EG.step3 O [t0] m=>?a) ?h
 case h=>conv=>{rhs; reduce; try dsimp only [ak,ay,aF,aA]}
theorem ad4 (O:aC) (t0:D) (m:Mem):EG.step2 O [t0] m=MC O t0 m:=(aJ ..).trans (by kernel_rfl)
noncomputable def lH (O:aC) (t0:D) (m:Mem):RV:=by
 refine (fun _:?a=tH.step3 O [t0] m=>?a) ?h
 case h=>conv=>{rhs; reduce; try dsimp only [ak,ay,aF,aA]}
theorem Vs (O:aC) (t0:D) (m:Mem):tH.step2 O [t0] m=lH O t0 m:=(aJ ..).trans (by kernel_rfl)
noncomputable def OQ (O:aC) (t0 t1:D) (m:Mem):RV:=by
 refine (fun _:?a=G_.step3 O [t0,t1] m=>?a) ?h
 case h=>conv=>{rhs; reduce; try dsimp only [ak,ay,aF,aA]}
theorem agR (O:aC) (t0 t1:D) (m:Mem):G_.step2 O [t0,t1] m=OQ O t0 t1 m:=(aJ ..).trans (by kernel_rfl)
noncomputable def RQ (O:aC) (base:Nat) (t0 t5 t6 t7:D) (m:Mem):Option (Ex×List D×Mem):=by
 refine (fun _:?a=bD O [0,5,6,7] [5] rP rP base [t0,t5,t6,t7] m=>?a) ?h
 case h=>conv=>{rhs; conv=>{arg 5; delta rP}; reduce; try dsimp only [ak,ay,aF,aA]}
theorem YD (O:aC) (base:Nat) (t0 t5 t6 t7:D) (m:Mem):bg O [0,5,6,7] [5] rP base [t0,t5,t6,t7] m=RQ O base t0 t5 t6 t7 m:=(aW ..).trans (by kernel_rfl)
noncomputable def Ap (O:aC) (t0:D) (m:Mem):RV:=by
 refine (fun _:?a=TW.step3 O [t0] m=>?a) ?h
 case h=>conv=>{rhs; reduce; try dsimp only [ak,ay,aF,aA]}
theorem afc (O:aC) (t0:D) (m:Mem):TW.step2 O [t0] m=Ap O t0 m:=(aJ ..).trans (by kernel_rfl)
noncomputable def aga (O:aC) (t0:D) (m:Mem):RV:=by
 refine (fun _:?a=TU.step3 O [t0] m=>?a) ?h
 case h=>conv=>{rhs; reduce; try dsimp only [ak,ay,aF,aA]}
theorem an1 (O:aC) (t0:D) (m:Mem):TU.step2 O [t0] m=aga O t0 m:=(aJ ..).trans (by kernel_rfl)
noncomputable def Me (O:aC) (base:Nat) (t1 t2 t6:D) (m:Mem):Option (Ex×List D×Mem):=by
 refine (fun _:?a=bD O [1,2,6] [1,2,6] wR wR base [t1,t2,t6] m=>?a) ?h
 case h=>conv=>{rhs; conv=>{arg 5; delta wR}; reduce; try dsimp only [ak,ay,aF,aA]}
theorem Vl (O:aC) (base:Nat) (t1 t2 t6:D) (m:Mem):bg O [1,2,6] [1,2,6] wR base [t1,t2,t6] m=Me O base t1 t2 t6 m:=(aW ..).trans (by kernel_rfl)
noncomputable def sD (O:aC) (t0 t1:D) (m:Mem):RV:=by
 refine (fun _:?a=Nb.step3 O [t0,t1] m=>?a) ?h
 case h=>conv=>{rhs; reduce; try dsimp only [ak,ay,aF,aA]}
theorem vK (O:aC) (t0 t1:D) (m:Mem):Nb.step2 O [t0,t1] m=sD O t0 t1 m:=(aJ ..).trans (by kernel_rfl)
noncomputable def oD (O:aC) (base:Nat) (t2 t3 t6 t7:D) (m:Mem):Option (Ex×List D×Mem):=by
 refine (fun _:?a=bD O [2,3,6,7] [4,5,6] iE iE base [t2,t3,t6,t7] m=>?a) ?h
 case h=>conv=>{rhs; conv=>{arg 5; delta iE}; reduce; try dsimp only [ak,ay,aF,aA]}
theorem qQ (O:aC) (base:Nat) (t2 t3 t6 t7:D) (m:Mem):bg O [2,3,6,7] [4,5,6] iE base [t2,t3,t6,t7] m=oD O base t2 t3 t6 t7 m:=(aW ..).trans (by kernel_rfl)
noncomputable def H9 (O:aC) (t0 t1:D) (m:Mem):RV:=by
 refine (fun _:?a=Gz.step3 O [t0,t1] m=>?a) ?h
 case h=>conv=>{rhs; reduce; try dsimp only [ak,ay,aF,aA]}
theorem Om (O:aC) (t0 t1:D) (m:Mem):Gz.step2 O [t0,t1] m=H9 O t0 t1 m:=(aJ ..).trans (by kernel_rfl)
noncomputable def RJ (O:aC) (t0 t1 t2 t3 t4 t5:D) (m:Mem):RV:=by
 refine (fun _:?a=Jy.step3 O [t0,t1,t2,t3,t4,t5] m=>?a) ?h
 case h=>conv=>{rhs; reduce; try dsimp only [ak,ay,aF,aA]}
theorem aia (O:aC) (t0 t1 t2 t3 t4 t5:D) (m:Mem):Jy.step2 O [t0,t1,t2,t3,t4,t5] m=RJ O t0 t1 t2 t3 t4 t5 m:=(aJ ..).trans (by kernel_rfl)
noncomputable def Ae (O:aC) (t0 t1:D) (m:Mem):RV:=by
 refine (fun _:?a=JD.step3 O [t0,t1] m=>?a) ?h
 case h=>conv=>{rhs; reduce; try dsimp only [ak,ay,aF,aA]}
theorem Qj (O:aC) (t0 t1:D) (m:Mem):JD.step2 O [t0,t1] m=Ae O t0 t1 m:=(aJ ..).trans (by kernel_rfl)
noncomputable def RP (O:aC) (base:Nat) (t1 t4 t5:D) (m:Mem):Option (Ex×List D×Mem):=by
 refine (fun _:?a=bD O [1,4,5] [4] AO AO base [t1,t4,t5] m=>?a) ?h
 case h=>conv=>{rhs; conv=>{arg 5; delta AO}; reduce; try dsimp only [ak,ay,aF,aA]}
theorem YC (O:aC) (base:Nat) (t1 t4 t5:D) (m:Mem):bg O [1,4,5] [4] AO base [t1,t4,t5] m=RP O base t1 t4 t5 m:=(aW ..).trans (by kernel_rfl)
noncomputable def UE (O:aC) (t0:D) (m:Mem):RV:=by
 refine (fun _:?a=TQ.step3 O [t0] m=>?a) ?h
 case h=>conv=>{rhs; reduce; try dsimp only [ak,ay,aF,aA]}
theorem afa (O:aC) (t0:D) (m:Mem):TQ.step2 O [t0] m=UE O t0 m:=(aJ ..).trans (by kernel_rfl)
noncomputable def Kr (O:aC) (base:Nat) (t0 t2 t4:D) (m:Mem):Option (Ex×List D×Mem):=by
 refine (fun _:?a=bD O [0,2,4] [0,2,4] t_ t_ base [t0,t2,t4] m=>?a) ?h
 case h=>conv=>{rhs; conv=>{arg 5; delta t_}; reduce; try dsimp only [ak,ay,aF,aA]}
theorem SA (O:aC) (base:Nat) (t0 t2 t4:D) (m:Mem):bg O [0,2,4] [0,2,4] t_ base [t0,t2,t4] m=Kr O base t0 t2 t4 m:=(aW ..).trans (by kernel_rfl)
noncomputable def Kt (O:aC) (base:Nat) (t2 t4 t5:D) (m:Mem):Option (Ex×List D×Mem):=by
 refine (fun _:?a=bD O [2,4,5] [2,4,5] uf uf base [t2,t4,t5] m=>?a) ?h
 case h=>conv=>{rhs; conv=>{arg 5; delta uf}; reduce; try dsimp only [ak,ay,aF,aA]}
theorem SB (O:aC) (base:Nat) (t2 t4 t5:D) (m:Mem):bg O [2,4,5] [2,4,5] uf base [t2,t4,t5] m=Kt O base t2 t4 t5 m:=(aW ..).trans (by kernel_rfl)
noncomputable def RN (O:aC) (t0:D) (m:Mem):RV:=by
 refine (fun _:?a=Jz.step3 O [t0] m=>?a) ?h
 case h=>conv=>{rhs; reduce; try dsimp only [ak,ay,aF,aA]}
theorem YB (O:aC) (t0:D) (m:Mem):Jz.step2 O [t0] m=RN O t0 m:=(aJ ..).trans (by kernel_rfl)
noncomputable def pG (O:aC) (t0 t1 t2:D) (m:Mem):RV:=by
 refine (fun _:?a=Nh.step3 O [t0,t1,t2] m=>?a) ?h
 case h=>conv=>{rhs; reduce; try dsimp only [ak,ay,aF,aA]}
theorem BU (O:aC) (t0 t1 t2:D) (m:Mem):Nh.step2 O [t0,t1,t2] m=pG O t0 t1 t2 m:=(aJ ..).trans (by kernel_rfl)
noncomputable def ZM (O:aC) (base:Nat) (t0 t6 t35 t36 t37:D) (m:Mem):Option (Ex×List D×Mem):=by
 refine (fun _:?a=bD O [0,6,35,36,37] [0,6] Az Az base [t0,t6,t35,t36,t37] m=>?a) ?h
 case h=>conv=>{rhs; conv=>{arg 5; delta Az}; reduce; try dsimp only [ak,ay,aF,aA]}
theorem ah_ (O:aC) (base:Nat) (t0 t6 t35 t36 t37:D) (m:Mem):bg O [0,6,35,36,37] [0,6] Az base [t0,t6,t35,t36,t37] m=ZM O base t0 t6 t35 t36 t37 m:=(aW ..).trans (by kernel_rfl)
noncomputable def RG (O:aC) (base:Nat) (t6 t10 t11 t47 t48 t49:D) (m:Mem):Option (Ex×List D×Mem):=by
 refine (fun _:?a=bD O [6,10,11,47,48,49] [6,47,48,49] AA AA base [t6,t10,t11,t47,t48,t49] m=>?a) ?h
 case h=>conv=>{rhs; conv=>{arg 5; delta AA}; reduce; try dsimp only [ak,ay,aF,aA]}
theorem Yy (O:aC) (base:Nat) (t6 t10 t11 t47 t48 t49:D) (m:Mem):bg O [6,10,11,47,48,49] [6,47,48,49] AA base [t6,t10,t11,t47,t48,t49] m=RG O base t6 t10 t11 t47 t48 t49 m:=(aW ..).trans (by kernel_rfl)
noncomputable def RH (O:aC) (base:Nat) (t6 t47 t48 t49:D) (m:Mem):Option (Ex×List D×Mem):=by
 refine (fun _:?a=bD O [6,47,48,49] [6] yE yE base [t6,t47,t48,t49] m=>?a) ?h
 case h=>conv=>{rhs; conv=>{arg 5; delta yE}; reduce; try dsimp only [ak,ay,aF,aA]}
theorem YA (O:aC) (base:Nat) (t6 t47 t48 t49:D) (m:Mem):bg O [6,47,48,49] [6] yE base [t6,t47,t48,t49] m=RH O base t6 t47 t48 t49 m:=(aW ..).trans (by kernel_rfl)
noncomputable def af' (O:aC) (t0 t1:D) (m:Mem):RV:=by
 refine (fun _:?a=TP.step3 O [t0,t1] m=>?a) ?h
 case h=>conv=>{rhs; reduce; try dsimp only [ak,ay,aF,aA]}
theorem anZ (O:aC) (t0 t1:D) (m:Mem):TP.step2 O [t0,t1] m=af' O t0 t1 m:=(aJ ..).trans (by kernel_rfl)
noncomputable def Md (O:aC) (t0:D) (m:Mem):RV:=by
 refine (fun _:?a=Ey.step3 O [t0] m=>?a) ?h
 case h=>conv=>{rhs; reduce; try dsimp only [ak,ay,aF,aA]}
theorem ad2 (O:aC) (t0:D) (m:Mem):Ey.step2 O [t0] m=Md O t0 m:=(aJ ..).trans (by kernel_rfl)
noncomputable def ZO (O:aC) (t0:D) (m:Mem):RV:=by
 refine (fun _:?a=JB.step3 O [t0] m=>?a) ?h
 case h=>conv=>{rhs; reduce; try dsimp only [ak,ay,aF,aA]}
theorem aib (O:aC) (t0:D) (m:Mem):JB.step2 O [t0] m=ZO O t0 m:=(aJ ..).trans (by kernel_rfl)
noncomputable def ZQ (O:aC) (t0:D) (m:Mem):RV:=by
 refine (fun _:?a=Ua.step3 O [t0] m=>?a) ?h
 case h=>conv=>{rhs; reduce; try dsimp only [ak,ay,aF,aA]}
theorem afd (O:aC) (t0:D) (m:Mem):Ua.step2 O [t0] m=ZQ O t0 m:=(aJ ..).trans (by kernel_rfl)
noncomputable def uw (O:aC) (base:Nat) (t0:D) (m:Mem):Option (Ex×List D×Mem):=by
 refine (fun _:?a=bD O [0] [0] o7 o7 base [t0] m=>?a) ?h
 case h=>conv=>{rhs; conv=>{arg 5; delta o7}; reduce; try dsimp only [ak,ay,aF,aA]}
theorem Gq (O:aC) (base:Nat) (t0:D) (m:Mem):bg O [0] [0] o7 base [t0] m=uw O base t0 m:=(aW ..).trans (by kernel_rfl)
noncomputable def XA (O:aC) (t0:D) (m:Mem):RV:=by
 refine (fun _:?a=Pe.step3 O [t0] m=>?a) ?h
 case h=>conv=>{rhs; reduce; try dsimp only [ak,ay,aF,aA]}
theorem acB (O:aC) (t0:D) (m:Mem):Pe.step2 O [t0] m=XA O t0 m:=(aJ ..).trans (by kernel_rfl)
noncomputable def Ku (O:aC) (t0:D) (m:Mem):RV:=by
 refine (fun _:?a=Dk.step3 O [t0] m=>?a) ?h
 case h=>conv=>{rhs; reduce; try dsimp only [ak,ay,aF,aA]}
theorem SC (O:aC) (t0:D) (m:Mem):Dk.step2 O [t0] m=Ku O t0 m:=(aJ ..).trans (by kernel_rfl)
noncomputable def xC (O:aC) (base:Nat) (t0 t1 t5:D) (m:Mem):Option (Ex×List D×Mem):=by
 refine (fun _:?a=bD O [0,1,5] [4] qX qX base [t0,t1,t5] m=>?a) ?h
 case h=>conv=>{rhs; conv=>{arg 5; delta qX}; reduce; try dsimp only [ak,ay,aF,aA]}
theorem Qh (O:aC) (base:Nat) (t0 t1 t5:D) (m:Mem):bg O [0,1,5] [4] qX base [t0,t1,t5] m=xC O base t0 t1 t5 m:=(aW ..).trans (by kernel_rfl)
noncomputable def OH (O:aC) (t0 t1:D) (m:Mem):RV:=by
 refine (fun _:?a=GX.step3 O [t0,t1] m=>?a) ?h
 case h=>conv=>{rhs; reduce; try dsimp only [ak,ay,aF,aA]}
theorem agJ (O:aC) (t0 t1:D) (m:Mem):GX.step2 O [t0,t1] m=OH O t0 t1 m:=(aJ ..).trans (by kernel_rfl)
noncomputable def yX (O:aC) (base:Nat) (t0 t1 t5:D) (m:Mem):Option (Ex×List D×Mem):=by
 refine (fun _:?a=bD O [0,1,5] [4] qm qm base [t0,t1,t5] m=>?a) ?h
 case h=>conv=>{rhs; conv=>{arg 5; delta qm}; reduce; try dsimp only [ak,ay,aF,aA]}
theorem CX (O:aC) (base:Nat) (t0 t1 t5:D) (m:Mem):bg O [0,1,5] [4] qm base [t0,t1,t5] m=yX O base t0 t1 t5 m:=(aW ..).trans (by kernel_rfl)
noncomputable def ZP (O:aC) (t0 t1:D) (m:Mem):RV:=by
 refine (fun _:?a=JC.step3 O [t0,t1] m=>?a) ?h
 case h=>conv=>{rhs; reduce; try dsimp only [ak,ay,aF,aA]}
theorem aic (O:aC) (t0 t1:D) (m:Mem):JC.step2 O [t0,t1] m=ZP O t0 t1 m:=(aJ ..).trans (by kernel_rfl)
noncomputable def MG (O:aC) (base:Nat) (t0 t1 t6 t7 t8:D) (m:Mem):Option (Ex×List D×Mem):=by
 refine (fun _:?a=bD O [0,1,6,7,8] [6,7] wX wX base [t0,t1,t6,t7,t8] m=>?a) ?h
 case h=>conv=>{rhs; conv=>{arg 5; delta wX}; reduce; try dsimp only [ak,ay,aF,aA]}
theorem Vp (O:aC) (base:Nat) (t0 t1 t6 t7 t8:D) (m:Mem):bg O [0,1,6,7,8] [6,7] wX base [t0,t1,t6,t7,t8] m=MG O base t0 t1 t6 t7 t8 m:=(aW ..).trans (by kernel_rfl)
noncomputable def abk (O:aC) (t0 t1:D) (m:Mem):RV:=by
 refine (fun _:?a=Nq.step3 O [t0,t1] m=>?a) ?h
 case h=>conv=>{rhs; reduce; try dsimp only [ak,ay,aF,aA]}
theorem akt (O:aC) (t0 t1:D) (m:Mem):Nq.step2 O [t0,t1] m=abk O t0 t1 m:=(aJ ..).trans (by kernel_rfl)
noncomputable def Ib (O:aC) (base:Nat) (t1 t6 t7 t8 t9 t10 t11 t12:D) (m:Mem):Option (Ex×List D×Mem):=by
 refine (fun _:?a=bD O [1,6,7,8,9,10,11,12] [1,6,7,8,9,10] rU rU base [t1,t6,t7,t8,t9,t10,t11,t12] m=>?a) ?h
 case h=>conv=>{rhs; conv=>{arg 5; delta rU}; reduce; try dsimp only [ak,ay,aF,aA]}
theorem Oo (O:aC) (base:Nat) (t1 t6 t7 t8 t9 t10 t11 t12:D) (m:Mem):bg O [1,6,7,8,9,10,11,12] [1,6,7,8,9,10] rU base [t1,t6,t7,t8,t9,t10,t11,t12] m=Ib O base t1 t6 t7 t8 t9 t10 t11 t12 m:=(aW ..).trans (by kernel_rfl)
noncomputable def OI (O:aC) (base:Nat) (t1 t6 t7 t8 t9 t10:D) (m:Mem):Option (Ex×List D×Mem):=by
 refine (fun _:?a=bD O [1,6,7,8,9,10] [1,6,7,9] zn zn base [t1,t6,t7,t8,t9,t10] m=>?a) ?h
 case h=>conv=>{rhs; conv=>{arg 5; delta zn}; reduce; try dsimp only [ak,ay,aF,aA]}
theorem XH (O:aC) (base:Nat) (t1 t6 t7 t8 t9 t10:D) (m:Mem):bg O [1,6,7,8,9,10] [1,6,7,9] zn base [t1,t6,t7,t8,t9,t10] m=OI O base t1 t6 t7 t8 t9 t10 m:=(aW ..).trans (by kernel_rfl)
noncomputable def OJ (O:aC) (base:Nat) (t6 t7 t9 t13 t86 t87:D) (m:Mem):Option (Ex×List D×Mem):=by
 refine (fun _:?a=bD O [6,7,9,13,86,87] [9,13] zo zo base [t6,t7,t9,t13,t86,t87] m=>?a) ?h
 case h=>conv=>{rhs; conv=>{arg 5; delta zo}; reduce; try dsimp only [ak,ay,aF,aA]}
theorem XI (O:aC) (base:Nat) (t6 t7 t9 t13 t86 t87:D) (m:Mem):bg O [6,7,9,13,86,87] [9,13] zo base [t6,t7,t9,t13,t86,t87] m=OJ O base t6 t7 t9 t13 t86 t87 m:=(aW ..).trans (by kernel_rfl)
noncomputable def adM (O:aC) (t0 t1:D) (m:Mem):RV:=by
 refine (fun _:?a=O_.step3 O [t0,t1] m=>?a) ?h
 case h=>conv=>{rhs; reduce; try dsimp only [ak,ay,aF,aA]}
theorem amE (O:aC) (t0 t1:D) (m:Mem):O_.step2 O [t0,t1] m=adM O t0 t1 m:=(aJ ..).trans (by kernel_rfl)
noncomputable def uz (O:aC) (base:Nat) (t0 t2 t3:D) (m:Mem):Option (Ex×List D×Mem):=by
 refine (fun _:?a=bD O [0,2,3] [] fJ fJ base [t0,t2,t3] m=>?a) ?h
 case h=>conv=>{rhs; conv=>{arg 5; delta fJ}; reduce; try dsimp only [ak,ay,aF,aA]}
theorem BL (O:aC) (base:Nat) (t0 t2 t3:D) (m:Mem):bg O [0,2,3] [] fJ base [t0,t2,t3] m=uz O base t0 t2 t3 m:=(aW ..).trans (by kernel_rfl)
noncomputable def FK (O:aC) (t0:D) (m:Mem):RV:=by
 refine (fun _:?a=qI.step3 O [t0] m=>?a) ?h
 case h=>conv=>{rhs; reduce; try dsimp only [ak,ay,aF,aA]}
theorem Sm (O:aC) (t0:D) (m:Mem):qI.step2 O [t0] m=FK O t0 m:=(aJ ..).trans (by kernel_rfl)
noncomputable def xB (O:aC) (base:Nat) (t1 t5 t6:D) (m:Mem):Option (Ex×List D×Mem):=by
 refine (fun _:?a=bD O [1,5,6] [5] oK oK base [t1,t5,t6] m=>?a) ?h
 case h=>conv=>{rhs; conv=>{arg 5; delta oK}; reduce; try dsimp only [ak,ay,aF,aA]}
theorem Ar (O:aC) (base:Nat) (t1 t5 t6:D) (m:Mem):bg O [1,5,6] [5] oK base [t1,t5,t6] m=xB O base t1 t5 t6 m:=(aW ..).trans (by kernel_rfl)
noncomputable def X5 (O:aC) (t0 t1:D) (m:Mem):RV:=by
 refine (fun _:?a=GU.step3 O [t0,t1] m=>?a) ?h
 case h=>conv=>{rhs; reduce; try dsimp only [ak,ay,aF,aA]}
theorem agH (O:aC) (t0 t1:D) (m:Mem):GU.step2 O [t0,t1] m=X5 O t0 t1 m:=(aJ ..).trans (by kernel_rfl)
noncomputable def Mc (O:aC) (t0:D) (m:Mem):RV:=by
 refine (fun _:?a=Ew.step3 O [t0] m=>?a) ?h
 case h=>conv=>{rhs; reduce; try dsimp only [ak,ay,aF,aA]}
theorem ad1 (O:aC) (t0:D) (m:Mem):Ew.step2 O [t0] m=Mc O t0 m:=(aJ ..).trans (by kernel_rfl)
noncomputable def RI (O:aC) (t0 t1 t2:D) (m:Mem):RV:=by
 refine (fun _:?a=Jw.step3 O [t0,t1,t2] m=>?a) ?h
 case h=>conv=>{rhs; reduce; try dsimp only [ak,ay,aF,aA]}
theorem ah' (O:aC) (t0 t1 t2:D) (m:Mem):Jw.step2 O [t0,t1,t2] m=RI O t0 t1 t2 m:=(aJ ..).trans (by kernel_rfl)
noncomputable def tX (O:aC) (base:Nat) (t1 t2 t6:D) (m:Mem):Option (Ex×List D×Mem):=by
 refine (fun _:?a=bD O [1,2,6] [4,5] qo qo base [t1,t2,t6] m=>?a) ?h
 case h=>conv=>{rhs; conv=>{arg 5; delta qo}; reduce; try dsimp only [ak,ay,aF,aA]}
theorem acC (O:aC) (base:Nat) (t1 t2 t6:D) (m:Mem):bg O [1,2,6] [4,5] qo base [t1,t2,t6] m=tX O base t1 t2 t6 m:=(aW ..).trans (by kernel_rfl)
noncomputable def RS (O:aC) (t0 t1:D) (m:Mem):RV:=by
 refine (fun _:?a=JE.step3 O [t0,t1] m=>?a) ?h
 case h=>conv=>{rhs; reduce; try dsimp only [ak,ay,aF,aA]}
theorem aie (O:aC) (t0 t1:D) (m:Mem):JE.step2 O [t0,t1] m=RS O t0 t1 m:=(aJ ..).trans (by kernel_rfl)
noncomputable def OE (O:aC) (t0 t1:D) (m:Mem):RV:=by
 refine (fun _:?a=Gx.step3 O [t0,t1] m=>?a) ?h
 case h=>conv=>{rhs; reduce; try dsimp only [ak,ay,aF,aA]}
theorem agz (O:aC) (t0 t1:D) (m:Mem):Gx.step2 O [t0,t1] m=OE O t0 t1 m:=(aJ ..).trans (by kernel_rfl)
noncomputable def XW (O:aC) (t0:D) (m:Mem):RV:=by
 refine (fun _:?a=Gy.step3 O [t0] m=>?a) ?h
 case h=>conv=>{rhs; reduce; try dsimp only [ak,ay,aF,aA]}
theorem agA (O:aC) (t0:D) (m:Mem):Gy.step2 O [t0] m=XW O t0 m:=(aJ ..).trans (by kernel_rfl)
noncomputable def ZN (O:aC) (t0:D) (m:Mem):RV:=by
 refine (fun _:?a=TR.step3 O [t0] m=>?a) ?h
 case h=>conv=>{rhs; reduce; try dsimp only [ak,ay,aF,aA]}
theorem an0 (O:aC) (t0:D) (m:Mem):TR.step2 O [t0] m=ZN O t0 m:=(aJ ..).trans (by kernel_rfl)
noncomputable def U_ (O:aC) (t0 t1:D) (m:Mem):RV:=by
 refine (fun _:?a=Nj.step3 O [t0,t1] m=>?a) ?h
 case h=>conv=>{rhs; reduce; try dsimp only [ak,ay,aF,aA]}
theorem akr (O:aC) (t0 t1:D) (m:Mem):Nj.step2 O [t0,t1] m=U_ O t0 t1 m:=(aJ ..).trans (by kernel_rfl)
noncomputable def adK (O:aC) (t0 t1:D) (m:Mem):RV:=by
 refine (fun _:?a=O7.step3 O [t0,t1] m=>?a) ?h
 case h=>conv=>{rhs; reduce; try dsimp only [ak,ay,aF,aA]}
theorem amC (O:aC) (t0 t1:D) (m:Mem):O7.step2 O [t0,t1] m=adK O t0 t1 m:=(aJ ..).trans (by kernel_rfl)
noncomputable def OL (O:aC) (base:Nat) (t0 t3:D) (m:Mem):Option (Ex×List D×Mem):=by
 refine (fun _:?a=bD O [0,3] [0,3] vX vX base [t0,t3] m=>?a) ?h
 case h=>conv=>{rhs; conv=>{arg 5; delta vX}; reduce; try dsimp only [ak,ay,aF,aA]}
theorem XJ (O:aC) (base:Nat) (t0 t3:D) (m:Mem):bg O [0,3] [0,3] vX base [t0,t3] m=OL O base t0 t3 m:=(aW ..).trans (by kernel_rfl)
noncomputable def adN (O:aC) (t0:D) (m:Mem):RV:=by
 refine (fun _:?a=Pg.step3 O [t0] m=>?a) ?h
 case h=>conv=>{rhs; reduce; try dsimp only [ak,ay,aF,aA]}
theorem amF (O:aC) (t0:D) (m:Mem):Pg.step2 O [t0] m=adN O t0 m:=(aJ ..).trans (by kernel_rfl)
noncomputable def Kv (O:aC) (base:Nat) (t0 t3 t14 t15:D) (m:Mem):Option (Ex×List D×Mem):=by
 refine (fun _:?a=bD O [0,3,14,15] [0] yM yM base [t0,t3,t14,t15] m=>?a) ?h
 case h=>conv=>{rhs; conv=>{arg 5; delta yM}; reduce; try dsimp only [ak,ay,aF,aA]}
theorem YE (O:aC) (base:Nat) (t0 t3 t14 t15:D) (m:Mem):bg O [0,3,14,15] [0] yM base [t0,t3,t14,t15] m=Kv O base t0 t3 t14 t15 m:=(aW ..).trans (by kernel_rfl)
noncomputable def agc (O:aC) (t0:D) (m:Mem):RV:=by
 refine (fun _:?a=T_.step3 O [t0] m=>?a) ?h
 case h=>conv=>{rhs; reduce; try dsimp only [ak,ay,aF,aA]}
theorem an3 (O:aC) (t0:D) (m:Mem):T_.step2 O [t0] m=agc O t0 m:=(aJ ..).trans (by kernel_rfl)
noncomputable def agb (O:aC) (t0:D) (m:Mem):RV:=by
 refine (fun _:?a=TY.step3 O [t0] m=>?a) ?h
 case h=>conv=>{rhs; reduce; try dsimp only [ak,ay,aF,aA]}
theorem an2 (O:aC) (t0:D) (m:Mem):TY.step2 O [t0] m=agb O t0 m:=(aJ ..).trans (by kernel_rfl)
noncomputable def Ia (O:aC) (base:Nat) (t0 t1 t5 t9 t10:D) (m:Mem):Option (Ex×List D×Mem):=by
 refine (fun _:?a=bD O [0,1,5,9,10] [0] vW vW base [t0,t1,t5,t9,t10] m=>?a) ?h
 case h=>conv=>{rhs; conv=>{arg 5; delta vW}; reduce; try dsimp only [ak,ay,aF,aA]}
theorem XG (O:aC) (base:Nat) (t0 t1 t5 t9 t10:D) (m:Mem):bg O [0,1,5,9,10] [0] vW base [t0,t1,t5,t9,t10] m=Ia O base t0 t1 t5 t9 t10 m:=(aW ..).trans (by kernel_rfl)
noncomputable def adL (O:aC) (t0 t1:D) (m:Mem):RV:=by
 refine (fun _:?a=O9.step3 O [t0,t1] m=>?a) ?h
 case h=>conv=>{rhs; reduce; try dsimp only [ak,ay,aF,aA]}
theorem amD (O:aC) (t0 t1:D) (m:Mem):O9.step2 O [t0,t1] m=adL O t0 t1 m:=(aJ ..).trans (by kernel_rfl)
noncomputable def tN (O:aC) (base:Nat) (t2 t8 t9 t10 t11 t13 t14 t15 t16:D) (m:Mem):Option (Ex×List D×Mem):=by
 refine (fun _:?a=bD O [2,8,9,10,11,13,14,15,16] [2,8,9,10,11,13,14,15] qc qc base [t2,t8,t9,t10,t11,t13,t14,t15,t16] m=>?a) ?h
 case h=>conv=>{rhs; conv=>{arg 5; delta qc}; reduce; try dsimp only [ak,ay,aF,aA]}
theorem acw (O:aC) (base:Nat) (t2 t8 t9 t10 t11 t13 t14 t15 t16:D) (m:Mem):bg O [2,8,9,10,11,13,14,15,16] [2,8,9,10,11,13,14,15] qc base [t2,t8,t9,t10,t11,t13,t14,t15,t16] m=tN O base t2 t8 t9 t10 t11 t13 t14 t15 t16 m:=(aW ..).trans (by kernel_rfl)
noncomputable def tV (O:aC) (base:Nat) (t2 t8 t9 t10 t14 t15 t16 t17 t18:D) (m:Mem):Option (Ex×List D×Mem):=by
 refine (fun _:?a=bD O [2,8,9,10,14,15,16,17,18] [2,8,14,15,17,18] qg qg base [t2,t8,t9,t10,t14,t15,t16,t17,t18] m=>?a) ?h
 case h=>conv=>{rhs; conv=>{arg 5; delta qg}; reduce; try dsimp only [ak,ay,aF,aA]}
theorem acy (O:aC) (base:Nat) (t2 t8 t9 t10 t14 t15 t16 t17 t18:D) (m:Mem):bg O [2,8,9,10,14,15,16,17,18] [2,8,14,15,17,18] qg base [t2,t8,t9,t10,t14,t15,t16,t17,t18] m=tV O base t2 t8 t9 t10 t14 t15 t16 t17 t18 m:=(aW ..).trans (by kernel_rfl)
noncomputable def RD (O:aC) (t0 t1 t2:D) (m:Mem):RV:=by
 refine (fun _:?a=Jt.step3 O [t0,t1,t2] m=>?a) ?h
 case h=>conv=>{rhs; reduce; try dsimp only [ak,ay,aF,aA]}
theorem ah7 (O:aC) (t0 t1 t2:D) (m:Mem):Jt.step2 O [t0,t1,t2] m=RD O t0 t1 t2 m:=(aJ ..).trans (by kernel_rfl)
noncomputable def BQ (O:aC) (base:Nat) (t1 t5 t12 t13 t14:D) (m:Mem):Option (Ex×List D×Mem):=by
 refine (fun _:?a=bD O [1,5,12,13,14] [5] vV vV base [t1,t5,t12,t13,t14] m=>?a) ?h
 case h=>conv=>{rhs; conv=>{arg 5; delta vV}; reduce; try dsimp only [ak,ay,aF,aA]}
theorem Gp (O:aC) (base:Nat) (t1 t5 t12 t13 t14:D) (m:Mem):bg O [1,5,12,13,14] [5] vV base [t1,t5,t12,t13,t14] m=BQ O base t1 t5 t12 t13 t14 m:=(aW ..).trans (by kernel_rfl)
noncomputable def Xz (O:aC) (t0 t1:D) (m:Mem):RV:=by
 refine (fun _:?a=O8.step3 O [t0,t1] m=>?a) ?h
 case h=>conv=>{rhs; reduce; try dsimp only [ak,ay,aF,aA]}
theorem acA (O:aC) (t0 t1:D) (m:Mem):O8.step2 O [t0,t1] m=Xz O t0 t1 m:=(aJ ..).trans (by kernel_rfl)
noncomputable def mG (O:aC) (base:Nat) (t0 t5 t6 t7 t8 t9:D) (m:Mem):Option (Ex×List D×Mem):=by
 refine (fun _:?a=bD O [0,5,6,7,8,9] [4] sO sO base [t0,t5,t6,t7,t8,t9] m=>?a) ?h
 case h=>conv=>{rhs; conv=>{arg 5; delta sO}; reduce; try dsimp only [ak,ay,aF,aA]}
theorem Ei (O:aC) (base:Nat) (t0 t5 t6 t7 t8 t9:D) (m:Mem):bg O [0,5,6,7,8,9] [4] sO base [t0,t5,t6,t7,t8,t9] m=mG O base t0 t5 t6 t7 t8 t9 m:=(aW ..).trans (by kernel_rfl)
noncomputable def Va (O:aC) (t0 t1:D) (m:Mem):RV:=by
 refine (fun _:?a=Np.step3 O [t0,t1] m=>?a) ?h
 case h=>conv=>{rhs; reduce; try dsimp only [ak,ay,aF,aA]}
theorem aaN (O:aC) (t0 t1:D) (m:Mem):Np.step2 O [t0,t1] m=Va O t0 t1 m:=(aJ ..).trans (by kernel_rfl)
noncomputable def MH (O:aC) (base:Nat) (t0 t1 t2 t7 t8 t14 t15 t16:D) (m:Mem):Option (Ex×List D×Mem):=by
 refine (fun _:?a=bD O [0,1,2,7,8,14,15,16] [0,1,7,8] wY wY base [t0,t1,t2,t7,t8,t14,t15,t16] m=>?a) ?h
 case h=>conv=>{rhs; conv=>{arg 5; delta wY}; reduce; try dsimp only [ak,ay,aF,aA]}
theorem Vq (O:aC) (base:Nat) (t0 t1 t2 t7 t8 t14 t15 t16:D) (m:Mem):bg O [0,1,2,7,8,14,15,16] [0,1,7,8] wY base [t0,t1,t2,t7,t8,t14,t15,t16] m=MH O base t0 t1 t2 t7 t8 t14 t15 t16 m:=(aW ..).trans (by kernel_rfl)
noncomputable def Vb (O:aC) (t0 t1 t2:D) (m:Mem):RV:=by
 refine (fun _:?a=Nr.step3 O [t0,t1,t2] m=>?a) ?h
 case h=>conv=>{rhs; reduce; try dsimp only [ak,ay,aF,aA]}
theorem aku (O:aC) (t0 t1 t2:D) (m:Mem):Nr.step2 O [t0,t1,t2] m=Vb O t0 t1 t2 m:=(aJ ..).trans (by kernel_rfl)
noncomputable def MF (O:aC) (base:Nat) (t0 t1 t4 t7 t8 t9:D) (m:Mem):Option (Ex×List D×Mem):=by
 refine (fun _:?a=bD O [0,1,4,7,8,9] [0,1,4] wW wW base [t0,t1,t4,t7,t8,t9] m=>?a) ?h
 case h=>conv=>{rhs; conv=>{arg 5; delta wW}; reduce; try dsimp only [ak,ay,aF,aA]}
theorem Vo (O:aC) (base:Nat) (t0 t1 t4 t7 t8 t9:D) (m:Mem):bg O [0,1,4,7,8,9] [0,1,4] wW base [t0,t1,t4,t7,t8,t9] m=MF O base t0 t1 t4 t7 t8 t9 m:=(aW ..).trans (by kernel_rfl)
noncomputable def abj (O:aC) (t0 t1:D) (m:Mem):RV:=by
 refine (fun _:?a=Nl.step3 O [t0,t1] m=>?a) ?h
 case h=>conv=>{rhs; reduce; try dsimp only [ak,ay,aF,aA]}
theorem aks (O:aC) (t0 t1:D) (m:Mem):Nl.step2 O [t0,t1] m=abj O t0 t1 m:=(aJ ..).trans (by kernel_rfl)
noncomputable def Gl (O:aC) (t0:D) (m:Mem):RV:=by
 refine (fun _:?a=M_.step3 O [t0] m=>?a) ?h
 case h=>conv=>{rhs; reduce; try dsimp only [ak,ay,aF,aA]}
theorem akp (O:aC) (t0:D) (m:Mem):M_.step2 O [t0] m=Gl O t0 m:=(aJ ..).trans (by kernel_rfl)
noncomputable def XY (O:aC) (t0 t1 t2:D) (m:Mem):RV:=by
 refine (fun _:?a=GH.step3 O [t0,t1,t2] m=>?a) ?h
 case h=>conv=>{rhs; reduce; try dsimp only [ak,ay,aF,aA]}
theorem agB (O:aC) (t0 t1 t2:D) (m:Mem):GH.step2 O [t0,t1,t2] m=XY O t0 t1 t2 m:=(aJ ..).trans (by kernel_rfl)
end Go.Ev.Code
end
section
namespace Go.Ev.Code
open Go Go.Ev
set_option maxRecDepth 100000
attribute [local irreducible] Xi Zu bd jn VH MQ gc gop KC Oj KO fz jE hdI tlI List.length List.append Dv ZG PG Zz N9 BP Oa J6 Ea N_ ZA Uw J8 gq tK E8 ZC U7 U6 ZB ab_ ace ZH acf ZI Ux Uz PD ZJ Rq Px H6 D_ Py ZF ZE Uy J5 rMn rMx Xu yT uI J4 Xv PE J7 NG PI ND Pz acd
attribute [local irreducible] jL jJ jM d_ kV iL jc iQ j_ dY iC iT jT jU jo iM oq fE lS jB jR nN BK zZ Em vC uO mg kJ lX lW Ci jd nI qZ oC fA mF uo dG jI bW iy xq dD dO dK oL o8 xw o9 kD zy xA jq L9 jH kX xg slices_Reverse_int gY wF vI sJ uj oW vN Dx Ej yS vT nU D8 lN lC uP DC DF yG kG sV rH gK yP lT Je iH iW bV jm ji kQ nR xk fQ oZ jl rX rW jF kY rY strings_CutPrefix strings_Cut lV nM jr I7 Ak zk uU pO wE gU oI yj Ep Ry qO uM DJ wM fD VL vk Ie LU gI dI bits_Mul64 bits_Add64 nS bits_Sub64 yL yN Iw iG dW gQ strings_Repeat slices_Reverse_string strings_Join iO rQ wO AL Bl jg rJ IZ Am iF IX Ij jZ IY DL wu Fb uN zh Bd Cc nat_bit D5 uT bits_LeadingZeros64 Bc DZ D6 DY DI lD lY pV QM DN NT NU uJ DX strconv_Itoa bits_TrailingZeros64 KQ Js I8 BO uK ql BN JJ vS I9 uh I_ pY zV iU kT eU kZ jQ BJ hndB Ur VJ Y6 Y7
end Go.Ev.Code
end
section
end
