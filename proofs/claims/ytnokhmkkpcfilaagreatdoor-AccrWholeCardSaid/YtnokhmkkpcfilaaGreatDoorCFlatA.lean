/- A part of the proof of flowSum_card, flowParts_card, flowEx_card, accrWhole_card, priceZero_card. -/
import Derived.KernelRfl
import Derived.Test.YtnokhmkkpcfilaaGreatDoorCFlat
import Derived.Test.YtnokhmkkpcfilaaGreatDoorCCodeA
import Derived.Test.YtnokhmkkpcfilaaGreatDoorCCodeB
import Derived.Test.YtnokhmkkpcfilaaGreatDoorCCodeC
set_option linter.unusedVariables false
section
namespace Go.Ev.Code
open Go Go.Ev
set_option maxRecDepth 100000
attribute [local irreducible] Us Xa bd jn SB JW gc YD I7 Lp Jj fz jV hdI tlI List.length List.append AZ Xn Nl Xh KX zU KZ IG BO KY Xi QS IJ dZ qQ DU Xk Ry Rx Xj ZC ZF Xo ZG Xp QT QV Nh Xq OX Na FV BN Nb Xm Xl QU IE rMn rMx UE wU rO IC UF Nj II KD Np KC Nc ZE
attribute [local irreducible] jE iM jZ iL iO dF kH vN lT Af iF jq gG jR kW lH iW h_ gI jh gZ jD fA yF Aa oG xY nX gY qB sS zV rW kT fG kN kJ qF qL pX strings_Cut Ju lS fC b_ mZ gW dB cZ nM bY nK uS gu bM uM slices_Reverse_int fU xw sF mg jg nZ pK jW mJ dU kX fJ wQ tJ Bf rC uO wS lX BL Ew BP Tc rX Bg Bh vZ jK jf vJ strings_CutPrefix kM iD g_ iK iI cu bK nI iJ qo jS lU qA uq eu yV zC jH kK uN qm ug fM mW vK B_ O0 oZ rU Bl uo SG sQ F8 je iQ GR fF bits_Mul64 bits_Add64 wK lV wM Gp bits_Sub64 GK iH pY yO gQ GH Gi jB GI Bo t_ DX rV xq dJ fK strings_Repeat slices_Reverse_string strings_Join qj zu Ae nat_bit BH sD bits_LeadingZeros64 zo BG BI BF gU Bj kD kQ og OB Bq KN KO rP BD strconv_Itoa bits_TrailingZeros64 Jo Hf GU zT rQ oI zS H_ tK GV ru GX jU ou yt iy dR j_ jl zN hndB ig f_ nV wR uD eP fH uz qh lI fP gK jF jG lD lF eU kG iE Td Tf
noncomputable def sV (O : aC) (base : Nat) (t1 t4 t6 t7 : D) (m : Mem) : Option (Ex × List D × Mem) := by
 refine (fun _ : ?a = bG O [1, 4, 6, 7] [1, 2, 6] ig ig base [t1, t4, t6, t7] m => ?a) ?h
 case h => conv => {rhs; conv => {arg 5; delta ig}; reduce; try dsimp only [ak, ay, aH, aA]}
theorem AA (O : aC) (base : Nat) (t1 t4 t6 t7 : D) (m : Mem) : bC O [1, 4, 6, 7] [1, 2, 6] ig base [t1, t4, t6, t7] m = sV O base t1 t4 t6 t7 m := (aY ..).trans (by kernel_rfl)
noncomputable def lY (O : aC) (t0 : D) (m : Mem) : RV := by
 refine (fun _ : ?a = qc.step3 O [t0] m => ?a) ?h
 case h => conv => {rhs; reduce; try dsimp only [ak, ay, aH, aA]}
theorem pU (O : aC) (t0 : D) (m : Mem) : qc.step2 O [t0] m = lY O t0 m := (aJ ..).trans (by kernel_rfl)
noncomputable def dN (O : aC) (t0 t1 t2 t3 : D) (m : Mem) : RV := by
 refine (fun _ : ?a = nT.step3 O [t0, t1, t2, t3] m => ?a) ?h
 case h => conv => {rhs; reduce; try dsimp only [ak, ay, aH, aA]}
theorem A_ (O : aC) (t0 t1 t2 t3 : D) (m : Mem) : nT.step2 O [t0, t1, t2, t3] m = dN O t0 t1 t2 t3 m := (aJ ..).trans (by kernel_rfl)
noncomputable def ng (O : aC) (t0 t1 t2 : D) (m : Mem) : RV := by
 refine (fun _ : ?a = qN.step3 O [t0, t1, t2] m => ?a) ?h
 case h => conv => {rhs; reduce; try dsimp only [ak, ay, aH, aA]}
theorem R_ (O : aC) (t0 t1 t2 : D) (m : Mem) : qN.step2 O [t0, t1, t2] m = ng O t0 t1 t2 m := (aJ ..).trans (by kernel_rfl)
noncomputable def uV (O : aC) (t0 t1 : D) (m : Mem) : RV := by
 refine (fun _ : ?a = nS.step3 O [t0, t1] m => ?a) ?h
 case h => conv => {rhs; reduce; try dsimp only [ak, ay, aH, aA]}
theorem N8 (O : aC) (t0 t1 : D) (m : Mem) : nS.step2 O [t0, t1] m = uV O t0 t1 m := (aJ ..).trans (by kernel_rfl)
noncomputable def qK (O : aC) (base : Nat) (t12 t14 t16 t94 t95 : D) (m : Mem) : Option (Ex × List D × Mem) := by
 refine (fun _ : ?a = bG O [12, 14, 16, 94, 95] [12, 16] f_ f_ base [t12, t14, t16, t94, t95] m => ?a) ?h
 case h => conv => {rhs; conv => {arg 5; delta f_}; reduce; try dsimp only [ak, ay, aH, aA]}
theorem yN (O : aC) (base : Nat) (t12 t14 t16 t94 t95 : D) (m : Mem) : bC O [12, 14, 16, 94, 95] [12, 16] f_ base [t12, t14, t16, t94, t95] m = qK O base t12 t14 t16 t94 t95 m := (aY ..).trans (by kernel_rfl)
noncomputable def uX (O : aC) (t0 t1 t2 : D) (m : Mem) : RV := by
 refine (fun _ : ?a = nU.step3 O [t0, t1, t2] m => ?a) ?h
 case h => conv => {rhs; reduce; try dsimp only [ak, ay, aH, aA]}
theorem Ba (O : aC) (t0 t1 t2 : D) (m : Mem) : nU.step2 O [t0, t1, t2] m = uX O t0 t1 t2 m := (aJ ..).trans (by kernel_rfl)
noncomputable def Ld (O : aC) (t0 : D) (m : Mem) : RV := by
 refine (fun _ : ?a = wo.step3 O [t0] m => ?a) ?h
 case h => conv => {rhs; reduce; try dsimp only [ak, ay, aH, aA]}
theorem VP (O : aC) (t0 : D) (m : Mem) : wo.step2 O [t0] m = Ld O t0 m := (aJ ..).trans (by kernel_rfl)
noncomputable def ji (O : aC) (base : Nat) (t1 t4 t6 t7 t21 t22 t23 : D) (m : Mem) : Option (Ex × List D × Mem) := by
 refine (fun _ : ?a = bG O [1, 4, 6, 7, 21, 22, 23] [2, 3, 7] nV nV base [t1, t4, t6, t7, t21, t22, t23] m => ?a) ?h
 case h => conv => {rhs; conv => {arg 5; delta nV}; reduce; try dsimp only [ak, ay, aH, aA]}
theorem jJ (O : aC) (base : Nat) (t1 t4 t6 t7 t21 t22 t23 : D) (m : Mem) : bC O [1, 4, 6, 7, 21, 22, 23] [2, 3, 7] nV base [t1, t4, t6, t7, t21, t22, t23] m = ji O base t1 t4 t6 t7 t21 t22 t23 m := (aY ..).trans (by kernel_rfl)
noncomputable def BQ (O : aC) (t0 : D) (m : Mem) : RV := by
 refine (fun _ : ?a = Qv.step3 O [t0] m => ?a) ?h
 case h => conv => {rhs; reduce; try dsimp only [ak, ay, aH, aA]}
theorem Gx (O : aC) (t0 : D) (m : Mem) : Qv.step2 O [t0] m = BQ O t0 m := (aJ ..).trans (by kernel_rfl)
noncomputable def LQ (O : aC) (t0 : D) (m : Mem) : RV := by
 refine (fun _ : ?a = EN.step3 O [t0] m => ?a) ?h
 case h => conv => {rhs; reduce; try dsimp only [ak, ay, aH, aA]}
theorem ad9 (O : aC) (t0 : D) (m : Mem) : EN.step2 O [t0] m = LQ O t0 m := (aJ ..).trans (by kernel_rfl)
noncomputable def XA (O : aC) (t0 : D) (m : Mem) : RV := by
 refine (fun _ : ?a = QD.step3 O [t0] m => ?a) ?h
 case h => conv => {rhs; reduce; try dsimp only [ak, ay, aH, aA]}
theorem acO (O : aC) (t0 : D) (m : Mem) : QD.step2 O [t0] m = XA O t0 m := (aJ ..).trans (by kernel_rfl)
noncomputable def Tz (O : aC) (t0 : D) (m : Mem) : RV := by
 refine (fun _ : ?a = CV.step3 O [t0] m => ?a) ?h
 case h => conv => {rhs; reduce; try dsimp only [ak, ay, aH, aA]}
theorem abB (O : aC) (t0 : D) (m : Mem) : CV.step2 O [t0] m = Tz O t0 m := (aJ ..).trans (by kernel_rfl)
noncomputable def Vp (O : aC) (t0 t1 : D) (m : Mem) : RV := by
 refine (fun _ : ?a = FN.step3 O [t0, t1] m => ?a) ?h
 case h => conv => {rhs; reduce; try dsimp only [ak, ay, aH, aA]}
theorem aez (O : aC) (t0 t1 : D) (m : Mem) : FN.step2 O [t0, t1] m = Vp O t0 t1 m := (aJ ..).trans (by kernel_rfl)
noncomputable def L_ (O : aC) (t0 t1 : D) (m : Mem) : RV := by
 refine (fun _ : ?a = FB.step3 O [t0, t1] m => ?a) ?h
 case h => conv => {rhs; reduce; try dsimp only [ak, ay, aH, aA]}
theorem aeu (O : aC) (t0 t1 : D) (m : Mem) : FB.step2 O [t0, t1] m = L_ O t0 t1 m := (aJ ..).trans (by kernel_rfl)
noncomputable def LP (O : aC) (t0 : D) (m : Mem) : RV := by
 refine (fun _ : ?a = EL.step3 O [t0] m => ?a) ?h
 case h => conv => {rhs; reduce; try dsimp only [ak, ay, aH, aA]}
theorem ad7 (O : aC) (t0 : D) (m : Mem) : EL.step2 O [t0] m = LP O t0 m := (aJ ..).trans (by kernel_rfl)
noncomputable def IY (O : aC) (base : Nat) (t1 t6 t7 t8 t9 t27 t28 t29 : D) (m : Mem) : Option (Ex × List D × Mem) := by
 refine (fun _ : ?a = bG O [1, 6, 7, 8, 9, 27, 28, 29] [1, 6, 7, 8] wR wR base [t1, t6, t7, t8, t9, t27, t28, t29] m => ?a) ?h
 case h => conv => {rhs; conv => {arg 5; delta wR}; reduce; try dsimp only [ak, ay, aH, aA]}
theorem NY (O : aC) (base : Nat) (t1 t6 t7 t8 t9 t27 t28 t29 : D) (m : Mem) : bC O [1, 6, 7, 8, 9, 27, 28, 29] [1, 6, 7, 8] wR base [t1, t6, t7, t8, t9, t27, t28, t29] m = IY O base t1 t6 t7 t8 t9 t27 t28 t29 m := (aY ..).trans (by kernel_rfl)
noncomputable def qJ (O : aC) (t0 : D) (m : Mem) : RV := by
 refine (fun _ : ?a = QC.step3 O [t0] m => ?a) ?h
 case h => conv => {rhs; reduce; try dsimp only [ak, ay, aH, aA]}
theorem acN (O : aC) (t0 : D) (m : Mem) : QC.step2 O [t0] m = qJ O t0 m := (aJ ..).trans (by kernel_rfl)
noncomputable def JG (O : aC) (base : Nat) (t2 t3 t4 t14 t77 t78 t79 : D) (m : Mem) : Option (Ex × List D × Mem) := by
 refine (fun _ : ?a = bG O [2, 3, 4, 14, 77, 78, 79] [14] uD uD base [t2, t3, t4, t14, t77, t78, t79] m => ?a) ?h
 case h => conv => {rhs; conv => {arg 5; delta uD}; reduce; try dsimp only [ak, ay, aH, aA]}
theorem RU (O : aC) (base : Nat) (t2 t3 t4 t14 t77 t78 t79 : D) (m : Mem) : bC O [2, 3, 4, 14, 77, 78, 79] [14] uD base [t2, t3, t4, t14, t77, t78, t79] m = JG O base t2 t3 t4 t14 t77 t78 t79 m := (aY ..).trans (by kernel_rfl)
noncomputable def nO (O : aC) (t0 t1 t2 t3 : D) (m : Mem) : RV := by
 refine (fun _ : ?a = J8.step3 O [t0, t1, t2, t3] m => ?a) ?h
 case h => conv => {rhs; reduce; try dsimp only [ak, ay, aH, aA]}
theorem Q_ (O : aC) (t0 t1 t2 t3 : D) (m : Mem) : J8.step2 O [t0, t1, t2, t3] m = nO O t0 t1 t2 t3 m := (aJ ..).trans (by kernel_rfl)
noncomputable def Jd (O : aC) (t0 t1 : D) (m : Mem) : RV := by
 refine (fun _ : ?a = vg.step3 O [t0, t1] m => ?a) ?h
 case h => conv => {rhs; reduce; try dsimp only [ak, ay, aH, aA]}
theorem Vs (O : aC) (t0 t1 : D) (m : Mem) : vg.step2 O [t0, t1] m = Jd O t0 t1 m := (aJ ..).trans (by kernel_rfl)
noncomputable def aht (O : aC) (t0 t1 : D) (m : Mem) : RV := by
 refine (fun _ : ?a = Ub.step3 O [t0, t1] m => ?a) ?h
 case h => conv => {rhs; reduce; try dsimp only [ak, ay, aH, aA]}
theorem anf (O : aC) (t0 t1 : D) (m : Mem) : Ub.step2 O [t0, t1] m = aht O t0 t1 m := (aJ ..).trans (by kernel_rfl)
noncomputable def Vk (O : aC) (t0 t1 : D) (m : Mem) : RV := by
 refine (fun _ : ?a = FD.step3 O [t0, t1] m => ?a) ?h
 case h => conv => {rhs; reduce; try dsimp only [ak, ay, aH, aA]}
theorem aev (O : aC) (t0 t1 : D) (m : Mem) : FD.step2 O [t0, t1] m = Vk O t0 t1 m := (aJ ..).trans (by kernel_rfl)
noncomputable def DZ (O : aC) (t0 t1 : D) (m : Mem) : RV := by
 refine (fun _ : ?a = CP.step3 O [t0, t1] m => ?a) ?h
 case h => conv => {rhs; reduce; try dsimp only [ak, ay, aH, aA]}
theorem abx (O : aC) (t0 t1 : D) (m : Mem) : CP.step2 O [t0, t1] m = DZ O t0 t1 m := (aJ ..).trans (by kernel_rfl)
noncomputable def Jc (O : aC) (t0 t1 : D) (m : Mem) : RV := by
 refine (fun _ : ?a = u_.step3 O [t0, t1] m => ?a) ?h
 case h => conv => {rhs; reduce; try dsimp only [ak, ay, aH, aA]}
theorem Vr (O : aC) (t0 t1 : D) (m : Mem) : u_.step2 O [t0, t1] m = Jc O t0 t1 m := (aJ ..).trans (by kernel_rfl)
noncomputable def Le (O : aC) (t0 : D) (m : Mem) : RV := by
 refine (fun _ : ?a = wu.step3 O [t0] m => ?a) ?h
 case h => conv => {rhs; reduce; try dsimp only [ak, ay, aH, aA]}
theorem VQ (O : aC) (t0 : D) (m : Mem) : wu.step2 O [t0] m = Le O t0 m := (aJ ..).trans (by kernel_rfl)
noncomputable def jM (O : aC) (base : Nat) (t1 t8 t9 : D) (m : Mem) : Option (Ex × List D × Mem) := by
 refine (fun _ : ?a = bG O [1, 8, 9] [1, 8, 9] eP eP base [t1, t8, t9] m => ?a) ?h
 case h => conv => {rhs; conv => {arg 5; delta eP}; reduce; try dsimp only [ak, ay, aH, aA]}
theorem l9 (O : aC) (base : Nat) (t1 t8 t9 : D) (m : Mem) : bC O [1, 8, 9] [1, 8, 9] eP base [t1, t8, t9] m = jM O base t1 t8 t9 m := (aY ..).trans (by kernel_rfl)
noncomputable def mD (O : aC) (base : Nat) (t1 t8 t9 : D) (m : Mem) : Option (Ex × List D × Mem) := by
 refine (fun _ : ?a = bG O [1, 8, 9] [8, 9] fH fH base [t1, t8, t9] m => ?a) ?h
 case h => conv => {rhs; conv => {arg 5; delta fH}; reduce; try dsimp only [ak, ay, aH, aA]}
theorem qW (O : aC) (base : Nat) (t1 t8 t9 : D) (m : Mem) : bC O [1, 8, 9] [8, 9] fH base [t1, t8, t9] m = mD O base t1 t8 t9 m := (aY ..).trans (by kernel_rfl)
noncomputable def fB (O : aC) (t0 t1 t2 : D) (m : Mem) : RV := by
 refine (fun _ : ?a = oO.step3 O [t0, t1, t2] m => ?a) ?h
 case h => conv => {rhs; reduce; try dsimp only [ak, ay, aH, aA]}
theorem kZ (O : aC) (t0 t1 t2 : D) (m : Mem) : oO.step2 O [t0, t1, t2] m = fB O t0 t1 t2 m := (aJ ..).trans (by kernel_rfl)
noncomputable def adN (O : aC) (t0 t1 : D) (m : Mem) : RV := by
 refine (fun _ : ?a = QB.step3 O [t0, t1] m => ?a) ?h
 case h => conv => {rhs; reduce; try dsimp only [ak, ay, aH, aA]}
theorem alm (O : aC) (t0 t1 : D) (m : Mem) : QB.step2 O [t0, t1] m = adN O t0 t1 m := (aJ ..).trans (by kernel_rfl)
noncomputable def La (O : aC) (t0 t1 : D) (m : Mem) : RV := by
 refine (fun _ : ?a = Qm.step3 O [t0, t1] m => ?a) ?h
 case h => conv => {rhs; reduce; try dsimp only [ak, ay, aH, aA]}
theorem VG (O : aC) (t0 t1 : D) (m : Mem) : Qm.step2 O [t0, t1] m = La O t0 t1 m := (aJ ..).trans (by kernel_rfl)
noncomputable def JF (O : aC) (base : Nat) (t1 t2 t6 : D) (m : Mem) : Option (Ex × List D × Mem) := by
 refine (fun _ : ?a = bG O [1, 2, 6] [1, 2, 6] uz uz base [t1, t2, t6] m => ?a) ?h
 case h => conv => {rhs; conv => {arg 5; delta uz}; reduce; try dsimp only [ak, ay, aH, aA]}
theorem RS (O : aC) (base : Nat) (t1 t2 t6 : D) (m : Mem) : bC O [1, 2, 6] [1, 2, 6] uz base [t1, t2, t6] m = JF O base t1 t2 t6 m := (aY ..).trans (by kernel_rfl)
noncomputable def qC (O : aC) (t0 t1 : D) (m : Mem) : RV := by
 refine (fun _ : ?a = J7.step3 O [t0, t1] m => ?a) ?h
 case h => conv => {rhs; reduce; try dsimp only [ak, ay, aH, aA]}
theorem tC (O : aC) (t0 t1 : D) (m : Mem) : J7.step2 O [t0, t1] m = qC O t0 t1 m := (aJ ..).trans (by kernel_rfl)
noncomputable def Lc (O : aC) (t0 t1 : D) (m : Mem) : RV := by
 refine (fun _ : ?a = Qn.step3 O [t0, t1] m => ?a) ?h
 case h => conv => {rhs; reduce; try dsimp only [ak, ay, aH, aA]}
theorem VH (O : aC) (t0 t1 : D) (m : Mem) : Qn.step2 O [t0, t1] m = Lc O t0 t1 m := (aJ ..).trans (by kernel_rfl)
noncomputable def Nu (O : aC) (t0 t1 : D) (m : Mem) : RV := by
 refine (fun _ : ?a = MK.step3 O [t0, t1] m => ?a) ?h
 case h => conv => {rhs; reduce; try dsimp only [ak, ay, aH, aA]}
theorem ajT (O : aC) (t0 t1 : D) (m : Mem) : MK.step2 O [t0, t1] m = Nu O t0 t1 m := (aJ ..).trans (by kernel_rfl)
noncomputable def Vm (O : aC) (t0 t1 : D) (m : Mem) : RV := by
 refine (fun _ : ?a = FK.step3 O [t0, t1] m => ?a) ?h
 case h => conv => {rhs; reduce; try dsimp only [ak, ay, aH, aA]}
theorem aex (O : aC) (t0 t1 : D) (m : Mem) : FK.step2 O [t0, t1] m = Vm O t0 t1 m := (aJ ..).trans (by kernel_rfl)
noncomputable def oM (O : aC) (t0 t1 t2 : D) (m : Mem) : RV := by
 refine (fun _ : ?a = Fz.step3 O [t0, t1, t2] m => ?a) ?h
 case h => conv => {rhs; reduce; try dsimp only [ak, ay, aH, aA]}
theorem vH (O : aC) (t0 t1 t2 : D) (m : Mem) : Fz.step2 O [t0, t1, t2] m = oM O t0 t1 t2 m := (aJ ..).trans (by kernel_rfl)
noncomputable def yJ (O : aC) (t0 t1 : D) (m : Mem) : RV := by
 refine (fun _ : ?a = H7.step3 O [t0, t1] m => ?a) ?h
 case h => conv => {rhs; reduce; try dsimp only [ak, ay, aH, aA]}
theorem G9 (O : aC) (t0 t1 : D) (m : Mem) : H7.step2 O [t0, t1] m = yJ O t0 t1 m := (aJ ..).trans (by kernel_rfl)
noncomputable def kL (O : aC) (t0 : D) (m : Mem) : RV := by
 refine (fun _ : ?a = Ho.step3 O [t0] m => ?a) ?h
 case h => conv => {rhs; reduce; try dsimp only [ak, ay, aH, aA]}
theorem afD (O : aC) (t0 : D) (m : Mem) : Ho.step2 O [t0] m = kL O t0 m := (aJ ..).trans (by kernel_rfl)
noncomputable def JM (O : aC) (t0 : D) (m : Mem) : RV := by
 refine (fun _ : ?a = CW.step3 O [t0] m => ?a) ?h
 case h => conv => {rhs; reduce; try dsimp only [ak, ay, aH, aA]}
theorem abC (O : aC) (t0 : D) (m : Mem) : CW.step2 O [t0] m = JM O t0 m := (aJ ..).trans (by kernel_rfl)
noncomputable def vU (O : aC) (t0 : D) (m : Mem) : RV := by
 refine (fun _ : ?a = EM.step3 O [t0] m => ?a) ?h
 case h => conv => {rhs; reduce; try dsimp only [ak, ay, aH, aA]}
theorem ad8 (O : aC) (t0 : D) (m : Mem) : EM.step2 O [t0] m = vU O t0 m := (aJ ..).trans (by kernel_rfl)
noncomputable def Lh (O : aC) (t0 t1 : D) (m : Mem) : RV := by
 refine (fun _ : ?a = wz.step3 O [t0, t1] m => ?a) ?h
 case h => conv => {rhs; reduce; try dsimp only [ak, ay, aH, aA]}
theorem VR (O : aC) (t0 t1 : D) (m : Mem) : wz.step2 O [t0, t1] m = Lh O t0 t1 m := (aJ ..).trans (by kernel_rfl)
noncomputable def Tm (O : aC) (t0 : D) (m : Mem) : RV := by
 refine (fun _ : ?a = Cm.step3 O [t0] m => ?a) ?h
 case h => conv => {rhs; reduce; try dsimp only [ak, ay, aH, aA]}
theorem abr (O : aC) (t0 : D) (m : Mem) : Cm.step2 O [t0] m = Tm O t0 m := (aJ ..).trans (by kernel_rfl)
noncomputable def adI (O : aC) (t0 : D) (m : Mem) : RV := by
 refine (fun _ : ?a = Qo.step3 O [t0] m => ?a) ?h
 case h => conv => {rhs; reduce; try dsimp only [ak, ay, aH, aA]}
theorem ale (O : aC) (t0 : D) (m : Mem) : Qo.step2 O [t0] m = adI O t0 m := (aJ ..).trans (by kernel_rfl)
noncomputable def O4 (O : aC) (t0 : D) (m : Mem) : RV := by
 refine (fun _ : ?a = Hq.step3 O [t0] m => ?a) ?h
 case h => conv => {rhs; reduce; try dsimp only [ak, ay, aH, aA]}
theorem afE (O : aC) (t0 : D) (m : Mem) : Hq.step2 O [t0] m = O4 O t0 m := (aJ ..).trans (by kernel_rfl)
noncomputable def Xz (O : aC) (t0 : D) (m : Mem) : RV := by
 refine (fun _ : ?a = Qz.step3 O [t0] m => ?a) ?h
 case h => conv => {rhs; reduce; try dsimp only [ak, ay, aH, aA]}
theorem acM (O : aC) (t0 : D) (m : Mem) : Qz.step2 O [t0] m = Xz O t0 m := (aJ ..).trans (by kernel_rfl)
noncomputable def Pe (O : aC) (base : Nat) (t0 t5 t6 t7 : D) (m : Mem) : Option (Ex × List D × Mem) := by
 refine (fun _ : ?a = bG O [0, 5, 6, 7] [5] qh qh base [t0, t5, t6, t7] m => ?a) ?h
 case h => conv => {rhs; conv => {arg 5; delta qh}; reduce; try dsimp only [ak, ay, aH, aA]}
theorem VN (O : aC) (base : Nat) (t0 t5 t6 t7 : D) (m : Mem) : bC O [0, 5, 6, 7] [5] qh base [t0, t5, t6, t7] m = Pe O base t0 t5 t6 t7 m := (aY ..).trans (by kernel_rfl)
noncomputable def yQ (O : aC) (t0 : D) (m : Mem) : RV := by
 refine (fun _ : ?a = Qw.step3 O [t0] m => ?a) ?h
 case h => conv => {rhs; reduce; try dsimp only [ak, ay, aH, aA]}
theorem acL (O : aC) (t0 : D) (m : Mem) : Qw.step2 O [t0] m = yQ O t0 m := (aJ ..).trans (by kernel_rfl)
noncomputable def Tn (O : aC) (t0 : D) (m : Mem) : RV := by
 refine (fun _ : ?a = CG.step3 O [t0] m => ?a) ?h
 case h => conv => {rhs; reduce; try dsimp only [ak, ay, aH, aA]}
theorem abu (O : aC) (t0 : D) (m : Mem) : CG.step2 O [t0] m = Tn O t0 m := (aJ ..).trans (by kernel_rfl)
noncomputable def aa7 (O : aC) (t0 : D) (m : Mem) : RV := by
 refine (fun _ : ?a = MJ.step3 O [t0] m => ?a) ?h
 case h => conv => {rhs; reduce; try dsimp only [ak, ay, aH, aA]}
theorem ajS (O : aC) (t0 : D) (m : Mem) : MJ.step2 O [t0] m = aa7 O t0 m := (aJ ..).trans (by kernel_rfl)
noncomputable def Q7 (O : aC) (t0 t1 : D) (m : Mem) : RV := by
 refine (fun _ : ?a = QE.step3 O [t0, t1] m => ?a) ?h
 case h => conv => {rhs; reduce; try dsimp only [ak, ay, aH, aA]}
theorem acP (O : aC) (t0 t1 : D) (m : Mem) : QE.step2 O [t0, t1] m = Q7 O t0 t1 m := (aJ ..).trans (by kernel_rfl)
noncomputable def Q5 (O : aC) (t0 t1 : D) (m : Mem) : RV := by
 refine (fun _ : ?a = QA.step3 O [t0, t1] m => ?a) ?h
 case h => conv => {rhs; reduce; try dsimp only [ak, ay, aH, aA]}
theorem alk (O : aC) (t0 t1 : D) (m : Mem) : QA.step2 O [t0, t1] m = Q5 O t0 t1 m := (aJ ..).trans (by kernel_rfl)
noncomputable def Vo (O : aC) (t0 : D) (m : Mem) : RV := by
 refine (fun _ : ?a = FM.step3 O [t0] m => ?a) ?h
 case h => conv => {rhs; reduce; try dsimp only [ak, ay, aH, aA]}
theorem aey (O : aC) (t0 : D) (m : Mem) : FM.step2 O [t0] m = Vo O t0 m := (aJ ..).trans (by kernel_rfl)
noncomputable def DY (O : aC) (t0 : D) (m : Mem) : RV := by
 refine (fun _ : ?a = CJ.step3 O [t0] m => ?a) ?h
 case h => conv => {rhs; reduce; try dsimp only [ak, ay, aH, aA]}
theorem abv (O : aC) (t0 : D) (m : Mem) : CJ.step2 O [t0] m = DY O t0 m := (aJ ..).trans (by kernel_rfl)
noncomputable def L8 (O : aC) (t0 : D) (m : Mem) : RV := by
 refine (fun _ : ?a = Fp.step3 O [t0] m => ?a) ?h
 case h => conv => {rhs; reduce; try dsimp only [ak, ay, aH, aA]}
theorem aep (O : aC) (t0 : D) (m : Mem) : Fp.step2 O [t0] m = L8 O t0 m := (aJ ..).trans (by kernel_rfl)
noncomputable def Vl (O : aC) (t0 : D) (m : Mem) : RV := by
 refine (fun _ : ?a = FH.step3 O [t0] m => ?a) ?h
 case h => conv => {rhs; reduce; try dsimp only [ak, ay, aH, aA]}
theorem aew (O : aC) (t0 : D) (m : Mem) : FH.step2 O [t0] m = Vl O t0 m := (aJ ..).trans (by kernel_rfl)
noncomputable def Vg (O : aC) (t0 t1 : D) (m : Mem) : RV := by
 refine (fun _ : ?a = Fg.step3 O [t0, t1] m => ?a) ?h
 case h => conv => {rhs; reduce; try dsimp only [ak, ay, aH, aA]}
theorem aem (O : aC) (t0 t1 : D) (m : Mem) : Fg.step2 O [t0, t1] m = Vg O t0 t1 m := (aJ ..).trans (by kernel_rfl)
noncomputable def abb (O : aC) (t0 t1 : D) (m : Mem) : RV := by
 refine (fun _ : ?a = MS.step3 O [t0, t1] m => ?a) ?h
 case h => conv => {rhs; reduce; try dsimp only [ak, ay, aH, aA]}
theorem ajY (O : aC) (t0 t1 : D) (m : Mem) : MS.step2 O [t0, t1] m = abb O t0 t1 m := (aJ ..).trans (by kernel_rfl)
noncomputable def rF (O : aC) (t0 t1 : D) (m : Mem) : RV := by
 refine (fun _ : ?a = Fe.step3 O [t0, t1] m => ?a) ?h
 case h => conv => {rhs; reduce; try dsimp only [ak, ay, aH, aA]}
theorem ael (O : aC) (t0 t1 : D) (m : Mem) : Fe.step2 O [t0, t1] m = rF O t0 t1 m := (aJ ..).trans (by kernel_rfl)
noncomputable def L6 (O : aC) (t0 t1 : D) (m : Mem) : RV := by
 refine (fun _ : ?a = Fj.step3 O [t0, t1] m => ?a) ?h
 case h => conv => {rhs; reduce; try dsimp only [ak, ay, aH, aA]}
theorem aeo (O : aC) (t0 t1 : D) (m : Mem) : Fj.step2 O [t0, t1] m = L6 O t0 t1 m := (aJ ..).trans (by kernel_rfl)
noncomputable def rZ (O : aC) (base : Nat) (t1 t5 t6 : D) (m : Mem) : Option (Ex × List D × Mem) := by
 refine (fun _ : ?a = bG O [1, 5, 6] [2, 3, 4] lI lI base [t1, t5, t6] m => ?a) ?h
 case h => conv => {rhs; conv => {arg 5; delta lI}; reduce; try dsimp only [ak, ay, aH, aA]}
theorem D_ (O : aC) (base : Nat) (t1 t5 t6 : D) (m : Mem) : bC O [1, 5, 6] [2, 3, 4] lI base [t1, t5, t6] m = rZ O base t1 t5 t6 m := (aY ..).trans (by kernel_rfl)
noncomputable def Tq (O : aC) (t0 : D) (m : Mem) : RV := by
 refine (fun _ : ?a = CQ.step3 O [t0] m => ?a) ?h
 case h => conv => {rhs; reduce; try dsimp only [ak, ay, aH, aA]}
theorem aby (O : aC) (t0 : D) (m : Mem) : CQ.step2 O [t0] m = Tq O t0 m := (aJ ..).trans (by kernel_rfl)
noncomputable def vG (O : aC) (base : Nat) (t0 t2 t3 : D) (m : Mem) : Option (Ex × List D × Mem) := by
 refine (fun _ : ?a = bG O [0, 2, 3] [] fP fP base [t0, t2, t3] m => ?a) ?h
 case h => conv => {rhs; conv => {arg 5; delta fP}; reduce; try dsimp only [ak, ay, aH, aA]}
theorem D6 (O : aC) (base : Nat) (t0 t2 t3 : D) (m : Mem) : bC O [0, 2, 3] [] fP base [t0, t2, t3] m = vG O base t0 t2 t3 m := (aY ..).trans (by kernel_rfl)
noncomputable def I4 (O : aC) (t0 : D) (m : Mem) : RV := by
 refine (fun _ : ?a = sJ.step3 O [t0] m => ?a) ?h
 case h => conv => {rhs; reduce; try dsimp only [ak, ay, aH, aA]}
theorem TJ (O : aC) (t0 : D) (m : Mem) : sJ.step2 O [t0] m = I4 O t0 m := (aJ ..).trans (by kernel_rfl)
noncomputable def YK (O : aC) (t0 t1 : D) (m : Mem) : RV := by
 refine (fun _ : ?a = J6.step3 O [t0, t1] m => ?a) ?h
 case h => conv => {rhs; reduce; try dsimp only [ak, ay, aH, aA]}
theorem ahT (O : aC) (t0 t1 : D) (m : Mem) : J6.step2 O [t0, t1] m = YK O t0 t1 m := (aJ ..).trans (by kernel_rfl)
noncomputable def mM (O : aC) (base : Nat) (t2 t3 t6 t7 : D) (m : Mem) : Option (Ex × List D × Mem) := by
 refine (fun _ : ?a = bG O [2, 3, 6, 7] [4, 5, 6] gK gK base [t2, t3, t6, t7] m => ?a) ?h
 case h => conv => {rhs; conv => {arg 5; delta gK}; reduce; try dsimp only [ak, ay, aH, aA]}
theorem o7 (O : aC) (base : Nat) (t2 t3 t6 t7 : D) (m : Mem) : bC O [2, 3, 6, 7] [4, 5, 6] gK base [t2, t3, t6, t7] m = mM O base t2 t3 t6 t7 m := (aY ..).trans (by kernel_rfl)
noncomputable def FX (O : aC) (t0 t1 : D) (m : Mem) : RV := by
 refine (fun _ : ?a = ET.step3 O [t0, t1] m => ?a) ?h
 case h => conv => {rhs; reduce; try dsimp only [ak, ay, aH, aA]}
theorem Ls (O : aC) (t0 t1 : D) (m : Mem) : ET.step2 O [t0, t1] m = FX O t0 t1 m := (aJ ..).trans (by kernel_rfl)
noncomputable def O8 (O : aC) (t0 t1 t2 t3 t4 t5 : D) (m : Mem) : RV := by
 refine (fun _ : ?a = Ht.step3 O [t0, t1, t2, t3, t4, t5] m => ?a) ?h
 case h => conv => {rhs; reduce; try dsimp only [ak, ay, aH, aA]}
theorem afH (O : aC) (t0 t1 t2 t3 t4 t5 : D) (m : Mem) : Ht.step2 O [t0, t1, t2, t3, t4, t5] m = O8 O t0 t1 t2 t3 t4 t5 m := (aJ ..).trans (by kernel_rfl)
noncomputable def ZI (O : aC) (t0 : D) (m : Mem) : RV := by
 refine (fun _ : ?a = Ua.step3 O [t0] m => ?a) ?h
 case h => conv => {rhs; reduce; try dsimp only [ak, ay, aH, aA]}
theorem ane (O : aC) (t0 : D) (m : Mem) : Ua.step2 O [t0] m = ZI O t0 m := (aJ ..).trans (by kernel_rfl)
noncomputable def yI (O : aC) (t0 t1 : D) (m : Mem) : RV := by
 refine (fun _ : ?a = HY.step3 O [t0, t1] m => ?a) ?h
 case h => conv => {rhs; reduce; try dsimp only [ak, ay, aH, aA]}
theorem NZ (O : aC) (t0 t1 : D) (m : Mem) : HY.step2 O [t0, t1] m = yI O t0 t1 m := (aJ ..).trans (by kernel_rfl)
noncomputable def Gv (O : aC) (t0 : D) (m : Mem) : RV := by
 refine (fun _ : ?a = y7.step3 O [t0] m => ?a) ?h
 case h => conv => {rhs; reduce; try dsimp only [ak, ay, aH, aA]}
theorem YS (O : aC) (t0 : D) (m : Mem) : y7.step2 O [t0] m = Gv O t0 m := (aJ ..).trans (by kernel_rfl)
noncomputable def xJ (O : aC) (base : Nat) (t0 t2 t3 : D) (m : Mem) : Option (Ex × List D × Mem) := by
 refine (fun _ : ?a = bG O [0, 2, 3] [0, 2, 3] jF jF base [t0, t2, t3] m => ?a) ?h
 case h => conv => {rhs; conv => {arg 5; delta jF}; reduce; try dsimp only [ak, ay, aH, aA]}
theorem Ej (O : aC) (base : Nat) (t0 t2 t3 : D) (m : Mem) : bC O [0, 2, 3] [0, 2, 3] jF base [t0, t2, t3] m = xJ O base t0 t2 t3 m := (aY ..).trans (by kernel_rfl)
noncomputable def xK (O : aC) (base : Nat) (t0 t2 t3 : D) (m : Mem) : Option (Ex × List D × Mem) := by
 refine (fun _ : ?a = bG O [0, 2, 3] [0, 2, 3] jG jG base [t0, t2, t3] m => ?a) ?h
 case h => conv => {rhs; conv => {arg 5; delta jG}; reduce; try dsimp only [ak, ay, aH, aA]}
theorem Em (O : aC) (base : Nat) (t0 t2 t3 : D) (m : Mem) : bC O [0, 2, 3] [0, 2, 3] jG base [t0, t2, t3] m = xK O base t0 t2 t3 m := (aY ..).trans (by kernel_rfl)
noncomputable def Je (O : aC) (t0 : D) (m : Mem) : RV := by
 refine (fun _ : ?a = vk.step3 O [t0] m => ?a) ?h
 case h => conv => {rhs; reduce; try dsimp only [ak, ay, aH, aA]}
theorem Vt (O : aC) (t0 : D) (m : Mem) : vk.step2 O [t0] m = Je O t0 m := (aJ ..).trans (by kernel_rfl)
noncomputable def BR (O : aC) (t0 : D) (m : Mem) : RV := by
 refine (fun _ : ?a = wC.step3 O [t0] m => ?a) ?h
 case h => conv => {rhs; reduce; try dsimp only [ak, ay, aH, aA]}
theorem VT (O : aC) (t0 : D) (m : Mem) : wC.step2 O [t0] m = BR O t0 m := (aJ ..).trans (by kernel_rfl)
noncomputable def zK (O : aC) (t0 t1 : D) (m : Mem) : RV := by
 refine (fun _ : ?a = sH.step3 O [t0, t1] m => ?a) ?h
 case h => conv => {rhs; reduce; try dsimp only [ak, ay, aH, aA]}
theorem TI (O : aC) (t0 t1 : D) (m : Mem) : sH.step2 O [t0, t1] m = zK O t0 t1 m := (aJ ..).trans (by kernel_rfl)
noncomputable def Aq (O : aC) (base : Nat) (t1 t4 t5 : D) (m : Mem) : Option (Ex × List D × Mem) := by
 refine (fun _ : ?a = bG O [1, 4, 5] [1, 4] lD lD base [t1, t4, t5] m => ?a) ?h
 case h => conv => {rhs; conv => {arg 5; delta lD}; reduce; try dsimp only [ak, ay, aH, aA]}
theorem I_ (O : aC) (base : Nat) (t1 t4 t5 : D) (m : Mem) : bC O [1, 4, 5] [1, 4] lD base [t1, t4, t5] m = Aq O base t1 t4 t5 m := (aY ..).trans (by kernel_rfl)
noncomputable def Ar (O : aC) (base : Nat) (t1 t4 t6 : D) (m : Mem) : Option (Ex × List D × Mem) := by
 refine (fun _ : ?a = bG O [1, 4, 6] [1, 4] lF lF base [t1, t4, t6] m => ?a) ?h
 case h => conv => {rhs; conv => {arg 5; delta lF}; reduce; try dsimp only [ak, ay, aH, aA]}
theorem Ja (O : aC) (base : Nat) (t1 t4 t6 : D) (m : Mem) : bC O [1, 4, 6] [1, 4] lF base [t1, t4, t6] m = Ar O base t1 t4 t6 m := (aY ..).trans (by kernel_rfl)
noncomputable def zL (O : aC) (t0 : D) (m : Mem) : RV := by
 refine (fun _ : ?a = y8.step3 O [t0] m => ?a) ?h
 case h => conv => {rhs; reduce; try dsimp only [ak, ay, aH, aA]}
theorem N9 (O : aC) (t0 : D) (m : Mem) : y8.step2 O [t0] m = zL O t0 m := (aJ ..).trans (by kernel_rfl)
noncomputable def jI (O : aC) (base : Nat) (t0 t1 t7 t8 : D) (m : Mem) : Option (Ex × List D × Mem) := by
 refine (fun _ : ?a = bG O [0, 1, 7, 8] [4] eU eU base [t0, t1, t7, t8] m => ?a) ?h
 case h => conv => {rhs; conv => {arg 5; delta eU}; reduce; try dsimp only [ak, ay, aH, aA]}
theorem um (O : aC) (base : Nat) (t0 t1 t7 t8 : D) (m : Mem) : bC O [0, 1, 7, 8] [4] eU base [t0, t1, t7, t8] m = jI O base t0 t1 t7 t8 m := (aY ..).trans (by kernel_rfl)
noncomputable def oN (O : aC) (t0 t1 : D) (m : Mem) : RV := by
 refine (fun _ : ?a = kE.step3 O [t0, t1] m => ?a) ?h
 case h => conv => {rhs; reduce; try dsimp only [ak, ay, aH, aA]}
theorem I8 (O : aC) (t0 t1 : D) (m : Mem) : kE.step2 O [t0, t1] m = oN O t0 t1 m := (aJ ..).trans (by kernel_rfl)
noncomputable def RH (O : aC) (t0 t1 : D) (m : Mem) : RV := by
 refine (fun _ : ?a = Ku.step3 O [t0, t1] m => ?a) ?h
 case h => conv => {rhs; reduce; try dsimp only [ak, ay, aH, aA]}
theorem ahY (O : aC) (t0 t1 : D) (m : Mem) : Ku.step2 O [t0, t1] m = RH O t0 t1 m := (aJ ..).trans (by kernel_rfl)
noncomputable def FW (O : aC) (t0 t1 : D) (m : Mem) : RV := by
 refine (fun _ : ?a = EK.step3 O [t0, t1] m => ?a) ?h
 case h => conv => {rhs; reduce; try dsimp only [ak, ay, aH, aA]}
theorem Lr (O : aC) (t0 t1 : D) (m : Mem) : EK.step2 O [t0, t1] m = FW O t0 t1 m := (aJ ..).trans (by kernel_rfl)
noncomputable def KG (O : aC) (t0 t1 t2 : D) (m : Mem) : RV := by
 refine (fun _ : ?a = JY.step3 O [t0, t1, t2] m => ?a) ?h
 case h => conv => {rhs; reduce; try dsimp only [ak, ay, aH, aA]}
theorem Yi (O : aC) (t0 t1 t2 : D) (m : Mem) : JY.step2 O [t0, t1, t2] m = KG O t0 t1 t2 m := (aJ ..).trans (by kernel_rfl)
noncomputable def wZ (O : aC) (base : Nat) (t1 t2 t6 t7 t10 t39 t40 t41 : D) (m : Mem) : Option (Ex × List D × Mem) := by
 refine (fun _ : ?a = bG O [1, 2, 6, 7, 10, 39, 40, 41] [1, 2, 6, 7, 10] kG kG base [t1, t2, t6, t7, t10, t39, t40, t41] m => ?a) ?h
 case h => conv => {rhs; conv => {arg 5; delta kG}; reduce; try dsimp only [ak, ay, aH, aA]}
theorem A8 (O : aC) (base : Nat) (t1 t2 t6 t7 t10 t39 t40 t41 : D) (m : Mem) : bC O [1, 2, 6, 7, 10, 39, 40, 41] [1, 2, 6, 7, 10] kG base [t1, t2, t6, t7, t10, t39, t40, t41] m = wZ O base t1 t2 t6 t7 t10 t39 t40 t41 m := (aY ..).trans (by kernel_rfl)
noncomputable def wY (O : aC) (t0 t1 : D) (m : Mem) : RV := by
 refine (fun _ : ?a = AU.step3 O [t0, t1] m => ?a) ?h
 case h => conv => {rhs; reduce; try dsimp only [ak, ay, aH, aA]}
theorem Az (O : aC) (t0 t1 : D) (m : Mem) : AU.step2 O [t0, t1] m = wY O t0 t1 m := (aJ ..).trans (by kernel_rfl)
noncomputable def xW (O : aC) (base : Nat) (t1 t2 t8 t9 t10 t11 t12 : D) (m : Mem) : Option (Ex × List D × Mem) := by
 refine (fun _ : ?a = bG O [1, 2, 8, 9, 10, 11, 12] [9, 10, 11] iE iE base [t1, t2, t8, t9, t10, t11, t12] m => ?a) ?h
 case h => conv => {rhs; conv => {arg 5; delta iE}; reduce; try dsimp only [ak, ay, aH, aA]}
theorem Eb (O : aC) (base : Nat) (t1 t2 t8 t9 t10 t11 t12 : D) (m : Mem) : bC O [1, 2, 8, 9, 10, 11, 12] [9, 10, 11] iE base [t1, t2, t8, t9, t10, t11, t12] m = xW O base t1 t2 t8 t9 t10 t11 t12 m := (aY ..).trans (by kernel_rfl)
noncomputable def Tv (O : aC) (t0 t1 t2 : D) (m : Mem) : RV := by
 refine (fun _ : ?a = CU.step3 O [t0, t1, t2] m => ?a) ?h
 case h => conv => {rhs; reduce; try dsimp only [ak, ay, aH, aA]}
theorem abA (O : aC) (t0 t1 t2 : D) (m : Mem) : CU.step2 O [t0, t1, t2] m = Tv O t0 t1 t2 m := (aJ ..).trans (by kernel_rfl)
noncomputable def IZ (O : aC) (t0 t1 : D) (m : Mem) : RV := by
 refine (fun _ : ?a = H8.step3 O [t0, t1] m => ?a) ?h
 case h => conv => {rhs; reduce; try dsimp only [ak, ay, aH, aA]}
theorem N7 (O : aC) (t0 t1 : D) (m : Mem) : H8.step2 O [t0, t1] m = IZ O t0 t1 m := (aJ ..).trans (by kernel_rfl)
noncomputable def Mc (O : aC) (t0 t1 : D) (m : Mem) : RV := by
 refine (fun _ : ?a = FI.step3 O [t0, t1] m => ?a) ?h
 case h => conv => {rhs; reduce; try dsimp only [ak, ay, aH, aA]}
theorem U0 (O : aC) (t0 t1 : D) (m : Mem) : FI.step2 O [t0, t1] m = Mc O t0 t1 m := (aJ ..).trans (by kernel_rfl)
noncomputable def YN (O : aC) (m : Mem) : RV := by
 refine (fun _ : ?a = Kv.step3 O [] m => ?a) ?h
 case h => conv => {rhs; reduce; try dsimp only [ak, ay, aH, aA]}
theorem ahZ (O : aC) (m : Mem) : Kv.step2 O [] m = YN O m := (aJ ..).trans (by kernel_rfl)
end Go.Ev.Code
end
section
namespace Go.Ev.Code
open Go Go.Ev
set_option maxRecDepth 100000
attribute [local irreducible] Us Xa bd jn SB JW gc YD I7 Lp Jj fz jV hdI tlI List.length List.append AZ Xn Nl Xh KX zU KZ IG BO KY Xi QS IJ dZ qQ DU Xk Ry Rx Xj ZC ZF Xo ZG Xp QT QV Nh Xq OX Na FV BN Nb Xm Xl QU IE rMn rMx UE wU rO IC UF Nj II KD Np KC Nc ZE
attribute [local irreducible] jE iM jZ iL iO dF kH vN lT Af iF jq gG jR kW lH iW h_ gI jh gZ jD fA yF Aa oG xY nX gY qB sS zV rW kT fG kN kJ qF qL pX strings_Cut Ju lS fC b_ mZ gW dB cZ nM bY nK uS gu bM uM slices_Reverse_int fU xw sF mg jg nZ pK jW mJ dU kX fJ wQ tJ Bf rC uO wS lX BL Ew BP Tc rX Bg Bh vZ jK jf vJ strings_CutPrefix kM iD g_ iK iI cu bK nI iJ qo jS lU qA uq eu yV zC jH kK uN qm ug fM mW vK B_ O0 oZ rU Bl uo SG sQ F8 je iQ GR fF bits_Mul64 bits_Add64 wK lV wM Gp bits_Sub64 GK iH pY yO gQ GH Gi jB GI Bo t_ DX rV xq dJ fK strings_Repeat slices_Reverse_string strings_Join qj zu Ae nat_bit BH sD bits_LeadingZeros64 zo BG BI BF gU Bj kD kQ og OB Bq KN KO rP BD strconv_Itoa bits_TrailingZeros64 Jo Hf GU zT rQ oI zS H_ tK GV ru GX jU ou yt iy dR j_ jl zN hndB QW o9 o_ mX pF oK n_ lM yX qX qY yT yU vX aaC kC nJ oJ pG uH ql xA xB Ti eX mY tY wL tX oz oC tV qH uI uG yK D8
noncomputable def xI (O : aC) (t0 : D) (m : Mem) : RV := by
 refine (fun _ : ?a = JZ.step3 O [t0] m => ?a) ?h
 case h => conv => {rhs; reduce; try dsimp only [ak, ay, aH, aA]}
theorem ahP (O : aC) (t0 : D) (m : Mem) : JZ.step2 O [t0] m = xI O t0 m := (aJ ..).trans (by kernel_rfl)
noncomputable def nN (O : aC) (t0 : D) (m : Mem) : RV := by
 refine (fun _ : ?a = J3.step3 O [t0] m => ?a) ?h
 case h => conv => {rhs; reduce; try dsimp only [ak, ay, aH, aA]}
theorem ahQ (O : aC) (t0 : D) (m : Mem) : J3.step2 O [t0] m = nN O t0 m := (aJ ..).trans (by kernel_rfl)
noncomputable def Rz (O : aC) (t0 : D) (m : Mem) : RV := by
 refine (fun _ : ?a = J4.step3 O [t0] m => ?a) ?h
 case h => conv => {rhs; reduce; try dsimp only [ak, ay, aH, aA]}
theorem ahR (O : aC) (t0 : D) (m : Mem) : J4.step2 O [t0] m = Rz O t0 m := (aJ ..).trans (by kernel_rfl)
noncomputable def QZ (O : aC) (t0 t1 : D) (m : Mem) : RV := by
 refine (fun _ : ?a = AP.step3 O [t0, t1] m => ?a) ?h
 case h => conv => {rhs; reduce; try dsimp only [ak, ay, aH, aA]}
theorem ZR (O : aC) (t0 t1 : D) (m : Mem) : AP.step2 O [t0, t1] m = QZ O t0 t1 m := (aJ ..).trans (by kernel_rfl)
noncomputable def JL (O : aC) (t0 : D) (m : Mem) : RV := by
 refine (fun _ : ?a = CO.step3 O [t0] m => ?a) ?h
 case h => conv => {rhs; reduce; try dsimp only [ak, ay, aH, aA]}
theorem abw (O : aC) (t0 : D) (m : Mem) : CO.step2 O [t0] m = JL O t0 m := (aJ ..).trans (by kernel_rfl)
noncomputable def jA (O : aC) (t0 : D) (m : Mem) : RV := by
 refine (fun _ : ?a = Qs.step3 O [t0] m => ?a) ?h
 case h => conv => {rhs; reduce; try dsimp only [ak, ay, aH, aA]}
theorem acK (O : aC) (t0 : D) (m : Mem) : Qs.step2 O [t0] m = jA O t0 m := (aJ ..).trans (by kernel_rfl)
noncomputable def ahs (O : aC) (t0 : D) (m : Mem) : RV := by
 refine (fun _ : ?a = T_.step3 O [t0] m => ?a) ?h
 case h => conv => {rhs; reduce; try dsimp only [ak, ay, aH, aA]}
theorem anc (O : aC) (t0 : D) (m : Mem) : T_.step2 O [t0] m = ahs O t0 m := (aJ ..).trans (by kernel_rfl)
noncomputable def Gt (O : aC) (base : Nat) (t6 t7 t8 t9 t10 t26 t27 t28 t33 t34 t35 : D) (m : Mem) : Option (Ex × List D × Mem) := by
 refine (fun _ : ?a = bG O [6, 7, 8, 9, 10, 26, 27, 28, 33, 34, 35] [6, 7, 8, 10, 26, 27, 28] o9 o9 base [t6, t7, t8, t9, t10, t26, t27, t28, t33, t34, t35] m => ?a) ?h
 case h => conv => {rhs; conv => {arg 5; delta o9}; reduce; try dsimp only [ak, ay, aH, aA]}
theorem NT (O : aC) (base : Nat) (t6 t7 t8 t9 t10 t26 t27 t28 t33 t34 t35 : D) (m : Mem) : bC O [6, 7, 8, 9, 10, 26, 27, 28, 33, 34, 35] [6, 7, 8, 10, 26, 27, 28] o9 base [t6, t7, t8, t9, t10, t26, t27, t28, t33, t34, t35] m = Gt O base t6 t7 t8 t9 t10 t26 t27 t28 t33 t34 t35 m := (aY ..).trans (by kernel_rfl)
noncomputable def Gu (O : aC) (base : Nat) (t6 t7 t26 t27 t28 : D) (m : Mem) : Option (Ex × List D × Mem) := by
 refine (fun _ : ?a = bG O [6, 7, 26, 27, 28] [7] o_ o_ base [t6, t7, t26, t27, t28] m => ?a) ?h
 case h => conv => {rhs; conv => {arg 5; delta o_}; reduce; try dsimp only [ak, ay, aH, aA]}
theorem NU (O : aC) (base : Nat) (t6 t7 t26 t27 t28 : D) (m : Mem) : bC O [6, 7, 26, 27, 28] [7] o_ base [t6, t7, t26, t27, t28] m = Gu O base t6 t7 t26 t27 t28 m := (aY ..).trans (by kernel_rfl)
noncomputable def Vb (O : aC) (t0 t1 : D) (m : Mem) : RV := by
 refine (fun _ : ?a = E5.step3 O [t0, t1] m => ?a) ?h
 case h => conv => {rhs; reduce; try dsimp only [ak, ay, aH, aA]}
theorem aeg (O : aC) (t0 t1 : D) (m : Mem) : E5.step2 O [t0, t1] m = Vb O t0 t1 m := (aJ ..).trans (by kernel_rfl)
noncomputable def zI (O : aC) (base : Nat) (t5 t6 t7 t8 t27 t28 : D) (m : Mem) : Option (Ex × List D × Mem) := by
 refine (fun _ : ?a = bG O [5, 6, 7, 8, 27, 28] [5, 7, 8] mX mX base [t5, t6, t7, t8, t27, t28] m => ?a) ?h
 case h => conv => {rhs; conv => {arg 5; delta mX}; reduce; try dsimp only [ak, ay, aH, aA]}
theorem NS (O : aC) (base : Nat) (t5 t6 t7 t8 t27 t28 : D) (m : Mem) : bC O [5, 6, 7, 8, 27, 28] [5, 7, 8] mX base [t5, t6, t7, t8, t27, t28] m = zI O base t5 t6 t7 t8 t27 t28 m := (aY ..).trans (by kernel_rfl)
noncomputable def LV (O : aC) (t0 t1 : D) (m : Mem) : RV := by
 refine (fun _ : ?a = EW.step3 O [t0, t1] m => ?a) ?h
 case h => conv => {rhs; reduce; try dsimp only [ak, ay, aH, aA]}
theorem aec (O : aC) (t0 t1 : D) (m : Mem) : EW.step2 O [t0, t1] m = LV O t0 t1 m := (aJ ..).trans (by kernel_rfl)
noncomputable def IW (O : aC) (t0 : D) (m : Mem) : RV := by
 refine (fun _ : ?a = AQ.step3 O [t0] m => ?a) ?h
 case h => conv => {rhs; reduce; try dsimp only [ak, ay, aH, aA]}
theorem PE (O : aC) (t0 : D) (m : Mem) : AQ.step2 O [t0] m = IW O t0 m := (aJ ..).trans (by kernel_rfl)
noncomputable def Vf (O : aC) (t0 : D) (m : Mem) : RV := by
 refine (fun _ : ?a = Fb.step3 O [t0] m => ?a) ?h
 case h => conv => {rhs; reduce; try dsimp only [ak, ay, aH, aA]}
theorem aek (O : aC) (t0 : D) (m : Mem) : Fb.step2 O [t0] m = Vf O t0 m := (aJ ..).trans (by kernel_rfl)
noncomputable def rD (O : aC) (t0 t1 : D) (m : Mem) : RV := by
 refine (fun _ : ?a = EZ.step3 O [t0, t1] m => ?a) ?h
 case h => conv => {rhs; reduce; try dsimp only [ak, ay, aH, aA]}
theorem aef (O : aC) (t0 t1 : D) (m : Mem) : EZ.step2 O [t0, t1] m = rD O t0 t1 m := (aJ ..).trans (by kernel_rfl)
noncomputable def FY (O : aC) (t0 t1 : D) (m : Mem) : RV := by
 refine (fun _ : ?a = EY.step3 O [t0, t1] m => ?a) ?h
 case h => conv => {rhs; reduce; try dsimp only [ak, ay, aH, aA]}
theorem aee (O : aC) (t0 t1 : D) (m : Mem) : EY.step2 O [t0, t1] m = FY O t0 t1 m := (aJ ..).trans (by kernel_rfl)
noncomputable def Vj (O : aC) (t0 t1 : D) (m : Mem) : RV := by
 refine (fun _ : ?a = Fq.step3 O [t0, t1] m => ?a) ?h
 case h => conv => {rhs; reduce; try dsimp only [ak, ay, aH, aA]}
theorem aer (O : aC) (t0 t1 : D) (m : Mem) : Fq.step2 O [t0, t1] m = Vj O t0 t1 m := (aJ ..).trans (by kernel_rfl)
noncomputable def Va (O : aC) (t0 t1 : D) (m : Mem) : RV := by
 refine (fun _ : ?a = EX.step3 O [t0, t1] m => ?a) ?h
 case h => conv => {rhs; reduce; try dsimp only [ak, ay, aH, aA]}
theorem aed (O : aC) (t0 t1 : D) (m : Mem) : EX.step2 O [t0, t1] m = Va O t0 t1 m := (aJ ..).trans (by kernel_rfl)
noncomputable def zJ (O : aC) (base : Nat) (t6 t7 t8 t9 t25 t26 : D) (m : Mem) : Option (Ex × List D × Mem) := by
 refine (fun _ : ?a = bG O [6, 7, 8, 9, 25, 26] [8] pF pF base [t6, t7, t8, t9, t25, t26] m => ?a) ?h
 case h => conv => {rhs; conv => {arg 5; delta pF}; reduce; try dsimp only [ak, ay, aH, aA]}
theorem NV (O : aC) (base : Nat) (t6 t7 t8 t9 t25 t26 : D) (m : Mem) : bC O [6, 7, 8, 9, 25, 26] [8] pF base [t6, t7, t8, t9, t25, t26] m = zJ O base t6 t7 t8 t9 t25 t26 m := (aY ..).trans (by kernel_rfl)
noncomputable def Ve (O : aC) (t0 t1 : D) (m : Mem) : RV := by
 refine (fun _ : ?a = E_.step3 O [t0, t1] m => ?a) ?h
 case h => conv => {rhs; reduce; try dsimp only [ak, ay, aH, aA]}
theorem aei (O : aC) (t0 t1 : D) (m : Mem) : E_.step2 O [t0, t1] m = Ve O t0 t1 m := (aJ ..).trans (by kernel_rfl)
noncomputable def L9 (O : aC) (t0 t1 : D) (m : Mem) : RV := by
 refine (fun _ : ?a = Fv.step3 O [t0, t1] m => ?a) ?h
 case h => conv => {rhs; reduce; try dsimp only [ak, ay, aH, aA]}
theorem aes (O : aC) (t0 t1 : D) (m : Mem) : Fv.step2 O [t0, t1] m = L9 O t0 t1 m := (aJ ..).trans (by kernel_rfl)
noncomputable def JD (O : aC) (t0 : D) (m : Mem) : RV := by
 refine (fun _ : ?a = Ci.step3 O [t0] m => ?a) ?h
 case h => conv => {rhs; reduce; try dsimp only [ak, ay, aH, aA]}
theorem abp (O : aC) (t0 : D) (m : Mem) : Ci.step2 O [t0] m = JD O t0 m := (aJ ..).trans (by kernel_rfl)
noncomputable def JE (O : aC) (t0 : D) (m : Mem) : RV := by
 refine (fun _ : ?a = Cj.step3 O [t0] m => ?a) ?h
 case h => conv => {rhs; reduce; try dsimp only [ak, ay, aH, aA]}
theorem abq (O : aC) (t0 : D) (m : Mem) : Cj.step2 O [t0] m = JE O t0 m := (aJ ..).trans (by kernel_rfl)
noncomputable def O7 (O : aC) (t0 t1 t2 : D) (m : Mem) : RV := by
 refine (fun _ : ?a = Hr.step3 O [t0, t1, t2] m => ?a) ?h
 case h => conv => {rhs; reduce; try dsimp only [ak, ay, aH, aA]}
theorem afG (O : aC) (t0 t1 t2 : D) (m : Mem) : Hr.step2 O [t0, t1, t2] m = O7 O t0 t1 t2 m := (aJ ..).trans (by kernel_rfl)
noncomputable def qV (O : aC) (base : Nat) (t1 t2 t6 : D) (m : Mem) : Option (Ex × List D × Mem) := by
 refine (fun _ : ?a = bG O [1, 2, 6] [4, 5] oK oK base [t1, t2, t6] m => ?a) ?h
 case h => conv => {rhs; conv => {arg 5; delta oK}; reduce; try dsimp only [ak, ay, aH, aA]}
theorem ZV (O : aC) (base : Nat) (t1 t2 t6 : D) (m : Mem) : bC O [1, 2, 6] [4, 5] oK base [t1, t2, t6] m = qV O base t1 t2 t6 m := (aY ..).trans (by kernel_rfl)
noncomputable def Pg (O : aC) (t0 t1 : D) (m : Mem) : RV := by
 refine (fun _ : ?a = H6.step3 O [t0, t1] m => ?a) ?h
 case h => conv => {rhs; reduce; try dsimp only [ak, ay, aH, aA]}
theorem afK (O : aC) (t0 t1 : D) (m : Mem) : H6.step2 O [t0, t1] m = Pg O t0 t1 m := (aJ ..).trans (by kernel_rfl)
noncomputable def Lj (O : aC) (t0 : D) (m : Mem) : RV := by
 refine (fun _ : ?a = wF.step3 O [t0] m => ?a) ?h
 case h => conv => {rhs; reduce; try dsimp only [ak, ay, aH, aA]}
theorem VW (O : aC) (t0 : D) (m : Mem) : wF.step2 O [t0] m = Lj O t0 m := (aJ ..).trans (by kernel_rfl)
noncomputable def w_ (O : aC) (t0 : D) (m : Mem) : RV := by
 refine (fun _ : ?a = wE.step3 O [t0] m => ?a) ?h
 case h => conv => {rhs; reduce; try dsimp only [ak, ay, aH, aA]}
theorem VU (O : aC) (t0 : D) (m : Mem) : wE.step2 O [t0] m = w_ O t0 m := (aJ ..).trans (by kernel_rfl)
noncomputable def Eh (O : aC) (base : Nat) (t0 t4 t18 t19 t20 : D) (m : Mem) : Option (Ex × List D × Mem) := by
 refine (fun _ : ?a = bG O [0, 4, 18, 19, 20] [0, 4] n_ n_ base [t0, t4, t18, t19, t20] m => ?a) ?h
 case h => conv => {rhs; conv => {arg 5; delta n_}; reduce; try dsimp only [ak, ay, aH, aA]}
theorem Md (O : aC) (base : Nat) (t0 t4 t18 t19 t20 : D) (m : Mem) : bC O [0, 4, 18, 19, 20] [0, 4] n_ base [t0, t4, t18, t19, t20] m = Eh O base t0 t4 t18 t19 t20 m := (aY ..).trans (by kernel_rfl)
noncomputable def xU (O : aC) (base : Nat) (t4 t11 t43 t44 t45 : D) (m : Mem) : Option (Ex × List D × Mem) := by
 refine (fun _ : ?a = bG O [4, 11, 43, 44, 45] [4, 11] lM lM base [t4, t11, t43, t44, t45] m => ?a) ?h
 case h => conv => {rhs; conv => {arg 5; delta lM}; reduce; try dsimp only [ak, ay, aH, aA]}
theorem Ea (O : aC) (base : Nat) (t4 t11 t43 t44 t45 : D) (m : Mem) : bC O [4, 11, 43, 44, 45] [4, 11] lM base [t4, t11, t43, t44, t45] m = xU O base t4 t11 t43 t44 t45 m := (aY ..).trans (by kernel_rfl)
noncomputable def Tt (O : aC) (t0 : D) (m : Mem) : RV := by
 refine (fun _ : ?a = CS.step3 O [t0] m => ?a) ?h
 case h => conv => {rhs; reduce; try dsimp only [ak, ay, aH, aA]}
theorem abz (O : aC) (t0 : D) (m : Mem) : CS.step2 O [t0] m = Tt O t0 m := (aJ ..).trans (by kernel_rfl)
noncomputable def Vh (O : aC) (t0 t1 : D) (m : Mem) : RV := by
 refine (fun _ : ?a = Fh.step3 O [t0, t1] m => ?a) ?h
 case h => conv => {rhs; reduce; try dsimp only [ak, ay, aH, aA]}
theorem aen (O : aC) (t0 t1 : D) (m : Mem) : Fh.step2 O [t0, t1] m = Vh O t0 t1 m := (aJ ..).trans (by kernel_rfl)
noncomputable def O_ (O : aC) (base : Nat) (t1 t4 t5 : D) (m : Mem) : Option (Ex × List D × Mem) := by
 refine (fun _ : ?a = bG O [1, 4, 5] [4] yX yX base [t1, t4, t5] m => ?a) ?h
 case h => conv => {rhs; conv => {arg 5; delta yX}; reduce; try dsimp only [ak, ay, aH, aA]}
theorem VL (O : aC) (base : Nat) (t1 t4 t5 : D) (m : Mem) : bC O [1, 4, 5] [4] yX base [t1, t4, t5] m = O_ O base t1 t4 t5 m := (aY ..).trans (by kernel_rfl)
noncomputable def QY (O : aC) (t0 : D) (m : Mem) : RV := by
 refine (fun _ : ?a = Qq.step3 O [t0] m => ?a) ?h
 case h => conv => {rhs; reduce; try dsimp only [ak, ay, aH, aA]}
theorem acJ (O : aC) (t0 : D) (m : Mem) : Qq.step2 O [t0] m = QY O t0 m := (aJ ..).trans (by kernel_rfl)
noncomputable def IU (O : aC) (base : Nat) (t0 t2 t4 : D) (m : Mem) : Option (Ex × List D × Mem) := by
 refine (fun _ : ?a = bG O [0, 2, 4] [0, 2, 4] qX qX base [t0, t2, t4] m => ?a) ?h
 case h => conv => {rhs; conv => {arg 5; delta qX}; reduce; try dsimp only [ak, ay, aH, aA]}
theorem Pz (O : aC) (base : Nat) (t0 t2 t4 : D) (m : Mem) : bC O [0, 2, 4] [0, 2, 4] qX base [t0, t2, t4] m = IU O base t0 t2 t4 m := (aY ..).trans (by kernel_rfl)
noncomputable def IV (O : aC) (base : Nat) (t2 t4 t5 : D) (m : Mem) : Option (Ex × List D × Mem) := by
 refine (fun _ : ?a = bG O [2, 4, 5] [2, 4, 5] qY qY base [t2, t4, t5] m => ?a) ?h
 case h => conv => {rhs; conv => {arg 5; delta qY}; reduce; try dsimp only [ak, ay, aH, aA]}
theorem PD (O : aC) (base : Nat) (t2 t4 t5 : D) (m : Mem) : bC O [2, 4, 5] [2, 4, 5] qY base [t2, t4, t5] m = IV O base t2 t4 t5 m := (aY ..).trans (by kernel_rfl)
noncomputable def O9 (O : aC) (t0 : D) (m : Mem) : RV := by
 refine (fun _ : ?a = Hu.step3 O [t0] m => ?a) ?h
 case h => conv => {rhs; reduce; try dsimp only [ak, ay, aH, aA]}
theorem VK (O : aC) (t0 : D) (m : Mem) : Hu.step2 O [t0] m = O9 O t0 m := (aJ ..).trans (by kernel_rfl)
noncomputable def nP (O : aC) (t0 t1 t2 : D) (m : Mem) : RV := by
 refine (fun _ : ?a = J9.step3 O [t0, t1, t2] m => ?a) ?h
 case h => conv => {rhs; reduce; try dsimp only [ak, ay, aH, aA]}
theorem zZ (O : aC) (t0 t1 t2 : D) (m : Mem) : J9.step2 O [t0, t1, t2] m = nP O t0 t1 t2 m := (aJ ..).trans (by kernel_rfl)
noncomputable def Xv (O : aC) (base : Nat) (t0 t6 t35 t36 t37 : D) (m : Mem) : Option (Ex × List D × Mem) := by
 refine (fun _ : ?a = bG O [0, 6, 35, 36, 37] [0, 6] yT yT base [t0, t6, t35, t36, t37] m => ?a) ?h
 case h => conv => {rhs; conv => {arg 5; delta yT}; reduce; try dsimp only [ak, ay, aH, aA]}
theorem afF (O : aC) (base : Nat) (t0 t6 t35 t36 t37 : D) (m : Mem) : bC O [0, 6, 35, 36, 37] [0, 6] yT base [t0, t6, t35, t36, t37] m = Xv O base t0 t6 t35 t36 t37 m := (aY ..).trans (by kernel_rfl)
noncomputable def O5 (O : aC) (base : Nat) (t6 t10 t11 t47 t48 t49 : D) (m : Mem) : Option (Ex × List D × Mem) := by
 refine (fun _ : ?a = bG O [6, 10, 11, 47, 48, 49] [6, 47, 48, 49] yU yU base [t6, t10, t11, t47, t48, t49] m => ?a) ?h
 case h => conv => {rhs; conv => {arg 5; delta yU}; reduce; try dsimp only [ak, ay, aH, aA]}
theorem VI (O : aC) (base : Nat) (t6 t10 t11 t47 t48 t49 : D) (m : Mem) : bC O [6, 10, 11, 47, 48, 49] [6, 47, 48, 49] yU base [t6, t10, t11, t47, t48, t49] m = O5 O base t6 t10 t11 t47 t48 t49 m := (aY ..).trans (by kernel_rfl)
noncomputable def O6 (O : aC) (base : Nat) (t6 t47 t48 t49 : D) (m : Mem) : Option (Ex × List D × Mem) := by
 refine (fun _ : ?a = bG O [6, 47, 48, 49] [6] vX vX base [t6, t47, t48, t49] m => ?a) ?h
 case h => conv => {rhs; conv => {arg 5; delta vX}; reduce; try dsimp only [ak, ay, aH, aA]}
theorem VJ (O : aC) (base : Nat) (t6 t47 t48 t49 : D) (m : Mem) : bC O [6, 47, 48, 49] [6] vX base [t6, t47, t48, t49] m = O6 O base t6 t47 t48 t49 m := (aY ..).trans (by kernel_rfl)
noncomputable def adJ (O : aC) (t0 t1 : D) (m : Mem) : RV := by
 refine (fun _ : ?a = Qp.step3 O [t0, t1] m => ?a) ?h
 case h => conv => {rhs; reduce; try dsimp only [ak, ay, aH, aA]}
theorem alf (O : aC) (t0 t1 : D) (m : Mem) : Qp.step2 O [t0, t1] m = adJ O t0 t1 m := (aJ ..).trans (by kernel_rfl)
noncomputable def Xx (O : aC) (t0 : D) (m : Mem) : RV := by
 refine (fun _ : ?a = Hy.step3 O [t0] m => ?a) ?h
 case h => conv => {rhs; reduce; try dsimp only [ak, ay, aH, aA]}
theorem afI (O : aC) (t0 : D) (m : Mem) : Hy.step2 O [t0] m = Xx O t0 m := (aJ ..).trans (by kernel_rfl)
noncomputable def jX (O : aC) (base : Nat) (t3 t4 : D) (m : Mem) : Option (Ex × List D × Mem) := by
 refine (fun _ : ?a = bG O [3, 4] [3] kC kC base [t3, t4] m => ?a) ?h
 case h => conv => {rhs; conv => {arg 5; delta kC}; reduce; try dsimp only [ak, ay, aH, aA]}
theorem rH (O : aC) (base : Nat) (t3 t4 : D) (m : Mem) : bC O [3, 4] [3] kC base [t3, t4] m = jX O base t3 t4 m := (aY ..).trans (by kernel_rfl)
noncomputable def JH (O : aC) (t0 : D) (m : Mem) : RV := by
 refine (fun _ : ?a = CB.step3 O [t0] m => ?a) ?h
 case h => conv => {rhs; reduce; try dsimp only [ak, ay, aH, aA]}
theorem abt (O : aC) (t0 : D) (m : Mem) : CB.step2 O [t0] m = JH O t0 m := (aJ ..).trans (by kernel_rfl)
noncomputable def adK (O : aC) (t0 : D) (m : Mem) : RV := by
 refine (fun _ : ?a = Qu.step3 O [t0] m => ?a) ?h
 case h => conv => {rhs; reduce; try dsimp only [ak, ay, aH, aA]}
theorem alh (O : aC) (t0 : D) (m : Mem) : Qu.step2 O [t0] m = adK O t0 m := (aJ ..).trans (by kernel_rfl)
noncomputable def rE (O : aC) (base : Nat) (t0 : D) (m : Mem) : Option (Ex × List D × Mem) := by
 refine (fun _ : ?a = bG O [0] [0] nJ nJ base [t0] m => ?a) ?h
 case h => conv => {rhs; conv => {arg 5; delta nJ}; reduce; try dsimp only [ak, ay, aH, aA]}
theorem EI (O : aC) (base : Nat) (t0 : D) (m : Mem) : bC O [0] [0] nJ base [t0] m = rE O base t0 m := (aY ..).trans (by kernel_rfl)
noncomputable def UK (O : aC) (t0 : D) (m : Mem) : RV := by
 refine (fun _ : ?a = MQ.step3 O [t0] m => ?a) ?h
 case h => conv => {rhs; reduce; try dsimp only [ak, ay, aH, aA]}
theorem ZU (O : aC) (t0 : D) (m : Mem) : MQ.step2 O [t0] m = UK O t0 m := (aJ ..).trans (by kernel_rfl)
noncomputable def wX (O : aC) (base : Nat) (t0 t1 t5 : D) (m : Mem) : Option (Ex × List D × Mem) := by
 refine (fun _ : ?a = bG O [0, 1, 5] [4] oJ oJ base [t0, t1, t5] m => ?a) ?h
 case h => conv => {rhs; conv => {arg 5; delta oJ}; reduce; try dsimp only [ak, ay, aH, aA]}
theorem Aw (O : aC) (base : Nat) (t0 t1 t5 : D) (m : Mem) : bC O [0, 1, 5] [4] oJ base [t0, t1, t5] m = wX O base t0 t1 t5 m := (aY ..).trans (by kernel_rfl)
noncomputable def Xy (O : aC) (t0 t1 : D) (m : Mem) : RV := by
 refine (fun _ : ?a = Hz.step3 O [t0, t1] m => ?a) ?h
 case h => conv => {rhs; reduce; try dsimp only [ak, ay, aH, aA]}
theorem afJ (O : aC) (t0 t1 : D) (m : Mem) : Hz.step2 O [t0, t1] m = Xy O t0 t1 m := (aJ ..).trans (by kernel_rfl)
noncomputable def uU (O : aC) (base : Nat) (t0 t1 t5 : D) (m : Mem) : Option (Ex × List D × Mem) := by
 refine (fun _ : ?a = bG O [0, 1, 5] [4] pG pG base [t0, t1, t5] m => ?a) ?h
 case h => conv => {rhs; conv => {arg 5; delta pG}; reduce; try dsimp only [ak, ay, aH, aA]}
theorem NW (O : aC) (base : Nat) (t0 t1 t5 : D) (m : Mem) : bC O [0, 1, 5] [4] pG base [t0, t1, t5] m = uU O base t0 t1 t5 m := (aY ..).trans (by kernel_rfl)
noncomputable def LW (O : aC) (t0 t1 : D) (m : Mem) : RV := by
 refine (fun _ : ?a = Fa.step3 O [t0, t1] m => ?a) ?h
 case h => conv => {rhs; reduce; try dsimp only [ak, ay, aH, aA]}
theorem aej (O : aC) (t0 t1 : D) (m : Mem) : Fa.step2 O [t0, t1] m = LW O t0 t1 m := (aJ ..).trans (by kernel_rfl)
noncomputable def JJ (O : aC) (base : Nat) (t0 t1 t6 t7 t8 : D) (m : Mem) : Option (Ex × List D × Mem) := by
 refine (fun _ : ?a = bG O [0, 1, 6, 7, 8] [6, 7] uH uH base [t0, t1, t6, t7, t8] m => ?a) ?h
 case h => conv => {rhs; conv => {arg 5; delta uH}; reduce; try dsimp only [ak, ay, aH, aA]}
theorem RY (O : aC) (base : Nat) (t0 t1 t6 t7 t8 : D) (m : Mem) : bC O [0, 1, 6, 7, 8] [6, 7] uH base [t0, t1, t6, t7, t8] m = JJ O base t0 t1 t6 t7 t8 m := (aY ..).trans (by kernel_rfl)
noncomputable def YM (O : aC) (t0 t1 : D) (m : Mem) : RV := by
 refine (fun _ : ?a = Kr.step3 O [t0, t1] m => ?a) ?h
 case h => conv => {rhs; reduce; try dsimp only [ak, ay, aH, aA]}
theorem ahW (O : aC) (t0 t1 : D) (m : Mem) : Kr.step2 O [t0, t1] m = YM O t0 t1 m := (aJ ..).trans (by kernel_rfl)
noncomputable def F6 (O : aC) (base : Nat) (t1 t6 t7 t8 t9 t10 t11 t12 : D) (m : Mem) : Option (Ex × List D × Mem) := by
 refine (fun _ : ?a = bG O [1, 6, 7, 8, 9, 10, 11, 12] [1, 6, 7, 8, 9, 10] ql ql base [t1, t6, t7, t8, t9, t10, t11, t12] m => ?a) ?h
 case h => conv => {rhs; conv => {arg 5; delta ql}; reduce; try dsimp only [ak, ay, aH, aA]}
theorem Lu (O : aC) (base : Nat) (t1 t6 t7 t8 t9 t10 t11 t12 : D) (m : Mem) : bC O [1, 6, 7, 8, 9, 10, 11, 12] [1, 6, 7, 8, 9, 10] ql base [t1, t6, t7, t8, t9, t10, t11, t12] m = F6 O base t1 t6 t7 t8 t9 t10 t11 t12 m := (aY ..).trans (by kernel_rfl)
noncomputable def LX (O : aC) (base : Nat) (t1 t6 t7 t8 t9 t10 : D) (m : Mem) : Option (Ex × List D × Mem) := by
 refine (fun _ : ?a = bG O [1, 6, 7, 8, 9, 10] [1, 6, 7, 9] xA xA base [t1, t6, t7, t8, t9, t10] m => ?a) ?h
 case h => conv => {rhs; conv => {arg 5; delta xA}; reduce; try dsimp only [ak, ay, aH, aA]}
theorem UU (O : aC) (base : Nat) (t1 t6 t7 t8 t9 t10 : D) (m : Mem) : bC O [1, 6, 7, 8, 9, 10] [1, 6, 7, 9] xA base [t1, t6, t7, t8, t9, t10] m = LX O base t1 t6 t7 t8 t9 t10 m := (aY ..).trans (by kernel_rfl)
noncomputable def LY (O : aC) (base : Nat) (t6 t7 t9 t13 t86 t87 : D) (m : Mem) : Option (Ex × List D × Mem) := by
 refine (fun _ : ?a = bG O [6, 7, 9, 13, 86, 87] [9, 13] xB xB base [t6, t7, t9, t13, t86, t87] m => ?a) ?h
 case h => conv => {rhs; conv => {arg 5; delta xB}; reduce; try dsimp only [ak, ay, aH, aA]}
theorem UY (O : aC) (base : Nat) (t6 t7 t9 t13 t86 t87 : D) (m : Mem) : bC O [6, 7, 9, 13, 86, 87] [9, 13] xB base [t6, t7, t9, t13, t86, t87] m = LY O base t6 t7 t9 t13 t86 t87 m := (aY ..).trans (by kernel_rfl)
noncomputable def aa_ (O : aC) (t0 t1 : D) (m : Mem) : RV := by
 refine (fun _ : ?a = MP.step3 O [t0, t1] m => ?a) ?h
 case h => conv => {rhs; reduce; try dsimp only [ak, ay, aH, aA]}
theorem ajW (O : aC) (t0 t1 : D) (m : Mem) : MP.step2 O [t0, t1] m = aa_ O t0 t1 m := (aJ ..).trans (by kernel_rfl)
noncomputable def Xw (O : aC) (t0 : D) (m : Mem) : RV := by
 refine (fun _ : ?a = Qr.step3 O [t0] m => ?a) ?h
 case h => conv => {rhs; reduce; try dsimp only [ak, ay, aH, aA]}
theorem alg (O : aC) (t0 : D) (m : Mem) : Qr.step2 O [t0] m = Xw O t0 m := (aJ ..).trans (by kernel_rfl)
noncomputable def LU (O : aC) (t0 t1 : D) (m : Mem) : RV := by
 refine (fun _ : ?a = EP.step3 O [t0, t1] m => ?a) ?h
 case h => conv => {rhs; reduce; try dsimp only [ak, ay, aH, aA]}
theorem ad_ (O : aC) (t0 t1 : D) (m : Mem) : EP.step2 O [t0, t1] m = LU O t0 t1 m := (aJ ..).trans (by kernel_rfl)
noncomputable def U9 (O : aC) (t0 : D) (m : Mem) : RV := by
 refine (fun _ : ?a = ES.step3 O [t0] m => ?a) ?h
 case h => conv => {rhs; reduce; try dsimp only [ak, ay, aH, aA]}
theorem aea (O : aC) (t0 : D) (m : Mem) : ES.step2 O [t0] m = U9 O t0 m := (aJ ..).trans (by kernel_rfl)
noncomputable def RD (O : aC) (t0 t1 : D) (m : Mem) : RV := by
 refine (fun _ : ?a = J_.step3 O [t0, t1] m => ?a) ?h
 case h => conv => {rhs; reduce; try dsimp only [ak, ay, aH, aA]}
theorem ahU (O : aC) (t0 t1 : D) (m : Mem) : J_.step2 O [t0, t1] m = RD O t0 t1 m := (aJ ..).trans (by kernel_rfl)
noncomputable def aa8 (O : aC) (t0 t1 : D) (m : Mem) : RV := by
 refine (fun _ : ?a = ML.step3 O [t0, t1] m => ?a) ?h
 case h => conv => {rhs; reduce; try dsimp only [ak, ay, aH, aA]}
theorem ajU (O : aC) (t0 t1 : D) (m : Mem) : ML.step2 O [t0, t1] m = aa8 O t0 t1 m := (aJ ..).trans (by kernel_rfl)
noncomputable def rG (O : aC) (base : Nat) (t0 t2 t3 : D) (m : Mem) : Option (Ex × List D × Mem) := by
 refine (fun _ : ?a = bG O [0, 2, 3] [] eX eX base [t0, t2, t3] m => ?a) ?h
 case h => conv => {rhs; conv => {arg 5; delta eX}; reduce; try dsimp only [ak, ay, aH, aA]}
theorem zO (O : aC) (base : Nat) (t0 t2 t3 : D) (m : Mem) : bC O [0, 2, 3] [] eX base [t0, t2, t3] m = rG O base t0 t2 t3 m := (aY ..).trans (by kernel_rfl)
noncomputable def D7 (O : aC) (t0 : D) (m : Mem) : RV := by
 refine (fun _ : ?a = oP.step3 O [t0] m => ?a) ?h
 case h => conv => {rhs; reduce; try dsimp only [ak, ay, aH, aA]}
theorem Px (O : aC) (t0 : D) (m : Mem) : oP.step2 O [t0] m = D7 O t0 m := (aJ ..).trans (by kernel_rfl)
noncomputable def uT (O : aC) (base : Nat) (t1 t5 t6 : D) (m : Mem) : Option (Ex × List D × Mem) := by
 refine (fun _ : ?a = bG O [1, 5, 6] [5] mY mY base [t1, t5, t6] m => ?a) ?h
 case h => conv => {rhs; conv => {arg 5; delta mY}; reduce; try dsimp only [ak, ay, aH, aA]}
theorem yS (O : aC) (base : Nat) (t1 t5 t6 : D) (m : Mem) : bC O [1, 5, 6] [5] mY base [t1, t5, t6] m = uT O base t1 t5 t6 m := (aY ..).trans (by kernel_rfl)
noncomputable def Vd (O : aC) (t0 t1 : D) (m : Mem) : RV := by
 refine (fun _ : ?a = E8.step3 O [t0, t1] m => ?a) ?h
 case h => conv => {rhs; reduce; try dsimp only [ak, ay, aH, aA]}
theorem aeh (O : aC) (t0 t1 : D) (m : Mem) : E8.step2 O [t0, t1] m = Vd O t0 t1 m := (aJ ..).trans (by kernel_rfl)
noncomputable def LZ (O : aC) (base : Nat) (t0 t3 : D) (m : Mem) : Option (Ex × List D × Mem) := by
 refine (fun _ : ?a = bG O [0, 3] [0, 3] tY tY base [t0, t3] m => ?a) ?h
 case h => conv => {rhs; conv => {arg 5; delta tY}; reduce; try dsimp only [ak, ay, aH, aA]}
theorem UZ (O : aC) (base : Nat) (t0 t3 : D) (m : Mem) : bC O [0, 3] [0, 3] tY base [t0, t3] m = LZ O base t0 t3 m := (aY ..).trans (by kernel_rfl)
noncomputable def aa' (O : aC) (t0 : D) (m : Mem) : RV := by
 refine (fun _ : ?a = MR.step3 O [t0] m => ?a) ?h
 case h => conv => {rhs; reduce; try dsimp only [ak, ay, aH, aA]}
theorem ajX (O : aC) (t0 : D) (m : Mem) : MR.step2 O [t0] m = aa' O t0 m := (aJ ..).trans (by kernel_rfl)
noncomputable def IX (O : aC) (base : Nat) (t0 t3 t14 t15 : D) (m : Mem) : Option (Ex × List D × Mem) := by
 refine (fun _ : ?a = bG O [0, 3, 14, 15] [0] wL wL base [t0, t3, t14, t15] m => ?a) ?h
 case h => conv => {rhs; conv => {arg 5; delta wL}; reduce; try dsimp only [ak, ay, aH, aA]}
theorem VO (O : aC) (base : Nat) (t0 t3 t14 t15 : D) (m : Mem) : bC O [0, 3, 14, 15] [0] wL base [t0, t3, t14, t15] m = IX O base t0 t3 t14 t15 m := (aY ..).trans (by kernel_rfl)
noncomputable def adM (O : aC) (t0 : D) (m : Mem) : RV := by
 refine (fun _ : ?a = Qy.step3 O [t0] m => ?a) ?h
 case h => conv => {rhs; reduce; try dsimp only [ak, ay, aH, aA]}
theorem alj (O : aC) (t0 : D) (m : Mem) : Qy.step2 O [t0] m = adM O t0 m := (aJ ..).trans (by kernel_rfl)
noncomputable def adL (O : aC) (t0 : D) (m : Mem) : RV := by
 refine (fun _ : ?a = Qx.step3 O [t0] m => ?a) ?h
 case h => conv => {rhs; reduce; try dsimp only [ak, ay, aH, aA]}
theorem ali (O : aC) (t0 : D) (m : Mem) : Qx.step2 O [t0] m = adL O t0 m := (aJ ..).trans (by kernel_rfl)
noncomputable def F5 (O : aC) (base : Nat) (t0 t1 t5 t9 t10 : D) (m : Mem) : Option (Ex × List D × Mem) := by
 refine (fun _ : ?a = bG O [0, 1, 5, 9, 10] [0] tX tX base [t0, t1, t5, t9, t10] m => ?a) ?h
 case h => conv => {rhs; conv => {arg 5; delta tX}; reduce; try dsimp only [ak, ay, aH, aA]}
theorem UR (O : aC) (base : Nat) (t0 t1 t5 t9 t10 : D) (m : Mem) : bC O [0, 1, 5, 9, 10] [0] tX base [t0, t1, t5, t9, t10] m = F5 O base t0 t1 t5 t9 t10 m := (aY ..).trans (by kernel_rfl)
noncomputable def aa9 (O : aC) (t0 t1 : D) (m : Mem) : RV := by
 refine (fun _ : ?a = MO.step3 O [t0, t1] m => ?a) ?h
 case h => conv => {rhs; reduce; try dsimp only [ak, ay, aH, aA]}
theorem ajV (O : aC) (t0 t1 : D) (m : Mem) : MO.step2 O [t0, t1] m = aa9 O t0 t1 m := (aJ ..).trans (by kernel_rfl)
noncomputable def qR (O : aC) (base : Nat) (t2 t8 t9 t10 t11 t13 t14 t15 t16 : D) (m : Mem) : Option (Ex × List D × Mem) := by
 refine (fun _ : ?a = bG O [2, 8, 9, 10, 11, 13, 14, 15, 16] [2, 8, 9, 10, 11, 13, 14, 15] oz oz base [t2, t8, t9, t10, t11, t13, t14, t15, t16] m => ?a) ?h
 case h => conv => {rhs; conv => {arg 5; delta oz}; reduce; try dsimp only [ak, ay, aH, aA]}
theorem ZP (O : aC) (base : Nat) (t2 t8 t9 t10 t11 t13 t14 t15 t16 : D) (m : Mem) : bC O [2, 8, 9, 10, 11, 13, 14, 15, 16] [2, 8, 9, 10, 11, 13, 14, 15] oz base [t2, t8, t9, t10, t11, t13, t14, t15, t16] m = qR O base t2 t8 t9 t10 t11 t13 t14 t15 t16 m := (aY ..).trans (by kernel_rfl)
noncomputable def qU (O : aC) (base : Nat) (t2 t8 t9 t10 t14 t15 t16 t17 t18 : D) (m : Mem) : Option (Ex × List D × Mem) := by
 refine (fun _ : ?a = bG O [2, 8, 9, 10, 14, 15, 16, 17, 18] [2, 8, 14, 15, 17, 18] oC oC base [t2, t8, t9, t10, t14, t15, t16, t17, t18] m => ?a) ?h
 case h => conv => {rhs; conv => {arg 5; delta oC}; reduce; try dsimp only [ak, ay, aH, aA]}
theorem ZQ (O : aC) (base : Nat) (t2 t8 t9 t10 t14 t15 t16 t17 t18 : D) (m : Mem) : bC O [2, 8, 9, 10, 14, 15, 16, 17, 18] [2, 8, 14, 15, 17, 18] oC base [t2, t8, t9, t10, t14, t15, t16, t17, t18] m = qU O base t2 t8 t9 t10 t14 t15 t16 t17 t18 m := (aY ..).trans (by kernel_rfl)
noncomputable def O3 (O : aC) (t0 t1 t2 : D) (m : Mem) : RV := by
 refine (fun _ : ?a = Hl.step3 O [t0, t1, t2] m => ?a) ?h
 case h => conv => {rhs; reduce; try dsimp only [ak, ay, aH, aA]}
theorem afC (O : aC) (t0 t1 t2 : D) (m : Mem) : Hl.step2 O [t0, t1, t2] m = O3 O t0 t1 t2 m := (aJ ..).trans (by kernel_rfl)
noncomputable def zW (O : aC) (base : Nat) (t1 t5 t12 t13 t14 : D) (m : Mem) : Option (Ex × List D × Mem) := by
 refine (fun _ : ?a = bG O [1, 5, 12, 13, 14] [5] tV tV base [t1, t5, t12, t13, t14] m => ?a) ?h
 case h => conv => {rhs; conv => {arg 5; delta tV}; reduce; try dsimp only [ak, ay, aH, aA]}
theorem EH (O : aC) (base : Nat) (t1 t5 t12 t13 t14 : D) (m : Mem) : bC O [1, 5, 12, 13, 14] [5] tV base [t1, t5, t12, t13, t14] m = zW O base t1 t5 t12 t13 t14 m := (aY ..).trans (by kernel_rfl)
noncomputable def UJ (O : aC) (t0 t1 : D) (m : Mem) : RV := by
 refine (fun _ : ?a = MN.step3 O [t0, t1] m => ?a) ?h
 case h => conv => {rhs; reduce; try dsimp only [ak, ay, aH, aA]}
theorem ZT (O : aC) (t0 t1 : D) (m : Mem) : MN.step2 O [t0, t1] m = UJ O t0 t1 m := (aJ ..).trans (by kernel_rfl)
noncomputable def kY (O : aC) (base : Nat) (t0 t5 t6 t7 t8 t9 : D) (m : Mem) : Option (Ex × List D × Mem) := by
 refine (fun _ : ?a = bG O [0, 5, 6, 7, 8, 9] [4] qH qH base [t0, t5, t6, t7, t8, t9] m => ?a) ?h
 case h => conv => {rhs; conv => {arg 5; delta qH}; reduce; try dsimp only [ak, ay, aH, aA]}
theorem BZ (O : aC) (base : Nat) (t0 t5 t6 t7 t8 t9 : D) (m : Mem) : bC O [0, 5, 6, 7, 8, 9] [4] qH base [t0, t5, t6, t7, t8, t9] m = kY O base t0 t5 t6 t7 t8 t9 m := (aY ..).trans (by kernel_rfl)
noncomputable def RF (O : aC) (t0 t1 : D) (m : Mem) : RV := by
 refine (fun _ : ?a = Kq.step3 O [t0, t1] m => ?a) ?h
 case h => conv => {rhs; reduce; try dsimp only [ak, ay, aH, aA]}
theorem Yj (O : aC) (t0 t1 : D) (m : Mem) : Kq.step2 O [t0, t1] m = RF O t0 t1 m := (aJ ..).trans (by kernel_rfl)
noncomputable def JK (O : aC) (base : Nat) (t0 t1 t2 t7 t8 t14 t15 t16 : D) (m : Mem) : Option (Ex × List D × Mem) := by
 refine (fun _ : ?a = bG O [0, 1, 2, 7, 8, 14, 15, 16] [0, 1, 7, 8] uI uI base [t0, t1, t2, t7, t8, t14, t15, t16] m => ?a) ?h
 case h => conv => {rhs; conv => {arg 5; delta uI}; reduce; try dsimp only [ak, ay, aH, aA]}
theorem RZ (O : aC) (base : Nat) (t0 t1 t2 t7 t8 t14 t15 t16 : D) (m : Mem) : bC O [0, 1, 2, 7, 8, 14, 15, 16] [0, 1, 7, 8] uI base [t0, t1, t2, t7, t8, t14, t15, t16] m = JK O base t0 t1 t2 t7 t8 t14 t15 t16 m := (aY ..).trans (by kernel_rfl)
noncomputable def RG (O : aC) (t0 t1 t2 : D) (m : Mem) : RV := by
 refine (fun _ : ?a = Kt.step3 O [t0, t1, t2] m => ?a) ?h
 case h => conv => {rhs; reduce; try dsimp only [ak, ay, aH, aA]}
theorem ahX (O : aC) (t0 t1 t2 : D) (m : Mem) : Kt.step2 O [t0, t1, t2] m = RG O t0 t1 t2 m := (aJ ..).trans (by kernel_rfl)
noncomputable def JI (O : aC) (base : Nat) (t0 t1 t4 t7 t8 t9 : D) (m : Mem) : Option (Ex × List D × Mem) := by
 refine (fun _ : ?a = bG O [0, 1, 4, 7, 8, 9] [0, 1, 4] uG uG base [t0, t1, t4, t7, t8, t9] m => ?a) ?h
 case h => conv => {rhs; conv => {arg 5; delta uG}; reduce; try dsimp only [ak, ay, aH, aA]}
theorem RX (O : aC) (base : Nat) (t0 t1 t4 t7 t8 t9 : D) (m : Mem) : bC O [0, 1, 4, 7, 8, 9] [0, 1, 4] uG base [t0, t1, t4, t7, t8, t9] m = JI O base t0 t1 t4 t7 t8 t9 m := (aY ..).trans (by kernel_rfl)
noncomputable def YL (O : aC) (t0 t1 : D) (m : Mem) : RV := by
 refine (fun _ : ?a = Ko.step3 O [t0, t1] m => ?a) ?h
 case h => conv => {rhs; reduce; try dsimp only [ak, ay, aH, aA]}
theorem ahV (O : aC) (t0 t1 : D) (m : Mem) : Ko.step2 O [t0, t1] m = YL O t0 t1 m := (aJ ..).trans (by kernel_rfl)
noncomputable def Ez (O : aC) (t0 : D) (m : Mem) : RV := by
 refine (fun _ : ?a = J5.step3 O [t0] m => ?a) ?h
 case h => conv => {rhs; reduce; try dsimp only [ak, ay, aH, aA]}
theorem ahS (O : aC) (t0 : D) (m : Mem) : J5.step2 O [t0] m = Ez O t0 m := (aJ ..).trans (by kernel_rfl)
noncomputable def U_ (O : aC) (t0 t1 t2 : D) (m : Mem) : RV := by
 refine (fun _ : ?a = EU.step3 O [t0, t1, t2] m => ?a) ?h
 case h => conv => {rhs; reduce; try dsimp only [ak, ay, aH, aA]}
theorem aeb (O : aC) (t0 t1 t2 : D) (m : Mem) : EU.step2 O [t0, t1, t2] m = U_ O t0 t1 t2 m := (aJ ..).trans (by kernel_rfl)
end Go.Ev.Code
end
section
namespace Go.Ev.Code
open Go Go.Ev
set_option maxRecDepth 100000
attribute [local irreducible] Us Xa bd jn SB JW gc YD I7 Lp Jj fz jV hdI tlI List.length List.append AZ Xn Nl Xh KX zU KZ IG BO KY Xi QS IJ dZ qQ DU Xk Ry Rx Xj ZC ZF Xo ZG Xp QT QV Nh Xq OX Na FV BN Nb Xm Xl QU IE rMn rMx UE wU rO IC UF Nj II KD Np KC Nc ZE
attribute [local irreducible] jE iM jZ iL iO dF kH vN lT Af iF jq gG jR kW lH iW h_ gI jh gZ jD fA yF Aa oG xY nX gY qB sS zV rW kT fG kN kJ qF qL pX strings_Cut Ju lS fC b_ mZ gW dB cZ nM bY nK uS gu bM uM slices_Reverse_int fU xw sF mg jg nZ pK jW mJ dU kX fJ wQ tJ Bf rC uO wS lX BL Ew BP Tc rX Bg Bh vZ jK jf vJ strings_CutPrefix kM iD g_ iK iI cu bK nI iJ qo jS lU qA uq eu yV zC jH kK uN qm ug fM mW vK B_ O0 oZ rU Bl uo SG sQ F8 je iQ GR fF bits_Mul64 bits_Add64 wK lV wM Gp bits_Sub64 GK iH pY yO gQ GH Gi jB GI Bo t_ DX rV xq dJ fK strings_Repeat slices_Reverse_string strings_Join qj zu Ae nat_bit BH sD bits_LeadingZeros64 zo BG BI BF gU Bj kD kQ og OB Bq KN KO rP BD strconv_Itoa bits_TrailingZeros64 Jo Hf GU zT rQ oI zS H_ tK GV ru GX jU ou yt iy dR j_ jl zN hndB QL SE Wy WA
end Go.Ev.Code
end
section
end
