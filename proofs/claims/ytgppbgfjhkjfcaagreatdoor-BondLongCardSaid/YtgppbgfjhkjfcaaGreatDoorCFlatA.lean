/- A part of the proof of planLone_card, bondLong_card. -/
import Derived.KernelRfl
import Derived.Test.YtgppbgfjhkjfcaaGreatDoorCFlat
import Derived.Test.YtgppbgfjhkjfcaaGreatDoorCCodeA
import Derived.Test.YtgppbgfjhkjfcaaGreatDoorCCodeB
import Derived.Test.YtgppbgfjhkjfcaaGreatDoorCCodeC
set_option linter.unusedVariables false
section
namespace Go.Ev.Code
open Go Go.Ev
set_option maxRecDepth 100000
attribute [local irreducible] oLoop oCalla bd jn P8 Fb gc U2 D9 GK Jk fz kC hdI tlI List.length List.append IU SY Ip SL Gl wS Gn DN yG Gm SN MC DT dV oI zi SS Nl Nk SQ Wi Wn S9 Wp S_ MF MH Il Tc JG Ii Bf yF Ij SV MG DL XM XO Pz ug pI DK PD Io DR FT Iq FQ Ik Wj
attribute [local irreducible] oJ qA gY gX dO eP iF bY iU fD gW tX nR gJ qN jr jd NT xw wF wV pU dY iL jB jA CS gZ fE kE dF jG rF slices_Reverse_int eH j_ lI qM fO eF nZ qY iV kU gB dJ gG xR xU tH w_ FX En jD wR bM gV bD eX yD bJ bZ bT lS zh qE kZ Gj jq fZ zV yH Oo pV gU oC nM iw Gi iI jv nY wE nO xX Cc kX rH oq iY lT dK kJ jX CJ kY IC fG fK bC fV fQ iR jU yC dR kV fU uD qh uJ sQ yN JJ mY pO xY qR N8 BA gQ sO nV rO oK lJ fM uj vg rM lU strings_Cut Oe jS dX bP bits_Mul64 bits_Add64 jV bits_Sub64 tY t_ BM qU vS fA B_ BI iC Cb x9 qK zl pR uy cZ d_ strings_Repeat slices_Reverse_string strings_Join strings_CutPrefix jy f_ Cj fB kD rP pW jh fF wu xu nat_bit yx qg bits_LeadingZeros64 wo yw yA yu ji jC lM Jr yc F6 F7 pJ nT yt strconv_Itoa uh oL bits_TrailingZeros64 Ez C9 Cm wQ pK lX wP Du qC CB oZ CG lQ uU fH iW dA h_ jc wM hndB zy dL dZ uf lC iG iH jM jO jP eG vT oU oV JF Md qX Oq Ot
noncomputable def sJ (O : aC) (t0 t1 t2 : D) (m : Mem) : RV := by
 refine (fun _ : ?a = mG.step3 O [t0, t1, t2] m => ?a) ?h
 case h => conv => {rhs; reduce; try dsimp only [au, aA, oLoop_, oCalla_]}
theorem J_ (O : aC) (t0 t1 t2 : D) (m : Mem) : mG.step2 O [t0, t1, t2] m = sJ O t0 t1 t2 m := (step3_eq ..).trans (by kernel_rfl)
noncomputable def mV (O : aC) (t0 t1 t2 : D) (m : Mem) : RV := by
 refine (fun _ : ?a = mF.step3 O [t0, t1, t2] m => ?a) ?h
 case h => conv => {rhs; reduce; try dsimp only [au, aA, oLoop_, oCalla_]}
theorem J9 (O : aC) (t0 t1 t2 : D) (m : Mem) : mF.step2 O [t0, t1, t2] m = mV O t0 t1 t2 m := (step3_eq ..).trans (by kernel_rfl)
noncomputable def Eh (O : aC) (t0 t1 : D) (m : Mem) : RV := by
 refine (fun _ : ?a = rW.step3 O [t0, t1] m => ?a) ?h
 case h => conv => {rhs; reduce; try dsimp only [au, aA, oLoop_, oCalla_]}
theorem Qv (O : aC) (t0 t1 : D) (m : Mem) : rW.step2 O [t0, t1] m = Eh O t0 t1 m := (step3_eq ..).trans (by kernel_rfl)
noncomputable def Gy (O : aC) (t0 : D) (m : Mem) : RV := by
 refine (fun _ : ?a = tJ.step3 O [t0] m => ?a) ?h
 case h => conv => {rhs; reduce; try dsimp only [au, aA, oLoop_, oCalla_]}
theorem QV (O : aC) (t0 : D) (m : Mem) : tJ.step2 O [t0] m = Gy O t0 m := (step3_eq ..).trans (by kernel_rfl)
noncomputable def iM (O : aC) (base : Nat) (t1 t8 t9 : D) (m : Mem) : Option (Ex × List D × Mem) := by
 refine (fun _ : ?a = bG O [1, 8, 9] [1, 8, 9] dL dL base [t1, t8, t9] m => ?a) ?h
 case h => conv => {rhs; conv => {arg 5; delta dL}; reduce; try dsimp only [au, aA, oLoop_, oCalla_]}
theorem jZ (O : aC) (base : Nat) (t1 t8 t9 : D) (m : Mem) : bg O [1, 8, 9] [1, 8, 9] dL base [t1, t8, t9] m = iM O base t1 t8 t9 m := (loopStep3_eq ..).trans (by kernel_rfl)
noncomputable def ku (O : aC) (base : Nat) (t1 t8 t9 : D) (m : Mem) : Option (Ex × List D × Mem) := by
 refine (fun _ : ?a = bG O [1, 8, 9] [8, 9] dZ dZ base [t1, t8, t9] m => ?a) ?h
 case h => conv => {rhs; conv => {arg 5; delta dZ}; reduce; try dsimp only [au, aA, oLoop_, oCalla_]}
theorem oQ (O : aC) (base : Nat) (t1 t8 t9 : D) (m : Mem) : bg O [1, 8, 9] [8, 9] dZ base [t1, t8, t9] m = ku O base t1 t8 t9 m := (loopStep3_eq ..).trans (by kernel_rfl)
noncomputable def dQ (O : aC) (t0 t1 t2 : D) (m : Mem) : RV := by
 refine (fun _ : ?a = mJ.step3 O [t0, t1, t2] m => ?a) ?h
 case h => conv => {rhs; reduce; try dsimp only [au, aA, oLoop_, oCalla_]}
theorem jI (O : aC) (t0 t1 t2 : D) (m : Mem) : mJ.step2 O [t0, t1, t2] m = dQ O t0 t1 t2 m := (step3_eq ..).trans (by kernel_rfl)
noncomputable def D7 (O : aC) (base : Nat) (t1 t6 t7 t8 t9 t27 t28 t29 : D) (m : Mem) : Option (Ex × List D × Mem) := by
 refine (fun _ : ?a = bG O [1, 6, 7, 8, 9, 27, 28, 29] [1, 6, 7, 8] uf uf base [t1, t6, t7, t8, t9, t27, t28, t29] m => ?a) ?h
 case h => conv => {rhs; conv => {arg 5; delta uf}; reduce; try dsimp only [au, aA, oLoop_, oCalla_]}
theorem I5 (O : aC) (base : Nat) (t1 t6 t7 t8 t9 t27 t28 t29 : D) (m : Mem) : bg O [1, 6, 7, 8, 9, 27, 28, 29] [1, 6, 7, 8] uf base [t1, t6, t7, t8, t9, t27, t28, t29] m = D7 O base t1 t6 t7 t8 t9 t27 t28 t29 m := (loopStep3_eq ..).trans (by kernel_rfl)
noncomputable def oz (O : aC) (t0 : D) (m : Mem) : RV := by
 refine (fun _ : ?a = LK.step3 O [t0] m => ?a) ?h
 case h => conv => {rhs; reduce; try dsimp only [au, aA, oLoop_, oCalla_]}
theorem ZC (O : aC) (t0 : D) (m : Mem) : LK.step2 O [t0] m = oz O t0 m := (step3_eq ..).trans (by kernel_rfl)
noncomputable def Ei (O : aC) (t0 t1 : D) (m : Mem) : RV := by
 refine (fun _ : ?a = rX.step3 O [t0, t1] m => ?a) ?h
 case h => conv => {rhs; reduce; try dsimp only [au, aA, oLoop_, oCalla_]}
theorem Qw (O : aC) (t0 t1 : D) (m : Mem) : rX.step2 O [t0, t1] m = Ei O t0 t1 m := (step3_eq ..).trans (by kernel_rfl)
noncomputable def zo (O : aC) (t0 t1 : D) (m : Mem) : RV := by
 refine (fun _ : ?a = yZ.step3 O [t0, t1] m => ?a) ?h
 case h => conv => {rhs; reduce; try dsimp only [au, aA, oLoop_, oCalla_]}
theorem Yn (O : aC) (t0 t1 : D) (m : Mem) : yZ.step2 O [t0, t1] m = zo O t0 t1 m := (step3_eq ..).trans (by kernel_rfl)
noncomputable def Nr (O : aC) (t0 t1 : D) (m : Mem) : RV := by
 refine (fun _ : ?a = FD.step3 O [t0, t1] m => ?a) ?h
 case h => conv => {rhs; reduce; try dsimp only [au, aA, oLoop_, oCalla_]}
theorem aew (O : aC) (t0 t1 : D) (m : Mem) : FD.step2 O [t0, t1] m = Nr O t0 t1 m := (step3_eq ..).trans (by kernel_rfl)
noncomputable def Tt (O : aC) (t0 : D) (m : Mem) : RV := by
 refine (fun _ : ?a = Dl.step3 O [t0] m => ?a) ?h
 case h => conv => {rhs; reduce; try dsimp only [au, aA, oLoop_, oCalla_]}
theorem ach (O : aC) (t0 : D) (m : Mem) : Dl.step2 O [t0] m = Tt O t0 m := (step3_eq ..).trans (by kernel_rfl)
noncomputable def ML (O : aC) (t0 t1 : D) (m : Mem) : RV := by
 refine (fun _ : ?a = xO.step3 O [t0, t1] m => ?a) ?h
 case h => conv => {rhs; reduce; try dsimp only [au, aA, oLoop_, oCalla_]}
theorem WL (O : aC) (t0 t1 : D) (m : Mem) : xO.step2 O [t0, t1] m = ML O t0 t1 m := (step3_eq ..).trans (by kernel_rfl)
noncomputable def g_ (O : aC) (base : Nat) (t1 t4 t6 t7 t21 t22 t23 : D) (m : Mem) : Option (Ex × List D × Mem) := by
 refine (fun _ : ?a = bG O [1, 4, 6, 7, 21, 22, 23] [2, 3, 7] lC lC base [t1, t4, t6, t7, t21, t22, t23] m => ?a) ?h
 case h => conv => {rhs; conv => {arg 5; delta lC}; reduce; try dsimp only [au, aA, oLoop_, oCalla_]}
theorem iJ (O : aC) (base : Nat) (t1 t4 t6 t7 t21 t22 t23 : D) (m : Mem) : bg O [1, 4, 6, 7, 21, 22, 23] [2, 3, 7] lC base [t1, t4, t6, t7, t21, t22, t23] m = g_ O base t1 t4 t6 t7 t21 t22 t23 m := (loopStep3_eq ..).trans (by kernel_rfl)
noncomputable def yI (O : aC) (t0 : D) (m : Mem) : RV := by
 refine (fun _ : ?a = LC.step3 O [t0] m => ?a) ?h
 case h => conv => {rhs; reduce; try dsimp only [au, aA, oLoop_, oCalla_]}
theorem BU (O : aC) (t0 : D) (m : Mem) : LC.step2 O [t0] m = yI O t0 m := (step3_eq ..).trans (by kernel_rfl)
noncomputable def aU (O : aC) (t0 : D) (m : Mem) : RV := by
 refine (fun _ : ?a = qm.step3 O [t0] m => ?a) ?h
 case h => conv => {rhs; reduce; try dsimp only [au, aA, oLoop_, oCalla_]}
theorem OE (O : aC) (t0 : D) (m : Mem) : qm.step2 O [t0] m = aU O t0 m := (step3_eq ..).trans (by kernel_rfl)
noncomputable def jw (O : aC) (t0 : D) (m : Mem) : RV := by
 refine (fun _ : ?a = Dc.step3 O [t0] m => ?a) ?h
 case h => conv => {rhs; reduce; try dsimp only [au, aA, oLoop_, oCalla_]}
theorem ab_ (O : aC) (t0 : D) (m : Mem) : Dc.step2 O [t0] m = jw O t0 m := (step3_eq ..).trans (by kernel_rfl)
noncomputable def E5 (O : aC) (t0 : D) (m : Mem) : RV := by
 refine (fun _ : ?a = y8.step3 O [t0] m => ?a) ?h
 case h => conv => {rhs; reduce; try dsimp only [au, aA, oLoop_, oCalla_]}
theorem Yq (O : aC) (t0 : D) (m : Mem) : y8.step2 O [t0] m = E5 O t0 m := (step3_eq ..).trans (by kernel_rfl)
noncomputable def Oz (O : aC) (t0 : D) (m : Mem) : RV := by
 refine (fun _ : ?a = y7.step3 O [t0] m => ?a) ?h
 case h => conv => {rhs; reduce; try dsimp only [au, aA, oLoop_, oCalla_]}
theorem Yp (O : aC) (t0 : D) (m : Mem) : y7.step2 O [t0] m = Oz O t0 m := (step3_eq ..).trans (by kernel_rfl)
noncomputable def sV (O : aC) (t0 : D) (m : Mem) : RV := by
 refine (fun _ : ?a = Ad.step3 O [t0] m => ?a) ?h
 case h => conv => {rhs; reduce; try dsimp only [au, aA, oLoop_, oCalla_]}
theorem aaB (O : aC) (t0 : D) (m : Mem) : Ad.step2 O [t0] m = sV O t0 m := (step3_eq ..).trans (by kernel_rfl)
noncomputable def GX (O : aC) (t0 : D) (m : Mem) : RV := by
 refine (fun _ : ?a = Ac.step3 O [t0] m => ?a) ?h
 case h => conv => {rhs; reduce; try dsimp only [au, aA, oLoop_, oCalla_]}
theorem aaA (O : aC) (t0 : D) (m : Mem) : Ac.step2 O [t0] m = GX O t0 m := (step3_eq ..).trans (by kernel_rfl)
noncomputable def BQ (O : aC) (t0 : D) (m : Mem) : RV := by
 refine (fun _ : ?a = vX.step3 O [t0] m => ?a) ?h
 case h => conv => {rhs; reduce; try dsimp only [au, aA, oLoop_, oCalla_]}
theorem Vg (O : aC) (t0 : D) (m : Mem) : vX.step2 O [t0] m = BQ O t0 m := (step3_eq ..).trans (by kernel_rfl)
noncomputable def uM (O : aC) (base : Nat) (t0 t2 t3 : D) (m : Mem) : Option (Ex × List D × Mem) := by
 refine (fun _ : ?a = bG O [0, 2, 3] [0, 2, 3] iG iG base [t0, t2, t3] m => ?a) ?h
 case h => conv => {rhs; conv => {arg 5; delta iG}; reduce; try dsimp only [au, aA, oLoop_, oCalla_]}
theorem zL (O : aC) (base : Nat) (t0 t2 t3 : D) (m : Mem) : bg O [0, 2, 3] [0, 2, 3] iG base [t0, t2, t3] m = uM O base t0 t2 t3 m := (loopStep3_eq ..).trans (by kernel_rfl)
noncomputable def uN (O : aC) (base : Nat) (t0 t2 t3 : D) (m : Mem) : Option (Ex × List D × Mem) := by
 refine (fun _ : ?a = bG O [0, 2, 3] [0, 2, 3] iH iH base [t0, t2, t3] m => ?a) ?h
 case h => conv => {rhs; conv => {arg 5; delta iH}; reduce; try dsimp only [au, aA, oLoop_, oCalla_]}
theorem zM (O : aC) (base : Nat) (t0 t2 t3 : D) (m : Mem) : bg O [0, 2, 3] [0, 2, 3] iH base [t0, t2, t3] m = uN O base t0 t2 t3 m := (loopStep3_eq ..).trans (by kernel_rfl)
noncomputable def Ej (O : aC) (t0 : D) (m : Mem) : RV := by
 refine (fun _ : ?a = rY.step3 O [t0] m => ?a) ?h
 case h => conv => {rhs; reduce; try dsimp only [au, aA, oLoop_, oCalla_]}
theorem Qx (O : aC) (t0 : D) (m : Mem) : rY.step2 O [t0] m = Ej O t0 m := (step3_eq ..).trans (by kernel_rfl)
noncomputable def yJ (O : aC) (t0 : D) (m : Mem) : RV := by
 refine (fun _ : ?a = tK.step3 O [t0] m => ?a) ?h
 case h => conv => {rhs; reduce; try dsimp only [au, aA, oLoop_, oCalla_]}
theorem QW (O : aC) (t0 : D) (m : Mem) : tK.step2 O [t0] m = yJ O t0 m := (step3_eq ..).trans (by kernel_rfl)
noncomputable def wJ (O : aC) (t0 t1 : D) (m : Mem) : RV := by
 refine (fun _ : ?a = qo.step3 O [t0, t1] m => ?a) ?h
 case h => conv => {rhs; reduce; try dsimp only [au, aA, oLoop_, oCalla_]}
theorem OG (O : aC) (t0 t1 : D) (m : Mem) : qo.step2 O [t0, t1] m = wJ O t0 t1 m := (step3_eq ..).trans (by kernel_rfl)
noncomputable def xG (O : aC) (base : Nat) (t1 t4 t5 : D) (m : Mem) : Option (Ex × List D × Mem) := by
 refine (fun _ : ?a = bG O [1, 4, 5] [1, 4] jM jM base [t1, t4, t5] m => ?a) ?h
 case h => conv => {rhs; conv => {arg 5; delta jM}; reduce; try dsimp only [au, aA, oLoop_, oCalla_]}
theorem Ea (O : aC) (base : Nat) (t1 t4 t5 : D) (m : Mem) : bg O [1, 4, 5] [1, 4] jM base [t1, t4, t5] m = xG O base t1 t4 t5 m := (loopStep3_eq ..).trans (by kernel_rfl)
noncomputable def xH (O : aC) (base : Nat) (t1 t4 t6 : D) (m : Mem) : Option (Ex × List D × Mem) := by
 refine (fun _ : ?a = bG O [1, 4, 6] [1, 4] jO jO base [t1, t4, t6] m => ?a) ?h
 case h => conv => {rhs; conv => {arg 5; delta jO}; reduce; try dsimp only [au, aA, oLoop_, oCalla_]}
theorem Eb (O : aC) (base : Nat) (t1 t4 t6 : D) (m : Mem) : bg O [1, 4, 6] [1, 4] jO base [t1, t4, t6] m = xH O base t1 t4 t6 m := (loopStep3_eq ..).trans (by kernel_rfl)
noncomputable def wK (O : aC) (t0 : D) (m : Mem) : RV := by
 refine (fun _ : ?a = vY.step3 O [t0] m => ?a) ?h
 case h => conv => {rhs; reduce; try dsimp only [au, aA, oLoop_, oCalla_]}
theorem I8 (O : aC) (t0 : D) (m : Mem) : vY.step2 O [t0] m = wK O t0 m := (step3_eq ..).trans (by kernel_rfl)
noncomputable def pY (O : aC) (base : Nat) (t1 t5 t6 : D) (m : Mem) : Option (Ex × List D × Mem) := by
 refine (fun _ : ?a = bG O [1, 5, 6] [2, 3, 4] jP jP base [t1, t5, t6] m => ?a) ?h
 case h => conv => {rhs; conv => {arg 5; delta jP}; reduce; try dsimp only [au, aA, oLoop_, oCalla_]}
theorem zC (O : aC) (base : Nat) (t1 t5 t6 : D) (m : Mem) : bg O [1, 5, 6] [2, 3, 4] jP base [t1, t5, t6] m = pY O base t1 t5 t6 m := (loopStep3_eq ..).trans (by kernel_rfl)
noncomputable def Oy (O : aC) (t0 : D) (m : Mem) : RV := by
 refine (fun _ : ?a = y5.step3 O [t0] m => ?a) ?h
 case h => conv => {rhs; reduce; try dsimp only [au, aA, oLoop_, oCalla_]}
theorem Yo (O : aC) (t0 : D) (m : Mem) : y5.step2 O [t0] m = Oy O t0 m := (step3_eq ..).trans (by kernel_rfl)
noncomputable def sK (O : aC) (base : Nat) (t0 t2 t3 : D) (m : Mem) : Option (Ex × List D × Mem) := by
 refine (fun _ : ?a = bG O [0, 2, 3] [] eG eG base [t0, t2, t3] m => ?a) ?h
 case h => conv => {rhs; conv => {arg 5; delta eG}; reduce; try dsimp only [au, aA, oLoop_, oCalla_]}
theorem zx (O : aC) (base : Nat) (t0 t2 t3 : D) (m : Mem) : bg O [0, 2, 3] [] eG base [t0, t2, t3] m = sK O base t0 t2 t3 m := (loopStep3_eq ..).trans (by kernel_rfl)
noncomputable def D8 (O : aC) (t0 : D) (m : Mem) : RV := by
 refine (fun _ : ?a = qp.step3 O [t0] m => ?a) ?h
 case h => conv => {rhs; reduce; try dsimp only [au, aA, oLoop_, oCalla_]}
theorem OH (O : aC) (t0 : D) (m : Mem) : qp.step2 O [t0] m = D8 O t0 m := (step3_eq ..).trans (by kernel_rfl)
noncomputable def U9 (O : aC) (t0 t1 : D) (m : Mem) : RV := by
 refine (fun _ : ?a = Fv.step3 O [t0, t1] m => ?a) ?h
 case h => conv => {rhs; reduce; try dsimp only [au, aA, oLoop_, oCalla_]}
theorem aev (O : aC) (t0 t1 : D) (m : Mem) : Fv.step2 O [t0, t1] m = U9 O t0 t1 m := (step3_eq ..).trans (by kernel_rfl)
noncomputable def vk (O : aC) (t0 t1 : D) (m : Mem) : RV := by
 refine (fun _ : ?a = Dp.step3 O [t0, t1] m => ?a) ?h
 case h => conv => {rhs; reduce; try dsimp only [au, aA, oLoop_, oCalla_]}
theorem I7 (O : aC) (t0 t1 : D) (m : Mem) : Dp.step2 O [t0, t1] m = vk O t0 t1 m := (step3_eq ..).trans (by kernel_rfl)
noncomputable def JW (O : aC) (base : Nat) (t1 t4 t5 : D) (m : Mem) : Option (Ex × List D × Mem) := by
 refine (fun _ : ?a = bG O [1, 4, 5] [4] vT vT base [t1, t4, t5] m => ?a) ?h
 case h => conv => {rhs; conv => {arg 5; delta vT}; reduce; try dsimp only [au, aA, oLoop_, oCalla_]}
theorem QS (O : aC) (base : Nat) (t1 t4 t5 : D) (m : Mem) : bg O [1, 4, 5] [4] vT base [t1, t4, t5] m = JW O base t1 t4 t5 m := (loopStep3_eq ..).trans (by kernel_rfl)
noncomputable def MK (O : aC) (t0 : D) (m : Mem) : RV := by
 refine (fun _ : ?a = Lp.step3 O [t0] m => ?a) ?h
 case h => conv => {rhs; reduce; try dsimp only [au, aA, oLoop_, oCalla_]}
theorem Zz (O : aC) (t0 : D) (m : Mem) : Lp.step2 O [t0] m = MK O t0 m := (step3_eq ..).trans (by kernel_rfl)
noncomputable def GZ (O : aC) (t0 t1 : D) (m : Mem) : RV := by
 refine (fun _ : ?a = Af.step3 O [t0, t1] m => ?a) ?h
 case h => conv => {rhs; reduce; try dsimp only [au, aA, oLoop_, oCalla_]}
theorem aaD (O : aC) (t0 t1 : D) (m : Mem) : Af.step2 O [t0, t1] m = GZ O t0 t1 m := (step3_eq ..).trans (by kernel_rfl)
noncomputable def DY (O : aC) (base : Nat) (t0 t2 t4 : D) (m : Mem) : Option (Ex × List D × Mem) := by
 refine (fun _ : ?a = bG O [0, 2, 4] [0, 2, 4] oU oU base [t0, t2, t4] m => ?a) ?h
 case h => conv => {rhs; conv => {arg 5; delta oU}; reduce; try dsimp only [au, aA, oLoop_, oCalla_]}
theorem Kv (O : aC) (base : Nat) (t0 t2 t4 : D) (m : Mem) : bg O [0, 2, 4] [0, 2, 4] oU base [t0, t2, t4] m = DY O base t0 t2 t4 m := (loopStep3_eq ..).trans (by kernel_rfl)
noncomputable def DZ (O : aC) (base : Nat) (t2 t4 t5 : D) (m : Mem) : Option (Ex × List D × Mem) := by
 refine (fun _ : ?a = bG O [2, 4, 5] [2, 4, 5] oV oV base [t2, t4, t5] m => ?a) ?h
 case h => conv => {rhs; conv => {arg 5; delta oV}; reduce; try dsimp only [au, aA, oLoop_, oCalla_]}
theorem Kw (O : aC) (base : Nat) (t2 t4 t5 : D) (m : Mem) : bg O [2, 4, 5] [2, 4, 5] oV base [t2, t4, t5] m = DZ O base t2 t4 t5 m := (loopStep3_eq ..).trans (by kernel_rfl)
noncomputable def JV (O : aC) (t0 : D) (m : Mem) : RV := by
 refine (fun _ : ?a = Dj.step3 O [t0] m => ?a) ?h
 case h => conv => {rhs; reduce; try dsimp only [au, aA, oLoop_, oCalla_]}
theorem QO (O : aC) (t0 : D) (m : Mem) : Dj.step2 O [t0] m = JV O t0 m := (step3_eq ..).trans (by kernel_rfl)
noncomputable def Ov (O : aC) (t0 : D) (m : Mem) : RV := by
 refine (fun _ : ?a = yT.step3 O [t0] m => ?a) ?h
 case h => conv => {rhs; reduce; try dsimp only [au, aA, oLoop_, oCalla_]}
theorem Yi (O : aC) (t0 : D) (m : Mem) : yT.step2 O [t0] m = Ov O t0 m := (step3_eq ..).trans (by kernel_rfl)
noncomputable def Iu (O : aC) (t0 t1 : D) (m : Mem) : RV := by
 refine (fun _ : ?a = HY.step3 O [t0, t1] m => ?a) ?h
 case h => conv => {rhs; reduce; try dsimp only [au, aA, oLoop_, oCalla_]}
theorem agu (O : aC) (t0 t1 : D) (m : Mem) : HY.step2 O [t0, t1] m = Iu O t0 t1 m := (step3_eq ..).trans (by kernel_rfl)
noncomputable def Hg (O : aC) (t0 t1 : D) (m : Mem) : RV := by
 refine (fun _ : ?a = AU.step3 O [t0, t1] m => ?a) ?h
 case h => conv => {rhs; reduce; try dsimp only [au, aA, oLoop_, oCalla_]}
theorem aaV (O : aC) (t0 t1 : D) (m : Mem) : AU.step2 O [t0, t1] m = Hg O t0 t1 m := (step3_eq ..).trans (by kernel_rfl)
noncomputable def GY (O : aC) (t0 : D) (m : Mem) : RV := by
 refine (fun _ : ?a = Ae.step3 O [t0] m => ?a) ?h
 case h => conv => {rhs; reduce; try dsimp only [au, aA, oLoop_, oCalla_]}
theorem aaC (O : aC) (t0 : D) (m : Mem) : Ae.step2 O [t0] m = GY O t0 m := (step3_eq ..).trans (by kernel_rfl)
noncomputable def jl (O : aC) (t0 : D) (m : Mem) : RV := by
 refine (fun _ : ?a = oD.step3 O [t0] m => ?a) ?h
 case h => conv => {rhs; reduce; try dsimp only [au, aA, oLoop_, oCalla_]}
theorem NJ (O : aC) (t0 : D) (m : Mem) : oD.step2 O [t0] m = jl O t0 m := (step3_eq ..).trans (by kernel_rfl)
noncomputable def CX (O : aC) (t0 t1 : D) (m : Mem) : RV := by
 refine (fun _ : ?a = oG.step3 O [t0, t1] m => ?a) ?h
 case h => conv => {rhs; reduce; try dsimp only [au, aA, oLoop_, oCalla_]}
theorem NK (O : aC) (t0 t1 : D) (m : Mem) : oG.step2 O [t0, t1] m = CX O t0 t1 m := (step3_eq ..).trans (by kernel_rfl)
noncomputable def uK (O : aC) (t0 : D) (m : Mem) : RV := by
 refine (fun _ : ?a = Fh.step3 O [t0] m => ?a) ?h
 case h => conv => {rhs; reduce; try dsimp only [au, aA, oLoop_, oCalla_]}
theorem aep (O : aC) (t0 : D) (m : Mem) : Fh.step2 O [t0] m = uK O t0 m := (step3_eq ..).trans (by kernel_rfl)
noncomputable def lg (O : aC) (t0 : D) (m : Mem) : RV := by
 refine (fun _ : ?a = Fj.step3 O [t0] m => ?a) ?h
 case h => conv => {rhs; reduce; try dsimp only [au, aA, oLoop_, oCalla_]}
theorem aer (O : aC) (t0 : D) (m : Mem) : Fj.step2 O [t0] m = lg O t0 m := (step3_eq ..).trans (by kernel_rfl)
noncomputable def Nq (O : aC) (t0 : D) (m : Mem) : RV := by
 refine (fun _ : ?a = Fp.step3 O [t0] m => ?a) ?h
 case h => conv => {rhs; reduce; try dsimp only [au, aA, oLoop_, oCalla_]}
theorem aes (O : aC) (t0 : D) (m : Mem) : Fp.step2 O [t0] m = Nq O t0 m := (step3_eq ..).trans (by kernel_rfl)
noncomputable def Qr (O : aC) (t0 t1 : D) (m : Mem) : RV := by
 refine (fun _ : ?a = A_.step3 O [t0, t1] m => ?a) ?h
 case h => conv => {rhs; reduce; try dsimp only [au, aA, oLoop_, oCalla_]}
theorem aa1 (O : aC) (t0 t1 : D) (m : Mem) : A_.step2 O [t0, t1] m = Qr O t0 t1 m := (step3_eq ..).trans (by kernel_rfl)
noncomputable def XV (O : aC) (t0 : D) (m : Mem) : RV := by
 refine (fun _ : ?a = Hz.step3 O [t0] m => ?a) ?h
 case h => conv => {rhs; reduce; try dsimp only [au, aA, oLoop_, oCalla_]}
theorem agt (O : aC) (t0 : D) (m : Mem) : Hz.step2 O [t0] m = XV O t0 m := (step3_eq ..).trans (by kernel_rfl)
noncomputable def Wy (O : aC) (t0 : D) (m : Mem) : RV := by
 refine (fun _ : ?a = OY.step3 O [t0] m => ?a) ?h
 case h => conv => {rhs; reduce; try dsimp only [au, aA, oLoop_, oCalla_]}
theorem ajC (O : aC) (t0 : D) (m : Mem) : OY.step2 O [t0] m = Wy O t0 m := (step3_eq ..).trans (by kernel_rfl)
noncomputable def G_ (O : aC) (t0 t1 : D) (m : Mem) : RV := by
 refine (fun _ : ?a = AL.step3 O [t0, t1] m => ?a) ?h
 case h => conv => {rhs; reduce; try dsimp only [au, aA, oLoop_, oCalla_]}
theorem aaR (O : aC) (t0 t1 : D) (m : Mem) : AL.step2 O [t0, t1] m = G_ O t0 t1 m := (step3_eq ..).trans (by kernel_rfl)
noncomputable def o9 (O : aC) (t0 t1 : D) (m : Mem) : RV := by
 refine (fun _ : ?a = AA.step3 O [t0, t1] m => ?a) ?h
 case h => conv => {rhs; reduce; try dsimp only [au, aA, oLoop_, oCalla_]}
theorem aaP (O : aC) (t0 t1 : D) (m : Mem) : AA.step2 O [t0, t1] m = o9 O t0 t1 m := (step3_eq ..).trans (by kernel_rfl)
noncomputable def Qn (O : aC) (t0 : D) (m : Mem) : RV := by
 refine (fun _ : ?a = AX.step3 O [t0] m => ?a) ?h
 case h => conv => {rhs; reduce; try dsimp only [au, aA, oLoop_, oCalla_]}
theorem aaX (O : aC) (t0 : D) (m : Mem) : AX.step2 O [t0] m = Qn O t0 m := (step3_eq ..).trans (by kernel_rfl)
noncomputable def Qq (O : aC) (t0 : D) (m : Mem) : RV := by
 refine (fun _ : ?a = A8.step3 O [t0] m => ?a) ?h
 case h => conv => {rhs; reduce; try dsimp only [au, aA, oLoop_, oCalla_]}
theorem aa0 (O : aC) (t0 : D) (m : Mem) : A8.step2 O [t0] m = Qq O t0 m := (step3_eq ..).trans (by kernel_rfl)
noncomputable def zn (O : aC) (t0 : D) (m : Mem) : RV := by
 refine (fun _ : ?a = yX.step3 O [t0] m => ?a) ?h
 case h => conv => {rhs; reduce; try dsimp only [au, aA, oLoop_, oCalla_]}
theorem Yl (O : aC) (t0 : D) (m : Mem) : yX.step2 O [t0] m = zn O t0 m := (step3_eq ..).trans (by kernel_rfl)
noncomputable def Tz (O : aC) (t0 t1 : D) (m : Mem) : RV := by
 refine (fun _ : ?a = LM.step3 O [t0, t1] m => ?a) ?h
 case h => conv => {rhs; reduce; try dsimp only [au, aA, oLoop_, oCalla_]}
theorem ahS (O : aC) (t0 t1 : D) (m : Mem) : LM.step2 O [t0, t1] m = Tz O t0 t1 m := (step3_eq ..).trans (by kernel_rfl)
noncomputable def ET (O : aC) (base : Nat) (t2 t3 t4 t14 t77 t78 t79 : D) (m : Mem) : Option (Ex × List D × Mem) := by
 refine (fun _ : ?a = bG O [2, 3, 4, 14, 77, 78, 79] [14] qX qX base [t2, t3, t4, t14, t77, t78, t79] m => ?a) ?h
 case h => conv => {rhs; conv => {arg 5; delta qX}; reduce; try dsimp only [au, aA, oLoop_, oCalla_]}
theorem ND (O : aC) (base : Nat) (t2 t3 t4 t14 t77 t78 t79 : D) (m : Mem) : bg O [2, 3, 4, 14, 77, 78, 79] [14] qX base [t2, t3, t4, t14, t77, t78, t79] m = ET O base t2 t3 t4 t14 t77 t78 t79 m := (loopStep3_eq ..).trans (by kernel_rfl)
noncomputable def lq (O : aC) (t0 t1 t2 t3 : D) (m : Mem) : RV := by
 refine (fun _ : ?a = Fz.step3 O [t0, t1, t2, t3] m => ?a) ?h
 case h => conv => {rhs; reduce; try dsimp only [au, aA, oLoop_, oCalla_]}
theorem MP (O : aC) (t0 t1 t2 t3 : D) (m : Mem) : Fz.step2 O [t0, t1, t2, t3] m = lq O t0 t1 t2 t3 m := (step3_eq ..).trans (by kernel_rfl)
noncomputable def Qo (O : aC) (t0 t1 : D) (m : Mem) : RV := by
 refine (fun _ : ?a = AY.step3 O [t0, t1] m => ?a) ?h
 case h => conv => {rhs; reduce; try dsimp only [au, aA, oLoop_, oCalla_]}
theorem aaY (O : aC) (t0 t1 : D) (m : Mem) : AY.step2 O [t0, t1] m = Qo O t0 t1 m := (step3_eq ..).trans (by kernel_rfl)
noncomputable def ad7 (O : aC) (t0 t1 : D) (m : Mem) : RV := by
 refine (fun _ : ?a = OZ.step3 O [t0, t1] m => ?a) ?h
 case h => conv => {rhs; reduce; try dsimp only [au, aA, oLoop_, oCalla_]}
theorem ajD (O : aC) (t0 t1 : D) (m : Mem) : OZ.step2 O [t0, t1] m = ad7 O t0 t1 m := (step3_eq ..).trans (by kernel_rfl)
noncomputable def Qp (O : aC) (t0 t1 : D) (m : Mem) : RV := by
 refine (fun _ : ?a = AZ.step3 O [t0, t1] m => ?a) ?h
 case h => conv => {rhs; reduce; try dsimp only [au, aA, oLoop_, oCalla_]}
theorem aaZ (O : aC) (t0 t1 : D) (m : Mem) : AZ.step2 O [t0, t1] m = Qp O t0 t1 m := (step3_eq ..).trans (by kernel_rfl)
end Go.Ev.Code
end
section
namespace Go.Ev.Code
open Go Go.Ev
set_option maxRecDepth 100000
attribute [local irreducible] oLoop oCalla bd jn P8 Fb gc U2 D9 GK Jk fz kC hdI tlI List.length List.append IU SY Ip SL Gl wS Gn DN yG Gm SN MC DT dV oI zi SS Nl Nk SQ Wi Wn S9 Wp S_ MF MH Il Tc JG Ii Bf yF Ij SV MG DL XM XO Pz ug pI DK PD Io DR FT Iq FQ Ik Wj
attribute [local irreducible] oJ qA gY gX dO eP iF bY iU fD gW tX nR gJ qN jr jd NT xw wF wV pU dY iL jB jA CS gZ fE kE dF jG rF slices_Reverse_int eH j_ lI qM fO eF nZ qY iV kU gB dJ gG xR xU tH w_ FX En jD wR bM gV bD eX yD bJ bZ bT lS zh qE kZ Gj jq fZ zV yH Oo pV gU oC nM iw Gi iI jv nY wE nO xX Cc kX rH oq iY lT dK kJ jX CJ kY IC fG fK bC fV fQ iR jU yC dR kV fU uD qh uJ sQ yN JJ mY pO xY qR N8 BA gQ sO nV rO oK lJ fM uj vg rM lU strings_Cut Oe jS dX bP bits_Mul64 bits_Add64 jV bits_Sub64 tY t_ BM qU vS fA B_ BI iC Cb x9 qK zl pR uy cZ d_ strings_Repeat slices_Reverse_string strings_Join strings_CutPrefix jy f_ Cj fB kD rP pW jh fF wu xu nat_bit yx qg bits_LeadingZeros64 wo yw yA yu ji jC lM Jr yc F6 F7 pJ nT yt strconv_Itoa uh oL bits_TrailingZeros64 Ez C9 Cm wQ pK lX wP Du qC CB oZ CG lQ uU fH iW dA h_ jc wM hndB MI uq lZ CV CW Rz ny nC kK nD L_ Mc eY vM vN tq Xt jf Ed Ee Gp Gs Gt Gu Gv nS kW nG lY ru nU uG uH Ou dM Ef qI
noncomputable def EZ (O : aC) (t0 : D) (m : Mem) : RV := by
 refine (fun _ : ?a = yY.step3 O [t0] m => ?a) ?h
 case h => conv => {rhs; reduce; try dsimp only [au, aA, oLoop_, oCalla_]}
theorem Ym (O : aC) (t0 : D) (m : Mem) : yY.step2 O [t0] m = EZ O t0 m := (step3_eq ..).trans (by kernel_rfl)
noncomputable def aai (O : aC) (t0 : D) (m : Mem) : RV := by
 refine (fun _ : ?a = Ll.step3 O [t0] m => ?a) ?h
 case h => conv => {rhs; reduce; try dsimp only [au, aA, oLoop_, oCalla_]}
theorem ahL (O : aC) (t0 : D) (m : Mem) : Ll.step2 O [t0] m = aai O t0 m := (step3_eq ..).trans (by kernel_rfl)
noncomputable def JM (O : aC) (t0 : D) (m : Mem) : RV := by
 refine (fun _ : ?a = Df.step3 O [t0] m => ?a) ?h
 case h => conv => {rhs; reduce; try dsimp only [au, aA, oLoop_, oCalla_]}
theorem acd (O : aC) (t0 : D) (m : Mem) : Df.step2 O [t0] m = JM O t0 m := (step3_eq ..).trans (by kernel_rfl)
noncomputable def Gz (O : aC) (t0 : D) (m : Mem) : RV := by
 refine (fun _ : ?a = tV.step3 O [t0] m => ?a) ?h
 case h => conv => {rhs; reduce; try dsimp only [au, aA, oLoop_, oCalla_]}
theorem QY (O : aC) (t0 : D) (m : Mem) : tV.step2 O [t0] m = Gz O t0 m := (step3_eq ..).trans (by kernel_rfl)
noncomputable def uo (O : aC) (t0 : D) (m : Mem) : RV := by
 refine (fun _ : ?a = tN.step3 O [t0] m => ?a) ?h
 case h => conv => {rhs; reduce; try dsimp only [au, aA, oLoop_, oCalla_]}
theorem QX (O : aC) (t0 : D) (m : Mem) : tN.step2 O [t0] m = uo O t0 m := (step3_eq ..).trans (by kernel_rfl)
noncomputable def Hf (O : aC) (t0 t1 : D) (m : Mem) : RV := by
 refine (fun _ : ?a = AQ.step3 O [t0, t1] m => ?a) ?h
 case h => conv => {rhs; reduce; try dsimp only [au, aA, oLoop_, oCalla_]}
theorem aaU (O : aC) (t0 t1 : D) (m : Mem) : AQ.step2 O [t0, t1] m = Hf O t0 t1 m := (step3_eq ..).trans (by kernel_rfl)
noncomputable def oO (O : aC) (base : Nat) (t1 t2 t6 : D) (m : Mem) : Option (Ex × List D × Mem) := by
 refine (fun _ : ?a = bG O [1, 2, 6] [4, 5] lZ lZ base [t1, t2, t6] m => ?a) ?h
 case h => conv => {rhs; conv => {arg 5; delta lZ}; reduce; try dsimp only [au, aA, oLoop_, oCalla_]}
theorem WQ (O : aC) (base : Nat) (t1 t2 t6 : D) (m : Mem) : bg O [1, 2, 6] [4, 5] lZ base [t1, t2, t6] m = oO O base t1 t2 t6 m := (loopStep3_eq ..).trans (by kernel_rfl)
noncomputable def JY (O : aC) (t0 t1 : D) (m : Mem) : RV := by
 refine (fun _ : ?a = Dq.step3 O [t0, t1] m => ?a) ?h
 case h => conv => {rhs; reduce; try dsimp only [au, aA, oLoop_, oCalla_]}
theorem acj (O : aC) (t0 t1 : D) (m : Mem) : Dq.step2 O [t0, t1] m = JY O t0 t1 m := (step3_eq ..).trans (by kernel_rfl)
noncomputable def Qc (O : aC) (t0 : D) (m : Mem) : RV := by
 refine (fun _ : ?a = Ag.step3 O [t0] m => ?a) ?h
 case h => conv => {rhs; reduce; try dsimp only [au, aA, oLoop_, oCalla_]}
theorem aaE (O : aC) (t0 : D) (m : Mem) : Ag.step2 O [t0] m = Qc O t0 m := (step3_eq ..).trans (by kernel_rfl)
noncomputable def zW (O : aC) (t0 : D) (m : Mem) : RV := by
 refine (fun _ : ?a = Fq.step3 O [t0] m => ?a) ?h
 case h => conv => {rhs; reduce; try dsimp only [au, aA, oLoop_, oCalla_]}
theorem aeu (O : aC) (t0 : D) (m : Mem) : Fq.step2 O [t0] m = zW O t0 m := (step3_eq ..).trans (by kernel_rfl)
noncomputable def Tq (O : aC) (t0 : D) (m : Mem) : RV := by
 refine (fun _ : ?a = Lr.step3 O [t0] m => ?a) ?h
 case h => conv => {rhs; reduce; try dsimp only [au, aA, oLoop_, oCalla_]}
theorem ahN (O : aC) (t0 : D) (m : Mem) : Lr.step2 O [t0] m = Tq O t0 m := (step3_eq ..).trans (by kernel_rfl)
noncomputable def Qk (O : aC) (t0 t1 : D) (m : Mem) : RV := by
 refine (fun _ : ?a = AB.step3 O [t0, t1] m => ?a) ?h
 case h => conv => {rhs; reduce; try dsimp only [au, aA, oLoop_, oCalla_]}
theorem aaQ (O : aC) (t0 t1 : D) (m : Mem) : AB.step2 O [t0, t1] m = Qk O t0 t1 m := (step3_eq ..).trans (by kernel_rfl)
noncomputable def X5 (O : aC) (t0 t1 : D) (m : Mem) : RV := by
 refine (fun _ : ?a = Ib.step3 O [t0, t1] m => ?a) ?h
 case h => conv => {rhs; reduce; try dsimp only [au, aA, oLoop_, oCalla_]}
theorem agz (O : aC) (t0 t1 : D) (m : Mem) : Ib.step2 O [t0, t1] m = X5 O t0 t1 m := (step3_eq ..).trans (by kernel_rfl)
noncomputable def ES (O : aC) (t0 : D) (m : Mem) : RV := by
 refine (fun _ : ?a = yS.step3 O [t0] m => ?a) ?h
 case h => conv => {rhs; reduce; try dsimp only [au, aA, oLoop_, oCalla_]}
theorem Yh (O : aC) (t0 : D) (m : Mem) : yS.step2 O [t0] m = ES O t0 m := (step3_eq ..).trans (by kernel_rfl)
noncomputable def lu (O : aC) (t0 t1 t2 : D) (m : Mem) : RV := by
 refine (fun _ : ?a = FB.step3 O [t0, t1, t2] m => ?a) ?h
 case h => conv => {rhs; reduce; try dsimp only [au, aA, oLoop_, oCalla_]}
theorem wY (O : aC) (t0 t1 t2 : D) (m : Mem) : FB.step2 O [t0, t1, t2] m = lu O t0 t1 t2 m := (step3_eq ..).trans (by kernel_rfl)
noncomputable def Qm (O : aC) (t0 t1 : D) (m : Mem) : RV := by
 refine (fun _ : ?a = AV.step3 O [t0, t1] m => ?a) ?h
 case h => conv => {rhs; reduce; try dsimp only [au, aA, oLoop_, oCalla_]}
theorem aaW (O : aC) (t0 t1 : D) (m : Mem) : AV.step2 O [t0, t1] m = Qm O t0 t1 m := (step3_eq ..).trans (by kernel_rfl)
noncomputable def He (O : aC) (t0 : D) (m : Mem) : RV := by
 refine (fun _ : ?a = AO.step3 O [t0] m => ?a) ?h
 case h => conv => {rhs; reduce; try dsimp only [au, aA, oLoop_, oCalla_]}
theorem aaS (O : aC) (t0 : D) (m : Mem) : AO.step2 O [t0] m = He O t0 m := (step3_eq ..).trans (by kernel_rfl)
noncomputable def MN (O : aC) (t0 t1 : D) (m : Mem) : RV := by
 refine (fun _ : ?a = LJ.step3 O [t0, t1] m => ?a) ?h
 case h => conv => {rhs; reduce; try dsimp only [au, aA, oLoop_, oCalla_]}
theorem ahR (O : aC) (t0 t1 : D) (m : Mem) : LJ.step2 O [t0, t1] m = MN O t0 t1 m := (step3_eq ..).trans (by kernel_rfl)
noncomputable def ad6 (O : aC) (t0 : D) (m : Mem) : RV := by
 refine (fun _ : ?a = OX.step3 O [t0] m => ?a) ?h
 case h => conv => {rhs; reduce; try dsimp only [au, aA, oLoop_, oCalla_]}
theorem ajB (O : aC) (t0 : D) (m : Mem) : OX.step2 O [t0] m = ad6 O t0 m := (step3_eq ..).trans (by kernel_rfl)
noncomputable def Qj (O : aC) (t0 : D) (m : Mem) : RV := by
 refine (fun _ : ?a = Az.step3 O [t0] m => ?a) ?h
 case h => conv => {rhs; reduce; try dsimp only [au, aA, oLoop_, oCalla_]}
theorem aaO (O : aC) (t0 : D) (m : Mem) : Az.step2 O [t0] m = Qj O t0 m := (step3_eq ..).trans (by kernel_rfl)
noncomputable def BO (O : aC) (base : Nat) (t6 t7 t8 t9 t10 t26 t27 t28 t33 t34 t35 : D) (m : Mem) : Option (Ex × List D × Mem) := by
 refine (fun _ : ?a = bG O [6, 7, 8, 9, 10, 26, 27, 28, 33, 34, 35] [6, 7, 8, 10, 26, 27, 28] ny ny base [t6, t7, t8, t9, t10, t26, t27, t28, t33, t34, t35] m => ?a) ?h
 case h => conv => {rhs; conv => {arg 5; delta ny}; reduce; try dsimp only [au, aA, oLoop_, oCalla_]}
theorem IX (O : aC) (base : Nat) (t6 t7 t8 t9 t10 t26 t27 t28 t33 t34 t35 : D) (m : Mem) : bg O [6, 7, 8, 9, 10, 26, 27, 28, 33, 34, 35] [6, 7, 8, 10, 26, 27, 28] ny base [t6, t7, t8, t9, t10, t26, t27, t28, t33, t34, t35] m = BO O base t6 t7 t8 t9 t10 t26 t27 t28 t33 t34 t35 m := (loopStep3_eq ..).trans (by kernel_rfl)
noncomputable def BP (O : aC) (base : Nat) (t6 t7 t26 t27 t28 : D) (m : Mem) : Option (Ex × List D × Mem) := by
 refine (fun _ : ?a = bG O [6, 7, 26, 27, 28] [7] nC nC base [t6, t7, t26, t27, t28] m => ?a) ?h
 case h => conv => {rhs; conv => {arg 5; delta nC}; reduce; try dsimp only [au, aA, oLoop_, oCalla_]}
theorem IY (O : aC) (base : Nat) (t6 t7 t26 t27 t28 : D) (m : Mem) : bg O [6, 7, 26, 27, 28] [7] nC base [t6, t7, t26, t27, t28] m = BP O base t6 t7 t26 t27 t28 m := (loopStep3_eq ..).trans (by kernel_rfl)
noncomputable def Qg (O : aC) (t0 t1 : D) (m : Mem) : RV := by
 refine (fun _ : ?a = Aq.step3 O [t0, t1] m => ?a) ?h
 case h => conv => {rhs; reduce; try dsimp only [au, aA, oLoop_, oCalla_]}
theorem aaK (O : aC) (t0 t1 : D) (m : Mem) : Aq.step2 O [t0, t1] m = Qg O t0 t1 m := (step3_eq ..).trans (by kernel_rfl)
noncomputable def wH (O : aC) (base : Nat) (t5 t6 t7 t8 t27 t28 : D) (m : Mem) : Option (Ex × List D × Mem) := by
 refine (fun _ : ?a = bG O [5, 6, 7, 8, 27, 28] [5, 7, 8] kK kK base [t5, t6, t7, t8, t27, t28] m => ?a) ?h
 case h => conv => {rhs; conv => {arg 5; delta kK}; reduce; try dsimp only [au, aA, oLoop_, oCalla_]}
theorem IW (O : aC) (base : Nat) (t5 t6 t7 t8 t27 t28 : D) (m : Mem) : bg O [5, 6, 7, 8, 27, 28] [5, 7, 8] kK base [t5, t6, t7, t8, t27, t28] m = wH O base t5 t6 t7 t8 t27 t28 m := (loopStep3_eq ..).trans (by kernel_rfl)
noncomputable def G5 (O : aC) (t0 t1 : D) (m : Mem) : RV := by
 refine (fun _ : ?a = Aj.step3 O [t0, t1] m => ?a) ?h
 case h => conv => {rhs; reduce; try dsimp only [au, aA, oLoop_, oCalla_]}
theorem aaG (O : aC) (t0 t1 : D) (m : Mem) : Aj.step2 O [t0, t1] m = G5 O t0 t1 m := (step3_eq ..).trans (by kernel_rfl)
noncomputable def Qe (O : aC) (t0 t1 : D) (m : Mem) : RV := by
 refine (fun _ : ?a = Ak.step3 O [t0, t1] m => ?a) ?h
 case h => conv => {rhs; reduce; try dsimp only [au, aA, oLoop_, oCalla_]}
theorem aaH (O : aC) (t0 t1 : D) (m : Mem) : Ak.step2 O [t0, t1] m = Qe O t0 t1 m := (step3_eq ..).trans (by kernel_rfl)
noncomputable def wI (O : aC) (base : Nat) (t6 t7 t8 t9 t25 t26 : D) (m : Mem) : Option (Ex × List D × Mem) := by
 refine (fun _ : ?a = bG O [6, 7, 8, 9, 25, 26] [8] nD nD base [t6, t7, t8, t9, t25, t26] m => ?a) ?h
 case h => conv => {rhs; conv => {arg 5; delta nD}; reduce; try dsimp only [au, aA, oLoop_, oCalla_]}
theorem IZ (O : aC) (base : Nat) (t6 t7 t8 t9 t25 t26 : D) (m : Mem) : bg O [6, 7, 8, 9, 25, 26] [8] nD base [t6, t7, t8, t9, t25, t26] m = wI O base t6 t7 t8 t9 t25 t26 m := (loopStep3_eq ..).trans (by kernel_rfl)
noncomputable def Qi (O : aC) (t0 t1 : D) (m : Mem) : RV := by
 refine (fun _ : ?a = Au.step3 O [t0, t1] m => ?a) ?h
 case h => conv => {rhs; reduce; try dsimp only [au, aA, oLoop_, oCalla_]}
theorem aaM (O : aC) (t0 t1 : D) (m : Mem) : Au.step2 O [t0, t1] m = Qi O t0 t1 m := (step3_eq ..).trans (by kernel_rfl)
noncomputable def Ox (O : aC) (t0 : D) (m : Mem) : RV := by
 refine (fun _ : ?a = yV.step3 O [t0] m => ?a) ?h
 case h => conv => {rhs; reduce; try dsimp only [au, aA, oLoop_, oCalla_]}
theorem Yk (O : aC) (t0 : D) (m : Mem) : yV.step2 O [t0] m = Ox O t0 m := (step3_eq ..).trans (by kernel_rfl)
noncomputable def o7 (O : aC) (t0 t1 : D) (m : Mem) : RV := by
 refine (fun _ : ?a = Ap.step3 O [t0, t1] m => ?a) ?h
 case h => conv => {rhs; reduce; try dsimp only [au, aA, oLoop_, oCalla_]}
theorem aaJ (O : aC) (t0 t1 : D) (m : Mem) : Ap.step2 O [t0, t1] m = o7 O t0 t1 m := (step3_eq ..).trans (by kernel_rfl)
noncomputable def Bl (O : aC) (t0 t1 : D) (m : Mem) : RV := by
 refine (fun _ : ?a = Am.step3 O [t0, t1] m => ?a) ?h
 case h => conv => {rhs; reduce; try dsimp only [au, aA, oLoop_, oCalla_]}
theorem aaI (O : aC) (t0 t1 : D) (m : Mem) : Am.step2 O [t0, t1] m = Bl O t0 t1 m := (step3_eq ..).trans (by kernel_rfl)
noncomputable def kF (O : aC) (base : Nat) (t2 t3 t6 t7 : D) (m : Mem) : Option (Ex × List D × Mem) := by
 refine (fun _ : ?a = bG O [2, 3, 6, 7] [4, 5, 6] eY eY base [t2, t3, t6, t7] m => ?a) ?h
 case h => conv => {rhs; conv => {arg 5; delta eY}; reduce; try dsimp only [au, aA, oLoop_, oCalla_]}
theorem mZ (O : aC) (base : Nat) (t2 t3 t6 t7 : D) (m : Mem) : bg O [2, 3, 6, 7] [4, 5, 6] eY base [t2, t3, t6, t7] m = kF O base t2 t3 t6 t7 m := (loopStep3_eq ..).trans (by kernel_rfl)
noncomputable def Bj (O : aC) (t0 t1 : D) (m : Mem) : RV := by
 refine (fun _ : ?a = Ah.step3 O [t0, t1] m => ?a) ?h
 case h => conv => {rhs; reduce; try dsimp only [au, aA, oLoop_, oCalla_]}
theorem GL (O : aC) (t0 t1 : D) (m : Mem) : Ah.step2 O [t0, t1] m = Bj O t0 t1 m := (step3_eq ..).trans (by kernel_rfl)
noncomputable def JU (O : aC) (t0 t1 t2 t3 t4 t5 : D) (m : Mem) : RV := by
 refine (fun _ : ?a = Di.step3 O [t0, t1, t2, t3, t4, t5] m => ?a) ?h
 case h => conv => {rhs; reduce; try dsimp only [au, aA, oLoop_, oCalla_]}
theorem acg (O : aC) (t0 t1 t2 t3 t4 t5 : D) (m : Mem) : Di.step2 O [t0, t1, t2, t3, t4, t5] m = JU O t0 t1 t2 t3 t4 t5 m := (step3_eq ..).trans (by kernel_rfl)
noncomputable def Tn (O : aC) (base : Nat) (t0 t6 t35 t36 t37 : D) (m : Mem) : Option (Ex × List D × Mem) := by
 refine (fun _ : ?a = bG O [0, 6, 35, 36, 37] [0, 6] vM vM base [t0, t6, t35, t36, t37] m => ?a) ?h
 case h => conv => {rhs; conv => {arg 5; delta vM}; reduce; try dsimp only [au, aA, oLoop_, oCalla_]}
theorem ace (O : aC) (base : Nat) (t0 t6 t35 t36 t37 : D) (m : Mem) : bg O [0, 6, 35, 36, 37] [0, 6] vM base [t0, t6, t35, t36, t37] m = Tn O base t0 t6 t35 t36 t37 m := (loopStep3_eq ..).trans (by kernel_rfl)
noncomputable def JO (O : aC) (base : Nat) (t6 t10 t11 t47 t48 t49 : D) (m : Mem) : Option (Ex × List D × Mem) := by
 refine (fun _ : ?a = bG O [6, 10, 11, 47, 48, 49] [6, 47, 48, 49] vN vN base [t6, t10, t11, t47, t48, t49] m => ?a) ?h
 case h => conv => {rhs; conv => {arg 5; delta vN}; reduce; try dsimp only [au, aA, oLoop_, oCalla_]}
theorem QM (O : aC) (base : Nat) (t6 t10 t11 t47 t48 t49 : D) (m : Mem) : bg O [6, 10, 11, 47, 48, 49] [6, 47, 48, 49] vN base [t6, t10, t11, t47, t48, t49] m = JO O base t6 t10 t11 t47 t48 t49 m := (loopStep3_eq ..).trans (by kernel_rfl)
noncomputable def JQ (O : aC) (base : Nat) (t6 t47 t48 t49 : D) (m : Mem) : Option (Ex × List D × Mem) := by
 refine (fun _ : ?a = bG O [6, 47, 48, 49] [6] tq tq base [t6, t47, t48, t49] m => ?a) ?h
 case h => conv => {rhs; conv => {arg 5; delta tq}; reduce; try dsimp only [au, aA, oLoop_, oCalla_]}
theorem QN (O : aC) (base : Nat) (t6 t47 t48 t49 : D) (m : Mem) : bg O [6, 47, 48, 49] [6] tq base [t6, t47, t48, t49] m = JQ O base t6 t47 t48 t49 m := (loopStep3_eq ..).trans (by kernel_rfl)
noncomputable def aaj (O : aC) (t0 t1 : D) (m : Mem) : RV := by
 refine (fun _ : ?a = Lm.step3 O [t0, t1] m => ?a) ?h
 case h => conv => {rhs; reduce; try dsimp only [au, aA, oLoop_, oCalla_]}
theorem ahM (O : aC) (t0 t1 : D) (m : Mem) : Lm.step2 O [t0, t1] m = aaj O t0 t1 m := (step3_eq ..).trans (by kernel_rfl)
noncomputable def iZ (O : aC) (base : Nat) (t3 t4 : D) (m : Mem) : Option (Ex × List D × Mem) := by
 refine (fun _ : ?a = bG O [3, 4] [3] jf jf base [t3, t4] m => ?a) ?h
 case h => conv => {rhs; conv => {arg 5; delta jf}; reduce; try dsimp only [au, aA, oLoop_, oCalla_]}
theorem pF (O : aC) (base : Nat) (t3 t4 : D) (m : Mem) : bg O [3, 4] [3] jf base [t3, t4] m = iZ O base t3 t4 m := (loopStep3_eq ..).trans (by kernel_rfl)
noncomputable def EU (O : aC) (t0 : D) (m : Mem) : RV := by
 refine (fun _ : ?a = yU.step3 O [t0] m => ?a) ?h
 case h => conv => {rhs; reduce; try dsimp only [au, aA, oLoop_, oCalla_]}
theorem Yj (O : aC) (t0 : D) (m : Mem) : yU.step2 O [t0] m = EU O t0 m := (step3_eq ..).trans (by kernel_rfl)
noncomputable def iq (O : aC) (t0 : D) (m : Mem) : RV := by
 refine (fun _ : ?a = Ls.step3 O [t0] m => ?a) ?h
 case h => conv => {rhs; reduce; try dsimp only [au, aA, oLoop_, oCalla_]}
theorem ZA (O : aC) (t0 : D) (m : Mem) : Ls.step2 O [t0] m = iq O t0 m := (step3_eq ..).trans (by kernel_rfl)
noncomputable def Ql (O : aC) (t0 t1 : D) (m : Mem) : RV := by
 refine (fun _ : ?a = AP.step3 O [t0, t1] m => ?a) ?h
 case h => conv => {rhs; reduce; try dsimp only [au, aA, oLoop_, oCalla_]}
theorem aaT (O : aC) (t0 t1 : D) (m : Mem) : AP.step2 O [t0, t1] m = Ql O t0 t1 m := (step3_eq ..).trans (by kernel_rfl)
noncomputable def JX (O : aC) (base : Nat) (t0 t5 t6 t7 : D) (m : Mem) : Option (Ex × List D × Mem) := by
 refine (fun _ : ?a = bG O [0, 5, 6, 7] [5] nS nS base [t0, t5, t6, t7] m => ?a) ?h
 case h => conv => {rhs; conv => {arg 5; delta nS}; reduce; try dsimp only [au, aA, oLoop_, oCalla_]}
theorem QT (O : aC) (base : Nat) (t0 t5 t6 t7 : D) (m : Mem) : bg O [0, 5, 6, 7] [5] nS base [t0, t5, t6, t7] m = JX O base t0 t5 t6 t7 m := (loopStep3_eq ..).trans (by kernel_rfl)
noncomputable def vH (O : aC) (t0 : D) (m : Mem) : RV := by
 refine (fun _ : ?a = LD.step3 O [t0] m => ?a) ?h
 case h => conv => {rhs; reduce; try dsimp only [au, aA, oLoop_, oCalla_]}
theorem ZB (O : aC) (t0 : D) (m : Mem) : LD.step2 O [t0] m = vH O t0 m := (step3_eq ..).trans (by kernel_rfl)
noncomputable def o8 (O : aC) (base : Nat) (t0 : D) (m : Mem) : Option (Ex × List D × Mem) := by
 refine (fun _ : ?a = bG O [0] [0] kW kW base [t0] m => ?a) ?h
 case h => conv => {rhs; conv => {arg 5; delta kW}; reduce; try dsimp only [au, aA, oLoop_, oCalla_]}
theorem z_ (O : aC) (base : Nat) (t0 : D) (m : Mem) : bg O [0] [0] kW base [t0] m = o8 O base t0 m := (loopStep3_eq ..).trans (by kernel_rfl)
noncomputable def PL (O : aC) (t0 : D) (m : Mem) : RV := by
 refine (fun _ : ?a = H_.step3 O [t0] m => ?a) ?h
 case h => conv => {rhs; reduce; try dsimp only [au, aA, oLoop_, oCalla_]}
theorem WO (O : aC) (t0 : D) (m : Mem) : H_.step2 O [t0] m = PL O t0 m := (step3_eq ..).trans (by kernel_rfl)
noncomputable def D5 (O : aC) (t0 : D) (m : Mem) : RV := by
 refine (fun _ : ?a = xP.step3 O [t0] m => ?a) ?h
 case h => conv => {rhs; reduce; try dsimp only [au, aA, oLoop_, oCalla_]}
theorem Ky (O : aC) (t0 : D) (m : Mem) : xP.step2 O [t0] m = D5 O t0 m := (step3_eq ..).trans (by kernel_rfl)
noncomputable def rU (O : aC) (base : Nat) (t0 t1 t5 : D) (m : Mem) : Option (Ex × List D × Mem) := by
 refine (fun _ : ?a = bG O [0, 1, 5] [4] nG nG base [t0, t1, t5] m => ?a) ?h
 case h => conv => {rhs; conv => {arg 5; delta nG}; reduce; try dsimp only [au, aA, oLoop_, oCalla_]}
theorem I4 (O : aC) (base : Nat) (t0 t1 t5 : D) (m : Mem) : bg O [0, 1, 5] [4] nG base [t0, t1, t5] m = rU O base t0 t1 t5 m := (loopStep3_eq ..).trans (by kernel_rfl)
noncomputable def G6 (O : aC) (t0 t1 : D) (m : Mem) : RV := by
 refine (fun _ : ?a = Aw.step3 O [t0, t1] m => ?a) ?h
 case h => conv => {rhs; reduce; try dsimp only [au, aA, oLoop_, oCalla_]}
theorem aaN (O : aC) (t0 t1 : D) (m : Mem) : Aw.step2 O [t0, t1] m = G6 O t0 t1 m := (step3_eq ..).trans (by kernel_rfl)
noncomputable def um (O : aC) (base : Nat) (t0 t1 t5 : D) (m : Mem) : Option (Ex × List D × Mem) := by
 refine (fun _ : ?a = bG O [0, 1, 5] [4] lY lY base [t0, t1, t5] m => ?a) ?h
 case h => conv => {rhs; conv => {arg 5; delta lY}; reduce; try dsimp only [au, aA, oLoop_, oCalla_]}
theorem xI (O : aC) (base : Nat) (t0 t1 t5 : D) (m : Mem) : bg O [0, 1, 5] [4] lY base [t0, t1, t5] m = um O base t0 t1 t5 m := (loopStep3_eq ..).trans (by kernel_rfl)
noncomputable def Tv (O : aC) (t0 t1 : D) (m : Mem) : RV := by
 refine (fun _ : ?a = Dn.step3 O [t0, t1] m => ?a) ?h
 case h => conv => {rhs; reduce; try dsimp only [au, aA, oLoop_, oCalla_]}
theorem aci (O : aC) (t0 t1 : D) (m : Mem) : Dn.step2 O [t0, t1] m = Tv O t0 t1 m := (step3_eq ..).trans (by kernel_rfl)
noncomputable def EX (O : aC) (base : Nat) (t0 t1 t6 t7 t8 : D) (m : Mem) : Option (Ex × List D × Mem) := by
 refine (fun _ : ?a = bG O [0, 1, 6, 7, 8] [6, 7] ru ru base [t0, t1, t6, t7, t8] m => ?a) ?h
 case h => conv => {rhs; conv => {arg 5; delta ru}; reduce; try dsimp only [au, aA, oLoop_, oCalla_]}
theorem NH (O : aC) (base : Nat) (t0 t1 t6 t7 t8 : D) (m : Mem) : bg O [0, 1, 6, 7, 8] [6, 7] ru base [t0, t1, t6, t7, t8] m = EX O base t0 t1 t6 t7 t8 m := (loopStep3_eq ..).trans (by kernel_rfl)
noncomputable def Va (O : aC) (t0 t1 : D) (m : Mem) : RV := by
 refine (fun _ : ?a = FK.step3 O [t0, t1] m => ?a) ?h
 case h => conv => {rhs; reduce; try dsimp only [au, aA, oLoop_, oCalla_]}
theorem aey (O : aC) (t0 t1 : D) (m : Mem) : FK.step2 O [t0, t1] m = Va O t0 t1 m := (step3_eq ..).trans (by kernel_rfl)
noncomputable def Bq (O : aC) (base : Nat) (t1 t6 t7 t8 t9 t10 t11 t12 : D) (m : Mem) : Option (Ex × List D × Mem) := by
 refine (fun _ : ?a = bG O [1, 6, 7, 8, 9, 10, 11, 12] [1, 6, 7, 8, 9, 10] nU nU base [t1, t6, t7, t8, t9, t10, t11, t12] m => ?a) ?h
 case h => conv => {rhs; conv => {arg 5; delta nU}; reduce; try dsimp only [au, aA, oLoop_, oCalla_]}
theorem GN (O : aC) (base : Nat) (t1 t6 t7 t8 t9 t10 t11 t12 : D) (m : Mem) : bg O [1, 6, 7, 8, 9, 10, 11, 12] [1, 6, 7, 8, 9, 10] nU base [t1, t6, t7, t8, t9, t10, t11, t12] m = Bq O base t1 t6 t7 t8 t9 t10 t11 t12 m := (loopStep3_eq ..).trans (by kernel_rfl)
noncomputable def G7 (O : aC) (base : Nat) (t1 t6 t7 t8 t9 t10 : D) (m : Mem) : Option (Ex × List D × Mem) := by
 refine (fun _ : ?a = bG O [1, 6, 7, 8, 9, 10] [1, 6, 7, 9] uG uG base [t1, t6, t7, t8, t9, t10] m => ?a) ?h
 case h => conv => {rhs; conv => {arg 5; delta uG}; reduce; try dsimp only [au, aA, oLoop_, oCalla_]}
theorem PY (O : aC) (base : Nat) (t1 t6 t7 t8 t9 t10 : D) (m : Mem) : bg O [1, 6, 7, 8, 9, 10] [1, 6, 7, 9] uG base [t1, t6, t7, t8, t9, t10] m = G7 O base t1 t6 t7 t8 t9 t10 m := (loopStep3_eq ..).trans (by kernel_rfl)
noncomputable def G8 (O : aC) (base : Nat) (t6 t7 t9 t13 t86 t87 : D) (m : Mem) : Option (Ex × List D × Mem) := by
 refine (fun _ : ?a = bG O [6, 7, 9, 13, 86, 87] [9, 13] uH uH base [t6, t7, t9, t13, t86, t87] m => ?a) ?h
 case h => conv => {rhs; conv => {arg 5; delta uH}; reduce; try dsimp only [au, aA, oLoop_, oCalla_]}
theorem PZ (O : aC) (base : Nat) (t6 t7 t9 t13 t86 t87 : D) (m : Mem) : bg O [6, 7, 9, 13, 86, 87] [9, 13] uH base [t6, t7, t9, t13, t86, t87] m = G8 O base t6 t7 t9 t13 t86 t87 m := (loopStep3_eq ..).trans (by kernel_rfl)
noncomputable def XZ (O : aC) (t0 t1 : D) (m : Mem) : RV := by
 refine (fun _ : ?a = H9.step3 O [t0, t1] m => ?a) ?h
 case h => conv => {rhs; reduce; try dsimp only [au, aA, oLoop_, oCalla_]}
theorem agx (O : aC) (t0 t1 : D) (m : Mem) : H9.step2 O [t0, t1] m = XZ O t0 t1 m := (step3_eq ..).trans (by kernel_rfl)
noncomputable def EP (O : aC) (t0 : D) (m : Mem) : RV := by
 refine (fun _ : ?a = yR.step3 O [t0] m => ?a) ?h
 case h => conv => {rhs; reduce; try dsimp only [au, aA, oLoop_, oCalla_]}
theorem Yg (O : aC) (t0 : D) (m : Mem) : yR.step2 O [t0] m = EP O t0 m := (step3_eq ..).trans (by kernel_rfl)
noncomputable def JR (O : aC) (t0 t1 t2 : D) (m : Mem) : RV := by
 refine (fun _ : ?a = Dh.step3 O [t0, t1, t2] m => ?a) ?h
 case h => conv => {rhs; reduce; try dsimp only [au, aA, oLoop_, oCalla_]}
theorem acf (O : aC) (t0 t1 t2 : D) (m : Mem) : Dh.step2 O [t0, t1, t2] m = JR O t0 t1 t2 m := (step3_eq ..).trans (by kernel_rfl)
noncomputable def XW (O : aC) (t0 t1 : D) (m : Mem) : RV := by
 refine (fun _ : ?a = H6.step3 O [t0, t1] m => ?a) ?h
 case h => conv => {rhs; reduce; try dsimp only [au, aA, oLoop_, oCalla_]}
theorem agv (O : aC) (t0 t1 : D) (m : Mem) : H6.step2 O [t0, t1] m = XW O t0 t1 m := (step3_eq ..).trans (by kernel_rfl)
noncomputable def o_ (O : aC) (base : Nat) (t0 t2 t3 : D) (m : Mem) : Option (Ex × List D × Mem) := by
 refine (fun _ : ?a = bG O [0, 2, 3] [] dM dM base [t0, t2, t3] m => ?a) ?h
 case h => conv => {rhs; conv => {arg 5; delta dM}; reduce; try dsimp only [au, aA, oLoop_, oCalla_]}
theorem wO (O : aC) (base : Nat) (t0 t2 t3 : D) (m : Mem) : bg O [0, 2, 3] [] dM base [t0, t2, t3] m = o_ O base t0 t2 t3 m := (loopStep3_eq ..).trans (by kernel_rfl)
noncomputable def zA (O : aC) (t0 : D) (m : Mem) : RV := by
 refine (fun _ : ?a = mM.step3 O [t0] m => ?a) ?h
 case h => conv => {rhs; reduce; try dsimp only [au, aA, oLoop_, oCalla_]}
theorem Ko (O : aC) (t0 : D) (m : Mem) : mM.step2 O [t0] m = zA O t0 m := (step3_eq ..).trans (by kernel_rfl)
noncomputable def aak (O : aC) (t0 : D) (m : Mem) : RV := by
 refine (fun _ : ?a = Lu.step3 O [t0] m => ?a) ?h
 case h => conv => {rhs; reduce; try dsimp only [au, aA, oLoop_, oCalla_]}
theorem ahO (O : aC) (t0 : D) (m : Mem) : Lu.step2 O [t0] m = aak O t0 m := (step3_eq ..).trans (by kernel_rfl)
noncomputable def G9 (O : aC) (base : Nat) (t0 t3 : D) (m : Mem) : Option (Ex × List D × Mem) := by
 refine (fun _ : ?a = bG O [0, 3] [0, 3] qI qI base [t0, t3] m => ?a) ?h
 case h => conv => {rhs; conv => {arg 5; delta qI}; reduce; try dsimp only [au, aA, oLoop_, oCalla_]}
theorem P5 (O : aC) (base : Nat) (t0 t3 : D) (m : Mem) : bg O [0, 3] [0, 3] qI base [t0, t3] m = G9 O base t0 t3 m := (loopStep3_eq ..).trans (by kernel_rfl)
noncomputable def X4 (O : aC) (t0 : D) (m : Mem) : RV := by
 refine (fun _ : ?a = Ia.step3 O [t0] m => ?a) ?h
 case h => conv => {rhs; reduce; try dsimp only [au, aA, oLoop_, oCalla_]}
theorem agy (O : aC) (t0 : D) (m : Mem) : Ia.step2 O [t0] m = X4 O t0 m := (step3_eq ..).trans (by kernel_rfl)
end Go.Ev.Code
end
section
namespace Go.Ev.Code
open Go Go.Ev
set_option maxRecDepth 100000
attribute [local irreducible] oLoop oCalla bd jn P8 Fb gc U2 D9 GK Jk fz kC hdI tlI List.length List.append IU SY Ip SL Gl wS Gn DN yG Gm SN MC DT dV oI zi SS Nl Nk SQ Wi Wn S9 Wp S_ MF MH Il Tc JG Ii Bf yF Ij SV MG DL XM XO Pz ug pI DK PD Io DR FT Iq FQ Ik Wj
attribute [local irreducible] oJ qA gY gX dO eP iF bY iU fD gW tX nR gJ qN jr jd NT xw wF wV pU dY iL jB jA CS gZ fE kE dF jG rF slices_Reverse_int eH j_ lI qM fO eF nZ qY iV kU gB dJ gG xR xU tH w_ FX En jD wR bM gV bD eX yD bJ bZ bT lS zh qE kZ Gj jq fZ zV yH Oo pV gU oC nM iw Gi iI jv nY wE nO xX Cc kX rH oq iY lT dK kJ jX CJ kY IC fG fK bC fV fQ iR jU yC dR kV fU uD qh uJ sQ yN JJ mY pO xY qR N8 BA gQ sO nV rO oK lJ fM uj vg rM lU strings_Cut Oe jS dX bP bits_Mul64 bits_Add64 jV bits_Sub64 tY t_ BM qU vS fA B_ BI iC Cb x9 qK zl pR uy cZ d_ strings_Repeat slices_Reverse_string strings_Join strings_CutPrefix jy f_ Cj fB kD rP pW jh fF wu xu nat_bit yx qg bits_LeadingZeros64 wo yw yA yu ji jC lM Jr yc F6 F7 pJ nT yt strconv_Itoa uh oL bits_TrailingZeros64 Ez C9 Cm wQ pK lX wP Du qC CB oZ CG lQ uU fH iW dA h_ jc wM hndB tZ qH lV lW qG og rC qZ vw zB kL LZ Gq Gw Gx N7 Rq Rt
noncomputable def D6 (O : aC) (base : Nat) (t0 t3 t14 t15 : D) (m : Mem) : Option (Ex × List D × Mem) := by
 refine (fun _ : ?a = bG O [0, 3, 14, 15] [0] tZ tZ base [t0, t3, t14, t15] m => ?a) ?h
 case h => conv => {rhs; conv => {arg 5; delta tZ}; reduce; try dsimp only [au, aA, oLoop_, oCalla_]}
theorem QU (O : aC) (base : Nat) (t0 t3 t14 t15 : D) (m : Mem) : bg O [0, 3, 14, 15] [0] tZ base [t0, t3, t14, t15] m = D6 O base t0 t3 t14 t15 m := (loopStep3_eq ..).trans (by kernel_rfl)
noncomputable def aam (O : aC) (t0 : D) (m : Mem) : RV := by
 refine (fun _ : ?a = LH.step3 O [t0] m => ?a) ?h
 case h => conv => {rhs; reduce; try dsimp only [au, aA, oLoop_, oCalla_]}
theorem ahQ (O : aC) (t0 : D) (m : Mem) : LH.step2 O [t0] m = aam O t0 m := (step3_eq ..).trans (by kernel_rfl)
noncomputable def aal (O : aC) (t0 : D) (m : Mem) : RV := by
 refine (fun _ : ?a = LG.step3 O [t0] m => ?a) ?h
 case h => conv => {rhs; reduce; try dsimp only [au, aA, oLoop_, oCalla_]}
theorem ahP (O : aC) (t0 : D) (m : Mem) : LG.step2 O [t0] m = aal O t0 m := (step3_eq ..).trans (by kernel_rfl)
noncomputable def Bo (O : aC) (base : Nat) (t0 t1 t5 t9 t10 : D) (m : Mem) : Option (Ex × List D × Mem) := by
 refine (fun _ : ?a = bG O [0, 1, 5, 9, 10] [0] qH qH base [t0, t1, t5, t9, t10] m => ?a) ?h
 case h => conv => {rhs; conv => {arg 5; delta qH}; reduce; try dsimp only [au, aA, oLoop_, oCalla_]}
theorem PX (O : aC) (base : Nat) (t0 t1 t5 t9 t10 : D) (m : Mem) : bg O [0, 1, 5, 9, 10] [0] qH base [t0, t1, t5, t9, t10] m = Bo O base t0 t1 t5 t9 t10 m := (loopStep3_eq ..).trans (by kernel_rfl)
noncomputable def XY (O : aC) (t0 t1 : D) (m : Mem) : RV := by
 refine (fun _ : ?a = H8.step3 O [t0, t1] m => ?a) ?h
 case h => conv => {rhs; reduce; try dsimp only [au, aA, oLoop_, oCalla_]}
theorem agw (O : aC) (t0 t1 : D) (m : Mem) : H8.step2 O [t0, t1] m = XY O t0 t1 m := (step3_eq ..).trans (by kernel_rfl)
noncomputable def oM (O : aC) (base : Nat) (t2 t8 t9 t10 t11 t13 t14 t15 t16 : D) (m : Mem) : Option (Ex × List D × Mem) := by
 refine (fun _ : ?a = bG O [2, 8, 9, 10, 11, 13, 14, 15, 16] [2, 8, 9, 10, 11, 13, 14, 15] lV lV base [t2, t8, t9, t10, t11, t13, t14, t15, t16] m => ?a) ?h
 case h => conv => {rhs; conv => {arg 5; delta lV}; reduce; try dsimp only [au, aA, oLoop_, oCalla_]}
theorem WI (O : aC) (base : Nat) (t2 t8 t9 t10 t11 t13 t14 t15 t16 : D) (m : Mem) : bg O [2, 8, 9, 10, 11, 13, 14, 15, 16] [2, 8, 9, 10, 11, 13, 14, 15] lV base [t2, t8, t9, t10, t11, t13, t14, t15, t16] m = oM O base t2 t8 t9 t10 t11 t13 t14 t15 t16 m := (loopStep3_eq ..).trans (by kernel_rfl)
noncomputable def oN (O : aC) (base : Nat) (t2 t8 t9 t10 t14 t15 t16 t17 t18 : D) (m : Mem) : Option (Ex × List D × Mem) := by
 refine (fun _ : ?a = bG O [2, 8, 9, 10, 14, 15, 16, 17, 18] [2, 8, 14, 15, 17, 18] lW lW base [t2, t8, t9, t10, t14, t15, t16, t17, t18] m => ?a) ?h
 case h => conv => {rhs; conv => {arg 5; delta lW}; reduce; try dsimp only [au, aA, oLoop_, oCalla_]}
theorem WJ (O : aC) (base : Nat) (t2 t8 t9 t10 t14 t15 t16 t17 t18 : D) (m : Mem) : bg O [2, 8, 9, 10, 14, 15, 16, 17, 18] [2, 8, 14, 15, 17, 18] lW base [t2, t8, t9, t10, t14, t15, t16, t17, t18] m = oN O base t2 t8 t9 t10 t14 t15 t16 t17 t18 m := (loopStep3_eq ..).trans (by kernel_rfl)
noncomputable def JL (O : aC) (t0 t1 t2 : D) (m : Mem) : RV := by
 refine (fun _ : ?a = C_.step3 O [t0, t1, t2] m => ?a) ?h
 case h => conv => {rhs; reduce; try dsimp only [au, aA, oLoop_, oCalla_]}
theorem ab9 (O : aC) (t0 t1 t2 : D) (m : Mem) : C_.step2 O [t0, t1, t2] m = JL O t0 t1 t2 m := (step3_eq ..).trans (by kernel_rfl)
noncomputable def wW (O : aC) (base : Nat) (t1 t5 t12 t13 t14 : D) (m : Mem) : Option (Ex × List D × Mem) := by
 refine (fun _ : ?a = bG O [1, 5, 12, 13, 14] [5] qG qG base [t1, t5, t12, t13, t14] m => ?a) ?h
 case h => conv => {rhs; conv => {arg 5; delta qG}; reduce; try dsimp only [au, aA, oLoop_, oCalla_]}
theorem zZ (O : aC) (base : Nat) (t1 t5 t12 t13 t14 : D) (m : Mem) : bg O [1, 5, 12, 13, 14] [5] qG base [t1, t5, t12, t13, t14] m = wW O base t1 t5 t12 t13 t14 m := (loopStep3_eq ..).trans (by kernel_rfl)
noncomputable def PK (O : aC) (t0 t1 : D) (m : Mem) : RV := by
 refine (fun _ : ?a = H7.step3 O [t0, t1] m => ?a) ?h
 case h => conv => {rhs; reduce; try dsimp only [au, aA, oLoop_, oCalla_]}
theorem WM (O : aC) (t0 t1 : D) (m : Mem) : H7.step2 O [t0, t1] m = PK O t0 t1 m := (step3_eq ..).trans (by kernel_rfl)
noncomputable def jH (O : aC) (base : Nat) (t0 t5 t6 t7 t8 t9 : D) (m : Mem) : Option (Ex × List D × Mem) := by
 refine (fun _ : ?a = bG O [0, 5, 6, 7, 8, 9] [4] og og base [t0, t5, t6, t7, t8, t9] m => ?a) ?h
 case h => conv => {rhs; conv => {arg 5; delta og}; reduce; try dsimp only [au, aA, oLoop_, oCalla_]}
theorem yM (O : aC) (base : Nat) (t0 t5 t6 t7 t8 t9 : D) (m : Mem) : bg O [0, 5, 6, 7, 8, 9] [4] og base [t0, t5, t6, t7, t8, t9] m = jH O base t0 t5 t6 t7 t8 t9 m := (loopStep3_eq ..).trans (by kernel_rfl)
noncomputable def Ns (O : aC) (t0 t1 : D) (m : Mem) : RV := by
 refine (fun _ : ?a = FI.step3 O [t0, t1] m => ?a) ?h
 case h => conv => {rhs; reduce; try dsimp only [au, aA, oLoop_, oCalla_]}
theorem UF (O : aC) (t0 t1 : D) (m : Mem) : FI.step2 O [t0, t1] m = Ns O t0 t1 m := (step3_eq ..).trans (by kernel_rfl)
noncomputable def EY (O : aC) (base : Nat) (t0 t1 t2 t7 t8 t14 t15 t16 : D) (m : Mem) : Option (Ex × List D × Mem) := by
 refine (fun _ : ?a = bG O [0, 1, 2, 7, 8, 14, 15, 16] [0, 1, 7, 8] rC rC base [t0, t1, t2, t7, t8, t14, t15, t16] m => ?a) ?h
 case h => conv => {rhs; conv => {arg 5; delta rC}; reduce; try dsimp only [au, aA, oLoop_, oCalla_]}
theorem NI (O : aC) (base : Nat) (t0 t1 t2 t7 t8 t14 t15 t16 : D) (m : Mem) : bg O [0, 1, 2, 7, 8, 14, 15, 16] [0, 1, 7, 8] rC base [t0, t1, t2, t7, t8, t14, t15, t16] m = EY O base t0 t1 t2 t7 t8 t14 t15 t16 m := (loopStep3_eq ..).trans (by kernel_rfl)
noncomputable def Nu (O : aC) (t0 t1 t2 : D) (m : Mem) : RV := by
 refine (fun _ : ?a = FM.step3 O [t0, t1, t2] m => ?a) ?h
 case h => conv => {rhs; reduce; try dsimp only [au, aA, oLoop_, oCalla_]}
theorem aez (O : aC) (t0 t1 t2 : D) (m : Mem) : FM.step2 O [t0, t1, t2] m = Nu O t0 t1 t2 m := (step3_eq ..).trans (by kernel_rfl)
noncomputable def EW (O : aC) (base : Nat) (t0 t1 t4 t7 t8 t9 : D) (m : Mem) : Option (Ex × List D × Mem) := by
 refine (fun _ : ?a = bG O [0, 1, 4, 7, 8, 9] [0, 1, 4] qZ qZ base [t0, t1, t4, t7, t8, t9] m => ?a) ?h
 case h => conv => {rhs; conv => {arg 5; delta qZ}; reduce; try dsimp only [au, aA, oLoop_, oCalla_]}
theorem NG (O : aC) (base : Nat) (t0 t1 t4 t7 t8 t9 : D) (m : Mem) : bg O [0, 1, 4, 7, 8, 9] [0, 1, 4] qZ base [t0, t1, t4, t7, t8, t9] m = EW O base t0 t1 t4 t7 t8 t9 m := (loopStep3_eq ..).trans (by kernel_rfl)
noncomputable def U_ (O : aC) (t0 t1 : D) (m : Mem) : RV := by
 refine (fun _ : ?a = FH.step3 O [t0, t1] m => ?a) ?h
 case h => conv => {rhs; reduce; try dsimp only [au, aA, oLoop_, oCalla_]}
theorem aex (O : aC) (t0 t1 : D) (m : Mem) : FH.step2 O [t0, t1] m = U_ O t0 t1 m := (step3_eq ..).trans (by kernel_rfl)
noncomputable def Qd (O : aC) (t0 t1 t2 : D) (m : Mem) : RV := by
 refine (fun _ : ?a = Ai.step3 O [t0, t1, t2] m => ?a) ?h
 case h => conv => {rhs; reduce; try dsimp only [au, aA, oLoop_, oCalla_]}
theorem aaF (O : aC) (t0 t1 t2 : D) (m : Mem) : Ai.step2 O [t0, t1, t2] m = Qd O t0 t1 t2 m := (step3_eq ..).trans (by kernel_rfl)
noncomputable def rQ (O : aC) (base : Nat) (t1 t5 t6 : D) (m : Mem) : Option (Ex × List D × Mem) := by
 refine (fun _ : ?a = bG O [1, 5, 6] [5] kL kL base [t1, t5, t6] m => ?a) ?h
 case h => conv => {rhs; conv => {arg 5; delta kL}; reduce; try dsimp only [au, aA, oLoop_, oCalla_]}
theorem vK (O : aC) (base : Nat) (t1 t5 t6 : D) (m : Mem) : bg O [1, 5, 6] [5] kL base [t1, t5, t6] m = rQ O base t1 t5 t6 m := (loopStep3_eq ..).trans (by kernel_rfl)
noncomputable def Qh (O : aC) (t0 t1 : D) (m : Mem) : RV := by
 refine (fun _ : ?a = Ar.step3 O [t0, t1] m => ?a) ?h
 case h => conv => {rhs; reduce; try dsimp only [au, aA, oLoop_, oCalla_]}
theorem aaL (O : aC) (t0 t1 : D) (m : Mem) : Ar.step2 O [t0, t1] m = Qh O t0 t1 m := (step3_eq ..).trans (by kernel_rfl)
end Go.Ev.Code
end
section
end
