/- A part of the proof of priceFalls_card, riskSigns_card, yieldBack_card, yieldEdge_card, yieldFalls_card. -/
import Derived.KernelRfl
import Derived.Test.YtnokhmkkpcfilabGreatDoorCFlat
import Derived.Test.YtnokhmkkpcfilabGreatDoorCCodeA
import Derived.Test.YtnokhmkkpcfilabGreatDoorCCodeB
import Derived.Test.YtnokhmkkpcfilabGreatDoorCCodeC
set_option linter.unusedVariables false
section
namespace Go.Ev.Code
open Go Go.Ev
set_option maxRecDepth 100000
attribute [local irreducible] VU Ym bd jn UL Lu gc ZT J9 Nl Kw fz jV ZV tlI List.length List.append BZ Yz OH Yt MW AO MZ JQ Dk MX Yu Td JU fZ rJ ET Yw Ud Uc Yv aa0 aa2 YA aa3 YB Tf Tm OE YC Qq OB Ho Dj OC Yy Yx Ti JO rMn rMx V_ xU sN JM Wh OG JR MC OI MB OD aa1
attribute [local irreducible] iU jr jv jw iV dO iF iQ fV iG iM pI KQ yH iE gZ jQ jq iO iR yK mG nJ sO qA zh Dv jo uo sW lJ gu lF lD Bc lg dN bZ dw nY jH iq yI wC nI gV Bj uS lH dI cZ wz nZ uX lq mJ vY slices_Reverse_int gW qX rX nU uH Cj Du rY wo xR uJ Df kX sZ CB CG xA jY jG rE qI gG xP iJ bW jm qR jc ji kC mW qQ IW nV jl xE fK strings_CutPrefix strings_Cut lC mP jy IG qU vZ yA tY oI uV gJ nC wX Dz Qu qg sU CO vC fC UO um Hz jE iI dD bits_Mul64 bits_Add64 gq mX bits_Sub64 KI xK xO Ib iT qM vF zJ Af jh qJ Iz zA iD Iw H7 jS Iy CQ uT EX sV yt dW gI strings_Repeat slices_Reverse_string strings_Join zY A_ nat_bit C9 tV bits_LeadingZeros64 zX CZ C_ CY CJ kR lG oU P8 CS MK ML sQ CX strconv_Itoa bits_TrailingZeros64 KA Jb II AL sS o9 AB Js uI IK rW IL oW y8 iY kH eP kK jO Ar hndB sH iy xQ oG qC kF mM jK jJ gQ iK jg mg gU kY je vM fD ql qm
noncomputable def kQ (O : aA) (t0 t1 t2 t3 : D) (m : Mem) : RV := by
 refine (fun _ : ?a = nN.step3 O [t0, t1, t2, t3] m => ?a) ?h
 case h => conv => {rhs; reduce; try dsimp only [ak, au, aG, ay]}
theorem tK (O : aA) (t0 t1 t2 t3 : D) (m : Mem) : nN.step2 O [t0, t1, t2, t3] m = kQ O t0 t1 t2 t3 m := (aH ..).trans (by kernel_rfl)
noncomputable def jM (O : aA) (t0 t1 t2 : D) (m : Mem) : RV := by
 refine (fun _ : ?a = oz.step3 O [t0, t1, t2] m => ?a) ?h
 case h => conv => {rhs; reduce; try dsimp only [ak, au, aG, ay]}
theorem u_ (O : aA) (t0 t1 t2 : D) (m : Mem) : oz.step2 O [t0, t1, t2] m = jM O t0 t1 t2 m := (aH ..).trans (by kernel_rfl)
noncomputable def oM (O : aA) (t0 t1 t2 : D) (m : Mem) : RV := by
 refine (fun _ : ?a = oC.step3 O [t0, t1, t2] m => ?a) ?h
 case h => conv => {rhs; reduce; try dsimp only [ak, au, aG, ay]}
theorem Cb (O : aA) (t0 t1 t2 : D) (m : Mem) : oC.step2 O [t0, t1, t2] m = oM O t0 t1 t2 m := (aH ..).trans (by kernel_rfl)
noncomputable def oN (O : aA) (t0 t1 : D) (m : Mem) : RV := by
 refine (fun _ : ?a = oD.step3 O [t0, t1] m => ?a) ?h
 case h => conv => {rhs; reduce; try dsimp only [ak, au, aG, ay]}
theorem Cc (O : aA) (t0 t1 : D) (m : Mem) : oD.step2 O [t0, t1] m = oN O t0 t1 m := (aH ..).trans (by kernel_rfl)
noncomputable def dF (O : aA) (t0 t1 t2 t3 : D) (m : Mem) : RV := by
 refine (fun _ : ?a = nO.step3 O [t0, t1, t2, t3] m => ?a) ?h
 case h => conv => {rhs; reduce; try dsimp only [ak, au, aG, ay]}
theorem BD (O : aA) (t0 t1 t2 t3 : D) (m : Mem) : nO.step2 O [t0, t1, t2, t3] m = dF O t0 t1 t2 t3 m := (aH ..).trans (by kernel_rfl)
noncomputable def Nc (O : aA) (t0 : D) (m : Mem) : RV := by
 refine (fun _ : ?a = xB.step3 O [t0] m => ?a) ?h
 case h => conv => {rhs; reduce; try dsimp only [ak, au, aG, ay]}
theorem XC (O : aA) (t0 : D) (m : Mem) : xB.step2 O [t0] m = Nc O t0 m := (aH ..).trans (by kernel_rfl)
noncomputable def Kq (O : aA) (t0 : D) (m : Mem) : RV := by
 refine (fun _ : ?a = wK.step3 O [t0] m => ?a) ?h
 case h => conv => {rhs; reduce; try dsimp only [ak, au, aG, ay]}
theorem Xg (O : aA) (t0 : D) (m : Mem) : wK.step2 O [t0] m = Kq O t0 m := (aH ..).trans (by kernel_rfl)
noncomputable def Hy (O : aA) (t0 t1 t2 : D) (m : Mem) : RV := by
 refine (fun _ : ?a = GR.step3 O [t0, t1, t2] m => ?a) ?h
 case h => conv => {rhs; reduce; try dsimp only [ak, au, aG, ay]}
theorem Ns (O : aA) (t0 t1 t2 : D) (m : Mem) : GR.step2 O [t0, t1, t2] m = Hy O t0 t1 t2 m := (aH ..).trans (by kernel_rfl)
noncomputable def W_ (O : aA) (t0 t1 : D) (m : Mem) : RV := by
 refine (fun _ : ?a = GX.step3 O [t0, t1] m => ?a) ?h
 case h => conv => {rhs; reduce; try dsimp only [ak, au, aG, ay]}
theorem afG (O : aA) (t0 t1 : D) (m : Mem) : GX.step2 O [t0, t1] m = W_ O t0 t1 m := (aH ..).trans (by kernel_rfl)
noncomputable def yh (O : aA) (t0 t1 t2 : D) (m : Mem) : RV := by
 refine (fun _ : ?a = BP.step3 O [t0, t1, t2] m => ?a) ?h
 case h => conv => {rhs; reduce; try dsimp only [ak, au, aG, ay]}
theorem BF (O : aA) (t0 t1 t2 : D) (m : Mem) : BP.step2 O [t0, t1, t2] m = yh O t0 t1 t2 m := (aH ..).trans (by kernel_rfl)
noncomputable def TB (O : aA) (t0 t1 t2 : D) (m : Mem) : RV := by
 refine (fun _ : ?a = SE.step3 O [t0, t1, t2] m => ?a) ?h
 case h => conv => {rhs; reduce; try dsimp only [ak, au, aG, ay]}
theorem XE (O : aA) (t0 t1 t2 : D) (m : Mem) : SE.step2 O [t0, t1, t2] m = TB O t0 t1 t2 m := (aH ..).trans (by kernel_rfl)
noncomputable def AQ (O : aA) (t0 t1 t2 : D) (m : Mem) : RV := by
 refine (fun _ : ?a = G8.step3 O [t0, t1, t2] m => ?a) ?h
 case h => conv => {rhs; reduce; try dsimp only [ak, au, aG, ay]}
theorem F6 (O : aA) (t0 t1 t2 : D) (m : Mem) : G8.step2 O [t0, t1, t2] m = AQ O t0 t1 t2 m := (aH ..).trans (by kernel_rfl)
noncomputable def Vd (O : aA) (t0 : D) (m : Mem) : RV := by
 refine (fun _ : ?a = DZ.step3 O [t0] m => ?a) ?h
 case h => conv => {rhs; reduce; try dsimp only [ak, au, aG, ay]}
theorem ac2 (O : aA) (t0 : D) (m : Mem) : DZ.step2 O [t0] m = Vd O t0 m := (aH ..).trans (by kernel_rfl)
noncomputable def BU (O : aA) (base : Nat) (t1 t2 t3 t8 t9 : D) (m : Mem) : Option (Ex × List D × Mem) := by
 refine (fun _ : ?a = bI O [1, 2, 3, 8, 9] [6, 7, 8] sH sH base [t1, t2, t3, t8, t9] m => ?a) ?h
 case h => conv => {rhs; conv => {arg 5; delta sH}; reduce; try dsimp only [ak, au, aG, ay]}
theorem I7 (O : aA) (base : Nat) (t1 t2 t3 t8 t9 : D) (m : Mem) : bC O [1, 2, 3, 8, 9] [6, 7, 8] sH base [t1, t2, t3, t8, t9] m = BU O base t1 t2 t3 t8 t9 m := (aY ..).trans (by kernel_rfl)
noncomputable def oO (O : aA) (t0 t1 t2 : D) (m : Mem) : RV := by
 refine (fun _ : ?a = Jr.step3 O [t0, t1, t2] m => ?a) ?h
 case h => conv => {rhs; reduce; try dsimp only [ak, au, aG, ay]}
theorem yU (O : aA) (t0 t1 t2 : D) (m : Mem) : Jr.step2 O [t0, t1, t2] m = oO O t0 t1 t2 m := (aH ..).trans (by kernel_rfl)
noncomputable def aiB (O : aA) (t0 t1 : D) (m : Mem) : RV := by
 refine (fun _ : ?a = VB.step3 O [t0, t1] m => ?a) ?h
 case h => conv => {rhs; reduce; try dsimp only [ak, au, aG, ay]}
theorem aok (O : aA) (t0 t1 : D) (m : Mem) : VB.step2 O [t0, t1] m = aiB O t0 t1 m := (aH ..).trans (by kernel_rfl)
noncomputable def NU (O : aA) (t0 t1 : D) (m : Mem) : RV := by
 refine (fun _ : ?a = GV.step3 O [t0, t1] m => ?a) ?h
 case h => conv => {rhs; reduce; try dsimp only [ak, au, aG, ay]}
theorem afF (O : aA) (t0 t1 : D) (m : Mem) : GV.step2 O [t0, t1] m = NU O t0 t1 m := (aH ..).trans (by kernel_rfl)
noncomputable def Xd (O : aA) (t0 t1 : D) (m : Mem) : RV := by
 refine (fun _ : ?a = G7.step3 O [t0, t1] m => ?a) ?h
 case h => conv => {rhs; reduce; try dsimp only [ak, au, aG, ay]}
theorem afK (O : aA) (t0 t1 : D) (m : Mem) : G7.step2 O [t0, t1] m = Xd O t0 t1 m := (aH ..).trans (by kernel_rfl)
noncomputable def Kr (O : aA) (t0 t1 : D) (m : Mem) : RV := by
 refine (fun _ : ?a = wL.step3 O [t0, t1] m => ?a) ?h
 case h => conv => {rhs; reduce; try dsimp only [ak, au, aG, ay]}
theorem Xh (O : aA) (t0 t1 : D) (m : Mem) : wL.step2 O [t0, t1] m = Kr O t0 t1 m := (aH ..).trans (by kernel_rfl)
noncomputable def OQ (O : aA) (t0 t1 t2 : D) (m : Mem) : RV := by
 refine (fun _ : ?a = Ou.step3 O [t0, t1, t2] m => ?a) ?h
 case h => conv => {rhs; reduce; try dsimp only [ak, au, aG, ay]}
theorem Vl (O : aA) (t0 t1 t2 : D) (m : Mem) : Ou.step2 O [t0, t1, t2] m = OQ O t0 t1 t2 m := (aH ..).trans (by kernel_rfl)
noncomputable def Am (O : aA) (base : Nat) (t1 t2 t5 : D) (m : Mem) : Option (Ex × List D × Mem) := by
 refine (fun _ : ?a = bI O [1, 2, 5] [1, 2, 5] iy iy base [t1, t2, t5] m => ?a) ?h
 case h => conv => {rhs; conv => {arg 5; delta iy}; reduce; try dsimp only [ak, au, aG, ay]}
theorem I4 (O : aA) (base : Nat) (t1 t2 t5 : D) (m : Mem) : bC O [1, 2, 5] [1, 2, 5] iy base [t1, t2, t5] m = Am O base t1 t2 t5 m := (aY ..).trans (by kernel_rfl)
noncomputable def N8 (O : aA) (t0 t1 : D) (m : Mem) : RV := by
 refine (fun _ : ?a = yN.step3 O [t0, t1] m => ?a) ?h
 case h => conv => {rhs; reduce; try dsimp only [ak, au, aG, ay]}
theorem Zk (O : aA) (t0 t1 : D) (m : Mem) : yN.step2 O [t0, t1] m = N8 O t0 t1 m := (aH ..).trans (by kernel_rfl)
noncomputable def Ij (O : aA) (t0 : D) (m : Mem) : RV := by
 refine (fun _ : ?a = zN.step3 O [t0] m => ?a) ?h
 case h => conv => {rhs; reduce; try dsimp only [ak, au, aG, ay]}
theorem Pm (O : aA) (t0 : D) (m : Mem) : zN.step2 O [t0] m = Ij O t0 m := (aH ..).trans (by kernel_rfl)
noncomputable def J5 (O : aA) (base : Nat) (t1 t6 t7 t8 t9 t27 t28 t29 : D) (m : Mem) : Option (Ex × List D × Mem) := by
 refine (fun _ : ?a = bI O [1, 6, 7, 8, 9, 27, 28, 29] [1, 6, 7, 8] xQ xQ base [t1, t6, t7, t8, t9, t27, t28, t29] m => ?a) ?h
 case h => conv => {rhs; conv => {arg 5; delta xQ}; reduce; try dsimp only [ak, au, aG, ay]}
theorem Pg (O : aA) (base : Nat) (t1 t6 t7 t8 t9 t27 t28 t29 : D) (m : Mem) : bC O [1, 6, 7, 8, 9, 27, 28, 29] [1, 6, 7, 8] xQ base [t1, t6, t7, t8, t9, t27, t28, t29] m = J5 O base t1 t6 t7 t8 t9 t27 t28 t29 m := (aY ..).trans (by kernel_rfl)
noncomputable def rD (O : aA) (t0 : D) (m : Mem) : RV := by
 refine (fun _ : ?a = SA.step3 O [t0] m => ?a) ?h
 case h => conv => {rhs; reduce; try dsimp only [ak, au, aG, ay]}
theorem ad9 (O : aA) (t0 : D) (m : Mem) : SA.step2 O [t0] m = rD O t0 m := (aH ..).trans (by kernel_rfl)
noncomputable def jL (O : aA) (base : Nat) (t1 t4 t6 t7 t21 t22 t23 : D) (m : Mem) : Option (Ex × List D × Mem) := by
 refine (fun _ : ?a = bI O [1, 4, 6, 7, 21, 22, 23] [2, 3, 7] oG oG base [t1, t4, t6, t7, t21, t22, t23] m => ?a) ?h
 case h => conv => {rhs; conv => {arg 5; delta oG}; reduce; try dsimp only [ak, au, aG, ay]}
theorem jW (O : aA) (base : Nat) (t1 t4 t6 t7 t21 t22 t23 : D) (m : Mem) : bC O [1, 4, 6, 7, 21, 22, 23] [2, 3, 7] oG base [t1, t4, t6, t7, t21, t22, t23] m = jL O base t1 t4 t6 t7 t21 t22 t23 m := (aY ..).trans (by kernel_rfl)
noncomputable def Dl (O : aA) (t0 : D) (m : Mem) : RV := by
 refine (fun _ : ?a = Si.step3 O [t0] m => ?a) ?h
 case h => conv => {rhs; reduce; try dsimp only [ak, au, aG, ay]}
theorem Ip (O : aA) (t0 : D) (m : Mem) : Si.step2 O [t0] m = Dl O t0 m := (aH ..).trans (by kernel_rfl)
noncomputable def Nb (O : aA) (t0 t1 : D) (m : Mem) : RV := by
 refine (fun _ : ?a = RQ.step3 O [t0, t1] m => ?a) ?h
 case h => conv => {rhs; reduce; try dsimp only [ak, au, aG, ay]}
theorem Xv (O : aA) (t0 t1 : D) (m : Mem) : RQ.step2 O [t0, t1] m = Nb O t0 t1 m := (aH ..).trans (by kernel_rfl)
noncomputable def pJ (O : aA) (t0 t1 t2 : D) (m : Mem) : RV := by
 refine (fun _ : ?a = GU.step3 O [t0, t1, t2] m => ?a) ?h
 case h => conv => {rhs; reduce; try dsimp only [ak, au, aG, ay]}
theorem wV (O : aA) (t0 t1 t2 : D) (m : Mem) : GU.step2 O [t0, t1, t2] m = pJ O t0 t1 t2 m := (aH ..).trans (by kernel_rfl)
noncomputable def zq (O : aA) (t0 t1 : D) (m : Mem) : RV := by
 refine (fun _ : ?a = Jo.step3 O [t0, t1] m => ?a) ?h
 case h => conv => {rhs; reduce; try dsimp only [ak, au, aG, ay]}
theorem IZ (O : aA) (t0 t1 : D) (m : Mem) : Jo.step2 O [t0, t1] m = zq O t0 t1 m := (aH ..).trans (by kernel_rfl)
noncomputable def lu (O : aA) (t0 : D) (m : Mem) : RV := by
 refine (fun _ : ?a = Jd.step3 O [t0] m => ?a) ?h
 case h => conv => {rhs; reduce; try dsimp only [ak, au, aG, ay]}
theorem agR (O : aA) (t0 : D) (m : Mem) : Jd.step2 O [t0] m = lu O t0 m := (aH ..).trans (by kernel_rfl)
noncomputable def Ld (O : aA) (t0 : D) (m : Mem) : RV := by
 refine (fun _ : ?a = D5.step3 O [t0] m => ?a) ?h
 case h => conv => {rhs; reduce; try dsimp only [ak, au, aG, ay]}
theorem ac3 (O : aA) (t0 : D) (m : Mem) : D5.step2 O [t0] m = Ld O t0 m := (aH ..).trans (by kernel_rfl)
noncomputable def xg (O : aA) (t0 : D) (m : Mem) : RV := by
 refine (fun _ : ?a = Gg.step3 O [t0] m => ?a) ?h
 case h => conv => {rhs; reduce; try dsimp only [ak, au, aG, ay]}
theorem afk (O : aA) (t0 : D) (m : Mem) : Gg.step2 O [t0] m = xg O t0 m := (aH ..).trans (by kernel_rfl)
noncomputable def NG (O : aA) (t0 : D) (m : Mem) : RV := by
 refine (fun _ : ?a = Gf.step3 O [t0] m => ?a) ?h
 case h => conv => {rhs; reduce; try dsimp only [ak, au, aG, ay]}
theorem afj (O : aA) (t0 : D) (m : Mem) : Gf.step2 O [t0] m = NG O t0 m := (aH ..).trans (by kernel_rfl)
noncomputable def ae5 (O : aA) (t0 t1 : D) (m : Mem) : RV := by
 refine (fun _ : ?a = Sz.step3 O [t0, t1] m => ?a) ?h
 case h => conv => {rhs; reduce; try dsimp only [ak, au, aG, ay]}
theorem amm (O : aA) (t0 t1 : D) (m : Mem) : Sz.step2 O [t0, t1] m = ae5 O t0 t1 m := (aH ..).trans (by kernel_rfl)
noncomputable def Nh (O : aA) (t0 t1 : D) (m : Mem) : RV := by
 refine (fun _ : ?a = xC.step3 O [t0, t1] m => ?a) ?h
 case h => conv => {rhs; reduce; try dsimp only [ak, au, aG, ay]}
theorem XD (O : aA) (t0 t1 : D) (m : Mem) : xC.step2 O [t0, t1] m = Nh O t0 t1 m := (aH ..).trans (by kernel_rfl)
noncomputable def Xc (O : aA) (t0 : D) (m : Mem) : RV := by
 refine (fun _ : ?a = G6.step3 O [t0] m => ?a) ?h
 case h => conv => {rhs; reduce; try dsimp only [ak, au, aG, ay]}
theorem afJ (O : aA) (t0 : D) (m : Mem) : G6.step2 O [t0] m = Xc O t0 m := (aH ..).trans (by kernel_rfl)
noncomputable def NR (O : aA) (t0 t1 : D) (m : Mem) : RV := by
 refine (fun _ : ?a = GI.step3 O [t0, t1] m => ?a) ?h
 case h => conv => {rhs; reduce; try dsimp only [ak, au, aG, ay]}
theorem afB (O : aA) (t0 t1 : D) (m : Mem) : GI.step2 O [t0, t1] m = NR O t0 t1 m := (aH ..).trans (by kernel_rfl)
noncomputable def Xa (O : aA) (t0 : D) (m : Mem) : RV := by
 refine (fun _ : ?a = GY.step3 O [t0] m => ?a) ?h
 case h => conv => {rhs; reduce; try dsimp only [ak, au, aG, ay]}
theorem afH (O : aA) (t0 : D) (m : Mem) : GY.step2 O [t0] m = Xa O t0 m := (aH ..).trans (by kernel_rfl)
noncomputable def WY (O : aA) (t0 t1 : D) (m : Mem) : RV := by
 refine (fun _ : ?a = Gz.step3 O [t0, t1] m => ?a) ?h
 case h => conv => {rhs; reduce; try dsimp only [ak, au, aG, ay]}
theorem afz (O : aA) (t0 t1 : D) (m : Mem) : Gz.step2 O [t0, t1] m = WY O t0 t1 m := (aH ..).trans (by kernel_rfl)
noncomputable def aa6 (O : aA) (t0 : D) (m : Mem) : RV := by
 refine (fun _ : ?a = VA.step3 O [t0] m => ?a) ?h
 case h => conv => {rhs; reduce; try dsimp only [ak, au, aG, ay]}
theorem aoj (O : aA) (t0 : D) (m : Mem) : VA.step2 O [t0] m = aa6 O t0 m := (aH ..).trans (by kernel_rfl)
noncomputable def sD (O : aA) (t0 t1 : D) (m : Mem) : RV := by
 refine (fun _ : ?a = Gy.step3 O [t0, t1] m => ?a) ?h
 case h => conv => {rhs; reduce; try dsimp only [ak, au, aG, ay]}
theorem afy (O : aA) (t0 t1 : D) (m : Mem) : Gy.step2 O [t0, t1] m = sD O t0 t1 m := (aH ..).trans (by kernel_rfl)
noncomputable def Ik (O : aA) (base : Nat) (t0 t1 t2 t8 t21 t22 t23 : D) (m : Mem) : Option (Ex × List D × Mem) := by
 refine (fun _ : ?a = bI O [0, 1, 2, 8, 21, 22, 23] [0, 1, 2, 8] qC qC base [t0, t1, t2, t8, t21, t22, t23] m => ?a) ?h
 case h => conv => {rhs; conv => {arg 5; delta qC}; reduce; try dsimp only [ak, au, aG, ay]}
theorem Pn (O : aA) (base : Nat) (t0 t1 t2 t8 t21 t22 t23 : D) (m : Mem) : bC O [0, 1, 2, 8, 21, 22, 23] [0, 1, 2, 8] qC base [t0, t1, t2, t8, t21, t22, t23] m = Ik O base t0 t1 t2 t8 t21 t22 t23 m := (aY ..).trans (by kernel_rfl)
noncomputable def Il (O : aA) (base : Nat) (t0 t1 t2 t8 t13 t14 t15 t16 : D) (m : Mem) : Option (Ex × List D × Mem) := by
 refine (fun _ : ?a = bI O [0, 1, 2, 8, 13, 14, 15, 16] [13, 14] kF kF base [t0, t1, t2, t8, t13, t14, t15, t16] m => ?a) ?h
 case h => conv => {rhs; conv => {arg 5; delta kF}; reduce; try dsimp only [ak, au, aG, ay]}
theorem Po (O : aA) (base : Nat) (t0 t1 t2 t8 t13 t14 t15 t16 : D) (m : Mem) : bC O [0, 1, 2, 8, 13, 14, 15, 16] [13, 14] kF base [t0, t1, t2, t8, t13, t14, t15, t16] m = Il O base t0 t1 t2 t8 t13 t14 t15 t16 m := (aY ..).trans (by kernel_rfl)
noncomputable def Xe (O : aA) (t0 t1 t2 : D) (m : Mem) : RV := by
 refine (fun _ : ?a = G_.step3 O [t0, t1, t2] m => ?a) ?h
 case h => conv => {rhs; reduce; try dsimp only [ak, au, aG, ay]}
theorem afL (O : aA) (t0 t1 t2 : D) (m : Mem) : G_.step2 O [t0, t1, t2] m = Xe O t0 t1 t2 m := (aH ..).trans (by kernel_rfl)
noncomputable def yS (O : aA) (base : Nat) (t1 t2 t5 t9 t10 t34 t35 t36 : D) (m : Mem) : Option (Ex × List D × Mem) := by
 refine (fun _ : ?a = bI O [1, 2, 5, 9, 10, 34, 35, 36] [1, 2, 5, 9, 10] mM mM base [t1, t2, t5, t9, t10, t34, t35, t36] m => ?a) ?h
 case h => conv => {rhs; conv => {arg 5; delta mM}; reduce; try dsimp only [ak, au, aG, ay]}
theorem Fq (O : aA) (base : Nat) (t1 t2 t5 t9 t10 t34 t35 t36 : D) (m : Mem) : bC O [1, 2, 5, 9, 10, 34, 35, 36] [1, 2, 5, 9, 10] mM base [t1, t2, t5, t9, t10, t34, t35, t36] m = yS O base t1 t2 t5 t9 t10 t34 t35 t36 m := (aY ..).trans (by kernel_rfl)
noncomputable def Le (O : aA) (t0 t1 : D) (m : Mem) : RV := by
 refine (fun _ : ?a = D6.step3 O [t0, t1] m => ?a) ?h
 case h => conv => {rhs; reduce; try dsimp only [ak, au, aG, ay]}
theorem Ux (O : aA) (t0 t1 : D) (m : Mem) : D6.step2 O [t0, t1] m = Le O t0 t1 m := (aH ..).trans (by kernel_rfl)
noncomputable def TA (O : aA) (t0 t1 : D) (m : Mem) : RV := by
 refine (fun _ : ?a = SC.step3 O [t0, t1] m => ?a) ?h
 case h => conv => {rhs; reduce; try dsimp only [ak, au, aG, ay]}
theorem aea (O : aA) (t0 t1 : D) (m : Mem) : SC.step2 O [t0, t1] m = TA O t0 t1 m := (aH ..).trans (by kernel_rfl)
noncomputable def Xb (O : aA) (t0 t1 : D) (m : Mem) : RV := by
 refine (fun _ : ?a = G5.step3 O [t0, t1] m => ?a) ?h
 case h => conv => {rhs; reduce; try dsimp only [ak, au, aG, ay]}
theorem afI (O : aA) (t0 t1 : D) (m : Mem) : G5.step2 O [t0, t1] m = Xb O t0 t1 m := (aH ..).trans (by kernel_rfl)
noncomputable def ae6 (O : aA) (t0 t1 : D) (m : Mem) : RV := by
 refine (fun _ : ?a = SG.step3 O [t0, t1] m => ?a) ?h
 case h => conv => {rhs; reduce; try dsimp only [ak, au, aG, ay]}
theorem amn (O : aA) (t0 t1 : D) (m : Mem) : SG.step2 O [t0, t1] m = ae6 O t0 t1 m := (aH ..).trans (by kernel_rfl)
noncomputable def qE (O : aA) (base : Nat) (t1 t2 t3 t6 t8 t32 : D) (m : Mem) : Option (Ex × List D × Mem) := by
 refine (fun _ : ?a = bI O [1, 2, 3, 6, 8, 32] [6, 7, 8] jK jK base [t1, t2, t3, t6, t8, t32] m => ?a) ?h
 case h => conv => {rhs; conv => {arg 5; delta jK}; reduce; try dsimp only [ak, au, aG, ay]}
theorem vg (O : aA) (base : Nat) (t1 t2 t3 t6 t8 t32 : D) (m : Mem) : bC O [1, 2, 3, 6, 8, 32] [6, 7, 8] jK base [t1, t2, t3, t6, t8, t32] m = qE O base t1 t2 t3 t6 t8 t32 m := (aY ..).trans (by kernel_rfl)
noncomputable def sF (O : aA) (t0 t1 t2 : D) (m : Mem) : RV := by
 refine (fun _ : ?a = G9.step3 O [t0, t1, t2] m => ?a) ?h
 case h => conv => {rhs; reduce; try dsimp only [ak, au, aG, ay]}
theorem Au (O : aA) (t0 t1 t2 : D) (m : Mem) : G9.step2 O [t0, t1, t2] m = sF O t0 t1 t2 m := (aH ..).trans (by kernel_rfl)
noncomputable def NV (O : aA) (t0 t1 : D) (m : Mem) : RV := by
 refine (fun _ : ?a = GZ.step3 O [t0, t1] m => ?a) ?h
 case h => conv => {rhs; reduce; try dsimp only [ak, au, aG, ay]}
theorem WC (O : aA) (t0 t1 : D) (m : Mem) : GZ.step2 O [t0, t1] m = NV O t0 t1 m := (aH ..).trans (by kernel_rfl)
noncomputable def EZ (O : aA) (t0 : D) (m : Mem) : RV := by
 refine (fun _ : ?a = DT.step3 O [t0] m => ?a) ?h
 case h => conv => {rhs; reduce; try dsimp only [ak, au, aG, ay]}
theorem acW (O : aA) (t0 : D) (m : Mem) : DT.step2 O [t0] m = EZ O t0 m := (aH ..).trans (by kernel_rfl)
noncomputable def acv (O : aA) (t0 : D) (m : Mem) : RV := by
 refine (fun _ : ?a = Oe.step3 O [t0] m => ?a) ?h
 case h => conv => {rhs; reduce; try dsimp only [ak, au, aG, ay]}
theorem akW (O : aA) (t0 : D) (m : Mem) : Oe.step2 O [t0] m = acv O t0 m := (aH ..).trans (by kernel_rfl)
noncomputable def acB (O : aA) (t0 t1 : D) (m : Mem) : RV := by
 refine (fun _ : ?a = Oq.step3 O [t0, t1] m => ?a) ?h
 case h => conv => {rhs; reduce; try dsimp only [ak, au, aG, ay]}
theorem ak2 (O : aA) (t0 t1 : D) (m : Mem) : Oq.step2 O [t0, t1] m = acB O t0 t1 m := (aH ..).trans (by kernel_rfl)
noncomputable def NS (O : aA) (t0 : D) (m : Mem) : RV := by
 refine (fun _ : ?a = GK.step3 O [t0] m => ?a) ?h
 case h => conv => {rhs; reduce; try dsimp only [ak, au, aG, ay]}
theorem afC (O : aA) (t0 : D) (m : Mem) : GK.step2 O [t0] m = NS O t0 m := (aH ..).trans (by kernel_rfl)
noncomputable def jR (O : aA) (t0 : D) (m : Mem) : RV := by
 refine (fun _ : ?a = RZ.step3 O [t0] m => ?a) ?h
 case h => conv => {rhs; reduce; try dsimp only [ak, au, aG, ay]}
theorem ad6 (O : aA) (t0 : D) (m : Mem) : RZ.step2 O [t0] m = jR O t0 m := (aH ..).trans (by kernel_rfl)
noncomputable def wS (O : aA) (base : Nat) (t0 t3 t4 t5 t6 : D) (m : Mem) : Option (Ex × List D × Mem) := by
 refine (fun _ : ?a = bI O [0, 3, 4, 5, 6] [0, 3, 4] jJ jJ base [t0, t3, t4, t5, t6] m => ?a) ?h
 case h => conv => {rhs; conv => {arg 5; delta jJ}; reduce; try dsimp only [ak, au, aG, ay]}
theorem E_ (O : aA) (base : Nat) (t0 t3 t4 t5 t6 : D) (m : Mem) : bC O [0, 3, 4, 5, 6] [0, 3, 4] jJ base [t0, t3, t4, t5, t6] m = wS O base t0 t3 t4 t5 t6 m := (aY ..).trans (by kernel_rfl)
noncomputable def pW (O : aA) (base : Nat) (t0 t3 t4 : D) (m : Mem) : Option (Ex × List D × Mem) := by
 refine (fun _ : ?a = bI O [0, 3, 4] [3] gQ gQ base [t0, t3, t4] m => ?a) ?h
 case h => conv => {rhs; conv => {arg 5; delta gQ}; reduce; try dsimp only [ak, au, aG, ay]}
theorem wP (O : aA) (base : Nat) (t0 t3 t4 : D) (m : Mem) : bC O [0, 3, 4] [3] gQ base [t0, t3, t4] m = pW O base t0 t3 t4 m := (aY ..).trans (by kernel_rfl)
noncomputable def lS (O : aA) (base : Nat) (t3 : D) (m : Mem) : Option (Ex × List D × Mem) := by
 refine (fun _ : ?a = bI O [3] [3] iK iK base [t3] m => ?a) ?h
 case h => conv => {rhs; conv => {arg 5; delta iK}; reduce; try dsimp only [ak, au, aG, ay]}
theorem wQ (O : aA) (base : Nat) (t3 : D) (m : Mem) : bC O [3] [3] iK base [t3] m = lS O base t3 m := (aY ..).trans (by kernel_rfl)
noncomputable def Ap (O : aA) (t0 : D) (m : Mem) : RV := by
 refine (fun _ : ?a = t_.step3 O [t0] m => ?a) ?h
 case h => conv => {rhs; reduce; try dsimp only [ak, au, aG, ay]}
theorem I5 (O : aA) (t0 : D) (m : Mem) : t_.step2 O [t0] m = Ap O t0 m := (aH ..).trans (by kernel_rfl)
noncomputable def uz (O : aA) (base : Nat) (t0 t3 : D) (m : Mem) : Option (Ex × List D × Mem) := by
 refine (fun _ : ?a = bI O [0, 3] [3] jg jg base [t0, t3] m => ?a) ?h
 case h => conv => {rhs; conv => {arg 5; delta jg}; reduce; try dsimp only [ak, au, aG, ay]}
theorem zF (O : aA) (base : Nat) (t0 t3 : D) (m : Mem) : bC O [0, 3] [3] jg base [t0, t3] m = uz O base t0 t3 m := (aY ..).trans (by kernel_rfl)
noncomputable def FI (O : aA) (t0 : D) (m : Mem) : RV := by
 refine (fun _ : ?a = yO.step3 O [t0] m => ?a) ?h
 case h => conv => {rhs; reduce; try dsimp only [ak, au, aG, ay]}
theorem NY (O : aA) (t0 : D) (m : Mem) : yO.step2 O [t0] m = FI O t0 m := (aH ..).trans (by kernel_rfl)
noncomputable def tH (O : aA) (base : Nat) (t1 t5 t6 : D) (m : Mem) : Option (Ex × List D × Mem) := by
 refine (fun _ : ?a = bI O [1, 5, 6] [2, 3, 4] mg mg base [t1, t5, t6] m => ?a) ?h
 case h => conv => {rhs; conv => {arg 5; delta mg}; reduce; try dsimp only [ak, au, aG, ay]}
theorem Fh (O : aA) (base : Nat) (t1 t5 t6 : D) (m : Mem) : bC O [1, 5, 6] [2, 3, 4] mg base [t1, t5, t6] m = tH O base t1 t5 t6 m := (aY ..).trans (by kernel_rfl)
noncomputable def U_ (O : aA) (t0 : D) (m : Mem) : RV := by
 refine (fun _ : ?a = DW.step3 O [t0] m => ?a) ?h
 case h => conv => {rhs; reduce; try dsimp only [ak, au, aG, ay]}
theorem acZ (O : aA) (t0 : D) (m : Mem) : DW.step2 O [t0] m = U_ O t0 m := (aH ..).trans (by kernel_rfl)
noncomputable def wU (O : aA) (base : Nat) (t0 t2 t3 : D) (m : Mem) : Option (Ex × List D × Mem) := by
 refine (fun _ : ?a = bI O [0, 2, 3] [] gU gU base [t0, t2, t3] m => ?a) ?h
 case h => conv => {rhs; conv => {arg 5; delta gU}; reduce; try dsimp only [ak, au, aG, ay]}
theorem Fa (O : aA) (base : Nat) (t0 t2 t3 : D) (m : Mem) : bC O [0, 2, 3] [] gU base [t0, t2, t3] m = wU O base t0 t2 t3 m := (aY ..).trans (by kernel_rfl)
noncomputable def J7 (O : aA) (t0 : D) (m : Mem) : RV := by
 refine (fun _ : ?a = uf.step3 O [t0] m => ?a) ?h
 case h => conv => {rhs; reduce; try dsimp only [ak, au, aG, ay]}
theorem Vk (O : aA) (t0 : D) (m : Mem) : uf.step2 O [t0] m = J7 O t0 m := (aH ..).trans (by kernel_rfl)
noncomputable def Z_ (O : aA) (t0 t1 : D) (m : Mem) : RV := by
 refine (fun _ : ?a = LM.step3 O [t0, t1] m => ?a) ?h
 case h => conv => {rhs; reduce; try dsimp only [ak, au, aG, ay]}
theorem ai3 (O : aA) (t0 t1 : D) (m : Mem) : LM.step2 O [t0, t1] m = Z_ O t0 t1 m := (aH ..).trans (by kernel_rfl)
noncomputable def U8 (O : aA) (t0 : D) (m : Mem) : RV := by
 refine (fun _ : ?a = DL.step3 O [t0] m => ?a) ?h
 case h => conv => {rhs; reduce; try dsimp only [ak, au, aG, ay]}
theorem acT (O : aA) (t0 : D) (m : Mem) : DL.step2 O [t0] m = U8 O t0 m := (aH ..).trans (by kernel_rfl)
noncomputable def OO (O : aA) (t0 t1 : D) (m : Mem) : RV := by
 refine (fun _ : ?a = Og.step3 O [t0, t1] m => ?a) ?h
 case h => conv => {rhs; reduce; try dsimp only [ak, au, aG, ay]}
theorem akX (O : aA) (t0 t1 : D) (m : Mem) : Og.step2 O [t0, t1] m = OO O t0 t1 m := (aH ..).trans (by kernel_rfl)
noncomputable def NH (O : aA) (t0 : D) (m : Mem) : RV := by
 refine (fun _ : ?a = Gh.step3 O [t0] m => ?a) ?h
 case h => conv => {rhs; reduce; try dsimp only [ak, au, aG, ay]}
theorem afl (O : aA) (t0 : D) (m : Mem) : Gh.step2 O [t0] m = NH O t0 m := (aH ..).trans (by kernel_rfl)
noncomputable def Hq (O : aA) (t0 t1 : D) (m : Mem) : RV := by
 refine (fun _ : ?a = F9.step3 O [t0, t1] m => ?a) ?h
 case h => conv => {rhs; reduce; try dsimp only [ak, au, aG, ay]}
theorem Np (O : aA) (t0 t1 : D) (m : Mem) : F9.step2 O [t0, t1] m = Hq O t0 t1 m := (aH ..).trans (by kernel_rfl)
noncomputable def MH (O : aA) (t0 t1 t2 : D) (m : Mem) : RV := by
 refine (fun _ : ?a = LD.step3 O [t0, t1, t2] m => ?a) ?h
 case h => conv => {rhs; reduce; try dsimp only [ak, au, aG, ay]}
theorem Zx (O : aA) (t0 t1 t2 : D) (m : Mem) : LD.step2 O [t0, t1, t2] m = MH O t0 t1 t2 m := (aH ..).trans (by kernel_rfl)
noncomputable def Na (O : aA) (t0 t1 : D) (m : Mem) : RV := by
 refine (fun _ : ?a = RP.step3 O [t0, t1] m => ?a) ?h
 case h => conv => {rhs; reduce; try dsimp only [ak, au, aG, ay]}
theorem Xu (O : aA) (t0 t1 : D) (m : Mem) : RP.step2 O [t0, t1] m = Na O t0 t1 m := (aH ..).trans (by kernel_rfl)
noncomputable def yc (O : aA) (base : Nat) (t1 t2 t6 t7 t10 t39 t40 t41 : D) (m : Mem) : Option (Ex × List D × Mem) := by
 refine (fun _ : ?a = bI O [1, 2, 6, 7, 10, 39, 40, 41] [1, 2, 6, 7, 10] kY kY base [t1, t2, t6, t7, t10, t39, t40, t41] m => ?a) ?h
 case h => conv => {rhs; conv => {arg 5; delta kY}; reduce; try dsimp only [ak, au, aG, ay]}
theorem B_ (O : aA) (base : Nat) (t1 t2 t6 t7 t10 t39 t40 t41 : D) (m : Mem) : bC O [1, 2, 6, 7, 10, 39, 40, 41] [1, 2, 6, 7, 10] kY base [t1, t2, t6, t7, t10, t39, t40, t41] m = yc O base t1 t2 t6 t7 t10 t39 t40 t41 m := (aY ..).trans (by kernel_rfl)
noncomputable def x9 (O : aA) (t0 t1 : D) (m : Mem) : RV := by
 refine (fun _ : ?a = BO.step3 O [t0, t1] m => ?a) ?h
 case h => conv => {rhs; reduce; try dsimp only [ak, au, aG, ay]}
theorem BA (O : aA) (t0 t1 : D) (m : Mem) : BO.step2 O [t0, t1] m = x9 O t0 t1 m := (aH ..).trans (by kernel_rfl)
noncomputable def yR (O : aA) (base : Nat) (t1 t2 t8 t9 t10 t11 t12 : D) (m : Mem) : Option (Ex × List D × Mem) := by
 refine (fun _ : ?a = bI O [1, 2, 8, 9, 10, 11, 12] [9, 10, 11] je je base [t1, t2, t8, t9, t10, t11, t12] m => ?a) ?h
 case h => conv => {rhs; conv => {arg 5; delta je}; reduce; try dsimp only [ak, au, aG, ay]}
theorem Fp (O : aA) (base : Nat) (t1 t2 t8 t9 t10 t11 t12 : D) (m : Mem) : bC O [1, 2, 8, 9, 10, 11, 12] [9, 10, 11] je base [t1, t2, t8, t9, t10, t11, t12] m = yR O base t1 t2 t8 t9 t10 t11 t12 m := (aY ..).trans (by kernel_rfl)
noncomputable def Vb (O : aA) (t0 t1 t2 : D) (m : Mem) : RV := by
 refine (fun _ : ?a = DY.step3 O [t0, t1, t2] m => ?a) ?h
 case h => conv => {rhs; reduce; try dsimp only [ak, au, aG, ay]}
theorem ac1 (O : aA) (t0 t1 t2 : D) (m : Mem) : DY.step2 O [t0, t1, t2] m = Vb O t0 t1 t2 m := (aH ..).trans (by kernel_rfl)
noncomputable def J6 (O : aA) (t0 t1 : D) (m : Mem) : RV := by
 refine (fun _ : ?a = Jp.step3 O [t0, t1] m => ?a) ?h
 case h => conv => {rhs; reduce; try dsimp only [ak, au, aG, ay]}
theorem Pj (O : aA) (t0 t1 : D) (m : Mem) : Jp.step2 O [t0, t1] m = J6 O t0 t1 m := (aH ..).trans (by kernel_rfl)
noncomputable def KX (O : aA) (base : Nat) (t2 t3 t4 t14 t77 t78 t79 : D) (m : Mem) : Option (Ex × List D × Mem) := by
 refine (fun _ : ?a = bI O [2, 3, 4, 14, 77, 78, 79] [14] vM vM base [t2, t3, t4, t14, t77, t78, t79] m => ?a) ?h
 case h => conv => {rhs; conv => {arg 5; delta vM}; reduce; try dsimp only [ak, au, aG, ay]}
theorem Us (O : aA) (base : Nat) (t2 t3 t4 t14 t77 t78 t79 : D) (m : Mem) : bC O [2, 3, 4, 14, 77, 78, 79] [14] vM base [t2, t3, t4, t14, t77, t78, t79] m = KX O base t2 t3 t4 t14 t77 t78 t79 m := (aY ..).trans (by kernel_rfl)
noncomputable def og (O : aA) (t0 t1 t2 t3 : D) (m : Mem) : RV := by
 refine (fun _ : ?a = LQ.step3 O [t0, t1, t2, t3] m => ?a) ?h
 case h => conv => {rhs; reduce; try dsimp only [ak, au, aG, ay]}
theorem TJ (O : aA) (t0 t1 t2 t3 : D) (m : Mem) : LQ.step2 O [t0, t1, t2, t3] m = og O t0 t1 t2 t3 m := (aH ..).trans (by kernel_rfl)
noncomputable def aae (O : aA) (m : Mem) : RV := by
 refine (fun _ : ?a = L8.step3 O [] m => ?a) ?h
 case h => conv => {rhs; reduce; try dsimp only [ak, au, aG, ay]}
theorem ai9 (O : aA) (m : Mem) : L8.step2 O [] m = aae O m := (aH ..).trans (by kernel_rfl)
noncomputable def E5 (O : aA) (t0 t1 : D) (m : Mem) : RV := by
 refine (fun _ : ?a = DV.step3 O [t0, t1] m => ?a) ?h
 case h => conv => {rhs; reduce; try dsimp only [ak, au, aG, ay]}
theorem acY (O : aA) (t0 t1 : D) (m : Mem) : DV.step2 O [t0, t1] m = E5 O t0 t1 m := (aH ..).trans (by kernel_rfl)
noncomputable def yJ (O : aA) (t0 : D) (m : Mem) : RV := by
 refine (fun _ : ?a = LG.step3 O [t0] m => ?a) ?h
 case h => conv => {rhs; reduce; try dsimp only [ak, au, aG, ay]}
theorem aiZ (O : aA) (t0 : D) (m : Mem) : LG.step2 O [t0] m = yJ O t0 m := (aH ..).trans (by kernel_rfl)
noncomputable def n_ (O : aA) (t0 : D) (m : Mem) : RV := by
 refine (fun _ : ?a = LH.step3 O [t0] m => ?a) ?h
 case h => conv => {rhs; reduce; try dsimp only [ak, au, aG, ay]}
theorem ai0 (O : aA) (t0 : D) (m : Mem) : LH.step2 O [t0] m = n_ O t0 m := (aH ..).trans (by kernel_rfl)
noncomputable def Ue (O : aA) (t0 : D) (m : Mem) : RV := by
 refine (fun _ : ?a = LJ.step3 O [t0] m => ?a) ?h
 case h => conv => {rhs; reduce; try dsimp only [ak, au, aG, ay]}
theorem ai1 (O : aA) (t0 : D) (m : Mem) : LJ.step2 O [t0] m = Ue O t0 m := (aH ..).trans (by kernel_rfl)
noncomputable def Tv (O : aA) (t0 t1 : D) (m : Mem) : RV := by
 refine (fun _ : ?a = BM.step3 O [t0, t1] m => ?a) ?h
 case h => conv => {rhs; reduce; try dsimp only [ak, au, aG, ay]}
theorem abh (O : aA) (t0 t1 : D) (m : Mem) : BM.step2 O [t0, t1] m = Tv O t0 t1 m := (aH ..).trans (by kernel_rfl)
noncomputable def Lc (O : aA) (t0 : D) (m : Mem) : RV := by
 refine (fun _ : ?a = DU.step3 O [t0] m => ?a) ?h
 case h => conv => {rhs; reduce; try dsimp only [ak, au, aG, ay]}
theorem acX (O : aA) (t0 : D) (m : Mem) : DU.step2 O [t0] m = Lc O t0 m := (aH ..).trans (by kernel_rfl)
noncomputable def ae0 (O : aA) (t0 : D) (m : Mem) : RV := by
 refine (fun _ : ?a = RS.step3 O [t0] m => ?a) ?h
 case h => conv => {rhs; reduce; try dsimp only [ak, au, aG, ay]}
theorem amf (O : aA) (t0 : D) (m : Mem) : RS.step2 O [t0] m = ae0 O t0 m := (aH ..).trans (by kernel_rfl)
noncomputable def Qx (O : aA) (t0 : D) (m : Mem) : RV := by
 refine (fun _ : ?a = Je.step3 O [t0] m => ?a) ?h
 case h => conv => {rhs; reduce; try dsimp only [ak, au, aG, ay]}
theorem agS (O : aA) (t0 : D) (m : Mem) : Je.step2 O [t0] m = Qx O t0 m := (aH ..).trans (by kernel_rfl)
noncomputable def jU (O : aA) (base : Nat) (t0 t1 t7 t8 : D) (m : Mem) : Option (Ex × List D × Mem) := by
 refine (fun _ : ?a = bI O [0, 1, 7, 8] [4] fD fD base [t0, t1, t7, t8] m => ?a) ?h
 case h => conv => {rhs; conv => {arg 5; delta fD}; reduce; try dsimp only [ak, au, aG, ay]}
theorem vk (O : aA) (base : Nat) (t0 t1 t7 t8 : D) (m : Mem) : bC O [0, 1, 7, 8] [4] fD base [t0, t1, t7, t8] m = jU O base t0 t1 t7 t8 m := (aY ..).trans (by kernel_rfl)
noncomputable def pR (O : aA) (t0 t1 : D) (m : Mem) : RV := by
 refine (fun _ : ?a = kT.step3 O [t0, t1] m => ?a) ?h
 case h => conv => {rhs; reduce; try dsimp only [ak, au, aG, ay]}
theorem J_ (O : aA) (t0 t1 : D) (m : Mem) : kT.step2 O [t0, t1] m = pR O t0 t1 m := (aH ..).trans (by kernel_rfl)
noncomputable def Ui (O : aA) (t0 t1 : D) (m : Mem) : RV := by
 refine (fun _ : ?a = L6.step3 O [t0, t1] m => ?a) ?h
 case h => conv => {rhs; reduce; try dsimp only [ak, au, aG, ay]}
theorem ai8 (O : aA) (t0 t1 : D) (m : Mem) : L6.step2 O [t0, t1] m = Ui O t0 t1 m := (aH ..).trans (by kernel_rfl)
noncomputable def Tz (O : aA) (t0 t1 : D) (m : Mem) : RV := by
 refine (fun _ : ?a = Sv.step3 O [t0, t1] m => ?a) ?h
 case h => conv => {rhs; reduce; try dsimp only [ak, au, aG, ay]}
theorem aml (O : aA) (t0 t1 : D) (m : Mem) : Sv.step2 O [t0, t1] m = Tz O t0 t1 m := (aH ..).trans (by kernel_rfl)
noncomputable def WX (O : aA) (t0 : D) (m : Mem) : RV := by
 refine (fun _ : ?a = Gx.step3 O [t0] m => ?a) ?h
 case h => conv => {rhs; reduce; try dsimp only [ak, au, aG, ay]}
theorem afx (O : aA) (t0 : D) (m : Mem) : Gx.step2 O [t0] m = WX O t0 m := (aH ..).trans (by kernel_rfl)
noncomputable def Ih (O : aA) (base : Nat) (t6 t7 t8 t9 t10 t26 t27 t28 t33 t34 t35 : D) (m : Mem) : Option (Ex × List D × Mem) := by
 refine (fun _ : ?a = bI O [6, 7, 8, 9, 10, 26, 27, 28, 33, 34, 35] [6, 7, 8, 10, 26, 27, 28] ql ql base [t6, t7, t8, t9, t10, t26, t27, t28, t33, t34, t35] m => ?a) ?h
 case h => conv => {rhs; conv => {arg 5; delta ql}; reduce; try dsimp only [ak, au, aG, ay]}
theorem O8 (O : aA) (base : Nat) (t6 t7 t8 t9 t10 t26 t27 t28 t33 t34 t35 : D) (m : Mem) : bC O [6, 7, 8, 9, 10, 26, 27, 28, 33, 34, 35] [6, 7, 8, 10, 26, 27, 28] ql base [t6, t7, t8, t9, t10, t26, t27, t28, t33, t34, t35] m = Ih O base t6 t7 t8 t9 t10 t26 t27 t28 t33 t34 t35 m := (aY ..).trans (by kernel_rfl)
noncomputable def Ii (O : aA) (base : Nat) (t6 t7 t26 t27 t28 : D) (m : Mem) : Option (Ex × List D × Mem) := by
 refine (fun _ : ?a = bI O [6, 7, 26, 27, 28] [7] qm qm base [t6, t7, t26, t27, t28] m => ?a) ?h
 case h => conv => {rhs; conv => {arg 5; delta qm}; reduce; try dsimp only [ak, au, aG, ay]}
theorem O9 (O : aA) (base : Nat) (t6 t7 t26 t27 t28 : D) (m : Mem) : bC O [6, 7, 26, 27, 28] [7] qm base [t6, t7, t26, t27, t28] m = Ii O base t6 t7 t26 t27 t28 m := (aY ..).trans (by kernel_rfl)
noncomputable def WU (O : aA) (t0 t1 : D) (m : Mem) : RV := by
 refine (fun _ : ?a = Gt.step3 O [t0, t1] m => ?a) ?h
 case h => conv => {rhs; reduce; try dsimp only [ak, au, aG, ay]}
theorem aft (O : aA) (t0 t1 : D) (m : Mem) : Gt.step2 O [t0, t1] m = WU O t0 t1 m := (aH ..).trans (by kernel_rfl)
noncomputable def W9 (O : aA) (t0 t1 : D) (m : Mem) : RV := by
 refine (fun _ : ?a = GL.step3 O [t0, t1] m => ?a) ?h
 case h => conv => {rhs; reduce; try dsimp only [ak, au, aG, ay]}
theorem afD (O : aA) (t0 t1 : D) (m : Mem) : GL.step2 O [t0, t1] m = W9 O t0 t1 m := (aH ..).trans (by kernel_rfl)
noncomputable def aiA (O : aA) (t0 : D) (m : Mem) : RV := by
 refine (fun _ : ?a = Vz.step3 O [t0] m => ?a) ?h
 case h => conv => {rhs; reduce; try dsimp only [ak, au, aG, ay]}
theorem aoi (O : aA) (t0 : D) (m : Mem) : Vz.step2 O [t0] m = aiA O t0 m := (aH ..).trans (by kernel_rfl)
end Go.Ev.Code
end
section
namespace Go.Ev.Code
open Go Go.Ev
set_option maxRecDepth 100000
attribute [local irreducible] VU Ym bd jn UL Lu gc ZT J9 Nl Kw fz jV ZV tlI List.length List.append BZ Yz OH Yt MW AO MZ JQ Dk MX Yu Td JU fZ rJ ET Yw Ud Uc Yv aa0 aa2 YA aa3 YB Tf Tm OE YC Qq OB Ho Dj OC Yy Yx Ti JO rMn rMx V_ xU sN JM Wh OG JR MC OI MB OD aa1
attribute [local irreducible] iU jr jv jw iV dO iF iQ fV iG iM pI KQ yH iE gZ jQ jq iO iR yK mG nJ sO qA zh Dv jo uo sW lJ gu lF lD Bc lg dN bZ dw nY jH iq yI wC nI gV Bj uS lH dI cZ wz nZ uX lq mJ vY slices_Reverse_int gW qX rX nU uH Cj Du rY wo xR uJ Df kX sZ CB CG xA jY jG rE qI gG xP iJ bW jm qR jc ji kC mW qQ IW nV jl xE fK strings_CutPrefix strings_Cut lC mP jy IG qU vZ yA tY oI uV gJ nC wX Dz Qu qg sU CO vC fC UO um Hz jE iI dD bits_Mul64 bits_Add64 gq mX bits_Sub64 KI xK xO Ib iT qM vF zJ Af jh qJ Iz zA iD Iw H7 jS Iy CQ uT EX sV yt dW gI strings_Repeat slices_Reverse_string strings_Join zY A_ nat_bit C9 tV bits_LeadingZeros64 zX CZ C_ CY CJ kR lG oU P8 CS MK ML sQ CX strconv_Itoa bits_TrailingZeros64 KA Jb II AL sS o9 AB Js uI IK rW IL oW y8 iY kH eP kK jO Ar hndB nG qo vK qL oJ mD iC zK rQ rU zG zH xu abS kN nX qp o_ vT qN yC yD nH pG U7 fE uO xM uN oZ o7 uM qZ vU vS zu Fg SY
noncomputable def Aj (O : aA) (base : Nat) (t5 t6 t7 t8 t27 t28 : D) (m : Mem) : Option (Ex × List D × Mem) := by
 refine (fun _ : ?a = bI O [5, 6, 7, 8, 27, 28] [5, 7, 8] nG nG base [t5, t6, t7, t8, t27, t28] m => ?a) ?h
 case h => conv => {rhs; conv => {arg 5; delta nG}; reduce; try dsimp only [ak, au, aG, ay]}
theorem O7 (O : aA) (base : Nat) (t5 t6 t7 t8 t27 t28 : D) (m : Mem) : bC O [5, 6, 7, 8, 27, 28] [5, 7, 8] nG base [t5, t6, t7, t8, t27, t28] m = Aj O base t5 t6 t7 t8 t27 t28 m := (aY ..).trans (by kernel_rfl)
noncomputable def NJ (O : aA) (t0 t1 : D) (m : Mem) : RV := by
 refine (fun _ : ?a = Gn.step3 O [t0, t1] m => ?a) ?h
 case h => conv => {rhs; reduce; try dsimp only [ak, au, aG, ay]}
theorem afp (O : aA) (t0 t1 : D) (m : Mem) : Gn.step2 O [t0, t1] m = NJ O t0 t1 m := (aH ..).trans (by kernel_rfl)
noncomputable def WT (O : aA) (t0 t1 : D) (m : Mem) : RV := by
 refine (fun _ : ?a = Gp.step3 O [t0, t1] m => ?a) ?h
 case h => conv => {rhs; reduce; try dsimp only [ak, au, aG, ay]}
theorem afq (O : aA) (t0 t1 : D) (m : Mem) : Gp.step2 O [t0, t1] m = WT O t0 t1 m := (aH ..).trans (by kernel_rfl)
noncomputable def Ak (O : aA) (base : Nat) (t6 t7 t8 t9 t25 t26 : D) (m : Mem) : Option (Ex × List D × Mem) := by
 refine (fun _ : ?a = bI O [6, 7, 8, 9, 25, 26] [8] qo qo base [t6, t7, t8, t9, t25, t26] m => ?a) ?h
 case h => conv => {rhs; conv => {arg 5; delta qo}; reduce; try dsimp only [ak, au, aG, ay]}
theorem O_ (O : aA) (base : Nat) (t6 t7 t8 t9 t25 t26 : D) (m : Mem) : bC O [6, 7, 8, 9, 25, 26] [8] qo base [t6, t7, t8, t9, t25, t26] m = Ak O base t6 t7 t8 t9 t25 t26 m := (aY ..).trans (by kernel_rfl)
noncomputable def WW (O : aA) (t0 t1 : D) (m : Mem) : RV := by
 refine (fun _ : ?a = Gv.step3 O [t0, t1] m => ?a) ?h
 case h => conv => {rhs; reduce; try dsimp only [ak, au, aG, ay]}
theorem afv (O : aA) (t0 t1 : D) (m : Mem) : Gv.step2 O [t0, t1] m = WW O t0 t1 m := (aH ..).trans (by kernel_rfl)
noncomputable def WZ (O : aA) (t0 t1 : D) (m : Mem) : RV := by
 refine (fun _ : ?a = GH.step3 O [t0, t1] m => ?a) ?h
 case h => conv => {rhs; reduce; try dsimp only [ak, au, aG, ay]}
theorem afA (O : aA) (t0 t1 : D) (m : Mem) : GH.step2 O [t0, t1] m = WZ O t0 t1 m := (aH ..).trans (by kernel_rfl)
noncomputable def YK (O : aA) (t0 : D) (m : Mem) : RV := by
 refine (fun _ : ?a = SB.step3 O [t0] m => ?a) ?h
 case h => conv => {rhs; reduce; try dsimp only [ak, au, aG, ay]}
theorem ad_ (O : aA) (t0 : D) (m : Mem) : SB.step2 O [t0] m = YK O t0 m := (aH ..).trans (by kernel_rfl)
noncomputable def rZ (O : aA) (t0 t1 : D) (m : Mem) : RV := by
 refine (fun _ : ?a = Gs.step3 O [t0, t1] m => ?a) ?h
 case h => conv => {rhs; reduce; try dsimp only [ak, au, aG, ay]}
theorem afs (O : aA) (t0 t1 : D) (m : Mem) : Gs.step2 O [t0, t1] m = rZ O t0 t1 m := (aH ..).trans (by kernel_rfl)
noncomputable def Ht (O : aA) (t0 t1 : D) (m : Mem) : RV := by
 refine (fun _ : ?a = Gq.step3 O [t0, t1] m => ?a) ?h
 case h => conv => {rhs; reduce; try dsimp only [ak, au, aG, ay]}
theorem afr (O : aA) (t0 t1 : D) (m : Mem) : Gq.step2 O [t0, t1] m = Ht O t0 t1 m := (aH ..).trans (by kernel_rfl)
noncomputable def KW (O : aA) (base : Nat) (t1 t2 t6 : D) (m : Mem) : Option (Ex × List D × Mem) := by
 refine (fun _ : ?a = bI O [1, 2, 6] [1, 2, 6] vK vK base [t1, t2, t6] m => ?a) ?h
 case h => conv => {rhs; conv => {arg 5; delta vK}; reduce; try dsimp only [ak, au, aG, ay]}
theorem Ur (O : aA) (base : Nat) (t1 t2 t6 : D) (m : Mem) : bC O [1, 2, 6] [1, 2, 6] vK base [t1, t2, t6] m = KW O base t1 t2 t6 m := (aY ..).trans (by kernel_rfl)
noncomputable def qV (O : aA) (t0 t1 : D) (m : Mem) : RV := by
 refine (fun _ : ?a = LP.step3 O [t0, t1] m => ?a) ?h
 case h => conv => {rhs; reduce; try dsimp only [ak, au, aG, ay]}
theorem uF (O : aA) (t0 t1 : D) (m : Mem) : LP.step2 O [t0, t1] m = qV O t0 t1 m := (aH ..).trans (by kernel_rfl)
noncomputable def U9 (O : aA) (t0 : D) (m : Mem) : RV := by
 refine (fun _ : ?a = DR.step3 O [t0] m => ?a) ?h
 case h => conv => {rhs; reduce; try dsimp only [ak, au, aG, ay]}
theorem acV (O : aA) (t0 : D) (m : Mem) : DR.step2 O [t0] m = U9 O t0 m := (aH ..).trans (by kernel_rfl)
noncomputable def QF (O : aA) (base : Nat) (t0 t5 t6 t7 : D) (m : Mem) : Option (Ex × List D × Mem) := by
 refine (fun _ : ?a = bI O [0, 5, 6, 7] [5] qL qL base [t0, t5, t6, t7] m => ?a) ?h
 case h => conv => {rhs; conv => {arg 5; delta qL}; reduce; try dsimp only [ak, au, aG, ay]}
theorem XA (O : aA) (base : Nat) (t0 t5 t6 t7 : D) (m : Mem) : bC O [0, 5, 6, 7] [5] qL base [t0, t5, t6, t7] m = QF O base t0 t5 t6 t7 m := (aY ..).trans (by kernel_rfl)
noncomputable def zB (O : aA) (t0 : D) (m : Mem) : RV := by
 refine (fun _ : ?a = Sj.step3 O [t0] m => ?a) ?h
 case h => conv => {rhs; reduce; try dsimp only [ak, au, aG, ay]}
theorem ad7 (O : aA) (t0 : D) (m : Mem) : Sj.step2 O [t0] m = zB O t0 m := (aH ..).trans (by kernel_rfl)
noncomputable def ae2 (O : aA) (t0 : D) (m : Mem) : RV := by
 refine (fun _ : ?a = R_.step3 O [t0] m => ?a) ?h
 case h => conv => {rhs; reduce; try dsimp only [ak, au, aG, ay]}
theorem ami (O : aA) (t0 : D) (m : Mem) : R_.step2 O [t0] m = ae2 O t0 m := (aH ..).trans (by kernel_rfl)
noncomputable def NT (O : aA) (t0 t1 : D) (m : Mem) : RV := by
 refine (fun _ : ?a = GN.step3 O [t0, t1] m => ?a) ?h
 case h => conv => {rhs; reduce; try dsimp only [ak, au, aG, ay]}
theorem afE (O : aA) (t0 t1 : D) (m : Mem) : GN.step2 O [t0, t1] m = NT O t0 t1 m := (aH ..).trans (by kernel_rfl)
noncomputable def FH (O : aA) (base : Nat) (t0 t4 t18 t19 t20 : D) (m : Mem) : Option (Ex × List D × Mem) := by
 refine (fun _ : ?a = bI O [0, 4, 18, 19, 20] [0, 4] oJ oJ base [t0, t4, t18, t19, t20] m => ?a) ?h
 case h => conv => {rhs; conv => {arg 5; delta oJ}; reduce; try dsimp only [ak, au, aG, ay]}
theorem NW (O : aA) (base : Nat) (t0 t4 t18 t19 t20 : D) (m : Mem) : bC O [0, 4, 18, 19, 20] [0, 4] oJ base [t0, t4, t18, t19, t20] m = FH O base t0 t4 t18 t19 t20 m := (aY ..).trans (by kernel_rfl)
noncomputable def yQ (O : aA) (base : Nat) (t4 t11 t43 t44 t45 : D) (m : Mem) : Option (Ex × List D × Mem) := by
 refine (fun _ : ?a = bI O [4, 11, 43, 44, 45] [4, 11] mD mD base [t4, t11, t43, t44, t45] m => ?a) ?h
 case h => conv => {rhs; conv => {arg 5; delta mD}; reduce; try dsimp only [ak, au, aG, ay]}
theorem Fj (O : aA) (base : Nat) (t4 t11 t43 t44 t45 : D) (m : Mem) : bC O [4, 11, 43, 44, 45] [4, 11] mD base [t4, t11, t43, t44, t45] m = yQ O base t4 t11 t43 t44 t45 m := (aY ..).trans (by kernel_rfl)
noncomputable def Va (O : aA) (t0 : D) (m : Mem) : RV := by
 refine (fun _ : ?a = DX.step3 O [t0] m => ?a) ?h
 case h => conv => {rhs; reduce; try dsimp only [ak, au, aG, ay]}
theorem ac0 (O : aA) (t0 : D) (m : Mem) : DX.step2 O [t0] m = Va O t0 m := (aH ..).trans (by kernel_rfl)
noncomputable def m_ (O : aA) (base : Nat) (t2 t3 t6 t7 : D) (m : Mem) : Option (Ex × List D × Mem) := by
 refine (fun _ : ?a = bI O [2, 3, 6, 7] [4, 5, 6] iC iC base [t2, t3, t6, t7] m => ?a) ?h
 case h => conv => {rhs; conv => {arg 5; delta iC}; reduce; try dsimp only [ak, au, aG, ay]}
theorem qh (O : aA) (base : Nat) (t2 t3 t6 t7 : D) (m : Mem) : bC O [2, 3, 6, 7] [4, 5, 6] iC base [t2, t3, t6, t7] m = m_ O base t2 t3 t6 t7 m := (aY ..).trans (by kernel_rfl)
noncomputable def Hr (O : aA) (t0 t1 : D) (m : Mem) : RV := by
 refine (fun _ : ?a = Gl.step3 O [t0, t1] m => ?a) ?h
 case h => conv => {rhs; reduce; try dsimp only [ak, au, aG, ay]}
theorem Nq (O : aA) (t0 t1 : D) (m : Mem) : Gl.step2 O [t0, t1] m = Hr O t0 t1 m := (aH ..).trans (by kernel_rfl)
noncomputable def QC (O : aA) (t0 t1 t2 t3 t4 t5 : D) (m : Mem) : RV := by
 refine (fun _ : ?a = Jg.step3 O [t0, t1, t2, t3, t4, t5] m => ?a) ?h
 case h => conv => {rhs; reduce; try dsimp only [ak, au, aG, ay]}
theorem agV (O : aA) (t0 t1 t2 t3 t4 t5 : D) (m : Mem) : Jg.step2 O [t0, t1, t2, t3, t4, t5] m = QC O t0 t1 t2 t3 t4 t5 m := (aH ..).trans (by kernel_rfl)
noncomputable def zo (O : aA) (t0 t1 : D) (m : Mem) : RV := by
 refine (fun _ : ?a = Jl.step3 O [t0, t1] m => ?a) ?h
 case h => conv => {rhs; reduce; try dsimp only [ak, au, aG, ay]}
theorem Ph (O : aA) (t0 t1 : D) (m : Mem) : Jl.step2 O [t0, t1] m = zo O t0 t1 m := (aH ..).trans (by kernel_rfl)
noncomputable def QE (O : aA) (base : Nat) (t1 t4 t5 : D) (m : Mem) : Option (Ex × List D × Mem) := by
 refine (fun _ : ?a = bI O [1, 4, 5] [4] zK zK base [t1, t4, t5] m => ?a) ?h
 case h => conv => {rhs; conv => {arg 5; delta zK}; reduce; try dsimp only [ak, au, aG, ay]}
theorem Xz (O : aA) (base : Nat) (t1 t4 t5 : D) (m : Mem) : bC O [1, 4, 5] [4] zK base [t1, t4, t5] m = QE O base t1 t4 t5 m := (aY ..).trans (by kernel_rfl)
noncomputable def Tt (O : aA) (t0 : D) (m : Mem) : RV := by
 refine (fun _ : ?a = RX.step3 O [t0] m => ?a) ?h
 case h => conv => {rhs; reduce; try dsimp only [ak, au, aG, ay]}
theorem ad5 (O : aA) (t0 : D) (m : Mem) : RX.step2 O [t0] m = Tt O t0 m := (aH ..).trans (by kernel_rfl)
noncomputable def JY (O : aA) (base : Nat) (t0 t2 t4 : D) (m : Mem) : Option (Ex × List D × Mem) := by
 refine (fun _ : ?a = bI O [0, 2, 4] [0, 2, 4] rQ rQ base [t0, t2, t4] m => ?a) ?h
 case h => conv => {rhs; conv => {arg 5; delta rQ}; reduce; try dsimp only [ak, au, aG, ay]}
theorem QU (O : aA) (base : Nat) (t0 t2 t4 : D) (m : Mem) : bC O [0, 2, 4] [0, 2, 4] rQ base [t0, t2, t4] m = JY O base t0 t2 t4 m := (aY ..).trans (by kernel_rfl)
noncomputable def JZ (O : aA) (base : Nat) (t2 t4 t5 : D) (m : Mem) : Option (Ex × List D × Mem) := by
 refine (fun _ : ?a = bI O [2, 4, 5] [2, 4, 5] rU rU base [t2, t4, t5] m => ?a) ?h
 case h => conv => {rhs; conv => {arg 5; delta rU}; reduce; try dsimp only [ak, au, aG, ay]}
theorem QV (O : aA) (base : Nat) (t2 t4 t5 : D) (m : Mem) : bC O [2, 4, 5] [2, 4, 5] rU base [t2, t4, t5] m = JZ O base t2 t4 t5 m := (aY ..).trans (by kernel_rfl)
noncomputable def QD (O : aA) (t0 : D) (m : Mem) : RV := by
 refine (fun _ : ?a = Jh.step3 O [t0] m => ?a) ?h
 case h => conv => {rhs; reduce; try dsimp only [ak, au, aG, ay]}
theorem Xy (O : aA) (t0 : D) (m : Mem) : Jh.step2 O [t0] m = QD O t0 m := (aH ..).trans (by kernel_rfl)
noncomputable def oq (O : aA) (t0 t1 t2 : D) (m : Mem) : RV := by
 refine (fun _ : ?a = LU.step3 O [t0, t1, t2] m => ?a) ?h
 case h => conv => {rhs; reduce; try dsimp only [ak, au, aG, ay]}
theorem AV (O : aA) (t0 t1 t2 : D) (m : Mem) : LU.step2 O [t0, t1, t2] m = oq O t0 t1 t2 m := (aH ..).trans (by kernel_rfl)
noncomputable def YF (O : aA) (base : Nat) (t0 t6 t35 t36 t37 : D) (m : Mem) : Option (Ex × List D × Mem) := by
 refine (fun _ : ?a = bI O [0, 6, 35, 36, 37] [0, 6] zG zG base [t0, t6, t35, t36, t37] m => ?a) ?h
 case h => conv => {rhs; conv => {arg 5; delta zG}; reduce; try dsimp only [ak, au, aG, ay]}
theorem agT (O : aA) (base : Nat) (t0 t6 t35 t36 t37 : D) (m : Mem) : bC O [0, 6, 35, 36, 37] [0, 6] zG base [t0, t6, t35, t36, t37] m = YF O base t0 t6 t35 t36 t37 m := (aY ..).trans (by kernel_rfl)
noncomputable def Qy (O : aA) (base : Nat) (t6 t10 t11 t47 t48 t49 : D) (m : Mem) : Option (Ex × List D × Mem) := by
 refine (fun _ : ?a = bI O [6, 10, 11, 47, 48, 49] [6, 47, 48, 49] zH zH base [t6, t10, t11, t47, t48, t49] m => ?a) ?h
 case h => conv => {rhs; conv => {arg 5; delta zH}; reduce; try dsimp only [ak, au, aG, ay]}
theorem Xw (O : aA) (base : Nat) (t6 t10 t11 t47 t48 t49 : D) (m : Mem) : bC O [6, 10, 11, 47, 48, 49] [6, 47, 48, 49] zH base [t6, t10, t11, t47, t48, t49] m = Qy O base t6 t10 t11 t47 t48 t49 m := (aY ..).trans (by kernel_rfl)
noncomputable def QA (O : aA) (base : Nat) (t6 t47 t48 t49 : D) (m : Mem) : Option (Ex × List D × Mem) := by
 refine (fun _ : ?a = bI O [6, 47, 48, 49] [6] xu xu base [t6, t47, t48, t49] m => ?a) ?h
 case h => conv => {rhs; conv => {arg 5; delta xu}; reduce; try dsimp only [ak, au, aG, ay]}
theorem Xx (O : aA) (base : Nat) (t6 t47 t48 t49 : D) (m : Mem) : bC O [6, 47, 48, 49] [6] xu base [t6, t47, t48, t49] m = QA O base t6 t47 t48 t49 m := (aY ..).trans (by kernel_rfl)
noncomputable def ae1 (O : aA) (t0 t1 : D) (m : Mem) : RV := by
 refine (fun _ : ?a = RU.step3 O [t0, t1] m => ?a) ?h
 case h => conv => {rhs; reduce; try dsimp only [ak, au, aG, ay]}
theorem amg (O : aA) (t0 t1 : D) (m : Mem) : RU.step2 O [t0, t1] m = ae1 O t0 t1 m := (aH ..).trans (by kernel_rfl)
noncomputable def KU (O : aA) (t0 : D) (m : Mem) : RV := by
 refine (fun _ : ?a = DK.step3 O [t0] m => ?a) ?h
 case h => conv => {rhs; reduce; try dsimp only [ak, au, aG, ay]}
theorem acS (O : aA) (t0 : D) (m : Mem) : DK.step2 O [t0] m = KU O t0 m := (aH ..).trans (by kernel_rfl)
noncomputable def YH (O : aA) (t0 : D) (m : Mem) : RV := by
 refine (fun _ : ?a = Jj.step3 O [t0] m => ?a) ?h
 case h => conv => {rhs; reduce; try dsimp only [ak, au, aG, ay]}
theorem agW (O : aA) (t0 : D) (m : Mem) : Jj.step2 O [t0] m = YH O t0 m := (aH ..).trans (by kernel_rfl)
noncomputable def kJ (O : aA) (base : Nat) (t3 t4 : D) (m : Mem) : Option (Ex × List D × Mem) := by
 refine (fun _ : ?a = bI O [3, 4] [3] kN kN base [t3, t4] m => ?a) ?h
 case h => conv => {rhs; conv => {arg 5; delta kN}; reduce; try dsimp only [ak, au, aG, ay]}
theorem sJ (O : aA) (base : Nat) (t3 t4 : D) (m : Mem) : bC O [3, 4] [3] kN base [t3, t4] m = kJ O base t3 t4 m := (aY ..).trans (by kernel_rfl)
noncomputable def KY (O : aA) (t0 : D) (m : Mem) : RV := by
 refine (fun _ : ?a = DN.step3 O [t0] m => ?a) ?h
 case h => conv => {rhs; reduce; try dsimp only [ak, au, aG, ay]}
theorem acU (O : aA) (t0 : D) (m : Mem) : DN.step2 O [t0] m = KY O t0 m := (aH ..).trans (by kernel_rfl)
noncomputable def J3 (O : aA) (t0 : D) (m : Mem) : RV := by
 refine (fun _ : ?a = BN.step3 O [t0] m => ?a) ?h
 case h => conv => {rhs; reduce; try dsimp only [ak, au, aG, ay]}
theorem QW (O : aA) (t0 : D) (m : Mem) : BN.step2 O [t0] m = J3 O t0 m := (aH ..).trans (by kernel_rfl)
noncomputable def r_ (O : aA) (base : Nat) (t0 : D) (m : Mem) : Option (Ex × List D × Mem) := by
 refine (fun _ : ?a = bI O [0] [0] nX nX base [t0] m => ?a) ?h
 case h => conv => {rhs; conv => {arg 5; delta nX}; reduce; try dsimp only [ak, au, aG, ay]}
theorem F5 (O : aA) (base : Nat) (t0 : D) (m : Mem) : bC O [0] [0] nX base [t0] m = r_ O base t0 m := (aY ..).trans (by kernel_rfl)
noncomputable def Wn (O : aA) (t0 : D) (m : Mem) : RV := by
 refine (fun _ : ?a = Om.step3 O [t0] m => ?a) ?h
 case h => conv => {rhs; reduce; try dsimp only [ak, au, aG, ay]}
theorem abk (O : aA) (t0 : D) (m : Mem) : Om.step2 O [t0] m = Wn O t0 m := (aH ..).trans (by kernel_rfl)
noncomputable def wF (O : aA) (base : Nat) (t0 t1 t5 : D) (m : Mem) : Option (Ex × List D × Mem) := by
 refine (fun _ : ?a = bI O [0, 1, 5] [4] qp qp base [t0, t1, t5] m => ?a) ?h
 case h => conv => {rhs; conv => {arg 5; delta qp}; reduce; try dsimp only [ak, au, aG, ay]}
theorem Pe (O : aA) (base : Nat) (t0 t1 t5 : D) (m : Mem) : bC O [0, 1, 5] [4] qp base [t0, t1, t5] m = wF O base t0 t1 t5 m := (aY ..).trans (by kernel_rfl)
noncomputable def NK (O : aA) (t0 t1 : D) (m : Mem) : RV := by
 refine (fun _ : ?a = Gw.step3 O [t0, t1] m => ?a) ?h
 case h => conv => {rhs; reduce; try dsimp only [ak, au, aG, ay]}
theorem afw (O : aA) (t0 t1 : D) (m : Mem) : Gw.step2 O [t0, t1] m = NK O t0 t1 m := (aH ..).trans (by kernel_rfl)
noncomputable def YJ (O : aA) (t0 : D) (m : Mem) : RV := by
 refine (fun _ : ?a = Sr.step3 O [t0] m => ?a) ?h
 case h => conv => {rhs; reduce; try dsimp only [ak, au, aG, ay]}
theorem ad8 (O : aA) (t0 : D) (m : Mem) : Sr.step2 O [t0] m = YJ O t0 m := (aH ..).trans (by kernel_rfl)
noncomputable def xZ (O : aA) (base : Nat) (t0 t1 t5 : D) (m : Mem) : Option (Ex × List D × Mem) := by
 refine (fun _ : ?a = bI O [0, 1, 5] [4] o_ o_ base [t0, t1, t5] m => ?a) ?h
 case h => conv => {rhs; conv => {arg 5; delta o_}; reduce; try dsimp only [ak, au, aG, ay]}
theorem Bz (O : aA) (base : Nat) (t0 t1 t5 : D) (m : Mem) : bC O [0, 1, 5] [4] o_ base [t0, t1, t5] m = xZ O base t0 t1 t5 m := (aY ..).trans (by kernel_rfl)
noncomputable def YI (O : aA) (t0 t1 : D) (m : Mem) : RV := by
 refine (fun _ : ?a = Jk.step3 O [t0, t1] m => ?a) ?h
 case h => conv => {rhs; reduce; try dsimp only [ak, au, aG, ay]}
theorem agX (O : aA) (t0 t1 : D) (m : Mem) : Jk.step2 O [t0, t1] m = YI O t0 t1 m := (aH ..).trans (by kernel_rfl)
noncomputable def K_ (O : aA) (base : Nat) (t0 t1 t6 t7 t8 : D) (m : Mem) : Option (Ex × List D × Mem) := by
 refine (fun _ : ?a = bI O [0, 1, 6, 7, 8] [6, 7] vT vT base [t0, t1, t6, t7, t8] m => ?a) ?h
 case h => conv => {rhs; conv => {arg 5; delta vT}; reduce; try dsimp only [ak, au, aG, ay]}
theorem Uu (O : aA) (base : Nat) (t0 t1 t6 t7 t8 : D) (m : Mem) : bC O [0, 1, 6, 7, 8] [6, 7] vT base [t0, t1, t6, t7, t8] m = K_ O base t0 t1 t6 t7 t8 m := (aY ..).trans (by kernel_rfl)
noncomputable def aad (O : aA) (t0 t1 : D) (m : Mem) : RV := by
 refine (fun _ : ?a = LY.step3 O [t0, t1] m => ?a) ?h
 case h => conv => {rhs; reduce; try dsimp only [ak, au, aG, ay]}
theorem ai6 (O : aA) (t0 t1 : D) (m : Mem) : LY.step2 O [t0, t1] m = aad O t0 t1 m := (aH ..).trans (by kernel_rfl)
noncomputable def Hw (O : aA) (base : Nat) (t1 t6 t7 t8 t9 t10 t11 t12 : D) (m : Mem) : Option (Ex × List D × Mem) := by
 refine (fun _ : ?a = bI O [1, 6, 7, 8, 9, 10, 11, 12] [1, 6, 7, 8, 9, 10] qN qN base [t1, t6, t7, t8, t9, t10, t11, t12] m => ?a) ?h
 case h => conv => {rhs; conv => {arg 5; delta qN}; reduce; try dsimp only [ak, au, aG, ay]}
theorem Nr (O : aA) (base : Nat) (t1 t6 t7 t8 t9 t10 t11 t12 : D) (m : Mem) : bC O [1, 6, 7, 8, 9, 10, 11, 12] [1, 6, 7, 8, 9, 10] qN base [t1, t6, t7, t8, t9, t10, t11, t12] m = Hw O base t1 t6 t7 t8 t9 t10 t11 t12 m := (aY ..).trans (by kernel_rfl)
noncomputable def NM (O : aA) (base : Nat) (t1 t6 t7 t8 t9 t10 : D) (m : Mem) : Option (Ex × List D × Mem) := by
 refine (fun _ : ?a = bI O [1, 6, 7, 8, 9, 10] [1, 6, 7, 9] yC yC base [t1, t6, t7, t8, t9, t10] m => ?a) ?h
 case h => conv => {rhs; conv => {arg 5; delta yC}; reduce; try dsimp only [ak, au, aG, ay]}
theorem Wy (O : aA) (base : Nat) (t1 t6 t7 t8 t9 t10 : D) (m : Mem) : bC O [1, 6, 7, 8, 9, 10] [1, 6, 7, 9] yC base [t1, t6, t7, t8, t9, t10] m = NM O base t1 t6 t7 t8 t9 t10 m := (aY ..).trans (by kernel_rfl)
noncomputable def NP (O : aA) (base : Nat) (t6 t7 t9 t13 t86 t87 : D) (m : Mem) : Option (Ex × List D × Mem) := by
 refine (fun _ : ?a = bI O [6, 7, 9, 13, 86, 87] [9, 13] yD yD base [t6, t7, t9, t13, t86, t87] m => ?a) ?h
 case h => conv => {rhs; conv => {arg 5; delta yD}; reduce; try dsimp only [ak, au, aG, ay]}
theorem WA (O : aA) (base : Nat) (t6 t7 t9 t13 t86 t87 : D) (m : Mem) : bC O [6, 7, 9, 13, 86, 87] [9, 13] yD base [t6, t7, t9, t13, t86, t87] m = NP O base t6 t7 t9 t13 t86 t87 m := (aY ..).trans (by kernel_rfl)
noncomputable def acz (O : aA) (t0 t1 : D) (m : Mem) : RV := by
 refine (fun _ : ?a = Ol.step3 O [t0, t1] m => ?a) ?h
 case h => conv => {rhs; reduce; try dsimp only [ak, au, aG, ay]}
theorem ak0 (O : aA) (t0 t1 : D) (m : Mem) : Ol.step2 O [t0, t1] m = acz O t0 t1 m := (aH ..).trans (by kernel_rfl)
noncomputable def wE (O : aA) (base : Nat) (t1 t5 t6 : D) (m : Mem) : Option (Ex × List D × Mem) := by
 refine (fun _ : ?a = bI O [1, 5, 6] [5] nH nH base [t1, t5, t6] m => ?a) ?h
 case h => conv => {rhs; conv => {arg 5; delta nH}; reduce; try dsimp only [ak, au, aG, ay]}
theorem zD (O : aA) (base : Nat) (t1 t5 t6 : D) (m : Mem) : bC O [1, 5, 6] [5] nH base [t1, t5, t6] m = wE O base t1 t5 t6 m := (aY ..).trans (by kernel_rfl)
noncomputable def WV (O : aA) (t0 t1 : D) (m : Mem) : RV := by
 refine (fun _ : ?a = Gu.step3 O [t0, t1] m => ?a) ?h
 case h => conv => {rhs; reduce; try dsimp only [ak, au, aG, ay]}
theorem afu (O : aA) (t0 t1 : D) (m : Mem) : Gu.step2 O [t0, t1] m = WV O t0 t1 m := (aH ..).trans (by kernel_rfl)
noncomputable def KT (O : aA) (t0 : D) (m : Mem) : RV := by
 refine (fun _ : ?a = DJ.step3 O [t0] m => ?a) ?h
 case h => conv => {rhs; reduce; try dsimp only [ak, au, aG, ay]}
theorem acR (O : aA) (t0 : D) (m : Mem) : DJ.step2 O [t0] m = KT O t0 m := (aH ..).trans (by kernel_rfl)
noncomputable def QB (O : aA) (t0 t1 t2 : D) (m : Mem) : RV := by
 refine (fun _ : ?a = Jf.step3 O [t0, t1, t2] m => ?a) ?h
 case h => conv => {rhs; reduce; try dsimp only [ak, au, aG, ay]}
theorem agU (O : aA) (t0 t1 t2 : D) (m : Mem) : Jf.step2 O [t0, t1, t2] m = QB O t0 t1 t2 m := (aH ..).trans (by kernel_rfl)
noncomputable def rP (O : aA) (base : Nat) (t1 t2 t6 : D) (m : Mem) : Option (Ex × List D × Mem) := by
 refine (fun _ : ?a = bI O [1, 2, 6] [4, 5] pG pG base [t1, t2, t6] m => ?a) ?h
 case h => conv => {rhs; conv => {arg 5; delta pG}; reduce; try dsimp only [ak, au, aG, ay]}
theorem abl (O : aA) (base : Nat) (t1 t2 t6 : D) (m : Mem) : bC O [1, 2, 6] [4, 5] pG base [t1, t2, t6] m = rP O base t1 t2 t6 m := (aY ..).trans (by kernel_rfl)
noncomputable def QG (O : aA) (t0 t1 : D) (m : Mem) : RV := by
 refine (fun _ : ?a = Jm.step3 O [t0, t1] m => ?a) ?h
 case h => conv => {rhs; reduce; try dsimp only [ak, au, aG, ay]}
theorem agY (O : aA) (t0 t1 : D) (m : Mem) : Jm.step2 O [t0, t1] m = QG O t0 t1 m := (aH ..).trans (by kernel_rfl)
noncomputable def NI (O : aA) (t0 t1 : D) (m : Mem) : RV := by
 refine (fun _ : ?a = Gi.step3 O [t0, t1] m => ?a) ?h
 case h => conv => {rhs; reduce; try dsimp only [ak, au, aG, ay]}
theorem afm (O : aA) (t0 t1 : D) (m : Mem) : Gi.step2 O [t0, t1] m = NI O t0 t1 m := (aH ..).trans (by kernel_rfl)
noncomputable def WR (O : aA) (t0 : D) (m : Mem) : RV := by
 refine (fun _ : ?a = Gj.step3 O [t0] m => ?a) ?h
 case h => conv => {rhs; reduce; try dsimp only [ak, au, aG, ay]}
theorem afn (O : aA) (t0 : D) (m : Mem) : Gj.step2 O [t0] m = WR O t0 m := (aH ..).trans (by kernel_rfl)
noncomputable def YG (O : aA) (t0 : D) (m : Mem) : RV := by
 refine (fun _ : ?a = RY.step3 O [t0] m => ?a) ?h
 case h => conv => {rhs; reduce; try dsimp only [ak, au, aG, ay]}
theorem amh (O : aA) (t0 : D) (m : Mem) : RY.step2 O [t0] m = YG O t0 m := (aH ..).trans (by kernel_rfl)
noncomputable def Uf (O : aA) (t0 t1 : D) (m : Mem) : RV := by
 refine (fun _ : ?a = LV.step3 O [t0, t1] m => ?a) ?h
 case h => conv => {rhs; reduce; try dsimp only [ak, au, aG, ay]}
theorem ai4 (O : aA) (t0 t1 : D) (m : Mem) : LV.step2 O [t0, t1] m = Uf O t0 t1 m := (aH ..).trans (by kernel_rfl)
noncomputable def acw (O : aA) (t0 t1 : D) (m : Mem) : RV := by
 refine (fun _ : ?a = Oh.step3 O [t0, t1] m => ?a) ?h
 case h => conv => {rhs; reduce; try dsimp only [ak, au, aG, ay]}
theorem akY (O : aA) (t0 t1 : D) (m : Mem) : Oh.step2 O [t0, t1] m = acw O t0 t1 m := (aH ..).trans (by kernel_rfl)
noncomputable def sG (O : aA) (base : Nat) (t0 t2 t3 : D) (m : Mem) : Option (Ex × List D × Mem) := by
 refine (fun _ : ?a = bI O [0, 2, 3] [] fE fE base [t0, t2, t3] m => ?a) ?h
 case h => conv => {rhs; conv => {arg 5; delta fE}; reduce; try dsimp only [ak, au, aG, ay]}
theorem Aw (O : aA) (base : Nat) (t0 t2 t3 : D) (m : Mem) : bC O [0, 2, 3] [] fE base [t0, t2, t3] m = sG O base t0 t2 t3 m := (aY ..).trans (by kernel_rfl)
noncomputable def Fe (O : aA) (t0 : D) (m : Mem) : RV := by
 refine (fun _ : ?a = pU.step3 O [t0] m => ?a) ?h
 case h => conv => {rhs; reduce; try dsimp only [ak, au, aG, ay]}
theorem QS (O : aA) (t0 : D) (m : Mem) : pU.step2 O [t0] m = Fe O t0 m := (aH ..).trans (by kernel_rfl)
noncomputable def NQ (O : aA) (base : Nat) (t0 t3 : D) (m : Mem) : Option (Ex × List D × Mem) := by
 refine (fun _ : ?a = bI O [0, 3] [0, 3] uO uO base [t0, t3] m => ?a) ?h
 case h => conv => {rhs; conv => {arg 5; delta uO}; reduce; try dsimp only [ak, au, aG, ay]}
theorem WB (O : aA) (base : Nat) (t0 t3 : D) (m : Mem) : bC O [0, 3] [0, 3] uO base [t0, t3] m = NQ O base t0 t3 m := (aY ..).trans (by kernel_rfl)
noncomputable def acA (O : aA) (t0 : D) (m : Mem) : RV := by
 refine (fun _ : ?a = Oo.step3 O [t0] m => ?a) ?h
 case h => conv => {rhs; reduce; try dsimp only [ak, au, aG, ay]}
theorem ak1 (O : aA) (t0 : D) (m : Mem) : Oo.step2 O [t0] m = acA O t0 m := (aH ..).trans (by kernel_rfl)
noncomputable def J4 (O : aA) (base : Nat) (t0 t3 t14 t15 : D) (m : Mem) : Option (Ex × List D × Mem) := by
 refine (fun _ : ?a = bI O [0, 3, 14, 15] [0] xM xM base [t0, t3, t14, t15] m => ?a) ?h
 case h => conv => {rhs; conv => {arg 5; delta xM}; reduce; try dsimp only [ak, au, aG, ay]}
theorem XB (O : aA) (base : Nat) (t0 t3 t14 t15 : D) (m : Mem) : bC O [0, 3, 14, 15] [0] xM base [t0, t3, t14, t15] m = J4 O base t0 t3 t14 t15 m := (aY ..).trans (by kernel_rfl)
noncomputable def ae4 (O : aA) (t0 : D) (m : Mem) : RV := by
 refine (fun _ : ?a = Sm.step3 O [t0] m => ?a) ?h
 case h => conv => {rhs; reduce; try dsimp only [ak, au, aG, ay]}
theorem amk (O : aA) (t0 : D) (m : Mem) : Sm.step2 O [t0] m = ae4 O t0 m := (aH ..).trans (by kernel_rfl)
noncomputable def ae3 (O : aA) (t0 : D) (m : Mem) : RV := by
 refine (fun _ : ?a = Sl.step3 O [t0] m => ?a) ?h
 case h => conv => {rhs; reduce; try dsimp only [ak, au, aG, ay]}
theorem amj (O : aA) (t0 : D) (m : Mem) : Sl.step2 O [t0] m = ae3 O t0 m := (aH ..).trans (by kernel_rfl)
noncomputable def Hu (O : aA) (base : Nat) (t0 t1 t5 t9 t10 : D) (m : Mem) : Option (Ex × List D × Mem) := by
 refine (fun _ : ?a = bI O [0, 1, 5, 9, 10] [0] uN uN base [t0, t1, t5, t9, t10] m => ?a) ?h
 case h => conv => {rhs; conv => {arg 5; delta uN}; reduce; try dsimp only [ak, au, aG, ay]}
theorem Wx (O : aA) (base : Nat) (t0 t1 t5 t9 t10 : D) (m : Mem) : bC O [0, 1, 5, 9, 10] [0] uN base [t0, t1, t5, t9, t10] m = Hu O base t0 t1 t5 t9 t10 m := (aY ..).trans (by kernel_rfl)
noncomputable def acy (O : aA) (t0 t1 : D) (m : Mem) : RV := by
 refine (fun _ : ?a = Oj.step3 O [t0, t1] m => ?a) ?h
 case h => conv => {rhs; reduce; try dsimp only [ak, au, aG, ay]}
theorem akZ (O : aA) (t0 t1 : D) (m : Mem) : Oj.step2 O [t0, t1] m = acy O t0 t1 m := (aH ..).trans (by kernel_rfl)
noncomputable def rM (O : aA) (base : Nat) (t2 t8 t9 t10 t11 t13 t14 t15 t16 : D) (m : Mem) : Option (Ex × List D × Mem) := by
 refine (fun _ : ?a = bI O [2, 8, 9, 10, 11, 13, 14, 15, 16] [2, 8, 9, 10, 11, 13, 14, 15] oZ oZ base [t2, t8, t9, t10, t11, t13, t14, t15, t16] m => ?a) ?h
 case h => conv => {rhs; conv => {arg 5; delta oZ}; reduce; try dsimp only [ak, au, aG, ay]}
theorem abf (O : aA) (base : Nat) (t2 t8 t9 t10 t11 t13 t14 t15 t16 : D) (m : Mem) : bC O [2, 8, 9, 10, 11, 13, 14, 15, 16] [2, 8, 9, 10, 11, 13, 14, 15] oZ base [t2, t8, t9, t10, t11, t13, t14, t15, t16] m = rM O base t2 t8 t9 t10 t11 t13 t14 t15 t16 m := (aY ..).trans (by kernel_rfl)
noncomputable def rO (O : aA) (base : Nat) (t2 t8 t9 t10 t14 t15 t16 t17 t18 : D) (m : Mem) : Option (Ex × List D × Mem) := by
 refine (fun _ : ?a = bI O [2, 8, 9, 10, 14, 15, 16, 17, 18] [2, 8, 14, 15, 17, 18] o7 o7 base [t2, t8, t9, t10, t14, t15, t16, t17, t18] m => ?a) ?h
 case h => conv => {rhs; conv => {arg 5; delta o7}; reduce; try dsimp only [ak, au, aG, ay]}
theorem abg (O : aA) (base : Nat) (t2 t8 t9 t10 t14 t15 t16 t17 t18 : D) (m : Mem) : bC O [2, 8, 9, 10, 14, 15, 16, 17, 18] [2, 8, 14, 15, 17, 18] o7 base [t2, t8, t9, t10, t14, t15, t16, t17, t18] m = rO O base t2 t8 t9 t10 t14 t15 t16 t17 t18 m := (aY ..).trans (by kernel_rfl)
noncomputable def Qw (O : aA) (t0 t1 t2 : D) (m : Mem) : RV := by
 refine (fun _ : ?a = Jc.step3 O [t0, t1, t2] m => ?a) ?h
 case h => conv => {rhs; reduce; try dsimp only [ak, au, aG, ay]}
theorem agQ (O : aA) (t0 t1 t2 : D) (m : Mem) : Jc.step2 O [t0, t1, t2] m = Qw O t0 t1 t2 m := (aH ..).trans (by kernel_rfl)
noncomputable def AP (O : aA) (base : Nat) (t1 t5 t12 t13 t14 : D) (m : Mem) : Option (Ex × List D × Mem) := by
 refine (fun _ : ?a = bI O [1, 5, 12, 13, 14] [5] uM uM base [t1, t5, t12, t13, t14] m => ?a) ?h
 case h => conv => {rhs; conv => {arg 5; delta uM}; reduce; try dsimp only [ak, au, aG, ay]}
theorem FY (O : aA) (base : Nat) (t1 t5 t12 t13 t14 : D) (m : Mem) : bC O [1, 5, 12, 13, 14] [5] uM base [t1, t5, t12, t13, t14] m = AP O base t1 t5 t12 t13 t14 m := (aY ..).trans (by kernel_rfl)
noncomputable def Wj (O : aA) (t0 t1 : D) (m : Mem) : RV := by
 refine (fun _ : ?a = Oi.step3 O [t0, t1] m => ?a) ?h
 case h => conv => {rhs; reduce; try dsimp only [ak, au, aG, ay]}
theorem abj (O : aA) (t0 t1 : D) (m : Mem) : Oi.step2 O [t0, t1] m = Wj O t0 t1 m := (aH ..).trans (by kernel_rfl)
noncomputable def lN (O : aA) (base : Nat) (t0 t5 t6 t7 t8 t9 : D) (m : Mem) : Option (Ex × List D × Mem) := by
 refine (fun _ : ?a = bI O [0, 5, 6, 7, 8, 9] [4] qZ qZ base [t0, t5, t6, t7, t8, t9] m => ?a) ?h
 case h => conv => {rhs; conv => {arg 5; delta qZ}; reduce; try dsimp only [ak, au, aG, ay]}
theorem Dt (O : aA) (base : Nat) (t0 t5 t6 t7 t8 t9 : D) (m : Mem) : bC O [0, 5, 6, 7, 8, 9] [4] qZ base [t0, t5, t6, t7, t8, t9] m = lN O base t0 t5 t6 t7 t8 t9 m := (aY ..).trans (by kernel_rfl)
noncomputable def Ug (O : aA) (t0 t1 : D) (m : Mem) : RV := by
 refine (fun _ : ?a = LX.step3 O [t0, t1] m => ?a) ?h
 case h => conv => {rhs; reduce; try dsimp only [ak, au, aG, ay]}
theorem Zy (O : aA) (t0 t1 : D) (m : Mem) : LX.step2 O [t0, t1] m = Ug O t0 t1 m := (aH ..).trans (by kernel_rfl)
noncomputable def La (O : aA) (base : Nat) (t0 t1 t2 t7 t8 t14 t15 t16 : D) (m : Mem) : Option (Ex × List D × Mem) := by
 refine (fun _ : ?a = bI O [0, 1, 2, 7, 8, 14, 15, 16] [0, 1, 7, 8] vU vU base [t0, t1, t2, t7, t8, t14, t15, t16] m => ?a) ?h
 case h => conv => {rhs; conv => {arg 5; delta vU}; reduce; try dsimp only [ak, au, aG, ay]}
theorem Uw (O : aA) (base : Nat) (t0 t1 t2 t7 t8 t14 t15 t16 : D) (m : Mem) : bC O [0, 1, 2, 7, 8, 14, 15, 16] [0, 1, 7, 8] vU base [t0, t1, t2, t7, t8, t14, t15, t16] m = La O base t0 t1 t2 t7 t8 t14 t15 t16 m := (aY ..).trans (by kernel_rfl)
noncomputable def Uh (O : aA) (t0 t1 t2 : D) (m : Mem) : RV := by
 refine (fun _ : ?a = LZ.step3 O [t0, t1, t2] m => ?a) ?h
 case h => conv => {rhs; reduce; try dsimp only [ak, au, aG, ay]}
theorem ai7 (O : aA) (t0 t1 t2 : D) (m : Mem) : LZ.step2 O [t0, t1, t2] m = Uh O t0 t1 t2 m := (aH ..).trans (by kernel_rfl)
noncomputable def KZ (O : aA) (base : Nat) (t0 t1 t4 t7 t8 t9 : D) (m : Mem) : Option (Ex × List D × Mem) := by
 refine (fun _ : ?a = bI O [0, 1, 4, 7, 8, 9] [0, 1, 4] vS vS base [t0, t1, t4, t7, t8, t9] m => ?a) ?h
 case h => conv => {rhs; conv => {arg 5; delta vS}; reduce; try dsimp only [ak, au, aG, ay]}
theorem Ut (O : aA) (base : Nat) (t0 t1 t4 t7 t8 t9 : D) (m : Mem) : bC O [0, 1, 4, 7, 8, 9] [0, 1, 4] vS base [t0, t1, t4, t7, t8, t9] m = KZ O base t0 t1 t4 t7 t8 t9 m := (aY ..).trans (by kernel_rfl)
noncomputable def aac (O : aA) (t0 t1 : D) (m : Mem) : RV := by
 refine (fun _ : ?a = LW.step3 O [t0, t1] m => ?a) ?h
 case h => conv => {rhs; reduce; try dsimp only [ak, au, aG, ay]}
theorem ai5 (O : aA) (t0 t1 : D) (m : Mem) : LW.step2 O [t0, t1] m = aac O t0 t1 m := (aH ..).trans (by kernel_rfl)
noncomputable def FV (O : aA) (t0 : D) (m : Mem) : RV := by
 refine (fun _ : ?a = LK.step3 O [t0] m => ?a) ?h
 case h => conv => {rhs; reduce; try dsimp only [ak, au, aG, ay]}
theorem ai2 (O : aA) (t0 : D) (m : Mem) : LK.step2 O [t0] m = FV O t0 m := (aH ..).trans (by kernel_rfl)
noncomputable def WS (O : aA) (t0 t1 t2 : D) (m : Mem) : RV := by
 refine (fun _ : ?a = Gm.step3 O [t0, t1, t2] m => ?a) ?h
 case h => conv => {rhs; reduce; try dsimp only [ak, au, aG, ay]}
theorem afo (O : aA) (t0 t1 t2 : D) (m : Mem) : Gm.step2 O [t0, t1, t2] m = WS O t0 t1 t2 m := (aH ..).trans (by kernel_rfl)
end Go.Ev.Code
end
section
namespace Go.Ev.Code
open Go Go.Ev
set_option maxRecDepth 100000
attribute [local irreducible] VU Ym bd jn UL Lu gc ZT J9 Nl Kw fz jV ZV tlI List.length List.append BZ Yz OH Yt MW AO MZ JQ Dk MX Yu Td JU fZ rJ ET Yw Ud Uc Yv aa0 aa2 YA aa3 YB Tf Tm OE YC Qq OB Ho Dj OC Yy Yx Ti JO rMn rMx V_ xU sN JM Wh OG JR MC OI MB OD aa1
attribute [local irreducible] iU jr jv jw iV dO iF iQ fV iG iM pI KQ yH iE gZ jQ jq iO iR yK mG nJ sO qA zh Dv jo uo sW lJ gu lF lD Bc lg dN bZ dw nY jH iq yI wC nI gV Bj uS lH dI cZ wz nZ uX lq mJ vY slices_Reverse_int gW qX rX nU uH Cj Du rY wo xR uJ Df kX sZ CB CG xA jY jG rE qI gG xP iJ bW jm qR jc ji kC mW qQ IW nV jl xE fK strings_CutPrefix strings_Cut lC mP jy IG qU vZ yA tY oI uV gJ nC wX Dz Qu qg sU CO vC fC UO um Hz jE iI dD bits_Mul64 bits_Add64 gq mX bits_Sub64 KI xK xO Ib iT qM vF zJ Af jh qJ Iz zA iD Iw H7 jS Iy CQ uT EX sV yt dW gI strings_Repeat slices_Reverse_string strings_Join zY A_ nat_bit C9 tV bits_LeadingZeros64 zX CZ C_ CY CJ kR lG oU P8 CS MK ML sQ CX strconv_Itoa bits_TrailingZeros64 KA Jb II AL sS o9 AB Js uI IK rW IL oW y8 iY kH eP kK jO Ar hndB UN XZ X4
end Go.Ev.Code
end
section
end
