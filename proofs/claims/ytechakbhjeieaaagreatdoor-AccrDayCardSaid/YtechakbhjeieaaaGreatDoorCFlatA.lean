/- Part of accrDay_card. -/
import Derived.Test.YtechakbhjeieaaaGreatDoorCFlat
import Derived.Test.YtechakbhjeieaaaGreatDoorCCodeB
import Derived.Test.YtechakbhjeieaaaGreatDoorCCodeC
set_option linter.unusedVariables false
section
namespace Go.Ev.Code
open Go Go.Ev
set_option maxRecDepth 100000
attribute [local irreducible] XC ZX bd jn Wi Nq gc gop LQ OW MB fz lG hdI tlI List.length List.append Ez aaf Qj Z8 OE DC OH Lc Fp OG Z9 UM Le gI vg Gs aac Vs Vr Z_ acT acV aag acW aah UN UQ Qh aai RP Qd I9 Fj Qe aae aad UO La rMn rMx XP zZ vY K_ XQ Qi Ld N8 Qk NZ Qg acU
attribute [local irreducible] kN kD pR pU dY oN yZ jZ jU lC C_ kQ gK vZ tV DV DY DI wC nV nN nM DX mP jl kE iQ w_ EK FP yj nR dI dG bZ dh qM Gp xu qO OD mM lV jC zS jo jS yD slices_Reverse_int iw uK lu qJ Dz dB jT iG Fg rP H6 Fv WI wE EM EN zq kX uS t_ gW zX fB fA iR dR jL jD lX jJ BO qN bW fV jd jA uz Am wK rD yG mV jR uF Qy ji jw lg oZ Fe qK jy Az xK gZ qo y7 FU RY sS wz ES xX fF Wp wV Jf y5 gB pX fC og mX iy lI ny jI iL lH m_ gu iK dF bits_Mul64 bits_Add64 gJ xY Cj C9 dS zW gX strings_Repeat slices_Reverse_string strings_Join strings_Cut Wv oU o7 bits_Sub64 zU Jq jv ug JF BP iJ JD Jl kL JE EW xH Gu wB Aj strings_CutPrefix nK jE JI kU nG mY j_ f_ oP n_ pV fG pY oO lW kR iT wJ iW CW DW nat_bit E_ bits_LeadingZeros64 CV E8 Fa E5 EP lY nO rJ Rn EX Ou Ov wo uw EZ strconv_Itoa oI pW bits_TrailingZeros64 MG Kw JJ Dy wu rX Dx KN xq JK vN JL rO BA jg lF eU jY lN Dt hndB jm iE mQ zY qX eY yh oM ig RJ UJ WJ WL UY fK fH gV yc
noncomputable section
variable (m:Mem)
def iH (O:aB) (t0 t1:D):RV:=by
 refine (fun _:?a=uh.step3 O [t0,t1] m=>?a) ?h
 case h=>conv=>{rhs; reduce; try dsimp only [au,ay,aF,aA]}
theorem Hl (O:aB) (t0 t1:D):uh.step2 O [t0,t1] m=iH m O t0 t1:=(aG ..).trans (by kernel_rfl)
def OL (O:aB) (t0:D):RV:=by
 refine (fun _:?a=zA.step3 O [t0] m=>?a) ?h
 case h=>conv=>{rhs; reduce; try dsimp only [au,ay,aF,aA]}
theorem YZ (O:aB) (t0:D):zA.step2 O [t0] m=OL m O t0:=(aG ..).trans (by kernel_rfl)
def nI (O:aB) (t0 t1:D):RV:=by
 refine (fun _:?a=zC.step3 O [t0,t1] m=>?a) ?h
 case h=>conv=>{rhs; reduce; try dsimp only [au,ay,aF,aA]}
theorem zl (O:aB) (t0 t1:D):zC.step2 O [t0,t1] m=nI m O t0 t1:=(aG ..).trans (by kernel_rfl)
def jM (O:aB) (t0:D):RV:=by
 refine (fun _:?a=yN.step3 O [t0] m=>?a) ?h
 case h=>conv=>{rhs; reduce; try dsimp only [au,ay,aF,aA]}
theorem Eb (O:aB) (t0:D):yN.step2 O [t0] m=jM m O t0:=(aG ..).trans (by kernel_rfl)
def G9 (O:aB) (t0 t1:D):RV:=by
 refine (fun _:?a=AQ.step3 O [t0,t1] m=>?a) ?h
 case h=>conv=>{rhs; reduce; try dsimp only [au,ay,aF,aA]}
theorem aa1 (O:aB) (t0 t1:D):AQ.step2 O [t0,t1] m=G9 m O t0 t1:=(aG ..).trans (by kernel_rfl)
def OJ (O:aB) (t0 t1:D):RV:=by
 refine (fun _:?a=Ue.step3 O [t0,t1] m=>?a) ?h
 case h=>conv=>{rhs; reduce; try dsimp only [au,ay,aF,aA]}
theorem YR (O:aB) (t0 t1:D):Ue.step2 O [t0,t1] m=OJ m O t0 t1:=(aG ..).trans (by kernel_rfl)
def G_ (O:aB) (t0 t1:D):RV:=by
 refine (fun _:?a=AU.step3 O [t0,t1] m=>?a) ?h
 case h=>conv=>{rhs; reduce; try dsimp only [au,ay,aF,aA]}
theorem aa2 (O:aB) (t0 t1:D):AU.step2 O [t0,t1] m=G_ m O t0 t1:=(aG ..).trans (by kernel_rfl)
def WS (O:aB) (t0:D):RV:=by
 refine (fun _:?a=Gi.step3 O [t0] m=>?a) ?h
 case h=>conv=>{rhs; reduce; try dsimp only [au,ay,aF,aA]}
theorem aeI (O:aB) (t0:D):Gi.step2 O [t0] m=WS m O t0:=(aG ..).trans (by kernel_rfl)
def Yq (O:aB) (t0 t1:D):RV:=by
 refine (fun _:?a=IU.step3 O [t0,t1] m=>?a) ?h
 case h=>conv=>{rhs; reduce; try dsimp only [au,ay,aF,aA]}
theorem ahi (O:aB) (t0 t1:D):IU.step2 O [t0,t1] m=Yq m O t0 t1:=(aG ..).trans (by kernel_rfl)
def AB (O:aB) (t0 t1:D):RV:=by
 refine (fun _:?a=uj.step3 O [t0,t1] m=>?a) ?h
 case h=>conv=>{rhs; reduce; try dsimp only [au,ay,aF,aA]}
theorem U8 (O:aB) (t0 t1:D):uj.step2 O [t0,t1] m=AB m O t0 t1:=(aG ..).trans (by kernel_rfl)
def Nh (O:aB) (t0:D):RV:=by
 refine (fun _:?a=Gj.step3 O [t0] m=>?a) ?h
 case h=>conv=>{rhs; reduce; try dsimp only [au,ay,aF,aA]}
theorem aeJ (O:aB) (t0:D):Gj.step2 O [t0] m=Nh m O t0:=(aG ..).trans (by kernel_rfl)
def uQ (O:aB) (t0:D):RV:=by
 refine (fun _:?a=Ut.step3 O [t0] m=>?a) ?h
 case h=>conv=>{rhs; reduce; try dsimp only [au,ay,aF,aA]}
theorem afG (O:aB) (t0:D):Ut.step2 O [t0] m=uQ m O t0:=(aG ..).trans (by kernel_rfl)
def Fz (O:aB) (t0:D):RV:=by
 refine (fun _:?a=Ul.step3 O [t0] m=>?a) ?h
 case h=>conv=>{rhs; reduce; try dsimp only [au,ay,aF,aA]}
theorem Jw (O:aB) (t0:D):Ul.step2 O [t0] m=Fz m O t0:=(aG ..).trans (by kernel_rfl)
def nH (O:aB) (t0:D):RV:=by
 refine (fun _:?a=Kz.step3 O [t0] m=>?a) ?h
 case h=>conv=>{rhs; reduce; try dsimp only [au,ay,aF,aA]}
theorem aix (O:aB) (t0:D):Kz.step2 O [t0] m=nH m O t0:=(aG ..).trans (by kernel_rfl)
def zi (O:aB) (t0:D):RV:=by
 refine (fun _:?a=Ig.step3 O [t0] m=>?a) ?h
 case h=>conv=>{rhs; reduce; try dsimp only [au,ay,aF,aA]}
theorem agZ (O:aB) (t0:D):Ig.step2 O [t0] m=zi m O t0:=(aG ..).trans (by kernel_rfl)
def O7 (O:aB) (t0:D):RV:=by
 refine (fun _:?a=Ie.step3 O [t0] m=>?a) ?h
 case h=>conv=>{rhs; reduce; try dsimp only [au,ay,aF,aA]}
theorem agY (O:aB) (t0:D):Ie.step2 O [t0] m=O7 m O t0:=(aG ..).trans (by kernel_rfl)
def agJ (O:aB) (t0 t1:D):RV:=by
 refine (fun _:?a=Us.step3 O [t0,t1] m=>?a) ?h
 case h=>conv=>{rhs; reduce; try dsimp only [au,ay,aF,aA]}
theorem aoy (O:aB) (t0 t1:D):Us.step2 O [t0,t1] m=agJ m O t0 t1:=(aG ..).trans (by kernel_rfl)
def OM (O:aB) (t0 t1:D):RV:=by
 refine (fun _:?a=zB.step3 O [t0,t1] m=>?a) ?h
 case h=>conv=>{rhs; reduce; try dsimp only [au,ay,aF,aA]}
theorem Y0 (O:aB) (t0 t1:D):zB.step2 O [t0,t1] m=OM m O t0 t1:=(aG ..).trans (by kernel_rfl)
def aW (O:aB) (t0:D):RV:=by
 refine (fun _:?a=wM.step3 O [t0] m=>?a) ?h
 case h=>conv=>{rhs; reduce; try dsimp only [au,ay,aF,aA]}
theorem J3 (O:aB) (t0:D):wM.step2 O [t0] m=aW m O t0:=(aG ..).trans (by kernel_rfl)
def Dh (O:aB) (t0:D):RV:=by
 refine (fun _:?a=wO.step3 O [t0] m=>?a) ?h
 case h=>conv=>{rhs; reduce; try dsimp only [au,ay,aF,aA]}
theorem J4 (O:aB) (t0:D):wO.step2 O [t0] m=Dh m O t0:=(aG ..).trans (by kernel_rfl)
def BL (O:aB) (t0 t1:D):RV:=by
 refine (fun _:?a=uU.step3 O [t0,t1] m=>?a) ?h
 case h=>conv=>{rhs; reduce; try dsimp only [au,ay,aF,aA]}
theorem VP (O:aB) (t0 t1:D):uU.step2 O [t0,t1] m=BL m O t0 t1:=(aG ..).trans (by kernel_rfl)
def Ja (O:aB) (t0 t1:D):RV:=by
 refine (fun _:?a=Ic.step3 O [t0,t1] m=>?a) ?h
 case h=>conv=>{rhs; reduce; try dsimp only [au,ay,aF,aA]}
theorem OY (O:aB) (t0 t1:D):Ic.step2 O [t0,t1] m=Ja m O t0 t1:=(aG ..).trans (by kernel_rfl)
def Oc (O:aB) (t0 t1 t2:D):RV:=by
 refine (fun _:?a=Nu.step3 O [t0,t1,t2] m=>?a) ?h
 case h=>conv=>{rhs; reduce; try dsimp only [au,ay,aF,aA]}
theorem abm (O:aB) (t0 t1 t2:D):Nu.step2 O [t0,t1,t2] m=Oc m O t0 t1 t2:=(aG ..).trans (by kernel_rfl)
def OI (O:aB) (t0 t1:D):RV:=by
 refine (fun _:?a=Ud.step3 O [t0,t1] m=>?a) ?h
 case h=>conv=>{rhs; reduce; try dsimp only [au,ay,aF,aA]}
theorem YQ (O:aB) (t0 t1:D):Ud.step2 O [t0,t1] m=OI m O t0 t1:=(aG ..).trans (by kernel_rfl)
def Qo (O:aB) (t0 t1:D):RV:=by
 refine (fun _:?a=PU.step3 O [t0,t1] m=>?a) ?h
 case h=>conv=>{rhs; reduce; try dsimp only [au,ay,aF,aA]}
theorem amR (O:aB) (t0 t1:D):PU.step2 O [t0,t1] m=Qo m O t0 t1:=(aG ..).trans (by kernel_rfl)
def Yw (O:aB) (t0 t1:D):RV:=by
 refine (fun _:?a=IZ.step3 O [t0,t1] m=>?a) ?h
 case h=>conv=>{rhs; reduce; try dsimp only [au,ay,aF,aA]}
theorem ahn (O:aB) (t0 t1:D):IZ.step2 O [t0,t1] m=Yw m O t0 t1:=(aG ..).trans (by kernel_rfl)
def Yv (O:aB) (t0:D):RV:=by
 refine (fun _:?a=IY.step3 O [t0] m=>?a) ?h
 case h=>conv=>{rhs; reduce; try dsimp only [au,ay,aF,aA]}
theorem ahm (O:aB) (t0:D):IY.step2 O [t0] m=Yv m O t0:=(aG ..).trans (by kernel_rfl)
def Gv (O:aB) (t0:D):RV:=by
 refine (fun _:?a=F9.step3 O [t0] m=>?a) ?h
 case h=>conv=>{rhs; reduce; try dsimp only [au,ay,aF,aA]}
theorem aeE (O:aB) (t0:D):F9.step2 O [t0] m=Gv m O t0:=(aG ..).trans (by kernel_rfl)
def Pm (O:aB) (t0 t1:D):RV:=by
 refine (fun _:?a=II.step3 O [t0,t1] m=>?a) ?h
 case h=>conv=>{rhs; reduce; try dsimp only [au,ay,aF,aA]}
theorem ahd (O:aB) (t0 t1:D):II.step2 O [t0,t1] m=Pm m O t0 t1:=(aG ..).trans (by kernel_rfl)
def Yr (O:aB) (t0:D):RV:=by
 refine (fun _:?a=IV.step3 O [t0] m=>?a) ?h
 case h=>conv=>{rhs; reduce; try dsimp only [au,ay,aF,aA]}
theorem ahj (O:aB) (t0:D):IV.step2 O [t0] m=Yr m O t0:=(aG ..).trans (by kernel_rfl)
def Yo (O:aB) (t0 t1:D):RV:=by
 refine (fun _:?a=IG.step3 O [t0,t1] m=>?a) ?h
 case h=>conv=>{rhs; reduce; try dsimp only [au,ay,aF,aA]}
theorem ahc (O:aB) (t0 t1:D):IG.step2 O [t0,t1] m=Yo m O t0 t1:=(aG ..).trans (by kernel_rfl)
def qQ (O:aB) (t0 t1 t2 t3:D):RV:=by
 refine (fun _:?a=NG.step3 O [t0,t1,t2,t3] m=>?a) ?h
 case h=>conv=>{rhs; reduce; try dsimp only [au,ay,aF,aA]}
theorem U7 (O:aB) (t0 t1 t2 t3:D):NG.step2 O [t0,t1,t2,t3] m=qQ m O t0 t1 t2 t3:=(aG ..).trans (by kernel_rfl)
def Yt (O:aB) (t0 t1:D):RV:=by
 refine (fun _:?a=IW.step3 O [t0,t1] m=>?a) ?h
 case h=>conv=>{rhs; reduce; try dsimp only [au,ay,aF,aA]}
theorem ahk (O:aB) (t0 t1:D):IW.step2 O [t0,t1] m=Yt m O t0 t1:=(aG ..).trans (by kernel_rfl)
def Gw (O:aB) (t0 t1:D):RV:=by
 refine (fun _:?a=Gg.step3 O [t0,t1] m=>?a) ?h
 case h=>conv=>{rhs; reduce; try dsimp only [au,ay,aF,aA]}
theorem aeG (O:aB) (t0 t1:D):Gg.step2 O [t0,t1] m=Gw m O t0 t1:=(aG ..).trans (by kernel_rfl)
def akj (O:aB) (t0 t1:D):RV:=by
 refine (fun _:?a=Xq.step3 O [t0,t1] m=>?a) ?h
 case h=>conv=>{rhs; reduce; try dsimp only [au,ay,aF,aA]}
theorem aqo (O:aB) (t0 t1:D):Xq.step2 O [t0,t1] m=akj m O t0 t1:=(aG ..).trans (by kernel_rfl)
def Yu (O:aB) (t0 t1:D):RV:=by
 refine (fun _:?a=IX.step3 O [t0,t1] m=>?a) ?h
 case h=>conv=>{rhs; reduce; try dsimp only [au,ay,aF,aA]}
theorem ahl (O:aB) (t0 t1:D):IX.step2 O [t0,t1] m=Yu m O t0 t1:=(aG ..).trans (by kernel_rfl)
def rF (O:aB) (t0 t1:D):RV:=by
 refine (fun _:?a=wP.step3 O [t0,t1] m=>?a) ?h
 case h=>conv=>{rhs; reduce; try dsimp only [au,ay,aF,aA]}
theorem J5 (O:aB) (t0 t1:D):wP.step2 O [t0,t1] m=rF m O t0 t1:=(aG ..).trans (by kernel_rfl)
def Nc (O:aB) (t0:D):RV:=by
 refine (fun _:?a=Gf.step3 O [t0] m=>?a) ?h
 case h=>conv=>{rhs; reduce; try dsimp only [au,ay,aF,aA]}
theorem aeF (O:aB) (t0:D):Gf.step2 O [t0] m=Nc m O t0:=(aG ..).trans (by kernel_rfl)
def WR (O:aB) (t0:D):RV:=by
 refine (fun _:?a=Gh.step3 O [t0] m=>?a) ?h
 case h=>conv=>{rhs; reduce; try dsimp only [au,ay,aF,aA]}
theorem aeH (O:aB) (t0:D):Gh.step2 O [t0] m=WR m O t0:=(aG ..).trans (by kernel_rfl)
def LM (O:aB) (t0:D):RV:=by
 refine (fun _:?a=wU.step3 O [t0] m=>?a) ?h
 case h=>conv=>{rhs; reduce; try dsimp only [au,ay,aF,aA]}
theorem Xa (O:aB) (t0:D):wU.step2 O [t0] m=LM m O t0:=(aG ..).trans (by kernel_rfl)
def abT (O:aB) (t0 t1:D):RV:=by
 refine (fun _:?a=NC.step3 O [t0,t1] m=>?a) ?h
 case h=>conv=>{rhs; reduce; try dsimp only [au,ay,aF,aA]}
theorem akK (O:aB) (t0 t1:D):NC.step2 O [t0,t1] m=abT m O t0 t1:=(aG ..).trans (by kernel_rfl)
def WO (O:aB) (t0:D):RV:=by
 refine (fun _:?a=F6.step3 O [t0] m=>?a) ?h
 case h=>conv=>{rhs; reduce; try dsimp only [au,ay,aF,aA]}
theorem aeB (O:aB) (t0:D):F6.step2 O [t0] m=WO m O t0:=(aG ..).trans (by kernel_rfl)
def Pq (O:aB) (t0 t1:D):RV:=by
 refine (fun _:?a=IQ.step3 O [t0,t1] m=>?a) ?h
 case h=>conv=>{rhs; reduce; try dsimp only [au,ay,aF,aA]}
theorem ahh (O:aB) (t0 t1:D):IQ.step2 O [t0,t1] m=Pq m O t0 t1:=(aG ..).trans (by kernel_rfl)
def O8 (O:aB) (t0:D):RV:=by
 refine (fun _:?a=Ih.step3 O [t0] m=>?a) ?h
 case h=>conv=>{rhs; reduce; try dsimp only [au,ay,aF,aA]}
theorem ag0 (O:aB) (t0:D):Ih.step2 O [t0] m=O8 m O t0:=(aG ..).trans (by kernel_rfl)
def aeh (O:aB) (t0:D):RV:=by
 refine (fun _:?a=PS.step3 O [t0] m=>?a) ?h
 case h=>conv=>{rhs; reduce; try dsimp only [au,ay,aF,aA]}
theorem amQ (O:aB) (t0:D):PS.step2 O [t0] m=aeh m O t0:=(aG ..).trans (by kernel_rfl)
def ac0 (O:aB) (t0:D):RV:=by
 refine (fun _:?a=Xp.step3 O [t0] m=>?a) ?h
 case h=>conv=>{rhs; reduce; try dsimp only [au,ay,aF,aA]}
theorem aqn (O:aB) (t0:D):Xp.step2 O [t0] m=ac0 m O t0:=(aG ..).trans (by kernel_rfl)
def vU (O:aB) (t0 t1:D):RV:=by
 refine (fun _:?a=IE.step3 O [t0,t1] m=>?a) ?h
 case h=>conv=>{rhs; reduce; try dsimp only [au,ay,aF,aA]}
theorem ahb (O:aB) (t0 t1:D):IE.step2 O [t0,t1] m=vU m O t0 t1:=(aG ..).trans (by kernel_rfl)
def aas (O:aB) (t0 t1:D):RV:=by
 refine (fun _:?a=Uu.step3 O [t0,t1] m=>?a) ?h
 case h=>conv=>{rhs; reduce; try dsimp only [au,ay,aF,aA]}
theorem aoz (O:aB) (t0 t1:D):Uu.step2 O [t0,t1] m=aas m O t0 t1:=(aG ..).trans (by kernel_rfl)
def AA (O:aB) (t0:D):RV:=by
 refine (fun _:?a=Nv.step3 O [t0] m=>?a) ?h
 case h=>conv=>{rhs; reduce; try dsimp only [au,ay,aF,aA]}
theorem akG (O:aB) (t0:D):Nv.step2 O [t0] m=AA m O t0:=(aG ..).trans (by kernel_rfl)
def qP (O:aB) (t0:D):RV:=by
 refine (fun _:?a=Nw.step3 O [t0] m=>?a) ?h
 case h=>conv=>{rhs; reduce; try dsimp only [au,ay,aF,aA]}
theorem akH (O:aB) (t0:D):Nw.step2 O [t0] m=qP m O t0:=(aG ..).trans (by kernel_rfl)
def Vy (O:aB) (t0:D):RV:=by
 refine (fun _:?a=Ny.step3 O [t0] m=>?a) ?h
 case h=>conv=>{rhs; reduce; try dsimp only [au,ay,aF,aA]}
theorem akI (O:aB) (t0:D):Ny.step2 O [t0] m=Vy m O t0:=(aG ..).trans (by kernel_rfl)
def U1 (O:aB) (t0 t1:D):RV:=by
 refine (fun _:?a=Eo.step3 O [t0,t1] m=>?a) ?h
 case h=>conv=>{rhs; reduce; try dsimp only [au,ay,aF,aA]}
theorem ac8 (O:aB) (t0 t1:D):Eo.step2 O [t0,t1] m=U1 m O t0 t1:=(aG ..).trans (by kernel_rfl)
def agE (O:aB) (t0:D):RV:=by
 refine (fun _:?a=Uf.step3 O [t0] m=>?a) ?h
 case h=>conv=>{rhs; reduce; try dsimp only [au,ay,aF,aA]}
theorem aor (O:aB) (t0:D):Uf.step2 O [t0] m=agE m O t0:=(aG ..).trans (by kernel_rfl)
def Sj (O:aB) (t0:D):RV:=by
 refine (fun _:?a=KA.step3 O [t0] m=>?a) ?h
 case h=>conv=>{rhs; reduce; try dsimp only [au,ay,aF,aA]}
theorem aiy (O:aB) (t0:D):KA.step2 O [t0] m=Sj m O t0:=(aG ..).trans (by kernel_rfl)
def sG (O:aB) (t0 t1:D):RV:=by
 refine (fun _:?a=mD.step3 O [t0,t1] m=>?a) ?h
 case h=>conv=>{rhs; reduce; try dsimp only [au,ay,aF,aA]}
theorem LV (O:aB) (t0 t1:D):mD.step2 O [t0,t1] m=sG m O t0 t1:=(aG ..).trans (by kernel_rfl)
def VD (O:aB) (t0 t1:D):RV:=by
 refine (fun _:?a=NS.step3 O [t0,t1] m=>?a) ?h
 case h=>conv=>{rhs; reduce; try dsimp only [au,ay,aF,aA]}
theorem akP (O:aB) (t0 t1:D):NS.step2 O [t0,t1] m=VD m O t0 t1:=(aG ..).trans (by kernel_rfl)
def Jv (O:aB) (t0:D):RV:=by
 refine (fun _:?a=CP.step3 O [t0] m=>?a) ?h
 case h=>conv=>{rhs; reduce; try dsimp only [au,ay,aF,aA]}
theorem ab3 (O:aB) (t0:D):CP.step2 O [t0] m=Jv m O t0:=(aG ..).trans (by kernel_rfl)
def fU (O:aB) (t0 t1 t2:D):RV:=by
 refine (fun _:?a=sJ.step3 O [t0,t1,t2] m=>?a) ?h
 case h=>conv=>{rhs; reduce; try dsimp only [au,ay,aF,aA]}
theorem ou (O:aB) (t0 t1 t2:D):sJ.step2 O [t0,t1,t2] m=fU m O t0 t1 t2:=(aG ..).trans (by kernel_rfl)
def mg (O:aB) (t0:D):RV:=by
 refine (fun _:?a=uX.step3 O [t0] m=>?a) ?h
 case h=>conv=>{rhs; reduce; try dsimp only [au,ay,aF,aA]}
theorem VR (O:aB) (t0:D):uX.step2 O [t0] m=mg m O t0:=(aG ..).trans (by kernel_rfl)
def g_ (O:aB) (t0 t1 t2 t3:D):RV:=by
 refine (fun _:?a=uZ.step3 O [t0,t1,t2,t3] m=>?a) ?h
 case h=>conv=>{rhs; reduce; try dsimp only [au,ay,aF,aA]}
theorem Jy (O:aB) (t0 t1 t2 t3:D):uZ.step2 O [t0,t1,t2,t3] m=g_ m O t0 t1 t2 t3:=(aG ..).trans (by kernel_rfl)
def JX (O:aB) (t0 t1:D):RV:=by
 refine (fun _:?a=u_.step3 O [t0,t1] m=>?a) ?h
 case h=>conv=>{rhs; reduce; try dsimp only [au,ay,aF,aA]}
theorem VU (O:aB) (t0 t1:D):u_.step2 O [t0,t1] m=JX m O t0 t1:=(aG ..).trans (by kernel_rfl)
def Ac (O:aB) (t0 t1:D):RV:=by
 refine (fun _:?a=zD.step3 O [t0,t1] m=>?a) ?h
 case h=>conv=>{rhs; reduce; try dsimp only [au,ay,aF,aA]}
theorem EG (O:aB) (t0 t1:D):zD.step2 O [t0,t1] m=Ac m O t0 t1:=(aG ..).trans (by kernel_rfl)
def PK (O:aB) (t0 t1:D):RV:=by
 refine (fun _:?a=Bc.step3 O [t0,t1] m=>?a) ?h
 case h=>conv=>{rhs; reduce; try dsimp only [au,ay,aF,aA]}
theorem aa5 (O:aB) (t0 t1:D):Bc.step2 O [t0,t1] m=PK m O t0 t1:=(aG ..).trans (by kernel_rfl)
def JW (O:aB) (t0:D):RV:=by
 refine (fun _:?a=uY.step3 O [t0] m=>?a) ?h
 case h=>conv=>{rhs; reduce; try dsimp only [au,ay,aF,aA]}
theorem VT (O:aB) (t0:D):uY.step2 O [t0] m=JW m O t0:=(aG ..).trans (by kernel_rfl)
def uH (O:aB) (t0 t1:D):RV:=by
 refine (fun _:?a=ND.step3 O [t0,t1] m=>?a) ?h
 case h=>conv=>{rhs; reduce; try dsimp only [au,ay,aF,aA]}
theorem wY (O:aB) (t0 t1:D):ND.step2 O [t0,t1] m=uH m O t0 t1:=(aG ..).trans (by kernel_rfl)
def Pn (O:aB) (t0:D):RV:=by
 refine (fun _:?a=IJ.step3 O [t0] m=>?a) ?h
 case h=>conv=>{rhs; reduce; try dsimp only [au,ay,aF,aA]}
theorem ahe (O:aB) (t0:D):IJ.step2 O [t0] m=Pn m O t0:=(aG ..).trans (by kernel_rfl)
def Yn (O:aB) (t0:D):RV:=by
 refine (fun _:?a=IC.step3 O [t0] m=>?a) ?h
 case h=>conv=>{rhs; reduce; try dsimp only [au,ay,aF,aA]}
theorem aha (O:aB) (t0:D):IC.step2 O [t0] m=Yn m O t0:=(aG ..).trans (by kernel_rfl)
def WQ (O:aB) (t0:D):RV:=by
 refine (fun _:?a=F8.step3 O [t0] m=>?a) ?h
 case h=>conv=>{rhs; reduce; try dsimp only [au,ay,aF,aA]}
theorem aeD (O:aB) (t0:D):F8.step2 O [t0] m=WQ m O t0:=(aG ..).trans (by kernel_rfl)
def U2 (O:aB) (t0 t1:D):RV:=by
 refine (fun _:?a=Ur.step3 O [t0,t1] m=>?a) ?h
 case h=>conv=>{rhs; reduce; try dsimp only [au,ay,aF,aA]}
theorem aox (O:aB) (t0 t1:D):Ur.step2 O [t0,t1] m=U2 m O t0 t1:=(aG ..).trans (by kernel_rfl)
end
noncomputable section
variable (O:aB) (b:Nat) (m:Mem)
def o_ (t1 t4 t5:D):LoopV:=by
 refine (fun _:?a=bD O [1,4,5] [1,4] jm jm b [t1,t4,t5] m=>?a) ?h
 case h=>conv=>{rhs; conv=>{arg 5; delta jm}; reduce; try dsimp only [au,ay,aF,aA]}
theorem Ai (t1 t4 t5:D):bC O [1,4,5] [1,4] jm b [t1,t4,t5] m=o_ O b m t1 t4 t5:=(aV ..).trans (by kernel_rfl)
def pF (t1 t4 t8 t9:D):LoopV:=by
 refine (fun _:?a=bD O [1,4,8,9] [1,4,8] iE iE b [t1,t4,t8,t9] m=>?a) ?h
 case h=>conv=>{rhs; conv=>{arg 5; delta iE}; reduce; try dsimp only [au,ay,aF,aA]}
theorem tY (t1 t4 t8 t9:D):bC O [1,4,8,9] [1,4,8] iE b [t1,t4,t8,t9] m=pF O b m t1 t4 t8 t9:=(aV ..).trans (by kernel_rfl)
def rE (t0 t1 t5:D):LoopV:=by
 refine (fun _:?a=bD O [0,1,5] [4] mQ mQ b [t0,t1,t5] m=>?a) ?h
 case h=>conv=>{rhs; conv=>{arg 5; delta mQ}; reduce; try dsimp only [au,ay,aF,aA]}
theorem JZ (t0 t1 t5:D):bC O [0,1,5] [4] mQ b [t0,t1,t5] m=rE O b m t0 t1 t5:=(aV ..).trans (by kernel_rfl)
def LJ (t1 t6 t7 t8 t9 t27 t28 t29:D):LoopV:=by
 refine (fun _:?a=bD O [1,6,7,8,9,27,28,29] [1,6,7,8] zY zY b [t1,t6,t7,t8,t9,t27,t28,t29] m=>?a) ?h
 case h=>conv=>{rhs; conv=>{arg 5; delta zY}; reduce; try dsimp only [au,ay,aF,aA]}
theorem QK (t1 t6 t7 t8 t9 t27 t28 t29:D):bC O [1,6,7,8,9,27,28,29] [1,6,7,8] zY b [t1,t6,t7,t8,t9,t27,t28,t29] m=LJ O b m t1 t6 t7 t8 t9 t27 t28 t29:=(aV ..).trans (by kernel_rfl)
def jW (t1 t4 t6 t7 t21 t22 t23:D):LoopV:=by
 refine (fun _:?a=bD O [1,4,6,7,21,22,23] [2,3,7] qX qX b [t1,t4,t6,t7,t21,t22,t23] m=>?a) ?h
 case h=>conv=>{rhs; conv=>{arg 5; delta qX}; reduce; try dsimp only [au,ay,aF,aA]}
theorem kW (t1 t4 t6 t7 t21 t22 t23:D):bC O [1,4,6,7,21,22,23] [2,3,7] qX b [t1,t4,t6,t7,t21,t22,t23] m=jW O b m t1 t4 t6 t7 t21 t22 t23:=(aV ..).trans (by kernel_rfl)
def jc (t1 t4 t6 t7:D):LoopV:=by
 refine (fun _:?a=bD O [1,4,6,7] [2,3,6] eY eY b [t1,t4,t6,t7] m=>?a) ?h
 case h=>conv=>{rhs; conv=>{arg 5; delta eY}; reduce; try dsimp only [au,ay,aF,aA]}
theorem kJ (t1 t4 t6 t7:D):bC O [1,4,6,7] [2,3,6] eY b [t1,t4,t6,t7] m=jc O b m t1 t4 t6 t7:=(aV ..).trans (by kernel_rfl)
def MX (t2 t3 t4 t14 t77 t78 t79:D):LoopV:=by
 refine (fun _:?a=bD O [2,3,4,14,77,78,79] [14] yh yh b [t2,t3,t4,t14,t77,t78,t79] m=>?a) ?h
 case h=>conv=>{rhs; conv=>{arg 5; delta yh}; reduce; try dsimp only [au,ay,aF,aA]}
theorem VK (t2 t3 t4 t14 t77 t78 t79:D):bC O [2,3,4,14,77,78,79] [14] yh b [t2,t3,t4,t14,t77,t78,t79] m=MX O b m t2 t3 t4 t14 t77 t78 t79:=(aV ..).trans (by kernel_rfl)
def wG (t1 t5 t6:D):LoopV:=by
 refine (fun _:?a=bD O [1,5,6] [2,3,4] oM oM b [t1,t5,t6] m=>?a) ?h
 case h=>conv=>{rhs; conv=>{arg 5; delta oM}; reduce; try dsimp only [au,ay,aF,aA]}
theorem GK (t1 t5 t6:D):bC O [1,5,6] [2,3,4] oM b [t1,t5,t6] m=wG O b m t1 t5 t6:=(aV ..).trans (by kernel_rfl)
def yY (t0 t2 t3:D):LoopV:=by
 refine (fun _:?a=bD O [0,2,3] [] ig ig b [t0,t2,t3] m=>?a) ?h
 case h=>conv=>{rhs; conv=>{arg 5; delta ig}; reduce; try dsimp only [au,ay,aF,aA]}
theorem Gz (t0 t2 t3:D):bC O [0,2,3] [] ig b [t0,t2,t3] m=yY O b m t0 t2 t3:=(aV ..).trans (by kernel_rfl)
def kV (t0 t1 t7 t8:D):LoopV:=by
 refine (fun _:?a=bD O [0,1,7,8] [4] fK fK b [t0,t1,t7,t8] m=>?a) ?h
 case h=>conv=>{rhs; conv=>{arg 5; delta fK}; reduce; try dsimp only [au,ay,aF,aA]}
theorem xW (t0 t1 t7 t8:D):bC O [0,1,7,8] [4] fK b [t0,t1,t7,t8] m=kV O b m t0 t1 t7 t8:=(aV ..).trans (by kernel_rfl)
def kY (t1 t8 t9:D):LoopV:=by
 refine (fun _:?a=bD O [1,8,9] [1,8,9] fH fH b [t1,t8,t9] m=>?a) ?h
 case h=>conv=>{rhs; conv=>{arg 5; delta fH}; reduce; try dsimp only [au,ay,aF,aA]}
theorem pI (t1 t8 t9:D):bC O [1,8,9] [1,8,9] fH b [t1,t8,t9] m=kY O b m t1 t8 t9:=(aV ..).trans (by kernel_rfl)
def pK (t1 t8 t9:D):LoopV:=by
 refine (fun _:?a=bD O [1,8,9] [8,9] gV gV b [t1,t8,t9] m=>?a) ?h
 case h=>conv=>{rhs; conv=>{arg 5; delta gV}; reduce; try dsimp only [au,ay,aF,aA]}
theorem vH (t1 t8 t9:D):bC O [1,8,9] [8,9] gV b [t1,t8,t9] m=pK O b m t1 t8 t9:=(aV ..).trans (by kernel_rfl)
def MW (t1 t2 t6:D):LoopV:=by
 refine (fun _:?a=bD O [1,2,6] [1,2,6] yc yc b [t1,t2,t6] m=>?a) ?h
 case h=>conv=>{rhs; conv=>{arg 5; delta yc}; reduce; try dsimp only [au,ay,aF,aA]}
theorem VJ (t1 t2 t6:D):bC O [1,2,6] [1,2,6] yc b [t1,t2,t6] m=MW O b m t1 t2 t6:=(aV ..).trans (by kernel_rfl)
end
end Go.Ev.Code
end
section
namespace Go.Ev.Code
open Go Go.Ev
set_option maxRecDepth 100000
attribute [local irreducible] XC ZX bd jn Wi Nq gc gop LQ OW MB fz lG hdI tlI List.length List.append Ez aaf Qj Z8 OE DC OH Lc Fp OG Z9 UM Le gI vg Gs aac Vs Vr Z_ acT acV aag acW aah UN UQ Qh aai RP Qd I9 Fj Qe aae aad UO La rMn rMx XP zZ vY K_ XQ Qi Ld N8 Qk NZ Qg acU
attribute [local irreducible] kN kD pR pU dY oN yZ jZ jU lC C_ kQ gK vZ tV DV DY DI wC nV nN nM DX mP jl kE iQ w_ EK FP yj nR dI dG bZ dh qM Gp xu qO OD mM lV jC zS jo jS yD slices_Reverse_int iw uK lu qJ Dz dB jT iG Fg rP H6 Fv WI wE EM EN zq kX uS t_ gW zX fB fA iR dR jL jD lX jJ BO qN bW fV jd jA uz Am wK rD yG mV jR uF Qy ji jw lg oZ Fe qK jy Az xK gZ qo y7 FU RY sS wz ES xX fF Wp wV Jf y5 gB pX fC og mX iy lI ny jI iL lH m_ gu iK dF bits_Mul64 bits_Add64 gJ xY Cj C9 dS zW gX strings_Repeat slices_Reverse_string strings_Join strings_Cut Wv oU o7 bits_Sub64 zU Jq jv ug JF BP iJ JD Jl kL JE EW xH Gu wB Aj strings_CutPrefix nK jE JI kU nG mY j_ f_ oP n_ pV fG pY oO lW kR iT wJ iW CW DW nat_bit E_ bits_LeadingZeros64 CV E8 Fa E5 EP lY nO rJ Rn EX Ou Ov wo uw EZ strconv_Itoa oI pW bits_TrailingZeros64 MG Kw JJ Dy wu rX Dx KN xq JK vN JL rO BA jg lF eU jY lN Dt hndB tC tH iI iU lT qp tJ UG UH CB vJ vK Cc Ce zo adI kS kT oJ oK fQ dN eP kF mZ qL rZ yw fM uq tK rY uy Aq Ar WM iq fD gQ
noncomputable section
variable (m:Mem)
def Yk (O:aB) (t0 t1:D):RV:=by
 refine (fun _:?a=Iu.step3 O [t0,t1] m=>?a) ?h
 case h=>conv=>{rhs; reduce; try dsimp only [au,ay,aF,aA]}
theorem ag8 (O:aB) (t0 t1:D):Iu.step2 O [t0,t1] m=Yk m O t0 t1:=(aG ..).trans (by kernel_rfl)
def Yp (O:aB) (t0 t1:D):RV:=by
 refine (fun _:?a=IK.step3 O [t0,t1] m=>?a) ?h
 case h=>conv=>{rhs; reduce; try dsimp only [au,ay,aF,aA]}
theorem ahf (O:aB) (t0 t1:D):IK.step2 O [t0,t1] m=Yp m O t0 t1:=(aG ..).trans (by kernel_rfl)
def Jb (O:aB) (t0 t1:D):RV:=by
 refine (fun _:?a=Ik.step3 O [t0,t1] m=>?a) ?h
 case h=>conv=>{rhs; reduce; try dsimp only [au,ay,aF,aA]}
theorem OZ (O:aB) (t0 t1:D):Ik.step2 O [t0,t1] m=Jb m O t0 t1:=(aG ..).trans (by kernel_rfl)
def Sv (O:aB) (t0 t1 t2 t3 t4 t5:D):RV:=by
 refine (fun _:?a=KD.step3 O [t0,t1,t2,t3,t4,t5] m=>?a) ?h
 case h=>conv=>{rhs; reduce; try dsimp only [au,ay,aF,aA]}
theorem aiB (O:aB) (t0 t1 t2 t3 t4 t5:D):KD.step2 O [t0,t1,t2,t3,t4,t5] m=Sv m O t0 t1 t2 t3 t4 t5:=(aG ..).trans (by kernel_rfl)
def BK (O:aB) (t0 t1:D):RV:=by
 refine (fun _:?a=KI.step3 O [t0,t1] m=>?a) ?h
 case h=>conv=>{rhs; reduce; try dsimp only [au,ay,aF,aA]}
theorem QL (O:aB) (t0 t1:D):KI.step2 O [t0,t1] m=BK m O t0 t1:=(aG ..).trans (by kernel_rfl)
def aem (O:aB) (t0 t1:D):RV:=by
 refine (fun _:?a=P6.step3 O [t0,t1] m=>?a) ?h
 case h=>conv=>{rhs; reduce; try dsimp only [au,ay,aF,aA]}
theorem amW (O:aB) (t0 t1:D):P6.step2 O [t0,t1] m=aem m O t0 t1:=(aG ..).trans (by kernel_rfl)
def LK (O:aB) (t0 t1:D):RV:=by
 refine (fun _:?a=wQ.step3 O [t0,t1] m=>?a) ?h
 case h=>conv=>{rhs; reduce; try dsimp only [au,ay,aF,aA]}
theorem W9 (O:aB) (t0 t1:D):wQ.step2 O [t0,t1] m=LK m O t0 t1:=(aG ..).trans (by kernel_rfl)
def MZ (O:aB) (t0:D):RV:=by
 refine (fun _:?a=F7.step3 O [t0] m=>?a) ?h
 case h=>conv=>{rhs; reduce; try dsimp only [au,ay,aF,aA]}
theorem aeC (O:aB) (t0:D):F7.step2 O [t0] m=MZ m O t0:=(aG ..).trans (by kernel_rfl)
def Po (O:aB) (t0 t1:D):RV:=by
 refine (fun _:?a=IL.step3 O [t0,t1] m=>?a) ?h
 case h=>conv=>{rhs; reduce; try dsimp only [au,ay,aF,aA]}
theorem ahg (O:aB) (t0 t1:D):IL.step2 O [t0,t1] m=Po m O t0 t1:=(aG ..).trans (by kernel_rfl)
def aki (O:aB) (t0:D):RV:=by
 refine (fun _:?a=Xo.step3 O [t0] m=>?a) ?h
 case h=>conv=>{rhs; reduce; try dsimp only [au,ay,aF,aA]}
theorem aqm (O:aB) (t0:D):Xo.step2 O [t0] m=aki m O t0:=(aG ..).trans (by kernel_rfl)
def O_ (O:aB) (t0 t1:D):RV:=by
 refine (fun _:?a=Io.step3 O [t0,t1] m=>?a) ?h
 case h=>conv=>{rhs; reduce; try dsimp only [au,ay,aF,aA]}
theorem ag4 (O:aB) (t0 t1:D):Io.step2 O [t0,t1] m=O_ m O t0 t1:=(aG ..).trans (by kernel_rfl)
def Yj (O:aB) (t0 t1:D):RV:=by
 refine (fun _:?a=Ip.step3 O [t0,t1] m=>?a) ?h
 case h=>conv=>{rhs; reduce; try dsimp only [au,ay,aF,aA]}
theorem ag5 (O:aB) (t0 t1:D):Ip.step2 O [t0,t1] m=Yj m O t0 t1:=(aG ..).trans (by kernel_rfl)
def Ym (O:aB) (t0 t1:D):RV:=by
 refine (fun _:?a=Iy.step3 O [t0,t1] m=>?a) ?h
 case h=>conv=>{rhs; reduce; try dsimp only [au,ay,aF,aA]}
theorem ag_ (O:aB) (t0 t1:D):Iy.step2 O [t0,t1] m=Ym m O t0 t1:=(aG ..).trans (by kernel_rfl)
def vS (O:aB) (t0 t1:D):RV:=by
 refine (fun _:?a=Ir.step3 O [t0,t1] m=>?a) ?h
 case h=>conv=>{rhs; reduce; try dsimp only [au,ay,aF,aA]}
theorem ag7 (O:aB) (t0 t1:D):Ir.step2 O [t0,t1] m=vS m O t0 t1:=(aG ..).trans (by kernel_rfl)
def Jc (O:aB) (t0 t1:D):RV:=by
 refine (fun _:?a=Iq.step3 O [t0,t1] m=>?a) ?h
 case h=>conv=>{rhs; reduce; try dsimp only [au,ay,aF,aA]}
theorem ag6 (O:aB) (t0 t1:D):Iq.step2 O [t0,t1] m=Jc m O t0 t1:=(aG ..).trans (by kernel_rfl)
def U0 (O:aB) (t0:D):RV:=by
 refine (fun _:?a=Uh.step3 O [t0] m=>?a) ?h
 case h=>conv=>{rhs; reduce; try dsimp only [au,ay,aF,aA]}
theorem afD (O:aB) (t0:D):Uh.step2 O [t0] m=U0 m O t0:=(aG ..).trans (by kernel_rfl)
def Sz (O:aB) (t0:D):RV:=by
 refine (fun _:?a=KE.step3 O [t0] m=>?a) ?h
 case h=>conv=>{rhs; reduce; try dsimp only [au,ay,aF,aA]}
theorem YU (O:aB) (t0:D):KE.step2 O [t0] m=Sz m O t0:=(aG ..).trans (by kernel_rfl)
def qR (O:aB) (t0 t1 t2:D):RV:=by
 refine (fun _:?a=NH.step3 O [t0,t1,t2] m=>?a) ?h
 case h=>conv=>{rhs; reduce; try dsimp only [au,ay,aF,aA]}
theorem DL (O:aB) (t0 t1 t2:D):NH.step2 O [t0,t1,t2] m=qR m O t0 t1 t2:=(aG ..).trans (by kernel_rfl)
def agF (O:aB) (t0 t1:D):RV:=by
 refine (fun _:?a=Ug.step3 O [t0,t1] m=>?a) ?h
 case h=>conv=>{rhs; reduce; try dsimp only [au,ay,aF,aA]}
theorem aos (O:aB) (t0 t1:D):Ug.step2 O [t0,t1] m=agF m O t0 t1:=(aG ..).trans (by kernel_rfl)
def MV (O:aB) (t0:D):RV:=by
 refine (fun _:?a=F5.step3 O [t0] m=>?a) ?h
 case h=>conv=>{rhs; reduce; try dsimp only [au,ay,aF,aA]}
theorem aeA (O:aB) (t0:D):F5.step2 O [t0] m=MV m O t0:=(aG ..).trans (by kernel_rfl)
def aaq (O:aB) (t0:D):RV:=by
 refine (fun _:?a=KG.step3 O [t0] m=>?a) ?h
 case h=>conv=>{rhs; reduce; try dsimp only [au,ay,aF,aA]}
theorem aiC (O:aB) (t0:D):KG.step2 O [t0] m=aaq m O t0:=(aG ..).trans (by kernel_rfl)
def kH (O:aB) (t0:D):RV:=by
 refine (fun _:?a=Uj.step3 O [t0] m=>?a) ?h
 case h=>conv=>{rhs; reduce; try dsimp only [au,ay,aF,aA]}
theorem afE (O:aB) (t0:D):Uj.step2 O [t0] m=kH m O t0:=(aG ..).trans (by kernel_rfl)
def Mc (O:aB) (t0:D):RV:=by
 refine (fun _:?a=yS.step3 O [t0] m=>?a) ?h
 case h=>conv=>{rhs; reduce; try dsimp only [au,ay,aF,aA]}
theorem YC (O:aB) (t0:D):yS.step2 O [t0] m=Mc m O t0:=(aG ..).trans (by kernel_rfl)
def FD (O:aB) (t0:D):RV:=by
 refine (fun _:?a=zM.step3 O [t0] m=>?a) ?h
 case h=>conv=>{rhs; reduce; try dsimp only [au,ay,aF,aA]}
theorem Y5 (O:aB) (t0:D):zM.step2 O [t0] m=FD m O t0:=(aG ..).trans (by kernel_rfl)
def Dl (O:aB) (t0 t1:D):RV:=by
 refine (fun _:?a=wS.step3 O [t0,t1] m=>?a) ?h
 case h=>conv=>{rhs; reduce; try dsimp only [au,ay,aF,aA]}
theorem W_ (O:aB) (t0 t1:D):wS.step2 O [t0,t1] m=Dl m O t0 t1:=(aG ..).trans (by kernel_rfl)
def Dn (O:aB) (t0:D):RV:=by
 refine (fun _:?a=CQ.step3 O [t0] m=>?a) ?h
 case h=>conv=>{rhs; reduce; try dsimp only [au,ay,aF,aA]}
theorem QN (O:aB) (t0:D):CQ.step2 O [t0] m=Dn m O t0:=(aG ..).trans (by kernel_rfl)
def bQ (O:aB) (t0:D):RV:=by
 refine (fun _:?a=wR.step3 O [t0] m=>?a) ?h
 case h=>conv=>{rhs; reduce; try dsimp only [au,ay,aF,aA]}
theorem nS (O:aB) (t0:D):wR.step2 O [t0] m=bQ m O t0:=(aG ..).trans (by kernel_rfl)
def L_ (O:aB) (t0:D):RV:=by
 refine (fun _:?a=yR.step3 O [t0] m=>?a) ?h
 case h=>conv=>{rhs; reduce; try dsimp only [au,ay,aF,aA]}
theorem YB (O:aB) (t0:D):yR.step2 O [t0] m=L_ m O t0:=(aG ..).trans (by kernel_rfl)
def L8 (O:aB) (t0 t1:D):RV:=by
 refine (fun _:?a=yP.step3 O [t0,t1] m=>?a) ?h
 case h=>conv=>{rhs; reduce; try dsimp only [au,ay,aF,aA]}
theorem Yz (O:aB) (t0 t1:D):yP.step2 O [t0,t1] m=L8 m O t0 t1:=(aG ..).trans (by kernel_rfl)
def OQ (O:aB) (t0 t1:D):RV:=by
 refine (fun _:?a=zJ.step3 O [t0,t1] m=>?a) ?h
 case h=>conv=>{rhs; reduce; try dsimp only [au,ay,aF,aA]}
theorem Y3 (O:aB) (t0 t1:D):zJ.step2 O [t0,t1] m=OQ m O t0 t1:=(aG ..).trans (by kernel_rfl)
def JV (O:aB) (t0:D):RV:=by
 refine (fun _:?a=uV.step3 O [t0] m=>?a) ?h
 case h=>conv=>{rhs; reduce; try dsimp only [au,ay,aF,aA]}
theorem VQ (O:aB) (t0:D):uV.step2 O [t0] m=JV m O t0:=(aG ..).trans (by kernel_rfl)
def OO (O:aB) (t0 t1:D):RV:=by
 refine (fun _:?a=zG.step3 O [t0,t1] m=>?a) ?h
 case h=>conv=>{rhs; reduce; try dsimp only [au,ay,aF,aA]}
theorem Y2 (O:aB) (t0 t1:D):zG.step2 O [t0,t1] m=OO m O t0 t1:=(aG ..).trans (by kernel_rfl)
def yU (O:aB) (t0 t1 t2 t3:D):RV:=by
 refine (fun _:?a=yM.step3 O [t0,t1,t2,t3] m=>?a) ?h
 case h=>conv=>{rhs; reduce; try dsimp only [au,ay,aF,aA]}
theorem Ea (O:aB) (t0 t1 t2 t3:D):yM.step2 O [t0,t1,t2,t3] m=yU m O t0 t1 t2 t3:=(aG ..).trans (by kernel_rfl)
def Ae (O:aB) (t0 t1:D):RV:=by
 refine (fun _:?a=zI.step3 O [t0,t1] m=>?a) ?h
 case h=>conv=>{rhs; reduce; try dsimp only [au,ay,aF,aA]}
theorem EH (O:aB) (t0 t1:D):zI.step2 O [t0,t1] m=Ae m O t0 t1:=(aG ..).trans (by kernel_rfl)
def L9 (O:aB) (t0 t1:D):RV:=by
 refine (fun _:?a=yQ.step3 O [t0,t1] m=>?a) ?h
 case h=>conv=>{rhs; reduce; try dsimp only [au,ay,aF,aA]}
theorem YA (O:aB) (t0 t1:D):yQ.step2 O [t0,t1] m=L9 m O t0 t1:=(aG ..).trans (by kernel_rfl)
def Bh (O:aB) (t0 t1:D):RV:=by
 refine (fun _:?a=AZ.step3 O [t0,t1] m=>?a) ?h
 case h=>conv=>{rhs; reduce; try dsimp only [au,ay,aF,aA]}
theorem GN (O:aB) (t0 t1:D):AZ.step2 O [t0,t1] m=Bh m O t0 t1:=(aG ..).trans (by kernel_rfl)
def LG (O:aB) (t0:D):RV:=by
 refine (fun _:?a=Ep.step3 O [t0] m=>?a) ?h
 case h=>conv=>{rhs; reduce; try dsimp only [au,ay,aF,aA]}
theorem Tc (O:aB) (t0:D):Ep.step2 O [t0] m=LG m O t0:=(aG ..).trans (by kernel_rfl)
def XU (O:aB) (t0:D):RV:=by
 refine (fun _:?a=PZ.step3 O [t0] m=>?a) ?h
 case h=>conv=>{rhs; reduce; try dsimp only [au,ay,aF,aA]}
theorem ac_ (O:aB) (t0:D):PZ.step2 O [t0] m=XU m O t0:=(aG ..).trans (by kernel_rfl)
def MS (O:aB) (t0:D):RV:=by
 refine (fun _:?a=FY.step3 O [t0] m=>?a) ?h
 case h=>conv=>{rhs; reduce; try dsimp only [au,ay,aF,aA]}
theorem aez (O:aB) (t0:D):FY.step2 O [t0] m=MS m O t0:=(aG ..).trans (by kernel_rfl)
def Sr (O:aB) (t0 t1 t2:D):RV:=by
 refine (fun _:?a=KC.step3 O [t0,t1,t2] m=>?a) ?h
 case h=>conv=>{rhs; reduce; try dsimp only [au,ay,aF,aA]}
theorem aiA (O:aB) (t0 t1 t2:D):KC.step2 O [t0,t1,t2] m=Sr m O t0 t1 t2:=(aG ..).trans (by kernel_rfl)
def SC (O:aB) (t0 t1:D):RV:=by
 refine (fun _:?a=KJ.step3 O [t0,t1] m=>?a) ?h
 case h=>conv=>{rhs; reduce; try dsimp only [au,ay,aF,aA]}
theorem aiE (O:aB) (t0 t1:D):KJ.step2 O [t0,t1] m=SC m O t0 t1:=(aG ..).trans (by kernel_rfl)
def abV (O:aB) (t0 t1:D):RV:=by
 refine (fun _:?a=NP.step3 O [t0,t1] m=>?a) ?h
 case h=>conv=>{rhs; reduce; try dsimp only [au,ay,aF,aA]}
theorem akN (O:aB) (t0 t1:D):NP.step2 O [t0,t1] m=abV m O t0 t1:=(aG ..).trans (by kernel_rfl)
def GH (O:aB) (t0:D):RV:=by
 refine (fun _:?a=sK.step3 O [t0] m=>?a) ?h
 case h=>conv=>{rhs; reduce; try dsimp only [au,ay,aF,aA]}
theorem SV (O:aB) (t0:D):sK.step2 O [t0] m=GH m O t0:=(aG ..).trans (by kernel_rfl)
def BR (O:aB) (t0:D):RV:=by
 refine (fun _:?a=Um.step3 O [t0] m=>?a) ?h
 case h=>conv=>{rhs; reduce; try dsimp only [au,ay,aF,aA]}
theorem afF (O:aB) (t0:D):Um.step2 O [t0] m=BR m O t0:=(aG ..).trans (by kernel_rfl)
def Pe (O:aB) (t0 t1:D):RV:=by
 refine (fun _:?a=Iz.step3 O [t0,t1] m=>?a) ?h
 case h=>conv=>{rhs; reduce; try dsimp only [au,ay,aF,aA]}
theorem ag' (O:aB) (t0 t1:D):Iz.step2 O [t0,t1] m=Pe m O t0 t1:=(aG ..).trans (by kernel_rfl)
def aar (O:aB) (t0 t1:D):RV:=by
 refine (fun _:?a=KH.step3 O [t0,t1] m=>?a) ?h
 case h=>conv=>{rhs; reduce; try dsimp only [au,ay,aF,aA]}
theorem aiD (O:aB) (t0 t1:D):KH.step2 O [t0,t1] m=aar m O t0 t1:=(aG ..).trans (by kernel_rfl)
def aek (O:aB) (t0 t1:D):RV:=by
 refine (fun _:?a=PY.step3 O [t0,t1] m=>?a) ?h
 case h=>conv=>{rhs; reduce; try dsimp only [au,ay,aF,aA]}
theorem amU (O:aB) (t0 t1:D):PY.step2 O [t0,t1] m=aek m O t0 t1:=(aG ..).trans (by kernel_rfl)
def O9 (O:aB) (t0 t1:D):RV:=by
 refine (fun _:?a=Ii.step3 O [t0,t1] m=>?a) ?h
 case h=>conv=>{rhs; reduce; try dsimp only [au,ay,aF,aA]}
theorem ag1 (O:aB) (t0 t1:D):Ii.step2 O [t0,t1] m=O9 m O t0 t1:=(aG ..).trans (by kernel_rfl)
def Yh (O:aB) (t0:D):RV:=by
 refine (fun _:?a=Ij.step3 O [t0] m=>?a) ?h
 case h=>conv=>{rhs; reduce; try dsimp only [au,ay,aF,aA]}
theorem ag2 (O:aB) (t0:D):Ij.step2 O [t0] m=Yh m O t0:=(aG ..).trans (by kernel_rfl)
def aap (O:aB) (t0:D):RV:=by
 refine (fun _:?a=Ui.step3 O [t0] m=>?a) ?h
 case h=>conv=>{rhs; reduce; try dsimp only [au,ay,aF,aA]}
theorem aot (O:aB) (t0:D):Ui.step2 O [t0] m=aap m O t0:=(aG ..).trans (by kernel_rfl)
def Vz (O:aB) (t0 t1:D):RV:=by
 refine (fun _:?a=NI.step3 O [t0,t1] m=>?a) ?h
 case h=>conv=>{rhs; reduce; try dsimp only [au,ay,aF,aA]}
theorem akL (O:aB) (t0 t1:D):NI.step2 O [t0,t1] m=Vz m O t0 t1:=(aG ..).trans (by kernel_rfl)
def aei (O:aB) (t0 t1:D):RV:=by
 refine (fun _:?a=PV.step3 O [t0,t1] m=>?a) ?h
 case h=>conv=>{rhs; reduce; try dsimp only [au,ay,aF,aA]}
theorem amS (O:aB) (t0 t1:D):PV.step2 O [t0,t1] m=aei m O t0 t1:=(aG ..).trans (by kernel_rfl)
def agG (O:aB) (t0:D):RV:=by
 refine (fun _:?a=Uk.step3 O [t0] m=>?a) ?h
 case h=>conv=>{rhs; reduce; try dsimp only [au,ay,aF,aA]}
theorem aou (O:aB) (t0:D):Uk.step2 O [t0] m=agG m O t0:=(aG ..).trans (by kernel_rfl)
def OU (O:aB) (t0:D):RV:=by
 refine (fun _:?a=zQ.step3 O [t0] m=>?a) ?h
 case h=>conv=>{rhs; reduce; try dsimp only [au,ay,aF,aA]}
theorem Y7 (O:aB) (t0:D):zQ.step2 O [t0] m=OU m O t0:=(aG ..).trans (by kernel_rfl)
def Af (O:aB) (t0:D):RV:=by
 refine (fun _:?a=zN.step3 O [t0] m=>?a) ?h
 case h=>conv=>{rhs; reduce; try dsimp only [au,ay,aF,aA]}
theorem Y6 (O:aB) (t0:D):zN.step2 O [t0] m=Af m O t0:=(aG ..).trans (by kernel_rfl)
def nJ (O:aB) (t0:D):RV:=by
 refine (fun _:?a=zH.step3 O [t0] m=>?a) ?h
 case h=>conv=>{rhs; reduce; try dsimp only [au,ay,aF,aA]}
theorem Oh (O:aB) (t0:D):zH.step2 O [t0] m=nJ m O t0:=(aG ..).trans (by kernel_rfl)
def He (O:aB) (t0 t1:D):RV:=by
 refine (fun _:?a=AV.step3 O [t0,t1] m=>?a) ?h
 case h=>conv=>{rhs; reduce; try dsimp only [au,ay,aF,aA]}
theorem Py (O:aB) (t0 t1:D):AV.step2 O [t0,t1] m=He m O t0 t1:=(aG ..).trans (by kernel_rfl)
end
noncomputable section
variable (O:aB) (b:Nat) (m:Mem)
def Js (t6 t7 t8 t9 t10 t26 t27 t28 t33 t34 t35:D):LoopV:=by
 refine (fun _:?a=bD O [6,7,8,9,10,26,27,28,33,34,35] [6,7,8,10,26,27,28] tC tC b [t6,t7,t8,t9,t10,t26,t27,t28,t33,t34,t35] m=>?a) ?h
 case h=>conv=>{rhs; conv=>{arg 5; delta tC}; reduce; try dsimp only [au,ay,aF,aA]}
theorem QG (t6 t7 t8 t9 t10 t26 t27 t28 t33 t34 t35:D):bC O [6,7,8,9,10,26,27,28,33,34,35] [6,7,8,10,26,27,28] tC b [t6,t7,t8,t9,t10,t26,t27,t28,t33,t34,t35] m=Js O b m t6 t7 t8 t9 t10 t26 t27 t28 t33 t34 t35:=(aV ..).trans (by kernel_rfl)
def Jt (t6 t7 t26 t27 t28:D):LoopV:=by
 refine (fun _:?a=bD O [6,7,26,27,28] [7] tH tH b [t6,t7,t26,t27,t28] m=>?a) ?h
 case h=>conv=>{rhs; conv=>{arg 5; delta tH}; reduce; try dsimp only [au,ay,aF,aA]}
theorem QH (t6 t7 t26 t27 t28:D):bC O [6,7,26,27,28] [7] tH b [t6,t7,t26,t27,t28] m=Jt O b m t6 t7 t26 t27 t28:=(aV ..).trans (by kernel_rfl)
def qg (t2 t3 t6 t7:D):LoopV:=by
 refine (fun _:?a=bD O [2,3,6,7] [4,5,6] iI iI b [t2,t3,t6,t7] m=>?a) ?h
 case h=>conv=>{rhs; conv=>{arg 5; delta iI}; reduce; try dsimp only [au,ay,aF,aA]}
theorem sU (t2 t3 t6 t7:D):bC O [2,3,6,7] [4,5,6] iI b [t2,t3,t6,t7] m=qg O b m t2 t3 t6 t7:=(aV ..).trans (by kernel_rfl)
def oD (t1 t2 t5:D):LoopV:=by
 refine (fun _:?a=bD O [1,2,5] [4] iU iU b [t1,t2,t5] m=>?a) ?h
 case h=>conv=>{rhs; conv=>{arg 5; delta iU}; reduce; try dsimp only [au,ay,aF,aA]}
theorem SS (t1 t2 t5:D):bC O [1,2,5] [4] iU b [t1,t2,t5] m=oD O b m t1 t2 t5:=(aV ..).trans (by kernel_rfl)
def lJ (t3 t4:D):LoopV:=by
 refine (fun _:?a=bD O [3,4] [3] lT lT b [t3,t4] m=>?a) ?h
 case h=>conv=>{rhs; conv=>{arg 5; delta lT}; reduce; try dsimp only [au,ay,aF,aA]}
theorem vW (t3 t4:D):bC O [3,4] [3] lT b [t3,t4] m=lJ O b m t3 t4:=(aV ..).trans (by kernel_rfl)
def Dc (t5 t6 t7 t8 t27 t28:D):LoopV:=by
 refine (fun _:?a=bD O [5,6,7,8,27,28] [5,7,8] qp qp b [t5,t6,t7,t8,t27,t28] m=>?a) ?h
 case h=>conv=>{rhs; conv=>{arg 5; delta qp}; reduce; try dsimp only [au,ay,aF,aA]}
theorem QF (t5 t6 t7 t8 t27 t28:D):bC O [5,6,7,8,27,28] [5,7,8] qp b [t5,t6,t7,t8,t27,t28] m=Dc O b m t5 t6 t7 t8 t27 t28:=(aV ..).trans (by kernel_rfl)
def Df (t6 t7 t8 t9 t25 t26:D):LoopV:=by
 refine (fun _:?a=bD O [6,7,8,9,25,26] [8] tJ tJ b [t6,t7,t8,t9,t25,t26] m=>?a) ?h
 case h=>conv=>{rhs; conv=>{arg 5; delta tJ}; reduce; try dsimp only [au,ay,aF,aA]}
theorem QI (t6 t7 t8 t9 t25 t26:D):bC O [6,7,8,9,25,26] [8] tJ b [t6,t7,t8,t9,t25,t26] m=Df O b m t6 t7 t8 t9 t25 t26:=(aV ..).trans (by kernel_rfl)
def SA (t1 t4 t5:D):LoopV:=by
 refine (fun _:?a=bD O [1,4,5] [4] CB CB b [t1,t4,t5] m=>?a) ?h
 case h=>conv=>{rhs; conv=>{arg 5; delta CB}; reduce; try dsimp only [au,ay,aF,aA]}
theorem YV (t1 t4 t5:D):bC O [1,4,5] [4] CB b [t1,t4,t5] m=SA O b m t1 t4 t5:=(aV ..).trans (by kernel_rfl)
def LC (t0 t2 t4:D):LoopV:=by
 refine (fun _:?a=bD O [0,2,4] [0,2,4] vJ vJ b [t0,t2,t4] m=>?a) ?h
 case h=>conv=>{rhs; conv=>{arg 5; delta vJ}; reduce; try dsimp only [au,ay,aF,aA]}
theorem S9 (t0 t2 t4:D):bC O [0,2,4] [0,2,4] vJ b [t0,t2,t4] m=LC O b m t0 t2 t4:=(aV ..).trans (by kernel_rfl)
def LD (t2 t4 t5:D):LoopV:=by
 refine (fun _:?a=bD O [2,4,5] [2,4,5] vK vK b [t2,t4,t5] m=>?a) ?h
 case h=>conv=>{rhs; conv=>{arg 5; delta vK}; reduce; try dsimp only [au,ay,aF,aA]}
theorem S_ (t2 t4 t5:D):bC O [2,4,5] [2,4,5] vK b [t2,t4,t5] m=LD O b m t2 t4 t5:=(aV ..).trans (by kernel_rfl)
def aao (t0 t6 t35 t36 t37:D):LoopV:=by
 refine (fun _:?a=bD O [0,6,35,36,37] [0,6] Cc Cc b [t0,t6,t35,t36,t37] m=>?a) ?h
 case h=>conv=>{rhs; conv=>{arg 5; delta Cc}; reduce; try dsimp only [au,ay,aF,aA]}
theorem aiz (t0 t6 t35 t36 t37:D):bC O [0,6,35,36,37] [0,6] Cc b [t0,t6,t35,t36,t37] m=aao O b m t0 t6 t35 t36 t37:=(aV ..).trans (by kernel_rfl)
def Sl (t6 t10 t11 t47 t48 t49:D):LoopV:=by
 refine (fun _:?a=bD O [6,10,11,47,48,49] [6,47,48,49] Ce Ce b [t6,t10,t11,t47,t48,t49] m=>?a) ?h
 case h=>conv=>{rhs; conv=>{arg 5; delta Ce}; reduce; try dsimp only [au,ay,aF,aA]}
theorem YS (t6 t10 t11 t47 t48 t49:D):bC O [6,10,11,47,48,49] [6,47,48,49] Ce b [t6,t10,t11,t47,t48,t49] m=Sl O b m t6 t10 t11 t47 t48 t49:=(aV ..).trans (by kernel_rfl)
def Sm (t6 t47 t48 t49:D):LoopV:=by
 refine (fun _:?a=bD O [6,47,48,49] [6] zo zo b [t6,t47,t48,t49] m=>?a) ?h
 case h=>conv=>{rhs; conv=>{arg 5; delta zo}; reduce; try dsimp only [au,ay,aF,aA]}
theorem YT (t6 t47 t48 t49:D):bC O [6,47,48,49] [6] zo b [t6,t47,t48,t49] m=Sm O b m t6 t47 t48 t49:=(aV ..).trans (by kernel_rfl)
def AL (t0 t2 t3:D):LoopV:=by
 refine (fun _:?a=bD O [0,2,3] [0,2,3] kS kS b [t0,t2,t3] m=>?a) ?h
 case h=>conv=>{rhs; conv=>{arg 5; delta kS}; reduce; try dsimp only [au,ay,aF,aA]}
theorem Ho (t0 t2 t3:D):bC O [0,2,3] [0,2,3] kS b [t0,t2,t3] m=AL O b m t0 t2 t3:=(aV ..).trans (by kernel_rfl)
def AO (t0 t2 t3:D):LoopV:=by
 refine (fun _:?a=bD O [0,2,3] [0,2,3] kT kT b [t0,t2,t3] m=>?a) ?h
 case h=>conv=>{rhs; conv=>{arg 5; delta kT}; reduce; try dsimp only [au,ay,aF,aA]}
theorem Hq (t0 t2 t3:D):bC O [0,2,3] [0,2,3] kT b [t0,t2,t3] m=AO O b m t0 t2 t3:=(aV ..).trans (by kernel_rfl)
def Ef (t1 t4 t5:D):LoopV:=by
 refine (fun _:?a=bD O [1,4,5] [1,4] oJ oJ b [t1,t4,t5] m=>?a) ?h
 case h=>conv=>{rhs; conv=>{arg 5; delta oJ}; reduce; try dsimp only [au,ay,aF,aA]}
theorem LX (t1 t4 t5:D):bC O [1,4,5] [1,4] oJ b [t1,t4,t5] m=Ef O b m t1 t4 t5:=(aV ..).trans (by kernel_rfl)
def Eh (t1 t4 t6:D):LoopV:=by
 refine (fun _:?a=bD O [1,4,6] [1,4] oK oK b [t1,t4,t6] m=>?a) ?h
 case h=>conv=>{rhs; conv=>{arg 5; delta oK}; reduce; try dsimp only [au,ay,aF,aA]}
theorem LY (t1 t4 t6:D):bC O [1,4,6] [1,4] oK b [t1,t4,t6] m=Eh O b m t1 t4 t6:=(aV ..).trans (by kernel_rfl)
def sO (t0 t2 t5 t6 t7:D):LoopV:=by
 refine (fun _:?a=bD O [0,2,5,6,7] [0,2,5,6,7] fQ fQ b [t0,t2,t5,t6,t7] m=>?a) ?h
 case h=>conv=>{rhs; conv=>{arg 5; delta fQ}; reduce; try dsimp only [au,ay,aF,aA]}
theorem Gy (t0 t2 t5 t6 t7:D):bC O [0,2,5,6,7] [0,2,5,6,7] fQ b [t0,t2,t5,t6,t7] m=sO O b m t0 t2 t5 t6 t7:=(aV ..).trans (by kernel_rfl)
def kK (t2 t5 t6 t8 t9 t11:D):LoopV:=by
 refine (fun _:?a=bD O [2,5,6,8,9,11] [2,3,4,6,8,9] dN dN b [t2,t5,t6,t8,t9,t11] m=>?a) ?h
 case h=>conv=>{rhs; conv=>{arg 5; delta dN}; reduce; try dsimp only [au,ay,aF,aA]}
theorem sH (t2 t5 t6 t8 t9 t11:D):bC O [2,5,6,8,9,11] [2,3,4,6,8,9] dN b [t2,t5,t6,t8,t9,t11] m=kK O b m t2 t5 t6 t8 t9 t11:=(aV ..).trans (by kernel_rfl)
def lD (t2 t3 t4 t5 t8 t12 t13:D):LoopV:=by
 refine (fun _:?a=bD O [2,3,4,5,8,12,13] [8,9,12] eP eP b [t2,t3,t4,t5,t8,t12,t13] m=>?a) ?h
 case h=>conv=>{rhs; conv=>{arg 5; delta eP}; reduce; try dsimp only [au,ay,aF,aA]}
theorem oV (t2 t3 t4 t5 t8 t12 t13:D):bC O [2,3,4,5,8,12,13] [8,9,12] eP b [t2,t3,t4,t5,t8,t12,t13] m=lD O b m t2 t3 t4 t5 t8 t12 t13:=(aV ..).trans (by kernel_rfl)
def wW (t0 t1 t5 t6 t7 t8:D):LoopV:=by
 refine (fun _:?a=bD O [0,1,5,6,7,8] [0,1,5,6] kF kF b [t0,t1,t5,t6,t7,t8] m=>?a) ?h
 case h=>conv=>{rhs; conv=>{arg 5; delta kF}; reduce; try dsimp only [au,ay,aF,aA]}
theorem BZ (t0 t1 t5 t6 t7 t8:D):bC O [0,1,5,6,7,8] [0,1,5,6] kF b [t0,t1,t5,t6,t7,t8] m=wW O b m t0 t1 t5 t6 t7 t8:=(aV ..).trans (by kernel_rfl)
def Di (t0 t1 t5 t6:D):LoopV:=by
 refine (fun _:?a=bD O [0,1,5,6] [5] mZ mZ b [t0,t1,t5,t6] m=>?a) ?h
 case h=>conv=>{rhs; conv=>{arg 5; delta mZ}; reduce; try dsimp only [au,ay,aF,aA]}
theorem J7 (t0 t1 t5 t6:D):bC O [0,1,5,6] [5] mZ b [t0,t1,t5,t6] m=Di O b m t0 t1 t5 t6:=(aV ..).trans (by kernel_rfl)
def vT (t0:D):LoopV:=by
 refine (fun _:?a=bD O [0] [0] qL qL b [t0] m=>?a) ?h
 case h=>conv=>{rhs; conv=>{arg 5; delta qL}; reduce; try dsimp only [au,ay,aF,aA]}
theorem Ia (t0:D):bC O [0] [0] qL b [t0] m=vT O b m t0:=(aV ..).trans (by kernel_rfl)
def vC (t1 t2 t6:D):LoopV:=by
 refine (fun _:?a=bD O [1,2,6] [4,5] rZ rZ b [t1,t2,t6] m=>?a) ?h
 case h=>conv=>{rhs; conv=>{arg 5; delta rZ}; reduce; try dsimp only [au,ay,aF,aA]}
theorem ac' (t1 t2 t6:D):bC O [1,2,6] [4,5] rZ b [t1,t2,t6] m=vC O b m t1 t2 t6:=(aV ..).trans (by kernel_rfl)
def Na (t0 t1 t6 t7 t8:D):LoopV:=by
 refine (fun _:?a=bD O [0,1,6,7,8] [6,7] yw yw b [t0,t1,t6,t7,t8] m=>?a) ?h
 case h=>conv=>{rhs; conv=>{arg 5; delta yw}; reduce; try dsimp only [au,ay,aF,aA]}
theorem VN (t0 t1 t6 t7 t8:D):bC O [0,1,6,7,8] [6,7] yw b [t0,t1,t6,t7,t8] m=Na O b m t0 t1 t6 t7 t8:=(aV ..).trans (by kernel_rfl)
def vV (t0 t2 t3:D):LoopV:=by
 refine (fun _:?a=bD O [0,2,3] [] fM fM b [t0,t2,t3] m=>?a) ?h
 case h=>conv=>{rhs; conv=>{arg 5; delta fM}; reduce; try dsimp only [au,ay,aF,aA]}
theorem Du (t0 t2 t3:D):bC O [0,2,3] [] fM b [t0,t2,t3] m=vV O b m t0 t2 t3:=(aV ..).trans (by kernel_rfl)
def SB (t0 t5 t6 t7:D):LoopV:=by
 refine (fun _:?a=bD O [0,5,6,7] [5] uq uq b [t0,t5,t6,t7] m=>?a) ?h
 case h=>conv=>{rhs; conv=>{arg 5; delta uq}; reduce; try dsimp only [au,ay,aF,aA]}
theorem YW (t0 t5 t6 t7:D):bC O [0,5,6,7] [5] uq b [t0,t5,t6,t7] m=SB O b m t0 t5 t6 t7:=(aV ..).trans (by kernel_rfl)
def yI (t0 t1 t5:D):LoopV:=by
 refine (fun _:?a=bD O [0,1,5] [4] tK tK b [t0,t1,t5] m=>?a) ?h
 case h=>conv=>{rhs; conv=>{arg 5; delta tK}; reduce; try dsimp only [au,ay,aF,aA]}
theorem QJ (t0 t1 t5:D):bC O [0,1,5] [4] tK b [t0,t1,t5] m=yI O b m t0 t1 t5:=(aV ..).trans (by kernel_rfl)
def Aa (t0 t1 t5:D):LoopV:=by
 refine (fun _:?a=bD O [0,1,5] [4] rY rY b [t0,t1,t5] m=>?a) ?h
 case h=>conv=>{rhs; conv=>{arg 5; delta rY}; reduce; try dsimp only [au,ay,aF,aA]}
theorem Ei (t0 t1 t5:D):bC O [0,1,5] [4] rY b [t0,t1,t5] m=Aa O b m t0 t1 t5:=(aV ..).trans (by kernel_rfl)
def Je (t1 t6 t7 t8 t9 t10 t11 t12:D):LoopV:=by
 refine (fun _:?a=bD O [1,6,7,8,9,10,11,12] [1,6,7,8,9,10] uy uy b [t1,t6,t7,t8,t9,t10,t11,t12] m=>?a) ?h
 case h=>conv=>{rhs; conv=>{arg 5; delta uy}; reduce; try dsimp only [au,ay,aF,aA]}
theorem O0 (t1 t6 t7 t8 t9 t10 t11 t12:D):bC O [1,6,7,8,9,10,11,12] [1,6,7,8,9,10] uy b [t1,t6,t7,t8,t9,t10,t11,t12] m=Je O b m t1 t6 t7 t8 t9 t10 t11 t12:=(aV ..).trans (by kernel_rfl)
def Pg (t1 t6 t7 t8 t9 t10:D):LoopV:=by
 refine (fun _:?a=bD O [1,6,7,8,9,10] [1,6,7,9] Aq Aq b [t1,t6,t7,t8,t9,t10] m=>?a) ?h
 case h=>conv=>{rhs; conv=>{arg 5; delta Aq}; reduce; try dsimp only [au,ay,aF,aA]}
theorem X8 (t1 t6 t7 t8 t9 t10:D):bC O [1,6,7,8,9,10] [1,6,7,9] Aq b [t1,t6,t7,t8,t9,t10] m=Pg O b m t1 t6 t7 t8 t9 t10:=(aV ..).trans (by kernel_rfl)
def Ph (t6 t7 t9 t13 t86 t87:D):LoopV:=by
 refine (fun _:?a=bD O [6,7,9,13,86,87] [9,13] Ar Ar b [t6,t7,t9,t13,t86,t87] m=>?a) ?h
 case h=>conv=>{rhs; conv=>{arg 5; delta Ar}; reduce; try dsimp only [au,ay,aF,aA]}
theorem X9 (t6 t7 t9 t13 t86 t87:D):bC O [6,7,9,13,86,87] [9,13] Ar b [t6,t7,t9,t13,t86,t87] m=Ph O b m t6 t7 t9 t13 t86 t87:=(aV ..).trans (by kernel_rfl)
def h_ (t0 t4 t5 t6 t7:D):LoopV:=by
 refine (fun _:?a=bD O [0,4,5,6,7] [0,2,3,4,5,6] iq iq b [t0,t4,t5,t6,t7] m=>?a) ?h
 case h=>conv=>{rhs; conv=>{arg 5; delta iq}; reduce; try dsimp only [au,ay,aF,aA]}
theorem Bl (t0 t4 t5 t6 t7:D):bC O [0,4,5,6,7] [0,2,3,4,5,6] iq b [t0,t4,t5,t6,t7] m=h_ O b m t0 t4 t5 t6 t7:=(aV ..).trans (by kernel_rfl)
def jX (t0 t4 t5:D):LoopV:=by
 refine (fun _:?a=bD O [0,4,5] [2,3,4] fD fD b [t0,t4,t5] m=>?a) ?h
 case h=>conv=>{rhs; conv=>{arg 5; delta fD}; reduce; try dsimp only [au,ay,aF,aA]}
theorem Bo (t0 t4 t5:D):bC O [0,4,5] [2,3,4] fD b [t0,t4,t5] m=jX O b m t0 t4 t5:=(aV ..).trans (by kernel_rfl)
def fJ (t0 t1 t5 t6 t7:D):LoopV:=by
 refine (fun _:?a=bD O [0,1,5,6,7] [5] gQ gQ b [t0,t1,t5,t6,t7] m=>?a) ?h
 case h=>conv=>{rhs; conv=>{arg 5; delta gQ}; reduce; try dsimp only [au,ay,aF,aA]}
theorem gG (t0 t1 t5 t6 t7:D):bC O [0,1,5,6,7] [5] gQ b [t0,t1,t5,t6,t7] m=fJ O b m t0 t1 t5 t6 t7:=(aV ..).trans (by kernel_rfl)
end
end Go.Ev.Code
end
section
namespace Go.Ev.Code
open Go Go.Ev
set_option maxRecDepth 100000
attribute [local irreducible] XC ZX bd jn Wi Nq gc gop LQ OW MB fz lG hdI tlI List.length List.append Ez aaf Qj Z8 OE DC OH Lc Fp OG Z9 UM Le gI vg Gs aac Vs Vr Z_ acT acV aag acW aah UN UQ Qh aai RP Qd I9 Fj Qe aae aad UO La rMn rMx XP zZ vY K_ XQ Qi Ld N8 Qk NZ Qg acU
attribute [local irreducible] kN kD pR pU dY oN yZ jZ jU lC C_ kQ gK vZ tV DV DY DI wC nV nN nM DX mP jl kE iQ w_ EK FP yj nR dI dG bZ dh qM Gp xu qO OD mM lV jC zS jo jS yD slices_Reverse_int iw uK lu qJ Dz dB jT iG Fg rP H6 Fv WI wE EM EN zq kX uS t_ gW zX fB fA iR dR jL jD lX jJ BO qN bW fV jd jA uz Am wK rD yG mV jR uF Qy ji jw lg oZ Fe qK jy Az xK gZ qo y7 FU RY sS wz ES xX fF Wp wV Jf y5 gB pX fC og mX iy lI ny jI iL lH m_ gu iK dF bits_Mul64 bits_Add64 gJ xY Cj C9 dS zW gX strings_Repeat slices_Reverse_string strings_Join strings_Cut Wv oU o7 bits_Sub64 zU Jq jv ug JF BP iJ JD Jl kL JE EW xH Gu wB Aj strings_CutPrefix nK jE JI kU nG mY j_ f_ oP n_ pV fG pY oO lW kR iT wJ iW CW DW nat_bit E_ bits_LeadingZeros64 CV E8 Fa E5 EP lY nO rJ Rn EX Ou Ov wo uw EZ strconv_Itoa oI pW bits_TrailingZeros64 MG Kw JJ Dy wu rX Dx KN xq JK vN JL rO BA jg lF eU jY lN Dt hndB gU ni mW nC kG jK rU rV xE zV xC xB uO yx yu BM GI qw UD Wn Zw Zx
noncomputable section
variable (m:Mem)
def Bj (O:aB) (t0:D):RV:=by
 refine (fun _:?a=A8.step3 O [t0] m=>?a) ?h
 case h=>conv=>{rhs; reduce; try dsimp only [au,ay,aF,aA]}
theorem GR (O:aB) (t0:D):A8.step2 O [t0] m=Bj m O t0:=(aG ..).trans (by kernel_rfl)
def PI (O:aB) (t0 t1:D):RV:=by
 refine (fun _:?a=A_.step3 O [t0,t1] m=>?a) ?h
 case h=>conv=>{rhs; reduce; try dsimp only [au,ay,aF,aA]}
theorem aa4 (O:aB) (t0 t1:D):A_.step2 O [t0,t1] m=PI m O t0 t1:=(aG ..).trans (by kernel_rfl)
def Ju (O:aB) (t0:D):RV:=by
 refine (fun _:?a=CO.step3 O [t0] m=>?a) ?h
 case h=>conv=>{rhs; reduce; try dsimp only [au,ay,aF,aA]}
theorem QM (O:aB) (t0:D):CO.step2 O [t0] m=Ju m O t0:=(aG ..).trans (by kernel_rfl)
def Ad (O:aB) (t0 t1:D):RV:=by
 refine (fun _:?a=zF.step3 O [t0,t1] m=>?a) ?h
 case h=>conv=>{rhs; reduce; try dsimp only [au,ay,aF,aA]}
theorem Y1 (O:aB) (t0 t1:D):zF.step2 O [t0,t1] m=Ad m O t0 t1:=(aG ..).trans (by kernel_rfl)
def Bg (O:aB) (t0 t1:D):RV:=by
 refine (fun _:?a=AY.step3 O [t0,t1] m=>?a) ?h
 case h=>conv=>{rhs; reduce; try dsimp only [au,ay,aF,aA]}
theorem GL (O:aB) (t0 t1:D):AY.step2 O [t0,t1] m=Bg m O t0 t1:=(aG ..).trans (by kernel_rfl)
def FH (O:aB) (t0 t1 t2 t3 t4 t5:D):RV:=by
 refine (fun _:?a=zO.step3 O [t0,t1,t2,t3,t4,t5] m=>?a) ?h
 case h=>conv=>{rhs; reduce; try dsimp only [au,ay,aF,aA]}
theorem Oj (O:aB) (t0 t1 t2 t3 t4 t5:D):zO.step2 O [t0,t1,t2,t3,t4,t5] m=FH m O t0 t1 t2 t3 t4 t5:=(aG ..).trans (by kernel_rfl)
def rQ (O:aB) (t0 t1:D):RV:=by
 refine (fun _:?a=AX.step3 O [t0,t1] m=>?a) ?h
 case h=>conv=>{rhs; reduce; try dsimp only [au,ay,aF,aA]}
theorem aa3 (O:aB) (t0 t1:D):AX.step2 O [t0,t1] m=rQ m O t0 t1:=(aG ..).trans (by kernel_rfl)
def Hf (O:aB) (t0 t1:D):RV:=by
 refine (fun _:?a=Ba.step3 O [t0,t1] m=>?a) ?h
 case h=>conv=>{rhs; reduce; try dsimp only [au,ay,aF,aA]}
theorem Pz (O:aB) (t0 t1:D):Ba.step2 O [t0,t1] m=Hf m O t0 t1:=(aG ..).trans (by kernel_rfl)
def OT (O:aB) (t0:D):RV:=by
 refine (fun _:?a=zK.step3 O [t0] m=>?a) ?h
 case h=>conv=>{rhs; reduce; try dsimp only [au,ay,aF,aA]}
theorem Y4 (O:aB) (t0:D):zK.step2 O [t0] m=OT m O t0:=(aG ..).trans (by kernel_rfl)
def Si (O:aB) (t0 t1 t2:D):RV:=by
 refine (fun _:?a=Ky.step3 O [t0,t1,t2] m=>?a) ?h
 case h=>conv=>{rhs; reduce; try dsimp only [au,ay,aF,aA]}
theorem aiw (O:aB) (t0 t1 t2:D):Ky.step2 O [t0,t1,t2] m=Si m O t0 t1 t2:=(aG ..).trans (by kernel_rfl)
def ael (O:aB) (t0:D):RV:=by
 refine (fun _:?a=P5.step3 O [t0] m=>?a) ?h
 case h=>conv=>{rhs; reduce; try dsimp only [au,ay,aF,aA]}
theorem amV (O:aB) (t0:D):P5.step2 O [t0] m=ael m O t0:=(aG ..).trans (by kernel_rfl)
def agI (O:aB) (t0:D):RV:=by
 refine (fun _:?a=Uo.step3 O [t0] m=>?a) ?h
 case h=>conv=>{rhs; reduce; try dsimp only [au,ay,aF,aA]}
theorem aow (O:aB) (t0:D):Uo.step2 O [t0] m=agI m O t0:=(aG ..).trans (by kernel_rfl)
def agH (O:aB) (t0:D):RV:=by
 refine (fun _:?a=Un.step3 O [t0] m=>?a) ?h
 case h=>conv=>{rhs; reduce; try dsimp only [au,ay,aF,aA]}
theorem aov (O:aB) (t0:D):Un.step2 O [t0] m=agH m O t0:=(aG ..).trans (by kernel_rfl)
def aej (O:aB) (t0 t1:D):RV:=by
 refine (fun _:?a=PX.step3 O [t0,t1] m=>?a) ?h
 case h=>conv=>{rhs; reduce; try dsimp only [au,ay,aF,aA]}
theorem amT (O:aB) (t0 t1:D):PX.step2 O [t0,t1] m=aej m O t0 t1:=(aG ..).trans (by kernel_rfl)
def XT (O:aB) (t0 t1:D):RV:=by
 refine (fun _:?a=PW.step3 O [t0,t1] m=>?a) ?h
 case h=>conv=>{rhs; reduce; try dsimp only [au,ay,aF,aA]}
theorem ac9 (O:aB) (t0 t1:D):PW.step2 O [t0,t1] m=XT m O t0 t1:=(aG ..).trans (by kernel_rfl)
def VA (O:aB) (t0 t1:D):RV:=by
 refine (fun _:?a=NK.step3 O [t0,t1] m=>?a) ?h
 case h=>conv=>{rhs; reduce; try dsimp only [au,ay,aF,aA]}
theorem abn (O:aB) (t0 t1:D):NK.step2 O [t0,t1] m=VA m O t0 t1:=(aG ..).trans (by kernel_rfl)
def VB (O:aB) (t0 t1 t2:D):RV:=by
 refine (fun _:?a=NQ.step3 O [t0,t1,t2] m=>?a) ?h
 case h=>conv=>{rhs; reduce; try dsimp only [au,ay,aF,aA]}
theorem akO (O:aB) (t0 t1 t2:D):NQ.step2 O [t0,t1,t2] m=VB m O t0 t1 t2:=(aG ..).trans (by kernel_rfl)
def abU (O:aB) (t0 t1:D):RV:=by
 refine (fun _:?a=NJ.step3 O [t0,t1] m=>?a) ?h
 case h=>conv=>{rhs; reduce; try dsimp only [au,ay,aF,aA]}
theorem akM (O:aB) (t0 t1:D):NJ.step2 O [t0,t1] m=abU m O t0 t1:=(aG ..).trans (by kernel_rfl)
def H7 (O:aB) (t0:D):RV:=by
 refine (fun _:?a=Nz.step3 O [t0] m=>?a) ?h
 case h=>conv=>{rhs; reduce; try dsimp only [au,ay,aF,aA]}
theorem akJ (O:aB) (t0:D):Nz.step2 O [t0] m=H7 m O t0:=(aG ..).trans (by kernel_rfl)
def Yi (O:aB) (t0 t1 t2:D):RV:=by
 refine (fun _:?a=Il.step3 O [t0,t1,t2] m=>?a) ?h
 case h=>conv=>{rhs; reduce; try dsimp only [au,ay,aF,aA]}
theorem ag3 (O:aB) (t0 t1 t2:D):Il.step2 O [t0,t1,t2] m=Yi m O t0 t1 t2:=(aG ..).trans (by kernel_rfl)
def Yl (O:aB) (t0 t1:D):RV:=by
 refine (fun _:?a=Iw.step3 O [t0,t1] m=>?a) ?h
 case h=>conv=>{rhs; reduce; try dsimp only [au,ay,aF,aA]}
theorem ag9 (O:aB) (t0 t1:D):Iw.step2 O [t0,t1] m=Yl m O t0 t1:=(aG ..).trans (by kernel_rfl)
def L6 (O:aB) (t0:D):RV:=by
 refine (fun _:?a=yO.step3 O [t0] m=>?a) ?h
 case h=>conv=>{rhs; reduce; try dsimp only [au,ay,aF,aA]}
theorem Yy (O:aB) (t0:D):yO.step2 O [t0] m=L6 m O t0:=(aG ..).trans (by kernel_rfl)
def FB (O:aB) (t0 t1 t2:D):RV:=by
 refine (fun _:?a=zL.step3 O [t0,t1,t2] m=>?a) ?h
 case h=>conv=>{rhs; reduce; try dsimp only [au,ay,aF,aA]}
theorem Oi (O:aB) (t0 t1 t2:D):zL.step2 O [t0,t1,t2] m=FB m O t0 t1 t2:=(aG ..).trans (by kernel_rfl)
end
noncomputable section
variable (O:aB) (b:Nat) (m:Mem)
def jq (t0 t3:D):LoopV:=by
 refine (fun _:?a=bD O [0,3] [3] gU gU b [t0,t3] m=>?a) ?h
 case h=>conv=>{rhs; conv=>{arg 5; delta gU}; reduce; try dsimp only [au,ay,aF,aA]}
theorem kM (t0 t3:D):bC O [0,3] [3] gU b [t0,t3] m=jq O b m t0 t3:=(aV ..).trans (by kernel_rfl)
def Dj (t0 t1 t5 t6:D):LoopV:=by
 refine (fun _:?a=bD O [0,1,5,6] [5] ni ni b [t0,t1,t5,t6] m=>?a) ?h
 case h=>conv=>{rhs; conv=>{arg 5; delta ni}; reduce; try dsimp only [au,ay,aF,aA]}
theorem J8 (t0 t1 t5 t6:D):bC O [0,1,5,6] [5] ni b [t0,t1,t5,t6] m=Dj O b m t0 t1 t5 t6:=(aV ..).trans (by kernel_rfl)
def rG (t0 t1 t5:D):LoopV:=by
 refine (fun _:?a=bD O [0,1,5] [4] mW mW b [t0,t1,t5] m=>?a) ?h
 case h=>conv=>{rhs; conv=>{arg 5; delta mW}; reduce; try dsimp only [au,ay,aF,aA]}
theorem J6 (t0 t1 t5:D):bC O [0,1,5] [4] mW b [t0,t1,t5] m=rG O b m t0 t1 t5:=(aV ..).trans (by kernel_rfl)
def Dk (t1 t5 t6 t7:D):LoopV:=by
 refine (fun _:?a=bD O [1,5,6,7] [1,5,6,7] nC nC b [t1,t5,t6,t7] m=>?a) ?h
 case h=>conv=>{rhs; conv=>{arg 5; delta nC}; reduce; try dsimp only [au,ay,aF,aA]}
theorem J9 (t1 t5 t6 t7:D):bC O [1,5,6,7] [1,5,6,7] nC b [t1,t5,t6,t7] m=Dk O b m t1 t5 t6 t7:=(aV ..).trans (by kernel_rfl)
def rH (t1 t5 t6:D):LoopV:=by
 refine (fun _:?a=bD O [1,5,6] [5] kG kG b [t1,t5,t6] m=>?a) ?h
 case h=>conv=>{rhs; conv=>{arg 5; delta kG}; reduce; try dsimp only [au,ay,aF,aA]}
theorem wI (t1 t5 t6:D):bC O [1,5,6] [5] kG b [t1,t5,t6] m=rH O b m t1 t5 t6:=(aV ..).trans (by kernel_rfl)
def vF (t0:D):LoopV:=by
 refine (fun _:?a=bD O [0] [0] jK jK b [t0] m=>?a) ?h
 case h=>conv=>{rhs; conv=>{arg 5; delta jK}; reduce; try dsimp only [au,ay,aF,aA]}
theorem Jz (t0:D):bC O [0] [0] jK b [t0] m=vF O b m t0:=(aV ..).trans (by kernel_rfl)
def vk (t2 t8 t9 t10 t11 t13 t14 t15 t16:D):LoopV:=by
 refine (fun _:?a=bD O [2,8,9,10,11,13,14,15,16] [2,8,9,10,11,13,14,15] rU rU b [t2,t8,t9,t10,t11,t13,t14,t15,t16] m=>?a) ?h
 case h=>conv=>{rhs; conv=>{arg 5; delta rU}; reduce; try dsimp only [au,ay,aF,aA]}
theorem ac6 (t2 t8 t9 t10 t11 t13 t14 t15 t16:D):bC O [2,8,9,10,11,13,14,15,16] [2,8,9,10,11,13,14,15] rU b [t2,t8,t9,t10,t11,t13,t14,t15,t16] m=vk O b m t2 t8 t9 t10 t11 t13 t14 t15 t16:=(aV ..).trans (by kernel_rfl)
def vw (t2 t8 t9 t10 t14 t15 t16 t17 t18:D):LoopV:=by
 refine (fun _:?a=bD O [2,8,9,10,14,15,16,17,18] [2,8,14,15,17,18] rV rV b [t2,t8,t9,t10,t14,t15,t16,t17,t18] m=>?a) ?h
 case h=>conv=>{rhs; conv=>{arg 5; delta rV}; reduce; try dsimp only [au,ay,aF,aA]}
theorem ac7 (t2 t8 t9 t10 t14 t15 t16 t17 t18:D):bC O [2,8,9,10,14,15,16,17,18] [2,8,14,15,17,18] rV b [t2,t8,t9,t10,t14,t15,t16,t17,t18] m=vw O b m t2 t8 t9 t10 t14 t15 t16 t17 t18:=(aV ..).trans (by kernel_rfl)
def Pj (t0 t3:D):LoopV:=by
 refine (fun _:?a=bD O [0,3] [0,3] xE xE b [t0,t3] m=>?a) ?h
 case h=>conv=>{rhs; conv=>{arg 5; delta xE}; reduce; try dsimp only [au,ay,aF,aA]}
theorem X_ (t0 t3:D):bC O [0,3] [0,3] xE b [t0,t3] m=Pj O b m t0 t3:=(aV ..).trans (by kernel_rfl)
def LH (t0 t3 t14 t15:D):LoopV:=by
 refine (fun _:?a=bD O [0,3,14,15] [0] zV zV b [t0,t3,t14,t15] m=>?a) ?h
 case h=>conv=>{rhs; conv=>{arg 5; delta zV}; reduce; try dsimp only [au,ay,aF,aA]}
theorem YX (t0 t3 t14 t15:D):bC O [0,3,14,15] [0] zV b [t0,t3,t14,t15] m=LH O b m t0 t3 t14 t15:=(aV ..).trans (by kernel_rfl)
def Jd (t0 t1 t5 t9 t10:D):LoopV:=by
 refine (fun _:?a=bD O [0,1,5,9,10] [0] xC xC b [t0,t1,t5,t9,t10] m=>?a) ?h
 case h=>conv=>{rhs; conv=>{arg 5; delta xC}; reduce; try dsimp only [au,ay,aF,aA]}
theorem X7 (t0 t1 t5 t9 t10:D):bC O [0,1,5,9,10] [0] xC b [t0,t1,t5,t9,t10] m=Jd O b m t0 t1 t5 t9 t10:=(aV ..).trans (by kernel_rfl)
def DJ (t1 t5 t12 t13 t14:D):LoopV:=by
 refine (fun _:?a=bD O [1,5,12,13,14] [5] xB xB b [t1,t5,t12,t13,t14] m=>?a) ?h
 case h=>conv=>{rhs; conv=>{arg 5; delta xB}; reduce; try dsimp only [au,ay,aF,aA]}
theorem H_ (t1 t5 t12 t13 t14:D):bC O [1,5,12,13,14] [5] xB b [t1,t5,t12,t13,t14] m=DJ O b m t1 t5 t12 t13 t14:=(aV ..).trans (by kernel_rfl)
def oq (t0 t5 t6 t7 t8 t9:D):LoopV:=by
 refine (fun _:?a=bD O [0,5,6,7,8,9] [4] uO uO b [t0,t5,t6,t7,t8,t9] m=>?a) ?h
 case h=>conv=>{rhs; conv=>{arg 5; delta uO}; reduce; try dsimp only [au,ay,aF,aA]}
theorem FN (t0 t5 t6 t7 t8 t9:D):bC O [0,5,6,7,8,9] [4] uO b [t0,t5,t6,t7,t8,t9] m=oq O b m t0 t5 t6 t7 t8 t9:=(aV ..).trans (by kernel_rfl)
def Nb (t0 t1 t2 t7 t8 t14 t15 t16:D):LoopV:=by
 refine (fun _:?a=bD O [0,1,2,7,8,14,15,16] [0,1,7,8] yx yx b [t0,t1,t2,t7,t8,t14,t15,t16] m=>?a) ?h
 case h=>conv=>{rhs; conv=>{arg 5; delta yx}; reduce; try dsimp only [au,ay,aF,aA]}
theorem VO (t0 t1 t2 t7 t8 t14 t15 t16:D):bC O [0,1,2,7,8,14,15,16] [0,1,7,8] yx b [t0,t1,t2,t7,t8,t14,t15,t16] m=Nb O b m t0 t1 t2 t7 t8 t14 t15 t16:=(aV ..).trans (by kernel_rfl)
def M_ (t0 t1 t4 t7 t8 t9:D):LoopV:=by
 refine (fun _:?a=bD O [0,1,4,7,8,9] [0,1,4] yu yu b [t0,t1,t4,t7,t8,t9] m=>?a) ?h
 case h=>conv=>{rhs; conv=>{arg 5; delta yu}; reduce; try dsimp only [au,ay,aF,aA]}
theorem VL (t0 t1 t4 t7 t8 t9:D):bC O [0,1,4,7,8,9] [0,1,4] yu b [t0,t1,t4,t7,t8,t9] m=M_ O b m t0 t1 t4 t7 t8 t9:=(aV ..).trans (by kernel_rfl)
def yH (t1 t5 t6:D):LoopV:=by
 refine (fun _:?a=bD O [1,5,6] [5] qw qw b [t1,t5,t6] m=>?a) ?h
 case h=>conv=>{rhs; conv=>{arg 5; delta qw}; reduce; try dsimp only [au,ay,aF,aA]}
theorem BX (t1 t5 t6:D):bC O [1,5,6] [5] qw b [t1,t5,t6] m=yH O b m t1 t5 t6:=(aV ..).trans (by kernel_rfl)
end
end Go.Ev.Code
end
section
end
