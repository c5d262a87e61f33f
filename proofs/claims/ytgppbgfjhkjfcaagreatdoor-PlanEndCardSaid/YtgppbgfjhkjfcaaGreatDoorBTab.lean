/- A part of the proof of planStub_card, planEnd_card, planLone_card, bondLong_card. -/
import Derived.KernelRfl
import Derived.Test.YtgppbgfjhkjfcaaGreatDoorBCodeA
import Derived.Test.YtgppbgfjhkjfcaaGreatDoorBCodeB
import Derived.Test.YtgppbgfjhkjfcaaGreatDoorBCodeC
import Derived.Test.YtgppbgfjhkjfcaaGreatDoorBFlat
set_option linter.unusedVariables false
section
namespace Go.Ev.Code
open Go.Ev
def ft0 : List (Nat × EF) := [(nR, qG), (lG, rM), (nP, qF), (nO, qE), (dQ, OZ), (fE, wo), (iJ, wR), (dA, qH), (fV, Sl), (f_, wu), (g_, CS), (tZ, MJ), (mZ, IZ), (iO, AQ), (sS, RY), (nJ, uD), (gW, IU), (afR, aiL), (M_, abV), (Hf, adi), (Qi, XM), (GU, QL), (fP, CW), (jr, CV), (jy, Fj), (jR, Fh), (Ob, aiO), (fO, zI), (fG, wz), (qj, wS), (dJ, uF), (mM, zJ), (xB, CU), (slices_Reverse_int, uG), (dM, MG), (ny, I5), (pF, RQ), (fF, Fq), (eG, IY), (pW, CG)]
def ft1 : List (Nat × EF) := [(uH, OO), (iZ, F7), (oV, Fp), (jf, sN), (fA, NT), (jQ, sO), (EH, Me), (EI, MB), (rC, MC), (Md, abS), (ZV, ae7), (Uj, aiK), (nD, Gi), (Qh, XL), (bV, OM), (gU, VW), (bU, FX), (fM, FV), (Tv, Zj), (bM, F9), (b_, Gh), (bZ, CP), (kJ, Sm), (Po, adk), (tY, MH), (o9, Gf), (aat, afg), (iD, VX), (iy, Gg), (Vx, abW), (TR, Zk), (agl, aiQ), (GV, QM), (gZ, CQ), (mF, RN), (lg, IV), (ug, BL), (aas, aff), (iK, wV), (kC, wU)]
def ft2 : List (Nat × EF) := [(nC, F6), (Bf, I7), (mW, Fv), (EJ, MF), (Cj, RS), (m_, FW), (qg, OY), (EY, O0), (oH, QT), (yF, QO), (eH, CB), (lN, MI), (kV, F8), (SB, afe), (ng, FY), (ZE, aiP), (eU, Sj), (fD, VU), (bf, FU), (fK, FN), (iw, FH), (jA, FI), (kU, FQ), (Tt, Zi), (dX, CO), (oW, FM), (gJ, FK), (yM, FB), (uq, IX), (Es, abU), (zh, XH), (Ho, RP), (aeb, ag5), (BP, NS), (GN, QJ), (Le, ae_), (Aw, Zf), (af7, aiM), (iQ, CJ), (vM, RU)]
def ft3 : List (Nat × EF) := [(rV, F5), (JC, Sv), (Bo, UL), (wL, UO), (jL, UQ), (LU, UR), (Oh, VY), (JB, Sr), (yG, QS), (agc, aiN), (jP, RZ), (dK, OW), (bF, AU), (jB, FT), (xR, I4), (t_, MN), (Jq, OV), (nG, Cm), (AB, IW), (jE, AV), (La, ae8), (I8, ag3), (lX, G9), (Lc, ae9), (CY, OQ), (yX, abX), (PL, adl), (GR, QK), (Em, abT), (slices_Reverse_string, qI), (Hr, RX), (uS, SA), (JD, Sz), (GX, QN), (nS, UN), (uM, OX), (vT, Si), (nat_bit, R_), (DL, OU), (qZ, IQ)]
def ft4 : List (Nat × EF) := [(xq, OT), (EP, ML), (ES, MO), (EN, MK), (wM, EK), (kT, FD), (BK, MP), (WH, ag4), (I9, Zg), (Z4, ae'), (Z5, afa), (GK, QH), (rQ, FP), (S9, Zh), (LQ, UM), (Bq, UU), (VR, ag2), (XF, adg), (RG, afb), (Qg, XK), (GL, QI), (vk, XJ), (Qe, XI), (XO, adh), (yL, Fz), (RI, afc), (zi, AP), (RJ, afd), (NU, VT), (kG, uz), (oG, vZ)]
def acg : List (Nat × EF) := ft0 ++ (ft1 ++ (ft2 ++ (ft3 ++ (ft4))))
end Go.Ev.Code
end
section
namespace Go.Ev.Code
open Go Go.Ev
def W : Nat := 18446744073709551616
@[simp] abbrev aT (n : Nat) : D := .int .u64 n
def strip (p : UInt8 → Bool) : List UInt8 → List UInt8
 | [] => []
 | b :: bs => if p b then strip p bs else b :: bs
def cutAt (sep : UInt8) : List UInt8 → List UInt8 → Option (List UInt8 × List UInt8)
 | _, [] => none
 | acc, b :: bs => if b == sep then some (acc.reverse, bs) else cutAt sep (b :: acc) bs
def decDigits : Nat → Nat → List UInt8 → List UInt8
 | 0, _, acc => acc
 | f + 1, n, acc => if n / 10 = 0 then UInt8.ofNat (48 + n % 10) :: acc else decDigits f (n / 10) (UInt8.ofNat (48 + n % 10) :: acc)
def vK (n : Nat) : List UInt8 := decDigits 100 n []
def yS : Nat → List UInt8 → Option Nat
 | n, [] => some n
 | n, b :: bs => if 48 ≤ b.toNat ∧ b.toNat ≤ 57 then yS (n * 10 + (b.toNat - 48)) bs else none
def uI (sep : List UInt8) : List (List UInt8) → List UInt8
 | [] => []
 | [x] => x
 | x :: y :: xs => x ++ sep ++ uI sep (y :: xs)
def strs : List D → Option (List (List UInt8))
 | [] => some []
 | .str s :: ds => (strs ds).bind fun r => some (s :: r)
 | _ => none
def u64 (n : Int) : Prop := 0 ≤ n ∧ n < 18446744073709551616
instance (n : Int) : Decidable (u64 n) := inferInstanceAs (Decidable (_ ∧ _))
def N9 : List D → Mem → RV
 | [.int .u64 x, .int .u64 y], m => if u64 x ∧ u64 y then some (.bg [aT (x.toNat * y.toNat / W), aT (x.toNat * y.toNat % W)], m) else none
 | _, _ => none
def N7 : List D → Mem → RV
 | [.int .u64 x, .int .u64 y, .int .u64 c], m => if u64 x ∧ u64 y ∧ 0 ≤ c ∧ c ≤ 1 then some (.bg [aT ((x.toNat + y.toNat + c.toNat) % W), aT ((x.toNat + y.toNat + c.toNat) / W)], m) else none
 | _, _ => none
def N_ : List D → Mem → RV
 | [.int .u64 x, .int .u64 y, .int .u64 c], m => if u64 x ∧ u64 y ∧ 0 ≤ c ∧ c ≤ 1 then some (.bg [aT ((x.toNat + W - y.toNat - c.toNat) % W), aT (if x.toNat < y.toNat + c.toNat then 1 else 0)], m) else none
 | _, _ => none
def width (x : Nat) : Nat := if x = 0 then 0 else x.log2 + 1
def DR : List D → Mem → RV
 | [.int .u64 x], m => if u64 x then some (.int .i64 (64 - width x.toNat : Nat), m) else none
 | _, _ => none
def trail : Nat → Nat → Nat
 | 0, _ => 0
 | f + 1, x => if x % 2 = 1 then 0 else trail f (x / 2) + 1
def EU : List D → Mem → RV
 | [.int .u64 x], m => if u64 x then some (.int .i64 (trail 64 x.toNat : Nat), m) else none
 | _, _ => none
def N8 : List D → Mem → RV
 | [.int .u64 x, .int .i64 10], m => if u64 x then some (.str (vK x.toNat), m) else none
 | _, _ => none
def acj : List D → Mem → RV
 | [.int .i64 n], m => if -9223372036854775808 ≤ n ∧ n ≤ 9223372036854775807 then some (.str (if n < 0 then 45 :: vK n.natAbs else vK n.natAbs), m) else none
 | _, _ => none
def Hu : List D → Mem → RV
 | [.str s, .int .i64 n], m => if 0 ≤ n ∧ n ≤ 1000000 ∧ s.length ≤ 1000 then some (.str ((List.replicate n.toNat s).flatten), m) else none
 | _, _ => none
def O_ : List D → Mem → RV
 | [.sl n cs, .str sep], m => (strs cs).bind fun ss => if n = cs.length ∧ n ≤ 4294967296 ∧ (uI sep ss).length ≤ 1000000 then some (.str (uI sep ss), m) else none
 | _, _ => none
def adX : List D → Mem → RV
 | [.str s, .str [sep]], m => if s.length < 4294967281 then (match cutAt sep [] s with
   | some (a, b) => some (.bg [.str a, .str b, .bool true], m)
   | none => some (.bg [.str s, .str [], .bool false], m)) else none
 | _, _ => none
def xW : List D → Mem → RV
 | [.str s, .str p], m => if p.isPrefixOf s then some (.bg [.str (s.drop p.length), .bool true], m) else some (.bg [.str s, .bool false], m)
 | _, _ => none
def jO : List UInt8 := [48, 49, 50, 51, 52, 53, 54, 55, 56, 57]
def pTrim : List D → Mem → RV
 | [.str s, .str cs], m => if cs = jO ∧ s.length ≤ 1000000 then some (.str (strip (fun b => jO.contains b) (strip (fun b => jO.contains b) s.reverse).reverse), m) else none
 | _, _ => none
def Ak : List D → Mem → RV
 | [.str s, .str [c]], m => if c.toNat < 128 ∧ s.length ≤ 1000000 then some (.str (strip (fun b => b == c) s), m) else none
 | _, _ => none
def Tm : List D → Mem → RV
 | [.str s, .int .i64 10, .int .i64 64], m => if s ≠ [] ∧ s.length ≤ 18 then (yS 0 s).bind fun n => some (.bg [aT n, .aC], m) else none
 | _, _ => none
def aci : List D → Mem → RV
 | [.aC], m => some (.int .i64 0, m)
 | [.iface t d], m => if t = jK then (match d with
     | .int .i64 n => some (.int .i64 n, m)
     | _ => none)
   else if t = jg then (match d with
    | .ref (.int .i64 n :: _) 0 => some (.int .i64 n, m)
    | _ => none)
   else none
 | _, _ => none
def Ti : List D → Mem → RV
 | [.sl 0 []], m => some (.sl 0 [], m)
 | [.sl n cs], m => if 0 < n ∧ n = cs.length ∧ n ≤ 4294967296 then some (.bn m.length 0 n 1, m ++ [.live cs]) else none
 | _, _ => none
def Zx : List D → Mem → RV
 | [.iface t (.int _ _)], m => if t = jK then some (.iface Ef (.agg [.raw hndB t]), m) else none
 | _, _ => none
def MV : List D → Mem → RV
 | [.agg [.raw b t]], m => if b = hndB ∧ t = jK then some (.bool true, m) else none
 | _, _ => none
def Uo : D := .ref [.int .i64 4, .str [97], .iface jg (.ref [.int .i64 4, .str [98], .aC] 0)] 0
def adY : List D → Mem → RV
 | [.ref [.int .i64 4, .str [97], .iface t (.ref [.int .i64 4, .str [98], .aC] 0)] 0], m => if t = jg then some (.str [97, 58, 32, 98, 58, 32, 101, 114, 114, 111, 114, 32, 52], m) else none
 | _, _ => none
def adZ : List D → Mem → RV
 | [.sl 2 [.ref [.nI ks] 0, .aO]], m => if ks.length ≤ 1000000 ∧ ks.all (fun k => decide (-9223372036854775808 ≤ k ∧ k ≤ 9223372036854775807)) = true then some (.ref [] 0, m) else none
 | _, _ => none
def adD : List (Nat × (List D → Mem → RV)) := [(bits_Mul64, N9), (bits_Add64, N7), (bits_Sub64, N_), (bits_LeadingZeros64, DR), (bits_TrailingZeros64, EU),
 (gI, N8), (strconv_Itoa, acj), (strings_Repeat, Hu), (strings_Join, O_), (strings_Cut, adX), (strings_CutPrefix, xW), (jV, pTrim), (jw, Ak),
 (jd, Tm), (mX, aci), (dS, Ti), (nH, Zx), (jm, MV), (yx, adY), (OG, adZ)]
def zn {α : Type} : List (Nat × α) → Nat → Option α
 | [], _ => none
 | (i, e) :: r, n => bif Nat.beq i n then some e else zn r n
def Ue (t : List (Nat × (List D → Mem → RV))) (f : Nat) (args : List D) (m : Mem) : RV := match zn t f with
 | some p => p args m
 | none => none
end Go.Ev.Code
end
section
namespace Go.Ev.Code
open Go Go.Ev
def TT : Tab := ⟨zn acg, Ue adD⟩
noncomputable def L : aJ := TT.lim
theorem J_ : TT.fn nR = some qG := by kernel_rfl
theorem L_ : TT.fn lG = some rM := by kernel_rfl
theorem J9 : TT.fn nP = some qF := by kernel_rfl
theorem J8 : TT.fn nO = some qE := by kernel_rfl
theorem QE : TT.fn fE = some wo := by kernel_rfl
theorem Rk : TT.fn iJ = some wR := by kernel_rfl
theorem jG : TT.fn dA = some qH := by kernel_rfl
theorem ZU : TT.fn fV = some Sl := by kernel_rfl
theorem QF : TT.fn f_ = some wu := by kernel_rfl
theorem Y3 : TT.fn g_ = some CS := by kernel_rfl
theorem aeN : TT.fn tZ = some MJ := by kernel_rfl
theorem acL : TT.fn mZ = some IZ := by kernel_rfl
theorem Xl : TT.fn iO = some AQ := by kernel_rfl
theorem Ad : TT.fn sS = some RY := by kernel_rfl
theorem OB : TT.fn nJ = some uD := by kernel_rfl
theorem acH : TT.fn gW = some IU := by kernel_rfl
theorem Y6 : TT.fn fP = some CW := by kernel_rfl
theorem Y5 : TT.fn jr = some CV := by kernel_rfl
theorem abl : TT.fn jy = some Fj := by kernel_rfl
theorem abk : TT.fn jR = some Fh := by kernel_rfl
theorem VI : TT.fn fO = some zI := by kernel_rfl
theorem QG : TT.fn fG = some wz := by kernel_rfl
theorem Rl : TT.fn qj = some wS := by kernel_rfl
theorem OC : TT.fn dJ = some uF := by kernel_rfl
theorem Ik : TT.fn mM = some zJ := by kernel_rfl
theorem Y4 : TT.fn xB = some CU := by kernel_rfl
theorem OD : TT.fn slices_Reverse_int = some uG := by kernel_rfl
theorem aeM : TT.fn dM = some MG := by kernel_rfl
theorem Ij : TT.fn ny = some I5 := by kernel_rfl
theorem ZQ : TT.fn pF = some RQ := by kernel_rfl
theorem abn : TT.fn fF = some Fq := by kernel_rfl
theorem Rj : TT.fn eG = some IY := by kernel_rfl
theorem YX : TT.fn pW = some CG := by kernel_rfl
theorem agK : TT.fn uH = some OO := by kernel_rfl
theorem abH : TT.fn iZ = some F7 := by kernel_rfl
theorem abm : TT.fn oV = some Fp := by kernel_rfl
theorem NG : TT.fn jf = some sN := by kernel_rfl
theorem NH : TT.fn jQ = some sO := by kernel_rfl
theorem aeI : TT.fn EH = some Me := by kernel_rfl
theorem aeJ : TT.fn EI = some MB := by kernel_rfl
theorem aeK : TT.fn rC = some MC := by kernel_rfl
theorem abN : TT.fn nD = some Gi := by kernel_rfl
theorem agJ : TT.fn bV = some OM := by kernel_rfl
theorem ajS : TT.fn gU = some VW := by kernel_rfl
theorem abC : TT.fn bU = some FX := by kernel_rfl
theorem abA : TT.fn fM = some FV := by kernel_rfl
theorem abJ : TT.fn bM = some F9 := by kernel_rfl
theorem abM : TT.fn b_ = some Gh := by kernel_rfl
theorem Y1 : TT.fn bZ = some CP := by kernel_rfl
theorem aib : TT.fn kJ = some Sm := by kernel_rfl
theorem L9 : TT.fn tY = some MH := by kernel_rfl
theorem abK : TT.fn o9 = some Gf := by kernel_rfl
theorem ajT : TT.fn iD = some VX := by kernel_rfl
theorem abL : TT.fn iy = some Gg := by kernel_rfl
theorem Y2 : TT.fn gZ = some CQ := by kernel_rfl
theorem ah6 : TT.fn mF = some RN := by kernel_rfl
theorem acI : TT.fn lg = some IV := by kernel_rfl
theorem Ro : TT.fn iK = some wV := by kernel_rfl
theorem Rn : TT.fn kC = some wU := by kernel_rfl
theorem abG : TT.fn nC = some F6 := by kernel_rfl
theorem acN : TT.fn Bf = some I7 := by kernel_rfl
theorem abo : TT.fn mW = some Fv := by kernel_rfl
theorem aeL : TT.fn EJ = some MF := by kernel_rfl
theorem ah8 : TT.fn Cj = some RS := by kernel_rfl
theorem abB : TT.fn m_ = some FW := by kernel_rfl
theorem agP : TT.fn qg = some OY := by kernel_rfl
theorem YW : TT.fn eH = some CB := by kernel_rfl
theorem vH : TT.fn lN = some MI := by kernel_rfl
theorem abI : TT.fn kV = some F8 := by kernel_rfl
theorem abD : TT.fn ng = some FY := by kernel_rfl
theorem aia : TT.fn eU = some Sj := by kernel_rfl
theorem ajR : TT.fn fD = some VU := by kernel_rfl
theorem abz : TT.fn bf = some FU := by kernel_rfl
theorem abv : TT.fn fK = some FN := by kernel_rfl
theorem abq : TT.fn iw = some FH := by kernel_rfl
theorem abr : TT.fn jA = some FI := by kernel_rfl
theorem abx : TT.fn kU = some FQ := by kernel_rfl
theorem Y0 : TT.fn dX = some CO := by kernel_rfl
theorem abu : TT.fn oW = some FM := by kernel_rfl
theorem abt : TT.fn gJ = some FK := by kernel_rfl
theorem Fe : TT.fn yM = some FB := by kernel_rfl
theorem acK : TT.fn uq = some IX := by kernel_rfl
theorem ah7 : TT.fn Ho = some RP := by kernel_rfl
theorem YZ : TT.fn iQ = some CJ := by kernel_rfl
theorem ZR : TT.fn vM = some RU := by kernel_rfl
theorem abE : TT.fn rV = some F5 := by kernel_rfl
theorem ZT : TT.fn jP = some RZ := by kernel_rfl
theorem Xn : TT.fn dK = some OW := by kernel_rfl
theorem Kv : TT.fn bF = some AU := by kernel_rfl
theorem aby : TT.fn jB = some FT := by kernel_rfl
theorem acM : TT.fn xR = some I4 := by kernel_rfl
theorem aeP : TT.fn t_ = some MN := by kernel_rfl
theorem agN : TT.fn Jq = some OV := by kernel_rfl
theorem YV : TT.fn nG = some Cm := by kernel_rfl
theorem acJ : TT.fn AB = some IW := by kernel_rfl
theorem agL : TT.fn CY = some OQ := by kernel_rfl
theorem Ko : TT.fn slices_Reverse_string = some qI := by kernel_rfl
theorem ah9 : TT.fn Hr = some RX := by kernel_rfl
theorem agO : TT.fn uM = some OX := by kernel_rfl
theorem ah' : TT.fn vT = some Si := by kernel_rfl
theorem ah_ : TT.fn nat_bit = some R_ := by kernel_rfl
theorem agM : TT.fn DL = some OU := by kernel_rfl
theorem acG : TT.fn qZ = some IQ := by kernel_rfl
theorem Xm : TT.fn xq = some OT := by kernel_rfl
theorem U_ : TT.fn EP = some ML := by kernel_rfl
theorem aeQ : TT.fn ES = some MO := by kernel_rfl
theorem aeO : TT.fn EN = some MK := by kernel_rfl
theorem abp : TT.fn kT = some FD := by kernel_rfl
theorem abw : TT.fn rQ = some FP := by kernel_rfl
end Go.Ev.Code
end
