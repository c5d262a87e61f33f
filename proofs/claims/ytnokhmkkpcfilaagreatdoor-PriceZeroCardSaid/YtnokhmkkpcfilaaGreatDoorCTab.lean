/- A part of the proof of flowSum_card, flowParts_card, flowEx_card, accrWhole_card, priceZero_card. -/
import Derived.KernelRfl
import Derived.Test.YtnokhmkkpcfilaaGreatDoorCCodeA
import Derived.Test.YtnokhmkkpcfilaaGreatDoorCCodeB
import Derived.Test.YtnokhmkkpcfilaaGreatDoorCCodeC
import Derived.Test.YtnokhmkkpcfilaaGreatDoorCFlat
set_option linter.unusedVariables false
section
namespace Go.Ev.Code
open Go.Ev
def ft0 : List (Nat × EF) := [(jE, qc), (iM, nT), (jZ, qN), (iL, nS), (iO, nU), (dF, Uc), (kH, wo), (vN, Qv), (lT, EN), (Af, QD), (iF, CV), (jq, FN), (gG, FB), (jR, EL), (kW, QC), (lH, J8), (iW, vg), (h_, Ub), (gI, FD), (jh, CP), (gZ, u_), (jD, wu), (fA, oO), (yF, QB), (Aa, Qm), (oG, J7), (xY, Qn), (nX, MK), (gY, FK), (qB, Fz), (sS, H7), (zV, aau), (rW, VD), (kT, Ho), (fG, CW), (kN, EM), (kJ, wz), (qF, Cm), (qL, Qo), (pX, Hq)]
def ft1 : List (Nat × EF) := [(Ju, Qz), (lS, Qw), (fC, CG), (b_, MJ), (mZ, QE), (gW, QA), (dB, FM), (cZ, CJ), (nM, Fp), (bY, FH), (nK, Fg), (uS, MS), (gu, Fe), (bM, Fj), (uM, CQ), (slices_Reverse_int, sJ), (fU, J6), (xw, ET), (sF, Ht), (jg, Ua), (nZ, HY), (pK, y7), (jW, vk), (mJ, wC), (dU, sH), (kX, y8), (fJ, kE), (wQ, Ku), (tJ, EK), (Bf, JY), (rC, AU), (uO, CU), (wS, H8), (lX, FI), (BL, Kv), (Ew, ae7), (BP, ab7), (Tc, al8), (rX, VE), (Bg, JZ)]
def ft2 : List (Nat × EF) := [(Bh, J3), (vZ, J4), (jK, AP), (jf, CO), (vJ, Qs), (iD, T_), (iK, E5), (iI, EW), (cu, AQ), (bK, Fb), (nI, EZ), (iJ, EY), (qo, Fq), (jS, EX), (lU, E_), (qA, Fv), (uq, Ci), (eu, Cj), (yV, Hr), (zC, H6), (jH, wF), (kK, wE), (uN, CS), (qm, Fh), (ug, Qq), (fM, Hu), (mW, J9), (vK, aaq), (B_, Qp), (O0, ako), (oZ, SC), (rU, VA), (Bl, aiv), (uo, ab4), (SG, al7), (sQ, Hy), (je, CB), (GR, Qu), (fF, MQ), (wK, Hz)]
def ft3 : List (Nat × EF) := [(lV, Fa), (wM, Kr), (Gp, MP), (GK, Qr), (iH, EP), (pY, ES), (yO, J_), (gQ, H9), (GH, ait), (Gi, akm), (jB, MV), (GI, aiu), (Bo, ML), (t_, ae8), (DX, agu), (rV, VB), (xq, ae6), (slices_Reverse_string, oP), (qj, E8), (zu, MR), (Ae, Qy), (nat_bit, Qx), (BH, MO), (sD, Hl), (zo, MN), (BG, Kq), (BI, Kt), (BF, Ko), (Bj, J5), (kD, KP), (kQ, EU), (og, Ri), (OB, akn), (Bq, ab5), (KN, aiw), (KO, aix), (rP, Vy), (BD, ab6), (Jo, akl), (Hf, ags)]
def ft4 : List (Nat × EF) := [(GU, aiy), (zT, aat), (rQ, Vz), (oI, aas), (zS, aar), (H_, agt), (tK, LK), (GV, aiz), (ru, Hw), (GX, aiA), (jU, Am), (yt, Y0), (iy, y5)]
def afn : List (Nat × EF) := ft0 ++ (ft1 ++ (ft2 ++ (ft3 ++ (ft4))))
end Go.Ev.Code
end
section
namespace Go.Ev.Code
open Go Go.Ev
def W : Nat := 18446744073709551616
@[simp] abbrev aT (n : Nat) : D := .int .u64 n
def strip (p : UInt8 → Bool) : List UInt8 → List UInt8
 | [] => []
 | b :: bs => if p b then strip p bs else b :: bs
def cutAt (sep : UInt8) : List UInt8 → List UInt8 → Option (List UInt8 × List UInt8)
 | _, [] => none
 | acc, b :: bs => if b == sep then some (acc.reverse, bs) else cutAt sep (b :: acc) bs
def decDigits : Nat → Nat → List UInt8 → List UInt8
 | 0, _, acc => acc
 | f + 1, n, acc => if n / 10 = 0 then UInt8.ofNat (48 + n % 10) :: acc else decDigits f (n / 10) (UInt8.ofNat (48 + n % 10) :: acc)
def Ad (n : Nat) : List UInt8 := decDigits 100 n []
def Ep : Nat → List UInt8 → Option Nat
 | n, [] => some n
 | n, b :: bs => if 48 ≤ b.toNat ∧ b.toNat ≤ 57 then Ep (n * 10 + (b.toNat - 48)) bs else none
def zf (sep : List UInt8) : List (List UInt8) → List UInt8
 | [] => []
 | [x] => x
 | x :: y :: xs => x ++ sep ++ zf sep (y :: xs)
def strs : List D → Option (List (List UInt8))
 | [] => some []
 | .str s :: ds => (strs ds).bind fun r => some (s :: r)
 | _ => none
def u64 (n : Int) : Prop := 0 ≤ n ∧ n < 18446744073709551616
instance (n : Int) : Decidable (u64 n) := inferInstanceAs (Decidable (_ ∧ _))
def SQ : List D → Mem → RV
 | [.int .u64 x, .int .u64 y], m => if u64 x ∧ u64 y then some (.aZ [aT (x.toNat * y.toNat / W), aT (x.toNat * y.toNat % W)], m) else none
 | _, _ => none
def SL : List D → Mem → RV
 | [.int .u64 x, .int .u64 y, .int .u64 c], m => if u64 x ∧ u64 y ∧ 0 ≤ c ∧ c ≤ 1 then some (.aZ [aT ((x.toNat + y.toNat + c.toNat) % W), aT ((x.toNat + y.toNat + c.toNat) / W)], m) else none
 | _, _ => none
def SS : List D → Mem → RV
 | [.int .u64 x, .int .u64 y, .int .u64 c], m => if u64 x ∧ u64 y ∧ 0 ≤ c ∧ c ≤ 1 then some (.aZ [aT ((x.toNat + W - y.toNat - c.toNat) % W), aT (if x.toNat < y.toNat + c.toNat then 1 else 0)], m) else none
 | _, _ => none
def width (x : Nat) : Nat := if x = 0 then 0 else x.log2 + 1
def Jv : List D → Mem → RV
 | [.int .u64 x], m => if u64 x then some (.int .i64 (64 - width x.toNat : Nat), m) else none
 | _, _ => none
def trail : Nat → Nat → Nat
 | 0, _ => 0
 | f + 1, x => if x % 2 = 1 then 0 else trail f (x / 2) + 1
def KU : List D → Mem → RV
 | [.int .u64 x], m => if u64 x then some (.int .i64 (trail 64 x.toNat : Nat), m) else none
 | _, _ => none
def SN : List D → Mem → RV
 | [.int .u64 x, .int .i64 10], m => if u64 x then some (.str (Ad x.toNat), m) else none
 | _, _ => none
def afr : List D → Mem → RV
 | [.int .i64 n], m => if -9223372036854775808 ≤ n ∧ n ≤ 9223372036854775807 then some (.str (if n < 0 then 45 :: Ad n.natAbs else Ad n.natAbs), m) else none
 | _, _ => none
def ND : List D → Mem → RV
 | [.str s, .int .i64 n], m => if 0 ≤ n ∧ n ≤ 1000000 ∧ s.length ≤ 1000 then some (.str ((List.replicate n.toNat s).flatten), m) else none
 | _, _ => none
def Ut : List D → Mem → RV
 | [.sl n cs, .str sep], m => (strs cs).bind fun ss => if n = cs.length ∧ n ≤ 4294967296 ∧ (zf sep ss).length ≤ 1000000 then some (.str (zf sep ss), m) else none
 | _, _ => none
def ag7 : List D → Mem → RV
 | [.str s, .str [sep]], m => if s.length < 4294967281 then (match cutAt sep [] s with
   | some (a, b) => some (.aZ [.str a, .str b, .bool true], m)
   | none => some (.aZ [.str s, .str [], .bool false], m)) else none
 | _, _ => none
def DR : List D → Mem → RV
 | [.str s, .str p], m => if p.isPrefixOf s then some (.aZ [.str (s.drop p.length), .bool true], m) else some (.aZ [.str s, .bool false], m)
 | _, _ => none
def lQ : List UInt8 := [48, 49, 50, 51, 52, 53, 54, 55, 56, 57]
def pTrim : List D → Mem → RV
 | [.str s, .str cs], m => if cs = lQ ∧ s.length ≤ 1000000 then some (.str (strip (fun b => lQ.contains b) (strip (fun b => lQ.contains b) s.reverse).reverse), m) else none
 | _, _ => none
def GZ : List D → Mem → RV
 | [.str s, .str [c]], m => if c.toNat < 128 ∧ s.length ≤ 1000000 then some (.str (strip (fun b => b == c) s), m) else none
 | _, _ => none
def Xc : List D → Mem → RV
 | [.str s, .int .i64 10, .int .i64 64], m => if s ≠ [] ∧ s.length ≤ 18 then (Ep 0 s).bind fun n => some (.aZ [aT n, .aF], m) else none
 | _, _ => none
def afq : List D → Mem → RV
 | [.aF], m => some (.int .i64 0, m)
 | [.iface t d], m => if t = j_ then (match d with
     | .int .i64 n => some (.int .i64 n, m)
     | _ => none)
   else if t = jl then (match d with
    | .ref (.int .i64 n :: _) 0 => some (.int .i64 n, m)
    | _ => none)
   else none
 | _, _ => none
def Xb : List D → Mem → RV
 | [.sl 0 []], m => some (.sl 0 [], m)
 | [.sl n cs], m => if 0 < n ∧ n = cs.length ∧ n ≤ 4294967296 then some (.bg m.length 0 n 1, m ++ [.live cs]) else none
 | _, _ => none
def acp : List D → Mem → RV
 | [.iface t (.int _ _)], m => if t = j_ then some (.iface zN (.agg [.raw hndB t]), m) else none
 | _, _ => none
def Ro : List D → Mem → RV
 | [.agg [.raw b t]], m => if b = hndB ∧ t = j_ then some (.bool true, m) else none
 | _, _ => none
def XQ : D := .ref [.int .i64 4, .str [97], .iface jl (.ref [.int .i64 4, .str [98], .aF] 0)] 0
def ag8 : List D → Mem → RV
 | [.ref [.int .i64 4, .str [97], .iface t (.ref [.int .i64 4, .str [98], .aF] 0)] 0], m => if t = jl then some (.str [97, 58, 32, 98, 58, 32, 101, 114, 114, 111, 114, 32, 52], m) else none
 | _, _ => none
def ag9 : List D → Mem → RV
 | [.sl 2 [.ref [.qG ks] 0, .aV]], m => if ks.length ≤ 1000000 ∧ ks.all (fun k => decide (-9223372036854775808 ≤ k ∧ k ≤ 9223372036854775807)) = true then some (.ref [] 0, m) else none
 | _, _ => none
def agL : List (Nat × (List D → Mem → RV)) := [(bits_Mul64, SQ), (bits_Add64, SL), (bits_Sub64, SS), (bits_LeadingZeros64, Jv), (bits_TrailingZeros64, KU),
 (fK, SN), (strconv_Itoa, afr), (strings_Repeat, ND), (strings_Join, Ut), (strings_Cut, ag7), (strings_CutPrefix, DR), (kM, pTrim), (iQ, GZ),
 (g_, Xc), (mg, afq), (dJ, Xb), (gU, acp), (dR, Ro), (ou, ag8), (F8, ag9)]
def FP {α : Type} : List (Nat × α) → Nat → Option α
 | [], _ => none
 | (i, e) :: r, n => bif Nat.beq i n then some e else FP r n
def XG (t : List (Nat × (List D → Mem → RV))) (f : Nat) (args : List D) (m : Mem) : RV := match FP t f with
 | some p => p args m
 | none => none
end Go.Ev.Code
end
section
namespace Go.Ev.Code
open Go Go.Ev
def TT : Tab := ⟨FP afn, XG agL⟩
noncomputable def L : aC := TT.lim
theorem pV : TT.fn jE = some qc := by kernel_rfl
theorem Bc : TT.fn iM = some nT := by kernel_rfl
theorem Si : TT.fn jZ = some qN := by kernel_rfl
theorem Ob : TT.fn iL = some nS := by kernel_rfl
theorem Bd : TT.fn iO = some nU := by kernel_rfl
theorem V4 : TT.fn kH = some wo := by kernel_rfl
theorem Gy : TT.fn vN = some Qv := by kernel_rfl
theorem aeC : TT.fn lT = some EN := by kernel_rfl
theorem acV : TT.fn Af = some QD := by kernel_rfl
theorem abP : TT.fn iF = some CV := by kernel_rfl
theorem ae1 : TT.fn jq = some FN := by kernel_rfl
theorem aeW : TT.fn gG = some FB := by kernel_rfl
theorem aeA : TT.fn jR = some EL := by kernel_rfl
theorem acU : TT.fn kW = some QC := by kernel_rfl
theorem Rf : TT.fn lH = some J8 := by kernel_rfl
theorem Vw : TT.fn iW = some vg := by kernel_rfl
theorem anj : TT.fn h_ = some Ub := by kernel_rfl
theorem aeX : TT.fn gI = some FD := by kernel_rfl
theorem abL : TT.fn jh = some CP := by kernel_rfl
theorem Vu : TT.fn gZ = some u_ := by kernel_rfl
theorem V5 : TT.fn jD = some wu := by kernel_rfl
theorem lg : TT.fn fA = some oO := by kernel_rfl
theorem alv : TT.fn yF = some QB := by kernel_rfl
theorem VX : TT.fn Aa = some Qm := by kernel_rfl
theorem tH : TT.fn oG = some J7 := by kernel_rfl
theorem VY : TT.fn xY = some Qn := by kernel_rfl
theorem aj0 : TT.fn nX = some MK := by kernel_rfl
theorem aeZ : TT.fn gY = some FK := by kernel_rfl
theorem vI : TT.fn qB = some Fz := by kernel_rfl
theorem G_ : TT.fn sS = some H7 := by kernel_rfl
theorem afM : TT.fn kT = some Ho := by kernel_rfl
theorem abQ : TT.fn fG = some CW := by kernel_rfl
theorem aeB : TT.fn kN = some EM := by kernel_rfl
theorem V6 : TT.fn kJ = some wz := by kernel_rfl
theorem abG : TT.fn qF = some Cm := by kernel_rfl
theorem aln : TT.fn qL = some Qo := by kernel_rfl
theorem afN : TT.fn pX = some Hq := by kernel_rfl
theorem acT : TT.fn Ju = some Qz := by kernel_rfl
theorem acS : TT.fn lS = some Qw := by kernel_rfl
theorem abI : TT.fn fC = some CG := by kernel_rfl
theorem ajZ : TT.fn b_ = some MJ := by kernel_rfl
theorem acW : TT.fn mZ = some QE := by kernel_rfl
theorem alu : TT.fn gW = some QA := by kernel_rfl
theorem ae0 : TT.fn dB = some FM := by kernel_rfl
theorem abJ : TT.fn cZ = some CJ := by kernel_rfl
theorem aeT : TT.fn nM = some Fp := by kernel_rfl
theorem aeY : TT.fn bY = some FH := by kernel_rfl
theorem aeQ : TT.fn nK = some Fg := by kernel_rfl
theorem aj7 : TT.fn uS = some MS := by kernel_rfl
theorem aeP : TT.fn gu = some Fe := by kernel_rfl
theorem aeS : TT.fn bM = some Fj := by kernel_rfl
theorem abM : TT.fn uM = some CQ := by kernel_rfl
theorem TM : TT.fn slices_Reverse_int = some sJ := by kernel_rfl
theorem ah4 : TT.fn fU = some J6 := by kernel_rfl
theorem LD : TT.fn xw = some ET := by kernel_rfl
theorem afP : TT.fn sF = some Ht := by kernel_rfl
theorem ani : TT.fn jg = some Ua := by kernel_rfl
theorem N_ : TT.fn nZ = some HY := by kernel_rfl
theorem YT : TT.fn pK = some y7 := by kernel_rfl
theorem Vx : TT.fn jW = some vk := by kernel_rfl
theorem V7 : TT.fn mJ = some wC := by kernel_rfl
theorem TL : TT.fn dU = some sH := by kernel_rfl
theorem Oc : TT.fn kX = some y8 := by kernel_rfl
theorem I9 : TT.fn fJ = some kE := by kernel_rfl
theorem ah9 : TT.fn wQ = some Ku := by kernel_rfl
theorem LC : TT.fn tJ = some EK := by kernel_rfl
theorem Yl : TT.fn Bf = some JY := by kernel_rfl
theorem AB : TT.fn rC = some AU := by kernel_rfl
theorem abO : TT.fn uO = some CU := by kernel_rfl
theorem Oa : TT.fn wS = some H8 := by kernel_rfl
theorem U1 : TT.fn lX = some FI := by kernel_rfl
theorem ah_ : TT.fn BL = some Kv := by kernel_rfl
theorem ah0 : TT.fn Bg = some JZ := by kernel_rfl
theorem ah1 : TT.fn Bh = some J3 := by kernel_rfl
theorem ah2 : TT.fn vZ = some J4 := by kernel_rfl
theorem ZW : TT.fn jK = some AP := by kernel_rfl
theorem abK : TT.fn jf = some CO := by kernel_rfl
theorem acR : TT.fn vJ = some Qs := by kernel_rfl
theorem anh : TT.fn iD = some T_ := by kernel_rfl
theorem aeK : TT.fn iK = some E5 := by kernel_rfl
theorem aeG : TT.fn iI = some EW := by kernel_rfl
theorem PG : TT.fn cu = some AQ := by kernel_rfl
theorem aeO : TT.fn bK = some Fb := by kernel_rfl
theorem aeJ : TT.fn nI = some EZ := by kernel_rfl
theorem aeI : TT.fn iJ = some EY := by kernel_rfl
theorem aeU : TT.fn qo = some Fq := by kernel_rfl
theorem aeH : TT.fn jS = some EX := by kernel_rfl
theorem aeM : TT.fn lU = some E_ := by kernel_rfl
theorem aeV : TT.fn qA = some Fv := by kernel_rfl
theorem abD : TT.fn uq = some Ci := by kernel_rfl
theorem abE : TT.fn eu = some Cj := by kernel_rfl
theorem afO : TT.fn yV = some Hr := by kernel_rfl
theorem afS : TT.fn zC = some H6 := by kernel_rfl
theorem V9 : TT.fn jH = some wF := by kernel_rfl
theorem V8 : TT.fn kK = some wE := by kernel_rfl
theorem abN : TT.fn uN = some CS := by kernel_rfl
theorem aeR : TT.fn qm = some Fh := by kernel_rfl
theorem acQ : TT.fn ug = some Qq := by kernel_rfl
theorem VZ : TT.fn fM = some Hu := by kernel_rfl
theorem z_ : TT.fn mW = some J9 := by kernel_rfl
theorem alo : TT.fn B_ = some Qp := by kernel_rfl
theorem afQ : TT.fn sQ = some Hy := by kernel_rfl
theorem abH : TT.fn je = some CB := by kernel_rfl
theorem alq : TT.fn GR = some Qu := by kernel_rfl
theorem ZY : TT.fn fF = some MQ := by kernel_rfl
theorem afR : TT.fn wK = some Hz := by kernel_rfl
theorem aeN : TT.fn lV = some Fa := by kernel_rfl
theorem ah7 : TT.fn wM = some Kr := by kernel_rfl
theorem aj3 : TT.fn Gp = some MP := by kernel_rfl
theorem alp : TT.fn GK = some Qr := by kernel_rfl
theorem aeD : TT.fn iH = some EP := by kernel_rfl
theorem aeE : TT.fn pY = some ES := by kernel_rfl
theorem ah5 : TT.fn yO = some J_ := by kernel_rfl
theorem aj1 : TT.fn Bo = some ML := by kernel_rfl
theorem Py : TT.fn slices_Reverse_string = some oP := by kernel_rfl
theorem aeL : TT.fn qj = some E8 := by kernel_rfl
theorem aj6 : TT.fn zu = some MR := by kernel_rfl
theorem als : TT.fn Ae = some Qy := by kernel_rfl
theorem alr : TT.fn nat_bit = some Qx := by kernel_rfl
theorem aj2 : TT.fn BH = some MO := by kernel_rfl
theorem afL : TT.fn sD = some Hl := by kernel_rfl
theorem ZX : TT.fn zo = some MN := by kernel_rfl
theorem Ym : TT.fn BG = some Kq := by kernel_rfl
theorem ah8 : TT.fn BI = some Kt := by kernel_rfl
theorem ah6 : TT.fn BF = some Ko := by kernel_rfl
theorem ah3 : TT.fn Bj = some J5 := by kernel_rfl
theorem aeF : TT.fn kQ = some EU := by kernel_rfl
end Go.Ev.Code
end
