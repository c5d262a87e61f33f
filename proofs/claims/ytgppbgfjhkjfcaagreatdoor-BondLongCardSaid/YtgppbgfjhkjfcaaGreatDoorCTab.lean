/- A part of the proof of planLone_card, bondLong_card. -/
import Derived.KernelRfl
import Derived.Test.YtgppbgfjhkjfcaaGreatDoorCCodeA
import Derived.Test.YtgppbgfjhkjfcaaGreatDoorCCodeB
import Derived.Test.YtgppbgfjhkjfcaaGreatDoorCCodeC
import Derived.Test.YtgppbgfjhkjfcaaGreatDoorCFlat
set_option linter.unusedVariables false
section
namespace Go.Ev.Code
open Go.Ev
def ft0 : List (Nat × EF) := [(oJ, Ku), (qA, MS), (gY, mG), (gX, mF), (dO, O0), (eP, rW), (iF, tJ), (bY, mJ), (iU, LK), (fD, rX), (gW, yZ), (tX, FD), (nR, Dl), (gJ, xO), (qN, LC), (jr, qm), (jd, Dc), (NT, aiy), (xw, abD), (wF, ac1), (wV, Xn), (pU, QF), (dY, y8), (iL, y7), (jB, Ad), (jA, Ac), (CS, aiB), (gZ, vX), (fE, rY), (kE, tK), (dF, qo), (jG, vY), (rF, y5), (slices_Reverse_int, qp), (eH, Fv), (lI, Dp), (qM, Lp), (fO, Af), (eF, Dj), (nZ, yT)]
def ft1 : List (Nat × EF) := [(qY, HY), (iV, AU), (kU, Ae), (gB, oD), (dJ, NZ), (gG, oG), (xR, Fh), (xU, Fj), (tH, Fp), (w_, abA), (FX, aeZ), (En, aix), (jD, A_), (wR, Xm), (bM, Hz), (gV, OY), (bD, AL), (eX, AA), (yD, YP), (bJ, AX), (bZ, A8), (bT, yX), (lS, LM), (zh, ac2), (qE, Fz), (kZ, AY), (Gj, ae_), (jq, OZ), (fZ, AZ), (zV, abE), (yH, YQ), (Oo, aiD), (pV, QG), (gU, yY), (oC, Ll), (nM, Df), (iw, D_), (Gi, ae9), (iI, tV), (jv, tN)]
def ft2 : List (Nat × EF) := [(nY, AQ), (wE, Dq), (nO, Ag), (xX, Fq), (Cc, Lr), (kX, AB), (rH, Ib), (oq, O1), (iY, QK), (lT, QI), (dK, yS), (kJ, FB), (jX, AV), (CJ, ae8), (kY, AO), (IC, aiC), (fG, LJ), (fK, OX), (bC, Az), (fV, Aq), (fQ, Aj), (iR, Ak), (jU, Au), (yC, YO), (dR, yV), (kV, Ap), (fU, Am), (uD, Ah), (qh, Di), (uJ, abC), (sQ, Xi), (yN, Lm), (JJ, agW), (mY, NY), (pO, QD), (xY, ae2), (qR, YL), (N8, aiz), (gQ, yU), (sO, Ls)]
def ft3 : List (Nat × EF) := [(nV, AP), (rO, Rw), (oK, Uk), (lJ, Un), (fM, Uo), (uj, Ur), (vg, Vs), (rM, Ru), (lU, QJ), (Oe, aiA), (jS, LD), (dX, H_), (bP, xP), (jV, Aw), (tY, Dn), (t_, FK), (BM, H9), (qU, yR), (vS, Dh), (fA, Dt), (B_, ae0), (BI, agU), (iC, Ic), (Cb, ae1), (x9, H6), (qK, abG), (zl, ac3), (pR, QE), (uy, abB), (slices_Reverse_string, mM), (Cj, Lu), (kD, Ry), (rP, Rx), (pW, QH), (jh, Um), (wu, Ia), (xu, LH), (nat_bit, LG), (yx, H8), (qg, C_)]
def ft4 : List (Nat × EF) := [(wo, H7), (yw, FI), (yA, FM), (yu, FH), (ji, F8), (jC, Ai), (lM, MV), (Jr, agV), (yc, YM), (F6, ae3), (F7, ae4), (pJ, QB), (nT, Ar), (yt, YN), (uh, Ul), (oL, Us), (Ez, agT), (C9, acZ), (Cm, ae5), (wQ, Xl), (pK, QC), (lX, Xk), (wP, Xj), (Du, ac0), (qC, GV), (CB, ae6), (oZ, Dk), (CG, ae7), (uU, Vr), (fH, vW), (iW, xE)]
def abX : List (Nat × EF) := ft0 ++ (ft1 ++ (ft2 ++ (ft3 ++ (ft4))))
end Go.Ev.Code
end
section
namespace Go.Ev.Code
open Go Go.Ev
def W : Nat := 18446744073709551616
@[simp] abbrev aG (n : Nat) : D := .int .u64 n
def strip (p : UInt8 → Bool) : List UInt8 → List UInt8
 | [] => []
 | b :: bs => if p b then strip p bs else b :: bs
def cutAt (sep : UInt8) : List UInt8 → List UInt8 → Option (List UInt8 × List UInt8)
 | _, [] => none
 | acc, b :: bs => if b == sep then some (acc.reverse, bs) else cutAt sep (b :: acc) bs
def decDigits : Nat → Nat → List UInt8 → List UInt8
 | 0, _, acc => acc
 | f + 1, n, acc => if n / 10 = 0 then UInt8.ofNat (48 + n % 10) :: acc else decDigits f (n / 10) (UInt8.ofNat (48 + n % 10) :: acc)
def xk (n : Nat) : List UInt8 := decDigits 100 n []
def zQ : Nat → List UInt8 → Option Nat
 | n, [] => some n
 | n, b :: bs => if 48 ≤ b.toNat ∧ b.toNat ≤ 57 then zQ (n * 10 + (b.toNat - 48)) bs else none
def vZ (sep : List UInt8) : List (List UInt8) → List UInt8
 | [] => []
 | [x] => x
 | x :: y :: xs => x ++ sep ++ vZ sep (y :: xs)
def strs : List D → Option (List (List UInt8))
 | [] => some []
 | .str s :: ds => (strs ds).bind fun r => some (s :: r)
 | _ => none
def u64 (n : Int) : Prop := 0 ≤ n ∧ n < 18446744073709551616
instance (n : Int) : Decidable (u64 n) := inferInstanceAs (Decidable (_ ∧ _))
def Oi : List D → Mem → RV
 | [.int .u64 x, .int .u64 y], m => if u64 x ∧ u64 y then some (.aS [aG (x.toNat * y.toNat / W), aG (x.toNat * y.toNat % W)], m) else none
 | _, _ => none
def Og : List D → Mem → RV
 | [.int .u64 x, .int .u64 y, .int .u64 c], m => if u64 x ∧ u64 y ∧ 0 ≤ c ∧ c ≤ 1 then some (.aS [aG ((x.toNat + y.toNat + c.toNat) % W), aG ((x.toNat + y.toNat + c.toNat) / W)], m) else none
 | _, _ => none
def Oj : List D → Mem → RV
 | [.int .u64 x, .int .u64 y, .int .u64 c], m => if u64 x ∧ u64 y ∧ 0 ≤ c ∧ c ≤ 1 then some (.aS [aG ((x.toNat + W - y.toNat - c.toNat) % W), aG (if x.toNat < y.toNat + c.toNat then 1 else 0)], m) else none
 | _, _ => none
def width (x : Nat) : Nat := if x = 0 then 0 else x.log2 + 1
def EI : List D → Mem → RV
 | [.int .u64 x], m => if u64 x then some (.int .i64 (64 - width x.toNat : Nat), m) else none
 | _, _ => none
def trail : Nat → Nat → Nat
 | 0, _ => 0
 | f + 1, x => if x % 2 = 1 then 0 else trail f (x / 2) + 1
def Gg : List D → Mem → RV
 | [.int .u64 x], m => if u64 x then some (.int .i64 (trail 64 x.toNat : Nat), m) else none
 | _, _ => none
def Oh : List D → Mem → RV
 | [.int .u64 x, .int .i64 10], m => if u64 x then some (.str (xk x.toNat), m) else none
 | _, _ => none
def ab1 : List D → Mem → RV
 | [.int .i64 n], m => if -9223372036854775808 ≤ n ∧ n ≤ 9223372036854775807 then some (.str (if n < 0 then 45 :: xk n.natAbs else xk n.natAbs), m) else none
 | _, _ => none
def Iz : List D → Mem → RV
 | [.str s, .int .i64 n], m => if 0 ≤ n ∧ n ≤ 1000000 ∧ s.length ≤ 1000 then some (.str ((List.replicate n.toNat s).flatten), m) else none
 | _, _ => none
def Pg : List D → Mem → RV
 | [.sl n cs, .str sep], m => (strs cs).bind fun ss => if n = cs.length ∧ n ≤ 4294967296 ∧ (vZ sep ss).length ≤ 1000000 then some (.str (vZ sep ss), m) else none
 | _, _ => none
def adQ : List D → Mem → RV
 | [.str s, .str [sep]], m => if s.length < 4294967281 then (match cutAt sep [] s with
   | some (a, b) => some (.aS [.str a, .str b, .bool true], m)
   | none => some (.aS [.str s, .str [], .bool false], m)) else none
 | _, _ => none
def zf : List D → Mem → RV
 | [.str s, .str p], m => if p.isPrefixOf s then some (.aS [.str (s.drop p.length), .bool true], m) else some (.aS [.str s, .bool false], m)
 | _, _ => none
def jR : List UInt8 := [48, 49, 50, 51, 52, 53, 54, 55, 56, 57]
def pTrim : List D → Mem → RV
 | [.str s, .str cs], m => if cs = jR ∧ s.length ≤ 1000000 then some (.str (strip (fun b => jR.contains b) (strip (fun b => jR.contains b) s.reverse).reverse), m) else none
 | _, _ => none
def CQ : List D → Mem → RV
 | [.str s, .str [c]], m => if c.toNat < 128 ∧ s.length ≤ 1000000 then some (.str (strip (fun b => b == c) s), m) else none
 | _, _ => none
def SE : List D → Mem → RV
 | [.str s, .int .i64 10, .int .i64 64], m => if s ≠ [] ∧ s.length ≤ 18 then (zQ 0 s).bind fun n => some (.aS [aG n, .aB], m) else none
 | _, _ => none
def abZ : List D → Mem → RV
 | [.aB], m => some (.int .i64 0, m)
 | [.iface t d], m => if t = jc then (match d with
     | .int .i64 n => some (.int .i64 n, m)
     | _ => none)
   else if t = h_ then (match d with
    | .ref (.int .i64 n :: _) 0 => some (.int .i64 n, m)
    | _ => none)
   else none
 | _, _ => none
def SC : List D → Mem → RV
 | [.sl 0 []], m => some (.sl 0 [], m)
 | [.sl n cs], m => if 0 < n ∧ n = cs.length ∧ n ≤ 4294967296 then some (.aT m.length 0 n 1, m ++ [.live cs]) else none
 | _, _ => none
def Zp : List D → Mem → RV
 | [.iface t (.int _ _)], m => if t = jc then some (.iface wM (.agg [.raw hndB t]), m) else none
 | _, _ => none
def M_ : List D → Mem → RV
 | [.agg [.raw b t]], m => if b = hndB ∧ t = jc then some (.bool true, m) else none
 | _, _ => none
def TR : D := .ref [.int .i64 4, .str [97], .iface h_ (.ref [.int .i64 4, .str [98], .aB] 0)] 0
def adR : List D → Mem → RV
 | [.ref [.int .i64 4, .str [97], .iface t (.ref [.int .i64 4, .str [98], .aB] 0)] 0], m => if t = h_ then some (.str [97, 58, 32, 98, 58, 32, 101, 114, 114, 111, 114, 32, 52], m) else none
 | _, _ => none
def adS : List D → Mem → RV
 | [.sl 2 [.ref [.n_ ks] 0, .aK]], m => if ks.length ≤ 1000000 ∧ ks.all (fun k => decide (-9223372036854775808 ≤ k ∧ k ≤ 9223372036854775807)) = true then some (.ref [] 0, m) else none
 | _, _ => none
def adv : List (Nat × (List D → Mem → RV)) := [(bits_Mul64, Oi), (bits_Add64, Og), (bits_Sub64, Oj), (bits_LeadingZeros64, EI), (bits_TrailingZeros64, Gg),
 (d_, Oh), (strconv_Itoa, ab1), (strings_Repeat, Iz), (strings_Join, Pg), (strings_Cut, adQ), (strings_CutPrefix, zf), (jy, pTrim), (f_, CQ),
 (fF, SE), (j_, abZ), (cZ, SC), (fB, Zp), (dA, M_), (lQ, adR), (BA, adS)]
def Ba {α : Type} : List (Nat × α) → Nat → Option α
 | [], _ => none
 | (i, e) :: r, n => bif Nat.beq i n then some e else Ba r n
def TI (t : List (Nat × (List D → Mem → RV))) (f : Nat) (args : List D) (m : Mem) : RV := match Ba t f with
 | some p => p args m
 | none => none
end Go.Ev.Code
end
section
namespace Go.Ev.Code
open Go Go.Ev
def TT : Tab := ⟨Ba abX, TI adv⟩
noncomputable def L : aC := TT.lim
theorem Kr : TT.fn gY = some mG := by kernel_rfl
theorem Kq : TT.fn gX = some mF := by kernel_rfl
theorem Qy : TT.fn eP = some rW := by kernel_rfl
theorem Q5 : TT.fn iF = some tJ := by kernel_rfl
theorem jJ : TT.fn bY = some mJ := by kernel_rfl
theorem ZH : TT.fn iU = some LK := by kernel_rfl
theorem Qz : TT.fn fD = some rX := by kernel_rfl
theorem Yz : TT.fn gW = some yZ := by kernel_rfl
theorem aeF : TT.fn tX = some FD := by kernel_rfl
theorem acu : TT.fn nR = some Dl := by kernel_rfl
theorem WR : TT.fn gJ = some xO := by kernel_rfl
theorem BX : TT.fn qN = some LC := by kernel_rfl
theorem OJ : TT.fn jr = some qm := by kernel_rfl
theorem aco : TT.fn jd = some Dc := by kernel_rfl
theorem YC : TT.fn dY = some y8 := by kernel_rfl
theorem YB : TT.fn iL = some y7 := by kernel_rfl
theorem aa3 : TT.fn jB = some Ad := by kernel_rfl
theorem aa2 : TT.fn jA = some Ac := by kernel_rfl
theorem Vh : TT.fn gZ = some vX := by kernel_rfl
theorem QA : TT.fn fE = some rY := by kernel_rfl
theorem Q7 : TT.fn kE = some tK := by kernel_rfl
theorem OL : TT.fn dF = some qo := by kernel_rfl
theorem I_ : TT.fn jG = some vY := by kernel_rfl
theorem YA : TT.fn rF = some y5 := by kernel_rfl
theorem OM : TT.fn slices_Reverse_int = some qp := by kernel_rfl
theorem aeE : TT.fn eH = some Fv := by kernel_rfl
theorem I9 : TT.fn lI = some Dp := by kernel_rfl
theorem ZE : TT.fn qM = some Lp := by kernel_rfl
theorem aa5 : TT.fn fO = some Af := by kernel_rfl
theorem QZ : TT.fn eF = some Dj := by kernel_rfl
theorem Yu : TT.fn nZ = some yT := by kernel_rfl
theorem agB : TT.fn qY = some HY := by kernel_rfl
theorem abo : TT.fn iV = some AU := by kernel_rfl
theorem aa4 : TT.fn kU = some Ae := by kernel_rfl
theorem NM : TT.fn gB = some oD := by kernel_rfl
theorem NP : TT.fn gG = some oG := by kernel_rfl
theorem aeA : TT.fn xR = some Fh := by kernel_rfl
theorem aeB : TT.fn xU = some Fj := by kernel_rfl
theorem aeC : TT.fn tH = some Fp := by kernel_rfl
theorem abv : TT.fn jD = some A_ := by kernel_rfl
theorem agA : TT.fn bM = some Hz := by kernel_rfl
theorem ajG : TT.fn gV = some OY := by kernel_rfl
theorem abk : TT.fn bD = some AL := by kernel_rfl
theorem abh : TT.fn eX = some AA := by kernel_rfl
theorem abq : TT.fn bJ = some AX := by kernel_rfl
theorem abu : TT.fn bZ = some A8 := by kernel_rfl
theorem Yx : TT.fn bT = some yX := by kernel_rfl
theorem ah0 : TT.fn lS = some LM := by kernel_rfl
theorem MQ : TT.fn qE = some Fz := by kernel_rfl
theorem abr : TT.fn kZ = some AY := by kernel_rfl
theorem ajH : TT.fn jq = some OZ := by kernel_rfl
theorem abt : TT.fn fZ = some AZ := by kernel_rfl
theorem Yy : TT.fn gU = some yY := by kernel_rfl
theorem ahT : TT.fn oC = some Ll := by kernel_rfl
theorem acp : TT.fn nM = some Df := by kernel_rfl
theorem Q9 : TT.fn iI = some tV := by kernel_rfl
theorem Q8 : TT.fn jv = some tN := by kernel_rfl
theorem abn : TT.fn nY = some AQ := by kernel_rfl
theorem acw : TT.fn wE = some Dq := by kernel_rfl
theorem aa6 : TT.fn nO = some Ag := by kernel_rfl
theorem aeD : TT.fn xX = some Fq := by kernel_rfl
theorem ahV : TT.fn Cc = some Lr := by kernel_rfl
theorem abj : TT.fn kX = some AB := by kernel_rfl
theorem agG : TT.fn rH = some Ib := by kernel_rfl
theorem Yt : TT.fn dK = some yS := by kernel_rfl
theorem wZ : TT.fn kJ = some FB := by kernel_rfl
theorem abp : TT.fn jX = some AV := by kernel_rfl
theorem abl : TT.fn kY = some AO := by kernel_rfl
theorem ahZ : TT.fn fG = some LJ := by kernel_rfl
theorem ajF : TT.fn fK = some OX := by kernel_rfl
theorem abg : TT.fn bC = some Az := by kernel_rfl
theorem abb : TT.fn fV = some Aq := by kernel_rfl
theorem aa8 : TT.fn fQ = some Aj := by kernel_rfl
theorem aa9 : TT.fn iR = some Ak := by kernel_rfl
theorem abe : TT.fn jU = some Au := by kernel_rfl
theorem Yw : TT.fn dR = some yV := by kernel_rfl
theorem aa' : TT.fn kV = some Ap := by kernel_rfl
theorem aa_ : TT.fn fU = some Am := by kernel_rfl
theorem GR : TT.fn uD = some Ah := by kernel_rfl
theorem acs : TT.fn qh = some Di := by kernel_rfl
theorem ahU : TT.fn yN = some Lm := by kernel_rfl
theorem Yv : TT.fn gQ = some yU := by kernel_rfl
theorem ZF : TT.fn sO = some Ls := by kernel_rfl
theorem abm : TT.fn nV = some AP := by kernel_rfl
theorem ZG : TT.fn jS = some LD := by kernel_rfl
theorem WT : TT.fn dX = some H_ := by kernel_rfl
theorem Kz : TT.fn bP = some xP := by kernel_rfl
theorem abf : TT.fn jV = some Aw := by kernel_rfl
theorem acv : TT.fn tY = some Dn := by kernel_rfl
theorem aeH : TT.fn t_ = some FK := by kernel_rfl
theorem agE : TT.fn BM = some H9 := by kernel_rfl
theorem Yr : TT.fn qU = some yR := by kernel_rfl
theorem acr : TT.fn vS = some Dh := by kernel_rfl
theorem agC : TT.fn x9 = some H6 := by kernel_rfl
theorem Kt : TT.fn slices_Reverse_string = some mM := by kernel_rfl
theorem ahW : TT.fn Cj = some Lu := by kernel_rfl
theorem agF : TT.fn wu = some Ia := by kernel_rfl
theorem ahY : TT.fn xu = some LH := by kernel_rfl
theorem ahX : TT.fn nat_bit = some LG := by kernel_rfl
theorem agD : TT.fn yx = some H8 := by kernel_rfl
theorem acn : TT.fn qg = some C_ := by kernel_rfl
theorem WS : TT.fn wo = some H7 := by kernel_rfl
theorem UH : TT.fn yw = some FI := by kernel_rfl
theorem aeI : TT.fn yA = some FM := by kernel_rfl
theorem aeG : TT.fn yu = some FH := by kernel_rfl
theorem aa7 : TT.fn jC = some Ai := by kernel_rfl
theorem abd : TT.fn nT = some Ar := by kernel_rfl
end Go.Ev.Code
end
