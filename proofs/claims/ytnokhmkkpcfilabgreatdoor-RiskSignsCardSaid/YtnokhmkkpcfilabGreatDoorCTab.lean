/- A part of the proof of priceFalls_card, riskSigns_card, yieldBack_card, yieldEdge_card, yieldFalls_card. -/
import Derived.KernelRfl
import Derived.Test.YtnokhmkkpcfilabGreatDoorCCodeA
import Derived.Test.YtnokhmkkpcfilabGreatDoorCCodeB
import Derived.Test.YtnokhmkkpcfilabGreatDoorCCodeC
import Derived.Test.YtnokhmkkpcfilabGreatDoorCFlat
set_option linter.unusedVariables false
section
namespace Go.Ev.Code
open Go.Ev
def ft0 : List (Nat × EF) := [(iU, nN), (jr, oz), (jv, oC), (jw, oD), (iV, nO), (dO, VD), (iF, xB), (iQ, wK), (fV, GR), (iM, GX), (pI, BP), (KQ, SE), (yH, G8), (iE, DZ), (gZ, Jr), (jQ, VB), (jq, GV), (iO, G7), (iR, wL), (yK, Ou), (mG, yN), (nJ, zN), (sO, Xk), (qA, SA), (zh, Si), (Dv, RQ), (jo, GU), (uo, Jo), (sW, Xp), (lJ, Jd), (gu, D5), (lF, Gg), (lD, Gf), (Bc, Sz), (lg, xC), (dN, G6), (bZ, GI), (dw, GY), (nY, Gz), (jH, VA)]
def ft1 : List (Nat × EF) := [(iq, Gy), (yI, G_), (wC, D6), (nI, SC), (gV, G5), (Bj, SG), (uS, G9), (lH, GZ), (dI, DT), (cZ, Oe), (wz, Oq), (nZ, GK), (uX, RZ), (lq, t_), (mJ, yO), (vY, DW), (slices_Reverse_int, uf), (gW, LM), (qX, DL), (rX, Og), (nU, Gh), (uH, F9), (Cj, LD), (Du, RP), (rY, BO), (wo, DY), (xR, Jp), (uJ, LQ), (Df, L8), (kX, DV), (sZ, Xq), (CB, LG), (CG, LH), (xA, LJ), (jY, BM), (jG, DU), (rE, RS), (qI, Je), (gG, kT), (xP, L6)]
def ft2 : List (Nat × EF) := [(iJ, Sv), (bW, Gx), (jm, Gt), (qR, GL), (jc, Vz), (ji, Gn), (kC, Gp), (mW, Gv), (qQ, GH), (IW, SB), (nV, Gs), (jl, Gq), (xE, LP), (fK, DR), (mP, Sj), (IG, R_), (qU, GN), (vZ, DX), (yA, Gl), (tY, Jg), (oI, Jl), (uV, RX), (gJ, Jh), (nC, LU), (wX, abI), (Dz, RU), (Qu, alr), (qg, UM), (sU, Xn), (CO, ajC), (vC, adw), (fC, DK), (UO, ane), (um, Jj), (jE, DN), (dD, BN), (gq, Om), (mX, Gw), (KI, Sr), (xK, Jk)]
def ft3 : List (Nat × EF) := [(xO, LY), (Ib, Ol), (qM, Gu), (vF, DJ), (zJ, Jf), (Af, Jm), (jh, Gi), (qJ, Gj), (Iz, RY), (zA, LV), (iD, Jq), (Iw, ajA), (H7, alp), (jS, Ot), (Iy, ajB), (CQ, Oh), (uT, agl), (EX, ahC), (sV, Xo), (yt, agk), (slices_Reverse_string, pU), (zY, Oo), (A_, Sm), (nat_bit, Sl), (C9, Oj), (tV, Jc), (zX, Oi), (CZ, LX), (C_, LZ), (CY, LW), (CJ, LK), (kR, MN), (lG, Gm), (oU, TP), (P8, alq), (CS, adx), (MK, ajD), (ML, ajE), (sQ, Xl), (CX, ady)]
def ft4 : List (Nat × EF) := [(KA, alo), (Jb, ahA), (II, ajF), (AL, abL), (sS, Xm), (o9, abK), (AB, abJ), (Js, ahB), (uI, ND), (IK, ajG), (rW, Ji), (IL, ajH), (y8, aaq), (iY, zM), (kH, Bv)]
def agB : List (Nat × EF) := ft0 ++ (ft1 ++ (ft2 ++ (ft3 ++ (ft4))))
end Go.Ev.Code
end
section
namespace Go.Ev.Code
open Go Go.Ev
def W : Nat := 18446744073709551616
@[simp] abbrev aT (n : Nat) : D := .int .u64 n
def strip (p : UInt8 → Bool) : List UInt8 → List UInt8
 | [] => []
 | b :: bs => if p b then strip p bs else b :: bs
def cutAt (sep : UInt8) : List UInt8 → List UInt8 → Option (List UInt8 × List UInt8)
 | _, [] => none
 | acc, b :: bs => if b == sep then some (acc.reverse, bs) else cutAt sep (b :: acc) bs
def decDigits : Nat → Nat → List UInt8 → List UInt8
 | 0, _, acc => acc
 | f + 1, n, acc => if n / 10 = 0 then UInt8.ofNat (48 + n % 10) :: acc else decDigits f (n / 10) (UInt8.ofNat (48 + n % 10) :: acc)
def A8 (n : Nat) : List UInt8 := decDigits 100 n []
def FT : Nat → List UInt8 → Option Nat
 | n, [] => some n
 | n, b :: bs => if 48 ≤ b.toNat ∧ b.toNat ≤ 57 then FT (n * 10 + (b.toNat - 48)) bs else none
def zQ (sep : List UInt8) : List (List UInt8) → List UInt8
 | [] => []
 | [x] => x
 | x :: y :: xs => x ++ sep ++ zQ sep (y :: xs)
def strs : List D → Option (List (List UInt8))
 | [] => some []
 | .str s :: ds => (strs ds).bind fun r => some (s :: r)
 | _ => none
def u64 (n : Int) : Prop := 0 ≤ n ∧ n < 18446744073709551616
instance (n : Int) : Decidable (u64 n) := inferInstanceAs (Decidable (_ ∧ _))
def U2 : List D → Mem → RV
 | [.int .u64 x, .int .u64 y], m => if u64 x ∧ u64 y then some (.aZ [aT (x.toNat * y.toNat / W), aT (x.toNat * y.toNat % W)], m) else none
 | _, _ => none
def U0 : List D → Mem → RV
 | [.int .u64 x, .int .u64 y, .int .u64 c], m => if u64 x ∧ u64 y ∧ 0 ≤ c ∧ c ≤ 1 then some (.aZ [aT ((x.toNat + y.toNat + c.toNat) % W), aT ((x.toNat + y.toNat + c.toNat) / W)], m) else none
 | _, _ => none
def U3 : List D → Mem → RV
 | [.int .u64 x, .int .u64 y, .int .u64 c], m => if u64 x ∧ u64 y ∧ 0 ≤ c ∧ c ≤ 1 then some (.aZ [aT ((x.toNat + W - y.toNat - c.toNat) % W), aT (if x.toNat < y.toNat + c.toNat then 1 else 0)], m) else none
 | _, _ => none
def width (x : Nat) : Nat := if x = 0 then 0 else x.log2 + 1
def KJ : List D → Mem → RV
 | [.int .u64 x], m => if u64 x then some (.int .i64 (64 - width x.toNat : Nat), m) else none
 | _, _ => none
def trail : Nat → Nat → Nat
 | 0, _ => 0
 | f + 1, x => if x % 2 = 1 then 0 else trail f (x / 2) + 1
def MS : List D → Mem → RV
 | [.int .u64 x], m => if u64 x then some (.int .i64 (trail 64 x.toNat : Nat), m) else none
 | _, _ => none
def U1 : List D → Mem → RV
 | [.int .u64 x, .int .i64 10], m => if u64 x then some (.str (A8 x.toNat), m) else none
 | _, _ => none
def agF : List D → Mem → RV
 | [.int .i64 n], m => if -9223372036854775808 ≤ n ∧ n ≤ 9223372036854775807 then some (.str (if n < 0 then 45 :: A8 n.natAbs else A8 n.natAbs), m) else none
 | _, _ => none
def OV : List D → Mem → RV
 | [.str s, .int .i64 n], m => if 0 ≤ n ∧ n ≤ 1000000 ∧ s.length ≤ 1000 then some (.str ((List.replicate n.toNat s).flatten), m) else none
 | _, _ => none
def VW : List D → Mem → RV
 | [.sl n cs, .str sep], m => (strs cs).bind fun ss => if n = cs.length ∧ n ≤ 4294967296 ∧ (zQ sep ss).length ≤ 1000000 then some (.str (zQ sep ss), m) else none
 | _, _ => none
def aif : List D → Mem → RV
 | [.str s, .str [sep]], m => if s.length < 4294967281 then (match cutAt sep [] s with
   | some (a, b) => some (.aZ [.str a, .str b, .bool true], m)
   | none => some (.aZ [.str s, .str [], .bool false], m)) else none
 | _, _ => none
def EN : List D → Mem → RV
 | [.str s, .str p], m => if p.isPrefixOf s then some (.aZ [.str (s.drop p.length), .bool true], m) else some (.aZ [.str s, .bool false], m)
 | _, _ => none
def mO : List UInt8 := [48, 49, 50, 51, 52, 53, 54, 55, 56, 57]
def pTrim : List D → Mem → RV
 | [.str s, .str cs], m => if cs = mO ∧ s.length ≤ 1000000 then some (.str (strip (fun b => mO.contains b) (strip (fun b => mO.contains b) s.reverse).reverse), m) else none
 | _, _ => none
def IU : List D → Mem → RV
 | [.str s, .str [c]], m => if c.toNat < 128 ∧ s.length ≤ 1000000 then some (.str (strip (fun b => b == c) s), m) else none
 | _, _ => none
def Yo : List D → Mem → RV
 | [.str s, .int .i64 10, .int .i64 64], m => if s ≠ [] ∧ s.length ≤ 18 then (FT 0 s).bind fun n => some (.aZ [aT n, .aF], m) else none
 | _, _ => none
def agE : List D → Mem → RV
 | [.aF], m => some (.int .i64 0, m)
 | [.iface t d], m => if t = kK then (match d with
     | .int .i64 n => some (.int .i64 n, m)
     | _ => none)
   else if t = jO then (match d with
    | .ref (.int .i64 n :: _) 0 => some (.int .i64 n, m)
    | _ => none)
   else none
 | _, _ => none
def Yn : List D → Mem → RV
 | [.sl 0 []], m => some (.sl 0 [], m)
 | [.sl n cs], m => if 0 < n ∧ n = cs.length ∧ n ≤ 4294967296 then some (.bg m.length 0 n 1, m ++ [.live cs]) else none
 | _, _ => none
def adL : List D → Mem → RV
 | [.iface t (.int _ _)], m => if t = kK then some (.iface Ar (.agg [.raw hndB t]), m) else none
 | _, _ => none
def TV : List D → Mem → RV
 | [.agg [.raw b t]], m => if b = hndB ∧ t = kK then some (.bool true, m) else none
 | _, _ => none
def Y3 : D := .ref [.int .i64 4, .str [97], .iface jO (.ref [.int .i64 4, .str [98], .aF] 0)] 0
def aii : List D → Mem → RV
 | [.ref [.int .i64 4, .str [97], .iface t (.ref [.int .i64 4, .str [98], .aF] 0)] 0], m => if t = jO then some (.str [97, 58, 32, 98, 58, 32, 101, 114, 114, 111, 114, 32, 52], m) else none
 | _, _ => none
def aij : List D → Mem → RV
 | [.sl 2 [.ref [.qY ks] 0, .aK]], m => if ks.length ≤ 1000000 ∧ ks.all (fun k => decide (-9223372036854775808 ≤ k ∧ k ≤ 9223372036854775807)) = true then some (.ref [] 0, m) else none
 | _, _ => none
def ahU : List (Nat × (List D → Mem → RV)) := [(bits_Mul64, U2), (bits_Add64, U0), (bits_Sub64, U3), (bits_LeadingZeros64, KJ), (bits_TrailingZeros64, MS),
 (gI, U1), (strconv_Itoa, agF), (strings_Repeat, OV), (strings_Join, VW), (strings_Cut, aif), (strings_CutPrefix, EN), (lC, pTrim), (jy, IU),
 (iT, Yo), (iG, agE), (dW, Yn), (iI, adL), (eP, TV), (oW, aii), (Hz, aij)]
def Hf {α : Type} : List (Nat × α) → Nat → Option α
 | [], _ => none
 | (i, e) :: r, n => bif Nat.beq i n then some e else Hf r n
def YR (t : List (Nat × (List D → Mem → RV))) (f : Nat) (args : List D) (m : Mem) : RV := match Hf t f with
 | some p => p args m
 | none => none
end Go.Ev.Code
end
section
namespace Go.Ev.Code
open Go Go.Ev
def TT : Tab := ⟨Hf agB, YR ahU⟩
noncomputable def L : aA := TT.lim
theorem tN : TT.fn iU = some nN := by kernel_rfl
theorem vw : TT.fn jr = some oz := by kernel_rfl
theorem Ce : TT.fn jv = some oC := by kernel_rfl
theorem Ci : TT.fn jw = some oD := by kernel_rfl
theorem BH : TT.fn iV = some nO := by kernel_rfl
theorem XI : TT.fn iF = some xB := by kernel_rfl
theorem Xi : TT.fn iQ = some wK := by kernel_rfl
theorem Nw : TT.fn fV = some GR := by kernel_rfl
theorem af' : TT.fn iM = some GX := by kernel_rfl
theorem BI : TT.fn pI = some BP := by kernel_rfl
theorem XK : TT.fn KQ = some SE := by kernel_rfl
theorem F7 : TT.fn yH = some G8 := by kernel_rfl
theorem adf : TT.fn iE = some DZ := by kernel_rfl
theorem yV : TT.fn gZ = some Jr := by kernel_rfl
theorem aoo : TT.fn jQ = some VB := by kernel_rfl
theorem af_ : TT.fn jq = some GV := by kernel_rfl
theorem agd : TT.fn iO = some G7 := by kernel_rfl
theorem Xj : TT.fn iR = some wL := by kernel_rfl
theorem Vp : TT.fn yK = some Ou := by kernel_rfl
theorem Zl : TT.fn mG = some yN := by kernel_rfl
theorem Px : TT.fn nJ = some zN := by kernel_rfl
theorem aef : TT.fn qA = some SA := by kernel_rfl
theorem Iq : TT.fn zh = some Si := by kernel_rfl
theorem XG : TT.fn Dv = some RQ := by kernel_rfl
theorem wW : TT.fn jo = some GU := by kernel_rfl
theorem I8 : TT.fn uo = some Jo := by kernel_rfl
theorem ag0 : TT.fn lJ = some Jd := by kernel_rfl
theorem adg : TT.fn gu = some D5 := by kernel_rfl
theorem afN : TT.fn lF = some Gg := by kernel_rfl
theorem afM : TT.fn lD = some Gf := by kernel_rfl
theorem amx : TT.fn Bc = some Sz := by kernel_rfl
theorem XJ : TT.fn lg = some xC := by kernel_rfl
theorem agc : TT.fn dN = some G6 := by kernel_rfl
theorem af6 : TT.fn bZ = some GI := by kernel_rfl
theorem aga : TT.fn dw = some GY := by kernel_rfl
theorem af4 : TT.fn nY = some Gz := by kernel_rfl
theorem aon : TT.fn jH = some VA := by kernel_rfl
theorem af2 : TT.fn iq = some Gy := by kernel_rfl
theorem agf : TT.fn yI = some G_ := by kernel_rfl
theorem Uy : TT.fn wC = some D6 := by kernel_rfl
theorem aeh : TT.fn nI = some SC := by kernel_rfl
theorem agb : TT.fn gV = some G5 := by kernel_rfl
theorem amy : TT.fn Bj = some SG := by kernel_rfl
theorem Az : TT.fn uS = some G9 := by kernel_rfl
theorem WE : TT.fn lH = some GZ := by kernel_rfl
theorem ac9 : TT.fn dI = some DT := by kernel_rfl
theorem ak3 : TT.fn cZ = some Oe := by kernel_rfl
theorem ak9 : TT.fn wz = some Oq := by kernel_rfl
theorem af7 : TT.fn nZ = some GK := by kernel_rfl
theorem aec : TT.fn uX = some RZ := by kernel_rfl
theorem I9 : TT.fn lq = some t_ := by kernel_rfl
theorem NZ : TT.fn mJ = some yO := by kernel_rfl
theorem ada : TT.fn vY = some DW := by kernel_rfl
theorem Vo : TT.fn slices_Reverse_int = some uf := by kernel_rfl
theorem ajc : TT.fn gW = some LM := by kernel_rfl
theorem ac6 : TT.fn qX = some DL := by kernel_rfl
theorem ak4 : TT.fn rX = some Og := by kernel_rfl
theorem afO : TT.fn nU = some Gh := by kernel_rfl
theorem Nu : TT.fn uH = some F9 := by kernel_rfl
theorem ZA : TT.fn Cj = some LD := by kernel_rfl
theorem XF : TT.fn Du = some RP := by kernel_rfl
theorem BG : TT.fn rY = some BO := by kernel_rfl
theorem ade : TT.fn wo = some DY := by kernel_rfl
theorem Pv : TT.fn xR = some Jp := by kernel_rfl
theorem TK : TT.fn uJ = some LQ := by kernel_rfl
theorem aji : TT.fn Df = some L8 := by kernel_rfl
theorem ac' : TT.fn kX = some DV := by kernel_rfl
theorem ai_ : TT.fn CB = some LG := by kernel_rfl
theorem ai' : TT.fn CG = some LH := by kernel_rfl
theorem aja : TT.fn xA = some LJ := by kernel_rfl
theorem abm : TT.fn jY = some BM := by kernel_rfl
theorem ac_ : TT.fn jG = some DU := by kernel_rfl
theorem amo : TT.fn rE = some RS := by kernel_rfl
theorem ag1 : TT.fn qI = some Je := by kernel_rfl
theorem Ko : TT.fn gG = some kT := by kernel_rfl
theorem ajh : TT.fn xP = some L6 := by kernel_rfl
theorem amw : TT.fn iJ = some Sv := by kernel_rfl
theorem af0 : TT.fn bW = some Gx := by kernel_rfl
theorem afW : TT.fn jm = some Gt := by kernel_rfl
theorem af8 : TT.fn qR = some GL := by kernel_rfl
theorem aom : TT.fn jc = some Vz := by kernel_rfl
theorem afS : TT.fn ji = some Gn := by kernel_rfl
theorem afT : TT.fn kC = some Gp := by kernel_rfl
theorem afY : TT.fn mW = some Gv := by kernel_rfl
theorem af5 : TT.fn qQ = some GH := by kernel_rfl
theorem aeg : TT.fn IW = some SB := by kernel_rfl
theorem afV : TT.fn nV = some Gs := by kernel_rfl
theorem afU : TT.fn jl = some Gq := by kernel_rfl
theorem uG : TT.fn xE = some LP := by kernel_rfl
theorem ac8 : TT.fn fK = some DR := by kernel_rfl
theorem aed : TT.fn mP = some Sj := by kernel_rfl
theorem ams : TT.fn IG = some R_ := by kernel_rfl
theorem af9 : TT.fn qU = some GN := by kernel_rfl
theorem adb : TT.fn vZ = some DX := by kernel_rfl
theorem Nv : TT.fn yA = some Gl := by kernel_rfl
theorem ag3 : TT.fn tY = some Jg := by kernel_rfl
theorem Pq : TT.fn oI = some Jl := by kernel_rfl
theorem aeb : TT.fn uV = some RX := by kernel_rfl
theorem XH : TT.fn gJ = some Jh := by kernel_rfl
theorem AX : TT.fn nC = some LU := by kernel_rfl
theorem amq : TT.fn Dz = some RU := by kernel_rfl
theorem ac5 : TT.fn fC = some DK := by kernel_rfl
theorem ag4 : TT.fn um = some Jj := by kernel_rfl
theorem ac7 : TT.fn jE = some DN := by kernel_rfl
theorem QX : TT.fn dD = some BN := by kernel_rfl
theorem abo : TT.fn gq = some Om := by kernel_rfl
theorem afZ : TT.fn mX = some Gw := by kernel_rfl
theorem aee : TT.fn KI = some Sr := by kernel_rfl
theorem ag5 : TT.fn xK = some Jk := by kernel_rfl
theorem ajf : TT.fn xO = some LY := by kernel_rfl
theorem ak7 : TT.fn Ib = some Ol := by kernel_rfl
theorem afX : TT.fn qM = some Gu := by kernel_rfl
theorem ac4 : TT.fn vF = some DJ := by kernel_rfl
theorem ag2 : TT.fn zJ = some Jf := by kernel_rfl
theorem ag6 : TT.fn Af = some Jm := by kernel_rfl
theorem afP : TT.fn jh = some Gi := by kernel_rfl
theorem afQ : TT.fn qJ = some Gj := by kernel_rfl
theorem amr : TT.fn Iz = some RY := by kernel_rfl
theorem ajd : TT.fn zA = some LV := by kernel_rfl
theorem ak5 : TT.fn CQ = some Oh := by kernel_rfl
theorem QT : TT.fn slices_Reverse_string = some pU := by kernel_rfl
theorem ak8 : TT.fn zY = some Oo := by kernel_rfl
theorem amv : TT.fn A_ = some Sm := by kernel_rfl
theorem amu : TT.fn nat_bit = some Sl := by kernel_rfl
theorem ak6 : TT.fn C9 = some Oj := by kernel_rfl
theorem agZ : TT.fn tV = some Jc := by kernel_rfl
theorem abn : TT.fn zX = some Oi := by kernel_rfl
theorem ZB : TT.fn CZ = some LX := by kernel_rfl
theorem ajg : TT.fn C_ = some LZ := by kernel_rfl
theorem aje : TT.fn CY = some LW := by kernel_rfl
theorem ajb : TT.fn CJ = some LK := by kernel_rfl
theorem afR : TT.fn lG = some Gm := by kernel_rfl
end Go.Ev.Code
end
