/- A part of the proof of planLone_card, bondLong_card. -/
import Derived.Stop.Asserts
import Derived.Test.YtgppbgfjhkjfcaaGreatDoorCBase
set_option linter.unusedVariables false
section
namespace Go.Ev
abbrev Env := List (Nat × D)
def look : Env → Nat → Option D
 | [], _ => none
 | (t, d) :: e, x => bif Nat.beq t x then some d else look e x
inductive zK where
 | t (n : Nat)
 | k (d : D)
 deriving Inhabited
def zK.ev (e : Env) : zK → Option D
 | .t n => look e n
 | .k d => some d
def D.one : D → Bool
 | .undef | .agg _ | .aS _ => false
 | _ => true
def dN : D → Option (List D)
 | .agg ds => some ds
 | .undef | .aS _ => none
 | d => some [d]
def D.clo (n : Nat) : Nat → D → Bool
 | 0, _ => false
 | f + 1, d => match d with
   | .undef => false
   | .loc b _ | .aT b _ _ _ | .lmap b => decide (b < n)
   | .agg ds | .aS ds | .func _ ds => ds.all (D.clo n f)
   | .iface _ d => D.clo n f d
   | _ => true
inductive Ex where
 | normal
 | exit (id : Nat)
 | ret
 deriving Inhabited
def NV (m : Mem) : D → Option (List D × Nat)
 | .loc b off => match m[b]? with
   | some (.live cs) | some (.fJ cs) => some (cs, off)
   | _ => none
 | .ref cs off => some (cs, off)
 | _ => none
def slc (m : Mem) (esz : Nat) : D → Option (List D × Nat × Nat)
 | .bK => some ([], 0, 0)
 | .sl len cs => some (cs, 0, len)
 | .aT b off len e => bif Nat.beq e esz then (match m[b]? with
   | some (.live cs) | some (.fJ cs) => some (cs, off, len)
   | _ => none) else none
 | _ => none
def zI (cells : List D) (off : Nat) : List D → List D
 | [] => cells
 | d :: ds => zI (cells.set off d) (off + 1) ds
def kQ (cells : List D) (off n : Nat) : Option (List D) :=
 if off + n ≤ cells.length then some ((cells.drop off).take n) else none
def kC (f : D → Mem → Option (D × Mem)) : List D → Mem → Option (List D × Mem)
 | [], m => some ([], m)
 | d :: ds, m => (f d m).bind fun r => (kC f ds r.2).bind fun rs => some (r.1 :: rs.1, rs.2)
def fz : Nat → D → Mem → Option (D × Mem)
 | 0, _, _ => none
 | n + 1, d, m => match d with
   | .undef => none
   | .loc b off => match m[b]? with
     | some (.fJ cs) => some (.ref cs off, m)
     | some (.live cs) => (kC (fz n) cs m).bind fun r => match r.2[b]? with
       | some (.live _) => some (.ref r.1 off, r.2.set b (.fJ r.1))
       | _ => none
     | _ => none
   | .aT b off len esz => match m[b]? with
     | some (.fJ cs) => (kQ cs off (len * esz)).bind fun ds => some (.sl len ds, m)
     | some (.live cs) => (kC (fz n) cs m).bind fun r => match r.2[b]? with
       | some (.live _) => (kQ r.1 off (len * esz)).bind fun ds => some (.sl len ds, r.2.set b (.fJ r.1))
       | _ => none
     | _ => none
   | .agg ds => (kC (fz n) ds m).bind fun r => some (.agg r.1, r.2)
   | .aS ds => (kC (fz n) ds m).bind fun r => some (.aS r.1, r.2)
   | .func f ds => (kC (fz n) ds m).bind fun r => some (.func f r.1, r.2)
   | .iface t d => (fz n d m).bind fun r => some (.iface t r.1, r.2)
   | .bK => some (.sl 0 [], m)
   | .lmap b => match m[b]? with
     | some (.mp ks) => some (.n_ ks, m.set b .dead)
     | _ => none
   | d => some (d, m)
def FZ : Nat := 12
def dS (base : Nat) (m : Mem) : List D → List Nat → Mem → Option (List D × Mem)
 | [], _, acc => some ([], acc)
 | d :: ds, got, acc => match d with
   | .aT b off len esz =>
     if b < base then (dS base m ds got acc).bind fun r => some (.aT b off len esz :: r.1, r.2)
     else bif got.contains b then none else match m[b]? with
      | some (.live cs) => bif cs.all (D.clo base FZ) then (dS base m ds (b :: got) (acc ++ [.live cs])).bind fun r => some (.aT acc.length off len esz :: r.1, r.2) else none
      | _ => none
   | .loc b off =>
     if b < base then (dS base m ds got acc).bind fun r => some (.loc b off :: r.1, r.2)
     else bif got.contains b then none else match m[b]? with
      | some (.live cs) => bif cs.all (D.clo base FZ) then (dS base m ds (b :: got) (acc ++ [.live cs])).bind fun r => some (.loc acc.length off :: r.1, r.2) else none
      | _ => none
   | .undef => (dS base m ds got acc).bind fun r => some (.undef :: r.1, r.2)
   | .iface t d' => bif D.clo base FZ (.iface t d') then (dS base m ds got acc).bind fun r => some (.iface t d' :: r.1, r.2) else match d' with
     | .loc b off => bif got.contains b then none else match m[b]? with
       | some (.live cs) => bif cs.all (D.clo base FZ) then (dS base m ds (b :: got) (acc ++ [.live cs])).bind fun r => some (.iface t (.loc acc.length off) :: r.1, r.2) else none
       | _ => none
     | _ => none
   | d => bif D.clo base FZ d then (dS base m ds got acc).bind fun r => some (d :: r.1, r.2) else none
def gc (base : Nat) (vals : List D) (m : Mem) : Option (List D × Mem) :=
 bif decide (base ≤ m.length) && (m.take base).all (fun s => match s with | .live cs => cs.all (D.clo base FZ) | _ => true) then dS base m vals [] (m.take base) else none
def aj (op : BinOp) (k : IntKind) (a b : Int) : Option D :=
 match op with
 | .add => some (.int k (k.wrap (a + b)))
 | .sub => some (.int k (k.wrap (a - b)))
 | .mul => some (.int k (k.wrap (a * b)))
 | .quo => if b = 0 then none else some (.int k (k.wrap (a.tdiv b)))
 | .rem => if b = 0 then none else some (.int k (a.tmod b))
 | .and => some (.int k (k.wrap (BitVec.ofInt k.bits a &&& BitVec.ofInt k.bits b).toNat))
 | .or => some (.int k (k.wrap (BitVec.ofInt k.bits a ||| BitVec.ofInt k.bits b).toNat))
 | .xor => some (.int k (k.wrap (BitVec.ofInt k.bits a ^^^ BitVec.ofInt k.bits b).toNat))
 | .andNot => some (.int k (k.wrap (BitVec.ofInt k.bits a &&& ~~~ BitVec.ofInt k.bits b).toNat))
 | .shl | .shr => none
 | .eql => some (.bool (a == b))
 | .neq => some (.bool (a != b))
 | .lss => some (.bool (a < b))
 | .leq => some (.bool (a ≤ b))
 | .gtr => some (.bool (a > b))
 | .geq => some (.bool (a ≥ b))
def shI (left : Bool) (k : IntKind) (a b : Int) : Option D :=
 if b < 0 then none else bif left then some (.int k (k.wrap (a * 2 ^ (min b.toNat k.bits)))) else some (.int k (a.fdiv (2 ^ (min b.toNat k.bits))))
def maxStr : Nat := 1099511627776
def dP (op : BinOp) (a b : List UInt8) : Option D :=
 match op with
 | .add => if a.length + b.length ≤ maxStr then some (.str (a ++ b)) else none
 | .eql => some (.bool (a == b))
 | .neq => some (.bool (!(a == b)))
 | .lss => some (.bool (Op.bytesLess a b))
 | .leq => some (.bool (Op.bytesLess a b || a == b))
 | .gtr => some (.bool (!(Op.bytesLess a b || a == b)))
 | .geq => some (.bool (!Op.bytesLess a b))
 | _ => none
def dw : List Nat → List D → List D → Option Bool
 | [], [], [] => some true
 | 1 :: ks, .int k a :: xs, .int k' b :: ys => bif k == k' then (dw ks xs ys).bind fun r => some ((a == b) && r) else none
 | 0 :: ks, .bool a :: xs, .bool b :: ys => (dw ks xs ys).bind fun r => some ((a == b) && r)
 | 2 :: ks, .str a :: xs, .str b :: ys => (dw ks xs ys).bind fun r => some ((a == b) && r)
 | _, _, _ => none
inductive K where
 | aF
 | pick
 | box (j : Nat)
 | alloc (j : Nat) (z : List D)
 | ak
 | O6
 | aN (n : Nat)
 | store (n : Nat)
 | build (z : List D) (ps : List (Nat × Nat))
 | xW (esz len : Nat) (z : List D) (ps : List (Nat × Nat))
 | Vl (j esz len : Nat) (z : List D) (ps : List (Nat × Nat))
 | kN
 | aj (op : BinOp)
 | sh (left : Bool)
 | dP (op : BinOp)
 | U1 (neg : Bool)
 | r_ (neg : Bool)
 | eqN (neg c : Bool)
 | eqE (neg : Bool)
 | Xh (neg : Bool) (ks : List Nat)
 | neg | inv | not
 | conv (k : IntKind)
 | b2s
 | eqS (neg : Bool)
 | O8 (t : Nat)
 | V6 (f : Nat)
 | zG (j esz : Nat) (z : List D)
 | Qs (lo hi : Bool)
 | Hr (esz : Nat) (lo hi : Bool)
 | ay (off : Nat)
 | aQ (esz : Nat)
 | T_ (esz len : Nat)
 | zD
 | ext (i : Nat)
 | mD
 | aZ
 | mn
 | mx
 | app (j esz : Nat)
 | nN (f : Nat)
 | ah (f : Nat)
 | aY (f : Nat)
 | yO
 | Z5 (j : Nat)
 | Sm
 | Sl
 | TB (t : Nat) (z : D)
 | Nw (tab : List (Nat × Bool))
 | Dw (tab : List (Nat × Nat))
 | VW (tab : List (Nat × Nat))
 | eqF (neg : Bool) (ts : List Nat)
 | stop
 deriving Inhabited
structure EO where
 k : K
 xs : List zK
 dst : Option Nat
 guard : Option (Nat × Bool)
 deriving Inhabited
abbrev EO.M (d a : Nat) : EO := ⟨.aF, [.t a], some d, none⟩
abbrev EO.C (d : Nat) (k : D) : EO := ⟨.aF, [.k k], some d, none⟩
abbrev EO.o (d : Nat) (k : K) (xs : List zK) : EO := ⟨k, xs, some d, none⟩
abbrev EO.g (t : Nat) (b : Bool) (d : Nat) (k : K) (xs : List zK) : EO := ⟨k, xs, some d, some (t, b)⟩
inductive EC where
 | skip
 | region (n : Nat) (ops : List EO)
 | drawn (n : Nat) (ops : List (Nat × EO))
 | seq (a b : EC)
 | cond (c : zK) (a b : EC)
 | block (id : Nat) (c : EC)
 | loop (ins outs : List Nat) (body : EC)
 | exit (id : Nat)
 | ret
 | mask (keep : List Nat) (c : EC)
 | join (keep : List Nat) (c : EC)
 | RD (ts : List Nat) (c : EC)
 deriving Inhabited
structure aC where
 aY : Nat → List D → Mem → Option (D × Mem)
 loop : List Nat → List Nat → EC → Nat → List D → Mem → Option (Ex × List D × Mem)
 call : Nat → List D → Option D
def mO : List D → List (Nat × Nat) → List D → Option (List D)
 | cells, [], [] => some cells
 | cells, (off, n) :: ps, d :: ds => (dN d).bind fun cs => if cs.length = n ∧ off + n ≤ cells.length then mO (zI cells off cs) ps ds else none
 | _, _, _ => none
def zeros (len : Nat) (z : List D) : List D := (List.range (len * z.length)).map fun i => z.getD (i % z.length) .undef
def bnd (x : Option D) (hi : Nat) (dflt : Nat) : Option Nat :=
 match x with
 | none => some dflt
 | some (.int _ i) => if 0 ≤ i ∧ i ≤ hi then some i.toNat else none
 | _ => none
def rG (r : Option (D × Mem)) : Option D := r.bind fun r => (fz FZ r.1 r.2).bind fun s => some s.1
def sS : Nat := 4294967296
abbrev RV := Option (D × Mem)
def wz (base j : Nat) (cs : List D) (d : D) (m : Mem) : RV := match m[base + j]? with
 | some .free => some (d, m.set (base + j) (.live cs))
 | _ => none
def SY (ds : List D) (m : Mem) : RV := match ds with | [d] => some (d, m) | _ => none
def Ip (ds : List D) (m : Mem) : RV := match ds with | [.bool b, x, y] => some (bif b then x else y, m) | _ => none
def SL (base j : Nat) (ds : List D) (m : Mem) : RV := match ds with | [d] => (dN d).bind fun cs => wz base j cs (.loc (base + j) 0) m | _ => none
def Gl (base j : Nat) (z : List D) (ds : List D) (m : Mem) : RV := match ds with | [] => wz base j z (.loc (base + j) 0) m | _ => none
def wS (ds : List D) (m : Mem) : RV := match ds with | [a] => (NV m a).bind fun r => (r.1[r.2]?).bind fun d => some (d, m) | _ => none
def Gn (ds : List D) (m : Mem) : RV := match ds with | [.ref cs off] => (cs[off]?).bind fun d => some (d, m) | _ => none
def DN (n : Nat) (ds : List D) (m : Mem) : RV := match ds with | [a] => (NV m a).bind fun r => (kQ r.1 r.2 n).bind fun ds => some (.agg ds, m) | _ => none
def yG (n : Nat) (ds : List D) (m : Mem) : RV := match ds with
 | [.loc b off, d] => (dN d).bind fun cs => match m[b]? with
   | some (.live cells) => if cs.length = n ∧ off + n ≤ cells.length then some (.aS [], m.set b (.live (zI cells off cs))) else none
   | _ => none
 | _ => none
def Gm (z : List D) (ps : List (Nat × Nat)) (ds : List D) (m : Mem) : RV := (mO z ps ds).bind fun cs => some (.agg cs, m)
def SN (len : Nat) (z : List D) (ps : List (Nat × Nat)) (ds : List D) (m : Mem) : RV :=
 bif ds.all (D.clo 0 FZ) then (mO (zeros len z) ps ds).bind fun cs => some (.sl len cs, m) else none
def MC (base j esz len : Nat) (z : List D) (ps : List (Nat × Nat)) (ds : List D) (m : Mem) : RV :=
 (mO (zeros len z) ps ds).bind fun cs => wz base j cs (.aT (base + j) 0 len esz) m
def DT (ds : List D) (m : Mem) : RV := match ds with | [.loc b off] => some (.loc b off, m) | [.ref cs off] => some (.ref cs off, m) | _ => none
def dV (op : BinOp) (ds : List D) (m : Mem) : RV := match ds with | [.int k a, .int k' b] => bif k == k' then (Ev.aj op k a b).bind fun d => some (d, m) else none | _ => none
def oI (l : Bool) (ds : List D) (m : Mem) : RV := match ds with | [.int k a, .int _ b] => (shI l k a b).bind fun d => some (d, m) | _ => none
def zi (op : BinOp) (ds : List D) (m : Mem) : RV := match ds with | [.str a, .str b] => (Ev.dP op a b).bind fun d => some (d, m) | _ => none
def SS (n : Bool) (ds : List D) (m : Mem) : RV := match ds with | [.bool a, .bool b] => some (.bool ((a == b) != n), m) | _ => none
def Nl (n : Bool) (ds : List D) (m : Mem) : RV := match ds with
 | [.aK, .aK] => some (.bool (true != n), m)
 | [.aK, .loc _ _] | [.aK, .ref _ _] | [.loc _ _, .aK] | [.ref _ _, .aK] => some (.bool (false != n), m)
 | _ => none
def Nk (n c : Bool) (ds : List D) (m : Mem) : RV := match ds with
 | [.aB, .aB] => bif c then some (.bool (true != n), m) else none
 | [.aB, .iface _ _] | [.iface _ _, .aB] => some (.bool (false != n), m)
 | _ => none
def SQ (n : Bool) (ks : List Nat) (ds : List D) (m : Mem) : RV := match ds with
 | [.agg xs, .agg ys] => (dw ks xs ys).bind fun r => some (.bool (r != n), m)
 | _ => none
def bytesOf : List D → Option (List UInt8)
 | [] => some []
 | .int .u8 n :: ds => if 0 ≤ n ∧ n < 256 then (bytesOf ds).bind fun bs => some (UInt8.ofNat n.toNat :: bs) else none
 | _ => none
def Wi (ds : List D) (m : Mem) : RV := match ds with
 | [x] => (slc m 1 x).bind fun r => (kQ r.1 r.2.1 r.2.2).bind fun cs => (bytesOf cs).bind fun bs => some (.str bs, m)
 | _ => none
def Wn (n : Bool) (ds : List D) (m : Mem) : RV := match ds with
 | [.bK, .bK] => some (.bool (true != n), m)
 | [.sl (_ + 1) _, .bK] | [.bK, .sl (_ + 1) _] | [.aT .., .bK] | [.bK, .aT ..] => some (.bool (false != n), m)
 | _ => none
def S9 (ds : List D) (m : Mem) : RV := match ds with | [.int k a] => some (.int k (k.wrap (0 - a)), m) | _ => none
def Wp (ds : List D) (m : Mem) : RV := match ds with | [.int k a] => (Ev.aj .xor k (if k.signed then -1 else k.max) a).bind fun d => some (d, m) | _ => none
def S_ (ds : List D) (m : Mem) : RV := match ds with | [.bool b] => some (.bool (!b), m) | _ => none
def MF (k : IntKind) (ds : List D) (m : Mem) : RV := match ds with | [.int _ n] => some (.int k (k.wrap n), m) | _ => none
def MH (t : Nat) (ds : List D) (m : Mem) : RV := match ds with | [d] => some (.iface t d, m) | _ => none
def Il (base j esz : Nat) (z : List D) (ds : List D) (m : Mem) : RV := match ds with
 | [.int _ n, .int _ n'] => if 0 ≤ n ∧ n ≤ sS ∧ n' = n then wz base j (zeros n.toNat z) (.aT (base + j) 0 n.toNat esz) m else none
 | _ => none
def sH (lo hi : Bool) (len : Nat) (xs : List D) : Option (Nat × Nat) :=
 match lo, hi, xs with
 | false, false, [] => some (0, len)
 | true, false, [x] => (bnd (some x) len 0).bind fun l => some (l, len)
 | false, true, [y] => (bnd (some y) len 0).bind fun h => some (0, h)
 | true, true, [x, y] => (bnd (some y) len 0).bind fun h => (bnd (some x) h 0).bind fun l => some (l, h)
 | _, _, _ => none
def Tc (lo hi : Bool) (ds : List D) (m : Mem) : RV := match ds with
 | .str s :: xs => (sH lo hi s.length xs).bind fun r => some (.str ((s.drop r.1).take (r.2 - r.1)), m)
 | _ => none
def JG (esz : Nat) (lo hi : Bool) (ds : List D) (m : Mem) : RV := match ds with
 | .bK :: xs => (sH lo hi 0 xs).bind fun r => some (.bK, m)
 | .sl len cs :: xs => (sH lo hi len xs).bind fun r => (kQ cs (r.1 * esz) ((r.2 - r.1) * esz)).bind fun cs' => some (.sl (r.2 - r.1) cs', m)
 | .aT b off len e :: xs => bif Nat.beq e esz then (sH lo hi len xs).bind fun r => some (.aT b (off + r.1 * esz) (r.2 - r.1) esz, m) else none
 | _ => none
def Ii (off : Nat) (ds : List D) (m : Mem) : RV := match ds with | [.loc b o] => some (.loc b (o + off), m) | [.ref cs o] => some (.ref cs (o + off), m) | _ => none
def Bf (esz : Nat) (ds : List D) (m : Mem) : RV := match ds with
 | [.sl len cs, .int _ i] => if 0 ≤ i ∧ i < len then some (.ref cs (i.toNat * esz), m) else none
 | [.aT b off len e, .int _ i] => if 0 ≤ i ∧ i < len then some (.loc b (off + i.toNat * esz), m) else none
 | _ => none
def yF (esz len : Nat) (ds : List D) (m : Mem) : RV := match ds with
 | [.loc b off, .int _ i] => if 0 ≤ i ∧ i < len then some (.loc b (off + i.toNat * esz), m) else none
 | [.ref cs off, .int _ i] => if 0 ≤ i ∧ i < len then some (.ref cs (off + i.toNat * esz), m) else none
 | _ => none
def Ij (ds : List D) (m : Mem) : RV := match ds with
 | [.str s, .int _ i] => if 0 ≤ i then (s[i.toNat]?).bind fun b => some (.int .u8 b.toNat, m) else none
 | _ => none
def SV (i : Nat) (ds : List D) (m : Mem) : RV := match ds with | [.aS ds] => (ds[i]?).bind fun d => some (d, m) | _ => none
def MG (ds : List D) (m : Mem) : RV := match ds with | [.str s] => some (.int .i64 s.length, m) | _ => none
def DL (ds : List D) (m : Mem) : RV := match ds with
 | [.bK] => some (.int .i64 0, m)
 | [.sl len _] => some (.int .i64 len, m)
 | [.aT _ _ len _] => some (.int .i64 len, m)
 | _ => none
def XM (ds : List D) (m : Mem) : RV := match ds with | [.int k a, .int _ b] => some (.int k (if b < a then b else a), m) | _ => none
def XO (ds : List D) (m : Mem) : RV := match ds with | [.int k a, .int _ b] => some (.int k (if b > a then b else a), m) | _ => none
def Pz (base j esz : Nat) (ds : List D) (m : Mem) : RV := match ds with
 | [d, x] => (slc m esz x).bind fun rx => (kQ rx.1 rx.2.1 (rx.2.2 * esz)).bind fun news => match d with
   | .bK => if rx.2.2 = 0 then some (.bK, m) else if rx.2.2 ≤ sS then wz base j news (.aT (base + j) 0 rx.2.2 esz) m else none
   | .aT b off len e => bif Nat.beq e esz then (match m[b]? with
     | some (.live cells) => (kQ cells off (len * esz)).bind fun olds =>
       if len + rx.2.2 ≤ sS then wz base j (olds ++ news) (.aT (base + j) 0 (len + rx.2.2) esz) (m.set b .dead) else none
     | _ => none) else none
   | _ => none
 | _ => none
def ug (O : aC) (f : Nat) (args : List D) (m : Mem) : RV := (kC (fz FZ) args m).bind fun r => (O.call f r.1).bind fun d => some (d, r.2)
def pI (O : aC) (f : Nat) (args : List D) (m : Mem) : RV := bif args.all (D.clo 0 FZ) then (O.call f args).bind fun d => some (d, m) else none
def DK (O : aC) (ds : List D) (m : Mem) : RV := match ds with
 | .func f cap :: args => (kC (fz FZ) (args ++ cap) m).bind fun r => (O.call f r.1).bind fun d => some (d, r.2)
 | _ => none
def PD (base j : Nat) (ds : List D) (m : Mem) : RV := match ds with
 | [] => match m[base + j]? with
   | some .free => some (.lmap (base + j), m.set (base + j) (.mp []))
   | _ => none
 | _ => none
def RJ (ks : List Int) (k : Int) : List Int := bif ks.contains k then ks else k :: ks
def Io (ds : List D) (m : Mem) : RV := match ds with
 | [.lmap b, .int .i64 k, .bool true] => match m[b]? with
   | some (.mp ks) => some (.aS [], m.set b (.mp (RJ ks k)))
   | _ => none
 | _ => none
def DR (ds : List D) (m : Mem) : RV := match ds with
 | [.lmap b, .int .i64 k] => match m[b]? with
   | some (.mp ks) => some (.bool (ks.contains k), m)
   | _ => none
 | [.n_ ks, .int .i64 k] => some (.bool (ks.contains k), m)
 | [.uI, .int .i64 _] => some (.bool false, m)
 | _ => none
def uQ {α : Type} : List (Nat × α) → Nat → Option α
 | [], _ => none
 | (i, e) :: r, n => bif Nat.beq i n then some e else uQ r n
def FT (t : Nat) (z : D) (ds : List D) (m : Mem) : RV := match ds with
 | [.aB] => some (.aS [z, .bool false], m)
 | [.iface u d] => bif Nat.beq u t then some (.aS [d, .bool true], m) else some (.aS [z, .bool false], m)
 | _ => none
def Iq (tab : List (Nat × Bool)) (ds : List D) (m : Mem) : RV := match ds with
 | [.aB] => some (.aS [.aB, .bool false], m)
 | [.iface u d] => (uQ tab u).bind fun b => bif b then some (.aS [.iface u d, .bool true], m) else some (.aS [.aB, .bool false], m)
 | _ => none
def FQ (O : aC) (tab : List (Nat × Nat)) (ds : List D) (m : Mem) : RV := match ds with
 | .iface u d :: args => (uQ tab u).bind fun f => pI O f (d :: args) m
 | _ => none
def Ik (O : aC) (tab : List (Nat × Nat)) (ds : List D) (m : Mem) : RV := match ds with
 | .iface u d :: args => (uQ tab u).bind fun f => ug O f (d :: args) m
 | _ => none
def Wj (n : Bool) (ts : List Nat) (ds : List D) (m : Mem) : RV := match ds with
 | [.aB, .iface _ _] | [.iface _ _, .aB] => some (.bool (false != n), m)
 | [.iface t (.int k a), .iface u (.int k' b)] => bif Nat.beq t u then (bif ts.contains t && k == k' then some (.bool ((a == b) != n), m) else none) else some (.bool (false != n), m)
 | [.iface t d, .iface u e] => bif Nat.beq t u then none else some (.bool (false != n), m)
 | _ => none
def K.run (O : aC) (base : Nat) (k : K) (ds : List D) (m : Mem) : RV := match k with
 | .aF => SY ds m
 | .pick => Ip ds m
 | .box j => SL base j ds m
 | .alloc j z => Gl base j z ds m
 | .ak => wS ds m
 | .O6 => Gn ds m
 | .aN n => DN n ds m
 | .store n => yG n ds m
 | .build z ps => Gm z ps ds m
 | .xW _ len z ps => SN len z ps ds m
 | .Vl j esz len z ps => MC base j esz len z ps ds m
 | .kN => DT ds m
 | .aj op => dV op ds m
 | .sh l => oI l ds m
 | .dP op => zi op ds m
 | .U1 n => SS n ds m
 | .r_ n => Nl n ds m
 | .eqN n c => Nk n c ds m
 | .eqE _ => none
 | .Xh n k => SQ n k ds m
 | .neg => S9 ds m
 | .inv => Wp ds m
 | .not => S_ ds m
 | .conv k => MF k ds m
 | .b2s => Wi ds m
 | .eqS n => Wn n ds m
 | .O8 t => MH t ds m
 | .V6 f => some (.func f ds, m)
 | .zG j esz z => Il base j esz z ds m
 | .Qs lo hi => Tc lo hi ds m
 | .Hr esz lo hi => JG esz lo hi ds m
 | .ay off => Ii off ds m
 | .aQ esz => Bf esz ds m
 | .T_ esz len => yF esz len ds m
 | .zD => Ij ds m
 | .ext i => SV i ds m
 | .mD => MG ds m
 | .aZ => DL ds m
 | .mn => XM ds m
 | .mx => XO ds m
 | .app j esz => Pz base j esz ds m
 | .nN f => ug O f ds m
 | .ah f => pI O f ds m
 | .aY f => O.aY f ds m
 | .yO => DK O ds m
 | .Z5 j => PD base j ds m
 | .Sm => Io ds m
 | .Sl => DR ds m
 | .TB t z => FT t z ds m
 | .Nw tab => Iq tab ds m
 | .Dw tab => FQ O tab ds m
 | .VW tab => Ik O tab ds m
 | .eqF n ts => Wj n ts ds m
 | .stop => none
def evs (e : Env) : List zK → Option (List D)
 | [] => some []
 | x :: xs => (x.ev e).bind fun d => (evs e xs).bind fun ds => some (d :: ds)
def rV (e : Env) (dst : Option Nat) (d : D) : Env :=
 match dst with
 | some t => (t, d) :: e
 | none => e
def EO.wants (e : Env) (o : EO) : Option Bool :=
 match o.guard with
 | none => some true
 | some (t, b) => match look e t with
   | some (.bool b') => some (b' == b)
   | some (.aS []) => some false
   | _ => none
def EO.run (O : aC) (base : Nat) (o : EO) (e : Env) (m : Mem) : Option (Env × Mem) :=
 (o.wants e).bind fun w => bif w then (evs e o.xs).bind fun ds => (o.k.run O base ds m).bind fun r => some (rV e o.dst r.1, r.2) else some (rV e o.dst (.aS []), m)
def ou (O : aC) (base : Nat) : List EO → Env → Mem → Option (Env × Mem)
 | [], e, m => some (e, m)
 | o :: os, e, m => (o.run O base e m).bind fun r => ou O base os r.1 r.2
def Ie (e : Env) : List Nat → Env
 | [] => []
 | t :: ts => match look e t with
   | some d => (t, d) :: Ie e ts
   | none => Ie e ts
def mQ (e : Env) : List Nat → List D
 | [] => []
 | t :: ts => (look e t).getD .undef :: mQ e ts
def vC : List Nat → List D → Env
 | [], _ => []
 | t :: ts, ds => (t, ds.headD .undef) :: vC ts ds.tail
def EC.exec {R : Type} (O : aC) : EC → Env → Mem → (Ex → Env → Mem → Option R) → Option R
 | .skip, e, m, k => k .normal e m
 | .region n ops, e, m, k => (ou O m.length ops e (m ++ List.replicate n .free)).bind fun r => k .normal r.1 r.2
 | .drawn n ops, e, m, k => (ou O m.length (ops.map (·.2)) e (m ++ List.replicate n .free)).bind fun r => k .normal r.1 r.2
 | .RD ts c, e, m, k => (kC (fz FZ) (mQ e ts) m).bind fun r => c.exec O (vC ts r.1 ++ e) r.2 k
 | .seq a b, e, m, k => a.exec O e m fun x e' m' => match x with
   | .normal => b.exec O e' m' k
   | x => k x e' m'
 | .cond c a b, e, m, k => match c.ev e with
   | some (.bool t) => if t = true then a.exec O e m k else b.exec O e m k
   | _ => none
 | .block id c, e, m, k => c.exec O e m fun x e' m' => match x with
   | .exit i => bif Nat.beq i id then k .normal e' m' else k (.exit i) e' m'
   | x => k x e' m'
 | .loop ins outs body, e, m, k => (O.loop ins outs body m.length (mQ e ins) m).bind fun r => k r.1 (vC outs r.2.1) r.2.2
 | .exit id, e, m, k => k (.exit id) e m
 | .ret, e, m, k => k .ret e m
 | .mask keep c, e, m, k => c.exec O (Ie e keep) m k
 | .join keep c, e, m, k => (c.exec O e m fun x e' m' => some (x, mQ e' keep, m')).bind fun r => k r.1 (vC keep r.2.1) r.2.2
inductive ER where
 | tmp (t : Nat)
 | cell (t : Nat) (agg : Bool) (n : Nat)
 deriving Inhabited
def ER.get (e : Env) (m : Mem) : ER → Option D
 | .tmp t => look e t
 | .cell t agg n => (look e t).bind fun a => (NV m a).bind fun r => bif agg then (kQ r.1 r.2 n).bind fun ds => some (.agg ds) else r.1[r.2]?
def IU (e : Env) (m : Mem) : List ER → Option (List D)
 | [] => some []
 | r :: rs => (r.get e m).bind fun d => (IU e m rs).bind fun ds => some (d :: ds)
structure EF where
 params : List Nat
 res : List ER
 body : EC
 deriving Inhabited
def yh (O : aC) (ins outs : List Nat) (body : EC) (base : Nat) (vals : List D) (m : Mem) : Option (Ex × List D × Mem) :=
 body.exec O (vC ins vals) m fun x e m' => match x with
  | .normal => (gc base (mQ e ins) m').bind fun r => O.loop ins outs body base r.1 r.2
  | x => (gc base (mQ e outs) m').bind fun r => some (x, r.1, r.2)
def D9 (r : List D × Mem) : D × Mem := match r.1 with
 | [d] => (d, r.2)
 | ds => (.aS ds, r.2)
def EF.step (O : aC) (f : EF) (args : List D) (m : Mem) : Option (D × Mem) :=
 bif Nat.beq args.length f.params.length then
  f.body.exec O (vC f.params args) m fun x e m' => match x with
    | .exit _ => none
    | _ => (IU e m' f.res).bind fun rs => (gc m.length rs m').bind fun r => some (D9 r)
 else none
structure Tab where
 fn : Nat → Option EF
 iK : Nat → List D → Mem → Option (D × Mem)
def Tab.jW (T : Tab) : Nat → aC
 | 0 => ⟨fun _ _ _ => none, fun _ _ _ _ _ _ => none, fun _ _ => none⟩
 | n + 1 =>
   ⟨fun f args m => match T.fn f with
    | some ef => ef.step (T.jW n) args m
    | none => T.iK f args m,
    fun ins outs body base vals m => yh (T.jW n) ins outs body base vals m,
    fun f args => rG (match T.fn f with
     | some ef => ef.step (T.jW n) args []
     | none => T.iK f args [])⟩
end Go.Ev
end
section
namespace Go.Ev
def P7 : D → Value → Bool
 | .int k n, .int k' n' => k == k' && n == n'
 | .bool b, .bool b' => b == b'
 | .str s, .string b => s == b.data.toList
 | .aK, .pointer none => true
 | .bK, .slice none 0 0 => true
 | .sl 0 [], .slice none 0 0 => true
 | .aB, .nilIface => true
 | .uI, .map none => true
 | .raw b o, .pointer (some ⟨b', o', none⟩) => Nat.beq b b' && Nat.beq o o'
 | _, _ => false
def YJ : List D → List Value → Bool
 | [], [] => true
 | d :: ds, v :: vs => P7 d v && YJ ds vs
 | _, _ => false
def zK.chk : zK → Operand → Bool
 | .t n, .tmp m => Nat.beq n m
 | .k d, .const v => P7 d v
 | .k (.func f []), .func f' => Nat.beq f f'
 | _, _ => false
def YG : List zK → List Operand → Bool
 | [], [] => true
 | x :: xs, y :: ys => x.chk y && YG xs ys
 | _, _ => false
section
variable (P : Program)
def zY (t : TypeId) : Option TypeId := match P.underlying t with | some (.slice e) => some e | _ => none
def WB (t : TypeId) : Option Bool := match P.underlying t with | some (.struct _) | some (.array _ _) => some true | some _ => some false | none => none
def lN (t : TypeId) : Option Nat := (P.info? t).map (·.size)
def kM (t : TypeId) (z : List D) : Bool := match (P.info? t).bind (·.zero) with | some v => YJ z v.cells.toList | none => false
def uZ (place : Nat → Option (Nat × Nat)) : List (Nat × Operand) → List (Nat × Nat) → Bool
 | [], [] => true
 | (i, _) :: xs, (off, n) :: ps => (match place i with | some (o, s) => Nat.beq o off && Nat.beq s n | none => false) && uZ place xs ps
 | _, _ => false
def placesOf (t : TypeId) : Nat → Option (Nat × Nat) := fun i =>
 match P.underlying t with
 | some (.struct fs) => (fs[i]?).bind fun f => (lN P f.type).map fun s => (f.offset, s)
 | some (.array _ e) => (lN P e).map fun s => (i * s, s)
 | _ => none
def BH (t : TypeId) : Bool := match P.underlying t with
 | some (.struct fs) => fs.toList.all fun f => (lN P f.type).isSome
 | some (.array _ e) => (lN P e).isSome
 | _ => false
def isK (x : Operand) : Bool := match x with | .const _ => true | _ => false
def acX (t : TypeId) (k : Nat) : Bool :=
 match P.underlying t with
 | some .bool => Nat.beq k 0
 | some (.int _) => Nat.beq k 1
 | some .string => Nat.beq k 2
 | _ => false
def eqFields : List Field → List Nat → Nat → Bool
 | [], [], _ => true
 | f :: fs, k :: ks, i => Nat.beq f.offset i && f.name != "_" && acX P f.type k && eqFields fs ks (i + 1)
 | _, _, _ => false
def Ob (u : TypeId) (name : String) (f : Nat) : Bool :=
 match (P.info? u).bind (fun i => i.methods.find? (·.name == name)) with
 | some m => match m.path.toList, m.func with
   | [], some (g, pr) => Nat.beq f g && (match P.underlying u with | some (.pointer _) => pr | some _ => !pr | none => false)
   | _, _ => false
 | none => false
def Oc (name : String) : List (Nat × Nat) → Bool
 | [] => true
 | (u, f) :: r => Ob P u name f && Oc name r
def hasAll (want : Array (String × TypeId)) : List (Nat × Bool) → Bool
 | [] => true
 | (u, b) :: r => ((P.info? u).map (fun i => (lacking want i.methods).isEmpty)) == some b && hasAll want r
def Gh : List Nat → Bool
 | [] => true
 | t :: ts => (match P.underlying t with | some (.int _) => true | _ => false) && (match P.info? t with | some i => i.comparable | none => false) && Gh ts
def aX (k : K) (op : Op) : Option (List Operand) :=
 match k with
 | .aF => match op with | .move x | .assign x => some [x] | _ => none
 | .pick => match op with | .pick c a b => some [c, a, b] | _ => none
 | .box _ => match op with | .box _ x => some [x] | _ => none
 | .alloc _ z => match op with | .alloc e => if kM P e z then some [] else none | _ => none
 | .ak | .O6 => match op with | .load t x => if WB P t = some false then some [x] else none | _ => none
 | .aN n => match op with | .load t x => if WB P t = some true ∧ lN P t = some n then some [x] else none | _ => none
 | .store n => match op with | .store t x y => if lN P t = some n then some [x, y] else none | _ => none
 | .build z ps => match op with
   | .build t parts => if kM P t z ∧ BH P t ∧ uZ (placesOf P t) parts.toList ps then some (parts.toList.map (·.2)) else none
   | _ => none
 | .xW esz len z ps | .Vl _ esz len z ps => match op with
   | .buildSlice t n parts => (zY P t).bind fun e => if lN P e = some esz ∧ n = len ∧ 0 < esz ∧ z.length = esz ∧ len * esz ≤ 16777216 ∧ kM P e z ∧ uZ (fun i => some (i * esz, esz)) parts.toList ps then some (parts.toList.map (·.2)) else none
   | _ => none
 | .kN => match op with | .nilCheck x => some [x] | _ => none
 | .aj b => match op with | .binOp b' _ x y _ => if b = b' ∧ b ≠ .shl ∧ b ≠ .shr then some [x, y] else none | _ => none
 | .sh l => match op with | .binOp b _ x y _ => if b = (if l then .shl else .shr) then some [x, y] else none | _ => none
 | .dP b => match op with | .binOp b' _ x y _ => if b = b' then some [x, y] else none | _ => none
 | .U1 n => match op with | .binOp b t x y _ => if b = (if n then .neq else .eql) ∧ P.underlying t matches some .bool then some [x, y] else none | _ => none
 | .r_ n => match op with | .binOp b t x y _ => if b = (if n then .neq else .eql) ∧ P.underlying t matches some (.pointer _) then some [x, y] else none | _ => none
 | .eqN n c => match op with | .binOp b t x y _ => if b = (if n then .neq else .eql) ∧ (P.underlying t matches some (.interface _)) ∧ (c = false ∨ isK x ∨ isK y) then some [x, y] else none | _ => none
 | .eqE _ => none
 | .Xh n k => match op with
   | .binOp b t x y _ => match P.underlying t with
     | some (.struct fs) => if b = (if n then .neq else .eql) ∧ eqFields P fs.toList k 0 ∧ P.eqGuardType P.depth t = false ∧ P.stoodInHeld t = false then some [x, y] else none
     | _ => none
   | _ => none
 | .neg => match op with | .unOp .neg _ x => some [x] | _ => none
 | .inv => match op with | .unOp .xor _ x => some [x] | _ => none
 | .not => match op with | .unOp .not _ x => some [x] | _ => none
 | .conv k => match op with | .convert s d x => if (P.underlying s).isSome ∧ P.underlying d matches some (.int _) then (match P.underlying d with | some (.int k') => if k = k' then some [x] else none | _ => none) else none | _ => none
 | .b2s => match op with
   | .convert s d x => (zY P s).bind fun e => if (P.underlying e matches some (.int .u8)) ∧ (P.underlying d matches some .string) then some [x] else none
   | _ => none
 | .eqS n => match op with | .binOp b t x y _ => if b = (if n then .neq else .eql) ∧ P.underlying t matches some (.slice _) then some [x, y] else none | _ => none
 | .O8 t => match op with | .makeInterface t' x => if t = t' ∧ (P.underlying t).isSome ∧ ¬ (P.underlying t matches some (.interface _)) then some [x] else none | _ => none
 | .V6 f => match op with | .makeFunc (.func f') first cap => if f = f' ∧ first = #[] then some cap.toList else none | _ => none
 | .zG _ esz z => match op with
   | .makeSlice t x y => (zY P t).bind fun e => if lN P e = some esz ∧ 0 < esz ∧ z.length = esz ∧ kM P e z ∧ ((P.info? e).map (·.bytes)).getD 0 ≤ 4096 ∧ (P.info? e).isSome then some [x, y] else none
   | _ => none
 | .Qs lo hi => match op with
   | .slice t x l h none => if (P.underlying t matches some .string) ∧ l.isSome = lo ∧ h.isSome = hi then some (x :: l.toList ++ h.toList) else none
   | _ => none
 | .Hr esz lo hi => match op with
   | .slice t x l h none => (zY P t).bind fun e => if lN P e = some esz ∧ l.isSome = lo ∧ h.isSome = hi then some (x :: l.toList ++ h.toList) else none
   | _ => none
 | .ay off => match op with
   | .fieldAddr t x f => match P.underlying t with
     | some (.struct fs) => (fs[f]?).bind fun fd => if fd.offset = off ∧ (lN P fd.type).any (0 < ·) then some [x] else none
     | _ => none
   | _ => none
 | .aQ esz => match op with | .indexAddr t x y => (zY P t).bind fun e => if lN P e = some esz then some [x, y] else none | _ => none
 | .T_ esz len => match op with
   | .indexAddr t x y => match P.underlying t with
     | some (.array n e) => if n = len ∧ lN P e = some esz then some [x, y] else none
     | _ => none
   | _ => none
 | .zD => match op with | .index t x y => if P.underlying t matches some .string then some [x, y] else none | _ => none
 | .ext i => match op with | .extract x i' => if i = i' then some [x] else none | _ => none
 | .mD => match op with | .call ⟨.builtin .len, args, ts⟩ => if (ts[0]?).any (fun t => P.underlying t matches some .string) ∧ args.size = 1 then some args.toList else none | _ => none
 | .aZ => match op with | .call ⟨.builtin .len, args, ts⟩ => if (ts[0]?).any (fun t => P.underlying t matches some (.slice _)) ∧ args.size = 1 then some args.toList else none | _ => none
 | .mn => match op with | .call ⟨.builtin .min, args, _⟩ => if args.size = 2 then some args.toList else none | _ => none
 | .mx => match op with | .call ⟨.builtin .max, args, _⟩ => if args.size = 2 then some args.toList else none | _ => none
 | .app _ esz => match op with
   | .call ⟨.builtin .append, args, ts⟩ => if args.size = 2 ∧ ts.size = 2 then
     ((ts[0]?).bind (zY P)).bind fun e => ((ts[1]?).bind (zY P)).bind fun _ =>
       if lN P e = some esz ∧ 0 < esz ∧ ((P.info? e).map (·.bytes)).getD 0 ≤ 4096 ∧ (((P.info? e).bind (·.zero)).any fun v => Nat.beq v.cells.size esz) then some args.toList else none
     else none
   | _ => none
 | .nN f | .ah f | .aY f => match op with
   | .call ⟨.value (.func f'), args, _⟩ => if f = f' then some args.toList else none
   | _ => none
 | .yO => match op with
   | .call ⟨.value g, args, _⟩ => some (g :: args.toList)
   | _ => none
 | .stop => some []
 | .Z5 _ => match op with | .makeMap _ none => some [] | _ => none
 | .Sm => match op with
   | .mapUpdate t x y z => match P.underlying t with
     | some (.map kt _) => if P.underlying kt matches some (.int .i64) then some [x, y, z] else none
     | _ => none
   | _ => none
 | .Sl => match op with
   | .lookup t x y false => match P.underlying t with
     | some (.map kt et) => if (P.underlying kt matches some (.int .i64)) ∧ kM P et [.bool false] ∧ (P.info? et).any (fun i => match i.zero with | some (.agg _) => false | some (.tuple _) => false | _ => true) then some [x, y] else none
     | _ => none
   | _ => none
 | .TB t z => match op with
   | .typeAssert x _ t' true => if t = t' ∧ (P.underlying t).isSome ∧ ¬ (P.underlying t matches some (.interface _)) ∧ kM P t [z] ∧ (P.info? t).any (fun i => match i.zero with | some (.agg _) => false | some (.tuple _) => false | _ => true) then some [x] else none
   | _ => none
 | .Nw tab => match op with
   | .typeAssert x _ t' true => match P.underlying t' with
     | some (.interface want) => if hasAll P want tab ∧ (P.info? t').any (fun i => match i.zero with | some .nilIface => true | _ => false) then some [x] else none
     | _ => none
   | _ => none
 | .Dw tab | .VW tab => match op with
   | .call ⟨.invoke recv name, args, _⟩ => if Oc P name tab then some (recv :: args.toList) else none
   | _ => none
 | .eqF n ts => match op with | .binOp b t x y _ => if b = (if n then .neq else .eql) ∧ (P.underlying t matches some (.interface _)) ∧ Gh P ts then some [x, y] else none | _ => none
end
inductive cO (c : Ctx) : List D → List Value → Prop
 | nil : cO c [] []
 | cons {d : D} {v : Value} {ds : List D} {vs : List Value} (h : Rep c d v) (hs : cO c ds vs) : cO c (d :: ds) (v :: vs)
theorem cO.mono {c c' : Ctx} (h : Ext c c') {ds : List D} {vs : List Value} (hr : cO c ds vs) : cO c' ds vs := by
 induction hr with
 | nil => exact .nil
 | cons h1 _ ih => exact .cons (h1.mono h) ih
theorem cO.length {c : Ctx} {ds : List D} {vs : List Value} (hr : cO c ds vs) : ds.length = vs.length := by
 induction hr with
 | nil => rfl
 | cons _ _ ih => simp [ih]
theorem cO.get {c : Ctx} {ds : List D} {vs : List Value} (hr : cO c ds vs) : ∀ (i : Nat) (d : D), ds[i]? = some d → ∃ v, vs[i]? = some v ∧ Rep c d v := by
 induction hr with
 | nil => intro i d h; simp at h
 | cons h1 _ ih =>
   intro i d h
   cases i with
   | zero => simp at h; subst h; exact ⟨_, rfl, h1⟩
   | succ i => exact ih i d (by simpa using h)
theorem TQ {c : Ctx} {d : D} {v : Value} (h : P7 d v = true) : Rep c d v := by
 unfold P7 at h
 split at h <;> simp at h
 ·obtain ⟨rfl, rfl⟩ := h; exact .bI _ _ (.int _ _)
 ·subst h; exact .bI _ _ (.bool _)
 ·subst h; exact .bI _ _ (.str _)
 ·exact .bI _ _ .aK
 ·exact .bI _ _ .bK
 ·exact .bI _ _ .sl0
 ·exact .bI _ _ .aB
 ·exact .bI _ _ .uI
 ·obtain ⟨rfl, rfl⟩ := h; exact .bI _ _ (.raw _ _)
theorem al2 {d : D} {v : Value} (h : P7 d v = true) : v.oneCell' = true := by
 unfold P7 at h
 split at h <;> simp at h <;> rfl
theorem Lh : ∀ {ds : List D} {vs : List Value}, YJ ds vs = true → ds.length = vs.length ∧ ∀ (i : Nat) (d : D), ds[i]? = some d → ∃ v, vs[i]? = some v ∧ P7 d v = true
 | [], [], _ => ⟨rfl, fun i d h => by simp at h⟩
 | [], _ :: _, h => by simp [YJ] at h
 | _ :: _, [], h => by simp [YJ] at h
 | d :: ds, v :: vs, h => by
   simp [YJ] at h
   obtain ⟨h1, h2⟩ := Lh h.2
   refine ⟨by simp [h1], fun i e he => ?_⟩
   cases i with
   | zero => simp at he; subst he; exact ⟨v, rfl, h.1⟩
   | succ i => exact h2 i e (by simpa using he)
def uw (c : Ctx) (e : Env) (a : Act) : Prop := ∀ (t : Nat) (d : D), look e t = some d → Rep c d (a.tmps.getD t Go.undef)
theorem uw.mono {c c' : Ctx} (h : Ext c c') {e : Env} {a : Act} (he : uw c e a) : uw c' e a := fun t d ht => (he t d ht).mono h
theorem zK.rep {c : Ctx} {e : Env} {a : Act} (he : uw c e a) {x : zK} {y : Operand} (hc : x.chk y = true) {d : D} (hd : x.ev e = some d) : Rep c d (a.eval y) := by
 unfold zK.chk at hc
 split at hc
 ·rename_i n m
  have := Nat.eq_of_beq_eq_true hc
  subst this
  exact he n d hd
 ·simp [zK.ev] at hd
  subst hd
  exact TQ hc
 ·rename_i f f'
  have := Nat.eq_of_beq_eq_true hc
  subst this
  simp [zK.ev] at hd
  subst hd
  exact .func f [] #[] (fun _ => undef) rfl (fun j hj => by simp at hj) (fun j d hd => by simp at hd)
 ·simp at hc
theorem afU {c : Ctx} {e : Env} {a : Act} (he : uw c e a) : ∀ {xs : List zK} {ys : List Operand} {ds : List D}, YG xs ys = true → evs e xs = some ds → cO c ds (ys.map a.eval)
 | [], [], ds, _, h => by simp [evs] at h; subst h; exact .nil
 | [], _ :: _, _, h, _ => by simp [YG] at h
 | _ :: _, [], _, h, _ => by simp [YG] at h
 | x :: xs, y :: ys, ds, hc, h => by
   simp [YG] at hc
   simp [evs, Option.bind_eq_some_iff] at h
   obtain ⟨d, hd, ds', hds, rfl⟩ := h
   exact .cons (zK.rep he hc.1 hd) (afU he hc.2 hds)
end Go.Ev
end
