/- A part of the proof of the theorem yieldNone_card. -/
import Derived.Stop.Asserts
import Derived.Test.YtjjogojaemahkaaGreatDoorBase
section
set_option linter.unusedVariables false
namespace Go.Ev
abbrev Env := List (Nat × D)
def look : Env → Nat → Option D
  | [], _ => none
  | (t, d) :: e, x => bif Nat.beq t x then some d else look e x
inductive Opd where
  | t (n : Nat)
  | k (d : D)
  deriving Inhabited
def Opd.ev (e : Env) : Opd → Option D
  | .t n => look e n
  | .k d => some d
def D.one : D → Bool
  | .undef | .agg _ | .tup _ => false
  | _ => true
def valCells : D → Option (List D)
  | .agg ds => some ds
  | .undef | .tup _ => none
  | d => some [d]
def D.clo (n : Nat) : Nat → D → Bool
  | 0, _ => false
  | f + 1, d => match d with
    | .undef => false
    | .loc b _ | .lsl b _ _ _ | .lmap b => decide (b < n)
    | .agg ds | .tup ds | .func _ ds => ds.all (D.clo n f)
    | .iface _ d => D.clo n f d
    | _ => true
inductive Ex where
  | normal
  | exit (id : Nat)
  | ret
  deriving Inhabited
def adr (m : Mem) : D → Option (List D × Nat)
  | .loc b off => match m[b]? with
    | some (.live cs) | some (.froz cs) => some (cs, off)
    | _ => none
  | .ref cs off => some (cs, off)
  | _ => none
def slc (m : Mem) (esz : Nat) : D → Option (List D × Nat × Nat)
  | .nils => some ([], 0, 0)
  | .sl len cs => some (cs, 0, len)
  | .lsl b off len e => bif Nat.beq e esz then (match m[b]? with
    | some (.live cs) | some (.froz cs) => some (cs, off, len)
    | _ => none) else none
  | _ => none
def putL (cells : List D) (off : Nat) : List D → List D
  | [] => cells
  | d :: ds => putL (cells.set off d) (off + 1) ds
def takeL (cells : List D) (off n : Nat) : Option (List D) :=
  if off + n ≤ cells.length then some ((cells.drop off).take n) else none
def fzL (f : D → Mem → Option (D × Mem)) : List D → Mem → Option (List D × Mem)
  | [], m => some ([], m)
  | d :: ds, m => (f d m).bind fun r => (fzL f ds r.2).bind fun rs => some (r.1 :: rs.1, rs.2)
def fz : Nat → D → Mem → Option (D × Mem)
  | 0, _, _ => none
  | n + 1, d, m => match d with
    | .undef => none
    | .loc b off => match m[b]? with
      | some (.froz cs) => some (.ref cs off, m)
      | some (.live cs) => (fzL (fz n) cs m).bind fun r => match r.2[b]? with
        | some (.live _) => some (.ref r.1 off, r.2.set b (.froz r.1))
        | _ => none
      | _ => none
    | .lsl b off len esz => match m[b]? with
      | some (.froz cs) => (takeL cs off (len * esz)).bind fun ds => some (.sl len ds, m)
      | some (.live cs) => (fzL (fz n) cs m).bind fun r => match r.2[b]? with
        | some (.live _) => (takeL r.1 off (len * esz)).bind fun ds => some (.sl len ds, r.2.set b (.froz r.1))
        | _ => none
      | _ => none
    | .agg ds => (fzL (fz n) ds m).bind fun r => some (.agg r.1, r.2)
    | .tup ds => (fzL (fz n) ds m).bind fun r => some (.tup r.1, r.2)
    | .func f ds => (fzL (fz n) ds m).bind fun r => some (.func f r.1, r.2)
    | .iface t d => (fz n d m).bind fun r => some (.iface t r.1, r.2)
    | .nils => some (.sl 0 [], m)
    | .lmap b => match m[b]? with
      | some (.mp ks) => some (.mapf ks, m.set b .dead)
      | _ => none
    | d => some (d, m)
def FZ : Nat := 12
def gcs (base : Nat) (m : Mem) : List D → List Nat → Mem → Option (List D × Mem)
  | [], _, acc => some ([], acc)
  | d :: ds, got, acc => match d with
    | .lsl b off len esz =>
      if b < base then (gcs base m ds got acc).bind fun r => some (.lsl b off len esz :: r.1, r.2)
      else bif got.contains b then none else match m[b]? with
        | some (.live cs) => bif cs.all (D.clo base FZ) then (gcs base m ds (b :: got) (acc ++ [.live cs])).bind fun r => some (.lsl acc.length off len esz :: r.1, r.2) else none
        | _ => none
    | .loc b off =>
      if b < base then (gcs base m ds got acc).bind fun r => some (.loc b off :: r.1, r.2)
      else bif got.contains b then none else match m[b]? with
        | some (.live cs) => bif cs.all (D.clo base FZ) then (gcs base m ds (b :: got) (acc ++ [.live cs])).bind fun r => some (.loc acc.length off :: r.1, r.2) else none
        | _ => none
    | .undef => (gcs base m ds got acc).bind fun r => some (.undef :: r.1, r.2)
    | .iface t d' => bif D.clo base FZ (.iface t d') then (gcs base m ds got acc).bind fun r => some (.iface t d' :: r.1, r.2) else match d' with
      | .loc b off => bif got.contains b then none else match m[b]? with
        | some (.live cs) => bif cs.all (D.clo base FZ) then (gcs base m ds (b :: got) (acc ++ [.live cs])).bind fun r => some (.iface t (.loc acc.length off) :: r.1, r.2) else none
        | _ => none
      | _ => none
    | d => bif D.clo base FZ d then (gcs base m ds got acc).bind fun r => some (d :: r.1, r.2) else none
def gc (base : Nat) (vals : List D) (m : Mem) : Option (List D × Mem) :=
  bif decide (base ≤ m.length) && (m.take base).all (fun s => match s with | .live cs => cs.all (D.clo base FZ) | _ => true) then gcs base m vals [] (m.take base) else none
def binI (op : BinOp) (k : IntKind) (a b : Int) : Option D :=
  match op with
  | .add => some (.int k (k.wrap (a + b)))
  | .sub => some (.int k (k.wrap (a - b)))
  | .mul => some (.int k (k.wrap (a * b)))
  | .quo => if b = 0 then none else some (.int k (k.wrap (a.tdiv b)))
  | .rem => if b = 0 then none else some (.int k (a.tmod b))
  | .and => some (.int k (k.wrap (BitVec.ofInt k.bits a &&& BitVec.ofInt k.bits b).toNat))
  | .or => some (.int k (k.wrap (BitVec.ofInt k.bits a ||| BitVec.ofInt k.bits b).toNat))
  | .xor => some (.int k (k.wrap (BitVec.ofInt k.bits a ^^^ BitVec.ofInt k.bits b).toNat))
  | .andNot => some (.int k (k.wrap (BitVec.ofInt k.bits a &&& ~~~ BitVec.ofInt k.bits b).toNat))
  | .shl | .shr => none
  | .eql => some (.bool (a == b))
  | .neq => some (.bool (a != b))
  | .lss => some (.bool (a < b))
  | .leq => some (.bool (a ≤ b))
  | .gtr => some (.bool (a > b))
  | .geq => some (.bool (a ≥ b))
def shI (left : Bool) (k : IntKind) (a b : Int) : Option D :=
  if b < 0 then none else bif left then some (.int k (k.wrap (a * 2 ^ (min b.toNat k.bits)))) else some (.int k (a.fdiv (2 ^ (min b.toNat k.bits))))
def maxStr : Nat := 1099511627776
def binS (op : BinOp) (a b : List UInt8) : Option D :=
  match op with
  | .add => if a.length + b.length ≤ maxStr then some (.str (a ++ b)) else none
  | .eql => some (.bool (a == b))
  | .neq => some (.bool (!(a == b)))
  | .lss => some (.bool (Op.bytesLess a b))
  | .leq => some (.bool (Op.bytesLess a b || a == b))
  | .gtr => some (.bool (!(Op.bytesLess a b || a == b)))
  | .geq => some (.bool (!Op.bytesLess a b))
  | _ => none
def eqCells : List Nat → List D → List D → Option Bool
  | [], [], [] => some true
  | 1 :: ks, .int k a :: xs, .int k' b :: ys => bif k == k' then (eqCells ks xs ys).bind fun r => some ((a == b) && r) else none
  | 0 :: ks, .bool a :: xs, .bool b :: ys => (eqCells ks xs ys).bind fun r => some ((a == b) && r)
  | 2 :: ks, .str a :: xs, .str b :: ys => (eqCells ks xs ys).bind fun r => some ((a == b) && r)
  | _, _, _ => none
inductive K where
  | mov
  | pick
  | box (j : Nat)
  | alloc (j : Nat) (z : List D)
  | load1
  | loadF
  | loadA (n : Nat)
  | store (n : Nat)
  | build (z : List D) (ps : List (Nat × Nat))
  | bsl (esz len : Nat) (z : List D) (ps : List (Nat × Nat))
  | bslA (j esz len : Nat) (z : List D) (ps : List (Nat × Nat))
  | nilck
  | binI (op : BinOp)
  | sh (left : Bool)
  | binS (op : BinOp)
  | eqB (neg : Bool)
  | eqP (neg : Bool)
  | eqN (neg c : Bool)
  | eqE (neg : Bool)
  | eqA (neg : Bool) (ks : List Nat)
  | neg | inv | not
  | conv (k : IntKind)
  | b2s
  | eqS (neg : Bool)
  | mkif (t : Nat)
  | mkfn (f : Nat)
  | mksl (j esz : Nat) (z : List D)
  | slS (lo hi : Bool)
  | slL (esz : Nat) (lo hi : Bool)
  | fadr (off : Nat)
  | iadr (esz : Nat)
  | iadrA (esz len : Nat)
  | idxS
  | ext (i : Nat)
  | lenS
  | lenL
  | mn
  | mx
  | app (j esz : Nat)
  | callp (f : Nat)
  | callc (f : Nat)
  | calla (f : Nat)
  | callv
  | mkm (j : Nat)
  | mput
  | mget
  | tasC (t : Nat) (z : D)
  | tasI (tab : List (Nat × Bool))
  | invc (tab : List (Nat × Nat))
  | invp (tab : List (Nat × Nat))
  | eqF (neg : Bool) (ts : List Nat)
  | stop
  deriving Inhabited
structure EO where
  k : K
  xs : List Opd
  dst : Option Nat
  guard : Option (Nat × Bool)
  deriving Inhabited
abbrev EO.M (d a : Nat) : EO := ⟨.mov, [.t a], some d, none⟩
abbrev EO.C (d : Nat) (k : D) : EO := ⟨.mov, [.k k], some d, none⟩
abbrev EO.o (d : Nat) (k : K) (xs : List Opd) : EO := ⟨k, xs, some d, none⟩
abbrev EO.g (t : Nat) (b : Bool) (d : Nat) (k : K) (xs : List Opd) : EO := ⟨k, xs, some d, some (t, b)⟩
inductive EC where
  | skip
  | region (n : Nat) (ops : List EO)
  | drawn (n : Nat) (ops : List (Nat × EO))
  | seq (a b : EC)
  | cond (c : Opd) (a b : EC)
  | block (id : Nat) (c : EC)
  | loop (ins outs : List Nat) (body : EC)
  | exit (id : Nat)
  | ret
  | mask (keep : List Nat) (c : EC)
  | join (keep : List Nat) (c : EC)
  | frz (ts : List Nat) (c : EC)
  deriving Inhabited
structure Orc where
  calla : Nat → List D → Mem → Option (D × Mem)
  loop : List Nat → List Nat → EC → Nat → List D → Mem → Option (Ex × List D × Mem)
  call : Nat → List D → Option D
def fillL : List D → List (Nat × Nat) → List D → Option (List D)
  | cells, [], [] => some cells
  | cells, (off, n) :: ps, d :: ds => (valCells d).bind fun cs => if cs.length = n ∧ off + n ≤ cells.length then fillL (putL cells off cs) ps ds else none
  | _, _, _ => none
def zeros (len : Nat) (z : List D) : List D := (List.range (len * z.length)).map fun i => z.getD (i % z.length) .undef
def bnd (x : Option D) (hi : Nat) (dflt : Nat) : Option Nat :=
  match x with
  | none => some dflt
  | some (.int _ i) => if 0 ≤ i ∧ i ≤ hi then some i.toNat else none
  | _ => none
def pureOf (r : Option (D × Mem)) : Option D := r.bind fun r => (fz FZ r.1 r.2).bind fun s => some s.1
def maxLenL : Nat := 4294967296
abbrev RV := Option (D × Mem)
def newB (base j : Nat) (cs : List D) (d : D) (m : Mem) : RV := match m[base + j]? with
  | some .free => some (d, m.set (base + j) (.live cs))
  | _ => none
def rMov (ds : List D) (m : Mem) : RV := match ds with | [d] => some (d, m) | _ => none
def rPick (ds : List D) (m : Mem) : RV := match ds with | [.bool b, x, y] => some (bif b then x else y, m) | _ => none
def rBox (base j : Nat) (ds : List D) (m : Mem) : RV := match ds with | [d] => (valCells d).bind fun cs => newB base j cs (.loc (base + j) 0) m | _ => none
def rAlloc (base j : Nat) (z : List D) (ds : List D) (m : Mem) : RV := match ds with | [] => newB base j z (.loc (base + j) 0) m | _ => none
def rLoad1 (ds : List D) (m : Mem) : RV := match ds with | [a] => (adr m a).bind fun r => (r.1[r.2]?).bind fun d => some (d, m) | _ => none
def rLoadF (ds : List D) (m : Mem) : RV := match ds with | [.ref cs off] => (cs[off]?).bind fun d => some (d, m) | _ => none
def rLoadA (n : Nat) (ds : List D) (m : Mem) : RV := match ds with | [a] => (adr m a).bind fun r => (takeL r.1 r.2 n).bind fun ds => some (.agg ds, m) | _ => none
def rStore (n : Nat) (ds : List D) (m : Mem) : RV := match ds with
  | [.loc b off, d] => (valCells d).bind fun cs => match m[b]? with
    | some (.live cells) => if cs.length = n ∧ off + n ≤ cells.length then some (.tup [], m.set b (.live (putL cells off cs))) else none
    | _ => none
  | _ => none
def rBuild (z : List D) (ps : List (Nat × Nat)) (ds : List D) (m : Mem) : RV := (fillL z ps ds).bind fun cs => some (.agg cs, m)
def rBsl (len : Nat) (z : List D) (ps : List (Nat × Nat)) (ds : List D) (m : Mem) : RV :=
  bif ds.all (D.clo 0 FZ) then (fillL (zeros len z) ps ds).bind fun cs => some (.sl len cs, m) else none
def rBslA (base j esz len : Nat) (z : List D) (ps : List (Nat × Nat)) (ds : List D) (m : Mem) : RV :=
  (fillL (zeros len z) ps ds).bind fun cs => newB base j cs (.lsl (base + j) 0 len esz) m
def rNilck (ds : List D) (m : Mem) : RV := match ds with | [.loc b off] => some (.loc b off, m) | [.ref cs off] => some (.ref cs off, m) | _ => none
def rBinI (op : BinOp) (ds : List D) (m : Mem) : RV := match ds with | [.int k a, .int k' b] => bif k == k' then (Ev.binI op k a b).bind fun d => some (d, m) else none | _ => none
def rSh (l : Bool) (ds : List D) (m : Mem) : RV := match ds with | [.int k a, .int _ b] => (shI l k a b).bind fun d => some (d, m) | _ => none
def rBinS (op : BinOp) (ds : List D) (m : Mem) : RV := match ds with | [.str a, .str b] => (Ev.binS op a b).bind fun d => some (d, m) | _ => none
def rEqB (n : Bool) (ds : List D) (m : Mem) : RV := match ds with | [.bool a, .bool b] => some (.bool ((a == b) != n), m) | _ => none
def rEqP (n : Bool) (ds : List D) (m : Mem) : RV := match ds with
  | [.nilp, .nilp] => some (.bool (true != n), m)
  | [.nilp, .loc _ _] | [.nilp, .ref _ _] | [.loc _ _, .nilp] | [.ref _ _, .nilp] => some (.bool (false != n), m)
  | _ => none
def rEqN (n c : Bool) (ds : List D) (m : Mem) : RV := match ds with
  | [.nili, .nili] => bif c then some (.bool (true != n), m) else none
  | [.nili, .iface _ _] | [.iface _ _, .nili] => some (.bool (false != n), m)
  | _ => none
def rEqA (n : Bool) (ks : List Nat) (ds : List D) (m : Mem) : RV := match ds with
  | [.agg xs, .agg ys] => (eqCells ks xs ys).bind fun r => some (.bool (r != n), m)
  | _ => none
def bytesOf : List D → Option (List UInt8)
  | [] => some []
  | .int .u8 n :: ds => if 0 ≤ n ∧ n < 256 then (bytesOf ds).bind fun bs => some (UInt8.ofNat n.toNat :: bs) else none
  | _ => none
def rB2s (ds : List D) (m : Mem) : RV := match ds with
  | [x] => (slc m 1 x).bind fun r => (takeL r.1 r.2.1 r.2.2).bind fun cs => (bytesOf cs).bind fun bs => some (.str bs, m)
  | _ => none
def rEqS (n : Bool) (ds : List D) (m : Mem) : RV := match ds with
  | [.nils, .nils] => some (.bool (true != n), m)
  | [.sl (_ + 1) _, .nils] | [.nils, .sl (_ + 1) _] | [.lsl .., .nils] | [.nils, .lsl ..] => some (.bool (false != n), m)
  | _ => none
def rNeg (ds : List D) (m : Mem) : RV := match ds with | [.int k a] => some (.int k (k.wrap (0 - a)), m) | _ => none
def rInv (ds : List D) (m : Mem) : RV := match ds with | [.int k a] => (Ev.binI .xor k (if k.signed then -1 else k.max) a).bind fun d => some (d, m) | _ => none
def rNot (ds : List D) (m : Mem) : RV := match ds with | [.bool b] => some (.bool (!b), m) | _ => none
def rConv (k : IntKind) (ds : List D) (m : Mem) : RV := match ds with | [.int _ n] => some (.int k (k.wrap n), m) | _ => none
def rMkif (t : Nat) (ds : List D) (m : Mem) : RV := match ds with | [d] => some (.iface t d, m) | _ => none
def rMksl (base j esz : Nat) (z : List D) (ds : List D) (m : Mem) : RV := match ds with
  | [.int _ n, .int _ n'] => if 0 ≤ n ∧ n ≤ maxLenL ∧ n' = n then newB base j (zeros n.toNat z) (.lsl (base + j) 0 n.toNat esz) m else none
  | _ => none
def bnds (lo hi : Bool) (len : Nat) (xs : List D) : Option (Nat × Nat) :=
  match lo, hi, xs with
  | false, false, [] => some (0, len)
  | true, false, [x] => (bnd (some x) len 0).bind fun l => some (l, len)
  | false, true, [y] => (bnd (some y) len 0).bind fun h => some (0, h)
  | true, true, [x, y] => (bnd (some y) len 0).bind fun h => (bnd (some x) h 0).bind fun l => some (l, h)
  | _, _, _ => none
def rSlS (lo hi : Bool) (ds : List D) (m : Mem) : RV := match ds with
  | .str s :: xs => (bnds lo hi s.length xs).bind fun r => some (.str ((s.drop r.1).take (r.2 - r.1)), m)
  | _ => none
def rSlL (esz : Nat) (lo hi : Bool) (ds : List D) (m : Mem) : RV := match ds with
  | .nils :: xs => (bnds lo hi 0 xs).bind fun r => some (.nils, m)
  | .sl len cs :: xs => (bnds lo hi len xs).bind fun r => (takeL cs (r.1 * esz) ((r.2 - r.1) * esz)).bind fun cs' => some (.sl (r.2 - r.1) cs', m)
  | .lsl b off len e :: xs => bif Nat.beq e esz then (bnds lo hi len xs).bind fun r => some (.lsl b (off + r.1 * esz) (r.2 - r.1) esz, m) else none
  | _ => none
def rFadr (off : Nat) (ds : List D) (m : Mem) : RV := match ds with | [.loc b o] => some (.loc b (o + off), m) | [.ref cs o] => some (.ref cs (o + off), m) | _ => none
def rIadr (esz : Nat) (ds : List D) (m : Mem) : RV := match ds with
  | [.sl len cs, .int _ i] => if 0 ≤ i ∧ i < len then some (.ref cs (i.toNat * esz), m) else none
  | [.lsl b off len e, .int _ i] => if 0 ≤ i ∧ i < len then some (.loc b (off + i.toNat * esz), m) else none
  | _ => none
def rIadrA (esz len : Nat) (ds : List D) (m : Mem) : RV := match ds with
  | [.loc b off, .int _ i] => if 0 ≤ i ∧ i < len then some (.loc b (off + i.toNat * esz), m) else none
  | [.ref cs off, .int _ i] => if 0 ≤ i ∧ i < len then some (.ref cs (off + i.toNat * esz), m) else none
  | _ => none
def rIdxS (ds : List D) (m : Mem) : RV := match ds with
  | [.str s, .int _ i] => if 0 ≤ i then (s[i.toNat]?).bind fun b => some (.int .u8 b.toNat, m) else none
  | _ => none
def rExt (i : Nat) (ds : List D) (m : Mem) : RV := match ds with | [.tup ds] => (ds[i]?).bind fun d => some (d, m) | _ => none
def rLenS (ds : List D) (m : Mem) : RV := match ds with | [.str s] => some (.int .i64 s.length, m) | _ => none
def rLenL (ds : List D) (m : Mem) : RV := match ds with
  | [.nils] => some (.int .i64 0, m)
  | [.sl len _] => some (.int .i64 len, m)
  | [.lsl _ _ len _] => some (.int .i64 len, m)
  | _ => none
def rMn (ds : List D) (m : Mem) : RV := match ds with | [.int k a, .int _ b] => some (.int k (if b < a then b else a), m) | _ => none
def rMx (ds : List D) (m : Mem) : RV := match ds with | [.int k a, .int _ b] => some (.int k (if b > a then b else a), m) | _ => none
def rApp (base j esz : Nat) (ds : List D) (m : Mem) : RV := match ds with
  | [d, x] => (slc m esz x).bind fun rx => (takeL rx.1 rx.2.1 (rx.2.2 * esz)).bind fun news => match d with
    | .nils => if rx.2.2 = 0 then some (.nils, m) else if rx.2.2 ≤ maxLenL then newB base j news (.lsl (base + j) 0 rx.2.2 esz) m else none
    | .lsl b off len e => bif Nat.beq e esz then (match m[b]? with
      | some (.live cells) => (takeL cells off (len * esz)).bind fun olds =>
        if len + rx.2.2 ≤ maxLenL then newB base j (olds ++ news) (.lsl (base + j) 0 (len + rx.2.2) esz) (m.set b .dead) else none
      | _ => none) else none
    | _ => none
  | _ => none
def rCallp (O : Orc) (f : Nat) (args : List D) (m : Mem) : RV := (fzL (fz FZ) args m).bind fun r => (O.call f r.1).bind fun d => some (d, r.2)
def rCallc (O : Orc) (f : Nat) (args : List D) (m : Mem) : RV := bif args.all (D.clo 0 FZ) then (O.call f args).bind fun d => some (d, m) else none
def rCallv (O : Orc) (ds : List D) (m : Mem) : RV := match ds with
  | .func f cap :: args => (fzL (fz FZ) (args ++ cap) m).bind fun r => (O.call f r.1).bind fun d => some (d, r.2)
  | _ => none
def rMkm (base j : Nat) (ds : List D) (m : Mem) : RV := match ds with
  | [] => match m[base + j]? with
    | some .free => some (.lmap (base + j), m.set (base + j) (.mp []))
    | _ => none
  | _ => none
def insK (ks : List Int) (k : Int) : List Int := bif ks.contains k then ks else k :: ks
def rMput (ds : List D) (m : Mem) : RV := match ds with
  | [.lmap b, .int .i64 k, .bool true] => match m[b]? with
    | some (.mp ks) => some (.tup [], m.set b (.mp (insK ks k)))
    | _ => none
  | _ => none
def rMget (ds : List D) (m : Mem) : RV := match ds with
  | [.lmap b, .int .i64 k] => match m[b]? with
    | some (.mp ks) => some (.bool (ks.contains k), m)
    | _ => none
  | [.mapf ks, .int .i64 k] => some (.bool (ks.contains k), m)
  | [.nilm, .int .i64 _] => some (.bool false, m)
  | _ => none
def lookT {α : Type} : List (Nat × α) → Nat → Option α
  | [], _ => none
  | (i, e) :: r, n => bif Nat.beq i n then some e else lookT r n
def rTasC (t : Nat) (z : D) (ds : List D) (m : Mem) : RV := match ds with
  | [.nili] => some (.tup [z, .bool false], m)
  | [.iface u d] => bif Nat.beq u t then some (.tup [d, .bool true], m) else some (.tup [z, .bool false], m)
  | _ => none
def rTasI (tab : List (Nat × Bool)) (ds : List D) (m : Mem) : RV := match ds with
  | [.nili] => some (.tup [.nili, .bool false], m)
  | [.iface u d] => (lookT tab u).bind fun b => bif b then some (.tup [.iface u d, .bool true], m) else some (.tup [.nili, .bool false], m)
  | _ => none
def rInvc (O : Orc) (tab : List (Nat × Nat)) (ds : List D) (m : Mem) : RV := match ds with
  | .iface u d :: args => (lookT tab u).bind fun f => rCallc O f (d :: args) m
  | _ => none
def rInvp (O : Orc) (tab : List (Nat × Nat)) (ds : List D) (m : Mem) : RV := match ds with
  | .iface u d :: args => (lookT tab u).bind fun f => rCallp O f (d :: args) m
  | _ => none
def rEqF (n : Bool) (ts : List Nat) (ds : List D) (m : Mem) : RV := match ds with
  | [.nili, .iface _ _] | [.iface _ _, .nili] => some (.bool (false != n), m)
  | [.iface t (.int k a), .iface u (.int k' b)] => bif Nat.beq t u then (bif ts.contains t && k == k' then some (.bool ((a == b) != n), m) else none) else some (.bool (false != n), m)
  | [.iface t d, .iface u e] => bif Nat.beq t u then none else some (.bool (false != n), m)
  | _ => none
def K.run (O : Orc) (base : Nat) (k : K) (ds : List D) (m : Mem) : RV := match k with
  | .mov => rMov ds m
  | .pick => rPick ds m
  | .box j => rBox base j ds m
  | .alloc j z => rAlloc base j z ds m
  | .load1 => rLoad1 ds m
  | .loadF => rLoadF ds m
  | .loadA n => rLoadA n ds m
  | .store n => rStore n ds m
  | .build z ps => rBuild z ps ds m
  | .bsl _ len z ps => rBsl len z ps ds m
  | .bslA j esz len z ps => rBslA base j esz len z ps ds m
  | .nilck => rNilck ds m
  | .binI op => rBinI op ds m
  | .sh l => rSh l ds m
  | .binS op => rBinS op ds m
  | .eqB n => rEqB n ds m
  | .eqP n => rEqP n ds m
  | .eqN n c => rEqN n c ds m
  | .eqE _ => none
  | .eqA n k => rEqA n k ds m
  | .neg => rNeg ds m
  | .inv => rInv ds m
  | .not => rNot ds m
  | .conv k => rConv k ds m
  | .b2s => rB2s ds m
  | .eqS n => rEqS n ds m
  | .mkif t => rMkif t ds m
  | .mkfn f => some (.func f ds, m)
  | .mksl j esz z => rMksl base j esz z ds m
  | .slS lo hi => rSlS lo hi ds m
  | .slL esz lo hi => rSlL esz lo hi ds m
  | .fadr off => rFadr off ds m
  | .iadr esz => rIadr esz ds m
  | .iadrA esz len => rIadrA esz len ds m
  | .idxS => rIdxS ds m
  | .ext i => rExt i ds m
  | .lenS => rLenS ds m
  | .lenL => rLenL ds m
  | .mn => rMn ds m
  | .mx => rMx ds m
  | .app j esz => rApp base j esz ds m
  | .callp f => rCallp O f ds m
  | .callc f => rCallc O f ds m
  | .calla f => O.calla f ds m
  | .callv => rCallv O ds m
  | .mkm j => rMkm base j ds m
  | .mput => rMput ds m
  | .mget => rMget ds m
  | .tasC t z => rTasC t z ds m
  | .tasI tab => rTasI tab ds m
  | .invc tab => rInvc O tab ds m
  | .invp tab => rInvp O tab ds m
  | .eqF n ts => rEqF n ts ds m
  | .stop => none
def evs (e : Env) : List Opd → Option (List D)
  | [] => some []
  | x :: xs => (x.ev e).bind fun d => (evs e xs).bind fun ds => some (d :: ds)
def setE (e : Env) (dst : Option Nat) (d : D) : Env :=
  match dst with
  | some t => (t, d) :: e
  | none => e
def EO.wants (e : Env) (o : EO) : Option Bool :=
  match o.guard with
  | none => some true
  | some (t, b) => match look e t with
    | some (.bool b') => some (b' == b)
    | some (.tup []) => some false
    | _ => none
def EO.run (O : Orc) (base : Nat) (o : EO) (e : Env) (m : Mem) : Option (Env × Mem) :=
  (o.wants e).bind fun w => bif w then (evs e o.xs).bind fun ds => (o.k.run O base ds m).bind fun r => some (setE e o.dst r.1, r.2) else some (setE e o.dst (.tup []), m)
def runOps (O : Orc) (base : Nat) : List EO → Env → Mem → Option (Env × Mem)
  | [], e, m => some (e, m)
  | o :: os, e, m => (o.run O base e m).bind fun r => runOps O base os r.1 r.2
def maskE (e : Env) : List Nat → Env
  | [] => []
  | t :: ts => match look e t with
    | some d => (t, d) :: maskE e ts
    | none => maskE e ts
def pickE (e : Env) : List Nat → List D
  | [] => []
  | t :: ts => (look e t).getD .undef :: pickE e ts
def zipE : List Nat → List D → Env
  | [], _ => []
  | t :: ts, ds => (t, ds.headD .undef) :: zipE ts ds.tail
def EC.exec {R : Type} (O : Orc) : EC → Env → Mem → (Ex → Env → Mem → Option R) → Option R
  | .skip, e, m, k => k .normal e m
  | .region n ops, e, m, k => (runOps O m.length ops e (m ++ List.replicate n .free)).bind fun r => k .normal r.1 r.2
  | .drawn n ops, e, m, k => (runOps O m.length (ops.map (·.2)) e (m ++ List.replicate n .free)).bind fun r => k .normal r.1 r.2
  | .frz ts c, e, m, k => (fzL (fz FZ) (pickE e ts) m).bind fun r => c.exec O (zipE ts r.1 ++ e) r.2 k
  | .seq a b, e, m, k => a.exec O e m fun x e' m' => match x with
    | .normal => b.exec O e' m' k
    | x => k x e' m'
  | .cond c a b, e, m, k => match c.ev e with
    | some (.bool t) => if t = true then a.exec O e m k else b.exec O e m k
    | _ => none
  | .block id c, e, m, k => c.exec O e m fun x e' m' => match x with
    | .exit i => bif Nat.beq i id then k .normal e' m' else k (.exit i) e' m'
    | x => k x e' m'
  | .loop ins outs body, e, m, k => (O.loop ins outs body m.length (pickE e ins) m).bind fun r => k r.1 (zipE outs r.2.1) r.2.2
  | .exit id, e, m, k => k (.exit id) e m
  | .ret, e, m, k => k .ret e m
  | .mask keep c, e, m, k => c.exec O (maskE e keep) m k
  | .join keep c, e, m, k => (c.exec O e m fun x e' m' => some (x, pickE e' keep, m')).bind fun r => k r.1 (zipE keep r.2.1) r.2.2
inductive ER where
  | tmp (t : Nat)
  | cell (t : Nat) (agg : Bool) (n : Nat)
  deriving Inhabited
def ER.get (e : Env) (m : Mem) : ER → Option D
  | .tmp t => look e t
  | .cell t agg n => (look e t).bind fun a => (adr m a).bind fun r => bif agg then (takeL r.1 r.2 n).bind fun ds => some (.agg ds) else r.1[r.2]?
def ERs (e : Env) (m : Mem) : List ER → Option (List D)
  | [] => some []
  | r :: rs => (r.get e m).bind fun d => (ERs e m rs).bind fun ds => some (d :: ds)
structure EF where
  params : List Nat
  res : List ER
  body : EC
  deriving Inhabited
def loopStep (O : Orc) (ins outs : List Nat) (body : EC) (base : Nat) (vals : List D) (m : Mem) : Option (Ex × List D × Mem) :=
  body.exec O (zipE ins vals) m fun x e m' => match x with
    | .normal => (gc base (pickE e ins) m').bind fun r => O.loop ins outs body base r.1 r.2
    | x => (gc base (pickE e outs) m').bind fun r => some (x, r.1, r.2)
def tupD (r : List D × Mem) : D × Mem := match r.1 with
  | [d] => (d, r.2)
  | ds => (.tup ds, r.2)
def EF.step (O : Orc) (f : EF) (args : List D) (m : Mem) : Option (D × Mem) :=
  bif Nat.beq args.length f.params.length then
    f.body.exec O (zipE f.params args) m fun x e m' => match x with
      | .exit _ => none
      | _ => (ERs e m' f.res).bind fun rs => (gc m.length rs m').bind fun r => some (tupD r)
  else none
structure Tab where
  fn : Nat → Option EF
  prim : Nat → List D → Mem → Option (D × Mem)
def Tab.orc (T : Tab) : Nat → Orc
  | 0 => ⟨fun _ _ _ => none, fun _ _ _ _ _ _ => none, fun _ _ => none⟩
  | n + 1 =>
    ⟨fun f args m => match T.fn f with
      | some ef => ef.step (T.orc n) args m
      | none => T.prim f args m,
     fun ins outs body base vals m => loopStep (T.orc n) ins outs body base vals m,
     fun f args => pureOf (match T.fn f with
      | some ef => ef.step (T.orc n) args []
      | none => T.prim f args [])⟩
end Go.Ev
end
section
set_option linter.unusedVariables false
namespace Go.Ev
def deq : D → Value → Bool
  | .int k n, .int k' n' => k == k' && n == n'
  | .bool b, .bool b' => b == b'
  | .str s, .string b => s == b.data.toList
  | .nilp, .pointer none => true
  | .nils, .slice none 0 0 => true
  | .sl 0 [], .slice none 0 0 => true
  | .nili, .nilIface => true
  | .nilm, .map none => true
  | .raw b o, .pointer (some ⟨b', o', none⟩) => Nat.beq b b' && Nat.beq o o'
  | _, _ => false
def deqL : List D → List Value → Bool
  | [], [] => true
  | d :: ds, v :: vs => deq d v && deqL ds vs
  | _, _ => false
def Opd.chk : Opd → Operand → Bool
  | .t n, .tmp m => Nat.beq n m
  | .k d, .const v => deq d v
  | .k (.func f []), .func f' => Nat.beq f f'
  | _, _ => false
def chkL : List Opd → List Operand → Bool
  | [], [] => true
  | x :: xs, y :: ys => x.chk y && chkL xs ys
  | _, _ => false
section
variable (P : Program)
def uSlice (t : TypeId) : Option TypeId := match P.underlying t with | some (.slice e) => some e | _ => none
def uAgg (t : TypeId) : Option Bool := match P.underlying t with | some (.struct _) | some (.array _ _) => some true | some _ => some false | none => none
def szOf (t : TypeId) : Option Nat := (P.info? t).map (·.size)
def zeroIs (t : TypeId) (z : List D) : Bool := match (P.info? t).bind (·.zero) with | some v => deqL z v.cells.toList | none => false
def partsIs (place : Nat → Option (Nat × Nat)) : List (Nat × Operand) → List (Nat × Nat) → Bool
  | [], [] => true
  | (i, _) :: xs, (off, n) :: ps => (match place i with | some (o, s) => Nat.beq o off && Nat.beq s n | none => false) && partsIs place xs ps
  | _, _ => false
def placesOf (t : TypeId) : Nat → Option (Nat × Nat) := fun i =>
  match P.underlying t with
  | some (.struct fs) => (fs[i]?).bind fun f => (szOf P f.type).map fun s => (f.offset, s)
  | some (.array _ e) => (szOf P e).map fun s => (i * s, s)
  | _ => none
def fieldsOk (t : TypeId) : Bool := match P.underlying t with
  | some (.struct fs) => fs.toList.all fun f => (szOf P f.type).isSome
  | some (.array _ e) => (szOf P e).isSome
  | _ => false
def isK (x : Operand) : Bool := match x with | .const _ => true | _ => false
def eqKind (t : TypeId) (k : Nat) : Bool :=
  match P.underlying t with
  | some .bool => Nat.beq k 0
  | some (.int _) => Nat.beq k 1
  | some .string => Nat.beq k 2
  | _ => false
def eqFields : List Field → List Nat → Nat → Bool
  | [], [], _ => true
  | f :: fs, k :: ks, i => Nat.beq f.offset i && f.name != "_" && eqKind P f.type k && eqFields fs ks (i + 1)
  | _, _, _ => false
def methAt (u : TypeId) (name : String) (f : Nat) : Bool :=
  match (P.info? u).bind (fun i => i.methods.find? (·.name == name)) with
  | some m => match m.path.toList, m.func with
    | [], some (g, pr) => Nat.beq f g && (match P.underlying u with | some (.pointer _) => pr | some _ => !pr | none => false)
    | _, _ => false
  | none => false
def methsAt (name : String) : List (Nat × Nat) → Bool
  | [] => true
  | (u, f) :: r => methAt P u name f && methsAt name r
def hasAll (want : Array (String × TypeId)) : List (Nat × Bool) → Bool
  | [] => true
  | (u, b) :: r => ((P.info? u).map (fun i => (lacking want i.methods).isEmpty)) == some b && hasAll want r
def plainInts : List Nat → Bool
  | [] => true
  | t :: ts => (match P.underlying t with | some (.int _) => true | _ => false) && (match P.info? t with | some i => i.comparable | none => false) && plainInts ts
def chkOp (k : K) (op : Op) : Option (List Operand) :=
  match k with
  | .mov => match op with | .move x | .assign x => some [x] | _ => none
  | .pick => match op with | .pick c a b => some [c, a, b] | _ => none
  | .box _ => match op with | .box _ x => some [x] | _ => none
  | .alloc _ z => match op with | .alloc e => if zeroIs P e z then some [] else none | _ => none
  | .load1 | .loadF => match op with | .load t x => if uAgg P t = some false then some [x] else none | _ => none
  | .loadA n => match op with | .load t x => if uAgg P t = some true ∧ szOf P t = some n then some [x] else none | _ => none
  | .store n => match op with | .store t x y => if szOf P t = some n then some [x, y] else none | _ => none
  | .build z ps => match op with
    | .build t parts => if zeroIs P t z ∧ fieldsOk P t ∧ partsIs (placesOf P t) parts.toList ps then some (parts.toList.map (·.2)) else none
    | _ => none
  | .bsl esz len z ps | .bslA _ esz len z ps => match op with
    | .buildSlice t n parts => (uSlice P t).bind fun e => if szOf P e = some esz ∧ n = len ∧ 0 < esz ∧ z.length = esz ∧ len * esz ≤ 16777216 ∧ zeroIs P e z ∧ partsIs (fun i => some (i * esz, esz)) parts.toList ps then some (parts.toList.map (·.2)) else none
    | _ => none
  | .nilck => match op with | .nilCheck x => some [x] | _ => none
  | .binI b => match op with | .binOp b' _ x y _ => if b = b' ∧ b ≠ .shl ∧ b ≠ .shr then some [x, y] else none | _ => none
  | .sh l => match op with | .binOp b _ x y _ => if b = (if l then .shl else .shr) then some [x, y] else none | _ => none
  | .binS b => match op with | .binOp b' _ x y _ => if b = b' then some [x, y] else none | _ => none
  | .eqB n => match op with | .binOp b t x y _ => if b = (if n then .neq else .eql) ∧ P.underlying t matches some .bool then some [x, y] else none | _ => none
  | .eqP n => match op with | .binOp b t x y _ => if b = (if n then .neq else .eql) ∧ P.underlying t matches some (.pointer _) then some [x, y] else none | _ => none
  | .eqN n c => match op with | .binOp b t x y _ => if b = (if n then .neq else .eql) ∧ (P.underlying t matches some (.interface _)) ∧ (c = false ∨ isK x ∨ isK y) then some [x, y] else none | _ => none
  | .eqE _ => none
  | .eqA n k => match op with
    | .binOp b t x y _ => match P.underlying t with
      | some (.struct fs) => if b = (if n then .neq else .eql) ∧ eqFields P fs.toList k 0 ∧ P.eqGuardType P.depth t = false ∧ P.stoodInHeld t = false then some [x, y] else none
      | _ => none
    | _ => none
  | .neg => match op with | .unOp .neg _ x => some [x] | _ => none
  | .inv => match op with | .unOp .xor _ x => some [x] | _ => none
  | .not => match op with | .unOp .not _ x => some [x] | _ => none
  | .conv k => match op with | .convert s d x => if (P.underlying s).isSome ∧ P.underlying d matches some (.int _) then (match P.underlying d with | some (.int k') => if k = k' then some [x] else none | _ => none) else none | _ => none
  | .b2s => match op with
    | .convert s d x => (uSlice P s).bind fun e => if (P.underlying e matches some (.int .u8)) ∧ (P.underlying d matches some .string) then some [x] else none
    | _ => none
  | .eqS n => match op with | .binOp b t x y _ => if b = (if n then .neq else .eql) ∧ P.underlying t matches some (.slice _) then some [x, y] else none | _ => none
  | .mkif t => match op with | .makeInterface t' x => if t = t' ∧ (P.underlying t).isSome ∧ ¬ (P.underlying t matches some (.interface _)) then some [x] else none | _ => none
  | .mkfn f => match op with | .makeFunc (.func f') first cap => if f = f' ∧ first = #[] then some cap.toList else none | _ => none
  | .mksl _ esz z => match op with
    | .makeSlice t x y => (uSlice P t).bind fun e => if szOf P e = some esz ∧ 0 < esz ∧ z.length = esz ∧ zeroIs P e z ∧ ((P.info? e).map (·.bytes)).getD 0 ≤ 4096 ∧ (P.info? e).isSome then some [x, y] else none
    | _ => none
  | .slS lo hi => match op with
    | .slice t x l h none => if (P.underlying t matches some .string) ∧ l.isSome = lo ∧ h.isSome = hi then some (x :: l.toList ++ h.toList) else none
    | _ => none
  | .slL esz lo hi => match op with
    | .slice t x l h none => (uSlice P t).bind fun e => if szOf P e = some esz ∧ l.isSome = lo ∧ h.isSome = hi then some (x :: l.toList ++ h.toList) else none
    | _ => none
  | .fadr off => match op with
    | .fieldAddr t x f => match P.underlying t with
      | some (.struct fs) => (fs[f]?).bind fun fd => if fd.offset = off ∧ (szOf P fd.type).any (0 < ·) then some [x] else none
      | _ => none
    | _ => none
  | .iadr esz => match op with | .indexAddr t x y => (uSlice P t).bind fun e => if szOf P e = some esz then some [x, y] else none | _ => none
  | .iadrA esz len => match op with
    | .indexAddr t x y => match P.underlying t with
      | some (.array n e) => if n = len ∧ szOf P e = some esz then some [x, y] else none
      | _ => none
    | _ => none
  | .idxS => match op with | .index t x y => if P.underlying t matches some .string then some [x, y] else none | _ => none
  | .ext i => match op with | .extract x i' => if i = i' then some [x] else none | _ => none
  | .lenS => match op with | .call ⟨.builtin .len, args, ts⟩ => if (ts[0]?).any (fun t => P.underlying t matches some .string) ∧ args.size = 1 then some args.toList else none | _ => none
  | .lenL => match op with | .call ⟨.builtin .len, args, ts⟩ => if (ts[0]?).any (fun t => P.underlying t matches some (.slice _)) ∧ args.size = 1 then some args.toList else none | _ => none
  | .mn => match op with | .call ⟨.builtin .min, args, _⟩ => if args.size = 2 then some args.toList else none | _ => none
  | .mx => match op with | .call ⟨.builtin .max, args, _⟩ => if args.size = 2 then some args.toList else none | _ => none
  | .app _ esz => match op with
    | .call ⟨.builtin .append, args, ts⟩ => if args.size = 2 ∧ ts.size = 2 then
        ((ts[0]?).bind (uSlice P)).bind fun e => ((ts[1]?).bind (uSlice P)).bind fun _ =>
          if szOf P e = some esz ∧ 0 < esz ∧ ((P.info? e).map (·.bytes)).getD 0 ≤ 4096 ∧ (((P.info? e).bind (·.zero)).any fun v => Nat.beq v.cells.size esz) then some args.toList else none
      else none
    | _ => none
  | .callp f | .callc f | .calla f => match op with
    | .call ⟨.value (.func f'), args, _⟩ => if f = f' then some args.toList else none
    | _ => none
  | .callv => match op with
    | .call ⟨.value g, args, _⟩ => some (g :: args.toList)
    | _ => none
  | .stop => some []
  | .mkm _ => match op with | .makeMap _ none => some [] | _ => none
  | .mput => match op with
    | .mapUpdate t x y z => match P.underlying t with
      | some (.map kt _) => if P.underlying kt matches some (.int .i64) then some [x, y, z] else none
      | _ => none
    | _ => none
  | .mget => match op with
    | .lookup t x y false => match P.underlying t with
      | some (.map kt et) => if (P.underlying kt matches some (.int .i64)) ∧ zeroIs P et [.bool false] ∧ (P.info? et).any (fun i => match i.zero with | some (.agg _) => false | some (.tuple _) => false | _ => true) then some [x, y] else none
      | _ => none
    | _ => none
  | .tasC t z => match op with
    | .typeAssert x _ t' true => if t = t' ∧ (P.underlying t).isSome ∧ ¬ (P.underlying t matches some (.interface _)) ∧ zeroIs P t [z] ∧ (P.info? t).any (fun i => match i.zero with | some (.agg _) => false | some (.tuple _) => false | _ => true) then some [x] else none
    | _ => none
  | .tasI tab => match op with
    | .typeAssert x _ t' true => match P.underlying t' with
      | some (.interface want) => if hasAll P want tab ∧ (P.info? t').any (fun i => match i.zero with | some .nilIface => true | _ => false) then some [x] else none
      | _ => none
    | _ => none
  | .invc tab | .invp tab => match op with
    | .call ⟨.invoke recv name, args, _⟩ => if methsAt P name tab then some (recv :: args.toList) else none
    | _ => none
  | .eqF n ts => match op with | .binOp b t x y _ => if b = (if n then .neq else .eql) ∧ (P.underlying t matches some (.interface _)) ∧ plainInts P ts then some [x, y] else none | _ => none
end
inductive RepL (c : Ctx) : List D → List Value → Prop
  | nil : RepL c [] []
  | cons {d : D} {v : Value} {ds : List D} {vs : List Value} (h : Rep c d v) (hs : RepL c ds vs) : RepL c (d :: ds) (v :: vs)
theorem RepL.mono {c c' : Ctx} (h : Ext c c') {ds : List D} {vs : List Value} (hr : RepL c ds vs) : RepL c' ds vs := by
  induction hr with
  | nil => exact .nil
  | cons h1 _ ih => exact .cons (h1.mono h) ih
theorem RepL.length {c : Ctx} {ds : List D} {vs : List Value} (hr : RepL c ds vs) : ds.length = vs.length := by
  induction hr with
  | nil => rfl
  | cons _ _ ih => simp [ih]
theorem RepL.get {c : Ctx} {ds : List D} {vs : List Value} (hr : RepL c ds vs) : ∀ (i : Nat) (d : D), ds[i]? = some d → ∃ v, vs[i]? = some v ∧ Rep c d v := by
  induction hr with
  | nil => intro i d h; simp at h
  | cons h1 _ ih =>
    intro i d h
    cases i with
    | zero => simp at h; subst h; exact ⟨_, rfl, h1⟩
    | succ i => exact ih i d (by simpa using h)
theorem deq_rep {c : Ctx} {d : D} {v : Value} (h : deq d v = true) : Rep c d v := by
  unfold deq at h
  split at h <;> simp at h
  · obtain ⟨rfl, rfl⟩ := h; exact .fro _ _ (.int _ _)
  · subst h; exact .fro _ _ (.bool _)
  · subst h; exact .fro _ _ (.str _)
  · exact .fro _ _ .nilp
  · exact .fro _ _ .nils
  · exact .fro _ _ .sl0
  · exact .fro _ _ .nili
  · exact .fro _ _ .nilm
  · obtain ⟨rfl, rfl⟩ := h; exact .fro _ _ (.raw _ _)
theorem deq_one {d : D} {v : Value} (h : deq d v = true) : v.oneCell' = true := by
  unfold deq at h
  split at h <;> simp at h <;> rfl
theorem deqL_spec : ∀ {ds : List D} {vs : List Value}, deqL ds vs = true → ds.length = vs.length ∧ ∀ (i : Nat) (d : D), ds[i]? = some d → ∃ v, vs[i]? = some v ∧ deq d v = true
  | [], [], _ => ⟨rfl, fun i d h => by simp at h⟩
  | [], _ :: _, h => by simp [deqL] at h
  | _ :: _, [], h => by simp [deqL] at h
  | d :: ds, v :: vs, h => by
    simp [deqL] at h
    obtain ⟨h1, h2⟩ := deqL_spec h.2
    refine ⟨by simp [h1], fun i e he => ?_⟩
    cases i with
    | zero => simp at he; subst he; exact ⟨v, rfl, h.1⟩
    | succ i => exact h2 i e (by simpa using he)
def EnvR (c : Ctx) (e : Env) (a : Act) : Prop := ∀ (t : Nat) (d : D), look e t = some d → Rep c d (a.tmps.getD t Go.undef)
theorem EnvR.mono {c c' : Ctx} (h : Ext c c') {e : Env} {a : Act} (he : EnvR c e a) : EnvR c' e a := fun t d ht => (he t d ht).mono h
theorem Opd.rep {c : Ctx} {e : Env} {a : Act} (he : EnvR c e a) {x : Opd} {y : Operand} (hc : x.chk y = true) {d : D} (hd : x.ev e = some d) : Rep c d (a.eval y) := by
  unfold Opd.chk at hc
  split at hc
  · rename_i n m
    have := Nat.eq_of_beq_eq_true hc
    subst this
    exact he n d hd
  · simp [Opd.ev] at hd
    subst hd
    exact deq_rep hc
  · rename_i f f'
    have := Nat.eq_of_beq_eq_true hc
    subst this
    simp [Opd.ev] at hd
    subst hd
    exact .func f [] #[] (fun _ => undef) rfl (fun j hj => by simp at hj) (fun j d hd => by simp at hd)
  · simp at hc
theorem evs_rep {c : Ctx} {e : Env} {a : Act} (he : EnvR c e a) : ∀ {xs : List Opd} {ys : List Operand} {ds : List D}, chkL xs ys = true → evs e xs = some ds → RepL c ds (ys.map a.eval)
  | [], [], ds, _, h => by simp [evs] at h; subst h; exact .nil
  | [], _ :: _, _, h, _ => by simp [chkL] at h
  | _ :: _, [], _, h, _ => by simp [chkL] at h
  | x :: xs, y :: ys, ds, hc, h => by
    simp [chkL] at hc
    simp [evs, Option.bind_eq_some_iff] at h
    obtain ⟨d, hd, ds', hds, rfl⟩ := h
    exact .cons (Opd.rep he hc.1 hd) (evs_rep he hc.2 hds)
end Go.Ev
end
