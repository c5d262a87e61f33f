/- A part of the proof of flowSum_card, flowParts_card, flowEx_card, accrWhole_card, priceZero_card. -/
import Derived.Test.YtnokhmkkpcfilaaGreatDoorCFlat
set_option linter.unusedVariables false
set_option linter.unusedSimpArgs false
namespace Go.Ev
attribute [simp] List.getElem?_cons_zero List.getElem?_cons_succ
def kV {β : Type} (s : Option Slot) (f : List D → Option β) : Option β := match s with
 | some (.live cs) => f cs
 | _ => none
def anyM {β : Type} (s : Option Slot) (f : List D → Option β) : Option β := match s with
 | some (.live cs) => f cs
 | some (.iC cs) => f cs
 | _ => none
def XR {β : Type} (s : Option Slot) (x : Option β) : Option β := match s with
 | some .free => x
 | _ => none
@[congr] theorem ar6 {β : Type} {s s' : Option Slot} {f : List D → Option β} (h : s = s') : kV s f = kV s' f := by rw [h]
@[congr] theorem anyM_congr {β : Type} {s s' : Option Slot} {f : List D → Option β} (h : s = s') : anyM s f = anyM s' f := by rw [h]
@[congr] theorem ar5 {β : Type} {s s' : Option Slot} {x : Option β} (h : s = s') : XR s x = XR s' x := by rw [h]
@[simp] theorem avA {β : Type} (cs : List D) (f : List D → Option β) : kV (some (.live cs)) f = f cs := by rfl
@[simp] theorem avo {β : Type} (cs : List D) (f : List D → Option β) : anyM (some (.live cs)) f = f cs := by rfl
@[simp] theorem avn {β : Type} (cs : List D) (f : List D → Option β) : anyM (some (.iC cs)) f = f cs := by rfl
@[simp] theorem avq {β : Type} (x : Option β) : XR (some .free) x = x := by rfl
section
variable {m : Mem} {O : aC}
@[simp] theorem av5 (d : D) : Xn [d] m = some (d, m) := by rfl
@[simp] theorem avg (x y : D) : Nl [.bool true, x, y] m = some (x, m) := by rfl
@[simp] theorem avf (x y : D) : Nl [.bool false, x, y] m = some (y, m) := by rfl
@[simp] theorem avX (base j : Nat) (d : D) : Xh base j [d] m = bd (eY d) fun cs => zx base j cs (.loc (base + j) 0) m := by rfl
@[simp] theorem au2 (base j : Nat) (z : List D) : KX base j z [] m = zx base j z (.loc (base + j) 0) m := by rfl
@[simp] theorem avV (base j : Nat) (cs : List D) (d : D) : zx base j cs d m = XR (m[base + j]?) (some (d, m.set (base + j) (.live cs))) := by
  unfold zx XR; split <;> simp_all
@[simp] theorem akQ (b off : Nat) : zU [.loc b off] m = bd (Sv m (.loc b off)) fun r => bd (r.1[r.2]?) fun d => some (d, m) := by rfl
@[simp] theorem asC (cs : List D) (off : Nat) : zU [.ref cs off] m = bd (cs[off]?) fun d => some (d, m) := by rfl
@[simp] theorem avb (cs : List D) (off : Nat) : KZ [.ref cs off] m = bd (cs[off]?) fun d => some (d, m) := by rfl
@[simp] theorem asD (n b off : Nat) : IG n [.loc b off] m = bd (Sv m (.loc b off)) fun r => bd (nG r.1 r.2 n) fun ds => some (.agg ds, m) := by rfl
@[simp] theorem asE (n off : Nat) (cs : List D) : IG n [.ref cs off] m = bd (nG cs off n) fun ds => some (.agg ds, m) := by rfl
@[simp] theorem apu (b off : Nat) : Sv m (.loc b off) = anyM (m[b]?) fun cs => some (cs, off) := by
  rfl
@[simp] theorem aql (n b off : Nat) (d : D) : BO n [.loc b off, d] m = bd (eY d) fun cs => kV (m[b]?) fun cells => if cs.length = n ∧ off + n ≤ cells.length then some (.aZ [], m.set b (.live (Ee cells off cs))) else none := by
  unfold BO bd kV; rfl
@[simp] theorem atV (cells : List D) (off : Nat) : Ee cells off [] = cells := by rfl
@[simp] theorem as4 (cells : List D) (off : Nat) (d : D) (ds : List D) : Ee cells off (d :: ds) = Ee (cells.set off d) (off + 1) ds := by rfl
@[simp] theorem avR (cells : List D) (off n : Nat) : nG cells off n = if off + n ≤ cells.length then some ((cells.drop off).take n) else none := by rfl
@[simp] theorem au3 (z : List D) (ps : List (Nat × Nat)) (ds : List D) : KY z ps ds m = bd (oQ z ps ds) fun cs => some (.agg cs, m) := by rfl
@[simp] theorem asN (cells : List D) : oQ cells [] [] = some cells := by rfl
@[simp] theorem asl (cells : List D) (off n : Nat) (ps : List (Nat × Nat)) (d : D) (ds : List D) : oQ cells ((off, n) :: ps) (d :: ds) = bd (eY d) fun cs => if cs.length = n ∧ off + n ≤ cells.length then oQ (Ee cells off cs) ps ds else none := by rfl
@[simp] theorem avY (len : Nat) (z : List D) (ps : List (Nat × Nat)) (ds : List D) : Xi len z ps ds m = bif ds.all (D.clo 0 FZ) then bd (oQ (zeros len z) ps ds) fun cs => some (.sl len cs, m) else none := by rfl
@[simp] theorem avE (base j esz len : Nat) (z : List D) (ps : List (Nat × Nat)) (ds : List D) : QS base j esz len z ps ds m = bd (oQ (zeros len z) ps ds) fun cs => zx base j cs (.bg (base + j) 0 len esz) m := by rfl
@[simp] theorem asF (b off : Nat) : IJ [.loc b off] m = some (.loc b off, m) := by rfl
@[simp] theorem asG (cs : List D) (off : Nat) : IJ [.ref cs off] m = some (.ref cs off, m) := by rfl
@[simp] theorem arU (ds : List D) : eY (.agg ds) = some ds := by rfl
@[simp] theorem arV (k : IntKind) (n : Int) : eY (.int k n) = some [.int k n] := by rfl
@[simp] theorem aqW (b : Bool) : eY (.bool b) = some [.bool b] := by rfl
@[simp] theorem ar0 (s : List UInt8) : eY (.str s) = some [.str s] := by rfl
@[simp] theorem arZ (cs : List D) (o : Nat) : eY (.ref cs o) = some [.ref cs o] := by rfl
@[simp] theorem ar7 (n : Nat) (cs : List D) : eY (.sl n cs) = some [.sl n cs] := by rfl
@[simp] theorem aq1 : eY .aV = some [.aV] := by rfl
@[simp] theorem aq2 : eY .dA = some [.dA] := by rfl
@[simp] theorem aqZ : eY .aF = some [.aF] := by rfl
@[simp] theorem aqX (b : Nat) : eY (.lmap b) = some [.lmap b] := by rfl
@[simp] theorem aqY (ks : List Int) : eY (.qG ks) = some [.qG ks] := by rfl
@[simp] theorem arY (b o : Nat) : eY (.raw b o) = some [.raw b o] := by rfl
@[simp] theorem aq0 : eY .xC = some [.xC] := by rfl
@[simp] theorem arW (b o : Nat) : eY (.loc b o) = some [.loc b o] := by rfl
@[simp] theorem arX (b o l e : Nat) : eY (.bg b o l e) = some [.bg b o l e] := by rfl
@[simp] theorem aqR (t : Nat) (d : D) : eY (.iface t d) = some [.iface t d] := by rfl
theorem AL (k : IntKind) : (k == k) = true := by cases k <;> rfl
@[simp] theorem av' (k : IntKind) (a b : Int) : dZ .add [.int k a, .int k b] m = some (.int k (k.wrap (a + b)), m) := by simp [dZ, AL, aj]
@[simp] theorem at7 (k : IntKind) (a b : Int) : dZ .sub [.int k a, .int k b] m = some (.int k (k.wrap (a - b)), m) := by simp [dZ, AL, aj]
@[simp] theorem awi (k : IntKind) (a b : Int) : dZ .mul [.int k a, .int k b] m = some (.int k (k.wrap (a * b)), m) := by simp [dZ, AL, aj]
@[simp] theorem arK (k : IntKind) (a b : Int) (h : b ≠ 0) : dZ .quo [.int k a, .int k b] m = some (.int k (k.wrap (a.tdiv b)), m) := by simp [dZ, AL, aj, h]
@[simp] theorem atZ (k : IntKind) (a b : Int) (h : b ≠ 0) : dZ .rem [.int k a, .int k b] m = some (.int k (a.tmod b), m) := by simp [dZ, AL, aj, h]
@[simp] theorem awc (k : IntKind) (a b : Int) : dZ .eql [.int k a, .int k b] m = some (.bool (decide (a = b)), m) := by
  simp only [dZ, AL, aj, cond_true, Option.bind_some]; congr 3
@[simp] theorem atY (k : IntKind) (a b : Int) : dZ .neq [.int k a, .int k b] m = some (.bool (!decide (a = b)), m) := by
  simp only [dZ, AL, aj, cond_true, Option.bind_some]; congr 3
@[simp] theorem awg (k : IntKind) (a b : Int) : dZ .lss [.int k a, .int k b] m = some (.bool (decide (a < b)), m) := by simp [dZ, AL, aj]
@[simp] theorem awf (k : IntKind) (a b : Int) : dZ .leq [.int k a, .int k b] m = some (.bool (decide (a ≤ b)), m) := by simp [dZ, AL, aj]
@[simp] theorem awe (k : IntKind) (a b : Int) : dZ .gtr [.int k a, .int k b] m = some (.bool (decide (b < a)), m) := by simp [dZ, AL, aj]
@[simp] theorem awd (k : IntKind) (a b : Int) : dZ .geq [.int k a, .int k b] m = some (.bool (decide (b ≤ a)), m) := by simp [dZ, AL, aj]
theorem arJ (k : IntKind) (a b : Int) : dZ .and [.int k a, .int k b] m = some (.int k (k.wrap (BitVec.ofInt k.bits a &&& BitVec.ofInt k.bits b).toNat), m) := by simp [dZ, AL, aj]
theorem rOr (k : IntKind) (a b : Int) : dZ .or [.int k a, .int k b] m = some (.int k (k.wrap (BitVec.ofInt k.bits a ||| BitVec.ofInt k.bits b).toNat), m) := by simp [dZ, AL, aj]
theorem at1 (k k' : IntKind) (a b : Int) (h : 0 ≤ b) : qQ true [.int k a, .int k' b] m = some (.int k (k.wrap (a * 2 ^ (min b.toNat k.bits))), m) := by simp [qQ, shI, Int.not_lt.2 h]
theorem arL (k k' : IntKind) (a b : Int) (h : 0 ≤ b) : qQ false [.int k a, .int k' b] m = some (.int k (a.fdiv (2 ^ (min b.toNat k.bits))), m) := by simp [qQ, shI, Int.not_lt.2 h]
@[simp] theorem as6 (a b : List UInt8) : DU .add [.str a, .str b] m = if a.length + b.length ≤ maxStr then some (.str (a ++ b), m) else none := by
  simp only [DU, Ev.fE]; split <;> rfl
@[simp] theorem as7 (a b : List UInt8) : DU .eql [.str a, .str b] m = some (.bool (decide (a = b)), m) := by
  simp only [DU, Ev.fE, Option.bind_some]; congr 3; rw [Bool.eq_iff_iff]; simp
@[simp] theorem as8 (a b : List UInt8) : DU .neq [.str a, .str b] m = some (.bool (!decide (a = b)), m) := by
  simp only [DU, Ev.fE, Option.bind_some]; congr 3; rw [Bool.eq_iff_iff]; simp
@[simp] theorem av1 (n a b : Bool) : Xk n [.bool a, .bool b] m = some (.bool ((a == b) != n), m) := by rfl
@[simp] theorem au' (n : Bool) : Ry n [.aV, .aV] m = some (.bool (true != n), m) := by rfl
@[simp] theorem ava (n : Bool) (cs : List D) (o : Nat) : Ry n [.ref cs o, .aV] m = some (.bool (false != n), m) := by rfl
@[simp] theorem au_ (n : Bool) (b o : Nat) : Ry n [.loc b o, .aV] m = some (.bool (false != n), m) := by rfl
@[simp] theorem au9 (n : Bool) : Rx n true [.aF, .aF] m = some (.bool (true != n), m) := by rfl
@[simp] theorem au7 (n c : Bool) (t : Nat) (d : D) : Rx n c [.iface t d, .aF] m = some (.bool (false != n), m) := by rfl
@[simp] theorem au8 (n c : Bool) (t : Nat) (d : D) : Rx n c [.aF, .iface t d] m = some (.bool (false != n), m) := by rfl
@[simp] theorem avZ (n : Bool) (ks : List Nat) (xs ys : List D) : Xj n ks [.agg xs, .agg ys] m = bd (dL ks xs ys) fun r => some (.bool (r != n), m) := by rfl
@[simp] theorem auE : dL [] [] [] = some true := by rfl
@[simp] theorem auD (ks : List Nat) (xs ys : List D) (k : IntKind) (a b : Int) : dL (1 :: ks) (.int k a :: xs) (.int k b :: ys) = bd (dL ks xs ys) fun r => some (decide (a = b) && r) := by
  simp only [dL, AL, cond_true, bd]; congr 1
@[simp] theorem atC (ks : List Nat) (xs ys : List D) (a b : Bool) : dL (0 :: ks) (.bool a :: xs) (.bool b :: ys) = bd (dL ks xs ys) fun r => some ((a == b) && r) := by rfl
@[simp] theorem auF (ks : List Nat) (xs ys : List D) (a b : List UInt8) : dL (2 :: ks) (.str a :: xs) (.str b :: ys) = bd (dL ks xs ys) fun r => some ((a == b) && r) := by rfl
@[simp] theorem av6 (k : IntKind) (a : Int) : Xo [.int k a] m = some (.int k (k.wrap (0 - a)), m) := by rfl
@[simp] theorem av7 (b : Bool) : Xp [.bool b] m = some (.bool (!b), m) := by rfl
@[simp] theorem avF (k k' : IntKind) (n : Int) : QT k [.int k' n] m = some (.int k (k.wrap n), m) := by rfl
@[simp] theorem avK (t : Nat) (d : D) : QV t [d] m = some (.iface t d, m) := by rfl
@[simp] theorem as9 (off b o : Nat) : Na off [.loc b o] m = some (.loc b (o + off), m) := by rfl
@[simp] theorem ata (off o : Nat) (cs : List D) : Na off [.ref cs o] m = some (.ref cs (o + off), m) := by rfl
@[simp] theorem aoq (esz len : Nat) (cs : List D) (k : IntKind) (i : Int) (h : 0 ≤ i ∧ i < len) : FV esz [.sl len cs, .int k i] m = some (.ref cs (i.toNat * esz), m) := by simp [FV, h]
@[simp] theorem amC (esz b off len e : Nat) (k : IntKind) (i : Int) (h : 0 ≤ i ∧ i < len) : FV esz [.bg b off len e, .int k i] m = some (.loc b (off + i.toNat * esz), m) := by simp [FV, h]
@[simp] theorem asz (esz b off len : Nat) (k : IntKind) (i : Int) (h : 0 ≤ i ∧ i < len) : BN esz len [.loc b off, .int k i] m = some (.loc b (off + i.toNat * esz), m) := by simp [BN, h]
@[simp] theorem asA (esz off len : Nat) (cs : List D) (k : IntKind) (i : Int) (h : 0 ≤ i ∧ i < len) : BN esz len [.ref cs off, .int k i] m = some (.ref cs (off + i.toNat * esz), m) := by simp [BN, h]
@[simp] theorem avG (s : List UInt8) (k : IntKind) (i : Int) (h : 0 ≤ i) : Nb [.str s, .int k i] m = bd (s[i.toNat]?) fun b => some (.int .u8 b.toNat, m) := by simp [Nb, h, bd]
@[simp] theorem av3 (i : Nat) (ds : List D) : Xm i [.agg ds] m = bd (ds[i]?) fun d => some (d, m) := by rfl
@[simp] theorem av2 (i : Nat) (ds : List D) : Xl i [.aZ ds] m = bd (ds[i]?) fun d => some (d, m) := by rfl
@[simp] theorem avJ (s : List UInt8) : QU [.str s] m = some (.int .i64 s.length, m) := by rfl
@[simp] theorem atX (len : Nat) (cs : List D) : IE [.sl len cs] m = some (.int .i64 len, m) := by rfl
@[simp] theorem asB : IE [.dA] m = some (.int .i64 0, m) := by rfl
@[simp] theorem atb (b o len e : Nat) : IE [.bg b o len e] m = some (.int .i64 len, m) := by rfl
@[simp] theorem awh (k k' : IntKind) (a b : Int) : rMn [.int k a, .int k' b] m = some (.int k (min a b), m) := by
  simp only [rMn]; congr 3; omega
@[simp] theorem awj (k k' : IntKind) (a b : Int) : rMx [.int k a, .int k' b] m = some (.int k (max a b), m) := by
  simp only [rMx]; congr 3; omega
@[simp] theorem avL (base j esz : Nat) (z : List D) (k k' : IntKind) (n : Int) (h : 0 ≤ n ∧ n ≤ 4294967296) : Nh base j esz z [.int k n, .int k' n] m = zx base j (zeros n.toNat z) (.bg (base + j) 0 n.toNat esz) m := by simp [Nh, vO, h]
@[simp] theorem av8 (lo hi : Bool) (s : List UInt8) (xs : List D) : Xq lo hi (.str s :: xs) m = bd (nH lo hi s.length xs) fun r => some (.str ((s.drop r.1).take (r.2 - r.1)), m) := by rfl
@[simp] theorem avh (esz len : Nat) (lo hi : Bool) (cs xs : List D) : OX esz lo hi (.sl len cs :: xs) m = bd (nH lo hi len xs) fun r => bd (nG cs (r.1 * esz) ((r.2 - r.1) * esz)) fun cs' => some (.sl (r.2 - r.1) cs', m) := by rfl
@[simp] theorem atc (esz : Nat) (lo hi : Bool) (xs : List D) : OX esz lo hi (.dA :: xs) m = bd (nH lo hi 0 xs) fun r => some (.dA, m) := by rfl
@[simp] theorem at6 (esz b off len : Nat) (lo hi : Bool) (xs : List D) : OX esz lo hi (.bg b off len esz :: xs) m = bd (nH lo hi len xs) fun r => some (.bg b (off + r.1 * esz) (r.2 - r.1) esz, m) := by simp [OX, bd]
@[simp] theorem aup (len : Nat) : nH false false len [] = some (0, len) := by rfl
@[simp] theorem aur (len : Nat) (k : IntKind) (x : Int) (h : 0 ≤ x ∧ x ≤ len) : nH true false len [.int k x] = some (x.toNat, len) := by simp [nH, bnd, h]
@[simp] theorem auq (len : Nat) (k : IntKind) (y : Int) (h : 0 ≤ y ∧ y ≤ len) : nH false true len [.int k y] = some (0, y.toNat) := by simp [nH, bnd, h]
@[simp] theorem aus (len : Nat) (k k' : IntKind) (x y : Int) (h : 0 ≤ x ∧ x ≤ y ∧ y ≤ len) : nH true true len [.int k x, .int k' y] = some (x.toNat, y.toNat) := by
  have h1 : x ≤ (y.toNat : Int) := by omega
  have h2 : 0 ≤ y := by omega
  simp only [nH, bnd, Option.bind_some]
  rw [if_pos ⟨h2, h.2.2⟩]
  simp only [Option.bind_some]
  rw [if_pos ⟨h.1, h1⟩]
  rfl
@[simp] theorem auc (e : Nat) : slc m e .dA = some ([], 0, 0) := by rfl
@[simp] theorem avQ (e len : Nat) (cs : List D) : slc m e (.sl len cs) = some (cs, 0, len) := by rfl
@[simp] theorem avj (b off len e : Nat) : slc m e (.bg b off len e) = anyM (m[b]?) fun cs => some (cs, off, len) := by
  simp only [slc, Nat.beq_refl, cond_true]; unfold anyM; split <;> simp_all
@[simp] theorem avW (x : D) : ZC [x] m = bd (slc m 1 x) fun r => bd (nG r.1 r.2.1 r.2.2) fun cs => bd (bytesOf cs) fun bs => some (.str bs, m) := by rfl
@[simp] theorem as5 (base j esz : Nat) (x : D) : UE base j esz [.dA, x] m = bd (slc m esz x) fun rx => bd (nG rx.1 rx.2.1 (rx.2.2 * esz)) fun news => if rx.2.2 = 0 then some (.dA, m) else if rx.2.2 ≤ vO then zx base j news (.bg (base + j) 0 rx.2.2 esz) m else none := by rfl
@[simp] theorem atW (base j esz b off len : Nat) (x : D) : UE base j esz [.bg b off len esz, x] m = bd (slc m esz x) fun rx => bd (nG rx.1 rx.2.1 (rx.2.2 * esz)) fun news => kV (m[b]?) fun cells => bd (nG cells off (len * esz)) fun olds =>
        if len + rx.2.2 ≤ vO then zx base j (olds ++ news) (.bg (base + j) 0 (len + rx.2.2) esz) (m.set b .dead) else none := by
  simp only [UE, Nat.beq_refl, cond_true, bd]; rfl
@[simp] theorem au4 (f : Nat) (args : List D) : rO O f args m = bif args.all (D.clo 0 FZ) then bd (O.call f args) fun d => some (d, m) else none := by rfl
@[simp] theorem au5 (f : Nat) (args : List D) : wU O f args m = bd (jV (fz FZ) args m) fun r => bd (O.call f r.1) fun d => some (d, r.2) := by rfl
def mpM {β : Type} (s : Option Slot) (f : List Int → Option β) : Option β := match s with
 | some (.mp ks) => f ks
 | _ => none
@[congr] theorem as2 {β : Type} {s s' : Option Slot} {f : List Int → Option β} (h : s = s') : mpM s f = mpM s' f := by rw [h]
@[simp] theorem av_ {β : Type} (ks : List Int) (f : List Int → Option β) : mpM (some (.mp ks)) f = f ks := by rfl
@[simp] theorem av4 (base j : Nat) : UF base j [] m = XR (m[base + j]?) (some (.lmap (base + j), m.set (base + j) (.mp []))) := by
  rfl
@[simp] theorem avM (b : Nat) (k : Int) : Nj [.lmap b, .int .i64 k, .bool true] m = mpM (m[b]?) fun ks => some (.aZ [], m.set b (.mp (WJ ks k))) := by
  unfold Nj mpM; rfl
@[simp] theorem avd (b : Nat) (k : Int) : II [.lmap b, .int .i64 k] m = mpM (m[b]?) fun ks => some (.bool (ks.contains k), m) := by
  unfold II mpM; rfl
@[simp] theorem avc (ks : List Int) (k : Int) : II [.qG ks, .int .i64 k] m = some (.bool (ks.contains k), m) := by rfl
@[simp] theorem ave (k : Int) : II [.xC, .int .i64 k] m = some (.bool false, m) := by rfl
@[simp] theorem auM (n b : Nat) : fz (n + 1) (.lmap b) m = mpM (m[b]?) fun ks => some (.qG ks, m.set b .dead) := by
  simp only [fz]; unfold mpM; rfl
@[simp] theorem asv {α : Type} (i : Nat) (e : α) (r : List (Nat × α)) (n : Nat) : xR ((i, e) :: r) n = if i = n then some e else xR r n := by
  simp only [xR, cond_eq_ite]
  by_cases h : i = n
  ·subst h; simp
  ·rw [if_neg (fun e => h (Nat.eq_of_beq_eq_true e)), if_neg h]
@[simp] theorem atd (t : Nat) (z : D) : KD t z [.aF] m = some (.aZ [z, .bool false], m) := by rfl
@[simp] theorem avO (t u : Nat) (z d : D) : KD t z [.iface u d] m = if u = t then some (.aZ [d, .bool true], m) else some (.aZ [z, .bool false], m) := by
  simp only [KD, cond_eq_ite]
  by_cases h : u = t
  ·subst h; simp
  ·rw [if_neg (fun e => h (Nat.eq_of_beq_eq_true e)), if_neg h]
@[simp] theorem ate (tab : List (Nat × Bool)) : Np tab [.aF] m = some (.aZ [.aF, .bool false], m) := by rfl
@[simp] theorem avP (tab : List (Nat × Bool)) (u : Nat) (d : D) : Np tab [.iface u d] m = bd (xR tab u) fun b => bif b then some (.aZ [.iface u d, .bool true], m) else some (.aZ [.aF, .bool false], m) := by rfl
@[simp] theorem avH (tab : List (Nat × Nat)) (u : Nat) (d : D) (args : List D) : KC O tab (.iface u d :: args) m = bd (xR tab u) fun f => rO O f (d :: args) m := by rfl
@[simp] theorem avI (tab : List (Nat × Nat)) (u : Nat) (d : D) (args : List D) : Nc O tab (.iface u d :: args) m = bd (xR tab u) fun f => wU O f (d :: args) m := by rfl
@[simp] theorem au6 (f : Nat) (cap args : List D) : IC O (.func f cap :: args) m = bd (jV (fz FZ) (args ++ cap) m) fun r => bd (O.call f r.1) fun d => some (d, r.2) := by rfl
@[simp] theorem atU : vO = 4294967296 := by rfl
@[simp] theorem au1 : maxStr = 1099511627776 := by rfl
def fzM {β : Type} (s : Option Slot) (f g : List D → Option β) : Option β := match s with
 | some (.iC cs) => f cs
 | some (.live cs) => g cs
 | _ => none
@[congr] theorem asU {β : Type} {s s' : Option Slot} {f g : List D → Option β} (h : s = s') : fzM s f g = fzM s' f g := by rw [h]
@[simp] theorem avS {β : Type} (cs : List D) (f g : List D → Option β) : fzM (some (.iC cs)) f g = f cs := by rfl
@[simp] theorem avT {β : Type} (cs : List D) (f g : List D → Option β) : fzM (some (.live cs)) f g = g cs := by rfl
@[simp] theorem ap8 (f : D → Mem → Option (D × Mem)) : jV f [] m = some ([], m) := by rfl
@[simp] theorem an5 (f : D → Mem → Option (D × Mem)) (d : D) (ds : List D) : jV f (d :: ds) m = bd (f d m) fun r => bd (jV f ds r.2) fun rs => some (r.1 :: rs.1, rs.2) := by rfl
@[simp] theorem avs (n : Nat) (k : IntKind) (x : Int) : fz (n + 1) (.int k x) m = some (.int k x, m) := by rfl
@[simp] theorem auK (n : Nat) (b : Bool) : fz (n + 1) (.bool b) m = some (.bool b, m) := by rfl
@[simp] theorem avx (n : Nat) (s : List UInt8) : fz (n + 1) (.str s) m = some (.str s, m) := by rfl
@[simp] theorem auQ (n : Nat) : fz (n + 1) .aV m = some (.aV, m) := by rfl
@[simp] theorem auR (n : Nat) : fz (n + 1) .dA m = some (.sl 0 [], m) := by rfl
@[simp] theorem auO (n : Nat) : fz (n + 1) .aF m = some (.aF, m) := by rfl
@[simp] theorem auN (n : Nat) (ks : List Int) : fz (n + 1) (.qG ks) m = some (.qG ks, m) := by rfl
@[simp] theorem avv (n b o : Nat) : fz (n + 1) (.raw b o) m = some (.raw b o, m) := by rfl
@[simp] theorem auP (n : Nat) : fz (n + 1) .xC m = some (.xC, m) := by rfl
@[simp] theorem avw (n : Nat) (cs : List D) (o : Nat) : fz (n + 1) (.ref cs o) m = some (.ref cs o, m) := by rfl
@[simp] theorem avU (n len : Nat) (cs : List D) : fz (n + 1) (.sl len cs) m = some (.sl len cs, m) := by rfl
@[simp] theorem avr (n : Nat) (ds : List D) : fz (n + 1) (.agg ds) m = bd (jV (fz n) ds m) fun r => some (.agg r.1, r.2) := by rfl
@[simp] theorem avy (n : Nat) (ds : List D) : fz (n + 1) (.aZ ds) m = bd (jV (fz n) ds m) fun r => some (.aZ r.1, r.2) := by rfl
@[simp] theorem auL (n f : Nat) (ds : List D) : fz (n + 1) (.func f ds) m = bd (jV (fz n) ds m) fun r => some (.func f r.1, r.2) := by rfl
@[simp] theorem atH (n t : Nat) (d : D) : fz (n + 1) (.iface t d) m = bd (fz n d m) fun r => some (.iface t r.1, r.2) := by rfl
@[simp] theorem avt (n b off : Nat) : fz (n + 1) (.loc b off) m = fzM (m[b]?) (fun cs => some (.ref cs off, m)) (fun cs => bd (jV (fz n) cs m) fun r => kV (r.2[b]?) fun _ => some (.ref r.1 off, r.2.set b (.iC r.1))) := by
  simp only [fz, fzM, bd]; split <;> simp_all; congr 1
@[simp] theorem avu (n b off len esz : Nat) : fz (n + 1) (.bg b off len esz) m = fzM (m[b]?) (fun cs => bd (nG cs off (len * esz)) fun ds => some (.sl len ds, m)) (fun cs => bd (jV (fz n) cs m) fun r => kV (r.2[b]?) fun _ => bd (nG r.1 off (len * esz)) fun ds => some (.sl len ds, r.2.set b (.iC r.1))) := by
  simp only [fz, fzM, bd]; split <;> simp_all; congr 1
@[simp] theorem FZ_ : FZ = 12 := by rfl
@[simp] theorem av9 (r : D × Mem) : fin r = bd (fz FZ r.1 r.2) fun s => some s.1 := by rfl
@[simp] theorem atq (x : RV) : Option.bind x fin = bd x fin := by rfl
@[simp] theorem auu (b n : Nat) (k : IntKind) (x : Int) : D.clo b (n + 1) (.int k x) = true := by rfl
@[simp] theorem att (b n : Nat) (x : Bool) : D.clo b (n + 1) (.bool x) = true := by rfl
@[simp] theorem auB (b n : Nat) (x : List UInt8) : D.clo b (n + 1) (.str x) = true := by rfl
@[simp] theorem atz (b n : Nat) : D.clo b (n + 1) .aV = true := by rfl
@[simp] theorem atA (b n : Nat) : D.clo b (n + 1) .dA = true := by rfl
@[simp] theorem atx (b n : Nat) : D.clo b (n + 1) .aF = true := by rfl
@[simp] theorem atv (b n i : Nat) : D.clo b (n + 1) (.lmap i) = decide (i < b) := by rfl
@[simp] theorem atw (b n : Nat) (ks : List Int) : D.clo b (n + 1) (.qG ks) = true := by rfl
@[simp] theorem auz (b n i o : Nat) : D.clo b (n + 1) (.raw i o) = true := by rfl
@[simp] theorem aty (b n : Nat) : D.clo b (n + 1) .xC = true := by rfl
@[simp] theorem auA (b n o : Nat) (cs : List D) : D.clo b (n + 1) (.ref cs o) = true := by rfl
@[simp] theorem avp (b n l : Nat) (cs : List D) : D.clo b (n + 1) (.sl l cs) = true := by rfl
@[simp] theorem auv (b n i o : Nat) : D.clo b (n + 1) (.loc i o) = decide (i < b) := by rfl
@[simp] theorem auw (b n i o l e : Nat) : D.clo b (n + 1) (.bg i o l e) = decide (i < b) := by rfl
@[simp] theorem aut (b n : Nat) (ds : List D) : D.clo b (n + 1) (.agg ds) = ds.all (D.clo b n) := by rfl
@[simp] theorem auC (b n : Nat) (ds : List D) : D.clo b (n + 1) (.aZ ds) = ds.all (D.clo b n) := by rfl
@[simp] theorem atu (b n f : Nat) (ds : List D) : D.clo b (n + 1) (.func f ds) = ds.all (D.clo b n) := by rfl
@[simp] theorem asL (b n t : Nat) (d : D) : D.clo b (n + 1) (.iface t d) = D.clo b n d := by rfl
def JO (base : Nat) (s : Slot) : Bool := match s with
 | .live cs => cs.all (D.clo base FZ)
 | _ => true
@[simp] theorem ati (base : Nat) (cs : List D) : JO base (.live cs) = cs.all (D.clo base FZ) := by rfl
@[simp] theorem ath (base : Nat) (cs : List D) : JO base (.iC cs) = true := by rfl
@[simp] theorem avi (base : Nat) (ks : List Int) : JO base (.mp ks) = true := by rfl
@[simp] theorem atf (base : Nat) : JO base .dead = true := by rfl
@[simp] theorem atg (base : Nat) : JO base .free = true := by rfl
@[simp] theorem gc_ (base : Nat) (vals : List D) : gc base vals m = bif decide (base ≤ m.length) && (m.take base).all (JO base) then fD base m vals [] (m.take base) else none := by
  unfold gc; congr 3
variable {base : Nat} {got : List Nat} {acc : Mem} {ds : List D}
@[simp] theorem auV : fD base m [] got acc = some ([], acc) := by rfl
@[simp] theorem auT (k : IntKind) (x : Int) : fD base m (.int k x :: ds) got acc = bd (fD base m ds got acc) fun r => some (.int k x :: r.1, r.2) := by rfl
@[simp] theorem atI (x : Bool) : fD base m (.bool x :: ds) got acc = bd (fD base m ds got acc) fun r => some (.bool x :: r.1, r.2) := by rfl
@[simp] theorem auY (x : List UInt8) : fD base m (.str x :: ds) got acc = bd (fD base m ds got acc) fun r => some (.str x :: r.1, r.2) := by rfl
@[simp] theorem atN : fD base m (.aV :: ds) got acc = bd (fD base m ds got acc) fun r => some (.aV :: r.1, r.2) := by rfl
@[simp] theorem atO : fD base m (.dA :: ds) got acc = bd (fD base m ds got acc) fun r => some (.dA :: r.1, r.2) := by rfl
@[simp] theorem atL : fD base m (.aF :: ds) got acc = bd (fD base m ds got acc) fun r => some (.aF :: r.1, r.2) := by rfl
@[simp] theorem atK (ks : List Int) : fD base m (.qG ks :: ds) got acc = bd (fD base m ds got acc) fun r => some (.qG ks :: r.1, r.2) := by rfl
@[simp] theorem auW (b o : Nat) : fD base m (.raw b o :: ds) got acc = bd (fD base m ds got acc) fun r => some (.raw b o :: r.1, r.2) := by rfl
@[simp] theorem atM : fD base m (.xC :: ds) got acc = bd (fD base m ds got acc) fun r => some (.xC :: r.1, r.2) := by rfl
@[simp] theorem asW : fD base m (.undef :: ds) got acc = bd (fD base m ds got acc) fun r => some (.undef :: r.1, r.2) := by rfl
@[simp] theorem auX (cs : List D) (o : Nat) : fD base m (.ref cs o :: ds) got acc = bd (fD base m ds got acc) fun r => some (.ref cs o :: r.1, r.2) := by rfl
@[simp] theorem avz (l : Nat) (cs : List D) : fD base m (.sl l cs :: ds) got acc = bd (fD base m ds got acc) fun r => some (.sl l cs :: r.1, r.2) := by rfl
@[simp] theorem auS (cs : List D) : fD base m (.agg cs :: ds) got acc = bif D.clo base FZ (.agg cs) then bd (fD base m ds got acc) fun r => some (.agg cs :: r.1, r.2) else none := by rfl
@[simp] theorem auZ (cs : List D) : fD base m (.aZ cs :: ds) got acc = bif D.clo base FZ (.aZ cs) then bd (fD base m ds got acc) fun r => some (.aZ cs :: r.1, r.2) else none := by rfl
@[simp] theorem atJ (f : Nat) (cs : List D) : fD base m (.func f cs :: ds) got acc = bif D.clo base FZ (.func f cs) then bd (fD base m ds got acc) fun r => some (.func f cs :: r.1, r.2) else none := by rfl
def gmv (base : Nat) (m : Mem) (t : Nat) (d' : D) (ds : List D) (got : List Nat) (acc : Mem) : Option (List D × Mem) := match d' with
 | .loc b off => bif got.contains b then none else kV (m[b]?) fun cs => bif cs.all (D.clo base FZ) then bd (fD base m ds (b :: got) (acc ++ [.live cs])) fun r => some (.iface t (.loc acc.length off) :: r.1, r.2) else none
 | _ => none
@[simp] theorem au0 (t b off : Nat) : gmv base m t (.loc b off) ds got acc = bif got.contains b then none else kV (m[b]?) fun cs => bif cs.all (D.clo base FZ) then bd (fD base m ds (b :: got) (acc ++ [.live cs])) fun r => some (.iface t (.loc acc.length off) :: r.1, r.2) else none := by rfl
@[simp] theorem asV (t : Nat) (d : D) : fD base m (.iface t d :: ds) got acc = bif D.clo base FZ (.iface t d) then bd (fD base m ds got acc) fun r => some (.iface t d :: r.1, r.2) else gmv base m t d ds got acc := by
  cases d <;> first | rfl | (rw [fD]; rfl)
@[simp] theorem auU (b off : Nat) : fD base m (.loc b off :: ds) got acc = if b < base then bd (fD base m ds got acc) fun r => some (.loc b off :: r.1, r.2)
      else bif got.contains b then none else kV (m[b]?) fun cs => bif cs.all (D.clo base FZ) then bd (fD base m ds (b :: got) (acc ++ [.live cs])) fun r => some (.loc acc.length off :: r.1, r.2) else none := by
  rw [fD]; rfl
@[simp] theorem ap9 (b off len esz : Nat) : fD base m (.bg b off len esz :: ds) got acc = if b < base then bd (fD base m ds got acc) fun r => some (.bg b off len esz :: r.1, r.2)
      else bif got.contains b then none else kV (m[b]?) fun cs => bif cs.all (D.clo base FZ) then bd (fD base m ds (b :: got) (acc ++ [.live cs])) fun r => some (.bg acc.length off len esz :: r.1, r.2) else none := by
  rw [fD]; rfl
@[simp] theorem aui (d : D) : I7 ([d], m) = (d, m) := by rfl
@[simp] theorem auh : I7 ([], m) = (.aZ [], m) := by rfl
@[simp] theorem auj (d d' : D) (ds : List D) : I7 (d :: d' :: ds, m) = (.aZ (d :: d' :: ds), m) := by rfl
@[simp] theorem aul (e : Env) : AZ e m [] = some [] := by rfl
@[simp] theorem atj (e : Env) (r : ER) (rs : List ER) : AZ e m (r :: rs) = bd (r.get e m) fun d => bd (AZ e m rs) fun ds => some (d :: ds) := by rfl
@[simp] theorem avk (e : Env) (t : Nat) : (ER.tmp t).get e m = look e t := by rfl
@[simp] theorem auk (e : Env) (t n : Nat) (agg : Bool) : (ER.cell t agg n).get e m = bd (look e t) fun a => bd (Sv m a) fun r => bif agg then bd (nG r.1 r.2 n) fun ds => some (.agg ds) else r.1[r.2]? := by rfl
theorem beq_lit (n m : Nat) : Nat.beq n m = decide (n = m) := by
 cases h : Nat.beq n m with
 | true => simp [Nat.eq_of_beq_eq_true h]
 | false => exact (decide_eq_false fun e => by rw [e, Nat.beq_refl] at h; cases h).symm
@[simp] theorem as1 (e : Env) (t x : Nat) (d : D) : look ((t, d) :: e) x = if t = x then some d else look e x := by
  simp only [look, beq_lit]; by_cases h : t = x <;> simp [h]
@[simp] theorem asf (i j : Nat) : Jj i (.exit j) = if j = i then .normal else .exit j := by
  simp only [Jj, beq_lit]; by_cases h : j = i <;> simp [h]
theorem r_ (n : Nat) (d : D) : zeros n [d] = List.replicate n d := by
 unfold zeros
 apply List.ext_getElem <;> simp
 intro i h; simp [Nat.mod_one]
theorem wrap64 (x : Int) (h : -9223372036854775808 ≤ x ∧ x ≤ 9223372036854775807) : IntKind.i64.wrap x = x := by
 simp [IntKind.wrap, IntKind.signed, IntKind.bits, IntKind.min, IntKind.max] <;> omega
end
end Go.Ev
