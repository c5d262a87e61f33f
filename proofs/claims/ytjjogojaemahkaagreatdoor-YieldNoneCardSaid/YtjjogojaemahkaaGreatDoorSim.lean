/- A part of the proof of the theorem yieldNone_card. -/
import Derived.Test.YtjjogojaemahkaaGreatDoorFlat
set_option linter.unusedVariables false
set_option linter.unusedSimpArgs false
namespace Go.Ev
attribute [simp] List.getElem?_cons_zero List.getElem?_cons_succ
def liveM {β : Type} (s : Option Slot) (f : List D → Option β) : Option β := match s with
  | some (.live cs) => f cs
  | _ => none
def anyM {β : Type} (s : Option Slot) (f : List D → Option β) : Option β := match s with
  | some (.live cs) => f cs
  | some (.froz cs) => f cs
  | _ => none
def freeM {β : Type} (s : Option Slot) (x : Option β) : Option β := match s with
  | some .free => x
  | _ => none
@[congr] theorem liveM_congr {β : Type} {s s' : Option Slot} {f : List D → Option β} (h : s = s') : liveM s f = liveM s' f := by rw [h]
@[congr] theorem anyM_congr {β : Type} {s s' : Option Slot} {f : List D → Option β} (h : s = s') : anyM s f = anyM s' f := by rw [h]
@[congr] theorem freeM_congr {β : Type} {s s' : Option Slot} {x : Option β} (h : s = s') : freeM s x = freeM s' x := by rw [h]
@[simp] theorem liveM_ {β : Type} (cs : List D) (f : List D → Option β) : liveM (some (.live cs)) f = f cs := by rfl
@[simp] theorem anyM_l {β : Type} (cs : List D) (f : List D → Option β) : anyM (some (.live cs)) f = f cs := by rfl
@[simp] theorem anyM_f {β : Type} (cs : List D) (f : List D → Option β) : anyM (some (.froz cs)) f = f cs := by rfl
@[simp] theorem freeM_ {β : Type} (x : Option β) : freeM (some .free) x = x := by rfl
section
variable {m : Mem} {O : Orc}
@[simp] theorem rMov_ (d : D) : rMov [d] m = some (d, m) := by rfl
@[simp] theorem rPick_t (x y : D) : rPick [.bool true, x, y] m = some (x, m) := by rfl
@[simp] theorem rPick_f (x y : D) : rPick [.bool false, x, y] m = some (y, m) := by rfl
@[simp] theorem rBox_ (base j : Nat) (d : D) : rBox base j [d] m = bd (valCells d) fun cs => newB base j cs (.loc (base + j) 0) m := by rfl
@[simp] theorem rAlloc_ (base j : Nat) (z : List D) : rAlloc base j z [] m = newB base j z (.loc (base + j) 0) m := by rfl
@[simp] theorem newB_ (base j : Nat) (cs : List D) (d : D) : newB base j cs d m = freeM (m[base + j]?) (some (d, m.set (base + j) (.live cs))) := by
  unfold newB freeM; split <;> simp_all
@[simp] theorem rLoad1_loc (b off : Nat) : rLoad1 [.loc b off] m = bd (adr m (.loc b off)) fun r => bd (r.1[r.2]?) fun d => some (d, m) := by rfl
@[simp] theorem rLoad1_ref (cs : List D) (off : Nat) : rLoad1 [.ref cs off] m = bd (cs[off]?) fun d => some (d, m) := by rfl
@[simp] theorem rLoadF_ (cs : List D) (off : Nat) : rLoadF [.ref cs off] m = bd (cs[off]?) fun d => some (d, m) := by rfl
@[simp] theorem rLoadA_loc (n b off : Nat) : rLoadA n [.loc b off] m = bd (adr m (.loc b off)) fun r => bd (takeL r.1 r.2 n) fun ds => some (.agg ds, m) := by rfl
@[simp] theorem rLoadA_ref (n off : Nat) (cs : List D) : rLoadA n [.ref cs off] m = bd (takeL cs off n) fun ds => some (.agg ds, m) := by rfl
@[simp] theorem adr_loc (b off : Nat) : adr m (.loc b off) = anyM (m[b]?) fun cs => some (cs, off) := by
  rfl
@[simp] theorem rStore_ (n b off : Nat) (d : D) : rStore n [.loc b off, d] m = bd (valCells d) fun cs => liveM (m[b]?) fun cells => if cs.length = n ∧ off + n ≤ cells.length then some (.tup [], m.set b (.live (putL cells off cs))) else none := by
  unfold rStore bd liveM; rfl
@[simp] theorem putL_nil (cells : List D) (off : Nat) : putL cells off [] = cells := by rfl
@[simp] theorem putL_cons (cells : List D) (off : Nat) (d : D) (ds : List D) : putL cells off (d :: ds) = putL (cells.set off d) (off + 1) ds := by rfl
@[simp] theorem takeL_ (cells : List D) (off n : Nat) : takeL cells off n = if off + n ≤ cells.length then some ((cells.drop off).take n) else none := by rfl
@[simp] theorem rBuild_ (z : List D) (ps : List (Nat × Nat)) (ds : List D) : rBuild z ps ds m = bd (fillL z ps ds) fun cs => some (.agg cs, m) := by rfl
@[simp] theorem fillL_nil (cells : List D) : fillL cells [] [] = some cells := by rfl
@[simp] theorem fillL_cons (cells : List D) (off n : Nat) (ps : List (Nat × Nat)) (d : D) (ds : List D) : fillL cells ((off, n) :: ps) (d :: ds) = bd (valCells d) fun cs => if cs.length = n ∧ off + n ≤ cells.length then fillL (putL cells off cs) ps ds else none := by rfl
@[simp] theorem rBsl_ (len : Nat) (z : List D) (ps : List (Nat × Nat)) (ds : List D) : rBsl len z ps ds m = bif ds.all (D.clo 0 FZ) then bd (fillL (zeros len z) ps ds) fun cs => some (.sl len cs, m) else none := by rfl
@[simp] theorem rBslA_ (base j esz len : Nat) (z : List D) (ps : List (Nat × Nat)) (ds : List D) : rBslA base j esz len z ps ds m = bd (fillL (zeros len z) ps ds) fun cs => newB base j cs (.lsl (base + j) 0 len esz) m := by rfl
@[simp] theorem rNilck_loc (b off : Nat) : rNilck [.loc b off] m = some (.loc b off, m) := by rfl
@[simp] theorem rNilck_ref (cs : List D) (off : Nat) : rNilck [.ref cs off] m = some (.ref cs off, m) := by rfl
@[simp] theorem valCells_agg (ds : List D) : valCells (.agg ds) = some ds := by rfl
@[simp] theorem valCells_int (k : IntKind) (n : Int) : valCells (.int k n) = some [.int k n] := by rfl
@[simp] theorem valCells_bool (b : Bool) : valCells (.bool b) = some [.bool b] := by rfl
@[simp] theorem valCells_str (s : List UInt8) : valCells (.str s) = some [.str s] := by rfl
@[simp] theorem valCells_ref (cs : List D) (o : Nat) : valCells (.ref cs o) = some [.ref cs o] := by rfl
@[simp] theorem valCells_sl (n : Nat) (cs : List D) : valCells (.sl n cs) = some [.sl n cs] := by rfl
@[simp] theorem valCells_nilp : valCells .nilp = some [.nilp] := by rfl
@[simp] theorem valCells_nils : valCells .nils = some [.nils] := by rfl
@[simp] theorem valCells_nili : valCells .nili = some [.nili] := by rfl
@[simp] theorem valCells_lmap (b : Nat) : valCells (.lmap b) = some [.lmap b] := by rfl
@[simp] theorem valCells_mapf (ks : List Int) : valCells (.mapf ks) = some [.mapf ks] := by rfl
@[simp] theorem valCells_raw (b o : Nat) : valCells (.raw b o) = some [.raw b o] := by rfl
@[simp] theorem valCells_nilm : valCells .nilm = some [.nilm] := by rfl
@[simp] theorem valCells_loc (b o : Nat) : valCells (.loc b o) = some [.loc b o] := by rfl
@[simp] theorem valCells_lsl (b o l e : Nat) : valCells (.lsl b o l e) = some [.lsl b o l e] := by rfl
@[simp] theorem valCells_iface (t : Nat) (d : D) : valCells (.iface t d) = some [.iface t d] := by rfl
theorem beqIK (k : IntKind) : (k == k) = true := by cases k <;> rfl
@[simp] theorem rAdd (k : IntKind) (a b : Int) : rBinI .add [.int k a, .int k b] m = some (.int k (k.wrap (a + b)), m) := by simp [rBinI, beqIK, binI]
@[simp] theorem rSub (k : IntKind) (a b : Int) : rBinI .sub [.int k a, .int k b] m = some (.int k (k.wrap (a - b)), m) := by simp [rBinI, beqIK, binI]
@[simp] theorem rMul (k : IntKind) (a b : Int) : rBinI .mul [.int k a, .int k b] m = some (.int k (k.wrap (a * b)), m) := by simp [rBinI, beqIK, binI]
@[simp] theorem rQuo (k : IntKind) (a b : Int) (h : b ≠ 0) : rBinI .quo [.int k a, .int k b] m = some (.int k (k.wrap (a.tdiv b)), m) := by simp [rBinI, beqIK, binI, h]
@[simp] theorem rRem (k : IntKind) (a b : Int) (h : b ≠ 0) : rBinI .rem [.int k a, .int k b] m = some (.int k (a.tmod b), m) := by simp [rBinI, beqIK, binI, h]
@[simp] theorem rEql (k : IntKind) (a b : Int) : rBinI .eql [.int k a, .int k b] m = some (.bool (decide (a = b)), m) := by
  simp only [rBinI, beqIK, binI, cond_true, Option.bind_some]; congr 3
@[simp] theorem rNeq (k : IntKind) (a b : Int) : rBinI .neq [.int k a, .int k b] m = some (.bool (!decide (a = b)), m) := by
  simp only [rBinI, beqIK, binI, cond_true, Option.bind_some]; congr 3
@[simp] theorem rLss (k : IntKind) (a b : Int) : rBinI .lss [.int k a, .int k b] m = some (.bool (decide (a < b)), m) := by simp [rBinI, beqIK, binI]
@[simp] theorem rLeq (k : IntKind) (a b : Int) : rBinI .leq [.int k a, .int k b] m = some (.bool (decide (a ≤ b)), m) := by simp [rBinI, beqIK, binI]
@[simp] theorem rGtr (k : IntKind) (a b : Int) : rBinI .gtr [.int k a, .int k b] m = some (.bool (decide (b < a)), m) := by simp [rBinI, beqIK, binI]
@[simp] theorem rGeq (k : IntKind) (a b : Int) : rBinI .geq [.int k a, .int k b] m = some (.bool (decide (b ≤ a)), m) := by simp [rBinI, beqIK, binI]
theorem rAnd (k : IntKind) (a b : Int) : rBinI .and [.int k a, .int k b] m = some (.int k (k.wrap (BitVec.ofInt k.bits a &&& BitVec.ofInt k.bits b).toNat), m) := by simp [rBinI, beqIK, binI]
theorem rOr (k : IntKind) (a b : Int) : rBinI .or [.int k a, .int k b] m = some (.int k (k.wrap (BitVec.ofInt k.bits a ||| BitVec.ofInt k.bits b).toNat), m) := by simp [rBinI, beqIK, binI]
theorem rShl (k k' : IntKind) (a b : Int) (h : 0 ≤ b) : rSh true [.int k a, .int k' b] m = some (.int k (k.wrap (a * 2 ^ (min b.toNat k.bits))), m) := by simp [rSh, shI, Int.not_lt.2 h]
theorem rShr (k k' : IntKind) (a b : Int) (h : 0 ≤ b) : rSh false [.int k a, .int k' b] m = some (.int k (a.fdiv (2 ^ (min b.toNat k.bits))), m) := by simp [rSh, shI, Int.not_lt.2 h]
@[simp] theorem rBinS_add (a b : List UInt8) : rBinS .add [.str a, .str b] m = if a.length + b.length ≤ maxStr then some (.str (a ++ b), m) else none := by
  simp only [rBinS, Ev.binS]; split <;> rfl
@[simp] theorem rBinS_eql (a b : List UInt8) : rBinS .eql [.str a, .str b] m = some (.bool (decide (a = b)), m) := by
  simp only [rBinS, Ev.binS, Option.bind_some]; congr 3; rw [Bool.eq_iff_iff]; simp
@[simp] theorem rBinS_neq (a b : List UInt8) : rBinS .neq [.str a, .str b] m = some (.bool (!decide (a = b)), m) := by
  simp only [rBinS, Ev.binS, Option.bind_some]; congr 3; rw [Bool.eq_iff_iff]; simp
@[simp] theorem rEqB_ (n a b : Bool) : rEqB n [.bool a, .bool b] m = some (.bool ((a == b) != n), m) := by rfl
@[simp] theorem rEqP_nn (n : Bool) : rEqP n [.nilp, .nilp] m = some (.bool (true != n), m) := by rfl
@[simp] theorem rEqP_rn (n : Bool) (cs : List D) (o : Nat) : rEqP n [.ref cs o, .nilp] m = some (.bool (false != n), m) := by rfl
@[simp] theorem rEqP_ln (n : Bool) (b o : Nat) : rEqP n [.loc b o, .nilp] m = some (.bool (false != n), m) := by rfl
@[simp] theorem rEqN_nn (n : Bool) : rEqN n true [.nili, .nili] m = some (.bool (true != n), m) := by rfl
@[simp] theorem rEqN_in (n c : Bool) (t : Nat) (d : D) : rEqN n c [.iface t d, .nili] m = some (.bool (false != n), m) := by rfl
@[simp] theorem rEqN_ni (n c : Bool) (t : Nat) (d : D) : rEqN n c [.nili, .iface t d] m = some (.bool (false != n), m) := by rfl
@[simp] theorem rEqA_ (n : Bool) (ks : List Nat) (xs ys : List D) : rEqA n ks [.agg xs, .agg ys] m = bd (eqCells ks xs ys) fun r => some (.bool (r != n), m) := by rfl
@[simp] theorem eqC_nil : eqCells [] [] [] = some true := by rfl
@[simp] theorem eqC_int (ks : List Nat) (xs ys : List D) (k : IntKind) (a b : Int) : eqCells (1 :: ks) (.int k a :: xs) (.int k b :: ys) = bd (eqCells ks xs ys) fun r => some (decide (a = b) && r) := by
  simp only [eqCells, beqIK, cond_true, bd]; congr 1
@[simp] theorem eqC_bool (ks : List Nat) (xs ys : List D) (a b : Bool) : eqCells (0 :: ks) (.bool a :: xs) (.bool b :: ys) = bd (eqCells ks xs ys) fun r => some ((a == b) && r) := by rfl
@[simp] theorem eqC_str (ks : List Nat) (xs ys : List D) (a b : List UInt8) : eqCells (2 :: ks) (.str a :: xs) (.str b :: ys) = bd (eqCells ks xs ys) fun r => some ((a == b) && r) := by rfl
@[simp] theorem rNeg_ (k : IntKind) (a : Int) : rNeg [.int k a] m = some (.int k (k.wrap (0 - a)), m) := by rfl
@[simp] theorem rNot_ (b : Bool) : rNot [.bool b] m = some (.bool (!b), m) := by rfl
@[simp] theorem rConv_ (k k' : IntKind) (n : Int) : rConv k [.int k' n] m = some (.int k (k.wrap n), m) := by rfl
@[simp] theorem rMkif_ (t : Nat) (d : D) : rMkif t [d] m = some (.iface t d, m) := by rfl
@[simp] theorem rFadr_loc (off b o : Nat) : rFadr off [.loc b o] m = some (.loc b (o + off), m) := by rfl
@[simp] theorem rFadr_ref (off o : Nat) (cs : List D) : rFadr off [.ref cs o] m = some (.ref cs (o + off), m) := by rfl
@[simp] theorem rIadr_sl (esz len : Nat) (cs : List D) (k : IntKind) (i : Int) (h : 0 ≤ i ∧ i < len) : rIadr esz [.sl len cs, .int k i] m = some (.ref cs (i.toNat * esz), m) := by simp [rIadr, h]
@[simp] theorem rIadr_lsl (esz b off len e : Nat) (k : IntKind) (i : Int) (h : 0 ≤ i ∧ i < len) : rIadr esz [.lsl b off len e, .int k i] m = some (.loc b (off + i.toNat * esz), m) := by simp [rIadr, h]
@[simp] theorem rIadrA_loc (esz b off len : Nat) (k : IntKind) (i : Int) (h : 0 ≤ i ∧ i < len) : rIadrA esz len [.loc b off, .int k i] m = some (.loc b (off + i.toNat * esz), m) := by simp [rIadrA, h]
@[simp] theorem rIadrA_ref (esz off len : Nat) (cs : List D) (k : IntKind) (i : Int) (h : 0 ≤ i ∧ i < len) : rIadrA esz len [.ref cs off, .int k i] m = some (.ref cs (off + i.toNat * esz), m) := by simp [rIadrA, h]
@[simp] theorem rIdxS_ (s : List UInt8) (k : IntKind) (i : Int) (h : 0 ≤ i) : rIdxS [.str s, .int k i] m = bd (s[i.toNat]?) fun b => some (.int .u8 b.toNat, m) := by simp [rIdxS, h, bd]
@[simp] theorem rExt_ (i : Nat) (ds : List D) : rExt i [.tup ds] m = bd (ds[i]?) fun d => some (d, m) := by rfl
@[simp] theorem rLenS_ (s : List UInt8) : rLenS [.str s] m = some (.int .i64 s.length, m) := by rfl
@[simp] theorem rLenL_sl (len : Nat) (cs : List D) : rLenL [.sl len cs] m = some (.int .i64 len, m) := by rfl
@[simp] theorem rLenL_nils : rLenL [.nils] m = some (.int .i64 0, m) := by rfl
@[simp] theorem rLenL_lsl (b o len e : Nat) : rLenL [.lsl b o len e] m = some (.int .i64 len, m) := by rfl
@[simp] theorem rMn_ (k k' : IntKind) (a b : Int) : rMn [.int k a, .int k' b] m = some (.int k (min a b), m) := by
  simp only [rMn]; congr 3; omega
@[simp] theorem rMx_ (k k' : IntKind) (a b : Int) : rMx [.int k a, .int k' b] m = some (.int k (max a b), m) := by
  simp only [rMx]; congr 3; omega
@[simp] theorem rMksl_ (base j esz : Nat) (z : List D) (k k' : IntKind) (n : Int) (h : 0 ≤ n ∧ n ≤ 4294967296) : rMksl base j esz z [.int k n, .int k' n] m = newB base j (zeros n.toNat z) (.lsl (base + j) 0 n.toNat esz) m := by simp [rMksl, maxLenL, h]
@[simp] theorem rSlS_ (lo hi : Bool) (s : List UInt8) (xs : List D) : rSlS lo hi (.str s :: xs) m = bd (bnds lo hi s.length xs) fun r => some (.str ((s.drop r.1).take (r.2 - r.1)), m) := by rfl
@[simp] theorem rSlL_sl (esz len : Nat) (lo hi : Bool) (cs xs : List D) : rSlL esz lo hi (.sl len cs :: xs) m = bd (bnds lo hi len xs) fun r => bd (takeL cs (r.1 * esz) ((r.2 - r.1) * esz)) fun cs' => some (.sl (r.2 - r.1) cs', m) := by rfl
@[simp] theorem rSlL_nils (esz : Nat) (lo hi : Bool) (xs : List D) : rSlL esz lo hi (.nils :: xs) m = bd (bnds lo hi 0 xs) fun r => some (.nils, m) := by rfl
@[simp] theorem rSlL_lsl (esz b off len : Nat) (lo hi : Bool) (xs : List D) : rSlL esz lo hi (.lsl b off len esz :: xs) m = bd (bnds lo hi len xs) fun r => some (.lsl b (off + r.1 * esz) (r.2 - r.1) esz, m) := by simp [rSlL, bd]
@[simp] theorem bnds_ff (len : Nat) : bnds false false len [] = some (0, len) := by rfl
@[simp] theorem bnds_tf (len : Nat) (k : IntKind) (x : Int) (h : 0 ≤ x ∧ x ≤ len) : bnds true false len [.int k x] = some (x.toNat, len) := by simp [bnds, bnd, h]
@[simp] theorem bnds_ft (len : Nat) (k : IntKind) (y : Int) (h : 0 ≤ y ∧ y ≤ len) : bnds false true len [.int k y] = some (0, y.toNat) := by simp [bnds, bnd, h]
@[simp] theorem bnds_tt (len : Nat) (k k' : IntKind) (x y : Int) (h : 0 ≤ x ∧ x ≤ y ∧ y ≤ len) : bnds true true len [.int k x, .int k' y] = some (x.toNat, y.toNat) := by
  have h1 : x ≤ (y.toNat : Int) := by omega
  have h2 : 0 ≤ y := by omega
  simp only [bnds, bnd, Option.bind_some]
  rw [if_pos ⟨h2, h.2.2⟩]
  simp only [Option.bind_some]
  rw [if_pos ⟨h.1, h1⟩]
  rfl
@[simp] theorem slc_nils (e : Nat) : slc m e .nils = some ([], 0, 0) := by rfl
@[simp] theorem slc_sl (e len : Nat) (cs : List D) : slc m e (.sl len cs) = some (cs, 0, len) := by rfl
@[simp] theorem slc_lsl (b off len e : Nat) : slc m e (.lsl b off len e) = anyM (m[b]?) fun cs => some (cs, off, len) := by
  simp only [slc, Nat.beq_refl, cond_true]; unfold anyM; split <;> simp_all
@[simp] theorem rB2s_ (x : D) : rB2s [x] m = bd (slc m 1 x) fun r => bd (takeL r.1 r.2.1 r.2.2) fun cs => bd (bytesOf cs) fun bs => some (.str bs, m) := by rfl
@[simp] theorem rApp_nils (base j esz : Nat) (x : D) : rApp base j esz [.nils, x] m = bd (slc m esz x) fun rx => bd (takeL rx.1 rx.2.1 (rx.2.2 * esz)) fun news => if rx.2.2 = 0 then some (.nils, m) else if rx.2.2 ≤ maxLenL then newB base j news (.lsl (base + j) 0 rx.2.2 esz) m else none := by rfl
@[simp] theorem rApp_lsl (base j esz b off len : Nat) (x : D) : rApp base j esz [.lsl b off len esz, x] m = bd (slc m esz x) fun rx => bd (takeL rx.1 rx.2.1 (rx.2.2 * esz)) fun news => liveM (m[b]?) fun cells => bd (takeL cells off (len * esz)) fun olds =>
        if len + rx.2.2 ≤ maxLenL then newB base j (olds ++ news) (.lsl (base + j) 0 (len + rx.2.2) esz) (m.set b .dead) else none := by
  simp only [rApp, Nat.beq_refl, cond_true, bd]; rfl
@[simp] theorem rCallc_ (f : Nat) (args : List D) : rCallc O f args m = bif args.all (D.clo 0 FZ) then bd (O.call f args) fun d => some (d, m) else none := by rfl
@[simp] theorem rCallp_ (f : Nat) (args : List D) : rCallp O f args m = bd (fzL (fz FZ) args m) fun r => bd (O.call f r.1) fun d => some (d, r.2) := by rfl
def mpM {β : Type} (s : Option Slot) (f : List Int → Option β) : Option β := match s with
  | some (.mp ks) => f ks
  | _ => none
@[congr] theorem mpM_congr {β : Type} {s s' : Option Slot} {f : List Int → Option β} (h : s = s') : mpM s f = mpM s' f := by rw [h]
@[simp] theorem mpM_ {β : Type} (ks : List Int) (f : List Int → Option β) : mpM (some (.mp ks)) f = f ks := by rfl
@[simp] theorem rMkm_ (base j : Nat) : rMkm base j [] m = freeM (m[base + j]?) (some (.lmap (base + j), m.set (base + j) (.mp []))) := by
  rfl
@[simp] theorem rMput_ (b : Nat) (k : Int) : rMput [.lmap b, .int .i64 k, .bool true] m = mpM (m[b]?) fun ks => some (.tup [], m.set b (.mp (insK ks k))) := by
  unfold rMput mpM; rfl
@[simp] theorem rMget_l (b : Nat) (k : Int) : rMget [.lmap b, .int .i64 k] m = mpM (m[b]?) fun ks => some (.bool (ks.contains k), m) := by
  unfold rMget mpM; rfl
@[simp] theorem rMget_f (ks : List Int) (k : Int) : rMget [.mapf ks, .int .i64 k] m = some (.bool (ks.contains k), m) := by rfl
@[simp] theorem rMget_n (k : Int) : rMget [.nilm, .int .i64 k] m = some (.bool false, m) := by rfl
@[simp] theorem fz_lmap (n b : Nat) : fz (n + 1) (.lmap b) m = mpM (m[b]?) fun ks => some (.mapf ks, m.set b .dead) := by
  simp only [fz]; unfold mpM; rfl
@[simp] theorem lookT_cons {α : Type} (i : Nat) (e : α) (r : List (Nat × α)) (n : Nat) : lookT ((i, e) :: r) n = if i = n then some e else lookT r n := by
  simp only [lookT, cond_eq_ite]
  by_cases h : i = n
  · subst h; simp
  · rw [if_neg (fun e => h (Nat.eq_of_beq_eq_true e)), if_neg h]
@[simp] theorem rTasC_nil (t : Nat) (z : D) : rTasC t z [.nili] m = some (.tup [z, .bool false], m) := by rfl
@[simp] theorem rTasC_ (t u : Nat) (z d : D) : rTasC t z [.iface u d] m = if u = t then some (.tup [d, .bool true], m) else some (.tup [z, .bool false], m) := by
  simp only [rTasC, cond_eq_ite]
  by_cases h : u = t
  · subst h; simp
  · rw [if_neg (fun e => h (Nat.eq_of_beq_eq_true e)), if_neg h]
@[simp] theorem rTasI_nil (tab : List (Nat × Bool)) : rTasI tab [.nili] m = some (.tup [.nili, .bool false], m) := by rfl
@[simp] theorem rTasI_ (tab : List (Nat × Bool)) (u : Nat) (d : D) : rTasI tab [.iface u d] m = bd (lookT tab u) fun b => bif b then some (.tup [.iface u d, .bool true], m) else some (.tup [.nili, .bool false], m) := by rfl
@[simp] theorem rInvc_ (tab : List (Nat × Nat)) (u : Nat) (d : D) (args : List D) : rInvc O tab (.iface u d :: args) m = bd (lookT tab u) fun f => rCallc O f (d :: args) m := by rfl
@[simp] theorem rInvp_ (tab : List (Nat × Nat)) (u : Nat) (d : D) (args : List D) : rInvp O tab (.iface u d :: args) m = bd (lookT tab u) fun f => rCallp O f (d :: args) m := by rfl
@[simp] theorem rCallv_ (f : Nat) (cap args : List D) : rCallv O (.func f cap :: args) m = bd (fzL (fz FZ) (args ++ cap) m) fun r => bd (O.call f r.1) fun d => some (d, r.2) := by rfl
@[simp] theorem maxLenL_ : maxLenL = 4294967296 := by rfl
@[simp] theorem maxStr_ : maxStr = 1099511627776 := by rfl
def fzM {β : Type} (s : Option Slot) (f g : List D → Option β) : Option β := match s with
  | some (.froz cs) => f cs
  | some (.live cs) => g cs
  | _ => none
@[congr] theorem fzM_congr {β : Type} {s s' : Option Slot} {f g : List D → Option β} (h : s = s') : fzM s f g = fzM s' f g := by rw [h]
@[simp] theorem fzM_f {β : Type} (cs : List D) (f g : List D → Option β) : fzM (some (.froz cs)) f g = f cs := by rfl
@[simp] theorem fzM_l {β : Type} (cs : List D) (f g : List D → Option β) : fzM (some (.live cs)) f g = g cs := by rfl
@[simp] theorem fzL_nil (f : D → Mem → Option (D × Mem)) : fzL f [] m = some ([], m) := by rfl
@[simp] theorem fzL_cons (f : D → Mem → Option (D × Mem)) (d : D) (ds : List D) : fzL f (d :: ds) m = bd (f d m) fun r => bd (fzL f ds r.2) fun rs => some (r.1 :: rs.1, rs.2) := by rfl
@[simp] theorem fz_int (n : Nat) (k : IntKind) (x : Int) : fz (n + 1) (.int k x) m = some (.int k x, m) := by rfl
@[simp] theorem fz_bool (n : Nat) (b : Bool) : fz (n + 1) (.bool b) m = some (.bool b, m) := by rfl
@[simp] theorem fz_str (n : Nat) (s : List UInt8) : fz (n + 1) (.str s) m = some (.str s, m) := by rfl
@[simp] theorem fz_nilp (n : Nat) : fz (n + 1) .nilp m = some (.nilp, m) := by rfl
@[simp] theorem fz_nils (n : Nat) : fz (n + 1) .nils m = some (.sl 0 [], m) := by rfl
@[simp] theorem fz_nili (n : Nat) : fz (n + 1) .nili m = some (.nili, m) := by rfl
@[simp] theorem fz_mapf (n : Nat) (ks : List Int) : fz (n + 1) (.mapf ks) m = some (.mapf ks, m) := by rfl
@[simp] theorem fz_raw (n b o : Nat) : fz (n + 1) (.raw b o) m = some (.raw b o, m) := by rfl
@[simp] theorem fz_nilm (n : Nat) : fz (n + 1) .nilm m = some (.nilm, m) := by rfl
@[simp] theorem fz_ref (n : Nat) (cs : List D) (o : Nat) : fz (n + 1) (.ref cs o) m = some (.ref cs o, m) := by rfl
@[simp] theorem fz_sl (n len : Nat) (cs : List D) : fz (n + 1) (.sl len cs) m = some (.sl len cs, m) := by rfl
@[simp] theorem fz_agg (n : Nat) (ds : List D) : fz (n + 1) (.agg ds) m = bd (fzL (fz n) ds m) fun r => some (.agg r.1, r.2) := by rfl
@[simp] theorem fz_tup (n : Nat) (ds : List D) : fz (n + 1) (.tup ds) m = bd (fzL (fz n) ds m) fun r => some (.tup r.1, r.2) := by rfl
@[simp] theorem fz_func (n f : Nat) (ds : List D) : fz (n + 1) (.func f ds) m = bd (fzL (fz n) ds m) fun r => some (.func f r.1, r.2) := by rfl
@[simp] theorem fz_iface (n t : Nat) (d : D) : fz (n + 1) (.iface t d) m = bd (fz n d m) fun r => some (.iface t r.1, r.2) := by rfl
@[simp] theorem fz_loc (n b off : Nat) : fz (n + 1) (.loc b off) m = fzM (m[b]?) (fun cs => some (.ref cs off, m)) (fun cs => bd (fzL (fz n) cs m) fun r => liveM (r.2[b]?) fun _ => some (.ref r.1 off, r.2.set b (.froz r.1))) := by
  simp only [fz, fzM, bd]; split <;> simp_all; congr 1
@[simp] theorem fz_lsl (n b off len esz : Nat) : fz (n + 1) (.lsl b off len esz) m = fzM (m[b]?) (fun cs => bd (takeL cs off (len * esz)) fun ds => some (.sl len ds, m)) (fun cs => bd (fzL (fz n) cs m) fun r => liveM (r.2[b]?) fun _ => bd (takeL r.1 off (len * esz)) fun ds => some (.sl len ds, r.2.set b (.froz r.1))) := by
  simp only [fz, fzM, bd]; split <;> simp_all; congr 1
@[simp] theorem FZ_ : FZ = 12 := by rfl
@[simp] theorem fin_ (r : D × Mem) : fin r = bd (fz FZ r.1 r.2) fun s => some s.1 := by rfl
@[simp] theorem bind_fin (x : RV) : Option.bind x fin = bd x fin := by rfl
@[simp] theorem clo_int (b n : Nat) (k : IntKind) (x : Int) : D.clo b (n + 1) (.int k x) = true := by rfl
@[simp] theorem clo_bool (b n : Nat) (x : Bool) : D.clo b (n + 1) (.bool x) = true := by rfl
@[simp] theorem clo_str (b n : Nat) (x : List UInt8) : D.clo b (n + 1) (.str x) = true := by rfl
@[simp] theorem clo_nilp (b n : Nat) : D.clo b (n + 1) .nilp = true := by rfl
@[simp] theorem clo_nils (b n : Nat) : D.clo b (n + 1) .nils = true := by rfl
@[simp] theorem clo_nili (b n : Nat) : D.clo b (n + 1) .nili = true := by rfl
@[simp] theorem clo_lmap (b n i : Nat) : D.clo b (n + 1) (.lmap i) = decide (i < b) := by rfl
@[simp] theorem clo_mapf (b n : Nat) (ks : List Int) : D.clo b (n + 1) (.mapf ks) = true := by rfl
@[simp] theorem clo_raw (b n i o : Nat) : D.clo b (n + 1) (.raw i o) = true := by rfl
@[simp] theorem clo_nilm (b n : Nat) : D.clo b (n + 1) .nilm = true := by rfl
@[simp] theorem clo_ref (b n o : Nat) (cs : List D) : D.clo b (n + 1) (.ref cs o) = true := by rfl
@[simp] theorem clo_sl (b n l : Nat) (cs : List D) : D.clo b (n + 1) (.sl l cs) = true := by rfl
@[simp] theorem clo_loc (b n i o : Nat) : D.clo b (n + 1) (.loc i o) = decide (i < b) := by rfl
@[simp] theorem clo_lsl (b n i o l e : Nat) : D.clo b (n + 1) (.lsl i o l e) = decide (i < b) := by rfl
@[simp] theorem clo_agg (b n : Nat) (ds : List D) : D.clo b (n + 1) (.agg ds) = ds.all (D.clo b n) := by rfl
@[simp] theorem clo_tup (b n : Nat) (ds : List D) : D.clo b (n + 1) (.tup ds) = ds.all (D.clo b n) := by rfl
@[simp] theorem clo_func (b n f : Nat) (ds : List D) : D.clo b (n + 1) (.func f ds) = ds.all (D.clo b n) := by rfl
@[simp] theorem clo_iface (b n t : Nat) (d : D) : D.clo b (n + 1) (.iface t d) = D.clo b n d := by rfl
def sclo (base : Nat) (s : Slot) : Bool := match s with
  | .live cs => cs.all (D.clo base FZ)
  | _ => true
@[simp] theorem sclo_live (base : Nat) (cs : List D) : sclo base (.live cs) = cs.all (D.clo base FZ) := by rfl
@[simp] theorem sclo_froz (base : Nat) (cs : List D) : sclo base (.froz cs) = true := by rfl
@[simp] theorem sclo_mp (base : Nat) (ks : List Int) : sclo base (.mp ks) = true := by rfl
@[simp] theorem sclo_dead (base : Nat) : sclo base .dead = true := by rfl
@[simp] theorem sclo_free (base : Nat) : sclo base .free = true := by rfl
@[simp] theorem gc_ (base : Nat) (vals : List D) : gc base vals m = bif decide (base ≤ m.length) && (m.take base).all (sclo base) then gcs base m vals [] (m.take base) else none := by
  unfold gc; congr 3
variable {base : Nat} {got : List Nat} {acc : Mem} {ds : List D}
@[simp] theorem gcs_nil : gcs base m [] got acc = some ([], acc) := by rfl
@[simp] theorem gcs_int (k : IntKind) (x : Int) : gcs base m (.int k x :: ds) got acc = bd (gcs base m ds got acc) fun r => some (.int k x :: r.1, r.2) := by rfl
@[simp] theorem gcs_bool (x : Bool) : gcs base m (.bool x :: ds) got acc = bd (gcs base m ds got acc) fun r => some (.bool x :: r.1, r.2) := by rfl
@[simp] theorem gcs_str (x : List UInt8) : gcs base m (.str x :: ds) got acc = bd (gcs base m ds got acc) fun r => some (.str x :: r.1, r.2) := by rfl
@[simp] theorem gcs_nilp : gcs base m (.nilp :: ds) got acc = bd (gcs base m ds got acc) fun r => some (.nilp :: r.1, r.2) := by rfl
@[simp] theorem gcs_nils : gcs base m (.nils :: ds) got acc = bd (gcs base m ds got acc) fun r => some (.nils :: r.1, r.2) := by rfl
@[simp] theorem gcs_nili : gcs base m (.nili :: ds) got acc = bd (gcs base m ds got acc) fun r => some (.nili :: r.1, r.2) := by rfl
@[simp] theorem gcs_mapf (ks : List Int) : gcs base m (.mapf ks :: ds) got acc = bd (gcs base m ds got acc) fun r => some (.mapf ks :: r.1, r.2) := by rfl
@[simp] theorem gcs_raw (b o : Nat) : gcs base m (.raw b o :: ds) got acc = bd (gcs base m ds got acc) fun r => some (.raw b o :: r.1, r.2) := by rfl
@[simp] theorem gcs_nilm : gcs base m (.nilm :: ds) got acc = bd (gcs base m ds got acc) fun r => some (.nilm :: r.1, r.2) := by rfl
@[simp] theorem gcs_undef : gcs base m (.undef :: ds) got acc = bd (gcs base m ds got acc) fun r => some (.undef :: r.1, r.2) := by rfl
@[simp] theorem gcs_ref (cs : List D) (o : Nat) : gcs base m (.ref cs o :: ds) got acc = bd (gcs base m ds got acc) fun r => some (.ref cs o :: r.1, r.2) := by rfl
@[simp] theorem gcs_sl (l : Nat) (cs : List D) : gcs base m (.sl l cs :: ds) got acc = bd (gcs base m ds got acc) fun r => some (.sl l cs :: r.1, r.2) := by rfl
@[simp] theorem gcs_agg (cs : List D) : gcs base m (.agg cs :: ds) got acc = bif D.clo base FZ (.agg cs) then bd (gcs base m ds got acc) fun r => some (.agg cs :: r.1, r.2) else none := by rfl
@[simp] theorem gcs_tup (cs : List D) : gcs base m (.tup cs :: ds) got acc = bif D.clo base FZ (.tup cs) then bd (gcs base m ds got acc) fun r => some (.tup cs :: r.1, r.2) else none := by rfl
@[simp] theorem gcs_func (f : Nat) (cs : List D) : gcs base m (.func f cs :: ds) got acc = bif D.clo base FZ (.func f cs) then bd (gcs base m ds got acc) fun r => some (.func f cs :: r.1, r.2) else none := by rfl
def gmv (base : Nat) (m : Mem) (t : Nat) (d' : D) (ds : List D) (got : List Nat) (acc : Mem) : Option (List D × Mem) := match d' with
  | .loc b off => bif got.contains b then none else liveM (m[b]?) fun cs => bif cs.all (D.clo base FZ) then bd (gcs base m ds (b :: got) (acc ++ [.live cs])) fun r => some (.iface t (.loc acc.length off) :: r.1, r.2) else none
  | _ => none
@[simp] theorem gmv_loc (t b off : Nat) : gmv base m t (.loc b off) ds got acc = bif got.contains b then none else liveM (m[b]?) fun cs => bif cs.all (D.clo base FZ) then bd (gcs base m ds (b :: got) (acc ++ [.live cs])) fun r => some (.iface t (.loc acc.length off) :: r.1, r.2) else none := by rfl
@[simp] theorem gcs_iface (t : Nat) (d : D) : gcs base m (.iface t d :: ds) got acc = bif D.clo base FZ (.iface t d) then bd (gcs base m ds got acc) fun r => some (.iface t d :: r.1, r.2) else gmv base m t d ds got acc := by
  cases d <;> first | rfl | (rw [gcs]; rfl)
@[simp] theorem gcs_loc (b off : Nat) : gcs base m (.loc b off :: ds) got acc = if b < base then bd (gcs base m ds got acc) fun r => some (.loc b off :: r.1, r.2)
      else bif got.contains b then none else liveM (m[b]?) fun cs => bif cs.all (D.clo base FZ) then bd (gcs base m ds (b :: got) (acc ++ [.live cs])) fun r => some (.loc acc.length off :: r.1, r.2) else none := by
  rw [gcs]; rfl
@[simp] theorem gcs_lsl (b off len esz : Nat) : gcs base m (.lsl b off len esz :: ds) got acc = if b < base then bd (gcs base m ds got acc) fun r => some (.lsl b off len esz :: r.1, r.2)
      else bif got.contains b then none else liveM (m[b]?) fun cs => bif cs.all (D.clo base FZ) then bd (gcs base m ds (b :: got) (acc ++ [.live cs])) fun r => some (.lsl acc.length off len esz :: r.1, r.2) else none := by
  rw [gcs]; rfl
@[simp] theorem tupD_one (d : D) : tupD ([d], m) = (d, m) := by rfl
@[simp] theorem tupD_nil : tupD ([], m) = (.tup [], m) := by rfl
@[simp] theorem tupD_two (d d' : D) (ds : List D) : tupD (d :: d' :: ds, m) = (.tup (d :: d' :: ds), m) := by rfl
@[simp] theorem ERs_nil (e : Env) : ERs e m [] = some [] := by rfl
@[simp] theorem ERs_cons (e : Env) (r : ER) (rs : List ER) : ERs e m (r :: rs) = bd (r.get e m) fun d => bd (ERs e m rs) fun ds => some (d :: ds) := by rfl
@[simp] theorem ER_tmp (e : Env) (t : Nat) : (ER.tmp t).get e m = look e t := by rfl
@[simp] theorem ER_cell (e : Env) (t n : Nat) (agg : Bool) : (ER.cell t agg n).get e m = bd (look e t) fun a => bd (adr m a) fun r => bif agg then bd (takeL r.1 r.2 n) fun ds => some (.agg ds) else r.1[r.2]? := by rfl
theorem beq_lit (n m : Nat) : Nat.beq n m = decide (n = m) := by
  cases h : Nat.beq n m with
  | true => simp [Nat.eq_of_beq_eq_true h]
  | false => exact (decide_eq_false fun e => by rw [e, Nat.beq_refl] at h; cases h).symm
@[simp] theorem look_cons (e : Env) (t x : Nat) (d : D) : look ((t, d) :: e) x = if t = x then some d else look e x := by
  simp only [look, beq_lit]; by_cases h : t = x <;> simp [h]
@[simp] theorem blkX_exit' (i j : Nat) : blkX i (.exit j) = if j = i then .normal else .exit j := by
  simp only [blkX, beq_lit]; by_cases h : j = i <;> simp [h]
theorem zeros_ (n : Nat) (d : D) : zeros n [d] = List.replicate n d := by
  unfold zeros
  apply List.ext_getElem <;> simp
  intro i h; simp [Nat.mod_one]
theorem wrap64 (x : Int) (h : -9223372036854775808 ≤ x ∧ x ≤ 9223372036854775807) : IntKind.i64.wrap x = x := by
  simp [IntKind.wrap, IntKind.signed, IntKind.bits, IntKind.min, IntKind.max] <;> omega
end
end Go.Ev
