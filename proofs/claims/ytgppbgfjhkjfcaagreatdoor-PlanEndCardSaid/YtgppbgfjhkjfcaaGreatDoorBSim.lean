/- A part of the proof of planStub_card, planEnd_card, planLone_card, bondLong_card. -/
import Derived.Test.YtgppbgfjhkjfcaaGreatDoorBFlat
set_option linter.unusedVariables false
set_option linter.unusedSimpArgs false
namespace Go.Ev
attribute [simp] List.getElem?_cons_zero List.getElem?_cons_succ
def lU {β : Type} (s : Option Slot) (f : List D → Option β) : Option β := match s with
 | some (.live cs) => f cs
 | _ => none
def anyM {β : Type} (s : Option Slot) (f : List D → Option β) : Option β := match s with
 | some (.live cs) => f cs
 | some (.gB cs) => f cs
 | _ => none
def Ut {β : Type} (s : Option Slot) (x : Option β) : Option β := match s with
 | some .free => x
 | _ => none
@[congr] theorem an5 {β : Type} {s s' : Option Slot} {f : List D → Option β} (h : s = s') : lU s f = lU s' f := by rw [h]
@[congr] theorem anyM_congr {β : Type} {s s' : Option Slot} {f : List D → Option β} (h : s = s') : anyM s f = anyM s' f := by rw [h]
@[congr] theorem an4 {β : Type} {s s' : Option Slot} {x : Option β} (h : s = s') : Ut s x = Ut s' x := by rw [h]
@[simp] theorem aro {β : Type} (cs : List D) (f : List D → Option β) : lU (some (.live cs)) f = f cs := by rfl
@[simp] theorem aq9 {β : Type} (cs : List D) (f : List D → Option β) : anyM (some (.live cs)) f = f cs := by rfl
@[simp] theorem aq8 {β : Type} (cs : List D) (f : List D → Option β) : anyM (some (.gB cs)) f = f cs := by rfl
@[simp] theorem ara {β : Type} (x : Option β) : Ut (some .free) x = x := by rfl
section
variable {m : Mem} {O : aJ}
@[simp] theorem arT (d : D) : bI [d] m = some (d, m) := by rfl
@[simp] theorem aq1 (x y : D) : bJ [.bool true, x, y] m = some (x, m) := by rfl
@[simp] theorem aq0 (x y : D) : bJ [.bool false, x, y] m = some (y, m) := by rfl
@[simp] theorem arN (base j : Nat) (d : D) : je base j [d] m = bd (eP d) fun cs => uN base j cs (.loc (base + j) 0) m := by rfl
@[simp] theorem aqL (base j : Nat) (z : List D) : gG base j z [] m = uN base j z (.loc (base + j) 0) m := by rfl
@[simp] theorem arL (base j : Nat) (cs : List D) (d : D) : uN base j cs d m = Ut (m[base + j]?) (some (d, m.set (base + j) (.live cs))) := by
  unfold uN Ut; split <;> simp_all
@[simp] theorem ahw (b off : Nat) : aB [.loc b off] m = bd (NM m (.loc b off)) fun r => bd (r.1[r.2]?) fun d => some (d, m) := by rfl
@[simp] theorem aov (cs : List D) (off : Nat) : aB [.ref cs off] m = bd (cs[off]?) fun d => some (d, m) := by rfl
@[simp] theorem aqW (cs : List D) (off : Nat) : Jz [.ref cs off] m = bd (cs[off]?) fun d => some (d, m) := by rfl
@[simp] theorem aow (n b off : Nat) : dh n [.loc b off] m = bd (NM m (.loc b off)) fun r => bd (kQ r.1 r.2 n) fun ds => some (.agg ds, m) := by rfl
@[simp] theorem aox (n off : Nat) (cs : List D) : dh n [.ref cs off] m = bd (kQ cs off n) fun ds => some (.agg ds, m) := by rfl
@[simp] theorem alO (b off : Nat) : NM m (.loc b off) = anyM (m[b]?) fun cs => some (cs, off) := by
  rfl
@[simp] theorem amz (n b off : Nat) (d : D) : bD n [.loc b off, d] m = bd (eP d) fun cs => lU (m[b]?) fun cells => if cs.length = n ∧ off + n ≤ cells.length then some (.bg [], m.set b (.live (yE cells off cs))) else none := by
  unfold bD bd lU; rfl
@[simp] theorem apN (cells : List D) (off : Nat) : yE cells off [] = cells := by rfl
@[simp] theorem ao0 (cells : List D) (off : Nat) (d : D) (ds : List D) : yE cells off (d :: ds) = yE (cells.set off d) (off + 1) ds := by rfl
@[simp] theorem arH (cells : List D) (off n : Nat) : kQ cells off n = if off + n ≤ cells.length then some ((cells.drop off).take n) else none := by rfl
@[simp] theorem aqM (z : List D) (ps : List (Nat × Nat)) (ds : List D) : jh z ps ds m = bd (lT z ps ds) fun cs => some (.agg cs, m) := by rfl
@[simp] theorem aoG (cells : List D) : lT cells [] [] = some cells := by rfl
@[simp] theorem aoh (cells : List D) (off n : Nat) (ps : List (Nat × Nat)) (d : D) (ds : List D) : lT cells ((off, n) :: ps) (d :: ds) = bd (eP d) fun cs => if cs.length = n ∧ off + n ≤ cells.length then lT (yE cells off cs) ps ds else none := by rfl
@[simp] theorem arO (len : Nat) (z : List D) (ps : List (Nat × Nat)) (ds : List D) : DW len z ps ds m = bif ds.all (D.clo 0 FZ) then bd (lT (zeros len z) ps ds) fun cs => some (.sl len cs, m) else none := by rfl
@[simp] theorem ars (base j esz len : Nat) (z : List D) (ps : List (Nat × Nat)) (ds : List D) : Yk base j esz len z ps ds m = bd (lT (zeros len z) ps ds) fun cs => uN base j cs (.bn (base + j) 0 len esz) m := by rfl
@[simp] theorem aoy (b off : Nat) : lF [.loc b off] m = some (.loc b off, m) := by rfl
@[simp] theorem aoz (cs : List D) (off : Nat) : lF [.ref cs off] m = some (.ref cs off, m) := by rfl
@[simp] theorem anU (ds : List D) : eP (.agg ds) = some ds := by rfl
@[simp] theorem anV (k : IntKind) (n : Int) : eP (.int k n) = some [.int k n] := by rfl
@[simp] theorem am4 (b : Bool) : eP (.bool b) = some [.bool b] := by rfl
@[simp] theorem an0 (s : List UInt8) : eP (.str s) = some [.str s] := by rfl
@[simp] theorem anZ (cs : List D) (o : Nat) : eP (.ref cs o) = some [.ref cs o] := by rfl
@[simp] theorem an6 (n : Nat) (cs : List D) : eP (.sl n cs) = some [.sl n cs] := by rfl
@[simp] theorem am9 : eP .aO = some [.aO] := by rfl
@[simp] theorem am_ : eP .cO = some [.cO] := by rfl
@[simp] theorem am7 : eP .aC = some [.aC] := by rfl
@[simp] theorem am5 (b : Nat) : eP (.lmap b) = some [.lmap b] := by rfl
@[simp] theorem am6 (ks : List Int) : eP (.nI ks) = some [.nI ks] := by rfl
@[simp] theorem anY (b o : Nat) : eP (.raw b o) = some [.raw b o] := by rfl
@[simp] theorem am8 : eP .qJ = some [.qJ] := by rfl
@[simp] theorem anW (b o : Nat) : eP (.loc b o) = some [.loc b o] := by rfl
@[simp] theorem anX (b o l e : Nat) : eP (.bn b o l e) = some [.bn b o l e] := by rfl
@[simp] theorem amY (t : Nat) (d : D) : eP (.iface t d) = some [.iface t d] := by rfl
theorem wH (k : IntKind) : (k == k) = true := by cases k <;> rfl
@[simp] theorem arZ (k : IntKind) (a b : Int) : ak .add [.int k a, .int k b] m = some (.int k (k.wrap (a + b)), m) := by simp [ak, wH, aj]
@[simp] theorem apU (k : IntKind) (a b : Int) : ak .sub [.int k a, .int k b] m = some (.int k (k.wrap (a - b)), m) := by simp [ak, wH, aj]
@[simp] theorem ar7 (k : IntKind) (a b : Int) : ak .mul [.int k a, .int k b] m = some (.int k (k.wrap (a * b)), m) := by simp [ak, wH, aj]
@[simp] theorem anN (k : IntKind) (a b : Int) (h : b ≠ 0) : ak .quo [.int k a, .int k b] m = some (.int k (k.wrap (a.tdiv b)), m) := by simp [ak, wH, aj, h]
@[simp] theorem apR (k : IntKind) (a b : Int) (h : b ≠ 0) : ak .rem [.int k a, .int k b] m = some (.int k (a.tmod b), m) := by simp [ak, wH, aj, h]
@[simp] theorem ar0 (k : IntKind) (a b : Int) : ak .eql [.int k a, .int k b] m = some (.bool (decide (a = b)), m) := by
  simp only [ak, wH, aj, cond_true, Option.bind_some]; congr 3
@[simp] theorem apQ (k : IntKind) (a b : Int) : ak .neq [.int k a, .int k b] m = some (.bool (!decide (a = b)), m) := by
  simp only [ak, wH, aj, cond_true, Option.bind_some]; congr 3
@[simp] theorem ar5 (k : IntKind) (a b : Int) : ak .lss [.int k a, .int k b] m = some (.bool (decide (a < b)), m) := by simp [ak, wH, aj]
@[simp] theorem ar4 (k : IntKind) (a b : Int) : ak .leq [.int k a, .int k b] m = some (.bool (decide (a ≤ b)), m) := by simp [ak, wH, aj]
@[simp] theorem ar2 (k : IntKind) (a b : Int) : ak .gtr [.int k a, .int k b] m = some (.bool (decide (b < a)), m) := by simp [ak, wH, aj]
@[simp] theorem ar1 (k : IntKind) (a b : Int) : ak .geq [.int k a, .int k b] m = some (.bool (decide (b ≤ a)), m) := by simp [ak, wH, aj]
theorem anM (k : IntKind) (a b : Int) : ak .and [.int k a, .int k b] m = some (.int k (k.wrap (BitVec.ofInt k.bits a &&& BitVec.ofInt k.bits b).toNat), m) := by simp [ak, wH, aj]
theorem rOr (k : IntKind) (a b : Int) : ak .or [.int k a, .int k b] m = some (.int k (k.wrap (BitVec.ofInt k.bits a ||| BitVec.ofInt k.bits b).toNat), m) := by simp [ak, wH, aj]
theorem apS (k k' : IntKind) (a b : Int) (h : 0 ≤ b) : ji true [.int k a, .int k' b] m = some (.int k (k.wrap (a * 2 ^ (min b.toNat k.bits))), m) := by simp [ji, shI, Int.not_lt.2 h]
theorem anO (k k' : IntKind) (a b : Int) (h : 0 ≤ b) : ji false [.int k a, .int k' b] m = some (.int k (a.fdiv (2 ^ (min b.toNat k.bits))), m) := by simp [ji, shI, Int.not_lt.2 h]
@[simp] theorem ao2 (a b : List UInt8) : kM .add [.str a, .str b] m = if a.length + b.length ≤ maxStr then some (.str (a ++ b), m) else none := by
  simp only [kM, Ev.eX]; split <;> rfl
@[simp] theorem ao3 (a b : List UInt8) : kM .eql [.str a, .str b] m = some (.bool (decide (a = b)), m) := by
  simp only [kM, Ev.eX, Option.bind_some]; congr 3; rw [Bool.eq_iff_iff]; simp
@[simp] theorem ao4 (a b : List UInt8) : kM .neq [.str a, .str b] m = some (.bool (!decide (a = b)), m) := by
  simp only [kM, Ev.eX, Option.bind_some]; congr 3; rw [Bool.eq_iff_iff]; simp
@[simp] theorem arQ (n a b : Bool) : WV n [.bool a, .bool b] m = some (.bool ((a == b) != n), m) := by rfl
@[simp] theorem aqU (n : Bool) : Bh n [.aO, .aO] m = some (.bool (true != n), m) := by rfl
@[simp] theorem aqV (n : Bool) (cs : List D) (o : Nat) : Bh n [.ref cs o, .aO] m = some (.bool (false != n), m) := by rfl
@[simp] theorem aqT (n : Bool) (b o : Nat) : Bh n [.loc b o, .aO] m = some (.bool (false != n), m) := by rfl
@[simp] theorem aqS (n : Bool) : iH n true [.aC, .aC] m = some (.bool (true != n), m) := by rfl
@[simp] theorem aqQ (n c : Bool) (t : Nat) (d : D) : iH n c [.iface t d, .aC] m = some (.bool (false != n), m) := by rfl
@[simp] theorem aqR (n c : Bool) (t : Nat) (d : D) : iH n c [.aC, .iface t d] m = some (.bool (false != n), m) := by rfl
@[simp] theorem arP (n : Bool) (ks : List Nat) (xs ys : List D) : TA n ks [.agg xs, .agg ys] m = bd (dW ks xs ys) fun r => some (.bool (r != n), m) := by rfl
@[simp] theorem aqm : dW [] [] [] = some true := by rfl
@[simp] theorem aql (ks : List Nat) (xs ys : List D) (k : IntKind) (a b : Int) : dW (1 :: ks) (.int k a :: xs) (.int k b :: ys) = bd (dW ks xs ys) fun r => some (decide (a = b) && r) := by
  simp only [dW, wH, cond_true, bd]; congr 1
@[simp] theorem apx (ks : List Nat) (xs ys : List D) (a b : Bool) : dW (0 :: ks) (.bool a :: xs) (.bool b :: ys) = bd (dW ks xs ys) fun r => some ((a == b) && r) := by rfl
@[simp] theorem aqn (ks : List Nat) (xs ys : List D) (a b : List UInt8) : dW (2 :: ks) (.str a :: xs) (.str b :: ys) = bd (dW ks xs ys) fun r => some ((a == b) && r) := by rfl
@[simp] theorem arU (k : IntKind) (a : Int) : WX [.int k a] m = some (.int k (k.wrap (0 - a)), m) := by rfl
@[simp] theorem arV (b : Bool) : iI [.bool b] m = some (.bool (!b), m) := by rfl
@[simp] theorem aru (k k' : IntKind) (n : Int) : LK k [.int k' n] m = some (.int k (k.wrap n), m) := by rfl
@[simp] theorem arA (t : Nat) (d : D) : PD t [d] m = some (.iface t d, m) := by rfl
@[simp] theorem ao5 (off b o : Nat) : aK off [.loc b o] m = some (.loc b (o + off), m) := by rfl
@[simp] theorem ao6 (off o : Nat) (cs : List D) : aK off [.ref cs o] m = some (.ref cs (o + off), m) := by rfl
@[simp] theorem akQ (esz len : Nat) (cs : List D) (k : IntKind) (i : Int) (h : 0 ≤ i ∧ i < len) : bT esz [.sl len cs, .int k i] m = some (.ref cs (i.toNat * esz), m) := by simp [bT, h]
@[simp] theorem aje (esz b off len e : Nat) (k : IntKind) (i : Int) (h : 0 ≤ i ∧ i < len) : bT esz [.bn b off len e, .int k i] m = some (.loc b (off + i.toNat * esz), m) := by simp [bT, h]
@[simp] theorem aos (esz b off len : Nat) (k : IntKind) (i : Int) (h : 0 ≤ i ∧ i < len) : EX esz len [.loc b off, .int k i] m = some (.loc b (off + i.toNat * esz), m) := by simp [EX, h]
@[simp] theorem aot (esz off len : Nat) (cs : List D) (k : IntKind) (i : Int) (h : 0 ≤ i ∧ i < len) : EX esz len [.ref cs off, .int k i] m = some (.ref cs (off + i.toNat * esz), m) := by simp [EX, h]
@[simp] theorem arv (s : List UInt8) (k : IntKind) (i : Int) (h : 0 ≤ i) : Py [.str s, .int k i] m = bd (s[i.toNat]?) fun b => some (.int .u8 b.toNat, m) := by simp [Py, h, bd]
@[simp] theorem arR (i : Nat) (ds : List D) : aS i [.bg ds] m = bd (ds[i]?) fun d => some (d, m) := by rfl
@[simp] theorem arz (s : List UInt8) : xY [.str s] m = some (.int .i64 s.length, m) := by rfl
@[simp] theorem apP (len : Nat) (cs : List D) : cZ [.sl len cs] m = some (.int .i64 len, m) := by rfl
@[simp] theorem aou : cZ [.cO] m = some (.int .i64 0, m) := by rfl
@[simp] theorem ao7 (b o len e : Nat) : cZ [.bn b o len e] m = some (.int .i64 len, m) := by rfl
@[simp] theorem ar6 (k k' : IntKind) (a b : Int) : Oc [.int k a, .int k' b] m = some (.int k (min a b), m) := by
  simp only [Oc]; congr 3; omega
@[simp] theorem ar8 (k k' : IntKind) (a b : Int) : Yl [.int k a, .int k' b] m = some (.int k (max a b), m) := by
  simp only [Yl]; congr 3; omega
@[simp] theorem arB (base j esz : Nat) (z : List D) (k k' : IntKind) (n : Int) (h : 0 ≤ n ∧ n ≤ 4294967296) : wK base j esz z [.int k n, .int k' n] m = uN base j (zeros n.toNat z) (.bn (base + j) 0 n.toNat esz) m := by simp [wK, qP, h]
@[simp] theorem arW (lo hi : Bool) (s : List UInt8) (xs : List D) : WY lo hi (.str s :: xs) m = bd (qC lo hi s.length xs) fun r => some (.str ((s.drop r.1).take (r.2 - r.1)), m) := by rfl
@[simp] theorem aq2 (esz len : Nat) (lo hi : Bool) (cs xs : List D) : DX esz lo hi (.sl len cs :: xs) m = bd (qC lo hi len xs) fun r => bd (kQ cs (r.1 * esz) ((r.2 - r.1) * esz)) fun cs' => some (.sl (r.2 - r.1) cs', m) := by rfl
@[simp] theorem ao8 (esz : Nat) (lo hi : Bool) (xs : List D) : DX esz lo hi (.cO :: xs) m = bd (qC lo hi 0 xs) fun r => some (.cO, m) := by rfl
@[simp] theorem apT (esz b off len : Nat) (lo hi : Bool) (xs : List D) : DX esz lo hi (.bn b off len esz :: xs) m = bd (qC lo hi len xs) fun r => some (.bn b (off + r.1 * esz) (r.2 - r.1) esz, m) := by simp [DX, bd]
@[simp] theorem ap_ (len : Nat) : qC false false len [] = some (0, len) := by rfl
@[simp] theorem aqa (len : Nat) (k : IntKind) (x : Int) (h : 0 ≤ x ∧ x ≤ len) : qC true false len [.int k x] = some (x.toNat, len) := by simp [qC, bnd, h]
@[simp] theorem ap' (len : Nat) (k : IntKind) (y : Int) (h : 0 ≤ y ∧ y ≤ len) : qC false true len [.int k y] = some (0, y.toNat) := by simp [qC, bnd, h]
@[simp] theorem aqb (len : Nat) (k k' : IntKind) (x y : Int) (h : 0 ≤ x ∧ x ≤ y ∧ y ≤ len) : qC true true len [.int k x, .int k' y] = some (x.toNat, y.toNat) := by
  have h1 : x ≤ (y.toNat : Int) := by omega
  have h2 : 0 ≤ y := by omega
  simp only [qC, bnd, Option.bind_some]
  rw [if_pos ⟨h2, h.2.2⟩]
  simp only [Option.bind_some]
  rw [if_pos ⟨h.1, h1⟩]
  rfl
@[simp] theorem apX (e : Nat) : slc m e .cO = some ([], 0, 0) := by rfl
@[simp] theorem arG (e len : Nat) (cs : List D) : slc m e (.sl len cs) = some (cs, 0, len) := by rfl
@[simp] theorem aq4 (b off len e : Nat) : slc m e (.bn b off len e) = anyM (m[b]?) fun cs => some (cs, off, len) := by
  simp only [slc, Nat.beq_refl, cond_true]; unfold anyM; split <;> simp_all
@[simp] theorem arM (x : D) : ahs [x] m = bd (slc m 1 x) fun r => bd (kQ r.1 r.2.1 r.2.2) fun cs => bd (bytesOf cs) fun bs => some (.str bs, m) := by rfl
@[simp] theorem ao1 (base j esz : Nat) (x : D) : Jy base j esz [.cO, x] m = bd (slc m esz x) fun rx => bd (kQ rx.1 rx.2.1 (rx.2.2 * esz)) fun news => if rx.2.2 = 0 then some (.cO, m) else if rx.2.2 ≤ qP then uN base j news (.bn (base + j) 0 rx.2.2 esz) m else none := by rfl
@[simp] theorem apO (base j esz b off len : Nat) (x : D) : Jy base j esz [.bn b off len esz, x] m = bd (slc m esz x) fun rx => bd (kQ rx.1 rx.2.1 (rx.2.2 * esz)) fun news => lU (m[b]?) fun cells => bd (kQ cells off (len * esz)) fun olds =>
        if len + rx.2.2 ≤ qP then uN base j (olds ++ news) (.bn (base + j) 0 (len + rx.2.2) esz) (m.set b .dead) else none := by
  simp only [Jy, Nat.beq_refl, cond_true, bd]; rfl
@[simp] theorem aqN (f : Nat) (args : List D) : au O f args m = bif args.all (D.clo 0 FZ) then bd (O.call f args) fun d => some (d, m) else none := by rfl
@[simp] theorem aqO (f : Nat) (args : List D) : kH O f args m = bd (jZ (fz FZ) args m) fun r => bd (O.call f r.1) fun d => some (d, r.2) := by rfl
def X7 {β : Type} (s : Option Slot) (f : List Int → Option β) : Option β := match s with
 | some (.mp ks) => f ks
 | _ => none
@[congr] theorem aoY {β : Type} {s s' : Option Slot} {f : List Int → Option β} (h : s = s') : X7 s f = X7 s' f := by rw [h]
@[simp] theorem arY {β : Type} (ks : List Int) (f : List Int → Option β) : X7 (some (.mp ks)) f = f ks := by rfl
@[simp] theorem arS (base j : Nat) : WW base j [] m = Ut (m[base + j]?) (some (.lmap (base + j), m.set (base + j) (.mp []))) := by
  rfl
@[simp] theorem arC (b : Nat) (k : Int) : LP [.lmap b, .int .i64 k, .bool true] m = X7 (m[b]?) fun ks => some (.bg [], m.set b (.mp (SH ks k))) := by
  unfold LP X7; rfl
@[simp] theorem aqY (b : Nat) (k : Int) : LM [.lmap b, .int .i64 k] m = X7 (m[b]?) fun ks => some (.bool (ks.contains k), m) := by
  unfold LM X7; rfl
@[simp] theorem aqX (ks : List Int) (k : Int) : LM [.nI ks, .int .i64 k] m = some (.bool (ks.contains k), m) := by rfl
@[simp] theorem aqZ (k : Int) : LM [.qJ, .int .i64 k] m = some (.bool false, m) := by rfl
@[simp] theorem aqv (n b : Nat) : fz (n + 1) (.lmap b) m = X7 (m[b]?) fun ks => some (.nI ks, m.set b .dead) := by
  simp only [fz]; unfold X7; rfl
@[simp] theorem aon {α : Type} (i : Nat) (e : α) (r : List (Nat × α)) (n : Nat) : sF ((i, e) :: r) n = if i = n then some e else sF r n := by
  simp only [sF, cond_eq_ite]
  by_cases h : i = n
  ·subst h; simp
  ·rw [if_neg (fun e => h (Nat.eq_of_beq_eq_true e)), if_neg h]
@[simp] theorem ao9 (t : Nat) (z : D) : PE t z [.aC] m = some (.bg [z, .bool false], m) := by rfl
@[simp] theorem arE (t u : Nat) (z d : D) : PE t z [.iface u d] m = if u = t then some (.bg [d, .bool true], m) else some (.bg [z, .bool false], m) := by
  simp only [PE, cond_eq_ite]
  by_cases h : u = t
  ·subst h; simp
  ·rw [if_neg (fun e => h (Nat.eq_of_beq_eq_true e)), if_neg h]
@[simp] theorem ao_ (tab : List (Nat × Bool)) : UE tab [.aC] m = some (.bg [.aC, .bool false], m) := by rfl
@[simp] theorem arF (tab : List (Nat × Bool)) (u : Nat) (d : D) : UE tab [.iface u d] m = bd (sF tab u) fun b => bif b then some (.bg [.iface u d, .bool true], m) else some (.bg [.aC, .bool false], m) := by rfl
@[simp] theorem arw (tab : List (Nat × Nat)) (u : Nat) (d : D) (args : List D) : Pz O tab (.iface u d :: args) m = bd (sF tab u) fun f => au O f (d :: args) m := by rfl
@[simp] theorem arx (tab : List (Nat × Nat)) (u : Nat) (d : D) (args : List D) : UD O tab (.iface u d :: args) m = bd (sF tab u) fun f => kH O f (d :: args) m := by rfl
@[simp] theorem aqP (f : Nat) (cap args : List D) : yU O (.func f cap :: args) m = bd (jZ (fz FZ) (args ++ cap) m) fun r => bd (O.call f r.1) fun d => some (d, r.2) := by rfl
@[simp] theorem apM : qP = 4294967296 := by rfl
@[simp] theorem aqK : maxStr = 1099511627776 := by rfl
def fzM {β : Type} (s : Option Slot) (f g : List D → Option β) : Option β := match s with
 | some (.gB cs) => f cs
 | some (.live cs) => g cs
 | _ => none
@[congr] theorem aoN {β : Type} {s s' : Option Slot} {f g : List D → Option β} (h : s = s') : fzM s f g = fzM s' f g := by rw [h]
@[simp] theorem arI {β : Type} (cs : List D) (f g : List D → Option β) : fzM (some (.gB cs)) f g = f cs := by rfl
@[simp] theorem arJ {β : Type} (cs : List D) (f g : List D → Option β) : fzM (some (.live cs)) f g = g cs := by rfl
@[simp] theorem aml (f : D → Mem → Option (D × Mem)) : jZ f [] m = some ([], m) := by rfl
@[simp] theorem akw (f : D → Mem → Option (D × Mem)) (d : D) (ds : List D) : jZ f (d :: ds) m = bd (f d m) fun r => bd (jZ f ds r.2) fun rs => some (r.1 :: rs.1, rs.2) := by rfl
@[simp] theorem ard (n : Nat) (k : IntKind) (x : Int) : fz (n + 1) (.int k x) m = some (.int k x, m) := by rfl
@[simp] theorem aqt (n : Nat) (b : Bool) : fz (n + 1) (.bool b) m = some (.bool b, m) := by rfl
@[simp] theorem ark (n : Nat) (s : List UInt8) : fz (n + 1) (.str s) m = some (.str s, m) := by rfl
@[simp] theorem aqz (n : Nat) : fz (n + 1) .aO m = some (.aO, m) := by rfl
@[simp] theorem aqA (n : Nat) : fz (n + 1) .cO m = some (.sl 0 [], m) := by rfl
@[simp] theorem aqx (n : Nat) : fz (n + 1) .aC m = some (.aC, m) := by rfl
@[simp] theorem aqw (n : Nat) (ks : List Int) : fz (n + 1) (.nI ks) m = some (.nI ks, m) := by rfl
@[simp] theorem ari (n b o : Nat) : fz (n + 1) (.raw b o) m = some (.raw b o, m) := by rfl
@[simp] theorem aqy (n : Nat) : fz (n + 1) .qJ m = some (.qJ, m) := by rfl
@[simp] theorem arj (n : Nat) (cs : List D) (o : Nat) : fz (n + 1) (.ref cs o) m = some (.ref cs o, m) := by rfl
@[simp] theorem arK (n len : Nat) (cs : List D) : fz (n + 1) (.sl len cs) m = some (.sl len cs, m) := by rfl
@[simp] theorem arb (n : Nat) (ds : List D) : fz (n + 1) (.agg ds) m = bd (jZ (fz n) ds m) fun r => some (.agg r.1, r.2) := by rfl
@[simp] theorem arl (n : Nat) (ds : List D) : fz (n + 1) (.bg ds) m = bd (jZ (fz n) ds m) fun r => some (.bg r.1, r.2) := by rfl
@[simp] theorem aqu (n f : Nat) (ds : List D) : fz (n + 1) (.func f ds) m = bd (jZ (fz n) ds m) fun r => some (.func f r.1, r.2) := by rfl
@[simp] theorem apB (n t : Nat) (d : D) : fz (n + 1) (.iface t d) m = bd (fz n d m) fun r => some (.iface t r.1, r.2) := by rfl
@[simp] theorem arf (n b off : Nat) : fz (n + 1) (.loc b off) m = fzM (m[b]?) (fun cs => some (.ref cs off, m)) (fun cs => bd (jZ (fz n) cs m) fun r => lU (r.2[b]?) fun _ => some (.ref r.1 off, r.2.set b (.gB r.1))) := by
  simp only [fz, fzM, bd]; split <;> simp_all; congr 1
@[simp] theorem arh (n b off len esz : Nat) : fz (n + 1) (.bn b off len esz) m = fzM (m[b]?) (fun cs => bd (kQ cs off (len * esz)) fun ds => some (.sl len ds, m)) (fun cs => bd (jZ (fz n) cs m) fun r => lU (r.2[b]?) fun _ => bd (kQ r.1 off (len * esz)) fun ds => some (.sl len ds, r.2.set b (.gB r.1))) := by
  simp only [fz, fzM, bd]; split <;> simp_all; congr 1
@[simp] theorem FZ_ : FZ = 12 := by rfl
@[simp] theorem arX (r : D × Mem) : fin r = bd (fz FZ r.1 r.2) fun s => some s.1 := by rfl
@[simp] theorem apl (x : RV) : Option.bind x fin = bd x fin := by rfl
@[simp] theorem aqd (b n : Nat) (k : IntKind) (x : Int) : D.clo b (n + 1) (.int k x) = true := by rfl
@[simp] theorem apn (b n : Nat) (x : Bool) : D.clo b (n + 1) (.bool x) = true := by rfl
@[simp] theorem aqj (b n : Nat) (x : List UInt8) : D.clo b (n + 1) (.str x) = true := by rfl
@[simp] theorem apu (b n : Nat) : D.clo b (n + 1) .aO = true := by rfl
@[simp] theorem apv (b n : Nat) : D.clo b (n + 1) .cO = true := by rfl
@[simp] theorem aps (b n : Nat) : D.clo b (n + 1) .aC = true := by rfl
@[simp] theorem apq (b n i : Nat) : D.clo b (n + 1) (.lmap i) = decide (i < b) := by rfl
@[simp] theorem apr (b n : Nat) (ks : List Int) : D.clo b (n + 1) (.nI ks) = true := by rfl
@[simp] theorem aqh (b n i o : Nat) : D.clo b (n + 1) (.raw i o) = true := by rfl
@[simp] theorem apt (b n : Nat) : D.clo b (n + 1) .qJ = true := by rfl
@[simp] theorem aqi (b n o : Nat) (cs : List D) : D.clo b (n + 1) (.ref cs o) = true := by rfl
@[simp] theorem aq_ (b n l : Nat) (cs : List D) : D.clo b (n + 1) (.sl l cs) = true := by rfl
@[simp] theorem aqe (b n i o : Nat) : D.clo b (n + 1) (.loc i o) = decide (i < b) := by rfl
@[simp] theorem aqf (b n i o l e : Nat) : D.clo b (n + 1) (.bn i o l e) = decide (i < b) := by rfl
@[simp] theorem aqc (b n : Nat) (ds : List D) : D.clo b (n + 1) (.agg ds) = ds.all (D.clo b n) := by rfl
@[simp] theorem aqk (b n : Nat) (ds : List D) : D.clo b (n + 1) (.bg ds) = ds.all (D.clo b n) := by rfl
@[simp] theorem apo (b n f : Nat) (ds : List D) : D.clo b (n + 1) (.func f ds) = ds.all (D.clo b n) := by rfl
@[simp] theorem aoE (b n t : Nat) (d : D) : D.clo b (n + 1) (.iface t d) = D.clo b n d := by rfl
def Ed (base : Nat) (s : Slot) : Bool := match s with
 | .live cs => cs.all (D.clo base FZ)
 | _ => true
@[simp] theorem apd (base : Nat) (cs : List D) : Ed base (.live cs) = cs.all (D.clo base FZ) := by rfl
@[simp] theorem apc (base : Nat) (cs : List D) : Ed base (.gB cs) = true := by rfl
@[simp] theorem aq3 (base : Nat) (ks : List Int) : Ed base (.mp ks) = true := by rfl
@[simp] theorem apa (base : Nat) : Ed base .dead = true := by rfl
@[simp] theorem apb (base : Nat) : Ed base .free = true := by rfl
@[simp] theorem gc_ (base : Nat) (vals : List D) : gc base vals m = bif decide (base ≤ m.length) && (m.take base).all (Ed base) then fB base m vals [] (m.take base) else none := by
  unfold gc; congr 3
variable {base : Nat} {got : List Nat} {acc : Mem} {ds : List D}
@[simp] theorem aqE : fB base m [] got acc = some ([], acc) := by rfl
@[simp] theorem aqC (k : IntKind) (x : Int) : fB base m (.int k x :: ds) got acc = bd (fB base m ds got acc) fun r => some (.int k x :: r.1, r.2) := by rfl
@[simp] theorem apC (x : Bool) : fB base m (.bool x :: ds) got acc = bd (fB base m ds got acc) fun r => some (.bool x :: r.1, r.2) := by rfl
@[simp] theorem aqH (x : List UInt8) : fB base m (.str x :: ds) got acc = bd (fB base m ds got acc) fun r => some (.str x :: r.1, r.2) := by rfl
@[simp] theorem apH : fB base m (.aO :: ds) got acc = bd (fB base m ds got acc) fun r => some (.aO :: r.1, r.2) := by rfl
@[simp] theorem apI : fB base m (.cO :: ds) got acc = bd (fB base m ds got acc) fun r => some (.cO :: r.1, r.2) := by rfl
@[simp] theorem apF : fB base m (.aC :: ds) got acc = bd (fB base m ds got acc) fun r => some (.aC :: r.1, r.2) := by rfl
@[simp] theorem apE (ks : List Int) : fB base m (.nI ks :: ds) got acc = bd (fB base m ds got acc) fun r => some (.nI ks :: r.1, r.2) := by rfl
@[simp] theorem aqF (b o : Nat) : fB base m (.raw b o :: ds) got acc = bd (fB base m ds got acc) fun r => some (.raw b o :: r.1, r.2) := by rfl
@[simp] theorem apG : fB base m (.qJ :: ds) got acc = bd (fB base m ds got acc) fun r => some (.qJ :: r.1, r.2) := by rfl
@[simp] theorem aoP : fB base m (.undef :: ds) got acc = bd (fB base m ds got acc) fun r => some (.undef :: r.1, r.2) := by rfl
@[simp] theorem aqG (cs : List D) (o : Nat) : fB base m (.ref cs o :: ds) got acc = bd (fB base m ds got acc) fun r => some (.ref cs o :: r.1, r.2) := by rfl
@[simp] theorem arn (l : Nat) (cs : List D) : fB base m (.sl l cs :: ds) got acc = bd (fB base m ds got acc) fun r => some (.sl l cs :: r.1, r.2) := by rfl
@[simp] theorem aqB (cs : List D) : fB base m (.agg cs :: ds) got acc = bif D.clo base FZ (.agg cs) then bd (fB base m ds got acc) fun r => some (.agg cs :: r.1, r.2) else none := by rfl
@[simp] theorem aqI (cs : List D) : fB base m (.bg cs :: ds) got acc = bif D.clo base FZ (.bg cs) then bd (fB base m ds got acc) fun r => some (.bg cs :: r.1, r.2) else none := by rfl
@[simp] theorem apD (f : Nat) (cs : List D) : fB base m (.func f cs :: ds) got acc = bif D.clo base FZ (.func f cs) then bd (fB base m ds got acc) fun r => some (.func f cs :: r.1, r.2) else none := by rfl
def gmv (base : Nat) (m : Mem) (t : Nat) (d' : D) (ds : List D) (got : List Nat) (acc : Mem) : Option (List D × Mem) := match d' with
 | .loc b off => bif got.contains b then none else lU (m[b]?) fun cs => bif cs.all (D.clo base FZ) then bd (fB base m ds (b :: got) (acc ++ [.live cs])) fun r => some (.iface t (.loc acc.length off) :: r.1, r.2) else none
 | _ => none
@[simp] theorem aqJ (t b off : Nat) : gmv base m t (.loc b off) ds got acc = bif got.contains b then none else lU (m[b]?) fun cs => bif cs.all (D.clo base FZ) then bd (fB base m ds (b :: got) (acc ++ [.live cs])) fun r => some (.iface t (.loc acc.length off) :: r.1, r.2) else none := by rfl
@[simp] theorem aoO (t : Nat) (d : D) : fB base m (.iface t d :: ds) got acc = bif D.clo base FZ (.iface t d) then bd (fB base m ds got acc) fun r => some (.iface t d :: r.1, r.2) else gmv base m t d ds got acc := by
  cases d <;> first | rfl | (rw [fB]; rfl)
@[simp] theorem aqD (b off : Nat) : fB base m (.loc b off :: ds) got acc = if b < base then bd (fB base m ds got acc) fun r => some (.loc b off :: r.1, r.2)
      else bif got.contains b then none else lU (m[b]?) fun cs => bif cs.all (D.clo base FZ) then bd (fB base m ds (b :: got) (acc ++ [.live cs])) fun r => some (.loc acc.length off :: r.1, r.2) else none := by
  rw [fB]; rfl
@[simp] theorem amm (b off len esz : Nat) : fB base m (.bn b off len esz :: ds) got acc = if b < base then bd (fB base m ds got acc) fun r => some (.bn b off len esz :: r.1, r.2)
      else bif got.contains b then none else lU (m[b]?) fun cs => bif cs.all (D.clo base FZ) then bd (fB base m ds (b :: got) (acc ++ [.live cs])) fun r => some (.bn acc.length off len esz :: r.1, r.2) else none := by
  rw [fB]; rfl
@[simp] theorem ap3 (d : D) : aN ([d], m) = (d, m) := by rfl
@[simp] theorem ap2 : aN ([], m) = (.bg [], m) := by rfl
@[simp] theorem ap4 (d d' : D) (ds : List D) : aN (d :: d' :: ds, m) = (.bg (d :: d' :: ds), m) := by rfl
@[simp] theorem ap6 (e : Env) : Aq e m [] = some [] := by rfl
@[simp] theorem ape (e : Env) (r : ER) (rs : List ER) : Aq e m (r :: rs) = bd (r.get e m) fun d => bd (Aq e m rs) fun ds => some (d :: ds) := by rfl
@[simp] theorem aq5 (e : Env) (t : Nat) : (ER.tmp t).get e m = look e t := by rfl
@[simp] theorem ap5 (e : Env) (t n : Nat) (agg : Bool) : (ER.cell t agg n).get e m = bd (look e t) fun a => bd (NM m a) fun r => bif agg then bd (kQ r.1 r.2 n) fun ds => some (.agg ds) else r.1[r.2]? := by rfl
theorem beq_lit (n m : Nat) : Nat.beq n m = decide (n = m) := by
 cases h : Nat.beq n m with
 | true => simp [Nat.eq_of_beq_eq_true h]
 | false => exact (decide_eq_false fun e => by rw [e, Nat.beq_refl] at h; cases h).symm
@[simp] theorem aoU (e : Env) (t x : Nat) (d : D) : look ((t, d) :: e) x = if t = x then some d else look e x := by
  simp only [look, beq_lit]; by_cases h : t = x <;> simp [h]
@[simp] theorem aoc (i j : Nat) : dL i (.exit j) = if j = i then .normal else .exit j := by
  simp only [dL, beq_lit]; by_cases h : j = i <;> simp [h]
theorem oM (n : Nat) (d : D) : zeros n [d] = List.replicate n d := by
 unfold zeros
 apply List.ext_getElem <;> simp
 intro i h; simp [Nat.mod_one]
theorem wrap64 (x : Int) (h : -9223372036854775808 ≤ x ∧ x ≤ 9223372036854775807) : IntKind.i64.wrap x = x := by
 simp [IntKind.wrap, IntKind.signed, IntKind.bits, IntKind.min, IntKind.max] <;> omega
end
end Go.Ev
