/- A part of the proof of planLone_card, bondLong_card. -/
import Derived.Test.YtgppbgfjhkjfcaaGreatDoorCFlat
set_option linter.unusedVariables false
set_option linter.unusedSimpArgs false
namespace Go.Ev
attribute [simp] List.getElem?_cons_zero List.getElem?_cons_succ
def mP {β : Type} (s : Option Slot) (f : List D → Option β) : Option β := match s with
 | some (.live cs) => f cs
 | _ => none
def anyM {β : Type} (s : Option Slot) (f : List D → Option β) : Option β := match s with
 | some (.live cs) => f cs
 | some (.fJ cs) => f cs
 | _ => none
def TV {β : Type} (s : Option Slot) (x : Option β) : Option β := match s with
 | some .free => x
 | _ => none
@[congr] theorem anT {β : Type} {s s' : Option Slot} {f : List D → Option β} (h : s = s') : mP s f = mP s' f := by rw [h]
@[congr] theorem anyM_congr {β : Type} {s s' : Option Slot} {f : List D → Option β} (h : s = s') : anyM s f = anyM s' f := by rw [h]
@[congr] theorem anS {β : Type} {s s' : Option Slot} {x : Option β} (h : s = s') : TV s x = TV s' x := by rw [h]
@[simp] theorem aq9 {β : Type} (cs : List D) (f : List D → Option β) : mP (some (.live cs)) f = f cs := by rfl
@[simp] theorem aqX {β : Type} (cs : List D) (f : List D → Option β) : anyM (some (.live cs)) f = f cs := by rfl
@[simp] theorem aqW {β : Type} (cs : List D) (f : List D → Option β) : anyM (some (.fJ cs)) f = f cs := by rfl
@[simp] theorem aqZ {β : Type} (x : Option β) : TV (some .free) x = x := by rfl
section
variable {m : Mem} {O : aC}
@[simp] theorem arH (d : D) : SY [d] m = some (d, m) := by rfl
@[simp] theorem aqP (x y : D) : Ip [.bool true, x, y] m = some (x, m) := by rfl
@[simp] theorem aqO (x y : D) : Ip [.bool false, x, y] m = some (y, m) := by rfl
@[simp] theorem arB (base j : Nat) (d : D) : SL base j [d] m = bd (dN d) fun cs => wz base j cs (.loc (base + j) 0) m := by rfl
@[simp] theorem aqz (base j : Nat) (z : List D) : Gl base j z [] m = wz base j z (.loc (base + j) 0) m := by rfl
@[simp] theorem arz (base j : Nat) (cs : List D) (d : D) : wz base j cs d m = TV (m[base + j]?) (some (d, m.set (base + j) (.live cs))) := by
  unfold wz TV; split <;> simp_all
@[simp] theorem ahi (b off : Nat) : wS [.loc b off] m = bd (NV m (.loc b off)) fun r => bd (r.1[r.2]?) fun d => some (d, m) := by rfl
@[simp] theorem aoi (cs : List D) (off : Nat) : wS [.ref cs off] m = bd (cs[off]?) fun d => some (d, m) := by rfl
@[simp] theorem aqK (cs : List D) (off : Nat) : Gn [.ref cs off] m = bd (cs[off]?) fun d => some (d, m) := by rfl
@[simp] theorem aoj (n b off : Nat) : DN n [.loc b off] m = bd (NV m (.loc b off)) fun r => bd (kQ r.1 r.2 n) fun ds => some (.agg ds, m) := by rfl
@[simp] theorem aok (n off : Nat) (cs : List D) : DN n [.ref cs off] m = bd (kQ cs off n) fun ds => some (.agg ds, m) := by rfl
@[simp] theorem alD (b off : Nat) : NV m (.loc b off) = anyM (m[b]?) fun cs => some (cs, off) := by
  rfl
@[simp] theorem amm (n b off : Nat) (d : D) : yG n [.loc b off, d] m = bd (dN d) fun cs => mP (m[b]?) fun cells => if cs.length = n ∧ off + n ≤ cells.length then some (.aS [], m.set b (.live (zI cells off cs))) else none := by
  unfold yG bd mP; rfl
@[simp] theorem apB (cells : List D) (off : Nat) : zI cells off [] = cells := by rfl
@[simp] theorem aoM (cells : List D) (off : Nat) (d : D) (ds : List D) : zI cells off (d :: ds) = zI (cells.set off d) (off + 1) ds := by rfl
@[simp] theorem aru (cells : List D) (off n : Nat) : kQ cells off n = if off + n ≤ cells.length then some ((cells.drop off).take n) else none := by rfl
@[simp] theorem aqA (z : List D) (ps : List (Nat × Nat)) (ds : List D) : Gm z ps ds m = bd (mO z ps ds) fun cs => some (.agg cs, m) := by rfl
@[simp] theorem aot (cells : List D) : mO cells [] [] = some cells := by rfl
@[simp] theorem an7 (cells : List D) (off n : Nat) (ps : List (Nat × Nat)) (d : D) (ds : List D) : mO cells ((off, n) :: ps) (d :: ds) = bd (dN d) fun cs => if cs.length = n ∧ off + n ≤ cells.length then mO (zI cells off cs) ps ds else none := by rfl
@[simp] theorem arC (len : Nat) (z : List D) (ps : List (Nat × Nat)) (ds : List D) : SN len z ps ds m = bif ds.all (D.clo 0 FZ) then bd (mO (zeros len z) ps ds) fun cs => some (.sl len cs, m) else none := by rfl
@[simp] theorem arb (base j esz len : Nat) (z : List D) (ps : List (Nat × Nat)) (ds : List D) : MC base j esz len z ps ds m = bd (mO (zeros len z) ps ds) fun cs => wz base j cs (.aT (base + j) 0 len esz) m := by rfl
@[simp] theorem aol (b off : Nat) : DT [.loc b off] m = some (.loc b off, m) := by rfl
@[simp] theorem aom (cs : List D) (off : Nat) : DT [.ref cs off] m = some (.ref cs off, m) := by rfl
@[simp] theorem anI (ds : List D) : dN (.agg ds) = some ds := by rfl
@[simp] theorem anJ (k : IntKind) (n : Int) : dN (.int k n) = some [.int k n] := by rfl
@[simp] theorem amT (b : Bool) : dN (.bool b) = some [.bool b] := by rfl
@[simp] theorem anO (s : List UInt8) : dN (.str s) = some [.str s] := by rfl
@[simp] theorem anN (cs : List D) (o : Nat) : dN (.ref cs o) = some [.ref cs o] := by rfl
@[simp] theorem anU (n : Nat) (cs : List D) : dN (.sl n cs) = some [.sl n cs] := by rfl
@[simp] theorem amY : dN .aK = some [.aK] := by rfl
@[simp] theorem amZ : dN .bK = some [.bK] := by rfl
@[simp] theorem amW : dN .aB = some [.aB] := by rfl
@[simp] theorem amU (b : Nat) : dN (.lmap b) = some [.lmap b] := by rfl
@[simp] theorem amV (ks : List Int) : dN (.n_ ks) = some [.n_ ks] := by rfl
@[simp] theorem anM (b o : Nat) : dN (.raw b o) = some [.raw b o] := by rfl
@[simp] theorem amX : dN .uI = some [.uI] := by rfl
@[simp] theorem anK (b o : Nat) : dN (.loc b o) = some [.loc b o] := by rfl
@[simp] theorem anL (b o l e : Nat) : dN (.aT b o l e) = some [.aT b o l e] := by rfl
@[simp] theorem amN (t : Nat) (d : D) : dN (.iface t d) = some [.iface t d] := by rfl
theorem xJ (k : IntKind) : (k == k) = true := by cases k <;> rfl
@[simp] theorem arN (k : IntKind) (a b : Int) : dV .add [.int k a, .int k b] m = some (.int k (k.wrap (a + b)), m) := by simp [dV, xJ, aj]
@[simp] theorem apI (k : IntKind) (a b : Int) : dV .sub [.int k a, .int k b] m = some (.int k (k.wrap (a - b)), m) := by simp [dV, xJ, aj]
@[simp] theorem arU (k : IntKind) (a b : Int) : dV .mul [.int k a, .int k b] m = some (.int k (k.wrap (a * b)), m) := by simp [dV, xJ, aj]
@[simp] theorem anB (k : IntKind) (a b : Int) (h : b ≠ 0) : dV .quo [.int k a, .int k b] m = some (.int k (k.wrap (a.tdiv b)), m) := by simp [dV, xJ, aj, h]
@[simp] theorem apF (k : IntKind) (a b : Int) (h : b ≠ 0) : dV .rem [.int k a, .int k b] m = some (.int k (a.tmod b), m) := by simp [dV, xJ, aj, h]
@[simp] theorem arO (k : IntKind) (a b : Int) : dV .eql [.int k a, .int k b] m = some (.bool (decide (a = b)), m) := by
  simp only [dV, xJ, aj, cond_true, Option.bind_some]; congr 3
@[simp] theorem apE (k : IntKind) (a b : Int) : dV .neq [.int k a, .int k b] m = some (.bool (!decide (a = b)), m) := by
  simp only [dV, xJ, aj, cond_true, Option.bind_some]; congr 3
@[simp] theorem arS (k : IntKind) (a b : Int) : dV .lss [.int k a, .int k b] m = some (.bool (decide (a < b)), m) := by simp [dV, xJ, aj]
@[simp] theorem arR (k : IntKind) (a b : Int) : dV .leq [.int k a, .int k b] m = some (.bool (decide (a ≤ b)), m) := by simp [dV, xJ, aj]
@[simp] theorem arQ (k : IntKind) (a b : Int) : dV .gtr [.int k a, .int k b] m = some (.bool (decide (b < a)), m) := by simp [dV, xJ, aj]
@[simp] theorem arP (k : IntKind) (a b : Int) : dV .geq [.int k a, .int k b] m = some (.bool (decide (b ≤ a)), m) := by simp [dV, xJ, aj]
theorem anA (k : IntKind) (a b : Int) : dV .and [.int k a, .int k b] m = some (.int k (k.wrap (BitVec.ofInt k.bits a &&& BitVec.ofInt k.bits b).toNat), m) := by simp [dV, xJ, aj]
theorem rOr (k : IntKind) (a b : Int) : dV .or [.int k a, .int k b] m = some (.int k (k.wrap (BitVec.ofInt k.bits a ||| BitVec.ofInt k.bits b).toNat), m) := by simp [dV, xJ, aj]
theorem apG (k k' : IntKind) (a b : Int) (h : 0 ≤ b) : oI true [.int k a, .int k' b] m = some (.int k (k.wrap (a * 2 ^ (min b.toNat k.bits))), m) := by simp [oI, shI, Int.not_lt.2 h]
theorem anC (k k' : IntKind) (a b : Int) (h : 0 ≤ b) : oI false [.int k a, .int k' b] m = some (.int k (a.fdiv (2 ^ (min b.toNat k.bits))), m) := by simp [oI, shI, Int.not_lt.2 h]
@[simp] theorem aoO (a b : List UInt8) : zi .add [.str a, .str b] m = if a.length + b.length ≤ maxStr then some (.str (a ++ b), m) else none := by
  simp only [zi, Ev.dP]; split <;> rfl
@[simp] theorem aoP (a b : List UInt8) : zi .eql [.str a, .str b] m = some (.bool (decide (a = b)), m) := by
  simp only [zi, Ev.dP, Option.bind_some]; congr 3; rw [Bool.eq_iff_iff]; simp
@[simp] theorem aoQ (a b : List UInt8) : zi .neq [.str a, .str b] m = some (.bool (!decide (a = b)), m) := by
  simp only [zi, Ev.dP, Option.bind_some]; congr 3; rw [Bool.eq_iff_iff]; simp
@[simp] theorem arE (n a b : Bool) : SS n [.bool a, .bool b] m = some (.bool ((a == b) != n), m) := by rfl
@[simp] theorem aqI (n : Bool) : Nl n [.aK, .aK] m = some (.bool (true != n), m) := by rfl
@[simp] theorem aqJ (n : Bool) (cs : List D) (o : Nat) : Nl n [.ref cs o, .aK] m = some (.bool (false != n), m) := by rfl
@[simp] theorem aqH (n : Bool) (b o : Nat) : Nl n [.loc b o, .aK] m = some (.bool (false != n), m) := by rfl
@[simp] theorem aqG (n : Bool) : Nk n true [.aB, .aB] m = some (.bool (true != n), m) := by rfl
@[simp] theorem aqE (n c : Bool) (t : Nat) (d : D) : Nk n c [.iface t d, .aB] m = some (.bool (false != n), m) := by rfl
@[simp] theorem aqF (n c : Bool) (t : Nat) (d : D) : Nk n c [.aB, .iface t d] m = some (.bool (false != n), m) := by rfl
@[simp] theorem arD (n : Bool) (ks : List Nat) (xs ys : List D) : SQ n ks [.agg xs, .agg ys] m = bd (dw ks xs ys) fun r => some (.bool (r != n), m) := by rfl
@[simp] theorem aqa : dw [] [] [] = some true := by rfl
@[simp] theorem ap' (ks : List Nat) (xs ys : List D) (k : IntKind) (a b : Int) : dw (1 :: ks) (.int k a :: xs) (.int k b :: ys) = bd (dw ks xs ys) fun r => some (decide (a = b) && r) := by
  simp only [dw, xJ, cond_true, bd]; congr 1
@[simp] theorem apk (ks : List Nat) (xs ys : List D) (a b : Bool) : dw (0 :: ks) (.bool a :: xs) (.bool b :: ys) = bd (dw ks xs ys) fun r => some ((a == b) && r) := by rfl
@[simp] theorem aqb (ks : List Nat) (xs ys : List D) (a b : List UInt8) : dw (2 :: ks) (.str a :: xs) (.str b :: ys) = bd (dw ks xs ys) fun r => some ((a == b) && r) := by rfl
@[simp] theorem arI (k : IntKind) (a : Int) : S9 [.int k a] m = some (.int k (k.wrap (0 - a)), m) := by rfl
@[simp] theorem arJ (b : Bool) : S_ [.bool b] m = some (.bool (!b), m) := by rfl
@[simp] theorem ard (k k' : IntKind) (n : Int) : MF k [.int k' n] m = some (.int k (k.wrap n), m) := by rfl
@[simp] theorem ark (t : Nat) (d : D) : MH t [d] m = some (.iface t d, m) := by rfl
@[simp] theorem aoR (off b o : Nat) : Ii off [.loc b o] m = some (.loc b (o + off), m) := by rfl
@[simp] theorem aoS (off o : Nat) (cs : List D) : Ii off [.ref cs o] m = some (.ref cs (o + off), m) := by rfl
@[simp] theorem akE (esz len : Nat) (cs : List D) (k : IntKind) (i : Int) (h : 0 ≤ i ∧ i < len) : Bf esz [.sl len cs, .int k i] m = some (.ref cs (i.toNat * esz), m) := by simp [Bf, h]
@[simp] theorem ai3 (esz b off len e : Nat) (k : IntKind) (i : Int) (h : 0 ≤ i ∧ i < len) : Bf esz [.aT b off len e, .int k i] m = some (.loc b (off + i.toNat * esz), m) := by simp [Bf, h]
@[simp] theorem aof (esz b off len : Nat) (k : IntKind) (i : Int) (h : 0 ≤ i ∧ i < len) : yF esz len [.loc b off, .int k i] m = some (.loc b (off + i.toNat * esz), m) := by simp [yF, h]
@[simp] theorem aog (esz off len : Nat) (cs : List D) (k : IntKind) (i : Int) (h : 0 ≤ i ∧ i < len) : yF esz len [.ref cs off, .int k i] m = some (.ref cs (off + i.toNat * esz), m) := by simp [yF, h]
@[simp] theorem arf (s : List UInt8) (k : IntKind) (i : Int) (h : 0 ≤ i) : Ij [.str s, .int k i] m = bd (s[i.toNat]?) fun b => some (.int .u8 b.toNat, m) := by simp [Ij, h, bd]
@[simp] theorem arF (i : Nat) (ds : List D) : SV i [.aS ds] m = bd (ds[i]?) fun d => some (d, m) := by rfl
@[simp] theorem arj (s : List UInt8) : MG [.str s] m = some (.int .i64 s.length, m) := by rfl
@[simp] theorem apD (len : Nat) (cs : List D) : DL [.sl len cs] m = some (.int .i64 len, m) := by rfl
@[simp] theorem aoh : DL [.bK] m = some (.int .i64 0, m) := by rfl
@[simp] theorem aoT (b o len e : Nat) : DL [.aT b o len e] m = some (.int .i64 len, m) := by rfl
@[simp] theorem arT (k k' : IntKind) (a b : Int) : XM [.int k a, .int k' b] m = some (.int k (min a b), m) := by
  simp only [XM]; congr 3; omega
@[simp] theorem arV (k k' : IntKind) (a b : Int) : XO [.int k a, .int k' b] m = some (.int k (max a b), m) := by
  simp only [XO]; congr 3; omega
@[simp] theorem arl (base j esz : Nat) (z : List D) (k k' : IntKind) (n : Int) (h : 0 ≤ n ∧ n ≤ 4294967296) : Il base j esz z [.int k n, .int k' n] m = wz base j (zeros n.toNat z) (.aT (base + j) 0 n.toNat esz) m := by simp [Il, sS, h]
@[simp] theorem arK (lo hi : Bool) (s : List UInt8) (xs : List D) : Tc lo hi (.str s :: xs) m = bd (sH lo hi s.length xs) fun r => some (.str ((s.drop r.1).take (r.2 - r.1)), m) := by rfl
@[simp] theorem aqQ (esz len : Nat) (lo hi : Bool) (cs xs : List D) : JG esz lo hi (.sl len cs :: xs) m = bd (sH lo hi len xs) fun r => bd (kQ cs (r.1 * esz) ((r.2 - r.1) * esz)) fun cs' => some (.sl (r.2 - r.1) cs', m) := by rfl
@[simp] theorem aoU (esz : Nat) (lo hi : Bool) (xs : List D) : JG esz lo hi (.bK :: xs) m = bd (sH lo hi 0 xs) fun r => some (.bK, m) := by rfl
@[simp] theorem apH (esz b off len : Nat) (lo hi : Bool) (xs : List D) : JG esz lo hi (.aT b off len esz :: xs) m = bd (sH lo hi len xs) fun r => some (.aT b (off + r.1 * esz) (r.2 - r.1) esz, m) := by simp [JG, bd]
@[simp] theorem apY (len : Nat) : sH false false len [] = some (0, len) := by rfl
@[simp] theorem ap0 (len : Nat) (k : IntKind) (x : Int) (h : 0 ≤ x ∧ x ≤ len) : sH true false len [.int k x] = some (x.toNat, len) := by simp [sH, bnd, h]
@[simp] theorem apZ (len : Nat) (k : IntKind) (y : Int) (h : 0 ≤ y ∧ y ≤ len) : sH false true len [.int k y] = some (0, y.toNat) := by simp [sH, bnd, h]
@[simp] theorem ap1 (len : Nat) (k k' : IntKind) (x y : Int) (h : 0 ≤ x ∧ x ≤ y ∧ y ≤ len) : sH true true len [.int k x, .int k' y] = some (x.toNat, y.toNat) := by
  have h1 : x ≤ (y.toNat : Int) := by omega
  have h2 : 0 ≤ y := by omega
  simp only [sH, bnd, Option.bind_some]
  rw [if_pos ⟨h2, h.2.2⟩]
  simp only [Option.bind_some]
  rw [if_pos ⟨h.1, h1⟩]
  rfl
@[simp] theorem apL (e : Nat) : slc m e .bK = some ([], 0, 0) := by rfl
@[simp] theorem ars (e len : Nat) (cs : List D) : slc m e (.sl len cs) = some (cs, 0, len) := by rfl
@[simp] theorem aqS (b off len e : Nat) : slc m e (.aT b off len e) = anyM (m[b]?) fun cs => some (cs, off, len) := by
  simp only [slc, Nat.beq_refl, cond_true]; unfold anyM; split <;> simp_all
@[simp] theorem arA (x : D) : Wi [x] m = bd (slc m 1 x) fun r => bd (kQ r.1 r.2.1 r.2.2) fun cs => bd (bytesOf cs) fun bs => some (.str bs, m) := by rfl
@[simp] theorem aoN (base j esz : Nat) (x : D) : Pz base j esz [.bK, x] m = bd (slc m esz x) fun rx => bd (kQ rx.1 rx.2.1 (rx.2.2 * esz)) fun news => if rx.2.2 = 0 then some (.bK, m) else if rx.2.2 ≤ sS then wz base j news (.aT (base + j) 0 rx.2.2 esz) m else none := by rfl
@[simp] theorem apC (base j esz b off len : Nat) (x : D) : Pz base j esz [.aT b off len esz, x] m = bd (slc m esz x) fun rx => bd (kQ rx.1 rx.2.1 (rx.2.2 * esz)) fun news => mP (m[b]?) fun cells => bd (kQ cells off (len * esz)) fun olds =>
        if len + rx.2.2 ≤ sS then wz base j (olds ++ news) (.aT (base + j) 0 (len + rx.2.2) esz) (m.set b .dead) else none := by
  simp only [Pz, Nat.beq_refl, cond_true, bd]; rfl
@[simp] theorem aqB (f : Nat) (args : List D) : pI O f args m = bif args.all (D.clo 0 FZ) then bd (O.call f args) fun d => some (d, m) else none := by rfl
@[simp] theorem aqC (f : Nat) (args : List D) : ug O f args m = bd (kC (fz FZ) args m) fun r => bd (O.call f r.1) fun d => some (d, r.2) := by rfl
def XD {β : Type} (s : Option Slot) (f : List Int → Option β) : Option β := match s with
 | some (.mp ks) => f ks
 | _ => none
@[congr] theorem aoK {β : Type} {s s' : Option Slot} {f : List Int → Option β} (h : s = s') : XD s f = XD s' f := by rw [h]
@[simp] theorem arM {β : Type} (ks : List Int) (f : List Int → Option β) : XD (some (.mp ks)) f = f ks := by rfl
@[simp] theorem arG (base j : Nat) : PD base j [] m = TV (m[base + j]?) (some (.lmap (base + j), m.set (base + j) (.mp []))) := by
  rfl
@[simp] theorem arn (b : Nat) (k : Int) : Io [.lmap b, .int .i64 k, .bool true] m = XD (m[b]?) fun ks => some (.aS [], m.set b (.mp (RJ ks k))) := by
  unfold Io XD; rfl
@[simp] theorem aqM (b : Nat) (k : Int) : DR [.lmap b, .int .i64 k] m = XD (m[b]?) fun ks => some (.bool (ks.contains k), m) := by
  unfold DR XD; rfl
@[simp] theorem aqL (ks : List Int) (k : Int) : DR [.n_ ks, .int .i64 k] m = some (.bool (ks.contains k), m) := by rfl
@[simp] theorem aqN (k : Int) : DR [.uI, .int .i64 k] m = some (.bool false, m) := by rfl
@[simp] theorem aqi (n b : Nat) : fz (n + 1) (.lmap b) m = XD (m[b]?) fun ks => some (.n_ ks, m.set b .dead) := by
  simp only [fz]; unfold XD; rfl
@[simp] theorem aob {α : Type} (i : Nat) (e : α) (r : List (Nat × α)) (n : Nat) : uQ ((i, e) :: r) n = if i = n then some e else uQ r n := by
  simp only [uQ, cond_eq_ite]
  by_cases h : i = n
  ·subst h; simp
  ·rw [if_neg (fun e => h (Nat.eq_of_beq_eq_true e)), if_neg h]
@[simp] theorem aoV (t : Nat) (z : D) : FT t z [.aB] m = some (.aS [z, .bool false], m) := by rfl
@[simp] theorem arp (t u : Nat) (z d : D) : FT t z [.iface u d] m = if u = t then some (.aS [d, .bool true], m) else some (.aS [z, .bool false], m) := by
  simp only [FT, cond_eq_ite]
  by_cases h : u = t
  ·subst h; simp
  ·rw [if_neg (fun e => h (Nat.eq_of_beq_eq_true e)), if_neg h]
@[simp] theorem aoW (tab : List (Nat × Bool)) : Iq tab [.aB] m = some (.aS [.aB, .bool false], m) := by rfl
@[simp] theorem arq (tab : List (Nat × Bool)) (u : Nat) (d : D) : Iq tab [.iface u d] m = bd (uQ tab u) fun b => bif b then some (.aS [.iface u d, .bool true], m) else some (.aS [.aB, .bool false], m) := by rfl
@[simp] theorem arh (tab : List (Nat × Nat)) (u : Nat) (d : D) (args : List D) : FQ O tab (.iface u d :: args) m = bd (uQ tab u) fun f => pI O f (d :: args) m := by rfl
@[simp] theorem ari (tab : List (Nat × Nat)) (u : Nat) (d : D) (args : List D) : Ik O tab (.iface u d :: args) m = bd (uQ tab u) fun f => ug O f (d :: args) m := by rfl
@[simp] theorem aqD (f : Nat) (cap args : List D) : DK O (.func f cap :: args) m = bd (kC (fz FZ) (args ++ cap) m) fun r => bd (O.call f r.1) fun d => some (d, r.2) := by rfl
@[simp] theorem apA : sS = 4294967296 := by rfl
@[simp] theorem aqy : maxStr = 1099511627776 := by rfl
def ZV {β : Type} (s : Option Slot) (f g : List D → Option β) : Option β := match s with
 | some (.fJ cs) => f cs
 | some (.live cs) => g cs
 | _ => none
@[congr] theorem aoA {β : Type} {s s' : Option Slot} {f g : List D → Option β} (h : s = s') : ZV s f g = ZV s' f g := by rw [h]
@[simp] theorem arv {β : Type} (cs : List D) (f g : List D → Option β) : ZV (some (.fJ cs)) f g = f cs := by rfl
@[simp] theorem arw {β : Type} (cs : List D) (f g : List D → Option β) : ZV (some (.live cs)) f g = g cs := by rfl
@[simp] theorem ama (f : D → Mem → Option (D × Mem)) : kC f [] m = some ([], m) := by rfl
@[simp] theorem akk (f : D → Mem → Option (D × Mem)) (d : D) (ds : List D) : kC f (d :: ds) m = bd (f d m) fun r => bd (kC f ds r.2) fun rs => some (r.1 :: rs.1, rs.2) := by rfl
@[simp] theorem aq1 (n : Nat) (k : IntKind) (x : Int) : fz (n + 1) (.int k x) m = some (.int k x, m) := by rfl
@[simp] theorem aqg (n : Nat) (b : Bool) : fz (n + 1) (.bool b) m = some (.bool b, m) := by rfl
@[simp] theorem aq6 (n : Nat) (s : List UInt8) : fz (n + 1) (.str s) m = some (.str s, m) := by rfl
@[simp] theorem aqm (n : Nat) : fz (n + 1) .aK m = some (.aK, m) := by rfl
@[simp] theorem aqn (n : Nat) : fz (n + 1) .bK m = some (.sl 0 [], m) := by rfl
@[simp] theorem aqk (n : Nat) : fz (n + 1) .aB m = some (.aB, m) := by rfl
@[simp] theorem aqj (n : Nat) (ks : List Int) : fz (n + 1) (.n_ ks) m = some (.n_ ks, m) := by rfl
@[simp] theorem aq4 (n b o : Nat) : fz (n + 1) (.raw b o) m = some (.raw b o, m) := by rfl
@[simp] theorem aql (n : Nat) : fz (n + 1) .uI m = some (.uI, m) := by rfl
@[simp] theorem aq5 (n : Nat) (cs : List D) (o : Nat) : fz (n + 1) (.ref cs o) m = some (.ref cs o, m) := by rfl
@[simp] theorem arx (n len : Nat) (cs : List D) : fz (n + 1) (.sl len cs) m = some (.sl len cs, m) := by rfl
@[simp] theorem aq0 (n : Nat) (ds : List D) : fz (n + 1) (.agg ds) m = bd (kC (fz n) ds m) fun r => some (.agg r.1, r.2) := by rfl
@[simp] theorem aq7 (n : Nat) (ds : List D) : fz (n + 1) (.aS ds) m = bd (kC (fz n) ds m) fun r => some (.aS r.1, r.2) := by rfl
@[simp] theorem aqh (n f : Nat) (ds : List D) : fz (n + 1) (.func f ds) m = bd (kC (fz n) ds m) fun r => some (.func f r.1, r.2) := by rfl
@[simp] theorem apo (n t : Nat) (d : D) : fz (n + 1) (.iface t d) m = bd (fz n d m) fun r => some (.iface t r.1, r.2) := by rfl
@[simp] theorem aq2 (n b off : Nat) : fz (n + 1) (.loc b off) m = ZV (m[b]?) (fun cs => some (.ref cs off, m)) (fun cs => bd (kC (fz n) cs m) fun r => mP (r.2[b]?) fun _ => some (.ref r.1 off, r.2.set b (.fJ r.1))) := by
  simp only [fz, ZV, bd]; split <;> simp_all; congr 1
@[simp] theorem aq3 (n b off len esz : Nat) : fz (n + 1) (.aT b off len esz) m = ZV (m[b]?) (fun cs => bd (kQ cs off (len * esz)) fun ds => some (.sl len ds, m)) (fun cs => bd (kC (fz n) cs m) fun r => mP (r.2[b]?) fun _ => bd (kQ r.1 off (len * esz)) fun ds => some (.sl len ds, r.2.set b (.fJ r.1))) := by
  simp only [fz, ZV, bd]; split <;> simp_all; congr 1
@[simp] theorem FZ_ : FZ = 12 := by rfl
@[simp] theorem arL (r : D × Mem) : fin r = bd (fz FZ r.1 r.2) fun s => some s.1 := by rfl
@[simp] theorem ao7 (x : RV) : Option.bind x fin = bd x fin := by rfl
@[simp] theorem ap3 (b n : Nat) (k : IntKind) (x : Int) : D.clo b (n + 1) (.int k x) = true := by rfl
@[simp] theorem apa (b n : Nat) (x : Bool) : D.clo b (n + 1) (.bool x) = true := by rfl
@[simp] theorem ap9 (b n : Nat) (x : List UInt8) : D.clo b (n + 1) (.str x) = true := by rfl
@[simp] theorem apg (b n : Nat) : D.clo b (n + 1) .aK = true := by rfl
@[simp] theorem aph (b n : Nat) : D.clo b (n + 1) .bK = true := by rfl
@[simp] theorem ape (b n : Nat) : D.clo b (n + 1) .aB = true := by rfl
@[simp] theorem apc (b n i : Nat) : D.clo b (n + 1) (.lmap i) = decide (i < b) := by rfl
@[simp] theorem apd (b n : Nat) (ks : List Int) : D.clo b (n + 1) (.n_ ks) = true := by rfl
@[simp] theorem ap7 (b n i o : Nat) : D.clo b (n + 1) (.raw i o) = true := by rfl
@[simp] theorem apf (b n : Nat) : D.clo b (n + 1) .uI = true := by rfl
@[simp] theorem ap8 (b n o : Nat) (cs : List D) : D.clo b (n + 1) (.ref cs o) = true := by rfl
@[simp] theorem aqY (b n l : Nat) (cs : List D) : D.clo b (n + 1) (.sl l cs) = true := by rfl
@[simp] theorem ap4 (b n i o : Nat) : D.clo b (n + 1) (.loc i o) = decide (i < b) := by rfl
@[simp] theorem ap5 (b n i o l e : Nat) : D.clo b (n + 1) (.aT i o l e) = decide (i < b) := by rfl
@[simp] theorem ap2 (b n : Nat) (ds : List D) : D.clo b (n + 1) (.agg ds) = ds.all (D.clo b n) := by rfl
@[simp] theorem ap_ (b n : Nat) (ds : List D) : D.clo b (n + 1) (.aS ds) = ds.all (D.clo b n) := by rfl
@[simp] theorem apb (b n f : Nat) (ds : List D) : D.clo b (n + 1) (.func f ds) = ds.all (D.clo b n) := by rfl
@[simp] theorem aor (b n t : Nat) (d : D) : D.clo b (n + 1) (.iface t d) = D.clo b n d := by rfl
def E8 (base : Nat) (s : Slot) : Bool := match s with
 | .live cs => cs.all (D.clo base FZ)
 | _ => true
@[simp] theorem ao0 (base : Nat) (cs : List D) : E8 base (.live cs) = cs.all (D.clo base FZ) := by rfl
@[simp] theorem aoZ (base : Nat) (cs : List D) : E8 base (.fJ cs) = true := by rfl
@[simp] theorem aqR (base : Nat) (ks : List Int) : E8 base (.mp ks) = true := by rfl
@[simp] theorem aoX (base : Nat) : E8 base .dead = true := by rfl
@[simp] theorem aoY (base : Nat) : E8 base .free = true := by rfl
@[simp] theorem gc_ (base : Nat) (vals : List D) : gc base vals m = bif decide (base ≤ m.length) && (m.take base).all (E8 base) then dS base m vals [] (m.take base) else none := by
  unfold gc; congr 3
variable {base : Nat} {got : List Nat} {acc : Mem} {ds : List D}
@[simp] theorem aqs : dS base m [] got acc = some ([], acc) := by rfl
@[simp] theorem aqp (k : IntKind) (x : Int) : dS base m (.int k x :: ds) got acc = bd (dS base m ds got acc) fun r => some (.int k x :: r.1, r.2) := by rfl
@[simp] theorem apq (x : Bool) : dS base m (.bool x :: ds) got acc = bd (dS base m ds got acc) fun r => some (.bool x :: r.1, r.2) := by rfl
@[simp] theorem aqv (x : List UInt8) : dS base m (.str x :: ds) got acc = bd (dS base m ds got acc) fun r => some (.str x :: r.1, r.2) := by rfl
@[simp] theorem apv : dS base m (.aK :: ds) got acc = bd (dS base m ds got acc) fun r => some (.aK :: r.1, r.2) := by rfl
@[simp] theorem apw : dS base m (.bK :: ds) got acc = bd (dS base m ds got acc) fun r => some (.bK :: r.1, r.2) := by rfl
@[simp] theorem apt : dS base m (.aB :: ds) got acc = bd (dS base m ds got acc) fun r => some (.aB :: r.1, r.2) := by rfl
@[simp] theorem aps (ks : List Int) : dS base m (.n_ ks :: ds) got acc = bd (dS base m ds got acc) fun r => some (.n_ ks :: r.1, r.2) := by rfl
@[simp] theorem aqt (b o : Nat) : dS base m (.raw b o :: ds) got acc = bd (dS base m ds got acc) fun r => some (.raw b o :: r.1, r.2) := by rfl
@[simp] theorem apu : dS base m (.uI :: ds) got acc = bd (dS base m ds got acc) fun r => some (.uI :: r.1, r.2) := by rfl
@[simp] theorem aoC : dS base m (.undef :: ds) got acc = bd (dS base m ds got acc) fun r => some (.undef :: r.1, r.2) := by rfl
@[simp] theorem aqu (cs : List D) (o : Nat) : dS base m (.ref cs o :: ds) got acc = bd (dS base m ds got acc) fun r => some (.ref cs o :: r.1, r.2) := by rfl
@[simp] theorem aq8 (l : Nat) (cs : List D) : dS base m (.sl l cs :: ds) got acc = bd (dS base m ds got acc) fun r => some (.sl l cs :: r.1, r.2) := by rfl
@[simp] theorem aqo (cs : List D) : dS base m (.agg cs :: ds) got acc = bif D.clo base FZ (.agg cs) then bd (dS base m ds got acc) fun r => some (.agg cs :: r.1, r.2) else none := by rfl
@[simp] theorem aqw (cs : List D) : dS base m (.aS cs :: ds) got acc = bif D.clo base FZ (.aS cs) then bd (dS base m ds got acc) fun r => some (.aS cs :: r.1, r.2) else none := by rfl
@[simp] theorem apr (f : Nat) (cs : List D) : dS base m (.func f cs :: ds) got acc = bif D.clo base FZ (.func f cs) then bd (dS base m ds got acc) fun r => some (.func f cs :: r.1, r.2) else none := by rfl
def gmv (base : Nat) (m : Mem) (t : Nat) (d' : D) (ds : List D) (got : List Nat) (acc : Mem) : Option (List D × Mem) := match d' with
 | .loc b off => bif got.contains b then none else mP (m[b]?) fun cs => bif cs.all (D.clo base FZ) then bd (dS base m ds (b :: got) (acc ++ [.live cs])) fun r => some (.iface t (.loc acc.length off) :: r.1, r.2) else none
 | _ => none
@[simp] theorem aqx (t b off : Nat) : gmv base m t (.loc b off) ds got acc = bif got.contains b then none else mP (m[b]?) fun cs => bif cs.all (D.clo base FZ) then bd (dS base m ds (b :: got) (acc ++ [.live cs])) fun r => some (.iface t (.loc acc.length off) :: r.1, r.2) else none := by rfl
@[simp] theorem aoB (t : Nat) (d : D) : dS base m (.iface t d :: ds) got acc = bif D.clo base FZ (.iface t d) then bd (dS base m ds got acc) fun r => some (.iface t d :: r.1, r.2) else gmv base m t d ds got acc := by
  cases d <;> first | rfl | (rw [dS]; rfl)
@[simp] theorem aqr (b off : Nat) : dS base m (.loc b off :: ds) got acc = if b < base then bd (dS base m ds got acc) fun r => some (.loc b off :: r.1, r.2)
      else bif got.contains b then none else mP (m[b]?) fun cs => bif cs.all (D.clo base FZ) then bd (dS base m ds (b :: got) (acc ++ [.live cs])) fun r => some (.loc acc.length off :: r.1, r.2) else none := by
  rw [dS]; rfl
@[simp] theorem amb (b off len esz : Nat) : dS base m (.aT b off len esz :: ds) got acc = if b < base then bd (dS base m ds got acc) fun r => some (.aT b off len esz :: r.1, r.2)
      else bif got.contains b then none else mP (m[b]?) fun cs => bif cs.all (D.clo base FZ) then bd (dS base m ds (b :: got) (acc ++ [.live cs])) fun r => some (.aT acc.length off len esz :: r.1, r.2) else none := by
  rw [dS]; rfl
@[simp] theorem apR (d : D) : D9 ([d], m) = (d, m) := by rfl
@[simp] theorem apQ : D9 ([], m) = (.aS [], m) := by rfl
@[simp] theorem apS (d d' : D) (ds : List D) : D9 (d :: d' :: ds, m) = (.aS (d :: d' :: ds), m) := by rfl
@[simp] theorem apU (e : Env) : IU e m [] = some [] := by rfl
@[simp] theorem ao1 (e : Env) (r : ER) (rs : List ER) : IU e m (r :: rs) = bd (r.get e m) fun d => bd (IU e m rs) fun ds => some (d :: ds) := by rfl
@[simp] theorem aqT (e : Env) (t : Nat) : (ER.tmp t).get e m = look e t := by rfl
@[simp] theorem apT (e : Env) (t n : Nat) (agg : Bool) : (ER.cell t agg n).get e m = bd (look e t) fun a => bd (NV m a) fun r => bif agg then bd (kQ r.1 r.2 n) fun ds => some (.agg ds) else r.1[r.2]? := by rfl
theorem beq_lit (n m : Nat) : Nat.beq n m = decide (n = m) := by
 cases h : Nat.beq n m with
 | true => simp [Nat.eq_of_beq_eq_true h]
 | false => exact (decide_eq_false fun e => by rw [e, Nat.beq_refl] at h; cases h).symm
@[simp] theorem aoH (e : Env) (t x : Nat) (d : D) : look ((t, d) :: e) x = if t = x then some d else look e x := by
  simp only [look, beq_lit]; by_cases h : t = x <;> simp [h]
@[simp] theorem an2 (i j : Nat) : Jk i (.exit j) = if j = i then .normal else .exit j := by
  simp only [Jk, beq_lit]; by_cases h : j = i <;> simp [h]
theorem qc (n : Nat) (d : D) : zeros n [d] = List.replicate n d := by
 unfold zeros
 apply List.ext_getElem <;> simp
 intro i h; simp [Nat.mod_one]
theorem wrap64 (x : Int) (h : -9223372036854775808 ≤ x ∧ x ≤ 9223372036854775807) : IntKind.i64.wrap x = x := by
 simp [IntKind.wrap, IntKind.signed, IntKind.bits, IntKind.min, IntKind.max] <;> omega
end
end Go.Ev
