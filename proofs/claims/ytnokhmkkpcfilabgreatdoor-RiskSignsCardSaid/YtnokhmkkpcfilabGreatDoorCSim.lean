/- A part of the proof of priceFalls_card, riskSigns_card, yieldBack_card, yieldEdge_card, yieldFalls_card. -/
import Derived.Test.YtnokhmkkpcfilabGreatDoorCFlat
set_option linter.unusedVariables false
set_option linter.unusedSimpArgs false
namespace Go.Ev
attribute [simp] List.getElem?_cons_zero List.getElem?_cons_succ
def gX {β : Type} (s : Option Slot) (f : List D → Option β) : Option β := match s with
 | some (.live cs) => f cs
 | _ => none
def anyM {β : Type} (s : Option Slot) (f : List D → Option β) : Option β := match s with
 | some (.live cs) => f cs
 | some (.iZ cs) => f cs
 | _ => none
def Y5 {β : Type} (s : Option Slot) (x : Option β) : Option β := match s with
 | some .free => x
 | _ => none
@[congr] theorem ate {β : Type} {s s' : Option Slot} {f : List D → Option β} (h : s = s') : gX s f = gX s' f := by rw [h]
@[congr] theorem anyM_congr {β : Type} {s s' : Option Slot} {f : List D → Option β} (h : s = s') : anyM s f = anyM s' f := by rw [h]
@[congr] theorem atd {β : Type} {s s' : Option Slot} {x : Option β} (h : s = s') : Y5 s x = Y5 s' x := by rw [h]
@[simp] theorem awG {β : Type} (cs : List D) (f : List D → Option β) : gX (some (.live cs)) f = f cs := by rfl
@[simp] theorem aws {β : Type} (cs : List D) (f : List D → Option β) : anyM (some (.live cs)) f = f cs := by rfl
@[simp] theorem awr {β : Type} (cs : List D) (f : List D → Option β) : anyM (some (.iZ cs)) f = f cs := by rfl
@[simp] theorem awu {β : Type} (x : Option β) : Y5 (some .free) x = x := by rfl
section
variable {m : Mem} {O : aA}
@[simp] theorem aw9 (d : D) : Yz [d] m = some (d, m) := by rfl
@[simp] theorem awk (x y : D) : OH [.bool true, x, y] m = some (x, m) := by rfl
@[simp] theorem awj (x y : D) : OH [.bool false, x, y] m = some (y, m) := by rfl
@[simp] theorem aw2 (base j : Nat) (d : D) : Yt base j [d] m = bd (fF d) fun cs => zZ base j cs (.loc (base + j) 0) m := by rfl
@[simp] theorem av4 (base j : Nat) (z : List D) : MW base j z [] m = zZ base j z (.loc (base + j) 0) m := by rfl
@[simp] theorem aw0 (base j : Nat) (cs : List D) (d : D) : zZ base j cs d m = Y5 (m[base + j]?) (some (d, m.set (base + j) (.live cs))) := by
  unfold zZ Y5; split <;> simp_all
@[simp] theorem alT (b off : Nat) : AO [.loc b off] m = bd (UE m (.loc b off)) fun r => bd (r.1[r.2]?) fun d => some (d, m) := by rfl
@[simp] theorem atJ (cs : List D) (off : Nat) : AO [.ref cs off] m = bd (cs[off]?) fun d => some (d, m) := by rfl
@[simp] theorem awf (cs : List D) (off : Nat) : MZ [.ref cs off] m = bd (cs[off]?) fun d => some (d, m) := by rfl
@[simp] theorem atK (n b off : Nat) : JQ n [.loc b off] m = bd (UE m (.loc b off)) fun r => bd (nT r.1 r.2 n) fun ds => some (.agg ds, m) := by rfl
@[simp] theorem atL (n off : Nat) (cs : List D) : JQ n [.ref cs off] m = bd (nT cs off n) fun ds => some (.agg ds, m) := by rfl
@[simp] theorem aqx (b off : Nat) : UE m (.loc b off) = anyM (m[b]?) fun cs => some (cs, off) := by
  rfl
@[simp] theorem arv (n b off : Nat) (d : D) : Dk n [.loc b off, d] m = bd (fF d) fun cs => gX (m[b]?) fun cells => if cs.length = n ∧ off + n ≤ cells.length then some (.aZ [], m.set b (.live (kZ cells off cs))) else none := by
  unfold Dk bd gX; rfl
@[simp] theorem au5 (cells : List D) (off : Nat) : kZ cells off [] = cells := by rfl
@[simp] theorem aui (cells : List D) (off : Nat) (d : D) (ds : List D) : kZ cells off (d :: ds) = kZ (cells.set off d) (off + 1) ds := by rfl
@[simp] theorem awW (cells : List D) (off n : Nat) : nT cells off n = if off + n ≤ cells.length then some ((cells.drop off).take n) else none := by rfl
@[simp] theorem av5 (z : List D) (ps : List (Nat × Nat)) (ds : List D) : MX z ps ds m = bd (pV z ps ds) fun cs => some (.agg cs, m) := by rfl
@[simp] theorem atW (cells : List D) : pV cells [] [] = some cells := by rfl
@[simp] theorem atu (cells : List D) (off n : Nat) (ps : List (Nat × Nat)) (d : D) (ds : List D) : pV cells ((off, n) :: ps) (d :: ds) = bd (fF d) fun cs => if cs.length = n ∧ off + n ≤ cells.length then pV (kZ cells off cs) ps ds else none := by rfl
@[simp] theorem aw3 (len : Nat) (z : List D) (ps : List (Nat × Nat)) (ds : List D) : Yu len z ps ds m = bif ds.all (D.clo 0 FZ) then bd (pV (zeros len z) ps ds) fun cs => some (.sl len cs, m) else none := by rfl
@[simp] theorem awJ (base j esz len : Nat) (z : List D) (ps : List (Nat × Nat)) (ds : List D) : Td base j esz len z ps ds m = bd (pV (zeros len z) ps ds) fun cs => zZ base j cs (.bg (base + j) 0 len esz) m := by rfl
@[simp] theorem atM (b off : Nat) : JU [.loc b off] m = some (.loc b off, m) := by rfl
@[simp] theorem atN (cs : List D) (off : Nat) : JU [.ref cs off] m = some (.ref cs off, m) := by rfl
@[simp] theorem as3 (ds : List D) : fF (.agg ds) = some ds := by rfl
@[simp] theorem as4 (k : IntKind) (n : Int) : fF (.int k n) = some [.int k n] := by rfl
@[simp] theorem ar8 (b : Bool) : fF (.bool b) = some [.bool b] := by rfl
@[simp] theorem as9 (s : List UInt8) : fF (.str s) = some [.str s] := by rfl
@[simp] theorem as8 (cs : List D) (o : Nat) : fF (.ref cs o) = some [.ref cs o] := by rfl
@[simp] theorem atf (n : Nat) (cs : List D) : fF (.sl n cs) = some [.sl n cs] := by rfl
@[simp] theorem asb : fF .aK = some [.aK] := by rfl
@[simp] theorem asc : fF .dA = some [.dA] := by rfl
@[simp] theorem ar' : fF .aF = some [.aF] := by rfl
@[simp] theorem ar9 (b : Nat) : fF (.lmap b) = some [.lmap b] := by rfl
@[simp] theorem ar_ (ks : List Int) : fF (.qY ks) = some [.qY ks] := by rfl
@[simp] theorem as7 (b o : Nat) : fF (.raw b o) = some [.raw b o] := by rfl
@[simp] theorem asa : fF .yE = some [.yE] := by rfl
@[simp] theorem as5 (b o : Nat) : fF (.loc b o) = some [.loc b o] := by rfl
@[simp] theorem as6 (b o l e : Nat) : fF (.bg b o l e) = some [.bg b o l e] := by rfl
@[simp] theorem ar2 (t : Nat) (d : D) : fF (.iface t d) = some [.iface t d] := by rfl
theorem BJ (k : IntKind) : (k == k) = true := by cases k <;> rfl
@[simp] theorem axd (k : IntKind) (a b : Int) : fZ .add [.int k a, .int k b] m = some (.int k (k.wrap (a + b)), m) := by simp [fZ, BJ, aj]
@[simp] theorem ava (k : IntKind) (a b : Int) : fZ .sub [.int k a, .int k b] m = some (.int k (k.wrap (a - b)), m) := by simp [fZ, BJ, aj]
@[simp] theorem axk (k : IntKind) (a b : Int) : fZ .mul [.int k a, .int k b] m = some (.int k (k.wrap (a * b)), m) := by simp [fZ, BJ, aj]
@[simp] theorem asU (k : IntKind) (a b : Int) (h : b ≠ 0) : fZ .quo [.int k a, .int k b] m = some (.int k (k.wrap (a.tdiv b)), m) := by simp [fZ, BJ, aj, h]
@[simp] theorem au9 (k : IntKind) (a b : Int) (h : b ≠ 0) : fZ .rem [.int k a, .int k b] m = some (.int k (a.tmod b), m) := by simp [fZ, BJ, aj, h]
@[simp] theorem axe (k : IntKind) (a b : Int) : fZ .eql [.int k a, .int k b] m = some (.bool (decide (a = b)), m) := by
  simp only [fZ, BJ, aj, cond_true, Option.bind_some]; congr 3
@[simp] theorem au8 (k : IntKind) (a b : Int) : fZ .neq [.int k a, .int k b] m = some (.bool (!decide (a = b)), m) := by
  simp only [fZ, BJ, aj, cond_true, Option.bind_some]; congr 3
@[simp] theorem axi (k : IntKind) (a b : Int) : fZ .lss [.int k a, .int k b] m = some (.bool (decide (a < b)), m) := by simp [fZ, BJ, aj]
@[simp] theorem axh (k : IntKind) (a b : Int) : fZ .leq [.int k a, .int k b] m = some (.bool (decide (a ≤ b)), m) := by simp [fZ, BJ, aj]
@[simp] theorem axg (k : IntKind) (a b : Int) : fZ .gtr [.int k a, .int k b] m = some (.bool (decide (b < a)), m) := by simp [fZ, BJ, aj]
@[simp] theorem axf (k : IntKind) (a b : Int) : fZ .geq [.int k a, .int k b] m = some (.bool (decide (b ≤ a)), m) := by simp [fZ, BJ, aj]
theorem asT (k : IntKind) (a b : Int) : fZ .and [.int k a, .int k b] m = some (.int k (k.wrap (BitVec.ofInt k.bits a &&& BitVec.ofInt k.bits b).toNat), m) := by simp [fZ, BJ, aj]
theorem rOr (k : IntKind) (a b : Int) : fZ .or [.int k a, .int k b] m = some (.int k (k.wrap (BitVec.ofInt k.bits a ||| BitVec.ofInt k.bits b).toNat), m) := by simp [fZ, BJ, aj]
theorem au_ (k k' : IntKind) (a b : Int) (h : 0 ≤ b) : rJ true [.int k a, .int k' b] m = some (.int k (k.wrap (a * 2 ^ (min b.toNat k.bits))), m) := by simp [rJ, shI, Int.not_lt.2 h]
theorem asV (k k' : IntKind) (a b : Int) (h : 0 ≤ b) : rJ false [.int k a, .int k' b] m = some (.int k (a.fdiv (2 ^ (min b.toNat k.bits))), m) := by simp [rJ, shI, Int.not_lt.2 h]
@[simp] theorem auk (a b : List UInt8) : ET .add [.str a, .str b] m = if a.length + b.length ≤ maxStr then some (.str (a ++ b), m) else none := by
  simp only [ET, Ev.fB]; split <;> rfl
@[simp] theorem aul (a b : List UInt8) : ET .eql [.str a, .str b] m = some (.bool (decide (a = b)), m) := by
  simp only [ET, Ev.fB, Option.bind_some]; congr 3; rw [Bool.eq_iff_iff]; simp
@[simp] theorem aum (a b : List UInt8) : ET .neq [.str a, .str b] m = some (.bool (!decide (a = b)), m) := by
  simp only [ET, Ev.fB, Option.bind_some]; congr 3; rw [Bool.eq_iff_iff]; simp
@[simp] theorem aw5 (n a b : Bool) : Yw n [.bool a, .bool b] m = some (.bool ((a == b) != n), m) := by rfl
@[simp] theorem awd (n : Bool) : Ud n [.aK, .aK] m = some (.bool (true != n), m) := by rfl
@[simp] theorem awe (n : Bool) (cs : List D) (o : Nat) : Ud n [.ref cs o, .aK] m = some (.bool (false != n), m) := by rfl
@[simp] theorem awc (n : Bool) (b o : Nat) : Ud n [.loc b o, .aK] m = some (.bool (false != n), m) := by rfl
@[simp] theorem av' (n : Bool) : Uc n true [.aF, .aF] m = some (.bool (true != n), m) := by rfl
@[simp] theorem av9 (n c : Bool) (t : Nat) (d : D) : Uc n c [.iface t d, .aF] m = some (.bool (false != n), m) := by rfl
@[simp] theorem av_ (n c : Bool) (t : Nat) (d : D) : Uc n c [.aF, .iface t d] m = some (.bool (false != n), m) := by rfl
@[simp] theorem aw4 (n : Bool) (ks : List Nat) (xs ys : List D) : Yv n ks [.agg xs, .agg ys] m = bd (d_ ks xs ys) fun r => some (.bool (r != n), m) := by rfl
@[simp] theorem avF : d_ [] [] [] = some true := by rfl
@[simp] theorem avE (ks : List Nat) (xs ys : List D) (k : IntKind) (a b : Int) : d_ (1 :: ks) (.int k a :: xs) (.int k b :: ys) = bd (d_ ks xs ys) fun r => some (decide (a = b) && r) := by
  simp only [d_, BJ, cond_true, bd]; congr 1
@[simp] theorem auP (ks : List Nat) (xs ys : List D) (a b : Bool) : d_ (0 :: ks) (.bool a :: xs) (.bool b :: ys) = bd (d_ ks xs ys) fun r => some ((a == b) && r) := by rfl
@[simp] theorem avG (ks : List Nat) (xs ys : List D) (a b : List UInt8) : d_ (2 :: ks) (.str a :: xs) (.str b :: ys) = bd (d_ ks xs ys) fun r => some ((a == b) && r) := by rfl
@[simp] theorem aw_ (k : IntKind) (a : Int) : YA [.int k a] m = some (.int k (k.wrap (0 - a)), m) := by rfl
@[simp] theorem aw' (b : Bool) : YB [.bool b] m = some (.bool (!b), m) := by rfl
@[simp] theorem awK (k k' : IntKind) (n : Int) : Tf k [.int k' n] m = some (.int k (k.wrap n), m) := by rfl
@[simp] theorem awP (t : Nat) (d : D) : Tm t [d] m = some (.iface t d, m) := by rfl
@[simp] theorem aun (off b o : Nat) : OB off [.loc b o] m = some (.loc b (o + off), m) := by rfl
@[simp] theorem auo (off o : Nat) (cs : List D) : OB off [.ref cs o] m = some (.ref cs (o + off), m) := by rfl
@[simp] theorem apv (esz len : Nat) (cs : List D) (k : IntKind) (i : Int) (h : 0 ≤ i ∧ i < len) : Ho esz [.sl len cs, .int k i] m = some (.ref cs (i.toNat * esz), m) := by simp [Ho, h]
@[simp] theorem anI (esz b off len e : Nat) (k : IntKind) (i : Int) (h : 0 ≤ i ∧ i < len) : Ho esz [.bg b off len e, .int k i] m = some (.loc b (off + i.toNat * esz), m) := by simp [Ho, h]
@[simp] theorem atG (esz b off len : Nat) (k : IntKind) (i : Int) (h : 0 ≤ i ∧ i < len) : Dj esz len [.loc b off, .int k i] m = some (.loc b (off + i.toNat * esz), m) := by simp [Dj, h]
@[simp] theorem atH (esz off len : Nat) (cs : List D) (k : IntKind) (i : Int) (h : 0 ≤ i ∧ i < len) : Dj esz len [.ref cs off, .int k i] m = some (.ref cs (off + i.toNat * esz), m) := by simp [Dj, h]
@[simp] theorem awL (s : List UInt8) (k : IntKind) (i : Int) (h : 0 ≤ i) : OC [.str s, .int k i] m = bd (s[i.toNat]?) fun b => some (.int .u8 b.toNat, m) := by simp [OC, h, bd]
@[simp] theorem aw7 (i : Nat) (ds : List D) : Yy i [.agg ds] m = bd (ds[i]?) fun d => some (d, m) := by rfl
@[simp] theorem aw6 (i : Nat) (ds : List D) : Yx i [.aZ ds] m = bd (ds[i]?) fun d => some (d, m) := by rfl
@[simp] theorem awO (s : List UInt8) : Ti [.str s] m = some (.int .i64 s.length, m) := by rfl
@[simp] theorem au7 (len : Nat) (cs : List D) : JO [.sl len cs] m = some (.int .i64 len, m) := by rfl
@[simp] theorem atI : JO [.dA] m = some (.int .i64 0, m) := by rfl
@[simp] theorem aup (b o len e : Nat) : JO [.bg b o len e] m = some (.int .i64 len, m) := by rfl
@[simp] theorem axj (k k' : IntKind) (a b : Int) : rMn [.int k a, .int k' b] m = some (.int k (min a b), m) := by
  simp only [rMn]; congr 3; omega
@[simp] theorem axl (k k' : IntKind) (a b : Int) : rMx [.int k a, .int k' b] m = some (.int k (max a b), m) := by
  simp only [rMx]; congr 3; omega
@[simp] theorem awQ (base j esz : Nat) (z : List D) (k k' : IntKind) (n : Int) (h : 0 ≤ n ∧ n ≤ 4294967296) : OE base j esz z [.int k n, .int k' n] m = zZ base j (zeros n.toNat z) (.bg (base + j) 0 n.toNat esz) m := by simp [OE, wZ, h]
@[simp] theorem axa (lo hi : Bool) (s : List UInt8) (xs : List D) : YC lo hi (.str s :: xs) m = bd (jX lo hi s.length xs) fun r => some (.str ((s.drop r.1).take (r.2 - r.1)), m) := by rfl
@[simp] theorem awl (esz len : Nat) (lo hi : Bool) (cs xs : List D) : Qq esz lo hi (.sl len cs :: xs) m = bd (jX lo hi len xs) fun r => bd (nT cs (r.1 * esz) ((r.2 - r.1) * esz)) fun cs' => some (.sl (r.2 - r.1) cs', m) := by rfl
@[simp] theorem auq (esz : Nat) (lo hi : Bool) (xs : List D) : Qq esz lo hi (.dA :: xs) m = bd (jX lo hi 0 xs) fun r => some (.dA, m) := by rfl
@[simp] theorem au' (esz b off len : Nat) (lo hi : Bool) (xs : List D) : Qq esz lo hi (.bg b off len esz :: xs) m = bd (jX lo hi len xs) fun r => some (.bg b (off + r.1 * esz) (r.2 - r.1) esz, m) := by simp [Qq, bd]
@[simp] theorem avq (len : Nat) : jX false false len [] = some (0, len) := by rfl
@[simp] theorem avs (len : Nat) (k : IntKind) (x : Int) (h : 0 ≤ x ∧ x ≤ len) : jX true false len [.int k x] = some (x.toNat, len) := by simp [jX, bnd, h]
@[simp] theorem avr (len : Nat) (k : IntKind) (y : Int) (h : 0 ≤ y ∧ y ≤ len) : jX false true len [.int k y] = some (0, y.toNat) := by simp [jX, bnd, h]
@[simp] theorem avt (len : Nat) (k k' : IntKind) (x y : Int) (h : 0 ≤ x ∧ x ≤ y ∧ y ≤ len) : jX true true len [.int k x, .int k' y] = some (x.toNat, y.toNat) := by
  have h1 : x ≤ (y.toNat : Int) := by omega
  have h2 : 0 ≤ y := by omega
  simp only [jX, bnd, Option.bind_some]
  rw [if_pos ⟨h2, h.2.2⟩]
  simp only [Option.bind_some]
  rw [if_pos ⟨h.1, h1⟩]
  rfl
@[simp] theorem avd (e : Nat) : slc m e .dA = some ([], 0, 0) := by rfl
@[simp] theorem awV (e len : Nat) (cs : List D) : slc m e (.sl len cs) = some (cs, 0, len) := by rfl
@[simp] theorem awn (b off len e : Nat) : slc m e (.bg b off len e) = anyM (m[b]?) fun cs => some (cs, off, len) := by
  simp only [slc, Nat.beq_refl, cond_true]; unfold anyM; split <;> simp_all
@[simp] theorem aw1 (x : D) : aa0 [x] m = bd (slc m 1 x) fun r => bd (nT r.1 r.2.1 r.2.2) fun cs => bd (bytesOf cs) fun bs => some (.str bs, m) := by rfl
@[simp] theorem auj (base j esz : Nat) (x : D) : V_ base j esz [.dA, x] m = bd (slc m esz x) fun rx => bd (nT rx.1 rx.2.1 (rx.2.2 * esz)) fun news => if rx.2.2 = 0 then some (.dA, m) else if rx.2.2 ≤ wZ then zZ base j news (.bg (base + j) 0 rx.2.2 esz) m else none := by rfl
@[simp] theorem au6 (base j esz b off len : Nat) (x : D) : V_ base j esz [.bg b off len esz, x] m = bd (slc m esz x) fun rx => bd (nT rx.1 rx.2.1 (rx.2.2 * esz)) fun news => gX (m[b]?) fun cells => bd (nT cells off (len * esz)) fun olds =>
        if len + rx.2.2 ≤ wZ then zZ base j (olds ++ news) (.bg (base + j) 0 (len + rx.2.2) esz) (m.set b .dead) else none := by
  simp only [V_, Nat.beq_refl, cond_true, bd]; rfl
@[simp] theorem av6 (f : Nat) (args : List D) : sN O f args m = bif args.all (D.clo 0 FZ) then bd (O.call f args) fun d => some (d, m) else none := by rfl
@[simp] theorem av7 (f : Nat) (args : List D) : xU O f args m = bd (jV (fz FZ) args m) fun r => bd (O.call f r.1) fun d => some (d, r.2) := by rfl
def mpM {β : Type} (s : Option Slot) (f : List Int → Option β) : Option β := match s with
 | some (.mp ks) => f ks
 | _ => none
@[congr] theorem aug {β : Type} {s s' : Option Slot} {f : List Int → Option β} (h : s = s') : mpM s f = mpM s' f := by rw [h]
@[simp] theorem axc {β : Type} (ks : List Int) (f : List Int → Option β) : mpM (some (.mp ks)) f = f ks := by rfl
@[simp] theorem aw8 (base j : Nat) : Wh base j [] m = Y5 (m[base + j]?) (some (.lmap (base + j), m.set (base + j) (.mp []))) := by
  rfl
@[simp] theorem awR (b : Nat) (k : Int) : OG [.lmap b, .int .i64 k, .bool true] m = mpM (m[b]?) fun ks => some (.aZ [], m.set b (.mp (X_ ks k))) := by
  unfold OG mpM; rfl
@[simp] theorem awh (b : Nat) (k : Int) : JR [.lmap b, .int .i64 k] m = mpM (m[b]?) fun ks => some (.bool (ks.contains k), m) := by
  unfold JR mpM; rfl
@[simp] theorem awg (ks : List Int) (k : Int) : JR [.qY ks, .int .i64 k] m = some (.bool (ks.contains k), m) := by rfl
@[simp] theorem awi (k : Int) : JR [.yE, .int .i64 k] m = some (.bool false, m) := by rfl
@[simp] theorem avN (n b : Nat) : fz (n + 1) (.lmap b) m = mpM (m[b]?) fun ks => some (.qY ks, m.set b .dead) := by
  simp only [fz]; unfold mpM; rfl
@[simp] theorem atB {α : Type} (i : Nat) (e : α) (r : List (Nat × α)) (n : Nat) : yP ((i, e) :: r) n = if i = n then some e else yP r n := by
  simp only [yP, cond_eq_ite]
  by_cases h : i = n
  ·subst h; simp
  ·rw [if_neg (fun e => h (Nat.eq_of_beq_eq_true e)), if_neg h]
@[simp] theorem aur (t : Nat) (z : D) : MC t z [.aF] m = some (.aZ [z, .bool false], m) := by rfl
@[simp] theorem awT (t u : Nat) (z d : D) : MC t z [.iface u d] m = if u = t then some (.aZ [d, .bool true], m) else some (.aZ [z, .bool false], m) := by
  simp only [MC, cond_eq_ite]
  by_cases h : u = t
  ·subst h; simp
  ·rw [if_neg (fun e => h (Nat.eq_of_beq_eq_true e)), if_neg h]
@[simp] theorem aus (tab : List (Nat × Bool)) : OI tab [.aF] m = some (.aZ [.aF, .bool false], m) := by rfl
@[simp] theorem awU (tab : List (Nat × Bool)) (u : Nat) (d : D) : OI tab [.iface u d] m = bd (yP tab u) fun b => bif b then some (.aZ [.iface u d, .bool true], m) else some (.aZ [.aF, .bool false], m) := by rfl
@[simp] theorem awM (tab : List (Nat × Nat)) (u : Nat) (d : D) (args : List D) : MB O tab (.iface u d :: args) m = bd (yP tab u) fun f => sN O f (d :: args) m := by rfl
@[simp] theorem awN (tab : List (Nat × Nat)) (u : Nat) (d : D) (args : List D) : OD O tab (.iface u d :: args) m = bd (yP tab u) fun f => xU O f (d :: args) m := by rfl
@[simp] theorem av8 (f : Nat) (cap args : List D) : JM O (.func f cap :: args) m = bd (jV (fz FZ) (args ++ cap) m) fun r => bd (O.call f r.1) fun d => some (d, r.2) := by rfl
@[simp] theorem au4 : wZ = 4294967296 := by rfl
@[simp] theorem av3 : maxStr = 1099511627776 := by rfl
def fzM {β : Type} (s : Option Slot) (f g : List D → Option β) : Option β := match s with
 | some (.iZ cs) => f cs
 | some (.live cs) => g cs
 | _ => none
@[congr] theorem at7 {β : Type} {s s' : Option Slot} {f g : List D → Option β} (h : s = s') : fzM s f g = fzM s' f g := by rw [h]
@[simp] theorem awX {β : Type} (cs : List D) (f g : List D → Option β) : fzM (some (.iZ cs)) f g = f cs := by rfl
@[simp] theorem awY {β : Type} (cs : List D) (f g : List D → Option β) : fzM (some (.live cs)) f g = g cs := by rfl
@[simp] theorem arb (f : D → Mem → Option (D × Mem)) : jV f [] m = some ([], m) := by rfl
@[simp] theorem ao8 (f : D → Mem → Option (D × Mem)) (d : D) (ds : List D) : jV f (d :: ds) m = bd (f d m) fun r => bd (jV f ds r.2) fun rs => some (r.1 :: rs.1, rs.2) := by rfl
@[simp] theorem aww (n : Nat) (k : IntKind) (x : Int) : fz (n + 1) (.int k x) m = some (.int k x, m) := by rfl
@[simp] theorem avL (n : Nat) (b : Bool) : fz (n + 1) (.bool b) m = some (.bool b, m) := by rfl
@[simp] theorem awD (n : Nat) (s : List UInt8) : fz (n + 1) (.str s) m = some (.str s, m) := by rfl
@[simp] theorem avR (n : Nat) : fz (n + 1) .aK m = some (.aK, m) := by rfl
@[simp] theorem avS (n : Nat) : fz (n + 1) .dA m = some (.sl 0 [], m) := by rfl
@[simp] theorem avP (n : Nat) : fz (n + 1) .aF m = some (.aF, m) := by rfl
@[simp] theorem avO (n : Nat) (ks : List Int) : fz (n + 1) (.qY ks) m = some (.qY ks, m) := by rfl
@[simp] theorem awz (n b o : Nat) : fz (n + 1) (.raw b o) m = some (.raw b o, m) := by rfl
@[simp] theorem avQ (n : Nat) : fz (n + 1) .yE m = some (.yE, m) := by rfl
@[simp] theorem awC (n : Nat) (cs : List D) (o : Nat) : fz (n + 1) (.ref cs o) m = some (.ref cs o, m) := by rfl
@[simp] theorem awZ (n len : Nat) (cs : List D) : fz (n + 1) (.sl len cs) m = some (.sl len cs, m) := by rfl
@[simp] theorem awv (n : Nat) (ds : List D) : fz (n + 1) (.agg ds) m = bd (jV (fz n) ds m) fun r => some (.agg r.1, r.2) := by rfl
@[simp] theorem awE (n : Nat) (ds : List D) : fz (n + 1) (.aZ ds) m = bd (jV (fz n) ds m) fun r => some (.aZ r.1, r.2) := by rfl
@[simp] theorem avM (n f : Nat) (ds : List D) : fz (n + 1) (.func f ds) m = bd (jV (fz n) ds m) fun r => some (.func f r.1, r.2) := by rfl
@[simp] theorem auT (n t : Nat) (d : D) : fz (n + 1) (.iface t d) m = bd (fz n d m) fun r => some (.iface t r.1, r.2) := by rfl
@[simp] theorem awx (n b off : Nat) : fz (n + 1) (.loc b off) m = fzM (m[b]?) (fun cs => some (.ref cs off, m)) (fun cs => bd (jV (fz n) cs m) fun r => gX (r.2[b]?) fun _ => some (.ref r.1 off, r.2.set b (.iZ r.1))) := by
  simp only [fz, fzM, bd]; split <;> simp_all; congr 1
@[simp] theorem awy (n b off len esz : Nat) : fz (n + 1) (.bg b off len esz) m = fzM (m[b]?) (fun cs => bd (nT cs off (len * esz)) fun ds => some (.sl len ds, m)) (fun cs => bd (jV (fz n) cs m) fun r => gX (r.2[b]?) fun _ => bd (nT r.1 off (len * esz)) fun ds => some (.sl len ds, r.2.set b (.iZ r.1))) := by
  simp only [fz, fzM, bd]; split <;> simp_all; congr 1
@[simp] theorem FZ_ : FZ = 12 := by rfl
@[simp] theorem axb (r : D × Mem) : fin r = bd (fz FZ r.1 r.2) fun s => some s.1 := by rfl
@[simp] theorem auE (x : RV) : Option.bind x fin = bd x fin := by rfl
@[simp] theorem avv (b n : Nat) (k : IntKind) (x : Int) : D.clo b (n + 1) (.int k x) = true := by rfl
@[simp] theorem auG (b n : Nat) (x : Bool) : D.clo b (n + 1) (.bool x) = true := by rfl
@[simp] theorem avC (b n : Nat) (x : List UInt8) : D.clo b (n + 1) (.str x) = true := by rfl
@[simp] theorem auM (b n : Nat) : D.clo b (n + 1) .aK = true := by rfl
@[simp] theorem auN (b n : Nat) : D.clo b (n + 1) .dA = true := by rfl
@[simp] theorem auK (b n : Nat) : D.clo b (n + 1) .aF = true := by rfl
@[simp] theorem auI (b n i : Nat) : D.clo b (n + 1) (.lmap i) = decide (i < b) := by rfl
@[simp] theorem auJ (b n : Nat) (ks : List Int) : D.clo b (n + 1) (.qY ks) = true := by rfl
@[simp] theorem avz (b n i o : Nat) : D.clo b (n + 1) (.raw i o) = true := by rfl
@[simp] theorem auL (b n : Nat) : D.clo b (n + 1) .yE = true := by rfl
@[simp] theorem avA (b n o : Nat) (cs : List D) : D.clo b (n + 1) (.ref cs o) = true := by rfl
@[simp] theorem awt (b n l : Nat) (cs : List D) : D.clo b (n + 1) (.sl l cs) = true := by rfl
@[simp] theorem avw (b n i o : Nat) : D.clo b (n + 1) (.loc i o) = decide (i < b) := by rfl
@[simp] theorem avx (b n i o l e : Nat) : D.clo b (n + 1) (.bg i o l e) = decide (i < b) := by rfl
@[simp] theorem avu (b n : Nat) (ds : List D) : D.clo b (n + 1) (.agg ds) = ds.all (D.clo b n) := by rfl
@[simp] theorem avD (b n : Nat) (ds : List D) : D.clo b (n + 1) (.aZ ds) = ds.all (D.clo b n) := by rfl
@[simp] theorem auH (b n f : Nat) (ds : List D) : D.clo b (n + 1) (.func f ds) = ds.all (D.clo b n) := by rfl
@[simp] theorem atU (b n t : Nat) (d : D) : D.clo b (n + 1) (.iface t d) = D.clo b n d := by rfl
def Lh (base : Nat) (s : Slot) : Bool := match s with
 | .live cs => cs.all (D.clo base FZ)
 | _ => true
@[simp] theorem auw (base : Nat) (cs : List D) : Lh base (.live cs) = cs.all (D.clo base FZ) := by rfl
@[simp] theorem auv (base : Nat) (cs : List D) : Lh base (.iZ cs) = true := by rfl
@[simp] theorem awm (base : Nat) (ks : List Int) : Lh base (.mp ks) = true := by rfl
@[simp] theorem aut (base : Nat) : Lh base .dead = true := by rfl
@[simp] theorem auu (base : Nat) : Lh base .free = true := by rfl
@[simp] theorem gc_ (base : Nat) (vals : List D) : gc base vals m = bif decide (base ≤ m.length) && (m.take base).all (Lh base) then fM base m vals [] (m.take base) else none := by
  unfold gc; congr 3
variable {base : Nat} {got : List Nat} {acc : Mem} {ds : List D}
@[simp] theorem avW : fM base m [] got acc = some ([], acc) := by rfl
@[simp] theorem avU (k : IntKind) (x : Int) : fM base m (.int k x :: ds) got acc = bd (fM base m ds got acc) fun r => some (.int k x :: r.1, r.2) := by rfl
@[simp] theorem auU (x : Bool) : fM base m (.bool x :: ds) got acc = bd (fM base m ds got acc) fun r => some (.bool x :: r.1, r.2) := by rfl
@[simp] theorem avZ (x : List UInt8) : fM base m (.str x :: ds) got acc = bd (fM base m ds got acc) fun r => some (.str x :: r.1, r.2) := by rfl
@[simp] theorem auZ : fM base m (.aK :: ds) got acc = bd (fM base m ds got acc) fun r => some (.aK :: r.1, r.2) := by rfl
@[simp] theorem au0 : fM base m (.dA :: ds) got acc = bd (fM base m ds got acc) fun r => some (.dA :: r.1, r.2) := by rfl
@[simp] theorem auX : fM base m (.aF :: ds) got acc = bd (fM base m ds got acc) fun r => some (.aF :: r.1, r.2) := by rfl
@[simp] theorem auW (ks : List Int) : fM base m (.qY ks :: ds) got acc = bd (fM base m ds got acc) fun r => some (.qY ks :: r.1, r.2) := by rfl
@[simp] theorem avX (b o : Nat) : fM base m (.raw b o :: ds) got acc = bd (fM base m ds got acc) fun r => some (.raw b o :: r.1, r.2) := by rfl
@[simp] theorem auY : fM base m (.yE :: ds) got acc = bd (fM base m ds got acc) fun r => some (.yE :: r.1, r.2) := by rfl
@[simp] theorem aub : fM base m (.undef :: ds) got acc = bd (fM base m ds got acc) fun r => some (.undef :: r.1, r.2) := by rfl
@[simp] theorem avY (cs : List D) (o : Nat) : fM base m (.ref cs o :: ds) got acc = bd (fM base m ds got acc) fun r => some (.ref cs o :: r.1, r.2) := by rfl
@[simp] theorem awF (l : Nat) (cs : List D) : fM base m (.sl l cs :: ds) got acc = bd (fM base m ds got acc) fun r => some (.sl l cs :: r.1, r.2) := by rfl
@[simp] theorem avT (cs : List D) : fM base m (.agg cs :: ds) got acc = bif D.clo base FZ (.agg cs) then bd (fM base m ds got acc) fun r => some (.agg cs :: r.1, r.2) else none := by rfl
@[simp] theorem av1 (cs : List D) : fM base m (.aZ cs :: ds) got acc = bif D.clo base FZ (.aZ cs) then bd (fM base m ds got acc) fun r => some (.aZ cs :: r.1, r.2) else none := by rfl
@[simp] theorem auV (f : Nat) (cs : List D) : fM base m (.func f cs :: ds) got acc = bif D.clo base FZ (.func f cs) then bd (fM base m ds got acc) fun r => some (.func f cs :: r.1, r.2) else none := by rfl
def gmv (base : Nat) (m : Mem) (t : Nat) (d' : D) (ds : List D) (got : List Nat) (acc : Mem) : Option (List D × Mem) := match d' with
 | .loc b off => bif got.contains b then none else gX (m[b]?) fun cs => bif cs.all (D.clo base FZ) then bd (fM base m ds (b :: got) (acc ++ [.live cs])) fun r => some (.iface t (.loc acc.length off) :: r.1, r.2) else none
 | _ => none
@[simp] theorem av2 (t b off : Nat) : gmv base m t (.loc b off) ds got acc = bif got.contains b then none else gX (m[b]?) fun cs => bif cs.all (D.clo base FZ) then bd (fM base m ds (b :: got) (acc ++ [.live cs])) fun r => some (.iface t (.loc acc.length off) :: r.1, r.2) else none := by rfl
@[simp] theorem aua (t : Nat) (d : D) : fM base m (.iface t d :: ds) got acc = bif D.clo base FZ (.iface t d) then bd (fM base m ds got acc) fun r => some (.iface t d :: r.1, r.2) else gmv base m t d ds got acc := by
  cases d <;> first | rfl | (rw [fM]; rfl)
@[simp] theorem avV (b off : Nat) : fM base m (.loc b off :: ds) got acc = if b < base then bd (fM base m ds got acc) fun r => some (.loc b off :: r.1, r.2)
      else bif got.contains b then none else gX (m[b]?) fun cs => bif cs.all (D.clo base FZ) then bd (fM base m ds (b :: got) (acc ++ [.live cs])) fun r => some (.loc acc.length off :: r.1, r.2) else none := by
  rw [fM]; rfl
@[simp] theorem ard (b off len esz : Nat) : fM base m (.bg b off len esz :: ds) got acc = if b < base then bd (fM base m ds got acc) fun r => some (.bg b off len esz :: r.1, r.2)
      else bif got.contains b then none else gX (m[b]?) fun cs => bif cs.all (D.clo base FZ) then bd (fM base m ds (b :: got) (acc ++ [.live cs])) fun r => some (.bg acc.length off len esz :: r.1, r.2) else none := by
  rw [fM]; rfl
@[simp] theorem avj (d : D) : J9 ([d], m) = (d, m) := by rfl
@[simp] theorem avi : J9 ([], m) = (.aZ [], m) := by rfl
@[simp] theorem avk (d d' : D) (ds : List D) : J9 (d :: d' :: ds, m) = (.aZ (d :: d' :: ds), m) := by rfl
@[simp] theorem avm (e : Env) : BZ e m [] = some [] := by rfl
@[simp] theorem auy (e : Env) (r : ER) (rs : List ER) : BZ e m (r :: rs) = bd (r.get e m) fun d => bd (BZ e m rs) fun ds => some (d :: ds) := by rfl
@[simp] theorem awo (e : Env) (t : Nat) : (ER.tmp t).get e m = look e t := by rfl
@[simp] theorem avl (e : Env) (t n : Nat) (agg : Bool) : (ER.cell t agg n).get e m = bd (look e t) fun a => bd (UE m a) fun r => bif agg then bd (nT r.1 r.2 n) fun ds => some (.agg ds) else r.1[r.2]? := by rfl
theorem beq_lit (n m : Nat) : Nat.beq n m = decide (n = m) := by
 cases h : Nat.beq n m with
 | true => simp [Nat.eq_of_beq_eq_true h]
 | false => exact (decide_eq_false fun e => by rw [e, Nat.beq_refl] at h; cases h).symm
@[simp] theorem auf (e : Env) (t x : Nat) (d : D) : look ((t, d) :: e) x = if t = x then some d else look e x := by
  simp only [look, beq_lit]; by_cases h : t = x <;> simp [h]
@[simp] theorem ato (i j : Nat) : Kw i (.exit j) = if j = i then .normal else .exit j := by
  simp only [Kw, beq_lit]; by_cases h : j = i <;> simp [h]
theorem tJ (n : Nat) (d : D) : zeros n [d] = List.replicate n d := by
 unfold zeros
 apply List.ext_getElem <;> simp
 intro i h; simp [Nat.mod_one]
theorem wrap64 (x : Int) (h : -9223372036854775808 ≤ x ∧ x ≤ 9223372036854775807) : IntKind.i64.wrap x = x := by
 simp [IntKind.wrap, IntKind.signed, IntKind.bits, IntKind.min, IntKind.max] <;> omega
end
end Go.Ev
