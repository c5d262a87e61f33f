/- A part of the proof of priceWait_card. -/
import Derived.Test.YtlnjbdkgdocjeaaGreatDoorCFlat
set_option linter.unusedVariables false
set_option linter.unusedSimpArgs false
namespace Go.Ev
attribute [simp] List.getElem?_cons_zero List.getElem?_cons_succ
def kX {β:Type} (s:Option Slot) (f:List D→Option β):Option β:=match s with
 | some (.live cs)=>f cs
 | _=>none
def anyM {β:Type} (s:Option Slot) (f:List D→Option β):Option β:=match s with
 | some (.live cs)=>f cs
 | some (.fH cs)=>f cs
 | _=>none
def aah {β:Type} (s:Option Slot) (x:Option β):Option β:=match s with
 | some .free=>x
 | _=>none
@[congr] theorem avr {β:Type} {s s':Option Slot} {f:List D→Option β} (h:s=s'):kX s f=kX s' f:=by rw [h]
@[congr] theorem anyM_congr {β:Type} {s s':Option Slot} {f:List D→Option β} (h:s=s'):anyM s f=anyM s' f:=by rw [h]
@[congr] theorem avq {β:Type} {s s':Option Slot} {x:Option β} (h:s=s'):aah s x=aah s' x:=by rw [h]
@[simp] theorem ayM {β:Type} (cs:List D) (f:List D→Option β):kX (some (.live cs)) f=f cs:=by rfl
@[simp] theorem ayA {β:Type} (cs:List D) (f:List D→Option β):anyM (some (.live cs)) f=f cs:=by rfl
@[simp] theorem ayz {β:Type} (cs:List D) (f:List D→Option β):anyM (some (.fH cs)) f=f cs:=by rfl
@[simp] theorem ayC {β:Type} (x:Option β):aah (some .free) x=x:=by rfl
section
variable {m:Mem} {O:eP}
@[simp] theorem azg (d:D):Zz [d] m=some (d,m):=by rfl
@[simp] theorem ays (x y:D):Ol [.bool true,x,y] m=some (x,m):=by rfl
@[simp] theorem ayr (x y:D):Ol [.bool false,x,y] m=some (y,m):=by rfl
@[simp] theorem ay' (base j:Nat) (d:D):Zt base j [d] m=bd (dO d) fun cs=>t_ base j cs (.loc (base+j) 0) m:=by rfl
@[simp] theorem ayc (base j:Nat) (z:List D):Ew base j z [] m=t_ base j z (.loc (base+j) 0) m:=by rfl
@[simp] theorem ay9 (base j:Nat) (cs:List D) (d:D):t_ base j cs d m=aah (m[base+j]?) (some (d,m.set (base+j) (.live cs))):=by
  unfold t_ aah; split <;> simp_all
@[simp] theorem am1 (b off:Nat):zn [.loc b off] m=bd (U2 m (.loc b off)) fun r=>bd (r.1[r.2]?) fun d=>some (d,m):=by rfl
@[simp] theorem avW (cs:List D) (off:Nat):zn [.ref cs off] m=bd (cs[off]?) fun d=>some (d,m):=by rfl
@[simp] theorem ayn (cs:List D) (off:Nat):KZ [.ref cs off] m=bd (cs[off]?) fun d=>some (d,m):=by rfl
@[simp] theorem avX (n b off:Nat):H8 n [.loc b off] m=bd (U2 m (.loc b off)) fun r=>bd (kZ r.1 r.2 n) fun ds=>some (.agg ds,m):=by rfl
@[simp] theorem avY (n off:Nat) (cs:List D):H8 n [.ref cs off] m=bd (kZ cs off n) fun ds=>some (.agg ds,m):=by rfl
@[simp] theorem ar1 (b off:Nat):U2 m (.loc b off)=anyM (m[b]?) fun cs=>some (cs,off):=by
  rfl
@[simp] theorem atu (n b off:Nat) (d:D):BP n [.loc b off,d] m=bd (dO d) fun cs=>kX (m[b]?) fun cells=>if cs.length=n∧off+n≤cells.length then some (.aH [],m.set b (.live (bC cells off cs))) else none:=by
  unfold BP bd kX; rfl
@[simp] theorem axd (cells:List D) (off:Nat):bC cells off []=cells:=by rfl
@[simp] theorem awp (cells:List D) (off:Nat) (d:D) (ds:List D):bC cells off (d::ds)=bC (cells.set off d) (off+1) ds:=by rfl
@[simp] theorem ay3 (cells:List D) (off n:Nat):kZ cells off n=if off+n≤cells.length then some ((cells.drop off).take n) else none:=by rfl
@[simp] theorem ayd (z:List D) (ps:List (Nat×Nat)) (ds:List D):KY z ps ds m=bd (mP z ps ds) fun cs=>some (.agg cs,m):=by rfl
@[simp] theorem av8 (cells:List D):mP cells [] []=some cells:=by rfl
@[simp] theorem avG (cells:List D) (off n:Nat) (ps:List (Nat×Nat)) (d:D) (ds:List D):mP cells ((off,n)::ps) (d::ds)=bd (dO d) fun cs=>if cs.length=n∧off+n≤cells.length then mP (bC cells off cs) ps ds else none:=by rfl
@[simp] theorem aza (len:Nat) (z:List D) (ps:List (Nat×Nat)) (ds:List D):Zu len z ps ds m=bif ds.all (D.clo 0 FZ) then bd (mP (zeros len z) ps ds) fun cs=>some (.sl len cs,m) else none:=by rfl
@[simp] theorem ayQ (base j esz len:Nat) (z:List D) (ps:List (Nat×Nat)) (ds:List D):SS base j esz len z ps ds m=bd (mP (zeros len z) ps ds) fun cs=>t_ base j cs (.aG (base+j) 0 len esz) m:=by rfl
@[simp] theorem avZ (b off:Nat):H_ [.loc b off] m=some (.loc b off,m):=by rfl
@[simp] theorem av1 (cs:List D) (off:Nat):H_ [.ref cs off] m=some (.ref cs off,m):=by rfl
@[simp] theorem avf (ds:List D):dO (.agg ds)=some ds:=by rfl
@[simp] theorem avg (k:IntKind) (n:Int):dO (.int k n)=some [.int k n]:=by rfl
@[simp] theorem aud (b:Bool):dO (.bool b)=some [.bool b]:=by rfl
@[simp] theorem avl (s:List UInt8):dO (.str s)=some [.str s]:=by rfl
@[simp] theorem avk (cs:List D) (o:Nat):dO (.ref cs o)=some [.ref cs o]:=by rfl
@[simp] theorem avs (n:Nat) (cs:List D):dO (.sl n cs)=some [.sl n cs]:=by rfl
@[simp] theorem aui:dO .fZ=some [.fZ]:=by rfl
@[simp] theorem auj:dO .bJ=some [.bJ]:=by rfl
@[simp] theorem aug:dO .bH=some [.bH]:=by rfl
@[simp] theorem aue (b:Nat):dO (.lmap b)=some [.lmap b]:=by rfl
@[simp] theorem auf (ks:List Int):dO (.nZ ks)=some [.nZ ks]:=by rfl
@[simp] theorem avj (b o:Nat):dO (.raw b o)=some [.raw b o]:=by rfl
@[simp] theorem auh:dO .vO=some [.vO]:=by rfl
@[simp] theorem avh (b o:Nat):dO (.loc b o)=some [.loc b o]:=by rfl
@[simp] theorem avi (b o l e:Nat):dO (.aG b o l e)=some [.aG b o l e]:=by rfl
@[simp] theorem atZ (t:Nat) (d:D):dO (.iface t d)=some [.iface t d]:=by rfl
theorem Au (k:IntKind):(k==k)=true:=by cases k <;> rfl
@[simp] theorem azm (k:IntKind) (a b:Int):dV .add [.int k a,.int k b] m=some (.int k (k.wrap (a+b)),m):=by simp [dV,Au,pK]
@[simp] theorem axk (k:IntKind) (a b:Int):dV .sub [.int k a,.int k b] m=some (.int k (k.wrap (a-b)),m):=by simp [dV,Au,pK]
@[simp] theorem azt (k:IntKind) (a b:Int):dV .mul [.int k a,.int k b] m=some (.int k (k.wrap (a*b)),m):=by simp [dV,Au,pK]
@[simp] theorem au9 (k:IntKind) (a b:Int) (h:b≠0):dV .quo [.int k a,.int k b] m=some (.int k (k.wrap (a.tdiv b)),m):=by simp [dV,Au,pK,h]
@[simp] theorem axh (k:IntKind) (a b:Int) (h:b≠0):dV .rem [.int k a,.int k b] m=some (.int k (a.tmod b),m):=by simp [dV,Au,pK,h]
@[simp] theorem azn (k:IntKind) (a b:Int):dV .eql [.int k a,.int k b] m=some (.bool (decide (a=b)),m):=by
  simp only [dV,Au,pK,cond_true,Option.bind_some]; congr 3
@[simp] theorem axg (k:IntKind) (a b:Int):dV .neq [.int k a,.int k b] m=some (.bool (!decide (a=b)),m):=by
  simp only [dV,Au,pK,cond_true,Option.bind_some]; congr 3
@[simp] theorem azr (k:IntKind) (a b:Int):dV .lss [.int k a,.int k b] m=some (.bool (decide (a<b)),m):=by simp [dV,Au,pK]
@[simp] theorem azq (k:IntKind) (a b:Int):dV .leq [.int k a,.int k b] m=some (.bool (decide (a≤b)),m):=by simp [dV,Au,pK]
@[simp] theorem azp (k:IntKind) (a b:Int):dV .gtr [.int k a,.int k b] m=some (.bool (decide (b<a)),m):=by simp [dV,Au,pK]
@[simp] theorem azo (k:IntKind) (a b:Int):dV .geq [.int k a,.int k b] m=some (.bool (decide (b≤a)),m):=by simp [dV,Au,pK]
theorem au8 (k:IntKind) (a b:Int):dV .and [.int k a,.int k b] m=some (.int k (k.wrap (BitVec.ofInt k.bits a &&& BitVec.ofInt k.bits b).toNat),m):=by simp [dV,Au,pK]
theorem rOr (k:IntKind) (a b:Int):dV .or [.int k a,.int k b] m=some (.int k (k.wrap (BitVec.ofInt k.bits a ||| BitVec.ofInt k.bits b).toNat),m):=by simp [dV,Au,pK]
theorem axi (k k':IntKind) (a b:Int) (h:0≤b):oV true [.int k a,.int k' b] m=some (.int k (k.wrap (a*2^(min b.toNat k.bits))),m):=by simp [oV,shI,Int.not_lt.2 h]
theorem au_ (k k':IntKind) (a b:Int) (h:0≤b):oV false [.int k a,.int k' b] m=some (.int k (a.fdiv (2^(min b.toNat k.bits))),m):=by simp [oV,shI,Int.not_lt.2 h]
@[simp] theorem awr (a b:List UInt8):Dh .add [.str a,.str b] m=if a.length+b.length≤maxStr then some (.str (a++b),m) else none:=by
  simp only [Dh,Ev.Ja]; split <;> rfl
@[simp] theorem aws (a b:List UInt8):Dh .eql [.str a,.str b] m=some (.bool (decide (a=b)),m):=by
  simp only [Dh,Ev.Ja,Option.bind_some]; congr 3; rw [Bool.eq_iff_iff]; simp
@[simp] theorem awt (a b:List UInt8):Dh .neq [.str a,.str b] m=some (.bool (!decide (a=b)),m):=by
  simp only [Dh,Ev.Ja,Option.bind_some]; congr 3; rw [Bool.eq_iff_iff]; simp
@[simp] theorem azc (n a b:Bool):Zw n [.bool a,.bool b] m=some (.bool ((a==b) != n),m):=by rfl
@[simp] theorem ayl (n:Bool):Uo n [.fZ,.fZ] m=some (.bool (true != n),m):=by rfl
@[simp] theorem aym (n:Bool) (cs:List D) (o:Nat):Uo n [.ref cs o,.fZ] m=some (.bool (false != n),m):=by rfl
@[simp] theorem ayk (n:Bool) (b o:Nat):Uo n [.loc b o,.fZ] m=some (.bool (false != n),m):=by rfl
@[simp] theorem ayj (n:Bool):Un n true [.bH,.bH] m=some (.bool (true != n),m):=by rfl
@[simp] theorem ayh (n c:Bool) (t:Nat) (d:D):Un n c [.iface t d,.bH] m=some (.bool (false != n),m):=by rfl
@[simp] theorem ayi (n c:Bool) (t:Nat) (d:D):Un n c [.bH,.iface t d] m=some (.bool (false != n),m):=by rfl
@[simp] theorem azb (n:Bool) (ks:List Nat) (xs ys:List D):Zv n ks [.agg xs,.agg ys] m=bd (dD ks xs ys) fun r=>some (.bool (r != n),m):=by rfl
@[simp] theorem axQ:dD [] [] []=some true:=by rfl
@[simp] theorem axP (ks:List Nat) (xs ys:List D) (k:IntKind) (a b:Int):dD (1::ks) (.int k a::xs) (.int k b::ys)=bd (dD ks xs ys) fun r=>some (decide (a=b) && r):=by
  simp only [dD,Au,cond_true,bd]; congr 1
@[simp] theorem awY (ks:List Nat) (xs ys:List D) (a b:Bool):dD (0::ks) (.bool a::xs) (.bool b::ys)=bd (dD ks xs ys) fun r=>some ((a==b) && r):=by rfl
@[simp] theorem axR (ks:List Nat) (xs ys:List D) (a b:List UInt8):dD (2::ks) (.str a::xs) (.str b::ys)=bd (dD ks xs ys) fun r=>some ((a==b) && r):=by rfl
@[simp] theorem azh (k:IntKind) (a:Int):ZA [.int k a] m=some (.int k (k.wrap (0-a)),m):=by rfl
@[simp] theorem azi (b:Bool):ZB [.bool b] m=some (.bool (!b),m):=by rfl
@[simp] theorem ayR (k k':IntKind) (n:Int):SV k [.int k' n] m=some (.int k (k.wrap n),m):=by rfl
@[simp] theorem ayW (t:Nat) (d:D):S9 t [d] m=some (.iface t d,m):=by rfl
@[simp] theorem awu (off b o:Nat):Oe off [.loc b o] m=some (.loc b (o+off),m):=by rfl
@[simp] theorem awv (off o:Nat) (cs:List D):Oe off [.ref cs o] m=some (.ref cs (o+off),m):=by rfl
@[simp] theorem aqG (esz len:Nat) (cs:List D) (k:IntKind) (i:Int) (h:0≤i∧i<len):EP esz [.sl len cs,.int k i] m=some (.ref cs (i.toNat*esz),m):=by simp [EP,h]
@[simp] theorem aoQ (esz b off len e:Nat) (k:IntKind) (i:Int) (h:0≤i∧i<len):EP esz [.aG b off len e,.int k i] m=some (.loc b (off+i.toNat*esz),m):=by simp [EP,h]
@[simp] theorem avT (esz b off len:Nat) (k:IntKind) (i:Int) (h:0≤i∧i<len):BO esz len [.loc b off,.int k i] m=some (.loc b (off+i.toNat*esz),m):=by simp [BO,h]
@[simp] theorem avU (esz off len:Nat) (cs:List D) (k:IntKind) (i:Int) (h:0≤i∧i<len):BO esz len [.ref cs off,.int k i] m=some (.ref cs (off+i.toNat*esz),m):=by simp [BO,h]
@[simp] theorem ayS (s:List UInt8) (k:IntKind) (i:Int) (h:0≤i):Og [.str s,.int k i] m=bd (s[i.toNat]?) fun b=>some (.int .u8 b.toNat,m):=by simp [Og,h,bd]
@[simp] theorem aze (i:Nat) (ds:List D):Zy i [.agg ds] m=bd (ds[i]?) fun d=>some (d,m):=by rfl
@[simp] theorem azd (i:Nat) (ds:List D):Zx i [.aH ds] m=bd (ds[i]?) fun d=>some (d,m):=by rfl
@[simp] theorem ayV (s:List UInt8):SY [.str s] m=some (.int .i64 s.length,m):=by rfl
@[simp] theorem axf (len:Nat) (cs:List D):H7 [.sl len cs] m=some (.int .i64 len,m):=by rfl
@[simp] theorem avV:H7 [.bJ] m=some (.int .i64 0,m):=by rfl
@[simp] theorem aww (b o len e:Nat):H7 [.aG b o len e] m=some (.int .i64 len,m):=by rfl
@[simp] theorem azs (k k':IntKind) (a b:Int):rMn [.int k a,.int k' b] m=some (.int k (min a b),m):=by
  simp only [rMn]; congr 3; omega
@[simp] theorem azu (k k':IntKind) (a b:Int):rMx [.int k a,.int k' b] m=some (.int k (max a b),m):=by
  simp only [rMx]; congr 3; omega
@[simp] theorem ayX (base j esz:Nat) (z:List D) (k k':IntKind) (n:Int) (h:0≤n∧n≤4294967296):Oi base j esz z [.int k n,.int k' n] m=t_ base j (zeros n.toNat z) (.aG (base+j) 0 n.toNat esz) m:=by simp [Oi,uj,h]
@[simp] theorem azj (lo hi:Bool) (s:List UInt8) (xs:List D):ZC lo hi (.str s::xs) m=bd (jT lo hi s.length xs) fun r=>some (.str ((s.drop r.1).take (r.2-r.1)),m):=by rfl
@[simp] theorem ayt (esz len:Nat) (lo hi:Bool) (cs xs:List D):Qh esz lo hi (.sl len cs::xs) m=bd (jT lo hi len xs) fun r=>bd (kZ cs (r.1*esz) ((r.2-r.1)*esz)) fun cs'=>some (.sl (r.2-r.1) cs',m):=by rfl
@[simp] theorem awx (esz:Nat) (lo hi:Bool) (xs:List D):Qh esz lo hi (.bJ::xs) m=bd (jT lo hi 0 xs) fun r=>some (.bJ,m):=by rfl
@[simp] theorem axj (esz b off len:Nat) (lo hi:Bool) (xs:List D):Qh esz lo hi (.aG b off len esz::xs) m=bd (jT lo hi len xs) fun r=>some (.aG b (off+r.1*esz) (r.2-r.1) esz,m):=by simp [Qh,bd]
@[simp] theorem axC (len:Nat):jT false false len []=some (0,len):=by rfl
@[simp] theorem axE (len:Nat) (k:IntKind) (x:Int) (h:0≤x∧x≤len):jT true false len [.int k x]=some (x.toNat,len):=by simp [jT,bnd,h]
@[simp] theorem axD (len:Nat) (k:IntKind) (y:Int) (h:0≤y∧y≤len):jT false true len [.int k y]=some (0,y.toNat):=by simp [jT,bnd,h]
@[simp] theorem axF (len:Nat) (k k':IntKind) (x y:Int) (h:0≤x∧x≤y∧y≤len):jT true true len [.int k x,.int k' y]=some (x.toNat,y.toNat):=by
  have h1:x≤(y.toNat:Int):=by omega
  have h2:0≤y:=by omega
  simp only [jT,bnd,Option.bind_some]
  rw [if_pos ⟨h2,h.2.2⟩]
  simp only [Option.bind_some]
  rw [if_pos ⟨h.1,h1⟩]
  rfl
@[simp] theorem axn (e:Nat):slc m e .bJ=some ([],0,0):=by rfl
@[simp] theorem ay2 (e len:Nat) (cs:List D):slc m e (.sl len cs)=some (cs,0,len):=by rfl
@[simp] theorem ayv (b off len e:Nat):slc m e (.aG b off len e)=anyM (m[b]?) fun cs=>some (cs,off,len):=by
  simp only [slc,Nat.beq_refl,cond_true]; unfold anyM; split <;> simp_all
@[simp] theorem ay_ (x:D):acv [x] m=bd (slc m 1 x) fun r=>bd (kZ r.1 r.2.1 r.2.2) fun cs=>bd (bytesOf cs) fun bs=>some (.str bs,m):=by rfl
@[simp] theorem awq (base j esz:Nat) (x:D):WZ base j esz [.bJ,x] m=bd (slc m esz x) fun rx=>bd (kZ rx.1 rx.2.1 (rx.2.2*esz)) fun news=>if rx.2.2=0 then some (.bJ,m) else if rx.2.2≤uj then t_ base j news (.aG (base+j) 0 rx.2.2 esz) m else none:=by rfl
@[simp] theorem axe (base j esz b off len:Nat) (x:D):WZ base j esz [.aG b off len esz,x] m=bd (slc m esz x) fun rx=>bd (kZ rx.1 rx.2.1 (rx.2.2*esz)) fun news=>kX (m[b]?) fun cells=>bd (kZ cells off (len*esz)) fun olds =>
        if len+rx.2.2≤uj then t_ base j (olds++news) (.aG (base+j) 0 (len+rx.2.2) esz) (m.set b .dead) else none:=by
  simp only [WZ,Nat.beq_refl,cond_true,bd]; rfl
@[simp] theorem aye (f:Nat) (args:List D):qh O f args m=bif args.all (D.clo 0 FZ) then bd (O.call f args) fun d=>some (d,m) else none:=by rfl
@[simp] theorem ayf (f:Nat) (args:List D):uN O f args m=bd (iO (fz FZ) args m) fun r=>bd (O.call f r.1) fun d=>some (d,r.2):=by rfl
def mpM {β:Type} (s:Option Slot) (f:List Int→Option β):Option β:=match s with
 | some (.mp ks)=>f ks
 | _=>none
@[congr] theorem awn {β:Type} {s s':Option Slot} {f:List Int→Option β} (h:s=s'):mpM s f=mpM s' f:=by rw [h]
@[simp] theorem azl {β:Type} (ks:List Int) (f:List Int→Option β):mpM (some (.mp ks)) f=f ks:=by rfl
@[simp] theorem azf (base j:Nat):W9 base j [] m=aah (m[base+j]?) (some (.lmap (base+j),m.set (base+j) (.mp []))):=by
  rfl
@[simp] theorem ayY (b:Nat) (k:Int):Oj [.lmap b,.int .i64 k,.bool true] m=mpM (m[b]?) fun ks=>some (.aH [],m.set b (.mp (Y2 ks k))):=by
  unfold Oj mpM; rfl
@[simp] theorem ayp (b:Nat) (k:Int):H9 [.lmap b,.int .i64 k] m=mpM (m[b]?) fun ks=>some (.bool (ks.contains k),m):=by
  unfold H9 mpM; rfl
@[simp] theorem ayo (ks:List Int) (k:Int):H9 [.nZ ks,.int .i64 k] m=some (.bool (ks.contains k),m):=by rfl
@[simp] theorem ayq (k:Int):H9 [.vO,.int .i64 k] m=some (.bool false,m):=by rfl
@[simp] theorem axY (n b:Nat):fz (n+1) (.lmap b) m=mpM (m[b]?) fun ks=>some (.nZ ks,m.set b .dead):=by
  simp only [fz]; unfold mpM; rfl
@[simp] theorem avO {α:Type} (i:Nat) (e:α) (r:List (Nat×α)) (n:Nat):qH ((i,e)::r) n=if i=n then some e else qH r n:=by
  simp only [qH,cond_eq_ite]
  by_cases h:i=n
  ·subst h; simp
  ·rw [if_neg (fun e=>h (Nat.eq_of_beq_eq_true e)),if_neg h]
@[simp] theorem awy (t:Nat) (z:D):Kv t z [.bH] m=some (.aH [z,.bool false],m):=by rfl
@[simp] theorem ay0 (t u:Nat) (z d:D):Kv t z [.iface u d] m=if u=t then some (.aH [d,.bool true],m) else some (.aH [z,.bool false],m):=by
  simp only [Kv,cond_eq_ite]
  by_cases h:u=t
  ·subst h; simp
  ·rw [if_neg (fun e=>h (Nat.eq_of_beq_eq_true e)),if_neg h]
@[simp] theorem awz (tab:List (Nat×Bool)):Om tab [.bH] m=some (.aH [.bH,.bool false],m):=by rfl
@[simp] theorem ay1 (tab:List (Nat×Bool)) (u:Nat) (d:D):Om tab [.iface u d] m=bd (qH tab u) fun b=>bif b then some (.aH [.iface u d,.bool true],m) else some (.aH [.bH,.bool false],m):=by rfl
@[simp] theorem ayT (tab:List (Nat×Nat)) (u:Nat) (d:D) (args:List D):Ku O tab (.iface u d::args) m=bd (qH tab u) fun f=>qh O f (d::args) m:=by rfl
@[simp] theorem ayU (tab:List (Nat×Nat)) (u:Nat) (d:D) (args:List D):Oh O tab (.iface u d::args) m=bd (qH tab u) fun f=>uN O f (d::args) m:=by rfl
@[simp] theorem ayg (f:Nat) (cap args:List D):H6 O (.func f cap::args) m=bd (iO (fz FZ) (args++cap) m) fun r=>bd (O.call f r.1) fun d=>some (d,r.2):=by rfl
@[simp] theorem axc:uj=4294967296:=by rfl
@[simp] theorem ayb:maxStr=1099511627776:=by rfl
def fzM {β:Type} (s:Option Slot) (f g:List D→Option β):Option β:=match s with
 | some (.fH cs)=>f cs
 | some (.live cs)=>g cs
 | _=>none
@[congr] theorem awf {β:Type} {s s':Option Slot} {f g:List D→Option β} (h:s=s'):fzM s f g=fzM s' f g:=by rw [h]
@[simp] theorem ay6 {β:Type} (cs:List D) (f g:List D→Option β):fzM (some (.fH cs)) f g=f cs:=by rfl
@[simp] theorem ay7 {β:Type} (cs:List D) (f g:List D→Option β):fzM (some (.live cs)) f g=g cs:=by rfl
@[simp] theorem asI (f:D→Mem→Option (D×Mem)):iO f [] m=some ([],m):=by rfl
@[simp] theorem ap_ (f:D→Mem→Option (D×Mem)) (d:D) (ds:List D):iO f (d::ds) m=bd (f d m) fun r=>bd (iO f ds r.2) fun rs=>some (r.1::rs.1,rs.2):=by rfl
@[simp] theorem ayE (n:Nat) (k:IntKind) (x:Int):fz (n+1) (.int k x) m=some (.int k x,m):=by rfl
@[simp] theorem axW (n:Nat) (b:Bool):fz (n+1) (.bool b) m=some (.bool b,m):=by rfl
@[simp] theorem ayJ (n:Nat) (s:List UInt8):fz (n+1) (.str s) m=some (.str s,m):=by rfl
@[simp] theorem ax2 (n:Nat):fz (n+1) .fZ m=some (.fZ,m):=by rfl
@[simp] theorem ax3 (n:Nat):fz (n+1) .bJ m=some (.sl 0 [],m):=by rfl
@[simp] theorem ax0 (n:Nat):fz (n+1) .bH m=some (.bH,m):=by rfl
@[simp] theorem axZ (n:Nat) (ks:List Int):fz (n+1) (.nZ ks) m=some (.nZ ks,m):=by rfl
@[simp] theorem ayH (n b o:Nat):fz (n+1) (.raw b o) m=some (.raw b o,m):=by rfl
@[simp] theorem ax1 (n:Nat):fz (n+1) .vO m=some (.vO,m):=by rfl
@[simp] theorem ayI (n:Nat) (cs:List D) (o:Nat):fz (n+1) (.ref cs o) m=some (.ref cs o,m):=by rfl
@[simp] theorem ay8 (n len:Nat) (cs:List D):fz (n+1) (.sl len cs) m=some (.sl len cs,m):=by rfl
@[simp] theorem ayD (n:Nat) (ds:List D):fz (n+1) (.agg ds) m=bd (iO (fz n) ds m) fun r=>some (.agg r.1,r.2):=by rfl
@[simp] theorem ayK (n:Nat) (ds:List D):fz (n+1) (.aH ds) m=bd (iO (fz n) ds m) fun r=>some (.aH r.1,r.2):=by rfl
@[simp] theorem axX (n f:Nat) (ds:List D):fz (n+1) (.func f ds) m=bd (iO (fz n) ds m) fun r=>some (.func f r.1,r.2):=by rfl
@[simp] theorem aw2 (n t:Nat) (d:D):fz (n+1) (.iface t d) m=bd (fz n d m) fun r=>some (.iface t r.1,r.2):=by rfl
@[simp] theorem ayF (n b off:Nat):fz (n+1) (.loc b off) m=fzM (m[b]?) (fun cs=>some (.ref cs off,m)) (fun cs=>bd (iO (fz n) cs m) fun r=>kX (r.2[b]?) fun _=>some (.ref r.1 off,r.2.set b (.fH r.1))):=by
  simp only [fz,fzM,bd]; split <;> simp_all; congr 1
@[simp] theorem ayG (n b off len esz:Nat):fz (n+1) (.aG b off len esz) m=fzM (m[b]?) (fun cs=>bd (kZ cs off (len*esz)) fun ds=>some (.sl len ds,m)) (fun cs=>bd (iO (fz n) cs m) fun r=>kX (r.2[b]?) fun _=>bd (kZ r.1 off (len*esz)) fun ds=>some (.sl len ds,r.2.set b (.fH r.1))):=by
  simp only [fz,fzM,bd]; split <;> simp_all; congr 1
@[simp] theorem FZ_:FZ=12:=by rfl
@[simp] theorem azk (r:D×Mem):fin r=bd (fz FZ r.1 r.2) fun s=>some s.1:=by rfl
@[simp] theorem awN (x:RV):Option.bind x fin=bd x fin:=by rfl
@[simp] theorem axH (b n:Nat) (k:IntKind) (x:Int):D.clo b (n+1) (.int k x)=true:=by rfl
@[simp] theorem awP (b n:Nat) (x:Bool):D.clo b (n+1) (.bool x)=true:=by rfl
@[simp] theorem axN (b n:Nat) (x:List UInt8):D.clo b (n+1) (.str x)=true:=by rfl
@[simp] theorem awV (b n:Nat):D.clo b (n+1) .fZ=true:=by rfl
@[simp] theorem awW (b n:Nat):D.clo b (n+1) .bJ=true:=by rfl
@[simp] theorem awT (b n:Nat):D.clo b (n+1) .bH=true:=by rfl
@[simp] theorem awR (b n i:Nat):D.clo b (n+1) (.lmap i)=decide (i<b):=by rfl
@[simp] theorem awS (b n:Nat) (ks:List Int):D.clo b (n+1) (.nZ ks)=true:=by rfl
@[simp] theorem axL (b n i o:Nat):D.clo b (n+1) (.raw i o)=true:=by rfl
@[simp] theorem awU (b n:Nat):D.clo b (n+1) .vO=true:=by rfl
@[simp] theorem axM (b n o:Nat) (cs:List D):D.clo b (n+1) (.ref cs o)=true:=by rfl
@[simp] theorem ayB (b n l:Nat) (cs:List D):D.clo b (n+1) (.sl l cs)=true:=by rfl
@[simp] theorem axI (b n i o:Nat):D.clo b (n+1) (.loc i o)=decide (i<b):=by rfl
@[simp] theorem axJ (b n i o l e:Nat):D.clo b (n+1) (.aG i o l e)=decide (i<b):=by rfl
@[simp] theorem axG (b n:Nat) (ds:List D):D.clo b (n+1) (.agg ds)=ds.all (D.clo b n):=by rfl
@[simp] theorem axO (b n:Nat) (ds:List D):D.clo b (n+1) (.aH ds)=ds.all (D.clo b n):=by rfl
@[simp] theorem awQ (b n f:Nat) (ds:List D):D.clo b (n+1) (.func f ds)=ds.all (D.clo b n):=by rfl
@[simp] theorem av6 (b n t:Nat) (d:D):D.clo b (n+1) (.iface t d)=D.clo b n d:=by rfl
def JW (base:Nat) (s:Slot):Bool:=match s with
 | .live cs=>cs.all (D.clo base FZ)
 | _=>true
@[simp] theorem awG (base:Nat) (cs:List D):JW base (.live cs)=cs.all (D.clo base FZ):=by rfl
@[simp] theorem awF (base:Nat) (cs:List D):JW base (.fH cs)=true:=by rfl
@[simp] theorem ayu (base:Nat) (ks:List Int):JW base (.mp ks)=true:=by rfl
@[simp] theorem awD (base:Nat):JW base .dead=true:=by rfl
@[simp] theorem awE (base:Nat):JW base .free=true:=by rfl
@[simp] theorem gc_ (base:Nat) (vals:List D):gc base vals m=bif decide (base≤m.length) && (m.take base).all (JW base) then dR base m vals [] (m.take base) else none:=by
  unfold gc; congr 3
variable {base:Nat} {got:List Nat} {acc:Mem} {ds:List D}
@[simp] theorem ax7:dR base m [] got acc=some ([],acc):=by rfl
@[simp] theorem ax5 (k:IntKind) (x:Int):dR base m (.int k x::ds) got acc=bd (dR base m ds got acc) fun r=>some (.int k x::r.1,r.2):=by rfl
@[simp] theorem aw3 (x:Bool):dR base m (.bool x::ds) got acc=bd (dR base m ds got acc) fun r=>some (.bool x::r.1,r.2):=by rfl
@[simp] theorem ax_ (x:List UInt8):dR base m (.str x::ds) got acc=bd (dR base m ds got acc) fun r=>some (.str x::r.1,r.2):=by rfl
@[simp] theorem aw8:dR base m (.fZ::ds) got acc=bd (dR base m ds got acc) fun r=>some (.fZ::r.1,r.2):=by rfl
@[simp] theorem aw9:dR base m (.bJ::ds) got acc=bd (dR base m ds got acc) fun r=>some (.bJ::r.1,r.2):=by rfl
@[simp] theorem aw6:dR base m (.bH::ds) got acc=bd (dR base m ds got acc) fun r=>some (.bH::r.1,r.2):=by rfl
@[simp] theorem aw5 (ks:List Int):dR base m (.nZ ks::ds) got acc=bd (dR base m ds got acc) fun r=>some (.nZ ks::r.1,r.2):=by rfl
@[simp] theorem ax8 (b o:Nat):dR base m (.raw b o::ds) got acc=bd (dR base m ds got acc) fun r=>some (.raw b o::r.1,r.2):=by rfl
@[simp] theorem aw7:dR base m (.vO::ds) got acc=bd (dR base m ds got acc) fun r=>some (.vO::r.1,r.2):=by rfl
@[simp] theorem awh:dR base m (.undef::ds) got acc=bd (dR base m ds got acc) fun r=>some (.undef::r.1,r.2):=by rfl
@[simp] theorem ax9 (cs:List D) (o:Nat):dR base m (.ref cs o::ds) got acc=bd (dR base m ds got acc) fun r=>some (.ref cs o::r.1,r.2):=by rfl
@[simp] theorem ayL (l:Nat) (cs:List D):dR base m (.sl l cs::ds) got acc=bd (dR base m ds got acc) fun r=>some (.sl l cs::r.1,r.2):=by rfl
@[simp] theorem ax4 (cs:List D):dR base m (.agg cs::ds) got acc=bif D.clo base FZ (.agg cs) then bd (dR base m ds got acc) fun r=>some (.agg cs::r.1,r.2) else none:=by rfl
@[simp] theorem ax' (cs:List D):dR base m (.aH cs::ds) got acc=bif D.clo base FZ (.aH cs) then bd (dR base m ds got acc) fun r=>some (.aH cs::r.1,r.2) else none:=by rfl
@[simp] theorem aw4 (f:Nat) (cs:List D):dR base m (.func f cs::ds) got acc=bif D.clo base FZ (.func f cs) then bd (dR base m ds got acc) fun r=>some (.func f cs::r.1,r.2) else none:=by rfl
def gmv (base:Nat) (m:Mem) (t:Nat) (d':D) (ds:List D) (got:List Nat) (acc:Mem):Option (List D×Mem):=match d' with
 | .loc b off=>bif got.contains b then none else kX (m[b]?) fun cs=>bif cs.all (D.clo base FZ) then bd (dR base m ds (b::got) (acc++[.live cs])) fun r=>some (.iface t (.loc acc.length off)::r.1,r.2) else none
 | _=>none
@[simp] theorem aya (t b off:Nat):gmv base m t (.loc b off) ds got acc=bif got.contains b then none else kX (m[b]?) fun cs=>bif cs.all (D.clo base FZ) then bd (dR base m ds (b::got) (acc++[.live cs])) fun r=>some (.iface t (.loc acc.length off)::r.1,r.2) else none:=by rfl
@[simp] theorem awg (t:Nat) (d:D):dR base m (.iface t d::ds) got acc=bif D.clo base FZ (.iface t d) then bd (dR base m ds got acc) fun r=>some (.iface t d::r.1,r.2) else gmv base m t d ds got acc:=by
  cases d <;> first | rfl | (rw [dR]; rfl)
@[simp] theorem ax6 (b off:Nat):dR base m (.loc b off::ds) got acc=if b<base then bd (dR base m ds got acc) fun r=>some (.loc b off::r.1,r.2)
      else bif got.contains b then none else kX (m[b]?) fun cs=>bif cs.all (D.clo base FZ) then bd (dR base m ds (b::got) (acc++[.live cs])) fun r=>some (.loc acc.length off::r.1,r.2) else none:=by
  rw [dR]; rfl
@[simp] theorem asJ (b off len esz:Nat):dR base m (.aG b off len esz::ds) got acc=if b<base then bd (dR base m ds got acc) fun r=>some (.aG b off len esz::r.1,r.2)
      else bif got.contains b then none else kX (m[b]?) fun cs=>bif cs.all (D.clo base FZ) then bd (dR base m ds (b::got) (acc++[.live cs])) fun r=>some (.aG acc.length off len esz::r.1,r.2) else none:=by
  rw [dR]; rfl
@[simp] theorem axv (d:D):IK ([d],m)=(d,m):=by rfl
@[simp] theorem axu:IK ([],m)=(.aH [],m):=by rfl
@[simp] theorem axw (d d':D) (ds:List D):IK (d::d'::ds,m)=(.aH (d::d'::ds),m):=by rfl
@[simp] theorem axy (e:Env):AQ e m []=some []:=by rfl
@[simp] theorem awH (e:Env) (r:ER) (rs:List ER):AQ e m (r::rs)=bd (r.get e m) fun d=>bd (AQ e m rs) fun ds=>some (d::ds):=by rfl
@[simp] theorem ayw (e:Env) (t:Nat):(ER.tmp t).get e m=look e t:=by rfl
@[simp] theorem axx (e:Env) (t n:Nat) (agg:Bool):(ER.cell t agg n).get e m=bd (look e t) fun a=>bd (U2 m a) fun r=>bif agg then bd (kZ r.1 r.2 n) fun ds=>some (.agg ds) else r.1[r.2]?:=by rfl
theorem beq_lit (n m:Nat):Nat.beq n m=decide (n=m):=by
 cases h:Nat.beq n m with
 | true=>simp [Nat.eq_of_beq_eq_true h]
 | false=>exact (decide_eq_false fun e=>by rw [e,Nat.beq_refl] at h; cases h).symm
@[simp] theorem awl (e:Env) (t x:Nat) (d:D):look ((t,d)::e) x=if t=x then some d else look e x:=by
  simp only [look,beq_lit]; by_cases h:t=x <;> simp [h]
@[simp] theorem avA (i j:Nat):Jb i (.exit j)=if j=i then .normal else .exit j:=by
  simp only [Jb,beq_lit]; by_cases h:j=i <;> simp [h]
theorem fA (n:Nat) (d:D):zeros n [d]=List.replicate n d:=by
 unfold zeros
 apply List.ext_getElem <;> simp
 intro i h; simp [Nat.mod_one]
theorem wrap64 (x:Int) (h : -9223372036854775808≤x∧x≤9223372036854775807):IntKind.i64.wrap x=x:=by
 simp [IntKind.wrap,IntKind.signed,IntKind.bits,IntKind.min,IntKind.max] <;> omega
end
end Go.Ev
