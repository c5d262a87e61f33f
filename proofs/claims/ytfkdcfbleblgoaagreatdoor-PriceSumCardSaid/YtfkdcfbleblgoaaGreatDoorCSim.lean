/- A part of the proof of priceAll_card, yieldAll_card, priceSum_card, flowAll_card, accrAll_card. -/
import Derived.Test.YtfkdcfbleblgoaaGreatDoorCFlat
set_option linter.unusedVariables false
set_option linter.unusedSimpArgs false
namespace Go.Ev
attribute [simp] List.getElem?_cons_zero List.getElem?_cons_succ
def iM {β:Type} (s:Option Slot) (f:List D→Option β):Option β:=match s with
 | some (.live cs)=>f cs
 | _=>none
def anyM {β:Type} (s:Option Slot) (f:List D→Option β):Option β:=match s with
 | some (.live cs)=>f cs
 | some (.jc cs)=>f cs
 | _=>none
def aia {β:Type} (s:Option Slot) (x:Option β):Option β:=match s with
 | some .free=>x
 | _=>none
@[congr] theorem aD4 {β:Type} {s s':Option Slot} {f:List D→Option β} (h:s=s'):iM s f=iM s' f:=by rw [h]
@[congr] theorem anyM_congr {β:Type} {s s':Option Slot} {f:List D→Option β} (h:s=s'):anyM s f=anyM s' f:=by rw [h]
@[congr] theorem aD3 {β:Type} {s s':Option Slot} {x:Option β} (h:s=s'):aia s x=aia s' x:=by rw [h]
@[simp] theorem aHl {β:Type} (cs:List D) (f:List D→Option β):iM (some (.live cs)) f=f cs:=by rfl
@[simp] theorem aG' {β:Type} (cs:List D) (f:List D→Option β):anyM (some (.live cs)) f=f cs:=by rfl
@[simp] theorem aG_ {β:Type} (cs:List D) (f:List D→Option β):anyM (some (.jc cs)) f=f cs:=by rfl
@[simp] theorem aHb {β:Type} (x:Option β):aia (some .free) x=x:=by rfl
section
variable {m:Mem} {O:h_}
@[simp] theorem aHQ (d:D):aeY [d] m=some (d,m):=by rfl
@[simp] theorem aG3 (x y:D):UY [.bool true,x,y] m=some (x,m):=by rfl
@[simp] theorem aG2 (x y:D):UY [.bool false,x,y] m=some (y,m):=by rfl
@[simp] theorem aHJ (base j:Nat) (d:D):aeS base j [d] m=bd (eH d) fun cs=>zD base j cs (.loc (base+j) 0) m:=by rfl
@[simp] theorem aGL (base j:Nat) (z:List D):JG base j z [] m=zD base j z (.loc (base+j) 0) m:=by rfl
@[simp] theorem aHH (base j:Nat) (cs:List D) (d:D):zD base j cs d m=aia (m[base+j]?) (some (d,m.set (base+j) (.live cs))):=by
  unfold zD aia; split <;> simp_all
@[simp] theorem awq (b off:Nat):DY [.loc b off] m=bd (YF m (.loc b off)) fun r=>bd (r.1[r.2]?) fun d=>some (d,m):=by rfl
@[simp] theorem aEx (cs:List D) (off:Nat):DY [.ref cs off] m=bd (cs[off]?) fun d=>some (d,m):=by rfl
@[simp] theorem aGW (cs:List D) (off:Nat):Rf [.ref cs off] m=bd (cs[off]?) fun d=>some (d,m):=by rfl
@[simp] theorem aGY (base n b off:Nat):Rh base n [.loc b off] m=if b<base then Ap n [.loc b off] m else none:=by rfl
@[simp] theorem aFV (base n b off:Nat) (d:D):Pn base n [.loc b off,d] m=if base≤b then yM n [.loc b off,d] m else none:=by rfl
@[simp] theorem aGX (n off:Nat) (cs:List D):VA n [.ref cs off] m=bd (m_ cs off n) fun ds=>some (.agg ds,m):=by rfl
@[simp] theorem aEy (n b off:Nat):Ap n [.loc b off] m=bd (YF m (.loc b off)) fun r=>bd (m_ r.1 r.2 n) fun ds=>some (.agg ds,m):=by rfl
@[simp] theorem aEz (n off:Nat) (cs:List D):Ap n [.ref cs off] m=bd (m_ cs off n) fun ds=>some (.agg ds,m):=by rfl
@[simp] theorem aBj (b off:Nat):YF m (.loc b off)=anyM (m[b]?) fun cs=>some (cs,off):=by
  rfl
@[simp] theorem aCm (n b off:Nat) (d:D):yM n [.loc b off,d] m=bd (eH d) fun cs=>iM (m[b]?) fun cells=>if cs.length=n∧off+n≤cells.length then some (.aG [],m.set b (.live (aS cells off cs))) else none:=by
  unfold yM bd iM; rfl
@[simp] theorem aFO (cells:List D) (off:Nat):aS cells off []=cells:=by rfl
@[simp] theorem aE0 (cells:List D) (off:Nat) (d:D) (ds:List D):aS cells off (d::ds)=aS (cells.set off d) (off+1) ds:=by rfl
@[simp] theorem aHC (cells:List D) (off n:Nat):m_ cells off n=if off+n≤cells.length then some ((cells.drop off).take n) else none:=by rfl
@[simp] theorem aGM (z:List D) (ps:List (Nat×Nat)) (ds:List D):Q9 z ps ds m=bd (rP z ps ds) fun cs=>some (.agg cs,m):=by rfl
@[simp] theorem aEJ (cells:List D):rP cells [] []=some cells:=by rfl
@[simp] theorem aEg (cells:List D) (off n:Nat) (ps:List (Nat×Nat)) (d:D) (ds:List D):rP cells ((off,n)::ps) (d::ds)=bd (eH d) fun cs=>if cs.length=n∧off+n≤cells.length then rP (aS cells off cs) ps ds else none:=by rfl
@[simp] theorem aHK (len:Nat) (z:List D) (ps:List (Nat×Nat)) (ds:List D):aeT len z ps ds m=bif ds.all (D.clo 0 FZ) then bd (rP (zeros len z) ps ds) fun cs=>some (.sl len cs,m) else none:=by rfl
@[simp] theorem aHp (base j esz len:Nat) (z:List D) (ps:List (Nat×Nat)) (ds:List D):X4 base j esz len z ps ds m=bd (rP (zeros len z) ps ds) fun cs=>zD base j cs (.aO (base+j) 0 len esz) m:=by rfl
@[simp] theorem aEA (b off:Nat):NV [.loc b off] m=some (.loc b off,m):=by rfl
@[simp] theorem aEB (cs:List D) (off:Nat):NV [.ref cs off] m=some (.ref cs off,m):=by rfl
@[simp] theorem aDS (ds:List D):eH (.agg ds)=some ds:=by rfl
@[simp] theorem aDT (k:IntKind) (n:Int):eH (.int k n)=some [.int k n]:=by rfl
@[simp] theorem aCY (b:Bool):eH (.bool b)=some [.bool b]:=by rfl
@[simp] theorem aDY (s:List UInt8):eH (.str s)=some [.str s]:=by rfl
@[simp] theorem aDX (cs:List D) (o:Nat):eH (.ref cs o)=some [.ref cs o]:=by rfl
@[simp] theorem aD5 (n:Nat) (cs:List D):eH (.sl n cs)=some [.sl n cs]:=by rfl
@[simp] theorem aC3:eH .iy=some [.iy]:=by rfl
@[simp] theorem aC4:eH .dh=some [.dh]:=by rfl
@[simp] theorem aC1:eH .bQ=some [.bQ]:=by rfl
@[simp] theorem aCZ (b:Nat):eH (.lmap b)=some [.lmap b]:=by rfl
@[simp] theorem aC0 (ks:List Int):eH (.uz ks)=some [.uz ks]:=by rfl
@[simp] theorem aDW (b o:Nat):eH (.raw b o)=some [.raw b o]:=by rfl
@[simp] theorem aC2:eH .BQ=some [.BQ]:=by rfl
@[simp] theorem aDU (b o:Nat):eH (.loc b o)=some [.loc b o]:=by rfl
@[simp] theorem aDV (b o l e:Nat):eH (.aO b o l e)=some [.aO b o l e]:=by rfl
@[simp] theorem aCS (t:Nat) (d:D):eH (.iface t d)=some [.iface t d]:=by rfl
theorem Iz (k:IntKind):(k==k)=true:=by cases k <;> rfl
@[simp] theorem aHW (k:IntKind) (a b:Int):eX .add [.int k a,.int k b] m=some (.int k (k.wrap (a+b)),m):=by simp [eX,Iz,mF]
@[simp] theorem aFW (k:IntKind) (a b:Int):eX .sub [.int k a,.int k b] m=some (.int k (k.wrap (a-b)),m):=by simp [eX,Iz,mF]
@[simp] theorem aH3 (k:IntKind) (a b:Int):eX .mul [.int k a,.int k b] m=some (.int k (k.wrap (a*b)),m):=by simp [eX,Iz,mF]
@[simp] theorem aDJ (k:IntKind) (a b:Int) (h:b≠0):eX .quo [.int k a,.int k b] m=some (.int k (k.wrap (a.tdiv b)),m):=by simp [eX,Iz,mF,h]
@[simp] theorem aFS (k:IntKind) (a b:Int) (h:b≠0):eX .rem [.int k a,.int k b] m=some (.int k (a.tmod b),m):=by simp [eX,Iz,mF,h]
@[simp] theorem aHX (k:IntKind) (a b:Int):eX .eql [.int k a,.int k b] m=some (.bool (decide (a=b)),m):=by
  simp only [eX,Iz,mF,cond_true,Option.bind_some]; congr 3
@[simp] theorem aFR (k:IntKind) (a b:Int):eX .neq [.int k a,.int k b] m=some (.bool (!decide (a=b)),m):=by
  simp only [eX,Iz,mF,cond_true,Option.bind_some]; congr 3
@[simp] theorem aH1 (k:IntKind) (a b:Int):eX .lss [.int k a,.int k b] m=some (.bool (decide (a<b)),m):=by simp [eX,Iz,mF]
@[simp] theorem aH0 (k:IntKind) (a b:Int):eX .leq [.int k a,.int k b] m=some (.bool (decide (a≤b)),m):=by simp [eX,Iz,mF]
@[simp] theorem aHZ (k:IntKind) (a b:Int):eX .gtr [.int k a,.int k b] m=some (.bool (decide (b<a)),m):=by simp [eX,Iz,mF]
@[simp] theorem aHY (k:IntKind) (a b:Int):eX .geq [.int k a,.int k b] m=some (.bool (decide (b≤a)),m):=by simp [eX,Iz,mF]
theorem aDI (k:IntKind) (a b:Int):eX .and [.int k a,.int k b] m=some (.int k (k.wrap (BitVec.ofInt k.bits a &&& BitVec.ofInt k.bits b).toNat),m):=by simp [eX,Iz,mF]
theorem rOr (k:IntKind) (a b:Int):eX .or [.int k a,.int k b] m=some (.int k (k.wrap (BitVec.ofInt k.bits a ||| BitVec.ofInt k.bits b).toNat),m):=by simp [eX,Iz,mF]
theorem aFT (k k':IntKind) (a b:Int) (h:0≤b):tV true [.int k a,.int k' b] m=some (.int k (k.wrap (a*2^(min b.toNat k.bits))),m):=by simp [tV,shI,Int.not_lt.2 h]
theorem aDK (k k':IntKind) (a b:Int) (h:0≤b):tV false [.int k a,.int k' b] m=some (.int k (a.fdiv (2^(min b.toNat k.bits))),m):=by simp [tV,shI,Int.not_lt.2 h]
@[simp] theorem aE2 (a b:List UInt8):IG .add [.str a,.str b] m=if a.length+b.length≤maxStr then some (.str (a++b),m) else none:=by
  simp only [IG,Ev.Td]; split <;> rfl
@[simp] theorem aE3 (a b:List UInt8):IG .eql [.str a,.str b] m=some (.bool (decide (a=b)),m):=by
  simp only [IG,Ev.Td,Option.bind_some]; congr 3; rw [Bool.eq_iff_iff]; simp
@[simp] theorem aE4 (a b:List UInt8):IG .neq [.str a,.str b] m=some (.bool (!decide (a=b)),m):=by
  simp only [IG,Ev.Td,Option.bind_some]; congr 3; rw [Bool.eq_iff_iff]; simp
@[simp] theorem aHM (n a b:Bool):aeV n [.bool a,.bool b] m=some (.bool ((a==b) != n),m):=by rfl
@[simp] theorem aGU (n:Bool):Zv n [.iy,.iy] m=some (.bool (true != n),m):=by rfl
@[simp] theorem aGV (n:Bool) (cs:List D) (o:Nat):Zv n [.ref cs o,.iy] m=some (.bool (false != n),m):=by rfl
@[simp] theorem aGT (n:Bool) (b o:Nat):Zv n [.loc b o,.iy] m=some (.bool (false != n),m):=by rfl
@[simp] theorem aGS (n:Bool):Zu n true [.bQ,.bQ] m=some (.bool (true != n),m):=by rfl
@[simp] theorem aGQ (n c:Bool) (t:Nat) (d:D):Zu n c [.iface t d,.bQ] m=some (.bool (false != n),m):=by rfl
@[simp] theorem aGR (n c:Bool) (t:Nat) (d:D):Zu n c [.bQ,.iface t d] m=some (.bool (false != n),m):=by rfl
@[simp] theorem aHL (n:Bool) (ks:List Nat) (xs ys:List D):aeU n ks [.agg xs,.agg ys] m=bd (dU ks xs ys) fun r=>some (.bool (r != n),m):=by rfl
@[simp] theorem aGo:dU [] [] []=some true:=by rfl
@[simp] theorem aGn (ks:List Nat) (xs ys:List D) (k:IntKind) (a b:Int):dU (1::ks) (.int k a::xs) (.int k b::ys)=bd (dU ks xs ys) fun r=>some (decide (a=b) && r):=by
  simp only [dU,Iz,cond_true,bd]; congr 1
@[simp] theorem aFw (ks:List Nat) (xs ys:List D) (a b:Bool):dU (0::ks) (.bool a::xs) (.bool b::ys)=bd (dU ks xs ys) fun r=>some ((a==b) && r):=by rfl
@[simp] theorem aGp (ks:List Nat) (xs ys:List D) (a b:List UInt8):dU (2::ks) (.str a::xs) (.str b::ys)=bd (dU ks xs ys) fun r=>some ((a==b) && r):=by rfl
@[simp] theorem aHR (k:IntKind) (a:Int):aeZ [.int k a] m=some (.int k (k.wrap (0-a)),m):=by rfl
@[simp] theorem aHS (b:Bool):ae0 [.bool b] m=some (.bool (!b),m):=by rfl
@[simp] theorem aHq (k k':IntKind) (n:Int):X5 k [.int k' n] m=some (.int k (k.wrap n),m):=by rfl
@[simp] theorem aHv (t:Nat) (d:D):X7 t [d] m=some (.iface t d,m):=by rfl
@[simp] theorem aE5 (off b o:Nat):UN off [.loc b o] m=some (.loc b (o+off),m):=by rfl
@[simp] theorem aE6 (off o:Nat) (cs:List D):UN off [.ref cs o] m=some (.ref cs (o+off),m):=by rfl
@[simp] theorem az_ (esz len:Nat) (cs:List D) (k:IntKind) (i:Int) (h:0≤i∧i<len):LC esz [.sl len cs,.int k i] m=some (.ref cs (i.toNat*esz),m):=by simp [LC,h]
@[simp] theorem ayo (esz b off len e:Nat) (k:IntKind) (i:Int) (h:0≤i∧i<len):LC esz [.aO b off len e,.int k i] m=some (.loc b (off+i.toNat*esz),m):=by simp [LC,h]
@[simp] theorem aEu (esz b off len:Nat) (k:IntKind) (i:Int) (h:0≤i∧i<len):Gy esz len [.loc b off,.int k i] m=some (.loc b (off+i.toNat*esz),m):=by simp [Gy,h]
@[simp] theorem aEv (esz off len:Nat) (cs:List D) (k:IntKind) (i:Int) (h:0≤i∧i<len):Gy esz len [.ref cs off,.int k i] m=some (.ref cs (off+i.toNat*esz),m):=by simp [Gy,h]
@[simp] theorem aHr (s:List UInt8) (k:IntKind) (i:Int) (h:0≤i):UO [.str s,.int k i] m=bd (s[i.toNat]?) fun b=>some (.int .u8 b.toNat,m):=by simp [UO,h,bd]
@[simp] theorem aHO (i:Nat) (ds:List D):aeX i [.agg ds] m=bd (ds[i]?) fun d=>some (d,m):=by rfl
@[simp] theorem aHN (i:Nat) (ds:List D):aeW i [.aG ds] m=bd (ds[i]?) fun d=>some (d,m):=by rfl
@[simp] theorem aHu (s:List UInt8):X6 [.str s] m=some (.int .i64 s.length,m):=by rfl
@[simp] theorem aFQ (len:Nat) (cs:List D):Oi [.sl len cs] m=some (.int .i64 len,m):=by rfl
@[simp] theorem aEw:Oi [.dh] m=some (.int .i64 0,m):=by rfl
@[simp] theorem aE7 (b o len e:Nat):Oi [.aO b o len e] m=some (.int .i64 len,m):=by rfl
@[simp] theorem aH2 (k k':IntKind) (a b:Int):rMn [.int k a,.int k' b] m=some (.int k (min a b),m):=by
  simp only [rMn]; congr 3; omega
@[simp] theorem aH4 (k k':IntKind) (a b:Int):rMx [.int k a,.int k' b] m=some (.int k (max a b),m):=by
  simp only [rMx]; congr 3; omega
@[simp] theorem aHw (base j esz:Nat) (z:List D) (k k':IntKind) (n:Int) (h:0≤n∧n≤4294967296):UR base j esz z [.int k n,.int k' n] m=zD base j (zeros n.toNat z) (.aO (base+j) 0 n.toNat esz) m:=by simp [UR,zK,h]
@[simp] theorem aHT (lo hi:Bool) (s:List UInt8) (xs:List D):ae1 lo hi (.str s::xs) m=bd (gK lo hi s.length xs) fun r=>some (.str ((s.drop r.1).take (r.2-r.1)),m):=by rfl
@[simp] theorem aG4 (esz len:Nat) (lo hi:Bool) (cs xs:List D):Xh esz lo hi (.sl len cs::xs) m=bd (gK lo hi len xs) fun r=>bd (m_ cs (r.1*esz) ((r.2-r.1)*esz)) fun cs'=>some (.sl (r.2-r.1) cs',m):=by rfl
@[simp] theorem aE8 (esz:Nat) (lo hi:Bool) (xs:List D):Xh esz lo hi (.dh::xs) m=bd (gK lo hi 0 xs) fun r=>some (.dh,m):=by rfl
@[simp] theorem aFU (esz b off len:Nat) (lo hi:Bool) (xs:List D):Xh esz lo hi (.aO b off len esz::xs) m=bd (gK lo hi len xs) fun r=>some (.aO b (off+r.1*esz) (r.2-r.1) esz,m):=by simp [Xh,bd]
@[simp] theorem aGb (len:Nat):gK false false len []=some (0,len):=by rfl
@[simp] theorem aGd (len:Nat) (k:IntKind) (x:Int) (h:0≤x∧x≤len):gK true false len [.int k x]=some (x.toNat,len):=by simp [gK,bnd,h]
@[simp] theorem aGc (len:Nat) (k:IntKind) (y:Int) (h:0≤y∧y≤len):gK false true len [.int k y]=some (0,y.toNat):=by simp [gK,bnd,h]
@[simp] theorem aGe (len:Nat) (k k':IntKind) (x y:Int) (h:0≤x∧x≤y∧y≤len):gK true true len [.int k x,.int k' y]=some (x.toNat,y.toNat):=by
  have h1:x≤(y.toNat:Int):=by omega
  have h2:0≤y:=by omega
  simp only [gK,bnd,Option.bind_some]
  rw [if_pos ⟨h2,h.2.2⟩]
  simp only [Option.bind_some]
  rw [if_pos ⟨h.1,h1⟩]
  rfl
@[simp] theorem aFZ (e:Nat):slc m e .dh=some ([],0,0):=by rfl
@[simp] theorem aHB (e len:Nat) (cs:List D):slc m e (.sl len cs)=some (cs,0,len):=by rfl
@[simp] theorem aG6 (b off len e:Nat):slc m e (.aO b off len e)=anyM (m[b]?) fun cs=>some (cs,off,len):=by
  simp only [slc,Nat.beq_refl,cond_true]; unfold anyM; split <;> simp_all
@[simp] theorem aHI (x:D):ahA [x] m=bd (slc m 1 x) fun r=>bd (m_ r.1 r.2.1 r.2.2) fun cs=>bd (bytesOf cs) fun bs=>some (.str bs,m):=by rfl
@[simp] theorem aE1 (base j esz:Nat) (x:D):aci base j esz [.dh,x] m=bd (slc m esz x) fun rx=>bd (m_ rx.1 rx.2.1 (rx.2.2*esz)) fun news=>if rx.2.2=0 then some (.dh,m) else if rx.2.2≤zK then zD base j news (.aO (base+j) 0 rx.2.2 esz) m else none:=by rfl
@[simp] theorem aFP (base j esz b off len:Nat) (x:D):aci base j esz [.aO b off len esz,x] m=bd (slc m esz x) fun rx=>bd (m_ rx.1 rx.2.1 (rx.2.2*esz)) fun news=>iM (m[b]?) fun cells=>bd (m_ cells off (len*esz)) fun olds =>
        if len+rx.2.2≤zK then zD base j (olds++news) (.aO (base+j) 0 (len+rx.2.2) esz) (m.set b .dead) else none:=by
  simp only [aci,Nat.beq_refl,cond_true,bd]; rfl
@[simp] theorem aGN (f:Nat) (args:List D):uH O f args m=bif args.all (D.clo 0 FZ) then bd (O.call f args) fun d=>some (d,m) else none:=by rfl
@[simp] theorem aGO (f:Nat) (args:List D):yL O f args m=bd (jd (fz FZ) args m) fun r=>bd (O.call f r.1) fun d=>some (d,r.2):=by rfl
def mpM {β:Type} (s:Option Slot) (f:List Int→Option β):Option β:=match s with
 | some (.mp ks)=>f ks
 | _=>none
@[congr] theorem aEY {β:Type} {s s':Option Slot} {f:List Int→Option β} (h:s=s'):mpM s f=mpM s' f:=by rw [h]
@[simp] theorem aHV {β:Type} (ks:List Int) (f:List Int→Option β):mpM (some (.mp ks)) f=f ks:=by rfl
@[simp] theorem aHP (base j:Nat):acj base j [] m=aia (m[base+j]?) (some (.lmap (base+j),m.set (base+j) (.mp []))):=by
  rfl
@[simp] theorem aHx (b:Nat) (k:Int):UU [.lmap b,.int .i64 k,.bool true] m=mpM (m[b]?) fun ks=>some (.aG [],m.set b (.mp (ahd ks k))):=by
  unfold UU mpM; rfl
@[simp] theorem aG0 (b:Nat) (k:Int):Oj [.lmap b,.int .i64 k] m=mpM (m[b]?) fun ks=>some (.bool (ks.contains k),m):=by
  unfold Oj mpM; rfl
@[simp] theorem aGZ (ks:List Int) (k:Int):Oj [.uz ks,.int .i64 k] m=some (.bool (ks.contains k),m):=by rfl
@[simp] theorem aG1 (k:Int):Oj [.BQ,.int .i64 k] m=some (.bool false,m):=by rfl
@[simp] theorem aGv (n b:Nat):fz (n+1) (.lmap b) m=mpM (m[b]?) fun ks=>some (.uz ks,m.set b .dead):=by
  simp only [fz]; unfold mpM; rfl
@[simp] theorem aEo {α:Type} (i:Nat) (e:α) (r:List (Nat×α)) (n:Nat):wX ((i,e)::r) n=if i=n then some e else wX r n:=by
  simp only [wX,cond_eq_ite]
  by_cases h:i=n
  ·subst h; simp
  ·rw [if_neg (fun e=>h (Nat.eq_of_beq_eq_true e)),if_neg h]
@[simp] theorem aE9 (t:Nat) (z:D):Ri t z [.bQ] m=some (.aG [z,.bool false],m):=by rfl
@[simp] theorem aHz (t u:Nat) (z d:D):Ri t z [.iface u d] m=if u=t then some (.aG [d,.bool true],m) else some (.aG [z,.bool false],m):=by
  simp only [Ri,cond_eq_ite]
  by_cases h:u=t
  ·subst h; simp
  ·rw [if_neg (fun e=>h (Nat.eq_of_beq_eq_true e)),if_neg h]
@[simp] theorem aE_ (tab:List (Nat×Bool)):UZ tab [.bQ] m=some (.aG [.bQ,.bool false],m):=by rfl
@[simp] theorem aHA (tab:List (Nat×Bool)) (u:Nat) (d:D):UZ tab [.iface u d] m=bd (wX tab u) fun b=>bif b then some (.aG [.iface u d,.bool true],m) else some (.aG [.bQ,.bool false],m):=by rfl
@[simp] theorem aHs (tab:List (Nat×Nat)) (u:Nat) (d:D) (args:List D):Q_ O tab (.iface u d::args) m=bd (wX tab u) fun f=>uH O f (d::args) m:=by rfl
@[simp] theorem aHt (tab:List (Nat×Nat)) (u:Nat) (d:D) (args:List D):UQ O tab (.iface u d::args) m=bd (wX tab u) fun f=>yL O f (d::args) m:=by rfl
@[simp] theorem aGP (f:Nat) (cap args:List D):NU O (.func f cap::args) m=bd (jd (fz FZ) (args++cap) m) fun r=>bd (O.call f r.1) fun d=>some (d,r.2):=by rfl
@[simp] theorem aFN:zK=4294967296:=by rfl
@[simp] theorem aGK:maxStr=1099511627776:=by rfl
def fzM {β:Type} (s:Option Slot) (f g:List D→Option β):Option β:=match s with
 | some (.jc cs)=>f cs
 | some (.live cs)=>g cs
 | _=>none
@[congr] theorem aER {β:Type} {s s':Option Slot} {f g:List D→Option β} (h:s=s'):fzM s f g=fzM s' f g:=by rw [h]
@[simp] theorem aHE {β:Type} (cs:List D) (f g:List D→Option β):fzM (some (.jc cs)) f g=f cs:=by rfl
@[simp] theorem aHF {β:Type} (cs:List D) (f g:List D→Option β):fzM (some (.live cs)) f g=g cs:=by rfl
@[simp] theorem aB1 (f:D→Mem→Option (D×Mem)):jd f [] m=some ([],m):=by rfl
@[simp] theorem azH (f:D→Mem→Option (D×Mem)) (d:D) (ds:List D):jd f (d::ds) m=bd (f d m) fun r=>bd (jd f ds r.2) fun rs=>some (r.1::rs.1,rs.2):=by rfl
@[simp] theorem aHd (n:Nat) (k:IntKind) (x:Int):fz (n+1) (.int k x) m=some (.int k x,m):=by rfl
@[simp] theorem aGt (n:Nat) (b:Bool):fz (n+1) (.bool b) m=some (.bool b,m):=by rfl
@[simp] theorem aHi (n:Nat) (s:List UInt8):fz (n+1) (.str s) m=some (.str s,m):=by rfl
@[simp] theorem aGz (n:Nat):fz (n+1) .iy m=some (.iy,m):=by rfl
@[simp] theorem aGA (n:Nat):fz (n+1) .dh m=some (.sl 0 [],m):=by rfl
@[simp] theorem aGx (n:Nat):fz (n+1) .bQ m=some (.bQ,m):=by rfl
@[simp] theorem aGw (n:Nat) (ks:List Int):fz (n+1) (.uz ks) m=some (.uz ks,m):=by rfl
@[simp] theorem aHg (n b o:Nat):fz (n+1) (.raw b o) m=some (.raw b o,m):=by rfl
@[simp] theorem aGy (n:Nat):fz (n+1) .BQ m=some (.BQ,m):=by rfl
@[simp] theorem aHh (n:Nat) (cs:List D) (o:Nat):fz (n+1) (.ref cs o) m=some (.ref cs o,m):=by rfl
@[simp] theorem aHG (n len:Nat) (cs:List D):fz (n+1) (.sl len cs) m=some (.sl len cs,m):=by rfl
@[simp] theorem aHc (n:Nat) (ds:List D):fz (n+1) (.agg ds) m=bd (jd (fz n) ds m) fun r=>some (.agg r.1,r.2):=by rfl
@[simp] theorem aHj (n:Nat) (ds:List D):fz (n+1) (.aG ds) m=bd (jd (fz n) ds m) fun r=>some (.aG r.1,r.2):=by rfl
@[simp] theorem aGu (n f:Nat) (ds:List D):fz (n+1) (.func f ds) m=bd (jd (fz n) ds m) fun r=>some (.func f r.1,r.2):=by rfl
@[simp] theorem aFA (n t:Nat) (d:D):fz (n+1) (.iface t d) m=bd (fz n d m) fun r=>some (.iface t r.1,r.2):=by rfl
@[simp] theorem aHe (n b off:Nat):fz (n+1) (.loc b off) m=fzM (m[b]?) (fun cs=>some (.ref cs off,m)) (fun cs=>bd (jd (fz n) cs m) fun r=>iM (r.2[b]?) fun _=>some (.ref r.1 off,r.2.set b (.jc r.1))):=by
  simp only [fz,fzM,bd]; split <;> simp_all; congr 1
@[simp] theorem aHf (n b off len esz:Nat):fz (n+1) (.aO b off len esz) m=fzM (m[b]?) (fun cs=>bd (m_ cs off (len*esz)) fun ds=>some (.sl len ds,m)) (fun cs=>bd (jd (fz n) cs m) fun r=>iM (r.2[b]?) fun _=>bd (m_ r.1 off (len*esz)) fun ds=>some (.sl len ds,r.2.set b (.jc r.1))):=by
  simp only [fz,fzM,bd]; split <;> simp_all; congr 1
@[simp] theorem FZ_:FZ=12:=by rfl
@[simp] theorem aHU (r:D×Mem):fin r=bd (fz FZ r.1 r.2) fun s=>some s.1:=by rfl
@[simp] theorem aFk (x:RV):Option.bind x fin=bd x fin:=by rfl
@[simp] theorem aGg (b n:Nat) (k:IntKind) (x:Int):D.clo b (n+1) (.int k x)=true:=by rfl
@[simp] theorem aFm (b n:Nat) (x:Bool):D.clo b (n+1) (.bool x)=true:=by rfl
@[simp] theorem aGl (b n:Nat) (x:List UInt8):D.clo b (n+1) (.str x)=true:=by rfl
@[simp] theorem aFt (b n:Nat):D.clo b (n+1) .iy=true:=by rfl
@[simp] theorem aFu (b n:Nat):D.clo b (n+1) .dh=true:=by rfl
@[simp] theorem aFr (b n:Nat):D.clo b (n+1) .bQ=true:=by rfl
@[simp] theorem aFp (b n i:Nat):D.clo b (n+1) (.lmap i)=decide (i<b):=by rfl
@[simp] theorem aFq (b n:Nat) (ks:List Int):D.clo b (n+1) (.uz ks)=true:=by rfl
@[simp] theorem aGj (b n i o:Nat):D.clo b (n+1) (.raw i o)=true:=by rfl
@[simp] theorem aFs (b n:Nat):D.clo b (n+1) .BQ=true:=by rfl
@[simp] theorem aGk (b n o:Nat) (cs:List D):D.clo b (n+1) (.ref cs o)=true:=by rfl
@[simp] theorem aHa (b n l:Nat) (cs:List D):D.clo b (n+1) (.sl l cs)=true:=by rfl
@[simp] theorem aGh (b n i o:Nat):D.clo b (n+1) (.loc i o)=decide (i<b):=by rfl
@[simp] theorem aGi (b n i o l e:Nat):D.clo b (n+1) (.aO i o l e)=decide (i<b):=by rfl
@[simp] theorem aGf (b n:Nat) (ds:List D):D.clo b (n+1) (.agg ds)=ds.all (D.clo b n):=by rfl
@[simp] theorem aGm (b n:Nat) (ds:List D):D.clo b (n+1) (.aG ds)=ds.all (D.clo b n):=by rfl
@[simp] theorem aFo (b n f:Nat) (ds:List D):D.clo b (n+1) (.func f ds)=ds.all (D.clo b n):=by rfl
@[simp] theorem aEH (b n t:Nat) (d:D):D.clo b (n+1) (.iface t d)=D.clo b n d:=by rfl
def Us (base:Nat) (s:Slot):Bool:=match s with
 | .live cs=>cs.all (D.clo base FZ)
 | _=>true
@[simp] theorem aFd (base:Nat) (cs:List D):Us base (.live cs)=cs.all (D.clo base FZ):=by rfl
@[simp] theorem aFc (base:Nat) (cs:List D):Us base (.jc cs)=true:=by rfl
@[simp] theorem aG5 (base:Nat) (ks:List Int):Us base (.mp ks)=true:=by rfl
@[simp] theorem aFa (base:Nat):Us base .dead=true:=by rfl
@[simp] theorem aFb (base:Nat):Us base .free=true:=by rfl
@[simp] theorem gc_ (base:Nat) (vals:List D):gc base vals m=bif decide (base≤m.length) && (m.take base).all (Us base) then fH base m vals [] (m.take base) else none:=by
  unfold gc; congr 3
variable {base:Nat} {got:List Nat} {acc:Mem} {ds:List D}
@[simp] theorem aGE:fH base m [] got acc=some ([],acc):=by rfl
@[simp] theorem aGC (k:IntKind) (x:Int):fH base m (.int k x::ds) got acc=bd (fH base m ds got acc) fun r=>some (.int k x::r.1,r.2):=by rfl
@[simp] theorem aFB (x:Bool):fH base m (.bool x::ds) got acc=bd (fH base m ds got acc) fun r=>some (.bool x::r.1,r.2):=by rfl
@[simp] theorem aGH (x:List UInt8):fH base m (.str x::ds) got acc=bd (fH base m ds got acc) fun r=>some (.str x::r.1,r.2):=by rfl
@[simp] theorem aFG:fH base m (.iy::ds) got acc=bd (fH base m ds got acc) fun r=>some (.iy::r.1,r.2):=by rfl
@[simp] theorem aFH:fH base m (.dh::ds) got acc=bd (fH base m ds got acc) fun r=>some (.dh::r.1,r.2):=by rfl
@[simp] theorem aFE:fH base m (.bQ::ds) got acc=bd (fH base m ds got acc) fun r=>some (.bQ::r.1,r.2):=by rfl
@[simp] theorem aFD (ks:List Int):fH base m (.uz ks::ds) got acc=bd (fH base m ds got acc) fun r=>some (.uz ks::r.1,r.2):=by rfl
@[simp] theorem aGF (b o:Nat):fH base m (.raw b o::ds) got acc=bd (fH base m ds got acc) fun r=>some (.raw b o::r.1,r.2):=by rfl
@[simp] theorem aFF:fH base m (.BQ::ds) got acc=bd (fH base m ds got acc) fun r=>some (.BQ::r.1,r.2):=by rfl
@[simp] theorem aET:fH base m (.undef::ds) got acc=bd (fH base m ds got acc) fun r=>some (.undef::r.1,r.2):=by rfl
@[simp] theorem aGG (cs:List D) (o:Nat):fH base m (.ref cs o::ds) got acc=bd (fH base m ds got acc) fun r=>some (.ref cs o::r.1,r.2):=by rfl
@[simp] theorem aHk (l:Nat) (cs:List D):fH base m (.sl l cs::ds) got acc=bd (fH base m ds got acc) fun r=>some (.sl l cs::r.1,r.2):=by rfl
@[simp] theorem aGB (cs:List D):fH base m (.agg cs::ds) got acc=bif D.clo base FZ (.agg cs) then bd (fH base m ds got acc) fun r=>some (.agg cs::r.1,r.2) else none:=by rfl
@[simp] theorem aGI (cs:List D):fH base m (.aG cs::ds) got acc=bif D.clo base FZ (.aG cs) then bd (fH base m ds got acc) fun r=>some (.aG cs::r.1,r.2) else none:=by rfl
@[simp] theorem aFC (f:Nat) (cs:List D):fH base m (.func f cs::ds) got acc=bif D.clo base FZ (.func f cs) then bd (fH base m ds got acc) fun r=>some (.func f cs::r.1,r.2) else none:=by rfl
def gmv (base:Nat) (m:Mem) (t:Nat) (d':D) (ds:List D) (got:List Nat) (acc:Mem):Option (List D×Mem):=match d' with
 | .loc b off=>bif got.contains b then none else iM (m[b]?) fun cs=>bif cs.all (D.clo base FZ) then bd (fH base m ds (b::got) (acc++[.live cs])) fun r=>some (.iface t (.loc acc.length off)::r.1,r.2) else none
 | _=>none
@[simp] theorem aGJ (t b off:Nat):gmv base m t (.loc b off) ds got acc=bif got.contains b then none else iM (m[b]?) fun cs=>bif cs.all (D.clo base FZ) then bd (fH base m ds (b::got) (acc++[.live cs])) fun r=>some (.iface t (.loc acc.length off)::r.1,r.2) else none:=by rfl
@[simp] theorem aES (t:Nat) (d:D):fH base m (.iface t d::ds) got acc=bif D.clo base FZ (.iface t d) then bd (fH base m ds got acc) fun r=>some (.iface t d::r.1,r.2) else gmv base m t d ds got acc:=by
  cases d <;> first | rfl | (rw [fH]; rfl)
@[simp] theorem aGD (b off:Nat):fH base m (.loc b off::ds) got acc=if b<base then bd (fH base m ds got acc) fun r=>some (.loc b off::r.1,r.2)
      else bif got.contains b then none else iM (m[b]?) fun cs=>bif cs.all (D.clo base FZ) then bd (fH base m ds (b::got) (acc++[.live cs])) fun r=>some (.loc acc.length off::r.1,r.2) else none:=by
  rw [fH]; rfl
@[simp] theorem aB2 (b off len esz:Nat):fH base m (.aO b off len esz::ds) got acc=if b<base then bd (fH base m ds got acc) fun r=>some (.aO b off len esz::r.1,r.2)
      else bif got.contains b then none else iM (m[b]?) fun cs=>bif cs.all (D.clo base FZ) then bd (fH base m ds (b::got) (acc++[.live cs])) fun r=>some (.aO acc.length off len esz::r.1,r.2) else none:=by
  rw [fH]; rfl
@[simp] theorem aF6 (d:D):OY ([d],m)=(d,m):=by rfl
@[simp] theorem aF5:OY ([],m)=(.aG [],m):=by rfl
@[simp] theorem aF7 (d d':D) (ds:List D):OY (d::d'::ds,m)=(.aG (d::d'::ds),m):=by rfl
@[simp] theorem aF9 (e:Env):Ir e m []=some []:=by rfl
@[simp] theorem aFe (e:Env) (r:ER) (rs:List ER):Ir e m (r::rs)=bd (r.get e m) fun d=>bd (Ir e m rs) fun ds=>some (d::ds):=by rfl
@[simp] theorem aG7 (e:Env) (t:Nat):(ER.tmp t).get e m=look e t:=by rfl
@[simp] theorem aF8 (e:Env) (t n:Nat) (agg:Bool):(ER.cell t agg n).get e m=bd (look e t) fun a=>bd (YF m a) fun r=>bif agg then bd (m_ r.1 r.2 n) fun ds=>some (.agg ds) else r.1[r.2]?:=by rfl
theorem beq_lit (n m:Nat):Nat.beq n m=decide (n=m):=by
 cases h:Nat.beq n m with
 | true=>simp [Nat.eq_of_beq_eq_true h]
 | false=>exact (decide_eq_false fun e=>by rw [e,Nat.beq_refl] at h; cases h).symm
@[simp] theorem aEX (e:Env) (t x:Nat) (d:D):look ((t,d)::e) x=if t=x then some d else look e x:=by
  simp only [look,beq_lit]; by_cases h:t=x <;> simp [h]
@[simp] theorem aEb (i j:Nat):Qg i (.exit j)=if j=i then .normal else .exit j:=by
  simp only [Qg,beq_lit]; by_cases h:j=i <;> simp [h]
theorem f_ (n:Nat) (d:D):zeros n [d]=List.replicate n d:=by
 unfold zeros
 apply List.ext_getElem <;> simp
 intro i h; simp [Nat.mod_one]
theorem wrap64 (x:Int) (h : -9223372036854775808≤x∧x≤9223372036854775807):IntKind.i64.wrap x=x:=by
 simp [IntKind.wrap,IntKind.signed,IntKind.bits,IntKind.min,IntKind.max] <;> omega
end
end Go.Ev
