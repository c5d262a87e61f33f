/- Part of accrDay_card. -/
import Derived.Test.YtechakbhjeieaaaGreatDoorCFlat
set_option linter.unusedVariables false
set_option linter.unusedSimpArgs false
namespace Go.Ev
attribute [simp] List.getElem?_cons_zero List.getElem?_cons_succ
def qF {β:Type} (s:Option Slot) (f:List D→Option β):Option β:=match s with
 | some (.live cs)=>f cs
 | _=>none
def anyM {β:Type} (s:Option Slot) (f:List D→Option β):Option β:=match s with
 | some (.live cs)=>f cs
 | some (.jh cs)=>f cs
 | _=>none
def aaP {β:Type} (s:Option Slot) (x:Option β):Option β:=match s with
 | some .free=>x
 | _=>none
@[congr] theorem awk {β:Type} {s s':Option Slot} {f:List D→Option β} (h:s=s'):qF s f=qF s' f:=by rw [h]
@[congr] theorem anyM_congr {β:Type} {s s':Option Slot} {f:List D→Option β} (h:s=s'):anyM s f=anyM s' f:=by rw [h]
@[congr] theorem awj {β:Type} {s s':Option Slot} {x:Option β} (h:s=s'):aaP s x=aaP s' x:=by rw [h]
@[simp] theorem azz {β:Type} (cs:List D) (f:List D→Option β):qF (some (.live cs)) f=f cs:=by rfl
@[simp] theorem azn {β:Type} (cs:List D) (f:List D→Option β):anyM (some (.live cs)) f=f cs:=by rfl
@[simp] theorem azm {β:Type} (cs:List D) (f:List D→Option β):anyM (some (.jh cs)) f=f cs:=by rfl
@[simp] theorem azp {β:Type} (x:Option β):aaP (some .free) x=x:=by rfl
section
variable {m:Mem} {O:aB}
@[simp] theorem az3 (d:D):aaf [d] m=some (d,m):=by rfl
@[simp] theorem azf (x y:D):Qj [.bool true,x,y] m=some (x,m):=by rfl
@[simp] theorem aze (x y:D):Qj [.bool false,x,y] m=some (y,m):=by rfl
@[simp] theorem azW (base j:Nat) (d:D):Z8 base j [d] m=bd (fO d) fun cs=>CX base j cs (.loc (base+j) 0) m:=by rfl
@[simp] theorem ay1 (base j:Nat) (z:List D):OE base j z [] m=CX base j z (.loc (base+j) 0) m:=by rfl
@[simp] theorem azU (base j:Nat) (cs:List D) (d:D):CX base j cs d m=aaP (m[base+j]?) (some (d,m.set (base+j) (.live cs))):=by
  unfold CX aaP; split <;> simp_all
@[simp] theorem anV (b off:Nat):DC [.loc b off] m=bd (V9 m (.loc b off)) fun r=>bd (r.1[r.2]?) fun d=>some (d,m):=by rfl
@[simp] theorem awQ (cs:List D) (off:Nat):DC [.ref cs off] m=bd (cs[off]?) fun d=>some (d,m):=by rfl
@[simp] theorem aza (cs:List D) (off:Nat):OH [.ref cs off] m=bd (cs[off]?) fun d=>some (d,m):=by rfl
@[simp] theorem awR (n b off:Nat):Lc n [.loc b off] m=bd (V9 m (.loc b off)) fun r=>bd (qI r.1 r.2 n) fun ds=>some (.agg ds,m):=by rfl
@[simp] theorem awS (n off:Nat) (cs:List D):Lc n [.ref cs off] m=bd (qI cs off n) fun ds=>some (.agg ds,m):=by rfl
@[simp] theorem as7 (b off:Nat):V9 m (.loc b off)=anyM (m[b]?) fun cs=>some (cs,off):=by
  rfl
@[simp] theorem auA (n b off:Nat) (d:D):Fp n [.loc b off,d] m=bd (fO d) fun cs=>qF (m[b]?) fun cells=>if cs.length=n∧off+n≤cells.length then some (.bg [],m.set b (.live (cu cells off cs))) else none:=by
  unfold Fp bd qF; rfl
@[simp] theorem ax3 (cells:List D) (off:Nat):cu cells off []=cells:=by rfl
@[simp] theorem axg (cells:List D) (off:Nat) (d:D) (ds:List D):cu cells off (d::ds)=cu (cells.set off d) (off+1) ds:=by rfl
@[simp] theorem azQ (cells:List D) (off n:Nat):qI cells off n=if off+n≤cells.length then some ((cells.drop off).take n) else none:=by rfl
@[simp] theorem ay2 (z:List D) (ps:List (Nat×Nat)) (ds:List D):OG z ps ds m=bd (sN z ps ds) fun cs=>some (.agg cs,m):=by rfl
@[simp] theorem aw1 (cells:List D):sN cells [] []=some cells:=by rfl
@[simp] theorem awy (cells:List D) (off n:Nat) (ps:List (Nat×Nat)) (d:D) (ds:List D):sN cells ((off,n)::ps) (d::ds)=bd (fO d) fun cs=>if cs.length=n∧off+n≤cells.length then sN (cu cells off cs) ps ds else none:=by rfl
@[simp] theorem azX (len:Nat) (z:List D) (ps:List (Nat×Nat)) (ds:List D):Z9 len z ps ds m=bif ds.all (D.clo 0 FZ) then bd (sN (zeros len z) ps ds) fun cs=>some (.sl len cs,m) else none:=by rfl
@[simp] theorem azD (base j esz len:Nat) (z:List D) (ps:List (Nat×Nat)) (ds:List D):UM base j esz len z ps ds m=bd (sN (zeros len z) ps ds) fun cs=>CX base j cs (.bf (base+j) 0 len esz) m:=by rfl
@[simp] theorem awT (b off:Nat):Le [.loc b off] m=some (.loc b off,m):=by rfl
@[simp] theorem awU (cs:List D) (off:Nat):Le [.ref cs off] m=some (.ref cs off,m):=by rfl
@[simp] theorem av8 (ds:List D):fO (.agg ds)=some ds:=by rfl
@[simp] theorem av9 (k:IntKind) (n:Int):fO (.int k n)=some [.int k n]:=by rfl
@[simp] theorem au9 (b:Bool):fO (.bool b)=some [.bool b]:=by rfl
@[simp] theorem awe (s:List UInt8):fO (.str s)=some [.str s]:=by rfl
@[simp] theorem awd (cs:List D) (o:Nat):fO (.ref cs o)=some [.ref cs o]:=by rfl
@[simp] theorem awl (n:Nat) (cs:List D):fO (.sl n cs)=some [.sl n cs]:=by rfl
@[simp] theorem avc:fO .aY=some [.aY]:=by rfl
@[simp] theorem avd:fO .bH=some [.bH]:=by rfl
@[simp] theorem ava:fO .aK=some [.aK]:=by rfl
@[simp] theorem au_ (b:Nat):fO (.lmap b)=some [.lmap b]:=by rfl
@[simp] theorem au' (ks:List Int):fO (.uN ks)=some [.uN ks]:=by rfl
@[simp] theorem awc (b o:Nat):fO (.raw b o)=some [.raw b o]:=by rfl
@[simp] theorem avb:fO .Au=some [.Au]:=by rfl
@[simp] theorem av_ (b o:Nat):fO (.loc b o)=some [.loc b o]:=by rfl
@[simp] theorem av' (b o l e:Nat):fO (.bf b o l e)=some [.bf b o l e]:=by rfl
@[simp] theorem au2 (t:Nat) (d:D):fO (.iface t d)=some [.iface t d]:=by rfl
theorem Ej (k:IntKind):(k==k)=true:=by cases k <;> rfl
@[simp] theorem az9 (k:IntKind) (a b:Int):gI .add [.int k a,.int k b] m=some (.int k (k.wrap (a+b)),m):=by simp [gI,Ej,aj]
@[simp] theorem ax_ (k:IntKind) (a b:Int):gI .sub [.int k a,.int k b] m=some (.int k (k.wrap (a-b)),m):=by simp [gI,Ej,aj]
@[simp] theorem aAe (k:IntKind) (a b:Int):gI .mul [.int k a,.int k b] m=some (.int k (k.wrap (a*b)),m):=by simp [gI,Ej,aj]
@[simp] theorem av1 (k:IntKind) (a b:Int) (h:b≠0):gI .quo [.int k a,.int k b] m=some (.int k (k.wrap (a.tdiv b)),m):=by simp [gI,Ej,aj,h]
@[simp] theorem ax7 (k:IntKind) (a b:Int) (h:b≠0):gI .rem [.int k a,.int k b] m=some (.int k (a.tmod b),m):=by simp [gI,Ej,aj,h]
@[simp] theorem az_ (k:IntKind) (a b:Int):gI .eql [.int k a,.int k b] m=some (.bool (decide (a=b)),m):=by
  simp only [gI,Ej,aj,cond_true,Option.bind_some]; congr 3
@[simp] theorem ax6 (k:IntKind) (a b:Int):gI .neq [.int k a,.int k b] m=some (.bool (!decide (a=b)),m):=by
  simp only [gI,Ej,aj,cond_true,Option.bind_some]; congr 3
@[simp] theorem aAc (k:IntKind) (a b:Int):gI .lss [.int k a,.int k b] m=some (.bool (decide (a<b)),m):=by simp [gI,Ej,aj]
@[simp] theorem aAb (k:IntKind) (a b:Int):gI .leq [.int k a,.int k b] m=some (.bool (decide (a≤b)),m):=by simp [gI,Ej,aj]
@[simp] theorem aAa (k:IntKind) (a b:Int):gI .gtr [.int k a,.int k b] m=some (.bool (decide (b<a)),m):=by simp [gI,Ej,aj]
@[simp] theorem az' (k:IntKind) (a b:Int):gI .geq [.int k a,.int k b] m=some (.bool (decide (b≤a)),m):=by simp [gI,Ej,aj]
theorem avZ (k:IntKind) (a b:Int):gI .and [.int k a,.int k b] m=some (.int k (k.wrap (BitVec.ofInt k.bits a &&& BitVec.ofInt k.bits b).toNat),m):=by simp [gI,Ej,aj]
theorem rOr (k:IntKind) (a b:Int):gI .or [.int k a,.int k b] m=some (.int k (k.wrap (BitVec.ofInt k.bits a ||| BitVec.ofInt k.bits b).toNat),m):=by simp [gI,Ej,aj]
theorem ax8 (k k':IntKind) (a b:Int) (h:0≤b):vg true [.int k a,.int k' b] m=some (.int k (k.wrap (a*2^(min b.toNat k.bits))),m):=by simp [vg,shI,Int.not_lt.2 h]
theorem av2 (k k':IntKind) (a b:Int) (h:0≤b):vg false [.int k a,.int k' b] m=some (.int k (a.fdiv (2^(min b.toNat k.bits))),m):=by simp [vg,shI,Int.not_lt.2 h]
@[simp] theorem axi (a b:List UInt8):Gs .add [.str a,.str b] m=if a.length+b.length≤maxStr then some (.str (a++b),m) else none:=by
  simp only [Gs,Ev.gq]; split <;> rfl
@[simp] theorem axj (a b:List UInt8):Gs .eql [.str a,.str b] m=some (.bool (decide (a=b)),m):=by
  simp only [Gs,Ev.gq,Option.bind_some]; congr 3; rw [Bool.eq_iff_iff]; simp
@[simp] theorem axk (a b:List UInt8):Gs .neq [.str a,.str b] m=some (.bool (!decide (a=b)),m):=by
  simp only [Gs,Ev.gq,Option.bind_some]; congr 3; rw [Bool.eq_iff_iff]; simp
@[simp] theorem azZ (n a b:Bool):aac n [.bool a,.bool b] m=some (.bool ((a==b) != n),m):=by rfl
@[simp] theorem ay_ (n:Bool):Vs n [.aY,.aY] m=some (.bool (true != n),m):=by rfl
@[simp] theorem ay' (n:Bool) (cs:List D) (o:Nat):Vs n [.ref cs o,.aY] m=some (.bool (false != n),m):=by rfl
@[simp] theorem ay9 (n:Bool) (b o:Nat):Vs n [.loc b o,.aY] m=some (.bool (false != n),m):=by rfl
@[simp] theorem ay8 (n:Bool):Vr n true [.aK,.aK] m=some (.bool (true != n),m):=by rfl
@[simp] theorem ay6 (n c:Bool) (t:Nat) (d:D):Vr n c [.iface t d,.aK] m=some (.bool (false != n),m):=by rfl
@[simp] theorem ay7 (n c:Bool) (t:Nat) (d:D):Vr n c [.aK,.iface t d] m=some (.bool (false != n),m):=by rfl
@[simp] theorem azY (n:Bool) (ks:List Nat) (xs ys:List D):Z_ n ks [.agg xs,.agg ys] m=bd (eF ks xs ys) fun r=>some (.bool (r != n),m):=by rfl
@[simp] theorem ayD:eF [] [] []=some true:=by rfl
@[simp] theorem ayC (ks:List Nat) (xs ys:List D) (k:IntKind) (a b:Int):eF (1::ks) (.int k a::xs) (.int k b::ys)=bd (eF ks xs ys) fun r=>some (decide (a=b) && r):=by
  simp only [eF,Ej,cond_true,bd]; congr 1
@[simp] theorem axN (ks:List Nat) (xs ys:List D) (a b:Bool):eF (0::ks) (.bool a::xs) (.bool b::ys)=bd (eF ks xs ys) fun r=>some ((a==b) && r):=by rfl
@[simp] theorem ayE (ks:List Nat) (xs ys:List D) (a b:List UInt8):eF (2::ks) (.str a::xs) (.str b::ys)=bd (eF ks xs ys) fun r=>some ((a==b) && r):=by rfl
@[simp] theorem az4 (k:IntKind) (a:Int):aag [.int k a] m=some (.int k (k.wrap (0-a)),m):=by rfl
@[simp] theorem az5 (b:Bool):aah [.bool b] m=some (.bool (!b),m):=by rfl
@[simp] theorem azE (k k':IntKind) (n:Int):UN k [.int k' n] m=some (.int k (k.wrap n),m):=by rfl
@[simp] theorem azJ (t:Nat) (d:D):UQ t [d] m=some (.iface t d,m):=by rfl
@[simp] theorem axl (off b o:Nat):Qd off [.loc b o] m=some (.loc b (o+off),m):=by rfl
@[simp] theorem axm (off o:Nat) (cs:List D):Qd off [.ref cs o] m=some (.ref cs (o+off),m):=by rfl
@[simp] theorem arN (esz len:Nat) (cs:List D) (k:IntKind) (i:Int) (h:0≤i∧i<len):I9 esz [.sl len cs,.int k i] m=some (.ref cs (i.toNat*esz),m):=by simp [I9,h]
@[simp] theorem apQ (esz b off len e:Nat) (k:IntKind) (i:Int) (h:0≤i∧i<len):I9 esz [.bf b off len e,.int k i] m=some (.loc b (off+i.toNat*esz),m):=by simp [I9,h]
@[simp] theorem awN (esz b off len:Nat) (k:IntKind) (i:Int) (h:0≤i∧i<len):Fj esz len [.loc b off,.int k i] m=some (.loc b (off+i.toNat*esz),m):=by simp [Fj,h]
@[simp] theorem awO (esz off len:Nat) (cs:List D) (k:IntKind) (i:Int) (h:0≤i∧i<len):Fj esz len [.ref cs off,.int k i] m=some (.ref cs (off+i.toNat*esz),m):=by simp [Fj,h]
@[simp] theorem azF (s:List UInt8) (k:IntKind) (i:Int) (h:0≤i):Qe [.str s,.int k i] m=bd (s[i.toNat]?) fun b=>some (.int .u8 b.toNat,m):=by simp [Qe,h,bd]
@[simp] theorem az1 (i:Nat) (ds:List D):aae i [.agg ds] m=bd (ds[i]?) fun d=>some (d,m):=by rfl
@[simp] theorem az0 (i:Nat) (ds:List D):aad i [.bg ds] m=bd (ds[i]?) fun d=>some (d,m):=by rfl
@[simp] theorem azI (s:List UInt8):UO [.str s] m=some (.int .i64 s.length,m):=by rfl
@[simp] theorem ax5 (len:Nat) (cs:List D):La [.sl len cs] m=some (.int .i64 len,m):=by rfl
@[simp] theorem awP:La [.bH] m=some (.int .i64 0,m):=by rfl
@[simp] theorem axn (b o len e:Nat):La [.bf b o len e] m=some (.int .i64 len,m):=by rfl
@[simp] theorem aAd (k k':IntKind) (a b:Int):rMn [.int k a,.int k' b] m=some (.int k (min a b),m):=by
  simp only [rMn]; congr 3; omega
@[simp] theorem aAf (k k':IntKind) (a b:Int):rMx [.int k a,.int k' b] m=some (.int k (max a b),m):=by
  simp only [rMx]; congr 3; omega
@[simp] theorem azK (base j esz:Nat) (z:List D) (k k':IntKind) (n:Int) (h:0≤n∧n≤4294967296):Qh base j esz z [.int k n,.int k' n] m=CX base j (zeros n.toNat z) (.bf (base+j) 0 n.toNat esz) m:=by simp [Qh,y8,h]
@[simp] theorem az6 (lo hi:Bool) (s:List UInt8) (xs:List D):aai lo hi (.str s::xs) m=bd (oW lo hi s.length xs) fun r=>some (.str ((s.drop r.1).take (r.2-r.1)),m):=by rfl
@[simp] theorem azg (esz len:Nat) (lo hi:Bool) (cs xs:List D):RP esz lo hi (.sl len cs::xs) m=bd (oW lo hi len xs) fun r=>bd (qI cs (r.1*esz) ((r.2-r.1)*esz)) fun cs'=>some (.sl (r.2-r.1) cs',m):=by rfl
@[simp] theorem axo (esz:Nat) (lo hi:Bool) (xs:List D):RP esz lo hi (.bH::xs) m=bd (oW lo hi 0 xs) fun r=>some (.bH,m):=by rfl
@[simp] theorem ax9 (esz b off len:Nat) (lo hi:Bool) (xs:List D):RP esz lo hi (.bf b off len esz::xs) m=bd (oW lo hi len xs) fun r=>some (.bf b (off+r.1*esz) (r.2-r.1) esz,m):=by simp [RP,bd]
@[simp] theorem ayp (len:Nat):oW false false len []=some (0,len):=by rfl
@[simp] theorem ayr (len:Nat) (k:IntKind) (x:Int) (h:0≤x∧x≤len):oW true false len [.int k x]=some (x.toNat,len):=by simp [oW,bnd,h]
@[simp] theorem ayq (len:Nat) (k:IntKind) (y:Int) (h:0≤y∧y≤len):oW false true len [.int k y]=some (0,y.toNat):=by simp [oW,bnd,h]
@[simp] theorem ays (len:Nat) (k k':IntKind) (x y:Int) (h:0≤x∧x≤y∧y≤len):oW true true len [.int k x,.int k' y]=some (x.toNat,y.toNat):=by
  have h1:x≤(y.toNat:Int):=by omega
  have h2:0≤y:=by omega
  simp only [oW,bnd,Option.bind_some]
  rw [if_pos ⟨h2,h.2.2⟩]
  simp only [Option.bind_some]
  rw [if_pos ⟨h.1,h1⟩]
  rfl
@[simp] theorem ayb (e:Nat):slc m e .bH=some ([],0,0):=by rfl
@[simp] theorem azP (e len:Nat) (cs:List D):slc m e (.sl len cs)=some (cs,0,len):=by rfl
@[simp] theorem azi (b off len e:Nat):slc m e (.bf b off len e)=anyM (m[b]?) fun cs=>some (cs,off,len):=by
  simp only [slc,Nat.beq_refl,cond_true]; unfold anyM; split <;> simp_all
@[simp] theorem azV (x:D):acT [x] m=bd (slc m 1 x) fun r=>bd (qI r.1 r.2.1 r.2.2) fun cs=>bd (bytesOf cs) fun bs=>some (.str bs,m):=by rfl
@[simp] theorem axh (base j esz:Nat) (x:D):XP base j esz [.bH,x] m=bd (slc m esz x) fun rx=>bd (qI rx.1 rx.2.1 (rx.2.2*esz)) fun news=>if rx.2.2=0 then some (.bH,m) else if rx.2.2≤y8 then CX base j news (.bf (base+j) 0 rx.2.2 esz) m else none:=by rfl
@[simp] theorem ax4 (base j esz b off len:Nat) (x:D):XP base j esz [.bf b off len esz,x] m=bd (slc m esz x) fun rx=>bd (qI rx.1 rx.2.1 (rx.2.2*esz)) fun news=>qF (m[b]?) fun cells=>bd (qI cells off (len*esz)) fun olds =>
        if len+rx.2.2≤y8 then CX base j (olds++news) (.bf (base+j) 0 (len+rx.2.2) esz) (m.set b .dead) else none:=by
  simp only [XP,Nat.beq_refl,cond_true,bd]; rfl
@[simp] theorem ay3 (f:Nat) (args:List D):vY O f args m=bif args.all (D.clo 0 FZ) then bd (O.call f args) fun d=>some (d,m) else none:=by rfl
@[simp] theorem ay4 (f:Nat) (args:List D):zZ O f args m=bd (lG (fz FZ) args m) fun r=>bd (O.call f r.1) fun d=>some (d,r.2):=by rfl
def mpM {β:Type} (s:Option Slot) (f:List Int→Option β):Option β:=match s with
 | some (.mp ks)=>f ks
 | _=>none
@[congr] theorem axe {β:Type} {s s':Option Slot} {f:List Int→Option β} (h:s=s'):mpM s f=mpM s' f:=by rw [h]
@[simp] theorem az8 {β:Type} (ks:List Int) (f:List Int→Option β):mpM (some (.mp ks)) f=f ks:=by rfl
@[simp] theorem az2 (base j:Nat):XQ base j [] m=aaP (m[base+j]?) (some (.lmap (base+j),m.set (base+j) (.mp []))):=by
  rfl
@[simp] theorem azL (b:Nat) (k:Int):Qi [.lmap b,.int .i64 k,.bool true] m=mpM (m[b]?) fun ks=>some (.bg [],m.set b (.mp (ZE ks k))):=by
  unfold Qi mpM; rfl
@[simp] theorem azc (b:Nat) (k:Int):Ld [.lmap b,.int .i64 k] m=mpM (m[b]?) fun ks=>some (.bool (ks.contains k),m):=by
  unfold Ld mpM; rfl
@[simp] theorem azb (ks:List Int) (k:Int):Ld [.uN ks,.int .i64 k] m=some (.bool (ks.contains k),m):=by rfl
@[simp] theorem azd (k:Int):Ld [.Au,.int .i64 k] m=some (.bool false,m):=by rfl
@[simp] theorem ayL (n b:Nat):fz (n+1) (.lmap b) m=mpM (m[b]?) fun ks=>some (.uN ks,m.set b .dead):=by
  simp only [fz]; unfold mpM; rfl
@[simp] theorem awI {α:Type} (i:Nat) (e:α) (r:List (Nat×α)) (n:Nat):Bd ((i,e)::r) n=if i=n then some e else Bd r n:=by
  simp only [Bd,cond_eq_ite]
  by_cases h:i=n
  ·subst h; simp
  ·rw [if_neg (fun e=>h (Nat.eq_of_beq_eq_true e)),if_neg h]
@[simp] theorem axp (t:Nat) (z:D):N8 t z [.aK] m=some (.bg [z,.bool false],m):=by rfl
@[simp] theorem azN (t u:Nat) (z d:D):N8 t z [.iface u d] m=if u=t then some (.bg [d,.bool true],m) else some (.bg [z,.bool false],m):=by
  simp only [N8,cond_eq_ite]
  by_cases h:u=t
  ·subst h; simp
  ·rw [if_neg (fun e=>h (Nat.eq_of_beq_eq_true e)),if_neg h]
@[simp] theorem axq (tab:List (Nat×Bool)):Qk tab [.aK] m=some (.bg [.aK,.bool false],m):=by rfl
@[simp] theorem azO (tab:List (Nat×Bool)) (u:Nat) (d:D):Qk tab [.iface u d] m=bd (Bd tab u) fun b=>bif b then some (.bg [.iface u d,.bool true],m) else some (.bg [.aK,.bool false],m):=by rfl
@[simp] theorem azG (tab:List (Nat×Nat)) (u:Nat) (d:D) (args:List D):NZ O tab (.iface u d::args) m=bd (Bd tab u) fun f=>vY O f (d::args) m:=by rfl
@[simp] theorem azH (tab:List (Nat×Nat)) (u:Nat) (d:D) (args:List D):Qg O tab (.iface u d::args) m=bd (Bd tab u) fun f=>zZ O f (d::args) m:=by rfl
@[simp] theorem ay5 (f:Nat) (cap args:List D):K_ O (.func f cap::args) m=bd (lG (fz FZ) (args++cap) m) fun r=>bd (O.call f r.1) fun d=>some (d,r.2):=by rfl
@[simp] theorem ax2:y8=4294967296:=by rfl
@[simp] theorem ay0:maxStr=1099511627776:=by rfl
def fzM {β:Type} (s:Option Slot) (f g:List D→Option β):Option β:=match s with
 | some (.jh cs)=>f cs
 | some (.live cs)=>g cs
 | _=>none
@[congr] theorem aw8 {β:Type} {s s':Option Slot} {f g:List D→Option β} (h:s=s'):fzM s f g=fzM s' f g:=by rw [h]
@[simp] theorem azR {β:Type} (cs:List D) (f g:List D→Option β):fzM (some (.jh cs)) f g=f cs:=by rfl
@[simp] theorem azS {β:Type} (cs:List D) (f g:List D→Option β):fzM (some (.live cs)) f g=g cs:=by rfl
@[simp] theorem atL (f:D→Mem→Option (D×Mem)):lG f [] m=some ([],m):=by rfl
@[simp] theorem ara (f:D→Mem→Option (D×Mem)) (d:D) (ds:List D):lG f (d::ds) m=bd (f d m) fun r=>bd (lG f ds r.2) fun rs=>some (r.1::rs.1,rs.2):=by rfl
@[simp] theorem azr (n:Nat) (k:IntKind) (x:Int):fz (n+1) (.int k x) m=some (.int k x,m):=by rfl
@[simp] theorem ayJ (n:Nat) (b:Bool):fz (n+1) (.bool b) m=some (.bool b,m):=by rfl
@[simp] theorem azw (n:Nat) (s:List UInt8):fz (n+1) (.str s) m=some (.str s,m):=by rfl
@[simp] theorem ayP (n:Nat):fz (n+1) .aY m=some (.aY,m):=by rfl
@[simp] theorem ayQ (n:Nat):fz (n+1) .bH m=some (.sl 0 [],m):=by rfl
@[simp] theorem ayN (n:Nat):fz (n+1) .aK m=some (.aK,m):=by rfl
@[simp] theorem ayM (n:Nat) (ks:List Int):fz (n+1) (.uN ks) m=some (.uN ks,m):=by rfl
@[simp] theorem azu (n b o:Nat):fz (n+1) (.raw b o) m=some (.raw b o,m):=by rfl
@[simp] theorem ayO (n:Nat):fz (n+1) .Au m=some (.Au,m):=by rfl
@[simp] theorem azv (n:Nat) (cs:List D) (o:Nat):fz (n+1) (.ref cs o) m=some (.ref cs o,m):=by rfl
@[simp] theorem azT (n len:Nat) (cs:List D):fz (n+1) (.sl len cs) m=some (.sl len cs,m):=by rfl
@[simp] theorem azq (n:Nat) (ds:List D):fz (n+1) (.agg ds) m=bd (lG (fz n) ds m) fun r=>some (.agg r.1,r.2):=by rfl
@[simp] theorem azx (n:Nat) (ds:List D):fz (n+1) (.bg ds) m=bd (lG (fz n) ds m) fun r=>some (.bg r.1,r.2):=by rfl
@[simp] theorem ayK (n f:Nat) (ds:List D):fz (n+1) (.func f ds) m=bd (lG (fz n) ds m) fun r=>some (.func f r.1,r.2):=by rfl
@[simp] theorem axR (n t:Nat) (d:D):fz (n+1) (.iface t d) m=bd (fz n d m) fun r=>some (.iface t r.1,r.2):=by rfl
@[simp] theorem azs (n b off:Nat):fz (n+1) (.loc b off) m=fzM (m[b]?) (fun cs=>some (.ref cs off,m)) (fun cs=>bd (lG (fz n) cs m) fun r=>qF (r.2[b]?) fun _=>some (.ref r.1 off,r.2.set b (.jh r.1))):=by
  simp only [fz,fzM,bd]; split <;> simp_all; congr 1
@[simp] theorem azt (n b off len esz:Nat):fz (n+1) (.bf b off len esz) m=fzM (m[b]?) (fun cs=>bd (qI cs off (len*esz)) fun ds=>some (.sl len ds,m)) (fun cs=>bd (lG (fz n) cs m) fun r=>qF (r.2[b]?) fun _=>bd (qI r.1 off (len*esz)) fun ds=>some (.sl len ds,r.2.set b (.jh r.1))):=by
  simp only [fz,fzM,bd]; split <;> simp_all; congr 1
@[simp] theorem FZ_:FZ=12:=by rfl
@[simp] theorem az7 (r:D×Mem):fin r=bd (fz FZ r.1 r.2) fun s=>some s.1:=by rfl
@[simp] theorem axC (x:RV):Option.bind x fin=bd x fin:=by rfl
@[simp] theorem ayu (b n:Nat) (k:IntKind) (x:Int):D.clo b (n+1) (.int k x)=true:=by rfl
@[simp] theorem axE (b n:Nat) (x:Bool):D.clo b (n+1) (.bool x)=true:=by rfl
@[simp] theorem ayA (b n:Nat) (x:List UInt8):D.clo b (n+1) (.str x)=true:=by rfl
@[simp] theorem axK (b n:Nat):D.clo b (n+1) .aY=true:=by rfl
@[simp] theorem axL (b n:Nat):D.clo b (n+1) .bH=true:=by rfl
@[simp] theorem axI (b n:Nat):D.clo b (n+1) .aK=true:=by rfl
@[simp] theorem axG (b n i:Nat):D.clo b (n+1) (.lmap i)=decide (i<b):=by rfl
@[simp] theorem axH (b n:Nat) (ks:List Int):D.clo b (n+1) (.uN ks)=true:=by rfl
@[simp] theorem ayy (b n i o:Nat):D.clo b (n+1) (.raw i o)=true:=by rfl
@[simp] theorem axJ (b n:Nat):D.clo b (n+1) .Au=true:=by rfl
@[simp] theorem ayz (b n o:Nat) (cs:List D):D.clo b (n+1) (.ref cs o)=true:=by rfl
@[simp] theorem azo (b n l:Nat) (cs:List D):D.clo b (n+1) (.sl l cs)=true:=by rfl
@[simp] theorem ayv (b n i o:Nat):D.clo b (n+1) (.loc i o)=decide (i<b):=by rfl
@[simp] theorem ayw (b n i o l e:Nat):D.clo b (n+1) (.bf i o l e)=decide (i<b):=by rfl
@[simp] theorem ayt (b n:Nat) (ds:List D):D.clo b (n+1) (.agg ds)=ds.all (D.clo b n):=by rfl
@[simp] theorem ayB (b n:Nat) (ds:List D):D.clo b (n+1) (.bg ds)=ds.all (D.clo b n):=by rfl
@[simp] theorem axF (b n f:Nat) (ds:List D):D.clo b (n+1) (.func f ds)=ds.all (D.clo b n):=by rfl
@[simp] theorem awZ (b n t:Nat) (d:D):D.clo b (n+1) (.iface t d)=D.clo b n d:=by rfl
def Nj (base:Nat) (s:Slot):Bool:=match s with
 | .live cs=>cs.all (D.clo base FZ)
 | _=>true
@[simp] theorem axv (base:Nat) (cs:List D):Nj base (.live cs)=cs.all (D.clo base FZ):=by rfl
@[simp] theorem axu (base:Nat) (cs:List D):Nj base (.jh cs)=true:=by rfl
@[simp] theorem azh (base:Nat) (ks:List Int):Nj base (.mp ks)=true:=by rfl
@[simp] theorem axr (base:Nat):Nj base .dead=true:=by rfl
@[simp] theorem axt (base:Nat):Nj base .free=true:=by rfl
@[simp] theorem gc_ (base:Nat) (vals:List D):gc base vals m=bif decide (base≤m.length) && (m.take base).all (Nj base) then fZ base m vals [] (m.take base) else none:=by
  unfold gc; congr 3
variable {base:Nat} {got:List Nat} {acc:Mem} {ds:List D}
@[simp] theorem ayU:fZ base m [] got acc=some ([],acc):=by rfl
@[simp] theorem ayS (k:IntKind) (x:Int):fZ base m (.int k x::ds) got acc=bd (fZ base m ds got acc) fun r=>some (.int k x::r.1,r.2):=by rfl
@[simp] theorem axS (x:Bool):fZ base m (.bool x::ds) got acc=bd (fZ base m ds got acc) fun r=>some (.bool x::r.1,r.2):=by rfl
@[simp] theorem ayX (x:List UInt8):fZ base m (.str x::ds) got acc=bd (fZ base m ds got acc) fun r=>some (.str x::r.1,r.2):=by rfl
@[simp] theorem axX:fZ base m (.aY::ds) got acc=bd (fZ base m ds got acc) fun r=>some (.aY::r.1,r.2):=by rfl
@[simp] theorem axY:fZ base m (.bH::ds) got acc=bd (fZ base m ds got acc) fun r=>some (.bH::r.1,r.2):=by rfl
@[simp] theorem axV:fZ base m (.aK::ds) got acc=bd (fZ base m ds got acc) fun r=>some (.aK::r.1,r.2):=by rfl
@[simp] theorem axU (ks:List Int):fZ base m (.uN ks::ds) got acc=bd (fZ base m ds got acc) fun r=>some (.uN ks::r.1,r.2):=by rfl
@[simp] theorem ayV (b o:Nat):fZ base m (.raw b o::ds) got acc=bd (fZ base m ds got acc) fun r=>some (.raw b o::r.1,r.2):=by rfl
@[simp] theorem axW:fZ base m (.Au::ds) got acc=bd (fZ base m ds got acc) fun r=>some (.Au::r.1,r.2):=by rfl
@[simp] theorem aw_:fZ base m (.undef::ds) got acc=bd (fZ base m ds got acc) fun r=>some (.undef::r.1,r.2):=by rfl
@[simp] theorem ayW (cs:List D) (o:Nat):fZ base m (.ref cs o::ds) got acc=bd (fZ base m ds got acc) fun r=>some (.ref cs o::r.1,r.2):=by rfl
@[simp] theorem azy (l:Nat) (cs:List D):fZ base m (.sl l cs::ds) got acc=bd (fZ base m ds got acc) fun r=>some (.sl l cs::r.1,r.2):=by rfl
@[simp] theorem ayR (cs:List D):fZ base m (.agg cs::ds) got acc=bif D.clo base FZ (.agg cs) then bd (fZ base m ds got acc) fun r=>some (.agg cs::r.1,r.2) else none:=by rfl
@[simp] theorem ayY (cs:List D):fZ base m (.bg cs::ds) got acc=bif D.clo base FZ (.bg cs) then bd (fZ base m ds got acc) fun r=>some (.bg cs::r.1,r.2) else none:=by rfl
@[simp] theorem axT (f:Nat) (cs:List D):fZ base m (.func f cs::ds) got acc=bif D.clo base FZ (.func f cs) then bd (fZ base m ds got acc) fun r=>some (.func f cs::r.1,r.2) else none:=by rfl
def gmv (base:Nat) (m:Mem) (t:Nat) (d':D) (ds:List D) (got:List Nat) (acc:Mem):Option (List D×Mem):=match d' with
 | .loc b off=>bif got.contains b then none else qF (m[b]?) fun cs=>bif cs.all (D.clo base FZ) then bd (fZ base m ds (b::got) (acc++[.live cs])) fun r=>some (.iface t (.loc acc.length off)::r.1,r.2) else none
 | _=>none
@[simp] theorem ayZ (t b off:Nat):gmv base m t (.loc b off) ds got acc=bif got.contains b then none else qF (m[b]?) fun cs=>bif cs.all (D.clo base FZ) then bd (fZ base m ds (b::got) (acc++[.live cs])) fun r=>some (.iface t (.loc acc.length off)::r.1,r.2) else none:=by rfl
@[simp] theorem aw9 (t:Nat) (d:D):fZ base m (.iface t d::ds) got acc=bif D.clo base FZ (.iface t d) then bd (fZ base m ds got acc) fun r=>some (.iface t d::r.1,r.2) else gmv base m t d ds got acc:=by
  cases d <;> first | rfl | (rw [fZ]; rfl)
@[simp] theorem ayT (b off:Nat):fZ base m (.loc b off::ds) got acc=if b<base then bd (fZ base m ds got acc) fun r=>some (.loc b off::r.1,r.2)
      else bif got.contains b then none else qF (m[b]?) fun cs=>bif cs.all (D.clo base FZ) then bd (fZ base m ds (b::got) (acc++[.live cs])) fun r=>some (.loc acc.length off::r.1,r.2) else none:=by
  rw [fZ]; rfl
@[simp] theorem atM (b off len esz:Nat):fZ base m (.bf b off len esz::ds) got acc=if b<base then bd (fZ base m ds got acc) fun r=>some (.bf b off len esz::r.1,r.2)
      else bif got.contains b then none else qF (m[b]?) fun cs=>bif cs.all (D.clo base FZ) then bd (fZ base m ds (b::got) (acc++[.live cs])) fun r=>some (.bf acc.length off len esz::r.1,r.2) else none:=by
  rw [fZ]; rfl
@[simp] theorem ayi (d:D):LQ ([d],m)=(d,m):=by rfl
@[simp] theorem ayh:LQ ([],m)=(.bg [],m):=by rfl
@[simp] theorem ayj (d d':D) (ds:List D):LQ (d::d'::ds,m)=(.bg (d::d'::ds),m):=by rfl
@[simp] theorem ayl (e:Env):Ez e m []=some []:=by rfl
@[simp] theorem axw (e:Env) (r:ER) (rs:List ER):Ez e m (r::rs)=bd (r.get e m) fun d=>bd (Ez e m rs) fun ds=>some (d::ds):=by rfl
@[simp] theorem azj (e:Env) (t:Nat):(ER.tmp t).get e m=look e t:=by rfl
@[simp] theorem ayk (e:Env) (t n:Nat) (agg:Bool):(ER.cell t agg n).get e m=bd (look e t) fun a=>bd (V9 m a) fun r=>bif agg then bd (qI r.1 r.2 n) fun ds=>some (.agg ds) else r.1[r.2]?:=by rfl
theorem beq_lit (n m:Nat):Nat.beq n m=decide (n=m):=by
 cases h:Nat.beq n m with
 | true=>simp [Nat.eq_of_beq_eq_true h]
 | false=>exact (decide_eq_false fun e=>by rw [e,Nat.beq_refl] at h; cases h).symm
@[simp] theorem axc (e:Env) (t x:Nat) (d:D):look ((t,d)::e) x=if t=x then some d else look e x:=by
  simp only [look,beq_lit]; by_cases h:t=x <;> simp [h]
@[simp] theorem awt (i j:Nat):MB i (.exit j)=if j=i then .normal else .exit j:=by
  simp only [MB,beq_lit]; by_cases h:j=i <;> simp [h]
theorem iM (n:Nat) (d:D):zeros n [d]=List.replicate n d:=by
 unfold zeros
 apply List.ext_getElem <;> simp
 intro i h; simp [Nat.mod_one]
theorem wrap64 (x:Int) (h : -9223372036854775808≤x∧x≤9223372036854775807):IntKind.i64.wrap x=x:=by
 simp [IntKind.wrap,IntKind.signed,IntKind.bits,IntKind.min,IntKind.max] <;> omega
end
end Go.Ev
