/- A part of the proof of riskZero_card, yieldPar_card, pricePar_card. -/
import Derived.Test.YtheeamloonpolaaGreatDoorCFlat
set_option linter.unusedVariables false
set_option linter.unusedSimpArgs false
namespace Go.Ev
attribute [simp] List.getElem?_cons_zero List.getElem?_cons_succ
def kM {β:Type} (s:Option Slot) (f:List D→Option β):Option β:=match s with
 | some (.live cs)=>f cs
 | _=>none
def anyM {β:Type} (s:Option Slot) (f:List D→Option β):Option β:=match s with
 | some (.live cs)=>f cs
 | some (.iV cs)=>f cs
 | _=>none
def aah {β:Type} (s:Option Slot) (x:Option β):Option β:=match s with
 | some .free=>x
 | _=>none
@[congr] theorem avn {β:Type} {s s':Option Slot} {f:List D→Option β} (h:s=s'):kM s f=kM s' f:=by rw [h]
@[congr] theorem anyM_congr {β:Type} {s s':Option Slot} {f:List D→Option β} (h:s=s'):anyM s f=anyM s' f:=by rw [h]
@[congr] theorem avm {β:Type} {s s':Option Slot} {x:Option β} (h:s=s'):aah s x=aah s' x:=by rw [h]
@[simp] theorem ayE {β:Type} (cs:List D) (f:List D→Option β):kM (some (.live cs)) f=f cs:=by rfl
@[simp] theorem ays {β:Type} (cs:List D) (f:List D→Option β):anyM (some (.live cs)) f=f cs:=by rfl
@[simp] theorem ayr {β:Type} (cs:List D) (f:List D→Option β):anyM (some (.iV cs)) f=f cs:=by rfl
@[simp] theorem ayu {β:Type} (x:Option β):aah (some .free) x=x:=by rfl
section
variable {m:Mem} {O:aC}
@[simp] theorem ay8 (d:D):ZG [d] m=some (d,m):=by rfl
@[simp] theorem ayk (x y:D):PG [.bool true,x,y] m=some (x,m):=by rfl
@[simp] theorem ayj (x y:D):PG [.bool false,x,y] m=some (y,m):=by rfl
@[simp] theorem ay1 (base j:Nat) (d:D):Zz base j [d] m=bd (fK d) fun cs=>Bf base j cs (.loc (base+j) 0) m:=by rfl
@[simp] theorem ax6 (base j:Nat) (z:List D):N9 base j z [] m=Bf base j z (.loc (base+j) 0) m:=by rfl
@[simp] theorem ayZ (base j:Nat) (cs:List D) (d:D):Bf base j cs d m=aah (m[base+j]?) (some (d,m.set (base+j) (.live cs))):=by
  unfold Bf aah; split <;> simp_all
@[simp] theorem anx (b off:Nat):BP [.loc b off] m=bd (VD m (.loc b off)) fun r=>bd (r.1[r.2]?) fun d=>some (d,m):=by rfl
@[simp] theorem avS (cs:List D) (off:Nat):BP [.ref cs off] m=bd (cs[off]?) fun d=>some (d,m):=by rfl
@[simp] theorem ayf (cs:List D) (off:Nat):Oa [.ref cs off] m=bd (cs[off]?) fun d=>some (d,m):=by rfl
@[simp] theorem avT (n b off:Nat):J6 n [.loc b off] m=bd (VD m (.loc b off)) fun r=>bd (oU r.1 r.2 n) fun ds=>some (.agg ds,m):=by rfl
@[simp] theorem avU (n off:Nat) (cs:List D):J6 n [.ref cs off] m=bd (oU cs off n) fun ds=>some (.agg ds,m):=by rfl
@[simp] theorem asC (b off:Nat):VD m (.loc b off)=anyM (m[b]?) fun cs=>some (cs,off):=by
  rfl
@[simp] theorem atC (n b off:Nat) (d:D):Ea n [.loc b off,d] m=bd (fK d) fun cs=>kM (m[b]?) fun cells=>if cs.length=n∧off+n≤cells.length then some (.aZ [],m.set b (.live (CS cells off cs))) else none:=by
  unfold Ea bd kM; rfl
@[simp] theorem aw8 (cells:List D) (off:Nat):CS cells off []=cells:=by rfl
@[simp] theorem awk (cells:List D) (off:Nat) (d:D) (ds:List D):CS cells off (d::ds)=CS (cells.set off d) (off+1) ds:=by rfl
@[simp] theorem ayV (cells:List D) (off n:Nat):oU cells off n=if off+n≤cells.length then some ((cells.drop off).take n) else none:=by rfl
@[simp] theorem ax7 (z:List D) (ps:List (Nat×Nat)) (ds:List D):N_ z ps ds m=bd (qJ z ps ds) fun cs=>some (.agg cs,m):=by rfl
@[simp] theorem av4 (cells:List D):qJ cells [] []=some cells:=by rfl
@[simp] theorem avC (cells:List D) (off n:Nat) (ps:List (Nat×Nat)) (d:D) (ds:List D):qJ cells ((off,n)::ps) (d::ds)=bd (fK d) fun cs=>if cs.length=n∧off+n≤cells.length then qJ (CS cells off cs) ps ds else none:=by rfl
@[simp] theorem ay2 (len:Nat) (z:List D) (ps:List (Nat×Nat)) (ds:List D):ZA len z ps ds m=bif ds.all (D.clo 0 FZ) then bd (qJ (zeros len z) ps ds) fun cs=>some (.sl len cs,m) else none:=by rfl
@[simp] theorem ayI (base j esz len:Nat) (z:List D) (ps:List (Nat×Nat)) (ds:List D):Uw base j esz len z ps ds m=bd (qJ (zeros len z) ps ds) fun cs=>Bf base j cs (.bf (base+j) 0 len esz) m:=by rfl
@[simp] theorem avV (b off:Nat):J8 [.loc b off] m=some (.loc b off,m):=by rfl
@[simp] theorem avW (cs:List D) (off:Nat):J8 [.ref cs off] m=some (.ref cs off,m):=by rfl
@[simp] theorem avc (ds:List D):fK (.agg ds)=some ds:=by rfl
@[simp] theorem avd (k:IntKind) (n:Int):fK (.int k n)=some [.int k n]:=by rfl
@[simp] theorem aum (b:Bool):fK (.bool b)=some [.bool b]:=by rfl
@[simp] theorem avi (s:List UInt8):fK (.str s)=some [.str s]:=by rfl
@[simp] theorem avh (cs:List D) (o:Nat):fK (.ref cs o)=some [.ref cs o]:=by rfl
@[simp] theorem avo (n:Nat) (cs:List D):fK (.sl n cs)=some [.sl n cs]:=by rfl
@[simp] theorem aur:fK .aV=some [.aV]:=by rfl
@[simp] theorem aus:fK .cu=some [.cu]:=by rfl
@[simp] theorem aup:fK .aG=some [.aG]:=by rfl
@[simp] theorem aun (b:Nat):fK (.lmap b)=some [.lmap b]:=by rfl
@[simp] theorem auo (ks:List Int):fK (.sK ks)=some [.sK ks]:=by rfl
@[simp] theorem avg (b o:Nat):fK (.raw b o)=some [.raw b o]:=by rfl
@[simp] theorem auq:fK .zq=some [.zq]:=by rfl
@[simp] theorem ave (b o:Nat):fK (.loc b o)=some [.loc b o]:=by rfl
@[simp] theorem avf (b o l e:Nat):fK (.bf b o l e)=some [.bf b o l e]:=by rfl
@[simp] theorem auh (t:Nat) (d:D):fK (.iface t d)=some [.iface t d]:=by rfl
theorem Dc (k:IntKind):(k==k)=true:=by cases k <;> rfl
@[simp] theorem azc (k:IntKind) (a b:Int):gq .add [.int k a,.int k b] m=some (.int k (k.wrap (a+b)),m):=by simp [gq,Dc,aj]
@[simp] theorem axd (k:IntKind) (a b:Int):gq .sub [.int k a,.int k b] m=some (.int k (k.wrap (a-b)),m):=by simp [gq,Dc,aj]
@[simp] theorem azj (k:IntKind) (a b:Int):gq .mul [.int k a,.int k b] m=some (.int k (k.wrap (a*b)),m):=by simp [gq,Dc,aj]
@[simp] theorem au6 (k:IntKind) (a b:Int) (h:b≠0):gq .quo [.int k a,.int k b] m=some (.int k (k.wrap (a.tdiv b)),m):=by simp [gq,Dc,aj,h]
@[simp] theorem axa (k:IntKind) (a b:Int) (h:b≠0):gq .rem [.int k a,.int k b] m=some (.int k (a.tmod b),m):=by simp [gq,Dc,aj,h]
@[simp] theorem azd (k:IntKind) (a b:Int):gq .eql [.int k a,.int k b] m=some (.bool (decide (a=b)),m):=by
  simp only [gq,Dc,aj,cond_true,Option.bind_some]; congr 3
@[simp] theorem aw' (k:IntKind) (a b:Int):gq .neq [.int k a,.int k b] m=some (.bool (!decide (a=b)),m):=by
  simp only [gq,Dc,aj,cond_true,Option.bind_some]; congr 3
@[simp] theorem azh (k:IntKind) (a b:Int):gq .lss [.int k a,.int k b] m=some (.bool (decide (a<b)),m):=by simp [gq,Dc,aj]
@[simp] theorem azg (k:IntKind) (a b:Int):gq .leq [.int k a,.int k b] m=some (.bool (decide (a≤b)),m):=by simp [gq,Dc,aj]
@[simp] theorem azf (k:IntKind) (a b:Int):gq .gtr [.int k a,.int k b] m=some (.bool (decide (b<a)),m):=by simp [gq,Dc,aj]
@[simp] theorem aze (k:IntKind) (a b:Int):gq .geq [.int k a,.int k b] m=some (.bool (decide (b≤a)),m):=by simp [gq,Dc,aj]
theorem au5 (k:IntKind) (a b:Int):gq .and [.int k a,.int k b] m=some (.int k (k.wrap (BitVec.ofInt k.bits a &&& BitVec.ofInt k.bits b).toNat),m):=by simp [gq,Dc,aj]
theorem rOr (k:IntKind) (a b:Int):gq .or [.int k a,.int k b] m=some (.int k (k.wrap (BitVec.ofInt k.bits a ||| BitVec.ofInt k.bits b).toNat),m):=by simp [gq,Dc,aj]
theorem axb (k k':IntKind) (a b:Int) (h:0≤b):tK true [.int k a,.int k' b] m=some (.int k (k.wrap (a*2^(min b.toNat k.bits))),m):=by simp [tK,shI,Int.not_lt.2 h]
theorem au7 (k k':IntKind) (a b:Int) (h:0≤b):tK false [.int k a,.int k' b] m=some (.int k (a.fdiv (2^(min b.toNat k.bits))),m):=by simp [tK,shI,Int.not_lt.2 h]
@[simp] theorem awm (a b:List UInt8):E8 .add [.str a,.str b] m=if a.length+b.length≤maxStr then some (.str (a++b),m) else none:=by
  simp only [E8,Ev.eX]; split <;> rfl
@[simp] theorem awn (a b:List UInt8):E8 .eql [.str a,.str b] m=some (.bool (decide (a=b)),m):=by
  simp only [E8,Ev.eX,Option.bind_some]; congr 3; rw [Bool.eq_iff_iff]; simp
@[simp] theorem awo (a b:List UInt8):E8 .neq [.str a,.str b] m=some (.bool (!decide (a=b)),m):=by
  simp only [E8,Ev.eX,Option.bind_some]; congr 3; rw [Bool.eq_iff_iff]; simp
@[simp] theorem ay4 (n a b:Bool):ZC n [.bool a,.bool b] m=some (.bool ((a==b) != n),m):=by rfl
@[simp] theorem ayd (n:Bool):U7 n [.aV,.aV] m=some (.bool (true != n),m):=by rfl
@[simp] theorem aye (n:Bool) (cs:List D) (o:Nat):U7 n [.ref cs o,.aV] m=some (.bool (false != n),m):=by rfl
@[simp] theorem ayc (n:Bool) (b o:Nat):U7 n [.loc b o,.aV] m=some (.bool (false != n),m):=by rfl
@[simp] theorem ayb (n:Bool):U6 n true [.aG,.aG] m=some (.bool (true != n),m):=by rfl
@[simp] theorem ax' (n c:Bool) (t:Nat) (d:D):U6 n c [.iface t d,.aG] m=some (.bool (false != n),m):=by rfl
@[simp] theorem aya (n c:Bool) (t:Nat) (d:D):U6 n c [.aG,.iface t d] m=some (.bool (false != n),m):=by rfl
@[simp] theorem ay3 (n:Bool) (ks:List Nat) (xs ys:List D):ZB n ks [.agg xs,.agg ys] m=bd (eF ks xs ys) fun r=>some (.bool (r != n),m):=by rfl
@[simp] theorem axI:eF [] [] []=some true:=by rfl
@[simp] theorem axH (ks:List Nat) (xs ys:List D) (k:IntKind) (a b:Int):eF (1::ks) (.int k a::xs) (.int k b::ys)=bd (eF ks xs ys) fun r=>some (decide (a=b) && r):=by
  simp only [eF,Dc,cond_true,bd]; congr 1
@[simp] theorem awS (ks:List Nat) (xs ys:List D) (a b:Bool):eF (0::ks) (.bool a::xs) (.bool b::ys)=bd (eF ks xs ys) fun r=>some ((a==b) && r):=by rfl
@[simp] theorem axJ (ks:List Nat) (xs ys:List D) (a b:List UInt8):eF (2::ks) (.str a::xs) (.str b::ys)=bd (eF ks xs ys) fun r=>some ((a==b) && r):=by rfl
@[simp] theorem ay9 (k:IntKind) (a:Int):ZH [.int k a] m=some (.int k (k.wrap (0-a)),m):=by rfl
@[simp] theorem ay_ (b:Bool):ZI [.bool b] m=some (.bool (!b),m):=by rfl
@[simp] theorem ayJ (k k':IntKind) (n:Int):Ux k [.int k' n] m=some (.int k (k.wrap n),m):=by rfl
@[simp] theorem ayO (t:Nat) (d:D):Uz t [d] m=some (.iface t d,m):=by rfl
@[simp] theorem awp (off b o:Nat):Px off [.loc b o] m=some (.loc b (o+off),m):=by rfl
@[simp] theorem awq (off o:Nat) (cs:List D):Px off [.ref cs o] m=some (.ref cs (o+off),m):=by rfl
@[simp] theorem arh (esz len:Nat) (cs:List D) (k:IntKind) (i:Int) (h:0≤i∧i<len):H6 esz [.sl len cs,.int k i] m=some (.ref cs (i.toNat*esz),m):=by simp [H6,h]
@[simp] theorem apn (esz b off len e:Nat) (k:IntKind) (i:Int) (h:0≤i∧i<len):H6 esz [.bf b off len e,.int k i] m=some (.loc b (off+i.toNat*esz),m):=by simp [H6,h]
@[simp] theorem avP (esz b off len:Nat) (k:IntKind) (i:Int) (h:0≤i∧i<len):D_ esz len [.loc b off,.int k i] m=some (.loc b (off+i.toNat*esz),m):=by simp [D_,h]
@[simp] theorem avQ (esz off len:Nat) (cs:List D) (k:IntKind) (i:Int) (h:0≤i∧i<len):D_ esz len [.ref cs off,.int k i] m=some (.ref cs (off+i.toNat*esz),m):=by simp [D_,h]
@[simp] theorem ayK (s:List UInt8) (k:IntKind) (i:Int) (h:0≤i):Py [.str s,.int k i] m=bd (s[i.toNat]?) fun b=>some (.int .u8 b.toNat,m):=by simp [Py,h,bd]
@[simp] theorem ay6 (i:Nat) (ds:List D):ZF i [.agg ds] m=bd (ds[i]?) fun d=>some (d,m):=by rfl
@[simp] theorem ay5 (i:Nat) (ds:List D):ZE i [.aZ ds] m=bd (ds[i]?) fun d=>some (d,m):=by rfl
@[simp] theorem ayN (s:List UInt8):Uy [.str s] m=some (.int .i64 s.length,m):=by rfl
@[simp] theorem aw_ (len:Nat) (cs:List D):J5 [.sl len cs] m=some (.int .i64 len,m):=by rfl
@[simp] theorem avR:J5 [.cu] m=some (.int .i64 0,m):=by rfl
@[simp] theorem awr (b o len e:Nat):J5 [.bf b o len e] m=some (.int .i64 len,m):=by rfl
@[simp] theorem azi (k k':IntKind) (a b:Int):rMn [.int k a,.int k' b] m=some (.int k (min a b),m):=by
  simp only [rMn]; congr 3; omega
@[simp] theorem azk (k k':IntKind) (a b:Int):rMx [.int k a,.int k' b] m=some (.int k (max a b),m):=by
  simp only [rMx]; congr 3; omega
@[simp] theorem ayP (base j esz:Nat) (z:List D) (k k':IntKind) (n:Int) (h:0≤n∧n≤4294967296):PD base j esz z [.int k n,.int k' n] m=Bf base j (zeros n.toNat z) (.bf (base+j) 0 n.toNat esz) m:=by simp [PD,yt,h]
@[simp] theorem ay' (lo hi:Bool) (s:List UInt8) (xs:List D):ZJ lo hi (.str s::xs) m=bd (lG lo hi s.length xs) fun r=>some (.str ((s.drop r.1).take (r.2-r.1)),m):=by rfl
@[simp] theorem ayl (esz len:Nat) (lo hi:Bool) (cs xs:List D):Rq esz lo hi (.sl len cs::xs) m=bd (lG lo hi len xs) fun r=>bd (oU cs (r.1*esz) ((r.2-r.1)*esz)) fun cs'=>some (.sl (r.2-r.1) cs',m):=by rfl
@[simp] theorem aws (esz:Nat) (lo hi:Bool) (xs:List D):Rq esz lo hi (.cu::xs) m=bd (lG lo hi 0 xs) fun r=>some (.cu,m):=by rfl
@[simp] theorem axc (esz b off len:Nat) (lo hi:Bool) (xs:List D):Rq esz lo hi (.bf b off len esz::xs) m=bd (lG lo hi len xs) fun r=>some (.bf b (off+r.1*esz) (r.2-r.1) esz,m):=by simp [Rq,bd]
@[simp] theorem axu (len:Nat):lG false false len []=some (0,len):=by rfl
@[simp] theorem axw (len:Nat) (k:IntKind) (x:Int) (h:0≤x∧x≤len):lG true false len [.int k x]=some (x.toNat,len):=by simp [lG,bnd,h]
@[simp] theorem axv (len:Nat) (k:IntKind) (y:Int) (h:0≤y∧y≤len):lG false true len [.int k y]=some (0,y.toNat):=by simp [lG,bnd,h]
@[simp] theorem axx (len:Nat) (k k':IntKind) (x y:Int) (h:0≤x∧x≤y∧y≤len):lG true true len [.int k x,.int k' y]=some (x.toNat,y.toNat):=by
  have h1:x≤(y.toNat:Int):=by omega
  have h2:0≤y:=by omega
  simp only [lG,bnd,Option.bind_some]
  rw [if_pos ⟨h2,h.2.2⟩]
  simp only [Option.bind_some]
  rw [if_pos ⟨h.1,h1⟩]
  rfl
@[simp] theorem axg (e:Nat):slc m e .cu=some ([],0,0):=by rfl
@[simp] theorem ayU (e len:Nat) (cs:List D):slc m e (.sl len cs)=some (cs,0,len):=by rfl
@[simp] theorem ayn (b off len e:Nat):slc m e (.bf b off len e)=anyM (m[b]?) fun cs=>some (cs,off,len):=by
  simp only [slc,Nat.beq_refl,cond_true]; unfold anyM; split <;> simp_all
@[simp] theorem ay0 (x:D):ab_ [x] m=bd (slc m 1 x) fun r=>bd (oU r.1 r.2.1 r.2.2) fun cs=>bd (bytesOf cs) fun bs=>some (.str bs,m):=by rfl
@[simp] theorem awl (base j esz:Nat) (x:D):Xu base j esz [.cu,x] m=bd (slc m esz x) fun rx=>bd (oU rx.1 rx.2.1 (rx.2.2*esz)) fun news=>if rx.2.2=0 then some (.cu,m) else if rx.2.2≤yt then Bf base j news (.bf (base+j) 0 rx.2.2 esz) m else none:=by rfl
@[simp] theorem aw9 (base j esz b off len:Nat) (x:D):Xu base j esz [.bf b off len esz,x] m=bd (slc m esz x) fun rx=>bd (oU rx.1 rx.2.1 (rx.2.2*esz)) fun news=>kM (m[b]?) fun cells=>bd (oU cells off (len*esz)) fun olds =>
        if len+rx.2.2≤yt then Bf base j (olds++news) (.bf (base+j) 0 (len+rx.2.2) esz) (m.set b .dead) else none:=by
  simp only [Xu,Nat.beq_refl,cond_true,bd]; rfl
@[simp] theorem ax8 (f:Nat) (args:List D):uI O f args m=bif args.all (D.clo 0 FZ) then bd (O.call f args) fun d=>some (d,m) else none:=by rfl
@[simp] theorem ax9 (f:Nat) (args:List D):yT O f args m=bd (jE (fz FZ) args m) fun r=>bd (O.call f r.1) fun d=>some (d,r.2):=by rfl
def mpM {β:Type} (s:Option Slot) (f:List Int→Option β):Option β:=match s with
 | some (.mp ks)=>f ks
 | _=>none
@[congr] theorem awi {β:Type} {s s':Option Slot} {f:List Int→Option β} (h:s=s'):mpM s f=mpM s' f:=by rw [h]
@[simp] theorem azb {β:Type} (ks:List Int) (f:List Int→Option β):mpM (some (.mp ks)) f=f ks:=by rfl
@[simp] theorem ay7 (base j:Nat):Xv base j [] m=aah (m[base+j]?) (some (.lmap (base+j),m.set (base+j) (.mp []))):=by
  rfl
@[simp] theorem ayQ (b:Nat) (k:Int):PE [.lmap b,.int .i64 k,.bool true] m=mpM (m[b]?) fun ks=>some (.aZ [],m.set b (.mp (Zf ks k))):=by
  unfold PE mpM; rfl
@[simp] theorem ayh (b:Nat) (k:Int):J7 [.lmap b,.int .i64 k] m=mpM (m[b]?) fun ks=>some (.bool (ks.contains k),m):=by
  unfold J7 mpM; rfl
@[simp] theorem ayg (ks:List Int) (k:Int):J7 [.sK ks,.int .i64 k] m=some (.bool (ks.contains k),m):=by rfl
@[simp] theorem ayi (k:Int):J7 [.zq,.int .i64 k] m=some (.bool false,m):=by rfl
@[simp] theorem axQ (n b:Nat):fz (n+1) (.lmap b) m=mpM (m[b]?) fun ks=>some (.sK ks,m.set b .dead):=by
  simp only [fz]; unfold mpM; rfl
@[simp] theorem avJ {α:Type} (i:Nat) (e:α) (r:List (Nat×α)) (n:Nat):zJ ((i,e)::r) n=if i=n then some e else zJ r n:=by
  simp only [zJ,cond_eq_ite]
  by_cases h:i=n
  ·subst h; simp
  ·rw [if_neg (fun e=>h (Nat.eq_of_beq_eq_true e)),if_neg h]
@[simp] theorem awt (t:Nat) (z:D):NG t z [.aG] m=some (.aZ [z,.bool false],m):=by rfl
@[simp] theorem ayS (t u:Nat) (z d:D):NG t z [.iface u d] m=if u=t then some (.aZ [d,.bool true],m) else some (.aZ [z,.bool false],m):=by
  simp only [NG,cond_eq_ite]
  by_cases h:u=t
  ·subst h; simp
  ·rw [if_neg (fun e=>h (Nat.eq_of_beq_eq_true e)),if_neg h]
@[simp] theorem awu (tab:List (Nat×Bool)):PI tab [.aG] m=some (.aZ [.aG,.bool false],m):=by rfl
@[simp] theorem ayT (tab:List (Nat×Bool)) (u:Nat) (d:D):PI tab [.iface u d] m=bd (zJ tab u) fun b=>bif b then some (.aZ [.iface u d,.bool true],m) else some (.aZ [.aG,.bool false],m):=by rfl
@[simp] theorem ayL (tab:List (Nat×Nat)) (u:Nat) (d:D) (args:List D):ND O tab (.iface u d::args) m=bd (zJ tab u) fun f=>uI O f (d::args) m:=by rfl
@[simp] theorem ayM (tab:List (Nat×Nat)) (u:Nat) (d:D) (args:List D):Pz O tab (.iface u d::args) m=bd (zJ tab u) fun f=>yT O f (d::args) m:=by rfl
@[simp] theorem ax_ (f:Nat) (cap args:List D):J4 O (.func f cap::args) m=bd (jE (fz FZ) (args++cap) m) fun r=>bd (O.call f r.1) fun d=>some (d,r.2):=by rfl
@[simp] theorem aw7:yt=4294967296:=by rfl
@[simp] theorem ax5:maxStr=1099511627776:=by rfl
def fzM {β:Type} (s:Option Slot) (f g:List D→Option β):Option β:=match s with
 | some (.iV cs)=>f cs
 | some (.live cs)=>g cs
 | _=>none
@[congr] theorem av_ {β:Type} {s s':Option Slot} {f g:List D→Option β} (h:s=s'):fzM s f g=fzM s' f g:=by rw [h]
@[simp] theorem ayW {β:Type} (cs:List D) (f g:List D→Option β):fzM (some (.iV cs)) f g=f cs:=by rfl
@[simp] theorem ayX {β:Type} (cs:List D) (f g:List D→Option β):fzM (some (.live cs)) f g=g cs:=by rfl
@[simp] theorem atl (f:D→Mem→Option (D×Mem)):jE f [] m=some ([],m):=by rfl
@[simp] theorem aqT (f:D→Mem→Option (D×Mem)) (d:D) (ds:List D):jE f (d::ds) m=bd (f d m) fun r=>bd (jE f ds r.2) fun rs=>some (r.1::rs.1,rs.2):=by rfl
@[simp] theorem ayw (n:Nat) (k:IntKind) (x:Int):fz (n+1) (.int k x) m=some (.int k x,m):=by rfl
@[simp] theorem axO (n:Nat) (b:Bool):fz (n+1) (.bool b) m=some (.bool b,m):=by rfl
@[simp] theorem ayB (n:Nat) (s:List UInt8):fz (n+1) (.str s) m=some (.str s,m):=by rfl
@[simp] theorem axU (n:Nat):fz (n+1) .aV m=some (.aV,m):=by rfl
@[simp] theorem axV (n:Nat):fz (n+1) .cu m=some (.sl 0 [],m):=by rfl
@[simp] theorem axS (n:Nat):fz (n+1) .aG m=some (.aG,m):=by rfl
@[simp] theorem axR (n:Nat) (ks:List Int):fz (n+1) (.sK ks) m=some (.sK ks,m):=by rfl
@[simp] theorem ayz (n b o:Nat):fz (n+1) (.raw b o) m=some (.raw b o,m):=by rfl
@[simp] theorem axT (n:Nat):fz (n+1) .zq m=some (.zq,m):=by rfl
@[simp] theorem ayA (n:Nat) (cs:List D) (o:Nat):fz (n+1) (.ref cs o) m=some (.ref cs o,m):=by rfl
@[simp] theorem ayY (n len:Nat) (cs:List D):fz (n+1) (.sl len cs) m=some (.sl len cs,m):=by rfl
@[simp] theorem ayv (n:Nat) (ds:List D):fz (n+1) (.agg ds) m=bd (jE (fz n) ds m) fun r=>some (.agg r.1,r.2):=by rfl
@[simp] theorem ayC (n:Nat) (ds:List D):fz (n+1) (.aZ ds) m=bd (jE (fz n) ds m) fun r=>some (.aZ r.1,r.2):=by rfl
@[simp] theorem axP (n f:Nat) (ds:List D):fz (n+1) (.func f ds) m=bd (jE (fz n) ds m) fun r=>some (.func f r.1,r.2):=by rfl
@[simp] theorem awW (n t:Nat) (d:D):fz (n+1) (.iface t d) m=bd (fz n d m) fun r=>some (.iface t r.1,r.2):=by rfl
@[simp] theorem ayx (n b off:Nat):fz (n+1) (.loc b off) m=fzM (m[b]?) (fun cs=>some (.ref cs off,m)) (fun cs=>bd (jE (fz n) cs m) fun r=>kM (r.2[b]?) fun _=>some (.ref r.1 off,r.2.set b (.iV r.1))):=by
  simp only [fz,fzM,bd]; split <;> simp_all; congr 1
@[simp] theorem ayy (n b off len esz:Nat):fz (n+1) (.bf b off len esz) m=fzM (m[b]?) (fun cs=>bd (oU cs off (len*esz)) fun ds=>some (.sl len ds,m)) (fun cs=>bd (jE (fz n) cs m) fun r=>kM (r.2[b]?) fun _=>bd (oU r.1 off (len*esz)) fun ds=>some (.sl len ds,r.2.set b (.iV r.1))):=by
  simp only [fz,fzM,bd]; split <;> simp_all; congr 1
@[simp] theorem FZ_:FZ=12:=by rfl
@[simp] theorem aza (r:D×Mem):fin r=bd (fz FZ r.1 r.2) fun s=>some s.1:=by rfl
@[simp] theorem awH (x:RV):Option.bind x fin=bd x fin:=by rfl
@[simp] theorem axz (b n:Nat) (k:IntKind) (x:Int):D.clo b (n+1) (.int k x)=true:=by rfl
@[simp] theorem awJ (b n:Nat) (x:Bool):D.clo b (n+1) (.bool x)=true:=by rfl
@[simp] theorem axF (b n:Nat) (x:List UInt8):D.clo b (n+1) (.str x)=true:=by rfl
@[simp] theorem awP (b n:Nat):D.clo b (n+1) .aV=true:=by rfl
@[simp] theorem awQ (b n:Nat):D.clo b (n+1) .cu=true:=by rfl
@[simp] theorem awN (b n:Nat):D.clo b (n+1) .aG=true:=by rfl
@[simp] theorem awL (b n i:Nat):D.clo b (n+1) (.lmap i)=decide (i<b):=by rfl
@[simp] theorem awM (b n:Nat) (ks:List Int):D.clo b (n+1) (.sK ks)=true:=by rfl
@[simp] theorem axD (b n i o:Nat):D.clo b (n+1) (.raw i o)=true:=by rfl
@[simp] theorem awO (b n:Nat):D.clo b (n+1) .zq=true:=by rfl
@[simp] theorem axE (b n o:Nat) (cs:List D):D.clo b (n+1) (.ref cs o)=true:=by rfl
@[simp] theorem ayt (b n l:Nat) (cs:List D):D.clo b (n+1) (.sl l cs)=true:=by rfl
@[simp] theorem axA (b n i o:Nat):D.clo b (n+1) (.loc i o)=decide (i<b):=by rfl
@[simp] theorem axB (b n i o l e:Nat):D.clo b (n+1) (.bf i o l e)=decide (i<b):=by rfl
@[simp] theorem axy (b n:Nat) (ds:List D):D.clo b (n+1) (.agg ds)=ds.all (D.clo b n):=by rfl
@[simp] theorem axG (b n:Nat) (ds:List D):D.clo b (n+1) (.aZ ds)=ds.all (D.clo b n):=by rfl
@[simp] theorem awK (b n f:Nat) (ds:List D):D.clo b (n+1) (.func f ds)=ds.all (D.clo b n):=by rfl
@[simp] theorem av2 (b n t:Nat) (d:D):D.clo b (n+1) (.iface t d)=D.clo b n d:=by rfl
def ML (base:Nat) (s:Slot):Bool:=match s with
 | .live cs=>cs.all (D.clo base FZ)
 | _=>true
@[simp] theorem awy (base:Nat) (cs:List D):ML base (.live cs)=cs.all (D.clo base FZ):=by rfl
@[simp] theorem awx (base:Nat) (cs:List D):ML base (.iV cs)=true:=by rfl
@[simp] theorem aym (base:Nat) (ks:List Int):ML base (.mp ks)=true:=by rfl
@[simp] theorem awv (base:Nat):ML base .dead=true:=by rfl
@[simp] theorem aww (base:Nat):ML base .free=true:=by rfl
@[simp] theorem gc_ (base:Nat) (vals:List D):gc base vals m=bif decide (base≤m.length) && (m.take base).all (ML base) then fU base m vals [] (m.take base) else none:=by
  unfold gc; congr 3
variable {base:Nat} {got:List Nat} {acc:Mem} {ds:List D}
@[simp] theorem axZ:fU base m [] got acc=some ([],acc):=by rfl
@[simp] theorem axX (k:IntKind) (x:Int):fU base m (.int k x::ds) got acc=bd (fU base m ds got acc) fun r=>some (.int k x::r.1,r.2):=by rfl
@[simp] theorem awX (x:Bool):fU base m (.bool x::ds) got acc=bd (fU base m ds got acc) fun r=>some (.bool x::r.1,r.2):=by rfl
@[simp] theorem ax2 (x:List UInt8):fU base m (.str x::ds) got acc=bd (fU base m ds got acc) fun r=>some (.str x::r.1,r.2):=by rfl
@[simp] theorem aw2:fU base m (.aV::ds) got acc=bd (fU base m ds got acc) fun r=>some (.aV::r.1,r.2):=by rfl
@[simp] theorem aw3:fU base m (.cu::ds) got acc=bd (fU base m ds got acc) fun r=>some (.cu::r.1,r.2):=by rfl
@[simp] theorem aw0:fU base m (.aG::ds) got acc=bd (fU base m ds got acc) fun r=>some (.aG::r.1,r.2):=by rfl
@[simp] theorem awZ (ks:List Int):fU base m (.sK ks::ds) got acc=bd (fU base m ds got acc) fun r=>some (.sK ks::r.1,r.2):=by rfl
@[simp] theorem ax0 (b o:Nat):fU base m (.raw b o::ds) got acc=bd (fU base m ds got acc) fun r=>some (.raw b o::r.1,r.2):=by rfl
@[simp] theorem aw1:fU base m (.zq::ds) got acc=bd (fU base m ds got acc) fun r=>some (.zq::r.1,r.2):=by rfl
@[simp] theorem awc:fU base m (.undef::ds) got acc=bd (fU base m ds got acc) fun r=>some (.undef::r.1,r.2):=by rfl
@[simp] theorem ax1 (cs:List D) (o:Nat):fU base m (.ref cs o::ds) got acc=bd (fU base m ds got acc) fun r=>some (.ref cs o::r.1,r.2):=by rfl
@[simp] theorem ayD (l:Nat) (cs:List D):fU base m (.sl l cs::ds) got acc=bd (fU base m ds got acc) fun r=>some (.sl l cs::r.1,r.2):=by rfl
@[simp] theorem axW (cs:List D):fU base m (.agg cs::ds) got acc=bif D.clo base FZ (.agg cs) then bd (fU base m ds got acc) fun r=>some (.agg cs::r.1,r.2) else none:=by rfl
@[simp] theorem ax3 (cs:List D):fU base m (.aZ cs::ds) got acc=bif D.clo base FZ (.aZ cs) then bd (fU base m ds got acc) fun r=>some (.aZ cs::r.1,r.2) else none:=by rfl
@[simp] theorem awY (f:Nat) (cs:List D):fU base m (.func f cs::ds) got acc=bif D.clo base FZ (.func f cs) then bd (fU base m ds got acc) fun r=>some (.func f cs::r.1,r.2) else none:=by rfl
def gmv (base:Nat) (m:Mem) (t:Nat) (d':D) (ds:List D) (got:List Nat) (acc:Mem):Option (List D×Mem):=match d' with
 | .loc b off=>bif got.contains b then none else kM (m[b]?) fun cs=>bif cs.all (D.clo base FZ) then bd (fU base m ds (b::got) (acc++[.live cs])) fun r=>some (.iface t (.loc acc.length off)::r.1,r.2) else none
 | _=>none
@[simp] theorem ax4 (t b off:Nat):gmv base m t (.loc b off) ds got acc=bif got.contains b then none else kM (m[b]?) fun cs=>bif cs.all (D.clo base FZ) then bd (fU base m ds (b::got) (acc++[.live cs])) fun r=>some (.iface t (.loc acc.length off)::r.1,r.2) else none:=by rfl
@[simp] theorem av' (t:Nat) (d:D):fU base m (.iface t d::ds) got acc=bif D.clo base FZ (.iface t d) then bd (fU base m ds got acc) fun r=>some (.iface t d::r.1,r.2) else gmv base m t d ds got acc:=by
  cases d <;> first | rfl | (rw [fU]; rfl)
@[simp] theorem axY (b off:Nat):fU base m (.loc b off::ds) got acc=if b<base then bd (fU base m ds got acc) fun r=>some (.loc b off::r.1,r.2)
      else bif got.contains b then none else kM (m[b]?) fun cs=>bif cs.all (D.clo base FZ) then bd (fU base m ds (b::got) (acc++[.live cs])) fun r=>some (.loc acc.length off::r.1,r.2) else none:=by
  rw [fU]; rfl
@[simp] theorem atm (b off len esz:Nat):fU base m (.bf b off len esz::ds) got acc=if b<base then bd (fU base m ds got acc) fun r=>some (.bf b off len esz::r.1,r.2)
      else bif got.contains b then none else kM (m[b]?) fun cs=>bif cs.all (D.clo base FZ) then bd (fU base m ds (b::got) (acc++[.live cs])) fun r=>some (.bf acc.length off len esz::r.1,r.2) else none:=by
  rw [fU]; rfl
@[simp] theorem axm (d:D):KC ([d],m)=(d,m):=by rfl
@[simp] theorem axl:KC ([],m)=(.aZ [],m):=by rfl
@[simp] theorem axn (d d':D) (ds:List D):KC (d::d'::ds,m)=(.aZ (d::d'::ds),m):=by rfl
@[simp] theorem axp (e:Env):Dv e m []=some []:=by rfl
@[simp] theorem awz (e:Env) (r:ER) (rs:List ER):Dv e m (r::rs)=bd (r.get e m) fun d=>bd (Dv e m rs) fun ds=>some (d::ds):=by rfl
@[simp] theorem ayo (e:Env) (t:Nat):(ER.tmp t).get e m=look e t:=by rfl
@[simp] theorem axo (e:Env) (t n:Nat) (agg:Bool):(ER.cell t agg n).get e m=bd (look e t) fun a=>bd (VD m a) fun r=>bif agg then bd (oU r.1 r.2 n) fun ds=>some (.agg ds) else r.1[r.2]?:=by rfl
theorem beq_lit (n m:Nat):Nat.beq n m=decide (n=m):=by
 cases h:Nat.beq n m with
 | true=>simp [Nat.eq_of_beq_eq_true h]
 | false=>exact (decide_eq_false fun e=>by rw [e,Nat.beq_refl] at h; cases h).symm
@[simp] theorem awg (e:Env) (t x:Nat) (d:D):look ((t,d)::e) x=if t=x then some d else look e x:=by
  simp only [look,beq_lit]; by_cases h:t=x <;> simp [h]
@[simp] theorem avw (i j:Nat):KO i (.exit j)=if j=i then .normal else .exit j:=by
  simp only [KO,beq_lit]; by_cases h:j=i <;> simp [h]
theorem qP (n:Nat) (d:D):zeros n [d]=List.replicate n d:=by
 unfold zeros
 apply List.ext_getElem <;> simp
 intro i h; simp [Nat.mod_one]
theorem wrap64 (x:Int) (h : -9223372036854775808≤x∧x≤9223372036854775807):IntKind.i64.wrap x=x:=by
 simp [IntKind.wrap,IntKind.signed,IntKind.bits,IntKind.min,IntKind.max] <;> omega
end
end Go.Ev
