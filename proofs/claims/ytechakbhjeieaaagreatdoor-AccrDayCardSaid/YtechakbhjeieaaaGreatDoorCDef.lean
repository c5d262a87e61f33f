/- Part of accrDay_card. -/
import Derived.Stop.Asserts
import Derived.Test.YtechakbhjeieaaaGreatDoorCBase
set_option linter.unusedVariables false
section
namespace Go.Ev
abbrev Env:=List (Nat×D)
def look:Env→Nat→Option D
 | [],_=>none
 | (t,d)::e,x=>bif Nat.beq t x then some d else look e x
inductive BN where
 | t (n:Nat)
 | k (d:D)
 deriving Inhabited
def BN.ev (e:Env):BN→Option D
 | .t n=>look e n
 | .k d=>some d
def D.one:D→Bool
 | .undef | .agg _ | .bg _=>false
 | _=>true
def fO:D→Option (List D)
 | .agg ds=>some ds
 | .undef | .bg _=>none
 | d=>some [d]
def D.clo (n:Nat):Nat→D→Bool
 | 0,_=>false
 | f+1,d=>match d with
   | .undef=>false
   | .loc b _ | .bf b _ _ _ | .lmap b=>decide (b<n)
   | .agg ds | .bg ds | .func _ ds=>ds.all (D.clo n f)
   | .iface _ d=>D.clo n f d
   | _=>true
inductive Ex where
 | normal
 | exit (id:Nat)
 | ret
 deriving Inhabited
def V9 (m:Mem):D→Option (List D×Nat)
 | .loc b off=>match m[b]? with
   | some (.live cs) | some (.jh cs)=>some (cs,off)
   | _=>none
 | .ref cs off=>some (cs,off)
 | _=>none
def slc (m:Mem) (esz:Nat):D→Option (List D×Nat×Nat)
 | .bH=>some ([],0,0)
 | .sl len cs=>some (cs,0,len)
 | .bf b off len e=>bif Nat.beq e esz then (match m[b]? with
   | some (.live cs) | some (.jh cs)=>some (cs,off,len)
   | _=>none) else none
 | _=>none
def cu (cells:List D) (off:Nat):List D→List D
 | []=>cells
 | d::ds=>cu (cells.set off d) (off+1) ds
def qI (cells:List D) (off n:Nat):Option (List D) :=
 if off+n≤cells.length then some ((cells.drop off).take n) else none
def lG (f:D→Mem→Option (D×Mem)):List D→Mem→Option (List D×Mem)
 | [],m=>some ([],m)
 | d::ds,m=>(f d m).bind fun r=>(lG f ds r.2).bind fun rs=>some (r.1::rs.1,rs.2)
def fz:Nat→D→Mem→Option (D×Mem)
 | 0,_,_=>none
 | n+1,d,m=>match d with
   | .undef=>none
   | .loc b off=>match m[b]? with
     | some (.jh cs)=>some (.ref cs off,m)
     | some (.live cs)=>(lG (fz n) cs m).bind fun r=>match r.2[b]? with
       | some (.live _)=>some (.ref r.1 off,r.2.set b (.jh r.1))
       | _=>none
     | _=>none
   | .bf b off len esz=>match m[b]? with
     | some (.jh cs)=>(qI cs off (len*esz)).bind fun ds=>some (.sl len ds,m)
     | some (.live cs)=>(lG (fz n) cs m).bind fun r=>match r.2[b]? with
       | some (.live _)=>(qI r.1 off (len*esz)).bind fun ds=>some (.sl len ds,r.2.set b (.jh r.1))
       | _=>none
     | _=>none
   | .agg ds=>(lG (fz n) ds m).bind fun r=>some (.agg r.1,r.2)
   | .bg ds=>(lG (fz n) ds m).bind fun r=>some (.bg r.1,r.2)
   | .func f ds=>(lG (fz n) ds m).bind fun r=>some (.func f r.1,r.2)
   | .iface t d=>(fz n d m).bind fun r=>some (.iface t r.1,r.2)
   | .bH=>some (.sl 0 [],m)
   | .lmap b=>match m[b]? with
     | some (.mp ks)=>some (.uN ks,m.set b .dead)
     | _=>none
   | d=>some (d,m)
def FZ:Nat:=12
def fZ (base:Nat) (m:Mem):List D→List Nat→Mem→Option (List D×Mem)
 | [],_,acc=>some ([],acc)
 | d::ds,got,acc=>match d with
   | .bf b off len esz =>
     if b<base then (fZ base m ds got acc).bind fun r=>some (.bf b off len esz::r.1,r.2)
     else bif got.contains b then none else match m[b]? with
      | some (.live cs)=>bif cs.all (D.clo base FZ) then (fZ base m ds (b::got) (acc++[.live cs])).bind fun r=>some (.bf acc.length off len esz::r.1,r.2) else none
      | _=>none
   | .loc b off =>
     if b<base then (fZ base m ds got acc).bind fun r=>some (.loc b off::r.1,r.2)
     else bif got.contains b then none else match m[b]? with
      | some (.live cs)=>bif cs.all (D.clo base FZ) then (fZ base m ds (b::got) (acc++[.live cs])).bind fun r=>some (.loc acc.length off::r.1,r.2) else none
      | _=>none
   | .undef=>(fZ base m ds got acc).bind fun r=>some (.undef::r.1,r.2)
   | .iface t d'=>bif D.clo base FZ (.iface t d') then (fZ base m ds got acc).bind fun r=>some (.iface t d'::r.1,r.2) else match d' with
     | .loc b off=>bif got.contains b then none else match m[b]? with
       | some (.live cs)=>bif cs.all (D.clo base FZ) then (fZ base m ds (b::got) (acc++[.live cs])).bind fun r=>some (.iface t (.loc acc.length off)::r.1,r.2) else none
       | _=>none
     | _=>none
   | d=>bif D.clo base FZ d then (fZ base m ds got acc).bind fun r=>some (d::r.1,r.2) else none
def gc (base:Nat) (vals:List D) (m:Mem):Option (List D×Mem) :=
 bif decide (base≤m.length) && (m.take base).all (fun s=>match s with | .live cs=>cs.all (D.clo base FZ) | _=>true) then fZ base m vals [] (m.take base) else none
def aj (op:BinOp) (k:IntKind) (a b:Int):Option D :=
 match op with
 | .add=>some (.int k (k.wrap (a+b)))
 | .sub=>some (.int k (k.wrap (a-b)))
 | .mul=>some (.int k (k.wrap (a*b)))
 | .quo=>if b=0 then none else some (.int k (k.wrap (a.tdiv b)))
 | .rem=>if b=0 then none else some (.int k (a.tmod b))
 | .and=>some (.int k (k.wrap (BitVec.ofInt k.bits a &&& BitVec.ofInt k.bits b).toNat))
 | .or=>some (.int k (k.wrap (BitVec.ofInt k.bits a ||| BitVec.ofInt k.bits b).toNat))
 | .xor=>some (.int k (k.wrap (BitVec.ofInt k.bits a ^^^ BitVec.ofInt k.bits b).toNat))
 | .andNot=>some (.int k (k.wrap (BitVec.ofInt k.bits a &&& ~~~ BitVec.ofInt k.bits b).toNat))
 | .shl | .shr=>none
 | .eql=>some (.bool (a==b))
 | .neq=>some (.bool (a != b))
 | .lss=>some (.bool (a<b))
 | .leq=>some (.bool (a≤b))
 | .gtr=>some (.bool (a>b))
 | .geq=>some (.bool (a≥b))
def shI (left:Bool) (k:IntKind) (a b:Int):Option D :=
 if b<0 then none else bif left then some (.int k (k.wrap (a*2^(min b.toNat k.bits)))) else some (.int k (a.fdiv (2^(min b.toNat k.bits))))
def maxStr:Nat:=1099511627776
def gq (op:BinOp) (a b:List UInt8):Option D :=
 match op with
 | .add=>if a.length+b.length≤maxStr then some (.str (a++b)) else none
 | .eql=>some (.bool (a==b))
 | .neq=>some (.bool (!(a==b)))
 | .lss=>some (.bool (Op.bytesLess a b))
 | .leq=>some (.bool (Op.bytesLess a b || a==b))
 | .gtr=>some (.bool (!(Op.bytesLess a b || a==b)))
 | .geq=>some (.bool (!Op.bytesLess a b))
 | _=>none
def eF:List Nat→List D→List D→Option Bool
 | [],[],[]=>some true
 | 1::ks,.int k a::xs,.int k' b::ys=>bif k==k' then (eF ks xs ys).bind fun r=>some ((a==b) && r) else none
 | 0::ks,.bool a::xs,.bool b::ys=>(eF ks xs ys).bind fun r=>some ((a==b) && r)
 | 2::ks,.str a::xs,.str b::ys=>(eF ks xs ys).bind fun r=>some ((a==b) && r)
 | _,_,_=>none
inductive K where
 | aT
 | pick
 | box (j:Nat)
 | alloc (j:Nat) (z:List D)
 | ak
 | adO
 | aU (n:Nat)
 | store (n:Nat)
 | build (z:List D) (ps:List (Nat×Nat))
 | Em (esz len:Nat) (z:List D) (ps:List (Nat×Nat))
 | Zm (j esz len:Nat) (z:List D) (ps:List (Nat×Nat))
 | qG
 | aj (op:BinOp)
 | sh (left:Bool)
 | gq (op:BinOp)
 | Zu (neg:Bool)
 | yV (neg:Bool)
 | eqN (neg c:Bool)
 | eqE (neg:Bool)
 | eqA (neg:Bool) (ks:List Nat)
 | neg | inv | not
 | conv (k:IntKind)
 | b2s
 | eqS (neg:Bool)
 | Xy (t:Nat)
 | acM (f:Nat)
 | G6 (j esz:Nat) (z:List D)
 | WU (lo hi:Bool)
 | PL (esz:Nat) (lo hi:Bool)
 | aC (off:Nat)
 | bF (esz:Nat)
 | aaS (esz len:Nat)
 | GZ
 | ext (i:Nat)
 | fld (off:Nat)
 | qY
 | bM
 | mn
 | mx
 | app (j esz:Nat)
 | uf (f:Nat)
 | ah (f:Nat)
 | bK (f:Nat)
 | FW
 | mkm (j:Nat)
 | ZR
 | ZQ
 | aaw (t:Nat) (z:D)
 | VF (tab:List (Nat×Bool))
 | KP (tab:List (Nat×Nat))
 | acK (tab:List (Nat×Nat))
 | eqF (neg:Bool) (ts:List Nat)
 | stop
 deriving Inhabited
structure EO where
 k:K
 xs:List BN
 dst:Option Nat
 guard:Option (Nat×Bool)
 deriving Inhabited
abbrev EO.M (d a:Nat):EO:=⟨.aT,[.t a],some d,none⟩
abbrev EO.C (d:Nat) (k:D):EO:=⟨.aT,[.k k],some d,none⟩
abbrev EO.o (d:Nat) (k:K) (xs:List BN):EO:=⟨k,xs,some d,none⟩
abbrev EO.g (t:Nat) (b:Bool) (d:Nat) (k:K) (xs:List BN):EO:=⟨k,xs,some d,some (t,b)⟩
inductive EC where
 | skip
 | region (n:Nat) (ops:List EO)
 | drawn (n:Nat) (ops:List (Nat×EO))
 | seq (a b:EC)
 | cond (c:BN) (a b:EC)
 | block (id:Nat) (c:EC)
 | loop (ins outs:List Nat) (body:EC)
 | exit (id:Nat)
 | ret
 | mask (keep:List Nat) (c:EC)
 | join (keep:List Nat) (c:EC)
 | Yd (ts:List Nat) (c:EC)
 deriving Inhabited
structure aB where
 bK:Nat→List D→Mem→Option (D×Mem)
 loop:List Nat→List Nat→EC→Nat→List D→Mem→Option (Ex×List D×Mem)
 call:Nat→List D→Option D
def sN:List D→List (Nat×Nat)→List D→Option (List D)
 | cells,[],[]=>some cells
 | cells,(off,n)::ps,d::ds=>(fO d).bind fun cs=>if cs.length=n∧off+n≤cells.length then sN (cu cells off cs) ps ds else none
 | _,_,_=>none
def zeros (len:Nat) (z:List D):List D:=(List.range (len*z.length)).map fun i=>z.getD (i % z.length) .undef
def bnd (x:Option D) (hi:Nat) (dflt:Nat):Option Nat :=
 match x with
 | none=>some dflt
 | some (.int _ i)=>if 0≤i∧i≤hi then some i.toNat else none
 | _=>none
def yE (r:Option (D×Mem)):Option D:=r.bind fun r=>(fz FZ r.1 r.2).bind fun s=>some s.1
def y8:Nat:=4294967296
abbrev RV:=Option (D×Mem)
def CX (base j:Nat) (cs:List D) (d:D) (m:Mem):RV:=match m[base+j]? with
 | some .free=>some (d,m.set (base+j) (.live cs))
 | _=>none
def aaf (ds:List D) (m:Mem):RV:=match ds with | [d]=>some (d,m) | _=>none
def Qj (ds:List D) (m:Mem):RV:=match ds with | [.bool b,x,y]=>some (bif b then x else y,m) | _=>none
def Z8 (base j:Nat) (ds:List D) (m:Mem):RV:=match ds with | [d]=>(fO d).bind fun cs=>CX base j cs (.loc (base+j) 0) m | _=>none
def OE (base j:Nat) (z:List D) (ds:List D) (m:Mem):RV:=match ds with | []=>CX base j z (.loc (base+j) 0) m | _=>none
def DC (ds:List D) (m:Mem):RV:=match ds with | [a]=>(V9 m a).bind fun r=>(r.1[r.2]?).bind fun d=>some (d,m) | _=>none
def OH (ds:List D) (m:Mem):RV:=match ds with | [.ref cs off]=>(cs[off]?).bind fun d=>some (d,m) | _=>none
def Lc (n:Nat) (ds:List D) (m:Mem):RV:=match ds with | [a]=>(V9 m a).bind fun r=>(qI r.1 r.2 n).bind fun ds=>some (.agg ds,m) | _=>none
def Fp (n:Nat) (ds:List D) (m:Mem):RV:=match ds with
 | [.loc b off,d]=>(fO d).bind fun cs=>match m[b]? with
   | some (.live cells)=>if cs.length=n∧off+n≤cells.length then some (.bg [],m.set b (.live (cu cells off cs))) else none
   | _=>none
 | _=>none
def OG (z:List D) (ps:List (Nat×Nat)) (ds:List D) (m:Mem):RV:=(sN z ps ds).bind fun cs=>some (.agg cs,m)
def Z9 (len:Nat) (z:List D) (ps:List (Nat×Nat)) (ds:List D) (m:Mem):RV :=
 bif ds.all (D.clo 0 FZ) then (sN (zeros len z) ps ds).bind fun cs=>some (.sl len cs,m) else none
def UM (base j esz len:Nat) (z:List D) (ps:List (Nat×Nat)) (ds:List D) (m:Mem):RV :=
 (sN (zeros len z) ps ds).bind fun cs=>CX base j cs (.bf (base+j) 0 len esz) m
def Le (ds:List D) (m:Mem):RV:=match ds with | [.loc b off]=>some (.loc b off,m) | [.ref cs off]=>some (.ref cs off,m) | _=>none
def gI (op:BinOp) (ds:List D) (m:Mem):RV:=match ds with | [.int k a,.int k' b]=>bif k==k' then (Ev.aj op k a b).bind fun d=>some (d,m) else none | _=>none
def vg (l:Bool) (ds:List D) (m:Mem):RV:=match ds with | [.int k a,.int _ b]=>(shI l k a b).bind fun d=>some (d,m) | _=>none
def Gs (op:BinOp) (ds:List D) (m:Mem):RV:=match ds with | [.str a,.str b]=>(Ev.gq op a b).bind fun d=>some (d,m) | _=>none
def aac (n:Bool) (ds:List D) (m:Mem):RV:=match ds with | [.bool a,.bool b]=>some (.bool ((a==b) != n),m) | _=>none
def Vs (n:Bool) (ds:List D) (m:Mem):RV:=match ds with
 | [.aY,.aY]=>some (.bool (true != n),m)
 | [.aY,.loc _ _] | [.aY,.ref _ _] | [.loc _ _,.aY] | [.ref _ _,.aY]=>some (.bool (false != n),m)
 | _=>none
def Vr (n c:Bool) (ds:List D) (m:Mem):RV:=match ds with
 | [.aK,.aK]=>bif c then some (.bool (true != n),m) else none
 | [.aK,.iface _ _] | [.iface _ _,.aK]=>some (.bool (false != n),m)
 | _=>none
def Z_ (n:Bool) (ks:List Nat) (ds:List D) (m:Mem):RV:=match ds with
 | [.agg xs,.agg ys]=>(eF ks xs ys).bind fun r=>some (.bool (r != n),m)
 | _=>none
def bytesOf:List D→Option (List UInt8)
 | []=>some []
 | .int .u8 n::ds=>if 0≤n∧n<256 then (bytesOf ds).bind fun bs=>some (UInt8.ofNat n.toNat::bs) else none
 | _=>none
def acT (ds:List D) (m:Mem):RV:=match ds with
 | [x]=>(slc m 1 x).bind fun r=>(qI r.1 r.2.1 r.2.2).bind fun cs=>(bytesOf cs).bind fun bs=>some (.str bs,m)
 | _=>none
def acV (n:Bool) (ds:List D) (m:Mem):RV:=match ds with
 | [.bH,.bH]=>some (.bool (true != n),m)
 | [.sl (_+1) _,.bH] | [.bH,.sl (_+1) _] | [.bf ..,.bH] | [.bH,.bf ..]=>some (.bool (false != n),m)
 | _=>none
def aag (ds:List D) (m:Mem):RV:=match ds with | [.int k a]=>some (.int k (k.wrap (0-a)),m) | _=>none
def acW (ds:List D) (m:Mem):RV:=match ds with | [.int k a]=>(Ev.aj .xor k (if k.signed then -1 else k.max) a).bind fun d=>some (d,m) | _=>none
def aah (ds:List D) (m:Mem):RV:=match ds with | [.bool b]=>some (.bool (!b),m) | _=>none
def UN (k:IntKind) (ds:List D) (m:Mem):RV:=match ds with | [.int _ n]=>some (.int k (k.wrap n),m) | _=>none
def UQ (t:Nat) (ds:List D) (m:Mem):RV:=match ds with | [d]=>some (.iface t d,m) | _=>none
def Qh (base j esz:Nat) (z:List D) (ds:List D) (m:Mem):RV:=match ds with
 | [.int _ n,.int _ n']=>if 0≤n∧n≤y8∧n'=n then CX base j (zeros n.toNat z) (.bf (base+j) 0 n.toNat esz) m else none
 | _=>none
def oW (lo hi:Bool) (len:Nat) (xs:List D):Option (Nat×Nat) :=
 match lo,hi,xs with
 | false,false,[]=>some (0,len)
 | true,false,[x]=>(bnd (some x) len 0).bind fun l=>some (l,len)
 | false,true,[y]=>(bnd (some y) len 0).bind fun h=>some (0,h)
 | true,true,[x,y]=>(bnd (some y) len 0).bind fun h=>(bnd (some x) h 0).bind fun l=>some (l,h)
 | _,_,_=>none
def aai (lo hi:Bool) (ds:List D) (m:Mem):RV:=match ds with
 | .str s::xs=>(oW lo hi s.length xs).bind fun r=>some (.str ((s.drop r.1).take (r.2-r.1)),m)
 | _=>none
def RP (esz:Nat) (lo hi:Bool) (ds:List D) (m:Mem):RV:=match ds with
 | .bH::xs=>(oW lo hi 0 xs).bind fun r=>some (.bH,m)
 | .sl len cs::xs=>(oW lo hi len xs).bind fun r=>(qI cs (r.1*esz) ((r.2-r.1)*esz)).bind fun cs'=>some (.sl (r.2-r.1) cs',m)
 | .bf b off len e::xs=>bif Nat.beq e esz then (oW lo hi len xs).bind fun r=>some (.bf b (off+r.1*esz) (r.2-r.1) esz,m) else none
 | _=>none
def Qd (off:Nat) (ds:List D) (m:Mem):RV:=match ds with | [.loc b o]=>some (.loc b (o+off),m) | [.ref cs o]=>some (.ref cs (o+off),m) | _=>none
def I9 (esz:Nat) (ds:List D) (m:Mem):RV:=match ds with
 | [.sl len cs,.int _ i]=>if 0≤i∧i<len then some (.ref cs (i.toNat*esz),m) else none
 | [.bf b off len e,.int _ i]=>if 0≤i∧i<len then some (.loc b (off+i.toNat*esz),m) else none
 | _=>none
def Fj (esz len:Nat) (ds:List D) (m:Mem):RV:=match ds with
 | [.loc b off,.int _ i]=>if 0≤i∧i<len then some (.loc b (off+i.toNat*esz),m) else none
 | [.ref cs off,.int _ i]=>if 0≤i∧i<len then some (.ref cs (off+i.toNat*esz),m) else none
 | _=>none
def Qe (ds:List D) (m:Mem):RV:=match ds with
 | [.str s,.int _ i]=>if 0≤i then (s[i.toNat]?).bind fun b=>some (.int .u8 b.toNat,m) else none
 | _=>none
def aae (off:Nat) (ds:List D) (m:Mem):RV:=match ds with | [.agg cs]=>(cs[off]?).bind fun d=>some (d,m) | _=>none
def aad (i:Nat) (ds:List D) (m:Mem):RV:=match ds with | [.bg ds]=>(ds[i]?).bind fun d=>some (d,m) | _=>none
def UO (ds:List D) (m:Mem):RV:=match ds with | [.str s]=>some (.int .i64 s.length,m) | _=>none
def La (ds:List D) (m:Mem):RV:=match ds with
 | [.bH]=>some (.int .i64 0,m)
 | [.sl len _]=>some (.int .i64 len,m)
 | [.bf _ _ len _]=>some (.int .i64 len,m)
 | _=>none
def rMn (ds:List D) (m:Mem):RV:=match ds with | [.int k a,.int _ b]=>some (.int k (if b<a then b else a),m) | _=>none
def rMx (ds:List D) (m:Mem):RV:=match ds with | [.int k a,.int _ b]=>some (.int k (if b>a then b else a),m) | _=>none
def XP (base j esz:Nat) (ds:List D) (m:Mem):RV:=match ds with
 | [d,x]=>(slc m esz x).bind fun rx=>(qI rx.1 rx.2.1 (rx.2.2*esz)).bind fun news=>match d with
   | .bH=>if rx.2.2=0 then some (.bH,m) else if rx.2.2≤y8 then CX base j news (.bf (base+j) 0 rx.2.2 esz) m else none
   | .bf b off len e=>bif Nat.beq e esz then (match m[b]? with
     | some (.live cells)=>(qI cells off (len*esz)).bind fun olds =>
       if len+rx.2.2≤y8 then CX base j (olds++news) (.bf (base+j) 0 (len+rx.2.2) esz) (m.set b .dead) else none
     | _=>none) else none
   | _=>none
 | _=>none
def zZ (O:aB) (f:Nat) (args:List D) (m:Mem):RV:=(lG (fz FZ) args m).bind fun r=>(O.call f r.1).bind fun d=>some (d,r.2)
def vY (O:aB) (f:Nat) (args:List D) (m:Mem):RV:=bif args.all (D.clo 0 FZ) then (O.call f args).bind fun d=>some (d,m) else none
def K_ (O:aB) (ds:List D) (m:Mem):RV:=match ds with
 | .func f cap::args=>(lG (fz FZ) (args++cap) m).bind fun r=>(O.call f r.1).bind fun d=>some (d,r.2)
 | _=>none
def XQ (base j:Nat) (ds:List D) (m:Mem):RV:=match ds with
 | []=>match m[base+j]? with
   | some .free=>some (.lmap (base+j),m.set (base+j) (.mp []))
   | _=>none
 | _=>none
def ZE (ks:List Int) (k:Int):List Int:=bif ks.contains k then ks else k::ks
def Qi (ds:List D) (m:Mem):RV:=match ds with
 | [.lmap b,.int .i64 k,.bool true]=>match m[b]? with
   | some (.mp ks)=>some (.bg [],m.set b (.mp (ZE ks k)))
   | _=>none
 | _=>none
def Ld (ds:List D) (m:Mem):RV:=match ds with
 | [.lmap b,.int .i64 k]=>match m[b]? with
   | some (.mp ks)=>some (.bool (ks.contains k),m)
   | _=>none
 | [.uN ks,.int .i64 k]=>some (.bool (ks.contains k),m)
 | [.Au,.int .i64 _]=>some (.bool false,m)
 | _=>none
def Bd {α:Type}:List (Nat×α)→Nat→Option α
 | [],_=>none
 | (i,e)::r,n=>bif Nat.beq i n then some e else Bd r n
def N8 (t:Nat) (z:D) (ds:List D) (m:Mem):RV:=match ds with
 | [.aK]=>some (.bg [z,.bool false],m)
 | [.iface u d]=>bif Nat.beq u t then some (.bg [d,.bool true],m) else some (.bg [z,.bool false],m)
 | _=>none
def Qk (tab:List (Nat×Bool)) (ds:List D) (m:Mem):RV:=match ds with
 | [.aK]=>some (.bg [.aK,.bool false],m)
 | [.iface u d]=>(Bd tab u).bind fun b=>bif b then some (.bg [.iface u d,.bool true],m) else some (.bg [.aK,.bool false],m)
 | _=>none
def NZ (O:aB) (tab:List (Nat×Nat)) (ds:List D) (m:Mem):RV:=match ds with
 | .iface u d::args=>(Bd tab u).bind fun f=>vY O f (d::args) m
 | _=>none
def Qg (O:aB) (tab:List (Nat×Nat)) (ds:List D) (m:Mem):RV:=match ds with
 | .iface u d::args=>(Bd tab u).bind fun f=>zZ O f (d::args) m
 | _=>none
def acU (n:Bool) (ts:List Nat) (ds:List D) (m:Mem):RV:=match ds with
 | [.aK,.iface _ _] | [.iface _ _,.aK]=>some (.bool (false != n),m)
 | [.iface t (.int k a),.iface u (.int k' b)]=>bif Nat.beq t u then (bif ts.contains t && k==k' then some (.bool ((a==b) != n),m) else none) else some (.bool (false != n),m)
 | [.iface t d,.iface u e]=>bif Nat.beq t u then none else some (.bool (false != n),m)
 | _=>none
def K.run (O:aB) (base:Nat) (k:K) (ds:List D) (m:Mem):RV:=match k with
 | .aT=>aaf ds m
 | .pick=>Qj ds m
 | .box j=>Z8 base j ds m
 | .alloc j z=>OE base j z ds m
 | .ak=>DC ds m
 | .adO=>OH ds m
 | .aU n=>Lc n ds m
 | .store n=>Fp n ds m
 | .build z ps=>OG z ps ds m
 | .Em _ len z ps=>Z9 len z ps ds m
 | .Zm j esz len z ps=>UM base j esz len z ps ds m
 | .qG=>Le ds m
 | .aj op=>gI op ds m
 | .sh l=>vg l ds m
 | .gq op=>Gs op ds m
 | .Zu n=>aac n ds m
 | .yV n=>Vs n ds m
 | .eqN n c=>Vr n c ds m
 | .eqE _=>none
 | .eqA n k=>Z_ n k ds m
 | .neg=>aag ds m
 | .inv=>acW ds m
 | .not=>aah ds m
 | .conv k=>UN k ds m
 | .b2s=>acT ds m
 | .eqS n=>acV n ds m
 | .Xy t=>UQ t ds m
 | .acM f=>some (.func f ds,m)
 | .G6 j esz z=>Qh base j esz z ds m
 | .WU lo hi=>aai lo hi ds m
 | .PL esz lo hi=>RP esz lo hi ds m
 | .aC off=>Qd off ds m
 | .bF esz=>I9 esz ds m
 | .aaS esz len=>Fj esz len ds m
 | .GZ=>Qe ds m
 | .ext i=>aad i ds m
 | .fld off=>aae off ds m
 | .qY=>UO ds m
 | .bM=>La ds m
 | .mn=>rMn ds m
 | .mx=>rMx ds m
 | .app j esz=>XP base j esz ds m
 | .uf f=>zZ O f ds m
 | .ah f=>vY O f ds m
 | .bK f=>O.bK f ds m
 | .FW=>K_ O ds m
 | .mkm j=>XQ base j ds m
 | .ZR=>Qi ds m
 | .ZQ=>Ld ds m
 | .aaw t z=>N8 t z ds m
 | .VF tab=>Qk tab ds m
 | .KP tab=>NZ O tab ds m
 | .acK tab=>Qg O tab ds m
 | .eqF n ts=>acU n ts ds m
 | .stop=>none
def evs (e:Env):List BN→Option (List D)
 | []=>some []
 | x::xs=>(x.ev e).bind fun d=>(evs e xs).bind fun ds=>some (d::ds)
def yJ (e:Env) (dst:Option Nat) (d:D):Env :=
 match dst with
 | some t=>(t,d)::e
 | none=>e
def EO.wants (e:Env) (o:EO):Option Bool :=
 match o.guard with
 | none=>some true
 | some (t,b)=>match look e t with
   | some (.bool b')=>some (b'==b)
   | some (.bg [])=>some false
   | _=>none
def EO.run (O:aB) (base:Nat) (o:EO) (e:Env) (m:Mem):Option (Env×Mem) :=
 (o.wants e).bind fun w=>bif w then (evs e o.xs).bind fun ds=>(o.k.run O base ds m).bind fun r=>some (yJ e o.dst r.1,r.2) else some (yJ e o.dst (.bg []),m)
def uP (O:aB) (base:Nat):List EO→Env→Mem→Option (Env×Mem)
 | [],e,m=>some (e,m)
 | o::os,e,m=>(o.run O base e m).bind fun r=>uP O base os r.1 r.2
def P_ (e:Env):List Nat→Env
 | []=>[]
 | t::ts=>match look e t with
   | some d=>(t,d)::P_ e ts
   | none=>P_ e ts
def qH (e:Env):List Nat→List D
 | []=>[]
 | t::ts=>(look e t).getD .undef::qH e ts
def wX:List Nat→List D→Env
 | [],_=>[]
 | t::ts,ds=>(t,ds.headD .undef)::wX ts ds.tail
def EC.exec {R:Type} (O:aB):EC→Env→Mem→(Ex→Env→Mem→Option R)→Option R
 | .skip,e,m,k=>k .normal e m
 | .region n ops,e,m,k=>(uP O m.length ops e (m++List.replicate n .free)).bind fun r=>k .normal r.1 r.2
 | .drawn n ops,e,m,k=>(uP O m.length (ops.map (·.2)) e (m++List.replicate n .free)).bind fun r=>k .normal r.1 r.2
 | .Yd ts c,e,m,k=>(lG (fz FZ) (qH e ts) m).bind fun r=>c.exec O (wX ts r.1++e) r.2 k
 | .seq a b,e,m,k=>a.exec O e m fun x e' m'=>match x with
   | .normal=>b.exec O e' m' k
   | x=>k x e' m'
 | .cond c a b,e,m,k=>match c.ev e with
   | some (.bool t)=>if t=true then a.exec O e m k else b.exec O e m k
   | _=>none
 | .block id c,e,m,k=>c.exec O e m fun x e' m'=>match x with
   | .exit i=>bif Nat.beq i id then k .normal e' m' else k (.exit i) e' m'
   | x=>k x e' m'
 | .loop ins outs body,e,m,k=>(O.loop ins outs body m.length (qH e ins) m).bind fun r=>k r.1 (wX outs r.2.1) r.2.2
 | .exit id,e,m,k=>k (.exit id) e m
 | .ret,e,m,k=>k .ret e m
 | .mask keep c,e,m,k=>c.exec O (P_ e keep) m k
 | .join keep c,e,m,k=>(c.exec O e m fun x e' m'=>some (x,qH e' keep,m')).bind fun r=>k r.1 (wX keep r.2.1) r.2.2
inductive ER where
 | tmp (t:Nat)
 | cell (t:Nat) (agg:Bool) (n:Nat)
 deriving Inhabited
def ER.get (e:Env) (m:Mem):ER→Option D
 | .tmp t=>look e t
 | .cell t agg n=>(look e t).bind fun a=>(V9 m a).bind fun r=>bif agg then (qI r.1 r.2 n).bind fun ds=>some (.agg ds) else r.1[r.2]?
def Ez (e:Env) (m:Mem):List ER→Option (List D)
 | []=>some []
 | r::rs=>(r.get e m).bind fun d=>(Ez e m rs).bind fun ds=>some (d::ds)
structure EF where
 params:List Nat
 res:List ER
 body:EC
 deriving Inhabited
def EY (O:aB) (ins outs:List Nat) (body:EC) (base:Nat) (vals:List D) (m:Mem):Option (Ex×List D×Mem) :=
 body.exec O (wX ins vals) m fun x e m'=>match x with
  | .normal=>(gc base (qH e ins) m').bind fun r=>O.loop ins outs body base r.1 r.2
  | x=>(gc base (qH e outs) m').bind fun r=>some (x,r.1,r.2)
def LQ (r:List D×Mem):D×Mem:=match r.1 with
 | [d]=>(d,r.2)
 | ds=>(.bg ds,r.2)
def EF.step (O:aB) (f:EF) (args:List D) (m:Mem):Option (D×Mem) :=
 bif Nat.beq args.length f.params.length then
  f.body.exec O (wX f.params args) m fun x e m'=>match x with
    | .exit _=>none
    | _=>(Ez e m' f.res).bind fun rs=>(gc m.length rs m').bind fun r=>some (LQ r)
 else none
structure Tab where
 fn:Nat→Option EF
 lM:Nat→List D→Mem→Option (D×Mem)
def Tab.o8 (T:Tab):Nat→aB
 | 0=>⟨fun _ _ _=>none,fun _ _ _ _ _ _=>none,fun _ _=>none⟩
 | n+1 =>
   ⟨fun f args m=>match T.fn f with
    | some ef=>ef.step (T.o8 n) args m
    | none=>T.lM f args m,
    fun ins outs body base vals m=>EY (T.o8 n) ins outs body base vals m,
    fun f args=>yE (match T.fn f with
     | some ef=>ef.step (T.o8 n) args []
     | none=>T.lM f args [])⟩
end Go.Ev
end
section
namespace Go.Ev
def Yc:D→Value→Bool
 | .int k n,.int k' n'=>k==k' && n==n'
 | .bool b,.bool b'=>b==b'
 | .str s,.string b=>s==b.data.toList
 | .aY,.pointer none=>true
 | .bH,.slice none 0 0=>true
 | .sl 0 [],.slice none 0 0=>true
 | .aK,.nilIface=>true
 | .Au,.map none=>true
 | .raw b o,.pointer (some ⟨b',o',none⟩)=>Nat.beq b b' && Nat.beq o o'
 | _,_=>false
def ae1:List D→List Value→Bool
 | [],[]=>true
 | d::ds,v::vs=>Yc d v && ae1 ds vs
 | _,_=>false
def BN.chk:BN→Operand→Bool
 | .t n,.tmp m=>Nat.beq n m
 | .k d,.const v=>Yc d v
 | .k (.func f []),.func f'=>Nat.beq f f'
 | _,_=>false
def aeY:List BN→List Operand→Bool
 | [],[]=>true
 | x::xs,y::ys=>x.chk y && aeY xs ys
 | _,_=>false
section
variable (P:Program)
def H9 (t:TypeId):Option TypeId:=match P.underlying t with | some (.slice e)=>some e | _=>none
def X4 (t:TypeId):Option Bool:=match P.underlying t with | some (.struct _) | some (.array _ _)=>some true | some _=>some false | none=>none
def rM (t:TypeId):Option Nat:=(P.info? t).map (·.size)
def qB (t:TypeId) (z:List D):Bool:=match (P.info? t).bind (·.zero) with | some v=>ae1 z v.cells.toList | none=>false
def BH (place:Nat→Option (Nat×Nat)):List (Nat×Operand)→List (Nat×Nat)→Bool
 | [],[]=>true
 | (i,_)::xs,(off,n)::ps=>(match place i with | some (o,s)=>Nat.beq o off && Nat.beq s n | none=>false) && BH place xs ps
 | _,_=>false
def placesOf (t:TypeId):Nat→Option (Nat×Nat):=fun i =>
 match P.underlying t with
 | some (.struct fs)=>(fs[i]?).bind fun f=>(rM P f.type).map fun s=>(f.offset,s)
 | some (.array _ e)=>(rM P e).map fun s=>(i*s,s)
 | _=>none
def Ji (t:TypeId):Bool:=match P.underlying t with
 | some (.struct fs)=>fs.toList.all fun f=>(rM P f.type).isSome
 | some (.array _ e)=>(rM P e).isSome
 | _=>false
def isK (x:Operand):Bool:=match x with | .const _=>true | _=>false
def aja (t:TypeId) (k:Nat):Bool :=
 match P.underlying t with
 | some .bool=>Nat.beq k 0
 | some (.int _)=>Nat.beq k 1
 | some .string=>Nat.beq k 2
 | _=>false
def eqFields:List Field→List Nat→Nat→Bool
 | [],[],_=>true
 | f::fs,k::ks,i=>Nat.beq f.offset i && f.name != "_" && aja P f.type k && eqFields fs ks (i+1)
 | _,_,_=>false
def Ws (u:TypeId) (name:String) (f:Nat):Bool :=
 match (P.info? u).bind (fun i=>i.methods.find? (·.name==name)) with
 | some m=>match m.path.toList,m.func with
   | [],some (g,pr)=>Nat.beq f g && (match P.underlying u with | some (.pointer _)=>pr | some _ => !pr | none=>false)
   | _,_=>false
 | none=>false
def Wu (name:String):List (Nat×Nat)→Bool
 | []=>true
 | (u,f)::r=>Ws P u name f && Wu name r
def hasAll (want:Array (String×TypeId)):List (Nat×Bool)→Bool
 | []=>true
 | (u,b)::r=>((P.info? u).map (fun i=>(lacking want i.methods).isEmpty))==some b && hasAll want r
def OC:List Nat→Bool
 | []=>true
 | t::ts=>(match P.underlying t with | some (.int _)=>true | _=>false) && (match P.info? t with | some i=>i.comparable | none=>false) && OC ts
def bJ (k:K) (op:Op):Option (List Operand) :=
 match k with
 | .aT=>match op with | .move x | .assign x=>some [x] | _=>none
 | .pick=>match op with | .pick c a b=>some [c,a,b] | _=>none
 | .box _=>match op with | .box _ x=>some [x] | _=>none
 | .alloc _ z=>match op with | .alloc e=>if qB P e z then some [] else none | _=>none
 | .ak | .adO=>match op with | .load t x=>if X4 P t=some false then some [x] else none | _=>none
 | .aU n=>match op with | .load t x=>if X4 P t=some true∧rM P t=some n then some [x] else none | _=>none
 | .store n=>match op with | .store t x y=>if rM P t=some n then some [x,y] else none | _=>none
 | .build z ps=>match op with
   | .build t parts=>if qB P t z∧Ji P t∧BH (placesOf P t) parts.toList ps then some (parts.toList.map (·.2)) else none
   | _=>none
 | .Em esz len z ps | .Zm _ esz len z ps=>match op with
   | .buildSlice t n parts=>(H9 P t).bind fun e=>if rM P e=some esz∧n=len∧0<esz∧z.length=esz∧len*esz≤16777216∧qB P e z∧BH (fun i=>some (i*esz,esz)) parts.toList ps then some (parts.toList.map (·.2)) else none
   | _=>none
 | .qG=>match op with | .nilCheck x=>some [x] | _=>none
 | .aj b=>match op with | .binOp b' _ x y _=>if b=b'∧b ≠ .shl∧b ≠ .shr then some [x,y] else none | _=>none
 | .sh l=>match op with | .binOp b _ x y _=>if b=(if l then .shl else .shr) then some [x,y] else none | _=>none
 | .gq b=>match op with | .binOp b' _ x y _=>if b=b' then some [x,y] else none | _=>none
 | .Zu n=>match op with | .binOp b t x y _=>if b=(if n then .neq else .eql)∧P.underlying t matches some .bool then some [x,y] else none | _=>none
 | .yV n=>match op with | .binOp b t x y _=>if b=(if n then .neq else .eql)∧P.underlying t matches some (.pointer _) then some [x,y] else none | _=>none
 | .eqN n c=>match op with | .binOp b t x y _=>if b=(if n then .neq else .eql)∧(P.underlying t matches some (.interface _))∧(c=false∨isK x∨isK y) then some [x,y] else none | _=>none
 | .eqE _=>none
 | .eqA n k=>match op with
   | .binOp b t x y _=>match P.underlying t with
     | some (.struct fs)=>if b=(if n then .neq else .eql)∧eqFields P fs.toList k 0∧P.eqGuardType P.depth t=false∧P.stoodInHeld t=false then some [x,y] else none
     | _=>none
   | _=>none
 | .neg=>match op with | .unOp .neg _ x=>some [x] | _=>none
 | .inv=>match op with | .unOp .xor _ x=>some [x] | _=>none
 | .not=>match op with | .unOp .not _ x=>some [x] | _=>none
 | .conv k=>match op with | .convert s d x=>if (P.underlying s).isSome∧P.underlying d matches some (.int _) then (match P.underlying d with | some (.int k')=>if k=k' then some [x] else none | _=>none) else none | _=>none
 | .b2s=>match op with
   | .convert s d x=>(H9 P s).bind fun e=>if (P.underlying e matches some (.int .u8))∧(P.underlying d matches some .string) then some [x] else none
   | _=>none
 | .eqS n=>match op with | .binOp b t x y _=>if b=(if n then .neq else .eql)∧P.underlying t matches some (.slice _) then some [x,y] else none | _=>none
 | .Xy t=>match op with | .makeInterface t' x=>if t=t'∧(P.underlying t).isSome∧¬ (P.underlying t matches some (.interface _)) then some [x] else none | _=>none
 | .acM f=>match op with | .makeFunc (.func f') first cap=>if f=f'∧first = #[] then some cap.toList else none | _=>none
 | .G6 _ esz z=>match op with
   | .makeSlice t x y=>(H9 P t).bind fun e=>if rM P e=some esz∧0<esz∧z.length=esz∧qB P e z∧((P.info? e).map (·.bytes)).getD 0≤4096∧(P.info? e).isSome then some [x,y] else none
   | _=>none
 | .WU lo hi=>match op with
   | .slice t x l h none=>if (P.underlying t matches some .string)∧l.isSome=lo∧h.isSome=hi then some (x::l.toList++h.toList) else none
   | _=>none
 | .PL esz lo hi=>match op with
   | .slice t x l h none=>(H9 P t).bind fun e=>if rM P e=some esz∧l.isSome=lo∧h.isSome=hi then some (x::l.toList++h.toList) else none
   | _=>none
 | .aC off=>match op with
   | .fieldAddr t x f=>match P.underlying t with
     | some (.struct fs)=>(fs[f]?).bind fun fd=>if fd.offset=off∧(rM P fd.type).any (0 < ·) then some [x] else none
     | _=>none
   | _=>none
 | .bF esz=>match op with | .indexAddr t x y=>(H9 P t).bind fun e=>if rM P e=some esz then some [x,y] else none | _=>none
 | .aaS esz len=>match op with
   | .indexAddr t x y=>match P.underlying t with
     | some (.array n e)=>if n=len∧rM P e=some esz then some [x,y] else none
     | _=>none
   | _=>none
 | .GZ=>match op with | .index t x y=>if P.underlying t matches some .string then some [x,y] else none | _=>none
 | .fld off=>match op with
   | .field t x f=>match P.underlying t with
     | some (.struct fs)=>(fs[f]?).bind fun fd=>if fd.offset=off∧X4 P fd.type=some false then some [x] else none
     | _=>none
   | _=>none
 | .ext i=>match op with | .extract x i'=>if i=i' then some [x] else none | _=>none
 | .qY=>match op with | .call ⟨.builtin .len,args,ts⟩=>if (ts[0]?).any (fun t=>P.underlying t matches some .string)∧args.size=1 then some args.toList else none | _=>none
 | .bM=>match op with | .call ⟨.builtin .len,args,ts⟩=>if (ts[0]?).any (fun t=>P.underlying t matches some (.slice _))∧args.size=1 then some args.toList else none | _=>none
 | .mn=>match op with | .call ⟨.builtin .min,args,_⟩=>if args.size=2 then some args.toList else none | _=>none
 | .mx=>match op with | .call ⟨.builtin .max,args,_⟩=>if args.size=2 then some args.toList else none | _=>none
 | .app _ esz=>match op with
   | .call ⟨.builtin .append,args,ts⟩=>if args.size=2∧ts.size=2 then
     ((ts[0]?).bind (H9 P)).bind fun e=>((ts[1]?).bind (H9 P)).bind fun _ =>
       if rM P e=some esz∧0<esz∧((P.info? e).map (·.bytes)).getD 0≤4096∧(((P.info? e).bind (·.zero)).any fun v=>Nat.beq v.cells.size esz) then some args.toList else none
     else none
   | _=>none
 | .uf f | .ah f | .bK f=>match op with
   | .call ⟨.value (.func f'),args,_⟩=>if f=f' then some args.toList else none
   | _=>none
 | .FW=>match op with
   | .call ⟨.value g,args,_⟩=>some (g::args.toList)
   | _=>none
 | .stop=>some []
 | .mkm _=>match op with | .makeMap _ none=>some [] | _=>none
 | .ZR=>match op with
   | .mapUpdate t x y z=>match P.underlying t with
     | some (.map kt _)=>if P.underlying kt matches some (.int .i64) then some [x,y,z] else none
     | _=>none
   | _=>none
 | .ZQ=>match op with
   | .lookup t x y false=>match P.underlying t with
     | some (.map kt et)=>if (P.underlying kt matches some (.int .i64))∧qB P et [.bool false]∧(P.info? et).any (fun i=>match i.zero with | some (.agg _)=>false | some (.tuple _)=>false | _=>true) then some [x,y] else none
     | _=>none
   | _=>none
 | .aaw t z=>match op with
   | .typeAssert x _ t' true=>if t=t'∧(P.underlying t).isSome∧¬ (P.underlying t matches some (.interface _))∧qB P t [z]∧(P.info? t).any (fun i=>match i.zero with | some (.agg _)=>false | some (.tuple _)=>false | _=>true) then some [x] else none
   | _=>none
 | .VF tab=>match op with
   | .typeAssert x _ t' true=>match P.underlying t' with
     | some (.interface want)=>if hasAll P want tab∧(P.info? t').any (fun i=>match i.zero with | some .nilIface=>true | _=>false) then some [x] else none
     | _=>none
   | _=>none
 | .KP tab | .acK tab=>match op with
   | .call ⟨.invoke recv name,args,_⟩=>if Wu P name tab then some (recv::args.toList) else none
   | _=>none
 | .eqF n ts=>match op with | .binOp b t x y _=>if b=(if n then .neq else .eql)∧(P.underlying t matches some (.interface _))∧OC P ts then some [x,y] else none | _=>none
end
inductive dO (c:Ctx):List D→List Value→Prop
 | nil:dO c [] []
 | cons {d:D} {v:Value} {ds:List D} {vs:List Value} (h:Rep c d v) (hs:dO c ds vs):dO c (d::ds) (v::vs)
theorem dO.mono {c c':Ctx} (h:Ext c c') {ds:List D} {vs:List Value} (hr:dO c ds vs):dO c' ds vs:=by
 induction hr with
 | nil=>exact .nil
 | cons h1 _ ih=>exact .cons (h1.mono h) ih
theorem dO.length {c:Ctx} {ds:List D} {vs:List Value} (hr:dO c ds vs):ds.length=vs.length:=by
 induction hr with
 | nil=>rfl
 | cons _ _ ih=>simp [ih]
theorem dO.get {c:Ctx} {ds:List D} {vs:List Value} (hr:dO c ds vs):∀ (i:Nat) (d:D),ds[i]?=some d→∃ v,vs[i]?=some v∧Rep c d v:=by
 induction hr with
 | nil=>intro i d h; simp at h
 | cons h1 _ ih =>
   intro i d h
   cases i with
   | zero=>simp at h; subst h; exact ⟨_,rfl,h1⟩
   | succ i=>exact ih i d (by simpa using h)
theorem aaM {c:Ctx} {d:D} {v:Value} (h:Yc d v=true):Rep c d v:=by
 unfold Yc at h
 split at h <;> simp at h
 ·obtain ⟨rfl,rfl⟩:=h; exact .dA _ _ (.int _ _)
 ·subst h; exact .dA _ _ (.bool _)
 ·subst h; exact .dA _ _ (.str _)
 ·exact .dA _ _ .aY
 ·exact .dA _ _ .bH
 ·exact .dA _ _ .sl0
 ·exact .dA _ _ .aK
 ·exact .dA _ _ .Au
 ·obtain ⟨rfl,rfl⟩:=h; exact .dA _ _ (.raw _ _)
theorem atC {d:D} {v:Value} (h:Yc d v=true):v.oneCell'=true:=by
 unfold Yc at h
 split at h <;> simp at h <;> rfl
theorem Ua:∀ {ds:List D} {vs:List Value},ae1 ds vs=true→ds.length=vs.length∧∀ (i:Nat) (d:D),ds[i]?=some d→∃ v,vs[i]?=some v∧Yc d v=true
 | [],[],_=>⟨rfl,fun i d h=>by simp at h⟩
 | [],_::_,h=>by simp [ae1] at h
 | _::_,[],h=>by simp [ae1] at h
 | d::ds,v::vs,h=>by
   simp [ae1] at h
   obtain ⟨h1,h2⟩:=Ua h.2
   refine ⟨by simp [h1],fun i e he=>?_⟩
   cases i with
   | zero=>simp at he; subst he; exact ⟨v,rfl,h.1⟩
   | succ i=>exact h2 i e (by simpa using he)
def Ah (c:Ctx) (e:Env) (a:Act):Prop:=∀ (t:Nat) (d:D),look e t=some d→Rep c d (a.tmps.getD t Go.undef)
theorem Ah.mono {c c':Ctx} (h:Ext c c') {e:Env} {a:Act} (he:Ah c e a):Ah c' e a:=fun t d ht=>(he t d ht).mono h
theorem BN.rep {c:Ctx} {e:Env} {a:Act} (he:Ah c e a) {x:BN} {y:Operand} (hc:x.chk y=true) {d:D} (hd:x.ev e=some d):Rep c d (a.eval y):=by
 unfold BN.chk at hc
 split at hc
 ·rename_i n m
  have := Nat.eq_of_beq_eq_true hc
  subst this
  exact he n d hd
 ·simp [BN.ev] at hd
  subst hd
  exact aaM hc
 ·rename_i f f'
  have := Nat.eq_of_beq_eq_true hc
  subst this
  simp [BN.ev] at hd
  subst hd
  exact .func f [] #[] (fun _=>undef) rfl (fun j hj=>by simp at hj) (fun j d hd=>by simp at hd)
 ·simp at hc
theorem amb {c:Ctx} {e:Env} {a:Act} (he:Ah c e a):∀ {xs:List BN} {ys:List Operand} {ds:List D},aeY xs ys=true→evs e xs=some ds→dO c ds (ys.map a.eval)
 | [],[],ds,_,h=>by simp [evs] at h; subst h; exact .nil
 | [],_::_,_,h,_=>by simp [aeY] at h
 | _::_,[],_,h,_=>by simp [aeY] at h
 | x::xs,y::ys,ds,hc,h=>by
   simp [aeY] at hc
   simp [evs,Option.bind_eq_some_iff] at h
   obtain ⟨d,hd,ds',hds,rfl⟩:=h
   exact .cons (BN.rep he hc.1 hd) (amb he hc.2 hds)
end Go.Ev
end
