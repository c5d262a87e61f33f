/- A part of the proof of riskZero_card, yieldPar_card, pricePar_card. -/
import Derived.Stop.Asserts
import Derived.Test.YtheeamloonpolaaGreatDoorCBase
set_option linter.unusedVariables false
section
namespace Go.Ev
abbrev Env:=List (Nat×D)
def look:Env→Nat→Option D
 | [],_=>none
 | (t,d)::e,x=>bif Nat.beq t x then some d else look e x
inductive Aj where
 | t (n:Nat)
 | k (d:D)
 deriving Inhabited
def Aj.ev (e:Env):Aj→Option D
 | .t n=>look e n
 | .k d=>some d
def D.one:D→Bool
 | .undef | .agg _ | .aZ _=>false
 | _=>true
def fK:D→Option (List D)
 | .agg ds=>some ds
 | .undef | .aZ _=>none
 | d=>some [d]
def D.clo (n:Nat):Nat→D→Bool
 | 0,_=>false
 | f+1,d=>match d with
   | .undef=>false
   | .loc b _ | .bf b _ _ _ | .lmap b=>decide (b<n)
   | .agg ds | .aZ ds | .func _ ds=>ds.all (D.clo n f)
   | .iface _ d=>D.clo n f d
   | _=>true
inductive Ex where
 | normal
 | exit (id:Nat)
 | ret
 deriving Inhabited
def VD (m:Mem):D→Option (List D×Nat)
 | .loc b off=>match m[b]? with
   | some (.live cs) | some (.iV cs)=>some (cs,off)
   | _=>none
 | .ref cs off=>some (cs,off)
 | _=>none
def slc (m:Mem) (esz:Nat):D→Option (List D×Nat×Nat)
 | .cu=>some ([],0,0)
 | .sl len cs=>some (cs,0,len)
 | .bf b off len e=>bif Nat.beq e esz then (match m[b]? with
   | some (.live cs) | some (.iV cs)=>some (cs,off,len)
   | _=>none) else none
 | _=>none
def CS (cells:List D) (off:Nat):List D→List D
 | []=>cells
 | d::ds=>CS (cells.set off d) (off+1) ds
def oU (cells:List D) (off n:Nat):Option (List D) :=
 if off+n≤cells.length then some ((cells.drop off).take n) else none
def jE (f:D→Mem→Option (D×Mem)):List D→Mem→Option (List D×Mem)
 | [],m=>some ([],m)
 | d::ds,m=>(f d m).bind fun r=>(jE f ds r.2).bind fun rs=>some (r.1::rs.1,rs.2)
def fz:Nat→D→Mem→Option (D×Mem)
 | 0,_,_=>none
 | n+1,d,m=>match d with
   | .undef=>none
   | .loc b off=>match m[b]? with
     | some (.iV cs)=>some (.ref cs off,m)
     | some (.live cs)=>(jE (fz n) cs m).bind fun r=>match r.2[b]? with
       | some (.live _)=>some (.ref r.1 off,r.2.set b (.iV r.1))
       | _=>none
     | _=>none
   | .bf b off len esz=>match m[b]? with
     | some (.iV cs)=>(oU cs off (len*esz)).bind fun ds=>some (.sl len ds,m)
     | some (.live cs)=>(jE (fz n) cs m).bind fun r=>match r.2[b]? with
       | some (.live _)=>(oU r.1 off (len*esz)).bind fun ds=>some (.sl len ds,r.2.set b (.iV r.1))
       | _=>none
     | _=>none
   | .agg ds=>(jE (fz n) ds m).bind fun r=>some (.agg r.1,r.2)
   | .aZ ds=>(jE (fz n) ds m).bind fun r=>some (.aZ r.1,r.2)
   | .func f ds=>(jE (fz n) ds m).bind fun r=>some (.func f r.1,r.2)
   | .iface t d=>(fz n d m).bind fun r=>some (.iface t r.1,r.2)
   | .cu=>some (.sl 0 [],m)
   | .lmap b=>match m[b]? with
     | some (.mp ks)=>some (.sK ks,m.set b .dead)
     | _=>none
   | d=>some (d,m)
def FZ:Nat:=12
def fU (base:Nat) (m:Mem):List D→List Nat→Mem→Option (List D×Mem)
 | [],_,acc=>some ([],acc)
 | d::ds,got,acc=>match d with
   | .bf b off len esz =>
     if b<base then (fU base m ds got acc).bind fun r=>some (.bf b off len esz::r.1,r.2)
     else bif got.contains b then none else match m[b]? with
      | some (.live cs)=>bif cs.all (D.clo base FZ) then (fU base m ds (b::got) (acc++[.live cs])).bind fun r=>some (.bf acc.length off len esz::r.1,r.2) else none
      | _=>none
   | .loc b off =>
     if b<base then (fU base m ds got acc).bind fun r=>some (.loc b off::r.1,r.2)
     else bif got.contains b then none else match m[b]? with
      | some (.live cs)=>bif cs.all (D.clo base FZ) then (fU base m ds (b::got) (acc++[.live cs])).bind fun r=>some (.loc acc.length off::r.1,r.2) else none
      | _=>none
   | .undef=>(fU base m ds got acc).bind fun r=>some (.undef::r.1,r.2)
   | .iface t d'=>bif D.clo base FZ (.iface t d') then (fU base m ds got acc).bind fun r=>some (.iface t d'::r.1,r.2) else match d' with
     | .loc b off=>bif got.contains b then none else match m[b]? with
       | some (.live cs)=>bif cs.all (D.clo base FZ) then (fU base m ds (b::got) (acc++[.live cs])).bind fun r=>some (.iface t (.loc acc.length off)::r.1,r.2) else none
       | _=>none
     | _=>none
   | d=>bif D.clo base FZ d then (fU base m ds got acc).bind fun r=>some (d::r.1,r.2) else none
def gc (base:Nat) (vals:List D) (m:Mem):Option (List D×Mem) :=
 bif decide (base≤m.length) && (m.take base).all (fun s=>match s with | .live cs=>cs.all (D.clo base FZ) | _=>true) then fU base m vals [] (m.take base) else none
def aj (op:BinOp) (k:IntKind) (a b:Int):Option D :=
 match op with
 | .add=>some (.int k (k.wrap (a+b)))
 | .sub=>some (.int k (k.wrap (a-b)))
 | .mul=>some (.int k (k.wrap (a*b)))
 | .quo=>if b=0 then none else some (.int k (k.wrap (a.tdiv b)))
 | .rem=>if b=0 then none else some (.int k (a.tmod b))
 | .and=>some (.int k (k.wrap (BitVec.ofInt k.bits a &&& BitVec.ofInt k.bits b).toNat))
 | .or=>some (.int k (k.wrap (BitVec.ofInt k.bits a ||| BitVec.ofInt k.bits b).toNat))
 | .xor=>some (.int k (k.wrap (BitVec.ofInt k.bits a ^^^ BitVec.ofInt k.bits b).toNat))
 | .andNot=>some (.int k (k.wrap (BitVec.ofInt k.bits a &&& ~~~ BitVec.ofInt k.bits b).toNat))
 | .shl | .shr=>none
 | .eql=>some (.bool (a==b))
 | .neq=>some (.bool (a != b))
 | .lss=>some (.bool (a<b))
 | .leq=>some (.bool (a≤b))
 | .gtr=>some (.bool (a>b))
 | .geq=>some (.bool (a≥b))
def shI (left:Bool) (k:IntKind) (a b:Int):Option D :=
 if b<0 then none else bif left then some (.int k (k.wrap (a*2^(min b.toNat k.bits)))) else some (.int k (a.fdiv (2^(min b.toNat k.bits))))
def maxStr:Nat:=1099511627776
def eX (op:BinOp) (a b:List UInt8):Option D :=
 match op with
 | .add=>if a.length+b.length≤maxStr then some (.str (a++b)) else none
 | .eql=>some (.bool (a==b))
 | .neq=>some (.bool (!(a==b)))
 | .lss=>some (.bool (Op.bytesLess a b))
 | .leq=>some (.bool (Op.bytesLess a b || a==b))
 | .gtr=>some (.bool (!(Op.bytesLess a b || a==b)))
 | .geq=>some (.bool (!Op.bytesLess a b))
 | _=>none
def eF:List Nat→List D→List D→Option Bool
 | [],[],[]=>some true
 | 1::ks,.int k a::xs,.int k' b::ys=>bif k==k' then (eF ks xs ys).bind fun r=>some ((a==b) && r) else none
 | 0::ks,.bool a::xs,.bool b::ys=>(eF ks xs ys).bind fun r=>some ((a==b) && r)
 | 2::ks,.str a::xs,.str b::ys=>(eF ks xs ys).bind fun r=>some ((a==b) && r)
 | _,_,_=>none
inductive K where
 | aX
 | pick
 | box (j:Nat)
 | alloc (j:Nat) (z:List D)
 | au
 | W9
 | aY (n:Nat)
 | store (n:Nat)
 | build (z:List D) (ps:List (Nat×Nat))
 | Df (esz len:Nat) (z:List D) (ps:List (Nat×Nat))
 | YU (j esz len:Nat) (z:List D) (ps:List (Nat×Nat))
 | oP
 | aj (op:BinOp)
 | sh (left:Bool)
 | eX (op:BinOp)
 | eqB (neg:Bool)
 | xO (neg:Bool)
 | eqN (neg c:Bool)
 | eqE (neg:Bool)
 | eqA (neg:Bool) (ks:List Nat)
 | neg | inv | not
 | conv (k:IntKind)
 | b2s
 | eqS (neg:Bool)
 | Xc (t:Nat)
 | ab1 (f:Nat)
 | Iu (j esz:Nat) (z:List D)
 | Wi (lo hi:Bool)
 | RX (esz:Nat) (lo hi:Bool)
 | aK (off:Nat)
 | bM (esz:Nat)
 | aal (esz len:Nat)
 | Ze
 | ext (i:Nat)
 | fld (off:Nat)
 | wV
 | b_
 | mn
 | mx
 | app (j esz:Nat)
 | xG (f:Nat)
 | ah (f:Nat)
 | bJ (f:Nat)
 | Es
 | mkm (j:Nat)
 | Zo
 | Zn
 | ZU (t:Nat) (z:D)
 | Vg (tab:List (Nat×Bool))
 | JO (tab:List (Nat×Nat))
 | abY (tab:List (Nat×Nat))
 | eqF (neg:Bool) (ts:List Nat)
 | stop
 deriving Inhabited
structure EO where
 k:K
 xs:List Aj
 dst:Option Nat
 guard:Option (Nat×Bool)
 deriving Inhabited
abbrev EO.M (d a:Nat):EO:=⟨.aX,[.t a],some d,none⟩
abbrev EO.C (d:Nat) (k:D):EO:=⟨.aX,[.k k],some d,none⟩
abbrev EO.o (d:Nat) (k:K) (xs:List Aj):EO:=⟨k,xs,some d,none⟩
abbrev EO.g (t:Nat) (b:Bool) (d:Nat) (k:K) (xs:List Aj):EO:=⟨k,xs,some d,some (t,b)⟩
inductive EC where
 | skip
 | region (n:Nat) (ops:List EO)
 | drawn (n:Nat) (ops:List (Nat×EO))
 | seq (a b:EC)
 | cond (c:Aj) (a b:EC)
 | block (id:Nat) (c:EC)
 | loop (ins outs:List Nat) (body:EC)
 | exit (id:Nat)
 | ret
 | mask (keep:List Nat) (c:EC)
 | join (keep:List Nat) (c:EC)
 | XP (ts:List Nat) (c:EC)
 deriving Inhabited
structure aC where
 bJ:Nat→List D→Mem→Option (D×Mem)
 loop:List Nat→List Nat→EC→Nat→List D→Mem→Option (Ex×List D×Mem)
 call:Nat→List D→Option D
def qJ:List D→List (Nat×Nat)→List D→Option (List D)
 | cells,[],[]=>some cells
 | cells,(off,n)::ps,d::ds=>(fK d).bind fun cs=>if cs.length=n∧off+n≤cells.length then qJ (CS cells off cs) ps ds else none
 | _,_,_=>none
def zeros (len:Nat) (z:List D):List D:=(List.range (len*z.length)).map fun i=>z.getD (i % z.length) .undef
def bnd (x:Option D) (hi:Nat) (dflt:Nat):Option Nat :=
 match x with
 | none=>some dflt
 | some (.int _ i)=>if 0≤i∧i≤hi then some i.toNat else none
 | _=>none
def xu (r:Option (D×Mem)):Option D:=r.bind fun r=>(fz FZ r.1 r.2).bind fun s=>some s.1
def yt:Nat:=4294967296
abbrev RV:=Option (D×Mem)
def Bf (base j:Nat) (cs:List D) (d:D) (m:Mem):RV:=match m[base+j]? with
 | some .free=>some (d,m.set (base+j) (.live cs))
 | _=>none
def ZG (ds:List D) (m:Mem):RV:=match ds with | [d]=>some (d,m) | _=>none
def PG (ds:List D) (m:Mem):RV:=match ds with | [.bool b,x,y]=>some (bif b then x else y,m) | _=>none
def Zz (base j:Nat) (ds:List D) (m:Mem):RV:=match ds with | [d]=>(fK d).bind fun cs=>Bf base j cs (.loc (base+j) 0) m | _=>none
def N9 (base j:Nat) (z:List D) (ds:List D) (m:Mem):RV:=match ds with | []=>Bf base j z (.loc (base+j) 0) m | _=>none
def BP (ds:List D) (m:Mem):RV:=match ds with | [a]=>(VD m a).bind fun r=>(r.1[r.2]?).bind fun d=>some (d,m) | _=>none
def Oa (ds:List D) (m:Mem):RV:=match ds with | [.ref cs off]=>(cs[off]?).bind fun d=>some (d,m) | _=>none
def J6 (n:Nat) (ds:List D) (m:Mem):RV:=match ds with | [a]=>(VD m a).bind fun r=>(oU r.1 r.2 n).bind fun ds=>some (.agg ds,m) | _=>none
def Ea (n:Nat) (ds:List D) (m:Mem):RV:=match ds with
 | [.loc b off,d]=>(fK d).bind fun cs=>match m[b]? with
   | some (.live cells)=>if cs.length=n∧off+n≤cells.length then some (.aZ [],m.set b (.live (CS cells off cs))) else none
   | _=>none
 | _=>none
def N_ (z:List D) (ps:List (Nat×Nat)) (ds:List D) (m:Mem):RV:=(qJ z ps ds).bind fun cs=>some (.agg cs,m)
def ZA (len:Nat) (z:List D) (ps:List (Nat×Nat)) (ds:List D) (m:Mem):RV :=
 bif ds.all (D.clo 0 FZ) then (qJ (zeros len z) ps ds).bind fun cs=>some (.sl len cs,m) else none
def Uw (base j esz len:Nat) (z:List D) (ps:List (Nat×Nat)) (ds:List D) (m:Mem):RV :=
 (qJ (zeros len z) ps ds).bind fun cs=>Bf base j cs (.bf (base+j) 0 len esz) m
def J8 (ds:List D) (m:Mem):RV:=match ds with | [.loc b off]=>some (.loc b off,m) | [.ref cs off]=>some (.ref cs off,m) | _=>none
def gq (op:BinOp) (ds:List D) (m:Mem):RV:=match ds with | [.int k a,.int k' b]=>bif k==k' then (Ev.aj op k a b).bind fun d=>some (d,m) else none | _=>none
def tK (l:Bool) (ds:List D) (m:Mem):RV:=match ds with | [.int k a,.int _ b]=>(shI l k a b).bind fun d=>some (d,m) | _=>none
def E8 (op:BinOp) (ds:List D) (m:Mem):RV:=match ds with | [.str a,.str b]=>(Ev.eX op a b).bind fun d=>some (d,m) | _=>none
def ZC (n:Bool) (ds:List D) (m:Mem):RV:=match ds with | [.bool a,.bool b]=>some (.bool ((a==b) != n),m) | _=>none
def U7 (n:Bool) (ds:List D) (m:Mem):RV:=match ds with
 | [.aV,.aV]=>some (.bool (true != n),m)
 | [.aV,.loc _ _] | [.aV,.ref _ _] | [.loc _ _,.aV] | [.ref _ _,.aV]=>some (.bool (false != n),m)
 | _=>none
def U6 (n c:Bool) (ds:List D) (m:Mem):RV:=match ds with
 | [.aG,.aG]=>bif c then some (.bool (true != n),m) else none
 | [.aG,.iface _ _] | [.iface _ _,.aG]=>some (.bool (false != n),m)
 | _=>none
def ZB (n:Bool) (ks:List Nat) (ds:List D) (m:Mem):RV:=match ds with
 | [.agg xs,.agg ys]=>(eF ks xs ys).bind fun r=>some (.bool (r != n),m)
 | _=>none
def bytesOf:List D→Option (List UInt8)
 | []=>some []
 | .int .u8 n::ds=>if 0≤n∧n<256 then (bytesOf ds).bind fun bs=>some (UInt8.ofNat n.toNat::bs) else none
 | _=>none
def ab_ (ds:List D) (m:Mem):RV:=match ds with
 | [x]=>(slc m 1 x).bind fun r=>(oU r.1 r.2.1 r.2.2).bind fun cs=>(bytesOf cs).bind fun bs=>some (.str bs,m)
 | _=>none
def ace (n:Bool) (ds:List D) (m:Mem):RV:=match ds with
 | [.cu,.cu]=>some (.bool (true != n),m)
 | [.sl (_+1) _,.cu] | [.cu,.sl (_+1) _] | [.bf ..,.cu] | [.cu,.bf ..]=>some (.bool (false != n),m)
 | _=>none
def ZH (ds:List D) (m:Mem):RV:=match ds with | [.int k a]=>some (.int k (k.wrap (0-a)),m) | _=>none
def acf (ds:List D) (m:Mem):RV:=match ds with | [.int k a]=>(Ev.aj .xor k (if k.signed then -1 else k.max) a).bind fun d=>some (d,m) | _=>none
def ZI (ds:List D) (m:Mem):RV:=match ds with | [.bool b]=>some (.bool (!b),m) | _=>none
def Ux (k:IntKind) (ds:List D) (m:Mem):RV:=match ds with | [.int _ n]=>some (.int k (k.wrap n),m) | _=>none
def Uz (t:Nat) (ds:List D) (m:Mem):RV:=match ds with | [d]=>some (.iface t d,m) | _=>none
def PD (base j esz:Nat) (z:List D) (ds:List D) (m:Mem):RV:=match ds with
 | [.int _ n,.int _ n']=>if 0≤n∧n≤yt∧n'=n then Bf base j (zeros n.toNat z) (.bf (base+j) 0 n.toNat esz) m else none
 | _=>none
def lG (lo hi:Bool) (len:Nat) (xs:List D):Option (Nat×Nat) :=
 match lo,hi,xs with
 | false,false,[]=>some (0,len)
 | true,false,[x]=>(bnd (some x) len 0).bind fun l=>some (l,len)
 | false,true,[y]=>(bnd (some y) len 0).bind fun h=>some (0,h)
 | true,true,[x,y]=>(bnd (some y) len 0).bind fun h=>(bnd (some x) h 0).bind fun l=>some (l,h)
 | _,_,_=>none
def ZJ (lo hi:Bool) (ds:List D) (m:Mem):RV:=match ds with
 | .str s::xs=>(lG lo hi s.length xs).bind fun r=>some (.str ((s.drop r.1).take (r.2-r.1)),m)
 | _=>none
def Rq (esz:Nat) (lo hi:Bool) (ds:List D) (m:Mem):RV:=match ds with
 | .cu::xs=>(lG lo hi 0 xs).bind fun r=>some (.cu,m)
 | .sl len cs::xs=>(lG lo hi len xs).bind fun r=>(oU cs (r.1*esz) ((r.2-r.1)*esz)).bind fun cs'=>some (.sl (r.2-r.1) cs',m)
 | .bf b off len e::xs=>bif Nat.beq e esz then (lG lo hi len xs).bind fun r=>some (.bf b (off+r.1*esz) (r.2-r.1) esz,m) else none
 | _=>none
def Px (off:Nat) (ds:List D) (m:Mem):RV:=match ds with | [.loc b o]=>some (.loc b (o+off),m) | [.ref cs o]=>some (.ref cs (o+off),m) | _=>none
def H6 (esz:Nat) (ds:List D) (m:Mem):RV:=match ds with
 | [.sl len cs,.int _ i]=>if 0≤i∧i<len then some (.ref cs (i.toNat*esz),m) else none
 | [.bf b off len e,.int _ i]=>if 0≤i∧i<len then some (.loc b (off+i.toNat*esz),m) else none
 | _=>none
def D_ (esz len:Nat) (ds:List D) (m:Mem):RV:=match ds with
 | [.loc b off,.int _ i]=>if 0≤i∧i<len then some (.loc b (off+i.toNat*esz),m) else none
 | [.ref cs off,.int _ i]=>if 0≤i∧i<len then some (.ref cs (off+i.toNat*esz),m) else none
 | _=>none
def Py (ds:List D) (m:Mem):RV:=match ds with
 | [.str s,.int _ i]=>if 0≤i then (s[i.toNat]?).bind fun b=>some (.int .u8 b.toNat,m) else none
 | _=>none
def ZF (off:Nat) (ds:List D) (m:Mem):RV:=match ds with | [.agg cs]=>(cs[off]?).bind fun d=>some (d,m) | _=>none
def ZE (i:Nat) (ds:List D) (m:Mem):RV:=match ds with | [.aZ ds]=>(ds[i]?).bind fun d=>some (d,m) | _=>none
def Uy (ds:List D) (m:Mem):RV:=match ds with | [.str s]=>some (.int .i64 s.length,m) | _=>none
def J5 (ds:List D) (m:Mem):RV:=match ds with
 | [.cu]=>some (.int .i64 0,m)
 | [.sl len _]=>some (.int .i64 len,m)
 | [.bf _ _ len _]=>some (.int .i64 len,m)
 | _=>none
def rMn (ds:List D) (m:Mem):RV:=match ds with | [.int k a,.int _ b]=>some (.int k (if b<a then b else a),m) | _=>none
def rMx (ds:List D) (m:Mem):RV:=match ds with | [.int k a,.int _ b]=>some (.int k (if b>a then b else a),m) | _=>none
def Xu (base j esz:Nat) (ds:List D) (m:Mem):RV:=match ds with
 | [d,x]=>(slc m esz x).bind fun rx=>(oU rx.1 rx.2.1 (rx.2.2*esz)).bind fun news=>match d with
   | .cu=>if rx.2.2=0 then some (.cu,m) else if rx.2.2≤yt then Bf base j news (.bf (base+j) 0 rx.2.2 esz) m else none
   | .bf b off len e=>bif Nat.beq e esz then (match m[b]? with
     | some (.live cells)=>(oU cells off (len*esz)).bind fun olds =>
       if len+rx.2.2≤yt then Bf base j (olds++news) (.bf (base+j) 0 (len+rx.2.2) esz) (m.set b .dead) else none
     | _=>none) else none
   | _=>none
 | _=>none
def yT (O:aC) (f:Nat) (args:List D) (m:Mem):RV:=(jE (fz FZ) args m).bind fun r=>(O.call f r.1).bind fun d=>some (d,r.2)
def uI (O:aC) (f:Nat) (args:List D) (m:Mem):RV:=bif args.all (D.clo 0 FZ) then (O.call f args).bind fun d=>some (d,m) else none
def J4 (O:aC) (ds:List D) (m:Mem):RV:=match ds with
 | .func f cap::args=>(jE (fz FZ) (args++cap) m).bind fun r=>(O.call f r.1).bind fun d=>some (d,r.2)
 | _=>none
def Xv (base j:Nat) (ds:List D) (m:Mem):RV:=match ds with
 | []=>match m[base+j]? with
   | some .free=>some (.lmap (base+j),m.set (base+j) (.mp []))
   | _=>none
 | _=>none
def Zf (ks:List Int) (k:Int):List Int:=bif ks.contains k then ks else k::ks
def PE (ds:List D) (m:Mem):RV:=match ds with
 | [.lmap b,.int .i64 k,.bool true]=>match m[b]? with
   | some (.mp ks)=>some (.aZ [],m.set b (.mp (Zf ks k)))
   | _=>none
 | _=>none
def J7 (ds:List D) (m:Mem):RV:=match ds with
 | [.lmap b,.int .i64 k]=>match m[b]? with
   | some (.mp ks)=>some (.bool (ks.contains k),m)
   | _=>none
 | [.sK ks,.int .i64 k]=>some (.bool (ks.contains k),m)
 | [.zq,.int .i64 _]=>some (.bool false,m)
 | _=>none
def zJ {α:Type}:List (Nat×α)→Nat→Option α
 | [],_=>none
 | (i,e)::r,n=>bif Nat.beq i n then some e else zJ r n
def NG (t:Nat) (z:D) (ds:List D) (m:Mem):RV:=match ds with
 | [.aG]=>some (.aZ [z,.bool false],m)
 | [.iface u d]=>bif Nat.beq u t then some (.aZ [d,.bool true],m) else some (.aZ [z,.bool false],m)
 | _=>none
def PI (tab:List (Nat×Bool)) (ds:List D) (m:Mem):RV:=match ds with
 | [.aG]=>some (.aZ [.aG,.bool false],m)
 | [.iface u d]=>(zJ tab u).bind fun b=>bif b then some (.aZ [.iface u d,.bool true],m) else some (.aZ [.aG,.bool false],m)
 | _=>none
def ND (O:aC) (tab:List (Nat×Nat)) (ds:List D) (m:Mem):RV:=match ds with
 | .iface u d::args=>(zJ tab u).bind fun f=>uI O f (d::args) m
 | _=>none
def Pz (O:aC) (tab:List (Nat×Nat)) (ds:List D) (m:Mem):RV:=match ds with
 | .iface u d::args=>(zJ tab u).bind fun f=>yT O f (d::args) m
 | _=>none
def acd (n:Bool) (ts:List Nat) (ds:List D) (m:Mem):RV:=match ds with
 | [.aG,.iface _ _] | [.iface _ _,.aG]=>some (.bool (false != n),m)
 | [.iface t (.int k a),.iface u (.int k' b)]=>bif Nat.beq t u then (bif ts.contains t && k==k' then some (.bool ((a==b) != n),m) else none) else some (.bool (false != n),m)
 | [.iface t d,.iface u e]=>bif Nat.beq t u then none else some (.bool (false != n),m)
 | _=>none
def K.run (O:aC) (base:Nat) (k:K) (ds:List D) (m:Mem):RV:=match k with
 | .aX=>ZG ds m
 | .pick=>PG ds m
 | .box j=>Zz base j ds m
 | .alloc j z=>N9 base j z ds m
 | .au=>BP ds m
 | .W9=>Oa ds m
 | .aY n=>J6 n ds m
 | .store n=>Ea n ds m
 | .build z ps=>N_ z ps ds m
 | .Df _ len z ps=>ZA len z ps ds m
 | .YU j esz len z ps=>Uw base j esz len z ps ds m
 | .oP=>J8 ds m
 | .aj op=>gq op ds m
 | .sh l=>tK l ds m
 | .eX op=>E8 op ds m
 | .eqB n=>ZC n ds m
 | .xO n=>U7 n ds m
 | .eqN n c=>U6 n c ds m
 | .eqE _=>none
 | .eqA n k=>ZB n k ds m
 | .neg=>ZH ds m
 | .inv=>acf ds m
 | .not=>ZI ds m
 | .conv k=>Ux k ds m
 | .b2s=>ab_ ds m
 | .eqS n=>ace n ds m
 | .Xc t=>Uz t ds m
 | .ab1 f=>some (.func f ds,m)
 | .Iu j esz z=>PD base j esz z ds m
 | .Wi lo hi=>ZJ lo hi ds m
 | .RX esz lo hi=>Rq esz lo hi ds m
 | .aK off=>Px off ds m
 | .bM esz=>H6 esz ds m
 | .aal esz len=>D_ esz len ds m
 | .Ze=>Py ds m
 | .ext i=>ZE i ds m
 | .fld off=>ZF off ds m
 | .wV=>Uy ds m
 | .b_=>J5 ds m
 | .mn=>rMn ds m
 | .mx=>rMx ds m
 | .app j esz=>Xu base j esz ds m
 | .xG f=>yT O f ds m
 | .ah f=>uI O f ds m
 | .bJ f=>O.bJ f ds m
 | .Es=>J4 O ds m
 | .mkm j=>Xv base j ds m
 | .Zo=>PE ds m
 | .Zn=>J7 ds m
 | .ZU t z=>NG t z ds m
 | .Vg tab=>PI tab ds m
 | .JO tab=>ND O tab ds m
 | .abY tab=>Pz O tab ds m
 | .eqF n ts=>acd n ts ds m
 | .stop=>none
def evs (e:Env):List Aj→Option (List D)
 | []=>some []
 | x::xs=>(x.ev e).bind fun d=>(evs e xs).bind fun ds=>some (d::ds)
def xE (e:Env) (dst:Option Nat) (d:D):Env :=
 match dst with
 | some t=>(t,d)::e
 | none=>e
def EO.wants (e:Env) (o:EO):Option Bool :=
 match o.guard with
 | none=>some true
 | some (t,b)=>match look e t with
   | some (.bool b')=>some (b'==b)
   | some (.aZ [])=>some false
   | _=>none
def EO.run (O:aC) (base:Nat) (o:EO) (e:Env) (m:Mem):Option (Env×Mem) :=
 (o.wants e).bind fun w=>bif w then (evs e o.xs).bind fun ds=>(o.k.run O base ds m).bind fun r=>some (xE e o.dst r.1,r.2) else some (xE e o.dst (.aZ []),m)
def sQ (O:aC) (base:Nat):List EO→Env→Mem→Option (Env×Mem)
 | [],e,m=>some (e,m)
 | o::os,e,m=>(o.run O base e m).bind fun r=>sQ O base os r.1 r.2
def Po (e:Env):List Nat→Env
 | []=>[]
 | t::ts=>match look e t with
   | some d=>(t,d)::Po e ts
   | none=>Po e ts
def oQ (e:Env):List Nat→List D
 | []=>[]
 | t::ts=>(look e t).getD .undef::oQ e ts
def vJ:List Nat→List D→Env
 | [],_=>[]
 | t::ts,ds=>(t,ds.headD .undef)::vJ ts ds.tail
def EC.exec {R:Type} (O:aC):EC→Env→Mem→(Ex→Env→Mem→Option R)→Option R
 | .skip,e,m,k=>k .normal e m
 | .region n ops,e,m,k=>(sQ O m.length ops e (m++List.replicate n .free)).bind fun r=>k .normal r.1 r.2
 | .drawn n ops,e,m,k=>(sQ O m.length (ops.map (·.2)) e (m++List.replicate n .free)).bind fun r=>k .normal r.1 r.2
 | .XP ts c,e,m,k=>(jE (fz FZ) (oQ e ts) m).bind fun r=>c.exec O (vJ ts r.1++e) r.2 k
 | .seq a b,e,m,k=>a.exec O e m fun x e' m'=>match x with
   | .normal=>b.exec O e' m' k
   | x=>k x e' m'
 | .cond c a b,e,m,k=>match c.ev e with
   | some (.bool t)=>if t=true then a.exec O e m k else b.exec O e m k
   | _=>none
 | .block id c,e,m,k=>c.exec O e m fun x e' m'=>match x with
   | .exit i=>bif Nat.beq i id then k .normal e' m' else k (.exit i) e' m'
   | x=>k x e' m'
 | .loop ins outs body,e,m,k=>(O.loop ins outs body m.length (oQ e ins) m).bind fun r=>k r.1 (vJ outs r.2.1) r.2.2
 | .exit id,e,m,k=>k (.exit id) e m
 | .ret,e,m,k=>k .ret e m
 | .mask keep c,e,m,k=>c.exec O (Po e keep) m k
 | .join keep c,e,m,k=>(c.exec O e m fun x e' m'=>some (x,oQ e' keep,m')).bind fun r=>k r.1 (vJ keep r.2.1) r.2.2
inductive ER where
 | tmp (t:Nat)
 | cell (t:Nat) (agg:Bool) (n:Nat)
 deriving Inhabited
def ER.get (e:Env) (m:Mem):ER→Option D
 | .tmp t=>look e t
 | .cell t agg n=>(look e t).bind fun a=>(VD m a).bind fun r=>bif agg then (oU r.1 r.2 n).bind fun ds=>some (.agg ds) else r.1[r.2]?
def Dv (e:Env) (m:Mem):List ER→Option (List D)
 | []=>some []
 | r::rs=>(r.get e m).bind fun d=>(Dv e m rs).bind fun ds=>some (d::ds)
structure EF where
 params:List Nat
 res:List ER
 body:EC
 deriving Inhabited
def DW (O:aC) (ins outs:List Nat) (body:EC) (base:Nat) (vals:List D) (m:Mem):Option (Ex×List D×Mem) :=
 body.exec O (vJ ins vals) m fun x e m'=>match x with
  | .normal=>(gc base (oQ e ins) m').bind fun r=>O.loop ins outs body base r.1 r.2
  | x=>(gc base (oQ e outs) m').bind fun r=>some (x,r.1,r.2)
def KC (r:List D×Mem):D×Mem:=match r.1 with
 | [d]=>(d,r.2)
 | ds=>(.aZ ds,r.2)
def EF.step (O:aC) (f:EF) (args:List D) (m:Mem):Option (D×Mem) :=
 bif Nat.beq args.length f.params.length then
  f.body.exec O (vJ f.params args) m fun x e m'=>match x with
    | .exit _=>none
    | _=>(Dv e m' f.res).bind fun rs=>(gc m.length rs m').bind fun r=>some (KC r)
 else none
structure Tab where
 fn:Nat→Option EF
 kH:Nat→List D→Mem→Option (D×Mem)
def Tab.nT (T:Tab):Nat→aC
 | 0=>⟨fun _ _ _=>none,fun _ _ _ _ _ _=>none,fun _ _=>none⟩
 | n+1 =>
   ⟨fun f args m=>match T.fn f with
    | some ef=>ef.step (T.nT n) args m
    | none=>T.kH f args m,
    fun ins outs body base vals m=>DW (T.nT n) ins outs body base vals m,
    fun f args=>xu (match T.fn f with
     | some ef=>ef.step (T.nT n) args []
     | none=>T.kH f args [])⟩
end Go.Ev
end
section
namespace Go.Ev
def XO:D→Value→Bool
 | .int k n,.int k' n'=>k==k' && n==n'
 | .bool b,.bool b'=>b==b'
 | .str s,.string b=>s==b.data.toList
 | .aV,.pointer none=>true
 | .cu,.slice none 0 0=>true
 | .sl 0 [],.slice none 0 0=>true
 | .aG,.nilIface=>true
 | .zq,.map none=>true
 | .raw b o,.pointer (some ⟨b',o',none⟩)=>Nat.beq b b' && Nat.beq o o'
 | _,_=>false
def aeC:List D→List Value→Bool
 | [],[]=>true
 | d::ds,v::vs=>XO d v && aeC ds vs
 | _,_=>false
def Aj.chk:Aj→Operand→Bool
 | .t n,.tmp m=>Nat.beq n m
 | .k d,.const v=>XO d v
 | .k (.func f []),.func f'=>Nat.beq f f'
 | _,_=>false
def aex:List Aj→List Operand→Bool
 | [],[]=>true
 | x::xs,y::ys=>x.chk y && aex xs ys
 | _,_=>false
section
variable (P:Program)
def Gn (t:TypeId):Option TypeId:=match P.underlying t with | some (.slice e)=>some e | _=>none
def XD (t:TypeId):Option Bool:=match P.underlying t with | some (.struct _) | some (.array _ _)=>some true | some _=>some false | none=>none
def pW (t:TypeId):Option Nat:=(P.info? t).map (·.size)
def oN (t:TypeId) (z:List D):Bool:=match (P.info? t).bind (·.zero) with | some v=>aeC z v.cells.toList | none=>false
def Ac (place:Nat→Option (Nat×Nat)):List (Nat×Operand)→List (Nat×Nat)→Bool
 | [],[]=>true
 | (i,_)::xs,(off,n)::ps=>(match place i with | some (o,s)=>Nat.beq o off && Nat.beq s n | none=>false) && Ac place xs ps
 | _,_=>false
def placesOf (t:TypeId):Nat→Option (Nat×Nat):=fun i =>
 match P.underlying t with
 | some (.struct fs)=>(fs[i]?).bind fun f=>(pW P f.type).map fun s=>(f.offset,s)
 | some (.array _ e)=>(pW P e).map fun s=>(i*s,s)
 | _=>none
def Ih (t:TypeId):Bool:=match P.underlying t with
 | some (.struct fs)=>fs.toList.all fun f=>(pW P f.type).isSome
 | some (.array _ e)=>(pW P e).isSome
 | _=>false
def isK (x:Operand):Bool:=match x with | .const _=>true | _=>false
def aiS (t:TypeId) (k:Nat):Bool :=
 match P.underlying t with
 | some .bool=>Nat.beq k 0
 | some (.int _)=>Nat.beq k 1
 | some .string=>Nat.beq k 2
 | _=>false
def eqFields:List Field→List Nat→Nat→Bool
 | [],[],_=>true
 | f::fs,k::ks,i=>Nat.beq f.offset i && f.name != "_" && aiS P f.type k && eqFields fs ks (i+1)
 | _,_,_=>false
def VO (u:TypeId) (name:String) (f:Nat):Bool :=
 match (P.info? u).bind (fun i=>i.methods.find? (·.name==name)) with
 | some m=>match m.path.toList,m.func with
   | [],some (g,pr)=>Nat.beq f g && (match P.underlying u with | some (.pointer _)=>pr | some _ => !pr | none=>false)
   | _,_=>false
 | none=>false
def VP (name:String):List (Nat×Nat)→Bool
 | []=>true
 | (u,f)::r=>VO P u name f && VP name r
def hasAll (want:Array (String×TypeId)):List (Nat×Bool)→Bool
 | []=>true
 | (u,b)::r=>((P.info? u).map (fun i=>(lacking want i.methods).isEmpty))==some b && hasAll want r
def N8:List Nat→Bool
 | []=>true
 | t::ts=>(match P.underlying t with | some (.int _)=>true | _=>false) && (match P.info? t with | some i=>i.comparable | none=>false) && N8 ts
def bI (k:K) (op:Op):Option (List Operand) :=
 match k with
 | .aX=>match op with | .move x | .assign x=>some [x] | _=>none
 | .pick=>match op with | .pick c a b=>some [c,a,b] | _=>none
 | .box _=>match op with | .box _ x=>some [x] | _=>none
 | .alloc _ z=>match op with | .alloc e=>if oN P e z then some [] else none | _=>none
 | .au | .W9=>match op with | .load t x=>if XD P t=some false then some [x] else none | _=>none
 | .aY n=>match op with | .load t x=>if XD P t=some true∧pW P t=some n then some [x] else none | _=>none
 | .store n=>match op with | .store t x y=>if pW P t=some n then some [x,y] else none | _=>none
 | .build z ps=>match op with
   | .build t parts=>if oN P t z∧Ih P t∧Ac (placesOf P t) parts.toList ps then some (parts.toList.map (·.2)) else none
   | _=>none
 | .Df esz len z ps | .YU _ esz len z ps=>match op with
   | .buildSlice t n parts=>(Gn P t).bind fun e=>if pW P e=some esz∧n=len∧0<esz∧z.length=esz∧len*esz≤16777216∧oN P e z∧Ac (fun i=>some (i*esz,esz)) parts.toList ps then some (parts.toList.map (·.2)) else none
   | _=>none
 | .oP=>match op with | .nilCheck x=>some [x] | _=>none
 | .aj b=>match op with | .binOp b' _ x y _=>if b=b'∧b ≠ .shl∧b ≠ .shr then some [x,y] else none | _=>none
 | .sh l=>match op with | .binOp b _ x y _=>if b=(if l then .shl else .shr) then some [x,y] else none | _=>none
 | .eX b=>match op with | .binOp b' _ x y _=>if b=b' then some [x,y] else none | _=>none
 | .eqB n=>match op with | .binOp b t x y _=>if b=(if n then .neq else .eql)∧P.underlying t matches some .bool then some [x,y] else none | _=>none
 | .xO n=>match op with | .binOp b t x y _=>if b=(if n then .neq else .eql)∧P.underlying t matches some (.pointer _) then some [x,y] else none | _=>none
 | .eqN n c=>match op with | .binOp b t x y _=>if b=(if n then .neq else .eql)∧(P.underlying t matches some (.interface _))∧(c=false∨isK x∨isK y) then some [x,y] else none | _=>none
 | .eqE _=>none
 | .eqA n k=>match op with
   | .binOp b t x y _=>match P.underlying t with
     | some (.struct fs)=>if b=(if n then .neq else .eql)∧eqFields P fs.toList k 0∧P.eqGuardType P.depth t=false∧P.stoodInHeld t=false then some [x,y] else none
     | _=>none
   | _=>none
 | .neg=>match op with | .unOp .neg _ x=>some [x] | _=>none
 | .inv=>match op with | .unOp .xor _ x=>some [x] | _=>none
 | .not=>match op with | .unOp .not _ x=>some [x] | _=>none
 | .conv k=>match op with | .convert s d x=>if (P.underlying s).isSome∧P.underlying d matches some (.int _) then (match P.underlying d with | some (.int k')=>if k=k' then some [x] else none | _=>none) else none | _=>none
 | .b2s=>match op with
   | .convert s d x=>(Gn P s).bind fun e=>if (P.underlying e matches some (.int .u8))∧(P.underlying d matches some .string) then some [x] else none
   | _=>none
 | .eqS n=>match op with | .binOp b t x y _=>if b=(if n then .neq else .eql)∧P.underlying t matches some (.slice _) then some [x,y] else none | _=>none
 | .Xc t=>match op with | .makeInterface t' x=>if t=t'∧(P.underlying t).isSome∧¬ (P.underlying t matches some (.interface _)) then some [x] else none | _=>none
 | .ab1 f=>match op with | .makeFunc (.func f') first cap=>if f=f'∧first = #[] then some cap.toList else none | _=>none
 | .Iu _ esz z=>match op with
   | .makeSlice t x y=>(Gn P t).bind fun e=>if pW P e=some esz∧0<esz∧z.length=esz∧oN P e z∧((P.info? e).map (·.bytes)).getD 0≤4096∧(P.info? e).isSome then some [x,y] else none
   | _=>none
 | .Wi lo hi=>match op with
   | .slice t x l h none=>if (P.underlying t matches some .string)∧l.isSome=lo∧h.isSome=hi then some (x::l.toList++h.toList) else none
   | _=>none
 | .RX esz lo hi=>match op with
   | .slice t x l h none=>(Gn P t).bind fun e=>if pW P e=some esz∧l.isSome=lo∧h.isSome=hi then some (x::l.toList++h.toList) else none
   | _=>none
 | .aK off=>match op with
   | .fieldAddr t x f=>match P.underlying t with
     | some (.struct fs)=>(fs[f]?).bind fun fd=>if fd.offset=off∧(pW P fd.type).any (0 < ·) then some [x] else none
     | _=>none
   | _=>none
 | .bM esz=>match op with | .indexAddr t x y=>(Gn P t).bind fun e=>if pW P e=some esz then some [x,y] else none | _=>none
 | .aal esz len=>match op with
   | .indexAddr t x y=>match P.underlying t with
     | some (.array n e)=>if n=len∧pW P e=some esz then some [x,y] else none
     | _=>none
   | _=>none
 | .Ze=>match op with | .index t x y=>if P.underlying t matches some .string then some [x,y] else none | _=>none
 | .fld off=>match op with
   | .field t x f=>match P.underlying t with
     | some (.struct fs)=>(fs[f]?).bind fun fd=>if fd.offset=off∧XD P fd.type=some false then some [x] else none
     | _=>none
   | _=>none
 | .ext i=>match op with | .extract x i'=>if i=i' then some [x] else none | _=>none
 | .wV=>match op with | .call ⟨.builtin .len,args,ts⟩=>if (ts[0]?).any (fun t=>P.underlying t matches some .string)∧args.size=1 then some args.toList else none | _=>none
 | .b_=>match op with | .call ⟨.builtin .len,args,ts⟩=>if (ts[0]?).any (fun t=>P.underlying t matches some (.slice _))∧args.size=1 then some args.toList else none | _=>none
 | .mn=>match op with | .call ⟨.builtin .min,args,_⟩=>if args.size=2 then some args.toList else none | _=>none
 | .mx=>match op with | .call ⟨.builtin .max,args,_⟩=>if args.size=2 then some args.toList else none | _=>none
 | .app _ esz=>match op with
   | .call ⟨.builtin .append,args,ts⟩=>if args.size=2∧ts.size=2 then
     ((ts[0]?).bind (Gn P)).bind fun e=>((ts[1]?).bind (Gn P)).bind fun _ =>
       if pW P e=some esz∧0<esz∧((P.info? e).map (·.bytes)).getD 0≤4096∧(((P.info? e).bind (·.zero)).any fun v=>Nat.beq v.cells.size esz) then some args.toList else none
     else none
   | _=>none
 | .xG f | .ah f | .bJ f=>match op with
   | .call ⟨.value (.func f'),args,_⟩=>if f=f' then some args.toList else none
   | _=>none
 | .Es=>match op with
   | .call ⟨.value g,args,_⟩=>some (g::args.toList)
   | _=>none
 | .stop=>some []
 | .mkm _=>match op with | .makeMap _ none=>some [] | _=>none
 | .Zo=>match op with
   | .mapUpdate t x y z=>match P.underlying t with
     | some (.map kt _)=>if P.underlying kt matches some (.int .i64) then some [x,y,z] else none
     | _=>none
   | _=>none
 | .Zn=>match op with
   | .lookup t x y false=>match P.underlying t with
     | some (.map kt et)=>if (P.underlying kt matches some (.int .i64))∧oN P et [.bool false]∧(P.info? et).any (fun i=>match i.zero with | some (.agg _)=>false | some (.tuple _)=>false | _=>true) then some [x,y] else none
     | _=>none
   | _=>none
 | .ZU t z=>match op with
   | .typeAssert x _ t' true=>if t=t'∧(P.underlying t).isSome∧¬ (P.underlying t matches some (.interface _))∧oN P t [z]∧(P.info? t).any (fun i=>match i.zero with | some (.agg _)=>false | some (.tuple _)=>false | _=>true) then some [x] else none
   | _=>none
 | .Vg tab=>match op with
   | .typeAssert x _ t' true=>match P.underlying t' with
     | some (.interface want)=>if hasAll P want tab∧(P.info? t').any (fun i=>match i.zero with | some .nilIface=>true | _=>false) then some [x] else none
     | _=>none
   | _=>none
 | .JO tab | .abY tab=>match op with
   | .call ⟨.invoke recv name,args,_⟩=>if VP P name tab then some (recv::args.toList) else none
   | _=>none
 | .eqF n ts=>match op with | .binOp b t x y _=>if b=(if n then .neq else .eql)∧(P.underlying t matches some (.interface _))∧N8 P ts then some [x,y] else none | _=>none
end
inductive dS (c:Ctx):List D→List Value→Prop
 | nil:dS c [] []
 | cons {d:D} {v:Value} {ds:List D} {vs:List Value} (h:Rep c d v) (hs:dS c ds vs):dS c (d::ds) (v::vs)
theorem dS.mono {c c':Ctx} (h:Ext c c') {ds:List D} {vs:List Value} (hr:dS c ds vs):dS c' ds vs:=by
 induction hr with
 | nil=>exact .nil
 | cons h1 _ ih=>exact .cons (h1.mono h) ih
theorem dS.length {c:Ctx} {ds:List D} {vs:List Value} (hr:dS c ds vs):ds.length=vs.length:=by
 induction hr with
 | nil=>rfl
 | cons _ _ ih=>simp [ih]
theorem dS.get {c:Ctx} {ds:List D} {vs:List Value} (hr:dS c ds vs):∀ (i:Nat) (d:D),ds[i]?=some d→∃ v,vs[i]?=some v∧Rep c d v:=by
 induction hr with
 | nil=>intro i d h; simp at h
 | cons h1 _ ih =>
   intro i d h
   cases i with
   | zero=>simp at h; subst h; exact ⟨_,rfl,h1⟩
   | succ i=>exact ih i d (by simpa using h)
theorem aaf {c:Ctx} {d:D} {v:Value} (h:XO d v=true):Rep c d v:=by
 unfold XO at h
 split at h <;> simp at h
 ·obtain ⟨rfl,rfl⟩:=h; exact .dw _ _ (.int _ _)
 ·subst h; exact .dw _ _ (.bool _)
 ·subst h; exact .dw _ _ (.str _)
 ·exact .dw _ _ .aV
 ·exact .dw _ _ .cu
 ·exact .dw _ _ .sl0
 ·exact .dw _ _ .aG
 ·exact .dw _ _ .zq
 ·obtain ⟨rfl,rfl⟩:=h; exact .dw _ _ (.raw _ _)
theorem atb {d:D} {v:Value} (h:XO d v=true):v.oneCell'=true:=by
 unfold XO at h
 split at h <;> simp at h <;> rfl
theorem TJ:∀ {ds:List D} {vs:List Value},aeC ds vs=true→ds.length=vs.length∧∀ (i:Nat) (d:D),ds[i]?=some d→∃ v,vs[i]?=some v∧XO d v=true
 | [],[],_=>⟨rfl,fun i d h=>by simp at h⟩
 | [],_::_,h=>by simp [aeC] at h
 | _::_,[],h=>by simp [aeC] at h
 | d::ds,v::vs,h=>by
   simp [aeC] at h
   obtain ⟨h1,h2⟩:=TJ h.2
   refine ⟨by simp [h1],fun i e he=>?_⟩
   cases i with
   | zero=>simp at he; subst he; exact ⟨v,rfl,h.1⟩
   | succ i=>exact h2 i e (by simpa using he)
def y9 (c:Ctx) (e:Env) (a:Act):Prop:=∀ (t:Nat) (d:D),look e t=some d→Rep c d (a.tmps.getD t Go.undef)
theorem y9.mono {c c':Ctx} (h:Ext c c') {e:Env} {a:Act} (he:y9 c e a):y9 c' e a:=fun t d ht=>(he t d ht).mono h
theorem Aj.rep {c:Ctx} {e:Env} {a:Act} (he:y9 c e a) {x:Aj} {y:Operand} (hc:x.chk y=true) {d:D} (hd:x.ev e=some d):Rep c d (a.eval y):=by
 unfold Aj.chk at hc
 split at hc
 ·rename_i n m
  have := Nat.eq_of_beq_eq_true hc
  subst this
  exact he n d hd
 ·simp [Aj.ev] at hd
  subst hd
  exact aaf hc
 ·rename_i f f'
  have := Nat.eq_of_beq_eq_true hc
  subst this
  simp [Aj.ev] at hd
  subst hd
  exact .func f [] #[] (fun _=>undef) rfl (fun j hj=>by simp at hj) (fun j d hd=>by simp at hd)
 ·simp at hc
theorem alU {c:Ctx} {e:Env} {a:Act} (he:y9 c e a):∀ {xs:List Aj} {ys:List Operand} {ds:List D},aex xs ys=true→evs e xs=some ds→dS c ds (ys.map a.eval)
 | [],[],ds,_,h=>by simp [evs] at h; subst h; exact .nil
 | [],_::_,_,h,_=>by simp [aex] at h
 | _::_,[],_,h,_=>by simp [aex] at h
 | x::xs,y::ys,ds,hc,h=>by
   simp [aex] at hc
   simp [evs,Option.bind_eq_some_iff] at h
   obtain ⟨d,hd,ds',hds,rfl⟩:=h
   exact .cons (Aj.rep he hc.1 hd) (alU he hc.2 hds)
end Go.Ev
end
