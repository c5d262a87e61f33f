/- A part of the proof of priceAll_card, yieldAll_card, priceSum_card, flowAll_card, accrAll_card. -/
import Derived.Stop.Asserts
import Derived.Test.YtfkdcfbleblgoaaGreatDoorCBase
set_option linter.unusedVariables false
section
namespace Go.Ev
abbrev Env:=List (Nat×D)
def look:Env→Nat→Option D
 | [],_=>none
 | (t,d)::e,x=>bif Nat.beq t x then some d else look e x
inductive LV where
 | t (n:Nat)
 | k (d:D)
 deriving Inhabited
def LV.ev (e:Env):LV→Option D
 | .t n=>look e n
 | .k d=>some d
def D.one:D→Bool
 | .undef | .agg _ | .aG _=>false
 | _=>true
def eH:D→Option (List D)
 | .agg ds=>some ds
 | .undef | .aG _=>none
 | d=>some [d]
def D.clo (n:Nat):Nat→D→Bool
 | 0,_=>false
 | f+1,d=>match d with
   | .undef=>false
   | .loc b _ | .aO b _ _ _ | .lmap b=>decide (b<n)
   | .agg ds | .aG ds | .func _ ds=>ds.all (D.clo n f)
   | .iface _ d=>D.clo n f d
   | _=>true
inductive Ex where
 | normal
 | exit (id:Nat)
 | ret
 deriving Inhabited
def YF (m:Mem):D→Option (List D×Nat)
 | .loc b off=>match m[b]? with
   | some (.live cs) | some (.jc cs)=>some (cs,off)
   | _=>none
 | .ref cs off=>some (cs,off)
 | _=>none
def slc (m:Mem) (esz:Nat):D→Option (List D×Nat×Nat)
 | .dh=>some ([],0,0)
 | .sl len cs=>some (cs,0,len)
 | .aO b off len e=>bif Nat.beq e esz then (match m[b]? with
   | some (.live cs) | some (.jc cs)=>some (cs,off,len)
   | _=>none) else none
 | _=>none
def aS (cells:List D) (off:Nat):List D→List D
 | []=>cells
 | d::ds=>aS (cells.set off d) (off+1) ds
def m_ (cells:List D) (off n:Nat):Option (List D) :=
 if off+n≤cells.length then some ((cells.drop off).take n) else none
def jd (f:D→Mem→Option (D×Mem)):List D→Mem→Option (List D×Mem)
 | [],m=>some ([],m)
 | d::ds,m=>(f d m).bind fun r=>(jd f ds r.2).bind fun rs=>some (r.1::rs.1,rs.2)
def fz:Nat→D→Mem→Option (D×Mem)
 | 0,_,_=>none
 | n+1,d,m=>match d with
   | .undef=>none
   | .loc b off=>match m[b]? with
     | some (.jc cs)=>some (.ref cs off,m)
     | some (.live cs)=>(jd (fz n) cs m).bind fun r=>match r.2[b]? with
       | some (.live _)=>some (.ref r.1 off,r.2.set b (.jc r.1))
       | _=>none
     | _=>none
   | .aO b off len esz=>match m[b]? with
     | some (.jc cs)=>(m_ cs off (len*esz)).bind fun ds=>some (.sl len ds,m)
     | some (.live cs)=>(jd (fz n) cs m).bind fun r=>match r.2[b]? with
       | some (.live _)=>(m_ r.1 off (len*esz)).bind fun ds=>some (.sl len ds,r.2.set b (.jc r.1))
       | _=>none
     | _=>none
   | .agg ds=>(jd (fz n) ds m).bind fun r=>some (.agg r.1,r.2)
   | .aG ds=>(jd (fz n) ds m).bind fun r=>some (.aG r.1,r.2)
   | .func f ds=>(jd (fz n) ds m).bind fun r=>some (.func f r.1,r.2)
   | .iface t d=>(fz n d m).bind fun r=>some (.iface t r.1,r.2)
   | .dh=>some (.sl 0 [],m)
   | .lmap b=>match m[b]? with
     | some (.mp ks)=>some (.uz ks,m.set b .dead)
     | _=>none
   | d=>some (d,m)
def FZ:Nat:=12
def fH (base:Nat) (m:Mem):List D→List Nat→Mem→Option (List D×Mem)
 | [],_,acc=>some ([],acc)
 | d::ds,got,acc=>match d with
   | .aO b off len esz =>
     if b<base then (fH base m ds got acc).bind fun r=>some (.aO b off len esz::r.1,r.2)
     else bif got.contains b then none else match m[b]? with
      | some (.live cs)=>bif cs.all (D.clo base FZ) then (fH base m ds (b::got) (acc++[.live cs])).bind fun r=>some (.aO acc.length off len esz::r.1,r.2) else none
      | _=>none
   | .loc b off =>
     if b<base then (fH base m ds got acc).bind fun r=>some (.loc b off::r.1,r.2)
     else bif got.contains b then none else match m[b]? with
      | some (.live cs)=>bif cs.all (D.clo base FZ) then (fH base m ds (b::got) (acc++[.live cs])).bind fun r=>some (.loc acc.length off::r.1,r.2) else none
      | _=>none
   | .undef=>(fH base m ds got acc).bind fun r=>some (.undef::r.1,r.2)
   | .iface t d'=>bif D.clo base FZ (.iface t d') then (fH base m ds got acc).bind fun r=>some (.iface t d'::r.1,r.2) else match d' with
     | .loc b off=>bif got.contains b then none else match m[b]? with
       | some (.live cs)=>bif cs.all (D.clo base FZ) then (fH base m ds (b::got) (acc++[.live cs])).bind fun r=>some (.iface t (.loc acc.length off)::r.1,r.2) else none
       | _=>none
     | _=>none
   | d=>bif D.clo base FZ d then (fH base m ds got acc).bind fun r=>some (d::r.1,r.2) else none
def gc (base:Nat) (vals:List D) (m:Mem):Option (List D×Mem) :=
 bif decide (base≤m.length) && (m.take base).all (fun s=>match s with | .live cs=>cs.all (D.clo base FZ) | _=>true) then fH base m vals [] (m.take base) else none
def mF (op:BinOp) (k:IntKind) (a b:Int):Option D :=
 match op with
 | .add=>some (.int k (k.wrap (a+b)))
 | .sub=>some (.int k (k.wrap (a-b)))
 | .mul=>some (.int k (k.wrap (a*b)))
 | .quo=>if b=0 then none else some (.int k (k.wrap (a.tdiv b)))
 | .rem=>if b=0 then none else some (.int k (a.tmod b))
 | .and=>some (.int k (k.wrap (BitVec.ofInt k.bits a &&& BitVec.ofInt k.bits b).toNat))
 | .or=>some (.int k (k.wrap (BitVec.ofInt k.bits a ||| BitVec.ofInt k.bits b).toNat))
 | .xor=>some (.int k (k.wrap (BitVec.ofInt k.bits a ^^^ BitVec.ofInt k.bits b).toNat))
 | .andNot=>some (.int k (k.wrap (BitVec.ofInt k.bits a &&& ~~~ BitVec.ofInt k.bits b).toNat))
 | .shl | .shr=>none
 | .eql=>some (.bool (a==b))
 | .neq=>some (.bool (a != b))
 | .lss=>some (.bool (a<b))
 | .leq=>some (.bool (a≤b))
 | .gtr=>some (.bool (a>b))
 | .geq=>some (.bool (a≥b))
def shI (left:Bool) (k:IntKind) (a b:Int):Option D :=
 if b<0 then none else bif left then some (.int k (k.wrap (a*2^(min b.toNat k.bits)))) else some (.int k (a.fdiv (2^(min b.toNat k.bits))))
def maxStr:Nat:=1099511627776
def Td (op:BinOp) (a b:List UInt8):Option D :=
 match op with
 | .add=>if a.length+b.length≤maxStr then some (.str (a++b)) else none
 | .eql=>some (.bool (a==b))
 | .neq=>some (.bool (!(a==b)))
 | .lss=>some (.bool (Op.bytesLess a b))
 | .leq=>some (.bool (Op.bytesLess a b || a==b))
 | .gtr=>some (.bool (!(Op.bytesLess a b || a==b)))
 | .geq=>some (.bool (!Op.bytesLess a b))
 | _=>none
def dU:List Nat→List D→List D→Option Bool
 | [],[],[]=>some true
 | 1::ks,.int k a::xs,.int k' b::ys=>bif k==k' then (dU ks xs ys).bind fun r=>some ((a==b) && r) else none
 | 0::ks,.bool a::xs,.bool b::ys=>(dU ks xs ys).bind fun r=>some ((a==b) && r)
 | 2::ks,.str a::xs,.str b::ys=>(dU ks xs ys).bind fun r=>some ((a==b) && r)
 | _,_,_=>none
inductive K where
 | mov
 | pick
 | box (j:Nat)
 | alloc (j:Nat) (z:List D)
 | aaZ
 | alv
 | apZ (n:Nat)
 | UK (n:Nat)
 | RZ (n:Nat)
 | aa0 (n:Nat)
 | store (n:Nat)
 | build (z:List D) (ps:List (Nat×Nat))
 | bsl (esz len:Nat) (z:List D) (ps:List (Nat×Nat))
 | abE (j esz len:Nat) (z:List D) (ps:List (Nat×Nat))
 | aeG
 | mF (op:BinOp)
 | sh (left:Bool)
 | Td (op:BinOp)
 | eqB (neg:Bool)
 | eqP (neg:Bool)
 | eqN (neg c:Bool)
 | eqE (neg:Bool)
 | eqA (neg:Bool) (ks:List Nat)
 | neg | inv | not
 | conv (k:IntKind)
 | b2s
 | eqS (neg:Bool)
 | akn (t:Nat)
 | akm (f:Nat)
 | aeD (j esz:Nat) (z:List D)
 | slS (lo hi:Bool)
 | slL (esz:Nat) (lo hi:Bool)
 | ajJ (off:Nat)
 | akc (esz:Nat)
 | aex (esz len:Nat)
 | akd
 | ext (i:Nat)
 | fld (off:Nat)
 | akk
 | akj
 | mn
 | mx
 | app (j esz:Nat)
 | pU (f:Nat)
 | aaI (f:Nat)
 | bf (f:Nat)
 | ad9
 | mkm (j:Nat)
 | akp
 | ahm
 | ahU (t:Nat) (z:D)
 | acF (tab:List (Nat×Bool))
 | QE (tab:List (Nat×Nat))
 | akf (tab:List (Nat×Nat))
 | eqF (neg:Bool) (ts:List Nat)
 | stop
 deriving Inhabited
structure EO where
 k:K
 xs:List LV
 dst:Option Nat
 guard:Option (Nat×Bool)
 deriving Inhabited
abbrev EO.M (d a:Nat):EO:=⟨.mov,[.t a],some d,none⟩
abbrev EO.C (d:Nat) (k:D):EO:=⟨.mov,[.k k],some d,none⟩
abbrev EO.o (d:Nat) (k:K) (xs:List LV):EO:=⟨k,xs,some d,none⟩
abbrev EO.g (t:Nat) (b:Bool) (d:Nat) (k:K) (xs:List LV):EO:=⟨k,xs,some d,some (t,b)⟩
inductive EC where
 | skip
 | region (n:Nat) (ops:List EO)
 | drawn (n:Nat) (ops:List (Nat×EO))
 | seq (a b:EC)
 | cond (c:LV) (a b:EC)
 | block (id:Nat) (c:EC)
 | loop (ins outs:List Nat) (body:EC)
 | exit (id:Nat)
 | ret
 | mask (keep:List Nat) (c:EC)
 | join (keep:List Nat) (c:EC)
 | frz (ts:List Nat) (c:EC)
 deriving Inhabited
structure h_ where
 bf:Nat→List D→Mem→Option (D×Mem)
 loop:List Nat→List Nat→EC→Nat→List D→Mem→Option (Ex×List D×Mem)
 call:Nat→List D→Option D
def rP:List D→List (Nat×Nat)→List D→Option (List D)
 | cells,[],[]=>some cells
 | cells,(off,n)::ps,d::ds=>(eH d).bind fun cs=>if cs.length=n∧off+n≤cells.length then rP (aS cells off cs) ps ds else none
 | _,_,_=>none
def zeros (len:Nat) (z:List D):List D:=(List.range (len*z.length)).map fun i=>z.getD (i % z.length) .undef
def bnd (x:Option D) (hi:Nat) (dflt:Nat):Option Nat :=
 match x with
 | none=>some dflt
 | some (.int _ i)=>if 0≤i∧i≤hi then some i.toNat else none
 | _=>none
def yJ (r:Option (D×Mem)):Option D:=r.bind fun r=>(fz FZ r.1 r.2).bind fun s=>some s.1
def zK:Nat:=4294967296
abbrev RV:=Option (D×Mem)
def zD (base j:Nat) (cs:List D) (d:D) (m:Mem):RV:=match m[base+j]? with
 | some .free=>some (d,m.set (base+j) (.live cs))
 | _=>none
def aeY (ds:List D) (m:Mem):RV:=match ds with | [d]=>some (d,m) | _=>none
def UY (ds:List D) (m:Mem):RV:=match ds with | [.bool b,x,y]=>some (bif b then x else y,m) | _=>none
def aeS (base j:Nat) (ds:List D) (m:Mem):RV:=match ds with | [d]=>(eH d).bind fun cs=>zD base j cs (.loc (base+j) 0) m | _=>none
def JG (base j:Nat) (z:List D) (ds:List D) (m:Mem):RV:=match ds with | []=>zD base j z (.loc (base+j) 0) m | _=>none
def DY (ds:List D) (m:Mem):RV:=match ds with | [a]=>(YF m a).bind fun r=>(r.1[r.2]?).bind fun d=>some (d,m) | _=>none
def Rf (ds:List D) (m:Mem):RV:=match ds with | [.ref cs off]=>(cs[off]?).bind fun d=>some (d,m) | _=>none
def VA (n:Nat) (ds:List D) (m:Mem):RV:=match ds with | [.ref cs off]=>(m_ cs off n).bind fun ds=>some (.agg ds,m) | _=>none
def Ap (n:Nat) (ds:List D) (m:Mem):RV:=match ds with | [a]=>(YF m a).bind fun r=>(m_ r.1 r.2 n).bind fun ds=>some (.agg ds,m) | _=>none
def yM (n:Nat) (ds:List D) (m:Mem):RV:=match ds with
 | [.loc b off,d]=>(eH d).bind fun cs=>match m[b]? with
   | some (.live cells)=>if cs.length=n∧off+n≤cells.length then some (.aG [],m.set b (.live (aS cells off cs))) else none
   | _=>none
 | _=>none
def Rh (base n:Nat) (ds:List D) (m:Mem):RV:=match ds with | [.loc b off]=>if b<base then Ap n [.loc b off] m else none | _=>none
def Pn (base n:Nat) (ds:List D) (m:Mem):RV:=match ds with | [.loc b off,d]=>if base≤b then yM n [.loc b off,d] m else none | _=>none
def Q9 (z:List D) (ps:List (Nat×Nat)) (ds:List D) (m:Mem):RV:=(rP z ps ds).bind fun cs=>some (.agg cs,m)
def aeT (len:Nat) (z:List D) (ps:List (Nat×Nat)) (ds:List D) (m:Mem):RV :=
 bif ds.all (D.clo 0 FZ) then (rP (zeros len z) ps ds).bind fun cs=>some (.sl len cs,m) else none
def X4 (base j esz len:Nat) (z:List D) (ps:List (Nat×Nat)) (ds:List D) (m:Mem):RV :=
 (rP (zeros len z) ps ds).bind fun cs=>zD base j cs (.aO (base+j) 0 len esz) m
def NV (ds:List D) (m:Mem):RV:=match ds with | [.loc b off]=>some (.loc b off,m) | [.ref cs off]=>some (.ref cs off,m) | _=>none
def eX (op:BinOp) (ds:List D) (m:Mem):RV:=match ds with | [.int k a,.int k' b]=>bif k==k' then (Ev.mF op k a b).bind fun d=>some (d,m) else none | _=>none
def tV (l:Bool) (ds:List D) (m:Mem):RV:=match ds with | [.int k a,.int _ b]=>(shI l k a b).bind fun d=>some (d,m) | _=>none
def IG (op:BinOp) (ds:List D) (m:Mem):RV:=match ds with | [.str a,.str b]=>(Ev.Td op a b).bind fun d=>some (d,m) | _=>none
def aeV (n:Bool) (ds:List D) (m:Mem):RV:=match ds with | [.bool a,.bool b]=>some (.bool ((a==b) != n),m) | _=>none
def Zv (n:Bool) (ds:List D) (m:Mem):RV:=match ds with
 | [.iy,.iy]=>some (.bool (true != n),m)
 | [.iy,.loc _ _] | [.iy,.ref _ _] | [.loc _ _,.iy] | [.ref _ _,.iy]=>some (.bool (false != n),m)
 | _=>none
def Zu (n c:Bool) (ds:List D) (m:Mem):RV:=match ds with
 | [.bQ,.bQ]=>bif c then some (.bool (true != n),m) else none
 | [.bQ,.iface _ _] | [.iface _ _,.bQ]=>some (.bool (false != n),m)
 | _=>none
def aeU (n:Bool) (ks:List Nat) (ds:List D) (m:Mem):RV:=match ds with
 | [.agg xs,.agg ys]=>(dU ks xs ys).bind fun r=>some (.bool (r != n),m)
 | _=>none
def bytesOf:List D→Option (List UInt8)
 | []=>some []
 | .int .u8 n::ds=>if 0≤n∧n<256 then (bytesOf ds).bind fun bs=>some (UInt8.ofNat n.toNat::bs) else none
 | _=>none
def ahA (ds:List D) (m:Mem):RV:=match ds with
 | [x]=>(slc m 1 x).bind fun r=>(m_ r.1 r.2.1 r.2.2).bind fun cs=>(bytesOf cs).bind fun bs=>some (.str bs,m)
 | _=>none
def ahC (n:Bool) (ds:List D) (m:Mem):RV:=match ds with
 | [.dh,.dh]=>some (.bool (true != n),m)
 | [.sl (_+1) _,.dh] | [.dh,.sl (_+1) _] | [.aO ..,.dh] | [.dh,.aO ..]=>some (.bool (false != n),m)
 | _=>none
def aeZ (ds:List D) (m:Mem):RV:=match ds with | [.int k a]=>some (.int k (k.wrap (0-a)),m) | _=>none
def ahD (ds:List D) (m:Mem):RV:=match ds with | [.int k a]=>(Ev.mF .xor k (if k.signed then -1 else k.max) a).bind fun d=>some (d,m) | _=>none
def ae0 (ds:List D) (m:Mem):RV:=match ds with | [.bool b]=>some (.bool (!b),m) | _=>none
def X5 (k:IntKind) (ds:List D) (m:Mem):RV:=match ds with | [.int _ n]=>some (.int k (k.wrap n),m) | _=>none
def X7 (t:Nat) (ds:List D) (m:Mem):RV:=match ds with | [d]=>some (.iface t d,m) | _=>none
def UR (base j esz:Nat) (z:List D) (ds:List D) (m:Mem):RV:=match ds with
 | [.int _ n,.int _ n']=>if 0≤n∧n≤zK∧n'=n then zD base j (zeros n.toNat z) (.aO (base+j) 0 n.toNat esz) m else none
 | _=>none
def gK (lo hi:Bool) (len:Nat) (xs:List D):Option (Nat×Nat) :=
 match lo,hi,xs with
 | false,false,[]=>some (0,len)
 | true,false,[x]=>(bnd (some x) len 0).bind fun l=>some (l,len)
 | false,true,[y]=>(bnd (some y) len 0).bind fun h=>some (0,h)
 | true,true,[x,y]=>(bnd (some y) len 0).bind fun h=>(bnd (some x) h 0).bind fun l=>some (l,h)
 | _,_,_=>none
def ae1 (lo hi:Bool) (ds:List D) (m:Mem):RV:=match ds with
 | .str s::xs=>(gK lo hi s.length xs).bind fun r=>some (.str ((s.drop r.1).take (r.2-r.1)),m)
 | _=>none
def Xh (esz:Nat) (lo hi:Bool) (ds:List D) (m:Mem):RV:=match ds with
 | .dh::xs=>(gK lo hi 0 xs).bind fun r=>some (.dh,m)
 | .sl len cs::xs=>(gK lo hi len xs).bind fun r=>(m_ cs (r.1*esz) ((r.2-r.1)*esz)).bind fun cs'=>some (.sl (r.2-r.1) cs',m)
 | .aO b off len e::xs=>bif Nat.beq e esz then (gK lo hi len xs).bind fun r=>some (.aO b (off+r.1*esz) (r.2-r.1) esz,m) else none
 | _=>none
def UN (off:Nat) (ds:List D) (m:Mem):RV:=match ds with | [.loc b o]=>some (.loc b (o+off),m) | [.ref cs o]=>some (.ref cs (o+off),m) | _=>none
def LC (esz:Nat) (ds:List D) (m:Mem):RV:=match ds with
 | [.sl len cs,.int _ i]=>if 0≤i∧i<len then some (.ref cs (i.toNat*esz),m) else none
 | [.aO b off len e,.int _ i]=>if 0≤i∧i<len then some (.loc b (off+i.toNat*esz),m) else none
 | _=>none
def Gy (esz len:Nat) (ds:List D) (m:Mem):RV:=match ds with
 | [.loc b off,.int _ i]=>if 0≤i∧i<len then some (.loc b (off+i.toNat*esz),m) else none
 | [.ref cs off,.int _ i]=>if 0≤i∧i<len then some (.ref cs (off+i.toNat*esz),m) else none
 | _=>none
def UO (ds:List D) (m:Mem):RV:=match ds with
 | [.str s,.int _ i]=>if 0≤i then (s[i.toNat]?).bind fun b=>some (.int .u8 b.toNat,m) else none
 | _=>none
def aeX (off:Nat) (ds:List D) (m:Mem):RV:=match ds with | [.agg cs]=>(cs[off]?).bind fun d=>some (d,m) | _=>none
def aeW (i:Nat) (ds:List D) (m:Mem):RV:=match ds with | [.aG ds]=>(ds[i]?).bind fun d=>some (d,m) | _=>none
def X6 (ds:List D) (m:Mem):RV:=match ds with | [.str s]=>some (.int .i64 s.length,m) | _=>none
def Oi (ds:List D) (m:Mem):RV:=match ds with
 | [.dh]=>some (.int .i64 0,m)
 | [.sl len _]=>some (.int .i64 len,m)
 | [.aO _ _ len _]=>some (.int .i64 len,m)
 | _=>none
def rMn (ds:List D) (m:Mem):RV:=match ds with | [.int k a,.int _ b]=>some (.int k (if b<a then b else a),m) | _=>none
def rMx (ds:List D) (m:Mem):RV:=match ds with | [.int k a,.int _ b]=>some (.int k (if b>a then b else a),m) | _=>none
def aci (base j esz:Nat) (ds:List D) (m:Mem):RV:=match ds with
 | [d,x]=>(slc m esz x).bind fun rx=>(m_ rx.1 rx.2.1 (rx.2.2*esz)).bind fun news=>match d with
   | .dh=>if rx.2.2=0 then some (.dh,m) else if rx.2.2≤zK then zD base j news (.aO (base+j) 0 rx.2.2 esz) m else none
   | .aO b off len e=>bif Nat.beq e esz then (match m[b]? with
     | some (.live cells)=>(m_ cells off (len*esz)).bind fun olds =>
       if len+rx.2.2≤zK then zD base j (olds++news) (.aO (base+j) 0 (len+rx.2.2) esz) (m.set b .dead) else none
     | _=>none) else none
   | _=>none
 | _=>none
def yL (O:h_) (f:Nat) (args:List D) (m:Mem):RV:=(jd (fz FZ) args m).bind fun r=>(O.call f r.1).bind fun d=>some (d,r.2)
def uH (O:h_) (f:Nat) (args:List D) (m:Mem):RV:=bif args.all (D.clo 0 FZ) then (O.call f args).bind fun d=>some (d,m) else none
def NU (O:h_) (ds:List D) (m:Mem):RV:=match ds with
 | .func f cap::args=>(jd (fz FZ) (args++cap) m).bind fun r=>(O.call f r.1).bind fun d=>some (d,r.2)
 | _=>none
def acj (base j:Nat) (ds:List D) (m:Mem):RV:=match ds with
 | []=>match m[base+j]? with
   | some .free=>some (.lmap (base+j),m.set (base+j) (.mp []))
   | _=>none
 | _=>none
def ahd (ks:List Int) (k:Int):List Int:=bif ks.contains k then ks else k::ks
def UU (ds:List D) (m:Mem):RV:=match ds with
 | [.lmap b,.int .i64 k,.bool true]=>match m[b]? with
   | some (.mp ks)=>some (.aG [],m.set b (.mp (ahd ks k)))
   | _=>none
 | _=>none
def Oj (ds:List D) (m:Mem):RV:=match ds with
 | [.lmap b,.int .i64 k]=>match m[b]? with
   | some (.mp ks)=>some (.bool (ks.contains k),m)
   | _=>none
 | [.uz ks,.int .i64 k]=>some (.bool (ks.contains k),m)
 | [.BQ,.int .i64 _]=>some (.bool false,m)
 | _=>none
def wX {α:Type}:List (Nat×α)→Nat→Option α
 | [],_=>none
 | (i,e)::r,n=>bif Nat.beq i n then some e else wX r n
def Ri (t:Nat) (z:D) (ds:List D) (m:Mem):RV:=match ds with
 | [.bQ]=>some (.aG [z,.bool false],m)
 | [.iface u d]=>bif Nat.beq u t then some (.aG [d,.bool true],m) else some (.aG [z,.bool false],m)
 | _=>none
def UZ (tab:List (Nat×Bool)) (ds:List D) (m:Mem):RV:=match ds with
 | [.bQ]=>some (.aG [.bQ,.bool false],m)
 | [.iface u d]=>(wX tab u).bind fun b=>bif b then some (.aG [.iface u d,.bool true],m) else some (.aG [.bQ,.bool false],m)
 | _=>none
def Q_ (O:h_) (tab:List (Nat×Nat)) (ds:List D) (m:Mem):RV:=match ds with
 | .iface u d::args=>(wX tab u).bind fun f=>uH O f (d::args) m
 | _=>none
def UQ (O:h_) (tab:List (Nat×Nat)) (ds:List D) (m:Mem):RV:=match ds with
 | .iface u d::args=>(wX tab u).bind fun f=>yL O f (d::args) m
 | _=>none
def ahB (n:Bool) (ts:List Nat) (ds:List D) (m:Mem):RV:=match ds with
 | [.bQ,.iface _ _] | [.iface _ _,.bQ]=>some (.bool (false != n),m)
 | [.iface t (.int k a),.iface u (.int k' b)]=>bif Nat.beq t u then (bif ts.contains t && k==k' then some (.bool ((a==b) != n),m) else none) else some (.bool (false != n),m)
 | [.iface t d,.iface u e]=>bif Nat.beq t u then none else some (.bool (false != n),m)
 | _=>none
def K.run (O:h_) (base:Nat) (k:K) (ds:List D) (m:Mem):RV:=match k with
 | .mov=>aeY ds m
 | .pick=>UY ds m
 | .box j=>aeS base j ds m
 | .alloc j z=>JG base j z ds m
 | .aaZ=>DY ds m
 | .alv=>Rf ds m
 | .apZ n=>VA n ds m
 | .UK n=>Rh base n ds m
 | .RZ n=>Pn base n ds m
 | .aa0 n=>Ap n ds m
 | .store n=>yM n ds m
 | .build z ps=>Q9 z ps ds m
 | .bsl _ len z ps=>aeT len z ps ds m
 | .abE j esz len z ps=>X4 base j esz len z ps ds m
 | .aeG=>NV ds m
 | .mF op=>eX op ds m
 | .sh l=>tV l ds m
 | .Td op=>IG op ds m
 | .eqB n=>aeV n ds m
 | .eqP n=>Zv n ds m
 | .eqN n c=>Zu n c ds m
 | .eqE _=>none
 | .eqA n k=>aeU n k ds m
 | .neg=>aeZ ds m
 | .inv=>ahD ds m
 | .not=>ae0 ds m
 | .conv k=>X5 k ds m
 | .b2s=>ahA ds m
 | .eqS n=>ahC n ds m
 | .akn t=>X7 t ds m
 | .akm f=>some (.func f ds,m)
 | .aeD j esz z=>UR base j esz z ds m
 | .slS lo hi=>ae1 lo hi ds m
 | .slL esz lo hi=>Xh esz lo hi ds m
 | .ajJ off=>UN off ds m
 | .akc esz=>LC esz ds m
 | .aex esz len=>Gy esz len ds m
 | .akd=>UO ds m
 | .ext i=>aeW i ds m
 | .fld off=>aeX off ds m
 | .akk=>X6 ds m
 | .akj=>Oi ds m
 | .mn=>rMn ds m
 | .mx=>rMx ds m
 | .app j esz=>aci base j esz ds m
 | .pU f=>yL O f ds m
 | .aaI f=>uH O f ds m
 | .bf f=>O.bf f ds m
 | .ad9=>NU O ds m
 | .mkm j=>acj base j ds m
 | .akp=>UU ds m
 | .ahm=>Oj ds m
 | .ahU t z=>Ri t z ds m
 | .acF tab=>UZ tab ds m
 | .QE tab=>Q_ O tab ds m
 | .akf tab=>UQ O tab ds m
 | .eqF n ts=>ahB n ts ds m
 | .stop=>none
def evs (e:Env):List LV→Option (List D)
 | []=>some []
 | x::xs=>(x.ev e).bind fun d=>(evs e xs).bind fun ds=>some (d::ds)
def yZ (e:Env) (dst:Option Nat) (d:D):Env :=
 match dst with
 | some t=>(t,d)::e
 | none=>e
def EO.wants (e:Env) (o:EO):Option Bool :=
 match o.guard with
 | none=>some true
 | some (t,b)=>match look e t with
   | some (.bool b')=>some (b'==b)
   | some (.aG [])=>some false
   | _=>none
def EO.run (O:h_) (base:Nat) (o:EO) (e:Env) (m:Mem):Option (Env×Mem) :=
 (o.wants e).bind fun w=>bif w then (evs e o.xs).bind fun ds=>(o.k.run O base ds m).bind fun r=>some (yZ e o.dst r.1,r.2) else some (yZ e o.dst (.aG []),m)
def uV (O:h_) (base:Nat):List EO→Env→Mem→Option (Env×Mem)
 | [],e,m=>some (e,m)
 | o::os,e,m=>(o.run O base e m).bind fun r=>uV O base os r.1 r.2
def XT (e:Env):List Nat→Env
 | []=>[]
 | t::ts=>match look e t with
   | some d=>(t,d)::XT e ts
   | none=>XT e ts
def o_ (e:Env):List Nat→List D
 | []=>[]
 | t::ts=>(look e t).getD .undef::o_ e ts
def xA:List Nat→List D→Env
 | [],_=>[]
 | t::ts,ds=>(t,ds.headD .undef)::xA ts ds.tail
def EC.exec {R:Type} (O:h_):EC→Env→Mem→(Ex→Env→Mem→Option R)→Option R
 | .skip,e,m,k=>k .normal e m
 | .region n ops,e,m,k=>(uV O m.length ops e (m++List.replicate n .free)).bind fun r=>k .normal r.1 r.2
 | .drawn n ops,e,m,k=>(uV O m.length (ops.map (·.2)) e (m++List.replicate n .free)).bind fun r=>k .normal r.1 r.2
 | .frz ts c,e,m,k=>(jd (fz FZ) (o_ e ts) m).bind fun r=>c.exec O (xA ts r.1++e) r.2 k
 | .seq a b,e,m,k=>a.exec O e m fun x e' m'=>match x with
   | .normal=>b.exec O e' m' k
   | x=>k x e' m'
 | .cond c a b,e,m,k=>match c.ev e with
   | some (.bool t)=>if t=true then a.exec O e m k else b.exec O e m k
   | _=>none
 | .block id c,e,m,k=>c.exec O e m fun x e' m'=>match x with
   | .exit i=>bif Nat.beq i id then k .normal e' m' else k (.exit i) e' m'
   | x=>k x e' m'
 | .loop ins outs body,e,m,k=>(O.loop ins outs body m.length (o_ e ins) m).bind fun r=>k r.1 (xA outs r.2.1) r.2.2
 | .exit id,e,m,k=>k (.exit id) e m
 | .ret,e,m,k=>k .ret e m
 | .mask keep c,e,m,k=>c.exec O (XT e keep) m k
 | .join keep c,e,m,k=>(c.exec O e m fun x e' m'=>some (x,o_ e' keep,m')).bind fun r=>k r.1 (xA keep r.2.1) r.2.2
inductive ER where
 | tmp (t:Nat)
 | cell (t:Nat) (agg:Bool) (n:Nat)
 deriving Inhabited
def ER.get (e:Env) (m:Mem):ER→Option D
 | .tmp t=>look e t
 | .cell t agg n=>(look e t).bind fun a=>(YF m a).bind fun r=>bif agg then (m_ r.1 r.2 n).bind fun ds=>some (.agg ds) else r.1[r.2]?
def Ir (e:Env) (m:Mem):List ER→Option (List D)
 | []=>some []
 | r::rs=>(r.get e m).bind fun d=>(Ir e m rs).bind fun ds=>some (d::ds)
structure EF where
 params:List Nat
 res:List ER
 body:EC
 deriving Inhabited
def Jy (O:h_) (ins outs:List Nat) (body:EC) (base:Nat) (vals:List D) (m:Mem):Option (Ex×List D×Mem) :=
 body.exec O (xA ins vals) m fun x e m'=>match x with
  | .normal=>(gc base (o_ e ins) m').bind fun r=>O.loop ins outs body base r.1 r.2
  | x=>(gc base (o_ e outs) m').bind fun r=>some (x,r.1,r.2)
def OY (r:List D×Mem):D×Mem:=match r.1 with
 | [d]=>(d,r.2)
 | ds=>(.aG ds,r.2)
def EF.step (O:h_) (f:EF) (args:List D) (m:Mem):Option (D×Mem) :=
 bif Nat.beq args.length f.params.length then
  f.body.exec O (xA f.params args) m fun x e m'=>match x with
    | .exit _=>none
    | _=>(Ir e m' f.res).bind fun rs=>(gc m.length rs m').bind fun r=>some (OY r)
 else none
structure Tab where
 fn:Nat→Option EF
 ku:Nat→List D→Mem→Option (D×Mem)
def Tab.nO (T:Tab):Nat→h_
 | 0=>⟨fun _ _ _=>none,fun _ _ _ _ _ _=>none,fun _ _=>none⟩
 | n+1 =>
   ⟨fun f args m=>match T.fn f with
    | some ef=>ef.step (T.nO n) args m
    | none=>T.ku f args m,
    fun ins outs body base vals m=>Jy (T.nO n) ins outs body base vals m,
    fun f args=>yJ (match T.fn f with
     | some ef=>ef.step (T.nO n) args []
     | none=>T.ku f args [])⟩
end Go.Ev
end
section
namespace Go.Ev
def deq:D→Value→Bool
 | .int k n,.int k' n'=>k==k' && n==n'
 | .bool b,.bool b'=>b==b'
 | .str s,.string b=>s==b.data.toList
 | .iy,.pointer none=>true
 | .dh,.slice none 0 0=>true
 | .sl 0 [],.slice none 0 0=>true
 | .bQ,.nilIface=>true
 | .BQ,.map none=>true
 | .raw b o,.pointer (some ⟨b',o',none⟩)=>Nat.beq b b' && Nat.beq o o'
 | _,_=>false
def amH:List D→List Value→Bool
 | [],[]=>true
 | d::ds,v::vs=>deq d v && amH ds vs
 | _,_=>false
def LV.chk:LV→Operand→Bool
 | .t n,.tmp m=>Nat.beq n m
 | .k d,.const v=>deq d v
 | .k (.func f []),.func f'=>Nat.beq f f'
 | _,_=>false
def amC:List LV→List Operand→Bool
 | [],[]=>true
 | x::xs,y::ys=>x.chk y && amC xs ys
 | _,_=>false
section
variable (P:Program)
def JV (t:TypeId):Option TypeId:=match P.underlying t with | some (.slice e)=>some e | _=>none
def ZR (t:TypeId):Option Bool:=match P.underlying t with | some (.struct _) | some (.array _ _)=>some true | some _=>some false | none=>none
def pG (t:TypeId):Option Nat:=(P.info? t).map (·.size)
def oV (t:TypeId) (z:List D):Bool:=match (P.info? t).bind (·.zero) with | some v=>amH z v.cells.toList | none=>false
def DU (place:Nat→Option (Nat×Nat)):List (Nat×Operand)→List (Nat×Nat)→Bool
 | [],[]=>true
 | (i,_)::xs,(off,n)::ps=>(match place i with | some (o,s)=>Nat.beq o off && Nat.beq s n | none=>false) && DU place xs ps
 | _,_=>false
def placesOf (t:TypeId):Nat→Option (Nat×Nat):=fun i =>
 match P.underlying t with
 | some (.struct fs)=>(fs[i]?).bind fun f=>(pG P f.type).map fun s=>(f.offset,s)
 | some (.array _ e)=>(pG P e).map fun s=>(i*s,s)
 | _=>none
def OC (t:TypeId):Bool:=match P.underlying t with
 | some (.struct fs)=>fs.toList.all fun f=>(pG P f.type).isSome
 | some (.array _ e)=>(pG P e).isSome
 | _=>false
def isK (x:Operand):Bool:=match x with | .const _=>true | _=>false
def aqU (t:TypeId) (k:Nat):Bool :=
 match P.underlying t with
 | some .bool=>Nat.beq k 0
 | some (.int _)=>Nat.beq k 1
 | some .string=>Nat.beq k 2
 | _=>false
def eqFields:List Field→List Nat→Nat→Bool
 | [],[],_=>true
 | f::fs,k::ks,i=>Nat.beq f.offset i && f.name != "_" && aqU P f.type k && eqFields fs ks (i+1)
 | _,_,_=>false
def ada (u:TypeId) (name:String) (f:Nat):Bool :=
 match (P.info? u).bind (fun i=>i.methods.find? (·.name==name)) with
 | some m=>match m.path.toList,m.func with
   | [],some (g,pr)=>Nat.beq f g && (match P.underlying u with | some (.pointer _)=>pr | some _ => !pr | none=>false)
   | _,_=>false
 | none=>false
def adb (name:String):List (Nat×Nat)→Bool
 | []=>true
 | (u,f)::r=>ada P u name f && adb name r
def hasAll (want:Array (String×TypeId)):List (Nat×Bool)→Bool
 | []=>true
 | (u,b)::r=>((P.info? u).map (fun i=>(lacking want i.methods).isEmpty))==some b && hasAll want r
def Vx:List Nat→Bool
 | []=>true
 | t::ts=>(match P.underlying t with | some (.int _)=>true | _=>false) && (match P.info? t with | some i=>i.comparable | none=>false) && Vx ts
def aZ (k:K) (op:Op):Option (List Operand) :=
 match k with
 | .mov=>match op with | .move x | .assign x=>some [x] | _=>none
 | .pick=>match op with | .pick c a b=>some [c,a,b] | _=>none
 | .box _=>match op with | .box _ x=>some [x] | _=>none
 | .alloc _ z=>match op with | .alloc e=>if oV P e z then some [] else none | _=>none
 | .aaZ | .alv=>match op with | .load t x=>if ZR P t=some false then some [x] else none | _=>none
 | .aa0 n | .apZ n | .UK n=>match op with | .load t x=>if ZR P t=some true∧pG P t=some n then some [x] else none | _=>none
 | .store n | .RZ n=>match op with | .store t x y=>if pG P t=some n then some [x,y] else none | _=>none
 | .build z ps=>match op with
   | .build t parts=>if oV P t z∧OC P t∧DU (placesOf P t) parts.toList ps then some (parts.toList.map (·.2)) else none
   | _=>none
 | .bsl esz len z ps | .abE _ esz len z ps=>match op with
   | .buildSlice t n parts=>(JV P t).bind fun e=>if pG P e=some esz∧n=len∧0<esz∧z.length=esz∧len*esz≤16777216∧oV P e z∧DU (fun i=>some (i*esz,esz)) parts.toList ps then some (parts.toList.map (·.2)) else none
   | _=>none
 | .aeG=>match op with | .nilCheck x=>some [x] | _=>none
 | .mF b=>match op with | .binOp b' _ x y _=>if b=b'∧b ≠ .shl∧b ≠ .shr then some [x,y] else none | _=>none
 | .sh l=>match op with | .binOp b _ x y _=>if b=(if l then .shl else .shr) then some [x,y] else none | _=>none
 | .Td b=>match op with | .binOp b' _ x y _=>if b=b' then some [x,y] else none | _=>none
 | .eqB n=>match op with | .binOp b t x y _=>if b=(if n then .neq else .eql)∧P.underlying t matches some .bool then some [x,y] else none | _=>none
 | .eqP n=>match op with | .binOp b t x y _=>if b=(if n then .neq else .eql)∧P.underlying t matches some (.pointer _) then some [x,y] else none | _=>none
 | .eqN n c=>match op with | .binOp b t x y _=>if b=(if n then .neq else .eql)∧(P.underlying t matches some (.interface _))∧(c=false∨isK x∨isK y) then some [x,y] else none | _=>none
 | .eqE _=>none
 | .eqA n k=>match op with
   | .binOp b t x y _=>match P.underlying t with
     | some (.struct fs)=>if b=(if n then .neq else .eql)∧eqFields P fs.toList k 0∧P.eqGuardType P.depth t=false∧P.stoodInHeld t=false then some [x,y] else none
     | _=>none
   | _=>none
 | .neg=>match op with | .unOp .neg _ x=>some [x] | _=>none
 | .inv=>match op with | .unOp .xor _ x=>some [x] | _=>none
 | .not=>match op with | .unOp .not _ x=>some [x] | _=>none
 | .conv k=>match op with | .convert s d x=>if (P.underlying s).isSome∧P.underlying d matches some (.int _) then (match P.underlying d with | some (.int k')=>if k=k' then some [x] else none | _=>none) else none | _=>none
 | .b2s=>match op with
   | .convert s d x=>(JV P s).bind fun e=>if (P.underlying e matches some (.int .u8))∧(P.underlying d matches some .string) then some [x] else none
   | _=>none
 | .eqS n=>match op with | .binOp b t x y _=>if b=(if n then .neq else .eql)∧P.underlying t matches some (.slice _) then some [x,y] else none | _=>none
 | .akn t=>match op with | .makeInterface t' x=>if t=t'∧(P.underlying t).isSome∧¬ (P.underlying t matches some (.interface _)) then some [x] else none | _=>none
 | .akm f=>match op with | .makeFunc (.func f') first cap=>if f=f'∧first = #[] then some cap.toList else none | _=>none
 | .aeD _ esz z=>match op with
   | .makeSlice t x y=>(JV P t).bind fun e=>if pG P e=some esz∧0<esz∧z.length=esz∧oV P e z∧((P.info? e).map (·.bytes)).getD 0≤4096∧(P.info? e).isSome then some [x,y] else none
   | _=>none
 | .slS lo hi=>match op with
   | .slice t x l h none=>if (P.underlying t matches some .string)∧l.isSome=lo∧h.isSome=hi then some (x::l.toList++h.toList) else none
   | _=>none
 | .slL esz lo hi=>match op with
   | .slice t x l h none=>(JV P t).bind fun e=>if pG P e=some esz∧l.isSome=lo∧h.isSome=hi then some (x::l.toList++h.toList) else none
   | _=>none
 | .ajJ off=>match op with
   | .fieldAddr t x f=>match P.underlying t with
     | some (.struct fs)=>(fs[f]?).bind fun fd=>if fd.offset=off∧(pG P fd.type).any (0 < ·) then some [x] else none
     | _=>none
   | _=>none
 | .akc esz=>match op with | .indexAddr t x y=>(JV P t).bind fun e=>if pG P e=some esz then some [x,y] else none | _=>none
 | .aex esz len=>match op with
   | .indexAddr t x y=>match P.underlying t with
     | some (.array n e)=>if n=len∧pG P e=some esz then some [x,y] else none
     | _=>none
   | _=>none
 | .akd=>match op with | .index t x y=>if P.underlying t matches some .string then some [x,y] else none | _=>none
 | .fld off=>match op with
   | .field t x f=>match P.underlying t with
     | some (.struct fs)=>(fs[f]?).bind fun fd=>if fd.offset=off∧ZR P fd.type=some false then some [x] else none
     | _=>none
   | _=>none
 | .ext i=>match op with | .extract x i'=>if i=i' then some [x] else none | _=>none
 | .akk=>match op with | .call ⟨.builtin .len,args,ts⟩=>if (ts[0]?).any (fun t=>P.underlying t matches some .string)∧args.size=1 then some args.toList else none | _=>none
 | .akj=>match op with | .call ⟨.builtin .len,args,ts⟩=>if (ts[0]?).any (fun t=>P.underlying t matches some (.slice _))∧args.size=1 then some args.toList else none | _=>none
 | .mn=>match op with | .call ⟨.builtin .min,args,_⟩=>if args.size=2 then some args.toList else none | _=>none
 | .mx=>match op with | .call ⟨.builtin .max,args,_⟩=>if args.size=2 then some args.toList else none | _=>none
 | .app _ esz=>match op with
   | .call ⟨.builtin .append,args,ts⟩=>if args.size=2∧ts.size=2 then
     ((ts[0]?).bind (JV P)).bind fun e=>((ts[1]?).bind (JV P)).bind fun _ =>
       if pG P e=some esz∧0<esz∧((P.info? e).map (·.bytes)).getD 0≤4096∧(((P.info? e).bind (·.zero)).any fun v=>Nat.beq v.cells.size esz) then some args.toList else none
     else none
   | _=>none
 | .pU f | .aaI f | .bf f=>match op with
   | .call ⟨.value (.func f'),args,_⟩=>if f=f' then some args.toList else none
   | _=>none
 | .ad9=>match op with
   | .call ⟨.value g,args,_⟩=>some (g::args.toList)
   | _=>none
 | .stop=>some []
 | .mkm _=>match op with | .makeMap _ none=>some [] | _=>none
 | .akp=>match op with
   | .mapUpdate t x y z=>match P.underlying t with
     | some (.map kt _)=>if P.underlying kt matches some (.int .i64) then some [x,y,z] else none
     | _=>none
   | _=>none
 | .ahm=>match op with
   | .lookup t x y false=>match P.underlying t with
     | some (.map kt et)=>if (P.underlying kt matches some (.int .i64))∧oV P et [.bool false]∧(P.info? et).any (fun i=>match i.zero with | some (.agg _)=>false | some (.tuple _)=>false | _=>true) then some [x,y] else none
     | _=>none
   | _=>none
 | .ahU t z=>match op with
   | .typeAssert x _ t' true=>if t=t'∧(P.underlying t).isSome∧¬ (P.underlying t matches some (.interface _))∧oV P t [z]∧(P.info? t).any (fun i=>match i.zero with | some (.agg _)=>false | some (.tuple _)=>false | _=>true) then some [x] else none
   | _=>none
 | .acF tab=>match op with
   | .typeAssert x _ t' true=>match P.underlying t' with
     | some (.interface want)=>if hasAll P want tab∧(P.info? t').any (fun i=>match i.zero with | some .nilIface=>true | _=>false) then some [x] else none
     | _=>none
   | _=>none
 | .QE tab | .akf tab=>match op with
   | .call ⟨.invoke recv name,args,_⟩=>if adb P name tab then some (recv::args.toList) else none
   | _=>none
 | .eqF n ts=>match op with | .binOp b t x y _=>if b=(if n then .neq else .eql)∧(P.underlying t matches some (.interface _))∧Vx P ts then some [x,y] else none | _=>none
end
inductive dM (c:Ctx):List D→List Value→Prop
 | nil:dM c [] []
 | cons {d:D} {v:Value} {ds:List D} {vs:List Value} (h:Rep c d v) (hs:dM c ds vs):dM c (d::ds) (v::vs)
theorem dM.mono {c c':Ctx} (h:Ext c c') {ds:List D} {vs:List Value} (hr:dM c ds vs):dM c' ds vs:=by
 induction hr with
 | nil=>exact .nil
 | cons h1 _ ih=>exact .cons (h1.mono h) ih
theorem dM.length {c:Ctx} {ds:List D} {vs:List Value} (hr:dM c ds vs):ds.length=vs.length:=by
 induction hr with
 | nil=>rfl
 | cons _ _ ih=>simp [ih]
theorem dM.get {c:Ctx} {ds:List D} {vs:List Value} (hr:dM c ds vs):∀ (i:Nat) (d:D),ds[i]?=some d→∃ v,vs[i]?=some v∧Rep c d v:=by
 induction hr with
 | nil=>intro i d h; simp at h
 | cons h1 _ ih =>
   intro i d h
   cases i with
   | zero=>simp at h; subst h; exact ⟨_,rfl,h1⟩
   | succ i=>exact ih i d (by simpa using h)
theorem ah_ {c:Ctx} {d:D} {v:Value} (h:deq d v=true):Rep c d v:=by
 unfold deq at h
 split at h <;> simp at h
 ·obtain ⟨rfl,rfl⟩:=h; exact .b_ _ _ (.int _ _)
 ·subst h; exact .b_ _ _ (.bool _)
 ·subst h; exact .b_ _ _ (.str _)
 ·exact .b_ _ _ .iy
 ·exact .b_ _ _ .dh
 ·exact .b_ _ _ .sl0
 ·exact .b_ _ _ .bQ
 ·exact .b_ _ _ .BQ
 ·obtain ⟨rfl,rfl⟩:=h; exact .b_ _ _ (.raw _ _)
theorem aBS {d:D} {v:Value} (h:deq d v=true):v.oneCell'=true:=by
 unfold deq at h
 split at h <;> simp at h <;> rfl
theorem aaN:∀ {ds:List D} {vs:List Value},amH ds vs=true→ds.length=vs.length∧∀ (i:Nat) (d:D),ds[i]?=some d→∃ v,vs[i]?=some v∧deq d v=true
 | [],[],_=>⟨rfl,fun i d h=>by simp at h⟩
 | [],_::_,h=>by simp [amH] at h
 | _::_,[],h=>by simp [amH] at h
 | d::ds,v::vs,h=>by
   simp [amH] at h
   obtain ⟨h1,h2⟩:=aaN h.2
   refine ⟨by simp [h1],fun i e he=>?_⟩
   cases i with
   | zero=>simp at he; subst he; exact ⟨v,rfl,h.1⟩
   | succ i=>exact h2 i e (by simpa using he)
def Bh (c:Ctx) (e:Env) (a:Act):Prop:=∀ (t:Nat) (d:D),look e t=some d→Rep c d (a.tmps.getD t Go.undef)
theorem Bh.mono {c c':Ctx} (h:Ext c c') {e:Env} {a:Act} (he:Bh c e a):Bh c' e a:=fun t d ht=>(he t d ht).mono h
theorem LV.rep {c:Ctx} {e:Env} {a:Act} (he:Bh c e a) {x:LV} {y:Operand} (hc:x.chk y=true) {d:D} (hd:x.ev e=some d):Rep c d (a.eval y):=by
 unfold LV.chk at hc
 split at hc
 ·rename_i n m
  have := Nat.eq_of_beq_eq_true hc
  subst this
  exact he n d hd
 ·simp [LV.ev] at hd
  subst hd
  exact ah_ hc
 ·rename_i f f'
  have := Nat.eq_of_beq_eq_true hc
  subst this
  simp [LV.ev] at hd
  subst hd
  exact .func f [] #[] (fun _=>undef) rfl (fun j hj=>by simp at hj) (fun j d hd=>by simp at hd)
 ·simp at hc
theorem auP {c:Ctx} {e:Env} {a:Act} (he:Bh c e a):∀ {xs:List LV} {ys:List Operand} {ds:List D},amC xs ys=true→evs e xs=some ds→dM c ds (ys.map a.eval)
 | [],[],ds,_,h=>by simp [evs] at h; subst h; exact .nil
 | [],_::_,_,h,_=>by simp [amC] at h
 | _::_,[],_,h,_=>by simp [amC] at h
 | x::xs,y::ys,ds,hc,h=>by
   simp [amC] at hc
   simp [evs,Option.bind_eq_some_iff] at h
   obtain ⟨d,hd,ds',hds,rfl⟩:=h
   exact .cons (LV.rep he hc.1 hd) (auP he hc.2 hds)
end Go.Ev
end
