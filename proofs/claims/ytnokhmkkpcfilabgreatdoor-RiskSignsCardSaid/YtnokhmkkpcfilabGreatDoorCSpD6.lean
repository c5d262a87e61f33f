/- A part of the proof of priceFalls_card, riskSigns_card, yieldBack_card, yieldEdge_card, yieldFalls_card. -/
import Derived.Test.YtnokhmkkpcfilabGreatDoorCSpD4
set_option linter.unusedVariables false
set_option linter.unusedSimpArgs false
section
namespace Go.Ev.Code
open Go Go.Ev
theorem OL {n d:Int} (hn : -9223372036854775808≤n∧n≤9223372036854775807) (hd : -9223372036854775808≤d∧d≤9223372036854775807) (h0:d≠0):L.call Bj [.int .i64 n,.int .i64 d]=some (bF (Rat.divInt n d)):=by
 have h:=ru hn hd h0
 refine aJ amy rfl (amn ..) ?_
 simp [ae6,h]
theorem apw {b:aO} {s k:Int} {pl:Nat} {pc:List D} {all:List (Int×Rat)} (hq:∀ p∈all,RB 13000 p.2) (hn:all.length≤100000):∀ (rest pfx:List (Int×Rat)),all=pfx++rest→pfx≠[] →
  L.loop [1,2,5,9,10,34,35,36] [1,2,5,9,10] mM 1 [.int .i64 s,.loc 0 0,.sl pl pc,.int .i64 k,.bg 1 0 pfx.length 1,.sl all.length (dH all),.int .i64 all.length,.int .i64 pfx.length] [.live (aN b),.live (eG (pfx.map Prod.snd))] =
    some (.exit 0,[.int .i64 s,.loc 0 0,.sl pl pc,.int .i64 k,.bg 1 0 all.length 1],[.live (aN b),.live (eG (all.map Prod.snd))]):=by
 have hbc:=fun n=>g_ b n
 intro rest
 induction rest with
 | nil =>
   intro pfx hal hne
   rw [List.append_nil] at hal
   subst hal
   have hrc:=fun n=>OY (all.map Prod.snd) n 11
   generalize eG (all.map Prod.snd)=rc at *
   generalize dH all=fc at *
   generalize aN b=B at *
   generalize all.length=N at *
   refine aQ (Fq ..) ?_
   simp [yS,hbc,hrc]
 | cons p r ih =>
   intro pfx hal hne
   have hpos:0<pfx.length:=List.length_pos_iff.2 hne
   have hgi:all[pfx.length]?=some p:=by rw [hal]; simp
   obtain ⟨g1,g2,g3⟩:=KE hgi
   have g4:=P6 hgi
   have hlt:pfx.length<all.length:=by rw [hal]; simp
   have hget:=MF (hq p (by rw [hal]; simp))
   have hn2:=ih (pfx++[p]) (by rw [hal]; simp) (by simp)
   rw [List.map_append,akG,show eG ([p].map Prod.snd)=[bF p.2] from rfl,List.length_append,List.length_singleton,show ((pfx.length+1:Nat):Int)=(pfx.length:Int)+1 by omega] at hn2
   have hrc:=fun n=>OY (pfx.map Prod.snd) n 11
   have hfz:∀ m,jV (fz 11) (eG (pfx.map Prod.snd)) m=some (eG (pfx.map Prod.snd),m):=fun m=>M_ _ 10 m
   have hrl:(eG (pfx.map Prod.snd)).length=pfx.length:=by rw [EY,List.length_map]
   have e1:IntKind.i64.wrap ((pfx.length:Int)+1)=(pfx.length:Int)+1:=wrap64 _ (by omega)
   have hlen:pfx.length+1≤4294967296:=by omega
   have htk:(eG (pfx.map Prod.snd)).take pfx.length=eG (pfx.map Prod.snd):=List.take_of_length_le (by omega)
   obtain ⟨pd,q⟩:=p
   simp only at *
   generalize eG (pfx.map Prod.snd)=rc at *
   generalize eG (all.map Prod.snd)=ra at *
   generalize dH all=fc at *
   generalize aN b=B at *
   generalize all.length=N at *
   generalize pfx.length=P at *
   generalize wH q=tq at *
   have hltI:(P:Int)<N:=by omega
   refine aQ (Fq ..) ?_
   simp [yS,hlt,hltI,g1,g2,g3,g4,hget,e1,hbc,hrc,hrl,htk,hlen,Zi,hn2,gX]
theorem arw {b:aO} {s k:Int} {pl:Nat} {pc:List D} {all:List (Int×Rat)} (hq:∀ p∈all,RB 13000 p.2) (hn:all.length≤100000) (hne:all≠[]) :
  L.loop [1,2,5,9,10,34,35,36] [1,2,5,9,10] mM 1 [.int .i64 s,.loc 0 0,.sl pl pc,.int .i64 k,.dA,.sl all.length (dH all),.int .i64 all.length,.int .i64 0] [.live (aN b)] =
    some (.exit 0,[.int .i64 s,.loc 0 0,.sl pl pc,.int .i64 k,.bg 1 0 all.length 1],[.live (aN b),.live (eG (all.map Prod.snd))]):=by
 have hbc:=fun n=>g_ b n
 match all,hne with
 | p::r,_ =>
   have hgi:(p::r)[0]?=some p:=rfl
   obtain ⟨g1,g2,g3⟩:=KE hgi
   have g4:=P6 hgi
   have hget:=MF (hq p (by simp))
   have hn2:=apw (b:=b) (s:=s) (k:=k) (pl:=pl) (pc:=pc) hq hn r [p] rfl (by simp)
   rw [show eG ([p].map Prod.snd)=[bF p.2] from rfl,List.length_singleton] at hn2
   obtain ⟨pd,q⟩:=p
   simp only [Nat.zero_mul,Nat.zero_add,List.drop_zero] at *
   have hlt:0<((pd,q)::r).length:=by simp
   generalize eG (((pd,q)::r).map Prod.snd)=ra at *
   generalize dH ((pd,q)::r)=fc at *
   generalize aN b=B at *
   generalize ((pd,q)::r).length=N at *
   generalize wH q=tq at *
   have hltI:(0:Int)<N:=by omega
   refine aQ (Fq ..) ?_
   simp at hn2
   have e1:IntKind.i64.wrap (1:Int)=1:=wrap64 _ (by omega)
   simp [yS,hlt,hltI,g1,g2,g3,g4,hget,hbc,Zi,hn2,gX,e1]
theorem acr {b:aO} (hc:b.dX.length≤1000000) (hr:b.dY.length≤1000000) {s:Int} (he:(leftB b s).1=none):L.call wC [aS b,.int .i64 s]=some (oL (dG b s)):=by
 have hbc:=fun n=>g_ b n
 have hbl:=l7 b
 have hbd:=lZ b 0 10
 have hpl:=Ae hc hr
 obtain ⟨f0,h2,h3,h4⟩:=gY he
 obtain ⟨d1,d2,d3,d4,d5,d6⟩:=vX he
 obtain ⟨k,k1,k2,k3,k4⟩:=Ba h2 h3 h4
 have hplen:=(gK h2).2.len
 have hg:=yF k2
 have hklt:k<(aV b).2.length:=(List.getElem?_eq_some_iff.1 k2).1
 have hfl:=abM hc hr
 have hflen:=MO f0
 have hrb:=aas f0
 have hex:=Vq hc hr s
 unfold exD at hex
 rw [he] at hex
 have hpay:=abN f0 hc hr d6
 have hpB:=OW f0 d6
 unfold zO SI at hfl
 rw [f0] at hfl
 simp only [dS] at hfl
 unfold dG
 rw [k1,Int.toNat_natCast]
 have hat:=VY (ps:=(aV b).2) (by omega) s
 rw [k1] at hat
 unfold wM at hpl
 rw [h2] at hpl
 simp only [eX] at hpl
 have hdr:=P5 ((bJ b).2.take k) ((bJ b).2.drop k)
 rw [List.take_append_drop] at hdr
 have htl:((bJ b).2.take k).length=k:=by rw [List.length_take]; omega
 rw [htl] at hdr
 have hrl:=zf ((bJ b).2.drop k)
 have hll:((bJ b).2.drop k).length=(aV b).2.length-k:=by rw [List.length_drop,hflen]
 have hflc:=zf (bJ b).2
 have hrb2:∀ p∈(bJ b).2.drop k,RB 1500 p.2:=fun p hp=>hrb p (List.mem_of_mem_drop hp)
 have hcl:=wY (bJ b).2 0 11
 have hcl3:=jI (aV b).2 0 11
 have hne:(bJ b).2.drop k≠[]:=by
  intro h
  rw [h] at hll
  simp at hll
  omega
 have h13:∀ p∈(bJ b).2.drop k,RB 13000 p.2:=fun p hp=>(hrb2 p hp).mono (Nat.le_of_ble_eq_true rfl)
 have hloop:=arw (b:=b) (s:=s) (k:=k) (pl:=(aV b).2.length) (pc:=cu (aV b).2) h13 (by omega) hne
 unfold jd at hpl hat
 rw [hflen] at hfl hflc
 generalize (bJ b).2.drop k=rest at *
 rw [hll] at hloop hrl
 have htk2:(dH rest).take (((aV b).2.length-k)*2)=dH rest:=List.take_of_length_le (by omega)
 unfold pD at *
 generalize fH b s=p at *
 obtain ⟨p1,p2⟩:=p
 simp only at *
 obtain ⟨g1,g2,g3,g4⟩:=hg
 have hbn:jX true false (aV b).2.length [.int .i64 (k:Int)]=some (k,(aV b).2.length):=by
  have : (k:Int)≤((aV b).2.length:Int):=by omega
  simp [jX,bnd,this]
 have hb3:k*2+((aV b).2.length-k)*2≤(dH (bJ b).2).length:=by omega
 have hrqz:∀ l m,jV (fz 11) (eG l) m=some (eG l,m):=fun l m=>M_ l 10 m
 have hrqc:∀ l n,(eG l).all (D.clo n 12)=true:=fun l n=>OY l n 11
 have hrql:=EY (rest.map Prod.snd)
 rw [List.length_map,hll] at hrql
 have htk3:(eG (rest.map Prod.snd)).take ((aV b).2.length-k)=eG (rest.map Prod.snd):=List.take_of_length_le (by omega)
 have hkI:(k:Int)<((aV b).2.length:Int):=by omega
 have hNk:0<(aV b).2.length-k:=by omega
 generalize hfc:dH (bJ b).2=fc at *
 generalize hNN:(aV b).2.length=N at *
 generalize hNNk:N-k=Nk at *
 generalize cu (aV b).2=pc at *
 generalize dH rest=fr at *
 cases hxb:exB b s with
 | false =>
   rw [hxb] at hex
   rw [if_neg (by decide)]
   unfold oL
   rw [List.length_map,hll]
   have hc1:=fun n=>hrqc (rest.map Prod.snd) n
   have hz1:=fun m=>M_ (rest.map Prod.snd) 10 m
   generalize eG (rest.map Prod.snd)=rq at *
   unfold aS at *
   generalize aN b=B at *
   have htk:B.take 9=B:=List.take_of_length_le (by omega)
   refine aJ Uy rfl (Ux ..) ?_
   simp [Le,hpl,hat,hcl3,hbc,hbl,hbd,htk,hfl,hbn,hdr,hb3,htk2,hNNk,hloop,hex,hz1,hc1,htk3,hrql]
 | true =>
   rw [hxb] at hex
   rw [if_pos rfl]
   match rest,hne with
   | x::r,_ =>
     have hsub:=uy (hrb2 x (by simp)) hpB (Nat.le_of_ble_eq_true rfl)
     simp only [List.map_cons,VG]
     simp only [List.map_cons] at *
     unfold oL
     have hl4:((x.2-lX b (p1,p2))::r.map Prod.snd).length=Nk:=by simp at hll ⊢; exact hll
     have hl5:=EY ((x.2-lX b (p1,p2))::r.map Prod.snd)
     have htk5:(eG ((x.2-lX b (p1,p2))::r.map Prod.snd)).take Nk=eG ((x.2-lX b (p1,p2))::r.map Prod.snd):=List.take_of_length_le (by omega)
     rw [hl4] at hl5
     rw [hl4]
     have hc1:=fun n=>hrqc (r.map Prod.snd) n
     have hz1:=fun m=>M_ (r.map Prod.snd) 10 m
     have hcons:∀ q l,eG (q::l)=bF q::eG l:=fun q l=>rfl
     simp only [hcons] at *
     simp only [List.length_cons] at hl5 hrql
     generalize eG (r.map Prod.snd)=rq at *
     generalize x.2-lX b (p1,p2)=v2 at *
     generalize lX b (p1,p2)=pv at *
     generalize x.2=xv at *
     have hNkI:(0:Int)<(Nk:Int):=by omega
     have hNkl:Nk≤rq.length+1:=by omega
     unfold aS at *
     generalize aN b=B at *
     have htk:B.take 9=B:=List.take_of_length_le (by omega)
     refine aJ Uy rfl (Ux ..) ?_
     simp [Le,hpl,hat,hcl3,hbc,hbl,hbd,htk,hfl,hbn,hdr,hb3,htk2,hNNk,hloop,hex,hz1,hc1,htk5,hNkl,hsub,hpay,hklt,hkI,g1,g2,g3,g4,hNk,hNkI,gX]
end Go.Ev.Code
end
section
namespace Go.Ev.Code
open Go Go.Ev
def lt (n d:Int):List Int→Int
 | []=>0
 | a::t=>(lt n d t+(hs n d t).1)*d
theorem alG {n d:Int} {q k:Nat} (hn:IB q n) (hd:IB q d):∀ {l:List Int},(∀ a∈l,IB k a)→IB (k+(q+3)*l.length+3) (lt n d l)
 | [],_=>by unfold IB NB lt; simp; exact Nat.two_pow_pos _
 | a::t,h=>by
   have ih:=alG (k:=k) hn hd (l:=t) (fun x hx=>h x (by simp [hx]))
   have h2:=(SN (k:=k) hn hd (l:=t) (fun x hx=>h x (by simp [hx]))).1
   have e:(q+3)*(t.length+1)=(q+3)*t.length+q+3:=by rw [Nat.mul_add]; omega
   have e3:(q+2)*t.length≤(q+3)*t.length:=Nat.mul_le_mul_right _ (by omega)
   simp only [lt,List.length_cons]
   refine ((ih.add h2).mul hd).mono ?_
   rw [e]
   generalize (q+3)*t.length=X at *
   generalize (q+2)*t.length=Y at *
   omega
theorem apC {K:Nat} {all:List Rat} {n d:Int} (hn:all.length≤100000):∀ (rest pfx:List Rat) (a j:Nat),all=pfx++rest→(∀ r∈rest,RB K r)→NB j a→0<a→j+K*rest.length+K≤900000 →
  L.loop [0,1,2,8,21,22,23] [0,1,2,8] qC 0 [oL all,intD n,intD d,intD (a:Int),oL all,.int .i64 all.length,.int .i64 pfx.length] []=some (.exit 0,[oL all,intD n,intD d,intD ((dJ a rest:Nat):Int)],[]):=by
 intro rest
 induction rest with
 | nil =>
   intro pfx a j hal _ _ _ _
   rw [List.append_nil] at hal
   subst hal
   unfold oL
   simp only [dJ]
   generalize eG all=rc at *
   generalize all.length=N at *
   generalize (a:Int)=az at *
   refine aQ (Pn ..) ?_
   simp [Ik]
 | cons r t ih =>
   intro pfx a j hal hall ha h0 hK
   have hr:=hall r (by simp)
   have hjK:j+K*t.length+K+K≤900000:=by rw [List.length_cons,Nat.mul_add] at hK; omega
   have hjK2:j≤900000:=by omega
   have hK2:K≤900000:=by omega
   have hd0:(r.den:Int)≠0:=FP r
   have hq:NB K (r.den / Nat.gcd a r.den):=hr.2.le (Nat.div_le_self _ _)
   have h3:=uw (IB.ofNat ha) hr.den hjK2 hK2 hd0
   have h4:=xX (Rat.divInt (a:Int) (r.den:Int))
   have hde:(Rat.divInt (a:Int) (r.den:Int)).den=r.den / Nat.gcd a r.den:=by
    rw [Rat.den_divInt,if_neg hd0]
    have e1:((r.den:Int)).natAbs=r.den:=by simp
    have e2:Int.gcd (r.den:Int) (a:Int)=Nat.gcd a r.den:=by
     rw [Int.gcd_comm]; rfl
    rw [e1,e2]
   rw [hde] at h4
   have h6:=dL (IB.ofNat ha) (IB.ofNat hq) hjK2 hK2
   rw [← Int.natCast_mul] at h6
   have hden:=xX r
   have hpos2:0<a*(r.den / Nat.gcd a r.den):=VI (l:=[r]) h0
   have hn2:=ih (pfx++[r]) (a*(r.den / Nat.gcd a r.den)) (j+K) (by rw [hal]; simp) (fun x hx=>hall x (by simp [hx])) (ha.mul hq) hpos2 (by omega)
   rw [List.length_append,List.length_singleton,show ((pfx.length+1:Nat):Int)=(pfx.length:Int)+1 by omega] at hn2
   have hlt:pfx.length<all.length:=by rw [hal]; simp
   have hget:(eG all)[pfx.length]?=some (bF r):=Ze (by rw [hal]; simp)
   have e1:IntKind.i64.wrap ((pfx.length:Int)+1)=(pfx.length:Int)+1:=wrap64 _ (by omega)
   simp only [dJ]
   unfold oL at *
   generalize (dJ (a*(r.den / Nat.gcd a r.den)) t)=res at *
   generalize ((a*(r.den / Nat.gcd a r.den):Nat):Int)=a2 at *
   generalize ((r.den / Nat.gcd a r.den:Nat):Int)=qz at *
   generalize Rat.divInt (a:Int) (r.den:Int)=dq at *
   generalize (r.den:Int)=dz at *
   generalize (a:Int)=az at *
   generalize eG all=rc at *
   generalize all.length=N at *
   generalize pfx.length=P at *
   have hltI:(P:Int)<N:=by omega
   refine aQ (Pn ..) ?_
   simp [Ik,hlt,hltI,hget,hden,h3,h4,h6,e1,hn2]
theorem apD {n d:Int} {q K j A:Nat} (hn:IB q n) (hd:IB q d) {l:List Rat} (hA:NB j A) (hall:∀ r∈l,RB K r) (hK:K+j+(q+3)*l.length+4+q≤900000) (hlen:l.length≤100000):∀ (c:Nat),c<l.length →
  L.loop [0,1,2,8,13,14,15,16] [13,14] kF 0 [oL l,intD n,intD d,intD (A:Int),intD (lt n d ((bD A l).drop (c+1))),intD (hs n d ((bD A l).drop (c+1))).1,intD (hs n d ((bD A l).drop (c+1))).2,.int .i64 c] [] =
    some (.exit 2,[intD (lt n d (bD A l)),intD (hs n d (bD A l)).1],[]):=by
 have hnl:(bD A l).length=l.length:=by simp [bD]
 have hab:=VR hA hall
 have hstop:∀ s p:Int,∀ z:Int,L.loop [0,1,2,8,13,14,15,16] [13,14] kF 0 [oL l,intD n,intD d,intD (A:Int),intD z,intD s,intD p,.int .i64 (-1)] []=some (.exit 2,[intD z,intD s],[]):=by
  intro s p z
  unfold oL
  generalize eG l=rc at *
  generalize l.length=N at *
  generalize (A:Int)=az at *
  refine aQ (Po ..) ?_
  simp [Il]
 have hb:∀ t:List Int,(∀ a∈t,IB (K+j) a)→t.length≤l.length→IB (K+j+(q+2)*l.length+2) (hs n d t).1∧IB (q*l.length+1) (hs n d t).2∧IB (K+j+(q+3)*l.length+3) (lt n d t):=by
  intro t ht hl
  have h1:=SN (k:=K+j) hn hd (l:=t) ht
  have h2:=alG (k:=K+j) hn hd (l:=t) ht
  have e1:(q+2)*t.length≤(q+2)*l.length:=Nat.mul_le_mul_left _ hl
  have e2:q*t.length≤q*l.length:=Nat.mul_le_mul_left _ hl
  have e3:(q+3)*t.length≤(q+3)*l.length:=Nat.mul_le_mul_left _ hl
  exact ⟨h1.1.mono (by omega),h1.2.mono (by omega),h2.mono (by omega)⟩
 have e3:q*l.length≤(q+3)*l.length:=Nat.mul_le_mul_right _ (by omega)
 have e4:(q+2)*l.length≤(q+3)*l.length:=Nat.mul_le_mul_right _ (by omega)
 have hstep:∀ (c:Nat) (r:Rat),c<l.length→l[c]?=some r→∀ res,
   L.loop [0,1,2,8,13,14,15,16] [13,14] kF 0 [oL l,intD n,intD d,intD (A:Int),intD ((lt n d ((bD A l).drop (c+1))+(hs n d ((bD A l).drop (c+1))).1)*d),intD ((hs n d ((bD A l).drop (c+1))).1*d+r.num*((A / r.den:Nat):Int)*(hs n d ((bD A l).drop (c+1))).2),intD ((hs n d ((bD A l).drop (c+1))).2*n),.int .i64 ((c:Int)-1)] []=some res →
   L.loop [0,1,2,8,13,14,15,16] [13,14] kF 0 [oL l,intD n,intD d,intD (A:Int),intD (lt n d ((bD A l).drop (c+1))),intD (hs n d ((bD A l).drop (c+1))).1,intD (hs n d ((bD A l).drop (c+1))).2,.int .i64 c] []=some res:=by
  intro c r hc hget res hres
  have hr:=hall r (List.mem_of_getElem? hget)
  have hbd:=hb ((bD A l).drop (c+1)) (fun x hx=>hab x (List.mem_of_mem_drop hx)) (by rw [List.length_drop]; omega)
  have hqb:NB j (A / r.den):=hA.le (Nat.div_le_self _ _)
  have d1:=Oz hA hr.2 (by omega) (by omega) r.den_nz
  have m0:=qP hbd.2.2 hbd.1 (by omega) (by omega)
  have m1:=dL (hbd.2.2.add hbd.1) hd (by omega) (by omega)
  have m2:=dL hbd.1 hd (by omega) (by omega)
  have m3:=dL hr.num (IB.ofNat hqb) (by omega) (by omega)
  have m4:=dL (hr.num.mul (IB.ofNat hqb)) hbd.2.1 (by omega) (by omega)
  have m5:=qP (hbd.1.mul hd) ((hr.num.mul (IB.ofNat hqb)).mul hbd.2.1) (by omega) (by omega)
  have m6:=dL hbd.2.1 hn (by omega) (by omega)
  have hg:=Ze hget
  have hden:=xX r
  have hnum:=JV r
  have e1:IntKind.i64.wrap ((c:Int)-1)=(c:Int)-1:=wrap64 _ (by omega)
  unfold oL at *
  generalize hs n d ((bD A l).drop (c+1))=S at *
  generalize lt n d ((bD A l).drop (c+1))=T at *
  generalize (T+S.1)*d=t2 at *
  generalize T+S.1=t1 at *
  generalize S.1*d+r.num*((A / r.den:Nat):Int)*S.2=s2 at *
  generalize S.1*d=s1 at *
  generalize r.num*((A / r.den:Nat):Int)*S.2=s3 at *
  generalize r.num*((A / r.den:Nat):Int)=s4 at *
  generalize S.2*n=p2 at *
  generalize ((A / r.den:Nat):Int)=qz at *
  generalize ((A % r.den:Nat):Int)=rz at *
  generalize (r.den:Int)=dz at *
  generalize (A:Int)=az at *
  generalize eG l=rc at *
  generalize l.length=N at *
  have hcI:(c:Int)<N:=by omega
  refine aQ (Po ..) ?_
  simp [Il,hc,hcI,hg,hden,hnum,d1,m0,m1,m2,m3,m4,m5,m6,e1,hres]
 have hcons:∀ (c:Nat) (r:Rat),l[c]?=some r→(bD A l).drop c=(r.num*((A / r.den:Nat):Int))::(bD A l).drop (c+1):=by
  intro c r hg
  have h1:(bD A l)[c]?=some (r.num*((A / r.den:Nat):Int)):=by simp [bD,hg]
  have hlt:c<(bD A l).length:=(List.getElem?_eq_some_iff.1 h1).1
  rw [List.drop_eq_getElem_cons hlt]
  rw [List.getElem?_eq_getElem hlt] at h1
  rw [Option.some.inj h1]
 intro c
 induction c with
 | zero =>
   intro hc
   have hget:=List.getElem?_eq_getElem (l:=l) (i:=0) hc
   refine hstep 0 _ hc hget _ ?_
   have h0:=hcons 0 _ hget
   rw [List.drop_zero] at h0
   rw [show ((0:Nat):Int)-1 = -1 from rfl,hstop]
   rw [h0]
   simp only [lt,hs,List.drop_succ_cons,List.drop_zero,Nat.zero_add,List.drop_one,List.tail_cons]
 | succ c ih =>
   intro hc
   have hget:=List.getElem?_eq_getElem (l:=l) (i:=c+1) hc
   refine hstep (c+1) _ hc hget _ ?_
   have hi:=ih (by omega)
   rw [hcons (c+1) _ hget] at hi
   simp only [hs,lt] at hi
   rw [show ((c+1:Nat):Int)-1=(c:Int) by omega]
   exact hi
theorem adT {K q j:Nat} {l:List Rat} (hne:l≠[]) (hn:l.length≤100000) (hall:∀ r∈l,RB K r) {n d:Int} (hn2:IB q n) (hd:IB q d) (hA:NB j (dJ 1 l)) (hK:K+j+(q+3)*l.length+4+q≤900000) (hK2:1+K*l.length+K≤900000) :
  L.call yI [oL l,intD n,intD d]=some (.aZ [intD (lt n d (bD (dJ 1 l) l)),intD (hs n d (bD (dJ 1 l) l)).1]):=by
 have h1:NB 1 1:=by unfold NB; decide
 have hl1:=apC (n:=n) (d:=d) hn l [] 1 1 rfl hall h1 (by omega) hK2
 have hpos:0<l.length:=List.length_pos_iff.2 hne
 obtain ⟨c,hc⟩:∃ c,l.length=c+1:=⟨l.length-1,by omega⟩
 have hl2:=apD hn2 hd hA hall hK hn c (by omega)
 have hnl:(bD (dJ 1 l) l).length=l.length:=by simp [bD]
 have hdr:(bD (dJ 1 l) l).drop (c+1)=[]:=List.drop_eq_nil_of_le (by omega)
 rw [hdr] at hl2
 simp only [hs,lt] at hl2
 have o0:=l9 0 (by omega)
 have o1:=l9 1 (by omega)
 have e1:IntKind.i64.wrap ((l.length:Int)-1)=(c:Int):=by rw [wrap64 _ (by omega)]; omega
 simp only [List.length_nil] at hl1
 rw [show ((1:Nat):Int)=1 from rfl] at hl1
 generalize (hs n d (bD (dJ 1 l) l)).1=r at *
 generalize lt n d (bD (dJ 1 l) l)=v at *
 generalize ((dJ 1 l:Nat):Int)=az at *
 unfold oL at *
 generalize eG l=rc at *
 generalize l.length=N at *
 generalize hz0:intD 0=zero at *
 generalize hz1:intD 1=one at *
 subst hz0 hz1
 simp at hl1
 refine aJ agf rfl (afL ..) ?_
 simp [Xe,o0,o1,e1,hl1,hl2]
end Go.Ev.Code
end
section
namespace Go.Ev.Code
open Go Go.Ev
def Md (b:aO) (s y:Int):Int:=lt (bK b+y) (bK b) (bD (dJ 1 (dG b s)) (dG b s))
def Uk (b:aO) (s y:Int):Int:=(hs (bK b+y) (bK b) (bD (dJ 1 (dG b s)) (dG b s))).1
def KC (b:aO) (s y:Int):Rat:=(Rat.divInt (Md b s y) (Uk b s y)+dZ b s)*Rat.divInt 1 b.eU
def adv (b:aO) (s y:Int):Except Er Rat:=match kV b s y with
 | .error e => .error e
 | .ok _=>if Uk b s y=0 then .error (some (3,none)) else .ok (KC b s y)
theorem aes {b:aO} {s y:Int} {q:Rat} (h:kV b s y = .ok q):(leftB b s).1=none∧fQ b s≠0 ∧ -2000000≤y∧y≤100000000∧q=bn b s y:=by
 have hl:=ZQ h
 unfold kV at h
 rw [hl] at h
 simp only at h
 split at h
 ·simp at h
 ·rename_i h1
  split at h
  ·simp at h
  ·rename_i h2
   refine ⟨hl,fun h0=>h2 (.inl h0),by omega,by omega,?_⟩
   exact (Except.ok.inj h).symm
theorem aa5 {b:aO} (hc:b.dX.length≤1000000) (hr:b.dY.length≤1000000) (s:Int) {y:Int} (hy : -9223372036854775808≤y∧y≤9223372036854775807) :
  L.call pI [aS b,.int .i64 s,.int .i64 y]=some (lY (adv b s y))∧(∀ q,adv b s y = .ok q→RB 30000 q):=by
 obtain ⟨hd,hdB⟩:=EP hc hr s hy
 unfold adv
 cases he:kV b s y with
 | error e =>
   refine ⟨?_,fun q h=>by simp at h⟩
   rw [he] at hd
   simp only [lY] at *
   have hne:=TM he
   obtain ⟨i,m,fq,c,rd,n,st,en,ex⟩:=b
   unfold aS aN at *
   simp only at *
   rcases e with _ | ⟨c,_ | t⟩
   ·exact absurd rfl hne
   ·simp only [dS] at *
    refine aJ BI rfl (BF ..) ?_
    simp [yh,hd]
   ·simp only [dS,eH] at *
    refine aJ BI rfl (BF ..) ?_
    simp [yh,hd]
 | ok q =>
   rw [he] at hd
   obtain ⟨hl,h0,hy1,hy2,_⟩:=aes he
   have hwt:=WO hc hr s
   unfold agJ at hwt
   rw [hl] at hwt
   simp only at hwt
   rw [if_neg h0] at hwt
   have hf:=fU (dK (fG (gY hl).2.1)).2.1
   obtain ⟨gB,nB,yB,g0,n0⟩:=D8 hf (y:=y) (by omega) (by omega)
   have hwB:=aiO hl h0
   obtain ⟨hall,hlen,hne⟩:=adk hl
   have hA:=akv hl
   have ham:=acr hc hr hl
   obtain ⟨W,hW⟩:∃ W:Nat,W=700:=⟨_,rfl⟩
   obtain ⟨K,hK⟩:∃ K:Nat,K=2200:=⟨_,rfl⟩
   obtain ⟨J,hJ⟩:∃ J:Nat,J=3100:=⟨_,rfl⟩
   rw [← hW] at hwB
   rw [← hK] at hall
   rw [← hJ] at hA
   have hKl:K*(dG b s).length≤440000:=by rw [hK]; omega
   have hsum:=adT hne (by omega) hall nB gB hA (by omega) (by omega)
   have hab:=VR hA hall
   have hnl:(bD (dJ 1 (dG b s)) (dG b s)).length=(dG b s).length:=by simp [bD]
   have sB:=(SN nB gB hab).1
   have tB:=alG nB gB hab
   rw [hnl] at sB tB
   have hsz:(hs (bK b+y) (bK b) (bD (dJ 1 (dG b s)) (dG b s))).1=Uk b s y:=rfl
   have hlz:lt (bK b+y) (bK b) (bD (dJ 1 (dG b s)) (dG b s))=Md b s y:=rfl
   rw [hsz,hlz] at hsum
   rw [hsz] at sB
   rw [hlz] at tB
   have hgz:100000000*b.eU=bK b:=rfl
   have o1:=l9 100000000 (by omega)
   have o2:=l9 b.eU (by rcases hf with h | h | h | h <;> omega)
   have o3:=l9 y hy
   have m1:=dL (a:=100000000) (b:=b.eU) (eF (by omega)) (eF (by rcases hf with h | h | h | h <;> omega)) (by omega) (by omega)
   rw [hgz] at m1
   have m2:=qP gB yB (by omega) (by omega)
   simp only [lY] at hd
   by_cases hz:Uk b s y=0
   ·rw [if_pos hz]
    refine ⟨?_,fun q h=>by simp at h⟩
    rw [hz] at hsum
    have hbad:=Z7 (Md b s y)
    simp only [lY,dS]
    generalize Md b s y=lz at *
    generalize bK b+y=ny at *
    generalize bK b=gz at *
    generalize dZ b s=w at *
    unfold oL at *
    generalize eG (dG b s)=rc at *
    generalize (dG b s).length=N at *
    obtain ⟨i,m,fq,c,rd,n,st,en,ex⟩:=b
    unfold aS aN at *
    simp only at *
    refine aJ BI rfl (BF ..) ?_
    simp [yh,hd,hwt,o1,o2,o3,m1,m2,ham,hsum,hbad]
   ·rw [if_neg hz]
    have hnew:=uw tB sB (by omega) (by omega) hz
    have dB:RB 14000 (Rat.divInt (Md b s y) (Uk b s y)):=iH (tB.mono (by omega)) (sB.mono (by omega)) hz
    have hadd:=xW dB hwB (by omega)
    have hof:=OL (n:=1) (d:=b.eU) (by omega) (by rcases hf with h | h | h | h <;> omega) (by rcases hf with h | h | h | h <;> omega)
    have hmul:=oK (dB.add hwB) (abT hf) (by omega)
    refine ⟨?_,fun q h=>by
     have h2:=Except.ok.inj h
     rw [← h2]
     exact ((dB.add hwB).mul (abT hf)).mono (by omega)⟩
    have hdv:(Rat.divInt (Md b s y) (Uk b s y)+dZ b s)*Rat.divInt 1 b.eU=KC b s y:=rfl
    rw [hdv] at hmul
    simp only [lY]
    generalize KC b s y=dv at *
    generalize Rat.divInt (Md b s y) (Uk b s y)+dZ b s=v1 at *
    generalize Rat.divInt (Md b s y) (Uk b s y)=v0 at *
    generalize Rat.divInt 1 b.eU=fr at *
    generalize Md b s y=lz at *
    generalize Uk b s y=sz at *
    generalize bK b+y=ny at *
    generalize bK b=gz at *
    generalize dZ b s=w at *
    unfold oL at *
    generalize eG (dG b s)=rc at *
    generalize (dG b s).length=N at *
    obtain ⟨i,m,fq,c,rd,n,st,en,ex⟩:=b
    unfold aS aN at *
    simp only at *
    refine aJ BI rfl (BF ..) ?_
    simp [yh,hd,hwt,o1,o2,o3,m1,m2,ham,hsum,hnew,hadd,hof,hmul]
end Go.Ev.Code
end
section
namespace Go.Ev.Code
open Go Go.Ev
def Kv (b:aO) (s y:Int):Except Er (Rat×Rat×Rat):=match (leftB b s).1 with
 | some e => .error (some e)
 | none=>if y < -1990000∨99990000<y then .error (some (2,none)) else if fQ b s=0 then .error (some (3,none)) else .ok (bn b s (y-10000),bn b s y,bn b s (y+10000))
def Dw:Except Er (Rat×Rat×Rat)→D
 | .ok (a,m,c) => .aZ [.agg [bF a,bF m,bF c],.aF]
 | .error e => .aZ [.agg [.aK,.aK,.aK],dS e]
theorem IJ {b:aO} {s:Int} (hc:b.dX.length≤1000000) (hr:b.dY.length≤1000000) (h:(leftB b s).1=none) (h0:fQ b s≠0) {y:Int} (h1 : -2000000≤y) (h2:y≤100000000) :
  L.call jo [aS b,.int .i64 s,.int .i64 y]=some (.aZ [bF (bn b s y),.aF])∧RB 15000 (bn b s y):=by
 obtain ⟨c1,cB⟩:=EP hc hr s (y:=y) (by omega)
 have ha:=aej h h0 h1 h2
 have hE:kV b s y = .ok (bn b s y):=by
  unfold kV
  rw [h]
  simp only
  rw [if_neg (by omega),if_neg (by intro h; rcases h with h | h; exact h0 h; exact ha h)]
 rw [hE] at c1
 exact ⟨c1,cB _ hE⟩
theorem aqz {b:aO} {s y:Int} (hy : -1990000≤y∧y≤99990000) {v0 v1 v2:Rat}
  (h0:L.call jo [aS b,.int .i64 s,.int .i64 (y-10000)]=some (.aZ [bF v0,.aF]))
  (h1:L.call jo [aS b,.int .i64 s,.int .i64 y]=some (.aZ [bF v1,.aF]))
  (h2:L.call jo [aS b,.int .i64 s,.int .i64 (y+10000)]=some (.aZ [bF v2,.aF])) :
  L.loop [1,2,3,6,8,32] [6,7,8] jK 3 [.int .i64 s,.int .i64 y,.loc 0 0,.loc 1 0,.loc 2 0,.int .i64 0] [.live (aN b),.live [.aK,.aK,.aK],.live [.aK,.aK,.aK]] =
    some (.exit 0,[.loc 1 0,.undef,.loc 2 0],[.live (aN b),.live [.aK,.aK,.aK],.live [bF v0,bF v1,bF v2]]):=by
 have hbc:=g_ b 3
 have hbl:=l7 b
 have hbd:=lZ b 0 10
 unfold aS at h0 h1 h2
 generalize aN b=B at *
 have htk:B.take 9=B:=List.take_of_length_le (by omega)
 have l3:L.loop [1,2,3,6,8,32] [6,7,8] jK 3 [.int .i64 s,.int .i64 y,.loc 0 0,.loc 1 0,.loc 2 0,.int .i64 3] [.live B,.live [.aK,.aK,.aK],.live [bF v0,bF v1,bF v2]] =
   some (.exit 0,[.loc 1 0,.undef,.loc 2 0],[.live B,.live [.aK,.aK,.aK],.live [bF v0,bF v1,bF v2]]):=by
  refine aQ (vg ..) ?_
  simp [qE,hbc]
 have l2:L.loop [1,2,3,6,8,32] [6,7,8] jK 3 [.int .i64 s,.int .i64 y,.loc 0 0,.loc 1 0,.loc 2 0,.int .i64 2] [.live B,.live [.aK,.aK,.aK],.live [bF v0,bF v1,.aK]] =
   some (.exit 0,[.loc 1 0,.undef,.loc 2 0],[.live B,.live [.aK,.aK,.aK],.live [bF v0,bF v1,bF v2]]):=by
  have e1:IntKind.i64.wrap (1:Int)=1:=by decide
  have e2:IntKind.i64.wrap (10000:Int)=10000:=by decide
  have e3:IntKind.i64.wrap (y+10000)=y+10000:=wrap64 _ (by omega)
  have e4:IntKind.i64.wrap (3:Int)=3:=by decide
  refine aQ (vg ..) ?_
  simp [qE,hbc,hbl,hbd,htk,e1,e2,e3,e4,h2,l3,kZ,gX]
 have l1:L.loop [1,2,3,6,8,32] [6,7,8] jK 3 [.int .i64 s,.int .i64 y,.loc 0 0,.loc 1 0,.loc 2 0,.int .i64 1] [.live B,.live [.aK,.aK,.aK],.live [bF v0,.aK,.aK]] =
   some (.exit 0,[.loc 1 0,.undef,.loc 2 0],[.live B,.live [.aK,.aK,.aK],.live [bF v0,bF v1,bF v2]]):=by
  have e1:IntKind.i64.wrap (0:Int)=0:=by decide
  have e3:IntKind.i64.wrap y=y:=wrap64 _ (by omega)
  have e4:IntKind.i64.wrap (2:Int)=2:=by decide
  refine aQ (vg ..) ?_
  simp [qE,hbc,hbl,hbd,htk,e1,e3,e4,h1,l2,kZ,gX]
 have e1:IntKind.i64.wrap (-1:Int) = -1:=by decide
 have e2:IntKind.i64.wrap (-10000:Int) = -10000:=by decide
 have e3:IntKind.i64.wrap (y + -10000)=y-10000:=by rw [wrap64 _ (by omega)]; omega
 have e4:IntKind.i64.wrap (1:Int)=1:=by decide
 refine aQ (vg ..) ?_
 simp [qE,hbc,hbl,hbd,htk,e1,e2,e3,e4,h0,l1,kZ,gX]
theorem asw {b:aO} {s y:Int} (hy : -1990000≤y∧y≤99990000)
  (h0:L.call jo [aS b,.int .i64 s,.int .i64 (y-10000)]=some (.aZ [.aK,wR 3])) :
  L.loop [1,2,3,6,8,32] [6,7,8] jK 3 [.int .i64 s,.int .i64 y,.loc 0 0,.loc 1 0,.loc 2 0,.int .i64 0] [.live (aN b),.live [.aK,.aK,.aK],.live [.aK,.aK,.aK]] =
    some (.ret,[.loc 1 0,wR 3,.loc 2 0],[.live (aN b),.live [.aK,.aK,.aK],.live [.aK,.aK,.aK]]):=by
 have hbc:=g_ b 3
 have hbl:=l7 b
 have hbd:=lZ b 0 10
 unfold aS at h0
 generalize aN b=B at *
 have htk:B.take 9=B:=List.take_of_length_le (by omega)
 have e1:IntKind.i64.wrap (-1:Int) = -1:=by decide
 have e2:IntKind.i64.wrap (-10000:Int) = -10000:=by decide
 have e3:IntKind.i64.wrap (y + -10000)=y-10000:=by rw [wrap64 _ (by omega)]; omega
 refine aQ (vg ..) ?_
 simp [qE,hbc,hbl,hbd,htk,e1,e2,e3,h0,kZ,gX]
theorem U6 {b:aO} (hc:b.dX.length≤1000000) (hr:b.dY.length≤1000000) (s y:Int):L.call uS [aS b,.int .i64 s,.int .i64 y]=some (Dw (Kv b s y)):=by
 have hl:=P7 hc hr s
 have hbc:=fun n=>g_ b n
 have hbl:=l7 b
 have hbd:=lZ b 0 10
 unfold zO SI at hl
 have hfcl:=wY (leftB b s).2 0 11
 unfold Kv
 cases he:(leftB b s).1 with
 | some e =>
   rw [he] at hl
   simp only [Dw]
   generalize (leftB b s).2.length=N at *
   generalize dH (leftB b s).2=fc at *
   unfold aS at *
   generalize aN b=B at *
   have htk:B.take 9=B:=List.take_of_length_le (by omega)
   rcases e with ⟨c,_ | t⟩
   ·simp only [dS] at *
    refine aJ Az rfl (Au ..) ?_
    simp [sF,hl,hbc,hbl,hbd,htk,kZ,gX]
   ·simp only [dS,eH] at *
    refine aJ Az rfl (Au ..) ?_
    simp [sF,hl,hbc,hbl,hbd,htk,kZ,gX]
 | none =>
   rw [he] at hl
   simp only [dS] at hl
   simp only
   by_cases hy:y < -1990000∨99990000<y
   ·rw [if_pos hy]
    simp only [Dw,dS]
    generalize (leftB b s).2.length=N at *
    generalize dH (leftB b s).2=fc at *
    unfold aS at *
    generalize aN b=B at *
    have htk:B.take 9=B:=List.take_of_length_le (by omega)
    refine aJ Az rfl (Au ..) ?_
    by_cases h1:y < -1990000
    ·simp [sF,hl,hbc,hbl,hbd,htk,h1,bT,kZ,gX]
    ·have h2:99990000<y:=by omega
     simp [sF,hl,hbc,hbl,hbd,htk,h1,h2,bT,kZ,gX]
   ·rw [if_neg hy]
    have hy1:¬ y < -1990000:=by omega
    have hy2:¬ 99990000<y:=by omega
    by_cases h0:fQ b s=0
    ·rw [if_pos h0]
     obtain ⟨c1,_⟩:=EP hc hr s (y:=y-10000) (by omega)
     have hE:kV b s (y-10000) = .error (some (3,none)):=by
      unfold kV
      rw [he]
      simp only
      rw [if_neg (by omega),if_pos (.inl h0)]
     rw [hE] at c1
     simp only [lY,dS] at c1
     have hlp:=asw (b:=b) (s:=s) (y:=y) (by omega) c1
     simp only [Dw,dS]
     generalize (leftB b s).2.length=N at *
     generalize dH (leftB b s).2=fc at *
     unfold aS at *
     generalize aN b=B at *
     have htk:B.take 9=B:=List.take_of_length_le (by omega)
     refine aJ Az rfl (Au ..) ?_
     simp [sF,hl,hbc,hbl,hbd,htk,hy1,hy2,hlp,kZ,gX]
    ·rw [if_neg h0]
     have hlp:=aqz (b:=b) (s:=s) (y:=y) (by omega) (IJ hc hr he h0 (by omega) (by omega)).1 (IJ hc hr he h0 (by omega) (by omega)).1 (IJ hc hr he h0 (by omega) (by omega)).1
     simp only [Dw]
     generalize bn b s (y-10000)=v0 at *
     generalize bn b s (y+10000)=v2 at *
     generalize bn b s y=v1 at *
     generalize (leftB b s).2.length=N at *
     generalize dH (leftB b s).2=fc at *
     unfold aS at *
     generalize aN b=B at *
     have htk:B.take 9=B:=List.take_of_length_le (by omega)
     refine aJ Az rfl (Au ..) ?_
     simp [sF,hl,hbc,hbl,hbd,htk,hy1,hy2,hlp,kZ,gX]
def dvE (b:aO) (s y:Int):Except Er Rat:=match Kv b s y with
 | .error e => .error e
 | .ok (a,_,c) => .ok ((a-c)*Rat.divInt 1 2)
def Y1 (b:aO) (s y:Int):Except Er Rat:=match Kv b s y with
 | .error e => .error e
 | .ok (a,m,c)=>if m=0 then .error (some (3,none)) else .ok ((a+c-m*Rat.divInt 2 1) / m*Rat.divInt 100000000 1)
theorem NC (b:aO) (s y:Int) (hc:b.dX.length≤1000000) (hr:b.dY.length≤1000000):(∃ e,e≠none∧Kv b s y = .error e) ∨
  ((leftB b s).1=none∧fQ b s≠0 ∧ -1990000≤y∧y≤99990000∧Kv b s y = .ok (bn b s (y-10000),bn b s y,bn b s (y+10000))∧RB 15000 (bn b s (y-10000))∧RB 15000 (bn b s y)∧RB 15000 (bn b s (y+10000))):=by
 unfold Kv
 cases he:(leftB b s).1 with
 | some e=>exact .inl ⟨_,by simp,rfl⟩
 | none =>
   simp only
   by_cases hy:y < -1990000∨99990000<y
   ·rw [if_pos hy]; exact .inl ⟨_,by simp,rfl⟩
   ·rw [if_neg hy]
    by_cases h0:fQ b s=0
    ·rw [if_pos h0]; exact .inl ⟨_,by simp,rfl⟩
    ·rw [if_neg h0]
     exact .inr ⟨trivial,h0,by omega,by omega,rfl,(IJ hc hr he h0 (by omega) (by omega)).2,(IJ hc hr he h0 (by omega) (by omega)).2,(IJ hc hr he h0 (by omega) (by omega)).2⟩
theorem alZ {b:aO} (hc:b.dX.length≤1000000) (hr:b.dY.length≤1000000) (s y:Int):L.call KQ [aS b,.int .i64 s,.int .i64 y]=some (lY (dvE b s y)):=by
 have ha:=U6 hc hr s y
 unfold dvE
 rcases NC b s y hc hr with ⟨e,hne,h⟩ | ⟨_,_,_,_,h,b0,b1,b2⟩
 ·rw [h] at ha ⊢
  simp only [Dw,lY] at *
  obtain ⟨i,m,fq,c,rd,n,st,en,ex⟩:=b
  unfold aS aN at *
  simp only at *
  rcases e with _ | ⟨c,_ | t⟩
  ·exact absurd rfl hne
  ·simp only [dS] at *
   refine aJ XK rfl (XE ..) ?_
   simp [TB,ha,kZ]
  ·simp only [dS,eH] at *
   refine aJ XK rfl (XE ..) ?_
   simp [TB,ha,kZ]
 ·rw [h] at ha ⊢
  have hsub:=uy b0 b2 (by omega)
  have hof:=OL (n:=1) (d:=2) (by omega) (by omega) (by omega)
  have hofB:RB 64 (Rat.divInt 1 2):=iH (eF (by omega)) (eF (by omega)) (by omega)
  have hmul:=oK (b0.sub b2) hofB (by omega)
  simp only [Dw,lY] at *
  generalize (bn b s (y-10000)-bn b s (y+10000))*Rat.divInt 1 2=w2 at *
  generalize bn b s (y-10000)-bn b s (y+10000)=w1 at *
  generalize bn b s (y-10000)=v0 at *
  generalize bn b s (y+10000)=v2 at *
  generalize bn b s y=v1 at *
  generalize Rat.divInt 1 2=half at *
  obtain ⟨i,m,fq,c,rd,n,st,en,ex⟩:=b
  unfold aS aN at *
  simp only at *
  refine aJ XK rfl (XE ..) ?_
  simp [TB,ha,kZ,hsub,hof,hmul]
theorem adS {b:aO} (hc:b.dX.length≤1000000) (hr:b.dY.length≤1000000) (s y:Int):L.call yH [aS b,.int .i64 s,.int .i64 y]=some (lY (Y1 b s y)):=by
 have ha:=U6 hc hr s y
 unfold Y1
 rcases NC b s y hc hr with ⟨e,hne,h⟩ | ⟨_,_,_,_,h,b0,b1,b2⟩
 ·rw [h] at ha ⊢
  simp only [Dw,lY] at *
  obtain ⟨i,m,fq,c,rd,n,st,en,ex⟩:=b
  unfold aS aN at *
  simp only at *
  rcases e with _ | ⟨c,_ | t⟩
  ·exact absurd rfl hne
  ·simp only [dS] at *
   refine aJ F7 rfl (F6 ..) ?_
   simp [AQ,ha,kZ]
  ·simp only [dS,eH] at *
   refine aJ F7 rfl (F6 ..) ?_
   simp [AQ,ha,kZ]
 ·rw [h] at ha ⊢
  have hof:=OL (n:=2) (d:=1) (by omega) (by omega) (by omega)
  have hofB:RB 64 (Rat.divInt 2 1):=iH (eF (by omega)) (eF (by omega)) (by omega)
  have hof2:=OL (n:=100000000) (d:=1) (by omega) (by omega) (by omega)
  have hof2B:RB 64 (Rat.divInt 100000000 1):=iH (eF (by omega)) (eF (by omega)) (by omega)
  have hadd:=xW b0 b2 (by omega)
  have hmul:=oK b1 hofB (by omega)
  have hsub:=uy (b0.add b2) (b1.mul hofB) (by omega)
  have hsB:=(b0.add b2).sub (b1.mul hofB)
  simp only [Dw] at *
  by_cases h1:bn b s y=0
  ·rw [if_pos h1]
   rw [h1] at ha hmul hsub hsB
   have hdiv:=Z5 hsB (by omega)
   simp only [lY,dS]
   generalize bn b s (y-10000)+bn b s (y+10000)-0*Rat.divInt 2 1=w2 at *
   generalize 0*Rat.divInt 2 1=w3 at *
   generalize bn b s (y-10000)+bn b s (y+10000)=w1 at *
   generalize bn b s (y-10000)=v0 at *
   generalize bn b s (y+10000)=v2 at *
   generalize Rat.divInt 2 1=two at *
   generalize (0:Rat)=z at *
   obtain ⟨i,m,fq,c,rd,n,st,en,ex⟩:=b
   unfold aS aN at *
   simp only at *
   refine aJ F7 rfl (F6 ..) ?_
   simp [AQ,ha,kZ,hadd,hof,hmul,hsub,hdiv]
  ·rw [if_neg h1]
   have hdiv:=Wi hsB b1 (by omega) h1
   have hmul2:=oK (hsB.div b1 h1) hof2B (by omega)
   simp only [lY]
   generalize (bn b s (y-10000)+bn b s (y+10000)-bn b s y*Rat.divInt 2 1) / bn b s y*Rat.divInt 100000000 1=w5 at *
   generalize (bn b s (y-10000)+bn b s (y+10000)-bn b s y*Rat.divInt 2 1) / bn b s y=w4 at *
   generalize bn b s (y-10000)+bn b s (y+10000)-bn b s y*Rat.divInt 2 1=w2 at *
   generalize bn b s y*Rat.divInt 2 1=w3 at *
   generalize bn b s (y-10000)+bn b s (y+10000)=w1 at *
   generalize bn b s (y-10000)=v0 at *
   generalize bn b s (y+10000)=v2 at *
   generalize bn b s y=v1 at *
   generalize Rat.divInt 2 1=two at *
   generalize Rat.divInt 100000000 1=sq at *
   obtain ⟨i,m,fq,c,rd,n,st,en,ex⟩:=b
   unfold aS aN at *
   simp only at *
   refine aJ F7 rfl (F6 ..) ?_
   simp [AQ,ha,kZ,hadd,hof,hmul,hsub,hdiv,hof2,hmul2]
end Go.Ev.Code
end
section
namespace Go.Ev.Code
open Go Go.Ev
structure FM (a m c:Rat):Prop where
 c0:0≤c
 cm:c≤m
 ma:m≤a
 mid:2*m≤a+c
theorem FM.mul {a m c a' m' c':Rat} (h:FM a m c) (h':FM a' m' c'):FM (a*a') (m*m') (c*c'):=by
 obtain ⟨h1,h2,h3,h4⟩:=h
 obtain ⟨g1,g2,g3,g4⟩:=h'
 have m0:0≤m:=Rat.le_trans h1 h2
 have m0':0≤m':=Rat.le_trans g1 g2
 have a0':0≤a':=Rat.le_trans m0' g3
 refine ⟨Rat.mul_nonneg h1 g1,?_,?_,?_⟩
 ·exact Rat.le_trans (Rat.mul_le_mul_of_nonneg_right h2 g1) (Rat.mul_le_mul_of_nonneg_left g2 m0)
 ·exact Rat.le_trans (Rat.mul_le_mul_of_nonneg_right h3 m0') (Rat.mul_le_mul_of_nonneg_left g3 (Rat.le_trans m0 h3))
 ·have e1:0≤(a-c)*(a'-c'):=Rat.mul_nonneg (by grind) (by grind)
  have e2:=Rat.mul_le_mul_of_nonneg_right h4 (show 0≤2*m' by grind)
  have e3:=Rat.mul_le_mul_of_nonneg_left g4 (show 0≤a+c by grind)
  grind
theorem FM.const {r:Rat} (h:0≤r):FM r r r:=⟨h,Rat.le_refl,Rat.le_refl,by grind⟩
theorem FM.add {a m c r:Rat} (h:FM a m c) (hr:0≤r):FM (r+a) (r+m) (r+c):=by
 obtain ⟨h1,h2,h3,h4⟩:=h
 exact ⟨by grind,by grind,by grind,by grind⟩
theorem FM.inv {u v w:Rat} (h0:0<u) (h1:u≤v) (h2:v≤w) (h3:u+w=2*v):FM u⁻¹ v⁻¹ w⁻¹:=by
 have hv:0<v:=by grind
 have hw:0<w:=by grind
 have iu:0<u⁻¹:=Rat.inv_pos.2 h0
 have iv:0<v⁻¹:=Rat.inv_pos.2 hv
 have iw:0<w⁻¹:=Rat.inv_pos.2 hw
 have eu:u*u⁻¹=1:=Rat.mul_inv_cancel _ (by grind)
 have ev:v*v⁻¹=1:=Rat.mul_inv_cancel _ (by grind)
 have ew:w*w⁻¹=1:=Rat.mul_inv_cancel _ (by grind)
 generalize u⁻¹=i at *
 generalize v⁻¹=j at *
 generalize w⁻¹=k at *
 have ik:0≤i*k:=Rat.mul_nonneg (Rat.le_of_lt iu) (Rat.le_of_lt iw)
 have jk:0≤j*k:=Rat.mul_nonneg (Rat.le_of_lt iv) (Rat.le_of_lt iw)
 have ij:0≤i*j:=Rat.mul_nonneg (Rat.le_of_lt iu) (Rat.le_of_lt iv)
 refine ⟨Rat.le_of_lt iw,?_,?_,?_⟩
 ·have := Rat.mul_le_mul_of_nonneg_right h2 jk
  have e1:v*(j*k)=k:=by rw [← Rat.mul_assoc,ev,Rat.one_mul]
  have e2:w*(j*k)=j:=by rw [Rat.mul_comm j,← Rat.mul_assoc,ew,Rat.one_mul]
  rw [e1,e2] at this; exact this
 ·have := Rat.mul_le_mul_of_nonneg_right h1 ij
  have e1:u*(i*j)=j:=by rw [← Rat.mul_assoc,eu,Rat.one_mul]
  have e2:v*(i*j)=i:=by rw [Rat.mul_comm i,← Rat.mul_assoc,ev,Rat.one_mul]
  rw [e1,e2] at this; exact this
 ·have sq:0≤(v-u)*(v-u):=Rat.mul_nonneg (by grind) (by grind)
  have hw2:w=2*v-u:=by grind
  have e0:u*w≤v*v:=by rw [hw2]; grind
  have e1:=Rat.mul_le_mul_of_nonneg_right e0 ik
  have e2:u*w*(i*k)=1:=by
   have : u*w*(i*k)=(u*i)*(w*k):=by grind
   rw [this,eu,ew,Rat.one_mul]
  rw [e2] at e1
  have e3:=Rat.mul_le_mul_of_nonneg_right e1 (Rat.le_of_lt iv)
  have e4:v*v*(i*k)*j=v*(i*k):=by
   have : v*v*(i*k)*j=(v*j)*(v*(i*k)):=by grind
   rw [this,ev,Rat.one_mul]
  rw [e4,Rat.one_mul] at e3
  have e5:i+k=2*(v*(i*k)):=by
   have : i+k=(w*k)*i+(u*i)*k:=by rw [eu,ew]; grind
   rw [this]
   have : w*k*i+u*i*k=(u+w)*(i*k):=by grind
   rw [this,h3]; grind
  rw [e5]
  grind
theorem ahM {a m c:Rat} (h:FM a m c):∀ {l:List Rat},(∀ r∈l,0≤r)→FM (vN a l) (vN m l) (vN c l)
 | [],_=>FM.const Rat.le_refl
 | r::t,hl=>by
   have ih:=ahM h (l:=t) (fun q hq=>hl q (by simp [hq]))
   simp only [vN]
   exact (h.mul ih).add (hl r (by simp))
theorem ahL {x:Rat} (hx:0<x):∀ {l:List Rat},(∀ r∈l,0≤r)→(∃ r∈l,0<r)→0<vN x l
 | [],_,h=>by obtain ⟨r,hr,_⟩:=h; simp at hr
 | r::t,hl,h=>by
   have h1:=Mc (Rat.le_of_lt hx) (l:=t) (fun q hq=>hl q (by simp [hq]))
   have h2:=hl r (by simp)
   have h3:=Rat.mul_nonneg (Rat.le_of_lt hx) h1
   simp only [vN]
   obtain ⟨q,hq,hq0⟩:=h
   rcases List.mem_cons.1 hq with rfl | hq
   ·grind
   ·have := Rat.mul_pos hx (ahL hx (l:=t) (fun q hq=>hl q (by simp [hq])) ⟨q,hq,hq0⟩)
    grind
theorem arx {b:aO} (hc:chk b=none):0<iW b:=by
 unfold iW
 rw [hc]
 obtain ⟨q,n,r,k,h1,h2,h3,h4,h5,h6,h7,_⟩:=J8 (dK hc).2.2
 simp only [h2]
 have hnum:0<r.num:=by omega
 have h0:0≤r:=qO.1 (by omega)
 refine Rat.lt_of_le_of_ne h0 (fun h=>?_)
 rw [← h] at hnum
 exact absurd hnum (by decide)
theorem aou {b:aO} {s:Int} (h:(leftB b s).1=none):∃ r∈dG b s,0<r:=by
 obtain ⟨f0,h2,h3,h4⟩:=gY h
 obtain ⟨d1,d2,d3,d4,d5,d6⟩:=vX h
 obtain ⟨k,k1,k2,k3,k4⟩:=Ba h2 h3 h4
 have hklt:k<(aV b).2.length:=(List.getElem?_eq_some_iff.1 k2).1
 have hrp:=arx (fG h2)
 have hlen:=MO f0
 unfold dG
 rw [k1,Int.toNat_natCast]
 by_cases hk:k+1=(aV b).2.length
 ·have h5:=SK f0 k2
  rw [if_pos hk] at h5
  have hpn:=TW f0 d6
  have hk2:k<(bJ b).2.length:=by omega
  have hdr:(bJ b).2.drop k=[((fH b s).2,lX b (fH b s)+iW b)]:=by
   rw [List.drop_eq_getElem_cons hk2,List.drop_eq_nil_of_le (by omega)]
   rw [List.getElem?_eq_getElem hk2] at h5
   rw [Option.some.inj h5]
  rw [hdr]
  generalize lX b (fH b s)=pv at *
  generalize iW b=rd at *
  split
  ·exact ⟨pv+rd-pv,by simp [VG],by grind⟩
  ·exact ⟨pv+rd,by simp,by grind⟩
 ·have hL:(aV b).2.length-1<(aV b).2.length:=by omega
  have hg:=List.getElem?_eq_getElem hL
  have h5:=SK f0 hg
  rw [if_pos (by omega)] at h5
  have hpn:=TW f0 (List.mem_of_getElem? hg)
  generalize (aV b).2[(aV b).2.length-1]=p at *
  have hm:(p.2,lX b p+iW b)∈(bJ b).2.drop (k+1):=by
   refine List.mem_of_getElem? (i:=(aV b).2.length-1-(k+1)) ?_
   rw [List.getElem?_drop,show k+1+((aV b).2.length-1-(k+1))=(aV b).2.length-1 by omega]
   exact h5
  have hk2:k<(bJ b).2.length:=by omega
  rw [List.drop_eq_getElem_cons hk2]
  generalize (bJ b).2[k]=x at *
  refine ⟨lX b p+iW b,?_,by
   generalize lX b p=pv at *
   generalize iW b=rd at *
   grind⟩
  split
  ·simp only [List.map_cons,VG]
   exact List.mem_cons_of_mem _ (List.mem_map.2 ⟨_,hm,rfl⟩)
  ·simp only [List.map_cons]
   exact List.mem_cons_of_mem _ (List.mem_map.2 ⟨_,hm,rfl⟩)
theorem am6 {b:aO} {s y:Int} (h:(leftB b s).1=none) (h0:fQ b s≠0) (h1 : -2000000≤y) (h2:y≤100000000):0<bn b s y:=by
 have hf:=fU (dK (fG (gY h).2.1)).2.1
 obtain ⟨w0,w1⟩:=QO h h0
 obtain ⟨a1,_⟩:=I_ hf w0 w1 (z:=y) h1 (Int.le_refl _) h2
 obtain ⟨_,_,_,g0,n0⟩:=D8 hf (y:=y) h1 h2
 have hx:0<BL b y:=by
  unfold BL
  rw [Rat.div_def]
  exact Rat.mul_pos (Rat.intCast_pos.2 g0) (Rat.inv_pos.2 (Rat.intCast_pos.2 n0))
 unfold bn
 rw [Rat.div_def]
 exact Rat.mul_pos (ahL hx (Lr h) (aou h)) (Rat.inv_pos.2 a1)
theorem am7 {b:aO} {s y:Int} (h:(leftB b s).1=none) (h0:fQ b s≠0) (h1 : -1990000≤y) (h2:y≤99990000):FM (bn b s (y-10000)) (bn b s y) (bn b s (y+10000)):=by
 have hf:=fU (dK (fG (gY h).2.1)).2.1
 obtain ⟨w0,w1⟩:=QO h h0
 obtain ⟨a1,a2⟩:=I_ hf w0 w1 (y:=y-10000) (z:=y) (by omega) (by omega) (by omega)
 obtain ⟨_,a3⟩:=I_ hf w0 w1 (y:=y) (z:=y+10000) (by omega) (by omega) (by omega)
 obtain ⟨_,_,_,g0,n0⟩:=D8 hf (y:=y-10000) (by omega) (by omega)
 have t1:FM (1+dZ b s*(((y-10000:Int):Rat) / (bK b:Rat)))⁻¹ (1+dZ b s*((y:Rat) / (bK b:Rat)))⁻¹ (1+dZ b s*(((y+10000:Int):Rat) / (bK b:Rat)))⁻¹:=by
  refine FM.inv a1 a2 a3 ?_
  rw [Rat.intCast_sub,Rat.intCast_add,Rat.div_def,Rat.div_def,Rat.div_def]
  generalize (bK b:Rat)⁻¹=I
  generalize dZ b s=w
  generalize (y:Rat)=Y
  generalize ((10000:Int):Rat)=T
  grind
 have gp:(0:Rat)<(bK b:Rat):=Rat.intCast_pos.2 g0
 have t2:FM (BL b (y-10000)) (BL b y) (BL b (y+10000)):=by
  have ti:FM (((bK b+(y-10000):Int):Rat))⁻¹ (((bK b+y:Int):Rat))⁻¹ (((bK b+(y+10000):Int):Rat))⁻¹:=by
   refine FM.inv (Rat.intCast_pos.2 n0) (Rat.intCast_le_intCast.2 (by omega)) (Rat.intCast_le_intCast.2 (by omega)) ?_
   rw [← Rat.intCast_add]
   have e:bK b+(y-10000)+(bK b+(y+10000))=2*(bK b+y):=by omega
   rw [e,Rat.intCast_mul]; rfl
  unfold BL
  rw [Rat.div_def,Rat.div_def,Rat.div_def]
  exact (FM.const (Rat.le_of_lt gp)).mul ti
 have t3:=ahM t2 (Lr h)
 unfold bn
 rw [Rat.div_def (vN _ _),Rat.div_def (vN _ _),Rat.div_def (vN _ _)]
 exact t3.mul t1
end Go.Ev.Code
end
