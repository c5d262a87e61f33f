/- A part of the proof of riskZero_card, yieldPar_card, pricePar_card. -/
import Derived.Test.YtheeamloonpolaaGreatDoorCSpD3
set_option linter.unusedVariables false
set_option linter.unusedSimpArgs false
section
namespace Go.Ev.Code
open Go Go.Ev
def eP (l:List Rat):List D:=l.map cO
theorem PZ (l:List Rat) (b n:Nat):(eP l).all (D.clo b (n+1))=true:=by
 unfold eP
 induction l with
 | nil=>rfl
 | cons q r ih=>simp only [List.map_cons,List.all_cons,ih,Bool.and_true]; rfl
theorem Ob (l:List Rat) (n:Nat) (m:Mem):jE (fz (n+1)) (eP l) m=some (eP l,m):=by
 unfold eP
 induction l with
 | nil=>rfl
 | cons q r ih=>simp [ih]
theorem Fe (l:List Rat):(eP l).length=l.length:=by simp [eP]
theorem ami (l r:List Rat):eP (l++r)=eP l++eP r:=by simp [eP]
theorem aas {l:List Rat} {i:Nat} {q:Rat} (h:l[i]?=some q):(eP l)[i]?=some (cO q):=by simp [eP,h]
def pU (l:List Rat):D := .sl l.length (eP l)
theorem QL:∀ {l:List (Int×Rat)} {i:Nat} {p:Int×Rat},l[i]?=some p→((dL l).drop (i*2)).take 2=[.int .i64 p.1,.str (sU p.2)]
 | [],i,p,h=>by simp at h
 | (a,b)::r,0,p,h=>by simp at h; subst h; simp [dL]
 | (a,b)::r,i+1,p,h=>by
   have := QL (l:=r) (i:=i) (p:=p) (by simpa using h)
   rw [show (i+1)*2=i*2+1+1 by omega]
   simpa [dL] using this
theorem aay:zeros 1 [.aV]=[.aV]:=rfl
theorem asD {b:aH} {s k:Int} {pl:Nat} {pc:List D} {all:List (Int×Rat)} (hq:∀ p∈all,RB 13000 p.2) (hn:all.length≤100000):∀ (rest pfx:List (Int×Rat)),all=pfx++rest→pfx≠[] →
  L.loop [1,2,6,7,10,39,40,41] [1,2,6,7,10] lQ 1 [.int .i64 s,.loc 0 0,.sl pl pc,.int .i64 k,.bf 1 0 pfx.length 1,.sl all.length (dL all),.int .i64 all.length,.int .i64 pfx.length] [.live (aQ b),.live (eP (pfx.map Prod.snd))] =
    some (.exit 0,[.int .i64 s,.loc 0 0,.sl pl pc,.int .i64 k,.bf 1 0 all.length 1],[.live (aQ b),.live (eP (all.map Prod.snd))]):=by
 have hbc:=fun n=>iq b n
 intro rest
 induction rest with
 | nil =>
   intro pfx hal hne
   rw [List.append_nil] at hal
   subst hal
   have hrc:=fun n=>PZ (all.map Prod.snd) n 11
   generalize eP (all.map Prod.snd)=rc at *
   generalize dL all=fc at *
   generalize aQ b=B at *
   generalize all.length=N at *
   refine aO (Dw ..) ?_
   simp [yZ,hbc,hrc]
 | cons p r ih =>
   intro pfx hal hne
   have hpos:0<pfx.length:=List.length_pos_iff.2 hne
   have hgi:all[pfx.length]?=some p:=by rw [hal]; simp
   obtain ⟨g1,g2,g3⟩:=KT hgi
   have g4:=QL hgi
   have hlt:pfx.length<all.length:=by rw [hal]; simp
   have hget:=NH (hq p (by rw [hal]; simp))
   have hn2:=ih (pfx++[p]) (by rw [hal]; simp) (by simp)
   rw [List.map_append,ami,show eP ([p].map Prod.snd)=[cO p.2] from rfl,List.length_append,List.length_singleton,show ((pfx.length+1:Nat):Int)=(pfx.length:Int)+1 by omega] at hn2
   have hrc:=fun n=>PZ (pfx.map Prod.snd) n 11
   have hfz:∀ m,jE (fz 11) (eP (pfx.map Prod.snd)) m=some (eP (pfx.map Prod.snd),m):=fun m=>Ob _ 10 m
   have hrl:(eP (pfx.map Prod.snd)).length=pfx.length:=by rw [Fe,List.length_map]
   have e1:IntKind.i64.wrap ((pfx.length:Int)+1)=(pfx.length:Int)+1:=wrap64 _ (by omega)
   have hlen:pfx.length+1≤4294967296:=by omega
   have htk:(eP (pfx.map Prod.snd)).take pfx.length=eP (pfx.map Prod.snd):=List.take_of_length_le (by omega)
   obtain ⟨pd,q⟩:=p
   simp only at *
   generalize eP (pfx.map Prod.snd)=rc at *
   generalize eP (all.map Prod.snd)=ra at *
   generalize dL all=fc at *
   generalize aQ b=B at *
   generalize all.length=N at *
   generalize pfx.length=P at *
   generalize sU q=tq at *
   have hltI:(P:Int)<N:=by omega
   refine aO (Dw ..) ?_
   simp [yZ,hlt,hltI,g1,g2,g3,g4,hget,e1,hbc,hrc,hrl,htk,hlen,aay,hn2,kM]
theorem auF {b:aH} {s k:Int} {pl:Nat} {pc:List D} {all:List (Int×Rat)} (hq:∀ p∈all,RB 13000 p.2) (hn:all.length≤100000) (hne:all≠[]) :
  L.loop [1,2,6,7,10,39,40,41] [1,2,6,7,10] lQ 1 [.int .i64 s,.loc 0 0,.sl pl pc,.int .i64 k,.cu,.sl all.length (dL all),.int .i64 all.length,.int .i64 0] [.live (aQ b)] =
    some (.exit 0,[.int .i64 s,.loc 0 0,.sl pl pc,.int .i64 k,.bf 1 0 all.length 1],[.live (aQ b),.live (eP (all.map Prod.snd))]):=by
 have hbc:=fun n=>iq b n
 match all,hne with
 | p::r,_ =>
   have hgi:(p::r)[0]?=some p:=rfl
   obtain ⟨g1,g2,g3⟩:=KT hgi
   have g4:=QL hgi
   have hget:=NH (hq p (by simp))
   have hn2:=asD (b:=b) (s:=s) (k:=k) (pl:=pl) (pc:=pc) hq hn r [p] rfl (by simp)
   rw [show eP ([p].map Prod.snd)=[cO p.2] from rfl,List.length_singleton] at hn2
   obtain ⟨pd,q⟩:=p
   simp only [Nat.zero_mul,Nat.zero_add,List.drop_zero] at *
   have hlt:0<((pd,q)::r).length:=by simp
   generalize eP (((pd,q)::r).map Prod.snd)=ra at *
   generalize dL ((pd,q)::r)=fc at *
   generalize aQ b=B at *
   generalize ((pd,q)::r).length=N at *
   generalize sU q=tq at *
   have hltI:(0:Int)<N:=by omega
   refine aO (Dw ..) ?_
   simp at hn2
   have e1:IntKind.i64.wrap (1:Int)=1:=wrap64 _ (by omega)
   simp [yZ,hlt,hltI,g1,g2,g3,g4,hget,hbc,aay,hn2,kM,e1]
end Go.Ev.Code
end
section
namespace Go.Ev.Code
open Go Go.Ev
theorem aqR {pay each red:Rat} {i j k:Nat} (hP:RB i pay) (hE:RB j each) (hR:RB k red):∀ (l:List (Int×Int)),∀ p∈mD pay each red l,RB (i+j+k+1) p.2:=by
 have hrest:∀ (l:List (Int×Int)),∀ p∈ig each red l,RB (j+k+1) p.2:=by
  intro l
  induction l with
  | nil=>intro p h; simp [ig] at h
  | cons x r ih =>
    cases r with
    | nil=>intro p h; simp [ig] at h; subst h; exact hE.add hR
    | cons y r =>
      intro p h
      simp only [ig,List.mem_cons] at h
      rcases h with rfl | h
      ·exact hE.mono (by omega)
      ·exact ih p h
 intro l p h
 match l,h with
 | [],h=>simp [mD] at h
 | [x],h=>simp [mD] at h; subst h; exact (hP.add hR).mono (by omega)
 | x::y::r,h =>
   simp only [mD,List.mem_cons] at h
   rcases h with rfl | h
   ·exact hP.mono (by omega)
   ·exact (hrest _ p h).mono (by omega)
theorem abz {b:aH} (h:(bH b).1=none):∀ p∈(bH b).2,RB 1500 p.2:=by
 obtain ⟨h0,p,r,q,hps,hq,hfl⟩:=jD h
 have hP:=PY h (p:=p) (by rw [hps]; simp)
 rw [LX hq] at hP
 have hf:=eG (dH (gZ h0)).2.1
 have hE:=UA hf
 have hR:=Rt b
 rw [hfl]
 intro x hx
 obtain ⟨a,ha⟩:∃ a:Nat,a=600:=⟨_,rfl⟩
 obtain ⟨c,hc⟩:∃ c:Nat,c=464:=⟨_,rfl⟩
 rw [← ha] at hP
 rw [← hc] at hE
 exact (aqR hP hE hR _ x hx).mono (by omega)
def ac9 (v:Rat):List Rat→List Rat
 | []=>[]
 | r::t=>(r-v)::t
def bZ (b:aH) (s:Int):List Rat:=if Y8 b s=true then ac9 (oV b (fM b s)) (((bH b).2.drop (TF (aS b).2 s).toNat).map Prod.snd) else ((bH b).2.drop (TF (aS b).2 s).toNat).map Prod.snd
def aqc (b:aH) (s:Int):D:=match (leftB b s).1 with
 | some e => .aZ [.sl 0 [],jf (some e)]
 | none => .aZ [pU (bZ b s),.aG]
theorem Ui {b:aH} (h:(bH b).1=none):(bH b).2.length=(aS b).2.length:=by
 obtain ⟨h0,p,r,q,hps,hq,hfl⟩:=jD h
 rw [hfl,hps,Y9]
theorem ab7 {b:aH} (hc:b.dX.length≤1000000) (hr:b.dV.length≤1000000) (s:Int):L.call uo [aT b,.int .i64 s]=some (aqc b s):=by
 have hl:=XV hc hr s
 have hbc:=fun n=>iq b n
 have hbl:=sH b
 have hbd:=sG b 0 10
 unfold ahS at hl
 unfold aqc
 cases he:(leftB b s).1 with
 | some e =>
   rw [he] at hl
   unfold aT at *
   generalize aQ b=B at *
   have htk:B.take 9=B:=List.take_of_length_le (by omega)
   rcases e with ⟨c,_ | t⟩
   ·simp only [jf] at *
    refine aN C9 rfl (CY ..) ?_
    simp [yY,hl,hbc,hbl,hbd,htk]
   ·simp only [jf,gu] at *
    refine aN C9 rfl (CY ..) ?_
    simp [yY,hl,hbc,hbl,hbd,htk]
 | none =>
   rw [he] at hl
   obtain ⟨f0,h2,h3,h4⟩:=jh he
   obtain ⟨d1,d2,d3,d4,d5,d6⟩:=zu he
   obtain ⟨k,k1,k2,k3,k4⟩:=Ce h2 h3 h4
   have hplen:=(fO h2).2.len
   have hg:=um k2
   have hklt:k<(aS b).2.length:=(List.getElem?_eq_some_iff.1 k2).1
   have hfl:=ac2 hc hr
   have hflen:=Ui f0
   have hrb:=abz f0
   have hex:=WG hc hr s
   unfold exD at hex
   rw [he] at hex
   have hpay:=ac3 f0 hc hr d6
   have hpB:=PY f0 d6
   unfold Dp VK at hfl
   rw [f0] at hfl
   simp only [jf] at hfl
   unfold bZ
   rw [k1,Int.toNat_natCast]
   rw [k1] at hl
   have hdr:=QK ((bH b).2.take k) ((bH b).2.drop k)
   rw [List.take_append_drop] at hdr
   have htl:((bH b).2.take k).length=k:=by rw [List.length_take]; omega
   rw [htl] at hdr
   have hrl:=zY ((bH b).2.drop k)
   have hll:((bH b).2.drop k).length=(aS b).2.length-k:=by rw [List.length_drop,hflen]
   have hflc:=zY (bH b).2
   have hrb2:∀ p∈(bH b).2.drop k,RB 1500 p.2:=fun p hp=>hrb p (List.mem_of_mem_drop hp)
   have hcl:=zX (bH b).2 0 11
   have hcl3:=gX (aS b).2 0 11
   have hne:(bH b).2.drop k≠[]:=by
    intro h
    rw [h] at hll
    simp at hll
    omega
   have h13:∀ p∈(bH b).2.drop k,RB 13000 p.2:=fun p hp=>(hrb2 p hp).mono (Nat.le_of_ble_eq_true rfl)
   have hloop:=auF (b:=b) (s:=s) (k:=k) (pl:=(aS b).2.length) (pc:=bK (aS b).2) h13 (by omega) hne
   unfold f_ at hl
   rw [hflen] at hfl hflc
   generalize (bH b).2.drop k=rest at *
   rw [hll] at hloop hrl
   have htk2:(dL rest).take (((aS b).2.length-k)*2)=dL rest:=List.take_of_length_le (by omega)
   unfold pD at *
   generalize fM b s=p at *
   obtain ⟨p1,p2⟩:=p
   simp only at *
   obtain ⟨g1,g2,g3,g4⟩:=hg
   have hbn:lG true false (aS b).2.length [.int .i64 (k:Int)]=some (k,(aS b).2.length):=by
    have : (k:Int)≤((aS b).2.length:Int):=by omega
    simp [lG,bnd,this]
   have hb3:k*2+((aS b).2.length-k)*2≤(dL (bH b).2).length:=by omega
   have hrqz:∀ l m,jE (fz 11) (eP l) m=some (eP l,m):=fun l m=>Ob l 10 m
   have hrqc:∀ l n,(eP l).all (D.clo n 12)=true:=fun l n=>PZ l n 11
   have hrql:=Fe (rest.map Prod.snd)
   rw [List.length_map,hll] at hrql
   have htk3:(eP (rest.map Prod.snd)).take ((aS b).2.length-k)=eP (rest.map Prod.snd):=List.take_of_length_le (by omega)
   have hkI:(k:Int)<((aS b).2.length:Int):=by omega
   have hNk:0<(aS b).2.length-k:=by omega
   generalize hfc:dL (bH b).2=fc at *
   generalize hNN:(aS b).2.length=N at *
   generalize hNNk:N-k=Nk at *
   generalize bK (aS b).2=pc at *
   generalize dL rest=fr at *
   cases hxb:Y8 b s with
   | false =>
     rw [hxb] at hex
     rw [if_neg (by decide)]
     unfold pU
     rw [List.length_map,hll]
     have hc1:=fun n=>hrqc (rest.map Prod.snd) n
     have hz1:=fun m=>Ob (rest.map Prod.snd) 9 m
     generalize eP (rest.map Prod.snd)=rq at *
     unfold aT at *
     generalize aQ b=B at *
     have htk:B.take 9=B:=List.take_of_length_le (by omega)
     refine aN C9 rfl (CY ..) ?_
     simp [yY,hl,hbc,hbl,hbd,htk,hfl,hbn,hdr,hb3,htk2,hNNk,hloop,hex,hz1,hc1,htk3,hrql]
   | true =>
     rw [hxb] at hex
     rw [if_pos rfl]
     match rest,hne with
     | x::r,_ =>
       have hsub:=Bv (hrb2 x (by simp)) hpB (Nat.le_of_ble_eq_true rfl)
       simp only [List.map_cons,ac9]
       simp only [List.map_cons] at *
       unfold pU
       have hl4:((x.2-oV b (p1,p2))::r.map Prod.snd).length=Nk:=by simp at hll ⊢; exact hll
       have hl5:=Fe ((x.2-oV b (p1,p2))::r.map Prod.snd)
       have htk5:(eP ((x.2-oV b (p1,p2))::r.map Prod.snd)).take Nk=eP ((x.2-oV b (p1,p2))::r.map Prod.snd):=List.take_of_length_le (by omega)
       rw [hl4] at hl5
       rw [hl4]
       have hc1:=fun n=>hrqc (r.map Prod.snd) n
       have hz1:=fun m=>Ob (r.map Prod.snd) 9 m
       have hcons:∀ q l,eP (q::l)=cO q::eP l:=fun q l=>rfl
       simp only [hcons] at *
       simp only [List.length_cons] at hl5 hrql
       generalize eP (r.map Prod.snd)=rq at *
       generalize x.2-oV b (p1,p2)=v2 at *
       generalize oV b (p1,p2)=pv at *
       generalize x.2=xv at *
       have hNkI:(0:Int)<(Nk:Int):=by omega
       have hNkl:Nk≤rq.length+1:=by omega
       unfold aT at *
       generalize aQ b=B at *
       have htk:B.take 9=B:=List.take_of_length_le (by omega)
       refine aN C9 rfl (CY ..) ?_
       simp [yY,hl,hbc,hbl,hbd,htk,hfl,hbn,hdr,hb3,htk2,hNNk,hloop,hex,hz1,hc1,htk5,hNkl,hsub,hpay,hklt,hkI,g1,g2,g3,g4,hNk,hNkI,kM]
end Go.Ev.Code
end
section
namespace Go.Ev.Code
open Go Go.Ev
def dJ:Nat→List Rat→Nat
 | a,[]=>a
 | a,r::t=>dJ (a*(r.den / Nat.gcd a r.den)) t
theorem aeN {K:Nat}:∀ {l:List Rat} {a j:Nat},NB j a→(∀ r∈l,RB K r)→NB (j+K*l.length) (dJ a l)
 | [],a,j,h,_=>by simpa [dJ] using h
 | r::t,a,j,h,hl=>by
   have h1:NB K (r.den / Nat.gcd a r.den):=(hl r (by simp)).2.le (Nat.div_le_self _ _)
   have := aeN (l:=t) (h.mul h1) (fun x hx=>hl x (by simp [hx]))
   simp only [dJ,List.length_cons]
   refine this.mono ?_
   rw [Nat.mul_add]; omega
theorem Q8:∀ {l:List Rat} {a:Nat},0<a→0<dJ a l
 | [],a,h=>h
 | r::t,a,h=>by
   have hg:0<Nat.gcd a r.den:=Nat.gcd_pos_of_pos_left _ h
   have hd:0<r.den:=r.den_pos
   have hle:Nat.gcd a r.den≤r.den:=Nat.le_of_dvd hd (Nat.gcd_dvd_right _ _)
   exact Q8 (l:=t) (Nat.mul_pos h (Nat.div_pos hle hg))
theorem afN:∀ {l:List Rat} {a:Nat},a ∣ dJ a l
 | [],a=>Nat.dvd_refl _
 | r::t,a=>Nat.dvd_trans (Nat.dvd_mul_right _ _) (afN (l:=t))
theorem ajc:∀ {l:List Rat} {a:Nat},∀ r∈l,r.den ∣ dJ a l
 | [],a,r,h=>by simp at h
 | x::t,a,r,h=>by
   rcases List.mem_cons.1 h with rfl | h
   ·refine Nat.dvd_trans ?_ (afN (l:=t))
    have h1:a*(r.den / Nat.gcd a r.den)=r.den*(a / Nat.gcd a r.den):=by
     rw [← Nat.mul_div_assoc _ (Nat.gcd_dvd_right _ _),← Nat.mul_div_assoc _ (Nat.gcd_dvd_left _ _),Nat.mul_comm]
    rw [h1]
    exact Nat.dvd_mul_right _ _
   ·exact ajc (l:=t) r h
theorem aoB {K:Nat} {all:List Rat} (hn:all.length≤100000):∀ (rest pfx:List Rat) (a j:Nat),all=pfx++rest→(∀ r∈rest,RB K r)→NB j a→0<a→j+K*rest.length+K≤900000 →
  L.loop [0,4,18,19,20] [0,4] pR 0 [pU all,intD (a:Int),pU all,.int .i64 all.length,.int .i64 pfx.length] []=some (.exit 0,[pU all,intD ((dJ a rest:Nat):Int)],[]):=by
 intro rest
 induction rest with
 | nil =>
   intro pfx a j hal _ _ _ _
   rw [List.append_nil] at hal
   subst hal
   unfold pU
   simp only [dJ]
   generalize eP all=rc at *
   generalize all.length=N at *
   generalize (a:Int)=az at *
   refine aO (OV ..) ?_
   simp [FY]
 | cons r t ih =>
   intro pfx a j hal hall ha h0 hK
   have hr:=hall r (by simp)
   have hjK:j+K*t.length+K+K≤900000:=by rw [List.length_cons,Nat.mul_add] at hK; omega
   have hjK2:j≤900000:=by omega
   have hK2:K≤900000:=by omega
   have hg0:Nat.gcd a r.den≠0:=by
    have := Nat.gcd_pos_of_pos_left r.den h0; omega
   have hgd:NB K (Nat.gcd a r.den):=hr.2.le (Nat.le_of_dvd r.den_pos (Nat.gcd_dvd_right _ _))
   have hq:NB K (r.den / Nat.gcd a r.den):=hr.2.le (Nat.div_le_self _ _)
   have h1:=JX (a:Int)
   have h2:=JX (r.den:Int)
   rw [show ((a:Int)).natAbs=a from by simp] at h1
   rw [show ((r.den:Int)).natAbs=r.den from by simp] at h2
   have h3:=Xf (ha.fit hjK2) (hr.2.fit hK2)
   have h4:=EX false (Nat.gcd a r.den)
   simp only [Bool.false_eq_true,if_false] at h4
   have h5:=Pv hr.2 hgd hK2 hK2 hg0
   have h6:=dM (IB.ofNat ha) (IB.ofNat hq) hjK2 hK2
   rw [← Int.natCast_mul] at h6
   have hden:=yU r
   have hpos2:0<a*(r.den / Nat.gcd a r.den):=Q8 (l:=[r]) h0
   have hn2:=ih (pfx++[r]) (a*(r.den / Nat.gcd a r.den)) (j+K) (by rw [hal]; simp) (fun x hx=>hall x (by simp [hx])) (ha.mul hq) hpos2 (by omega)
   rw [List.length_append,List.length_singleton,show ((pfx.length+1:Nat):Int)=(pfx.length:Int)+1 by omega] at hn2
   have hlt:pfx.length<all.length:=by rw [hal]; simp
   have hget:(eP all)[pfx.length]?=some (cO r):=aas (by rw [hal]; simp)
   have hrl:=Fe all
   have e1:IntKind.i64.wrap ((pfx.length:Int)+1)=(pfx.length:Int)+1:=wrap64 _ (by omega)
   simp only [dJ]
   unfold pU at *
   generalize (dJ (a*(r.den / Nat.gcd a r.den)) t)=res at *
   generalize ((a*(r.den / Nat.gcd a r.den):Nat):Int)=a2 at *
   generalize ((r.den / Nat.gcd a r.den:Nat):Int)=qz at *
   generalize ((r.den % Nat.gcd a r.den:Nat):Int)=rz at *
   generalize (r.den:Int)=dz at *
   generalize (a:Int)=az at *
   generalize (Nat.gcd a r.den)=gg at *
   generalize r.den=dd at *
   generalize (gg:Int)=gz at *
   generalize eP all=rc at *
   generalize all.length=N at *
   generalize pfx.length=P at *
   have hltI:(P:Int)<N:=by omega
   refine aO (OV ..) ?_
   simp [FY,hlt,hltI,hget,hden,h1,h2,h3,h4,h5,h6,e1,hn2]
def bn (A:Nat) (l:List Rat):List Int:=l.map fun r=>r.num*((A / r.den:Nat):Int)
def qj (l:List Int):List D:=l.map intD
theorem aeL (l:List Int) (b n:Nat):(qj l).all (D.clo b (n+1))=true:=by
 unfold qj
 induction l with
 | nil=>rfl
 | cons q r ih=>simp only [List.map_cons,List.all_cons,ih,Bool.and_true]; rfl
theorem aoW (l:List Int) (n:Nat) (m:Mem):jE (fz (n+1)) (qj l) m=some (qj l,m):=by
 unfold qj
 induction l with
 | nil=>rfl
 | cons q r ih=>simp [ih]
theorem al1 (l:List Int):(qj l).length=l.length:=by simp [qj]
theorem atn (l r:List Int):qj (l++r)=qj l++qj r:=by simp [qj]
theorem ato {l:List Int} {i:Nat} {z:Int} (h:l[i]?=some z):(qj l)[i]?=some (intD z):=by simp [qj,h]
theorem aoC {K A:Nat} {all:List Rat} (hn:all.length≤100000) {j:Nat} (hA:NB j A) (hj:j≤900000) (hK:K≤900000) (hall:∀ r∈all,RB K r):∀ (rest pfx:List Rat),all=pfx++rest→pfx≠[] →
  L.loop [4,11,43,44,45] [4,11] nH 0 [intD (A:Int),.bf 0 0 pfx.length 1,pU all,.int .i64 all.length,.int .i64 pfx.length] [.live (qj (bn A pfx))] =
    some (.exit 2,[intD (A:Int),.bf 0 0 all.length 1],[.live (qj (bn A all))]):=by
 intro rest
 induction rest with
 | nil =>
   intro pfx hal hne
   rw [List.append_nil] at hal
   subst hal
   unfold pU
   generalize eP all=rc at *
   have hic:=fun n=>aeL (bn A all) n 11
   generalize qj (bn A all)=ic at *
   generalize all.length=N at *
   generalize (A:Int)=az at *
   refine aO (FP ..) ?_
   simp [zM,hic]
 | cons r t ih =>
   intro pfx hal hne
   have hr:=hall r (by rw [hal]; simp)
   have hpos:0<pfx.length:=List.length_pos_iff.2 hne
   have h0:r.den≠0:=r.den_nz
   have h5:=Pv hA hr.2 hj hK h0
   have hq:NB j (A / r.den):=hA.le (Nat.div_le_self _ _)
   have h6:=dM hr.num (IB.ofNat hq) hK hj
   have hden:=yU r
   have hnum:=J9 r
   have hn2:=ih (pfx++[r]) (by rw [hal]; simp) (by simp)
   rw [show bn A (pfx++[r])=bn A pfx++[r.num*((A / r.den:Nat):Int)] by simp [bn],atn,List.length_append,List.length_singleton,show ((pfx.length+1:Nat):Int)=(pfx.length:Int)+1 by omega,show qj [r.num*((A / r.den:Nat):Int)]=[intD (r.num*((A / r.den:Nat):Int))] from rfl] at hn2
   have hlt:pfx.length<all.length:=by rw [hal]; simp
   have hget:(eP all)[pfx.length]?=some (cO r):=aas (by rw [hal]; simp)
   have hrl:=Fe all
   have hil:(qj (bn A pfx)).length=pfx.length:=by rw [al1]; simp [bn]
   have htk:(qj (bn A pfx)).take pfx.length=qj (bn A pfx):=List.take_of_length_le (by omega)
   have hlen:pfx.length+1≤4294967296:=by omega
   have e1:IntKind.i64.wrap ((pfx.length:Int)+1)=(pfx.length:Int)+1:=wrap64 _ (by omega)
   unfold pU at *
   generalize r.num*((A / r.den:Nat):Int)=v at *
   generalize ((A / r.den:Nat):Int)=qz at *
   generalize ((A % r.den:Nat):Int)=rz at *
   generalize (r.den:Int)=dz at *
   generalize (A:Int)=az at *
   have hpc:=fun n=>aeL (bn A pfx) n 11
   generalize qj (bn A pfx)=ip at *
   generalize qj (bn A all)=ia at *
   generalize eP all=rc at *
   generalize all.length=N at *
   generalize pfx.length=P at *
   have hltI:(P:Int)<N:=by omega
   refine aO (FP ..) ?_
   simp [zM,hlt,hltI,hget,hden,hnum,h5,h6,e1,hn2,hil,hpc,htk,hlen,aay,kM]
theorem as5 {K A:Nat} {all:List Rat} (hn:all.length≤100000) {j:Nat} (hA:NB j A) (hj:j≤900000) (hK:K≤900000) (hall:∀ r∈all,RB K r) (hne:all≠[]) :
  L.loop [4,11,43,44,45] [4,11] nH 0 [intD (A:Int),.cu,pU all,.int .i64 all.length,.int .i64 0] [] =
    some (.exit 2,[intD (A:Int),.bf 0 0 all.length 1],[.live (qj (bn A all))]):=by
 match all,hne with
 | r::t,_ =>
   have hr:=hall r (by simp)
   have h0:r.den≠0:=r.den_nz
   have h5:=Pv hA hr.2 hj hK h0
   have hq:NB j (A / r.den):=hA.le (Nat.div_le_self _ _)
   have h6:=dM hr.num (IB.ofNat hq) hK hj
   have hden:=yU r
   have hnum:=J9 r
   have hn2:=aoC hn hA hj hK hall t [r] rfl (by simp)
   rw [show qj (bn A [r])=[intD (r.num*((A / r.den:Nat):Int))] from rfl,List.length_singleton] at hn2
   have hlt:0<(r::t).length:=by simp
   have hget:(eP (r::t))[0]?=some (cO r):=rfl
   have hrl:=Fe (r::t)
   have e1:IntKind.i64.wrap (1:Int)=1:=wrap64 _ (by omega)
   unfold pU at *
   generalize r.num*((A / r.den:Nat):Int)=v at *
   generalize ((A / r.den:Nat):Int)=qz at *
   generalize ((A % r.den:Nat):Int)=rz at *
   generalize hdz:(r.den:Int)=dz at *
   generalize (A:Int)=az at *
   generalize qj (bn A (r::t))=ia at *
   generalize eP (r::t)=rc at *
   generalize (r::t).length=N at *
   have hltI:(0:Int)<N:=by omega
   refine aO (FP ..) ?_
   simp at hn2
   simp [zM,hlt,hltI,hget,hden,hnum,h5,h6,e1,hn2,aay,kM]
theorem adt {K:Nat} {l:List Rat} (hne:l≠[]) (hn:l.length≤100000) (hall:∀ r∈l,RB K r) (hK:1+K*l.length+K≤900000) :
  L.call xk [pU l]=some (.aZ [.sl l.length (qj (bn (dJ 1 l) l)),intD ((dJ 1 l:Nat):Int)]):=by
 have h1:NB 1 1:=by unfold NB; decide
 have hl1:=aoB hn l [] 1 1 rfl hall h1 (by omega) hK
 have hA:=aeN h1 hall
 have hl2:=as5 hn hA (by omega) (by omega) hall hne
 have hof:=ng 1 (by omega)
 simp only [List.length_nil] at hl1
 rw [show ((1:Nat):Int)=1 from rfl] at hl1
 have hil:(qj (bn (dJ 1 l) l)).length=l.length:=by rw [al1]; simp [bn]
 have htk:(qj (bn (dJ 1 l) l)).take l.length=qj (bn (dJ 1 l) l):=List.take_of_length_le (by omega)
 have hfz:=fun m=>aoW (bn (dJ 1 l) l) 9 m
 have hfz2:=fun m=>aoW (bn (dJ 1 l) l) 10 m
 have hic:=fun n=>aeL (bn (dJ 1 l) l) n 11
 unfold pU at *
 generalize qj (bn (dJ 1 l) l)=ic at *
 generalize ((dJ 1 l:Nat):Int)=az at *
 generalize eP l=rc at *
 generalize l.length=N at *
 generalize hone:intD 1=one at *
 refine aN aem rfl (ad_ ..) ?_
 subst hone
 simp at hl1 hl2
 simp [V9,hof,hl1,hl2,hfz,hfz2,htk,hil,hic]
end Go.Ev.Code
end
section
namespace Go.Ev.Code
open Go Go.Ev
def hs (n d:Int):List Int→Int×Int
 | []=>(0,1)
 | a::t=>((hs n d t).1*d+a*(hs n d t).2,(hs n d t).2*n)
theorem Uk {n d:Int} {q k:Nat} (hn:IB q n) (hd:IB q d):∀ {l:List Int},(∀ a∈l,IB k a)→IB (k+(q+2)*l.length+2) (hs n d l).1∧IB (q*l.length+1) (hs n d l).2
 | [],_=>⟨by unfold IB NB hs; simp; exact Nat.two_pow_pos _,by unfold IB NB hs; simp⟩
 | a::t,h=>by
   have ih:=Uk (k:=k) hn hd (l:=t) (fun x hx=>h x (by simp [hx]))
   have ha:=h a (by simp)
   have e:(q+2)*(t.length+1)=(q+2)*t.length+q+2:=by rw [Nat.mul_add]; omega
   have e2:q*(t.length+1)=q*t.length+q:=by rw [Nat.mul_add]; omega
   have e3:q*t.length≤(q+2)*t.length:=Nat.mul_le_mul_right _ (by omega)
   simp only [hs,List.length_cons]
   refine ⟨((ih.1.mul hd).add (ha.mul ih.2)).mono ?_,(ih.2.mul hn).mono (by omega)⟩
   rw [e]
   generalize (q+2)*t.length=X at *
   generalize q*t.length=Y at *
   omega
theorem atI {n d:Int} {q k:Nat} (hn:IB q n) (hd:IB q d) {as:List Int} (hall:∀ a∈as,IB k a) (hK:k+(q+2)*as.length+2+q≤900000) (hlen:as.length≤100000) (Z:D) (hZ:∃ z,Z=intD z):∀ (c:Nat),c<as.length →
  L.loop [1,2,8,9,10,11,12] [9,10,11] iY 0 [intD n,intD d,.sl as.length (qj as),Z,intD (hs n d (as.drop (c+1))).1,intD (hs n d (as.drop (c+1))).2,.int .i64 c] [] =
    some (.exit 0,[Z,intD (hs n d as).1,intD (hs n d as.tail).2],[]):=by
 obtain ⟨z,rfl⟩:=hZ
 have hstop:∀ s p:Int,L.loop [1,2,8,9,10,11,12] [9,10,11] iY 0 [intD n,intD d,.sl as.length (qj as),intD z,intD s,intD p,.int .i64 (-1)] []=some (.exit 0,[intD z,intD s,intD p],[]):=by
  intro s p
  generalize qj as=ic at *
  generalize as.length=N at *
  refine aO (FQ ..) ?_
  simp [zN]
 have hb:∀ t:List Int,(∀ a∈t,IB k a)→t.length≤as.length→IB (k+(q+2)*as.length+2) (hs n d t).1∧IB (q*as.length+1) (hs n d t).2:=by
  intro t ht hl
  have := Uk (k:=k) hn hd (l:=t) ht
  have e1:(q+2)*t.length≤(q+2)*as.length:=Nat.mul_le_mul_left _ hl
  have e2:q*t.length≤q*as.length:=Nat.mul_le_mul_left _ hl
  exact ⟨this.1.mono (by omega),this.2.mono (by omega)⟩
 have e3:q*as.length≤(q+2)*as.length:=Nat.mul_le_mul_right _ (by omega)
 have hstep:∀ (c:Nat) (a:Int),c<as.length→as[c]?=some a→∀ r,
   (if 0<c then L.loop [1,2,8,9,10,11,12] [9,10,11] iY 0 [intD n,intD d,.sl as.length (qj as),intD z,intD ((hs n d (as.drop (c+1))).1*d+a*(hs n d (as.drop (c+1))).2),intD ((hs n d (as.drop (c+1))).2*n),.int .i64 ((c:Int)-1)] []
    else L.loop [1,2,8,9,10,11,12] [9,10,11] iY 0 [intD n,intD d,.sl as.length (qj as),intD z,intD ((hs n d (as.drop (c+1))).1*d+a*(hs n d (as.drop (c+1))).2),intD (hs n d (as.drop (c+1))).2,.int .i64 (-1)] [])=some r →
   L.loop [1,2,8,9,10,11,12] [9,10,11] iY 0 [intD n,intD d,.sl as.length (qj as),intD z,intD (hs n d (as.drop (c+1))).1,intD (hs n d (as.drop (c+1))).2,.int .i64 c] []=some r:=by
  intro c a hc hget r hr
  have hmem:a∈as:=List.mem_of_getElem? hget
  have hbd:=hb (as.drop (c+1)) (fun x hx=>hall x (List.mem_of_mem_drop hx)) (by rw [List.length_drop]; omega)
  have ha:=hall a hmem
  have m1:=dM hbd.1 hd (by omega) (by omega)
  have m2:=dM ha hbd.2 (by omega) (by omega)
  have m3:=rV (hbd.1.mul hd) (ha.mul hbd.2) (by omega) (by omega)
  have m4:=dM hbd.2 hn (by omega) (by omega)
  have hg:=ato hget
  have e1:IntKind.i64.wrap ((c:Int)-1)=(c:Int)-1:=wrap64 _ (by omega)
  generalize (hs n d (as.drop (c+1))).1*d+a*(hs n d (as.drop (c+1))).2=s2 at *
  generalize (hs n d (as.drop (c+1))).1*d=s1 at *
  generalize a*(hs n d (as.drop (c+1))).2=s3 at *
  generalize (hs n d (as.drop (c+1))).2*n=p2 at *
  generalize (hs n d (as.drop (c+1))).2=p0 at *
  generalize (hs n d (as.drop (c+1))).1=s0 at *
  generalize qj as=ic at *
  generalize as.length=N at *
  have hcI:(c:Int)<N:=by omega
  by_cases h0:0<c
  ·rw [if_pos h0] at hr
   have h0I:(0:Int)<c:=by omega
   refine aO (FQ ..) ?_
   simp [zN,hc,hcI,hg,m1,m2,m3,m4,h0,h0I,e1,hr]
  ·rw [if_neg h0] at hr
   obtain rfl:c=0:=by omega
   have e2:IntKind.i64.wrap (-1) = -1:=wrap64 _ (by omega)
   refine aO (FQ ..) ?_
   simp [zN,hc,hcI,hg,m1,m2,m3,m4,e2,hr]
 intro c
 induction c with
 | zero =>
   intro hc
   have hget:=List.getElem?_eq_getElem (l:=as) (i:=0) hc
   refine hstep 0 _ hc hget _ ?_
   rw [if_neg (by omega),hstop]
   match as,hc with
   | a::t,_=>rfl
 | succ c ih =>
   intro hc
   have hget:=List.getElem?_eq_getElem (l:=as) (i:=c+1) hc
   refine hstep (c+1) _ hc hget _ ?_
   rw [if_pos (by omega)]
   have hi:=ih (by omega)
   have hd2:as.drop (c+1)=as[c+1]::as.drop (c+1+1):=List.drop_eq_getElem_cons hc
   rw [hd2] at hi
   simp only [hs] at hi
   rw [show ((c+1:Nat):Int)-1=(c:Int) by omega]
   exact hi
theorem Xg {A:Nat} {j K:Nat} (hA:NB j A) {l:List Rat} (hall:∀ r∈l,RB K r):∀ a∈bn A l,IB (K+j) a:=by
 intro a ha
 unfold bn at ha
 obtain ⟨r,hr,rfl⟩:=List.mem_map.1 ha
 exact (hall r hr).num.mul (IB.ofNat (hA.le (Nat.div_le_self _ _)))
theorem adu {K q:Nat} {l:List Rat} (hne:l≠[]) (hn:l.length≤100000) (hall:∀ r∈l,RB K r) {n d:Int} (hn2:IB q n) (hd:IB q d) (hK:K+(1+K*l.length)+(q+2)*l.length+2+q≤900000) :
  L.call xq [pU l,intD n,intD d]=some (.aZ [intD (hs n d (bn (dJ 1 l) l)).1,intD (((dJ 1 l:Nat):Int)*(hs n d (bn (dJ 1 l) l).tail).2)]):=by
 have h1:NB 1 1:=by unfold NB; decide
 have hA:=aeN h1 hall
 have hcom:=adt hne hn hall (by omega)
 have hlen:(bn (dJ 1 l) l).length=l.length:=by simp [bn]
 have hab:=Xg hA hall
 have hpos:0<l.length:=List.length_pos_iff.2 hne
 obtain ⟨c,hc⟩:∃ c,l.length=c+1:=⟨l.length-1,by omega⟩
 have hloop:=atI hn2 hd hab (by rw [hlen]; exact hK) (by omega) (intD ((dJ 1 l:Nat):Int)) ⟨_,rfl⟩ c (by omega)
 have hdr:(bn (dJ 1 l) l).drop (c+1)=[]:=List.drop_eq_nil_of_le (by omega)
 rw [hdr] at hloop
 simp only [hs] at hloop
 have htb:=(Uk hn2 hd (l:=(bn (dJ 1 l) l).tail) (fun a ha=>hab a (List.mem_of_mem_tail ha))).2
 have htl:(bn (dJ 1 l) l).tail.length≤l.length:=by rw [List.length_tail,hlen]; omega
 have e2:q*(bn (dJ 1 l) l).tail.length≤(q+2)*l.length:=Nat.mul_le_mul (by omega) htl
 have hm:=dM (IB.ofNat hA) htb (by omega) (by omega)
 have o0:=ng 0 (by omega)
 have o1:=ng 1 (by omega)
 rw [hlen] at hloop
 have e1:IntKind.i64.wrap ((l.length:Int)-1)=(c:Int):=by rw [wrap64 _ (by omega)]; omega
 generalize hs n d (bn (dJ 1 l) l)=r at *
 generalize ((dJ 1 l:Nat):Int)*(hs n d (bn (dJ 1 l) l).tail).2=v at *
 generalize (hs n d (bn (dJ 1 l) l).tail).2=p at *
 generalize qj (bn (dJ 1 l) l)=ic at *
 generalize ((dJ 1 l:Nat):Int)=az at *
 unfold pU at *
 generalize eP l=rc at *
 generalize l.length=N at *
 generalize hz0:intD 0=zero at *
 generalize hz1:intD 1=one at *
 subst hz0 hz1
 refine aN aen rfl (aea ..) ?_
 simp [V_,hcom,o0,o1,e1,hloop,hm]
end Go.Ev.Code
end
section
namespace Go.Ev.Code
open Go Go.Ev
def qw (x:Rat):List Rat→Rat
 | []=>0
 | r::t=>r+x*qw x t
theorem aoT {n d:Int} (hn:n≠0):∀ l:List Int,(hs n d l).2≠0
 | []=>by simp [hs]
 | a::t=>by simp only [hs]; exact Int.mul_ne_zero (aoT hn t) hn
theorem ajw (r:Rat):(r.num:Rat)=r*(r.den:Rat):=by
 have hd:((r.den:Nat):Rat)≠0:=by
  intro h
  rw [← Rat.intCast_natCast] at h
  have := Rat.intCast_eq_zero_iff.1 h
  have := r.den_nz
  omega
 have h:r=(r.num:Rat) / (r.den:Rat):=by
  rw [← Rat.intCast_natCast,← Rat.divInt_eq_div]
  exact (Rat.num_divInt_den r).symm
 generalize (r.num:Rat)=n at *
 generalize (r.den:Rat)=d at *
 rw [h]
 exact (Rat.div_mul_cancel hd).symm
theorem ati {A P H E Z:Rat} (hA:A≠0) (hP:P≠0) (hE:E≠0) (hZ:Z≠0):A*P*H*E / (A*P*(E*Z))=H / Z:=by grind
theorem alj {A:Nat} {r:Rat} (h:r.den ∣ A):((r.num*((A / r.den:Nat):Int):Int):Rat)=r*(A:Rat):=by
 obtain ⟨k,rfl⟩:=h
 have hd:r.den≠0:=r.den_nz
 rw [Nat.mul_div_cancel_left _ (by omega)]
 have h1:=ajw r
 rw [Rat.intCast_mul,h1,Rat.natCast_mul,Rat.intCast_natCast]
 grind
theorem aoU {n d:Int} {A:Nat} {x:Rat} (hx:x*(n:Rat)=(d:Rat)):∀ (l:List Rat),(∀ r∈l,r.den ∣ A)→(((hs n d (bn A l)).1:Int):Rat)*(n:Rat)=(A:Rat)*qw x l*(((hs n d (bn A l)).2:Int):Rat)
 | [],_=>by simp only [bn,List.map_nil,hs,qw]; show ((0:Int):Rat)*_=_; rw [Rat.intCast_zero]; grind
 | r::t,h=>by
   have ih:=aoU hx t (fun q hq=>h q (by simp [hq]))
   have hr:=alj (h r (by simp))
   unfold bn at ih ⊢
   simp only [List.map_cons,hs,qw] at ih ⊢
   rw [Rat.intCast_mul] at hr
   rw [Rat.intCast_add,Rat.intCast_mul,Rat.intCast_mul,Rat.intCast_mul,Rat.intCast_mul,hr]
   generalize ((hs n d (List.map (fun r=>r.num*((A / r.den:Nat):Int)) t)).1:Rat)=s at *
   generalize ((hs n d (List.map (fun r=>r.num*((A / r.den:Nat):Int)) t)).2:Rat)=p at *
   generalize qw x t=H at *
   generalize (n:Rat)=N at *
   generalize (d:Rat)=E at *
   generalize (A:Rat)=B at *
   subst hx
   grind
theorem auc {n d:Int} {A:Nat} {x:Rat} (hn:n≠0) (hx:x*(n:Rat)=(d:Rat)) {l:List Rat} (hne:l≠[]) (h:∀ r∈l,r.den ∣ A) :
  (((hs n d (bn A l)).1:Int):Rat)=(A:Rat)*(((hs n d (bn A l).tail).2:Int):Rat)*qw x l:=by
 have h1:=aoU hx l h
 have hn0:(n:Rat)≠0:=fun h=>hn (Rat.intCast_eq_zero_iff.1 h)
 match l,hne with
 | r::t,_ =>
   have e:((hs n d (bn A (r::t))).2:Int)=(hs n d (bn A (r::t)).tail).2*n:=rfl
   rw [e,Rat.intCast_mul] at h1
   generalize ((hs n d (bn A (r::t))).1:Rat)=s at *
   generalize ((hs n d (bn A (r::t)).tail).2:Rat)=p at *
   generalize qw x (r::t)=H at *
   have : (s-(A:Rat)*p*H)*(n:Rat)=0:=by grind
   rcases Rat.mul_eq_zero.1 this with h2 | h2
   ·grind
   ·exact absurd h2 hn0
def bC (b:aH):Int:=100000000*b.dA
def nP (b:aH) (s y:Int):Int:=((dN b s).den:Int)*bC b+(dN b s).num*y
def uX (b:aH) (y:Int):Rat:=(bC b:Rat) / ((bC b+y:Int):Rat)
def jW (b:aH) (s y:Int):Rat:=qw (uX b y) (bZ b s) / (1+dN b s*((y:Rat) / (bC b:Rat)))
def mO (b:aH) (s y:Int):Except Er Rat:=match (leftB b s).1 with
 | some e => .error (some e)
 | none=>if y < -2000000∨100000000<y then .error (some (2,none)) else if fB b s=0∨nP b s y≤0 then .error (some (3,none)) else .ok (jW b s y)
def zx:Except Er Rat→D
 | .ok q => .aZ [cO q,.aG]
 | .error e => .aZ [.aV,jf e]
theorem aev {b:aH} {s:Int} (h:(leftB b s).1=none):(∀ r∈bZ b s,RB 2200 r)∧(bZ b s).length≤200∧bZ b s≠[]:=by
 obtain ⟨f0,h2,h3,h4⟩:=jh h
 obtain ⟨d1,d2,d3,d4,d5,d6⟩:=zu h
 obtain ⟨k,k1,k2,k3,k4⟩:=Ce h2 h3 h4
 have hplen:=(fO h2).2.len
 have hklt:k<(aS b).2.length:=(List.getElem?_eq_some_iff.1 k2).1
 have hflen:=Ui f0
 have hrb:=abz f0
 have hpB:=PY f0 d6
 obtain ⟨a,ha⟩:∃ a:Nat,a=600:=⟨_,rfl⟩
 obtain ⟨c,hc⟩:∃ c:Nat,c=1500:=⟨_,rfl⟩
 obtain ⟨e,he⟩:∃ e:Nat,e=2200:=⟨_,rfl⟩
 rw [← ha] at hpB
 rw [← hc] at hrb
 rw [← he]
 unfold bZ
 rw [k1,Int.toNat_natCast]
 have hl:(((bH b).2.drop k).map Prod.snd).length=(aS b).2.length-k:=by rw [List.length_map,List.length_drop,hflen]
 have hall:∀ r∈((bH b).2.drop k).map Prod.snd,RB c r:=by
  intro r hr
  obtain ⟨p,hp,rfl⟩:=List.mem_map.1 hr
  exact hrb p (List.mem_of_mem_drop hp)
 generalize ((bH b).2.drop k).map Prod.snd=l at *
 match l,hl,hall with
 | [],hl,_=>simp at hl; omega
 | x::t,hl,hall =>
   split
   ·simp only [ac9]
    refine ⟨fun r hr=>?_,?_,by simp⟩
    ·rcases List.mem_cons.1 hr with rfl | hr
     ·exact ((hall x (by simp)).sub hpB).mono (by omega)
     ·exact (hall r (by simp [hr])).mono (by omega)
    ·simp at hl ⊢; omega
   ·exact ⟨fun r hr=>(hall r hr).mono (by omega),by omega,by simp⟩
theorem ajd:∀ {l:List Rat} {a M:Nat},a ∣ M→(∀ r∈l,r.den ∣ M)→dJ a l ∣ M
 | [],a,M,h,_=>h
 | r::t,a,M,h,hl=>by
   refine ajd (l:=t) ?_ (fun q hq=>hl q (by simp [hq]))
   have : a*(r.den / Nat.gcd a r.den)=Nat.lcm a r.den:=by
    unfold Nat.lcm
    exact (Nat.mul_div_assoc _ (Nat.gcd_dvd_right _ _)).symm
   rw [this]
   exact Nat.lcm_dvd h (hl r (by simp))
theorem aeB {n d:Int} (h:d≠0):(Rat.divInt n d).den ∣ d.natAbs:=by
 rw [Rat.den_divInt,if_neg h]
 exact Nat.div_dvd_of_dvd (Nat.gcd_dvd_left _ _)
theorem akU (a c:Rat):(a+c).den ∣ a.den*c.den:=by
 rw [add_eq a c]
 have := aeB (n:=a.num*c.den+c.num*a.den) (Zp (a:=a) (b:=c))
 rw [Int.natAbs_mul] at this
 simpa using this
theorem af6 (each red:Rat):∀ (l:List (Int×Int)),∀ x∈ig each red l,x.2.den ∣ each.den*red.den
 | [],x,h=>by simp [ig] at h
 | [p],x,h=>by simp [ig] at h; subst h; exact akU each red
 | p::q::r,x,h=>by
   simp only [ig,List.mem_cons] at h
   rcases h with rfl | h
   ·exact Nat.dvd_mul_right _ _
   ·exact af6 each red (q::r) x (by simpa [ig] using h)
theorem aqS {b:aH} (h:(bH b).1=none):∀ x∈(bH b).2.tail,x.2.den ∣ (fF b).den*(fZ b).den:=by
 obtain ⟨h0,p,r,q,hps,hq,hfl⟩:=jD h
 rw [hfl]
 match r with
 | []=>intro x hx; simp [mD] at hx
 | y::r =>
   intro x hx
   simp only [mD,List.tail_cons] at hx
   exact af6 _ _ _ x hx
theorem al3 {b:aH} {s:Int} (h:(leftB b s).1=none):NB 3100 (dJ 1 (bZ b s)):=by
 obtain ⟨f0,h2,h3,h4⟩:=jh h
 obtain ⟨k,k1,k2,k3,k4⟩:=Ce h2 h3 h4
 obtain ⟨hall,hlen,hne⟩:=aev h
 have hf:=eG (dH (gZ h2)).2.1
 have htail:∀ r∈(bZ b s).tail,r.den ∣ (fF b).den*(fZ b).den:=by
  have hd:∀ r∈(((bH b).2.drop k).map Prod.snd).tail,r.den ∣ (fF b).den*(fZ b).den:=by
   intro r hr
   rw [← List.map_tail,List.tail_drop] at hr
   obtain ⟨x,hx,rfl⟩:=List.mem_map.1 hr
   refine aqS f0 x ?_
   rw [← List.drop_tail] at hx
   exact List.mem_of_mem_drop hx
  unfold bZ
  rw [k1,Int.toNat_natCast]
  generalize ((bH b).2.drop k).map Prod.snd=l at *
  split
  ·match l with
   | []=>exact hd
   | x::t=>exact hd
  ·exact hd
 have hrp:=UA hf
 have hrd:=Rt b
 obtain ⟨c1,hc1⟩:∃ c:Nat,c=464:=⟨_,rfl⟩
 obtain ⟨c2,hc2⟩:∃ c:Nat,c=400:=⟨_,rfl⟩
 rw [← hc1] at hrp
 rw [← hc2] at hrd
 have hE:NB (c1+c2) ((fF b).den*(fZ b).den):=hrp.2.mul hrd.2
 have hE0:0<(fF b).den*(fZ b).den:=Nat.mul_pos (fF b).den_pos (fZ b).den_pos
 obtain ⟨K,hK⟩:∃ K:Nat,K=2200:=⟨_,rfl⟩
 obtain ⟨J,hJ⟩:∃ J:Nat,J=3100:=⟨_,rfl⟩
 rw [← hK] at hall
 rw [← hJ]
 generalize (fF b).den*(fZ b).den=E at *
 match bZ b s,hne,hall,htail with
 | x::t,_,hall,htail =>
   have hx:=(hall x (by simp)).2
   have hm:dJ 1 (x::t) ∣ x.den*E:=ajd (Nat.one_dvd _) (fun r hr=>by
    rcases List.mem_cons.1 hr with rfl | hr
    ·exact Nat.dvd_mul_right _ _
    ·exact Nat.dvd_trans (htail r hr) (Nat.dvd_mul_left _ _))
   have hp:0<x.den*E:=Nat.mul_pos x.den_pos hE0
   exact ((hx.mul hE).le (Nat.le_of_dvd hp hm)).mono (by omega)
theorem Ja {b:aH} (hf:tY b.dA) {y:Int} (h1 : -2000000≤y) (h2:y≤100000000):IB 40 (bC b)∧IB 40 (bC b+y)∧IB 40 y∧0<bC b∧0<bC b+y:=by
 have hb:100000000≤bC b∧bC b≤1200000000:=by
  unfold bC
  rcases hf with h | h | h | h <;> rw [h] <;> decide
 refine ⟨?_,?_,?_,by omega,by omega⟩ <;> (unfold IB NB; have : (2:Nat)^40=1099511627776:=by decide) <;> omega
theorem wJ {b:aH} (hc:b.dX.length≤1000000) (hr:b.dV.length≤1000000) (s:Int) {y:Int} (hy : -9223372036854775808≤y∧y≤9223372036854775807) :
  L.call iC [aT b,.int .i64 s,.int .i64 y]=some (zx (mO b s y))∧(∀ q,mO b s y = .ok q→RB 15000 q):=by
 have hl:=ab7 hc hr s
 have hwt:=XU hc hr s
 unfold aqc at hl
 unfold mO
 cases he:(leftB b s).1 with
 | some e =>
   refine ⟨?_,fun q h=>by simp at h⟩
   rw [he] at hl
   simp only [zx]
   obtain ⟨i,m,fq,c,rd,n,st,en,ex⟩:=b
   unfold aT aQ at *
   simp only at *
   rcases e with ⟨c,_ | t⟩
   ·simp only [jf] at *
    refine aN yh rfl (yc ..) ?_
    simp [qp,hl]
   ·simp only [jf,gu] at *
    refine aN yh rfl (yc ..) ?_
    simp [qp,hl]
 | none =>
   rw [he] at hl
   simp only
   by_cases hr1:y < -2000000∨100000000<y
   ·rw [if_pos hr1]
    refine ⟨?_,fun q h=>by simp at h⟩
    simp only [zx,jf]
    unfold pU at hl
    generalize eP (bZ b s)=rc at *
    generalize (bZ b s).length=N at *
    obtain ⟨i,m,fq,c,rd,n,st,en,ex⟩:=b
    unfold aT aQ at *
    simp only at *
    refine aN yh rfl (yc ..) ?_
    by_cases h1:y < -2000000
    ·simp [qp,hl,h1,bT]
    ·have h2:100000000<y:=by omega
     simp [qp,hl,h1,h2,bT]
   rw [if_neg hr1]
   have hy1:¬ y < -2000000:=by omega
   have hy2:¬ 100000000<y:=by omega
   unfold ah0 at hwt
   rw [he] at hwt
   simp only at hwt
   by_cases h0:fB b s=0
   ·rw [if_pos h0] at hwt
    rw [if_pos (.inl h0)]
    refine ⟨?_,fun q h=>by simp at h⟩
    simp only [zx,jf]
    unfold pU at hl
    generalize eP (bZ b s)=rc at *
    generalize (bZ b s).length=N at *
    obtain ⟨i,m,fq,c,rd,n,st,en,ex⟩:=b
    unfold aT aQ at *
    simp only at *
    refine aN yh rfl (yc ..) ?_
    simp [qp,hl,hy1,hy2,hwt]
   rw [if_neg h0] at hwt
   have hf:=eG (dH (gZ (jh he).2.1)).2.1
   obtain ⟨gB,nB,yB,g0,n0⟩:=Ja hf (y:=y) (by omega) (by omega)
   have hwB:=aj' he h0
   obtain ⟨hall,hlen,hne⟩:=aev he
   obtain ⟨W,hW⟩:∃ W:Nat,W=700:=⟨_,rfl⟩
   obtain ⟨K,hK⟩:∃ K:Nat,K=2200:=⟨_,rfl⟩
   rw [← hW] at hwB
   rw [← hK] at hall
   have hKl:K*(bZ b s).length≤440000:=by rw [hK]; omega
   have hsum:=adu hne (by omega) hall nB gB (by omega)
   have hgz:100000000*b.dA=bC b:=rfl
   have o1:=ng 100000000 (by omega)
   have o2:=ng b.dA (by rcases hf with h | h | h | h <;> omega)
   have o3:=ng y hy
   have m1:=dM (a:=100000000) (b:=b.dA) (gG (by omega)) (gG (by rcases hf with h | h | h | h <;> omega)) (by omega) (by omega)
   rw [hgz] at m1
   have m2:=rV gB yB (by omega) (by omega)
   have m3:=dM hwB.den gB (by omega) (by omega)
   have m4:=dM hwB.num yB (by omega) (by omega)
   have m5:=rV (hwB.den.mul gB) (hwB.num.mul yB) (by omega) (by omega)
   have haz:((dN b s).den:Int)*bC b+(dN b s).num*y=nP b s y:=rfl
   have aB:=(hwB.den.mul gB).add (hwB.num.mul yB)
   rw [haz] at m5 aB
   have h1n:NB 1 1:=by unfold NB; decide
   have hA:=al3 he
   obtain ⟨J,hJ⟩:∃ J:Nat,J=3100:=⟨_,rfl⟩
   rw [← hJ] at hA
   have hab:=Xg hA hall
   have hnl:(bn (dJ 1 (bZ b s)) (bZ b s)).length=(bZ b s).length:=by simp [bn]
   have sB:=(Uk nB gB hab).1
   have pB:=(Uk nB gB (l:=(bn (dJ 1 (bZ b s)) (bZ b s)).tail) (fun a ha=>hab a (List.mem_of_mem_tail ha))).2
   have htl:(bn (dJ 1 (bZ b s)) (bZ b s)).tail.length≤200:=by rw [List.length_tail,hnl]; omega
   have bB:=(IB.ofNat hA).mul pB
   rw [hnl] at sB
   have m6:=dM sB (hwB.den.mul gB) (by omega) (by omega)
   have m7:=dM bB aB (by omega) (by omega)
   have hden:=yU (dN b s)
   have hnum:=J9 (dN b s)
   have hsg:=NC (nP b s y)
   by_cases ha:nP b s y≤0
   ·rw [if_pos (.inr ha)]
    refine ⟨?_,fun q h=>by simp at h⟩
    simp only [zx,jf]
    have hsl:(nP b s y).sign≤0:=by
     rcases Int.lt_trichotomy (nP b s y) 0 with h | h | h
     ·rw [Int.sign_eq_neg_one_of_neg h]; omega
     ·rw [h]; decide
     ·omega
    generalize (nP b s y).sign=sg at *
    generalize nP b s y=az at *
    generalize (dN b s).num*y=wy at *
    generalize ((dN b s).den:Int)*bC b=wd at *
    generalize bC b+y=ny at *
    generalize bC b=gz at *
    generalize hs ny gz (bn (dJ 1 (bZ b s)) (bZ b s))=r1 at *
    generalize hs ny gz (bn (dJ 1 (bZ b s)) (bZ b s)).tail=r2 at *
    generalize ((dJ 1 (bZ b s):Nat):Int)*r2.2=by1 at *
    generalize (dN b s)=w at *
    unfold pU at *
    generalize eP (bZ b s)=rc at *
    generalize (bZ b s).length=N at *
    obtain ⟨i,m,fq,c,rd,n,st,en,ex⟩:=b
    unfold aT aQ at *
    simp only at *
    refine aN yh rfl (yc ..) ?_
    simp [qp,hl,hy1,hy2,hwt,o1,o2,o3,m1,m2,hsum,hden,hnum,m3,m4,m5,hsg,hsl,bT]
   ·rw [if_neg (by intro h; rcases h with h | h; exact h0 h; exact ha h)]
    have hA0:=Q8 (l:=bZ b s) (a:=1) (by omega)
    have hp0:=aoT (n:=bC b+y) (d:=bC b) (by omega) (bn (dJ 1 (bZ b s)) (bZ b s)).tail
    have hby:((dJ 1 (bZ b s):Nat):Int)*(hs (bC b+y) (bC b) (bn (dJ 1 (bZ b s)) (bZ b s)).tail).2≠0:=Int.mul_ne_zero (by omega) hp0
    have hnz:=Int.mul_ne_zero hby (show nP b s y≠0 by omega)
    have hnew:=vG (sB.mul (hwB.den.mul gB)) (bB.mul aB) (by omega) (by omega) hnz
    have hRB:RB 15000 (Rat.divInt ((hs (bC b+y) (bC b) (bn (dJ 1 (bZ b s)) (bZ b s))).1*(((dN b s).den:Int)*bC b)) (((dJ 1 (bZ b s):Nat):Int)*(hs (bC b+y) (bC b) (bn (dJ 1 (bZ b s)) (bZ b s)).tail).2*nP b s y)) :=
     jX ((sB.mul (hwB.den.mul gB)).mono (by omega)) ((bB.mul aB).mono (by omega)) hnz
    have hval:Rat.divInt ((hs (bC b+y) (bC b) (bn (dJ 1 (bZ b s)) (bZ b s))).1*(((dN b s).den:Int)*bC b)) (((dJ 1 (bZ b s):Nat):Int)*(hs (bC b+y) (bC b) (bn (dJ 1 (bZ b s)) (bZ b s)).tail).2*nP b s y)=jW b s y:=by
     have hx:uX b y*((bC b+y:Int):Rat)=(bC b:Rat):=by
      have : ((bC b+y:Int):Rat)≠0:=fun h=>by have := Rat.intCast_eq_zero_iff.1 h; omega
      unfold uX
      exact Rat.div_mul_cancel this
     have hsv:=auc (n:=bC b+y) (d:=bC b) (A:=dJ 1 (bZ b s)) (by omega) hx hne (fun r hr=>ajc r hr)
     rw [← Rat.intCast_natCast (dJ 1 (bZ b s))] at hsv
     have hq1:((((dJ 1 (bZ b s):Nat):Int):Rat))≠0:=fun h=>by have := Rat.intCast_eq_zero_iff.1 h; omega
     have hq2:(((hs (bC b+y) (bC b) (bn (dJ 1 (bZ b s)) (bZ b s)).tail).2:Int):Rat)≠0:=fun h=>hp0 (Rat.intCast_eq_zero_iff.1 h)
     have hq3:((nP b s y:Int):Rat)≠0:=fun h=>by have := Rat.intCast_eq_zero_iff.1 h; omega
     have hq4:((bC b:Int):Rat)≠0:=fun h=>by have := Rat.intCast_eq_zero_iff.1 h; omega
     have hq5:(((dN b s).den:Int):Rat)≠0:=fun h=>by have := Rat.intCast_eq_zero_iff.1 h; have := (dN b s).den_nz; omega
     have hwn:dN b s*(((dN b s).den:Int):Rat)=((dN b s).num:Rat):=by
      rw [Rat.intCast_natCast]; exact (ajw (dN b s)).symm
     have haq:((nP b s y:Int):Rat)=(((dN b s).den:Int):Rat)*(bC b:Rat)+((dN b s).num:Rat)*(y:Rat):=by
      unfold nP
      rw [Rat.intCast_add,Rat.intCast_mul,Rat.intCast_mul]
     rw [Rat.divInt_eq_div,Rat.intCast_mul,Rat.intCast_mul,Rat.intCast_mul,Rat.intCast_mul,hsv]
     unfold jW
     generalize ((((dJ 1 (bZ b s):Nat):Int):Rat))=A at *
     generalize ((hs (bC b+y) (bC b) (bn (dJ 1 (bZ b s)) (bZ b s)).tail).2:Rat)=P at *
     generalize qw (uX b y) (bZ b s)=H at *
     rw [haq] at hq3 ⊢
     generalize (((dN b s).den:Int):Rat)=wd at *
     generalize ((dN b s).num:Rat)=wn at *
     generalize dN b s=w at *
     generalize ((bC b:Int):Rat)=G at *
     generalize (y:Rat)=Y at *
     subst hwn
     have e1:wd*G+w*wd*Y=wd*G*(1+w*(Y / G)):=by grind
     rw [e1] at hq3 ⊢
     have hq6:1+w*(Y / G)≠0:=fun h=>hq3 (by rw [h]; grind)
     generalize 1+w*(Y / G)=Z at *
     have hE:wd*G≠0:=fun h=>hq3 (by rw [h]; grind)
     exact ati hq1 hq2 hE hq6
    refine ⟨?_,fun q h=>by simp at h; rw [← h,← hval]; exact hRB⟩
    simp only [zx]
    rw [hval] at hnew
    have hsl:¬ (nP b s y).sign≤0:=by
     rw [Int.sign_eq_one_of_pos (by omega)]; omega
    generalize jW b s y=res at *
    generalize (nP b s y).sign=sg at *
    generalize nP b s y=az at *
    generalize (dN b s).num*y=wy at *
    generalize ((dN b s).den:Int)*bC b=wd at *
    generalize bC b+y=ny at *
    generalize bC b=gz at *
    generalize hs ny gz (bn (dJ 1 (bZ b s)) (bZ b s))=r1 at *
    generalize hs ny gz (bn (dJ 1 (bZ b s)) (bZ b s)).tail=r2 at *
    generalize ((dJ 1 (bZ b s):Nat):Int)*r2.2=by1 at *
    generalize by1*az=ba at *
    generalize r1.1*wd=rw1 at *
    generalize (dN b s)=w at *
    unfold pU at *
    generalize eP (bZ b s)=rc at *
    generalize (bZ b s).length=N at *
    obtain ⟨i,m,fq,c,rd,n,st,en,ex⟩:=b
    unfold aT aQ at *
    simp only at *
    refine aN yh rfl (yc ..) ?_
    simp [qp,hl,hy1,hy2,hwt,o1,o2,o3,m1,m2,hsum,hden,hnum,m3,m4,m5,hsg,hsl,m6,m7,hnew]
theorem aa5 {b:aH} {s y:Int} {e:Er} (h:mO b s y = .error e):e≠none:=by
 unfold mO at h
 split at h
 ·simp at h; rw [← h]; simp
 ·split at h
  ·simp at h; rw [← h]; simp
  ·split at h
   ·simp at h; rw [← h]; simp
   ·simp at h
theorem aa4 {b:aH} {s y:Int} {q:Rat} (h:mO b s y = .ok q):(leftB b s).1=none:=by
 unfold mO at h
 split at h
 ·simp at h
 ·assumption
end Go.Ev.Code
end
section
namespace Go.Ev.Code
open Go Go.Ev
theorem auH {y:Nat} (h:1900≤y) (k:Nat):dU y+365*k≤dU (y+k):=by
 induction k with
 | zero=>simp only [Nat.mul_zero,Nat.add_zero]; exact Nat.le_refl _
 | succ k ih =>
   have h2:=Aw (y:=y+k) (by omega)
   have h3:=ahO (y+k)
   have h4:365≤dF (y+k) 12:=by rw [h3]; split <;> omega
   rw [show y+(k+1)=y+k+1 from rfl,h2,Nat.mul_succ,← Nat.add_assoc]
   exact Nat.add_le_add ih h4
end Go.Ev.Code
end
section
namespace Go.Ev.Code
open Go Go.Ev
theorem amR {y:Nat} (h:1900≤y) (k:Nat):dU (y+k)≤dU y+366*k:=by
 induction k with
 | zero=>simp only [Nat.mul_zero,Nat.add_zero]; exact Nat.le_refl _
 | succ k ih =>
   have h2:=Aw (y:=y+k) (by omega)
   have h4:=(aiH (y+k)).1
   rw [show y+(k+1)=y+k+1 from rfl,h2,Nat.mul_succ,← Nat.add_assoc]
   exact Nat.add_le_add ih h4
theorem aqE (y m:Nat) (h1:1≤m) (h2:m≤12):dF y (m-1)+bP y m≤366:=by
 have hm:m=1∨m=2∨m=3∨m=4∨m=5∨m=6∨m=7∨m=8∨m=9∨m=10∨m=11∨m=12:=by omega
 have f2:bP y 2≤29:=by
  show (if leap y=true then 29 else 28)≤29
  split <;> omega
 rcases hm with rfl | rfl | rfl | rfl | rfl | rfl | rfl | rfl | rfl | rfl | rfl | rfl <;> simp only [dF,Nat.reduceSub,Nat.reduceAdd] <;> (generalize hg:bP y 2=g at *) <;> simp only [bP] at * <;> omega
theorem aqH {a b:Int} (ha:bG a) (hb:bG b) (h:mi b≤mi a+361):b≤a+12100:=by
 obtain ⟨y,m,d,hc,rfl,_⟩:=eH ha
 obtain ⟨y',m',d',hc',rfl,_⟩:=eH hb
 rw [uH hc,uH hc'] at h
 have a1:=hc.y1; have a2:=hc.m1; have a3:=hc.m2; have a5:=hc'.m1; have a6:=hc'.m2
 have g1:=aqE y' m' a5 a6
 have g2:=hc'.d2
 have g3:=hc.d1
 have hy:y'≤y+31:=by omega
 have g4:dU y'≤dU y+11346:=by
  rcases Nat.lt_or_ge y' y with h1 | h1
  ·obtain ⟨k,rfl⟩:∃ k,y=y'+k:=⟨y-y',by omega⟩
   have := auH hc'.y1 k
   exact Nat.le_trans (Nat.le_trans (Nat.le_add_right _ _) this) (Nat.le_add_right _ _)
  ·obtain ⟨k,rfl⟩:∃ k,y'=y+k:=⟨y'-y,by omega⟩
   have := amR a1 k
   refine Nat.le_trans this (Nat.add_le_add_left ?_ _)
   omega
 have e1:dayOf y' m' d'=dU y'+dF y' (m'-1)+d'-1:=rfl
 have e2:dayOf y m d=dU y+dF y (m-1)+d-1:=rfl
 generalize dayOf y' m' d'=u at *
 generalize dayOf y m d=v at *
 generalize dU y'=b1 at *
 generalize dU y=b0 at *
 generalize dF y' (m'-1)=c1 at *
 generalize dF y (m-1)=c0 at *
 generalize bP y' m'=ml at *
 omega
theorem thirty {b:aH} (h:chk b=none):mi b.cZ≤mi b.issue+360∧bG b.issue∧bG b.cZ:=by
 have hd:=(dH h).1
 unfold Di at hd
 split at hd
 ·simp at hd
 ·rename_i h1
  split at hd
  ·simp at hd
  ·rename_i h2
   have i1:bG b.issue:=Classical.not_not.1 h1
   have i2:bG b.cZ:=Classical.not_not.1 h2
   refine ⟨?_,i1,i2⟩
   have hb:=Un i2
   have hbi:=Un i1
   split at hd
   ·simp at hd
   ·cases ha:nO b.issue 360 false with
    | none =>
      rcases Nat.lt_or_ge (mi b.issue+360) 26401 with h4 | h4
      ·obtain ⟨r,hr⟩:=YR (day:=b.issue) (n:=360) false i1 (by omega) (by omega)
       rw [hr] at ha; simp at ha
      ·omega
    | some e =>
      rw [ha] at hd
      simp only at hd
      split at hd
      ·simp at hd
      ·have hm:=BZ ha
       have he:bG e:=Dy ha
       have := yu i2 he (by omega)
       omega
def d30 (a:Int):Int:=30*(mi a:Int)+min ((lg a.toNat).2.2:Int) 30
theorem NS (a b:Int):Y2 a b=d30 b-d30 a:=by
 unfold Y2 d30 mi
 omega
theorem aqF {a b:Int} (ha:bG a) (hb:bG b) (h:a≤b):d30 a≤d30 b:=by
 have hm:=yu ha hb h
 obtain ⟨y,m,d,hc,rfl,o1⟩:=eH ha
 obtain ⟨y',m',d',hc',rfl,o2⟩:=eH hb
 unfold d30
 rw [o1,o2]
 have e1:=uH hc
 have e2:=uH hc'
 have b1:=hc.d1; have b2:=hc.d2; have b3:=hc'.d1; have b4:=hc'.d2
 have l1:=wI y m
 rcases Nat.lt_or_eq_of_le hm with h1 | h1
 ·simp only; omega
 ·have a2:=hc.m1; have a3:=hc.m2; have a5:=hc'.m1; have a6:=hc'.m2
  rw [e1,e2] at h1
  obtain rfl:m=m':=by omega
  obtain rfl:y=y':=by omega
  have g:d≤d':=by
   have e3:dayOf y m d=dU y+dF y (m-1)+d-1:=rfl
   have e4:dayOf y m d'=dU y+dF y (m-1)+d'-1:=rfl
   generalize dayOf y m d=u at *
   generalize dayOf y m d'=v at *
   generalize dU y=b0 at *
   generalize dF y (m-1)=c0 at *
   omega
  simp only; omega
theorem aft {k a x y:Int} (hx:bG x) (hy:bG y) (h:x≤y):iR k a x≤iR k a y:=by
 unfold iR
 split
 ·rw [NS,NS]
  have := aqF hx hy h
  omega
 ·omega
theorem afu (k a:Int):iR k a a=0:=by
 unfold iR
 split
 ·rw [NS]; omega
 ·omega
theorem aoE {k a b:Int} (ha:bG a) (hb:bG b) (h:mi b≤mi a+361):iR k a b≤12100:=by
 unfold iR
 split
 ·rw [NS]
  unfold d30
  have : (0:Int)≤((lg a.toNat).2.2:Int):=by omega
  omega
 ·have := aqH ha hb h; omega
theorem vO {a b D:Int} (hD:0<D) (h:a≤b):Rat.divInt a D≤Rat.divInt b D:=by
 rw [Rat.divInt_eq_div,Rat.divInt_eq_div,Rat.div_def,Rat.div_def]
 refine Rat.mul_le_mul_of_nonneg_right (Rat.intCast_le_intCast.2 h) (Rat.le_of_lt ?_)
 rw [Rat.inv_pos]
 exact Rat.intCast_pos.2 hD
theorem divInt_zero (D:Int):Rat.divInt 0 D=0:=by
 rw [Rat.divInt_eq_div,Rat.intCast_zero,Rat.div_def,Rat.zero_mul]
theorem MS {c D:Int} (hD:0<D):Rat.divInt (c*D) D=(c:Rat):=by
 have hD0:(D:Rat)≠0:=fun h=>by have := Rat.intCast_eq_zero_iff.1 h; omega
 rw [Rat.divInt_eq_div,Rat.intCast_mul]
 generalize (D:Rat)=d at *
 generalize (c:Rat)=e at *
 grind
theorem apm {f x y y':Int} {q:Int×Int} (hf:tY f) (hq:QOk q) (h:y≤y'):CU f x y q≤CU f x y' q:=by
 have := hq.d1; have := hq.d2; have := hq.lt
 have hD:=(hf.mul (a:=q.2-q.1) (by omega) (by omega)).1
 exact vO (by omega) (by omega)
theorem atB {f x y:Int} {q:Int×Int} (hf:tY f) (hq:QOk q):0≤CU f x y q∧CU f x y q≤1:=by
 have := hq.d1; have := hq.d2; have hlt:=hq.lt
 have hD:=(hf.mul (a:=q.2-q.1) (by omega) (by omega)).1
 have hf1:1≤f:=by rcases hf with h | h | h | h <;> omega
 have hge:q.2-q.1≤f*(q.2-q.1):=by
  have := Int.mul_le_mul_of_nonneg_right hf1 (show 0≤q.2-q.1 by omega)
  omega
 unfold CU
 generalize f*(q.2-q.1)=D at *
 constructor
 ·rw [← divInt_zero D]
  exact vO (by omega) (by omega)
 ·have := vO (D:=D) (a:=max (min y q.2-max x q.1) 0) (b:=1*D) (by omega) (by omega)
  rw [MS (by omega)] at this
  exact this
theorem agm {f x y y':Int} (hf:tY f) (h:y≤y'):∀ {l:List (Int×Int)} {s s':Rat},(∀ q∈l,QOk q)→s≤s'→sumF f x y s l≤sumF f x y' s' l
 | [],s,s',_,hs=>hs
 | q::r,s,s',hl,hs=>by
   have h1:=apm (x:=x) hf (hl q (by simp)) h
   simp only [sumF]
   exact agm hf h (fun z hz=>hl z (by simp [hz])) (by grind)
theorem ae4 {f x y:Int} (hf:tY f):∀ {l:List (Int×Int)} {s:Rat},(∀ q∈l,QOk q)→s≤sumF f x y s l∧sumF f x y s l≤s+(l.length:Rat)
 | [],s,_=>by
   simp only [sumF,List.length_nil]
   have : ((0:Nat):Rat)=0:=rfl
   rw [this]
   exact ⟨Rat.le_refl,by grind⟩
 | q::r,s,hl=>by
   have h1:=atB (x:=x) (y:=y) hf (hl q (by simp))
   have ih:=ae4 (x:=x) (y:=y) hf (l:=r) (s:=s+CU f x y q) (fun z hz=>hl z (by simp [hz]))
   simp only [sumF,List.length_cons]
   have e:((r.length+1:Nat):Rat)=(r.length:Rat)+1:=by rw [Rat.natCast_add]; rfl
   rw [e]
   generalize (r.length:Rat)=n at *
   constructor
   ·exact Rat.le_trans (by grind) ih.1
   ·exact Rat.le_trans ih.2 (by grind)
theorem adp {b:aH} (h:(bH b).1=none) {p:Int×Int} (hp:p∈(aS b).2) {x y:Int} (h1:p.1≤x) (h2:x≤y) (h3:y≤p.2) :
  0≤ni b p p.1 x∧ni b p p.1 x≤ni b p p.1 y∧ni b p p.1 y≤40:=by
 have h0:=(jD h).1
 have hchk:=gZ h0
 have hf:=eG (dH hchk).2.1
 obtain ⟨d1,d2,d3⟩:=kU h0 hp
 have hx:=D7 h hp (Int.le_refl p.1) h1 (by omega:x≤p.2)
 have hy:=D7 h hp (Int.le_refl p.1) (by omega:p.1≤y) h3
 unfold og at hx hy
 by_cases hc:b.count=4
 ·rw [if_pos hc] at hx hy
  cases hq:vF b p with
  | none=>rw [hq] at hx; simp at hx
  | some l =>
    have hok:=(E5 hchk d2 hq).1
    have hl2:=Xr h0 hp hq
    rw [hq] at hx hy
    simp only at hx hy
    rw [if_neg (by omega)] at hx hy
    have ex:=Except.ok.inj hx
    have ey:=Except.ok.inj hy
    rw [← ex,← ey]
    have bx:=ae4 (x:=p.1) (y:=x) (s:=Rat.divInt 0 1) hf hok
    have bY:=ae4 (x:=p.1) (y:=y) (s:=Rat.divInt 0 1) hf hok
    have hz:Rat.divInt 0 1=0:=divInt_zero 1
    have hn:(l.length:Rat)≤2:=by
     have : ((2:Nat):Rat)=2:=rfl
     rw [← this]
     exact Rat.natCast_le_natCast.2 hl2
    refine ⟨by have := bx.1; rw [hz] at this; rw [hz]; exact this,agm hf h2 hok Rat.le_refl,?_⟩
    have := bY.2
    rw [hz] at this
    rw [hz]
    refine Rat.le_trans this ?_
    generalize (l.length:Rat)=n at *
    grind
 ·rw [if_neg hc,if_neg (by omega)] at hx hy
  have ex:=Except.ok.inj hx
  have ey:=Except.ok.inj hy
  rw [← ex,← ey]
  have hw:=(fO h0).2
  obtain ⟨t1,t2,t3⟩:=thirty hchk
  have hi:b.issue≤p.1∧p.2≤b.cZ:=by
   obtain ⟨_,g1,_⟩:=aao h0 hp (s:=p.1) (by omega) (by omega)
   obtain ⟨_,_,g2⟩:=aao h0 hp (s:=p.2-1) (by omega) (by omega)
   omega
  have dx:bG x:=by omega
  have dy:bG y:=by omega
  have m1:=yu t2 d1 hi.1
  have m2:=yu dy t3 (by omega)
  have c1:=aft (k:=b.count) (a:=p.1) d1 dx h1
  have c2:=aft (k:=b.count) (a:=p.1) dx dy h2
  have c3:=aoE (k:=b.count) (a:=p.1) d1 dy (by omega)
  rw [afu] at c1
  unfold JY
  have hD:(0:Int)<(if b.count=3 then 365 else 360)∧(12100:Int)≤40*(if b.count=3 then 365 else 360):=by split <;> omega
  generalize (if b.count=3 then (365:Int) else 360)=D at *
  refine ⟨by rw [← divInt_zero D]; exact vO hD.1 c1,vO hD.1 c2,?_⟩
  have := vO (a:=iR b.count p.1 y) (b:=40*D) hD.1 (by omega)
  rw [MS hD.1] at this
  exact this
end Go.Ev.Code
end
section
namespace Go.Ev.Code
open Go Go.Ev
theorem adE (each red:Rat):∀ (k:Nat) (l:List (Int×Int)),k<l.length→(ig each red l).drop k=ig each red (l.drop k)
 | 0,l,_=>rfl
 | k+1,[],h=>by simp at h
 | k+1,[p],h=>by simp at h
 | k+1,p::q::r,h=>by
   simp only [ig,List.drop_succ_cons]
   exact adE each red k (q::r) (by simpa using h)
theorem JW {q:Rat}:0≤q.num↔0≤q:=Rat.num_nonneg
theorem acR (b:aH):0≤qh b:=by
 unfold qh
 cases hc:chk b with
 | some e=>simp only; exact JW.1 (by decide)
 | none =>
   obtain ⟨q,n,r,k,h1,h2,h3,h4,_⟩:=PS (dH hc).2.2
   simp only [h1]
   exact JW.1 h4
theorem adC (b:aH):0≤fZ b:=by
 unfold fZ
 cases hc:chk b with
 | some e=>simp only; exact JW.1 (by decide)
 | none =>
   obtain ⟨q,n,r,k,h1,h2,h3,h4,h5,h6,h7,_⟩:=PS (dH hc).2.2
   simp only [h2]
   exact JW.1 (by omega)
theorem ang {f:Int} (hf:tY f):0≤Rat.divInt 1 f:=by
 rcases hf with rfl | rfl | rfl | rfl <;> decide +kernel
theorem ahG {b:aH} (hf:tY b.dA):0≤fF b:=Rat.mul_nonneg (acR b) (ang hf)
end Go.Ev.Code
end
section
namespace Go.Ev.Code
open Go Go.Ev
theorem adF (each red:Rat):∀ {l:List (Int×Int)} {i:Nat} {p:Int×Int},l[i]?=some p→(ig each red l)[i]?=some (p.2,if i+1=l.length then each+red else each)
 | [],i,p,h=>by simp at h
 | [x],0,p,h=>by simp at h; subst h; simp [ig]
 | [x],i+1,p,h=>by simp at h
 | x::y::r,0,p,h=>by simp at h; subst h; simp [ig]
 | x::y::r,i+1,p,h=>by
   have := adF each red (l:=y::r) (i:=i) (p:=p) (by simpa using h)
   simp only [ig,List.getElem?_cons_succ,List.length_cons] at this ⊢
   rw [this]
   congr 2
   simp
theorem afH {b:aH} (h:(bH b).1=none) {i:Nat} {p:Int×Int} (hp:(aS b).2[i]?=some p):(bH b).2[i]?=some (p.2,if i+1=(aS b).2.length then oV b p+fZ b else oV b p):=by
 obtain ⟨h0,p0,r,q,hps,hq,hfl⟩:=jD h
 have hw:=(fO h0).2
 cases i with
 | zero =>
   rw [hps] at hp
   have hp:p0=p:=by simpa using hp
   subst hp
   rw [hfl,hps,LX hq]
   match r with
   | []=>simp [mD]
   | y::r=>simp [mD]
 | succ i =>
   have hlt:i+1<(aS b).2.length:=(List.getElem?_eq_some_iff.1 hp).1
   have hg:=List.getElem?_eq_getElem (l:=(aS b).2) (i:=i) (by omega)
   have hreg:=(hw.next i p _ hg hp).2
   have hpay:oV b p=fF b:=by
    unfold oV xW
    rw [if_pos hreg]
   rw [hpay,hfl]
   rw [hps] at hp ⊢
   match r,hp with
   | [],hp=>simp at hp
   | y::r,hp =>
     have := adF (fF b) (fZ b) (l:=y::r) (i:=i) (p:=p) (by simpa using hp)
     simp only [mD,List.getElem?_cons_succ,List.length_cons] at this ⊢
     rw [this]
     congr 2
     simp
theorem alm {b:aH} (h:(bH b).1=none) {p:Int×Int} (hp:p∈(aS b).2):0≤oV b p:=by
 have h0:=(jD h).1
 have hf:=eG (dH (gZ h0)).2.1
 obtain ⟨d1,d2,d3⟩:=kU h0 hp
 unfold oV xW
 split
 ·rename_i q hq
  split at hq
  ·rw [← Except.ok.inj hq]; exact ahG hf
  ·rw [D7 h hp (Int.le_refl _) (by omega) (Int.le_refl _)] at hq
   simp only at hq
   rw [← Except.ok.inj hq]
   exact Rat.mul_nonneg (acR b) (adp h hp (x:=p.2) (y:=p.2) (by omega) (Int.le_refl _) (Int.le_refl _)).1
 ·exact Rat.le_refl
theorem aaX {b:aH} {s:Int} (h:(leftB b s).1=none):∀ r∈bZ b s,0≤r:=by
 obtain ⟨f0,h2,h3,h4⟩:=jh h
 obtain ⟨d1,d2,d3,d4,d5,d6⟩:=zu h
 obtain ⟨k,k1,k2,k3,k4⟩:=Ce h2 h3 h4
 have hall:∀ x∈(bH b).2,0≤x.2:=by
  intro x hx
  obtain ⟨i,hi⟩:=List.getElem?_of_mem hx
  have hlt:i<(aS b).2.length:=by rw [← Ui f0]; exact (List.getElem?_eq_some_iff.1 hi).1
  have hg:=List.getElem?_eq_getElem hlt
  have h5:=afH f0 hg
  rw [hi] at h5
  have h6:=Option.some.inj h5
  rw [h6]
  have hp:=alm f0 (List.mem_of_getElem? hg)
  simp only
  split
  ·exact Rat.add_nonneg hp (adC b)
  ·exact hp
 have h5:=afH f0 k2
 unfold bZ
 rw [k1,Int.toNat_natCast]
 have hk:k<(bH b).2.length:=(List.getElem?_eq_some_iff.1 h5).1
 have hdr:(bH b).2.drop k=(bH b).2[k]::(bH b).2.drop (k+1):=List.drop_eq_getElem_cons hk
 have he:(bH b).2[k]=((fM b s).2,if k+1=(aS b).2.length then oV b (fM b s)+fZ b else oV b (fM b s)):=by
  rw [List.getElem?_eq_getElem hk] at h5
  exact Option.some.inj h5
 split
 ·rw [hdr,he]
  simp only [List.map_cons,ac9]
  intro r hr
  rcases List.mem_cons.1 hr with rfl | hr
  ·have := adC b
   generalize fZ b=rd at *
   generalize oV b (fM b s)=pv at *
   split <;> grind
  ·obtain ⟨x,hx,rfl⟩:=List.mem_map.1 hr
   exact hall x (List.mem_of_mem_drop hx)
 ·intro r hr
  obtain ⟨x,hx,rfl⟩:=List.mem_map.1 hr
  exact hall x (List.mem_of_mem_drop hx)
theorem auO {a c:Rat} (h0:0≤a) (h1:a≤c) (hc:c≠0):0≤1-a / c∧1-a / c≤1:=by
 have hpos:0<c:=by grind
 have hi:0<c⁻¹:=Rat.inv_pos.2 hpos
 have e1:a / c=a*c⁻¹:=Rat.div_def _ _
 have e2:c*c⁻¹=1:=Rat.mul_inv_cancel _ hc
 have h2:=Rat.mul_le_mul_of_nonneg_right h1 (Rat.le_of_lt hi)
 have h3:=Rat.mul_nonneg h0 (Rat.le_of_lt hi)
 rw [e1]
 generalize a*c⁻¹=x at *
 constructor <;> grind
theorem akb {b:aH} {s:Int} (h:(leftB b s).1=none) (h0:fB b s≠0):0≤dN b s∧dN b s≤40*(b.dA:Rat):=by
 obtain ⟨f0,h2,h3,h4⟩:=jh h
 obtain ⟨d1,d2,d3,d4,d5,d6⟩:=zu h
 have hf:=eG (dH (gZ h2)).2.1
 obtain ⟨p1,p2,p3⟩:=adp f0 d6 d4 (Int.le_of_lt d5) (Int.le_refl _)
 have hf1:(1:Rat)≤(b.dA:Rat):=by
  have : ((1:Int):Rat)≤(b.dA:Rat):=Rat.intCast_le_intCast.2 (by rcases hf with h | h | h | h <;> omega)
  exact this
 have hfr:Rat.divInt b.dA 1=(b.dA:Rat):=by
  have := MS (c:=b.dA) (D:=1) (by omega)
  rw [Int.mul_one] at this; exact this
 have hpe:ni b (fM b s) (fM b s).1 s=zK b s:=rfl
 have hwe:ni b (fM b s) (fM b s).1 (fM b s).2=fB b s:=rfl
 rw [hpe] at p1 p2
 rw [hwe] at p2 p3
 obtain ⟨q1,q2⟩:=auO p1 p2 h0
 unfold dN
 rw [hfr]
 generalize zK b s / fB b s=x at *
 generalize (b.dA:Rat)=F at *
 split
 ·constructor
  ·exact q1
  ·grind
 ·have hw0:0≤fB b s:=Rat.le_trans p1 p2
  generalize fB b s=W at *
  generalize 1-x=u at *
  have hF0:0≤F:=by grind
  have a1:=Rat.mul_le_mul_of_nonneg_right q2 hF0
  have a0:=Rat.mul_nonneg q1 hF0
  have a2:=Rat.mul_le_mul_of_nonneg_right a1 hw0
  have a3:=Rat.mul_le_mul_of_nonneg_left p3 hF0
  refine ⟨Rat.mul_nonneg a0 hw0,?_⟩
  generalize u*F*W=X at *
  grind
theorem UQ {x:Rat} (hx:0≤x):∀ {l:List Rat},(∀ r∈l,0≤r)→0≤qw x l
 | [],_=>Rat.le_refl
 | r::t,h=>by
   simp only [qw]
   exact Rat.add_nonneg (h r (by simp)) (Rat.mul_nonneg hx (UQ hx (fun q hq=>h q (by simp [hq]))))
theorem Zd {x y:Rat} (hx:0≤x) (hxy:x≤y):∀ {l:List Rat},(∀ r∈l,0≤r)→qw x l≤qw y l
 | [],_=>Rat.le_refl
 | r::t,h=>by
   have h1:=Zd hx hxy (l:=t) (fun q hq=>h q (by simp [hq]))
   have h2:=UQ hx (l:=t) (fun q hq=>h q (by simp [hq]))
   have hy:0≤y:=Rat.le_trans hx hxy
   have h3:=Rat.mul_le_mul_of_nonneg_left h1 hy
   have h4:=Rat.mul_le_mul_of_nonneg_right hxy h2
   simp only [qw]
   grind
theorem aiO {a b c d:Rat} (ha:0≤a) (hab:a≤b) (hc:0<c) (hcd:c≤d):a / d≤b / c:=by
 have hd:0<d:=by grind
 have ic:0<c⁻¹:=Rat.inv_pos.2 hc
 have id:0<d⁻¹:=Rat.inv_pos.2 hd
 have e1:c*c⁻¹=1:=Rat.mul_inv_cancel _ (by grind)
 have e2:d*d⁻¹=1:=Rat.mul_inv_cancel _ (by grind)
 have h1:d⁻¹≤c⁻¹:=by
  have := Rat.mul_le_mul_of_nonneg_right hcd (Rat.le_of_lt (Rat.mul_pos ic id))
  rw [← Rat.mul_assoc,e1,Rat.one_mul,Rat.mul_comm c⁻¹,← Rat.mul_assoc,e2,Rat.one_mul] at this
  exact this
 have h2:=Rat.mul_le_mul_of_nonneg_left h1 ha
 have h3:=Rat.mul_le_mul_of_nonneg_right hab (Rat.le_of_lt ic)
 rw [Rat.div_def,Rat.div_def]
 exact Rat.le_trans h2 h3
theorem afx {b:aH} (hf:tY b.dA) {y z:Int} (h1 : -2000000≤y) (h2:y≤z) (h3:z≤100000000):0≤uX b z∧uX b z≤uX b y:=by
 obtain ⟨_,_,_,g0,n0⟩:=Ja hf (y:=y) h1 (by omega)
 obtain ⟨_,_,_,_,n1⟩:=Ja hf (y:=z) (by omega) h3
 have a1:(0:Rat)<(bC b:Rat):=Rat.intCast_pos.2 g0
 have a2:(0:Rat)<((bC b+y:Int):Rat):=Rat.intCast_pos.2 n0
 have a3:((bC b+y:Int):Rat)≤((bC b+z:Int):Rat):=Rat.intCast_le_intCast.2 (by omega)
 have a4:(0:Rat)<((bC b+z:Int):Rat):=Rat.intCast_pos.2 n1
 unfold uX
 refine ⟨?_,aiO (Rat.le_of_lt a1) Rat.le_refl a2 a3⟩
 rw [Rat.div_def]
 exact Rat.mul_nonneg (Rat.le_of_lt a1) (Rat.le_of_lt (Rat.inv_pos.2 a4))
theorem acJ {b:aH} (hf:tY b.dA) {w:Rat} (hw0:0≤w) (hw1:w≤40*(b.dA:Rat)) {y z:Int} (h1 : -2000000≤y) (h2:y≤z) (h3:z≤100000000) :
  0<1+w*((y:Rat) / (bC b:Rat))∧1+w*((y:Rat) / (bC b:Rat))≤1+w*((z:Rat) / (bC b:Rat)):=by
 obtain ⟨_,_,_,g0,n0⟩:=Ja hf (y:=y) h1 (by omega)
 have a1:(0:Rat)<(bC b:Rat):=Rat.intCast_pos.2 g0
 have i1:(0:Rat)<(bC b:Rat)⁻¹:=Rat.inv_pos.2 a1
 have e1:(bC b:Rat)*(bC b:Rat)⁻¹=1:=Rat.mul_inv_cancel _ (by grind)
 have hg:(bC b:Rat)=100000000*(b.dA:Rat):=by unfold bC; rw [Rat.intCast_mul]; rfl
 have y1:((-2000000:Int):Rat)≤(y:Rat):=Rat.intCast_le_intCast.2 h1
 have y1':(-2000000:Rat)≤(y:Rat):=y1
 have y2:(y:Rat)≤(z:Rat):=Rat.intCast_le_intCast.2 h2
 rw [Rat.div_def,Rat.div_def]
 generalize (bC b:Rat)⁻¹=I at *
 generalize (bC b:Rat)=G at *
 generalize (y:Rat)=Y at *
 generalize (z:Rat)=Z at *
 generalize (b.dA:Rat)=F at *
 have hwI:=Rat.mul_nonneg hw0 (Rat.le_of_lt i1)
 have b1:=Rat.mul_le_mul_of_nonneg_left y1' hwI
 have b2:=Rat.mul_le_mul_of_nonneg_left y2 hwI
 have b3:=Rat.mul_le_mul_of_nonneg_right hw1 (Rat.le_of_lt i1)
 constructor
 ·subst hg
  grind
 ·grind
theorem YS {b:aH} {s y:Int} (h:(leftB b s).1=none) (h0:fB b s≠0) (h1 : -2000000≤y) (h2:y≤100000000):¬ nP b s y≤0:=by
 have hf:=eG (dH (gZ (jh h).2.1)).2.1
 obtain ⟨_,_,_,g0,n0⟩:=Ja hf (y:=y) h1 h2
 obtain ⟨w0,w1⟩:=akb h h0
 have ha:=(acJ hf w0 w1 (z:=y) h1 (Int.le_refl _) h2).1
 have hq4:((bC b:Int):Rat)≠0:=fun h=>by have := Rat.intCast_eq_zero_iff.1 h; omega
 have hq5:(0:Rat)<(((dN b s).den:Int):Rat):=Rat.intCast_pos.2 (by have := (dN b s).den_pos; omega)
 have hgp:(0:Rat)<(bC b:Rat):=Rat.intCast_pos.2 g0
 have hwn:dN b s*(((dN b s).den:Int):Rat)=((dN b s).num:Rat):=by
  rw [Rat.intCast_natCast]; exact (ajw (dN b s)).symm
 have haq:((nP b s y:Int):Rat)=(((dN b s).den:Int):Rat)*(bC b:Rat)+((dN b s).num:Rat)*(y:Rat):=by
  unfold nP
  rw [Rat.intCast_add,Rat.intCast_mul,Rat.intCast_mul]
 have hpos:(0:Rat)<((nP b s y:Int):Rat):=by
  rw [haq]
  generalize (((dN b s).den:Int):Rat)=wd at *
  generalize ((dN b s).num:Rat)=wn at *
  generalize dN b s=w at *
  generalize ((bC b:Int):Rat)=G at *
  generalize (y:Rat)=Y at *
  subst hwn
  have e1:wd*G+w*wd*Y=wd*G*(1+w*(Y / G)):=by grind
  rw [e1]
  exact Rat.mul_pos (Rat.mul_pos hq5 hgp) ha
 have := Rat.intCast_pos.1 hpos
 omega
theorem amZ {b:aH} {s y z:Int} (h:(leftB b s).1=none) (h0:fB b s≠0) (h1 : -2000000≤y) (h2:y≤z) (h3:z≤100000000):jW b s z≤jW b s y:=by
 have hf:=eG (dH (gZ (jh h).2.1)).2.1
 obtain ⟨w0,w1⟩:=akb h h0
 obtain ⟨a1,a2⟩:=acJ hf w0 w1 h1 h2 h3
 obtain ⟨d1,d2⟩:=afx hf h1 h2 h3
 have hn:=aaX h
 unfold jW
 exact aiO (UQ d1 hn) (Zd d1 d2 hn) a1 a2
end Go.Ev.Code
end
section
namespace Go.Ev.Code
open Go Go.Ev
def VE (b:aH) (s y:Int):Except Er Rat:=match mO b s y with
 | .error e => .error e
 | .ok q => .ok (q-Ox b s)
theorem VY {b:aH} (hc:b.dX.length≤1000000) (hr:b.dV.length≤1000000) (s:Int) {y:Int} (hy : -9223372036854775808≤y∧y≤9223372036854775807) :
  L.call jR [aT b,.int .i64 s,.int .i64 y]=some (zx (VE b s y))∧(∀ q,VE b s y = .ok q→RB 17000 q):=by
 obtain ⟨hd,hdB⟩:=wJ hc hr s hy
 unfold VE
 cases he:mO b s y with
 | error e =>
   refine ⟨?_,fun q h=>by simp at h⟩
   rw [he] at hd
   simp only [zx] at *
   have hne:=aa5 he
   obtain ⟨i,m,fq,c,rd,n,st,en,ex⟩:=b
   unfold aT aQ at *
   simp only at *
   rcases e with _ | ⟨c,_ | t⟩
   ·exact absurd rfl hne
   ·simp only [jf] at *
    refine aN Ov rfl (Oq ..) ?_
    simp [Ic,hd]
   ·simp only [jf,gu] at *
    refine aN Ov rfl (Oq ..) ?_
    simp [Ic,hd]
 | ok q =>
   rw [he] at hd
   have hl:=aa4 he
   have ha:=aoi hl hc hr
   have haB:=asA hl
   obtain ⟨j,hj⟩:∃ j:Nat,j=1400:=⟨_,rfl⟩
   rw [← hj] at haB
   have hqB:=hdB q he
   have hsub:=Bv hqB haB (by omega)
   refine ⟨?_,fun r h=>by simp at h; rw [← h]; exact (hqB.sub haB).mono (by omega)⟩
   simp only [zx] at *
   generalize q-Ox b s=v at *
   generalize Ox b s=a at *
   obtain ⟨i,m,fq,c,rd,n,st,en,ex⟩:=b
   unfold aT aQ at *
   simp only at *
   refine aN Ov rfl (Oq ..) ?_
   simp [Ic,hd,ha,hsub]
end Go.Ev.Code
end
section
namespace Go.Ev.Code
open Go Go.Ev
end Go.Ev.Code
end
section
namespace Go.Ev.Code
open Go Go.Ev
theorem anr {b:aH} (hchk:chk b=none) {p:Int×Int} (d1:bG p.1) (d2:bG p.2) (hlt:p.1<p.2) (hreg:regular b p=true) (hc:b.count=4) {a:Rat} (h:og b p p.1 p.2 = .ok a):a=Rat.divInt 1 b.dA:=by
 have hf:=eG (dH hchk).2.1
 unfold regular at hreg
 rw [hchk] at hreg
 simp only at hreg
 obtain ⟨f,hfu⟩:∃ f,(p.2-p.1).toNat=f+1:=⟨(p.2-p.1).toNat-1,by omega⟩
 have hq:vF b p=some [(p.1,p.2)]:=by
  unfold vF
  rw [hfu]
  simp only [jS]
  rw [if_neg (by omega)]
  cases hqe:quasi b p.2 with
  | none=>rw [hqe] at hreg; simp at hreg
  | some x =>
    rw [hqe] at hreg
    simp at hreg
    simp only [hreg]
    cases f with
    | zero=>simp [jS]
    | succ f=>simp [jS]
 unfold og at h
 rw [if_pos hc,hq] at h
 simp only at h
 rw [if_neg (by omega)] at h
 simp at h
 subst h
 simp only [sumF,CU]
 have e:max (min p.2 p.2-max p.1 p.1) 0=p.2-p.1:=by omega
 rw [e]
 have hne:((p.2-p.1:Int):Rat)≠0:=by
  intro h0
  have := Rat.intCast_eq_zero_iff.1 h0
  omega
 have hfn:((b.dA:Int):Rat)≠0:=by
  intro h0
  have := Rat.intCast_eq_zero_iff.1 h0
  rcases hf with h | h | h | h <;> omega
 simp only [Rat.divInt_eq_div,Rat.intCast_mul]
 generalize ((p.2-p.1:Int):Rat)=w at *
 generalize ((b.dA:Int):Rat)=v at *
 have h0:((0:Int):Rat)=0:=rfl
 have h1:((1:Int):Rat)=1:=rfl
 first | rw [h0,h1] | rw [h1]
 grind
end Go.Ev.Code
end
