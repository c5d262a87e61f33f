/- The law PricePar holds of the given program for every input, as its card says it. Conditions: those of the row. -/
import Derived.Test.YtheeamloonpolaaGreatDoorTie
import Derived.Test.YtheeamloonpolaaGreatDoorCards
import Derived.Test.YtheeamloonpolaaGreatDoorCFrame
import Derived.Test.YtheeamloonpolaaGreatDoorCWalkPricePar
import Derived.Test.YtheeamloonpolaaGreatDoorCBegun13
set_option linter.unusedVariables false
set_option linter.unusedSimpArgs false
set_option maxRecDepth 100000
namespace Go.Ev.Code
open Go Go.Ev Go.Proofs Go.ChangeShapes Go.WideShapes Go.RowKit
theorem Iz:("errors.errorType",(DataW.iface "internal/reflectlite.rtype" (.agg [.ptr (.lit (.string [101,114,114,111,114]))]):DataW Unit))∈YtheeamloonpolaaGreatDoor.Rows.priceParRow.laid.filter fun x=>x.2.handleName?.isSome:=List.mem_filter.2 ⟨by simp [YtheeamloonpolaaGreatDoor.Rows.priceParRow,YtheeamloonpolaaGreatDoor.Rows.laid_errors_errorType],rfl⟩
theorem IC:("math/bits.deBruijn64tab",(Go.Lib.tabData .u8 (Go.Lib.deBruijn64tab.map Int.ofNat):DataW Unit))∈YtheeamloonpolaaGreatDoor.Rows.priceParRow.laid.filter fun x=>x.2.handleName?.isNone:=by
 have e:(Go.Lib.tabData .u8 (Go.Lib.deBruijn64tab.map Int.ofNat):DataW Unit)=YtheeamloonpolaaGreatDoor.Rows.laid_math_bits_deBruijn64tab:=by rfl
 rw [e]
 exact List.mem_filter.2 ⟨by simp [YtheeamloonpolaaGreatDoor.Rows.priceParRow],rfl⟩
theorem IE:("internal/strconv.uint64pow10",(Go.Lib.tabData .u64 Go.Lib.pow10Tab:DataW Unit))∈YtheeamloonpolaaGreatDoor.Rows.priceParRow.laid.filter fun x=>x.2.handleName?.isNone:=by
 have e:(Go.Lib.tabData .u64 Go.Lib.pow10Tab:DataW Unit)=YtheeamloonpolaaGreatDoor.Rows.laid_internal_strconv_uint64pow10:=by rfl
 rw [e]
 exact List.mem_filter.2 ⟨by simp [YtheeamloonpolaaGreatDoor.Rows.priceParRow],rfl⟩
theorem KW {W:World} {b0:Nat} {v:Value} (h:Value.okWide Tryz.prog W .any b0 2 v):∃ n,v = .int .i64 n∧IntKind.i64.has n:=by
 have hu:Tryz.prog.underlying 2=some (.int .i64):=by kernel_rfl
 unfold Value.okWide at h
 rw [hu] at h
 change Cell.okWide _ _ _ _ _ _ at h
 unfold Cell.okWide at h
 rw [hu] at h
 unfold Cell.ok at h
 rw [hu] at h
 cases v <;> simp_all
theorem g_:Tryz.f5.params = #[3,3,3,2]:=by kernel_rfl
theorem DR (W:World) (base:Nat) (args:Array Value) (hV:Vars W) (hsz:args.size=Tryz.f5.params.size) (hval:∀ (j:Nat) t v,Tryz.f5.params[j]?=some t→args[j]?=some v→Value.okWide Tryz.prog W .any base t v) :
  Calls Tryz.prog 5 args W fun e W'=>e = .returned (.bool true)∧Grew W W':=by
 rw [g_] at hval hsz
 obtain ⟨v0,v1,v2,v3,rfl⟩:∃ v0 v1 v2 v3,args = #[v0,v1,v2,v3]:=by
  obtain ⟨l⟩:=args
  match l,hsz with
  | [v0,v1,v2,v3],_=>exact ⟨v0,v1,v2,v3,rfl⟩
 obtain ⟨n0,rfl,w0⟩:=wG (hval 0 _ v0 rfl rfl)
 obtain ⟨n1,rfl,w1⟩:=wG (hval 1 _ v1 rfl rfl)
 obtain ⟨n2,rfl,w2⟩:=wG (hval 2 _ v2 rfl rfl)
 obtain ⟨n3,rfl,w3⟩:=KW (hval 3 _ v3 rfl rfl)
 refine (WY (f:=jJ) hV (here _ _ Tryz.func5 (by kernel_rfl)) (alo aad n0 n1 n2 n3) (vs:=[.int .i64 n0,.int .i64 n1,.int .i64 n2,.int .i64 n3]) (.cons (.int _ _) (.cons (.int _ _) (.cons (.int _ _) (.cons (.int _ _) .nil))))).mono ?_
 rintro e w' ⟨u,c',rfl,rfl,hF',hg⟩
 have : u=_:=(Rep.dw _ _ hF':Rep c' (.bool true) u).oz
 subst this
 exact ⟨rfl,hg⟩
theorem LP (os:Os) (started:os.Started) (H:Type) (enc:TypeId×Value→H) :
  ReturnsInHanded {} Tryz.checked os 5 .any (fun w args=>(YtheeamloonpolaaGreatDoor.Rows.priceParSpec.pre enc Tryz.prog Tryz.f5 [] false w args∧laidMetH Tryz.prog YtheeamloonpolaaGreatDoor.Rows.priceParRow.laid w)∧sizedMet enc Tryz.prog Tryz.f5 (OpenSpec.ofChange YtheeamloonpolaaGreatDoor.Rows.priceParSpec) false w args)
   (YtheeamloonpolaaGreatDoor.Rows.priceParSpec.post enc Tryz.prog Tryz.f5 false true false false):=by
 refine law_lifted started rfl Tryz.func5 (by kernel_rfl) (by kernel_rfl) ?_ ?_ (fun W hs hl=>aav hs hl Iz IC IE) ?_ DR
 ·rw [g_]
  intro t ht
  have hall:([3,3,3,2].all fun t=>Tryz.prog.readableRec t && decide (t<Tryz.prog.types.size))=true:=by kernel_rfl
  have h1:=List.all_eq_true.1 hall t ht
  simp only [Bool.and_eq_true,decide_eq_true_eq] at h1
  exact h1
 ·rw [g_]
  intro ds hd
  match ds,hd with
  | [d0,d1,d2,d3],_=>exact ⟨rfl,rfl,rfl⟩
 ·exact ChangeSpec.witness_shaped (enc:=enc) (C:=Tryz.checked) (os:=os) (X:=fun w _=>laidMetH Tryz.prog YtheeamloonpolaaGreatDoor.Rows.priceParRow.laid w) false (laidWorld YtheeamloonpolaaGreatDoor.Rows.priceParRow.laid os)
   #[.int .i64 0, .int .i64 0, .int .i64 0, .int .i64 0] 12 (JQ _ _)
   (World.shaped_of_ZipB (by kernel_rfl) (by kernel_rfl)) (by kernel_rfl) (by kernel_rfl) (by kernel_rfl)
   (laidWorld_met _ (by kernel_rfl) (by kernel_rfl) (by kernel_rfl))
end Go.Ev.Code
namespace Go.Proofs.YtheeamloonpolaaGreatDoor
open Go.Ev.Code
noncomputable abbrev PP:Program:=Tryz.pinned.checked.prog
theorem bF {a b:Bool} (ha:a=true) (hb:b=true):(a && b)=true:=by rw [ha,hb]; rfl
theorem QS:(Rows.priceParRow.wf (OpenSpec.ofChange Rows.priceParSpec))=true:=by kernel_rfl
theorem QT:(laidOutB PP)=true:=by kernel_rfl
theorem QU:(mapsRowed PP)=true:=by kernel_rfl
theorem QV:(Tryz.f5.params.all (PP.readableRec ·))=true:=by kernel_rfl
theorem QW:(namedTie PP Rows.priceParRow.named Rows.priceParSpec.vars)=true:=by kernel_rfl
theorem QX:((Rows.priceParRow.stops==[]))=true:=by kernel_rfl
theorem QY:((PP.stops==[]))=true:=by kernel_rfl
theorem QZ:((Rows.priceParRow.knobs==[]))=true:=by kernel_rfl
theorem Q5:((PP.stopKnobs==[]))=true:=by kernel_rfl
theorem KX:((Rows.priceParRow.inPlace==PP.inPlace 5))=true:=by kernel_rfl
theorem KY:((Rows.priceParRow.unfollowed==PP.unfollowed 5))=true:=by kernel_rfl
theorem KZ:((Rows.priceParRow.recurses==PP.recurses 5))=true:=by kernel_rfl
theorem K_:((Rows.priceParRow.named==PP.varsNamed 5))=true:=by kernel_rfl
theorem La:((Rows.priceParRow.maps==(Tryz.f5.params.toList++Rows.priceParSpec.plain.varTypes PP).any (PP.mapsRec ·)))=true:=by kernel_rfl
theorem Lc:((Rows.priceParRow.ifaces==(Tryz.f5.params.toList++Rows.priceParSpec.plain.varTypes PP).any (PP.ifacesRec ·)))=true:=by kernel_rfl
theorem Ld:((Rows.priceParRow.mapsOut==PP.mapsAmong Tryz.f5.resultTypes.toList))=true:=by kernel_rfl
theorem Le:((Rows.priceParRow.loops==(Tryz.f5.params.toList++Rows.priceParSpec.plain.varTypes PP).any (PP.loopsFrom ·)))=true:=by kernel_rfl
theorem Lh:((Rows.priceParRow.wideKeys==(Tryz.f5.params.toList++Rows.priceParSpec.plain.varTypes PP++Tryz.f5.resultTypes.toList).any (PP.wideKeysFrom ·)))=true:=by kernel_rfl
theorem Lj:(Rows.priceParSpec.vars.all (PP.varReadable ·))=true:=by kernel_rfl
theorem Ll:(Tryz.f5.resultTypes.all (fun t=>PP.readableRec t && decide (t<PP.types.size)))=true:=by kernel_rfl
theorem Lm:((Rows.priceParRow.ifacesOut==Tryz.f5.resultTypes.toList.any (PP.ifacesRec ·)))=true:=by kernel_rfl
theorem Lp:((Rows.priceParRow.loopsOut==Tryz.f5.resultTypes.toList.any (PP.loopsFrom ·)))=true:=by kernel_rfl
theorem Lr:((Rows.priceParRow.plainKeys==PP.plainKeys))=true:=by kernel_rfl
theorem Ls:(Rows.priceParRow.shortTexts.isNone)=true:=by kernel_rfl
theorem Lu:(PP.stopsHeard)=true:=by kernel_rfl
theorem LC:(PP.mayEnter)=true:=by kernel_rfl
theorem LD:((Rows.priceParRow.lifted==PP.liftsFinal))=true:=by kernel_rfl
theorem LG:((PP.make==some Rows.priceParRow.make))=true:=by kernel_rfl
theorem LH:((Rows.priceParRow.kinds==(if Rows.priceParRow.domain.isEmpty then [] else Tryz.f5.params.toList.map fun t=>match PP.underlying t with | some (.int k)=>some k | _=>none)))=true:=by kernel_rfl
theorem LJ:((Rows.priceParRow.pinned==Rows.priceParRow.pinnedBy))=true:=by kernel_rfl
theorem LK:((Rows.priceParRow.veiled==(Tryz.f5.params.toList++Rows.priceParSpec.plain.varTypes PP++Tryz.f5.resultTypes.toList).any (PP.veiledRec ·)))=true:=by kernel_rfl
theorem LM:(Rows.priceParRow.veiledFits PP Tryz.f5.params.toList (Tryz.f5.params.toList++Rows.priceParSpec.plain.varTypes PP++Tryz.f5.resultTypes.toList))=true:=by kernel_rfl
theorem AZ:joinedFacts PP 5 Tryz.f5 Rows.priceParSpec Rows.priceParRow=true:=bF (bF (bF (bF (bF (bF (bF (bF (bF (bF (bF (bF (bF (bF (bF (bF (bF (bF (bF (bF (bF (bF (bF (bF (bF (bF (bF (bF (bF (bF (bF (QS) QT) QU) QV) QW) QX) QY) QZ) Q5) KX) KY) KZ) K_) La) Lc) Ld) Le) Lh) Lj) Ll) Lm) Lp) Lr) Ls) Lu) LC) LD) LG) LH) LJ) LK) LM
theorem DU:PP.funcNamed Rows.priceParRow.func=some 5:=by kernel_rfl
theorem Io:Tryz.f5.isInstance PP Rows.priceParRow.origin Rows.priceParRow.targs:=of_decide_eq_true (by kernel_rfl)
theorem Ip:Tryz.f5.isWrapper PP Rows.priceParRow.wrapper Rows.priceParRow.mainSum:=by
 unfold Func.isWrapper; first | (rw [if_neg (of_decide_eq_false (by kernel_rfl))]; exact ⟨rfl,rfl⟩) | (rw [if_neg (by decide +kernel)]; exact ⟨rfl,rfl⟩)
theorem aeU:Rows.PriceParSaid :=
 OpenClaim.holds_of_wide 5 Tryz.f5 rfl rfl rfl rfl rfl rfl rfl ⟨rfl,rfl,rfl,rfl,rfl⟩ rfl rfl rfl rfl rfl DU Tryz.func5 AZ
  Io Ip (fun os started H enc _=>LP os started H enc)
theorem Q7:Rows.priceParRow.wfByText (OpenSpec.ofChange Rows.priceParSpec)=true:=by kernel_rfl
theorem A8:PP.mainIs=some (Rows.priceParCard.stood.harness.1,Rows.priceParCard.stood.harness.2.toList):=by kernel_rfl
theorem DT:true=PP.looks []:=by kernel_rfl
theorem Il:false=Rows.priceParRow.goesBy PP:=by kernel_rfl
theorem Ik:PP.funcNamed "rentier/rentierlaw13.PricePar" = some 5:=by kernel_rfl
theorem DV:([3,3,3,2].all fun u => !Tryz.prog.wantsStandIn u)=true:=by kernel_rfl
theorem pricePar_card:Rows.PriceParCardSaid :=
 Claim7.holds_tied_plain_at .later [] [.data,.data,.data,.data,.handle,.sentinel,.sentinel,.pinned] true Rows.priceParCard.stood.harness true aeU (fun _ h=>by cases h) Q7 (fun _ h=>by cases h) pricePar_row_tie rfl ⟨rfl,rfl⟩ A8 rfl
  (fun f fn hf hfn=>by
   obtain rfl:f=5:=Option.some.inj (Ik.symm.trans hf) |>.symm
   obtain rfl:fn=Tryz.f5:=(Option.some.inj (Tryz.func5.symm.trans hfn)).symm
   exact ⟨DT,fun j t ht=>by
    rw [g_] at ht
    have hm:t∈[3,3,3,2]:=by simpa using Array.mem_of_getElem? ht
    exact (show Tryz.prog.wantsStandIn t=false by simpa using List.all_eq_true.1 DV t hm)⟩)
  Il
#print axioms pricePar_card
end Go.Proofs.YtheeamloonpolaaGreatDoor
