/- CrowdRelax: for every input the statement returns true, and its arguments read as before; the row, and its tied card. Condition: the laid tables. -/
import Derived.Test.YtbcgocpihobjnaaGreatDoorCards
import Derived.Test.YtbcgocpihobjnaaGreatDoorTie
import Derived.SevenTiedAt
import Derived.Test.YtbcgocpihobjnaaGreatDoorCR44
import Derived.Test.YtbcgocpihobjnaaGreatDoorCR43
set_option linter.unusedVariables false
set_option linter.unusedSimpArgs false
set_option maxRecDepth 100000
namespace Go.Proofs.YtbcgocpihobjnaaGreatDoor
open Go Go.ChangeShapes Go.WideShapes Go.ChangeAt Go.WideMaps Go.WideElems Go.RowKit Go.Joins
open Go.ChangeMaps (open_string shut_string)
theorem Zf6 (os:Os) (started:os.Started) (H:Type) (enc:TypeId×Value→H) :
  ReturnsInHanded {} Tryz.checked os 9 .any (fun w args=>(Rows.crowdRelaxSpec.pre enc Tryz.prog Tryz.f9 [] false w args∧laidMetH Tryz.prog Zte w)∧sizedMet enc Tryz.prog Tryz.f9 (OpenSpec.ofChange Rows.crowdRelaxSpec) false w args)
   (Rows.crowdRelaxSpec.post enc Tryz.prog Tryz.f9 false true false false):=by
 refine Zus (C:=Tryz.checked) (X:=fun w _=>laidMetH Tryz.prog Zte w) (fun _ _ _ hh h=>h.of_heap hh) own started (by kernel_rfl) Tryz.func9
  (ChangeSpec.witness_shaped (enc:=enc) (C:=Tryz.checked) (os:=os) (X:=fun w _=>laidMetH Tryz.prog Zte w) false (World.doorLaid Tryz.prog 400 os) #[.agg #[.slice none 0 0,.slice none 0 0,.slice none 0 0],.slice none 0 0,.slice none 0 0,.slice none 0 0] 8 rfl (Zmq os _) (by kernel_rfl) (by kernel_rfl) (by kernel_rfl) (Ztf os _)) ?_
 intro W base args ds gs before hval0 hW hL hsh
 have hval:∀ (j:Nat) t v,Tryz.f9.params[j]?=some t→args[j]?=some v→Value.okWide Tryz.prog W .any base t v:=hval0
 have hW':=hW
 obtain⟨p,q,hA0,hV,rfl,hfz,hnd⟩:=hW
 have hA:DataW.TrodAll enc Tryz.prog W 0 (fun _=>true) true Tryz.f9.params.toList args.toList ds p:=hA0
 have hlt:=hA.lt
 have hA2:=hA
 rw[Tryz.params9] at hA hval
 obtain⟨v0,vr0,d0,ds0,p0,q0,hargs,rfl,rfl,h0,r0⟩:=trodAll_cons hA
 obtain⟨v1,vr1,d1,ds1,p1,q1,rfl,rfl,rfl,h1,r1⟩:=trodAll_cons r0
 obtain⟨v2,vr2,d2,ds2,p2,q2,rfl,rfl,rfl,h2,r2⟩:=trodAll_cons r1
 obtain⟨v3,vr3,d3,ds3,p3,q3,rfl,rfl,rfl,h3,r3⟩:=trodAll_cons r2
 obtain⟨rfl,rfl,rfl⟩:=trodAll_nil r3
 obtain rfl:args=#[v0,v1,v2,v3]:=Array.toList_inj.1 hargs
 obtain⟨rfl,rfl⟩:=trodVars_none hV
 obtain⟨q0,vs0,rfl,hc0,hL0,hb0,hm0⟩:=Zvn (hval 0 26 v0 rfl rfl) h0
 obtain⟨l1,lo1,n1,c1,rfl,hn1,hg1,hb1⟩:=Zr6 (hval 1 33 v1 rfl rfl) h1
 obtain⟨l2,lo2,n2,c2,rfl,hn2,hg2,hb2⟩:=Ztc (hval 2 64 v2 rfl rfl) h2
 obtain⟨l3,lo3,n3,c3,rfl,hn3,hg3,hb3⟩:=Ztd (hval 3 56 v3 rfl rfl) h3
 subst hn1
 subst hn2
 subst hn3
 have G:=Zl5 hL hsh
 refine (Zpu W q0 vs0 W.heap.size l1 lo1 c1 l2 lo2 c2 l3 lo3 c3 hc0 G hL0 hb0 hm0 hb1 hg1 hb3 hg3 hb2 hg2).mono fun e W' ⟨he,hg⟩=>?_
 subst he
 exact⟨_,rfl,Zj0 (pa:=_) (pv:=[]) hW' (fun _ _ _=>trodAll_mk1 (shut_bool Tryz.underlying4 _)) (fun sp hsp=>Zgc (by kernel_rfl) (by kernel_rfl) hA2 (fun x hx=>hg.same (hlt x hx)) (fun x hx=>hsp x (List.mem_append_left _ hx))) (fun _ _=>rfl) rfl hg (ok_one (by kernel_rfl) rfl (okWide_bool_mk Tryz.underlying4 _))⟩
theorem Zkh:(Rows.crowdRelaxRow.wf (OpenSpec.ofChange Rows.crowdRelaxSpec))=true:=by kernel_rfl
theorem Zki:(Tryz.f9.params.all (Tryz.prog.readableRec ·))=true:=by kernel_rfl
theorem Zkj:(namedTie Tryz.prog Rows.crowdRelaxRow.named Rows.crowdRelaxSpec.vars)=true:=by kernel_rfl
theorem Zkk:((Rows.crowdRelaxRow.stops==[]))=true:=by kernel_rfl
theorem Zkl:((Rows.crowdRelaxRow.knobs==[]))=true:=by kernel_rfl
theorem Zkm:((Rows.crowdRelaxRow.inPlace == Tryz.prog.inPlace 9))=true:=by kernel_rfl
theorem Zia:((Rows.crowdRelaxRow.unfollowed == Tryz.prog.unfollowed 9))=true:=by kernel_rfl
theorem Zib:((Rows.crowdRelaxRow.recurses == Tryz.prog.recurses 9))=true:=by kernel_rfl
theorem Zic:((Rows.crowdRelaxRow.named == Tryz.prog.varsNamed 9))=true:=by kernel_rfl
theorem Zid:((Rows.crowdRelaxRow.maps==(Tryz.f9.params.toList++Rows.crowdRelaxSpec.plain.varTypes Tryz.prog).any (Tryz.prog.mapsRec ·)))=true:=by kernel_rfl
theorem Zie:((Rows.crowdRelaxRow.ifaces==(Tryz.f9.params.toList++Rows.crowdRelaxSpec.plain.varTypes Tryz.prog).any (Tryz.prog.ifacesRec ·)))=true:=by kernel_rfl
theorem Zif:((Rows.crowdRelaxRow.mapsOut == Tryz.prog.mapsAmong Tryz.f9.resultTypes.toList))=true:=by kernel_rfl
theorem Zig:((Rows.crowdRelaxRow.loops==(Tryz.f9.params.toList++Rows.crowdRelaxSpec.plain.varTypes Tryz.prog).any (Tryz.prog.loopsFrom ·)))=true:=by kernel_rfl
theorem Zih:((Rows.crowdRelaxRow.wideKeys==(Tryz.f9.params.toList++Rows.crowdRelaxSpec.plain.varTypes Tryz.prog ++ Tryz.f9.resultTypes.toList).any (Tryz.prog.wideKeysFrom ·)))=true:=by kernel_rfl
theorem Zii:(Rows.crowdRelaxSpec.vars.all (Tryz.prog.varReadable ·))=true:=by kernel_rfl
theorem Zij:(Tryz.f9.resultTypes.all (fun t=>Tryz.prog.readableRec t&&decide (t < Tryz.prog.types.size)))=true:=by kernel_rfl
theorem Zik:((Rows.crowdRelaxRow.ifacesOut == Tryz.f9.resultTypes.toList.any (Tryz.prog.ifacesRec ·)))=true:=by kernel_rfl
theorem Zil:((Rows.crowdRelaxRow.loopsOut == Tryz.f9.resultTypes.toList.any (Tryz.prog.loopsFrom ·)))=true:=by kernel_rfl
theorem Zim:((Rows.crowdRelaxRow.plainKeys == Tryz.prog.plainKeys))=true:=by kernel_rfl
theorem Zin:(Rows.crowdRelaxRow.shortTexts.isNone)=true:=by kernel_rfl
theorem Zio:((Rows.crowdRelaxRow.lifted == Tryz.prog.liftsFinal))=true:=by kernel_rfl
theorem Zip:((Tryz.prog.make==some Rows.crowdRelaxRow.make))=true:=by kernel_rfl
theorem Ziq:((Rows.crowdRelaxRow.kinds==[]))=true:=by kernel_rfl
theorem Zir:((Rows.crowdRelaxRow.pinned==Rows.crowdRelaxRow.pinnedBy))=true:=by kernel_rfl
theorem Zis:((Rows.crowdRelaxRow.veiled==(Tryz.f9.params.toList++Rows.crowdRelaxSpec.plain.varTypes Tryz.prog ++ Tryz.f9.resultTypes.toList).any (Tryz.prog.veiledRec ·)))=true:=by kernel_rfl
theorem Zit:(Rows.crowdRelaxRow.veiledFits Tryz.prog Tryz.f9.params.toList (Tryz.f9.params.toList++Rows.crowdRelaxSpec.plain.varTypes Tryz.prog ++ Tryz.f9.resultTypes.toList))=true:=by kernel_rfl
theorem Ziu:(Rows.crowdRelaxRow.domain.isEmpty)=true:=by kernel_rfl
theorem Zf7:joinedFacts Tryz.prog 9 Tryz.f9 Rows.crowdRelaxSpec Rows.crowdRelaxRow=true :=
 Zrk Zkh Zy4 Zy5 Zki Zkj Zkk Zy6 Zkl Zy7 Zkm Zia Zib Zic Zid Zie Zif Zig Zih Zii Zij Zik Zil Zim Zin Zyj Zyk Zio Zip Ziq Zir Zis Zit Ziu
theorem Zhr:Tryz.f9.isInstance Tryz.prog Rows.crowdRelaxRow.origin Rows.crowdRelaxRow.targs:=of_decide_eq_true (by kernel_rfl)
theorem Zhs:Tryz.f9.isWrapper Tryz.prog Rows.crowdRelaxRow.wrapper Rows.crowdRelaxRow.mainSum:=by unfold Func.isWrapper;first | (rw[if_pos (by decide +kernel)];kernel_rfl) | (rw[if_neg (by decide +kernel)];exact⟨rfl,rfl⟩)
theorem Zgm:Rows.CrowdRelaxSaid :=
 OpenClaim.holds_of_wide 9 Tryz.f9 rfl rfl rfl rfl rfl rfl rfl ⟨rfl,rfl,rfl,rfl,rfl⟩ rfl rfl rfl rfl rfl (by kernel_rfl) Tryz.func9 Zf7
  Zhr Zhs
  (fun os started H enc _=>Zf6 os started H enc)
theorem Zht:false=Rows.crowdRelaxRow.goesBy Tryz.prog:=by kernel_rfl
theorem Ziv:Rows.crowdRelaxRow.wfByText (OpenSpec.ofChange Rows.crowdRelaxSpec)=true:=by kernel_rfl
theorem Zkn:Tryz.prog.funcNamed "cloak/cloaklaw09.CrowdRelax"=some 9:=by kernel_rfl
theorem Ziw:([26,33,64,56].all fun u=>!Tryz.prog.wantsStandIn u)=true:=by kernel_rfl
theorem crowdRelax_card_holds:Rows.CrowdRelaxCardSaid :=
 Claim7.holds_tied_plain_at .later [] [.widerDeep] true (true,"338451282303b13a8cdbd10538cf236b010dc1946a10f25ba5749e7e6682990c") false
  Zgm (fun _ h=>by cases h) Ziv (fun _ h=>by cases h) crowdRelax_row_tie rfl ⟨rfl,rfl⟩ Ztg rfl
  (fun f fn hf hfn=>by
   obtain rfl:f=9:=Option.some.inj (Zkn.symm.trans hf) |>.symm
   obtain rfl:fn = Tryz.f9:=(Option.some.inj (Tryz.func9.symm.trans hfn)).symm
   exact⟨Zpv,fun j t ht=>by
    rw[Tryz.params9] at ht
    have hm:t∈[26,33,64,56]:=by
     simpa using Array.mem_of_getElem? ht
    exact (show Tryz.prog.wantsStandIn t=false by simpa using List.all_eq_true.1 Ziw t hm)⟩)
  Zht
#print axioms crowdRelax_card_holds
end Go.Proofs.YtbcgocpihobjnaaGreatDoor
