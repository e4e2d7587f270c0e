/- CrowdOpens: for every input the statement returns true, and its arguments read as before; the row, and its tied card. Condition: the laid tables. -/
import Derived.Test.YtbcgocpihobjnaaGreatDoorCards
import Derived.Test.YtbcgocpihobjnaaGreatDoorTie
import Derived.SevenTiedAt
import Derived.Test.YtbcgocpihobjnaaGreatDoorCO45
import Derived.Test.YtbcgocpihobjnaaGreatDoorCO44
set_option linter.unusedVariables false
set_option linter.unusedSimpArgs false
set_option maxRecDepth 100000
namespace Go.Proofs.YtbcgocpihobjnaaGreatDoor
open Go Go.ChangeShapes Go.WideShapes Go.ChangeAt Go.WideMaps Go.WideElems Go.RowKit Go.Joins
open Go.ChangeMaps (open_string shut_string)
theorem Zgd (os:Os) (started:os.Started) (H:Type) (enc:TypeId×Value→H) :
  ReturnsInHanded {} Tryz.checked os 13 .any (fun w args=>(Rows.crowdOpensSpec.pre enc Tryz.prog Tryz.f13 [] false w args∧laidMetH Tryz.prog Zud w)∧sizedMet enc Tryz.prog Tryz.f13 (OpenSpec.ofChange Rows.crowdOpensSpec) false w args)
   (Rows.crowdOpensSpec.post enc Tryz.prog Tryz.f13 false true false false):=by
 refine Zvx (C:=Tryz.checked) (X:=fun w _=>laidMetH Tryz.prog Zud w) (fun _ _ _ hh h=>h.of_heap hh) own started (by kernel_rfl) Tryz.func13
  (ChangeSpec.witness_shaped (enc:=enc) (C:=Tryz.checked) (os:=os) (X:=fun w _=>laidMetH Tryz.prog Zud w) false (World.doorLaid Tryz.prog 400 os) #[.agg #[.slice none 0 0,.slice none 0 0,.slice none 0 0],.int .i64 0,.int .u8 0] 8 rfl (Znj os _) (by kernel_rfl) (by kernel_rfl) (by kernel_rfl) (Zue os _)) ?_
 intro W base args ds gs before hval0 hW hL hsh
 have hval:∀ (j:Nat) t v,Tryz.f13.params[j]?=some t→args[j]?=some v→Value.okWide Tryz.prog W .any base t v:=hval0
 have hW':=hW
 obtain⟨p,q,hA0,hV,rfl,hfz,hnd⟩:=hW
 have hA:DataW.TrodAll enc Tryz.prog W 0 (fun _=>true) true Tryz.f13.params.toList args.toList ds p:=hA0
 have hlt:=hA.lt
 have hA2:=hA
 rw[Tryz.params13] at hA hval
 obtain⟨v0,vr0,d0,ds0,p0,q0,hargs,rfl,rfl,h0,r0⟩:=trodAll_cons hA
 obtain⟨v1,vr1,d1,ds1,p1,q1,rfl,rfl,rfl,h1,r1⟩:=trodAll_cons r0
 obtain⟨v2,vr2,d2,ds2,p2,q2,rfl,rfl,rfl,h2,r2⟩:=trodAll_cons r1
 obtain⟨rfl,rfl,rfl⟩:=trodAll_nil r2
 obtain rfl:args=#[v0,v1,v2]:=Array.toList_inj.1 hargs
 obtain⟨rfl,rfl⟩:=trodVars_none hV
 obtain⟨q0,vs0,rfl,hc0,hL0,hb0,hm0⟩:=Zwz (hval 0 26 v0 rfl rfl) h0
 obtain⟨x1,rfl,-,-,w1⟩:=open_int Tryz.underlying3 (hval 1 3 v1 rfl rfl) h1
 obtain⟨x2,rfl,-,-,w2⟩:=open_int Tryz.underlying5 (hval 2 5 v2 rfl rfl) h2
 obtain⟨m2,rfl,u2⟩:=Z0f w2
 have G:=Zmz hL hsh
 refine (Zqx W q0 vs0 W.heap.size x1 (m2:Int) (by omega) (by omega) hc0 G hL0 hb0 hm0).mono fun e W' ⟨he,hg⟩=>?_
 subst he
 exact⟨_,rfl,Zki (pa:=_) (pv:=[]) hW' (fun _ _ _=>trodAll_mk1 (shut_bool Tryz.underlying4 _)) (fun sp hsp=>Zgk (by kernel_rfl) (by kernel_rfl) hA2 (fun x hx=>hg.same (hlt x hx)) (fun x hx=>hsp x (List.mem_append_left _ hx))) (fun _ _=>rfl) rfl hg (ok_one (by kernel_rfl) rfl (okWide_bool_mk Tryz.underlying4 _))⟩
theorem Zk7:(Rows.crowdOpensRow.wf (OpenSpec.ofChange Rows.crowdOpensSpec))=true:=by kernel_rfl
theorem Zk8:(Tryz.f13.params.all (Tryz.prog.readableRec ·))=true:=by kernel_rfl
theorem Zk9:(namedTie Tryz.prog Rows.crowdOpensRow.named Rows.crowdOpensSpec.vars)=true:=by kernel_rfl
theorem Zla:((Rows.crowdOpensRow.stops==[]))=true:=by kernel_rfl
theorem Zlb:((Rows.crowdOpensRow.knobs==[]))=true:=by kernel_rfl
theorem Zlc:((Rows.crowdOpensRow.inPlace == Tryz.prog.inPlace 13))=true:=by kernel_rfl
theorem Zip:((Rows.crowdOpensRow.unfollowed == Tryz.prog.unfollowed 13))=true:=by kernel_rfl
theorem Ziq:((Rows.crowdOpensRow.recurses == Tryz.prog.recurses 13))=true:=by kernel_rfl
theorem Zir:((Rows.crowdOpensRow.named == Tryz.prog.varsNamed 13))=true:=by kernel_rfl
theorem Zis:((Rows.crowdOpensRow.maps==(Tryz.f13.params.toList++Rows.crowdOpensSpec.plain.varTypes Tryz.prog).any (Tryz.prog.mapsRec ·)))=true:=by kernel_rfl
theorem Zit:((Rows.crowdOpensRow.ifaces==(Tryz.f13.params.toList++Rows.crowdOpensSpec.plain.varTypes Tryz.prog).any (Tryz.prog.ifacesRec ·)))=true:=by kernel_rfl
theorem Ziu:((Rows.crowdOpensRow.mapsOut == Tryz.prog.mapsAmong Tryz.f13.resultTypes.toList))=true:=by kernel_rfl
theorem Ziv:((Rows.crowdOpensRow.loops==(Tryz.f13.params.toList++Rows.crowdOpensSpec.plain.varTypes Tryz.prog).any (Tryz.prog.loopsFrom ·)))=true:=by kernel_rfl
theorem Ziw:((Rows.crowdOpensRow.wideKeys==(Tryz.f13.params.toList++Rows.crowdOpensSpec.plain.varTypes Tryz.prog ++ Tryz.f13.resultTypes.toList).any (Tryz.prog.wideKeysFrom ·)))=true:=by kernel_rfl
theorem Zix:(Rows.crowdOpensSpec.vars.all (Tryz.prog.varReadable ·))=true:=by kernel_rfl
theorem Ziy:(Tryz.f13.resultTypes.all (fun t=>Tryz.prog.readableRec t&&decide (t < Tryz.prog.types.size)))=true:=by kernel_rfl
theorem Ziz:((Rows.crowdOpensRow.ifacesOut == Tryz.f13.resultTypes.toList.any (Tryz.prog.ifacesRec ·)))=true:=by kernel_rfl
theorem Zi0:((Rows.crowdOpensRow.loopsOut == Tryz.f13.resultTypes.toList.any (Tryz.prog.loopsFrom ·)))=true:=by kernel_rfl
theorem Zi1:((Rows.crowdOpensRow.plainKeys == Tryz.prog.plainKeys))=true:=by kernel_rfl
theorem Zi2:(Rows.crowdOpensRow.shortTexts.isNone)=true:=by kernel_rfl
theorem Zi3:((Rows.crowdOpensRow.lifted == Tryz.prog.liftsFinal))=true:=by kernel_rfl
theorem Zi4:((Tryz.prog.make==some Rows.crowdOpensRow.make))=true:=by kernel_rfl
theorem Zi5:((Rows.crowdOpensRow.kinds==[]))=true:=by kernel_rfl
theorem Zi6:((Rows.crowdOpensRow.pinned==Rows.crowdOpensRow.pinnedBy))=true:=by kernel_rfl
theorem Zi7:((Rows.crowdOpensRow.veiled==(Tryz.f13.params.toList++Rows.crowdOpensSpec.plain.varTypes Tryz.prog ++ Tryz.f13.resultTypes.toList).any (Tryz.prog.veiledRec ·)))=true:=by kernel_rfl
theorem Zi8:(Rows.crowdOpensRow.veiledFits Tryz.prog Tryz.f13.params.toList (Tryz.f13.params.toList++Rows.crowdOpensSpec.plain.varTypes Tryz.prog ++ Tryz.f13.resultTypes.toList))=true:=by kernel_rfl
theorem Zi9:(Rows.crowdOpensRow.domain.isEmpty)=true:=by kernel_rfl
theorem Zge:joinedFacts Tryz.prog 13 Tryz.f13 Rows.crowdOpensSpec Rows.crowdOpensRow=true :=
 Zsq Zk7 Z00 Z01 Zk8 Zk9 Zla Z02 Zlb Z03 Zlc Zip Ziq Zir Zis Zit Ziu Ziv Ziw Zix Ziy Ziz Zi0 Zi1 Zi2 Z0a Z0b Zi3 Zi4 Zi5 Zi6 Zi7 Zi8 Zi9
theorem Zh7:Tryz.f13.isInstance Tryz.prog Rows.crowdOpensRow.origin Rows.crowdOpensRow.targs:=of_decide_eq_true (by kernel_rfl)
theorem Zh8:Tryz.f13.isWrapper Tryz.prog Rows.crowdOpensRow.wrapper Rows.crowdOpensRow.mainSum:=by unfold Func.isWrapper;first | (rw[if_pos (by decide +kernel)];kernel_rfl) | (rw[if_neg (by decide +kernel)];exact⟨rfl,rfl⟩)
theorem Zgy:Rows.CrowdOpensSaid :=
 OpenClaim.holds_of_wide 13 Tryz.f13 rfl rfl rfl rfl rfl rfl rfl ⟨rfl,rfl,rfl,rfl,rfl⟩ rfl rfl rfl rfl rfl (by kernel_rfl) Tryz.func13 Zge
  Zh7 Zh8
  (fun os started H enc _=>Zgd os started H enc)
theorem Zh9:false=Rows.crowdOpensRow.goesBy Tryz.prog:=by kernel_rfl
theorem Zja:Rows.crowdOpensRow.wfByText (OpenSpec.ofChange Rows.crowdOpensSpec)=true:=by kernel_rfl
theorem Zld:Tryz.prog.funcNamed "cloak/cloaklaw09.CrowdOpens"=some 13:=by kernel_rfl
theorem Zjb:([26,3,5].all fun u=>!Tryz.prog.wantsStandIn u)=true:=by kernel_rfl
theorem crowdOpens_card_holds:Rows.CrowdOpensCardSaid :=
 Claim7.holds_tied_plain_at .later [] [.widerDeep] true (true,"338451282303b13a8cdbd10538cf236b010dc1946a10f25ba5749e7e6682990c") false
  Zgy (fun _ h=>by cases h) Zja (fun _ h=>by cases h) crowdOpens_row_tie rfl ⟨rfl,rfl⟩ Zuf rfl
  (fun f fn hf hfn=>by
   obtain rfl:f=13:=Option.some.inj (Zld.symm.trans hf) |>.symm
   obtain rfl:fn = Tryz.f13:=(Option.some.inj (Tryz.func13.symm.trans hfn)).symm
   exact⟨Zqy,fun j t ht=>by
    rw[Tryz.params13] at ht
    have hm:t∈[26,3,5]:=by
     simpa using Array.mem_of_getElem? ht
    exact (show Tryz.prog.wantsStandIn t=false by simpa using List.all_eq_true.1 Zjb t hm)⟩)
  Zh9
#print axioms crowdOpens_card_holds
end Go.Proofs.YtbcgocpihobjnaaGreatDoor
