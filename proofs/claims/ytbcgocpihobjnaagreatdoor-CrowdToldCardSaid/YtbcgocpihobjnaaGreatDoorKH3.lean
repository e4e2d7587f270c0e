/- CrowdTold: for every input the statement returns true, and its arguments read as before; the row, and its tied card. Condition: the laid tables. -/
import Derived.Test.YtbcgocpihobjnaaGreatDoorCards
import Derived.Test.YtbcgocpihobjnaaGreatDoorTie
import Derived.SevenTiedAt
import Derived.Test.YtbcgocpihobjnaaGreatDoorCT45
import Derived.Test.YtbcgocpihobjnaaGreatDoorCT44
set_option linter.unusedVariables false
set_option linter.unusedSimpArgs false
set_option maxRecDepth 100000
namespace Go.Proofs.YtbcgocpihobjnaaGreatDoor
open Go Go.ChangeShapes Go.WideShapes Go.ChangeAt Go.WideMaps Go.WideElems Go.RowKit Go.Joins
open Go.ChangeMaps (open_string shut_string)
theorem Zg4 (os:Os) (started:os.Started) (H:Type) (enc:TypeId×Value→H) :
  ReturnsInHanded {} Tryz.checked os 12 .any (fun w args=>(Rows.crowdToldSpec.pre enc Tryz.prog Tryz.f12 [] false w args∧laidMetH Tryz.prog Zuk w)∧sizedMet enc Tryz.prog Tryz.f12 (OpenSpec.ofChange Rows.crowdToldSpec) false w args)
   (Rows.crowdToldSpec.post enc Tryz.prog Tryz.f12 false true false false):=by
 refine Zv5 (C:=Tryz.checked) (X:=fun w _=>laidMetH Tryz.prog Zuk w) (fun _ _ _ hh h=>h.of_heap hh) own started (by kernel_rfl) Tryz.func12
  (ChangeSpec.witness_shaped (enc:=enc) (C:=Tryz.checked) (os:=os) (X:=fun w _=>laidMetH Tryz.prog Zuk w) false (World.doorLaid Tryz.prog 400 os) #[.agg #[.slice none 0 0,.slice none 0 0,.slice none 0 0],.agg #[.int .i64 0,.int .i64 0,.int .i64 0,.int .i64 0]] 8 rfl (Znk os _) (by kernel_rfl) (by kernel_rfl) (by kernel_rfl) (Zul os _)) ?_
 intro W base args ds gs before hval0 hW hL hsh
 have hval:∀ (j:Nat) t v,Tryz.f12.params[j]?=some t→args[j]?=some v→Value.okWide Tryz.prog W .any base t v:=hval0
 have hW':=hW
 obtain⟨p,q,hA0,hV,rfl,hfz,hnd⟩:=hW
 have hA:DataW.TrodAll enc Tryz.prog W 0 (fun _=>true) true Tryz.f12.params.toList args.toList ds p:=hA0
 have hlt:=hA.lt
 have hA2:=hA
 rw[Tryz.params12] at hA hval
 obtain⟨v0,vr0,d0,ds0,p0,q0,hargs,rfl,rfl,h0,r0⟩:=trodAll_cons hA
 obtain⟨v1,vr1,d1,ds1,p1,q1,rfl,rfl,rfl,h1,r1⟩:=trodAll_cons r0
 obtain⟨rfl,rfl,rfl⟩:=trodAll_nil r1
 obtain rfl:args=#[v0,v1]:=Array.toList_inj.1 hargs
 obtain⟨rfl,rfl⟩:=trodVars_none hV
 obtain⟨q0,vs0,rfl,hc0,hL0,hb0,hm0⟩:=Zw6 (hval 0 26 v0 rfl rfl) h0
 obtain⟨x1,rfl⟩:=Zw8 (hval 1 39 v1 rfl rfl) h1
 have G:=Zmu hL hsh
 refine (Zuj W q0 vs0 W.heap.size x1 hc0 G hL0 hb0 hm0).mono fun e W' ⟨he,hg⟩=>?_
 subst he
 exact⟨_,rfl,Zj5 (pa:=_) (pv:=[]) hW' (fun _ _ _=>trodAll_mk1 (shut_bool Tryz.underlying4 _)) (fun sp hsp=>Zgq (by kernel_rfl) (by kernel_rfl) hA2 (fun x hx=>hg.same (hlt x hx)) (fun x hx=>hsp x (List.mem_append_left _ hx))) (fun _ _=>rfl) rfl hg (ok_one (by kernel_rfl) rfl (okWide_bool_mk Tryz.underlying4 _))⟩
theorem Zmv:(Rows.crowdToldRow.wf (OpenSpec.ofChange Rows.crowdToldSpec))=true:=by kernel_rfl
theorem Zmw:(Tryz.f12.params.all (Tryz.prog.readableRec ·))=true:=by kernel_rfl
theorem Zmx:(namedTie Tryz.prog Rows.crowdToldRow.named Rows.crowdToldSpec.vars)=true:=by kernel_rfl
theorem Zmy:((Rows.crowdToldRow.stops==[]))=true:=by kernel_rfl
theorem Zmz:((Rows.crowdToldRow.knobs==[]))=true:=by kernel_rfl
theorem Zm0:((Rows.crowdToldRow.inPlace == Tryz.prog.inPlace 12))=true:=by kernel_rfl
theorem Zkm:((Rows.crowdToldRow.unfollowed == Tryz.prog.unfollowed 12))=true:=by kernel_rfl
theorem Zkn:((Rows.crowdToldRow.recurses == Tryz.prog.recurses 12))=true:=by kernel_rfl
theorem Zko:((Rows.crowdToldRow.named == Tryz.prog.varsNamed 12))=true:=by kernel_rfl
theorem Zkp:((Rows.crowdToldRow.maps==(Tryz.f12.params.toList++Rows.crowdToldSpec.plain.varTypes Tryz.prog).any (Tryz.prog.mapsRec ·)))=true:=by kernel_rfl
theorem Zkq:((Rows.crowdToldRow.ifaces==(Tryz.f12.params.toList++Rows.crowdToldSpec.plain.varTypes Tryz.prog).any (Tryz.prog.ifacesRec ·)))=true:=by kernel_rfl
theorem Zkr:((Rows.crowdToldRow.mapsOut == Tryz.prog.mapsAmong Tryz.f12.resultTypes.toList))=true:=by kernel_rfl
theorem Zks:((Rows.crowdToldRow.loops==(Tryz.f12.params.toList++Rows.crowdToldSpec.plain.varTypes Tryz.prog).any (Tryz.prog.loopsFrom ·)))=true:=by kernel_rfl
theorem Zkt:((Rows.crowdToldRow.wideKeys==(Tryz.f12.params.toList++Rows.crowdToldSpec.plain.varTypes Tryz.prog ++ Tryz.f12.resultTypes.toList).any (Tryz.prog.wideKeysFrom ·)))=true:=by kernel_rfl
theorem Zku:(Rows.crowdToldSpec.vars.all (Tryz.prog.varReadable ·))=true:=by kernel_rfl
theorem Zkv:(Tryz.f12.resultTypes.all (fun t=>Tryz.prog.readableRec t&&decide (t < Tryz.prog.types.size)))=true:=by kernel_rfl
theorem Zkw:((Rows.crowdToldRow.ifacesOut == Tryz.f12.resultTypes.toList.any (Tryz.prog.ifacesRec ·)))=true:=by kernel_rfl
theorem Zkx:((Rows.crowdToldRow.loopsOut == Tryz.f12.resultTypes.toList.any (Tryz.prog.loopsFrom ·)))=true:=by kernel_rfl
theorem Zky:((Rows.crowdToldRow.plainKeys == Tryz.prog.plainKeys))=true:=by kernel_rfl
theorem Zkz:(Rows.crowdToldRow.shortTexts.isNone)=true:=by kernel_rfl
theorem Zk0:((Rows.crowdToldRow.lifted == Tryz.prog.liftsFinal))=true:=by kernel_rfl
theorem Zk1:((Tryz.prog.make==some Rows.crowdToldRow.make))=true:=by kernel_rfl
theorem Zk2:((Rows.crowdToldRow.kinds==[]))=true:=by kernel_rfl
theorem Zk3:((Rows.crowdToldRow.pinned==Rows.crowdToldRow.pinnedBy))=true:=by kernel_rfl
theorem Zk4:((Rows.crowdToldRow.veiled==(Tryz.f12.params.toList++Rows.crowdToldSpec.plain.varTypes Tryz.prog ++ Tryz.f12.resultTypes.toList).any (Tryz.prog.veiledRec ·)))=true:=by kernel_rfl
theorem Zk5:(Rows.crowdToldRow.veiledFits Tryz.prog Tryz.f12.params.toList (Tryz.f12.params.toList++Rows.crowdToldSpec.plain.varTypes Tryz.prog ++ Tryz.f12.resultTypes.toList))=true:=by kernel_rfl
theorem Zk6:(Rows.crowdToldRow.domain.isEmpty)=true:=by kernel_rfl
theorem Zg5:joinedFacts Tryz.prog 12 Tryz.f12 Rows.crowdToldSpec Rows.crowdToldRow=true :=
 Zsn Zmv Z05 Z06 Zmw Zmx Zmy Z07 Zmz Z08 Zm0 Zkm Zkn Zko Zkp Zkq Zkr Zks Zkt Zku Zkv Zkw Zkx Zky Zkz Z0g Z0h Zk0 Zk1 Zk2 Zk3 Zk4 Zk5 Zk6
theorem Ziu:Tryz.f12.isInstance Tryz.prog Rows.crowdToldRow.origin Rows.crowdToldRow.targs:=of_decide_eq_true (by kernel_rfl)
theorem Ziv:Tryz.f12.isWrapper Tryz.prog Rows.crowdToldRow.wrapper Rows.crowdToldRow.mainSum:=by unfold Func.isWrapper;first | (rw[if_pos (by decide +kernel)];kernel_rfl) | (rw[if_neg (by decide +kernel)];exact⟨rfl,rfl⟩)
theorem Zie:Rows.CrowdToldSaid :=
 OpenClaim.holds_of_wide 12 Tryz.f12 rfl rfl rfl rfl rfl rfl rfl ⟨rfl,rfl,rfl,rfl,rfl⟩ rfl rfl rfl rfl rfl (by kernel_rfl) Tryz.func12 Zg5
  Ziu Ziv
  (fun os started H enc _=>Zg4 os started H enc)
theorem Ziw:false=Rows.crowdToldRow.goesBy Tryz.prog:=by kernel_rfl
theorem Zk7:Rows.crowdToldRow.wfByText (OpenSpec.ofChange Rows.crowdToldSpec)=true:=by kernel_rfl
theorem Zm1:Tryz.prog.funcNamed "cloak/cloaklaw09.CrowdTold"=some 12:=by kernel_rfl
theorem Zk8:([26,39].all fun u=>!Tryz.prog.wantsStandIn u)=true:=by kernel_rfl
theorem crowdTold_card_holds:Rows.CrowdToldCardSaid :=
 Claim7.holds_tied_plain_at .later [] [.widerDeep] true (true,"338451282303b13a8cdbd10538cf236b010dc1946a10f25ba5749e7e6682990c") false
  Zie (fun _ h=>by cases h) Zk7 (fun _ h=>by cases h) crowdTold_row_tie rfl ⟨rfl,rfl⟩ Zum rfl
  (fun f fn hf hfn=>by
   obtain rfl:f=12:=Option.some.inj (Zm1.symm.trans hf) |>.symm
   obtain rfl:fn = Tryz.f12:=(Option.some.inj (Tryz.func12.symm.trans hfn)).symm
   exact⟨Zqv,fun j t ht=>by
    rw[Tryz.params12] at ht
    have hm:t∈[26,39]:=by
     simpa using Array.mem_of_getElem? ht
    exact (show Tryz.prog.wantsStandIn t=false by simpa using List.all_eq_true.1 Zk8 t hm)⟩)
  Ziw
#print axioms crowdTold_card_holds
end Go.Proofs.YtbcgocpihobjnaaGreatDoor
