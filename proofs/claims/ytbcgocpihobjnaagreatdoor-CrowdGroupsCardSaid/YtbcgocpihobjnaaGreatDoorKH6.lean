/- CrowdGroups: for every input the statement returns true, and its arguments read as before; the row, and its tied card. Condition: the laid tables. -/
import Derived.Test.YtbcgocpihobjnaaGreatDoorCards
import Derived.Test.YtbcgocpihobjnaaGreatDoorTie
import Derived.SevenTiedAt
import Derived.Test.YtbcgocpihobjnaaGreatDoorCG47
import Derived.Test.YtbcgocpihobjnaaGreatDoorCG44
import Derived.Test.YtbcgocpihobjnaaGreatDoorCG46
set_option linter.all false
set_option maxRecDepth 100000
namespace Go.Proofs.YtbcgocpihobjnaaGreatDoor
open Go Go.ChangeShapes Go.WideShapes Go.ChangeAt Go.WideMaps Go.WideElems Go.RowKit Go.Joins
open Go.ChangeMaps (open_string shut_string)
theorem Zgq (os:Os) (started:os.Started) (H:Type) (enc:TypeId×Value→H) :
  ReturnsInHanded {} Tryz.checked os 3 .any (fun w args=>(Rows.crowdGroupsSpec.pre enc Tryz.prog Tryz.f3 [] false w args∧laidMetH Tryz.prog Zwf w)∧sizedMet enc Tryz.prog Tryz.f3 (OpenSpec.ofChange Rows.crowdGroupsSpec) false w args)
   (Rows.crowdGroupsSpec.post enc Tryz.prog Tryz.f3 false true false false):=by
 refine Zxy (C:=Tryz.checked) (X:=fun w _=>laidMetH Tryz.prog Zwf w) (fun _ _ _ hh h=>h.of_heap hh) own started (by kernel_rfl) Tryz.func3
  (ChangeSpec.witness_shaped (enc:=enc) (C:=Tryz.checked) (os:=os) (X:=fun w _=>laidMetH Tryz.prog Zwf w) false (World.doorLaid Tryz.prog 400 os) #[.agg #[.slice none 0 0,.slice none 0 0,.slice none 0 0],.int .u8 0] 8 rfl (Zoy os _) (by kernel_rfl) (by kernel_rfl) (by kernel_rfl) (Zwg os _)) ?_
 intro W base args ds gs before hval0 hW hL hsh;have hval:∀ (j:Nat) t v,Tryz.f3.params[j]?=some t→args[j]?=some v→Value.okWide Tryz.prog W .any base t v:=hval0;have hW':=hW;obtain⟨p,q,hA0,hV,rfl,hfz,hnd⟩:=hW;have hA:DataW.TrodAll enc Tryz.prog W 0 (fun _=>true) true Tryz.f3.params.toList args.toList ds p:=hA0;have hlt:=hA.lt;have hA2:=hA;rw[Tryz.params3] at hA hval;obtain⟨v0,vr0,d0,ds0,p0,q0,hargs,rfl,rfl,h0,r0⟩:=trodAll_cons hA;obtain⟨v1,vr1,d1,ds1,p1,q1,rfl,rfl,rfl,h1,r1⟩:=trodAll_cons r0;obtain⟨rfl,rfl,rfl⟩:=trodAll_nil r1;obtain rfl:args=#[v0,v1]:=Array.toList_inj.1 hargs;obtain⟨rfl,rfl⟩:=trodVars_none hV;obtain⟨q0,vs0,rfl,hc0,hL0,hb0,hm0⟩:=Zys (hval 0 26 v0 rfl rfl) h0;obtain⟨x1,rfl,-,-,w1⟩:=open_int Tryz.underlying5 (hval 1 5 v1 rfl rfl) h1;obtain⟨m1,rfl,u1⟩:=Z10 w1;have G:=Zoa hL hsh
 refine (Zph W q0 vs0 W.heap.size (m1:Int) (by omega) (by omega) hc0 G hL0 hb0 hm0).mono fun e W' ⟨he,hg⟩=>?_
 subst he;exact⟨_,rfl,Zly (pa:=_) (pv:=[]) hW' (fun _ _ _=>trodAll_mk1 (shut_bool Tryz.underlying4 _)) (fun sp hsp=>Zhh (by kernel_rfl) (by kernel_rfl) hA2 (fun x hx=>hg.same (hlt x hx)) (fun x hx=>hsp x (List.mem_append_left _ hx))) (fun _ _=>rfl) rfl hg (ok_one (by kernel_rfl) rfl (okWide_bool_mk Tryz.underlying4 _))⟩
theorem Zj3:(Rows.crowdGroupsRow.wf (OpenSpec.ofChange Rows.crowdGroupsSpec))=true:=by kernel_rfl
theorem Zj4:(Tryz.f3.params.all (Tryz.prog.readableRec ·))=true:=by kernel_rfl
theorem Zj5:(namedTie Tryz.prog Rows.crowdGroupsRow.named Rows.crowdGroupsSpec.vars)=true:=by kernel_rfl
theorem Zj6:((Rows.crowdGroupsRow.stops==[]))=true:=by kernel_rfl
theorem Zj7:((Rows.crowdGroupsRow.knobs==[]))=true:=by kernel_rfl
theorem Zj8:((Rows.crowdGroupsRow.inPlace == Tryz.prog.inPlace 3))=true:=by kernel_rfl
theorem Zi6:((Rows.crowdGroupsRow.unfollowed == Tryz.prog.unfollowed 3))=true:=by kernel_rfl
theorem Zi7:((Rows.crowdGroupsRow.recurses == Tryz.prog.recurses 3))=true:=by kernel_rfl
theorem Zi8:((Rows.crowdGroupsRow.named == Tryz.prog.varsNamed 3))=true:=by kernel_rfl
theorem Zi9:((Rows.crowdGroupsRow.maps==(Tryz.f3.params.toList++Rows.crowdGroupsSpec.plain.varTypes Tryz.prog).any (Tryz.prog.mapsRec ·)))=true:=by kernel_rfl
theorem Zja:((Rows.crowdGroupsRow.ifaces==(Tryz.f3.params.toList++Rows.crowdGroupsSpec.plain.varTypes Tryz.prog).any (Tryz.prog.ifacesRec ·)))=true:=by kernel_rfl
theorem Zjb:((Rows.crowdGroupsRow.mapsOut == Tryz.prog.mapsAmong Tryz.f3.resultTypes.toList))=true:=by kernel_rfl
theorem Zjc:((Rows.crowdGroupsRow.loops==(Tryz.f3.params.toList++Rows.crowdGroupsSpec.plain.varTypes Tryz.prog).any (Tryz.prog.loopsFrom ·)))=true:=by kernel_rfl
theorem Zjd:((Rows.crowdGroupsRow.wideKeys==(Tryz.f3.params.toList++Rows.crowdGroupsSpec.plain.varTypes Tryz.prog ++ Tryz.f3.resultTypes.toList).any (Tryz.prog.wideKeysFrom ·)))=true:=by kernel_rfl
theorem Zje:(Rows.crowdGroupsSpec.vars.all (Tryz.prog.varReadable ·))=true:=by kernel_rfl
theorem Zjf:(Tryz.f3.resultTypes.all (fun t=>Tryz.prog.readableRec t&&decide (t < Tryz.prog.types.size)))=true:=by kernel_rfl
theorem Zjg:((Rows.crowdGroupsRow.ifacesOut == Tryz.f3.resultTypes.toList.any (Tryz.prog.ifacesRec ·)))=true:=by kernel_rfl
theorem Zjh:((Rows.crowdGroupsRow.loopsOut == Tryz.f3.resultTypes.toList.any (Tryz.prog.loopsFrom ·)))=true:=by kernel_rfl
theorem Zji:((Rows.crowdGroupsRow.plainKeys == Tryz.prog.plainKeys))=true:=by kernel_rfl
theorem Zjj:(Rows.crowdGroupsRow.shortTexts.isNone)=true:=by kernel_rfl
theorem Zjk:((Rows.crowdGroupsRow.lifted == Tryz.prog.liftsFinal))=true:=by kernel_rfl
theorem Zjl:((Tryz.prog.make==some Rows.crowdGroupsRow.make))=true:=by kernel_rfl
theorem Zjm:((Rows.crowdGroupsRow.kinds==[]))=true:=by kernel_rfl
theorem Zjn:((Rows.crowdGroupsRow.pinned==Rows.crowdGroupsRow.pinnedBy))=true:=by kernel_rfl
theorem Zjo:((Rows.crowdGroupsRow.veiled==(Tryz.f3.params.toList++Rows.crowdGroupsSpec.plain.varTypes Tryz.prog ++ Tryz.f3.resultTypes.toList).any (Tryz.prog.veiledRec ·)))=true:=by kernel_rfl
theorem Zjp:(Rows.crowdGroupsRow.veiledFits Tryz.prog Tryz.f3.params.toList (Tryz.f3.params.toList++Rows.crowdGroupsSpec.plain.varTypes Tryz.prog ++ Tryz.f3.resultTypes.toList))=true:=by kernel_rfl
theorem Zjq:(Rows.crowdGroupsRow.domain.isEmpty)=true:=by kernel_rfl
theorem Zgr:joinedFacts Tryz.prog 3 Tryz.f3 Rows.crowdGroupsSpec Rows.crowdGroupsRow=true :=
 Zug Zj3 Z2l Z2m Zj4 Zj5 Zj6 Z2n Zj7 Z2o Zj8 Zi6 Zi7 Zi8 Zi9 Zja Zjb Zjc Zjd Zje Zjf Zjg Zjh Zji Zjj Z1v Z1w Zjk Zjl Zjm Zjn Zjo Zjp Zjq
theorem Zhs:Tryz.f3.isInstance Tryz.prog Rows.crowdGroupsRow.origin Rows.crowdGroupsRow.targs:=of_decide_eq_true (by kernel_rfl)
theorem Zht:Tryz.f3.isWrapper Tryz.prog Rows.crowdGroupsRow.wrapper Rows.crowdGroupsRow.mainSum:=by unfold Func.isWrapper;first | (rw[if_pos (by decide +kernel)];kernel_rfl) | (rw[if_neg (by decide +kernel)];exact⟨rfl,rfl⟩)
theorem Zha:Rows.CrowdGroupsSaid :=
 OpenClaim.holds_of_wide 3 Tryz.f3 rfl rfl rfl rfl rfl rfl rfl ⟨rfl,rfl,rfl,rfl,rfl⟩ rfl rfl rfl rfl rfl (by kernel_rfl) Tryz.func3 Zgr
  Zhs Zht
  (fun os started H enc _=>Zgq os started H enc)
theorem Zhu:false=Rows.crowdGroupsRow.goesBy Tryz.prog:=by kernel_rfl
theorem Zjr:Rows.crowdGroupsRow.wfByText (OpenSpec.ofChange Rows.crowdGroupsSpec)=true:=by kernel_rfl
theorem Zj9:Tryz.prog.funcNamed "cloak/cloaklaw09.CrowdGroups"=some 3:=by kernel_rfl
theorem Zjs:([26,5].all fun u=>!Tryz.prog.wantsStandIn u)=true:=by kernel_rfl
theorem crowdGroups_card_holds:Rows.CrowdGroupsCardSaid :=
 Claim7.holds_tied_plain_at .later [] [.widerDeep] true (true,"338451282303b13a8cdbd10538cf236b010dc1946a10f25ba5749e7e6682990c") false
  Zha (fun _ h=>by cases h) Zjr (fun _ h=>by cases h) crowdGroups_row_tie rfl ⟨rfl,rfl⟩ Zwh rfl
  (fun f fn hf hfn=>by
   obtain rfl:f=3:=Option.some.inj (Zj9.symm.trans hf) |>.symm;obtain rfl:fn = Tryz.f3:=(Option.some.inj (Tryz.func3.symm.trans hfn)).symm
   exact⟨Zsk,fun j t ht=>by
    rw[Tryz.params3] at ht
    have hm:t∈[26,5]:=by
     simpa using Array.mem_of_getElem? ht
    exact (show Tryz.prog.wantsStandIn t=false by simpa using List.all_eq_true.1 Zjs t hm)⟩)
  Zhu
#print axioms crowdGroups_card_holds
end Go.Proofs.YtbcgocpihobjnaaGreatDoor
