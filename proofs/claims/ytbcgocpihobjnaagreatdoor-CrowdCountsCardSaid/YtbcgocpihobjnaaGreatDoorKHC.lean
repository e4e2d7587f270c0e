/- CrowdCounts: for every input the statement returns true, and its arguments read as before; the row, and its tied card. Condition: the laid tables. -/
import Derived.Test.YtbcgocpihobjnaaGreatDoorCards
import Derived.Test.YtbcgocpihobjnaaGreatDoorTie
import Derived.SevenTiedAt
import Derived.Test.YtbcgocpihobjnaaGreatDoorCC51
import Derived.Test.YtbcgocpihobjnaaGreatDoorCC50
set_option linter.all false
set_option maxRecDepth 100000
namespace Go.Proofs.YtbcgocpihobjnaaGreatDoor
open Go Go.ChangeShapes Go.WideShapes Go.ChangeAt Go.WideMaps Go.WideElems Go.RowKit Go.Joins
open Go.ChangeMaps (open_string shut_string)
theorem Zhi(os:Os)(started:os.Started)(H:Type)(enc:TypeId×Value->H) :
  ReturnsInHanded {} Tryz.checked os 10 .any (fun w args=>(Rows.crowdCountsSpec.pre enc Tryz.prog Tryz.f10 [] false w args/\laidMetH Tryz.prog Zyv w)/\sizedMet enc Tryz.prog Tryz.f10 (OpenSpec.ofChange Rows.crowdCountsSpec) false w args)
   (Rows.crowdCountsSpec.post enc Tryz.prog Tryz.f10 false true false false):=by
 refine Z0b (C:=Tryz.checked) (X:=fun w _=>laidMetH Tryz.prog Zyv w) (fun _ _ _ hh h=>h.of_heap hh) own started (by kernel_rfl) Tryz.func10
  (ChangeSpec.witness_shaped (enc:=enc) (C:=Tryz.checked) (os:=os) (X:=fun w _=>laidMetH Tryz.prog Zyv w) false (World.doorLaid Tryz.prog 400 os) #[.agg #[.slice none 0 0,.slice none 0 0,.slice none 0 0],.int .i64 0,.slice none 0 0] 8 rfl (Zqb os _) (by kernel_rfl) (by kernel_rfl) (by kernel_rfl) (Zyw os _)) ?_
 intro W base args ds gs before hval0 hW hL hsh;have hval:∀ (j:Nat) t v,Tryz.f10.params[j]?=some t->args[j]?=some v->Value.okWide Tryz.prog W .any base t v:=hval0;have hW':=hW;obtain⟨p,q,hA0,hV,rfl,hfz,hnd⟩:=hW;have hA:DataW.TrodAll enc Tryz.prog W 0 (fun _=>true) true Tryz.f10.params.toList args.toList ds p:=hA0;have hlt:=hA.lt;have hA2:=hA;rw[Tryz.params10] at hA hval;obtain⟨v0,vr0,d0,ds0,p0,q0,hargs,rfl,rfl,h0,r0⟩:=trodAll_cons hA;obtain⟨v1,vr1,d1,ds1,p1,q1,rfl,rfl,rfl,h1,r1⟩:=trodAll_cons r0;obtain⟨v2,vr2,d2,ds2,p2,q2,rfl,rfl,rfl,h2,r2⟩:=trodAll_cons r1;obtain⟨rfl,rfl,rfl⟩:=trodAll_nil r2;obtain rfl:args=#[v0,v1,v2]:=Array.toList_inj.1 hargs;obtain⟨rfl,rfl⟩:=trodVars_none hV;obtain⟨q0,vs0,rfl,hc0,hL0,hb0,hm0⟩:=Z05 (hval 0 26 v0 rfl rfl) h0;obtain⟨x1,rfl,-,-,w1⟩:=open_int Tryz.underlying3 (hval 1 3 v1 rfl rfl) h1;obtain⟨l2,lo2,n2,c2,rfl,hn2,hg2,hb2⟩:=Zxf (hval 2 33 v2 rfl rfl) h2;subst hn2;have G:=Zpk hL hsh
 refine(Zqx W q0 vs0 W.heap.size x1 l2 lo2 c2 hc0 G hL0 hb0 hm0 hb2 hg2).mono fun e W' ⟨he,hg⟩=>?_
 subst he;exact⟨_,rfl,Zm7 (pa:=_) (pv:=[]) hW' (fun _ _ _=>trodAll_mk1 (shut_bool Tryz.underlying4 _)) (fun sp hsp=>Zid (by kernel_rfl) (by kernel_rfl) hA2 (fun x hx=>hg.same (hlt x hx)) (fun x hx=>hsp x (List.mem_append_left _ hx))) (fun _ _=>rfl) rfl hg (ok_one (by kernel_rfl) rfl (okWide_bool_mk Tryz.underlying4 _))⟩
theorem Zld:(Rows.crowdCountsRow.wf (OpenSpec.ofChange Rows.crowdCountsSpec))=true:=by kernel_rfl
theorem Zle:(Tryz.f10.params.all (Tryz.prog.readableRec ·))=true:=by kernel_rfl
theorem Zlf:(namedTie Tryz.prog Rows.crowdCountsRow.named Rows.crowdCountsSpec.vars)=true:=by kernel_rfl
theorem Zlg:((Rows.crowdCountsRow.stops==[]))=true:=by kernel_rfl
theorem Zlh:((Rows.crowdCountsRow.knobs==[]))=true:=by kernel_rfl
theorem Zli:((Rows.crowdCountsRow.inPlace == Tryz.prog.inPlace 10))=true:=by kernel_rfl
theorem Zkh:((Rows.crowdCountsRow.unfollowed == Tryz.prog.unfollowed 10))=true:=by kernel_rfl
theorem Zki:((Rows.crowdCountsRow.recurses == Tryz.prog.recurses 10))=true:=by kernel_rfl
theorem Zkj:((Rows.crowdCountsRow.named == Tryz.prog.varsNamed 10))=true:=by kernel_rfl
theorem Zkk:((Rows.crowdCountsRow.maps==(Tryz.f10.params.toList++Rows.crowdCountsSpec.plain.varTypes Tryz.prog).any (Tryz.prog.mapsRec ·)))=true:=by kernel_rfl
theorem Zkl:((Rows.crowdCountsRow.ifaces==(Tryz.f10.params.toList++Rows.crowdCountsSpec.plain.varTypes Tryz.prog).any (Tryz.prog.ifacesRec ·)))=true:=by kernel_rfl
theorem Zkm:((Rows.crowdCountsRow.mapsOut == Tryz.prog.mapsAmong Tryz.f10.resultTypes.toList))=true:=by kernel_rfl
theorem Zkn:((Rows.crowdCountsRow.loops==(Tryz.f10.params.toList++Rows.crowdCountsSpec.plain.varTypes Tryz.prog).any (Tryz.prog.loopsFrom ·)))=true:=by kernel_rfl
theorem Zko:((Rows.crowdCountsRow.wideKeys==(Tryz.f10.params.toList++Rows.crowdCountsSpec.plain.varTypes Tryz.prog ++ Tryz.f10.resultTypes.toList).any (Tryz.prog.wideKeysFrom ·)))=true:=by kernel_rfl
theorem Zkp:(Rows.crowdCountsSpec.vars.all (Tryz.prog.varReadable ·))=true:=by kernel_rfl
theorem Zkq:(Tryz.f10.resultTypes.all (fun t=>Tryz.prog.readableRec t&&decide (t < Tryz.prog.types.size)))=true:=by kernel_rfl
theorem Zkr:((Rows.crowdCountsRow.ifacesOut == Tryz.f10.resultTypes.toList.any (Tryz.prog.ifacesRec ·)))=true:=by kernel_rfl
theorem Zks:((Rows.crowdCountsRow.loopsOut == Tryz.f10.resultTypes.toList.any (Tryz.prog.loopsFrom ·)))=true:=by kernel_rfl
theorem Zkt:((Rows.crowdCountsRow.plainKeys == Tryz.prog.plainKeys))=true:=by kernel_rfl
theorem Zku:(Rows.crowdCountsRow.shortTexts.isNone)=true:=by kernel_rfl
theorem Zkv:((Rows.crowdCountsRow.lifted == Tryz.prog.liftsFinal))=true:=by kernel_rfl
theorem Zkw:((Tryz.prog.make==some Rows.crowdCountsRow.make))=true:=by kernel_rfl
theorem Zkx:((Rows.crowdCountsRow.kinds==[]))=true:=by kernel_rfl
theorem Zky:((Rows.crowdCountsRow.pinned==Rows.crowdCountsRow.pinnedBy))=true:=by kernel_rfl
theorem Zkz:((Rows.crowdCountsRow.veiled==(Tryz.f10.params.toList++Rows.crowdCountsSpec.plain.varTypes Tryz.prog ++ Tryz.f10.resultTypes.toList).any (Tryz.prog.veiledRec ·)))=true:=by kernel_rfl
theorem Zk0:(Rows.crowdCountsRow.veiledFits Tryz.prog Tryz.f10.params.toList (Tryz.f10.params.toList++Rows.crowdCountsSpec.plain.varTypes Tryz.prog ++ Tryz.f10.resultTypes.toList))=true:=by kernel_rfl
theorem Zk1:(Rows.crowdCountsRow.domain.isEmpty)=true:=by kernel_rfl
theorem Zhj:joinedFacts Tryz.prog 10 Tryz.f10 Rows.crowdCountsSpec Rows.crowdCountsRow=true :=
 Zwo Zld Z48 Z49 Zle Zlf Zlg Z5a Zlh Z5b Zli Zkh Zki Zkj Zkk Zkl Zkm Zkn Zko Zkp Zkq Zkr Zks Zkt Zku Z4h Z4i Zkv Zkw Zkx Zky Zkz Zk0 Zk1
theorem Zir:Tryz.f10.isInstance Tryz.prog Rows.crowdCountsRow.origin Rows.crowdCountsRow.targs:=of_decide_eq_true (by kernel_rfl)
theorem Zis:Tryz.f10.isWrapper Tryz.prog Rows.crowdCountsRow.wrapper Rows.crowdCountsRow.mainSum:=by unfold Func.isWrapper;first | (rw[if_pos (by decide +kernel)];kernel_rfl) | (rw[if_neg (by decide +kernel)];exact⟨rfl,rfl⟩)
theorem Zh5:Rows.CrowdCountsSaid :=
 OpenClaim.holds_of_wide 10 Tryz.f10 rfl rfl rfl rfl rfl rfl rfl ⟨rfl,rfl,rfl,rfl,rfl⟩ rfl rfl rfl rfl rfl (by kernel_rfl) Tryz.func10 Zhj
  Zir Zis
  (fun os started H enc _=>Zhi os started H enc)
theorem Zit:false=Rows.crowdCountsRow.goesBy Tryz.prog:=by kernel_rfl
theorem Zk2:Rows.crowdCountsRow.wfByText (OpenSpec.ofChange Rows.crowdCountsSpec)=true:=by kernel_rfl
theorem Zlj:Tryz.prog.funcNamed "cloak/cloaklaw09.CrowdCounts"=some 10:=by kernel_rfl
theorem Zk3:([26,3,33].all fun u=>!Tryz.prog.wantsStandIn u)=true:=by kernel_rfl
theorem crowdCounts_card_holds:Rows.CrowdCountsCardSaid :=
 Claim7.holds_tied_plain_at .later [] [.widerDeep] true (true,"338451282303b13a8cdbd10538cf236b010dc1946a10f25ba5749e7e6682990c") false
  Zh5 (fun _ h=>by cases h) Zk2 (fun _ h=>by cases h) crowdCounts_row_tie rfl ⟨rfl,rfl⟩ Zyx rfl
  (fun f fn hf hfn=>by
   obtain rfl:f=10:=Option.some.inj (Zlj.symm.trans hf) |>.symm;obtain rfl:fn = Tryz.f10:=(Option.some.inj (Tryz.func10.symm.trans hfn)).symm
   exact⟨Zui,fun j t ht=>by
    rw[Tryz.params10] at ht
    have hm:t∈[26,3,33]:=by
     simpa using Array.mem_of_getElem? ht
    exact(show Tryz.prog.wantsStandIn t=false by simpa using List.all_eq_true.1 Zk3 t hm)⟩)
  Zit
#print axioms crowdCounts_card_holds
end Go.Proofs.YtbcgocpihobjnaaGreatDoor
