/- CrowdExplains: for every input the statement returns true, and its arguments read as before; the row, and its tied card. Condition: the laid tables. -/
import Derived.Test.YtbcgocpihobjnaaGreatDoorCards
import Derived.Test.YtbcgocpihobjnaaGreatDoorTie
import Derived.SevenTiedAt
import Derived.Test.YtbcgocpihobjnaaGreatDoorCX46
import Derived.Test.YtbcgocpihobjnaaGreatDoorCX44
import Derived.Test.YtbcgocpihobjnaaGreatDoorCX45
set_option linter.all false
set_option maxRecDepth 100000
namespace Go.Proofs.YtbcgocpihobjnaaGreatDoor
open Go Go.ChangeShapes Go.WideShapes Go.ChangeAt Go.WideMaps Go.WideElems Go.RowKit Go.Joins
open Go.ChangeMaps (open_string shut_string)
theorem Ze8 (os:Os) (started:os.Started) (H:Type) (enc:TypeId×Value→H) :
  ReturnsInHanded {} Tryz.checked os 7 .any (fun w args=>(Rows.crowdExplainsSpec.pre enc Tryz.prog Tryz.f7 [] false w args∧laidMetH Tryz.prog Zvd w)∧sizedMet enc Tryz.prog Tryz.f7 (OpenSpec.ofChange Rows.crowdExplainsSpec) false w args)
   (Rows.crowdExplainsSpec.post enc Tryz.prog Tryz.f7 false true false false):=by
 refine Zwt (C:=Tryz.checked) (X:=fun w _=>laidMetH Tryz.prog Zvd w) (fun _ _ _ hh h=>h.of_heap hh) own started (by kernel_rfl) Tryz.func7
  (ChangeSpec.witness_shaped (enc:=enc) (C:=Tryz.checked) (os:=os) (X:=fun w _=>laidMetH Tryz.prog Zvd w) false (World.doorLaid Tryz.prog 400 os) #[.agg #[.slice none 0 0,.slice none 0 0,.slice none 0 0],.slice none 0 0,.agg #[.int .i64 0,.int .i64 0,.int .i64 0,.int .i64 0],.slice none 0 0] 8 rfl (Zn9 os _) (by kernel_rfl) (by kernel_rfl) (by kernel_rfl) (Zve os _)) ?_
 intro W base args ds gs before hval0 hW hL hsh;have hval:∀ (j:Nat) t v,Tryz.f7.params[j]?=some t→args[j]?=some v→Value.okWide Tryz.prog W .any base t v:=hval0;have hW':=hW;obtain⟨p,q,hA0,hV,rfl,hfz,hnd⟩:=hW;have hA:DataW.TrodAll enc Tryz.prog W 0 (fun _=>true) true Tryz.f7.params.toList args.toList ds p:=hA0;have hlt:=hA.lt;have hA2:=hA;rw[Tryz.params7] at hA hval;obtain⟨v0,vr0,d0,ds0,p0,q0,hargs,rfl,rfl,h0,r0⟩:=trodAll_cons hA;obtain⟨v1,vr1,d1,ds1,p1,q1,rfl,rfl,rfl,h1,r1⟩:=trodAll_cons r0;obtain⟨v2,vr2,d2,ds2,p2,q2,rfl,rfl,rfl,h2,r2⟩:=trodAll_cons r1;obtain⟨v3,vr3,d3,ds3,p3,q3,rfl,rfl,rfl,h3,r3⟩:=trodAll_cons r2;obtain⟨rfl,rfl,rfl⟩:=trodAll_nil r3;obtain rfl:args=#[v0,v1,v2,v3]:=Array.toList_inj.1 hargs;obtain⟨rfl,rfl⟩:=trodVars_none hV;obtain⟨q0,vs0,rfl,hc0,hL0,hb0,hm0⟩:=Zxo (hval 0 26 v0 rfl rfl) h0;obtain⟨l1,lo1,n1,c1,rfl,hn1,hg1,hb1⟩:=Ztx (hval 1 33 v1 rfl rfl) h1;obtain⟨x2,rfl⟩:=Zxr (hval 2 39 v2 rfl rfl) h2;obtain⟨l3,lo3,n3,c3,rfl,hn3,hg3,hb3⟩:=Zuu (hval 3 56 v3 rfl rfl) h3;subst hn1;subst hn3;have G:=Znq hL hsh
 refine (Zlt W q0 vs0 W.heap.size l1 lo1 c1 x2 l3 lo3 c3 hc0 G hL0 hb0 hm0 hb1 hg1 hb3 hg3).mono fun e W' ⟨he,hg⟩=>?_
 subst he;exact⟨_,rfl,Zk9 (pa:=_) (pv:=[]) hW' (fun _ _ _=>trodAll_mk1 (shut_bool Tryz.underlying4 _)) (fun sp hsp=>Zhs (by kernel_rfl) (by kernel_rfl) hA2 (fun x hx=>hg.same (hlt x hx)) (fun x hx=>hsp x (List.mem_append_left _ hx))) (fun _ _=>rfl) rfl hg (ok_one (by kernel_rfl) rfl (okWide_bool_mk Tryz.underlying4 _))⟩
theorem Zh5:(Rows.crowdExplainsRow.wf (OpenSpec.ofChange Rows.crowdExplainsSpec))=true:=by kernel_rfl
theorem Zh6:(Tryz.f7.params.all (Tryz.prog.readableRec ·))=true:=by kernel_rfl
theorem Zh7:(namedTie Tryz.prog Rows.crowdExplainsRow.named Rows.crowdExplainsSpec.vars)=true:=by kernel_rfl
theorem Zh8:((Rows.crowdExplainsRow.stops==[]))=true:=by kernel_rfl
theorem Zh9:((Rows.crowdExplainsRow.knobs==[]))=true:=by kernel_rfl
theorem Zia:((Rows.crowdExplainsRow.inPlace == Tryz.prog.inPlace 7))=true:=by kernel_rfl
theorem Zg1:((Rows.crowdExplainsRow.unfollowed == Tryz.prog.unfollowed 7))=true:=by kernel_rfl
theorem Zg2:((Rows.crowdExplainsRow.recurses == Tryz.prog.recurses 7))=true:=by kernel_rfl
theorem Zg3:((Rows.crowdExplainsRow.named == Tryz.prog.varsNamed 7))=true:=by kernel_rfl
theorem Zg4:((Rows.crowdExplainsRow.maps==(Tryz.f7.params.toList++Rows.crowdExplainsSpec.plain.varTypes Tryz.prog).any (Tryz.prog.mapsRec ·)))=true:=by kernel_rfl
theorem Zg5:((Rows.crowdExplainsRow.ifaces==(Tryz.f7.params.toList++Rows.crowdExplainsSpec.plain.varTypes Tryz.prog).any (Tryz.prog.ifacesRec ·)))=true:=by kernel_rfl
theorem Zg6:((Rows.crowdExplainsRow.mapsOut == Tryz.prog.mapsAmong Tryz.f7.resultTypes.toList))=true:=by kernel_rfl
theorem Zg7:((Rows.crowdExplainsRow.loops==(Tryz.f7.params.toList++Rows.crowdExplainsSpec.plain.varTypes Tryz.prog).any (Tryz.prog.loopsFrom ·)))=true:=by kernel_rfl
theorem Zg8:((Rows.crowdExplainsRow.wideKeys==(Tryz.f7.params.toList++Rows.crowdExplainsSpec.plain.varTypes Tryz.prog ++ Tryz.f7.resultTypes.toList).any (Tryz.prog.wideKeysFrom ·)))=true:=by kernel_rfl
theorem Zg9:(Rows.crowdExplainsSpec.vars.all (Tryz.prog.varReadable ·))=true:=by kernel_rfl
theorem Zha:(Tryz.f7.resultTypes.all (fun t=>Tryz.prog.readableRec t&&decide (t < Tryz.prog.types.size)))=true:=by kernel_rfl
theorem Zhb:((Rows.crowdExplainsRow.ifacesOut == Tryz.f7.resultTypes.toList.any (Tryz.prog.ifacesRec ·)))=true:=by kernel_rfl
theorem Zhc:((Rows.crowdExplainsRow.loopsOut == Tryz.f7.resultTypes.toList.any (Tryz.prog.loopsFrom ·)))=true:=by kernel_rfl
theorem Zhd:((Rows.crowdExplainsRow.plainKeys == Tryz.prog.plainKeys))=true:=by kernel_rfl
theorem Zhe:(Rows.crowdExplainsRow.shortTexts.isNone)=true:=by kernel_rfl
theorem Zhf:((Rows.crowdExplainsRow.lifted == Tryz.prog.liftsFinal))=true:=by kernel_rfl
theorem Zhg:((Tryz.prog.make==some Rows.crowdExplainsRow.make))=true:=by kernel_rfl
theorem Zhh:((Rows.crowdExplainsRow.kinds==[]))=true:=by kernel_rfl
theorem Zhi:((Rows.crowdExplainsRow.pinned==Rows.crowdExplainsRow.pinnedBy))=true:=by kernel_rfl
theorem Zhj:((Rows.crowdExplainsRow.veiled==(Tryz.f7.params.toList++Rows.crowdExplainsSpec.plain.varTypes Tryz.prog ++ Tryz.f7.resultTypes.toList).any (Tryz.prog.veiledRec ·)))=true:=by kernel_rfl
theorem Zhk:(Rows.crowdExplainsRow.veiledFits Tryz.prog Tryz.f7.params.toList (Tryz.f7.params.toList++Rows.crowdExplainsSpec.plain.varTypes Tryz.prog ++ Tryz.f7.resultTypes.toList))=true:=by kernel_rfl
theorem Zhl:(Rows.crowdExplainsRow.domain.isEmpty)=true:=by kernel_rfl
theorem Ze9:joinedFacts Tryz.prog 7 Tryz.f7 Rows.crowdExplainsSpec Rows.crowdExplainsRow=true :=
 Zs9 Zh5 Z1l Z1m Zh6 Zh7 Zh8 Z1n Zh9 Z1o Zia Zg1 Zg2 Zg3 Zg4 Zg5 Zg6 Zg7 Zg8 Zg9 Zha Zhb Zhc Zhd Zhe Z0v Z0w Zhf Zhg Zhh Zhi Zhj Zhk Zhl
theorem Zgh:Tryz.f7.isInstance Tryz.prog Rows.crowdExplainsRow.origin Rows.crowdExplainsRow.targs:=of_decide_eq_true (by kernel_rfl)
theorem Zgi:Tryz.f7.isWrapper Tryz.prog Rows.crowdExplainsRow.wrapper Rows.crowdExplainsRow.mainSum:=by unfold Func.isWrapper;first | (rw[if_pos (by decide +kernel)];kernel_rfl) | (rw[if_neg (by decide +kernel)];exact⟨rfl,rfl⟩)
theorem Zfl:Rows.CrowdExplainsSaid :=
 OpenClaim.holds_of_wide 7 Tryz.f7 rfl rfl rfl rfl rfl rfl rfl ⟨rfl,rfl,rfl,rfl,rfl⟩ rfl rfl rfl rfl rfl (by kernel_rfl) Tryz.func7 Ze9
  Zgh Zgi
  (fun os started H enc _=>Ze8 os started H enc)
theorem Zgj:false=Rows.crowdExplainsRow.goesBy Tryz.prog:=by kernel_rfl
theorem Zhm:Rows.crowdExplainsRow.wfByText (OpenSpec.ofChange Rows.crowdExplainsSpec)=true:=by kernel_rfl
theorem Zib:Tryz.prog.funcNamed "cloak/cloaklaw09.CrowdExplains"=some 7:=by kernel_rfl
theorem Zhn:([26,33,39,56].all fun u=>!Tryz.prog.wantsStandIn u)=true:=by kernel_rfl
theorem crowdExplains_card_holds:Rows.CrowdExplainsCardSaid :=
 Claim7.holds_tied_plain_at .later [] [.widerDeep] true (true,"338451282303b13a8cdbd10538cf236b010dc1946a10f25ba5749e7e6682990c") false
  Zfl (fun _ h=>by cases h) Zhm (fun _ h=>by cases h) crowdExplains_row_tie rfl ⟨rfl,rfl⟩ Zvf rfl
  (fun f fn hf hfn=>by
   obtain rfl:f=7:=Option.some.inj (Zib.symm.trans hf) |>.symm;obtain rfl:fn = Tryz.f7:=(Option.some.inj (Tryz.func7.symm.trans hfn)).symm
   exact⟨Zri,fun j t ht=>by
    rw[Tryz.params7] at ht
    have hm:t∈[26,33,39,56]:=by
     simpa using Array.mem_of_getElem? ht
    exact (show Tryz.prog.wantsStandIn t=false by simpa using List.all_eq_true.1 Zhn t hm)⟩)
  Zgj
#print axioms crowdExplains_card_holds
end Go.Proofs.YtbcgocpihobjnaaGreatDoor
