/- CrowdUnion: for every input the statement returns true, and its arguments read as before; the row, and its tied card. Condition: the laid tables. -/
import Derived.Test.YtbcgocpihobjnaaGreatDoorCards
import Derived.Test.YtbcgocpihobjnaaGreatDoorTie
import Derived.SevenTiedAt
import Derived.Test.YtbcgocpihobjnaaGreatDoorCU46
import Derived.Test.YtbcgocpihobjnaaGreatDoorCU44
import Derived.Test.YtbcgocpihobjnaaGreatDoorCU45
set_option linter.all false
set_option maxRecDepth 100000
namespace Go.Proofs.YtbcgocpihobjnaaGreatDoor
open Go Go.ChangeShapes Go.WideShapes Go.ChangeAt Go.WideMaps Go.WideElems Go.RowKit Go.Joins
open Go.ChangeMaps (open_string shut_string)
theorem Zf8 (os:Os) (started:os.Started) (H:Type) (enc:TypeId×Value→H) :
  ReturnsInHanded {} Tryz.checked os 6 .any (fun w args=>(Rows.crowdUnionSpec.pre enc Tryz.prog Tryz.f6 [] false w args∧laidMetH Tryz.prog Ztb w)∧sizedMet enc Tryz.prog Tryz.f6 (OpenSpec.ofChange Rows.crowdUnionSpec) false w args)
   (Rows.crowdUnionSpec.post enc Tryz.prog Tryz.f6 false true false false):=by
 refine Zuo (C:=Tryz.checked) (X:=fun w _=>laidMetH Tryz.prog Ztb w) (fun _ _ _ hh h=>h.of_heap hh) own started (by kernel_rfl) Tryz.func6
  (ChangeSpec.witness_shaped (enc:=enc) (C:=Tryz.checked) (os:=os) (X:=fun w _=>laidMetH Tryz.prog Ztb w) false (World.doorLaid Tryz.prog 400 os) #[.agg #[.slice none 0 0,.slice none 0 0,.slice none 0 0],.slice none 0 0] 8 rfl (Zmv os _) (by kernel_rfl) (by kernel_rfl) (by kernel_rfl) (Ztc os _)) ?_
 intro W base args ds gs before hval0 hW hL hsh;have hval:∀ (j:Nat) t v,Tryz.f6.params[j]?=some t→args[j]?=some v→Value.okWide Tryz.prog W .any base t v:=hval0;have hW':=hW;obtain⟨p,q,hA0,hV,rfl,hfz,hnd⟩:=hW;have hA:DataW.TrodAll enc Tryz.prog W 0 (fun _=>true) true Tryz.f6.params.toList args.toList ds p:=hA0;have hlt:=hA.lt;have hA2:=hA;rw[Tryz.params6] at hA hval;obtain⟨v0,vr0,d0,ds0,p0,q0,hargs,rfl,rfl,h0,r0⟩:=trodAll_cons hA;obtain⟨v1,vr1,d1,ds1,p1,q1,rfl,rfl,rfl,h1,r1⟩:=trodAll_cons r0;obtain⟨rfl,rfl,rfl⟩:=trodAll_nil r1;obtain rfl:args=#[v0,v1]:=Array.toList_inj.1 hargs;obtain⟨rfl,rfl⟩:=trodVars_none hV;obtain⟨q0,vs0,rfl,hc0,hL0,hb0,hm0⟩:=Zvi (hval 0 26 v0 rfl rfl) h0;obtain⟨l1,lo1,n1,c1,rfl,hn1,hg1,hb1⟩:=Zr5 (hval 1 33 v1 rfl rfl) h1;subst hn1;have G:=Zma hL hsh
 refine (Zpu W q0 vs0 W.heap.size l1 lo1 c1 hc0 G hL0 hb0 hm0 hb1 hg1).mono fun e W' ⟨he,hg⟩=>?_
 subst he;exact⟨_,rfl,Zj7 (pa:=_) (pv:=[]) hW' (fun _ _ _=>trodAll_mk1 (shut_bool Tryz.underlying4 _)) (fun sp hsp=>Zgf (by kernel_rfl) (by kernel_rfl) hA2 (fun x hx=>hg.same (hlt x hx)) (fun x hx=>hsp x (List.mem_append_left _ hx))) (fun _ _=>rfl) rfl hg (ok_one (by kernel_rfl) rfl (okWide_bool_mk Tryz.underlying4 _))⟩
theorem Zkn:(Rows.crowdUnionRow.wf (OpenSpec.ofChange Rows.crowdUnionSpec))=true:=by kernel_rfl
theorem Zko:(Tryz.f6.params.all (Tryz.prog.readableRec ·))=true:=by kernel_rfl
theorem Zkp:(namedTie Tryz.prog Rows.crowdUnionRow.named Rows.crowdUnionSpec.vars)=true:=by kernel_rfl
theorem Zkq:((Rows.crowdUnionRow.stops==[]))=true:=by kernel_rfl
theorem Zkr:((Rows.crowdUnionRow.knobs==[]))=true:=by kernel_rfl
theorem Zks:((Rows.crowdUnionRow.inPlace == Tryz.prog.inPlace 6))=true:=by kernel_rfl
theorem Zib:((Rows.crowdUnionRow.unfollowed == Tryz.prog.unfollowed 6))=true:=by kernel_rfl
theorem Zic:((Rows.crowdUnionRow.recurses == Tryz.prog.recurses 6))=true:=by kernel_rfl
theorem Zid:((Rows.crowdUnionRow.named == Tryz.prog.varsNamed 6))=true:=by kernel_rfl
theorem Zie:((Rows.crowdUnionRow.maps==(Tryz.f6.params.toList++Rows.crowdUnionSpec.plain.varTypes Tryz.prog).any (Tryz.prog.mapsRec ·)))=true:=by kernel_rfl
theorem Zif:((Rows.crowdUnionRow.ifaces==(Tryz.f6.params.toList++Rows.crowdUnionSpec.plain.varTypes Tryz.prog).any (Tryz.prog.ifacesRec ·)))=true:=by kernel_rfl
theorem Zig:((Rows.crowdUnionRow.mapsOut == Tryz.prog.mapsAmong Tryz.f6.resultTypes.toList))=true:=by kernel_rfl
theorem Zih:((Rows.crowdUnionRow.loops==(Tryz.f6.params.toList++Rows.crowdUnionSpec.plain.varTypes Tryz.prog).any (Tryz.prog.loopsFrom ·)))=true:=by kernel_rfl
theorem Zii:((Rows.crowdUnionRow.wideKeys==(Tryz.f6.params.toList++Rows.crowdUnionSpec.plain.varTypes Tryz.prog ++ Tryz.f6.resultTypes.toList).any (Tryz.prog.wideKeysFrom ·)))=true:=by kernel_rfl
theorem Zij:(Rows.crowdUnionSpec.vars.all (Tryz.prog.varReadable ·))=true:=by kernel_rfl
theorem Zik:(Tryz.f6.resultTypes.all (fun t=>Tryz.prog.readableRec t&&decide (t < Tryz.prog.types.size)))=true:=by kernel_rfl
theorem Zil:((Rows.crowdUnionRow.ifacesOut == Tryz.f6.resultTypes.toList.any (Tryz.prog.ifacesRec ·)))=true:=by kernel_rfl
theorem Zim:((Rows.crowdUnionRow.loopsOut == Tryz.f6.resultTypes.toList.any (Tryz.prog.loopsFrom ·)))=true:=by kernel_rfl
theorem Zin:((Rows.crowdUnionRow.plainKeys == Tryz.prog.plainKeys))=true:=by kernel_rfl
theorem Zio:(Rows.crowdUnionRow.shortTexts.isNone)=true:=by kernel_rfl
theorem Zip:((Rows.crowdUnionRow.lifted == Tryz.prog.liftsFinal))=true:=by kernel_rfl
theorem Ziq:((Tryz.prog.make==some Rows.crowdUnionRow.make))=true:=by kernel_rfl
theorem Zir:((Rows.crowdUnionRow.kinds==[]))=true:=by kernel_rfl
theorem Zis:((Rows.crowdUnionRow.pinned==Rows.crowdUnionRow.pinnedBy))=true:=by kernel_rfl
theorem Zit:((Rows.crowdUnionRow.veiled==(Tryz.f6.params.toList++Rows.crowdUnionSpec.plain.varTypes Tryz.prog ++ Tryz.f6.resultTypes.toList).any (Tryz.prog.veiledRec ·)))=true:=by kernel_rfl
theorem Ziu:(Rows.crowdUnionRow.veiledFits Tryz.prog Tryz.f6.params.toList (Tryz.f6.params.toList++Rows.crowdUnionSpec.plain.varTypes Tryz.prog ++ Tryz.f6.resultTypes.toList))=true:=by kernel_rfl
theorem Ziv:(Rows.crowdUnionRow.domain.isEmpty)=true:=by kernel_rfl
theorem Zf9:joinedFacts Tryz.prog 6 Tryz.f6 Rows.crowdUnionSpec Rows.crowdUnionRow=true :=
 Zrj Zkn Zza Zzb Zko Zkp Zkq Zzc Zkr Zzd Zks Zib Zic Zid Zie Zif Zig Zih Zii Zij Zik Zil Zim Zin Zio Zyp Zyq Zip Ziq Zir Zis Zit Ziu Ziv
theorem Zhu:Tryz.f6.isInstance Tryz.prog Rows.crowdUnionRow.origin Rows.crowdUnionRow.targs:=of_decide_eq_true (by kernel_rfl)
theorem Zhv:Tryz.f6.isWrapper Tryz.prog Rows.crowdUnionRow.wrapper Rows.crowdUnionRow.mainSum:=by unfold Func.isWrapper;first | (rw[if_pos (by decide +kernel)];kernel_rfl) | (rw[if_neg (by decide +kernel)];exact⟨rfl,rfl⟩)
theorem Zgq:Rows.CrowdUnionSaid :=
 OpenClaim.holds_of_wide 6 Tryz.f6 rfl rfl rfl rfl rfl rfl rfl ⟨rfl,rfl,rfl,rfl,rfl⟩ rfl rfl rfl rfl rfl (by kernel_rfl) Tryz.func6 Zf9
  Zhu Zhv
  (fun os started H enc _=>Zf8 os started H enc)
theorem Zhw:false=Rows.crowdUnionRow.goesBy Tryz.prog:=by kernel_rfl
theorem Ziw:Rows.crowdUnionRow.wfByText (OpenSpec.ofChange Rows.crowdUnionSpec)=true:=by kernel_rfl
theorem Zkt:Tryz.prog.funcNamed "cloak/cloaklaw09.CrowdUnion"=some 6:=by kernel_rfl
theorem Zix:([26,33].all fun u=>!Tryz.prog.wantsStandIn u)=true:=by kernel_rfl
theorem crowdUnion_card_holds:Rows.CrowdUnionCardSaid :=
 Claim7.holds_tied_plain_at .later [] [.widerDeep] true (true,"338451282303b13a8cdbd10538cf236b010dc1946a10f25ba5749e7e6682990c") false
  Zgq (fun _ h=>by cases h) Ziw (fun _ h=>by cases h) crowdUnion_row_tie rfl ⟨rfl,rfl⟩ Ztd rfl
  (fun f fn hf hfn=>by
   obtain rfl:f=6:=Option.some.inj (Zkt.symm.trans hf) |>.symm;obtain rfl:fn = Tryz.f6:=(Option.some.inj (Tryz.func6.symm.trans hfn)).symm
   exact⟨Zpv,fun j t ht=>by
    rw[Tryz.params6] at ht
    have hm:t∈[26,33]:=by
     simpa using Array.mem_of_getElem? ht
    exact (show Tryz.prog.wantsStandIn t=false by simpa using List.all_eq_true.1 Zix t hm)⟩)
  Zhw
#print axioms crowdUnion_card_holds
end Go.Proofs.YtbcgocpihobjnaaGreatDoor
