/- CrowdExact: for every input the statement returns true, and its arguments read as before; the row, and its tied card. Condition: the laid tables. -/
import Derived.Test.YtbcgocpihobjnaaGreatDoorCards
import Derived.Test.YtbcgocpihobjnaaGreatDoorTie
import Derived.SevenTiedAt
import Derived.Test.YtbcgocpihobjnaaGreatDoorCE48
import Derived.Test.YtbcgocpihobjnaaGreatDoorCE47
set_option linter.all false
set_option maxRecDepth 100000
namespace Go.Proofs.YtbcgocpihobjnaaGreatDoor
open Go Go.ChangeShapes Go.WideShapes Go.ChangeAt Go.WideMaps Go.WideElems Go.RowKit Go.Joins
open Go.ChangeMaps (open_string shut_string)
theorem Zhc (os:Os) (started:os.Started) (H:Type) (enc:TypeId×Value→H) :
  ReturnsInHanded {} Tryz.checked os 16 .any (fun w args=>(Rows.crowdExactSpec.pre enc Tryz.prog Tryz.f16 [] false w args∧laidMetH Tryz.prog Zw7 w)∧sizedMet enc Tryz.prog Tryz.f16 (OpenSpec.ofChange Rows.crowdExactSpec) false w args)
   (Rows.crowdExactSpec.post enc Tryz.prog Tryz.f16 false true false false):=by
 refine Zyo (C:=Tryz.checked) (X:=fun w _=>laidMetH Tryz.prog Zw7 w) (fun _ _ _ hh h=>h.of_heap hh) own started (by kernel_rfl) Tryz.func16
  (ChangeSpec.witness_shaped (enc:=enc) (C:=Tryz.checked) (os:=os) (X:=fun w _=>laidMetH Tryz.prog Zw7 w) false (World.doorLaid Tryz.prog 400 os) #[.agg #[.slice none 0 0,.slice none 0 0,.slice none 0 0]] 8 rfl (Zpl os _) (by kernel_rfl) (by kernel_rfl) (by kernel_rfl) (Zw8 os _)) ?_
 intro W base args ds gs before hval0 hW hL hsh;have hval:∀ (j:Nat) t v,Tryz.f16.params[j]?=some t→args[j]?=some v→Value.okWide Tryz.prog W .any base t v:=hval0;have hW':=hW;obtain⟨p,q,hA0,hV,rfl,hfz,hnd⟩:=hW;have hA:DataW.TrodAll enc Tryz.prog W 0 (fun _=>true) true Tryz.f16.params.toList args.toList ds p:=hA0;have hlt:=hA.lt;have hA2:=hA;rw[Tryz.params16] at hA hval;obtain⟨v0,vr0,d0,ds0,p0,q0,hargs,rfl,rfl,h0,r0⟩:=trodAll_cons hA;obtain⟨rfl,rfl,rfl⟩:=trodAll_nil r0;obtain rfl:args=#[v0]:=Array.toList_inj.1 hargs;obtain⟨rfl,rfl⟩:=trodVars_none hV;obtain⟨q0,vs0,rfl,hc0,hL0,hb0,hm0⟩:=Zzq (hval 0 26 v0 rfl rfl) h0;have G:=Zo2 hL hsh
 refine (Zs3 W q0 vs0 W.heap.size hc0 G hL0 hb0 hm0).mono fun e W' ⟨he,hg⟩=>?_
 subst he;exact⟨_,rfl,Zl1 (pa:=_) (pv:=[]) hW' (fun _ _ _=>trodAll_mk1 (shut_bool Tryz.underlying4 _)) (fun sp hsp=>Zhk (by kernel_rfl) (by kernel_rfl) hA2 (fun x hx=>hg.same (hlt x hx)) (fun x hx=>hsp x (List.mem_append_left _ hx))) (fun _ _=>rfl) rfl hg (ok_one (by kernel_rfl) rfl (okWide_bool_mk Tryz.underlying4 _))⟩
theorem Zmq:(Rows.crowdExactRow.wf (OpenSpec.ofChange Rows.crowdExactSpec))=true:=by kernel_rfl
theorem Zmr:(Tryz.f16.params.all (Tryz.prog.readableRec ·))=true:=by kernel_rfl
theorem Zms:(namedTie Tryz.prog Rows.crowdExactRow.named Rows.crowdExactSpec.vars)=true:=by kernel_rfl
theorem Zmt:((Rows.crowdExactRow.stops==[]))=true:=by kernel_rfl
theorem Zmu:((Rows.crowdExactRow.knobs==[]))=true:=by kernel_rfl
theorem Zmv:((Rows.crowdExactRow.inPlace == Tryz.prog.inPlace 16))=true:=by kernel_rfl
theorem Zjw:((Rows.crowdExactRow.unfollowed == Tryz.prog.unfollowed 16))=true:=by kernel_rfl
theorem Zjx:((Rows.crowdExactRow.recurses == Tryz.prog.recurses 16))=true:=by kernel_rfl
theorem Zjy:((Rows.crowdExactRow.named == Tryz.prog.varsNamed 16))=true:=by kernel_rfl
theorem Zjz:((Rows.crowdExactRow.maps==(Tryz.f16.params.toList++Rows.crowdExactSpec.plain.varTypes Tryz.prog).any (Tryz.prog.mapsRec ·)))=true:=by kernel_rfl
theorem Zj0:((Rows.crowdExactRow.ifaces==(Tryz.f16.params.toList++Rows.crowdExactSpec.plain.varTypes Tryz.prog).any (Tryz.prog.ifacesRec ·)))=true:=by kernel_rfl
theorem Zj1:((Rows.crowdExactRow.mapsOut == Tryz.prog.mapsAmong Tryz.f16.resultTypes.toList))=true:=by kernel_rfl
theorem Zj2:((Rows.crowdExactRow.loops==(Tryz.f16.params.toList++Rows.crowdExactSpec.plain.varTypes Tryz.prog).any (Tryz.prog.loopsFrom ·)))=true:=by kernel_rfl
theorem Zj3:((Rows.crowdExactRow.wideKeys==(Tryz.f16.params.toList++Rows.crowdExactSpec.plain.varTypes Tryz.prog ++ Tryz.f16.resultTypes.toList).any (Tryz.prog.wideKeysFrom ·)))=true:=by kernel_rfl
theorem Zj4:(Rows.crowdExactSpec.vars.all (Tryz.prog.varReadable ·))=true:=by kernel_rfl
theorem Zj5:(Tryz.f16.resultTypes.all (fun t=>Tryz.prog.readableRec t&&decide (t < Tryz.prog.types.size)))=true:=by kernel_rfl
theorem Zj6:((Rows.crowdExactRow.ifacesOut == Tryz.f16.resultTypes.toList.any (Tryz.prog.ifacesRec ·)))=true:=by kernel_rfl
theorem Zj7:((Rows.crowdExactRow.loopsOut == Tryz.f16.resultTypes.toList.any (Tryz.prog.loopsFrom ·)))=true:=by kernel_rfl
theorem Zj8:((Rows.crowdExactRow.plainKeys == Tryz.prog.plainKeys))=true:=by kernel_rfl
theorem Zj9:(Rows.crowdExactRow.shortTexts.isNone)=true:=by kernel_rfl
theorem Zka:((Rows.crowdExactRow.lifted == Tryz.prog.liftsFinal))=true:=by kernel_rfl
theorem Zkb:((Tryz.prog.make==some Rows.crowdExactRow.make))=true:=by kernel_rfl
theorem Zkc:((Rows.crowdExactRow.kinds==[]))=true:=by kernel_rfl
theorem Zkd:((Rows.crowdExactRow.pinned==Rows.crowdExactRow.pinnedBy))=true:=by kernel_rfl
theorem Zke:((Rows.crowdExactRow.veiled==(Tryz.f16.params.toList++Rows.crowdExactSpec.plain.varTypes Tryz.prog ++ Tryz.f16.resultTypes.toList).any (Tryz.prog.veiledRec ·)))=true:=by kernel_rfl
theorem Zkf:(Rows.crowdExactRow.veiledFits Tryz.prog Tryz.f16.params.toList (Tryz.f16.params.toList++Rows.crowdExactSpec.plain.varTypes Tryz.prog ++ Tryz.f16.resultTypes.toList))=true:=by kernel_rfl
theorem Zkg:(Rows.crowdExactRow.domain.isEmpty)=true:=by kernel_rfl
theorem Zhd:joinedFacts Tryz.prog 16 Tryz.f16 Rows.crowdExactSpec Rows.crowdExactRow=true :=
 Zu1 Zmq Z3t Z3u Zmr Zms Zmt Z3v Zmu Z3w Zmv Zjw Zjx Zjy Zjz Zj0 Zj1 Zj2 Zj3 Zj4 Zj5 Zj6 Zj7 Zj8 Zj9 Z26 Z27 Zka Zkb Zkc Zkd Zke Zkf Zkg
theorem Zja:Tryz.f16.isInstance Tryz.prog Rows.crowdExactRow.origin Rows.crowdExactRow.targs:=of_decide_eq_true (by kernel_rfl)
theorem Zjb:Tryz.f16.isWrapper Tryz.prog Rows.crowdExactRow.wrapper Rows.crowdExactRow.mainSum:=by unfold Func.isWrapper;first | (rw[if_pos (by decide +kernel)];kernel_rfl) | (rw[if_neg (by decide +kernel)];exact⟨rfl,rfl⟩)
theorem Zhw:Rows.CrowdExactSaid :=
 OpenClaim.holds_of_wide 16 Tryz.f16 rfl rfl rfl rfl rfl rfl rfl ⟨rfl,rfl,rfl,rfl,rfl⟩ rfl rfl rfl rfl rfl (by kernel_rfl) Tryz.func16 Zhd
  Zja Zjb
  (fun os started H enc _=>Zhc os started H enc)
theorem Zjc:false=Rows.crowdExactRow.goesBy Tryz.prog:=by kernel_rfl
theorem Zkh:Rows.crowdExactRow.wfByText (OpenSpec.ofChange Rows.crowdExactSpec)=true:=by kernel_rfl
theorem Zmw:Tryz.prog.funcNamed "cloak/cloaklaw09.CrowdExact"=some 16:=by kernel_rfl
theorem Zki:([26].all fun u=>!Tryz.prog.wantsStandIn u)=true:=by kernel_rfl
theorem crowdExact_card_holds:Rows.CrowdExactCardSaid :=
 Claim7.holds_tied_plain_at .later [] [.widerDeep] true (true,"338451282303b13a8cdbd10538cf236b010dc1946a10f25ba5749e7e6682990c") false
  Zhw (fun _ h=>by cases h) Zkh (fun _ h=>by cases h) crowdExact_row_tie rfl ⟨rfl,rfl⟩ Zw9 rfl
  (fun f fn hf hfn=>by
   obtain rfl:f=16:=Option.some.inj (Zmw.symm.trans hf) |>.symm;obtain rfl:fn = Tryz.f16:=(Option.some.inj (Tryz.func16.symm.trans hfn)).symm
   exact⟨Zs4,fun j t ht=>by
    rw[Tryz.params16] at ht
    have hm:t∈[26]:=by
     simpa using Array.mem_of_getElem? ht
    exact (show Tryz.prog.wantsStandIn t=false by simpa using List.all_eq_true.1 Zki t hm)⟩)
  Zjc
#print axioms crowdExact_card_holds
end Go.Proofs.YtbcgocpihobjnaaGreatDoor
