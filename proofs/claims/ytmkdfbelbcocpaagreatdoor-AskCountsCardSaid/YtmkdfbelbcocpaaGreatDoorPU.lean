/- AskCounts: for every input the statement returns true, and its arguments read as before; the row, and its tied card. Condition: the laid tables. -/
import Derived.Test.YtmkdfbelbcocpaaGreatDoorCards
import Derived.Test.YtmkdfbelbcocpaaGreatDoorTie
import Derived.SevenTiedAt
import Derived.Test.YtmkdfbelbcocpaaGreatDoorCU33
import Derived.Test.YtmkdfbelbcocpaaGreatDoorCU36
import Derived.Test.YtmkdfbelbcocpaaGreatDoorCU37
set_option linter.unusedVariables false
set_option linter.unusedSimpArgs false
set_option maxRecDepth 100000
namespace Go.Proofs.YtmkdfbelbcocpaaGreatDoor
open Go Go.ChangeShapes Go.WideShapes Go.ChangeAt Go.WideMaps Go.WideElems Go.RowKit Go.Joins
open Go.ChangeMaps (open_string shut_string)
theorem askCounts_lifted (os:Os) (started:os.Started) (H:Type) (enc:TypeId×Value→H) :
  ReturnsInHanded {} Tryz.checked os 12 .any (fun w args=>(Rows.askCountsSpec.pre enc Tryz.prog Tryz.f12 [] false w args∧laidMetH Tryz.prog laidD w)∧sizedMet enc Tryz.prog Tryz.f12 (OpenSpec.ofChange Rows.askCountsSpec) false w args)
   (Rows.askCountsSpec.post enc Tryz.prog Tryz.f12 false true false false):=by
 refine row_wrap (C:=Tryz.checked) (X:=fun w _=>laidMetH Tryz.prog laidD w) (fun _ _ _ hh h=>h.of_heap hh) own started (by kernel_rfl) Tryz.func12
  (ChangeSpec.witness_shaped (enc:=enc) (C:=Tryz.checked) (os:=os) (X:=fun w _=>laidMetH Tryz.prog laidD w) false (World.doorLaid Tryz.prog 400 os) #[.agg #[.int .i64 0,.string ⟨#[]⟩,.string ⟨#[]⟩,.int .i64 0,.slice none 0 0],.int .u8 0,.int .u8 0] 8 rfl (door_shaped os _) (by kernel_rfl) (by kernel_rfl) (by kernel_rfl) (door_metD os _)) ?_
 intro W base args ds gs before hval0 hW hL hsh
 have hval:∀ (j:Nat) t v,Tryz.f12.params[j]?=some t→args[j]?=some v→Value.okWide Tryz.prog W .any base t v:=hval0
 have hW':=hW
 obtain⟨p,q,hA0,hV,rfl,hfz,hnd⟩:=hW
 have hA:DataW.TrodAll enc Tryz.prog W 0 (fun _=>true) true Tryz.f12.params.toList args.toList ds p:=hA0
 have hlt:=hA.lt
 have hA2:=hA
 rw[Tryz.params12] at hA hval
 obtain⟨v0,vr0,d0,ds0,p0,q0,hargs,rfl,rfl,h0,r0⟩:=trodAll_cons hA
 obtain⟨v1,vr1,d1,ds1,p1,q1,rfl,rfl,rfl,h1,r1⟩:=trodAll_cons r0
 obtain⟨v2,vr2,d2,ds2,p2,q2,rfl,rfl,rfl,h2,r2⟩:=trodAll_cons r1
 obtain⟨rfl,rfl,rfl⟩:=trodAll_nil r2
 obtain rfl:args=#[v0,v1,v2]:=Array.toList_inj.1 hargs
 obtain⟨rfl,rfl⟩:=trodVars_none hV
 obtain⟨q0,vs0,rfl,hp0,hr0,hl0⟩:=prd_openL (hval 0 25 v0 rfl rfl) h0
 obtain⟨x1,rfl,-,-,w1⟩:=open_int Tryz.underlying5 (hval 1 5 v1 rfl rfl) h1
 obtain⟨m1,rfl,u1⟩:=u8_of w1
 obtain⟨x2,rfl,-,-,w2⟩:=open_int Tryz.underlying5 (hval 2 5 v2 rfl rfl) h2
 obtain⟨m2,rfl,u2⟩:=u8_of w2
 have G:=tab_of_laid hL hsh
 refine (askcounts_walk q0 W _ vs0 m1 m2 W.heap.size G hp0 hr0 hl0 u1 u2).mono fun e W' ⟨he,hg⟩=>?_
 subst he
 exact⟨_,rfl,post_of_below (pa:=_) (pv:=[]) hW' (fun _ _ _=>trodAll_mk1 (shut_bool Tryz.underlying4 _)) (fun sp hsp=>trodAll_stay (by kernel_rfl) (by kernel_rfl) hA2 (fun x hx=>hg.same (hlt x hx)) (fun x hx=>hsp x (List.mem_append_left _ hx))) (fun _ _=>rfl) rfl hg (ok_one (by kernel_rfl) rfl (okWide_bool_mk Tryz.underlying4 _))⟩
theorem askCounts_k0:(Rows.askCountsRow.wf (OpenSpec.ofChange Rows.askCountsSpec))=true:=by kernel_rfl
theorem askCounts_k3:(Tryz.f12.params.all (Tryz.prog.readableRec ·))=true:=by kernel_rfl
theorem askCounts_k4:(namedTie Tryz.prog Rows.askCountsRow.named Rows.askCountsSpec.vars)=true:=by kernel_rfl
theorem askCounts_k5:((Rows.askCountsRow.stops==[]))=true:=by kernel_rfl
theorem askCounts_k7:((Rows.askCountsRow.knobs==[]))=true:=by kernel_rfl
theorem askCounts_k9:((Rows.askCountsRow.inPlace == Tryz.prog.inPlace 12))=true:=by kernel_rfl
theorem askCounts_k10:((Rows.askCountsRow.unfollowed == Tryz.prog.unfollowed 12))=true:=by kernel_rfl
theorem askCounts_k11:((Rows.askCountsRow.recurses == Tryz.prog.recurses 12))=true:=by kernel_rfl
theorem askCounts_k12:((Rows.askCountsRow.named == Tryz.prog.varsNamed 12))=true:=by kernel_rfl
theorem askCounts_k13:((Rows.askCountsRow.maps==(Tryz.f12.params.toList++Rows.askCountsSpec.plain.varTypes Tryz.prog).any (Tryz.prog.mapsRec ·)))=true:=by kernel_rfl
theorem askCounts_k14:((Rows.askCountsRow.ifaces==(Tryz.f12.params.toList++Rows.askCountsSpec.plain.varTypes Tryz.prog).any (Tryz.prog.ifacesRec ·)))=true:=by kernel_rfl
theorem askCounts_k15:((Rows.askCountsRow.mapsOut == Tryz.prog.mapsAmong Tryz.f12.resultTypes.toList))=true:=by kernel_rfl
theorem askCounts_k16:((Rows.askCountsRow.loops==(Tryz.f12.params.toList++Rows.askCountsSpec.plain.varTypes Tryz.prog).any (Tryz.prog.loopsFrom ·)))=true:=by kernel_rfl
theorem askCounts_k17:((Rows.askCountsRow.wideKeys==(Tryz.f12.params.toList++Rows.askCountsSpec.plain.varTypes Tryz.prog ++ Tryz.f12.resultTypes.toList).any (Tryz.prog.wideKeysFrom ·)))=true:=by kernel_rfl
theorem askCounts_k18:(Rows.askCountsSpec.vars.all (Tryz.prog.varReadable ·))=true:=by kernel_rfl
theorem askCounts_k19:(Tryz.f12.resultTypes.all (fun t=>Tryz.prog.readableRec t&&decide (t < Tryz.prog.types.size)))=true:=by kernel_rfl
theorem askCounts_k20:((Rows.askCountsRow.ifacesOut == Tryz.f12.resultTypes.toList.any (Tryz.prog.ifacesRec ·)))=true:=by kernel_rfl
theorem askCounts_k21:((Rows.askCountsRow.loopsOut == Tryz.f12.resultTypes.toList.any (Tryz.prog.loopsFrom ·)))=true:=by kernel_rfl
theorem askCounts_k22:((Rows.askCountsRow.plainKeys == Tryz.prog.plainKeys))=true:=by kernel_rfl
theorem askCounts_k23:(Rows.askCountsRow.shortTexts.isNone)=true:=by kernel_rfl
theorem askCounts_k26:((Rows.askCountsRow.lifted == Tryz.prog.liftsFinal))=true:=by kernel_rfl
theorem askCounts_k27:((Tryz.prog.make==some Rows.askCountsRow.make))=true:=by kernel_rfl
theorem askCounts_k28:((Rows.askCountsRow.kinds==[]))=true:=by kernel_rfl
theorem askCounts_k29:((Rows.askCountsRow.pinned==Rows.askCountsRow.pinnedBy))=true:=by kernel_rfl
theorem askCounts_k30:((Rows.askCountsRow.veiled==(Tryz.f12.params.toList++Rows.askCountsSpec.plain.varTypes Tryz.prog ++ Tryz.f12.resultTypes.toList).any (Tryz.prog.veiledRec ·)))=true:=by kernel_rfl
theorem askCounts_k31:(Rows.askCountsRow.veiledFits Tryz.prog Tryz.f12.params.toList (Tryz.f12.params.toList++Rows.askCountsSpec.plain.varTypes Tryz.prog ++ Tryz.f12.resultTypes.toList))=true:=by kernel_rfl
theorem askCounts_k32:(Rows.askCountsRow.domain.isEmpty)=true:=by kernel_rfl
theorem askCounts_closed:joinedFacts Tryz.prog 12 Tryz.f12 Rows.askCountsSpec Rows.askCountsRow=true :=
 joined_of askCounts_k0 com1 com2 askCounts_k3 askCounts_k4 askCounts_k5 com6 askCounts_k7 com8 askCounts_k9 askCounts_k10 askCounts_k11 askCounts_k12 askCounts_k13 askCounts_k14 askCounts_k15 askCounts_k16 askCounts_k17 askCounts_k18 askCounts_k19 askCounts_k20 askCounts_k21 askCounts_k22 askCounts_k23 com24 com25 askCounts_k26 askCounts_k27 askCounts_k28 askCounts_k29 askCounts_k30 askCounts_k31 askCounts_k32
theorem askCounts_inst:Tryz.f12.isInstance Tryz.prog Rows.askCountsRow.origin Rows.askCountsRow.targs:=of_decide_eq_true (by kernel_rfl)
theorem askCounts_wrap:Tryz.f12.isWrapper Tryz.prog Rows.askCountsRow.wrapper Rows.askCountsRow.mainSum:=by unfold Func.isWrapper;first | (rw[if_pos (by decide +kernel)];kernel_rfl) | (rw[if_neg (by decide +kernel)];exact⟨rfl,rfl⟩)
theorem askCounts_holds:Rows.AskCountsSaid :=
 OpenClaim.holds_of_wide 12 Tryz.f12 rfl rfl rfl rfl rfl rfl rfl ⟨rfl,rfl,rfl,rfl,rfl⟩ rfl rfl rfl rfl rfl (by kernel_rfl) Tryz.func12 askCounts_closed
  askCounts_inst askCounts_wrap
  (fun os started H enc _=>askCounts_lifted os started H enc)
theorem askCounts_goes:false=Rows.askCountsRow.goesBy Tryz.prog:=by kernel_rfl
theorem askCounts_wft:Rows.askCountsRow.wfByText (OpenSpec.ofChange Rows.askCountsSpec)=true:=by kernel_rfl
theorem askCounts_fn:Tryz.prog.funcNamed "cloak/cloaklaw05.AskCounts"=some 12:=by kernel_rfl
theorem askCounts_std:([25,5,5].all fun u=>!Tryz.prog.wantsStandIn u)=true:=by kernel_rfl
theorem askCounts_card_holds:Rows.AskCountsCardSaid :=
 Claim7.holds_tied_plain_at .later [] [.data,.widerDeep] true (true,"e946dd738e9aa7fac4b3de290664a7b0d746a21bc6ee9596d7723f6a41ddd4f9") true
  askCounts_holds (fun _ h=>by cases h) askCounts_wft (fun _ h=>by cases h) askCounts_row_tie rfl ⟨rfl,rfl⟩ com_main rfl
  (fun f fn hf hfn=>by
   obtain rfl:f=12:=Option.some.inj (askCounts_fn.symm.trans hf) |>.symm
   obtain rfl:fn = Tryz.f12:=(Option.some.inj (Tryz.func12.symm.trans hfn)).symm
   exact⟨com_looks,fun j t ht=>by
    rw[Tryz.params12] at ht
    have hm:t∈[25,5,5]:=by
     simpa using Array.mem_of_getElem? ht
    exact (show Tryz.prog.wantsStandIn t=false by simpa using List.all_eq_true.1 askCounts_std t hm)⟩)
  askCounts_goes
#print axioms askCounts_card_holds
end Go.Proofs.YtmkdfbelbcocpaaGreatDoor
