/- AskImplies: for every input the statement returns true, and its arguments read as before; the row, and its tied card. Condition: the laid tables. -/
import Derived.Test.YtmkdfbelbcocpaaGreatDoorCards
import Derived.Test.YtmkdfbelbcocpaaGreatDoorTie
import Derived.SevenTiedAt
import Derived.Test.YtmkdfbelbcocpaaGreatDoorCI40
import Derived.Test.YtmkdfbelbcocpaaGreatDoorCI36
import Derived.Test.YtmkdfbelbcocpaaGreatDoorCI37
set_option linter.unusedVariables false
set_option linter.unusedSimpArgs false
set_option maxRecDepth 100000
namespace Go.Proofs.YtmkdfbelbcocpaaGreatDoor
open Go Go.ChangeShapes Go.WideShapes Go.ChangeAt Go.WideMaps Go.WideElems Go.RowKit Go.Joins
open Go.ChangeMaps (open_string shut_string)
theorem Zjt (os:Os) (started:os.Started) (H:Type) (enc:TypeId×Value→H) :
  ReturnsInHanded {} Tryz.checked os 11 .any (fun w args=>(Rows.askImpliesSpec.pre enc Tryz.prog Tryz.f11 [] false w args∧laidMetH Tryz.prog Z00 w)∧sizedMet enc Tryz.prog Tryz.f11 (OpenSpec.ofChange Rows.askImpliesSpec) false w args)
   (Rows.askImpliesSpec.post enc Tryz.prog Tryz.f11 false true false false):=by
 refine Z4p (C:=Tryz.checked) (X:=fun w _=>laidMetH Tryz.prog Z00 w) (fun _ _ _ hh h=>h.of_heap hh) own started (by kernel_rfl) Tryz.func11
  (ChangeSpec.witness_shaped (enc:=enc) (C:=Tryz.checked) (os:=os) (X:=fun w _=>laidMetH Tryz.prog Z00 w) false (World.doorLaid Tryz.prog 400 os) #[.agg #[.int .i64 0,.string ⟨#[]⟩,.string ⟨#[]⟩,.int .i64 0,.slice none 0 0],.agg #[.int .i64 0,.string ⟨#[]⟩,.string ⟨#[]⟩,.int .i64 0,.slice none 0 0],.int .u8 0,.int .u8 0] 8 rfl (Ztf os _) (by kernel_rfl) (by kernel_rfl) (by kernel_rfl) (Z01 os _)) ?_
 intro W base args ds gs before hval0 hW hL hsh
 have hval:∀ (j:Nat) t v,Tryz.f11.params[j]?=some t→args[j]?=some v→Value.okWide Tryz.prog W .any base t v:=hval0
 have hW':=hW
 obtain⟨p,q,hA0,hV,rfl,hfz,hnd⟩:=hW
 have hA:DataW.TrodAll enc Tryz.prog W 0 (fun _=>true) true Tryz.f11.params.toList args.toList ds p:=hA0
 have hlt:=hA.lt
 have hA2:=hA
 rw[Tryz.params11] at hA hval
 obtain⟨v0,vr0,d0,ds0,p0,q0,hargs,rfl,rfl,h0,r0⟩:=trodAll_cons hA
 obtain⟨v1,vr1,d1,ds1,p1,q1,rfl,rfl,rfl,h1,r1⟩:=trodAll_cons r0
 obtain⟨v2,vr2,d2,ds2,p2,q2,rfl,rfl,rfl,h2,r2⟩:=trodAll_cons r1
 obtain⟨v3,vr3,d3,ds3,p3,q3,rfl,rfl,rfl,h3,r3⟩:=trodAll_cons r2
 obtain⟨rfl,rfl,rfl⟩:=trodAll_nil r3
 obtain rfl:args=#[v0,v1,v2,v3]:=Array.toList_inj.1 hargs
 obtain⟨rfl,rfl⟩:=trodVars_none hV
 obtain⟨q0,vs0,rfl,hp0,hr0,hl0⟩:=Zrv (hval 0 25 v0 rfl rfl) h0
 obtain⟨q1,vs1,rfl,hp1,hr1,hl1⟩:=Zrv (hval 1 25 v1 rfl rfl) h1
 obtain⟨x2,rfl,-,-,w2⟩:=open_int Tryz.underlying5 (hval 2 5 v2 rfl rfl) h2
 obtain⟨m2,rfl,u2⟩:=Z8a w2
 obtain⟨x3,rfl,-,-,w3⟩:=open_int Tryz.underlying5 (hval 3 5 v3 rfl rfl) h3
 obtain⟨m3,rfl,u3⟩:=Z8a w3
 have G:=Zti hL hsh
 refine (Zl0 q0 q1 W _ vs0 vs1 m2 m3 W.heap.size G hp0 hp1 hr0 hr1 hl0 hl1 u2 u3).mono fun e W' ⟨he,hg⟩=>?_
 subst he
 exact⟨_,rfl,Zph (pa:=_) (pv:=[]) hW' (fun _ _ _=>trodAll_mk1 (shut_bool Tryz.underlying4 _)) (fun sp hsp=>Zj4 (by kernel_rfl) (by kernel_rfl) hA2 (fun x hx=>hg.same (hlt x hx)) (fun x hx=>hsp x (List.mem_append_left _ hx))) (fun _ _=>rfl) rfl hg (ok_one (by kernel_rfl) rfl (okWide_bool_mk Tryz.underlying4 _))⟩
theorem Zpn:(Rows.askImpliesRow.wf (OpenSpec.ofChange Rows.askImpliesSpec))=true:=by kernel_rfl
theorem Zpo:(Tryz.f11.params.all (Tryz.prog.readableRec ·))=true:=by kernel_rfl
theorem Zpp:(namedTie Tryz.prog Rows.askImpliesRow.named Rows.askImpliesSpec.vars)=true:=by kernel_rfl
theorem Zpq:((Rows.askImpliesRow.stops==[]))=true:=by kernel_rfl
theorem Zpr:((Rows.askImpliesRow.knobs==[]))=true:=by kernel_rfl
theorem Zps:((Rows.askImpliesRow.inPlace == Tryz.prog.inPlace 11))=true:=by kernel_rfl
theorem Zmo:((Rows.askImpliesRow.unfollowed == Tryz.prog.unfollowed 11))=true:=by kernel_rfl
theorem Zmp:((Rows.askImpliesRow.recurses == Tryz.prog.recurses 11))=true:=by kernel_rfl
theorem Zmq:((Rows.askImpliesRow.named == Tryz.prog.varsNamed 11))=true:=by kernel_rfl
theorem Zmr:((Rows.askImpliesRow.maps==(Tryz.f11.params.toList++Rows.askImpliesSpec.plain.varTypes Tryz.prog).any (Tryz.prog.mapsRec ·)))=true:=by kernel_rfl
theorem Zms:((Rows.askImpliesRow.ifaces==(Tryz.f11.params.toList++Rows.askImpliesSpec.plain.varTypes Tryz.prog).any (Tryz.prog.ifacesRec ·)))=true:=by kernel_rfl
theorem Zmt:((Rows.askImpliesRow.mapsOut == Tryz.prog.mapsAmong Tryz.f11.resultTypes.toList))=true:=by kernel_rfl
theorem Zmu:((Rows.askImpliesRow.loops==(Tryz.f11.params.toList++Rows.askImpliesSpec.plain.varTypes Tryz.prog).any (Tryz.prog.loopsFrom ·)))=true:=by kernel_rfl
theorem Zmv:((Rows.askImpliesRow.wideKeys==(Tryz.f11.params.toList++Rows.askImpliesSpec.plain.varTypes Tryz.prog ++ Tryz.f11.resultTypes.toList).any (Tryz.prog.wideKeysFrom ·)))=true:=by kernel_rfl
theorem Zmw:(Rows.askImpliesSpec.vars.all (Tryz.prog.varReadable ·))=true:=by kernel_rfl
theorem Zmx:(Tryz.f11.resultTypes.all (fun t=>Tryz.prog.readableRec t&&decide (t < Tryz.prog.types.size)))=true:=by kernel_rfl
theorem Zmy:((Rows.askImpliesRow.ifacesOut == Tryz.f11.resultTypes.toList.any (Tryz.prog.ifacesRec ·)))=true:=by kernel_rfl
theorem Zmz:((Rows.askImpliesRow.loopsOut == Tryz.f11.resultTypes.toList.any (Tryz.prog.loopsFrom ·)))=true:=by kernel_rfl
theorem Zm0:((Rows.askImpliesRow.plainKeys == Tryz.prog.plainKeys))=true:=by kernel_rfl
theorem Zm1:(Rows.askImpliesRow.shortTexts.isNone)=true:=by kernel_rfl
theorem Zm2:((Rows.askImpliesRow.lifted == Tryz.prog.liftsFinal))=true:=by kernel_rfl
theorem Zm3:((Tryz.prog.make==some Rows.askImpliesRow.make))=true:=by kernel_rfl
theorem Zm4:((Rows.askImpliesRow.kinds==[]))=true:=by kernel_rfl
theorem Zm5:((Rows.askImpliesRow.pinned==Rows.askImpliesRow.pinnedBy))=true:=by kernel_rfl
theorem Zm6:((Rows.askImpliesRow.veiled==(Tryz.f11.params.toList++Rows.askImpliesSpec.plain.varTypes Tryz.prog ++ Tryz.f11.resultTypes.toList).any (Tryz.prog.veiledRec ·)))=true:=by kernel_rfl
theorem Zm7:(Rows.askImpliesRow.veiledFits Tryz.prog Tryz.f11.params.toList (Tryz.f11.params.toList++Rows.askImpliesSpec.plain.varTypes Tryz.prog ++ Tryz.f11.resultTypes.toList))=true:=by kernel_rfl
theorem Zm8:(Rows.askImpliesRow.domain.isEmpty)=true:=by kernel_rfl
theorem Zju:joinedFacts Tryz.prog 11 Tryz.f11 Rows.askImpliesSpec Rows.askImpliesRow=true :=
 Z0x Zpn Z9l Z9m Zpo Zpp Zpq Z9n Zpr Z9o Zps Zmo Zmp Zmq Zmr Zms Zmt Zmu Zmv Zmw Zmx Zmy Zmz Zm0 Zm1 Z8z Z80 Zm2 Zm3 Zm4 Zm5 Zm6 Zm7 Zm8
theorem Zmb:Tryz.f11.isInstance Tryz.prog Rows.askImpliesRow.origin Rows.askImpliesRow.targs:=of_decide_eq_true (by kernel_rfl)
theorem Zmc:Tryz.f11.isWrapper Tryz.prog Rows.askImpliesRow.wrapper Rows.askImpliesRow.mainSum:=by unfold Func.isWrapper;first | (rw[if_pos (by decide +kernel)];kernel_rfl) | (rw[if_neg (by decide +kernel)];exact⟨rfl,rfl⟩)
theorem Zkg:Rows.AskImpliesSaid :=
 OpenClaim.holds_of_wide 11 Tryz.f11 rfl rfl rfl rfl rfl rfl rfl ⟨rfl,rfl,rfl,rfl,rfl⟩ rfl rfl rfl rfl rfl (by kernel_rfl) Tryz.func11 Zju
  Zmb Zmc
  (fun os started H enc _=>Zjt os started H enc)
theorem Zmd:false=Rows.askImpliesRow.goesBy Tryz.prog:=by kernel_rfl
theorem Zm9:Rows.askImpliesRow.wfByText (OpenSpec.ofChange Rows.askImpliesSpec)=true:=by kernel_rfl
theorem Zpt:Tryz.prog.funcNamed "cloak/cloaklaw05.AskImplies"=some 11:=by kernel_rfl
theorem Zna:([25,25,5,5].all fun u=>!Tryz.prog.wantsStandIn u)=true:=by kernel_rfl
theorem askImplies_card_holds:Rows.AskImpliesCardSaid :=
 Claim7.holds_tied_plain_at .later [] [.data,.widerDeep] true (true,"e946dd738e9aa7fac4b3de290664a7b0d746a21bc6ee9596d7723f6a41ddd4f9") true
  Zkg (fun _ h=>by cases h) Zm9 (fun _ h=>by cases h) askImplies_row_tie rfl ⟨rfl,rfl⟩ Z4q rfl
  (fun f fn hf hfn=>by
   obtain rfl:f=11:=Option.some.inj (Zpt.symm.trans hf) |>.symm
   obtain rfl:fn = Tryz.f11:=(Option.some.inj (Tryz.func11.symm.trans hfn)).symm
   exact⟨Z0z,fun j t ht=>by
    rw[Tryz.params11] at ht
    have hm:t∈[25,25,5,5]:=by
     simpa using Array.mem_of_getElem? ht
    exact (show Tryz.prog.wantsStandIn t=false by simpa using List.all_eq_true.1 Zna t hm)⟩)
  Zmd
#print axioms askImplies_card_holds
end Go.Proofs.YtmkdfbelbcocpaaGreatDoor
