/- AskSat: for every input the statement returns true, and its arguments read as before; the row, and its tied card. Condition: the laid tables. -/
import Derived.Test.YtmkdfbelbcocpaaGreatDoorCards
import Derived.Test.YtmkdfbelbcocpaaGreatDoorTie
import Derived.SevenTiedAt
import Derived.Test.YtmkdfbelbcocpaaGreatDoorCS33
import Derived.Test.YtmkdfbelbcocpaaGreatDoorCS36
import Derived.Test.YtmkdfbelbcocpaaGreatDoorCS37
set_option linter.unusedVariables false
set_option linter.unusedSimpArgs false
set_option maxRecDepth 100000
namespace Go.Proofs.YtmkdfbelbcocpaaGreatDoor
open Go Go.ChangeShapes Go.WideShapes Go.ChangeAt Go.WideMaps Go.WideElems Go.RowKit Go.Joins
open Go.ChangeMaps (open_string shut_string)
theorem Zoz (os:Os) (started:os.Started) (H:Type) (enc:TypeId×Value→H) :
  ReturnsInHanded {} Tryz.checked os 14 .any (fun w args=>(Rows.askSatSpec.pre enc Tryz.prog Tryz.f14 [] false w args∧laidMetH Tryz.prog Z0w w)∧sizedMet enc Tryz.prog Tryz.f14 (OpenSpec.ofChange Rows.askSatSpec) false w args)
   (Rows.askSatSpec.post enc Tryz.prog Tryz.f14 false true false false):=by
 refine Z42 (C:=Tryz.checked) (X:=fun w _=>laidMetH Tryz.prog Z0w w) (fun _ _ _ hh h=>h.of_heap hh) own started (by kernel_rfl) Tryz.func14
  (ChangeSpec.witness_shaped (enc:=enc) (C:=Tryz.checked) (os:=os) (X:=fun w _=>laidMetH Tryz.prog Z0w w) false (World.doorLaid Tryz.prog 400 os) #[.agg #[.int .i64 0,.string ⟨#[]⟩,.string ⟨#[]⟩,.int .i64 0,.slice none 0 0],.int .u8 0,.int .u8 0] 8 rfl (Zsl os _) (by kernel_rfl) (by kernel_rfl) (by kernel_rfl) (Z0x os _)) ?_
 intro W base args ds gs before hval0 hW hL hsh
 have hval:∀ (j:Nat) t v,Tryz.f14.params[j]?=some t→args[j]?=some v→Value.okWide Tryz.prog W .any base t v:=hval0
 have hW':=hW
 obtain⟨p,q,hA0,hV,rfl,hfz,hnd⟩:=hW
 have hA:DataW.TrodAll enc Tryz.prog W 0 (fun _=>true) true Tryz.f14.params.toList args.toList ds p:=hA0
 have hlt:=hA.lt
 have hA2:=hA
 rw[Tryz.params14] at hA hval
 obtain⟨v0,vr0,d0,ds0,p0,q0,hargs,rfl,rfl,h0,r0⟩:=trodAll_cons hA
 obtain⟨v1,vr1,d1,ds1,p1,q1,rfl,rfl,rfl,h1,r1⟩:=trodAll_cons r0
 obtain⟨v2,vr2,d2,ds2,p2,q2,rfl,rfl,rfl,h2,r2⟩:=trodAll_cons r1
 obtain⟨rfl,rfl,rfl⟩:=trodAll_nil r2
 obtain rfl:args=#[v0,v1,v2]:=Array.toList_inj.1 hargs
 obtain⟨rfl,rfl⟩:=trodVars_none hV
 obtain⟨q0,vs0,rfl,hp0,hr0,hl0⟩:=Z1o (hval 0 25 v0 rfl rfl) h0
 obtain⟨x1,rfl,-,-,w1⟩:=open_int Tryz.underlying5 (hval 1 5 v1 rfl rfl) h1
 obtain⟨m1,rfl,u1⟩:=Z86 w1
 obtain⟨x2,rfl,-,-,w2⟩:=open_int Tryz.underlying5 (hval 2 5 v2 rfl rfl) h2
 obtain⟨m2,rfl,u2⟩:=Z86 w2
 have G:=Zsm hL hsh
 refine (Zsq q0 W _ vs0 m1 m2 W.heap.size G hp0 hr0 hl0 u1 u2).mono fun e W' ⟨he,hg⟩=>?_
 subst he
 exact⟨_,rfl,Zos (pa:=_) (pv:=[]) hW' (fun _ _ _=>trodAll_mk1 (shut_bool Tryz.underlying4 _)) (fun sp hsp=>Zj7 (by kernel_rfl) (by kernel_rfl) hA2 (fun x hx=>hg.same (hlt x hx)) (fun x hx=>hsp x (List.mem_append_left _ hx))) (fun _ _=>rfl) rfl hg (ok_one (by kernel_rfl) rfl (okWide_bool_mk Tryz.underlying4 _))⟩
theorem Z2n:(Rows.askSatRow.wf (OpenSpec.ofChange Rows.askSatSpec))=true:=by kernel_rfl
theorem Z2o:(Tryz.f14.params.all (Tryz.prog.readableRec ·))=true:=by kernel_rfl
theorem Z2p:(namedTie Tryz.prog Rows.askSatRow.named Rows.askSatSpec.vars)=true:=by kernel_rfl
theorem Z2q:((Rows.askSatRow.stops==[]))=true:=by kernel_rfl
theorem Z2r:((Rows.askSatRow.knobs==[]))=true:=by kernel_rfl
theorem Z2s:((Rows.askSatRow.inPlace == Tryz.prog.inPlace 14))=true:=by kernel_rfl
theorem Zwo:((Rows.askSatRow.unfollowed == Tryz.prog.unfollowed 14))=true:=by kernel_rfl
theorem Zwp:((Rows.askSatRow.recurses == Tryz.prog.recurses 14))=true:=by kernel_rfl
theorem Zwq:((Rows.askSatRow.named == Tryz.prog.varsNamed 14))=true:=by kernel_rfl
theorem Zwr:((Rows.askSatRow.maps==(Tryz.f14.params.toList++Rows.askSatSpec.plain.varTypes Tryz.prog).any (Tryz.prog.mapsRec ·)))=true:=by kernel_rfl
theorem Zws:((Rows.askSatRow.ifaces==(Tryz.f14.params.toList++Rows.askSatSpec.plain.varTypes Tryz.prog).any (Tryz.prog.ifacesRec ·)))=true:=by kernel_rfl
theorem Zwt:((Rows.askSatRow.mapsOut == Tryz.prog.mapsAmong Tryz.f14.resultTypes.toList))=true:=by kernel_rfl
theorem Zwu:((Rows.askSatRow.loops==(Tryz.f14.params.toList++Rows.askSatSpec.plain.varTypes Tryz.prog).any (Tryz.prog.loopsFrom ·)))=true:=by kernel_rfl
theorem Zwv:((Rows.askSatRow.wideKeys==(Tryz.f14.params.toList++Rows.askSatSpec.plain.varTypes Tryz.prog ++ Tryz.f14.resultTypes.toList).any (Tryz.prog.wideKeysFrom ·)))=true:=by kernel_rfl
theorem Zww:(Rows.askSatSpec.vars.all (Tryz.prog.varReadable ·))=true:=by kernel_rfl
theorem Zwx:(Tryz.f14.resultTypes.all (fun t=>Tryz.prog.readableRec t&&decide (t < Tryz.prog.types.size)))=true:=by kernel_rfl
theorem Zwy:((Rows.askSatRow.ifacesOut == Tryz.f14.resultTypes.toList.any (Tryz.prog.ifacesRec ·)))=true:=by kernel_rfl
theorem Zwz:((Rows.askSatRow.loopsOut == Tryz.f14.resultTypes.toList.any (Tryz.prog.loopsFrom ·)))=true:=by kernel_rfl
theorem Zw0:((Rows.askSatRow.plainKeys == Tryz.prog.plainKeys))=true:=by kernel_rfl
theorem Zw1:(Rows.askSatRow.shortTexts.isNone)=true:=by kernel_rfl
theorem Zw2:((Rows.askSatRow.lifted == Tryz.prog.liftsFinal))=true:=by kernel_rfl
theorem Zw3:((Tryz.prog.make==some Rows.askSatRow.make))=true:=by kernel_rfl
theorem Zw4:((Rows.askSatRow.kinds==[]))=true:=by kernel_rfl
theorem Zw5:((Rows.askSatRow.pinned==Rows.askSatRow.pinnedBy))=true:=by kernel_rfl
theorem Zw6:((Rows.askSatRow.veiled==(Tryz.f14.params.toList++Rows.askSatSpec.plain.varTypes Tryz.prog ++ Tryz.f14.resultTypes.toList).any (Tryz.prog.veiledRec ·)))=true:=by kernel_rfl
theorem Zw7:(Rows.askSatRow.veiledFits Tryz.prog Tryz.f14.params.toList (Tryz.f14.params.toList++Rows.askSatSpec.plain.varTypes Tryz.prog ++ Tryz.f14.resultTypes.toList))=true:=by kernel_rfl
theorem Zw8:(Rows.askSatRow.domain.isEmpty)=true:=by kernel_rfl
theorem Zo0:joinedFacts Tryz.prog 14 Tryz.f14 Rows.askSatSpec Rows.askSatRow=true :=
 Z0u Z2n Z96 Z97 Z2o Z2p Z2q Z98 Z2r Z99 Z2s Zwo Zwp Zwq Zwr Zws Zwt Zwu Zwv Zww Zwx Zwy Zwz Zw0 Zw1 Z9q Z9r Zw2 Zw3 Zw4 Zw5 Zw6 Zw7 Zw8
theorem Zsy:Tryz.f14.isInstance Tryz.prog Rows.askSatRow.origin Rows.askSatRow.targs:=of_decide_eq_true (by kernel_rfl)
theorem Zsz:Tryz.f14.isWrapper Tryz.prog Rows.askSatRow.wrapper Rows.askSatRow.mainSum:=by unfold Func.isWrapper;first | (rw[if_pos (by decide +kernel)];kernel_rfl) | (rw[if_neg (by decide +kernel)];exact⟨rfl,rfl⟩)
theorem Zrb:Rows.AskSatSaid :=
 OpenClaim.holds_of_wide 14 Tryz.f14 rfl rfl rfl rfl rfl rfl rfl ⟨rfl,rfl,rfl,rfl,rfl⟩ rfl rfl rfl rfl rfl (by kernel_rfl) Tryz.func14 Zo0
  Zsy Zsz
  (fun os started H enc _=>Zoz os started H enc)
theorem Zs0:false=Rows.askSatRow.goesBy Tryz.prog:=by kernel_rfl
theorem Zw9:Rows.askSatRow.wfByText (OpenSpec.ofChange Rows.askSatSpec)=true:=by kernel_rfl
theorem Z2t:Tryz.prog.funcNamed "cloak/cloaklaw05.AskSat"=some 14:=by kernel_rfl
theorem Zxa:([25,5,5].all fun u=>!Tryz.prog.wantsStandIn u)=true:=by kernel_rfl
theorem askSat_card_holds:Rows.AskSatCardSaid :=
 Claim7.holds_tied_plain_at .later [] [.data,.widerDeep] true (true,"e946dd738e9aa7fac4b3de290664a7b0d746a21bc6ee9596d7723f6a41ddd4f9") true
  Zrb (fun _ h=>by cases h) Zw9 (fun _ h=>by cases h) askSat_row_tie rfl ⟨rfl,rfl⟩ Z43 rfl
  (fun f fn hf hfn=>by
   obtain rfl:f=14:=Option.some.inj (Z2t.symm.trans hf) |>.symm
   obtain rfl:fn = Tryz.f14:=(Option.some.inj (Tryz.func14.symm.trans hfn)).symm
   exact⟨Z0v,fun j t ht=>by
    rw[Tryz.params14] at ht
    have hm:t∈[25,5,5]:=by
     simpa using Array.mem_of_getElem? ht
    exact (show Tryz.prog.wantsStandIn t=false by simpa using List.all_eq_true.1 Zxa t hm)⟩)
  Zs0
#print axioms askSat_card_holds
end Go.Proofs.YtmkdfbelbcocpaaGreatDoor
