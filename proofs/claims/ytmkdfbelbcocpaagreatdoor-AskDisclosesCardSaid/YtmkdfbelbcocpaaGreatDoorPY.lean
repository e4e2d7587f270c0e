/- AskDiscloses: for every input the statement returns true, and its arguments read as before; the row, and its tied card. Condition: the laid tables. -/
import Derived.Test.YtmkdfbelbcocpaaGreatDoorCards
import Derived.Test.YtmkdfbelbcocpaaGreatDoorTie
import Derived.SevenTiedAt
import Derived.Test.YtmkdfbelbcocpaaGreatDoorCD41
import Derived.Test.YtmkdfbelbcocpaaGreatDoorCD37
import Derived.Test.YtmkdfbelbcocpaaGreatDoorCD42
set_option linter.unusedVariables false
set_option linter.unusedSimpArgs false
set_option maxRecDepth 100000
namespace Go.Proofs.YtmkdfbelbcocpaaGreatDoor
open Go Go.ChangeShapes Go.WideShapes Go.ChangeAt Go.WideMaps Go.WideElems Go.RowKit Go.Joins
open Go.ChangeMaps (open_string shut_string)
theorem Zh8 (os:Os) (started:os.Started) (H:Type) (enc:TypeId×Value→H) :
  ReturnsInHanded {} Tryz.checked os 10 .any (fun w args=>(Rows.askDisclosesSpec.pre enc Tryz.prog Tryz.f10 [] false w args∧laidMetH Tryz.prog Z04 w)∧sizedMet enc Tryz.prog Tryz.f10 (OpenSpec.ofChange Rows.askDisclosesSpec) false w args)
   (Rows.askDisclosesSpec.post enc Tryz.prog Tryz.f10 false true false false):=by
 refine Z06 (C:=Tryz.checked) (X:=fun w _=>laidMetH Tryz.prog Z04 w) (fun _ _ _ hh h=>h.of_heap hh) own started (by kernel_rfl) Tryz.func10
  (ChangeSpec.witness_shaped (enc:=enc) (C:=Tryz.checked) (os:=os) (X:=fun w _=>laidMetH Tryz.prog Z04 w) false (World.doorLaid Tryz.prog 400 os) #[.agg #[.int .i64 0,.string ⟨#[]⟩,.string ⟨#[]⟩,.int .i64 0,.slice none 0 0],.slice none 0 0,.int .u8 0,.int .u8 0] 8 rfl (Zti os _) (by kernel_rfl) (by kernel_rfl) (by kernel_rfl) (Z05 os _)) ?_
 intro W base args ds gs before hval0 hW hL hsh hz
 have hval:∀ (j:Nat) t v,Tryz.f10.params[j]?=some t→args[j]?=some v→Value.okWide Tryz.prog W .any base t v:=hval0
 have hW':=hW
 obtain⟨p,q,hA0,hV,rfl,hfz,hnd⟩:=hW
 have hA:DataW.TrodAll enc Tryz.prog W 0 (fun _=>true) true Tryz.f10.params.toList args.toList ds p:=hA0
 have hlt:=hA.lt
 have hA2:=hA
 rw[Tryz.params10] at hA hval
 obtain⟨v0,vr0,d0,ds0,p0,q0,hargs,rfl,rfl,h0,r0⟩:=trodAll_cons hA
 obtain⟨v1,vr1,d1,ds1,p1,q1,rfl,rfl,rfl,h1,r1⟩:=trodAll_cons r0
 obtain⟨v2,vr2,d2,ds2,p2,q2,rfl,rfl,rfl,h2,r2⟩:=trodAll_cons r1
 obtain⟨v3,vr3,d3,ds3,p3,q3,rfl,rfl,rfl,h3,r3⟩:=trodAll_cons r2
 obtain⟨rfl,rfl,rfl⟩:=trodAll_nil r3
 obtain rfl:args=#[v0,v1,v2,v3]:=Array.toList_inj.1 hargs
 obtain⟨rfl,rfl⟩:=trodVars_none hV
 obtain⟨q0,vs0,rfl,hp0,hr0,hl0⟩:=Z00 (hval 0 25 v0 rfl rfl) h0
 obtain⟨l1,lo1,n1,c1,rfl,hn1,hg1,hb1,hr1,hy1⟩:=Zwz (hval 1 23 v1 rfl rfl) h1
 have hs1:=Zw2 (j:=1) hz (by kernel_rfl) rfl h1
 obtain⟨x2,rfl,-,-,w2⟩:=open_int Tryz.underlying5 (hval 2 5 v2 rfl rfl) h2
 obtain⟨m2,rfl,u2⟩:=Z8i w2
 obtain⟨x3,rfl,-,-,w3⟩:=open_int Tryz.underlying5 (hval 3 5 v3 rfl rfl) h3
 obtain⟨m3,rfl,u3⟩:=Z8i w3
 have G:=Ztl hL hsh
 refine (Zjx q0 W _ vs0 l1 lo1 n1 c1 m2 m3 W.heap.size G hp0 hb1 hn1 hs1 hr0 hr1 hl0 hy1 u2 u3).mono fun e W' ⟨he,hg⟩=>?_
 subst he
 exact⟨_,rfl,Zpq (pa:=_) (pv:=[]) hW' (fun _ _ _=>trodAll_mk1 (shut_bool Tryz.underlying4 _)) (fun sp hsp=>Zkc (by kernel_rfl) (by kernel_rfl) hA2 (fun x hx=>hg.same (hlt x hx)) (fun x hx=>hsp x (List.mem_append_left _ hx))) (fun _ _=>rfl) rfl hg (ok_one (by kernel_rfl) rfl (okWide_bool_mk Tryz.underlying4 _))⟩
theorem Zm4:(Rows.askDisclosesRow.wf (OpenSpec.ofChange Rows.askDisclosesSpec))=true:=by kernel_rfl
theorem Zm5:(Tryz.f10.params.all (Tryz.prog.readableRec ·))=true:=by kernel_rfl
theorem Zm6:(namedTie Tryz.prog Rows.askDisclosesRow.named Rows.askDisclosesSpec.vars)=true:=by kernel_rfl
theorem Zm7:((Rows.askDisclosesRow.stops==[]))=true:=by kernel_rfl
theorem Zm8:((Rows.askDisclosesRow.knobs==[]))=true:=by kernel_rfl
theorem Zm9:((Rows.askDisclosesRow.inPlace == Tryz.prog.inPlace 10))=true:=by kernel_rfl
theorem Zko:((Rows.askDisclosesRow.unfollowed == Tryz.prog.unfollowed 10))=true:=by kernel_rfl
theorem Zkp:((Rows.askDisclosesRow.recurses == Tryz.prog.recurses 10))=true:=by kernel_rfl
theorem Zkq:((Rows.askDisclosesRow.named == Tryz.prog.varsNamed 10))=true:=by kernel_rfl
theorem Zkr:((Rows.askDisclosesRow.maps==(Tryz.f10.params.toList++Rows.askDisclosesSpec.plain.varTypes Tryz.prog).any (Tryz.prog.mapsRec ·)))=true:=by kernel_rfl
theorem Zks:((Rows.askDisclosesRow.ifaces==(Tryz.f10.params.toList++Rows.askDisclosesSpec.plain.varTypes Tryz.prog).any (Tryz.prog.ifacesRec ·)))=true:=by kernel_rfl
theorem Zkt:((Rows.askDisclosesRow.mapsOut == Tryz.prog.mapsAmong Tryz.f10.resultTypes.toList))=true:=by kernel_rfl
theorem Zku:((Rows.askDisclosesRow.loops==(Tryz.f10.params.toList++Rows.askDisclosesSpec.plain.varTypes Tryz.prog).any (Tryz.prog.loopsFrom ·)))=true:=by kernel_rfl
theorem Zkv:((Rows.askDisclosesRow.wideKeys==(Tryz.f10.params.toList++Rows.askDisclosesSpec.plain.varTypes Tryz.prog ++ Tryz.f10.resultTypes.toList).any (Tryz.prog.wideKeysFrom ·)))=true:=by kernel_rfl
theorem Zkw:(Rows.askDisclosesSpec.vars.all (Tryz.prog.varReadable ·))=true:=by kernel_rfl
theorem Zkx:(Tryz.f10.resultTypes.all (fun t=>Tryz.prog.readableRec t&&decide (t < Tryz.prog.types.size)))=true:=by kernel_rfl
theorem Zky:((Rows.askDisclosesRow.ifacesOut == Tryz.f10.resultTypes.toList.any (Tryz.prog.ifacesRec ·)))=true:=by kernel_rfl
theorem Zkz:((Rows.askDisclosesRow.loopsOut == Tryz.f10.resultTypes.toList.any (Tryz.prog.loopsFrom ·)))=true:=by kernel_rfl
theorem Zk0:((Rows.askDisclosesRow.plainKeys == Tryz.prog.plainKeys))=true:=by kernel_rfl
theorem Zk1:(Rows.askDisclosesRow.shortTexts.isNone)=true:=by kernel_rfl
theorem Zk2:((Rows.askDisclosesRow.lifted == Tryz.prog.liftsFinal))=true:=by kernel_rfl
theorem Zk3:((Tryz.prog.make==some Rows.askDisclosesRow.make))=true:=by kernel_rfl
theorem Zk4:((Rows.askDisclosesRow.kinds==[]))=true:=by kernel_rfl
theorem Zk5:((Rows.askDisclosesRow.pinned==Rows.askDisclosesRow.pinnedBy))=true:=by kernel_rfl
theorem Zk6:((Rows.askDisclosesRow.veiled==(Tryz.f10.params.toList++Rows.askDisclosesSpec.plain.varTypes Tryz.prog ++ Tryz.f10.resultTypes.toList).any (Tryz.prog.veiledRec ·)))=true:=by kernel_rfl
theorem Zk7:(Rows.askDisclosesRow.veiledFits Tryz.prog Tryz.f10.params.toList (Tryz.f10.params.toList++Rows.askDisclosesSpec.plain.varTypes Tryz.prog ++ Tryz.f10.resultTypes.toList))=true:=by kernel_rfl
theorem Zk8:(Rows.askDisclosesRow.domain.isEmpty)=true:=by kernel_rfl
theorem Zh9:joinedFacts Tryz.prog 10 Tryz.f10 Rows.askDisclosesSpec Rows.askDisclosesRow=true :=
 Z02 Zm4 Z9s Z9t Zm5 Zm6 Zm7 Z9u Zm8 Z9v Zm9 Zko Zkp Zkq Zkr Zks Zkt Zku Zkv Zkw Zkx Zky Zkz Zk0 Zk1 Z86 Z87 Zk2 Zk3 Zk4 Zk5 Zk6 Zk7 Zk8
theorem Zj0:Tryz.f10.isInstance Tryz.prog Rows.askDisclosesRow.origin Rows.askDisclosesRow.targs:=of_decide_eq_true (by kernel_rfl)
theorem Zj1:Tryz.f10.isWrapper Tryz.prog Rows.askDisclosesRow.wrapper Rows.askDisclosesRow.mainSum:=by unfold Func.isWrapper;first | (rw[if_pos (by decide +kernel)];kernel_rfl) | (rw[if_neg (by decide +kernel)];exact⟨rfl,rfl⟩)
theorem Zjf:Rows.AskDisclosesSaid :=
 OpenClaim.holds_of_wide 10 Tryz.f10 rfl rfl rfl rfl rfl rfl rfl ⟨rfl,rfl,rfl,rfl,rfl⟩ rfl rfl rfl rfl rfl (by kernel_rfl) Tryz.func10 Zh9
  Zj0 Zj1
  (fun os started H enc _=>Zh8 os started H enc)
theorem Zj2:false=Rows.askDisclosesRow.goesBy Tryz.prog:=by kernel_rfl
theorem Zk9:Rows.askDisclosesRow.wfByText (OpenSpec.ofChange Rows.askDisclosesSpec)=true:=by kernel_rfl
theorem Zna:Tryz.prog.funcNamed "cloak/cloaklaw05.AskDiscloses"=some 10:=by kernel_rfl
theorem Zla:([25,23,5,5].all fun u=>!Tryz.prog.wantsStandIn u)=true:=by kernel_rfl
theorem askDiscloses_card_holds:Rows.AskDisclosesCardSaid :=
 Claim7.holds_tied_plain_at .later [] [.data,.widerDeep] true (true,"e946dd738e9aa7fac4b3de290664a7b0d746a21bc6ee9596d7723f6a41ddd4f9") true
  Zjf (fun _ h=>by cases h) Zk9 (fun _ h=>by cases h) askDiscloses_row_tie rfl ⟨rfl,rfl⟩ Z4r rfl
  (fun f fn hf hfn=>by
   obtain rfl:f=10:=Option.some.inj (Zna.symm.trans hf) |>.symm
   obtain rfl:fn = Tryz.f10:=(Option.some.inj (Tryz.func10.symm.trans hfn)).symm
   exact⟨Z03,fun j t ht=>by
    rw[Tryz.params10] at ht
    have hm:t∈[25,23,5,5]:=by
     simpa using Array.mem_of_getElem? ht
    exact (show Tryz.prog.wantsStandIn t=false by simpa using List.all_eq_true.1 Zla t hm)⟩)
  Zj2
#print axioms askDiscloses_card_holds
end Go.Proofs.YtmkdfbelbcocpaaGreatDoor
