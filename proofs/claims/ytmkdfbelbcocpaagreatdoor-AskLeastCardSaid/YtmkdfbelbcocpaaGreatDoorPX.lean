/- AskLeast: for every input the statement returns true, and its arguments read as before; the row, and its tied card. Condition: the laid tables. -/
import Derived.Test.YtmkdfbelbcocpaaGreatDoorCards
import Derived.Test.YtmkdfbelbcocpaaGreatDoorTie
import Derived.SevenTiedAt
import Derived.Test.YtmkdfbelbcocpaaGreatDoorCL42
import Derived.Test.YtmkdfbelbcocpaaGreatDoorCL38
import Derived.Test.YtmkdfbelbcocpaaGreatDoorCL39
set_option linter.unusedVariables false
set_option linter.unusedSimpArgs false
set_option maxRecDepth 100000
namespace Go.Proofs.YtmkdfbelbcocpaaGreatDoor
open Go Go.ChangeShapes Go.WideShapes Go.ChangeAt Go.WideMaps Go.WideElems Go.RowKit Go.Joins
open Go.ChangeMaps (open_string shut_string)
theorem Zme (os:Os) (started:os.Started) (H:Type) (enc:TypeId×Value→H) :
  ReturnsInHanded {} Tryz.checked os 13 .any (fun w args=>(Rows.askLeastSpec.pre enc Tryz.prog Tryz.f13 [] false w args∧laidMetH Tryz.prog Z0w w)∧sizedMet enc Tryz.prog Tryz.f13 (OpenSpec.ofChange Rows.askLeastSpec) false w args)
   (Rows.askLeastSpec.post enc Tryz.prog Tryz.f13 false true false false):=by
 refine Z4g (C:=Tryz.checked) (X:=fun w _=>laidMetH Tryz.prog Z0w w) (fun _ _ _ hh h=>h.of_heap hh) own started (by kernel_rfl) Tryz.func13
  (ChangeSpec.witness_shaped (enc:=enc) (C:=Tryz.checked) (os:=os) (X:=fun w _=>laidMetH Tryz.prog Z0w w) false (World.doorLaid Tryz.prog 400 os) #[.slice none 0 0,.int .u8 0,.int .u8 0] 8 rfl (Zta os _) (by kernel_rfl) (by kernel_rfl) (by kernel_rfl) (Z0x os _)) ?_
 intro W base args ds gs before hval0 hW hL hsh
 have hval:∀ (j:Nat) t v,Tryz.f13.params[j]?=some t→args[j]?=some v→Value.okWide Tryz.prog W .any base t v:=hval0
 have hW':=hW
 obtain⟨p,q,hA0,hV,rfl,hfz,hnd⟩:=hW
 have hA:DataW.TrodAll enc Tryz.prog W 0 (fun _=>true) true Tryz.f13.params.toList args.toList ds p:=hA0
 have hlt:=hA.lt
 have hA2:=hA
 rw[Tryz.params13] at hA hval
 obtain⟨v0,vr0,d0,ds0,p0,q0,hargs,rfl,rfl,h0,r0⟩:=trodAll_cons hA
 obtain⟨v1,vr1,d1,ds1,p1,q1,rfl,rfl,rfl,h1,r1⟩:=trodAll_cons r0
 obtain⟨v2,vr2,d2,ds2,p2,q2,rfl,rfl,rfl,h2,r2⟩:=trodAll_cons r1
 obtain⟨rfl,rfl,rfl⟩:=trodAll_nil r2
 obtain rfl:args=#[v0,v1,v2]:=Array.toList_inj.1 hargs
 obtain⟨rfl,rfl⟩:=trodVars_none hV
 obtain⟨l0,lo0,n0,c0,rfl,hn0,hg0,hb0,hr0,hy0⟩:=Zwt (hval 0 23 v0 rfl rfl) h0
 obtain⟨x1,rfl,-,-,w1⟩:=open_int Tryz.underlying5 (hval 1 5 v1 rfl rfl) h1
 obtain⟨m1,rfl,u1⟩:=Z7y w1
 obtain⟨x2,rfl,-,-,w2⟩:=open_int Tryz.underlying5 (hval 2 5 v2 rfl rfl) h2
 obtain⟨m2,rfl,u2⟩:=Z7y w2
 have G:=Ztb hL hsh
 refine (Zon W _ l0 lo0 n0 c0 m1 m2 W.heap.size G hb0 hn0 hg0 hr0 u1 u2).mono fun e W' ⟨he,hg⟩=>?_
 subst he
 exact⟨_,rfl,Zoq (pa:=_) (pv:=[]) hW' (fun _ _ _=>trodAll_mk1 (shut_bool Tryz.underlying4 _)) (fun sp hsp=>Zj9 (by kernel_rfl) (by kernel_rfl) hA2 (fun x hx=>hg.same (hlt x hx)) (fun x hx=>hsp x (List.mem_append_left _ hx))) (fun _ _=>rfl) rfl hg (ok_one (by kernel_rfl) rfl (okWide_bool_mk Tryz.underlying4 _))⟩
theorem Zti:(Rows.askLeastRow.wf (OpenSpec.ofChange Rows.askLeastSpec))=true:=by kernel_rfl
theorem Ztj:(Tryz.f13.params.all (Tryz.prog.readableRec ·))=true:=by kernel_rfl
theorem Ztk:(namedTie Tryz.prog Rows.askLeastRow.named Rows.askLeastSpec.vars)=true:=by kernel_rfl
theorem Ztl:((Rows.askLeastRow.stops==[]))=true:=by kernel_rfl
theorem Ztm:((Rows.askLeastRow.knobs==[]))=true:=by kernel_rfl
theorem Ztn:((Rows.askLeastRow.inPlace == Tryz.prog.inPlace 13))=true:=by kernel_rfl
theorem Zq6:((Rows.askLeastRow.unfollowed == Tryz.prog.unfollowed 13))=true:=by kernel_rfl
theorem Zq7:((Rows.askLeastRow.recurses == Tryz.prog.recurses 13))=true:=by kernel_rfl
theorem Zq8:((Rows.askLeastRow.named == Tryz.prog.varsNamed 13))=true:=by kernel_rfl
theorem Zq9:((Rows.askLeastRow.maps==(Tryz.f13.params.toList++Rows.askLeastSpec.plain.varTypes Tryz.prog).any (Tryz.prog.mapsRec ·)))=true:=by kernel_rfl
theorem Zra:((Rows.askLeastRow.ifaces==(Tryz.f13.params.toList++Rows.askLeastSpec.plain.varTypes Tryz.prog).any (Tryz.prog.ifacesRec ·)))=true:=by kernel_rfl
theorem Zrb:((Rows.askLeastRow.mapsOut == Tryz.prog.mapsAmong Tryz.f13.resultTypes.toList))=true:=by kernel_rfl
theorem Zrc:((Rows.askLeastRow.loops==(Tryz.f13.params.toList++Rows.askLeastSpec.plain.varTypes Tryz.prog).any (Tryz.prog.loopsFrom ·)))=true:=by kernel_rfl
theorem Zrd:((Rows.askLeastRow.wideKeys==(Tryz.f13.params.toList++Rows.askLeastSpec.plain.varTypes Tryz.prog ++ Tryz.f13.resultTypes.toList).any (Tryz.prog.wideKeysFrom ·)))=true:=by kernel_rfl
theorem Zre:(Rows.askLeastSpec.vars.all (Tryz.prog.varReadable ·))=true:=by kernel_rfl
theorem Zrf:(Tryz.f13.resultTypes.all (fun t=>Tryz.prog.readableRec t&&decide (t < Tryz.prog.types.size)))=true:=by kernel_rfl
theorem Zrg:((Rows.askLeastRow.ifacesOut == Tryz.f13.resultTypes.toList.any (Tryz.prog.ifacesRec ·)))=true:=by kernel_rfl
theorem Zrh:((Rows.askLeastRow.loopsOut == Tryz.f13.resultTypes.toList.any (Tryz.prog.loopsFrom ·)))=true:=by kernel_rfl
theorem Zri:((Rows.askLeastRow.plainKeys == Tryz.prog.plainKeys))=true:=by kernel_rfl
theorem Zrj:(Rows.askLeastRow.shortTexts.isNone)=true:=by kernel_rfl
theorem Zrk:((Rows.askLeastRow.lifted == Tryz.prog.liftsFinal))=true:=by kernel_rfl
theorem Zrl:((Tryz.prog.make==some Rows.askLeastRow.make))=true:=by kernel_rfl
theorem Zrm:((Rows.askLeastRow.kinds==[]))=true:=by kernel_rfl
theorem Zrn:((Rows.askLeastRow.pinned==Rows.askLeastRow.pinnedBy))=true:=by kernel_rfl
theorem Zro:((Rows.askLeastRow.veiled==(Tryz.f13.params.toList++Rows.askLeastSpec.plain.varTypes Tryz.prog ++ Tryz.f13.resultTypes.toList).any (Tryz.prog.veiledRec ·)))=true:=by kernel_rfl
theorem Zrp:(Rows.askLeastRow.veiledFits Tryz.prog Tryz.f13.params.toList (Tryz.f13.params.toList++Rows.askLeastSpec.plain.varTypes Tryz.prog ++ Tryz.f13.resultTypes.toList))=true:=by kernel_rfl
theorem Zrq:(Rows.askLeastRow.domain.isEmpty)=true:=by kernel_rfl
theorem Zmf:joinedFacts Tryz.prog 13 Tryz.f13 Rows.askLeastSpec Rows.askLeastRow=true :=
 Z0u Zti Z88 Z89 Ztj Ztk Ztl Z9a Ztm Z9b Ztn Zq6 Zq7 Zq8 Zq9 Zra Zrb Zrc Zrd Zre Zrf Zrg Zrh Zri Zrj Z8m Z8n Zrk Zrl Zrm Zrn Zro Zrp Zrq
theorem Zow:Tryz.f13.isInstance Tryz.prog Rows.askLeastRow.origin Rows.askLeastRow.targs:=of_decide_eq_true (by kernel_rfl)
theorem Zox:Tryz.f13.isWrapper Tryz.prog Rows.askLeastRow.wrapper Rows.askLeastRow.mainSum:=by unfold Func.isWrapper;first | (rw[if_pos (by decide +kernel)];kernel_rfl) | (rw[if_neg (by decide +kernel)];exact⟨rfl,rfl⟩)
theorem Zmq:Rows.AskLeastSaid :=
 OpenClaim.holds_of_wide 13 Tryz.f13 rfl rfl rfl rfl rfl rfl rfl ⟨rfl,rfl,rfl,rfl,rfl⟩ rfl rfl rfl rfl rfl (by kernel_rfl) Tryz.func13 Zmf
  Zow Zox
  (fun os started H enc _=>Zme os started H enc)
theorem Zoy:false=Rows.askLeastRow.goesBy Tryz.prog:=by kernel_rfl
theorem Zrr:Rows.askLeastRow.wfByText (OpenSpec.ofChange Rows.askLeastSpec)=true:=by kernel_rfl
theorem Zto:Tryz.prog.funcNamed "cloak/cloaklaw05.AskLeast"=some 13:=by kernel_rfl
theorem Zrs:([23,5,5].all fun u=>!Tryz.prog.wantsStandIn u)=true:=by kernel_rfl
theorem askLeast_card_holds:Rows.AskLeastCardSaid :=
 Claim7.holds_tied_plain_at .later [] [.data,.widerDeep] true (true,"e946dd738e9aa7fac4b3de290664a7b0d746a21bc6ee9596d7723f6a41ddd4f9") true
  Zmq (fun _ h=>by cases h) Zrr (fun _ h=>by cases h) askLeast_row_tie rfl ⟨rfl,rfl⟩ Z4h rfl
  (fun f fn hf hfn=>by
   obtain rfl:f=13:=Option.some.inj (Zto.symm.trans hf) |>.symm
   obtain rfl:fn = Tryz.f13:=(Option.some.inj (Tryz.func13.symm.trans hfn)).symm
   exact⟨Z0v,fun j t ht=>by
    rw[Tryz.params13] at ht
    have hm:t∈[23,5,5]:=by
     simpa using Array.mem_of_getElem? ht
    exact (show Tryz.prog.wantsStandIn t=false by simpa using List.all_eq_true.1 Zrs t hm)⟩)
  Zoy
#print axioms askLeast_card_holds
end Go.Proofs.YtmkdfbelbcocpaaGreatDoor
