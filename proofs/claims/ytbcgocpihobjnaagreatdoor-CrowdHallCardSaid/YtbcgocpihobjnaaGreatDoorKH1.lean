/- CrowdHall: for every input the statement returns true, and its arguments read as before; the row, and its tied card. Condition: the laid tables. -/
import Derived.Test.YtbcgocpihobjnaaGreatDoorCards
import Derived.Test.YtbcgocpihobjnaaGreatDoorTie
import Derived.SevenTiedAt
import Derived.Test.YtbcgocpihobjnaaGreatDoorCH46
import Derived.Test.YtbcgocpihobjnaaGreatDoorCH45
set_option linter.unusedVariables false
set_option linter.unusedSimpArgs false
set_option maxRecDepth 100000
namespace Go.Proofs.YtbcgocpihobjnaaGreatDoor
open Go Go.ChangeShapes Go.WideShapes Go.ChangeAt Go.WideMaps Go.WideElems Go.RowKit Go.Joins
open Go.ChangeMaps (open_string shut_string)
theorem Zgx (os:Os) (started:os.Started) (H:Type) (enc:TypeId×Value→H) :
  ReturnsInHanded {} Tryz.checked os 15 .any (fun w args=>(Rows.crowdHallSpec.pre enc Tryz.prog Tryz.f15 [] false w args∧laidMetH Tryz.prog Zt4 w)∧sizedMet enc Tryz.prog Tryz.f15 (OpenSpec.ofChange Rows.crowdHallSpec) false w args)
   (Rows.crowdHallSpec.post enc Tryz.prog Tryz.f15 false true false false):=by
 refine Zvp (C:=Tryz.checked) (X:=fun w _=>laidMetH Tryz.prog Zt4 w) (fun _ _ _ hh h=>h.of_heap hh) own started (by kernel_rfl) Tryz.func15
  (ChangeSpec.witness_shaped (enc:=enc) (C:=Tryz.checked) (os:=os) (X:=fun w _=>laidMetH Tryz.prog Zt4 w) false (World.doorLaid Tryz.prog 400 os) #[.agg #[.slice none 0 0,.slice none 0 0,.slice none 0 0],.int .i64 0,.int .i64 0,.slice none 0 0] 8 rfl (Znm os _) (by kernel_rfl) (by kernel_rfl) (by kernel_rfl) (Zt5 os _)) ?_
 intro W base args ds gs before hval0 hW hL hsh
 have hval:∀ (j:Nat) t v,Tryz.f15.params[j]?=some t→args[j]?=some v→Value.okWide Tryz.prog W .any base t v:=hval0
 have hW':=hW
 obtain⟨p,q,hA0,hV,rfl,hfz,hnd⟩:=hW
 have hA:DataW.TrodAll enc Tryz.prog W 0 (fun _=>true) true Tryz.f15.params.toList args.toList ds p:=hA0
 have hlt:=hA.lt
 have hA2:=hA
 rw[Tryz.params15] at hA hval
 obtain⟨v0,vr0,d0,ds0,p0,q0,hargs,rfl,rfl,h0,r0⟩:=trodAll_cons hA
 obtain⟨v1,vr1,d1,ds1,p1,q1,rfl,rfl,rfl,h1,r1⟩:=trodAll_cons r0
 obtain⟨v2,vr2,d2,ds2,p2,q2,rfl,rfl,rfl,h2,r2⟩:=trodAll_cons r1
 obtain⟨v3,vr3,d3,ds3,p3,q3,rfl,rfl,rfl,h3,r3⟩:=trodAll_cons r2
 obtain⟨rfl,rfl,rfl⟩:=trodAll_nil r3
 obtain rfl:args=#[v0,v1,v2,v3]:=Array.toList_inj.1 hargs
 obtain⟨rfl,rfl⟩:=trodVars_none hV
 obtain⟨q0,vs0,rfl,hc0,hL0,hb0,hm0⟩:=Zwr (hval 0 26 v0 rfl rfl) h0
 obtain⟨x1,rfl,-,-,w1⟩:=open_int Tryz.underlying3 (hval 1 3 v1 rfl rfl) h1
 obtain⟨x2,rfl,-,-,w2⟩:=open_int Tryz.underlying3 (hval 2 3 v2 rfl rfl) h2
 obtain⟨l3,lo3,n3,c3,rfl,hn3,hg3,hb3⟩:=Zsz (hval 3 33 v3 rfl rfl) h3
 subst hn3
 have G:=Zmt hL hsh
 refine (Zt3 W q0 vs0 W.heap.size x1 x2 l3 lo3 c3 hc0 G hL0 hb0 hm0 hb3 hg3).mono fun e W' ⟨he,hg⟩=>?_
 subst he
 exact⟨_,rfl,Zjz (pa:=_) (pv:=[]) hW' (fun _ _ _=>trodAll_mk1 (shut_bool Tryz.underlying4 _)) (fun sp hsp=>Zgh (by kernel_rfl) (by kernel_rfl) hA2 (fun x hx=>hg.same (hlt x hx)) (fun x hx=>hsp x (List.mem_append_left _ hx))) (fun _ _=>rfl) rfl hg (ok_one (by kernel_rfl) rfl (okWide_bool_mk Tryz.underlying4 _))⟩
theorem Zmu:(Rows.crowdHallRow.wf (OpenSpec.ofChange Rows.crowdHallSpec))=true:=by kernel_rfl
theorem Zmv:(Tryz.f15.params.all (Tryz.prog.readableRec ·))=true:=by kernel_rfl
theorem Zmw:(namedTie Tryz.prog Rows.crowdHallRow.named Rows.crowdHallSpec.vars)=true:=by kernel_rfl
theorem Zmx:((Rows.crowdHallRow.stops==[]))=true:=by kernel_rfl
theorem Zmy:((Rows.crowdHallRow.knobs==[]))=true:=by kernel_rfl
theorem Zmz:((Rows.crowdHallRow.inPlace == Tryz.prog.inPlace 15))=true:=by kernel_rfl
theorem Zkj:((Rows.crowdHallRow.unfollowed == Tryz.prog.unfollowed 15))=true:=by kernel_rfl
theorem Zkk:((Rows.crowdHallRow.recurses == Tryz.prog.recurses 15))=true:=by kernel_rfl
theorem Zkl:((Rows.crowdHallRow.named == Tryz.prog.varsNamed 15))=true:=by kernel_rfl
theorem Zkm:((Rows.crowdHallRow.maps==(Tryz.f15.params.toList++Rows.crowdHallSpec.plain.varTypes Tryz.prog).any (Tryz.prog.mapsRec ·)))=true:=by kernel_rfl
theorem Zkn:((Rows.crowdHallRow.ifaces==(Tryz.f15.params.toList++Rows.crowdHallSpec.plain.varTypes Tryz.prog).any (Tryz.prog.ifacesRec ·)))=true:=by kernel_rfl
theorem Zko:((Rows.crowdHallRow.mapsOut == Tryz.prog.mapsAmong Tryz.f15.resultTypes.toList))=true:=by kernel_rfl
theorem Zkp:((Rows.crowdHallRow.loops==(Tryz.f15.params.toList++Rows.crowdHallSpec.plain.varTypes Tryz.prog).any (Tryz.prog.loopsFrom ·)))=true:=by kernel_rfl
theorem Zkq:((Rows.crowdHallRow.wideKeys==(Tryz.f15.params.toList++Rows.crowdHallSpec.plain.varTypes Tryz.prog ++ Tryz.f15.resultTypes.toList).any (Tryz.prog.wideKeysFrom ·)))=true:=by kernel_rfl
theorem Zkr:(Rows.crowdHallSpec.vars.all (Tryz.prog.varReadable ·))=true:=by kernel_rfl
theorem Zks:(Tryz.f15.resultTypes.all (fun t=>Tryz.prog.readableRec t&&decide (t < Tryz.prog.types.size)))=true:=by kernel_rfl
theorem Zkt:((Rows.crowdHallRow.ifacesOut == Tryz.f15.resultTypes.toList.any (Tryz.prog.ifacesRec ·)))=true:=by kernel_rfl
theorem Zku:((Rows.crowdHallRow.loopsOut == Tryz.f15.resultTypes.toList.any (Tryz.prog.loopsFrom ·)))=true:=by kernel_rfl
theorem Zkv:((Rows.crowdHallRow.plainKeys == Tryz.prog.plainKeys))=true:=by kernel_rfl
theorem Zkw:(Rows.crowdHallRow.shortTexts.isNone)=true:=by kernel_rfl
theorem Zkx:((Rows.crowdHallRow.lifted == Tryz.prog.liftsFinal))=true:=by kernel_rfl
theorem Zky:((Tryz.prog.make==some Rows.crowdHallRow.make))=true:=by kernel_rfl
theorem Zkz:((Rows.crowdHallRow.kinds==[]))=true:=by kernel_rfl
theorem Zk0:((Rows.crowdHallRow.pinned==Rows.crowdHallRow.pinnedBy))=true:=by kernel_rfl
theorem Zk1:((Rows.crowdHallRow.veiled==(Tryz.f15.params.toList++Rows.crowdHallSpec.plain.varTypes Tryz.prog ++ Tryz.f15.resultTypes.toList).any (Tryz.prog.veiledRec ·)))=true:=by kernel_rfl
theorem Zk2:(Rows.crowdHallRow.veiledFits Tryz.prog Tryz.f15.params.toList (Tryz.f15.params.toList++Rows.crowdHallSpec.plain.varTypes Tryz.prog ++ Tryz.f15.resultTypes.toList))=true:=by kernel_rfl
theorem Zk3:(Rows.crowdHallRow.domain.isEmpty)=true:=by kernel_rfl
theorem Zgy:joinedFacts Tryz.prog 15 Tryz.f15 Rows.crowdHallSpec Rows.crowdHallRow=true :=
 Zsg Zmu Z0k Z0l Zmv Zmw Zmx Z0m Zmy Z0n Zmz Zkj Zkk Zkl Zkm Zkn Zko Zkp Zkq Zkr Zks Zkt Zku Zkv Zkw Zzw Zzx Zkx Zky Zkz Zk0 Zk1 Zk2 Zk3
theorem Ziq:Tryz.f15.isInstance Tryz.prog Rows.crowdHallRow.origin Rows.crowdHallRow.targs:=of_decide_eq_true (by kernel_rfl)
theorem Zir:Tryz.f15.isWrapper Tryz.prog Rows.crowdHallRow.wrapper Rows.crowdHallRow.mainSum:=by unfold Func.isWrapper;first | (rw[if_pos (by decide +kernel)];kernel_rfl) | (rw[if_neg (by decide +kernel)];exact⟨rfl,rfl⟩)
theorem Zh9:Rows.CrowdHallSaid :=
 OpenClaim.holds_of_wide 15 Tryz.f15 rfl rfl rfl rfl rfl rfl rfl ⟨rfl,rfl,rfl,rfl,rfl⟩ rfl rfl rfl rfl rfl (by kernel_rfl) Tryz.func15 Zgy
  Ziq Zir
  (fun os started H enc _=>Zgx os started H enc)
theorem Zis:false=Rows.crowdHallRow.goesBy Tryz.prog:=by kernel_rfl
theorem Zk4:Rows.crowdHallRow.wfByText (OpenSpec.ofChange Rows.crowdHallSpec)=true:=by kernel_rfl
theorem Zm0:Tryz.prog.funcNamed "cloak/cloaklaw09.CrowdHall"=some 15:=by kernel_rfl
theorem Zk5:([26,3,3,33].all fun u=>!Tryz.prog.wantsStandIn u)=true:=by kernel_rfl
theorem crowdHall_card_holds:Rows.CrowdHallCardSaid :=
 Claim7.holds_tied_plain_at .later [] [.widerDeep] true (true,"338451282303b13a8cdbd10538cf236b010dc1946a10f25ba5749e7e6682990c") false
  Zh9 (fun _ h=>by cases h) Zk4 (fun _ h=>by cases h) crowdHall_row_tie rfl ⟨rfl,rfl⟩ Zt6 rfl
  (fun f fn hf hfn=>by
   obtain rfl:f=15:=Option.some.inj (Zm0.symm.trans hf) |>.symm
   obtain rfl:fn = Tryz.f15:=(Option.some.inj (Tryz.func15.symm.trans hfn)).symm
   exact⟨Zqs,fun j t ht=>by
    rw[Tryz.params15] at ht
    have hm:t∈[26,3,3,33]:=by
     simpa using Array.mem_of_getElem? ht
    exact (show Tryz.prog.wantsStandIn t=false by simpa using List.all_eq_true.1 Zk5 t hm)⟩)
  Zis
#print axioms crowdHall_card_holds
end Go.Proofs.YtbcgocpihobjnaaGreatDoor
