/- CrowdImplied: for every input the statement returns true, and its arguments read as before; the row, and its tied card. Condition: the laid tables. -/
import Derived.Test.YtbcgocpihobjnaaGreatDoorCards
import Derived.Test.YtbcgocpihobjnaaGreatDoorTie
import Derived.SevenTiedAt
import Derived.Test.YtbcgocpihobjnaaGreatDoorCI49
import Derived.Test.YtbcgocpihobjnaaGreatDoorCI46
import Derived.Test.YtbcgocpihobjnaaGreatDoorCI48
set_option linter.all false
set_option maxRecDepth 100000
namespace Go.Proofs.YtbcgocpihobjnaaGreatDoor
open Go Go.ChangeShapes Go.WideShapes Go.ChangeAt Go.WideMaps Go.WideElems Go.RowKit Go.Joins
open Go.ChangeMaps (open_string shut_string)
theorem Zgh (os:Os) (started:os.Started) (H:Type) (enc:TypeId×Value→H) :
  ReturnsInHanded {} Tryz.checked os 17 .any (fun w args=>(Rows.crowdImpliedSpec.pre enc Tryz.prog Tryz.f17 [] false w args∧laidMetH Tryz.prog Zzg w)∧sizedMet enc Tryz.prog Tryz.f17 (OpenSpec.ofChange Rows.crowdImpliedSpec) false w args)
   (Rows.crowdImpliedSpec.post enc Tryz.prog Tryz.f17 false true false false):=by
 refine Z1l (C:=Tryz.checked) (X:=fun w _=>laidMetH Tryz.prog Zzg w) (fun _ _ _ hh h=>h.of_heap hh) own started (by kernel_rfl) Tryz.func17
  (ChangeSpec.witness_shaped (enc:=enc) (C:=Tryz.checked) (os:=os) (X:=fun w _=>laidMetH Tryz.prog Zzg w) false (World.doorLaid Tryz.prog 400 os) #[.agg #[.slice none 0 0,.slice none 0 0,.slice none 0 0],.agg #[.int .i64 0,.int .i64 0,.int .i64 0,.int .i64 0],.int .u8 0,.int .u8 0] 8 rfl (Zqx os _) (by kernel_rfl) (by kernel_rfl) (by kernel_rfl) (Zzh os _)) ?_
 intro W base args ds gs before hval0 hW hL hsh;have hval:∀ (j:Nat) t v,Tryz.f17.params[j]?=some t→args[j]?=some v→Value.okWide Tryz.prog W .any base t v:=hval0;have hW':=hW;obtain⟨p,q,hA0,hV,rfl,hfz,hnd⟩:=hW;have hA:DataW.TrodAll enc Tryz.prog W 0 (fun _=>true) true Tryz.f17.params.toList args.toList ds p:=hA0;have hlt:=hA.lt;have hA2:=hA;rw[Tryz.params17] at hA hval;obtain⟨v0,vr0,d0,ds0,p0,q0,hargs,rfl,rfl,h0,r0⟩:=trodAll_cons hA;obtain⟨v1,vr1,d1,ds1,p1,q1,rfl,rfl,rfl,h1,r1⟩:=trodAll_cons r0;obtain⟨v2,vr2,d2,ds2,p2,q2,rfl,rfl,rfl,h2,r2⟩:=trodAll_cons r1;obtain⟨v3,vr3,d3,ds3,p3,q3,rfl,rfl,rfl,h3,r3⟩:=trodAll_cons r2;obtain⟨rfl,rfl,rfl⟩:=trodAll_nil r3;obtain rfl:args=#[v0,v1,v2,v3]:=Array.toList_inj.1 hargs;obtain⟨rfl,rfl⟩:=trodVars_none hV;obtain⟨q0,vs0,rfl,hc0,hL0,hb0,hm0⟩:=Z2g (hval 0 26 v0 rfl rfl) h0;obtain⟨x1,rfl⟩:=Z2i (hval 1 39 v1 rfl rfl) h1;obtain⟨x2,rfl,-,-,w2⟩:=open_int Tryz.underlying5 (hval 2 5 v2 rfl rfl) h2;obtain⟨m2,rfl,u2⟩:=Z5m w2;obtain⟨x3,rfl,-,-,w3⟩:=open_int Tryz.underlying5 (hval 3 5 v3 rfl rfl) h3;obtain⟨m3,rfl,u3⟩:=Z5m w3;have G:=Zpw hL hsh
 refine (Zpv W q0 vs0 W.heap.size x1 (m2:Int) (m3:Int) (by omega) (by omega) (by omega) (by omega) hc0 G hL0 hb0 hm0).mono fun e W' ⟨he,hg⟩=>?_
 subst he;exact⟨_,rfl,Znb (pa:=_) (pv:=[]) hW' (fun _ _ _=>trodAll_mk1 (shut_bool Tryz.underlying4 _)) (fun sp hsp=>Zie (by kernel_rfl) (by kernel_rfl) hA2 (fun x hx=>hg.same (hlt x hx)) (fun x hx=>hsp x (List.mem_append_left _ hx))) (fun _ _=>rfl) rfl hg (ok_one (by kernel_rfl) rfl (okWide_bool_mk Tryz.underlying4 _))⟩
theorem Zk1:(Rows.crowdImpliedRow.wf (OpenSpec.ofChange Rows.crowdImpliedSpec))=true:=by kernel_rfl
theorem Zk2:(Tryz.f17.params.all (Tryz.prog.readableRec ·))=true:=by kernel_rfl
theorem Zk3:(namedTie Tryz.prog Rows.crowdImpliedRow.named Rows.crowdImpliedSpec.vars)=true:=by kernel_rfl
theorem Zk4:((Rows.crowdImpliedRow.stops==[]))=true:=by kernel_rfl
theorem Zk5:((Rows.crowdImpliedRow.knobs==[]))=true:=by kernel_rfl
theorem Zk6:((Rows.crowdImpliedRow.inPlace == Tryz.prog.inPlace 17))=true:=by kernel_rfl
theorem Zit:((Rows.crowdImpliedRow.unfollowed == Tryz.prog.unfollowed 17))=true:=by kernel_rfl
theorem Ziu:((Rows.crowdImpliedRow.recurses == Tryz.prog.recurses 17))=true:=by kernel_rfl
theorem Ziv:((Rows.crowdImpliedRow.named == Tryz.prog.varsNamed 17))=true:=by kernel_rfl
theorem Ziw:((Rows.crowdImpliedRow.maps==(Tryz.f17.params.toList++Rows.crowdImpliedSpec.plain.varTypes Tryz.prog).any (Tryz.prog.mapsRec ·)))=true:=by kernel_rfl
theorem Zix:((Rows.crowdImpliedRow.ifaces==(Tryz.f17.params.toList++Rows.crowdImpliedSpec.plain.varTypes Tryz.prog).any (Tryz.prog.ifacesRec ·)))=true:=by kernel_rfl
theorem Ziy:((Rows.crowdImpliedRow.mapsOut == Tryz.prog.mapsAmong Tryz.f17.resultTypes.toList))=true:=by kernel_rfl
theorem Ziz:((Rows.crowdImpliedRow.loops==(Tryz.f17.params.toList++Rows.crowdImpliedSpec.plain.varTypes Tryz.prog).any (Tryz.prog.loopsFrom ·)))=true:=by kernel_rfl
theorem Zi0:((Rows.crowdImpliedRow.wideKeys==(Tryz.f17.params.toList++Rows.crowdImpliedSpec.plain.varTypes Tryz.prog ++ Tryz.f17.resultTypes.toList).any (Tryz.prog.wideKeysFrom ·)))=true:=by kernel_rfl
theorem Zi1:(Rows.crowdImpliedSpec.vars.all (Tryz.prog.varReadable ·))=true:=by kernel_rfl
theorem Zi2:(Tryz.f17.resultTypes.all (fun t=>Tryz.prog.readableRec t&&decide (t < Tryz.prog.types.size)))=true:=by kernel_rfl
theorem Zi3:((Rows.crowdImpliedRow.ifacesOut == Tryz.f17.resultTypes.toList.any (Tryz.prog.ifacesRec ·)))=true:=by kernel_rfl
theorem Zi4:((Rows.crowdImpliedRow.loopsOut == Tryz.f17.resultTypes.toList.any (Tryz.prog.loopsFrom ·)))=true:=by kernel_rfl
theorem Zi5:((Rows.crowdImpliedRow.plainKeys == Tryz.prog.plainKeys))=true:=by kernel_rfl
theorem Zi6:(Rows.crowdImpliedRow.shortTexts.isNone)=true:=by kernel_rfl
theorem Zi7:((Rows.crowdImpliedRow.lifted == Tryz.prog.liftsFinal))=true:=by kernel_rfl
theorem Zi8:((Tryz.prog.make==some Rows.crowdImpliedRow.make))=true:=by kernel_rfl
theorem Zi9:((Rows.crowdImpliedRow.kinds==[]))=true:=by kernel_rfl
theorem Zja:((Rows.crowdImpliedRow.pinned==Rows.crowdImpliedRow.pinnedBy))=true:=by kernel_rfl
theorem Zjb:((Rows.crowdImpliedRow.veiled==(Tryz.f17.params.toList++Rows.crowdImpliedSpec.plain.varTypes Tryz.prog ++ Tryz.f17.resultTypes.toList).any (Tryz.prog.veiledRec ·)))=true:=by kernel_rfl
theorem Zjc:(Rows.crowdImpliedRow.veiledFits Tryz.prog Tryz.f17.params.toList (Tryz.f17.params.toList++Rows.crowdImpliedSpec.plain.varTypes Tryz.prog ++ Tryz.f17.resultTypes.toList))=true:=by kernel_rfl
theorem Zjd:(Rows.crowdImpliedRow.domain.isEmpty)=true:=by kernel_rfl
theorem Zgi:joinedFacts Tryz.prog 17 Tryz.f17 Rows.crowdImpliedSpec Rows.crowdImpliedRow=true :=
 Zxg Zk1 Z6w Z6x Zk2 Zk3 Zk4 Z6y Zk5 Z6z Zk6 Zit Ziu Ziv Ziw Zix Ziy Ziz Zi0 Zi1 Zi2 Zi3 Zi4 Zi5 Zi6 Z59 Z6a Zi7 Zi8 Zi9 Zja Zjb Zjc Zjd
theorem Zh7:Tryz.f17.isInstance Tryz.prog Rows.crowdImpliedRow.origin Rows.crowdImpliedRow.targs:=of_decide_eq_true (by kernel_rfl)
theorem Zh8:Tryz.f17.isWrapper Tryz.prog Rows.crowdImpliedRow.wrapper Rows.crowdImpliedRow.mainSum:=by unfold Func.isWrapper;first | (rw[if_pos (by decide +kernel)];kernel_rfl) | (rw[if_neg (by decide +kernel)];exact⟨rfl,rfl⟩)
theorem Zhg:Rows.CrowdImpliedSaid :=
 OpenClaim.holds_of_wide 17 Tryz.f17 rfl rfl rfl rfl rfl rfl rfl ⟨rfl,rfl,rfl,rfl,rfl⟩ rfl rfl rfl rfl rfl (by kernel_rfl) Tryz.func17 Zgi
  Zh7 Zh8
  (fun os started H enc _=>Zgh os started H enc)
theorem Zh9:false=Rows.crowdImpliedRow.goesBy Tryz.prog:=by kernel_rfl
theorem Zje:Rows.crowdImpliedRow.wfByText (OpenSpec.ofChange Rows.crowdImpliedSpec)=true:=by kernel_rfl
theorem Zk7:Tryz.prog.funcNamed "cloak/cloaklaw09.CrowdImplied"=some 17:=by kernel_rfl
theorem Zjf:([26,39,5,5].all fun u=>!Tryz.prog.wantsStandIn u)=true:=by kernel_rfl
theorem crowdImplied_card_holds:Rows.CrowdImpliedCardSaid :=
 Claim7.holds_tied_plain_at .later [] [.widerDeep] true (true,"338451282303b13a8cdbd10538cf236b010dc1946a10f25ba5749e7e6682990c") false
  Zhg (fun _ h=>by cases h) Zje (fun _ h=>by cases h) crowdImplied_row_tie rfl ⟨rfl,rfl⟩ Zzi rfl
  (fun f fn hf hfn=>by
   obtain rfl:f=17:=Option.some.inj (Zk7.symm.trans hf) |>.symm;obtain rfl:fn = Tryz.f17:=(Option.some.inj (Tryz.func17.symm.trans hfn)).symm
   exact⟨Zus,fun j t ht=>by
    rw[Tryz.params17] at ht
    have hm:t∈[26,39,5,5]:=by
     simpa using Array.mem_of_getElem? ht
    exact (show Tryz.prog.wantsStandIn t=false by simpa using List.all_eq_true.1 Zjf t hm)⟩)
  Zh9
#print axioms crowdImplied_card_holds
end Go.Proofs.YtbcgocpihobjnaaGreatDoor
