/- CrowdTells: for every input the statement returns true, and its arguments read as before; the row, and its tied card. Condition: the laid tables. -/
import Derived.Test.YtbcgocpihobjnaaGreatDoorCards
import Derived.Test.YtbcgocpihobjnaaGreatDoorTie
import Derived.SevenTiedAt
import Derived.Test.YtbcgocpihobjnaaGreatDoorCL45
import Derived.Test.YtbcgocpihobjnaaGreatDoorCL42
import Derived.Test.YtbcgocpihobjnaaGreatDoorCL47
set_option linter.all false
set_option maxRecDepth 100000
namespace Go.Proofs.YtbcgocpihobjnaaGreatDoor
open Go Go.ChangeShapes Go.WideShapes Go.ChangeAt Go.WideMaps Go.WideElems Go.RowKit Go.Joins
open Go.ChangeMaps (open_string shut_string)
theorem Zh1(os:Os)(started:os.Started)(H:Type)(enc:TypeId×Value->H) :
  ReturnsInHanded {} Tryz.checked os 14 .any (fun w args=>(Rows.crowdTellsSpec.pre enc Tryz.prog Tryz.f14 [] false w args/\laidMetH Tryz.prog fp w)/\sizedMet enc Tryz.prog Tryz.f14 (OpenSpec.ofChange Rows.crowdTellsSpec) false w args)
   (Rows.crowdTellsSpec.post enc Tryz.prog Tryz.f14 false true false false):=by
 refine Zz4 (C:=Tryz.checked) (X:=fun w _=>laidMetH Tryz.prog fp w) (fun _ _ _ hh h=>h.of_heap hh) own started (by kernel_rfl) Tryz.func14
  (ChangeSpec.witness_shaped (enc:=enc) (C:=Tryz.checked) (os:=os) (X:=fun w _=>laidMetH Tryz.prog fp w) false (World.doorLaid Tryz.prog 400 os) #[.agg #[.slice none 0 0,.slice none 0 0,.slice none 0 0],.agg #[.int .i64 0,.int .i64 0,.int .i64 0,.int .i64 0],.int .i64 0,.int .i64 0,.slice none 0 0] 8 rfl (Zqh os _) (by kernel_rfl) (by kernel_rfl) (by kernel_rfl) (Zyl os _)) ?_
 intro W base args ds gs before dp hW hL Bn;have kY:∀ (j:Nat) t v,Tryz.f14.params[j]?=some t->args[j]?=some v->Value.okWide Tryz.prog W .any base t v:=dp;have hW':=hW;obtain⟨p,q,hA0,hV,rfl,hfz,fz⟩:=hW;have hA:DataW.TrodAll enc Tryz.prog W 0 (fun _=>true) true Tryz.f14.params.toList args.toList ds p:=hA0;have aE:=hA.lt;have hA2:=hA;rw[Tryz.params14] at hA kY;obtain⟨v0,vr0,d0,l8,p0,q0,wE,rfl,rfl,h0,r0⟩:=trodAll_cons hA;obtain⟨v1,vr1,d1,ds1,p1,q1,rfl,rfl,rfl,h1,r1⟩:=trodAll_cons r0;obtain⟨v2,vr2,d2,ds2,p2,q2,rfl,rfl,rfl,h2,r2⟩:=trodAll_cons r1;obtain⟨v3,vr3,d3,ds3,p3,q3,rfl,rfl,rfl,h3,r3⟩:=trodAll_cons r2;obtain⟨v4,vr4,d4,ds4,p4,q4,rfl,rfl,rfl,h4,r4⟩:=trodAll_cons r3;obtain⟨rfl,rfl,rfl⟩:=trodAll_nil r4;obtain rfl:args=#[v0,v1,v2,v3,v4]:=Array.toList_inj.1 wE;obtain⟨rfl,rfl⟩:=trodVars_none hV;obtain⟨q0,II,rfl,sN,hL0,nL,cN⟩:=Z0z (kY 0 26 v0 rfl rfl) h0;obtain⟨x1,rfl⟩:=Z01 (kY 1 39 v1 rfl rfl) h1;obtain⟨x2,rfl,-,-,w2⟩:=open_int Tryz.underlying3 (kY 2 3 v2 rfl rfl) h2;obtain⟨x3,rfl,-,-,w3⟩:=open_int Tryz.underlying3 (kY 3 3 v3 rfl rfl) h3;obtain⟨l4,v_,n4,c4,rfl,zD,ia,aK⟩:=Zxf (kY 4 33 v4 rfl rfl) h4;subst zD;have G:=Zpm hL Bn
 refine(Zuq W q0 II W.heap.size x1 x2 x3 l4 v_ c4 sN G hL0 nL cN aK ia).mono fun e W' ⟨he,hg⟩=>?_
 subst he;exact⟨_,rfl,Zms (pa:=_) (pv:=[]) hW' (fun _ _ _=>trodAll_mk1 (shut_bool Tryz.underlying4 _)) (fun sp w_=>WY (by kernel_rfl) (by kernel_rfl) hA2 (fun x hx=>hg.same (aE x hx)) (fun x hx=>w_ x (List.mem_append_left _ hx))) (fun _ _=>rfl) rfl hg (ok_one (by kernel_rfl) rfl (okWide_bool_mk Tryz.underlying4 _))⟩
theorem Znf:(Rows.crowdTellsRow.wf (OpenSpec.ofChange Rows.crowdTellsSpec))=true:=by kernel_rfl
theorem Zng:(Tryz.f14.params.all (Tryz.prog.readableRec ·))=true:=by kernel_rfl
theorem Znh:(namedTie Tryz.prog Rows.crowdTellsRow.named Rows.crowdTellsSpec.vars)=true:=by kernel_rfl
theorem Zni:((Rows.crowdTellsRow.stops==[]))=true:=by kernel_rfl
theorem Znj:((Rows.crowdTellsRow.knobs==[]))=true:=by kernel_rfl
theorem Znk:((Rows.crowdTellsRow.inPlace == Tryz.prog.inPlace 14))=true:=by kernel_rfl
theorem Zko:((Rows.crowdTellsRow.unfollowed == Tryz.prog.unfollowed 14))=true:=by kernel_rfl
theorem Zkp:((Rows.crowdTellsRow.recurses == Tryz.prog.recurses 14))=true:=by kernel_rfl
theorem Zkq:((Rows.crowdTellsRow.named == Tryz.prog.varsNamed 14))=true:=by kernel_rfl
theorem Zkr:((Rows.crowdTellsRow.maps==(Tryz.f14.params.toList++Rows.crowdTellsSpec.plain.varTypes Tryz.prog).any (Tryz.prog.mapsRec ·)))=true:=by kernel_rfl
theorem Zks:((Rows.crowdTellsRow.ifaces==(Tryz.f14.params.toList++Rows.crowdTellsSpec.plain.varTypes Tryz.prog).any (Tryz.prog.ifacesRec ·)))=true:=by kernel_rfl
theorem Zkt:((Rows.crowdTellsRow.mapsOut == Tryz.prog.mapsAmong Tryz.f14.resultTypes.toList))=true:=by kernel_rfl
theorem Zku:((Rows.crowdTellsRow.loops==(Tryz.f14.params.toList++Rows.crowdTellsSpec.plain.varTypes Tryz.prog).any (Tryz.prog.loopsFrom ·)))=true:=by kernel_rfl
theorem Zkv:((Rows.crowdTellsRow.wideKeys==(Tryz.f14.params.toList++Rows.crowdTellsSpec.plain.varTypes Tryz.prog ++ Tryz.f14.resultTypes.toList).any (Tryz.prog.wideKeysFrom ·)))=true:=by kernel_rfl
theorem Zkw:(Rows.crowdTellsSpec.vars.all (Tryz.prog.varReadable ·))=true:=by kernel_rfl
theorem Zkx:(Tryz.f14.resultTypes.all (fun t=>Tryz.prog.readableRec t&&decide (t < Tryz.prog.types.size)))=true:=by kernel_rfl
theorem Zky:((Rows.crowdTellsRow.ifacesOut == Tryz.f14.resultTypes.toList.any (Tryz.prog.ifacesRec ·)))=true:=by kernel_rfl
theorem Zkz:((Rows.crowdTellsRow.loopsOut == Tryz.f14.resultTypes.toList.any (Tryz.prog.loopsFrom ·)))=true:=by kernel_rfl
theorem Zk0:((Rows.crowdTellsRow.plainKeys == Tryz.prog.plainKeys))=true:=by kernel_rfl
theorem Zk1:(Rows.crowdTellsRow.shortTexts.isNone)=true:=by kernel_rfl
theorem Zk2:((Rows.crowdTellsRow.lifted == Tryz.prog.liftsFinal))=true:=by kernel_rfl
theorem Zk3:((Tryz.prog.make==some Rows.crowdTellsRow.make))=true:=by kernel_rfl
theorem Zk4:((Rows.crowdTellsRow.kinds==[]))=true:=by kernel_rfl
theorem Zk5:((Rows.crowdTellsRow.pinned==Rows.crowdTellsRow.pinnedBy))=true:=by kernel_rfl
theorem Zk6:((Rows.crowdTellsRow.veiled==(Tryz.f14.params.toList++Rows.crowdTellsSpec.plain.varTypes Tryz.prog ++ Tryz.f14.resultTypes.toList).any (Tryz.prog.veiledRec ·)))=true:=by kernel_rfl
theorem Zk7:(Rows.crowdTellsRow.veiledFits Tryz.prog Tryz.f14.params.toList (Tryz.f14.params.toList++Rows.crowdTellsSpec.plain.varTypes Tryz.prog ++ Tryz.f14.resultTypes.toList))=true:=by kernel_rfl
theorem Zk8:(Rows.crowdTellsRow.domain.isEmpty)=true:=by kernel_rfl
theorem Zh2:joinedFacts Tryz.prog 14 Tryz.f14 Rows.crowdTellsSpec Rows.crowdTellsRow=true :=
 Zwo Znf Z5f Z5g Zng Znh Zni Z5h Znj Z5i Znk Zko Zkp Zkq Zkr Zks Zkt Zku Zkv Zkw Zkx Zky Zkz Zk0 Zk1 Z38 Z39 Zk2 Zk3 Zk4 Zk5 Zk6 Zk7 Zk8
theorem Zj6:Tryz.f14.isInstance Tryz.prog Rows.crowdTellsRow.origin Rows.crowdTellsRow.targs:=of_decide_eq_true (by kernel_rfl)
theorem Zj7:Tryz.f14.isWrapper Tryz.prog Rows.crowdTellsRow.wrapper Rows.crowdTellsRow.mainSum:=by unfold Func.isWrapper;first | (rw[if_pos (by decide +kernel)];kernel_rfl) | (rw[if_neg (by decide +kernel)];exact⟨rfl,rfl⟩)
theorem Zip:Rows.CrowdTellsSaid :=
 OpenClaim.holds_of_wide 14 Tryz.f14 rfl rfl rfl rfl rfl rfl rfl ⟨rfl,rfl,rfl,rfl,rfl⟩ rfl rfl rfl rfl rfl (by kernel_rfl) Tryz.func14 Zh2
  Zj6 Zj7
  (fun os started H enc _=>Zh1 os started H enc)
theorem Zj8:false=Rows.crowdTellsRow.goesBy Tryz.prog:=by kernel_rfl
theorem Zk9:Rows.crowdTellsRow.wfByText (OpenSpec.ofChange Rows.crowdTellsSpec)=true:=by kernel_rfl
theorem Znl:Tryz.prog.funcNamed "cloak/cloaklaw09.CrowdTells"=some 14:=by kernel_rfl
theorem Zla:([26,39,3,3,33].all fun u=>!Tryz.prog.wantsStandIn u)=true:=by kernel_rfl
theorem crowdTells_card_holds:Rows.CrowdTellsCardSaid :=
 Claim7.holds_tied_plain_at .later [] [.widerDeep] true (true,"338451282303b13a8cdbd10538cf236b010dc1946a10f25ba5749e7e6682990c") false
  Zip (fun _ h=>by cases h) Zk9 (fun _ h=>by cases h) crowdTells_row_tie rfl ⟨rfl,rfl⟩ Zym rfl
  (fun f fn hf sq=>by
   obtain rfl:f=14:=Option.some.inj (Znl.symm.trans hf) |>.symm;obtain rfl:fn = Tryz.f14:=(Option.some.inj (Tryz.func14.symm.trans sq)).symm
   exact⟨Zul,fun j t ht=>by
    rw[Tryz.params14] at ht
    have hm:t∈[26,39,3,3,33]:=by
     simpa using Array.mem_of_getElem? ht
    exact(show Tryz.prog.wantsStandIn t=false by simpa using List.all_eq_true.1 Zla t hm)⟩)
  Zj8
#print axioms crowdTells_card_holds
end Go.Proofs.YtbcgocpihobjnaaGreatDoor
