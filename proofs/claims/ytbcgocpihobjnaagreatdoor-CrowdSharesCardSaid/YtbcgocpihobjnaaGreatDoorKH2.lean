/- CrowdShares: for every input the statement returns true, and its arguments read as before; the row, and its tied card. Condition: the laid tables. -/
import Derived.Test.YtbcgocpihobjnaaGreatDoorCards
import Derived.Test.YtbcgocpihobjnaaGreatDoorTie
import Derived.SevenTiedAt
import Derived.Test.YtbcgocpihobjnaaGreatDoorCS45
import Derived.Test.YtbcgocpihobjnaaGreatDoorCS44
set_option linter.unusedVariables false
set_option linter.unusedSimpArgs false
set_option maxRecDepth 100000
namespace Go.Proofs.YtbcgocpihobjnaaGreatDoor
open Go Go.ChangeShapes Go.WideShapes Go.ChangeAt Go.WideMaps Go.WideElems Go.RowKit Go.Joins
open Go.ChangeMaps (open_string shut_string)
theorem Zf8 (os:Os) (started:os.Started) (H:Type) (enc:TypeId×Value→H) :
  ReturnsInHanded {} Tryz.checked os 11 .any (fun w args=>(Rows.crowdSharesSpec.pre enc Tryz.prog Tryz.f11 [] false w args∧laidMetH Tryz.prog Zu1 w)∧sizedMet enc Tryz.prog Tryz.f11 (OpenSpec.ofChange Rows.crowdSharesSpec) false w args)
   (Rows.crowdSharesSpec.post enc Tryz.prog Tryz.f11 false true false false):=by
 refine Zwq (C:=Tryz.checked) (X:=fun w _=>laidMetH Tryz.prog Zu1 w) (fun _ _ _ hh h=>h.of_heap hh) own started (by kernel_rfl) Tryz.func11
  (ChangeSpec.witness_shaped (enc:=enc) (C:=Tryz.checked) (os:=os) (X:=fun w _=>laidMetH Tryz.prog Zu1 w) false (World.doorLaid Tryz.prog 400 os) #[.agg #[.slice none 0 0,.slice none 0 0,.slice none 0 0],.int .i64 0] 8 rfl (Zoa os _) (by kernel_rfl) (by kernel_rfl) (by kernel_rfl) (Zu2 os _)) ?_
 intro W base args ds gs before hval0 hW hL hsh
 have hval:∀ (j:Nat) t v,Tryz.f11.params[j]?=some t→args[j]?=some v→Value.okWide Tryz.prog W .any base t v:=hval0
 have hW':=hW
 obtain⟨p,q,hA0,hV,rfl,hfz,hnd⟩:=hW
 have hA:DataW.TrodAll enc Tryz.prog W 0 (fun _=>true) true Tryz.f11.params.toList args.toList ds p:=hA0
 have hlt:=hA.lt
 have hA2:=hA
 rw[Tryz.params11] at hA hval
 obtain⟨v0,vr0,d0,ds0,p0,q0,hargs,rfl,rfl,h0,r0⟩:=trodAll_cons hA
 obtain⟨v1,vr1,d1,ds1,p1,q1,rfl,rfl,rfl,h1,r1⟩:=trodAll_cons r0
 obtain⟨rfl,rfl,rfl⟩:=trodAll_nil r1
 obtain rfl:args=#[v0,v1]:=Array.toList_inj.1 hargs
 obtain⟨rfl,rfl⟩:=trodVars_none hV
 obtain⟨q0,vs0,rfl,hc0,hL0,hb0,hm0⟩:=Zxm (hval 0 26 v0 rfl rfl) h0
 obtain⟨x1,rfl,-,-,w1⟩:=open_int Tryz.underlying3 (hval 1 3 v1 rfl rfl) h1
 have G:=Znq hL hsh
 refine (Zor W q0 vs0 W.heap.size x1 hc0 G hL0 hb0 hm0).mono fun e W' ⟨he,hg⟩=>?_
 subst he
 exact⟨_,rfl,Zlh (pa:=_) (pv:=[]) hW' (fun _ _ _=>trodAll_mk1 (shut_bool Tryz.underlying4 _)) (fun sp hsp=>Zg6 (by kernel_rfl) (by kernel_rfl) hA2 (fun x hx=>hg.same (hlt x hx)) (fun x hx=>hsp x (List.mem_append_left _ hx))) (fun _ _=>rfl) rfl hg (ok_one (by kernel_rfl) rfl (okWide_bool_mk Tryz.underlying4 _))⟩
theorem Zjw:(Rows.crowdSharesRow.wf (OpenSpec.ofChange Rows.crowdSharesSpec))=true:=by kernel_rfl
theorem Zjx:(Tryz.f11.params.all (Tryz.prog.readableRec ·))=true:=by kernel_rfl
theorem Zjy:(namedTie Tryz.prog Rows.crowdSharesRow.named Rows.crowdSharesSpec.vars)=true:=by kernel_rfl
theorem Zjz:((Rows.crowdSharesRow.stops==[]))=true:=by kernel_rfl
theorem Zj0:((Rows.crowdSharesRow.knobs==[]))=true:=by kernel_rfl
theorem Zj1:((Rows.crowdSharesRow.inPlace == Tryz.prog.inPlace 11))=true:=by kernel_rfl
theorem Ziv:((Rows.crowdSharesRow.unfollowed == Tryz.prog.unfollowed 11))=true:=by kernel_rfl
theorem Ziw:((Rows.crowdSharesRow.recurses == Tryz.prog.recurses 11))=true:=by kernel_rfl
theorem Zix:((Rows.crowdSharesRow.named == Tryz.prog.varsNamed 11))=true:=by kernel_rfl
theorem Ziy:((Rows.crowdSharesRow.maps==(Tryz.f11.params.toList++Rows.crowdSharesSpec.plain.varTypes Tryz.prog).any (Tryz.prog.mapsRec ·)))=true:=by kernel_rfl
theorem Ziz:((Rows.crowdSharesRow.ifaces==(Tryz.f11.params.toList++Rows.crowdSharesSpec.plain.varTypes Tryz.prog).any (Tryz.prog.ifacesRec ·)))=true:=by kernel_rfl
theorem Zi0:((Rows.crowdSharesRow.mapsOut == Tryz.prog.mapsAmong Tryz.f11.resultTypes.toList))=true:=by kernel_rfl
theorem Zi1:((Rows.crowdSharesRow.loops==(Tryz.f11.params.toList++Rows.crowdSharesSpec.plain.varTypes Tryz.prog).any (Tryz.prog.loopsFrom ·)))=true:=by kernel_rfl
theorem Zi2:((Rows.crowdSharesRow.wideKeys==(Tryz.f11.params.toList++Rows.crowdSharesSpec.plain.varTypes Tryz.prog ++ Tryz.f11.resultTypes.toList).any (Tryz.prog.wideKeysFrom ·)))=true:=by kernel_rfl
theorem Zi3:(Rows.crowdSharesSpec.vars.all (Tryz.prog.varReadable ·))=true:=by kernel_rfl
theorem Zi4:(Tryz.f11.resultTypes.all (fun t=>Tryz.prog.readableRec t&&decide (t < Tryz.prog.types.size)))=true:=by kernel_rfl
theorem Zi5:((Rows.crowdSharesRow.ifacesOut == Tryz.f11.resultTypes.toList.any (Tryz.prog.ifacesRec ·)))=true:=by kernel_rfl
theorem Zi6:((Rows.crowdSharesRow.loopsOut == Tryz.f11.resultTypes.toList.any (Tryz.prog.loopsFrom ·)))=true:=by kernel_rfl
theorem Zi7:((Rows.crowdSharesRow.plainKeys == Tryz.prog.plainKeys))=true:=by kernel_rfl
theorem Zi8:(Rows.crowdSharesRow.shortTexts.isNone)=true:=by kernel_rfl
theorem Zi9:((Rows.crowdSharesRow.lifted == Tryz.prog.liftsFinal))=true:=by kernel_rfl
theorem Zja:((Tryz.prog.make==some Rows.crowdSharesRow.make))=true:=by kernel_rfl
theorem Zjb:((Rows.crowdSharesRow.kinds==[]))=true:=by kernel_rfl
theorem Zjc:((Rows.crowdSharesRow.pinned==Rows.crowdSharesRow.pinnedBy))=true:=by kernel_rfl
theorem Zjd:((Rows.crowdSharesRow.veiled==(Tryz.f11.params.toList++Rows.crowdSharesSpec.plain.varTypes Tryz.prog ++ Tryz.f11.resultTypes.toList).any (Tryz.prog.veiledRec ·)))=true:=by kernel_rfl
theorem Zje:(Rows.crowdSharesRow.veiledFits Tryz.prog Tryz.f11.params.toList (Tryz.f11.params.toList++Rows.crowdSharesSpec.plain.varTypes Tryz.prog ++ Tryz.f11.resultTypes.toList))=true:=by kernel_rfl
theorem Zjf:(Rows.crowdSharesRow.domain.isEmpty)=true:=by kernel_rfl
theorem Zf9:joinedFacts Tryz.prog 11 Tryz.f11 Rows.crowdSharesSpec Rows.crowdSharesRow=true :=
 Ztg Zjw Z1g Z1h Zjx Zjy Zjz Z1i Zj0 Z1j Zj1 Ziv Ziw Zix Ziy Ziz Zi0 Zi1 Zi2 Zi3 Zi4 Zi5 Zi6 Zi7 Zi8 Z0u Z0v Zi9 Zja Zjb Zjc Zjd Zje Zjf
theorem Zhg:Tryz.f11.isInstance Tryz.prog Rows.crowdSharesRow.origin Rows.crowdSharesRow.targs:=of_decide_eq_true (by kernel_rfl)
theorem Zhh:Tryz.f11.isWrapper Tryz.prog Rows.crowdSharesRow.wrapper Rows.crowdSharesRow.mainSum:=by unfold Func.isWrapper;first | (rw[if_pos (by decide +kernel)];kernel_rfl) | (rw[if_neg (by decide +kernel)];exact⟨rfl,rfl⟩)
theorem Zgx:Rows.CrowdSharesSaid :=
 OpenClaim.holds_of_wide 11 Tryz.f11 rfl rfl rfl rfl rfl rfl rfl ⟨rfl,rfl,rfl,rfl,rfl⟩ rfl rfl rfl rfl rfl (by kernel_rfl) Tryz.func11 Zf9
  Zhg Zhh
  (fun os started H enc _=>Zf8 os started H enc)
theorem Zhi:false=Rows.crowdSharesRow.goesBy Tryz.prog:=by kernel_rfl
theorem Zjg:Rows.crowdSharesRow.wfByText (OpenSpec.ofChange Rows.crowdSharesSpec)=true:=by kernel_rfl
theorem Zj2:Tryz.prog.funcNamed "cloak/cloaklaw09.CrowdShares"=some 11:=by kernel_rfl
theorem Zjh:([26,3].all fun u=>!Tryz.prog.wantsStandIn u)=true:=by kernel_rfl
theorem crowdShares_card_holds:Rows.CrowdSharesCardSaid :=
 Claim7.holds_tied_plain_at .later [] [.widerDeep] true (true,"338451282303b13a8cdbd10538cf236b010dc1946a10f25ba5749e7e6682990c") false
  Zgx (fun _ h=>by cases h) Zjg (fun _ h=>by cases h) crowdShares_row_tie rfl ⟨rfl,rfl⟩ Zu3 rfl
  (fun f fn hf hfn=>by
   obtain rfl:f=11:=Option.some.inj (Zj2.symm.trans hf) |>.symm
   obtain rfl:fn = Tryz.f11:=(Option.some.inj (Tryz.func11.symm.trans hfn)).symm
   exact⟨Zrl,fun j t ht=>by
    rw[Tryz.params11] at ht
    have hm:t∈[26,3]:=by
     simpa using Array.mem_of_getElem? ht
    exact (show Tryz.prog.wantsStandIn t=false by simpa using List.all_eq_true.1 Zjh t hm)⟩)
  Zhi
#print axioms crowdShares_card_holds
end Go.Proofs.YtbcgocpihobjnaaGreatDoor
