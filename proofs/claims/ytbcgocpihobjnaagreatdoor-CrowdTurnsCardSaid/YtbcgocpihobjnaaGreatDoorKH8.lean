/- CrowdTurns: for every input the statement returns true, and its arguments read as before; the row, and its tied card. Condition: the laid tables. -/
import Derived.Test.YtbcgocpihobjnaaGreatDoorCards
import Derived.Test.YtbcgocpihobjnaaGreatDoorTie
import Derived.SevenTiedAt
import Derived.Test.YtbcgocpihobjnaaGreatDoorCV47
import Derived.Test.YtbcgocpihobjnaaGreatDoorCV43
import Derived.Test.YtbcgocpihobjnaaGreatDoorCV46
set_option linter.all false
set_option maxRecDepth 100000
namespace Go.Proofs.YtbcgocpihobjnaaGreatDoor
open Go Go.ChangeShapes Go.WideShapes Go.ChangeAt Go.WideMaps Go.WideElems Go.RowKit Go.Joins
open Go.ChangeMaps (open_string shut_string)
theorem Zhd (os:Os) (started:os.Started) (H:Type) (enc:TypeId×Value→H) :
  ReturnsInHanded {} Tryz.checked os 5 .any (fun w args=>(Rows.crowdTurnsSpec.pre enc Tryz.prog Tryz.f5 [] false w args∧laidMetH Tryz.prog Zwt w)∧sizedMet enc Tryz.prog Tryz.f5 (OpenSpec.ofChange Rows.crowdTurnsSpec) false w args)
   (Rows.crowdTurnsSpec.post enc Tryz.prog Tryz.f5 false true false false):=by
 refine Zyg (C:=Tryz.checked) (X:=fun w _=>laidMetH Tryz.prog Zwt w) (fun _ _ _ hh h=>h.of_heap hh) own started (by kernel_rfl) Tryz.func5
  (ChangeSpec.witness_shaped (enc:=enc) (C:=Tryz.checked) (os:=os) (X:=fun w _=>laidMetH Tryz.prog Zwt w) false (World.doorLaid Tryz.prog 400 os) #[.agg #[.slice none 0 0,.slice none 0 0,.slice none 0 0],.int .u8 0,.int .u8 0] 8 rfl (Zo3 os _) (by kernel_rfl) (by kernel_rfl) (by kernel_rfl) (Zwu os _)) ?_
 intro W base args ds gs before hval0 hW hL hsh;have hval:∀ (j:Nat) t v,Tryz.f5.params[j]?=some t→args[j]?=some v→Value.okWide Tryz.prog W .any base t v:=hval0;have hW':=hW;obtain⟨p,q,hA0,hV,rfl,hfz,hnd⟩:=hW;have hA:DataW.TrodAll enc Tryz.prog W 0 (fun _=>true) true Tryz.f5.params.toList args.toList ds p:=hA0;have hlt:=hA.lt;have hA2:=hA;rw[Tryz.params5] at hA hval;obtain⟨v0,vr0,d0,ds0,p0,q0,hargs,rfl,rfl,h0,r0⟩:=trodAll_cons hA;obtain⟨v1,vr1,d1,ds1,p1,q1,rfl,rfl,rfl,h1,r1⟩:=trodAll_cons r0;obtain⟨v2,vr2,d2,ds2,p2,q2,rfl,rfl,rfl,h2,r2⟩:=trodAll_cons r1;obtain⟨rfl,rfl,rfl⟩:=trodAll_nil r2;obtain rfl:args=#[v0,v1,v2]:=Array.toList_inj.1 hargs;obtain⟨rfl,rfl⟩:=trodVars_none hV;obtain⟨q0,vs0,rfl,hc0,hL0,hb0,hm0,hx0⟩:=Zv6 (hval 0 26 v0 rfl rfl) h0;obtain⟨x1,rfl,-,-,w1⟩:=open_int Tryz.underlying5 (hval 1 5 v1 rfl rfl) h1;obtain⟨m1,rfl,u1⟩:=Z16 w1;obtain⟨x2,rfl,-,-,w2⟩:=open_int Tryz.underlying5 (hval 2 5 v2 rfl rfl) h2;obtain⟨m2,rfl,u2⟩:=Z16 w2;have G:=Zoj hL hsh
 refine (Zsn W q0 vs0 W.heap.size (m1:Int) (m2:Int) (by omega) (by omega) (by omega) (by omega) hc0 G hL0 hb0 hm0 hx0).mono fun e W' ⟨he,hg⟩=>?_
 subst he;exact⟨_,rfl,Zlu (pa:=_) (pv:=[]) hW' (fun _ _ _=>trodAll_mk1 (shut_bool Tryz.underlying4 _)) (fun sp hsp=>Zhl (by kernel_rfl) (by kernel_rfl) hA2 (fun x hx=>hg.same (hlt x hx)) (fun x hx=>hsp x (List.mem_append_left _ hx))) (fun _ _=>rfl) rfl hg (ok_one (by kernel_rfl) rfl (okWide_bool_mk Tryz.underlying4 _))⟩
theorem Zme:(Rows.crowdTurnsRow.wf (OpenSpec.ofChange Rows.crowdTurnsSpec))=true:=by kernel_rfl
theorem Zmf:(Tryz.f5.params.all (Tryz.prog.readableRec ·))=true:=by kernel_rfl
theorem Zmg:(namedTie Tryz.prog Rows.crowdTurnsRow.named Rows.crowdTurnsSpec.vars)=true:=by kernel_rfl
theorem Zmh:((Rows.crowdTurnsRow.stops==[]))=true:=by kernel_rfl
theorem Zmi:((Rows.crowdTurnsRow.knobs==[]))=true:=by kernel_rfl
theorem Zmj:((Rows.crowdTurnsRow.inPlace == Tryz.prog.inPlace 5))=true:=by kernel_rfl
theorem Zjr:((Rows.crowdTurnsRow.unfollowed == Tryz.prog.unfollowed 5))=true:=by kernel_rfl
theorem Zjs:((Rows.crowdTurnsRow.recurses == Tryz.prog.recurses 5))=true:=by kernel_rfl
theorem Zjt:((Rows.crowdTurnsRow.named == Tryz.prog.varsNamed 5))=true:=by kernel_rfl
theorem Zju:((Rows.crowdTurnsRow.maps==(Tryz.f5.params.toList++Rows.crowdTurnsSpec.plain.varTypes Tryz.prog).any (Tryz.prog.mapsRec ·)))=true:=by kernel_rfl
theorem Zjv:((Rows.crowdTurnsRow.ifaces==(Tryz.f5.params.toList++Rows.crowdTurnsSpec.plain.varTypes Tryz.prog).any (Tryz.prog.ifacesRec ·)))=true:=by kernel_rfl
theorem Zjw:((Rows.crowdTurnsRow.mapsOut == Tryz.prog.mapsAmong Tryz.f5.resultTypes.toList))=true:=by kernel_rfl
theorem Zjx:((Rows.crowdTurnsRow.loops==(Tryz.f5.params.toList++Rows.crowdTurnsSpec.plain.varTypes Tryz.prog).any (Tryz.prog.loopsFrom ·)))=true:=by kernel_rfl
theorem Zjy:((Rows.crowdTurnsRow.wideKeys==(Tryz.f5.params.toList++Rows.crowdTurnsSpec.plain.varTypes Tryz.prog ++ Tryz.f5.resultTypes.toList).any (Tryz.prog.wideKeysFrom ·)))=true:=by kernel_rfl
theorem Zjz:(Rows.crowdTurnsSpec.vars.all (Tryz.prog.varReadable ·))=true:=by kernel_rfl
theorem Zj0:(Tryz.f5.resultTypes.all (fun t=>Tryz.prog.readableRec t&&decide (t < Tryz.prog.types.size)))=true:=by kernel_rfl
theorem Zj1:((Rows.crowdTurnsRow.ifacesOut == Tryz.f5.resultTypes.toList.any (Tryz.prog.ifacesRec ·)))=true:=by kernel_rfl
theorem Zj2:((Rows.crowdTurnsRow.loopsOut == Tryz.f5.resultTypes.toList.any (Tryz.prog.loopsFrom ·)))=true:=by kernel_rfl
theorem Zj3:((Rows.crowdTurnsRow.plainKeys == Tryz.prog.plainKeys))=true:=by kernel_rfl
theorem Zj4:(Rows.crowdTurnsRow.shortTexts.isNone)=true:=by kernel_rfl
theorem Zj5:((Rows.crowdTurnsRow.lifted == Tryz.prog.liftsFinal))=true:=by kernel_rfl
theorem Zj6:((Tryz.prog.make==some Rows.crowdTurnsRow.make))=true:=by kernel_rfl
theorem Zj7:((Rows.crowdTurnsRow.kinds==[]))=true:=by kernel_rfl
theorem Zj8:((Rows.crowdTurnsRow.pinned==Rows.crowdTurnsRow.pinnedBy))=true:=by kernel_rfl
theorem Zj9:((Rows.crowdTurnsRow.veiled==(Tryz.f5.params.toList++Rows.crowdTurnsSpec.plain.varTypes Tryz.prog ++ Tryz.f5.resultTypes.toList).any (Tryz.prog.veiledRec ·)))=true:=by kernel_rfl
theorem Zka:(Rows.crowdTurnsRow.veiledFits Tryz.prog Tryz.f5.params.toList (Tryz.f5.params.toList++Rows.crowdTurnsSpec.plain.varTypes Tryz.prog ++ Tryz.f5.resultTypes.toList))=true:=by kernel_rfl
theorem Zkb:(Rows.crowdTurnsRow.domain.isEmpty)=true:=by kernel_rfl
theorem Zhe:joinedFacts Tryz.prog 5 Tryz.f5 Rows.crowdTurnsSpec Rows.crowdTurnsRow=true :=
 Zuk Zme Z3g Z3h Zmf Zmg Zmh Z3i Zmi Z3j Zmj Zjr Zjs Zjt Zju Zjv Zjw Zjx Zjy Zjz Zj0 Zj1 Zj2 Zj3 Zj4 Z2s Z2t Zj5 Zj6 Zj7 Zj8 Zj9 Zka Zkb
theorem Zja:Tryz.f5.isInstance Tryz.prog Rows.crowdTurnsRow.origin Rows.crowdTurnsRow.targs:=of_decide_eq_true (by kernel_rfl)
theorem Zjb:Tryz.f5.isWrapper Tryz.prog Rows.crowdTurnsRow.wrapper Rows.crowdTurnsRow.mainSum:=by unfold Func.isWrapper;first | (rw[if_pos (by decide +kernel)];kernel_rfl) | (rw[if_neg (by decide +kernel)];exact⟨rfl,rfl⟩)
theorem Zhw:Rows.CrowdTurnsSaid :=
 OpenClaim.holds_of_wide 5 Tryz.f5 rfl rfl rfl rfl rfl rfl rfl ⟨rfl,rfl,rfl,rfl,rfl⟩ rfl rfl rfl rfl rfl (by kernel_rfl) Tryz.func5 Zhe
  Zja Zjb
  (fun os started H enc _=>Zhd os started H enc)
theorem Zjc:false=Rows.crowdTurnsRow.goesBy Tryz.prog:=by kernel_rfl
theorem Zkc:Rows.crowdTurnsRow.wfByText (OpenSpec.ofChange Rows.crowdTurnsSpec)=true:=by kernel_rfl
theorem Zmk:Tryz.prog.funcNamed "cloak/cloaklaw09.CrowdTurns"=some 5:=by kernel_rfl
theorem Zkd:([26,5,5].all fun u=>!Tryz.prog.wantsStandIn u)=true:=by kernel_rfl
theorem crowdTurns_card_holds:Rows.CrowdTurnsCardSaid :=
 Claim7.holds_tied_plain_at .later [] [.widerDeep] true (true,"338451282303b13a8cdbd10538cf236b010dc1946a10f25ba5749e7e6682990c") false
  Zhw (fun _ h=>by cases h) Zkc (fun _ h=>by cases h) crowdTurns_row_tie rfl ⟨rfl,rfl⟩ Zwv rfl
  (fun f fn hf hfn=>by
   obtain rfl:f=5:=Option.some.inj (Zmk.symm.trans hf) |>.symm;obtain rfl:fn = Tryz.f5:=(Option.some.inj (Tryz.func5.symm.trans hfn)).symm
   exact⟨Zso,fun j t ht=>by
    rw[Tryz.params5] at ht
    have hm:t∈[26,5,5]:=by
     simpa using Array.mem_of_getElem? ht
    exact (show Tryz.prog.wantsStandIn t=false by simpa using List.all_eq_true.1 Zkd t hm)⟩)
  Zjc
#print axioms crowdTurns_card_holds
end Go.Proofs.YtbcgocpihobjnaaGreatDoor
