/- CrowdMore: for every input the statement returns true, and its arguments read as before; the row, and its tied card. Condition: the laid tables. -/
import Derived.Test.YtbcgocpihobjnaaGreatDoorCards
import Derived.Test.YtbcgocpihobjnaaGreatDoorTie
import Derived.SevenTiedAt
import Derived.Test.YtbcgocpihobjnaaGreatDoorCM49
import Derived.Test.YtbcgocpihobjnaaGreatDoorCM50
import Derived.Test.YtbcgocpihobjnaaGreatDoorCM48
set_option linter.all false
set_option maxRecDepth 100000
namespace Go.Proofs.YtbcgocpihobjnaaGreatDoor
open Go Go.ChangeShapes Go.WideShapes Go.ChangeAt Go.WideMaps Go.WideElems Go.RowKit Go.Joins
open Go.ChangeMaps (open_string shut_string)
theorem Zhk (os:Os) (started:os.Started) (H:Type) (enc:TypeId×Value→H) :
  ReturnsInHanded {} Tryz.checked os 4 .any (fun w args=>(Rows.crowdMoreSpec.pre enc Tryz.prog Tryz.f4 [] false w args∧laidMetH Tryz.prog Zv4 w)∧sizedMet enc Tryz.prog Tryz.f4 (OpenSpec.ofChange Rows.crowdMoreSpec) false w args)
   (Rows.crowdMoreSpec.post enc Tryz.prog Tryz.f4 false true false false):=by
 refine Zv8 (C:=Tryz.checked) (X:=fun w _=>laidMetH Tryz.prog Zv4 w) (fun _ _ _ hh h=>h.of_heap hh) own started (by kernel_rfl) Tryz.func4
  (ChangeSpec.witness_shaped (enc:=enc) (C:=Tryz.checked) (os:=os) (X:=fun w _=>laidMetH Tryz.prog Zv4 w) false (World.doorLaid Tryz.prog 400 os) #[.agg #[.slice none 0 0,.slice none 0 0,.slice none 0 0],.agg #[.int .i64 0,.int .i64 0,.int .i64 0,.int .i64 0],.agg #[.slice none 0 0,.slice none 0 0,.int .i64 0],.int .u8 0,.int .u8 0] 8 rfl (Zot os _) (by kernel_rfl) (by kernel_rfl) (by kernel_rfl) (Zv5 os _)) ?_
 intro W base args ds gs before hval0 hW hL hsh hz;have hval:∀ (j:Nat) t v,Tryz.f4.params[j]?=some t→args[j]?=some v→Value.okWide Tryz.prog W .any base t v:=hval0;have hW':=hW;obtain⟨p,q,hA0,hV,rfl,hfz,hnd⟩:=hW;have hA:DataW.TrodAll enc Tryz.prog W 0 (fun _=>true) true Tryz.f4.params.toList args.toList ds p:=hA0;have hlt:=hA.lt;have hA2:=hA;rw[Tryz.params4] at hA hval;obtain⟨v0,vr0,d0,ds0,p0,q0,hargs,rfl,rfl,h0,r0⟩:=trodAll_cons hA;obtain⟨v1,vr1,d1,ds1,p1,q1,rfl,rfl,rfl,h1,r1⟩:=trodAll_cons r0;obtain⟨v2,vr2,d2,ds2,p2,q2,rfl,rfl,rfl,h2,r2⟩:=trodAll_cons r1;obtain⟨v3,vr3,d3,ds3,p3,q3,rfl,rfl,rfl,h3,r3⟩:=trodAll_cons r2;obtain⟨v4,vr4,d4,ds4,p4,q4,rfl,rfl,rfl,h4,r4⟩:=trodAll_cons r3;obtain⟨rfl,rfl,rfl⟩:=trodAll_nil r4;obtain rfl:args=#[v0,v1,v2,v3,v4]:=Array.toList_inj.1 hargs;obtain⟨rfl,rfl⟩:=trodVars_none hV;obtain⟨q0,vs0,rfl,hc0,hL0,hb0,hm0⟩:=Zyk (hval 0 26 v0 rfl rfl) h0;obtain⟨x1,rfl⟩:=Zym (hval 1 39 v1 rfl rfl) h1;obtain⟨q2,vs2,rfl,hc2,hm2⟩:=Zwa (hval 2 44 v2 rfl rfl) h2 (Zv9 (j:=2) hz (by kernel_rfl) rfl);obtain⟨x3,rfl,-,-,w3⟩:=open_int Tryz.underlying5 (hval 3 5 v3 rfl rfl) h3;obtain⟨m3,rfl,u3⟩:=Z1m w3;obtain⟨x4,rfl,-,-,w4⟩:=open_int Tryz.underlying5 (hval 4 5 v4 rfl rfl) h4;obtain⟨m4,rfl,u4⟩:=Z1m w4;have G:=Zn0 hL hsh
 refine (Zv3 W q0 vs0 W.heap.size x1 q2 vs2 (m3:Int) (m4:Int) (by omega) (by omega) (by omega) (by omega) hc0 G hL0 hb0 hm0 hc2 hm2).mono fun e W' ⟨he,hg⟩=>?_
 subst he;exact⟨_,rfl,Zk0 (pa:=_) (pv:=[]) hW' (fun _ _ _=>trodAll_mk1 (shut_bool Tryz.underlying4 _)) (fun sp hsp=>Zg8 (by kernel_rfl) (by kernel_rfl) hA2 (fun x hx=>hg.same (hlt x hx)) (fun x hx=>hsp x (List.mem_append_left _ hx))) (fun _ _=>rfl) rfl hg (ok_one (by kernel_rfl) rfl (okWide_bool_mk Tryz.underlying4 _))⟩
theorem Zn1:(Rows.crowdMoreRow.wf (OpenSpec.ofChange Rows.crowdMoreSpec))=true:=by kernel_rfl
theorem Zn2:(Tryz.f4.params.all (Tryz.prog.readableRec ·))=true:=by kernel_rfl
theorem Zn3:(namedTie Tryz.prog Rows.crowdMoreRow.named Rows.crowdMoreSpec.vars)=true:=by kernel_rfl
theorem Zn4:((Rows.crowdMoreRow.stops==[]))=true:=by kernel_rfl
theorem Zn5:((Rows.crowdMoreRow.knobs==[]))=true:=by kernel_rfl
theorem Zn6:((Rows.crowdMoreRow.inPlace == Tryz.prog.inPlace 4))=true:=by kernel_rfl
theorem Zlj:((Rows.crowdMoreRow.unfollowed == Tryz.prog.unfollowed 4))=true:=by kernel_rfl
theorem Zlk:((Rows.crowdMoreRow.recurses == Tryz.prog.recurses 4))=true:=by kernel_rfl
theorem Zll:((Rows.crowdMoreRow.named == Tryz.prog.varsNamed 4))=true:=by kernel_rfl
theorem Zlm:((Rows.crowdMoreRow.maps==(Tryz.f4.params.toList++Rows.crowdMoreSpec.plain.varTypes Tryz.prog).any (Tryz.prog.mapsRec ·)))=true:=by kernel_rfl
theorem Zln:((Rows.crowdMoreRow.ifaces==(Tryz.f4.params.toList++Rows.crowdMoreSpec.plain.varTypes Tryz.prog).any (Tryz.prog.ifacesRec ·)))=true:=by kernel_rfl
theorem Zlo:((Rows.crowdMoreRow.mapsOut == Tryz.prog.mapsAmong Tryz.f4.resultTypes.toList))=true:=by kernel_rfl
theorem Zlp:((Rows.crowdMoreRow.loops==(Tryz.f4.params.toList++Rows.crowdMoreSpec.plain.varTypes Tryz.prog).any (Tryz.prog.loopsFrom ·)))=true:=by kernel_rfl
theorem Zlq:((Rows.crowdMoreRow.wideKeys==(Tryz.f4.params.toList++Rows.crowdMoreSpec.plain.varTypes Tryz.prog ++ Tryz.f4.resultTypes.toList).any (Tryz.prog.wideKeysFrom ·)))=true:=by kernel_rfl
theorem Zlr:(Rows.crowdMoreSpec.vars.all (Tryz.prog.varReadable ·))=true:=by kernel_rfl
theorem Zls:(Tryz.f4.resultTypes.all (fun t=>Tryz.prog.readableRec t&&decide (t < Tryz.prog.types.size)))=true:=by kernel_rfl
theorem Zlt:((Rows.crowdMoreRow.ifacesOut == Tryz.f4.resultTypes.toList.any (Tryz.prog.ifacesRec ·)))=true:=by kernel_rfl
theorem Zlu:((Rows.crowdMoreRow.loopsOut == Tryz.f4.resultTypes.toList.any (Tryz.prog.loopsFrom ·)))=true:=by kernel_rfl
theorem Zlv:((Rows.crowdMoreRow.plainKeys == Tryz.prog.plainKeys))=true:=by kernel_rfl
theorem Zlw:(Rows.crowdMoreRow.shortTexts.isNone)=true:=by kernel_rfl
theorem Zlx:((Rows.crowdMoreRow.lifted == Tryz.prog.liftsFinal))=true:=by kernel_rfl
theorem Zly:((Tryz.prog.make==some Rows.crowdMoreRow.make))=true:=by kernel_rfl
theorem Zlz:((Rows.crowdMoreRow.kinds==[]))=true:=by kernel_rfl
theorem Zl0:((Rows.crowdMoreRow.pinned==Rows.crowdMoreRow.pinnedBy))=true:=by kernel_rfl
theorem Zl1:((Rows.crowdMoreRow.veiled==(Tryz.f4.params.toList++Rows.crowdMoreSpec.plain.varTypes Tryz.prog ++ Tryz.f4.resultTypes.toList).any (Tryz.prog.veiledRec ·)))=true:=by kernel_rfl
theorem Zl2:(Rows.crowdMoreRow.veiledFits Tryz.prog Tryz.f4.params.toList (Tryz.f4.params.toList++Rows.crowdMoreSpec.plain.varTypes Tryz.prog ++ Tryz.f4.resultTypes.toList))=true:=by kernel_rfl
theorem Zl3:(Rows.crowdMoreRow.domain.isEmpty)=true:=by kernel_rfl
theorem Zhl:joinedFacts Tryz.prog 4 Tryz.f4 Rows.crowdMoreSpec Rows.crowdMoreRow=true :=
 Zt1 Zn1 Z20 Z21 Zn2 Zn3 Zn4 Z22 Zn5 Z23 Zn6 Zlj Zlk Zll Zlm Zln Zlo Zlp Zlq Zlr Zls Zlt Zlu Zlv Zlw Z18 Z19 Zlx Zly Zlz Zl0 Zl1 Zl2 Zl3
theorem Zjb:Tryz.f4.isInstance Tryz.prog Rows.crowdMoreRow.origin Rows.crowdMoreRow.targs:=of_decide_eq_true (by kernel_rfl)
theorem Zjc:Tryz.f4.isWrapper Tryz.prog Rows.crowdMoreRow.wrapper Rows.crowdMoreRow.mainSum:=by unfold Func.isWrapper;first | (rw[if_pos (by decide +kernel)];kernel_rfl) | (rw[if_neg (by decide +kernel)];exact⟨rfl,rfl⟩)
theorem Ziz:Rows.CrowdMoreSaid :=
 OpenClaim.holds_of_wide 4 Tryz.f4 rfl rfl rfl rfl rfl rfl rfl ⟨rfl,rfl,rfl,rfl,rfl⟩ rfl rfl rfl rfl rfl (by kernel_rfl) Tryz.func4 Zhl
  Zjb Zjc
  (fun os started H enc _=>Zhk os started H enc)
theorem Zjd:false=Rows.crowdMoreRow.goesBy Tryz.prog:=by kernel_rfl
theorem Zl4:Rows.crowdMoreRow.wfByText (OpenSpec.ofChange Rows.crowdMoreSpec)=true:=by kernel_rfl
theorem Zn7:Tryz.prog.funcNamed "cloak/cloaklaw09.CrowdMore"=some 4:=by kernel_rfl
theorem Zl5:([26,39,44,5,5].all fun u=>!Tryz.prog.wantsStandIn u)=true:=by kernel_rfl
theorem crowdMore_card_holds:Rows.CrowdMoreCardSaid :=
 Claim7.holds_tied_plain_at .later [] [.widerDeep] true (true,"338451282303b13a8cdbd10538cf236b010dc1946a10f25ba5749e7e6682990c") false
  Ziz (fun _ h=>by cases h) Zl4 (fun _ h=>by cases h) crowdMore_row_tie rfl ⟨rfl,rfl⟩ Zv6 rfl
  (fun f fn hf hfn=>by
   obtain rfl:f=4:=Option.some.inj (Zn7.symm.trans hf) |>.symm;obtain rfl:fn = Tryz.f4:=(Option.some.inj (Tryz.func4.symm.trans hfn)).symm
   exact⟨Zr7,fun j t ht=>by
    rw[Tryz.params4] at ht
    have hm:t∈[26,39,44,5,5]:=by
     simpa using Array.mem_of_getElem? ht
    exact (show Tryz.prog.wantsStandIn t=false by simpa using List.all_eq_true.1 Zl5 t hm)⟩)
  Zjd
#print axioms crowdMore_card_holds
end Go.Proofs.YtbcgocpihobjnaaGreatDoor
