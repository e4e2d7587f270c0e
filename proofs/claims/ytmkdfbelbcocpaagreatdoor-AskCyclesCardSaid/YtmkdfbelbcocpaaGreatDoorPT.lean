import Derived.Test.YtmkdfbelbcocpaaGreatDoorCards
import Derived.Test.YtmkdfbelbcocpaaGreatDoorTie
import Derived.SevenTiedAt
import Derived.Test.YtmkdfbelbcocpaaGreatDoorCY32
import Derived.Test.YtmkdfbelbcocpaaGreatDoorCY34
import Derived.Test.YtmkdfbelbcocpaaGreatDoorCY35
set_option linter.unusedVariables false
set_option linter.unusedSimpArgs false
namespace Go.Proofs.YtmkdfbelbcocpaaGreatDoor
open Go Go.ChangeShapes Go.WideShapes Go.ChangeAt Go.WideMaps Go.WideElems Go.RowKit Go.Joins
open Go.ChangeMaps (open_string shut_string)
set_option maxRecDepth 100000 in
theorem askCycles_lifted (os:Os) (started:os.Started) (H:Type) (enc:TypeId × Value→H) :
  ReturnsInHanded {} Tryz.checked os 9 .any (fun w args=>(Rows.askCyclesSpec.pre enc Tryz.prog Tryz.f9 [] false w args∧laidMetH Tryz.prog laidD w)∧sizedMet enc Tryz.prog Tryz.f9 (OpenSpec.ofChange Rows.askCyclesSpec) false w args)
   (Rows.askCyclesSpec.post enc Tryz.prog Tryz.f9 false true false false):=by
 refine row_wrap (C:=Tryz.checked) (X:=fun w _=>laidMetH Tryz.prog laidD w) (fun _ _ _ hh h=>h.of_heap hh) own started (by kernel_rfl) Tryz.func9
  (ChangeSpec.witness_shaped (enc:=enc) (C:=Tryz.checked) (os:=os) (X:=fun w _=>laidMetH Tryz.prog laidD w) false (World.doorLaid Tryz.prog 400 os) #[.slice none 0 0,.slice none 0 0,.int .i64 0,.slice none 0 0] 8 rfl (door_shaped os _) (by kernel_rfl) (by kernel_rfl) (by kernel_rfl) (door_metD os _)) ?_
 intro W base args ds gs before hval0 hW hL hsh
 have hval:∀ (j:Nat) t v,Tryz.f9.params[j]? = some t→args[j]? = some v→Value.okWide Tryz.prog W .any base t v:=hval0
 have hW':=hW
 obtain ⟨p,q,hA0,hV,rfl,hfz,hnd⟩:=hW
 have hA:DataW.TrodAll enc Tryz.prog W 0 (fun _=>true) true Tryz.f9.params.toList args.toList ds p:=hA0
 have hlt:=hA.lt
 have hA2:=hA
 rw [Tryz.params9] at hA hval
 obtain ⟨v0,vr0,d0,ds0,p0,q0,hargs,rfl,rfl,h0,r0⟩:=trodAll_cons hA
 obtain ⟨v1,vr1,d1,ds1,p1,q1,rfl,rfl,rfl,h1,r1⟩:=trodAll_cons r0
 obtain ⟨v2,vr2,d2,ds2,p2,q2,rfl,rfl,rfl,h2,r2⟩:=trodAll_cons r1
 obtain ⟨v3,vr3,d3,ds3,p3,q3,rfl,rfl,rfl,h3,r3⟩:=trodAll_cons r2
 obtain ⟨rfl,rfl,rfl⟩:=trodAll_nil r3
 obtain rfl:args = #[v0,v1,v2,v3]:=Array.toList_inj.1 hargs
 obtain ⟨rfl,rfl⟩:=trodVars_none hV
 obtain ⟨l0,lo0,n0,c0,rfl,hn0,hg0,hb0,hr0,hy0⟩:=prds_open (hval 0 23 v0 rfl rfl) h0
 obtain ⟨l1,lo1,n1,c1,rfl,hn1,hg1,hy1,hb1⟩:=strs_open (hval 1 59 v1 rfl rfl) h1
 obtain ⟨x2,rfl,-,-,w2⟩:=open_int Tryz.underlying3 (hval 2 3 v2 rfl rfl) h2
 obtain ⟨l3,lo3,n3,c3,rfl,hn3,hg3,hb3⟩:=ints_open (hval 3 60 v3 rfl rfl) h3
 have G:=tab_of_laid hL hsh
 refine (askcycles_walk W _ l0 lo0 n0 c0 l1 lo1 n1 c1 x2 l3 lo3 n3 c3 W.heap.size G hb0 hn0 hg0 hy0 hr0 hb1 hn1 hg1 hy1 hb3 hn3 hg3).mono fun e W' ⟨he,hg⟩=>?_
 subst he
 exact ⟨_,rfl,post_of_below (pa:=_) (pv:=[]) hW' (fun _ _ _=>trodAll_mk1 (shut_bool Tryz.underlying4 _)) (fun sp hsp=>trodAll_stay (by kernel_rfl) (by kernel_rfl) hA2 (fun x hx=>hg.same (hlt x hx)) (fun x hx=>hsp x (List.mem_append_left _ hx))) (fun _ _=>rfl) rfl hg (ok_one (by kernel_rfl) rfl (okWide_bool_mk Tryz.underlying4 _))⟩
set_option maxRecDepth 100000 in
theorem askCycles_k0:(Rows.askCyclesRow.wf (OpenSpec.ofChange Rows.askCyclesSpec)) = true:=by kernel_rfl
set_option maxRecDepth 100000 in
theorem askCycles_k3:(Tryz.f9.params.all (Tryz.prog.readableRec ·)) = true:=by kernel_rfl
set_option maxRecDepth 100000 in
theorem askCycles_k4:(namedTie Tryz.prog Rows.askCyclesRow.named Rows.askCyclesSpec.vars) = true:=by kernel_rfl
set_option maxRecDepth 100000 in
theorem askCycles_k5:((Rows.askCyclesRow.stops == [])) = true:=by kernel_rfl
set_option maxRecDepth 100000 in
theorem askCycles_k7:((Rows.askCyclesRow.knobs == [])) = true:=by kernel_rfl
set_option maxRecDepth 100000 in
theorem askCycles_k9:((Rows.askCyclesRow.inPlace == Tryz.prog.inPlace 9)) = true:=by kernel_rfl
set_option maxRecDepth 100000 in
theorem askCycles_k10:((Rows.askCyclesRow.unfollowed == Tryz.prog.unfollowed 9)) = true:=by kernel_rfl
set_option maxRecDepth 100000 in
theorem askCycles_k11:((Rows.askCyclesRow.recurses == Tryz.prog.recurses 9)) = true:=by kernel_rfl
set_option maxRecDepth 100000 in
theorem askCycles_k12:((Rows.askCyclesRow.named == Tryz.prog.varsNamed 9)) = true:=by kernel_rfl
set_option maxRecDepth 100000 in
theorem askCycles_k13:((Rows.askCyclesRow.maps == (Tryz.f9.params.toList ++ Rows.askCyclesSpec.plain.varTypes Tryz.prog).any (Tryz.prog.mapsRec ·))) = true:=by kernel_rfl
set_option maxRecDepth 100000 in
theorem askCycles_k14:((Rows.askCyclesRow.ifaces == (Tryz.f9.params.toList ++ Rows.askCyclesSpec.plain.varTypes Tryz.prog).any (Tryz.prog.ifacesRec ·))) = true:=by kernel_rfl
set_option maxRecDepth 100000 in
theorem askCycles_k15:((Rows.askCyclesRow.mapsOut == Tryz.prog.mapsAmong Tryz.f9.resultTypes.toList)) = true:=by kernel_rfl
set_option maxRecDepth 100000 in
theorem askCycles_k16:((Rows.askCyclesRow.loops == (Tryz.f9.params.toList ++ Rows.askCyclesSpec.plain.varTypes Tryz.prog).any (Tryz.prog.loopsFrom ·))) = true:=by kernel_rfl
set_option maxRecDepth 100000 in
theorem askCycles_k17:((Rows.askCyclesRow.wideKeys == (Tryz.f9.params.toList ++ Rows.askCyclesSpec.plain.varTypes Tryz.prog ++ Tryz.f9.resultTypes.toList).any (Tryz.prog.wideKeysFrom ·))) = true:=by kernel_rfl
set_option maxRecDepth 100000 in
theorem askCycles_k18:(Rows.askCyclesSpec.vars.all (Tryz.prog.varReadable ·)) = true:=by kernel_rfl
set_option maxRecDepth 100000 in
theorem askCycles_k19:(Tryz.f9.resultTypes.all (fun t=>Tryz.prog.readableRec t && decide (t < Tryz.prog.types.size))) = true:=by kernel_rfl
set_option maxRecDepth 100000 in
theorem askCycles_k20:((Rows.askCyclesRow.ifacesOut == Tryz.f9.resultTypes.toList.any (Tryz.prog.ifacesRec ·))) = true:=by kernel_rfl
set_option maxRecDepth 100000 in
theorem askCycles_k21:((Rows.askCyclesRow.loopsOut == Tryz.f9.resultTypes.toList.any (Tryz.prog.loopsFrom ·))) = true:=by kernel_rfl
set_option maxRecDepth 100000 in
theorem askCycles_k22:((Rows.askCyclesRow.plainKeys == Tryz.prog.plainKeys)) = true:=by kernel_rfl
set_option maxRecDepth 100000 in
theorem askCycles_k23:(Rows.askCyclesRow.shortTexts.isNone) = true:=by kernel_rfl
set_option maxRecDepth 100000 in
theorem askCycles_k26:((Rows.askCyclesRow.lifted == Tryz.prog.liftsFinal)) = true:=by kernel_rfl
set_option maxRecDepth 100000 in
theorem askCycles_k27:((Tryz.prog.make == some Rows.askCyclesRow.make)) = true:=by kernel_rfl
set_option maxRecDepth 100000 in
theorem askCycles_k28:((Rows.askCyclesRow.kinds == [])) = true:=by kernel_rfl
set_option maxRecDepth 100000 in
theorem askCycles_k29:((Rows.askCyclesRow.pinned == Rows.askCyclesRow.pinnedBy)) = true:=by kernel_rfl
set_option maxRecDepth 100000 in
theorem askCycles_k30:((Rows.askCyclesRow.veiled == (Tryz.f9.params.toList ++ Rows.askCyclesSpec.plain.varTypes Tryz.prog ++ Tryz.f9.resultTypes.toList).any (Tryz.prog.veiledRec ·))) = true:=by kernel_rfl
set_option maxRecDepth 100000 in
theorem askCycles_k31:(Rows.askCyclesRow.veiledFits Tryz.prog Tryz.f9.params.toList (Tryz.f9.params.toList ++ Rows.askCyclesSpec.plain.varTypes Tryz.prog ++ Tryz.f9.resultTypes.toList)) = true:=by kernel_rfl
set_option maxRecDepth 100000 in
theorem askCycles_k32:(Rows.askCyclesRow.domain.isEmpty) = true:=by kernel_rfl
theorem askCycles_closed:joinedFacts Tryz.prog 9 Tryz.f9 Rows.askCyclesSpec Rows.askCyclesRow = true :=
 joined_of askCycles_k0 com1 com2 askCycles_k3 askCycles_k4 askCycles_k5 com6 askCycles_k7 com8 askCycles_k9 askCycles_k10 askCycles_k11 askCycles_k12 askCycles_k13 askCycles_k14 askCycles_k15 askCycles_k16 askCycles_k17 askCycles_k18 askCycles_k19 askCycles_k20 askCycles_k21 askCycles_k22 askCycles_k23 com24 com25 askCycles_k26 askCycles_k27 askCycles_k28 askCycles_k29 askCycles_k30 askCycles_k31 askCycles_k32
set_option maxRecDepth 100000 in
theorem askCycles_inst:Tryz.f9.isInstance Tryz.prog Rows.askCyclesRow.origin Rows.askCyclesRow.targs:=of_decide_eq_true (by kernel_rfl)
set_option maxRecDepth 100000 in
theorem askCycles_wrap:Tryz.f9.isWrapper Tryz.prog Rows.askCyclesRow.wrapper Rows.askCyclesRow.mainSum:=by unfold Func.isWrapper; first | (rw [if_pos (by decide +kernel)]; kernel_rfl) | (rw [if_neg (by decide +kernel)]; exact ⟨rfl,rfl⟩)
theorem askCycles_holds:Rows.AskCyclesSaid :=
 OpenClaim.holds_of_wide 9 Tryz.f9 rfl rfl rfl rfl rfl rfl rfl ⟨rfl,rfl,rfl,rfl,rfl⟩ rfl rfl rfl rfl rfl (by kernel_rfl) Tryz.func9 askCycles_closed
  askCycles_inst askCycles_wrap
  (fun os started H enc _=>askCycles_lifted os started H enc)
set_option maxRecDepth 100000 in
theorem askCycles_goes:false = Rows.askCyclesRow.goesBy Tryz.prog:=by kernel_rfl
set_option maxRecDepth 100000 in
theorem askCycles_wft:Rows.askCyclesRow.wfByText (OpenSpec.ofChange Rows.askCyclesSpec) = true:=by kernel_rfl
set_option maxRecDepth 100000 in
theorem askCycles_fn:Tryz.prog.funcNamed "cloak/cloaklaw05.AskCycles" = some 9:=by kernel_rfl
set_option maxRecDepth 100000 in
theorem askCycles_std:([23,59,3,60].all fun u=>!Tryz.prog.wantsStandIn u) = true:=by kernel_rfl
theorem askCycles_card_holds:Rows.AskCyclesCardSaid :=
 Claim7.holds_tied_plain_at .later [] [.data,.widerDeep] true (true,"e946dd738e9aa7fac4b3de290664a7b0d746a21bc6ee9596d7723f6a41ddd4f9") true
  askCycles_holds (fun _ h=>by cases h) askCycles_wft (fun _ h=>by cases h) askCycles_row_tie rfl ⟨rfl,rfl⟩ com_main rfl
  (fun f fn hf hfn=>by
   obtain rfl:f = 9:=Option.some.inj (askCycles_fn.symm.trans hf) |>.symm
   obtain rfl:fn = Tryz.f9:=(Option.some.inj (Tryz.func9.symm.trans hfn)).symm
   exact ⟨com_looks,fun j t ht=>by
    rw [Tryz.params9] at ht
    have hm:t∈[23,59,3,60]:=by
     simpa using Array.mem_of_getElem? ht
    exact (show Tryz.prog.wantsStandIn t = false by simpa using List.all_eq_true.1 askCycles_std t hm)⟩)
  askCycles_goes
#print axioms askCycles_card_holds
end Go.Proofs.YtmkdfbelbcocpaaGreatDoor
