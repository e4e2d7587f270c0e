import Derived.Test.YtmkdfbelbcocpaaGreatDoorCards
import Derived.Test.YtmkdfbelbcocpaaGreatDoorTie
import Derived.SevenTiedAt
import Derived.Test.YtmkdfbelbcocpaaGreatDoorBS33
import Derived.Test.YtmkdfbelbcocpaaGreatDoorBS30
set_option linter.unusedVariables false
set_option linter.unusedSimpArgs false
namespace Go.Proofs.YtmkdfbelbcocpaaGreatDoor
open Go Go.ChangeShapes Go.WideShapes Go.ChangeAt Go.WideMaps Go.WideElems Go.RowKit Go.Joins
open Go.ChangeMaps (open_string shut_string)
set_option maxRecDepth 100000 in
theorem askNormals_lifted (os:Os) (started:os.Started) (H:Type) (enc:TypeId × Value→H) :
  ReturnsInHanded {} Tryz.checked os 7 .any (fun w args=>(Rows.askNormalsSpec.pre enc Tryz.prog Tryz.f7 [] false w args∧laidMetH Tryz.prog laidL w)∧sizedMet enc Tryz.prog Tryz.f7 (OpenSpec.ofChange Rows.askNormalsSpec) false w args)
   (Rows.askNormalsSpec.post enc Tryz.prog Tryz.f7 false true false false):=by
 refine row_wrap (C:=Tryz.checked) (X:=fun w _=>laidMetH Tryz.prog laidL w) (fun _ _ _ hh h=>h.of_heap hh) own started (by kernel_rfl) Tryz.func7
  (ChangeSpec.witness_shaped (enc:=enc) (C:=Tryz.checked) (os:=os) (X:=fun w _=>laidMetH Tryz.prog laidL w) false (World.doorLaid Tryz.prog 400 os) #[.agg #[.int .i64 0,.string ⟨#[]⟩,.string ⟨#[]⟩,.int .i64 0,.slice none 0 0],.slice none 0 0,.slice none 0 0] 8 rfl (door_shaped os _) (by kernel_rfl) (by kernel_rfl) (by kernel_rfl) (door_met os _)) ?_
 intro W base args ds gs before hval0 hW hL hsh
 have hval:∀ (j:Nat) t v,Tryz.f7.params[j]? = some t→args[j]? = some v→Value.okWide Tryz.prog W .any base t v:=hval0
 have hW':=hW
 obtain ⟨p,q,hA0,hV,rfl,hfz,hnd⟩:=hW
 have hA:DataW.TrodAll enc Tryz.prog W 0 (fun _=>true) true Tryz.f7.params.toList args.toList ds p:=hA0
 have hlt:=hA.lt
 have hA2:=hA
 rw [Tryz.params7] at hA hval
 obtain ⟨v0,vr0,d0,ds0,p0,q0,hargs,rfl,rfl,h0,r0⟩:=trodAll_cons hA
 obtain ⟨v1,vr1,d1,ds1,p1,q1,rfl,rfl,rfl,h1,r1⟩:=trodAll_cons r0
 obtain ⟨v2,vr2,d2,ds2,p2,q2,rfl,rfl,rfl,h2,r2⟩:=trodAll_cons r1
 obtain ⟨rfl,rfl,rfl⟩:=trodAll_nil r2
 obtain rfl:args = #[v0,v1,v2]:=Array.toList_inj.1 hargs
 obtain ⟨rfl,rfl⟩:=trodVars_none hV
 obtain ⟨q0,vs0,rfl,hp0,hr0,hl0⟩:=prd_open2 (hval 0 25 v0 rfl rfl) h0
 obtain ⟨l1,lo1,n1,c1,rfl,hn1,hg1,hb1,hy1⟩:=chs_open (hval 1 41 v1 rfl rfl) h1
 obtain ⟨l2,bo2,n2,c2,rfl,hn2,hg2,hy2,hb2⟩:=bnd_open (hval 2 49 v2 rfl rfl) h2
 have G:=good_of_laid hL hsh
 refine (asknormals_walk q0 vs0 l1 lo1 n1 c1 l2 W _ bo2 n2 c2 W.heap.size G hp0 hr0 hl0 hn1 hg1 hb1 hy1 hn2 hg2 hy2 hb2).mono fun e W' ⟨he,hg⟩=>?_
 subst he
 exact ⟨_,rfl,post_of_below (pa:=_) (pv:=[]) hW' (fun _ _ _=>trodAll_mk1 (shut_bool Tryz.underlying4 _)) (fun sp hsp=>trodAll_stay (by kernel_rfl) (by kernel_rfl) hA2 (fun x hx=>hg.same (hlt x hx)) (fun x hx=>hsp x (List.mem_append_left _ hx))) (fun _ _=>rfl) rfl hg (ok_one (by kernel_rfl) rfl (okWide_bool_mk Tryz.underlying4 _))⟩
set_option maxRecDepth 100000 in
theorem askNormals_k0:(Rows.askNormalsRow.wf (OpenSpec.ofChange Rows.askNormalsSpec)) = true:=by kernel_rfl
set_option maxRecDepth 100000 in
theorem askNormals_k3:(Tryz.f7.params.all (Tryz.prog.readableRec ·)) = true:=by kernel_rfl
set_option maxRecDepth 100000 in
theorem askNormals_k4:(namedTie Tryz.prog Rows.askNormalsRow.named Rows.askNormalsSpec.vars) = true:=by kernel_rfl
set_option maxRecDepth 100000 in
theorem askNormals_k5:((Rows.askNormalsRow.stops == [])) = true:=by kernel_rfl
set_option maxRecDepth 100000 in
theorem askNormals_k7:((Rows.askNormalsRow.knobs == [])) = true:=by kernel_rfl
set_option maxRecDepth 100000 in
theorem askNormals_k9:((Rows.askNormalsRow.inPlace == Tryz.prog.inPlace 7)) = true:=by kernel_rfl
set_option maxRecDepth 100000 in
theorem askNormals_k10:((Rows.askNormalsRow.unfollowed == Tryz.prog.unfollowed 7)) = true:=by kernel_rfl
set_option maxRecDepth 100000 in
theorem askNormals_k11:((Rows.askNormalsRow.recurses == Tryz.prog.recurses 7)) = true:=by kernel_rfl
set_option maxRecDepth 100000 in
theorem askNormals_k12:((Rows.askNormalsRow.named == Tryz.prog.varsNamed 7)) = true:=by kernel_rfl
set_option maxRecDepth 100000 in
theorem askNormals_k13:((Rows.askNormalsRow.maps == (Tryz.f7.params.toList ++ Rows.askNormalsSpec.plain.varTypes Tryz.prog).any (Tryz.prog.mapsRec ·))) = true:=by kernel_rfl
set_option maxRecDepth 100000 in
theorem askNormals_k14:((Rows.askNormalsRow.ifaces == (Tryz.f7.params.toList ++ Rows.askNormalsSpec.plain.varTypes Tryz.prog).any (Tryz.prog.ifacesRec ·))) = true:=by kernel_rfl
set_option maxRecDepth 100000 in
theorem askNormals_k15:((Rows.askNormalsRow.mapsOut == Tryz.prog.mapsAmong Tryz.f7.resultTypes.toList)) = true:=by kernel_rfl
set_option maxRecDepth 100000 in
theorem askNormals_k16:((Rows.askNormalsRow.loops == (Tryz.f7.params.toList ++ Rows.askNormalsSpec.plain.varTypes Tryz.prog).any (Tryz.prog.loopsFrom ·))) = true:=by kernel_rfl
set_option maxRecDepth 100000 in
theorem askNormals_k17:((Rows.askNormalsRow.wideKeys == (Tryz.f7.params.toList ++ Rows.askNormalsSpec.plain.varTypes Tryz.prog ++ Tryz.f7.resultTypes.toList).any (Tryz.prog.wideKeysFrom ·))) = true:=by kernel_rfl
set_option maxRecDepth 100000 in
theorem askNormals_k18:(Rows.askNormalsSpec.vars.all (Tryz.prog.varReadable ·)) = true:=by kernel_rfl
set_option maxRecDepth 100000 in
theorem askNormals_k19:(Tryz.f7.resultTypes.all (fun t=>Tryz.prog.readableRec t && decide (t < Tryz.prog.types.size))) = true:=by kernel_rfl
set_option maxRecDepth 100000 in
theorem askNormals_k20:((Rows.askNormalsRow.ifacesOut == Tryz.f7.resultTypes.toList.any (Tryz.prog.ifacesRec ·))) = true:=by kernel_rfl
set_option maxRecDepth 100000 in
theorem askNormals_k21:((Rows.askNormalsRow.loopsOut == Tryz.f7.resultTypes.toList.any (Tryz.prog.loopsFrom ·))) = true:=by kernel_rfl
set_option maxRecDepth 100000 in
theorem askNormals_k22:((Rows.askNormalsRow.plainKeys == Tryz.prog.plainKeys)) = true:=by kernel_rfl
set_option maxRecDepth 100000 in
theorem askNormals_k23:(Rows.askNormalsRow.shortTexts.isNone) = true:=by kernel_rfl
set_option maxRecDepth 100000 in
theorem askNormals_k26:((Rows.askNormalsRow.lifted == Tryz.prog.liftsFinal)) = true:=by kernel_rfl
set_option maxRecDepth 100000 in
theorem askNormals_k27:((Tryz.prog.make == some Rows.askNormalsRow.make)) = true:=by kernel_rfl
set_option maxRecDepth 100000 in
theorem askNormals_k28:((Rows.askNormalsRow.kinds == [])) = true:=by kernel_rfl
set_option maxRecDepth 100000 in
theorem askNormals_k29:((Rows.askNormalsRow.pinned == Rows.askNormalsRow.pinnedBy)) = true:=by kernel_rfl
set_option maxRecDepth 100000 in
theorem askNormals_k30:((Rows.askNormalsRow.veiled == (Tryz.f7.params.toList ++ Rows.askNormalsSpec.plain.varTypes Tryz.prog ++ Tryz.f7.resultTypes.toList).any (Tryz.prog.veiledRec ·))) = true:=by kernel_rfl
set_option maxRecDepth 100000 in
theorem askNormals_k31:(Rows.askNormalsRow.veiledFits Tryz.prog Tryz.f7.params.toList (Tryz.f7.params.toList ++ Rows.askNormalsSpec.plain.varTypes Tryz.prog ++ Tryz.f7.resultTypes.toList)) = true:=by kernel_rfl
set_option maxRecDepth 100000 in
theorem askNormals_k32:(Rows.askNormalsRow.domain.isEmpty) = true:=by kernel_rfl
theorem askNormals_closed:joinedFacts Tryz.prog 7 Tryz.f7 Rows.askNormalsSpec Rows.askNormalsRow = true :=
 joined_of askNormals_k0 com1 com2 askNormals_k3 askNormals_k4 askNormals_k5 com6 askNormals_k7 com8 askNormals_k9 askNormals_k10 askNormals_k11 askNormals_k12 askNormals_k13 askNormals_k14 askNormals_k15 askNormals_k16 askNormals_k17 askNormals_k18 askNormals_k19 askNormals_k20 askNormals_k21 askNormals_k22 askNormals_k23 com24 com25 askNormals_k26 askNormals_k27 askNormals_k28 askNormals_k29 askNormals_k30 askNormals_k31 askNormals_k32
set_option maxRecDepth 100000 in
theorem askNormals_inst:Tryz.f7.isInstance Tryz.prog Rows.askNormalsRow.origin Rows.askNormalsRow.targs:=of_decide_eq_true (by kernel_rfl)
set_option maxRecDepth 100000 in
theorem askNormals_wrap:Tryz.f7.isWrapper Tryz.prog Rows.askNormalsRow.wrapper Rows.askNormalsRow.mainSum:=by unfold Func.isWrapper; first | (rw [if_pos (by decide +kernel)]; kernel_rfl) | (rw [if_neg (by decide +kernel)]; exact ⟨rfl,rfl⟩)
theorem askNormals_holds:Rows.AskNormalsSaid :=
 OpenClaim.holds_of_wide 7 Tryz.f7 rfl rfl rfl rfl rfl rfl rfl ⟨rfl,rfl,rfl,rfl,rfl⟩ rfl rfl rfl rfl rfl (by kernel_rfl) Tryz.func7 askNormals_closed
  askNormals_inst askNormals_wrap
  (fun os started H enc _=>askNormals_lifted os started H enc)
set_option maxRecDepth 100000 in
theorem askNormals_goes:false = Rows.askNormalsRow.goesBy Tryz.prog:=by kernel_rfl
set_option maxRecDepth 100000 in
theorem askNormals_wft:Rows.askNormalsRow.wfByText (OpenSpec.ofChange Rows.askNormalsSpec) = true:=by kernel_rfl
set_option maxRecDepth 100000 in
theorem askNormals_fn:Tryz.prog.funcNamed "cloak/cloaklaw05.AskNormals" = some 7:=by kernel_rfl
set_option maxRecDepth 100000 in
theorem askNormals_std:([25,41,49].all fun u=>!Tryz.prog.wantsStandIn u) = true:=by kernel_rfl
theorem askNormals_card_holds:Rows.AskNormalsCardSaid :=
 Claim7.holds_tied_plain_at .later [] [.data,.data,.data,.data,.widerDeep] true (true,"e946dd738e9aa7fac4b3de290664a7b0d746a21bc6ee9596d7723f6a41ddd4f9") true
  askNormals_holds (fun _ h=>by cases h) askNormals_wft (fun _ h=>by cases h) askNormals_row_tie rfl ⟨rfl,rfl⟩ com_main rfl
  (fun f fn hf hfn=>by
   obtain rfl:f = 7:=Option.some.inj (askNormals_fn.symm.trans hf) |>.symm
   obtain rfl:fn = Tryz.f7:=(Option.some.inj (Tryz.func7.symm.trans hfn)).symm
   exact ⟨com_looks,fun j t ht=>by
    rw [Tryz.params7] at ht
    have hm:t∈[25,41,49]:=by
     simpa using Array.mem_of_getElem? ht
    exact (show Tryz.prog.wantsStandIn t = false by simpa using List.all_eq_true.1 askNormals_std t hm)⟩)
  askNormals_goes
#print axioms askNormals_card_holds
end Go.Proofs.YtmkdfbelbcocpaaGreatDoor
