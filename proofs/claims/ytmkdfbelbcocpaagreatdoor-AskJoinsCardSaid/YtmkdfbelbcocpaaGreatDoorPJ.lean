/- AskJoins: for every input the statement returns true, and its arguments read as before; the row, and its tied card. Condition: the laid tables. -/
import Derived.Test.YtmkdfbelbcocpaaGreatDoorCards
import Derived.Test.YtmkdfbelbcocpaaGreatDoorTie
import Derived.SevenTiedAt
import Derived.Test.YtmkdfbelbcocpaaGreatDoorMJ32
import Derived.Test.YtmkdfbelbcocpaaGreatDoorMJ28
set_option linter.unusedVariables false
set_option linter.unusedSimpArgs false
namespace Go.Proofs.YtmkdfbelbcocpaaGreatDoor
open Go Go.ChangeShapes Go.WideShapes Go.ChangeAt Go.WideMaps Go.WideElems Go.RowKit Go.Joins
open Go.ChangeMaps (open_string shut_string)
set_option maxRecDepth 100000 in
theorem askJoins_lifted (os : Os) (started : os.Started) (H : Type) (enc : TypeId × Value → H) :
    ReturnsInHanded {} Tryz.checked os 5 .any (fun w args => (Rows.askJoinsSpec.pre enc Tryz.prog Tryz.f5 [] false w args ∧ laidMetH Tryz.prog laidL w) ∧ sizedMet enc Tryz.prog Tryz.f5 (OpenSpec.ofChange Rows.askJoinsSpec) false w args)
      (Rows.askJoinsSpec.post enc Tryz.prog Tryz.f5 false true false false) := by
  refine row_wrap (C := Tryz.checked) (X := fun w _ => laidMetH Tryz.prog laidL w) (fun _ _ _ hh h => h.of_heap hh) own started (by kernel_rfl) Tryz.func5
    (ChangeSpec.witness_shaped (enc := enc) (C := Tryz.checked) (os := os) (X := fun w _ => laidMetH Tryz.prog laidL w) false (World.doorLaid Tryz.prog 400 os) #[.agg #[.int .i64 0, .string ⟨#[]⟩, .string ⟨#[]⟩, .int .i64 0, .slice none 0 0], .agg #[.int .i64 0, .string ⟨#[]⟩, .string ⟨#[]⟩, .int .i64 0, .slice none 0 0]] 8 rfl (door_shaped os _) (by kernel_rfl) (by kernel_rfl) (by kernel_rfl) (door_met os _)) ?_
  intro W base args ds gs before hval0 hW hL hsh
  have hval : ∀ (j : Nat) t v, Tryz.f5.params[j]? = some t → args[j]? = some v → Value.okWide Tryz.prog W .any base t v := hval0
  have hW' := hW
  obtain ⟨p, q, hA0, hV, rfl, hfz, hnd⟩ := hW
  have hA : DataW.TrodAll enc Tryz.prog W 0 (fun _ => true) true Tryz.f5.params.toList args.toList ds p := hA0
  have hlt := hA.lt
  have hA2 := hA
  rw [Tryz.params5] at hA hval
  obtain ⟨v0, vr0, d0, ds0, p0, q0, hargs, rfl, rfl, h0, r0⟩ := trodAll_cons hA
  obtain ⟨v1, vr1, d1, ds1, p1, q1, rfl, rfl, rfl, h1, r1⟩ := trodAll_cons r0
  obtain ⟨rfl, rfl, rfl⟩ := trodAll_nil r1
  obtain rfl : args = #[v0, v1] := Array.toList_inj.1 hargs
  obtain ⟨rfl, rfl⟩ := trodVars_none hV
  obtain ⟨q0, vs0, rfl, hp0, hr0, hl0⟩ := prd_open (hval 0 25 v0 rfl rfl) h0
  obtain ⟨q1, vs1, rfl, hp1, hr1, hl1⟩ := prd_open (hval 1 25 v1 rfl rfl) h1
  have G := good_of_laid hL hsh
  refine (askjoins_full q0 q1 vs0 vs1 W _ _ W.heap.size G hp0 hp1 hr0 hr1 hl0 hl1).mono fun e W' ⟨he, hg⟩ => ?_
  subst he
  exact ⟨_, rfl, post_of_below (pa := _) (pv := []) hW' (fun _ _ _ => trodAll_mk1 (shut_bool Tryz.underlying4 _)) (fun sp hsp => trodAll_stay (by kernel_rfl) (by kernel_rfl) hA2 (fun x hx => hg.same (hlt x hx)) (fun x hx => hsp x (List.mem_append_left _ hx))) (fun _ _ => rfl) rfl hg (ok_one (by kernel_rfl) rfl (okWide_bool_mk Tryz.underlying4 _))⟩
set_option maxRecDepth 100000 in
theorem askJoins_k0 : (Rows.askJoinsRow.wf (OpenSpec.ofChange Rows.askJoinsSpec)) = true := by kernel_rfl
set_option maxRecDepth 100000 in
theorem askJoins_k3 : (Tryz.f5.params.all (Tryz.prog.readableRec ·)) = true := by kernel_rfl
set_option maxRecDepth 100000 in
theorem askJoins_k4 : (namedTie Tryz.prog Rows.askJoinsRow.named Rows.askJoinsSpec.vars) = true := by kernel_rfl
set_option maxRecDepth 100000 in
theorem askJoins_k5 : ((Rows.askJoinsRow.stops == [])) = true := by kernel_rfl
set_option maxRecDepth 100000 in
theorem askJoins_k7 : ((Rows.askJoinsRow.knobs == [])) = true := by kernel_rfl
set_option maxRecDepth 100000 in
theorem askJoins_k9 : ((Rows.askJoinsRow.inPlace == Tryz.prog.inPlace 5)) = true := by kernel_rfl
set_option maxRecDepth 100000 in
theorem askJoins_k10 : ((Rows.askJoinsRow.unfollowed == Tryz.prog.unfollowed 5)) = true := by kernel_rfl
set_option maxRecDepth 100000 in
theorem askJoins_k11 : ((Rows.askJoinsRow.recurses == Tryz.prog.recurses 5)) = true := by kernel_rfl
set_option maxRecDepth 100000 in
theorem askJoins_k12 : ((Rows.askJoinsRow.named == Tryz.prog.varsNamed 5)) = true := by kernel_rfl
set_option maxRecDepth 100000 in
theorem askJoins_k13 : ((Rows.askJoinsRow.maps == (Tryz.f5.params.toList ++ Rows.askJoinsSpec.plain.varTypes Tryz.prog).any (Tryz.prog.mapsRec ·))) = true := by kernel_rfl
set_option maxRecDepth 100000 in
theorem askJoins_k14 : ((Rows.askJoinsRow.ifaces == (Tryz.f5.params.toList ++ Rows.askJoinsSpec.plain.varTypes Tryz.prog).any (Tryz.prog.ifacesRec ·))) = true := by kernel_rfl
set_option maxRecDepth 100000 in
theorem askJoins_k15 : ((Rows.askJoinsRow.mapsOut == Tryz.prog.mapsAmong Tryz.f5.resultTypes.toList)) = true := by kernel_rfl
set_option maxRecDepth 100000 in
theorem askJoins_k16 : ((Rows.askJoinsRow.loops == (Tryz.f5.params.toList ++ Rows.askJoinsSpec.plain.varTypes Tryz.prog).any (Tryz.prog.loopsFrom ·))) = true := by kernel_rfl
set_option maxRecDepth 100000 in
theorem askJoins_k17 : ((Rows.askJoinsRow.wideKeys == (Tryz.f5.params.toList ++ Rows.askJoinsSpec.plain.varTypes Tryz.prog ++ Tryz.f5.resultTypes.toList).any (Tryz.prog.wideKeysFrom ·))) = true := by kernel_rfl
set_option maxRecDepth 100000 in
theorem askJoins_k18 : (Rows.askJoinsSpec.vars.all (Tryz.prog.varReadable ·)) = true := by kernel_rfl
set_option maxRecDepth 100000 in
theorem askJoins_k19 : (Tryz.f5.resultTypes.all (fun t => Tryz.prog.readableRec t && decide (t < Tryz.prog.types.size))) = true := by kernel_rfl
set_option maxRecDepth 100000 in
theorem askJoins_k20 : ((Rows.askJoinsRow.ifacesOut == Tryz.f5.resultTypes.toList.any (Tryz.prog.ifacesRec ·))) = true := by kernel_rfl
set_option maxRecDepth 100000 in
theorem askJoins_k21 : ((Rows.askJoinsRow.loopsOut == Tryz.f5.resultTypes.toList.any (Tryz.prog.loopsFrom ·))) = true := by kernel_rfl
set_option maxRecDepth 100000 in
theorem askJoins_k22 : ((Rows.askJoinsRow.plainKeys == Tryz.prog.plainKeys)) = true := by kernel_rfl
set_option maxRecDepth 100000 in
theorem askJoins_k23 : (Rows.askJoinsRow.shortTexts.isNone) = true := by kernel_rfl
set_option maxRecDepth 100000 in
theorem askJoins_k26 : ((Rows.askJoinsRow.lifted == Tryz.prog.liftsFinal)) = true := by kernel_rfl
set_option maxRecDepth 100000 in
theorem askJoins_k27 : ((Tryz.prog.make == some Rows.askJoinsRow.make)) = true := by kernel_rfl
set_option maxRecDepth 100000 in
theorem askJoins_k28 : ((Rows.askJoinsRow.kinds == [])) = true := by kernel_rfl
set_option maxRecDepth 100000 in
theorem askJoins_k29 : ((Rows.askJoinsRow.pinned == Rows.askJoinsRow.pinnedBy)) = true := by kernel_rfl
set_option maxRecDepth 100000 in
theorem askJoins_k30 : ((Rows.askJoinsRow.veiled == (Tryz.f5.params.toList ++ Rows.askJoinsSpec.plain.varTypes Tryz.prog ++ Tryz.f5.resultTypes.toList).any (Tryz.prog.veiledRec ·))) = true := by kernel_rfl
set_option maxRecDepth 100000 in
theorem askJoins_k31 : (Rows.askJoinsRow.veiledFits Tryz.prog Tryz.f5.params.toList (Tryz.f5.params.toList ++ Rows.askJoinsSpec.plain.varTypes Tryz.prog ++ Tryz.f5.resultTypes.toList)) = true := by kernel_rfl
set_option maxRecDepth 100000 in
theorem askJoins_k32 : (Rows.askJoinsRow.domain.isEmpty) = true := by kernel_rfl
theorem askJoins_closed : joinedFacts Tryz.prog 5 Tryz.f5 Rows.askJoinsSpec Rows.askJoinsRow = true :=
  joined_of askJoins_k0 com1 com2 askJoins_k3 askJoins_k4 askJoins_k5 com6 askJoins_k7 com8 askJoins_k9 askJoins_k10 askJoins_k11 askJoins_k12 askJoins_k13 askJoins_k14 askJoins_k15 askJoins_k16 askJoins_k17 askJoins_k18 askJoins_k19 askJoins_k20 askJoins_k21 askJoins_k22 askJoins_k23 com24 com25 askJoins_k26 askJoins_k27 askJoins_k28 askJoins_k29 askJoins_k30 askJoins_k31 askJoins_k32
set_option maxRecDepth 100000 in
theorem askJoins_inst : Tryz.f5.isInstance Tryz.prog Rows.askJoinsRow.origin Rows.askJoinsRow.targs := of_decide_eq_true (by kernel_rfl)
set_option maxRecDepth 100000 in
theorem askJoins_wrap : Tryz.f5.isWrapper Tryz.prog Rows.askJoinsRow.wrapper Rows.askJoinsRow.mainSum := by unfold Func.isWrapper; first | (rw [if_pos (by decide +kernel)]; kernel_rfl) | (rw [if_neg (by decide +kernel)]; exact ⟨rfl, rfl⟩)
theorem askJoins_holds : Rows.AskJoinsSaid :=
  OpenClaim.holds_of_wide 5 Tryz.f5 rfl rfl rfl rfl rfl rfl rfl ⟨rfl, rfl, rfl, rfl, rfl⟩ rfl rfl rfl rfl rfl (by kernel_rfl) Tryz.func5 askJoins_closed
    askJoins_inst askJoins_wrap
    (fun os started H enc _ => askJoins_lifted os started H enc)
set_option maxRecDepth 100000 in
theorem askJoins_goes : false = Rows.askJoinsRow.goesBy Tryz.prog := by kernel_rfl
set_option maxRecDepth 100000 in
theorem askJoins_wft : Rows.askJoinsRow.wfByText (OpenSpec.ofChange Rows.askJoinsSpec) = true := by kernel_rfl
set_option maxRecDepth 100000 in
theorem askJoins_fn : Tryz.prog.funcNamed "cloak/cloaklaw05.AskJoins" = some 5 := by kernel_rfl
set_option maxRecDepth 100000 in
theorem askJoins_std : ([25, 25].all fun u => !Tryz.prog.wantsStandIn u) = true := by kernel_rfl
theorem askJoins_card_holds : Rows.AskJoinsCardSaid :=
  Claim7.holds_tied_plain_at .later [] [.data, .data, .data, .data, .widerDeep] true (true, "e946dd738e9aa7fac4b3de290664a7b0d746a21bc6ee9596d7723f6a41ddd4f9") true
    askJoins_holds (fun _ h => by cases h) askJoins_wft (fun _ h => by cases h) askJoins_row_tie rfl ⟨rfl, rfl⟩ com_main rfl
    (fun f fn hf hfn => by
      obtain rfl : f = 5 := Option.some.inj (askJoins_fn.symm.trans hf) |>.symm
      obtain rfl : fn = Tryz.f5 := (Option.some.inj (Tryz.func5.symm.trans hfn)).symm
      exact ⟨com_looks, fun j t ht => by
        rw [Tryz.params5] at ht
        have hm : t ∈ [25, 25] := by
          simpa using Array.mem_of_getElem? ht
        exact (show Tryz.prog.wantsStandIn t = false by simpa using List.all_eq_true.1 askJoins_std t hm)⟩)
    askJoins_goes
#print axioms askJoins_card_holds
end Go.Proofs.YtmkdfbelbcocpaaGreatDoor
