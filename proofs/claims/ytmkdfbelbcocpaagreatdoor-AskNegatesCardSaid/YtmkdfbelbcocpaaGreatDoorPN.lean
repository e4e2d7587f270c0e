/- AskNegates: for every input the statement returns true, and its arguments read as before; the row, and its tied card. Condition: the laid tables. -/
import Derived.Test.YtmkdfbelbcocpaaGreatDoorCards
import Derived.Test.YtmkdfbelbcocpaaGreatDoorTie
import Derived.SevenTiedAt
import Derived.Test.YtmkdfbelbcocpaaGreatDoorS30
import Derived.Test.YtmkdfbelbcocpaaGreatDoorS27
set_option linter.unusedVariables false
set_option linter.unusedSimpArgs false
namespace Go.Proofs.YtmkdfbelbcocpaaGreatDoor
open Go Go.ChangeShapes Go.WideShapes Go.ChangeAt Go.WideMaps Go.WideElems Go.RowKit Go.Joins
open Go.ChangeMaps (open_string shut_string)
set_option maxRecDepth 100000 in
theorem askNegates_lifted (os : Os) (started : os.Started) (H : Type) (enc : TypeId × Value → H) :
    ReturnsInHanded {} Tryz.checked os 15 .any (fun w args => (Rows.askNegatesSpec.pre enc Tryz.prog Tryz.f15 [] false w args ∧ laidMetH Tryz.prog laidL w) ∧ sizedMet enc Tryz.prog Tryz.f15 (OpenSpec.ofChange Rows.askNegatesSpec) false w args)
      (Rows.askNegatesSpec.post enc Tryz.prog Tryz.f15 false true false false) := by
  refine row_wrap (C := Tryz.checked) (X := fun w _ => laidMetH Tryz.prog laidL w) (fun _ _ _ hh h => h.of_heap hh) own started (by kernel_rfl) Tryz.func15
    (ChangeSpec.witness_shaped (enc := enc) (C := Tryz.checked) (os := os) (X := fun w _ => laidMetH Tryz.prog laidL w) false (World.doorLaid Tryz.prog 400 os) #[.agg #[.int .i64 0, .string ⟨#[]⟩, .string ⟨#[]⟩, .int .i64 0, .slice none 0 0], .slice none 0 0] 8 rfl (door_shaped os _) (by kernel_rfl) (by kernel_rfl) (by kernel_rfl) (door_met os _)) ?_
  intro W base args ds gs before hval0 hW hL hsh
  have hval : ∀ (j : Nat) t v, Tryz.f15.params[j]? = some t → args[j]? = some v → Value.okWide Tryz.prog W .any base t v := hval0
  have hW' := hW
  obtain ⟨p, q, hA0, hV, rfl, hfz, hnd⟩ := hW
  have hA : DataW.TrodAll enc Tryz.prog W 0 (fun _ => true) true Tryz.f15.params.toList args.toList ds p := hA0
  have hlt := hA.lt
  have hA2 := hA
  rw [Tryz.params15] at hA hval
  obtain ⟨v0, vr0, d0, ds0, p0, q0, hargs, rfl, rfl, h0, r0⟩ := trodAll_cons hA
  obtain ⟨v1, vr1, d1, ds1, p1, q1, rfl, rfl, rfl, h1, r1⟩ := trodAll_cons r0
  obtain ⟨rfl, rfl, rfl⟩ := trodAll_nil r1
  obtain rfl : args = #[v0, v1] := Array.toList_inj.1 hargs
  obtain ⟨rfl, rfl⟩ := trodVars_none hV
  obtain ⟨q0, vs0, rfl, hp0, hr0, hl0⟩ := prd_open (hval 0 25 v0 rfl rfl) h0
  obtain ⟨l1, bo1, n1, c1, rfl, hn1, hg1, hy1, hb1⟩ := bnd_open (hval 1 49 v1 rfl rfl) h1
  have G := good_of_laid hL hsh
  refine (askneg_walk q0 vs0 l1 W _ _ bo1 n1 c1 W.heap.size G hp0 hr0 hl0 hn1 hg1 hy1 hb1).mono fun e W' ⟨he, hg⟩ => ?_
  subst he
  exact ⟨_, rfl, post_of_below (pa := _) (pv := []) hW' (fun _ _ _ => trodAll_mk1 (shut_bool Tryz.underlying4 _)) (fun sp hsp => trodAll_stay (by kernel_rfl) (by kernel_rfl) hA2 (fun x hx => hg.same (hlt x hx)) (fun x hx => hsp x (List.mem_append_left _ hx))) (fun _ _ => rfl) rfl hg (ok_one (by kernel_rfl) rfl (okWide_bool_mk Tryz.underlying4 _))⟩
set_option maxRecDepth 100000 in
theorem askNegates_k0 : (Rows.askNegatesRow.wf (OpenSpec.ofChange Rows.askNegatesSpec)) = true := by kernel_rfl
set_option maxRecDepth 100000 in
theorem askNegates_k3 : (Tryz.f15.params.all (Tryz.prog.readableRec ·)) = true := by kernel_rfl
set_option maxRecDepth 100000 in
theorem askNegates_k4 : (namedTie Tryz.prog Rows.askNegatesRow.named Rows.askNegatesSpec.vars) = true := by kernel_rfl
set_option maxRecDepth 100000 in
theorem askNegates_k5 : ((Rows.askNegatesRow.stops == [])) = true := by kernel_rfl
set_option maxRecDepth 100000 in
theorem askNegates_k7 : ((Rows.askNegatesRow.knobs == [])) = true := by kernel_rfl
set_option maxRecDepth 100000 in
theorem askNegates_k9 : ((Rows.askNegatesRow.inPlace == Tryz.prog.inPlace 15)) = true := by kernel_rfl
set_option maxRecDepth 100000 in
theorem askNegates_k10 : ((Rows.askNegatesRow.unfollowed == Tryz.prog.unfollowed 15)) = true := by kernel_rfl
set_option maxRecDepth 100000 in
theorem askNegates_k11 : ((Rows.askNegatesRow.recurses == Tryz.prog.recurses 15)) = true := by kernel_rfl
set_option maxRecDepth 100000 in
theorem askNegates_k12 : ((Rows.askNegatesRow.named == Tryz.prog.varsNamed 15)) = true := by kernel_rfl
set_option maxRecDepth 100000 in
theorem askNegates_k13 : ((Rows.askNegatesRow.maps == (Tryz.f15.params.toList ++ Rows.askNegatesSpec.plain.varTypes Tryz.prog).any (Tryz.prog.mapsRec ·))) = true := by kernel_rfl
set_option maxRecDepth 100000 in
theorem askNegates_k14 : ((Rows.askNegatesRow.ifaces == (Tryz.f15.params.toList ++ Rows.askNegatesSpec.plain.varTypes Tryz.prog).any (Tryz.prog.ifacesRec ·))) = true := by kernel_rfl
set_option maxRecDepth 100000 in
theorem askNegates_k15 : ((Rows.askNegatesRow.mapsOut == Tryz.prog.mapsAmong Tryz.f15.resultTypes.toList)) = true := by kernel_rfl
set_option maxRecDepth 100000 in
theorem askNegates_k16 : ((Rows.askNegatesRow.loops == (Tryz.f15.params.toList ++ Rows.askNegatesSpec.plain.varTypes Tryz.prog).any (Tryz.prog.loopsFrom ·))) = true := by kernel_rfl
set_option maxRecDepth 100000 in
theorem askNegates_k17 : ((Rows.askNegatesRow.wideKeys == (Tryz.f15.params.toList ++ Rows.askNegatesSpec.plain.varTypes Tryz.prog ++ Tryz.f15.resultTypes.toList).any (Tryz.prog.wideKeysFrom ·))) = true := by kernel_rfl
set_option maxRecDepth 100000 in
theorem askNegates_k18 : (Rows.askNegatesSpec.vars.all (Tryz.prog.varReadable ·)) = true := by kernel_rfl
set_option maxRecDepth 100000 in
theorem askNegates_k19 : (Tryz.f15.resultTypes.all (fun t => Tryz.prog.readableRec t && decide (t < Tryz.prog.types.size))) = true := by kernel_rfl
set_option maxRecDepth 100000 in
theorem askNegates_k20 : ((Rows.askNegatesRow.ifacesOut == Tryz.f15.resultTypes.toList.any (Tryz.prog.ifacesRec ·))) = true := by kernel_rfl
set_option maxRecDepth 100000 in
theorem askNegates_k21 : ((Rows.askNegatesRow.loopsOut == Tryz.f15.resultTypes.toList.any (Tryz.prog.loopsFrom ·))) = true := by kernel_rfl
set_option maxRecDepth 100000 in
theorem askNegates_k22 : ((Rows.askNegatesRow.plainKeys == Tryz.prog.plainKeys)) = true := by kernel_rfl
set_option maxRecDepth 100000 in
theorem askNegates_k23 : (Rows.askNegatesRow.shortTexts.isNone) = true := by kernel_rfl
set_option maxRecDepth 100000 in
theorem askNegates_k26 : ((Rows.askNegatesRow.lifted == Tryz.prog.liftsFinal)) = true := by kernel_rfl
set_option maxRecDepth 100000 in
theorem askNegates_k27 : ((Tryz.prog.make == some Rows.askNegatesRow.make)) = true := by kernel_rfl
set_option maxRecDepth 100000 in
theorem askNegates_k28 : ((Rows.askNegatesRow.kinds == [])) = true := by kernel_rfl
set_option maxRecDepth 100000 in
theorem askNegates_k29 : ((Rows.askNegatesRow.pinned == Rows.askNegatesRow.pinnedBy)) = true := by kernel_rfl
set_option maxRecDepth 100000 in
theorem askNegates_k30 : ((Rows.askNegatesRow.veiled == (Tryz.f15.params.toList ++ Rows.askNegatesSpec.plain.varTypes Tryz.prog ++ Tryz.f15.resultTypes.toList).any (Tryz.prog.veiledRec ·))) = true := by kernel_rfl
set_option maxRecDepth 100000 in
theorem askNegates_k31 : (Rows.askNegatesRow.veiledFits Tryz.prog Tryz.f15.params.toList (Tryz.f15.params.toList ++ Rows.askNegatesSpec.plain.varTypes Tryz.prog ++ Tryz.f15.resultTypes.toList)) = true := by kernel_rfl
set_option maxRecDepth 100000 in
theorem askNegates_k32 : (Rows.askNegatesRow.domain.isEmpty) = true := by kernel_rfl
theorem askNegates_closed : joinedFacts Tryz.prog 15 Tryz.f15 Rows.askNegatesSpec Rows.askNegatesRow = true :=
  joined_of askNegates_k0 com1 com2 askNegates_k3 askNegates_k4 askNegates_k5 com6 askNegates_k7 com8 askNegates_k9 askNegates_k10 askNegates_k11 askNegates_k12 askNegates_k13 askNegates_k14 askNegates_k15 askNegates_k16 askNegates_k17 askNegates_k18 askNegates_k19 askNegates_k20 askNegates_k21 askNegates_k22 askNegates_k23 com24 com25 askNegates_k26 askNegates_k27 askNegates_k28 askNegates_k29 askNegates_k30 askNegates_k31 askNegates_k32
set_option maxRecDepth 100000 in
theorem askNegates_inst : Tryz.f15.isInstance Tryz.prog Rows.askNegatesRow.origin Rows.askNegatesRow.targs := of_decide_eq_true (by kernel_rfl)
set_option maxRecDepth 100000 in
theorem askNegates_wrap : Tryz.f15.isWrapper Tryz.prog Rows.askNegatesRow.wrapper Rows.askNegatesRow.mainSum := by unfold Func.isWrapper; first | (rw [if_pos (by decide +kernel)]; kernel_rfl) | (rw [if_neg (by decide +kernel)]; exact ⟨rfl, rfl⟩)
theorem askNegates_holds : Rows.AskNegatesSaid :=
  OpenClaim.holds_of_wide 15 Tryz.f15 rfl rfl rfl rfl rfl rfl rfl ⟨rfl, rfl, rfl, rfl, rfl⟩ rfl rfl rfl rfl rfl (by kernel_rfl) Tryz.func15 askNegates_closed
    askNegates_inst askNegates_wrap
    (fun os started H enc _ => askNegates_lifted os started H enc)
set_option maxRecDepth 100000 in
theorem askNegates_goes : false = Rows.askNegatesRow.goesBy Tryz.prog := by kernel_rfl
set_option maxRecDepth 100000 in
theorem askNegates_wft : Rows.askNegatesRow.wfByText (OpenSpec.ofChange Rows.askNegatesSpec) = true := by kernel_rfl
set_option maxRecDepth 100000 in
theorem askNegates_fn : Tryz.prog.funcNamed "cloak/cloaklaw05.AskNegates" = some 15 := by kernel_rfl
set_option maxRecDepth 100000 in
theorem askNegates_std : ([25, 49].all fun u => !Tryz.prog.wantsStandIn u) = true := by kernel_rfl
theorem askNegates_card_holds : Rows.AskNegatesCardSaid :=
  Claim7.holds_tied_plain_at .later [] [.data, .data, .data, .data, .widerDeep] true (true, "e946dd738e9aa7fac4b3de290664a7b0d746a21bc6ee9596d7723f6a41ddd4f9") true
    askNegates_holds (fun _ h => by cases h) askNegates_wft (fun _ h => by cases h) askNegates_row_tie rfl ⟨rfl, rfl⟩ com_main rfl
    (fun f fn hf hfn => by
      obtain rfl : f = 15 := Option.some.inj (askNegates_fn.symm.trans hf) |>.symm
      obtain rfl : fn = Tryz.f15 := (Option.some.inj (Tryz.func15.symm.trans hfn)).symm
      exact ⟨com_looks, fun j t ht => by
        rw [Tryz.params15] at ht
        have hm : t ∈ [25, 49] := by
          simpa using Array.mem_of_getElem? ht
        exact (show Tryz.prog.wantsStandIn t = false by simpa using List.all_eq_true.1 askNegates_std t hm)⟩)
    askNegates_goes
#print axioms askNegates_card_holds
end Go.Proofs.YtmkdfbelbcocpaaGreatDoor
