/- AskParses: for every input the statement returns true, and its arguments read as before; the row, and its tied card. Condition: the laid tables. -/
import Derived.Test.YtmkdfbelbcocpaaGreatDoorCards
import Derived.Test.YtmkdfbelbcocpaaGreatDoorTie
import Derived.SevenTiedAt
import Derived.Test.YtmkdfbelbcocpaaGreatDoorHP33
import Derived.Test.YtmkdfbelbcocpaaGreatDoorHP30
set_option linter.unusedVariables false
set_option linter.unusedSimpArgs false
namespace Go.Proofs.YtmkdfbelbcocpaaGreatDoor
open Go Go.ChangeShapes Go.WideShapes Go.ChangeAt Go.WideMaps Go.WideElems Go.RowKit Go.Joins
open Go.ChangeMaps (open_string shut_string)
set_option maxRecDepth 100000 in
theorem askParses_lifted (os : Os) (started : os.Started) (H : Type) (enc : TypeId × Value → H) :
    ReturnsInHanded {} Tryz.checked os 3 .any (fun w args => (Rows.askParsesSpec.pre enc Tryz.prog Tryz.f3 [] false w args ∧ laidMetH Tryz.prog laidL w) ∧ sizedMet enc Tryz.prog Tryz.f3 (OpenSpec.ofChange Rows.askParsesSpec) false w args)
      (Rows.askParsesSpec.post enc Tryz.prog Tryz.f3 false true false false) := by
  refine row_wrap (C := Tryz.checked) (X := fun w _ => laidMetH Tryz.prog laidL w) (fun _ _ _ hh h => h.of_heap hh) own started (by kernel_rfl) Tryz.func3
    (ChangeSpec.witness_shaped (enc := enc) (C := Tryz.checked) (os := os) (X := fun w _ => laidMetH Tryz.prog laidL w) false (World.doorLaid Tryz.prog 400 os) #[.string ⟨#[]⟩] 8 rfl (door_shaped os _) (by kernel_rfl) (by kernel_rfl) (by kernel_rfl) (door_met os _)) ?_
  intro W base args ds gs before hval0 hW hL hsh
  have hval : ∀ (j : Nat) t v, Tryz.f3.params[j]? = some t → args[j]? = some v → Value.okWide Tryz.prog W .any base t v := hval0
  have hW' := hW
  obtain ⟨p, q, hA0, hV, rfl, hfz, hnd⟩ := hW
  have hA : DataW.TrodAll enc Tryz.prog W 0 (fun _ => true) true Tryz.f3.params.toList args.toList ds p := hA0
  have hlt := hA.lt
  have hA2 := hA
  rw [Tryz.params3] at hA hval
  obtain ⟨v0, vr0, d0, ds0, p0, q0, hargs, rfl, rfl, h0, r0⟩ := trodAll_cons hA
  obtain ⟨rfl, rfl, rfl⟩ := trodAll_nil r0
  obtain rfl : args = #[v0] := Array.toList_inj.1 hargs
  obtain ⟨rfl, rfl⟩ := trodVars_none hV
  obtain ⟨x0, rfl, -, -, w0⟩ := open_string Tryz.underlying9 (hval 0 9 v0 rfl rfl) h0
  obtain ⟨s0, rfl, hs0, hz0⟩ := strN_of_bytes x0
  have G := good_of_laid hL hsh
  refine (askparses_walk s0 W W.heap.size G hs0).mono fun e W' ⟨he, hg⟩ => ?_
  subst he
  exact ⟨_, rfl, post_of_below (pa := _) (pv := []) hW' (fun _ _ _ => trodAll_mk1 (shut_bool Tryz.underlying4 _)) (fun sp hsp => trodAll_stay (by kernel_rfl) (by kernel_rfl) hA2 (fun x hx => hg.same (hlt x hx)) (fun x hx => hsp x (List.mem_append_left _ hx))) (fun _ _ => rfl) rfl hg (ok_one (by kernel_rfl) rfl (okWide_bool_mk Tryz.underlying4 _))⟩
set_option maxRecDepth 100000 in
theorem askParses_k0 : (Rows.askParsesRow.wf (OpenSpec.ofChange Rows.askParsesSpec)) = true := by kernel_rfl
set_option maxRecDepth 100000 in
theorem askParses_k3 : (Tryz.f3.params.all (Tryz.prog.readableRec ·)) = true := by kernel_rfl
set_option maxRecDepth 100000 in
theorem askParses_k4 : (namedTie Tryz.prog Rows.askParsesRow.named Rows.askParsesSpec.vars) = true := by kernel_rfl
set_option maxRecDepth 100000 in
theorem askParses_k5 : ((Rows.askParsesRow.stops == [])) = true := by kernel_rfl
set_option maxRecDepth 100000 in
theorem askParses_k7 : ((Rows.askParsesRow.knobs == [])) = true := by kernel_rfl
set_option maxRecDepth 100000 in
theorem askParses_k9 : ((Rows.askParsesRow.inPlace == Tryz.prog.inPlace 3)) = true := by kernel_rfl
set_option maxRecDepth 100000 in
theorem askParses_k10 : ((Rows.askParsesRow.unfollowed == Tryz.prog.unfollowed 3)) = true := by kernel_rfl
set_option maxRecDepth 100000 in
theorem askParses_k11 : ((Rows.askParsesRow.recurses == Tryz.prog.recurses 3)) = true := by kernel_rfl
set_option maxRecDepth 100000 in
theorem askParses_k12 : ((Rows.askParsesRow.named == Tryz.prog.varsNamed 3)) = true := by kernel_rfl
set_option maxRecDepth 100000 in
theorem askParses_k13 : ((Rows.askParsesRow.maps == (Tryz.f3.params.toList ++ Rows.askParsesSpec.plain.varTypes Tryz.prog).any (Tryz.prog.mapsRec ·))) = true := by kernel_rfl
set_option maxRecDepth 100000 in
theorem askParses_k14 : ((Rows.askParsesRow.ifaces == (Tryz.f3.params.toList ++ Rows.askParsesSpec.plain.varTypes Tryz.prog).any (Tryz.prog.ifacesRec ·))) = true := by kernel_rfl
set_option maxRecDepth 100000 in
theorem askParses_k15 : ((Rows.askParsesRow.mapsOut == Tryz.prog.mapsAmong Tryz.f3.resultTypes.toList)) = true := by kernel_rfl
set_option maxRecDepth 100000 in
theorem askParses_k16 : ((Rows.askParsesRow.loops == (Tryz.f3.params.toList ++ Rows.askParsesSpec.plain.varTypes Tryz.prog).any (Tryz.prog.loopsFrom ·))) = true := by kernel_rfl
set_option maxRecDepth 100000 in
theorem askParses_k17 : ((Rows.askParsesRow.wideKeys == (Tryz.f3.params.toList ++ Rows.askParsesSpec.plain.varTypes Tryz.prog ++ Tryz.f3.resultTypes.toList).any (Tryz.prog.wideKeysFrom ·))) = true := by kernel_rfl
set_option maxRecDepth 100000 in
theorem askParses_k18 : (Rows.askParsesSpec.vars.all (Tryz.prog.varReadable ·)) = true := by kernel_rfl
set_option maxRecDepth 100000 in
theorem askParses_k19 : (Tryz.f3.resultTypes.all (fun t => Tryz.prog.readableRec t && decide (t < Tryz.prog.types.size))) = true := by kernel_rfl
set_option maxRecDepth 100000 in
theorem askParses_k20 : ((Rows.askParsesRow.ifacesOut == Tryz.f3.resultTypes.toList.any (Tryz.prog.ifacesRec ·))) = true := by kernel_rfl
set_option maxRecDepth 100000 in
theorem askParses_k21 : ((Rows.askParsesRow.loopsOut == Tryz.f3.resultTypes.toList.any (Tryz.prog.loopsFrom ·))) = true := by kernel_rfl
set_option maxRecDepth 100000 in
theorem askParses_k22 : ((Rows.askParsesRow.plainKeys == Tryz.prog.plainKeys)) = true := by kernel_rfl
set_option maxRecDepth 100000 in
theorem askParses_k23 : (Rows.askParsesRow.shortTexts.isNone) = true := by kernel_rfl
set_option maxRecDepth 100000 in
theorem askParses_k26 : ((Rows.askParsesRow.lifted == Tryz.prog.liftsFinal)) = true := by kernel_rfl
set_option maxRecDepth 100000 in
theorem askParses_k27 : ((Tryz.prog.make == some Rows.askParsesRow.make)) = true := by kernel_rfl
set_option maxRecDepth 100000 in
theorem askParses_k28 : ((Rows.askParsesRow.kinds == [])) = true := by kernel_rfl
set_option maxRecDepth 100000 in
theorem askParses_k29 : ((Rows.askParsesRow.pinned == Rows.askParsesRow.pinnedBy)) = true := by kernel_rfl
set_option maxRecDepth 100000 in
theorem askParses_k30 : ((Rows.askParsesRow.veiled == (Tryz.f3.params.toList ++ Rows.askParsesSpec.plain.varTypes Tryz.prog ++ Tryz.f3.resultTypes.toList).any (Tryz.prog.veiledRec ·))) = true := by kernel_rfl
set_option maxRecDepth 100000 in
theorem askParses_k31 : (Rows.askParsesRow.veiledFits Tryz.prog Tryz.f3.params.toList (Tryz.f3.params.toList ++ Rows.askParsesSpec.plain.varTypes Tryz.prog ++ Tryz.f3.resultTypes.toList)) = true := by kernel_rfl
set_option maxRecDepth 100000 in
theorem askParses_k32 : (Rows.askParsesRow.domain.isEmpty) = true := by kernel_rfl
theorem askParses_closed : joinedFacts Tryz.prog 3 Tryz.f3 Rows.askParsesSpec Rows.askParsesRow = true :=
  joined_of askParses_k0 com1 com2 askParses_k3 askParses_k4 askParses_k5 com6 askParses_k7 com8 askParses_k9 askParses_k10 askParses_k11 askParses_k12 askParses_k13 askParses_k14 askParses_k15 askParses_k16 askParses_k17 askParses_k18 askParses_k19 askParses_k20 askParses_k21 askParses_k22 askParses_k23 com24 com25 askParses_k26 askParses_k27 askParses_k28 askParses_k29 askParses_k30 askParses_k31 askParses_k32
set_option maxRecDepth 100000 in
theorem askParses_inst : Tryz.f3.isInstance Tryz.prog Rows.askParsesRow.origin Rows.askParsesRow.targs := of_decide_eq_true (by kernel_rfl)
set_option maxRecDepth 100000 in
theorem askParses_wrap : Tryz.f3.isWrapper Tryz.prog Rows.askParsesRow.wrapper Rows.askParsesRow.mainSum := by unfold Func.isWrapper; first | (rw [if_pos (by decide +kernel)]; kernel_rfl) | (rw [if_neg (by decide +kernel)]; exact ⟨rfl, rfl⟩)
theorem askParses_holds : Rows.AskParsesSaid :=
  OpenClaim.holds_of_wide 3 Tryz.f3 rfl rfl rfl rfl rfl rfl rfl ⟨rfl, rfl, rfl, rfl, rfl⟩ rfl rfl rfl rfl rfl (by kernel_rfl) Tryz.func3 askParses_closed
    askParses_inst askParses_wrap
    (fun os started H enc _ => askParses_lifted os started H enc)
set_option maxRecDepth 100000 in
theorem askParses_goes : false = Rows.askParsesRow.goesBy Tryz.prog := by kernel_rfl
set_option maxRecDepth 100000 in
theorem askParses_wft : Rows.askParsesRow.wfByText (OpenSpec.ofChange Rows.askParsesSpec) = true := by kernel_rfl
set_option maxRecDepth 100000 in
theorem askParses_fn : Tryz.prog.funcNamed "cloak/cloaklaw05.AskParses" = some 3 := by kernel_rfl
set_option maxRecDepth 100000 in
theorem askParses_std : ([9].all fun u => !Tryz.prog.wantsStandIn u) = true := by kernel_rfl
theorem askParses_card_holds : Rows.AskParsesCardSaid :=
  Claim7.holds_tied_plain_at .later [] [.data, .data, .data, .data, .widerDeep] true (true, "e946dd738e9aa7fac4b3de290664a7b0d746a21bc6ee9596d7723f6a41ddd4f9") true
    askParses_holds (fun _ h => by cases h) askParses_wft (fun _ h => by cases h) askParses_row_tie rfl ⟨rfl, rfl⟩ com_main rfl
    (fun f fn hf hfn => by
      obtain rfl : f = 3 := Option.some.inj (askParses_fn.symm.trans hf) |>.symm
      obtain rfl : fn = Tryz.f3 := (Option.some.inj (Tryz.func3.symm.trans hfn)).symm
      exact ⟨com_looks, fun j t ht => by
        rw [Tryz.params3] at ht
        have hm : t ∈ [9] := by
          simpa using Array.mem_of_getElem? ht
        exact (show Tryz.prog.wantsStandIn t = false by simpa using List.all_eq_true.1 askParses_std t hm)⟩)
    askParses_goes
#print axioms askParses_card_holds
end Go.Proofs.YtmkdfbelbcocpaaGreatDoor
