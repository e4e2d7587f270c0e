/- AskPrime: for every input the statement returns true, and its arguments read as before; the row, and its tied card. Condition: the laid tables. -/
import Derived.Test.YtmkdfbelbcocpaaGreatDoorCards
import Derived.Test.YtmkdfbelbcocpaaGreatDoorTie
import Derived.SevenTiedAt
import Derived.Test.YtmkdfbelbcocpaaGreatDoorBP30
import Derived.Test.YtmkdfbelbcocpaaGreatDoorBP26
set_option linter.unusedVariables false
set_option linter.unusedSimpArgs false
namespace Go.Proofs.YtmkdfbelbcocpaaGreatDoor
open Go Go.ChangeShapes Go.WideShapes Go.ChangeAt Go.WideMaps Go.WideElems Go.RowKit Go.Joins
open Go.ChangeMaps (open_string shut_string)
set_option maxRecDepth 100000 in
theorem askPrime_lifted (os : Os) (started : os.Started) (H : Type) (enc : TypeId × Value → H) :
    ReturnsInHanded {} Tryz.checked os 6 .any (fun w args => (Rows.askPrimeSpec.pre enc Tryz.prog Tryz.f6 [] false w args ∧ laidMetH Tryz.prog laidL w) ∧ sizedMet enc Tryz.prog Tryz.f6 (OpenSpec.ofChange Rows.askPrimeSpec) false w args)
      (Rows.askPrimeSpec.post enc Tryz.prog Tryz.f6 false true false false) := by
  refine row_wrap (C := Tryz.checked) (X := fun w _ => laidMetH Tryz.prog laidL w) (fun _ _ _ hh h => h.of_heap hh) own started (by kernel_rfl) Tryz.func6
    (ChangeSpec.witness_shaped (enc := enc) (C := Tryz.checked) (os := os) (X := fun w _ => laidMetH Tryz.prog laidL w) false (World.doorLaid Tryz.prog 400 os) #[.agg #[.int .i64 0, .string ⟨#[]⟩, .string ⟨#[]⟩, .int .i64 0, .slice none 0 0]] 8 rfl (door_shaped os _) (by kernel_rfl) (by kernel_rfl) (by kernel_rfl) (door_met os _)) ?_
  intro W base args ds gs before hval0 hW hL hsh
  have hval : ∀ (j : Nat) t v, Tryz.f6.params[j]? = some t → args[j]? = some v → Value.okWide Tryz.prog W .any base t v := hval0
  have hW' := hW
  obtain ⟨p, q, hA0, hV, rfl, hfz, hnd⟩ := hW
  have hA : DataW.TrodAll enc Tryz.prog W 0 (fun _ => true) true Tryz.f6.params.toList args.toList ds p := hA0
  have hlt := hA.lt
  have hA2 := hA
  rw [Tryz.params6] at hA hval
  obtain ⟨v0, vr0, d0, ds0, p0, q0, hargs, rfl, rfl, h0, r0⟩ := trodAll_cons hA
  obtain ⟨rfl, rfl, rfl⟩ := trodAll_nil r0
  obtain rfl : args = #[v0] := Array.toList_inj.1 hargs
  obtain ⟨rfl, rfl⟩ := trodVars_none hV
  obtain ⟨q0, vs0, rfl, hp0, hr0, hl0⟩ := prd_open (hval 0 25 v0 rfl rfl) h0
  have G := good_of_laid hL hsh
  refine (askprime_walk q0 vs0 W _ W.heap.size G hp0 hr0 hl0).mono fun e W' ⟨he, hg⟩ => ?_
  subst he
  exact ⟨_, rfl, post_of_below (pa := _) (pv := []) hW' (fun _ _ _ => trodAll_mk1 (shut_bool Tryz.underlying4 _)) (fun sp hsp => trodAll_stay (by kernel_rfl) (by kernel_rfl) hA2 (fun x hx => hg.same (hlt x hx)) (fun x hx => hsp x (List.mem_append_left _ hx))) (fun _ _ => rfl) rfl hg (ok_one (by kernel_rfl) rfl (okWide_bool_mk Tryz.underlying4 _))⟩
set_option maxRecDepth 100000 in
theorem askPrime_k0 : (Rows.askPrimeRow.wf (OpenSpec.ofChange Rows.askPrimeSpec)) = true := by kernel_rfl
set_option maxRecDepth 100000 in
theorem askPrime_k3 : (Tryz.f6.params.all (Tryz.prog.readableRec ·)) = true := by kernel_rfl
set_option maxRecDepth 100000 in
theorem askPrime_k4 : (namedTie Tryz.prog Rows.askPrimeRow.named Rows.askPrimeSpec.vars) = true := by kernel_rfl
set_option maxRecDepth 100000 in
theorem askPrime_k5 : ((Rows.askPrimeRow.stops == [])) = true := by kernel_rfl
set_option maxRecDepth 100000 in
theorem askPrime_k7 : ((Rows.askPrimeRow.knobs == [])) = true := by kernel_rfl
set_option maxRecDepth 100000 in
theorem askPrime_k9 : ((Rows.askPrimeRow.inPlace == Tryz.prog.inPlace 6)) = true := by kernel_rfl
set_option maxRecDepth 100000 in
theorem askPrime_k10 : ((Rows.askPrimeRow.unfollowed == Tryz.prog.unfollowed 6)) = true := by kernel_rfl
set_option maxRecDepth 100000 in
theorem askPrime_k11 : ((Rows.askPrimeRow.recurses == Tryz.prog.recurses 6)) = true := by kernel_rfl
set_option maxRecDepth 100000 in
theorem askPrime_k12 : ((Rows.askPrimeRow.named == Tryz.prog.varsNamed 6)) = true := by kernel_rfl
set_option maxRecDepth 100000 in
theorem askPrime_k13 : ((Rows.askPrimeRow.maps == (Tryz.f6.params.toList ++ Rows.askPrimeSpec.plain.varTypes Tryz.prog).any (Tryz.prog.mapsRec ·))) = true := by kernel_rfl
set_option maxRecDepth 100000 in
theorem askPrime_k14 : ((Rows.askPrimeRow.ifaces == (Tryz.f6.params.toList ++ Rows.askPrimeSpec.plain.varTypes Tryz.prog).any (Tryz.prog.ifacesRec ·))) = true := by kernel_rfl
set_option maxRecDepth 100000 in
theorem askPrime_k15 : ((Rows.askPrimeRow.mapsOut == Tryz.prog.mapsAmong Tryz.f6.resultTypes.toList)) = true := by kernel_rfl
set_option maxRecDepth 100000 in
theorem askPrime_k16 : ((Rows.askPrimeRow.loops == (Tryz.f6.params.toList ++ Rows.askPrimeSpec.plain.varTypes Tryz.prog).any (Tryz.prog.loopsFrom ·))) = true := by kernel_rfl
set_option maxRecDepth 100000 in
theorem askPrime_k17 : ((Rows.askPrimeRow.wideKeys == (Tryz.f6.params.toList ++ Rows.askPrimeSpec.plain.varTypes Tryz.prog ++ Tryz.f6.resultTypes.toList).any (Tryz.prog.wideKeysFrom ·))) = true := by kernel_rfl
set_option maxRecDepth 100000 in
theorem askPrime_k18 : (Rows.askPrimeSpec.vars.all (Tryz.prog.varReadable ·)) = true := by kernel_rfl
set_option maxRecDepth 100000 in
theorem askPrime_k19 : (Tryz.f6.resultTypes.all (fun t => Tryz.prog.readableRec t && decide (t < Tryz.prog.types.size))) = true := by kernel_rfl
set_option maxRecDepth 100000 in
theorem askPrime_k20 : ((Rows.askPrimeRow.ifacesOut == Tryz.f6.resultTypes.toList.any (Tryz.prog.ifacesRec ·))) = true := by kernel_rfl
set_option maxRecDepth 100000 in
theorem askPrime_k21 : ((Rows.askPrimeRow.loopsOut == Tryz.f6.resultTypes.toList.any (Tryz.prog.loopsFrom ·))) = true := by kernel_rfl
set_option maxRecDepth 100000 in
theorem askPrime_k22 : ((Rows.askPrimeRow.plainKeys == Tryz.prog.plainKeys)) = true := by kernel_rfl
set_option maxRecDepth 100000 in
theorem askPrime_k23 : (Rows.askPrimeRow.shortTexts.isNone) = true := by kernel_rfl
set_option maxRecDepth 100000 in
theorem askPrime_k26 : ((Rows.askPrimeRow.lifted == Tryz.prog.liftsFinal)) = true := by kernel_rfl
set_option maxRecDepth 100000 in
theorem askPrime_k27 : ((Tryz.prog.make == some Rows.askPrimeRow.make)) = true := by kernel_rfl
set_option maxRecDepth 100000 in
theorem askPrime_k28 : ((Rows.askPrimeRow.kinds == [])) = true := by kernel_rfl
set_option maxRecDepth 100000 in
theorem askPrime_k29 : ((Rows.askPrimeRow.pinned == Rows.askPrimeRow.pinnedBy)) = true := by kernel_rfl
set_option maxRecDepth 100000 in
theorem askPrime_k30 : ((Rows.askPrimeRow.veiled == (Tryz.f6.params.toList ++ Rows.askPrimeSpec.plain.varTypes Tryz.prog ++ Tryz.f6.resultTypes.toList).any (Tryz.prog.veiledRec ·))) = true := by kernel_rfl
set_option maxRecDepth 100000 in
theorem askPrime_k31 : (Rows.askPrimeRow.veiledFits Tryz.prog Tryz.f6.params.toList (Tryz.f6.params.toList ++ Rows.askPrimeSpec.plain.varTypes Tryz.prog ++ Tryz.f6.resultTypes.toList)) = true := by kernel_rfl
set_option maxRecDepth 100000 in
theorem askPrime_k32 : (Rows.askPrimeRow.domain.isEmpty) = true := by kernel_rfl
theorem askPrime_closed : joinedFacts Tryz.prog 6 Tryz.f6 Rows.askPrimeSpec Rows.askPrimeRow = true :=
  joined_of askPrime_k0 com1 com2 askPrime_k3 askPrime_k4 askPrime_k5 com6 askPrime_k7 com8 askPrime_k9 askPrime_k10 askPrime_k11 askPrime_k12 askPrime_k13 askPrime_k14 askPrime_k15 askPrime_k16 askPrime_k17 askPrime_k18 askPrime_k19 askPrime_k20 askPrime_k21 askPrime_k22 askPrime_k23 com24 com25 askPrime_k26 askPrime_k27 askPrime_k28 askPrime_k29 askPrime_k30 askPrime_k31 askPrime_k32
set_option maxRecDepth 100000 in
theorem askPrime_inst : Tryz.f6.isInstance Tryz.prog Rows.askPrimeRow.origin Rows.askPrimeRow.targs := of_decide_eq_true (by kernel_rfl)
set_option maxRecDepth 100000 in
theorem askPrime_wrap : Tryz.f6.isWrapper Tryz.prog Rows.askPrimeRow.wrapper Rows.askPrimeRow.mainSum := by unfold Func.isWrapper; first | (rw [if_pos (by decide +kernel)]; kernel_rfl) | (rw [if_neg (by decide +kernel)]; exact ⟨rfl, rfl⟩)
theorem askPrime_holds : Rows.AskPrimeSaid :=
  OpenClaim.holds_of_wide 6 Tryz.f6 rfl rfl rfl rfl rfl rfl rfl ⟨rfl, rfl, rfl, rfl, rfl⟩ rfl rfl rfl rfl rfl (by kernel_rfl) Tryz.func6 askPrime_closed
    askPrime_inst askPrime_wrap
    (fun os started H enc _ => askPrime_lifted os started H enc)
set_option maxRecDepth 100000 in
theorem askPrime_goes : false = Rows.askPrimeRow.goesBy Tryz.prog := by kernel_rfl
set_option maxRecDepth 100000 in
theorem askPrime_wft : Rows.askPrimeRow.wfByText (OpenSpec.ofChange Rows.askPrimeSpec) = true := by kernel_rfl
set_option maxRecDepth 100000 in
theorem askPrime_fn : Tryz.prog.funcNamed "cloak/cloaklaw05.AskPrime" = some 6 := by kernel_rfl
set_option maxRecDepth 100000 in
theorem askPrime_std : ([25].all fun u => !Tryz.prog.wantsStandIn u) = true := by kernel_rfl
theorem askPrime_card_holds : Rows.AskPrimeCardSaid :=
  Claim7.holds_tied_plain_at .later [] [.data, .data, .data, .data, .widerDeep] true (true, "e946dd738e9aa7fac4b3de290664a7b0d746a21bc6ee9596d7723f6a41ddd4f9") true
    askPrime_holds (fun _ h => by cases h) askPrime_wft (fun _ h => by cases h) askPrime_row_tie rfl ⟨rfl, rfl⟩ com_main rfl
    (fun f fn hf hfn => by
      obtain rfl : f = 6 := Option.some.inj (askPrime_fn.symm.trans hf) |>.symm
      obtain rfl : fn = Tryz.f6 := (Option.some.inj (Tryz.func6.symm.trans hfn)).symm
      exact ⟨com_looks, fun j t ht => by
        rw [Tryz.params6] at ht
        have hm : t ∈ [25] := by
          simpa using Array.mem_of_getElem? ht
        exact (show Tryz.prog.wantsStandIn t = false by simpa using List.all_eq_true.1 askPrime_std t hm)⟩)
    askPrime_goes
#print axioms askPrime_card_holds
end Go.Proofs.YtmkdfbelbcocpaaGreatDoor
