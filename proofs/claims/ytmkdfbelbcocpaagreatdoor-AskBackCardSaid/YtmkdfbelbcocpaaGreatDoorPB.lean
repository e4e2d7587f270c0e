/- AskBack: for every input the statement returns true, and its arguments read as before; the row, and its tied card. Condition: the laid tables. -/
import Derived.Test.YtmkdfbelbcocpaaGreatDoorCards
import Derived.Test.YtmkdfbelbcocpaaGreatDoorTie
import Derived.SevenTiedAt
import Derived.Test.YtmkdfbelbcocpaaGreatDoorV29
import Derived.Test.YtmkdfbelbcocpaaGreatDoorV26
set_option linter.unusedVariables false
set_option linter.unusedSimpArgs false
namespace Go.Proofs.YtmkdfbelbcocpaaGreatDoor
open Go Go.ChangeShapes Go.WideShapes Go.ChangeAt Go.WideMaps Go.WideElems Go.RowKit Go.Joins
open Go.ChangeMaps (open_string shut_string)
set_option maxRecDepth 100000 in
theorem askBack_lifted (os : Os) (started : os.Started) (H : Type) (enc : TypeId × Value → H) :
    ReturnsInHanded {} Tryz.checked os 4 .any (fun w args => (Rows.askBackSpec.pre enc Tryz.prog Tryz.f4 [] false w args ∧ laidMetH Tryz.prog laidL w) ∧ sizedMet enc Tryz.prog Tryz.f4 (OpenSpec.ofChange Rows.askBackSpec) false w args)
      (Rows.askBackSpec.post enc Tryz.prog Tryz.f4 false true false false) := by
  refine row_wrap (C := Tryz.checked) (X := fun w _ => laidMetH Tryz.prog laidL w) (fun _ _ _ hh h => h.of_heap hh) own started (by kernel_rfl) Tryz.func4
    (ChangeSpec.witness_shaped (enc := enc) (C := Tryz.checked) (os := os) (X := fun w _ => laidMetH Tryz.prog laidL w) false (World.doorLaid Tryz.prog 400 os) #[.agg #[.int .i64 0, .string ⟨#[]⟩, .string ⟨#[]⟩, .int .i64 0, .slice none 0 0], .string ⟨#[]⟩, .string ⟨#[]⟩] 8 rfl (door_shaped os _) (by kernel_rfl) (by kernel_rfl) (by kernel_rfl) (door_met os _)) ?_
  intro W base args ds gs before hval0 hW hL hsh
  have hval : ∀ (j : Nat) t v, Tryz.f4.params[j]? = some t → args[j]? = some v → Value.okWide Tryz.prog W .any base t v := hval0
  have hW' := hW
  obtain ⟨p, q, hA0, hV, rfl, hfz, hnd⟩ := hW
  have hA : DataW.TrodAll enc Tryz.prog W 0 (fun _ => true) true Tryz.f4.params.toList args.toList ds p := hA0
  have hlt := hA.lt
  have hA2 := hA
  rw [Tryz.params4] at hA hval
  obtain ⟨v0, vr0, d0, ds0, p0, q0, hargs, rfl, rfl, h0, r0⟩ := trodAll_cons hA
  obtain ⟨v1, vr1, d1, ds1, p1, q1, rfl, rfl, rfl, h1, r1⟩ := trodAll_cons r0
  obtain ⟨v2, vr2, d2, ds2, p2, q2, rfl, rfl, rfl, h2, r2⟩ := trodAll_cons r1
  obtain ⟨rfl, rfl, rfl⟩ := trodAll_nil r2
  obtain rfl : args = #[v0, v1, v2] := Array.toList_inj.1 hargs
  obtain ⟨rfl, rfl⟩ := trodVars_none hV
  obtain ⟨q0, vs0, rfl, hp0, hr0, hl0⟩ := prd_open (hval 0 25 v0 rfl rfl) h0
  obtain ⟨x1, rfl, -, -, w1⟩ := open_string Tryz.underlying9 (hval 1 9 v1 rfl rfl) h1
  obtain ⟨s1, rfl, hs1, hz1⟩ := strN_of_bytes x1
  obtain ⟨x2, rfl, -, -, w2⟩ := open_string Tryz.underlying9 (hval 2 9 v2 rfl rfl) h2
  obtain ⟨s2, rfl, hs2, hz2⟩ := strN_of_bytes x2
  have G := good_of_laid hL hsh
  refine (askback_walk q0 vs0 s1 s2 W _ W.heap.size G hp0 hr0 hl0 hs1 hs2).mono fun e W' ⟨he, hg⟩ => ?_
  subst he
  exact ⟨_, rfl, post_of_below (pa := _) (pv := []) hW' (fun _ _ _ => trodAll_mk1 (shut_bool Tryz.underlying4 _)) (fun sp hsp => trodAll_stay (by kernel_rfl) (by kernel_rfl) hA2 (fun x hx => hg.same (hlt x hx)) (fun x hx => hsp x (List.mem_append_left _ hx))) (fun _ _ => rfl) rfl hg (ok_one (by kernel_rfl) rfl (okWide_bool_mk Tryz.underlying4 _))⟩
set_option maxRecDepth 100000 in
theorem askBack_k0 : (Rows.askBackRow.wf (OpenSpec.ofChange Rows.askBackSpec)) = true := by kernel_rfl
set_option maxRecDepth 100000 in
theorem askBack_k3 : (Tryz.f4.params.all (Tryz.prog.readableRec ·)) = true := by kernel_rfl
set_option maxRecDepth 100000 in
theorem askBack_k4 : (namedTie Tryz.prog Rows.askBackRow.named Rows.askBackSpec.vars) = true := by kernel_rfl
set_option maxRecDepth 100000 in
theorem askBack_k5 : ((Rows.askBackRow.stops == [])) = true := by kernel_rfl
set_option maxRecDepth 100000 in
theorem askBack_k7 : ((Rows.askBackRow.knobs == [])) = true := by kernel_rfl
set_option maxRecDepth 100000 in
theorem askBack_k9 : ((Rows.askBackRow.inPlace == Tryz.prog.inPlace 4)) = true := by kernel_rfl
set_option maxRecDepth 100000 in
theorem askBack_k10 : ((Rows.askBackRow.unfollowed == Tryz.prog.unfollowed 4)) = true := by kernel_rfl
set_option maxRecDepth 100000 in
theorem askBack_k11 : ((Rows.askBackRow.recurses == Tryz.prog.recurses 4)) = true := by kernel_rfl
set_option maxRecDepth 100000 in
theorem askBack_k12 : ((Rows.askBackRow.named == Tryz.prog.varsNamed 4)) = true := by kernel_rfl
set_option maxRecDepth 100000 in
theorem askBack_k13 : ((Rows.askBackRow.maps == (Tryz.f4.params.toList ++ Rows.askBackSpec.plain.varTypes Tryz.prog).any (Tryz.prog.mapsRec ·))) = true := by kernel_rfl
set_option maxRecDepth 100000 in
theorem askBack_k14 : ((Rows.askBackRow.ifaces == (Tryz.f4.params.toList ++ Rows.askBackSpec.plain.varTypes Tryz.prog).any (Tryz.prog.ifacesRec ·))) = true := by kernel_rfl
set_option maxRecDepth 100000 in
theorem askBack_k15 : ((Rows.askBackRow.mapsOut == Tryz.prog.mapsAmong Tryz.f4.resultTypes.toList)) = true := by kernel_rfl
set_option maxRecDepth 100000 in
theorem askBack_k16 : ((Rows.askBackRow.loops == (Tryz.f4.params.toList ++ Rows.askBackSpec.plain.varTypes Tryz.prog).any (Tryz.prog.loopsFrom ·))) = true := by kernel_rfl
set_option maxRecDepth 100000 in
theorem askBack_k17 : ((Rows.askBackRow.wideKeys == (Tryz.f4.params.toList ++ Rows.askBackSpec.plain.varTypes Tryz.prog ++ Tryz.f4.resultTypes.toList).any (Tryz.prog.wideKeysFrom ·))) = true := by kernel_rfl
set_option maxRecDepth 100000 in
theorem askBack_k18 : (Rows.askBackSpec.vars.all (Tryz.prog.varReadable ·)) = true := by kernel_rfl
set_option maxRecDepth 100000 in
theorem askBack_k19 : (Tryz.f4.resultTypes.all (fun t => Tryz.prog.readableRec t && decide (t < Tryz.prog.types.size))) = true := by kernel_rfl
set_option maxRecDepth 100000 in
theorem askBack_k20 : ((Rows.askBackRow.ifacesOut == Tryz.f4.resultTypes.toList.any (Tryz.prog.ifacesRec ·))) = true := by kernel_rfl
set_option maxRecDepth 100000 in
theorem askBack_k21 : ((Rows.askBackRow.loopsOut == Tryz.f4.resultTypes.toList.any (Tryz.prog.loopsFrom ·))) = true := by kernel_rfl
set_option maxRecDepth 100000 in
theorem askBack_k22 : ((Rows.askBackRow.plainKeys == Tryz.prog.plainKeys)) = true := by kernel_rfl
set_option maxRecDepth 100000 in
theorem askBack_k23 : (Rows.askBackRow.shortTexts.isNone) = true := by kernel_rfl
set_option maxRecDepth 100000 in
theorem askBack_k26 : ((Rows.askBackRow.lifted == Tryz.prog.liftsFinal)) = true := by kernel_rfl
set_option maxRecDepth 100000 in
theorem askBack_k27 : ((Tryz.prog.make == some Rows.askBackRow.make)) = true := by kernel_rfl
set_option maxRecDepth 100000 in
theorem askBack_k28 : ((Rows.askBackRow.kinds == [])) = true := by kernel_rfl
set_option maxRecDepth 100000 in
theorem askBack_k29 : ((Rows.askBackRow.pinned == Rows.askBackRow.pinnedBy)) = true := by kernel_rfl
set_option maxRecDepth 100000 in
theorem askBack_k30 : ((Rows.askBackRow.veiled == (Tryz.f4.params.toList ++ Rows.askBackSpec.plain.varTypes Tryz.prog ++ Tryz.f4.resultTypes.toList).any (Tryz.prog.veiledRec ·))) = true := by kernel_rfl
set_option maxRecDepth 100000 in
theorem askBack_k31 : (Rows.askBackRow.veiledFits Tryz.prog Tryz.f4.params.toList (Tryz.f4.params.toList ++ Rows.askBackSpec.plain.varTypes Tryz.prog ++ Tryz.f4.resultTypes.toList)) = true := by kernel_rfl
set_option maxRecDepth 100000 in
theorem askBack_k32 : (Rows.askBackRow.domain.isEmpty) = true := by kernel_rfl
theorem askBack_closed : joinedFacts Tryz.prog 4 Tryz.f4 Rows.askBackSpec Rows.askBackRow = true :=
  joined_of askBack_k0 com1 com2 askBack_k3 askBack_k4 askBack_k5 com6 askBack_k7 com8 askBack_k9 askBack_k10 askBack_k11 askBack_k12 askBack_k13 askBack_k14 askBack_k15 askBack_k16 askBack_k17 askBack_k18 askBack_k19 askBack_k20 askBack_k21 askBack_k22 askBack_k23 com24 com25 askBack_k26 askBack_k27 askBack_k28 askBack_k29 askBack_k30 askBack_k31 askBack_k32
set_option maxRecDepth 100000 in
theorem askBack_inst : Tryz.f4.isInstance Tryz.prog Rows.askBackRow.origin Rows.askBackRow.targs := of_decide_eq_true (by kernel_rfl)
set_option maxRecDepth 100000 in
theorem askBack_wrap : Tryz.f4.isWrapper Tryz.prog Rows.askBackRow.wrapper Rows.askBackRow.mainSum := by unfold Func.isWrapper; first | (rw [if_pos (by decide +kernel)]; kernel_rfl) | (rw [if_neg (by decide +kernel)]; exact ⟨rfl, rfl⟩)
theorem askBack_holds : Rows.AskBackSaid :=
  OpenClaim.holds_of_wide 4 Tryz.f4 rfl rfl rfl rfl rfl rfl rfl ⟨rfl, rfl, rfl, rfl, rfl⟩ rfl rfl rfl rfl rfl (by kernel_rfl) Tryz.func4 askBack_closed
    askBack_inst askBack_wrap
    (fun os started H enc _ => askBack_lifted os started H enc)
set_option maxRecDepth 100000 in
theorem askBack_goes : false = Rows.askBackRow.goesBy Tryz.prog := by kernel_rfl
set_option maxRecDepth 100000 in
theorem askBack_wft : Rows.askBackRow.wfByText (OpenSpec.ofChange Rows.askBackSpec) = true := by kernel_rfl
set_option maxRecDepth 100000 in
theorem askBack_fn : Tryz.prog.funcNamed "cloak/cloaklaw05.AskBack" = some 4 := by kernel_rfl
set_option maxRecDepth 100000 in
theorem askBack_std : ([25, 9, 9].all fun u => !Tryz.prog.wantsStandIn u) = true := by kernel_rfl
theorem askBack_card_holds : Rows.AskBackCardSaid :=
  Claim7.holds_tied_plain_at .later [] [.data, .data, .data, .data, .widerDeep] true (true, "e946dd738e9aa7fac4b3de290664a7b0d746a21bc6ee9596d7723f6a41ddd4f9") true
    askBack_holds (fun _ h => by cases h) askBack_wft (fun _ h => by cases h) askBack_row_tie rfl ⟨rfl, rfl⟩ com_main rfl
    (fun f fn hf hfn => by
      obtain rfl : f = 4 := Option.some.inj (askBack_fn.symm.trans hf) |>.symm
      obtain rfl : fn = Tryz.f4 := (Option.some.inj (Tryz.func4.symm.trans hfn)).symm
      exact ⟨com_looks, fun j t ht => by
        rw [Tryz.params4] at ht
        have hm : t ∈ [25, 9, 9] := by
          simpa using Array.mem_of_getElem? ht
        exact (show Tryz.prog.wantsStandIn t = false by simpa using List.all_eq_true.1 askBack_std t hm)⟩)
    askBack_goes
#print axioms askBack_card_holds
end Go.Proofs.YtmkdfbelbcocpaaGreatDoor
