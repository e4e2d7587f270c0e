/- AskNormal: for every input the statement returns true, and its arguments read as before; the row, and its tied card. Condition: the laid tables. -/
import Derived.Test.YtmkdfbelbcocpaaGreatDoorCards
import Derived.Test.YtmkdfbelbcocpaaGreatDoorTie
import Derived.SevenTiedAt
import Derived.Test.YtmkdfbelbcocpaaGreatDoorBN30
import Derived.Test.YtmkdfbelbcocpaaGreatDoorBN26
set_option linter.unusedVariables false
set_option linter.unusedSimpArgs false
namespace Go.Proofs.YtmkdfbelbcocpaaGreatDoor
open Go Go.ChangeShapes Go.WideShapes Go.ChangeAt Go.WideMaps Go.WideElems Go.RowKit Go.Joins
open Go.ChangeMaps (open_string shut_string)
set_option maxRecDepth 100000 in
theorem askNormal_lifted (os : Os) (started : os.Started) (H : Type) (enc : TypeId × Value → H) :
    ReturnsInHanded {} Tryz.checked os 8 .any (fun w args => (Rows.askNormalSpec.pre enc Tryz.prog Tryz.f8 [] false w args ∧ laidMetH Tryz.prog laidL w) ∧ sizedMet enc Tryz.prog Tryz.f8 (OpenSpec.ofChange Rows.askNormalSpec) false w args)
      (Rows.askNormalSpec.post enc Tryz.prog Tryz.f8 false true false false) := by
  refine row_wrap (C := Tryz.checked) (X := fun w _ => laidMetH Tryz.prog laidL w) (fun _ _ _ hh h => h.of_heap hh) own started (by kernel_rfl) Tryz.func8
    (ChangeSpec.witness_shaped (enc := enc) (C := Tryz.checked) (os := os) (X := fun w _ => laidMetH Tryz.prog laidL w) false (World.doorLaid Tryz.prog 400 os) #[.agg #[.int .i64 0, .string ⟨#[]⟩, .string ⟨#[]⟩, .int .i64 0, .slice none 0 0], .slice none 0 0] 8 rfl (door_shaped os _) (by kernel_rfl) (by kernel_rfl) (by kernel_rfl) (door_met os _)) ?_
  intro W base args ds gs before hval0 hW hL hsh
  have hval : ∀ (j : Nat) t v, Tryz.f8.params[j]? = some t → args[j]? = some v → Value.okWide Tryz.prog W .any base t v := hval0
  have hW' := hW
  obtain ⟨p, q, hA0, hV, rfl, hfz, hnd⟩ := hW
  have hA : DataW.TrodAll enc Tryz.prog W 0 (fun _ => true) true Tryz.f8.params.toList args.toList ds p := hA0
  have hlt := hA.lt
  have hA2 := hA
  rw [Tryz.params8] at hA hval
  obtain ⟨v0, vr0, d0, ds0, p0, q0, hargs, rfl, rfl, h0, r0⟩ := trodAll_cons hA
  obtain ⟨v1, vr1, d1, ds1, p1, q1, rfl, rfl, rfl, h1, r1⟩ := trodAll_cons r0
  obtain ⟨rfl, rfl, rfl⟩ := trodAll_nil r1
  obtain rfl : args = #[v0, v1] := Array.toList_inj.1 hargs
  obtain ⟨rfl, rfl⟩ := trodVars_none hV
  obtain ⟨q0, vs0, rfl, hp0, hr0, hl0⟩ := prd_open (hval 0 25 v0 rfl rfl) h0
  obtain ⟨l1, bo1, n1, c1, rfl, hn1, hg1, hy1, hb1⟩ := bnd_open (hval 1 49 v1 rfl rfl) h1
  have G := good_of_laid hL hsh
  refine (asknormal_walk q0 vs0 l1 W _ _ bo1 n1 c1 W.heap.size G hp0 hr0 hl0 hn1 hg1 hy1 hb1).mono fun e W' ⟨he, hg⟩ => ?_
  subst he
  exact ⟨_, rfl, post_of_below (pa := _) (pv := []) hW' (fun _ _ _ => trodAll_mk1 (shut_bool Tryz.underlying4 _)) (fun sp hsp => trodAll_stay (by kernel_rfl) (by kernel_rfl) hA2 (fun x hx => hg.same (hlt x hx)) (fun x hx => hsp x (List.mem_append_left _ hx))) (fun _ _ => rfl) rfl hg (ok_one (by kernel_rfl) rfl (okWide_bool_mk Tryz.underlying4 _))⟩
set_option maxRecDepth 100000 in
theorem askNormal_k0 : (Rows.askNormalRow.wf (OpenSpec.ofChange Rows.askNormalSpec)) = true := by kernel_rfl
set_option maxRecDepth 100000 in
theorem askNormal_k3 : (Tryz.f8.params.all (Tryz.prog.readableRec ·)) = true := by kernel_rfl
set_option maxRecDepth 100000 in
theorem askNormal_k4 : (namedTie Tryz.prog Rows.askNormalRow.named Rows.askNormalSpec.vars) = true := by kernel_rfl
set_option maxRecDepth 100000 in
theorem askNormal_k5 : ((Rows.askNormalRow.stops == [])) = true := by kernel_rfl
set_option maxRecDepth 100000 in
theorem askNormal_k7 : ((Rows.askNormalRow.knobs == [])) = true := by kernel_rfl
set_option maxRecDepth 100000 in
theorem askNormal_k9 : ((Rows.askNormalRow.inPlace == Tryz.prog.inPlace 8)) = true := by kernel_rfl
set_option maxRecDepth 100000 in
theorem askNormal_k10 : ((Rows.askNormalRow.unfollowed == Tryz.prog.unfollowed 8)) = true := by kernel_rfl
set_option maxRecDepth 100000 in
theorem askNormal_k11 : ((Rows.askNormalRow.recurses == Tryz.prog.recurses 8)) = true := by kernel_rfl
set_option maxRecDepth 100000 in
theorem askNormal_k12 : ((Rows.askNormalRow.named == Tryz.prog.varsNamed 8)) = true := by kernel_rfl
set_option maxRecDepth 100000 in
theorem askNormal_k13 : ((Rows.askNormalRow.maps == (Tryz.f8.params.toList ++ Rows.askNormalSpec.plain.varTypes Tryz.prog).any (Tryz.prog.mapsRec ·))) = true := by kernel_rfl
set_option maxRecDepth 100000 in
theorem askNormal_k14 : ((Rows.askNormalRow.ifaces == (Tryz.f8.params.toList ++ Rows.askNormalSpec.plain.varTypes Tryz.prog).any (Tryz.prog.ifacesRec ·))) = true := by kernel_rfl
set_option maxRecDepth 100000 in
theorem askNormal_k15 : ((Rows.askNormalRow.mapsOut == Tryz.prog.mapsAmong Tryz.f8.resultTypes.toList)) = true := by kernel_rfl
set_option maxRecDepth 100000 in
theorem askNormal_k16 : ((Rows.askNormalRow.loops == (Tryz.f8.params.toList ++ Rows.askNormalSpec.plain.varTypes Tryz.prog).any (Tryz.prog.loopsFrom ·))) = true := by kernel_rfl
set_option maxRecDepth 100000 in
theorem askNormal_k17 : ((Rows.askNormalRow.wideKeys == (Tryz.f8.params.toList ++ Rows.askNormalSpec.plain.varTypes Tryz.prog ++ Tryz.f8.resultTypes.toList).any (Tryz.prog.wideKeysFrom ·))) = true := by kernel_rfl
set_option maxRecDepth 100000 in
theorem askNormal_k18 : (Rows.askNormalSpec.vars.all (Tryz.prog.varReadable ·)) = true := by kernel_rfl
set_option maxRecDepth 100000 in
theorem askNormal_k19 : (Tryz.f8.resultTypes.all (fun t => Tryz.prog.readableRec t && decide (t < Tryz.prog.types.size))) = true := by kernel_rfl
set_option maxRecDepth 100000 in
theorem askNormal_k20 : ((Rows.askNormalRow.ifacesOut == Tryz.f8.resultTypes.toList.any (Tryz.prog.ifacesRec ·))) = true := by kernel_rfl
set_option maxRecDepth 100000 in
theorem askNormal_k21 : ((Rows.askNormalRow.loopsOut == Tryz.f8.resultTypes.toList.any (Tryz.prog.loopsFrom ·))) = true := by kernel_rfl
set_option maxRecDepth 100000 in
theorem askNormal_k22 : ((Rows.askNormalRow.plainKeys == Tryz.prog.plainKeys)) = true := by kernel_rfl
set_option maxRecDepth 100000 in
theorem askNormal_k23 : (Rows.askNormalRow.shortTexts.isNone) = true := by kernel_rfl
set_option maxRecDepth 100000 in
theorem askNormal_k26 : ((Rows.askNormalRow.lifted == Tryz.prog.liftsFinal)) = true := by kernel_rfl
set_option maxRecDepth 100000 in
theorem askNormal_k27 : ((Tryz.prog.make == some Rows.askNormalRow.make)) = true := by kernel_rfl
set_option maxRecDepth 100000 in
theorem askNormal_k28 : ((Rows.askNormalRow.kinds == [])) = true := by kernel_rfl
set_option maxRecDepth 100000 in
theorem askNormal_k29 : ((Rows.askNormalRow.pinned == Rows.askNormalRow.pinnedBy)) = true := by kernel_rfl
set_option maxRecDepth 100000 in
theorem askNormal_k30 : ((Rows.askNormalRow.veiled == (Tryz.f8.params.toList ++ Rows.askNormalSpec.plain.varTypes Tryz.prog ++ Tryz.f8.resultTypes.toList).any (Tryz.prog.veiledRec ·))) = true := by kernel_rfl
set_option maxRecDepth 100000 in
theorem askNormal_k31 : (Rows.askNormalRow.veiledFits Tryz.prog Tryz.f8.params.toList (Tryz.f8.params.toList ++ Rows.askNormalSpec.plain.varTypes Tryz.prog ++ Tryz.f8.resultTypes.toList)) = true := by kernel_rfl
set_option maxRecDepth 100000 in
theorem askNormal_k32 : (Rows.askNormalRow.domain.isEmpty) = true := by kernel_rfl
theorem askNormal_closed : joinedFacts Tryz.prog 8 Tryz.f8 Rows.askNormalSpec Rows.askNormalRow = true :=
  joined_of askNormal_k0 com1 com2 askNormal_k3 askNormal_k4 askNormal_k5 com6 askNormal_k7 com8 askNormal_k9 askNormal_k10 askNormal_k11 askNormal_k12 askNormal_k13 askNormal_k14 askNormal_k15 askNormal_k16 askNormal_k17 askNormal_k18 askNormal_k19 askNormal_k20 askNormal_k21 askNormal_k22 askNormal_k23 com24 com25 askNormal_k26 askNormal_k27 askNormal_k28 askNormal_k29 askNormal_k30 askNormal_k31 askNormal_k32
set_option maxRecDepth 100000 in
theorem askNormal_inst : Tryz.f8.isInstance Tryz.prog Rows.askNormalRow.origin Rows.askNormalRow.targs := of_decide_eq_true (by kernel_rfl)
set_option maxRecDepth 100000 in
theorem askNormal_wrap : Tryz.f8.isWrapper Tryz.prog Rows.askNormalRow.wrapper Rows.askNormalRow.mainSum := by unfold Func.isWrapper; first | (rw [if_pos (by decide +kernel)]; kernel_rfl) | (rw [if_neg (by decide +kernel)]; exact ⟨rfl, rfl⟩)
theorem askNormal_holds : Rows.AskNormalSaid :=
  OpenClaim.holds_of_wide 8 Tryz.f8 rfl rfl rfl rfl rfl rfl rfl ⟨rfl, rfl, rfl, rfl, rfl⟩ rfl rfl rfl rfl rfl (by kernel_rfl) Tryz.func8 askNormal_closed
    askNormal_inst askNormal_wrap
    (fun os started H enc _ => askNormal_lifted os started H enc)
set_option maxRecDepth 100000 in
theorem askNormal_goes : false = Rows.askNormalRow.goesBy Tryz.prog := by kernel_rfl
set_option maxRecDepth 100000 in
theorem askNormal_wft : Rows.askNormalRow.wfByText (OpenSpec.ofChange Rows.askNormalSpec) = true := by kernel_rfl
set_option maxRecDepth 100000 in
theorem askNormal_fn : Tryz.prog.funcNamed "cloak/cloaklaw05.AskNormal" = some 8 := by kernel_rfl
set_option maxRecDepth 100000 in
theorem askNormal_std : ([25, 49].all fun u => !Tryz.prog.wantsStandIn u) = true := by kernel_rfl
theorem askNormal_card_holds : Rows.AskNormalCardSaid :=
  Claim7.holds_tied_plain_at .later [] [.data, .data, .data, .data, .widerDeep] true (true, "e946dd738e9aa7fac4b3de290664a7b0d746a21bc6ee9596d7723f6a41ddd4f9") true
    askNormal_holds (fun _ h => by cases h) askNormal_wft (fun _ h => by cases h) askNormal_row_tie rfl ⟨rfl, rfl⟩ com_main rfl
    (fun f fn hf hfn => by
      obtain rfl : f = 8 := Option.some.inj (askNormal_fn.symm.trans hf) |>.symm
      obtain rfl : fn = Tryz.f8 := (Option.some.inj (Tryz.func8.symm.trans hfn)).symm
      exact ⟨com_looks, fun j t ht => by
        rw [Tryz.params8] at ht
        have hm : t ∈ [25, 49] := by
          simpa using Array.mem_of_getElem? ht
        exact (show Tryz.prog.wantsStandIn t = false by simpa using List.all_eq_true.1 askNormal_std t hm)⟩)
    askNormal_goes
#print axioms askNormal_card_holds
end Go.Proofs.YtmkdfbelbcocpaaGreatDoor
