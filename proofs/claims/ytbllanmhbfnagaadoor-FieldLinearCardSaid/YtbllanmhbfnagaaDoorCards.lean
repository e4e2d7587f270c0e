/-
  DERIVED. GIVEN WITH THE SEED: THE CARDS: each row of YtbllanmhbfnagaaDoorRows.lean that lists a variable, with what it lists TIED to the program's text (the seventh form; the later family's looks); each row that meets fmt, with fmt's text TOLD by the authors' own Lean function (tested against real Go, not proved from fmt's source: count such statements apart). THE CARD IS WHAT COUNTS. Prove the row's statement (the work); the ties are given (YtbllanmhbfnagaaDoorTie.lean); close each card by the builder's one call (the guide's Derived/Test/ToyasCard.lean, 'card_holds'). Laid BY PROGRAM, IN A SANDBOX (cutbox-door.mjs). By AI agents, Wed Nov 11 2026. No macro, syntax, notation, axiom, sorry.
-/
import Derived.Test.YtbllanmhbfnagaaDoorRows
import GoSem.ClaimSeven
namespace Go.Proofs.YtbllanmhbfnagaaDoor
namespace Rows

/-- THE TIED CARD OF 'cloaklaw02.FieldTells'. -/
def fieldTellsCard : Claim7 := { stood := { row := fieldTellsRow, standIns := [], harness := (true, "7a7c168a7097d58449b9b73e679718f3252f77cab5d617c4b876355bacb5ee35"), looks := false }, kinds := [], alts := [], laidByText := true, laidKinds := [.data], laidTests := true, laidLooks := .later }
def FieldTellsCardSaid : Prop := Claim7.holds Tryd.pinned (.plain (OpenSpec.ofChange fieldTellsSpec)) fieldTellsCard

/-- THE TIED CARD OF 'cloaklaw02.FieldHashes'. -/
def fieldHashesCard : Claim7 := { stood := { row := fieldHashesRow, standIns := [], harness := (true, "7a7c168a7097d58449b9b73e679718f3252f77cab5d617c4b876355bacb5ee35"), looks := false }, kinds := [], alts := [], laidByText := true, laidKinds := [.data], laidTests := true, laidLooks := .later }
def FieldHashesCardSaid : Prop := Claim7.holds Tryd.pinned (.plain (OpenSpec.ofChange fieldHashesSpec)) fieldHashesCard

/-- THE TIED CARD OF 'cloaklaw02.FieldRing'. -/
def fieldRingCard : Claim7 := { stood := { row := fieldRingRow, standIns := [], harness := (true, "7a7c168a7097d58449b9b73e679718f3252f77cab5d617c4b876355bacb5ee35"), looks := false }, kinds := [], alts := [], laidByText := true, laidKinds := [.data], laidTests := true, laidLooks := .later }
def FieldRingCardSaid : Prop := Claim7.holds Tryd.pinned (.plain (OpenSpec.ofChange fieldRingSpec)) fieldRingCard

/-- THE TIED CARD OF 'cloaklaw02.FieldPowers'. -/
def fieldPowersCard : Claim7 := { stood := { row := fieldPowersRow, standIns := [], harness := (true, "7a7c168a7097d58449b9b73e679718f3252f77cab5d617c4b876355bacb5ee35"), looks := false }, kinds := [], alts := [], laidByText := true, laidKinds := [.data], laidTests := true, laidLooks := .later }
def FieldPowersCardSaid : Prop := Claim7.holds Tryd.pinned (.plain (OpenSpec.ofChange fieldPowersSpec)) fieldPowersCard

/-- THE TIED CARD OF 'cloaklaw02.FieldPrimes'. -/
def fieldPrimesCard : Claim7 := { stood := { row := fieldPrimesRow, standIns := [], harness := (true, "7a7c168a7097d58449b9b73e679718f3252f77cab5d617c4b876355bacb5ee35"), looks := false }, kinds := [], alts := [], laidByText := true, laidKinds := [.data], laidTests := true, laidLooks := .later }
def FieldPrimesCardSaid : Prop := Claim7.holds Tryd.pinned (.plain (OpenSpec.ofChange fieldPrimesSpec)) fieldPrimesCard

/-- THE TIED CARD OF 'cloaklaw02.FieldCyclic'. -/
def fieldCyclicCard : Claim7 := { stood := { row := fieldCyclicRow, standIns := [], harness := (true, "7a7c168a7097d58449b9b73e679718f3252f77cab5d617c4b876355bacb5ee35"), looks := false }, kinds := [], alts := [], laidByText := true, laidKinds := [.data], laidTests := true, laidLooks := .later }
def FieldCyclicCardSaid : Prop := Claim7.holds Tryd.pinned (.plain (OpenSpec.ofChange fieldCyclicSpec)) fieldCyclicCard

/-- THE TIED CARD OF 'cloaklaw02.FieldMakes'. -/
def fieldMakesCard : Claim7 := { stood := { row := fieldMakesRow, standIns := [], harness := (true, "7a7c168a7097d58449b9b73e679718f3252f77cab5d617c4b876355bacb5ee35"), looks := false }, kinds := [], alts := [], laidByText := true, laidKinds := [.data], laidTests := true, laidLooks := .later }
def FieldMakesCardSaid : Prop := Claim7.holds Tryd.pinned (.plain (OpenSpec.ofChange fieldMakesSpec)) fieldMakesCard

/-- THE TIED CARD OF 'cloaklaw02.FieldExponents'. -/
def fieldExponentsCard : Claim7 := { stood := { row := fieldExponentsRow, standIns := [], harness := (true, "7a7c168a7097d58449b9b73e679718f3252f77cab5d617c4b876355bacb5ee35"), looks := false }, kinds := [], alts := [], laidByText := true, laidKinds := [.data], laidTests := true, laidLooks := .later }
def FieldExponentsCardSaid : Prop := Claim7.holds Tryd.pinned (.plain (OpenSpec.ofChange fieldExponentsSpec)) fieldExponentsCard

/-- THE TIED CARD OF 'cloaklaw02.FieldGroups'. -/
def fieldGroupsCard : Claim7 := { stood := { row := fieldGroupsRow, standIns := [], harness := (true, "7a7c168a7097d58449b9b73e679718f3252f77cab5d617c4b876355bacb5ee35"), looks := false }, kinds := [], alts := [], laidByText := true, laidKinds := [.data], laidTests := true, laidLooks := .later }
def FieldGroupsCardSaid : Prop := Claim7.holds Tryd.pinned (.plain (OpenSpec.ofChange fieldGroupsSpec)) fieldGroupsCard

/-- THE TIED CARD OF 'cloaklaw02.FieldLinear'. -/
def fieldLinearCard : Claim7 := { stood := { row := fieldLinearRow, standIns := [], harness := (true, "7a7c168a7097d58449b9b73e679718f3252f77cab5d617c4b876355bacb5ee35"), looks := false }, kinds := [], alts := [], laidByText := true, laidKinds := [.data], laidTests := true, laidLooks := .later }
def FieldLinearCardSaid : Prop := Claim7.holds Tryd.pinned (.plain (OpenSpec.ofChange fieldLinearSpec)) fieldLinearCard

/-- THE TIED CARD OF 'cloaklaw02.FieldPoints'. -/
def fieldPointsCard : Claim7 := { stood := { row := fieldPointsRow, standIns := [], harness := (true, "7a7c168a7097d58449b9b73e679718f3252f77cab5d617c4b876355bacb5ee35"), looks := false }, kinds := [], alts := [], laidByText := true, laidKinds := [.data], laidTests := true, laidLooks := .later }
def FieldPointsCardSaid : Prop := Claim7.holds Tryd.pinned (.plain (OpenSpec.ofChange fieldPointsSpec)) fieldPointsCard

/-- THE TIED CARD OF 'cloaklaw02.FieldSolutions'. -/
def fieldSolutionsCard : Claim7 := { stood := { row := fieldSolutionsRow, standIns := [], harness := (true, "7a7c168a7097d58449b9b73e679718f3252f77cab5d617c4b876355bacb5ee35"), looks := false }, kinds := [], alts := [], laidByText := true, laidKinds := [.data], laidTests := true, laidLooks := .later }
def FieldSolutionsCardSaid : Prop := Claim7.holds Tryd.pinned (.plain (OpenSpec.ofChange fieldSolutionsSpec)) fieldSolutionsCard

/-- THE TIED CARD OF 'cloaklaw02.FieldSpans'. -/
def fieldSpansCard : Claim7 := { stood := { row := fieldSpansRow, standIns := [], harness := (true, "7a7c168a7097d58449b9b73e679718f3252f77cab5d617c4b876355bacb5ee35"), looks := false }, kinds := [], alts := [], laidByText := true, laidKinds := [.data], laidTests := true, laidLooks := .later }
def FieldSpansCardSaid : Prop := Claim7.holds Tryd.pinned (.plain (OpenSpec.ofChange fieldSpansSpec)) fieldSpansCard

/-- THE TIED CARD OF 'cloaklaw02.FieldThrough'. -/
def fieldThroughCard : Claim7 := { stood := { row := fieldThroughRow, standIns := [], harness := (true, "7a7c168a7097d58449b9b73e679718f3252f77cab5d617c4b876355bacb5ee35"), looks := false }, kinds := [], alts := [], laidByText := true, laidKinds := [.data], laidTests := true, laidLooks := .later }
def FieldThroughCardSaid : Prop := Claim7.holds Tryd.pinned (.plain (OpenSpec.ofChange fieldThroughSpec)) fieldThroughCard

/-- THE TIED CARD OF 'cloaklaw02.FieldShares'. -/
def fieldSharesCard : Claim7 := { stood := { row := fieldSharesRow, standIns := [], harness := (true, "7a7c168a7097d58449b9b73e679718f3252f77cab5d617c4b876355bacb5ee35"), looks := false }, kinds := [], alts := [], laidByText := true, laidKinds := [.data], laidTests := true, laidLooks := .later }
def FieldSharesCardSaid : Prop := Claim7.holds Tryd.pinned (.plain (OpenSpec.ofChange fieldSharesSpec)) fieldSharesCard

/-- THE TIED CARD OF 'cloaklaw02.FieldWeights'. -/
def fieldWeightsCard : Claim7 := { stood := { row := fieldWeightsRow, standIns := [], harness := (true, "7a7c168a7097d58449b9b73e679718f3252f77cab5d617c4b876355bacb5ee35"), looks := false }, kinds := [], alts := [], laidByText := true, laidKinds := [.data], laidTests := true, laidLooks := .later }
def FieldWeightsCardSaid : Prop := Claim7.holds Tryd.pinned (.plain (OpenSpec.ofChange fieldWeightsSpec)) fieldWeightsCard

/-- THE SECOND FORM's CARD OF 'cloaklaw02.FieldTells'. -/
def fieldTellsUptoCard : Claim7 := { stood := { row := fieldTellsUptoRow, standIns := [], harness := (true, "7a7c168a7097d58449b9b73e679718f3252f77cab5d617c4b876355bacb5ee35"), looks := false }, kinds := [], alts := [], laidByText := true, laidKinds := [.data], laidTests := true, laidLooks := .later }
def FieldTellsUptoCardSaid : Prop := Claim7.holds Tryd.pinned (.plain (OpenSpec.upto fieldTellsSpec)) fieldTellsUptoCard

/-- THE SECOND FORM's CARD OF 'cloaklaw02.FieldHashes'. -/
def fieldHashesUptoCard : Claim7 := { stood := { row := fieldHashesUptoRow, standIns := [], harness := (true, "7a7c168a7097d58449b9b73e679718f3252f77cab5d617c4b876355bacb5ee35"), looks := false }, kinds := [], alts := [], laidByText := true, laidKinds := [.data], laidTests := true, laidLooks := .later }
def FieldHashesUptoCardSaid : Prop := Claim7.holds Tryd.pinned (.plain (OpenSpec.upto fieldHashesSpec)) fieldHashesUptoCard

/-- THE SECOND FORM's CARD OF 'cloaklaw02.FieldRing'. -/
def fieldRingUptoCard : Claim7 := { stood := { row := fieldRingUptoRow, standIns := [], harness := (true, "7a7c168a7097d58449b9b73e679718f3252f77cab5d617c4b876355bacb5ee35"), looks := false }, kinds := [], alts := [], laidByText := true, laidKinds := [.data], laidTests := true, laidLooks := .later }
def FieldRingUptoCardSaid : Prop := Claim7.holds Tryd.pinned (.plain (OpenSpec.upto fieldRingSpec)) fieldRingUptoCard

/-- THE SECOND FORM's CARD OF 'cloaklaw02.FieldPowers'. -/
def fieldPowersUptoCard : Claim7 := { stood := { row := fieldPowersUptoRow, standIns := [], harness := (true, "7a7c168a7097d58449b9b73e679718f3252f77cab5d617c4b876355bacb5ee35"), looks := false }, kinds := [], alts := [], laidByText := true, laidKinds := [.data], laidTests := true, laidLooks := .later }
def FieldPowersUptoCardSaid : Prop := Claim7.holds Tryd.pinned (.plain (OpenSpec.upto fieldPowersSpec)) fieldPowersUptoCard

/-- THE SECOND FORM's CARD OF 'cloaklaw02.FieldPrimes'. -/
def fieldPrimesUptoCard : Claim7 := { stood := { row := fieldPrimesUptoRow, standIns := [], harness := (true, "7a7c168a7097d58449b9b73e679718f3252f77cab5d617c4b876355bacb5ee35"), looks := false }, kinds := [], alts := [], laidByText := true, laidKinds := [.data], laidTests := true, laidLooks := .later }
def FieldPrimesUptoCardSaid : Prop := Claim7.holds Tryd.pinned (.plain (OpenSpec.upto fieldPrimesSpec)) fieldPrimesUptoCard

/-- THE SECOND FORM's CARD OF 'cloaklaw02.FieldCyclic'. -/
def fieldCyclicUptoCard : Claim7 := { stood := { row := fieldCyclicUptoRow, standIns := [], harness := (true, "7a7c168a7097d58449b9b73e679718f3252f77cab5d617c4b876355bacb5ee35"), looks := false }, kinds := [], alts := [], laidByText := true, laidKinds := [.data], laidTests := true, laidLooks := .later }
def FieldCyclicUptoCardSaid : Prop := Claim7.holds Tryd.pinned (.plain (OpenSpec.upto fieldCyclicSpec)) fieldCyclicUptoCard

/-- THE SECOND FORM's CARD OF 'cloaklaw02.FieldMakes'. -/
def fieldMakesUptoCard : Claim7 := { stood := { row := fieldMakesUptoRow, standIns := [], harness := (true, "7a7c168a7097d58449b9b73e679718f3252f77cab5d617c4b876355bacb5ee35"), looks := false }, kinds := [], alts := [], laidByText := true, laidKinds := [.data], laidTests := true, laidLooks := .later }
def FieldMakesUptoCardSaid : Prop := Claim7.holds Tryd.pinned (.plain (OpenSpec.upto fieldMakesSpec)) fieldMakesUptoCard

/-- THE SECOND FORM's CARD OF 'cloaklaw02.FieldExponents'. -/
def fieldExponentsUptoCard : Claim7 := { stood := { row := fieldExponentsUptoRow, standIns := [], harness := (true, "7a7c168a7097d58449b9b73e679718f3252f77cab5d617c4b876355bacb5ee35"), looks := false }, kinds := [], alts := [], laidByText := true, laidKinds := [.data], laidTests := true, laidLooks := .later }
def FieldExponentsUptoCardSaid : Prop := Claim7.holds Tryd.pinned (.plain (OpenSpec.upto fieldExponentsSpec)) fieldExponentsUptoCard

/-- THE SECOND FORM's CARD OF 'cloaklaw02.FieldGroups'. -/
def fieldGroupsUptoCard : Claim7 := { stood := { row := fieldGroupsUptoRow, standIns := [], harness := (true, "7a7c168a7097d58449b9b73e679718f3252f77cab5d617c4b876355bacb5ee35"), looks := false }, kinds := [], alts := [], laidByText := true, laidKinds := [.data], laidTests := true, laidLooks := .later }
def FieldGroupsUptoCardSaid : Prop := Claim7.holds Tryd.pinned (.plain (OpenSpec.upto fieldGroupsSpec)) fieldGroupsUptoCard

/-- THE SECOND FORM's CARD OF 'cloaklaw02.FieldLinear'. -/
def fieldLinearUptoCard : Claim7 := { stood := { row := fieldLinearUptoRow, standIns := [], harness := (true, "7a7c168a7097d58449b9b73e679718f3252f77cab5d617c4b876355bacb5ee35"), looks := false }, kinds := [], alts := [], laidByText := true, laidKinds := [.data], laidTests := true, laidLooks := .later }
def FieldLinearUptoCardSaid : Prop := Claim7.holds Tryd.pinned (.plain (OpenSpec.upto fieldLinearSpec)) fieldLinearUptoCard

/-- THE SECOND FORM's CARD OF 'cloaklaw02.FieldPoints'. -/
def fieldPointsUptoCard : Claim7 := { stood := { row := fieldPointsUptoRow, standIns := [], harness := (true, "7a7c168a7097d58449b9b73e679718f3252f77cab5d617c4b876355bacb5ee35"), looks := false }, kinds := [], alts := [], laidByText := true, laidKinds := [.data], laidTests := true, laidLooks := .later }
def FieldPointsUptoCardSaid : Prop := Claim7.holds Tryd.pinned (.plain (OpenSpec.upto fieldPointsSpec)) fieldPointsUptoCard

/-- THE SECOND FORM's CARD OF 'cloaklaw02.FieldSolutions'. -/
def fieldSolutionsUptoCard : Claim7 := { stood := { row := fieldSolutionsUptoRow, standIns := [], harness := (true, "7a7c168a7097d58449b9b73e679718f3252f77cab5d617c4b876355bacb5ee35"), looks := false }, kinds := [], alts := [], laidByText := true, laidKinds := [.data], laidTests := true, laidLooks := .later }
def FieldSolutionsUptoCardSaid : Prop := Claim7.holds Tryd.pinned (.plain (OpenSpec.upto fieldSolutionsSpec)) fieldSolutionsUptoCard

/-- THE SECOND FORM's CARD OF 'cloaklaw02.FieldSpans'. -/
def fieldSpansUptoCard : Claim7 := { stood := { row := fieldSpansUptoRow, standIns := [], harness := (true, "7a7c168a7097d58449b9b73e679718f3252f77cab5d617c4b876355bacb5ee35"), looks := false }, kinds := [], alts := [], laidByText := true, laidKinds := [.data], laidTests := true, laidLooks := .later }
def FieldSpansUptoCardSaid : Prop := Claim7.holds Tryd.pinned (.plain (OpenSpec.upto fieldSpansSpec)) fieldSpansUptoCard

/-- THE SECOND FORM's CARD OF 'cloaklaw02.FieldThrough'. -/
def fieldThroughUptoCard : Claim7 := { stood := { row := fieldThroughUptoRow, standIns := [], harness := (true, "7a7c168a7097d58449b9b73e679718f3252f77cab5d617c4b876355bacb5ee35"), looks := false }, kinds := [], alts := [], laidByText := true, laidKinds := [.data], laidTests := true, laidLooks := .later }
def FieldThroughUptoCardSaid : Prop := Claim7.holds Tryd.pinned (.plain (OpenSpec.upto fieldThroughSpec)) fieldThroughUptoCard

/-- THE SECOND FORM's CARD OF 'cloaklaw02.FieldShares'. -/
def fieldSharesUptoCard : Claim7 := { stood := { row := fieldSharesUptoRow, standIns := [], harness := (true, "7a7c168a7097d58449b9b73e679718f3252f77cab5d617c4b876355bacb5ee35"), looks := false }, kinds := [], alts := [], laidByText := true, laidKinds := [.data], laidTests := true, laidLooks := .later }
def FieldSharesUptoCardSaid : Prop := Claim7.holds Tryd.pinned (.plain (OpenSpec.upto fieldSharesSpec)) fieldSharesUptoCard

/-- THE SECOND FORM's CARD OF 'cloaklaw02.FieldWeights'. -/
def fieldWeightsUptoCard : Claim7 := { stood := { row := fieldWeightsUptoRow, standIns := [], harness := (true, "7a7c168a7097d58449b9b73e679718f3252f77cab5d617c4b876355bacb5ee35"), looks := false }, kinds := [], alts := [], laidByText := true, laidKinds := [.data], laidTests := true, laidLooks := .later }
def FieldWeightsUptoCardSaid : Prop := Claim7.holds Tryd.pinned (.plain (OpenSpec.upto fieldWeightsSpec)) fieldWeightsUptoCard
end Rows
end Go.Proofs.YtbllanmhbfnagaaDoor
