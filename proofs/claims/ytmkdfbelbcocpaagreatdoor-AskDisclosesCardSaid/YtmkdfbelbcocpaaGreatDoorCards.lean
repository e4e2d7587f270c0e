/-
  DERIVED. GIVEN WITH THE SEED: THE CARDS: each row of YtmkdfbelbcocpaaGreatDoorRows.lean that lists a variable, with what it lists TIED to the program's text (the seventh form; the later family's looks); each row that meets fmt, with fmt's text TOLD by the authors' own Lean function (tested against real Go, not proved from fmt's source: count such statements apart). THE CARD IS WHAT COUNTS. Prove the row's statement (the work); the ties are given (YtmkdfbelbcocpaaGreatDoorTie.lean); close each card by the builder's one call (the guide's Derived/Test/ToyasCard.lean, 'card_holds'). Laid BY PROGRAM, IN A SANDBOX (cutbox-door.mjs). By AI agents, Wed Nov 11 2026. No macro, syntax, notation, axiom, sorry.
-/
import Derived.Test.YtmkdfbelbcocpaaGreatDoorRows
import GoSem.ClaimSeven
namespace Go.Proofs.YtmkdfbelbcocpaaGreatDoor
namespace Rows

/-- THE TIED CARD OF 'cloaklaw05.AskParses'. -/
def askParsesCard : Claim7 := { stood := { row := askParsesRow, standIns := [], harness := (true, "e946dd738e9aa7fac4b3de290664a7b0d746a21bc6ee9596d7723f6a41ddd4f9"), looks := true }, kinds := [], alts := [], laidByText := true, laidKinds := [.data, .data, .data, .data, .widerDeep], laidTests := true, laidLooks := .later }
def AskParsesCardSaid : Prop := Claim7.holds Tryz.pinned (.plain (OpenSpec.ofChange askParsesSpec)) askParsesCard

/-- THE TIED CARD OF 'cloaklaw05.AskBack'. -/
def askBackCard : Claim7 := { stood := { row := askBackRow, standIns := [], harness := (true, "e946dd738e9aa7fac4b3de290664a7b0d746a21bc6ee9596d7723f6a41ddd4f9"), looks := true }, kinds := [], alts := [], laidByText := true, laidKinds := [.data, .data, .data, .data, .widerDeep], laidTests := true, laidLooks := .later }
def AskBackCardSaid : Prop := Claim7.holds Tryz.pinned (.plain (OpenSpec.ofChange askBackSpec)) askBackCard

/-- THE TIED CARD OF 'cloaklaw05.AskJoins'. -/
def askJoinsCard : Claim7 := { stood := { row := askJoinsRow, standIns := [], harness := (true, "e946dd738e9aa7fac4b3de290664a7b0d746a21bc6ee9596d7723f6a41ddd4f9"), looks := true }, kinds := [], alts := [], laidByText := true, laidKinds := [.data, .data, .data, .data, .widerDeep], laidTests := true, laidLooks := .later }
def AskJoinsCardSaid : Prop := Claim7.holds Tryz.pinned (.plain (OpenSpec.ofChange askJoinsSpec)) askJoinsCard

/-- THE TIED CARD OF 'cloaklaw05.AskPrime'. -/
def askPrimeCard : Claim7 := { stood := { row := askPrimeRow, standIns := [], harness := (true, "e946dd738e9aa7fac4b3de290664a7b0d746a21bc6ee9596d7723f6a41ddd4f9"), looks := true }, kinds := [], alts := [], laidByText := true, laidKinds := [.data, .data, .data, .data, .widerDeep], laidTests := true, laidLooks := .later }
def AskPrimeCardSaid : Prop := Claim7.holds Tryz.pinned (.plain (OpenSpec.ofChange askPrimeSpec)) askPrimeCard

/-- THE TIED CARD OF 'cloaklaw05.AskNormals'. -/
def askNormalsCard : Claim7 := { stood := { row := askNormalsRow, standIns := [], harness := (true, "e946dd738e9aa7fac4b3de290664a7b0d746a21bc6ee9596d7723f6a41ddd4f9"), looks := true }, kinds := [], alts := [], laidByText := true, laidKinds := [.data, .data, .data, .data, .widerDeep], laidTests := true, laidLooks := .later }
def AskNormalsCardSaid : Prop := Claim7.holds Tryz.pinned (.plain (OpenSpec.ofChange askNormalsSpec)) askNormalsCard

/-- THE TIED CARD OF 'cloaklaw05.AskNormal'. -/
def askNormalCard : Claim7 := { stood := { row := askNormalRow, standIns := [], harness := (true, "e946dd738e9aa7fac4b3de290664a7b0d746a21bc6ee9596d7723f6a41ddd4f9"), looks := true }, kinds := [], alts := [], laidByText := true, laidKinds := [.data, .data, .data, .data, .widerDeep], laidTests := true, laidLooks := .later }
def AskNormalCardSaid : Prop := Claim7.holds Tryz.pinned (.plain (OpenSpec.ofChange askNormalSpec)) askNormalCard

/-- THE TIED CARD OF 'cloaklaw05.AskCycles'. -/
def askCyclesCard : Claim7 := { stood := { row := askCyclesRow, standIns := [], harness := (true, "e946dd738e9aa7fac4b3de290664a7b0d746a21bc6ee9596d7723f6a41ddd4f9"), looks := true }, kinds := [], alts := [], laidByText := true, laidKinds := [.data, .widerDeep], laidTests := true, laidLooks := .later }
def AskCyclesCardSaid : Prop := Claim7.holds Tryz.pinned (.plain (OpenSpec.ofChange askCyclesSpec)) askCyclesCard

/-- THE TIED CARD OF 'cloaklaw05.AskDiscloses'. -/
def askDisclosesCard : Claim7 := { stood := { row := askDisclosesRow, standIns := [], harness := (true, "e946dd738e9aa7fac4b3de290664a7b0d746a21bc6ee9596d7723f6a41ddd4f9"), looks := true }, kinds := [], alts := [], laidByText := true, laidKinds := [.data, .widerDeep], laidTests := true, laidLooks := .later }
def AskDisclosesCardSaid : Prop := Claim7.holds Tryz.pinned (.plain (OpenSpec.ofChange askDisclosesSpec)) askDisclosesCard

/-- THE TIED CARD OF 'cloaklaw05.AskImplies'. -/
def askImpliesCard : Claim7 := { stood := { row := askImpliesRow, standIns := [], harness := (true, "e946dd738e9aa7fac4b3de290664a7b0d746a21bc6ee9596d7723f6a41ddd4f9"), looks := true }, kinds := [], alts := [], laidByText := true, laidKinds := [.data, .widerDeep], laidTests := true, laidLooks := .later }
def AskImpliesCardSaid : Prop := Claim7.holds Tryz.pinned (.plain (OpenSpec.ofChange askImpliesSpec)) askImpliesCard

/-- THE TIED CARD OF 'cloaklaw05.AskCounts'. -/
def askCountsCard : Claim7 := { stood := { row := askCountsRow, standIns := [], harness := (true, "e946dd738e9aa7fac4b3de290664a7b0d746a21bc6ee9596d7723f6a41ddd4f9"), looks := true }, kinds := [], alts := [], laidByText := true, laidKinds := [.data, .widerDeep], laidTests := true, laidLooks := .later }
def AskCountsCardSaid : Prop := Claim7.holds Tryz.pinned (.plain (OpenSpec.ofChange askCountsSpec)) askCountsCard

/-- THE TIED CARD OF 'cloaklaw05.AskLeast'. -/
def askLeastCard : Claim7 := { stood := { row := askLeastRow, standIns := [], harness := (true, "e946dd738e9aa7fac4b3de290664a7b0d746a21bc6ee9596d7723f6a41ddd4f9"), looks := true }, kinds := [], alts := [], laidByText := true, laidKinds := [.data, .widerDeep], laidTests := true, laidLooks := .later }
def AskLeastCardSaid : Prop := Claim7.holds Tryz.pinned (.plain (OpenSpec.ofChange askLeastSpec)) askLeastCard

/-- THE TIED CARD OF 'cloaklaw05.AskSat'. -/
def askSatCard : Claim7 := { stood := { row := askSatRow, standIns := [], harness := (true, "e946dd738e9aa7fac4b3de290664a7b0d746a21bc6ee9596d7723f6a41ddd4f9"), looks := true }, kinds := [], alts := [], laidByText := true, laidKinds := [.data, .widerDeep], laidTests := true, laidLooks := .later }
def AskSatCardSaid : Prop := Claim7.holds Tryz.pinned (.plain (OpenSpec.ofChange askSatSpec)) askSatCard

/-- THE TIED CARD OF 'cloaklaw05.AskNegates'. -/
def askNegatesCard : Claim7 := { stood := { row := askNegatesRow, standIns := [], harness := (true, "e946dd738e9aa7fac4b3de290664a7b0d746a21bc6ee9596d7723f6a41ddd4f9"), looks := true }, kinds := [], alts := [], laidByText := true, laidKinds := [.data, .data, .data, .data, .widerDeep], laidTests := true, laidLooks := .later }
def AskNegatesCardSaid : Prop := Claim7.holds Tryz.pinned (.plain (OpenSpec.ofChange askNegatesSpec)) askNegatesCard

/-- THE SECOND FORM's CARD OF 'cloaklaw05.AskParses'. -/
def askParsesUptoCard : Claim7 := { stood := { row := askParsesUptoRow, standIns := [], harness := (true, "e946dd738e9aa7fac4b3de290664a7b0d746a21bc6ee9596d7723f6a41ddd4f9"), looks := true }, kinds := [], alts := [], laidByText := true, laidKinds := [.data, .data, .data, .data, .widerDeep], laidTests := true, laidLooks := .later }
def AskParsesUptoCardSaid : Prop := Claim7.holds Tryz.pinned (.plain (OpenSpec.upto askParsesSpec)) askParsesUptoCard

/-- THE SECOND FORM's CARD OF 'cloaklaw05.AskBack'. -/
def askBackUptoCard : Claim7 := { stood := { row := askBackUptoRow, standIns := [], harness := (true, "e946dd738e9aa7fac4b3de290664a7b0d746a21bc6ee9596d7723f6a41ddd4f9"), looks := true }, kinds := [], alts := [], laidByText := true, laidKinds := [.data, .data, .data, .data, .widerDeep], laidTests := true, laidLooks := .later }
def AskBackUptoCardSaid : Prop := Claim7.holds Tryz.pinned (.plain (OpenSpec.upto askBackSpec)) askBackUptoCard

/-- THE SECOND FORM's CARD OF 'cloaklaw05.AskJoins'. -/
def askJoinsUptoCard : Claim7 := { stood := { row := askJoinsUptoRow, standIns := [], harness := (true, "e946dd738e9aa7fac4b3de290664a7b0d746a21bc6ee9596d7723f6a41ddd4f9"), looks := true }, kinds := [], alts := [], laidByText := true, laidKinds := [.data, .data, .data, .data, .widerDeep], laidTests := true, laidLooks := .later }
def AskJoinsUptoCardSaid : Prop := Claim7.holds Tryz.pinned (.plain (OpenSpec.upto askJoinsSpec)) askJoinsUptoCard

/-- THE SECOND FORM's CARD OF 'cloaklaw05.AskPrime'. -/
def askPrimeUptoCard : Claim7 := { stood := { row := askPrimeUptoRow, standIns := [], harness := (true, "e946dd738e9aa7fac4b3de290664a7b0d746a21bc6ee9596d7723f6a41ddd4f9"), looks := true }, kinds := [], alts := [], laidByText := true, laidKinds := [.data, .data, .data, .data, .widerDeep], laidTests := true, laidLooks := .later }
def AskPrimeUptoCardSaid : Prop := Claim7.holds Tryz.pinned (.plain (OpenSpec.upto askPrimeSpec)) askPrimeUptoCard

/-- THE SECOND FORM's CARD OF 'cloaklaw05.AskNormals'. -/
def askNormalsUptoCard : Claim7 := { stood := { row := askNormalsUptoRow, standIns := [], harness := (true, "e946dd738e9aa7fac4b3de290664a7b0d746a21bc6ee9596d7723f6a41ddd4f9"), looks := true }, kinds := [], alts := [], laidByText := true, laidKinds := [.data, .data, .data, .data, .widerDeep], laidTests := true, laidLooks := .later }
def AskNormalsUptoCardSaid : Prop := Claim7.holds Tryz.pinned (.plain (OpenSpec.upto askNormalsSpec)) askNormalsUptoCard

/-- THE SECOND FORM's CARD OF 'cloaklaw05.AskNormal'. -/
def askNormalUptoCard : Claim7 := { stood := { row := askNormalUptoRow, standIns := [], harness := (true, "e946dd738e9aa7fac4b3de290664a7b0d746a21bc6ee9596d7723f6a41ddd4f9"), looks := true }, kinds := [], alts := [], laidByText := true, laidKinds := [.data, .data, .data, .data, .widerDeep], laidTests := true, laidLooks := .later }
def AskNormalUptoCardSaid : Prop := Claim7.holds Tryz.pinned (.plain (OpenSpec.upto askNormalSpec)) askNormalUptoCard

/-- THE SECOND FORM's CARD OF 'cloaklaw05.AskCycles'. -/
def askCyclesUptoCard : Claim7 := { stood := { row := askCyclesUptoRow, standIns := [], harness := (true, "e946dd738e9aa7fac4b3de290664a7b0d746a21bc6ee9596d7723f6a41ddd4f9"), looks := true }, kinds := [], alts := [], laidByText := true, laidKinds := [.data, .widerDeep], laidTests := true, laidLooks := .later }
def AskCyclesUptoCardSaid : Prop := Claim7.holds Tryz.pinned (.plain (OpenSpec.upto askCyclesSpec)) askCyclesUptoCard

/-- THE SECOND FORM's CARD OF 'cloaklaw05.AskDiscloses'. -/
def askDisclosesUptoCard : Claim7 := { stood := { row := askDisclosesUptoRow, standIns := [], harness := (true, "e946dd738e9aa7fac4b3de290664a7b0d746a21bc6ee9596d7723f6a41ddd4f9"), looks := true }, kinds := [], alts := [], laidByText := true, laidKinds := [.data, .widerDeep], laidTests := true, laidLooks := .later }
def AskDisclosesUptoCardSaid : Prop := Claim7.holds Tryz.pinned (.plain (OpenSpec.upto askDisclosesSpec)) askDisclosesUptoCard

/-- THE SECOND FORM's CARD OF 'cloaklaw05.AskImplies'. -/
def askImpliesUptoCard : Claim7 := { stood := { row := askImpliesUptoRow, standIns := [], harness := (true, "e946dd738e9aa7fac4b3de290664a7b0d746a21bc6ee9596d7723f6a41ddd4f9"), looks := true }, kinds := [], alts := [], laidByText := true, laidKinds := [.data, .widerDeep], laidTests := true, laidLooks := .later }
def AskImpliesUptoCardSaid : Prop := Claim7.holds Tryz.pinned (.plain (OpenSpec.upto askImpliesSpec)) askImpliesUptoCard

/-- THE SECOND FORM's CARD OF 'cloaklaw05.AskCounts'. -/
def askCountsUptoCard : Claim7 := { stood := { row := askCountsUptoRow, standIns := [], harness := (true, "e946dd738e9aa7fac4b3de290664a7b0d746a21bc6ee9596d7723f6a41ddd4f9"), looks := true }, kinds := [], alts := [], laidByText := true, laidKinds := [.data, .widerDeep], laidTests := true, laidLooks := .later }
def AskCountsUptoCardSaid : Prop := Claim7.holds Tryz.pinned (.plain (OpenSpec.upto askCountsSpec)) askCountsUptoCard

/-- THE SECOND FORM's CARD OF 'cloaklaw05.AskLeast'. -/
def askLeastUptoCard : Claim7 := { stood := { row := askLeastUptoRow, standIns := [], harness := (true, "e946dd738e9aa7fac4b3de290664a7b0d746a21bc6ee9596d7723f6a41ddd4f9"), looks := true }, kinds := [], alts := [], laidByText := true, laidKinds := [.data, .widerDeep], laidTests := true, laidLooks := .later }
def AskLeastUptoCardSaid : Prop := Claim7.holds Tryz.pinned (.plain (OpenSpec.upto askLeastSpec)) askLeastUptoCard

/-- THE SECOND FORM's CARD OF 'cloaklaw05.AskSat'. -/
def askSatUptoCard : Claim7 := { stood := { row := askSatUptoRow, standIns := [], harness := (true, "e946dd738e9aa7fac4b3de290664a7b0d746a21bc6ee9596d7723f6a41ddd4f9"), looks := true }, kinds := [], alts := [], laidByText := true, laidKinds := [.data, .widerDeep], laidTests := true, laidLooks := .later }
def AskSatUptoCardSaid : Prop := Claim7.holds Tryz.pinned (.plain (OpenSpec.upto askSatSpec)) askSatUptoCard

/-- THE SECOND FORM's CARD OF 'cloaklaw05.AskNegates'. -/
def askNegatesUptoCard : Claim7 := { stood := { row := askNegatesUptoRow, standIns := [], harness := (true, "e946dd738e9aa7fac4b3de290664a7b0d746a21bc6ee9596d7723f6a41ddd4f9"), looks := true }, kinds := [], alts := [], laidByText := true, laidKinds := [.data, .data, .data, .data, .widerDeep], laidTests := true, laidLooks := .later }
def AskNegatesUptoCardSaid : Prop := Claim7.holds Tryz.pinned (.plain (OpenSpec.upto askNegatesSpec)) askNegatesUptoCard
end Rows
end Go.Proofs.YtmkdfbelbcocpaaGreatDoor
