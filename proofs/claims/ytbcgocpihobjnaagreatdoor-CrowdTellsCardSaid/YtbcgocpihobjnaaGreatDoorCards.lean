/-
  DERIVED. GIVEN WITH THE SEED: THE CARDS: each row of YtbcgocpihobjnaaGreatDoorRows.lean that lists a variable, with what it lists TIED to the program's text (the seventh form; the later family's looks); each row that meets fmt, with fmt's text TOLD by the authors' own Lean function (tested against real Go, not proved from fmt's source: count such statements apart). THE CARD IS WHAT COUNTS. Prove the row's statement (the work); the ties are given (YtbcgocpihobjnaaGreatDoorTie.lean); close each card by the builder's one call (the guide's Derived/Test/ToyasCard.lean, 'card_holds'). Laid BY PROGRAM, IN A SANDBOX (cutbox-door.mjs). By AI agents, Wed Nov 11 2026. No macro, syntax, notation, axiom, sorry.
-/
import Derived.Test.YtbcgocpihobjnaaGreatDoorRows
import GoSem.ClaimSeven
namespace Go.Proofs.YtbcgocpihobjnaaGreatDoor
namespace Rows

/-- THE TIED CARD OF 'cloaklaw09.CrowdGroups'. -/
def crowdGroupsCard : Claim7 := { stood := { row := crowdGroupsRow, standIns := [], harness := (true, "338451282303b13a8cdbd10538cf236b010dc1946a10f25ba5749e7e6682990c"), looks := false }, kinds := [], alts := [], laidByText := true, laidKinds := [.widerDeep], laidTests := true, laidLooks := .later }
def CrowdGroupsCardSaid : Prop := Claim7.holds Tryz.pinned (.plain (OpenSpec.ofChange crowdGroupsSpec)) crowdGroupsCard

/-- THE TIED CARD OF 'cloaklaw09.CrowdMore'. -/
def crowdMoreCard : Claim7 := { stood := { row := crowdMoreRow, standIns := [], harness := (true, "338451282303b13a8cdbd10538cf236b010dc1946a10f25ba5749e7e6682990c"), looks := false }, kinds := [], alts := [], laidByText := true, laidKinds := [.widerDeep], laidTests := true, laidLooks := .later }
def CrowdMoreCardSaid : Prop := Claim7.holds Tryz.pinned (.plain (OpenSpec.ofChange crowdMoreSpec)) crowdMoreCard

/-- THE TIED CARD OF 'cloaklaw09.CrowdTurns'. -/
def crowdTurnsCard : Claim7 := { stood := { row := crowdTurnsRow, standIns := [], harness := (true, "338451282303b13a8cdbd10538cf236b010dc1946a10f25ba5749e7e6682990c"), looks := false }, kinds := [], alts := [], laidByText := true, laidKinds := [.widerDeep], laidTests := true, laidLooks := .later }
def CrowdTurnsCardSaid : Prop := Claim7.holds Tryz.pinned (.plain (OpenSpec.ofChange crowdTurnsSpec)) crowdTurnsCard

/-- THE TIED CARD OF 'cloaklaw09.CrowdUnion'. -/
def crowdUnionCard : Claim7 := { stood := { row := crowdUnionRow, standIns := [], harness := (true, "338451282303b13a8cdbd10538cf236b010dc1946a10f25ba5749e7e6682990c"), looks := false }, kinds := [], alts := [], laidByText := true, laidKinds := [.widerDeep], laidTests := true, laidLooks := .later }
def CrowdUnionCardSaid : Prop := Claim7.holds Tryz.pinned (.plain (OpenSpec.ofChange crowdUnionSpec)) crowdUnionCard

/-- THE TIED CARD OF 'cloaklaw09.CrowdExplains'. -/
def crowdExplainsCard : Claim7 := { stood := { row := crowdExplainsRow, standIns := [], harness := (true, "338451282303b13a8cdbd10538cf236b010dc1946a10f25ba5749e7e6682990c"), looks := false }, kinds := [], alts := [], laidByText := true, laidKinds := [.widerDeep], laidTests := true, laidLooks := .later }
def CrowdExplainsCardSaid : Prop := Claim7.holds Tryz.pinned (.plain (OpenSpec.ofChange crowdExplainsSpec)) crowdExplainsCard

/-- THE TIED CARD OF 'cloaklaw09.CrowdPlans'. -/
def crowdPlansCard : Claim7 := { stood := { row := crowdPlansRow, standIns := [], harness := (true, "338451282303b13a8cdbd10538cf236b010dc1946a10f25ba5749e7e6682990c"), looks := false }, kinds := [], alts := [], laidByText := true, laidKinds := [.widerDeep], laidTests := true, laidLooks := .later }
def CrowdPlansCardSaid : Prop := Claim7.holds Tryz.pinned (.plain (OpenSpec.ofChange crowdPlansSpec)) crowdPlansCard

/-- THE TIED CARD OF 'cloaklaw09.CrowdRelax'. -/
def crowdRelaxCard : Claim7 := { stood := { row := crowdRelaxRow, standIns := [], harness := (true, "338451282303b13a8cdbd10538cf236b010dc1946a10f25ba5749e7e6682990c"), looks := false }, kinds := [], alts := [], laidByText := true, laidKinds := [.widerDeep], laidTests := true, laidLooks := .later }
def CrowdRelaxCardSaid : Prop := Claim7.holds Tryz.pinned (.plain (OpenSpec.ofChange crowdRelaxSpec)) crowdRelaxCard

/-- THE TIED CARD OF 'cloaklaw09.CrowdCounts'. -/
def crowdCountsCard : Claim7 := { stood := { row := crowdCountsRow, standIns := [], harness := (true, "338451282303b13a8cdbd10538cf236b010dc1946a10f25ba5749e7e6682990c"), looks := false }, kinds := [], alts := [], laidByText := true, laidKinds := [.widerDeep], laidTests := true, laidLooks := .later }
def CrowdCountsCardSaid : Prop := Claim7.holds Tryz.pinned (.plain (OpenSpec.ofChange crowdCountsSpec)) crowdCountsCard

/-- THE TIED CARD OF 'cloaklaw09.CrowdShares'. -/
def crowdSharesCard : Claim7 := { stood := { row := crowdSharesRow, standIns := [], harness := (true, "338451282303b13a8cdbd10538cf236b010dc1946a10f25ba5749e7e6682990c"), looks := false }, kinds := [], alts := [], laidByText := true, laidKinds := [.widerDeep], laidTests := true, laidLooks := .later }
def CrowdSharesCardSaid : Prop := Claim7.holds Tryz.pinned (.plain (OpenSpec.ofChange crowdSharesSpec)) crowdSharesCard

/-- THE TIED CARD OF 'cloaklaw09.CrowdTold'. -/
def crowdToldCard : Claim7 := { stood := { row := crowdToldRow, standIns := [], harness := (true, "338451282303b13a8cdbd10538cf236b010dc1946a10f25ba5749e7e6682990c"), looks := false }, kinds := [], alts := [], laidByText := true, laidKinds := [.widerDeep], laidTests := true, laidLooks := .later }
def CrowdToldCardSaid : Prop := Claim7.holds Tryz.pinned (.plain (OpenSpec.ofChange crowdToldSpec)) crowdToldCard

/-- THE TIED CARD OF 'cloaklaw09.CrowdOpens'. -/
def crowdOpensCard : Claim7 := { stood := { row := crowdOpensRow, standIns := [], harness := (true, "338451282303b13a8cdbd10538cf236b010dc1946a10f25ba5749e7e6682990c"), looks := false }, kinds := [], alts := [], laidByText := true, laidKinds := [.widerDeep], laidTests := true, laidLooks := .later }
def CrowdOpensCardSaid : Prop := Claim7.holds Tryz.pinned (.plain (OpenSpec.ofChange crowdOpensSpec)) crowdOpensCard

/-- THE TIED CARD OF 'cloaklaw09.CrowdTells'. -/
def crowdTellsCard : Claim7 := { stood := { row := crowdTellsRow, standIns := [], harness := (true, "338451282303b13a8cdbd10538cf236b010dc1946a10f25ba5749e7e6682990c"), looks := false }, kinds := [], alts := [], laidByText := true, laidKinds := [.widerDeep], laidTests := true, laidLooks := .later }
def CrowdTellsCardSaid : Prop := Claim7.holds Tryz.pinned (.plain (OpenSpec.ofChange crowdTellsSpec)) crowdTellsCard

/-- THE TIED CARD OF 'cloaklaw09.CrowdHall'. -/
def crowdHallCard : Claim7 := { stood := { row := crowdHallRow, standIns := [], harness := (true, "338451282303b13a8cdbd10538cf236b010dc1946a10f25ba5749e7e6682990c"), looks := false }, kinds := [], alts := [], laidByText := true, laidKinds := [.widerDeep], laidTests := true, laidLooks := .later }
def CrowdHallCardSaid : Prop := Claim7.holds Tryz.pinned (.plain (OpenSpec.ofChange crowdHallSpec)) crowdHallCard

/-- THE TIED CARD OF 'cloaklaw09.CrowdExact'. -/
def crowdExactCard : Claim7 := { stood := { row := crowdExactRow, standIns := [], harness := (true, "338451282303b13a8cdbd10538cf236b010dc1946a10f25ba5749e7e6682990c"), looks := false }, kinds := [], alts := [], laidByText := true, laidKinds := [.widerDeep], laidTests := true, laidLooks := .later }
def CrowdExactCardSaid : Prop := Claim7.holds Tryz.pinned (.plain (OpenSpec.ofChange crowdExactSpec)) crowdExactCard

/-- THE TIED CARD OF 'cloaklaw09.CrowdImplied'. -/
def crowdImpliedCard : Claim7 := { stood := { row := crowdImpliedRow, standIns := [], harness := (true, "338451282303b13a8cdbd10538cf236b010dc1946a10f25ba5749e7e6682990c"), looks := false }, kinds := [], alts := [], laidByText := true, laidKinds := [.widerDeep], laidTests := true, laidLooks := .later }
def CrowdImpliedCardSaid : Prop := Claim7.holds Tryz.pinned (.plain (OpenSpec.ofChange crowdImpliedSpec)) crowdImpliedCard

/-- THE SECOND FORM's CARD OF 'cloaklaw09.CrowdGroups'. -/
def crowdGroupsUptoCard : Claim7 := { stood := { row := crowdGroupsUptoRow, standIns := [], harness := (true, "338451282303b13a8cdbd10538cf236b010dc1946a10f25ba5749e7e6682990c"), looks := false }, kinds := [], alts := [], laidByText := true, laidKinds := [.widerDeep], laidTests := true, laidLooks := .later }
def CrowdGroupsUptoCardSaid : Prop := Claim7.holds Tryz.pinned (.plain (OpenSpec.upto crowdGroupsSpec)) crowdGroupsUptoCard

/-- THE SECOND FORM's CARD OF 'cloaklaw09.CrowdMore'. -/
def crowdMoreUptoCard : Claim7 := { stood := { row := crowdMoreUptoRow, standIns := [], harness := (true, "338451282303b13a8cdbd10538cf236b010dc1946a10f25ba5749e7e6682990c"), looks := false }, kinds := [], alts := [], laidByText := true, laidKinds := [.widerDeep], laidTests := true, laidLooks := .later }
def CrowdMoreUptoCardSaid : Prop := Claim7.holds Tryz.pinned (.plain (OpenSpec.upto crowdMoreSpec)) crowdMoreUptoCard

/-- THE SECOND FORM's CARD OF 'cloaklaw09.CrowdTurns'. -/
def crowdTurnsUptoCard : Claim7 := { stood := { row := crowdTurnsUptoRow, standIns := [], harness := (true, "338451282303b13a8cdbd10538cf236b010dc1946a10f25ba5749e7e6682990c"), looks := false }, kinds := [], alts := [], laidByText := true, laidKinds := [.widerDeep], laidTests := true, laidLooks := .later }
def CrowdTurnsUptoCardSaid : Prop := Claim7.holds Tryz.pinned (.plain (OpenSpec.upto crowdTurnsSpec)) crowdTurnsUptoCard

/-- THE SECOND FORM's CARD OF 'cloaklaw09.CrowdUnion'. -/
def crowdUnionUptoCard : Claim7 := { stood := { row := crowdUnionUptoRow, standIns := [], harness := (true, "338451282303b13a8cdbd10538cf236b010dc1946a10f25ba5749e7e6682990c"), looks := false }, kinds := [], alts := [], laidByText := true, laidKinds := [.widerDeep], laidTests := true, laidLooks := .later }
def CrowdUnionUptoCardSaid : Prop := Claim7.holds Tryz.pinned (.plain (OpenSpec.upto crowdUnionSpec)) crowdUnionUptoCard

/-- THE SECOND FORM's CARD OF 'cloaklaw09.CrowdExplains'. -/
def crowdExplainsUptoCard : Claim7 := { stood := { row := crowdExplainsUptoRow, standIns := [], harness := (true, "338451282303b13a8cdbd10538cf236b010dc1946a10f25ba5749e7e6682990c"), looks := false }, kinds := [], alts := [], laidByText := true, laidKinds := [.widerDeep], laidTests := true, laidLooks := .later }
def CrowdExplainsUptoCardSaid : Prop := Claim7.holds Tryz.pinned (.plain (OpenSpec.upto crowdExplainsSpec)) crowdExplainsUptoCard

/-- THE SECOND FORM's CARD OF 'cloaklaw09.CrowdPlans'. -/
def crowdPlansUptoCard : Claim7 := { stood := { row := crowdPlansUptoRow, standIns := [], harness := (true, "338451282303b13a8cdbd10538cf236b010dc1946a10f25ba5749e7e6682990c"), looks := false }, kinds := [], alts := [], laidByText := true, laidKinds := [.widerDeep], laidTests := true, laidLooks := .later }
def CrowdPlansUptoCardSaid : Prop := Claim7.holds Tryz.pinned (.plain (OpenSpec.upto crowdPlansSpec)) crowdPlansUptoCard

/-- THE SECOND FORM's CARD OF 'cloaklaw09.CrowdRelax'. -/
def crowdRelaxUptoCard : Claim7 := { stood := { row := crowdRelaxUptoRow, standIns := [], harness := (true, "338451282303b13a8cdbd10538cf236b010dc1946a10f25ba5749e7e6682990c"), looks := false }, kinds := [], alts := [], laidByText := true, laidKinds := [.widerDeep], laidTests := true, laidLooks := .later }
def CrowdRelaxUptoCardSaid : Prop := Claim7.holds Tryz.pinned (.plain (OpenSpec.upto crowdRelaxSpec)) crowdRelaxUptoCard

/-- THE SECOND FORM's CARD OF 'cloaklaw09.CrowdCounts'. -/
def crowdCountsUptoCard : Claim7 := { stood := { row := crowdCountsUptoRow, standIns := [], harness := (true, "338451282303b13a8cdbd10538cf236b010dc1946a10f25ba5749e7e6682990c"), looks := false }, kinds := [], alts := [], laidByText := true, laidKinds := [.widerDeep], laidTests := true, laidLooks := .later }
def CrowdCountsUptoCardSaid : Prop := Claim7.holds Tryz.pinned (.plain (OpenSpec.upto crowdCountsSpec)) crowdCountsUptoCard

/-- THE SECOND FORM's CARD OF 'cloaklaw09.CrowdShares'. -/
def crowdSharesUptoCard : Claim7 := { stood := { row := crowdSharesUptoRow, standIns := [], harness := (true, "338451282303b13a8cdbd10538cf236b010dc1946a10f25ba5749e7e6682990c"), looks := false }, kinds := [], alts := [], laidByText := true, laidKinds := [.widerDeep], laidTests := true, laidLooks := .later }
def CrowdSharesUptoCardSaid : Prop := Claim7.holds Tryz.pinned (.plain (OpenSpec.upto crowdSharesSpec)) crowdSharesUptoCard

/-- THE SECOND FORM's CARD OF 'cloaklaw09.CrowdTold'. -/
def crowdToldUptoCard : Claim7 := { stood := { row := crowdToldUptoRow, standIns := [], harness := (true, "338451282303b13a8cdbd10538cf236b010dc1946a10f25ba5749e7e6682990c"), looks := false }, kinds := [], alts := [], laidByText := true, laidKinds := [.widerDeep], laidTests := true, laidLooks := .later }
def CrowdToldUptoCardSaid : Prop := Claim7.holds Tryz.pinned (.plain (OpenSpec.upto crowdToldSpec)) crowdToldUptoCard

/-- THE SECOND FORM's CARD OF 'cloaklaw09.CrowdOpens'. -/
def crowdOpensUptoCard : Claim7 := { stood := { row := crowdOpensUptoRow, standIns := [], harness := (true, "338451282303b13a8cdbd10538cf236b010dc1946a10f25ba5749e7e6682990c"), looks := false }, kinds := [], alts := [], laidByText := true, laidKinds := [.widerDeep], laidTests := true, laidLooks := .later }
def CrowdOpensUptoCardSaid : Prop := Claim7.holds Tryz.pinned (.plain (OpenSpec.upto crowdOpensSpec)) crowdOpensUptoCard

/-- THE SECOND FORM's CARD OF 'cloaklaw09.CrowdTells'. -/
def crowdTellsUptoCard : Claim7 := { stood := { row := crowdTellsUptoRow, standIns := [], harness := (true, "338451282303b13a8cdbd10538cf236b010dc1946a10f25ba5749e7e6682990c"), looks := false }, kinds := [], alts := [], laidByText := true, laidKinds := [.widerDeep], laidTests := true, laidLooks := .later }
def CrowdTellsUptoCardSaid : Prop := Claim7.holds Tryz.pinned (.plain (OpenSpec.upto crowdTellsSpec)) crowdTellsUptoCard

/-- THE SECOND FORM's CARD OF 'cloaklaw09.CrowdHall'. -/
def crowdHallUptoCard : Claim7 := { stood := { row := crowdHallUptoRow, standIns := [], harness := (true, "338451282303b13a8cdbd10538cf236b010dc1946a10f25ba5749e7e6682990c"), looks := false }, kinds := [], alts := [], laidByText := true, laidKinds := [.widerDeep], laidTests := true, laidLooks := .later }
def CrowdHallUptoCardSaid : Prop := Claim7.holds Tryz.pinned (.plain (OpenSpec.upto crowdHallSpec)) crowdHallUptoCard

/-- THE SECOND FORM's CARD OF 'cloaklaw09.CrowdExact'. -/
def crowdExactUptoCard : Claim7 := { stood := { row := crowdExactUptoRow, standIns := [], harness := (true, "338451282303b13a8cdbd10538cf236b010dc1946a10f25ba5749e7e6682990c"), looks := false }, kinds := [], alts := [], laidByText := true, laidKinds := [.widerDeep], laidTests := true, laidLooks := .later }
def CrowdExactUptoCardSaid : Prop := Claim7.holds Tryz.pinned (.plain (OpenSpec.upto crowdExactSpec)) crowdExactUptoCard

/-- THE SECOND FORM's CARD OF 'cloaklaw09.CrowdImplied'. -/
def crowdImpliedUptoCard : Claim7 := { stood := { row := crowdImpliedUptoRow, standIns := [], harness := (true, "338451282303b13a8cdbd10538cf236b010dc1946a10f25ba5749e7e6682990c"), looks := false }, kinds := [], alts := [], laidByText := true, laidKinds := [.widerDeep], laidTests := true, laidLooks := .later }
def CrowdImpliedUptoCardSaid : Prop := Claim7.holds Tryz.pinned (.plain (OpenSpec.upto crowdImpliedSpec)) crowdImpliedUptoCard
end Rows
end Go.Proofs.YtbcgocpihobjnaaGreatDoor
