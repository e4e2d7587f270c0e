/-
  NARROWER THAN 'FOR EVERY INPUT', by the rows' own cells (each row's printed sentence says how): CrowdGroups: loops, laid · CrowdMore: loops, laid · CrowdTurns: loops, laid · CrowdUnion: loops, laid · CrowdExplains: loops, laid · CrowdPlans: loops, laid · CrowdRelax: loops, laid · CrowdCounts: loops, laid · CrowdShares: loops, laid · CrowdTold: loops, laid · CrowdOpens: loops, laid · CrowdTells: loops, laid · CrowdHall: loops, laid · CrowdExact: loops, laid · CrowdImplied: loops, laid.
  DERIVED. THE GIVEN ROWS OF THIS SEAT. 15 by the template 'for every input the law returns true; each argument reads behind the call as it read before'; 0 by the template 'total and deterministic' (their statements: YtbcgocpihobjnaaGreatDoorTotals.lean).
  GIVEN WITH THE SEED: the statements are not yours to turn. If you find one false, say at which input.
  Laid BY PROGRAM, IN A SANDBOX (cutbox-rows.mjs): the forced cells as the released guide's own fill.sh prints them over the translation 3f50fc8a6dfad53a… (all of the seat's roots in one cut). By AI agents, Wed Nov 11 2026. No macro, syntax, notation, axiom, sorry.
-/
import Derived.Test.YtbcgocpihobjnaaGreatDoorChecked
import GoSem.Claim
import GoSem.ClaimJoined
import GoSem.ClaimMapViews
import Derived.JoinedTies
import Derived.KernelRfl
namespace Go.Proofs.YtbcgocpihobjnaaGreatDoor
/- THE CELL 'sum', in the pinned program and in every row, IS THE sha256 OF THE DUMP (.gsa) THAT YtbcgocpihobjnaaGreatDoorProg.lean LOADS. Nothing in Lean hashes anything: it is a label: what it is worth is what the hold of that sum in a sandbox is worth. -/
noncomputable def Tryz.pinned : Pinned := { name := "ytbcgocpihobjnaagreatdoor", sum := "3f50fc8a6dfad53a28e89e086519072865d0378ebb67745e612a06bb3ec6ceac", checked := Tryz.checked }
namespace Rows
def none {H : Type} : Left H := { results := [], args := [] }

/- WHAT THE LISTED PACKAGE-LEVEL VARIABLES READ AS WHEN THE CALL BEGINS. Each datum BY PROGRAM (the guide's laid-datum.mjs) off the statement by which the dump's own 'gosem.cut.vars' lays the variable. In a bare row this is a premise. The card (YtbcgocpihobjnaaGreatDoorCards.lean) ties it to the program's text. -/
def laid_cloak_ask_reserved {H : Type} : DataW H := .slice [.lit (.string [113, 117, 101, 115, 116, 105, 111, 110]), .lit (.string [97, 110, 100]), .lit (.string [111, 114]), .lit (.string [110, 111, 116]), .lit (.string [97, 116]), .lit (.string [108, 101, 97, 115, 116]), .lit (.string [111, 102]), .lit (.string [105, 110])] []

/-- 'cloaklaw09.CrowdGroups': WHATEVER THE INPUT: true; the input reads as it did. -/
def crowdGroupsSpec : ChangeSpec := { name := "crowdGroups", fn := fun _ => fun
  | [d1, d2] => { results := [.lit (.bool true)], args := [d1, d2] }
  | _ => none }
def crowdGroupsRow : OpenClaim := { program := "ytbcgocpihobjnaagreatdoor", sum := "3f50fc8a6dfad53a28e89e086519072865d0378ebb67745e612a06bb3ec6ceac", func := "cloak/cloaklaw09.CrowdGroups", spec := "crowdGroups", inPlace := ["internal/bytealg.IndexByteString", "internal/bytealg.IndexString"], unfollowed := true, recurses := true, named := ["internal/bytealg.MaxLen", "cloak/ask.reserved"], loops := true, plainKeys := false, apart := false, laid := [("cloak/ask.reserved", laid_cloak_ask_reserved)] }
def CrowdGroupsSaid : Prop := crowdGroupsRow.holds Tryz.pinned (OpenSpec.ofChange crowdGroupsSpec)

/-- ITS FALSE NEIGHBOUR: 'it returns false'. Refute it at one input. -/
def crowdGroupsWrong : ChangeSpec := { name := "crowdGroups", fn := fun _ => fun
  | [d1, d2] => { results := [.lit (.bool false)], args := [d1, d2] }
  | _ => none }
def CrowdGroupsWrongFalsely : Prop := crowdGroupsRow.holds Tryz.pinned (OpenSpec.ofChange crowdGroupsWrong)

/-- 'cloaklaw09.CrowdMore': WHATEVER THE INPUT: true; the input reads as it did. -/
def crowdMoreSpec : ChangeSpec := { name := "crowdMore", fn := fun _ => fun
  | [d1, d2, d3, d4, d5] => { results := [.lit (.bool true)], args := [d1, d2, d3, d4, d5] }
  | _ => none }
def crowdMoreRow : OpenClaim := { program := "ytbcgocpihobjnaagreatdoor", sum := "3f50fc8a6dfad53a28e89e086519072865d0378ebb67745e612a06bb3ec6ceac", func := "cloak/cloaklaw09.CrowdMore", spec := "crowdMore", inPlace := ["internal/bytealg.IndexByteString", "internal/bytealg.IndexString"], unfollowed := true, recurses := true, named := ["internal/bytealg.MaxLen", "cloak/ask.reserved"], loops := true, plainKeys := false, apart := false, laid := [("cloak/ask.reserved", laid_cloak_ask_reserved)] }
def CrowdMoreSaid : Prop := crowdMoreRow.holds Tryz.pinned (OpenSpec.ofChange crowdMoreSpec)

/-- ITS FALSE NEIGHBOUR: 'it returns false'. Refute it at one input. -/
def crowdMoreWrong : ChangeSpec := { name := "crowdMore", fn := fun _ => fun
  | [d1, d2, d3, d4, d5] => { results := [.lit (.bool false)], args := [d1, d2, d3, d4, d5] }
  | _ => none }
def CrowdMoreWrongFalsely : Prop := crowdMoreRow.holds Tryz.pinned (OpenSpec.ofChange crowdMoreWrong)

/-- 'cloaklaw09.CrowdTurns': WHATEVER THE INPUT: true; the input reads as it did. -/
def crowdTurnsSpec : ChangeSpec := { name := "crowdTurns", fn := fun _ => fun
  | [d1, d2, d3] => { results := [.lit (.bool true)], args := [d1, d2, d3] }
  | _ => none }
def crowdTurnsRow : OpenClaim := { program := "ytbcgocpihobjnaagreatdoor", sum := "3f50fc8a6dfad53a28e89e086519072865d0378ebb67745e612a06bb3ec6ceac", func := "cloak/cloaklaw09.CrowdTurns", spec := "crowdTurns", inPlace := ["internal/bytealg.IndexByteString", "internal/bytealg.IndexString"], unfollowed := true, recurses := true, named := ["internal/bytealg.MaxLen", "cloak/ask.reserved"], loops := true, plainKeys := false, apart := false, laid := [("cloak/ask.reserved", laid_cloak_ask_reserved)] }
def CrowdTurnsSaid : Prop := crowdTurnsRow.holds Tryz.pinned (OpenSpec.ofChange crowdTurnsSpec)

/-- ITS FALSE NEIGHBOUR: 'it returns false'. Refute it at one input. -/
def crowdTurnsWrong : ChangeSpec := { name := "crowdTurns", fn := fun _ => fun
  | [d1, d2, d3] => { results := [.lit (.bool false)], args := [d1, d2, d3] }
  | _ => none }
def CrowdTurnsWrongFalsely : Prop := crowdTurnsRow.holds Tryz.pinned (OpenSpec.ofChange crowdTurnsWrong)

/-- 'cloaklaw09.CrowdUnion': WHATEVER THE INPUT: true; the input reads as it did. -/
def crowdUnionSpec : ChangeSpec := { name := "crowdUnion", fn := fun _ => fun
  | [d1, d2] => { results := [.lit (.bool true)], args := [d1, d2] }
  | _ => none }
def crowdUnionRow : OpenClaim := { program := "ytbcgocpihobjnaagreatdoor", sum := "3f50fc8a6dfad53a28e89e086519072865d0378ebb67745e612a06bb3ec6ceac", func := "cloak/cloaklaw09.CrowdUnion", spec := "crowdUnion", inPlace := ["internal/bytealg.IndexByteString", "internal/bytealg.IndexString"], unfollowed := true, recurses := true, named := ["internal/bytealg.MaxLen", "cloak/ask.reserved"], loops := true, plainKeys := false, apart := false, laid := [("cloak/ask.reserved", laid_cloak_ask_reserved)] }
def CrowdUnionSaid : Prop := crowdUnionRow.holds Tryz.pinned (OpenSpec.ofChange crowdUnionSpec)

/-- ITS FALSE NEIGHBOUR: 'it returns false'. Refute it at one input. -/
def crowdUnionWrong : ChangeSpec := { name := "crowdUnion", fn := fun _ => fun
  | [d1, d2] => { results := [.lit (.bool false)], args := [d1, d2] }
  | _ => none }
def CrowdUnionWrongFalsely : Prop := crowdUnionRow.holds Tryz.pinned (OpenSpec.ofChange crowdUnionWrong)

/-- 'cloaklaw09.CrowdExplains': WHATEVER THE INPUT: true; the input reads as it did. -/
def crowdExplainsSpec : ChangeSpec := { name := "crowdExplains", fn := fun _ => fun
  | [d1, d2, d3, d4] => { results := [.lit (.bool true)], args := [d1, d2, d3, d4] }
  | _ => none }
def crowdExplainsRow : OpenClaim := { program := "ytbcgocpihobjnaagreatdoor", sum := "3f50fc8a6dfad53a28e89e086519072865d0378ebb67745e612a06bb3ec6ceac", func := "cloak/cloaklaw09.CrowdExplains", spec := "crowdExplains", inPlace := ["internal/bytealg.IndexByteString", "internal/bytealg.IndexString"], unfollowed := true, recurses := true, named := ["internal/bytealg.MaxLen", "cloak/ask.reserved"], loops := true, plainKeys := false, apart := false, laid := [("cloak/ask.reserved", laid_cloak_ask_reserved)] }
def CrowdExplainsSaid : Prop := crowdExplainsRow.holds Tryz.pinned (OpenSpec.ofChange crowdExplainsSpec)

/-- ITS FALSE NEIGHBOUR: 'it returns false'. Refute it at one input. -/
def crowdExplainsWrong : ChangeSpec := { name := "crowdExplains", fn := fun _ => fun
  | [d1, d2, d3, d4] => { results := [.lit (.bool false)], args := [d1, d2, d3, d4] }
  | _ => none }
def CrowdExplainsWrongFalsely : Prop := crowdExplainsRow.holds Tryz.pinned (OpenSpec.ofChange crowdExplainsWrong)

/-- 'cloaklaw09.CrowdPlans': WHATEVER THE INPUT: true; the input reads as it did. -/
def crowdPlansSpec : ChangeSpec := { name := "crowdPlans", fn := fun _ => fun
  | [d1, d2, d3, d4, d5] => { results := [.lit (.bool true)], args := [d1, d2, d3, d4, d5] }
  | _ => none }
def crowdPlansRow : OpenClaim := { program := "ytbcgocpihobjnaagreatdoor", sum := "3f50fc8a6dfad53a28e89e086519072865d0378ebb67745e612a06bb3ec6ceac", func := "cloak/cloaklaw09.CrowdPlans", spec := "crowdPlans", inPlace := ["internal/bytealg.IndexByteString", "internal/bytealg.IndexString"], unfollowed := true, recurses := true, named := ["internal/bytealg.MaxLen", "cloak/ask.reserved"], loops := true, plainKeys := false, apart := false, laid := [("cloak/ask.reserved", laid_cloak_ask_reserved)] }
def CrowdPlansSaid : Prop := crowdPlansRow.holds Tryz.pinned (OpenSpec.ofChange crowdPlansSpec)

/-- ITS FALSE NEIGHBOUR: 'it returns false'. Refute it at one input. -/
def crowdPlansWrong : ChangeSpec := { name := "crowdPlans", fn := fun _ => fun
  | [d1, d2, d3, d4, d5] => { results := [.lit (.bool false)], args := [d1, d2, d3, d4, d5] }
  | _ => none }
def CrowdPlansWrongFalsely : Prop := crowdPlansRow.holds Tryz.pinned (OpenSpec.ofChange crowdPlansWrong)

/-- 'cloaklaw09.CrowdRelax': WHATEVER THE INPUT: true; the input reads as it did. -/
def crowdRelaxSpec : ChangeSpec := { name := "crowdRelax", fn := fun _ => fun
  | [d1, d2, d3, d4] => { results := [.lit (.bool true)], args := [d1, d2, d3, d4] }
  | _ => none }
def crowdRelaxRow : OpenClaim := { program := "ytbcgocpihobjnaagreatdoor", sum := "3f50fc8a6dfad53a28e89e086519072865d0378ebb67745e612a06bb3ec6ceac", func := "cloak/cloaklaw09.CrowdRelax", spec := "crowdRelax", inPlace := ["internal/bytealg.IndexByteString", "internal/bytealg.IndexString"], unfollowed := true, recurses := true, named := ["internal/bytealg.MaxLen", "cloak/ask.reserved"], loops := true, plainKeys := false, apart := false, laid := [("cloak/ask.reserved", laid_cloak_ask_reserved)] }
def CrowdRelaxSaid : Prop := crowdRelaxRow.holds Tryz.pinned (OpenSpec.ofChange crowdRelaxSpec)

/-- ITS FALSE NEIGHBOUR: 'it returns false'. Refute it at one input. -/
def crowdRelaxWrong : ChangeSpec := { name := "crowdRelax", fn := fun _ => fun
  | [d1, d2, d3, d4] => { results := [.lit (.bool false)], args := [d1, d2, d3, d4] }
  | _ => none }
def CrowdRelaxWrongFalsely : Prop := crowdRelaxRow.holds Tryz.pinned (OpenSpec.ofChange crowdRelaxWrong)

/-- 'cloaklaw09.CrowdCounts': WHATEVER THE INPUT: true; the input reads as it did. -/
def crowdCountsSpec : ChangeSpec := { name := "crowdCounts", fn := fun _ => fun
  | [d1, d2, d3] => { results := [.lit (.bool true)], args := [d1, d2, d3] }
  | _ => none }
def crowdCountsRow : OpenClaim := { program := "ytbcgocpihobjnaagreatdoor", sum := "3f50fc8a6dfad53a28e89e086519072865d0378ebb67745e612a06bb3ec6ceac", func := "cloak/cloaklaw09.CrowdCounts", spec := "crowdCounts", inPlace := ["internal/bytealg.IndexByteString", "internal/bytealg.IndexString"], unfollowed := true, recurses := true, named := ["internal/bytealg.MaxLen", "cloak/ask.reserved"], loops := true, plainKeys := false, apart := false, laid := [("cloak/ask.reserved", laid_cloak_ask_reserved)] }
def CrowdCountsSaid : Prop := crowdCountsRow.holds Tryz.pinned (OpenSpec.ofChange crowdCountsSpec)

/-- ITS FALSE NEIGHBOUR: 'it returns false'. Refute it at one input. -/
def crowdCountsWrong : ChangeSpec := { name := "crowdCounts", fn := fun _ => fun
  | [d1, d2, d3] => { results := [.lit (.bool false)], args := [d1, d2, d3] }
  | _ => none }
def CrowdCountsWrongFalsely : Prop := crowdCountsRow.holds Tryz.pinned (OpenSpec.ofChange crowdCountsWrong)

/-- 'cloaklaw09.CrowdShares': WHATEVER THE INPUT: true; the input reads as it did. -/
def crowdSharesSpec : ChangeSpec := { name := "crowdShares", fn := fun _ => fun
  | [d1, d2] => { results := [.lit (.bool true)], args := [d1, d2] }
  | _ => none }
def crowdSharesRow : OpenClaim := { program := "ytbcgocpihobjnaagreatdoor", sum := "3f50fc8a6dfad53a28e89e086519072865d0378ebb67745e612a06bb3ec6ceac", func := "cloak/cloaklaw09.CrowdShares", spec := "crowdShares", inPlace := ["internal/bytealg.IndexByteString", "internal/bytealg.IndexString"], unfollowed := true, recurses := true, named := ["internal/bytealg.MaxLen", "cloak/ask.reserved"], loops := true, plainKeys := false, apart := false, laid := [("cloak/ask.reserved", laid_cloak_ask_reserved)] }
def CrowdSharesSaid : Prop := crowdSharesRow.holds Tryz.pinned (OpenSpec.ofChange crowdSharesSpec)

/-- ITS FALSE NEIGHBOUR: 'it returns false'. Refute it at one input. -/
def crowdSharesWrong : ChangeSpec := { name := "crowdShares", fn := fun _ => fun
  | [d1, d2] => { results := [.lit (.bool false)], args := [d1, d2] }
  | _ => none }
def CrowdSharesWrongFalsely : Prop := crowdSharesRow.holds Tryz.pinned (OpenSpec.ofChange crowdSharesWrong)

/-- 'cloaklaw09.CrowdTold': WHATEVER THE INPUT: true; the input reads as it did. -/
def crowdToldSpec : ChangeSpec := { name := "crowdTold", fn := fun _ => fun
  | [d1, d2] => { results := [.lit (.bool true)], args := [d1, d2] }
  | _ => none }
def crowdToldRow : OpenClaim := { program := "ytbcgocpihobjnaagreatdoor", sum := "3f50fc8a6dfad53a28e89e086519072865d0378ebb67745e612a06bb3ec6ceac", func := "cloak/cloaklaw09.CrowdTold", spec := "crowdTold", inPlace := ["internal/bytealg.IndexByteString", "internal/bytealg.IndexString"], unfollowed := true, recurses := true, named := ["internal/bytealg.MaxLen", "cloak/ask.reserved"], loops := true, plainKeys := false, apart := false, laid := [("cloak/ask.reserved", laid_cloak_ask_reserved)] }
def CrowdToldSaid : Prop := crowdToldRow.holds Tryz.pinned (OpenSpec.ofChange crowdToldSpec)

/-- ITS FALSE NEIGHBOUR: 'it returns false'. Refute it at one input. -/
def crowdToldWrong : ChangeSpec := { name := "crowdTold", fn := fun _ => fun
  | [d1, d2] => { results := [.lit (.bool false)], args := [d1, d2] }
  | _ => none }
def CrowdToldWrongFalsely : Prop := crowdToldRow.holds Tryz.pinned (OpenSpec.ofChange crowdToldWrong)

/-- 'cloaklaw09.CrowdOpens': WHATEVER THE INPUT: true; the input reads as it did. -/
def crowdOpensSpec : ChangeSpec := { name := "crowdOpens", fn := fun _ => fun
  | [d1, d2, d3] => { results := [.lit (.bool true)], args := [d1, d2, d3] }
  | _ => none }
def crowdOpensRow : OpenClaim := { program := "ytbcgocpihobjnaagreatdoor", sum := "3f50fc8a6dfad53a28e89e086519072865d0378ebb67745e612a06bb3ec6ceac", func := "cloak/cloaklaw09.CrowdOpens", spec := "crowdOpens", inPlace := ["internal/bytealg.IndexByteString", "internal/bytealg.IndexString"], unfollowed := true, recurses := true, named := ["internal/bytealg.MaxLen", "cloak/ask.reserved"], loops := true, plainKeys := false, apart := false, laid := [("cloak/ask.reserved", laid_cloak_ask_reserved)] }
def CrowdOpensSaid : Prop := crowdOpensRow.holds Tryz.pinned (OpenSpec.ofChange crowdOpensSpec)

/-- ITS FALSE NEIGHBOUR: 'it returns false'. Refute it at one input. -/
def crowdOpensWrong : ChangeSpec := { name := "crowdOpens", fn := fun _ => fun
  | [d1, d2, d3] => { results := [.lit (.bool false)], args := [d1, d2, d3] }
  | _ => none }
def CrowdOpensWrongFalsely : Prop := crowdOpensRow.holds Tryz.pinned (OpenSpec.ofChange crowdOpensWrong)

/-- 'cloaklaw09.CrowdTells': WHATEVER THE INPUT: true; the input reads as it did. -/
def crowdTellsSpec : ChangeSpec := { name := "crowdTells", fn := fun _ => fun
  | [d1, d2, d3, d4, d5] => { results := [.lit (.bool true)], args := [d1, d2, d3, d4, d5] }
  | _ => none }
def crowdTellsRow : OpenClaim := { program := "ytbcgocpihobjnaagreatdoor", sum := "3f50fc8a6dfad53a28e89e086519072865d0378ebb67745e612a06bb3ec6ceac", func := "cloak/cloaklaw09.CrowdTells", spec := "crowdTells", inPlace := ["internal/bytealg.IndexByteString", "internal/bytealg.IndexString"], unfollowed := true, recurses := true, named := ["internal/bytealg.MaxLen", "cloak/ask.reserved"], loops := true, plainKeys := false, apart := false, laid := [("cloak/ask.reserved", laid_cloak_ask_reserved)] }
def CrowdTellsSaid : Prop := crowdTellsRow.holds Tryz.pinned (OpenSpec.ofChange crowdTellsSpec)

/-- ITS FALSE NEIGHBOUR: 'it returns false'. Refute it at one input. -/
def crowdTellsWrong : ChangeSpec := { name := "crowdTells", fn := fun _ => fun
  | [d1, d2, d3, d4, d5] => { results := [.lit (.bool false)], args := [d1, d2, d3, d4, d5] }
  | _ => none }
def CrowdTellsWrongFalsely : Prop := crowdTellsRow.holds Tryz.pinned (OpenSpec.ofChange crowdTellsWrong)

/-- 'cloaklaw09.CrowdHall': WHATEVER THE INPUT: true; the input reads as it did. -/
def crowdHallSpec : ChangeSpec := { name := "crowdHall", fn := fun _ => fun
  | [d1, d2, d3, d4] => { results := [.lit (.bool true)], args := [d1, d2, d3, d4] }
  | _ => none }
def crowdHallRow : OpenClaim := { program := "ytbcgocpihobjnaagreatdoor", sum := "3f50fc8a6dfad53a28e89e086519072865d0378ebb67745e612a06bb3ec6ceac", func := "cloak/cloaklaw09.CrowdHall", spec := "crowdHall", inPlace := ["internal/bytealg.IndexByteString", "internal/bytealg.IndexString"], unfollowed := true, recurses := true, named := ["internal/bytealg.MaxLen", "cloak/ask.reserved"], loops := true, plainKeys := false, apart := false, laid := [("cloak/ask.reserved", laid_cloak_ask_reserved)] }
def CrowdHallSaid : Prop := crowdHallRow.holds Tryz.pinned (OpenSpec.ofChange crowdHallSpec)

/-- ITS FALSE NEIGHBOUR: 'it returns false'. Refute it at one input. -/
def crowdHallWrong : ChangeSpec := { name := "crowdHall", fn := fun _ => fun
  | [d1, d2, d3, d4] => { results := [.lit (.bool false)], args := [d1, d2, d3, d4] }
  | _ => none }
def CrowdHallWrongFalsely : Prop := crowdHallRow.holds Tryz.pinned (OpenSpec.ofChange crowdHallWrong)

/-- 'cloaklaw09.CrowdExact': WHATEVER THE INPUT: true; the input reads as it did. -/
def crowdExactSpec : ChangeSpec := { name := "crowdExact", fn := fun _ => fun
  | [d] => { results := [.lit (.bool true)], args := [d] }
  | _ => none }
def crowdExactRow : OpenClaim := { program := "ytbcgocpihobjnaagreatdoor", sum := "3f50fc8a6dfad53a28e89e086519072865d0378ebb67745e612a06bb3ec6ceac", func := "cloak/cloaklaw09.CrowdExact", spec := "crowdExact", inPlace := ["internal/bytealg.IndexByteString", "internal/bytealg.IndexString"], unfollowed := true, recurses := true, named := ["internal/bytealg.MaxLen", "cloak/ask.reserved"], loops := true, plainKeys := false, apart := false, laid := [("cloak/ask.reserved", laid_cloak_ask_reserved)] }
def CrowdExactSaid : Prop := crowdExactRow.holds Tryz.pinned (OpenSpec.ofChange crowdExactSpec)

/-- ITS FALSE NEIGHBOUR: 'it returns false'. Refute it at one input. -/
def crowdExactWrong : ChangeSpec := { name := "crowdExact", fn := fun _ => fun
  | [d] => { results := [.lit (.bool false)], args := [d] }
  | _ => none }
def CrowdExactWrongFalsely : Prop := crowdExactRow.holds Tryz.pinned (OpenSpec.ofChange crowdExactWrong)

/-- 'cloaklaw09.CrowdImplied': WHATEVER THE INPUT: true; the input reads as it did. -/
def crowdImpliedSpec : ChangeSpec := { name := "crowdImplied", fn := fun _ => fun
  | [d1, d2, d3, d4] => { results := [.lit (.bool true)], args := [d1, d2, d3, d4] }
  | _ => none }
def crowdImpliedRow : OpenClaim := { program := "ytbcgocpihobjnaagreatdoor", sum := "3f50fc8a6dfad53a28e89e086519072865d0378ebb67745e612a06bb3ec6ceac", func := "cloak/cloaklaw09.CrowdImplied", spec := "crowdImplied", inPlace := ["internal/bytealg.IndexByteString", "internal/bytealg.IndexString"], unfollowed := true, recurses := true, named := ["internal/bytealg.MaxLen", "cloak/ask.reserved"], loops := true, plainKeys := false, apart := false, laid := [("cloak/ask.reserved", laid_cloak_ask_reserved)] }
def CrowdImpliedSaid : Prop := crowdImpliedRow.holds Tryz.pinned (OpenSpec.ofChange crowdImpliedSpec)

/-- ITS FALSE NEIGHBOUR: 'it returns false'. Refute it at one input. -/
def crowdImpliedWrong : ChangeSpec := { name := "crowdImplied", fn := fun _ => fun
  | [d1, d2, d3, d4] => { results := [.lit (.bool false)], args := [d1, d2, d3, d4] }
  | _ => none }
def CrowdImpliedWrongFalsely : Prop := crowdImpliedRow.holds Tryz.pinned (OpenSpec.ofChange crowdImpliedWrong)

/- THE SECOND FORM. 'bulk': how many values and letters a reading holds, each counted each time it is reached (what is shared counts as often as it is met; a slice's spare places count too). A statement '..UptoSaid' is the law's where the arguments, and the package variables that the reading takes, are together of bulk at most 1048576: NARROWER than '..Said'. Prove '..Said' where nothing that the law and all that it calls make is longer than what came in: it says more and counts as full. Else prove '..UptoSaid'. A law counts once. -/
mutual
def uptoBulk {H : Type} : DataW H → Nat
  | .lit (.string bytes) => bytes.length + 1
  | .lit _ => 1
  | .nil => 1
  | .ptr d => uptoBulk d + 1
  | .slice elems spare => uptoBulkAll elems + uptoBulkAll spare + 1
  | .agg parts => uptoBulkAll parts + 1
  | .iface _ d => uptoBulk d + 1
  | .map entries => uptoBulkEntries entries + 1
  | .held _ => 1
def uptoBulkAll {H : Type} : List (DataW H) → Nat
  | [] => 0
  | d :: r => uptoBulk d + uptoBulkAll r
def uptoBulkEntries {H : Type} : List (Lit × DataW H) → Nat
  | [] => 0
  | x :: r => uptoBulkEntry x + uptoBulkEntries r
def uptoBulkEntry {H : Type} : Lit × DataW H → Nat
  | (.string bytes, d) => bytes.length + uptoBulk d + 1
  | (_, d) => uptoBulk d + 1
 end
def uptoSmall : (H : Type) → List (DataW H) → Bool := fun _ ds => decide (uptoBulkAll ds ≤ 1048576)
def OpenSpec.upto (s : _root_.Go.ChangeSpec) : _root_.Go.OpenSpec := { _root_.Go.OpenSpec.ofChange s with cond := some uptoSmall }

/-- 'cloaklaw09.CrowdGroups', WHERE WHAT IT READS IS OF BULK AT MOST 1048576: true; the input reads as it did. -/
def crowdGroupsUptoRow : OpenClaim := { program := "ytbcgocpihobjnaagreatdoor", sum := "3f50fc8a6dfad53a28e89e086519072865d0378ebb67745e612a06bb3ec6ceac", func := "cloak/cloaklaw09.CrowdGroups", spec := "crowdGroups", inPlace := ["internal/bytealg.IndexByteString", "internal/bytealg.IndexString"], unfollowed := true, recurses := true, named := ["internal/bytealg.MaxLen", "cloak/ask.reserved"], loops := true, plainKeys := false, apart := false, laid := [("cloak/ask.reserved", laid_cloak_ask_reserved)], narrowed := true }
def CrowdGroupsUptoSaid : Prop := crowdGroupsUptoRow.holds Tryz.pinned (OpenSpec.upto crowdGroupsSpec)

/-- 'cloaklaw09.CrowdMore', WHERE WHAT IT READS IS OF BULK AT MOST 1048576: true; the input reads as it did. -/
def crowdMoreUptoRow : OpenClaim := { program := "ytbcgocpihobjnaagreatdoor", sum := "3f50fc8a6dfad53a28e89e086519072865d0378ebb67745e612a06bb3ec6ceac", func := "cloak/cloaklaw09.CrowdMore", spec := "crowdMore", inPlace := ["internal/bytealg.IndexByteString", "internal/bytealg.IndexString"], unfollowed := true, recurses := true, named := ["internal/bytealg.MaxLen", "cloak/ask.reserved"], loops := true, plainKeys := false, apart := false, laid := [("cloak/ask.reserved", laid_cloak_ask_reserved)], narrowed := true }
def CrowdMoreUptoSaid : Prop := crowdMoreUptoRow.holds Tryz.pinned (OpenSpec.upto crowdMoreSpec)

/-- 'cloaklaw09.CrowdTurns', WHERE WHAT IT READS IS OF BULK AT MOST 1048576: true; the input reads as it did. -/
def crowdTurnsUptoRow : OpenClaim := { program := "ytbcgocpihobjnaagreatdoor", sum := "3f50fc8a6dfad53a28e89e086519072865d0378ebb67745e612a06bb3ec6ceac", func := "cloak/cloaklaw09.CrowdTurns", spec := "crowdTurns", inPlace := ["internal/bytealg.IndexByteString", "internal/bytealg.IndexString"], unfollowed := true, recurses := true, named := ["internal/bytealg.MaxLen", "cloak/ask.reserved"], loops := true, plainKeys := false, apart := false, laid := [("cloak/ask.reserved", laid_cloak_ask_reserved)], narrowed := true }
def CrowdTurnsUptoSaid : Prop := crowdTurnsUptoRow.holds Tryz.pinned (OpenSpec.upto crowdTurnsSpec)

/-- 'cloaklaw09.CrowdUnion', WHERE WHAT IT READS IS OF BULK AT MOST 1048576: true; the input reads as it did. -/
def crowdUnionUptoRow : OpenClaim := { program := "ytbcgocpihobjnaagreatdoor", sum := "3f50fc8a6dfad53a28e89e086519072865d0378ebb67745e612a06bb3ec6ceac", func := "cloak/cloaklaw09.CrowdUnion", spec := "crowdUnion", inPlace := ["internal/bytealg.IndexByteString", "internal/bytealg.IndexString"], unfollowed := true, recurses := true, named := ["internal/bytealg.MaxLen", "cloak/ask.reserved"], loops := true, plainKeys := false, apart := false, laid := [("cloak/ask.reserved", laid_cloak_ask_reserved)], narrowed := true }
def CrowdUnionUptoSaid : Prop := crowdUnionUptoRow.holds Tryz.pinned (OpenSpec.upto crowdUnionSpec)

/-- 'cloaklaw09.CrowdExplains', WHERE WHAT IT READS IS OF BULK AT MOST 1048576: true; the input reads as it did. -/
def crowdExplainsUptoRow : OpenClaim := { program := "ytbcgocpihobjnaagreatdoor", sum := "3f50fc8a6dfad53a28e89e086519072865d0378ebb67745e612a06bb3ec6ceac", func := "cloak/cloaklaw09.CrowdExplains", spec := "crowdExplains", inPlace := ["internal/bytealg.IndexByteString", "internal/bytealg.IndexString"], unfollowed := true, recurses := true, named := ["internal/bytealg.MaxLen", "cloak/ask.reserved"], loops := true, plainKeys := false, apart := false, laid := [("cloak/ask.reserved", laid_cloak_ask_reserved)], narrowed := true }
def CrowdExplainsUptoSaid : Prop := crowdExplainsUptoRow.holds Tryz.pinned (OpenSpec.upto crowdExplainsSpec)

/-- 'cloaklaw09.CrowdPlans', WHERE WHAT IT READS IS OF BULK AT MOST 1048576: true; the input reads as it did. -/
def crowdPlansUptoRow : OpenClaim := { program := "ytbcgocpihobjnaagreatdoor", sum := "3f50fc8a6dfad53a28e89e086519072865d0378ebb67745e612a06bb3ec6ceac", func := "cloak/cloaklaw09.CrowdPlans", spec := "crowdPlans", inPlace := ["internal/bytealg.IndexByteString", "internal/bytealg.IndexString"], unfollowed := true, recurses := true, named := ["internal/bytealg.MaxLen", "cloak/ask.reserved"], loops := true, plainKeys := false, apart := false, laid := [("cloak/ask.reserved", laid_cloak_ask_reserved)], narrowed := true }
def CrowdPlansUptoSaid : Prop := crowdPlansUptoRow.holds Tryz.pinned (OpenSpec.upto crowdPlansSpec)

/-- 'cloaklaw09.CrowdRelax', WHERE WHAT IT READS IS OF BULK AT MOST 1048576: true; the input reads as it did. -/
def crowdRelaxUptoRow : OpenClaim := { program := "ytbcgocpihobjnaagreatdoor", sum := "3f50fc8a6dfad53a28e89e086519072865d0378ebb67745e612a06bb3ec6ceac", func := "cloak/cloaklaw09.CrowdRelax", spec := "crowdRelax", inPlace := ["internal/bytealg.IndexByteString", "internal/bytealg.IndexString"], unfollowed := true, recurses := true, named := ["internal/bytealg.MaxLen", "cloak/ask.reserved"], loops := true, plainKeys := false, apart := false, laid := [("cloak/ask.reserved", laid_cloak_ask_reserved)], narrowed := true }
def CrowdRelaxUptoSaid : Prop := crowdRelaxUptoRow.holds Tryz.pinned (OpenSpec.upto crowdRelaxSpec)

/-- 'cloaklaw09.CrowdCounts', WHERE WHAT IT READS IS OF BULK AT MOST 1048576: true; the input reads as it did. -/
def crowdCountsUptoRow : OpenClaim := { program := "ytbcgocpihobjnaagreatdoor", sum := "3f50fc8a6dfad53a28e89e086519072865d0378ebb67745e612a06bb3ec6ceac", func := "cloak/cloaklaw09.CrowdCounts", spec := "crowdCounts", inPlace := ["internal/bytealg.IndexByteString", "internal/bytealg.IndexString"], unfollowed := true, recurses := true, named := ["internal/bytealg.MaxLen", "cloak/ask.reserved"], loops := true, plainKeys := false, apart := false, laid := [("cloak/ask.reserved", laid_cloak_ask_reserved)], narrowed := true }
def CrowdCountsUptoSaid : Prop := crowdCountsUptoRow.holds Tryz.pinned (OpenSpec.upto crowdCountsSpec)

/-- 'cloaklaw09.CrowdShares', WHERE WHAT IT READS IS OF BULK AT MOST 1048576: true; the input reads as it did. -/
def crowdSharesUptoRow : OpenClaim := { program := "ytbcgocpihobjnaagreatdoor", sum := "3f50fc8a6dfad53a28e89e086519072865d0378ebb67745e612a06bb3ec6ceac", func := "cloak/cloaklaw09.CrowdShares", spec := "crowdShares", inPlace := ["internal/bytealg.IndexByteString", "internal/bytealg.IndexString"], unfollowed := true, recurses := true, named := ["internal/bytealg.MaxLen", "cloak/ask.reserved"], loops := true, plainKeys := false, apart := false, laid := [("cloak/ask.reserved", laid_cloak_ask_reserved)], narrowed := true }
def CrowdSharesUptoSaid : Prop := crowdSharesUptoRow.holds Tryz.pinned (OpenSpec.upto crowdSharesSpec)

/-- 'cloaklaw09.CrowdTold', WHERE WHAT IT READS IS OF BULK AT MOST 1048576: true; the input reads as it did. -/
def crowdToldUptoRow : OpenClaim := { program := "ytbcgocpihobjnaagreatdoor", sum := "3f50fc8a6dfad53a28e89e086519072865d0378ebb67745e612a06bb3ec6ceac", func := "cloak/cloaklaw09.CrowdTold", spec := "crowdTold", inPlace := ["internal/bytealg.IndexByteString", "internal/bytealg.IndexString"], unfollowed := true, recurses := true, named := ["internal/bytealg.MaxLen", "cloak/ask.reserved"], loops := true, plainKeys := false, apart := false, laid := [("cloak/ask.reserved", laid_cloak_ask_reserved)], narrowed := true }
def CrowdToldUptoSaid : Prop := crowdToldUptoRow.holds Tryz.pinned (OpenSpec.upto crowdToldSpec)

/-- 'cloaklaw09.CrowdOpens', WHERE WHAT IT READS IS OF BULK AT MOST 1048576: true; the input reads as it did. -/
def crowdOpensUptoRow : OpenClaim := { program := "ytbcgocpihobjnaagreatdoor", sum := "3f50fc8a6dfad53a28e89e086519072865d0378ebb67745e612a06bb3ec6ceac", func := "cloak/cloaklaw09.CrowdOpens", spec := "crowdOpens", inPlace := ["internal/bytealg.IndexByteString", "internal/bytealg.IndexString"], unfollowed := true, recurses := true, named := ["internal/bytealg.MaxLen", "cloak/ask.reserved"], loops := true, plainKeys := false, apart := false, laid := [("cloak/ask.reserved", laid_cloak_ask_reserved)], narrowed := true }
def CrowdOpensUptoSaid : Prop := crowdOpensUptoRow.holds Tryz.pinned (OpenSpec.upto crowdOpensSpec)

/-- 'cloaklaw09.CrowdTells', WHERE WHAT IT READS IS OF BULK AT MOST 1048576: true; the input reads as it did. -/
def crowdTellsUptoRow : OpenClaim := { program := "ytbcgocpihobjnaagreatdoor", sum := "3f50fc8a6dfad53a28e89e086519072865d0378ebb67745e612a06bb3ec6ceac", func := "cloak/cloaklaw09.CrowdTells", spec := "crowdTells", inPlace := ["internal/bytealg.IndexByteString", "internal/bytealg.IndexString"], unfollowed := true, recurses := true, named := ["internal/bytealg.MaxLen", "cloak/ask.reserved"], loops := true, plainKeys := false, apart := false, laid := [("cloak/ask.reserved", laid_cloak_ask_reserved)], narrowed := true }
def CrowdTellsUptoSaid : Prop := crowdTellsUptoRow.holds Tryz.pinned (OpenSpec.upto crowdTellsSpec)

/-- 'cloaklaw09.CrowdHall', WHERE WHAT IT READS IS OF BULK AT MOST 1048576: true; the input reads as it did. -/
def crowdHallUptoRow : OpenClaim := { program := "ytbcgocpihobjnaagreatdoor", sum := "3f50fc8a6dfad53a28e89e086519072865d0378ebb67745e612a06bb3ec6ceac", func := "cloak/cloaklaw09.CrowdHall", spec := "crowdHall", inPlace := ["internal/bytealg.IndexByteString", "internal/bytealg.IndexString"], unfollowed := true, recurses := true, named := ["internal/bytealg.MaxLen", "cloak/ask.reserved"], loops := true, plainKeys := false, apart := false, laid := [("cloak/ask.reserved", laid_cloak_ask_reserved)], narrowed := true }
def CrowdHallUptoSaid : Prop := crowdHallUptoRow.holds Tryz.pinned (OpenSpec.upto crowdHallSpec)

/-- 'cloaklaw09.CrowdExact', WHERE WHAT IT READS IS OF BULK AT MOST 1048576: true; the input reads as it did. -/
def crowdExactUptoRow : OpenClaim := { program := "ytbcgocpihobjnaagreatdoor", sum := "3f50fc8a6dfad53a28e89e086519072865d0378ebb67745e612a06bb3ec6ceac", func := "cloak/cloaklaw09.CrowdExact", spec := "crowdExact", inPlace := ["internal/bytealg.IndexByteString", "internal/bytealg.IndexString"], unfollowed := true, recurses := true, named := ["internal/bytealg.MaxLen", "cloak/ask.reserved"], loops := true, plainKeys := false, apart := false, laid := [("cloak/ask.reserved", laid_cloak_ask_reserved)], narrowed := true }
def CrowdExactUptoSaid : Prop := crowdExactUptoRow.holds Tryz.pinned (OpenSpec.upto crowdExactSpec)

/-- 'cloaklaw09.CrowdImplied', WHERE WHAT IT READS IS OF BULK AT MOST 1048576: true; the input reads as it did. -/
def crowdImpliedUptoRow : OpenClaim := { program := "ytbcgocpihobjnaagreatdoor", sum := "3f50fc8a6dfad53a28e89e086519072865d0378ebb67745e612a06bb3ec6ceac", func := "cloak/cloaklaw09.CrowdImplied", spec := "crowdImplied", inPlace := ["internal/bytealg.IndexByteString", "internal/bytealg.IndexString"], unfollowed := true, recurses := true, named := ["internal/bytealg.MaxLen", "cloak/ask.reserved"], loops := true, plainKeys := false, apart := false, laid := [("cloak/ask.reserved", laid_cloak_ask_reserved)], narrowed := true }
def CrowdImpliedUptoSaid : Prop := crowdImpliedUptoRow.holds Tryz.pinned (OpenSpec.upto crowdImpliedSpec)

end Rows
end Go.Proofs.YtbcgocpihobjnaaGreatDoor
