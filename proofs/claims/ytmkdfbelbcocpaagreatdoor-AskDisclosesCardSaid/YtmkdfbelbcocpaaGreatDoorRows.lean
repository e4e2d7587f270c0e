/-
  NARROWER THAN 'FOR EVERY INPUT', by the rows' own cells (each row's printed sentence says how): AskParses: laid · AskBack: loops, laid · AskJoins: loops, laid · AskPrime: loops, laid · AskNormals: loops, laid · AskNormal: loops, laid · AskCycles: loops, laid · AskDiscloses: loops, laid · AskImplies: loops, laid · AskCounts: loops, laid · AskLeast: loops, laid · AskSat: loops, laid · AskNegates: loops, laid.
  DERIVED. THE GIVEN ROWS OF THIS SEAT. 13 by the template 'for every input the law returns true; each argument reads behind the call as it read before'; 0 by the template 'total and deterministic' (their statements: YtmkdfbelbcocpaaGreatDoorTotals.lean).
  GIVEN WITH THE SEED: the statements are not yours to turn. If you find one false, say at which input.
  Laid BY PROGRAM, IN A SANDBOX (cutbox-rows.mjs): the forced cells as the released guide's own fill.sh prints them over the translation d076c53d045e157c… (all of the seat's roots in one cut). By AI agents, Wed Nov 11 2026. No macro, syntax, notation, axiom, sorry.
-/
import Derived.Test.YtmkdfbelbcocpaaGreatDoorChecked
import GoSem.Claim
import GoSem.ClaimJoined
import GoSem.ClaimMapViews
import Derived.JoinedTies
import Derived.KernelRfl
namespace Go.Proofs.YtmkdfbelbcocpaaGreatDoor
/- THE CELL 'sum', in the pinned program and in every row, IS THE sha256 OF THE DUMP (.gsa) THAT YtmkdfbelbcocpaaGreatDoorProg.lean LOADS. Nothing in Lean hashes anything: it is a label: what it is worth is what the hold of that sum in a sandbox is worth. -/
noncomputable def Tryz.pinned : Pinned := { name := "ytmkdfbelbcocpaagreatdoor", sum := "d076c53d045e157cda9091e3c2a4b73edb3e4fdfb16d47ff005b8941c50f614f", checked := Tryz.checked }
namespace Rows
def none {H : Type} : Left H := { results := [], args := [] }

/- WHAT THE LISTED PACKAGE-LEVEL VARIABLES READ AS WHEN THE CALL BEGINS. Each datum BY PROGRAM (the guide's laid-datum.mjs) off the statement by which the dump's own 'gosem.cut.vars' lays the variable. In a bare row this is a premise. The card (YtmkdfbelbcocpaaGreatDoorCards.lean) ties it to the program's text. -/
def laid_math_bits_deBruijn32tab {H : Type} : DataW H := .agg [.lit (.int .u8 0), .lit (.int .u8 1), .lit (.int .u8 28), .lit (.int .u8 2), .lit (.int .u8 29), .lit (.int .u8 14), .lit (.int .u8 24), .lit (.int .u8 3), .lit (.int .u8 30), .lit (.int .u8 22), .lit (.int .u8 20), .lit (.int .u8 15), .lit (.int .u8 25), .lit (.int .u8 17), .lit (.int .u8 4), .lit (.int .u8 8), .lit (.int .u8 31), .lit (.int .u8 27), .lit (.int .u8 13), .lit (.int .u8 23), .lit (.int .u8 21), .lit (.int .u8 19), .lit (.int .u8 16), .lit (.int .u8 7), .lit (.int .u8 26), .lit (.int .u8 12), .lit (.int .u8 18), .lit (.int .u8 6), .lit (.int .u8 11), .lit (.int .u8 5), .lit (.int .u8 10), .lit (.int .u8 9)]
def laid_math_bits_deBruijn64tab {H : Type} : DataW H := .agg [.lit (.int .u8 0), .lit (.int .u8 1), .lit (.int .u8 56), .lit (.int .u8 2), .lit (.int .u8 57), .lit (.int .u8 49), .lit (.int .u8 28), .lit (.int .u8 3), .lit (.int .u8 61), .lit (.int .u8 58), .lit (.int .u8 42), .lit (.int .u8 50), .lit (.int .u8 38), .lit (.int .u8 29), .lit (.int .u8 17), .lit (.int .u8 4), .lit (.int .u8 62), .lit (.int .u8 47), .lit (.int .u8 59), .lit (.int .u8 36), .lit (.int .u8 45), .lit (.int .u8 43), .lit (.int .u8 51), .lit (.int .u8 22), .lit (.int .u8 53), .lit (.int .u8 39), .lit (.int .u8 33), .lit (.int .u8 30), .lit (.int .u8 24), .lit (.int .u8 18), .lit (.int .u8 12), .lit (.int .u8 5), .lit (.int .u8 63), .lit (.int .u8 55), .lit (.int .u8 48), .lit (.int .u8 27), .lit (.int .u8 60), .lit (.int .u8 41), .lit (.int .u8 37), .lit (.int .u8 16), .lit (.int .u8 46), .lit (.int .u8 35), .lit (.int .u8 44), .lit (.int .u8 21), .lit (.int .u8 52), .lit (.int .u8 32), .lit (.int .u8 23), .lit (.int .u8 11), .lit (.int .u8 54), .lit (.int .u8 26), .lit (.int .u8 40), .lit (.int .u8 15), .lit (.int .u8 34), .lit (.int .u8 20), .lit (.int .u8 31), .lit (.int .u8 10), .lit (.int .u8 25), .lit (.int .u8 14), .lit (.int .u8 19), .lit (.int .u8 9), .lit (.int .u8 13), .lit (.int .u8 8), .lit (.int .u8 7), .lit (.int .u8 6)]
def laid_internal_strconv_uint64pow10 {H : Type} : DataW H := .agg [.lit (.int .u64 1), .lit (.int .u64 10), .lit (.int .u64 100), .lit (.int .u64 1000), .lit (.int .u64 10000), .lit (.int .u64 100000), .lit (.int .u64 1000000), .lit (.int .u64 10000000), .lit (.int .u64 100000000), .lit (.int .u64 1000000000), .lit (.int .u64 10000000000), .lit (.int .u64 100000000000), .lit (.int .u64 1000000000000), .lit (.int .u64 10000000000000), .lit (.int .u64 100000000000000), .lit (.int .u64 1000000000000000), .lit (.int .u64 10000000000000000), .lit (.int .u64 100000000000000000), .lit (.int .u64 1000000000000000000), .lit (.int .u64 10000000000000000000)]
def laid_cloak_base_signs {H : Type} : DataW H := .agg [.lit (.string [46, 46]), .lit (.string [33, 61]), .lit (.string [60, 61]), .lit (.string [62, 61]), .lit (.string [40]), .lit (.string [41]), .lit (.string [123]), .lit (.string [125]), .lit (.string [44]), .lit (.string [59]), .lit (.string [58]), .lit (.string [46]), .lit (.string [61]), .lit (.string [60]), .lit (.string [62]), .lit (.string [43]), .lit (.string [45]), .lit (.string [42]), .lit (.string [47])]
def laid_cloak_ask_reserved {H : Type} : DataW H := .slice [.lit (.string [113, 117, 101, 115, 116, 105, 111, 110]), .lit (.string [97, 110, 100]), .lit (.string [111, 114]), .lit (.string [110, 111, 116]), .lit (.string [97, 116]), .lit (.string [108, 101, 97, 115, 116]), .lit (.string [111, 102]), .lit (.string [105, 110])] []

/-- 'cloaklaw05.AskParses': WHATEVER THE INPUT: true; the input reads as it did. -/
def askParsesSpec : ChangeSpec := { name := "askParses", fn := fun _ => fun
  | [d] => { results := [.lit (.bool true)], args := [d] }
  | _ => none }
def askParsesRow : OpenClaim := { program := "ytmkdfbelbcocpaagreatdoor", sum := "d076c53d045e157cda9091e3c2a4b73edb3e4fdfb16d47ff005b8941c50f614f", func := "cloak/cloaklaw05.AskParses", spec := "askParses", inPlace := ["internal/bytealg.IndexByteString", "internal/bytealg.IndexString", "internal/abi.NoEscape", "internal/bytealg.MakeNoZero"], unfollowed := true, recurses := true, named := ["cloak/base.signs", "cloak/ask.reserved", "internal/bytealg.MaxLen", "internal/strconv.uint64pow10", "math/bits.deBruijn32tab", "math/bits.deBruijn64tab"], plainKeys := false, apart := false, laid := [("math/bits.deBruijn32tab", laid_math_bits_deBruijn32tab), ("math/bits.deBruijn64tab", laid_math_bits_deBruijn64tab), ("internal/strconv.uint64pow10", laid_internal_strconv_uint64pow10), ("cloak/base.signs", laid_cloak_base_signs), ("cloak/ask.reserved", laid_cloak_ask_reserved)] }
def AskParsesSaid : Prop := askParsesRow.holds Tryz.pinned (OpenSpec.ofChange askParsesSpec)

/-- ITS FALSE NEIGHBOUR: 'it returns false'. Refute it at one input. -/
def askParsesWrong : ChangeSpec := { name := "askParses", fn := fun _ => fun
  | [d] => { results := [.lit (.bool false)], args := [d] }
  | _ => none }
def AskParsesWrongFalsely : Prop := askParsesRow.holds Tryz.pinned (OpenSpec.ofChange askParsesWrong)

/-- 'cloaklaw05.AskBack': WHATEVER THE INPUT: true; the input reads as it did. -/
def askBackSpec : ChangeSpec := { name := "askBack", fn := fun _ => fun
  | [d1, d2, d3] => { results := [.lit (.bool true)], args := [d1, d2, d3] }
  | _ => none }
def askBackRow : OpenClaim := { program := "ytmkdfbelbcocpaagreatdoor", sum := "d076c53d045e157cda9091e3c2a4b73edb3e4fdfb16d47ff005b8941c50f614f", func := "cloak/cloaklaw05.AskBack", spec := "askBack", inPlace := ["internal/bytealg.IndexByteString", "internal/bytealg.IndexString", "internal/abi.NoEscape", "internal/bytealg.MakeNoZero"], unfollowed := true, recurses := true, named := ["cloak/base.signs", "cloak/ask.reserved", "internal/bytealg.MaxLen", "internal/strconv.uint64pow10", "math/bits.deBruijn32tab", "math/bits.deBruijn64tab"], loops := true, plainKeys := false, apart := false, laid := [("math/bits.deBruijn32tab", laid_math_bits_deBruijn32tab), ("math/bits.deBruijn64tab", laid_math_bits_deBruijn64tab), ("internal/strconv.uint64pow10", laid_internal_strconv_uint64pow10), ("cloak/base.signs", laid_cloak_base_signs), ("cloak/ask.reserved", laid_cloak_ask_reserved)] }
def AskBackSaid : Prop := askBackRow.holds Tryz.pinned (OpenSpec.ofChange askBackSpec)

/-- ITS FALSE NEIGHBOUR: 'it returns false'. Refute it at one input. -/
def askBackWrong : ChangeSpec := { name := "askBack", fn := fun _ => fun
  | [d1, d2, d3] => { results := [.lit (.bool false)], args := [d1, d2, d3] }
  | _ => none }
def AskBackWrongFalsely : Prop := askBackRow.holds Tryz.pinned (OpenSpec.ofChange askBackWrong)

/-- 'cloaklaw05.AskJoins': WHATEVER THE INPUT: true; the input reads as it did. -/
def askJoinsSpec : ChangeSpec := { name := "askJoins", fn := fun _ => fun
  | [d1, d2] => { results := [.lit (.bool true)], args := [d1, d2] }
  | _ => none }
def askJoinsRow : OpenClaim := { program := "ytmkdfbelbcocpaagreatdoor", sum := "d076c53d045e157cda9091e3c2a4b73edb3e4fdfb16d47ff005b8941c50f614f", func := "cloak/cloaklaw05.AskJoins", spec := "askJoins", inPlace := ["internal/bytealg.IndexByteString", "internal/bytealg.IndexString", "internal/abi.NoEscape", "internal/bytealg.MakeNoZero"], unfollowed := true, recurses := true, named := ["cloak/base.signs", "cloak/ask.reserved", "internal/bytealg.MaxLen", "internal/strconv.uint64pow10", "math/bits.deBruijn32tab", "math/bits.deBruijn64tab"], loops := true, plainKeys := false, apart := false, laid := [("math/bits.deBruijn32tab", laid_math_bits_deBruijn32tab), ("math/bits.deBruijn64tab", laid_math_bits_deBruijn64tab), ("internal/strconv.uint64pow10", laid_internal_strconv_uint64pow10), ("cloak/base.signs", laid_cloak_base_signs), ("cloak/ask.reserved", laid_cloak_ask_reserved)] }
def AskJoinsSaid : Prop := askJoinsRow.holds Tryz.pinned (OpenSpec.ofChange askJoinsSpec)

/-- ITS FALSE NEIGHBOUR: 'it returns false'. Refute it at one input. -/
def askJoinsWrong : ChangeSpec := { name := "askJoins", fn := fun _ => fun
  | [d1, d2] => { results := [.lit (.bool false)], args := [d1, d2] }
  | _ => none }
def AskJoinsWrongFalsely : Prop := askJoinsRow.holds Tryz.pinned (OpenSpec.ofChange askJoinsWrong)

/-- 'cloaklaw05.AskPrime': WHATEVER THE INPUT: true; the input reads as it did. -/
def askPrimeSpec : ChangeSpec := { name := "askPrime", fn := fun _ => fun
  | [d] => { results := [.lit (.bool true)], args := [d] }
  | _ => none }
def askPrimeRow : OpenClaim := { program := "ytmkdfbelbcocpaagreatdoor", sum := "d076c53d045e157cda9091e3c2a4b73edb3e4fdfb16d47ff005b8941c50f614f", func := "cloak/cloaklaw05.AskPrime", spec := "askPrime", inPlace := ["internal/bytealg.IndexByteString", "internal/bytealg.IndexString", "internal/abi.NoEscape", "internal/bytealg.MakeNoZero"], unfollowed := true, recurses := true, named := ["cloak/base.signs", "cloak/ask.reserved", "internal/bytealg.MaxLen", "internal/strconv.uint64pow10", "math/bits.deBruijn32tab", "math/bits.deBruijn64tab"], loops := true, plainKeys := false, apart := false, laid := [("math/bits.deBruijn32tab", laid_math_bits_deBruijn32tab), ("math/bits.deBruijn64tab", laid_math_bits_deBruijn64tab), ("internal/strconv.uint64pow10", laid_internal_strconv_uint64pow10), ("cloak/base.signs", laid_cloak_base_signs), ("cloak/ask.reserved", laid_cloak_ask_reserved)] }
def AskPrimeSaid : Prop := askPrimeRow.holds Tryz.pinned (OpenSpec.ofChange askPrimeSpec)

/-- ITS FALSE NEIGHBOUR: 'it returns false'. Refute it at one input. -/
def askPrimeWrong : ChangeSpec := { name := "askPrime", fn := fun _ => fun
  | [d] => { results := [.lit (.bool false)], args := [d] }
  | _ => none }
def AskPrimeWrongFalsely : Prop := askPrimeRow.holds Tryz.pinned (OpenSpec.ofChange askPrimeWrong)

/-- 'cloaklaw05.AskNormals': WHATEVER THE INPUT: true; the input reads as it did. -/
def askNormalsSpec : ChangeSpec := { name := "askNormals", fn := fun _ => fun
  | [d1, d2, d3] => { results := [.lit (.bool true)], args := [d1, d2, d3] }
  | _ => none }
def askNormalsRow : OpenClaim := { program := "ytmkdfbelbcocpaagreatdoor", sum := "d076c53d045e157cda9091e3c2a4b73edb3e4fdfb16d47ff005b8941c50f614f", func := "cloak/cloaklaw05.AskNormals", spec := "askNormals", inPlace := ["internal/bytealg.IndexByteString", "internal/bytealg.IndexString", "internal/abi.NoEscape", "internal/bytealg.MakeNoZero"], unfollowed := true, recurses := true, named := ["cloak/base.signs", "cloak/ask.reserved", "internal/bytealg.MaxLen", "internal/strconv.uint64pow10", "math/bits.deBruijn32tab", "math/bits.deBruijn64tab"], loops := true, plainKeys := false, apart := false, laid := [("math/bits.deBruijn32tab", laid_math_bits_deBruijn32tab), ("math/bits.deBruijn64tab", laid_math_bits_deBruijn64tab), ("internal/strconv.uint64pow10", laid_internal_strconv_uint64pow10), ("cloak/base.signs", laid_cloak_base_signs), ("cloak/ask.reserved", laid_cloak_ask_reserved)] }
def AskNormalsSaid : Prop := askNormalsRow.holds Tryz.pinned (OpenSpec.ofChange askNormalsSpec)

/-- ITS FALSE NEIGHBOUR: 'it returns false'. Refute it at one input. -/
def askNormalsWrong : ChangeSpec := { name := "askNormals", fn := fun _ => fun
  | [d1, d2, d3] => { results := [.lit (.bool false)], args := [d1, d2, d3] }
  | _ => none }
def AskNormalsWrongFalsely : Prop := askNormalsRow.holds Tryz.pinned (OpenSpec.ofChange askNormalsWrong)

/-- 'cloaklaw05.AskNormal': WHATEVER THE INPUT: true; the input reads as it did. -/
def askNormalSpec : ChangeSpec := { name := "askNormal", fn := fun _ => fun
  | [d1, d2] => { results := [.lit (.bool true)], args := [d1, d2] }
  | _ => none }
def askNormalRow : OpenClaim := { program := "ytmkdfbelbcocpaagreatdoor", sum := "d076c53d045e157cda9091e3c2a4b73edb3e4fdfb16d47ff005b8941c50f614f", func := "cloak/cloaklaw05.AskNormal", spec := "askNormal", inPlace := ["internal/bytealg.IndexByteString", "internal/bytealg.IndexString", "internal/abi.NoEscape", "internal/bytealg.MakeNoZero"], unfollowed := true, recurses := true, named := ["cloak/base.signs", "cloak/ask.reserved", "internal/bytealg.MaxLen", "internal/strconv.uint64pow10", "math/bits.deBruijn32tab", "math/bits.deBruijn64tab"], loops := true, plainKeys := false, apart := false, laid := [("math/bits.deBruijn32tab", laid_math_bits_deBruijn32tab), ("math/bits.deBruijn64tab", laid_math_bits_deBruijn64tab), ("internal/strconv.uint64pow10", laid_internal_strconv_uint64pow10), ("cloak/base.signs", laid_cloak_base_signs), ("cloak/ask.reserved", laid_cloak_ask_reserved)] }
def AskNormalSaid : Prop := askNormalRow.holds Tryz.pinned (OpenSpec.ofChange askNormalSpec)

/-- ITS FALSE NEIGHBOUR: 'it returns false'. Refute it at one input. -/
def askNormalWrong : ChangeSpec := { name := "askNormal", fn := fun _ => fun
  | [d1, d2] => { results := [.lit (.bool false)], args := [d1, d2] }
  | _ => none }
def AskNormalWrongFalsely : Prop := askNormalRow.holds Tryz.pinned (OpenSpec.ofChange askNormalWrong)

/-- 'cloaklaw05.AskCycles': WHATEVER THE INPUT: true; the input reads as it did. -/
def askCyclesSpec : ChangeSpec := { name := "askCycles", fn := fun _ => fun
  | [d1, d2, d3, d4] => { results := [.lit (.bool true)], args := [d1, d2, d3, d4] }
  | _ => none }
def askCyclesRow : OpenClaim := { program := "ytmkdfbelbcocpaagreatdoor", sum := "d076c53d045e157cda9091e3c2a4b73edb3e4fdfb16d47ff005b8941c50f614f", func := "cloak/cloaklaw05.AskCycles", spec := "askCycles", inPlace := ["internal/bytealg.IndexByteString", "internal/bytealg.IndexString"], unfollowed := true, recurses := true, named := ["cloak/base.signs", "cloak/ask.reserved", "internal/bytealg.MaxLen"], loops := true, plainKeys := false, apart := false, laid := [("cloak/base.signs", laid_cloak_base_signs), ("cloak/ask.reserved", laid_cloak_ask_reserved)] }
def AskCyclesSaid : Prop := askCyclesRow.holds Tryz.pinned (OpenSpec.ofChange askCyclesSpec)

/-- ITS FALSE NEIGHBOUR: 'it returns false'. Refute it at one input. -/
def askCyclesWrong : ChangeSpec := { name := "askCycles", fn := fun _ => fun
  | [d1, d2, d3, d4] => { results := [.lit (.bool false)], args := [d1, d2, d3, d4] }
  | _ => none }
def AskCyclesWrongFalsely : Prop := askCyclesRow.holds Tryz.pinned (OpenSpec.ofChange askCyclesWrong)

/-- 'cloaklaw05.AskDiscloses': WHATEVER THE INPUT: true; the input reads as it did. -/
def askDisclosesSpec : ChangeSpec := { name := "askDiscloses", fn := fun _ => fun
  | [d1, d2, d3, d4] => { results := [.lit (.bool true)], args := [d1, d2, d3, d4] }
  | _ => none }
def askDisclosesRow : OpenClaim := { program := "ytmkdfbelbcocpaagreatdoor", sum := "d076c53d045e157cda9091e3c2a4b73edb3e4fdfb16d47ff005b8941c50f614f", func := "cloak/cloaklaw05.AskDiscloses", spec := "askDiscloses", inPlace := ["internal/bytealg.IndexByteString", "internal/bytealg.IndexString"], unfollowed := true, recurses := true, named := ["cloak/base.signs", "cloak/ask.reserved", "internal/bytealg.MaxLen"], loops := true, plainKeys := false, apart := false, laid := [("cloak/base.signs", laid_cloak_base_signs), ("cloak/ask.reserved", laid_cloak_ask_reserved)] }
def AskDisclosesSaid : Prop := askDisclosesRow.holds Tryz.pinned (OpenSpec.ofChange askDisclosesSpec)

/-- ITS FALSE NEIGHBOUR: 'it returns false'. Refute it at one input. -/
def askDisclosesWrong : ChangeSpec := { name := "askDiscloses", fn := fun _ => fun
  | [d1, d2, d3, d4] => { results := [.lit (.bool false)], args := [d1, d2, d3, d4] }
  | _ => none }
def AskDisclosesWrongFalsely : Prop := askDisclosesRow.holds Tryz.pinned (OpenSpec.ofChange askDisclosesWrong)

/-- 'cloaklaw05.AskImplies': WHATEVER THE INPUT: true; the input reads as it did. -/
def askImpliesSpec : ChangeSpec := { name := "askImplies", fn := fun _ => fun
  | [d1, d2, d3, d4] => { results := [.lit (.bool true)], args := [d1, d2, d3, d4] }
  | _ => none }
def askImpliesRow : OpenClaim := { program := "ytmkdfbelbcocpaagreatdoor", sum := "d076c53d045e157cda9091e3c2a4b73edb3e4fdfb16d47ff005b8941c50f614f", func := "cloak/cloaklaw05.AskImplies", spec := "askImplies", inPlace := ["internal/bytealg.IndexByteString", "internal/bytealg.IndexString"], unfollowed := true, recurses := true, named := ["cloak/base.signs", "cloak/ask.reserved", "internal/bytealg.MaxLen"], loops := true, plainKeys := false, apart := false, laid := [("cloak/base.signs", laid_cloak_base_signs), ("cloak/ask.reserved", laid_cloak_ask_reserved)] }
def AskImpliesSaid : Prop := askImpliesRow.holds Tryz.pinned (OpenSpec.ofChange askImpliesSpec)

/-- ITS FALSE NEIGHBOUR: 'it returns false'. Refute it at one input. -/
def askImpliesWrong : ChangeSpec := { name := "askImplies", fn := fun _ => fun
  | [d1, d2, d3, d4] => { results := [.lit (.bool false)], args := [d1, d2, d3, d4] }
  | _ => none }
def AskImpliesWrongFalsely : Prop := askImpliesRow.holds Tryz.pinned (OpenSpec.ofChange askImpliesWrong)

/-- 'cloaklaw05.AskCounts': WHATEVER THE INPUT: true; the input reads as it did. -/
def askCountsSpec : ChangeSpec := { name := "askCounts", fn := fun _ => fun
  | [d1, d2, d3] => { results := [.lit (.bool true)], args := [d1, d2, d3] }
  | _ => none }
def askCountsRow : OpenClaim := { program := "ytmkdfbelbcocpaagreatdoor", sum := "d076c53d045e157cda9091e3c2a4b73edb3e4fdfb16d47ff005b8941c50f614f", func := "cloak/cloaklaw05.AskCounts", spec := "askCounts", inPlace := ["internal/bytealg.IndexByteString", "internal/bytealg.IndexString"], unfollowed := true, recurses := true, named := ["cloak/base.signs", "cloak/ask.reserved", "internal/bytealg.MaxLen"], loops := true, plainKeys := false, apart := false, laid := [("cloak/base.signs", laid_cloak_base_signs), ("cloak/ask.reserved", laid_cloak_ask_reserved)] }
def AskCountsSaid : Prop := askCountsRow.holds Tryz.pinned (OpenSpec.ofChange askCountsSpec)

/-- ITS FALSE NEIGHBOUR: 'it returns false'. Refute it at one input. -/
def askCountsWrong : ChangeSpec := { name := "askCounts", fn := fun _ => fun
  | [d1, d2, d3] => { results := [.lit (.bool false)], args := [d1, d2, d3] }
  | _ => none }
def AskCountsWrongFalsely : Prop := askCountsRow.holds Tryz.pinned (OpenSpec.ofChange askCountsWrong)

/-- 'cloaklaw05.AskLeast': WHATEVER THE INPUT: true; the input reads as it did. -/
def askLeastSpec : ChangeSpec := { name := "askLeast", fn := fun _ => fun
  | [d1, d2, d3] => { results := [.lit (.bool true)], args := [d1, d2, d3] }
  | _ => none }
def askLeastRow : OpenClaim := { program := "ytmkdfbelbcocpaagreatdoor", sum := "d076c53d045e157cda9091e3c2a4b73edb3e4fdfb16d47ff005b8941c50f614f", func := "cloak/cloaklaw05.AskLeast", spec := "askLeast", inPlace := ["internal/bytealg.IndexByteString", "internal/bytealg.IndexString"], unfollowed := true, recurses := true, named := ["cloak/base.signs", "cloak/ask.reserved", "internal/bytealg.MaxLen"], loops := true, plainKeys := false, apart := false, laid := [("cloak/base.signs", laid_cloak_base_signs), ("cloak/ask.reserved", laid_cloak_ask_reserved)] }
def AskLeastSaid : Prop := askLeastRow.holds Tryz.pinned (OpenSpec.ofChange askLeastSpec)

/-- ITS FALSE NEIGHBOUR: 'it returns false'. Refute it at one input. -/
def askLeastWrong : ChangeSpec := { name := "askLeast", fn := fun _ => fun
  | [d1, d2, d3] => { results := [.lit (.bool false)], args := [d1, d2, d3] }
  | _ => none }
def AskLeastWrongFalsely : Prop := askLeastRow.holds Tryz.pinned (OpenSpec.ofChange askLeastWrong)

/-- 'cloaklaw05.AskSat': WHATEVER THE INPUT: true; the input reads as it did. -/
def askSatSpec : ChangeSpec := { name := "askSat", fn := fun _ => fun
  | [d1, d2, d3] => { results := [.lit (.bool true)], args := [d1, d2, d3] }
  | _ => none }
def askSatRow : OpenClaim := { program := "ytmkdfbelbcocpaagreatdoor", sum := "d076c53d045e157cda9091e3c2a4b73edb3e4fdfb16d47ff005b8941c50f614f", func := "cloak/cloaklaw05.AskSat", spec := "askSat", inPlace := ["internal/bytealg.IndexByteString", "internal/bytealg.IndexString"], unfollowed := true, recurses := true, named := ["cloak/base.signs", "cloak/ask.reserved", "internal/bytealg.MaxLen"], loops := true, plainKeys := false, apart := false, laid := [("cloak/base.signs", laid_cloak_base_signs), ("cloak/ask.reserved", laid_cloak_ask_reserved)] }
def AskSatSaid : Prop := askSatRow.holds Tryz.pinned (OpenSpec.ofChange askSatSpec)

/-- ITS FALSE NEIGHBOUR: 'it returns false'. Refute it at one input. -/
def askSatWrong : ChangeSpec := { name := "askSat", fn := fun _ => fun
  | [d1, d2, d3] => { results := [.lit (.bool false)], args := [d1, d2, d3] }
  | _ => none }
def AskSatWrongFalsely : Prop := askSatRow.holds Tryz.pinned (OpenSpec.ofChange askSatWrong)

/-- 'cloaklaw05.AskNegates': WHATEVER THE INPUT: true; the input reads as it did. -/
def askNegatesSpec : ChangeSpec := { name := "askNegates", fn := fun _ => fun
  | [d1, d2] => { results := [.lit (.bool true)], args := [d1, d2] }
  | _ => none }
def askNegatesRow : OpenClaim := { program := "ytmkdfbelbcocpaagreatdoor", sum := "d076c53d045e157cda9091e3c2a4b73edb3e4fdfb16d47ff005b8941c50f614f", func := "cloak/cloaklaw05.AskNegates", spec := "askNegates", inPlace := ["internal/bytealg.IndexByteString", "internal/bytealg.IndexString", "internal/abi.NoEscape", "internal/bytealg.MakeNoZero"], unfollowed := true, recurses := true, named := ["cloak/base.signs", "cloak/ask.reserved", "internal/bytealg.MaxLen", "internal/strconv.uint64pow10", "math/bits.deBruijn32tab", "math/bits.deBruijn64tab"], loops := true, plainKeys := false, apart := false, laid := [("math/bits.deBruijn32tab", laid_math_bits_deBruijn32tab), ("math/bits.deBruijn64tab", laid_math_bits_deBruijn64tab), ("internal/strconv.uint64pow10", laid_internal_strconv_uint64pow10), ("cloak/base.signs", laid_cloak_base_signs), ("cloak/ask.reserved", laid_cloak_ask_reserved)] }
def AskNegatesSaid : Prop := askNegatesRow.holds Tryz.pinned (OpenSpec.ofChange askNegatesSpec)

/-- ITS FALSE NEIGHBOUR: 'it returns false'. Refute it at one input. -/
def askNegatesWrong : ChangeSpec := { name := "askNegates", fn := fun _ => fun
  | [d1, d2] => { results := [.lit (.bool false)], args := [d1, d2] }
  | _ => none }
def AskNegatesWrongFalsely : Prop := askNegatesRow.holds Tryz.pinned (OpenSpec.ofChange askNegatesWrong)

/- THE SECOND FORM. 'bulk': how many values and letters a reading holds, each counted each time it is reached (what is shared counts as often as it is met; a slice's spare places count too). A statement '..UptoSaid' is the law's where the arguments, and the package variables that the reading takes, are together of bulk at most 1048576: NARROWER than '..Said'. Prove '..Said' where nothing that the law and all that it calls make is longer than what came in: it says more and counts as full. Else prove '..UptoSaid'. A law counts once. -/
mutual
def uptoBulk {H : Type} : DataW H → Nat
  | .lit (.string bytes) => bytes.length + 1
  | .lit _ => 1
  | .nil => 1
  | .ptr d => uptoBulk d + 1
  | .slice elems spare => uptoBulkAll elems + uptoBulkAll spare + 1
  | .agg parts => uptoBulkAll parts + 1
  | .iface _ d => uptoBulk d + 1
  | .map entries => uptoBulkEntries entries + 1
  | .held _ => 1
def uptoBulkAll {H : Type} : List (DataW H) → Nat
  | [] => 0
  | d :: r => uptoBulk d + uptoBulkAll r
def uptoBulkEntries {H : Type} : List (Lit × DataW H) → Nat
  | [] => 0
  | x :: r => uptoBulkEntry x + uptoBulkEntries r
def uptoBulkEntry {H : Type} : Lit × DataW H → Nat
  | (.string bytes, d) => bytes.length + uptoBulk d + 1
  | (_, d) => uptoBulk d + 1
 end
def uptoSmall : (H : Type) → List (DataW H) → Bool := fun _ ds => decide (uptoBulkAll ds ≤ 1048576)
def OpenSpec.upto (s : _root_.Go.ChangeSpec) : _root_.Go.OpenSpec := { _root_.Go.OpenSpec.ofChange s with cond := some uptoSmall }

/-- 'cloaklaw05.AskParses', WHERE WHAT IT READS IS OF BULK AT MOST 1048576: true; the input reads as it did. -/
def askParsesUptoRow : OpenClaim := { program := "ytmkdfbelbcocpaagreatdoor", sum := "d076c53d045e157cda9091e3c2a4b73edb3e4fdfb16d47ff005b8941c50f614f", func := "cloak/cloaklaw05.AskParses", spec := "askParses", inPlace := ["internal/bytealg.IndexByteString", "internal/bytealg.IndexString", "internal/abi.NoEscape", "internal/bytealg.MakeNoZero"], unfollowed := true, recurses := true, named := ["cloak/base.signs", "cloak/ask.reserved", "internal/bytealg.MaxLen", "internal/strconv.uint64pow10", "math/bits.deBruijn32tab", "math/bits.deBruijn64tab"], plainKeys := false, apart := false, laid := [("math/bits.deBruijn32tab", laid_math_bits_deBruijn32tab), ("math/bits.deBruijn64tab", laid_math_bits_deBruijn64tab), ("internal/strconv.uint64pow10", laid_internal_strconv_uint64pow10), ("cloak/base.signs", laid_cloak_base_signs), ("cloak/ask.reserved", laid_cloak_ask_reserved)], narrowed := true }
def AskParsesUptoSaid : Prop := askParsesUptoRow.holds Tryz.pinned (OpenSpec.upto askParsesSpec)

/-- 'cloaklaw05.AskBack', WHERE WHAT IT READS IS OF BULK AT MOST 1048576: true; the input reads as it did. -/
def askBackUptoRow : OpenClaim := { program := "ytmkdfbelbcocpaagreatdoor", sum := "d076c53d045e157cda9091e3c2a4b73edb3e4fdfb16d47ff005b8941c50f614f", func := "cloak/cloaklaw05.AskBack", spec := "askBack", inPlace := ["internal/bytealg.IndexByteString", "internal/bytealg.IndexString", "internal/abi.NoEscape", "internal/bytealg.MakeNoZero"], unfollowed := true, recurses := true, named := ["cloak/base.signs", "cloak/ask.reserved", "internal/bytealg.MaxLen", "internal/strconv.uint64pow10", "math/bits.deBruijn32tab", "math/bits.deBruijn64tab"], loops := true, plainKeys := false, apart := false, laid := [("math/bits.deBruijn32tab", laid_math_bits_deBruijn32tab), ("math/bits.deBruijn64tab", laid_math_bits_deBruijn64tab), ("internal/strconv.uint64pow10", laid_internal_strconv_uint64pow10), ("cloak/base.signs", laid_cloak_base_signs), ("cloak/ask.reserved", laid_cloak_ask_reserved)], narrowed := true }
def AskBackUptoSaid : Prop := askBackUptoRow.holds Tryz.pinned (OpenSpec.upto askBackSpec)

/-- 'cloaklaw05.AskJoins', WHERE WHAT IT READS IS OF BULK AT MOST 1048576: true; the input reads as it did. -/
def askJoinsUptoRow : OpenClaim := { program := "ytmkdfbelbcocpaagreatdoor", sum := "d076c53d045e157cda9091e3c2a4b73edb3e4fdfb16d47ff005b8941c50f614f", func := "cloak/cloaklaw05.AskJoins", spec := "askJoins", inPlace := ["internal/bytealg.IndexByteString", "internal/bytealg.IndexString", "internal/abi.NoEscape", "internal/bytealg.MakeNoZero"], unfollowed := true, recurses := true, named := ["cloak/base.signs", "cloak/ask.reserved", "internal/bytealg.MaxLen", "internal/strconv.uint64pow10", "math/bits.deBruijn32tab", "math/bits.deBruijn64tab"], loops := true, plainKeys := false, apart := false, laid := [("math/bits.deBruijn32tab", laid_math_bits_deBruijn32tab), ("math/bits.deBruijn64tab", laid_math_bits_deBruijn64tab), ("internal/strconv.uint64pow10", laid_internal_strconv_uint64pow10), ("cloak/base.signs", laid_cloak_base_signs), ("cloak/ask.reserved", laid_cloak_ask_reserved)], narrowed := true }
def AskJoinsUptoSaid : Prop := askJoinsUptoRow.holds Tryz.pinned (OpenSpec.upto askJoinsSpec)

/-- 'cloaklaw05.AskPrime', WHERE WHAT IT READS IS OF BULK AT MOST 1048576: true; the input reads as it did. -/
def askPrimeUptoRow : OpenClaim := { program := "ytmkdfbelbcocpaagreatdoor", sum := "d076c53d045e157cda9091e3c2a4b73edb3e4fdfb16d47ff005b8941c50f614f", func := "cloak/cloaklaw05.AskPrime", spec := "askPrime", inPlace := ["internal/bytealg.IndexByteString", "internal/bytealg.IndexString", "internal/abi.NoEscape", "internal/bytealg.MakeNoZero"], unfollowed := true, recurses := true, named := ["cloak/base.signs", "cloak/ask.reserved", "internal/bytealg.MaxLen", "internal/strconv.uint64pow10", "math/bits.deBruijn32tab", "math/bits.deBruijn64tab"], loops := true, plainKeys := false, apart := false, laid := [("math/bits.deBruijn32tab", laid_math_bits_deBruijn32tab), ("math/bits.deBruijn64tab", laid_math_bits_deBruijn64tab), ("internal/strconv.uint64pow10", laid_internal_strconv_uint64pow10), ("cloak/base.signs", laid_cloak_base_signs), ("cloak/ask.reserved", laid_cloak_ask_reserved)], narrowed := true }
def AskPrimeUptoSaid : Prop := askPrimeUptoRow.holds Tryz.pinned (OpenSpec.upto askPrimeSpec)

/-- 'cloaklaw05.AskNormals', WHERE WHAT IT READS IS OF BULK AT MOST 1048576: true; the input reads as it did. -/
def askNormalsUptoRow : OpenClaim := { program := "ytmkdfbelbcocpaagreatdoor", sum := "d076c53d045e157cda9091e3c2a4b73edb3e4fdfb16d47ff005b8941c50f614f", func := "cloak/cloaklaw05.AskNormals", spec := "askNormals", inPlace := ["internal/bytealg.IndexByteString", "internal/bytealg.IndexString", "internal/abi.NoEscape", "internal/bytealg.MakeNoZero"], unfollowed := true, recurses := true, named := ["cloak/base.signs", "cloak/ask.reserved", "internal/bytealg.MaxLen", "internal/strconv.uint64pow10", "math/bits.deBruijn32tab", "math/bits.deBruijn64tab"], loops := true, plainKeys := false, apart := false, laid := [("math/bits.deBruijn32tab", laid_math_bits_deBruijn32tab), ("math/bits.deBruijn64tab", laid_math_bits_deBruijn64tab), ("internal/strconv.uint64pow10", laid_internal_strconv_uint64pow10), ("cloak/base.signs", laid_cloak_base_signs), ("cloak/ask.reserved", laid_cloak_ask_reserved)], narrowed := true }
def AskNormalsUptoSaid : Prop := askNormalsUptoRow.holds Tryz.pinned (OpenSpec.upto askNormalsSpec)

/-- 'cloaklaw05.AskNormal', WHERE WHAT IT READS IS OF BULK AT MOST 1048576: true; the input reads as it did. -/
def askNormalUptoRow : OpenClaim := { program := "ytmkdfbelbcocpaagreatdoor", sum := "d076c53d045e157cda9091e3c2a4b73edb3e4fdfb16d47ff005b8941c50f614f", func := "cloak/cloaklaw05.AskNormal", spec := "askNormal", inPlace := ["internal/bytealg.IndexByteString", "internal/bytealg.IndexString", "internal/abi.NoEscape", "internal/bytealg.MakeNoZero"], unfollowed := true, recurses := true, named := ["cloak/base.signs", "cloak/ask.reserved", "internal/bytealg.MaxLen", "internal/strconv.uint64pow10", "math/bits.deBruijn32tab", "math/bits.deBruijn64tab"], loops := true, plainKeys := false, apart := false, laid := [("math/bits.deBruijn32tab", laid_math_bits_deBruijn32tab), ("math/bits.deBruijn64tab", laid_math_bits_deBruijn64tab), ("internal/strconv.uint64pow10", laid_internal_strconv_uint64pow10), ("cloak/base.signs", laid_cloak_base_signs), ("cloak/ask.reserved", laid_cloak_ask_reserved)], narrowed := true }
def AskNormalUptoSaid : Prop := askNormalUptoRow.holds Tryz.pinned (OpenSpec.upto askNormalSpec)

/-- 'cloaklaw05.AskCycles', WHERE WHAT IT READS IS OF BULK AT MOST 1048576: true; the input reads as it did. -/
def askCyclesUptoRow : OpenClaim := { program := "ytmkdfbelbcocpaagreatdoor", sum := "d076c53d045e157cda9091e3c2a4b73edb3e4fdfb16d47ff005b8941c50f614f", func := "cloak/cloaklaw05.AskCycles", spec := "askCycles", inPlace := ["internal/bytealg.IndexByteString", "internal/bytealg.IndexString"], unfollowed := true, recurses := true, named := ["cloak/base.signs", "cloak/ask.reserved", "internal/bytealg.MaxLen"], loops := true, plainKeys := false, apart := false, laid := [("cloak/base.signs", laid_cloak_base_signs), ("cloak/ask.reserved", laid_cloak_ask_reserved)], narrowed := true }
def AskCyclesUptoSaid : Prop := askCyclesUptoRow.holds Tryz.pinned (OpenSpec.upto askCyclesSpec)

/-- 'cloaklaw05.AskDiscloses', WHERE WHAT IT READS IS OF BULK AT MOST 1048576: true; the input reads as it did. -/
def askDisclosesUptoRow : OpenClaim := { program := "ytmkdfbelbcocpaagreatdoor", sum := "d076c53d045e157cda9091e3c2a4b73edb3e4fdfb16d47ff005b8941c50f614f", func := "cloak/cloaklaw05.AskDiscloses", spec := "askDiscloses", inPlace := ["internal/bytealg.IndexByteString", "internal/bytealg.IndexString"], unfollowed := true, recurses := true, named := ["cloak/base.signs", "cloak/ask.reserved", "internal/bytealg.MaxLen"], loops := true, plainKeys := false, apart := false, laid := [("cloak/base.signs", laid_cloak_base_signs), ("cloak/ask.reserved", laid_cloak_ask_reserved)], narrowed := true }
def AskDisclosesUptoSaid : Prop := askDisclosesUptoRow.holds Tryz.pinned (OpenSpec.upto askDisclosesSpec)

/-- 'cloaklaw05.AskImplies', WHERE WHAT IT READS IS OF BULK AT MOST 1048576: true; the input reads as it did. -/
def askImpliesUptoRow : OpenClaim := { program := "ytmkdfbelbcocpaagreatdoor", sum := "d076c53d045e157cda9091e3c2a4b73edb3e4fdfb16d47ff005b8941c50f614f", func := "cloak/cloaklaw05.AskImplies", spec := "askImplies", inPlace := ["internal/bytealg.IndexByteString", "internal/bytealg.IndexString"], unfollowed := true, recurses := true, named := ["cloak/base.signs", "cloak/ask.reserved", "internal/bytealg.MaxLen"], loops := true, plainKeys := false, apart := false, laid := [("cloak/base.signs", laid_cloak_base_signs), ("cloak/ask.reserved", laid_cloak_ask_reserved)], narrowed := true }
def AskImpliesUptoSaid : Prop := askImpliesUptoRow.holds Tryz.pinned (OpenSpec.upto askImpliesSpec)

/-- 'cloaklaw05.AskCounts', WHERE WHAT IT READS IS OF BULK AT MOST 1048576: true; the input reads as it did. -/
def askCountsUptoRow : OpenClaim := { program := "ytmkdfbelbcocpaagreatdoor", sum := "d076c53d045e157cda9091e3c2a4b73edb3e4fdfb16d47ff005b8941c50f614f", func := "cloak/cloaklaw05.AskCounts", spec := "askCounts", inPlace := ["internal/bytealg.IndexByteString", "internal/bytealg.IndexString"], unfollowed := true, recurses := true, named := ["cloak/base.signs", "cloak/ask.reserved", "internal/bytealg.MaxLen"], loops := true, plainKeys := false, apart := false, laid := [("cloak/base.signs", laid_cloak_base_signs), ("cloak/ask.reserved", laid_cloak_ask_reserved)], narrowed := true }
def AskCountsUptoSaid : Prop := askCountsUptoRow.holds Tryz.pinned (OpenSpec.upto askCountsSpec)

/-- 'cloaklaw05.AskLeast', WHERE WHAT IT READS IS OF BULK AT MOST 1048576: true; the input reads as it did. -/
def askLeastUptoRow : OpenClaim := { program := "ytmkdfbelbcocpaagreatdoor", sum := "d076c53d045e157cda9091e3c2a4b73edb3e4fdfb16d47ff005b8941c50f614f", func := "cloak/cloaklaw05.AskLeast", spec := "askLeast", inPlace := ["internal/bytealg.IndexByteString", "internal/bytealg.IndexString"], unfollowed := true, recurses := true, named := ["cloak/base.signs", "cloak/ask.reserved", "internal/bytealg.MaxLen"], loops := true, plainKeys := false, apart := false, laid := [("cloak/base.signs", laid_cloak_base_signs), ("cloak/ask.reserved", laid_cloak_ask_reserved)], narrowed := true }
def AskLeastUptoSaid : Prop := askLeastUptoRow.holds Tryz.pinned (OpenSpec.upto askLeastSpec)

/-- 'cloaklaw05.AskSat', WHERE WHAT IT READS IS OF BULK AT MOST 1048576: true; the input reads as it did. -/
def askSatUptoRow : OpenClaim := { program := "ytmkdfbelbcocpaagreatdoor", sum := "d076c53d045e157cda9091e3c2a4b73edb3e4fdfb16d47ff005b8941c50f614f", func := "cloak/cloaklaw05.AskSat", spec := "askSat", inPlace := ["internal/bytealg.IndexByteString", "internal/bytealg.IndexString"], unfollowed := true, recurses := true, named := ["cloak/base.signs", "cloak/ask.reserved", "internal/bytealg.MaxLen"], loops := true, plainKeys := false, apart := false, laid := [("cloak/base.signs", laid_cloak_base_signs), ("cloak/ask.reserved", laid_cloak_ask_reserved)], narrowed := true }
def AskSatUptoSaid : Prop := askSatUptoRow.holds Tryz.pinned (OpenSpec.upto askSatSpec)

/-- 'cloaklaw05.AskNegates', WHERE WHAT IT READS IS OF BULK AT MOST 1048576: true; the input reads as it did. -/
def askNegatesUptoRow : OpenClaim := { program := "ytmkdfbelbcocpaagreatdoor", sum := "d076c53d045e157cda9091e3c2a4b73edb3e4fdfb16d47ff005b8941c50f614f", func := "cloak/cloaklaw05.AskNegates", spec := "askNegates", inPlace := ["internal/bytealg.IndexByteString", "internal/bytealg.IndexString", "internal/abi.NoEscape", "internal/bytealg.MakeNoZero"], unfollowed := true, recurses := true, named := ["cloak/base.signs", "cloak/ask.reserved", "internal/bytealg.MaxLen", "internal/strconv.uint64pow10", "math/bits.deBruijn32tab", "math/bits.deBruijn64tab"], loops := true, plainKeys := false, apart := false, laid := [("math/bits.deBruijn32tab", laid_math_bits_deBruijn32tab), ("math/bits.deBruijn64tab", laid_math_bits_deBruijn64tab), ("internal/strconv.uint64pow10", laid_internal_strconv_uint64pow10), ("cloak/base.signs", laid_cloak_base_signs), ("cloak/ask.reserved", laid_cloak_ask_reserved)], narrowed := true }
def AskNegatesUptoSaid : Prop := askNegatesUptoRow.holds Tryz.pinned (OpenSpec.upto askNegatesSpec)

end Rows
end Go.Proofs.YtmkdfbelbcocpaaGreatDoor
