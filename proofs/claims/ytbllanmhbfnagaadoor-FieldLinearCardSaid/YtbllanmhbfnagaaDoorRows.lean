/-
  NARROWER THAN 'FOR EVERY INPUT', by the rows' own cells (each row's printed sentence says how): FieldTells: laid · FieldHashes: laid · FieldRing: laid · FieldPowers: laid · FieldPrimes: laid · FieldCyclic: laid · FieldMakes: laid · FieldExponents: laid · FieldGroups: laid · FieldLinear: laid · FieldPoints: laid · FieldSolutions: laid · FieldSpans: laid · FieldThrough: laid · FieldShares: laid · FieldWeights: laid.
  DERIVED. THE GIVEN ROWS OF THIS SEAT. 16 by the template 'for every input the law returns true; each argument reads behind the call as it read before'; 0 by the template 'total and deterministic' (their statements: YtbllanmhbfnagaaDoorTotals.lean).
  GIVEN WITH THE SEED: the statements are not yours to turn. If you find one false, say at which input.
  Laid BY PROGRAM, IN A SANDBOX (cutbox-rows.mjs): the forced cells as the released guide's own fill.sh prints them over the translation 76c387f66cc60ad1… (all of the seat's roots in one cut). By AI agents, Wed Nov 11 2026. No macro, syntax, notation, axiom, sorry.
-/
import Derived.Test.YtbllanmhbfnagaaDoorChecked
import GoSem.Claim
import GoSem.ClaimJoined
import GoSem.ClaimMapViews
import Derived.JoinedTies
import Derived.KernelRfl
namespace Go.Proofs.YtbllanmhbfnagaaDoor
/- THE CELL 'sum', in the pinned program and in every row, IS THE sha256 OF THE DUMP (.gsa) THAT YtbllanmhbfnagaaDoorProg.lean LOADS. Nothing in Lean hashes anything: it is a label: what it is worth is what the hold of that sum in a sandbox is worth. -/
noncomputable def Tryd.pinned : Pinned := { name := "ytbllanmhbfnagaadoor", sum := "76c387f66cc60ad1cdc364d6eee008dea785f6236628da4e628dda4828a6c790", checked := Tryd.checked }
namespace Rows
def none {H : Type} : Left H := { results := [], args := [] }

/- WHAT THE LISTED PACKAGE-LEVEL VARIABLES READ AS WHEN THE CALL BEGINS. Each datum BY PROGRAM (the guide's laid-datum.mjs) off the statement by which the dump's own 'gosem.cut.vars' lays the variable. In a bare row this is a premise. The card (YtbllanmhbfnagaaDoorCards.lean) ties it to the program's text. -/
def laid_math_bits_deBruijn64tab {H : Type} : DataW H := .agg [.lit (.int .u8 0), .lit (.int .u8 1), .lit (.int .u8 56), .lit (.int .u8 2), .lit (.int .u8 57), .lit (.int .u8 49), .lit (.int .u8 28), .lit (.int .u8 3), .lit (.int .u8 61), .lit (.int .u8 58), .lit (.int .u8 42), .lit (.int .u8 50), .lit (.int .u8 38), .lit (.int .u8 29), .lit (.int .u8 17), .lit (.int .u8 4), .lit (.int .u8 62), .lit (.int .u8 47), .lit (.int .u8 59), .lit (.int .u8 36), .lit (.int .u8 45), .lit (.int .u8 43), .lit (.int .u8 51), .lit (.int .u8 22), .lit (.int .u8 53), .lit (.int .u8 39), .lit (.int .u8 33), .lit (.int .u8 30), .lit (.int .u8 24), .lit (.int .u8 18), .lit (.int .u8 12), .lit (.int .u8 5), .lit (.int .u8 63), .lit (.int .u8 55), .lit (.int .u8 48), .lit (.int .u8 27), .lit (.int .u8 60), .lit (.int .u8 41), .lit (.int .u8 37), .lit (.int .u8 16), .lit (.int .u8 46), .lit (.int .u8 35), .lit (.int .u8 44), .lit (.int .u8 21), .lit (.int .u8 52), .lit (.int .u8 32), .lit (.int .u8 23), .lit (.int .u8 11), .lit (.int .u8 54), .lit (.int .u8 26), .lit (.int .u8 40), .lit (.int .u8 15), .lit (.int .u8 34), .lit (.int .u8 20), .lit (.int .u8 31), .lit (.int .u8 10), .lit (.int .u8 25), .lit (.int .u8 14), .lit (.int .u8 19), .lit (.int .u8 9), .lit (.int .u8 13), .lit (.int .u8 8), .lit (.int .u8 7), .lit (.int .u8 6)]

/-- 'cloaklaw02.FieldTells': WHATEVER THE INPUT: true; the input reads as it did. -/
def fieldTellsSpec : ChangeSpec := { name := "fieldTells", fn := fun _ => fun
  | [d1, d2, d3] => { results := [.lit (.bool true)], args := [d1, d2, d3] }
  | _ => none }
def fieldTellsRow : OpenClaim := { program := "ytbllanmhbfnagaadoor", sum := "76c387f66cc60ad1cdc364d6eee008dea785f6236628da4e628dda4828a6c790", func := "cloak/cloaklaw02.FieldTells", spec := "fieldTells", named := ["math/bits.divideError", "math/bits.overflowError", "math/bits.deBruijn64tab"], apart := false, laid := [("math/bits.deBruijn64tab", laid_math_bits_deBruijn64tab)] }
def FieldTellsSaid : Prop := fieldTellsRow.holds Tryd.pinned (OpenSpec.ofChange fieldTellsSpec)

/-- ITS FALSE NEIGHBOUR: 'it returns false'. Refute it at one input. -/
def fieldTellsWrong : ChangeSpec := { name := "fieldTells", fn := fun _ => fun
  | [d1, d2, d3] => { results := [.lit (.bool false)], args := [d1, d2, d3] }
  | _ => none }
def FieldTellsWrongFalsely : Prop := fieldTellsRow.holds Tryd.pinned (OpenSpec.ofChange fieldTellsWrong)

/-- 'cloaklaw02.FieldHashes': WHATEVER THE INPUT: true; the input reads as it did. -/
def fieldHashesSpec : ChangeSpec := { name := "fieldHashes", fn := fun _ => fun
  | [d1, d2] => { results := [.lit (.bool true)], args := [d1, d2] }
  | _ => none }
def fieldHashesRow : OpenClaim := { program := "ytbllanmhbfnagaadoor", sum := "76c387f66cc60ad1cdc364d6eee008dea785f6236628da4e628dda4828a6c790", func := "cloak/cloaklaw02.FieldHashes", spec := "fieldHashes", named := ["math/bits.divideError", "math/bits.overflowError", "math/bits.deBruijn64tab"], apart := false, laid := [("math/bits.deBruijn64tab", laid_math_bits_deBruijn64tab)] }
def FieldHashesSaid : Prop := fieldHashesRow.holds Tryd.pinned (OpenSpec.ofChange fieldHashesSpec)

/-- ITS FALSE NEIGHBOUR: 'it returns false'. Refute it at one input. -/
def fieldHashesWrong : ChangeSpec := { name := "fieldHashes", fn := fun _ => fun
  | [d1, d2] => { results := [.lit (.bool false)], args := [d1, d2] }
  | _ => none }
def FieldHashesWrongFalsely : Prop := fieldHashesRow.holds Tryd.pinned (OpenSpec.ofChange fieldHashesWrong)

/-- 'cloaklaw02.FieldRing': WHATEVER THE INPUT: true; the input reads as it did. -/
def fieldRingSpec : ChangeSpec := { name := "fieldRing", fn := fun _ => fun
  | [d1, d2, d3, d4] => { results := [.lit (.bool true)], args := [d1, d2, d3, d4] }
  | _ => none }
def fieldRingRow : OpenClaim := { program := "ytbllanmhbfnagaadoor", sum := "76c387f66cc60ad1cdc364d6eee008dea785f6236628da4e628dda4828a6c790", func := "cloak/cloaklaw02.FieldRing", spec := "fieldRing", named := ["math/bits.divideError", "math/bits.overflowError", "math/bits.deBruijn64tab"], apart := false, laid := [("math/bits.deBruijn64tab", laid_math_bits_deBruijn64tab)] }
def FieldRingSaid : Prop := fieldRingRow.holds Tryd.pinned (OpenSpec.ofChange fieldRingSpec)

/-- ITS FALSE NEIGHBOUR: 'it returns false'. Refute it at one input. -/
def fieldRingWrong : ChangeSpec := { name := "fieldRing", fn := fun _ => fun
  | [d1, d2, d3, d4] => { results := [.lit (.bool false)], args := [d1, d2, d3, d4] }
  | _ => none }
def FieldRingWrongFalsely : Prop := fieldRingRow.holds Tryd.pinned (OpenSpec.ofChange fieldRingWrong)

/-- 'cloaklaw02.FieldPowers': WHATEVER THE INPUT: true; the input reads as it did. -/
def fieldPowersSpec : ChangeSpec := { name := "fieldPowers", fn := fun _ => fun
  | [d1, d2, d3, d4] => { results := [.lit (.bool true)], args := [d1, d2, d3, d4] }
  | _ => none }
def fieldPowersRow : OpenClaim := { program := "ytbllanmhbfnagaadoor", sum := "76c387f66cc60ad1cdc364d6eee008dea785f6236628da4e628dda4828a6c790", func := "cloak/cloaklaw02.FieldPowers", spec := "fieldPowers", named := ["math/bits.divideError", "math/bits.overflowError", "math/bits.deBruijn64tab"], apart := false, laid := [("math/bits.deBruijn64tab", laid_math_bits_deBruijn64tab)] }
def FieldPowersSaid : Prop := fieldPowersRow.holds Tryd.pinned (OpenSpec.ofChange fieldPowersSpec)

/-- ITS FALSE NEIGHBOUR: 'it returns false'. Refute it at one input. -/
def fieldPowersWrong : ChangeSpec := { name := "fieldPowers", fn := fun _ => fun
  | [d1, d2, d3, d4] => { results := [.lit (.bool false)], args := [d1, d2, d3, d4] }
  | _ => none }
def FieldPowersWrongFalsely : Prop := fieldPowersRow.holds Tryd.pinned (OpenSpec.ofChange fieldPowersWrong)

/-- 'cloaklaw02.FieldPrimes': WHATEVER THE INPUT: true; the input reads as it did. -/
def fieldPrimesSpec : ChangeSpec := { name := "fieldPrimes", fn := fun _ => fun
  | [d1, d2, d3, d4] => { results := [.lit (.bool true)], args := [d1, d2, d3, d4] }
  | _ => none }
def fieldPrimesRow : OpenClaim := { program := "ytbllanmhbfnagaadoor", sum := "76c387f66cc60ad1cdc364d6eee008dea785f6236628da4e628dda4828a6c790", func := "cloak/cloaklaw02.FieldPrimes", spec := "fieldPrimes", named := ["math/bits.divideError", "math/bits.overflowError", "math/bits.deBruijn64tab"], apart := false, laid := [("math/bits.deBruijn64tab", laid_math_bits_deBruijn64tab)] }
def FieldPrimesSaid : Prop := fieldPrimesRow.holds Tryd.pinned (OpenSpec.ofChange fieldPrimesSpec)

/-- ITS FALSE NEIGHBOUR: 'it returns false'. Refute it at one input. -/
def fieldPrimesWrong : ChangeSpec := { name := "fieldPrimes", fn := fun _ => fun
  | [d1, d2, d3, d4] => { results := [.lit (.bool false)], args := [d1, d2, d3, d4] }
  | _ => none }
def FieldPrimesWrongFalsely : Prop := fieldPrimesRow.holds Tryd.pinned (OpenSpec.ofChange fieldPrimesWrong)

/-- 'cloaklaw02.FieldCyclic': WHATEVER THE INPUT: true; the input reads as it did. -/
def fieldCyclicSpec : ChangeSpec := { name := "fieldCyclic", fn := fun _ => fun
  | [d1, d2] => { results := [.lit (.bool true)], args := [d1, d2] }
  | _ => none }
def fieldCyclicRow : OpenClaim := { program := "ytbllanmhbfnagaadoor", sum := "76c387f66cc60ad1cdc364d6eee008dea785f6236628da4e628dda4828a6c790", func := "cloak/cloaklaw02.FieldCyclic", spec := "fieldCyclic", named := ["math/bits.divideError", "math/bits.overflowError", "math/bits.deBruijn64tab"], apart := false, laid := [("math/bits.deBruijn64tab", laid_math_bits_deBruijn64tab)] }
def FieldCyclicSaid : Prop := fieldCyclicRow.holds Tryd.pinned (OpenSpec.ofChange fieldCyclicSpec)

/-- ITS FALSE NEIGHBOUR: 'it returns false'. Refute it at one input. -/
def fieldCyclicWrong : ChangeSpec := { name := "fieldCyclic", fn := fun _ => fun
  | [d1, d2] => { results := [.lit (.bool false)], args := [d1, d2] }
  | _ => none }
def FieldCyclicWrongFalsely : Prop := fieldCyclicRow.holds Tryd.pinned (OpenSpec.ofChange fieldCyclicWrong)

/-- 'cloaklaw02.FieldMakes': WHATEVER THE INPUT: true; the input reads as it did. -/
def fieldMakesSpec : ChangeSpec := { name := "fieldMakes", fn := fun _ => fun
  | [d1, d2] => { results := [.lit (.bool true)], args := [d1, d2] }
  | _ => none }
def fieldMakesRow : OpenClaim := { program := "ytbllanmhbfnagaadoor", sum := "76c387f66cc60ad1cdc364d6eee008dea785f6236628da4e628dda4828a6c790", func := "cloak/cloaklaw02.FieldMakes", spec := "fieldMakes", named := ["math/bits.divideError", "math/bits.overflowError", "math/bits.deBruijn64tab"], apart := false, laid := [("math/bits.deBruijn64tab", laid_math_bits_deBruijn64tab)] }
def FieldMakesSaid : Prop := fieldMakesRow.holds Tryd.pinned (OpenSpec.ofChange fieldMakesSpec)

/-- ITS FALSE NEIGHBOUR: 'it returns false'. Refute it at one input. -/
def fieldMakesWrong : ChangeSpec := { name := "fieldMakes", fn := fun _ => fun
  | [d1, d2] => { results := [.lit (.bool false)], args := [d1, d2] }
  | _ => none }
def FieldMakesWrongFalsely : Prop := fieldMakesRow.holds Tryd.pinned (OpenSpec.ofChange fieldMakesWrong)

/-- 'cloaklaw02.FieldExponents': WHATEVER THE INPUT: true; the input reads as it did. -/
def fieldExponentsSpec : ChangeSpec := { name := "fieldExponents", fn := fun _ => fun
  | [d1, d2, d3, d4, d5] => { results := [.lit (.bool true)], args := [d1, d2, d3, d4, d5] }
  | _ => none }
def fieldExponentsRow : OpenClaim := { program := "ytbllanmhbfnagaadoor", sum := "76c387f66cc60ad1cdc364d6eee008dea785f6236628da4e628dda4828a6c790", func := "cloak/cloaklaw02.FieldExponents", spec := "fieldExponents", named := ["math/bits.divideError", "math/bits.overflowError", "math/bits.deBruijn64tab"], apart := false, laid := [("math/bits.deBruijn64tab", laid_math_bits_deBruijn64tab)] }
def FieldExponentsSaid : Prop := fieldExponentsRow.holds Tryd.pinned (OpenSpec.ofChange fieldExponentsSpec)

/-- ITS FALSE NEIGHBOUR: 'it returns false'. Refute it at one input. -/
def fieldExponentsWrong : ChangeSpec := { name := "fieldExponents", fn := fun _ => fun
  | [d1, d2, d3, d4, d5] => { results := [.lit (.bool false)], args := [d1, d2, d3, d4, d5] }
  | _ => none }
def FieldExponentsWrongFalsely : Prop := fieldExponentsRow.holds Tryd.pinned (OpenSpec.ofChange fieldExponentsWrong)

/-- 'cloaklaw02.FieldGroups': WHATEVER THE INPUT: true; the input reads as it did. -/
def fieldGroupsSpec : ChangeSpec := { name := "fieldGroups", fn := fun _ => fun
  | [d1, d2, d3, d4, d5, d6, d7] => { results := [.lit (.bool true)], args := [d1, d2, d3, d4, d5, d6, d7] }
  | _ => none }
def fieldGroupsRow : OpenClaim := { program := "ytbllanmhbfnagaadoor", sum := "76c387f66cc60ad1cdc364d6eee008dea785f6236628da4e628dda4828a6c790", func := "cloak/cloaklaw02.FieldGroups", spec := "fieldGroups", named := ["math/bits.divideError", "math/bits.overflowError", "math/bits.deBruijn64tab"], apart := false, laid := [("math/bits.deBruijn64tab", laid_math_bits_deBruijn64tab)] }
def FieldGroupsSaid : Prop := fieldGroupsRow.holds Tryd.pinned (OpenSpec.ofChange fieldGroupsSpec)

/-- ITS FALSE NEIGHBOUR: 'it returns false'. Refute it at one input. -/
def fieldGroupsWrong : ChangeSpec := { name := "fieldGroups", fn := fun _ => fun
  | [d1, d2, d3, d4, d5, d6, d7] => { results := [.lit (.bool false)], args := [d1, d2, d3, d4, d5, d6, d7] }
  | _ => none }
def FieldGroupsWrongFalsely : Prop := fieldGroupsRow.holds Tryd.pinned (OpenSpec.ofChange fieldGroupsWrong)

/-- 'cloaklaw02.FieldLinear': WHATEVER THE INPUT: true; the input reads as it did. -/
def fieldLinearSpec : ChangeSpec := { name := "fieldLinear", fn := fun _ => fun
  | [d1, d2, d3, d4] => { results := [.lit (.bool true)], args := [d1, d2, d3, d4] }
  | _ => none }
def fieldLinearRow : OpenClaim := { program := "ytbllanmhbfnagaadoor", sum := "76c387f66cc60ad1cdc364d6eee008dea785f6236628da4e628dda4828a6c790", func := "cloak/cloaklaw02.FieldLinear", spec := "fieldLinear", unfollowed := true, recurses := true, named := ["math/bits.deBruijn64tab", "math/bits.divideError", "math/bits.overflowError"], apart := false, laid := [("math/bits.deBruijn64tab", laid_math_bits_deBruijn64tab)] }
def FieldLinearSaid : Prop := fieldLinearRow.holds Tryd.pinned (OpenSpec.ofChange fieldLinearSpec)

/-- ITS FALSE NEIGHBOUR: 'it returns false'. Refute it at one input. -/
def fieldLinearWrong : ChangeSpec := { name := "fieldLinear", fn := fun _ => fun
  | [d1, d2, d3, d4] => { results := [.lit (.bool false)], args := [d1, d2, d3, d4] }
  | _ => none }
def FieldLinearWrongFalsely : Prop := fieldLinearRow.holds Tryd.pinned (OpenSpec.ofChange fieldLinearWrong)

/-- 'cloaklaw02.FieldPoints': WHATEVER THE INPUT: true; the input reads as it did. -/
def fieldPointsSpec : ChangeSpec := { name := "fieldPoints", fn := fun _ => fun
  | [d1, d2, d3, d4] => { results := [.lit (.bool true)], args := [d1, d2, d3, d4] }
  | _ => none }
def fieldPointsRow : OpenClaim := { program := "ytbllanmhbfnagaadoor", sum := "76c387f66cc60ad1cdc364d6eee008dea785f6236628da4e628dda4828a6c790", func := "cloak/cloaklaw02.FieldPoints", spec := "fieldPoints", unfollowed := true, recurses := true, named := ["math/bits.deBruijn64tab", "math/bits.divideError", "math/bits.overflowError"], apart := false, laid := [("math/bits.deBruijn64tab", laid_math_bits_deBruijn64tab)] }
def FieldPointsSaid : Prop := fieldPointsRow.holds Tryd.pinned (OpenSpec.ofChange fieldPointsSpec)

/-- ITS FALSE NEIGHBOUR: 'it returns false'. Refute it at one input. -/
def fieldPointsWrong : ChangeSpec := { name := "fieldPoints", fn := fun _ => fun
  | [d1, d2, d3, d4] => { results := [.lit (.bool false)], args := [d1, d2, d3, d4] }
  | _ => none }
def FieldPointsWrongFalsely : Prop := fieldPointsRow.holds Tryd.pinned (OpenSpec.ofChange fieldPointsWrong)

/-- 'cloaklaw02.FieldSolutions': WHATEVER THE INPUT: true; the input reads as it did. -/
def fieldSolutionsSpec : ChangeSpec := { name := "fieldSolutions", fn := fun _ => fun
  | [d1, d2, d3] => { results := [.lit (.bool true)], args := [d1, d2, d3] }
  | _ => none }
def fieldSolutionsRow : OpenClaim := { program := "ytbllanmhbfnagaadoor", sum := "76c387f66cc60ad1cdc364d6eee008dea785f6236628da4e628dda4828a6c790", func := "cloak/cloaklaw02.FieldSolutions", spec := "fieldSolutions", unfollowed := true, recurses := true, named := ["math/bits.deBruijn64tab", "math/bits.divideError", "math/bits.overflowError"], apart := false, laid := [("math/bits.deBruijn64tab", laid_math_bits_deBruijn64tab)] }
def FieldSolutionsSaid : Prop := fieldSolutionsRow.holds Tryd.pinned (OpenSpec.ofChange fieldSolutionsSpec)

/-- ITS FALSE NEIGHBOUR: 'it returns false'. Refute it at one input. -/
def fieldSolutionsWrong : ChangeSpec := { name := "fieldSolutions", fn := fun _ => fun
  | [d1, d2, d3] => { results := [.lit (.bool false)], args := [d1, d2, d3] }
  | _ => none }
def FieldSolutionsWrongFalsely : Prop := fieldSolutionsRow.holds Tryd.pinned (OpenSpec.ofChange fieldSolutionsWrong)

/-- 'cloaklaw02.FieldSpans': WHATEVER THE INPUT: true; the input reads as it did. -/
def fieldSpansSpec : ChangeSpec := { name := "fieldSpans", fn := fun _ => fun
  | [d1, d2, d3] => { results := [.lit (.bool true)], args := [d1, d2, d3] }
  | _ => none }
def fieldSpansRow : OpenClaim := { program := "ytbllanmhbfnagaadoor", sum := "76c387f66cc60ad1cdc364d6eee008dea785f6236628da4e628dda4828a6c790", func := "cloak/cloaklaw02.FieldSpans", spec := "fieldSpans", unfollowed := true, recurses := true, named := ["math/bits.deBruijn64tab", "math/bits.divideError", "math/bits.overflowError"], apart := false, laid := [("math/bits.deBruijn64tab", laid_math_bits_deBruijn64tab)] }
def FieldSpansSaid : Prop := fieldSpansRow.holds Tryd.pinned (OpenSpec.ofChange fieldSpansSpec)

/-- ITS FALSE NEIGHBOUR: 'it returns false'. Refute it at one input. -/
def fieldSpansWrong : ChangeSpec := { name := "fieldSpans", fn := fun _ => fun
  | [d1, d2, d3] => { results := [.lit (.bool false)], args := [d1, d2, d3] }
  | _ => none }
def FieldSpansWrongFalsely : Prop := fieldSpansRow.holds Tryd.pinned (OpenSpec.ofChange fieldSpansWrong)

/-- 'cloaklaw02.FieldThrough': WHATEVER THE INPUT: true; the input reads as it did. -/
def fieldThroughSpec : ChangeSpec := { name := "fieldThrough", fn := fun _ => fun
  | [d1, d2, d3, d4] => { results := [.lit (.bool true)], args := [d1, d2, d3, d4] }
  | _ => none }
def fieldThroughRow : OpenClaim := { program := "ytbllanmhbfnagaadoor", sum := "76c387f66cc60ad1cdc364d6eee008dea785f6236628da4e628dda4828a6c790", func := "cloak/cloaklaw02.FieldThrough", spec := "fieldThrough", unfollowed := true, recurses := true, named := ["math/bits.deBruijn64tab", "math/bits.divideError", "math/bits.overflowError"], apart := false, laid := [("math/bits.deBruijn64tab", laid_math_bits_deBruijn64tab)] }
def FieldThroughSaid : Prop := fieldThroughRow.holds Tryd.pinned (OpenSpec.ofChange fieldThroughSpec)

/-- ITS FALSE NEIGHBOUR: 'it returns false'. Refute it at one input. -/
def fieldThroughWrong : ChangeSpec := { name := "fieldThrough", fn := fun _ => fun
  | [d1, d2, d3, d4] => { results := [.lit (.bool false)], args := [d1, d2, d3, d4] }
  | _ => none }
def FieldThroughWrongFalsely : Prop := fieldThroughRow.holds Tryd.pinned (OpenSpec.ofChange fieldThroughWrong)

/-- 'cloaklaw02.FieldShares': WHATEVER THE INPUT: true; the input reads as it did. -/
def fieldSharesSpec : ChangeSpec := { name := "fieldShares", fn := fun _ => fun
  | [d1, d2, d3] => { results := [.lit (.bool true)], args := [d1, d2, d3] }
  | _ => none }
def fieldSharesRow : OpenClaim := { program := "ytbllanmhbfnagaadoor", sum := "76c387f66cc60ad1cdc364d6eee008dea785f6236628da4e628dda4828a6c790", func := "cloak/cloaklaw02.FieldShares", spec := "fieldShares", unfollowed := true, recurses := true, named := ["math/bits.deBruijn64tab", "math/bits.divideError", "math/bits.overflowError"], apart := false, laid := [("math/bits.deBruijn64tab", laid_math_bits_deBruijn64tab)] }
def FieldSharesSaid : Prop := fieldSharesRow.holds Tryd.pinned (OpenSpec.ofChange fieldSharesSpec)

/-- ITS FALSE NEIGHBOUR: 'it returns false'. Refute it at one input. -/
def fieldSharesWrong : ChangeSpec := { name := "fieldShares", fn := fun _ => fun
  | [d1, d2, d3] => { results := [.lit (.bool false)], args := [d1, d2, d3] }
  | _ => none }
def FieldSharesWrongFalsely : Prop := fieldSharesRow.holds Tryd.pinned (OpenSpec.ofChange fieldSharesWrong)

/-- 'cloaklaw02.FieldWeights': WHATEVER THE INPUT: true; the input reads as it did. -/
def fieldWeightsSpec : ChangeSpec := { name := "fieldWeights", fn := fun _ => fun
  | [d1, d2, d3, d4, d5] => { results := [.lit (.bool true)], args := [d1, d2, d3, d4, d5] }
  | _ => none }
def fieldWeightsRow : OpenClaim := { program := "ytbllanmhbfnagaadoor", sum := "76c387f66cc60ad1cdc364d6eee008dea785f6236628da4e628dda4828a6c790", func := "cloak/cloaklaw02.FieldWeights", spec := "fieldWeights", unfollowed := true, recurses := true, named := ["math/bits.deBruijn64tab", "math/bits.divideError", "math/bits.overflowError"], apart := false, laid := [("math/bits.deBruijn64tab", laid_math_bits_deBruijn64tab)] }
def FieldWeightsSaid : Prop := fieldWeightsRow.holds Tryd.pinned (OpenSpec.ofChange fieldWeightsSpec)

/-- ITS FALSE NEIGHBOUR: 'it returns false'. Refute it at one input. -/
def fieldWeightsWrong : ChangeSpec := { name := "fieldWeights", fn := fun _ => fun
  | [d1, d2, d3, d4, d5] => { results := [.lit (.bool false)], args := [d1, d2, d3, d4, d5] }
  | _ => none }
def FieldWeightsWrongFalsely : Prop := fieldWeightsRow.holds Tryd.pinned (OpenSpec.ofChange fieldWeightsWrong)

/- THE SECOND FORM. 'bulk': how many values and letters a reading holds, each counted each time it is reached (what is shared counts as often as it is met; a slice's spare places count too). A statement '..UptoSaid' is the law's where the arguments, and the package variables that the reading takes, are together of bulk at most 1048576: NARROWER than '..Said'. Prove '..Said' where nothing that the law and all that it calls make is longer than what came in: it says more and counts as full. Else prove '..UptoSaid'. A law counts once. -/
mutual
def uptoBulk {H : Type} : DataW H → Nat
  | .lit (.string bytes) => bytes.length + 1
  | .lit _ => 1
  | .nil => 1
  | .ptr d => uptoBulk d + 1
  | .slice elems spare => uptoBulkAll elems + uptoBulkAll spare + 1
  | .agg parts => uptoBulkAll parts + 1
  | .iface _ d => uptoBulk d + 1
  | .map entries => uptoBulkEntries entries + 1
  | .held _ => 1
def uptoBulkAll {H : Type} : List (DataW H) → Nat
  | [] => 0
  | d :: r => uptoBulk d + uptoBulkAll r
def uptoBulkEntries {H : Type} : List (Lit × DataW H) → Nat
  | [] => 0
  | x :: r => uptoBulkEntry x + uptoBulkEntries r
def uptoBulkEntry {H : Type} : Lit × DataW H → Nat
  | (.string bytes, d) => bytes.length + uptoBulk d + 1
  | (_, d) => uptoBulk d + 1
 end
def uptoSmall : (H : Type) → List (DataW H) → Bool := fun _ ds => decide (uptoBulkAll ds ≤ 1048576)
def OpenSpec.upto (s : _root_.Go.ChangeSpec) : _root_.Go.OpenSpec := { _root_.Go.OpenSpec.ofChange s with cond := some uptoSmall }

/-- 'cloaklaw02.FieldTells', WHERE WHAT IT READS IS OF BULK AT MOST 1048576: true; the input reads as it did. -/
def fieldTellsUptoRow : OpenClaim := { program := "ytbllanmhbfnagaadoor", sum := "76c387f66cc60ad1cdc364d6eee008dea785f6236628da4e628dda4828a6c790", func := "cloak/cloaklaw02.FieldTells", spec := "fieldTells", named := ["math/bits.divideError", "math/bits.overflowError", "math/bits.deBruijn64tab"], apart := false, laid := [("math/bits.deBruijn64tab", laid_math_bits_deBruijn64tab)], narrowed := true }
def FieldTellsUptoSaid : Prop := fieldTellsUptoRow.holds Tryd.pinned (OpenSpec.upto fieldTellsSpec)

/-- 'cloaklaw02.FieldHashes', WHERE WHAT IT READS IS OF BULK AT MOST 1048576: true; the input reads as it did. -/
def fieldHashesUptoRow : OpenClaim := { program := "ytbllanmhbfnagaadoor", sum := "76c387f66cc60ad1cdc364d6eee008dea785f6236628da4e628dda4828a6c790", func := "cloak/cloaklaw02.FieldHashes", spec := "fieldHashes", named := ["math/bits.divideError", "math/bits.overflowError", "math/bits.deBruijn64tab"], apart := false, laid := [("math/bits.deBruijn64tab", laid_math_bits_deBruijn64tab)], narrowed := true }
def FieldHashesUptoSaid : Prop := fieldHashesUptoRow.holds Tryd.pinned (OpenSpec.upto fieldHashesSpec)

/-- 'cloaklaw02.FieldRing', WHERE WHAT IT READS IS OF BULK AT MOST 1048576: true; the input reads as it did. -/
def fieldRingUptoRow : OpenClaim := { program := "ytbllanmhbfnagaadoor", sum := "76c387f66cc60ad1cdc364d6eee008dea785f6236628da4e628dda4828a6c790", func := "cloak/cloaklaw02.FieldRing", spec := "fieldRing", named := ["math/bits.divideError", "math/bits.overflowError", "math/bits.deBruijn64tab"], apart := false, laid := [("math/bits.deBruijn64tab", laid_math_bits_deBruijn64tab)], narrowed := true }
def FieldRingUptoSaid : Prop := fieldRingUptoRow.holds Tryd.pinned (OpenSpec.upto fieldRingSpec)

/-- 'cloaklaw02.FieldPowers', WHERE WHAT IT READS IS OF BULK AT MOST 1048576: true; the input reads as it did. -/
def fieldPowersUptoRow : OpenClaim := { program := "ytbllanmhbfnagaadoor", sum := "76c387f66cc60ad1cdc364d6eee008dea785f6236628da4e628dda4828a6c790", func := "cloak/cloaklaw02.FieldPowers", spec := "fieldPowers", named := ["math/bits.divideError", "math/bits.overflowError", "math/bits.deBruijn64tab"], apart := false, laid := [("math/bits.deBruijn64tab", laid_math_bits_deBruijn64tab)], narrowed := true }
def FieldPowersUptoSaid : Prop := fieldPowersUptoRow.holds Tryd.pinned (OpenSpec.upto fieldPowersSpec)

/-- 'cloaklaw02.FieldPrimes', WHERE WHAT IT READS IS OF BULK AT MOST 1048576: true; the input reads as it did. -/
def fieldPrimesUptoRow : OpenClaim := { program := "ytbllanmhbfnagaadoor", sum := "76c387f66cc60ad1cdc364d6eee008dea785f6236628da4e628dda4828a6c790", func := "cloak/cloaklaw02.FieldPrimes", spec := "fieldPrimes", named := ["math/bits.divideError", "math/bits.overflowError", "math/bits.deBruijn64tab"], apart := false, laid := [("math/bits.deBruijn64tab", laid_math_bits_deBruijn64tab)], narrowed := true }
def FieldPrimesUptoSaid : Prop := fieldPrimesUptoRow.holds Tryd.pinned (OpenSpec.upto fieldPrimesSpec)

/-- 'cloaklaw02.FieldCyclic', WHERE WHAT IT READS IS OF BULK AT MOST 1048576: true; the input reads as it did. -/
def fieldCyclicUptoRow : OpenClaim := { program := "ytbllanmhbfnagaadoor", sum := "76c387f66cc60ad1cdc364d6eee008dea785f6236628da4e628dda4828a6c790", func := "cloak/cloaklaw02.FieldCyclic", spec := "fieldCyclic", named := ["math/bits.divideError", "math/bits.overflowError", "math/bits.deBruijn64tab"], apart := false, laid := [("math/bits.deBruijn64tab", laid_math_bits_deBruijn64tab)], narrowed := true }
def FieldCyclicUptoSaid : Prop := fieldCyclicUptoRow.holds Tryd.pinned (OpenSpec.upto fieldCyclicSpec)

/-- 'cloaklaw02.FieldMakes', WHERE WHAT IT READS IS OF BULK AT MOST 1048576: true; the input reads as it did. -/
def fieldMakesUptoRow : OpenClaim := { program := "ytbllanmhbfnagaadoor", sum := "76c387f66cc60ad1cdc364d6eee008dea785f6236628da4e628dda4828a6c790", func := "cloak/cloaklaw02.FieldMakes", spec := "fieldMakes", named := ["math/bits.divideError", "math/bits.overflowError", "math/bits.deBruijn64tab"], apart := false, laid := [("math/bits.deBruijn64tab", laid_math_bits_deBruijn64tab)], narrowed := true }
def FieldMakesUptoSaid : Prop := fieldMakesUptoRow.holds Tryd.pinned (OpenSpec.upto fieldMakesSpec)

/-- 'cloaklaw02.FieldExponents', WHERE WHAT IT READS IS OF BULK AT MOST 1048576: true; the input reads as it did. -/
def fieldExponentsUptoRow : OpenClaim := { program := "ytbllanmhbfnagaadoor", sum := "76c387f66cc60ad1cdc364d6eee008dea785f6236628da4e628dda4828a6c790", func := "cloak/cloaklaw02.FieldExponents", spec := "fieldExponents", named := ["math/bits.divideError", "math/bits.overflowError", "math/bits.deBruijn64tab"], apart := false, laid := [("math/bits.deBruijn64tab", laid_math_bits_deBruijn64tab)], narrowed := true }
def FieldExponentsUptoSaid : Prop := fieldExponentsUptoRow.holds Tryd.pinned (OpenSpec.upto fieldExponentsSpec)

/-- 'cloaklaw02.FieldGroups', WHERE WHAT IT READS IS OF BULK AT MOST 1048576: true; the input reads as it did. -/
def fieldGroupsUptoRow : OpenClaim := { program := "ytbllanmhbfnagaadoor", sum := "76c387f66cc60ad1cdc364d6eee008dea785f6236628da4e628dda4828a6c790", func := "cloak/cloaklaw02.FieldGroups", spec := "fieldGroups", named := ["math/bits.divideError", "math/bits.overflowError", "math/bits.deBruijn64tab"], apart := false, laid := [("math/bits.deBruijn64tab", laid_math_bits_deBruijn64tab)], narrowed := true }
def FieldGroupsUptoSaid : Prop := fieldGroupsUptoRow.holds Tryd.pinned (OpenSpec.upto fieldGroupsSpec)

/-- 'cloaklaw02.FieldLinear', WHERE WHAT IT READS IS OF BULK AT MOST 1048576: true; the input reads as it did. -/
def fieldLinearUptoRow : OpenClaim := { program := "ytbllanmhbfnagaadoor", sum := "76c387f66cc60ad1cdc364d6eee008dea785f6236628da4e628dda4828a6c790", func := "cloak/cloaklaw02.FieldLinear", spec := "fieldLinear", unfollowed := true, recurses := true, named := ["math/bits.deBruijn64tab", "math/bits.divideError", "math/bits.overflowError"], apart := false, laid := [("math/bits.deBruijn64tab", laid_math_bits_deBruijn64tab)], narrowed := true }
def FieldLinearUptoSaid : Prop := fieldLinearUptoRow.holds Tryd.pinned (OpenSpec.upto fieldLinearSpec)

/-- 'cloaklaw02.FieldPoints', WHERE WHAT IT READS IS OF BULK AT MOST 1048576: true; the input reads as it did. -/
def fieldPointsUptoRow : OpenClaim := { program := "ytbllanmhbfnagaadoor", sum := "76c387f66cc60ad1cdc364d6eee008dea785f6236628da4e628dda4828a6c790", func := "cloak/cloaklaw02.FieldPoints", spec := "fieldPoints", unfollowed := true, recurses := true, named := ["math/bits.deBruijn64tab", "math/bits.divideError", "math/bits.overflowError"], apart := false, laid := [("math/bits.deBruijn64tab", laid_math_bits_deBruijn64tab)], narrowed := true }
def FieldPointsUptoSaid : Prop := fieldPointsUptoRow.holds Tryd.pinned (OpenSpec.upto fieldPointsSpec)

/-- 'cloaklaw02.FieldSolutions', WHERE WHAT IT READS IS OF BULK AT MOST 1048576: true; the input reads as it did. -/
def fieldSolutionsUptoRow : OpenClaim := { program := "ytbllanmhbfnagaadoor", sum := "76c387f66cc60ad1cdc364d6eee008dea785f6236628da4e628dda4828a6c790", func := "cloak/cloaklaw02.FieldSolutions", spec := "fieldSolutions", unfollowed := true, recurses := true, named := ["math/bits.deBruijn64tab", "math/bits.divideError", "math/bits.overflowError"], apart := false, laid := [("math/bits.deBruijn64tab", laid_math_bits_deBruijn64tab)], narrowed := true }
def FieldSolutionsUptoSaid : Prop := fieldSolutionsUptoRow.holds Tryd.pinned (OpenSpec.upto fieldSolutionsSpec)

/-- 'cloaklaw02.FieldSpans', WHERE WHAT IT READS IS OF BULK AT MOST 1048576: true; the input reads as it did. -/
def fieldSpansUptoRow : OpenClaim := { program := "ytbllanmhbfnagaadoor", sum := "76c387f66cc60ad1cdc364d6eee008dea785f6236628da4e628dda4828a6c790", func := "cloak/cloaklaw02.FieldSpans", spec := "fieldSpans", unfollowed := true, recurses := true, named := ["math/bits.deBruijn64tab", "math/bits.divideError", "math/bits.overflowError"], apart := false, laid := [("math/bits.deBruijn64tab", laid_math_bits_deBruijn64tab)], narrowed := true }
def FieldSpansUptoSaid : Prop := fieldSpansUptoRow.holds Tryd.pinned (OpenSpec.upto fieldSpansSpec)

/-- 'cloaklaw02.FieldThrough', WHERE WHAT IT READS IS OF BULK AT MOST 1048576: true; the input reads as it did. -/
def fieldThroughUptoRow : OpenClaim := { program := "ytbllanmhbfnagaadoor", sum := "76c387f66cc60ad1cdc364d6eee008dea785f6236628da4e628dda4828a6c790", func := "cloak/cloaklaw02.FieldThrough", spec := "fieldThrough", unfollowed := true, recurses := true, named := ["math/bits.deBruijn64tab", "math/bits.divideError", "math/bits.overflowError"], apart := false, laid := [("math/bits.deBruijn64tab", laid_math_bits_deBruijn64tab)], narrowed := true }
def FieldThroughUptoSaid : Prop := fieldThroughUptoRow.holds Tryd.pinned (OpenSpec.upto fieldThroughSpec)

/-- 'cloaklaw02.FieldShares', WHERE WHAT IT READS IS OF BULK AT MOST 1048576: true; the input reads as it did. -/
def fieldSharesUptoRow : OpenClaim := { program := "ytbllanmhbfnagaadoor", sum := "76c387f66cc60ad1cdc364d6eee008dea785f6236628da4e628dda4828a6c790", func := "cloak/cloaklaw02.FieldShares", spec := "fieldShares", unfollowed := true, recurses := true, named := ["math/bits.deBruijn64tab", "math/bits.divideError", "math/bits.overflowError"], apart := false, laid := [("math/bits.deBruijn64tab", laid_math_bits_deBruijn64tab)], narrowed := true }
def FieldSharesUptoSaid : Prop := fieldSharesUptoRow.holds Tryd.pinned (OpenSpec.upto fieldSharesSpec)

/-- 'cloaklaw02.FieldWeights', WHERE WHAT IT READS IS OF BULK AT MOST 1048576: true; the input reads as it did. -/
def fieldWeightsUptoRow : OpenClaim := { program := "ytbllanmhbfnagaadoor", sum := "76c387f66cc60ad1cdc364d6eee008dea785f6236628da4e628dda4828a6c790", func := "cloak/cloaklaw02.FieldWeights", spec := "fieldWeights", unfollowed := true, recurses := true, named := ["math/bits.deBruijn64tab", "math/bits.divideError", "math/bits.overflowError"], apart := false, laid := [("math/bits.deBruijn64tab", laid_math_bits_deBruijn64tab)], narrowed := true }
def FieldWeightsUptoSaid : Prop := fieldWeightsUptoRow.holds Tryd.pinned (OpenSpec.upto fieldWeightsSpec)

end Rows
end Go.Proofs.YtbllanmhbfnagaaDoor
