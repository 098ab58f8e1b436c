/-
  No cell of these rows narrows 'for every input' (looked for: loops, veiled, ifaces, maps, wideKeys, modest, calm, conditions, laid).
  DERIVED. THE GIVEN ROWS OF THIS SEAT. 19 by the template 'for every input the law returns true; each argument reads behind the call as it read before'; 0 by the template 'total and deterministic' (their statements: YtkalaahmbdimfaaTotals.lean).
  GIVEN WITH THE SEED: the statements are not yours to turn. If you find one false, say at which input.
  Laid BY PROGRAM, IN A SANDBOX (cutbox-rows.mjs): the forced cells as the released guide's own fill.sh prints them over the translation d2cd7b4f46ace67b… (all of the seat's roots in one cut). By AI agents, Wed Nov 11 2026. No macro, syntax, notation, axiom, sorry.
-/
import Derived.Test.YtkalaahmbdimfaaChecked
import GoSem.Claim
import GoSem.ClaimJoined
import GoSem.ClaimMapViews
import Derived.JoinedTies
import Derived.KernelRfl
namespace Go.Proofs.Ytkalaahmbdimfaa
/- THE CELL 'sum', in the pinned program and in every row, IS THE sha256 OF THE DUMP (.gsa) THAT YtkalaahmbdimfaaProg.lean LOADS. Nothing in Lean hashes anything: it is a label: what it is worth is what the hold of that sum in a sandbox is worth. -/
noncomputable def Try.pinned : Pinned := { name := "ytkalaahmbdimfaa", sum := "d2cd7b4f46ace67b6238ad14949b88561513dc9e3a0ac486fefe47afc9dd1bb4", checked := Try.checked }
namespace Rows
def none {H : Type} : Left H := { results := [], args := [] }

/-- 'laws.FnExactBoundOf': WHATEVER THE INPUT: true; the input reads as it did. -/
def fnExactBoundOfSpec : ChangeSpec := { name := "fnExactBoundOf", fn := fun _ => fun
  | [d] => { results := [.lit (.bool true)], args := [d] }
  | _ => none }
def fnExactBoundOfRow : OpenClaim := { program := "ytkalaahmbdimfaa", sum := "d2cd7b4f46ace67b6238ad14949b88561513dc9e3a0ac486fefe47afc9dd1bb4", func := "loop.example/g01262/laws.FnExactBoundOf", spec := "fnExactBoundOf", unfollowed := true, recurses := true, apart := false }
def FnExactBoundOfSaid : Prop := fnExactBoundOfRow.holds Try.pinned (OpenSpec.ofChange fnExactBoundOfSpec)

/-- ITS FALSE NEIGHBOUR: 'it returns false'. Refute it at one input. -/
def fnExactBoundOfWrong : ChangeSpec := { name := "fnExactBoundOf", fn := fun _ => fun
  | [d] => { results := [.lit (.bool false)], args := [d] }
  | _ => none }
def FnExactBoundOfWrongFalsely : Prop := fnExactBoundOfRow.holds Try.pinned (OpenSpec.ofChange fnExactBoundOfWrong)

/-- 'laws.FnExactCountExact': WHATEVER THE INPUT: true; the input reads as it did. -/
def fnExactCountExactSpec : ChangeSpec := { name := "fnExactCountExact", fn := fun _ => fun
  | [d1, d2] => { results := [.lit (.bool true)], args := [d1, d2] }
  | _ => none }
def fnExactCountExactRow : OpenClaim := { program := "ytkalaahmbdimfaa", sum := "d2cd7b4f46ace67b6238ad14949b88561513dc9e3a0ac486fefe47afc9dd1bb4", func := "loop.example/g01262/laws.FnExactCountExact", spec := "fnExactCountExact", unfollowed := true, recurses := true, apart := false }
def FnExactCountExactSaid : Prop := fnExactCountExactRow.holds Try.pinned (OpenSpec.ofChange fnExactCountExactSpec)

/-- ITS FALSE NEIGHBOUR: 'it returns false'. Refute it at one input. -/
def fnExactCountExactWrong : ChangeSpec := { name := "fnExactCountExact", fn := fun _ => fun
  | [d1, d2] => { results := [.lit (.bool false)], args := [d1, d2] }
  | _ => none }
def FnExactCountExactWrongFalsely : Prop := fnExactCountExactRow.holds Try.pinned (OpenSpec.ofChange fnExactCountExactWrong)

/-- 'laws.FnExactLowestPowers': WHATEVER THE INPUT: true; the input reads as it did. -/
def fnExactLowestPowersSpec : ChangeSpec := { name := "fnExactLowestPowers", fn := fun _ => fun
  | [d] => { results := [.lit (.bool true)], args := [d] }
  | _ => none }
def fnExactLowestPowersRow : OpenClaim := { program := "ytkalaahmbdimfaa", sum := "d2cd7b4f46ace67b6238ad14949b88561513dc9e3a0ac486fefe47afc9dd1bb4", func := "loop.example/g01262/laws.FnExactLowestPowers", spec := "fnExactLowestPowers", apart := false }
def FnExactLowestPowersSaid : Prop := fnExactLowestPowersRow.holds Try.pinned (OpenSpec.ofChange fnExactLowestPowersSpec)

/-- ITS FALSE NEIGHBOUR: 'it returns false'. Refute it at one input. -/
def fnExactLowestPowersWrong : ChangeSpec := { name := "fnExactLowestPowers", fn := fun _ => fun
  | [d] => { results := [.lit (.bool false)], args := [d] }
  | _ => none }
def FnExactLowestPowersWrongFalsely : Prop := fnExactLowestPowersRow.holds Try.pinned (OpenSpec.ofChange fnExactLowestPowersWrong)

/-- 'laws.FnExactWalkScheme': WHATEVER THE INPUT: true; the input reads as it did. -/
def fnExactWalkSchemeSpec : ChangeSpec := { name := "fnExactWalkScheme", fn := fun _ => fun
  | [d1, d2, d3] => { results := [.lit (.bool true)], args := [d1, d2, d3] }
  | _ => none }
def fnExactWalkSchemeRow : OpenClaim := { program := "ytkalaahmbdimfaa", sum := "d2cd7b4f46ace67b6238ad14949b88561513dc9e3a0ac486fefe47afc9dd1bb4", func := "loop.example/g01262/laws.FnExactWalkScheme", spec := "fnExactWalkScheme", unfollowed := true, recurses := true, apart := false }
def FnExactWalkSchemeSaid : Prop := fnExactWalkSchemeRow.holds Try.pinned (OpenSpec.ofChange fnExactWalkSchemeSpec)

/-- ITS FALSE NEIGHBOUR: 'it returns false'. Refute it at one input. -/
def fnExactWalkSchemeWrong : ChangeSpec := { name := "fnExactWalkScheme", fn := fun _ => fun
  | [d1, d2, d3] => { results := [.lit (.bool false)], args := [d1, d2, d3] }
  | _ => none }
def FnExactWalkSchemeWrongFalsely : Prop := fnExactWalkSchemeRow.holds Try.pinned (OpenSpec.ofChange fnExactWalkSchemeWrong)

/-- 'laws.FnExactMergeScheme': WHATEVER THE INPUT: true; the input reads as it did. -/
def fnExactMergeSchemeSpec : ChangeSpec := { name := "fnExactMergeScheme", fn := fun _ => fun
  | [d] => { results := [.lit (.bool true)], args := [d] }
  | _ => none }
def fnExactMergeSchemeRow : OpenClaim := { program := "ytkalaahmbdimfaa", sum := "d2cd7b4f46ace67b6238ad14949b88561513dc9e3a0ac486fefe47afc9dd1bb4", func := "loop.example/g01262/laws.FnExactMergeScheme", spec := "fnExactMergeScheme", unfollowed := true, recurses := true, apart := false }
def FnExactMergeSchemeSaid : Prop := fnExactMergeSchemeRow.holds Try.pinned (OpenSpec.ofChange fnExactMergeSchemeSpec)

/-- ITS FALSE NEIGHBOUR: 'it returns false'. Refute it at one input. -/
def fnExactMergeSchemeWrong : ChangeSpec := { name := "fnExactMergeScheme", fn := fun _ => fun
  | [d] => { results := [.lit (.bool false)], args := [d] }
  | _ => none }
def FnExactMergeSchemeWrongFalsely : Prop := fnExactMergeSchemeRow.holds Try.pinned (OpenSpec.ofChange fnExactMergeSchemeWrong)

/-- 'laws.FnExactValueOfBorder': WHATEVER THE INPUT: true; the input reads as it did. -/
def fnExactValueOfBorderSpec : ChangeSpec := { name := "fnExactValueOfBorder", fn := fun _ => fun
  | [d1, d2] => { results := [.lit (.bool true)], args := [d1, d2] }
  | _ => none }
def fnExactValueOfBorderRow : OpenClaim := { program := "ytkalaahmbdimfaa", sum := "d2cd7b4f46ace67b6238ad14949b88561513dc9e3a0ac486fefe47afc9dd1bb4", func := "loop.example/g01262/laws.FnExactValueOfBorder", spec := "fnExactValueOfBorder", unfollowed := true, recurses := true, apart := false }
def FnExactValueOfBorderSaid : Prop := fnExactValueOfBorderRow.holds Try.pinned (OpenSpec.ofChange fnExactValueOfBorderSpec)

/-- ITS FALSE NEIGHBOUR: 'it returns false'. Refute it at one input. -/
def fnExactValueOfBorderWrong : ChangeSpec := { name := "fnExactValueOfBorder", fn := fun _ => fun
  | [d1, d2] => { results := [.lit (.bool false)], args := [d1, d2] }
  | _ => none }
def FnExactValueOfBorderWrongFalsely : Prop := fnExactValueOfBorderRow.holds Try.pinned (OpenSpec.ofChange fnExactValueOfBorderWrong)

/-- 'laws.FnExactExactScheme': WHATEVER THE INPUT: true; the input reads as it did. -/
def fnExactExactSchemeSpec : ChangeSpec := { name := "fnExactExactScheme", fn := fun _ => fun
  | [d1, d2] => { results := [.lit (.bool true)], args := [d1, d2] }
  | _ => none }
def fnExactExactSchemeRow : OpenClaim := { program := "ytkalaahmbdimfaa", sum := "d2cd7b4f46ace67b6238ad14949b88561513dc9e3a0ac486fefe47afc9dd1bb4", func := "loop.example/g01262/laws.FnExactExactScheme", spec := "fnExactExactScheme", unfollowed := true, recurses := true, apart := false }
def FnExactExactSchemeSaid : Prop := fnExactExactSchemeRow.holds Try.pinned (OpenSpec.ofChange fnExactExactSchemeSpec)

/-- ITS FALSE NEIGHBOUR: 'it returns false'. Refute it at one input. -/
def fnExactExactSchemeWrong : ChangeSpec := { name := "fnExactExactScheme", fn := fun _ => fun
  | [d1, d2] => { results := [.lit (.bool false)], args := [d1, d2] }
  | _ => none }
def FnExactExactSchemeWrongFalsely : Prop := fnExactExactSchemeRow.holds Try.pinned (OpenSpec.ofChange fnExactExactSchemeWrong)

/-- 'laws.FnExactRankOfPairs': WHATEVER THE INPUT: true; the input reads as it did. -/
def fnExactRankOfPairsSpec : ChangeSpec := { name := "fnExactRankOfPairs", fn := fun _ => fun
  | [d1, d2, d3, d4, d5] => { results := [.lit (.bool true)], args := [d1, d2, d3, d4, d5] }
  | _ => none }
def fnExactRankOfPairsRow : OpenClaim := { program := "ytkalaahmbdimfaa", sum := "d2cd7b4f46ace67b6238ad14949b88561513dc9e3a0ac486fefe47afc9dd1bb4", func := "loop.example/g01262/laws.FnExactRankOfPairs", spec := "fnExactRankOfPairs", unfollowed := true, recurses := true, apart := false }
def FnExactRankOfPairsSaid : Prop := fnExactRankOfPairsRow.holds Try.pinned (OpenSpec.ofChange fnExactRankOfPairsSpec)

/-- ITS FALSE NEIGHBOUR: 'it returns false'. Refute it at one input. -/
def fnExactRankOfPairsWrong : ChangeSpec := { name := "fnExactRankOfPairs", fn := fun _ => fun
  | [d1, d2, d3, d4, d5] => { results := [.lit (.bool false)], args := [d1, d2, d3, d4, d5] }
  | _ => none }
def FnExactRankOfPairsWrongFalsely : Prop := fnExactRankOfPairsRow.holds Try.pinned (OpenSpec.ofChange fnExactRankOfPairsWrong)

/-- 'laws.FnExactCompletePairs': WHATEVER THE INPUT: true; the input reads as it did. -/
def fnExactCompletePairsSpec : ChangeSpec := { name := "fnExactCompletePairs", fn := fun _ => fun
  | [d1, d2, d3, d4, d5] => { results := [.lit (.bool true)], args := [d1, d2, d3, d4, d5] }
  | _ => none }
def fnExactCompletePairsRow : OpenClaim := { program := "ytkalaahmbdimfaa", sum := "d2cd7b4f46ace67b6238ad14949b88561513dc9e3a0ac486fefe47afc9dd1bb4", func := "loop.example/g01262/laws.FnExactCompletePairs", spec := "fnExactCompletePairs", unfollowed := true, recurses := true, apart := false }
def FnExactCompletePairsSaid : Prop := fnExactCompletePairsRow.holds Try.pinned (OpenSpec.ofChange fnExactCompletePairsSpec)

/-- ITS FALSE NEIGHBOUR: 'it returns false'. Refute it at one input. -/
def fnExactCompletePairsWrong : ChangeSpec := { name := "fnExactCompletePairs", fn := fun _ => fun
  | [d1, d2, d3, d4, d5] => { results := [.lit (.bool false)], args := [d1, d2, d3, d4, d5] }
  | _ => none }
def FnExactCompletePairsWrongFalsely : Prop := fnExactCompletePairsRow.holds Try.pinned (OpenSpec.ofChange fnExactCompletePairsWrong)

/-- 'laws.FnExactCountPairSets': WHATEVER THE INPUT: true; the input reads as it did. -/
def fnExactCountPairSetsSpec : ChangeSpec := { name := "fnExactCountPairSets", fn := fun _ => fun
  | [d1, d2, d3, d4] => { results := [.lit (.bool true)], args := [d1, d2, d3, d4] }
  | _ => none }
def fnExactCountPairSetsRow : OpenClaim := { program := "ytkalaahmbdimfaa", sum := "d2cd7b4f46ace67b6238ad14949b88561513dc9e3a0ac486fefe47afc9dd1bb4", func := "loop.example/g01262/laws.FnExactCountPairSets", spec := "fnExactCountPairSets", unfollowed := true, recurses := true, apart := false }
def FnExactCountPairSetsSaid : Prop := fnExactCountPairSetsRow.holds Try.pinned (OpenSpec.ofChange fnExactCountPairSetsSpec)

/-- ITS FALSE NEIGHBOUR: 'it returns false'. Refute it at one input. -/
def fnExactCountPairSetsWrong : ChangeSpec := { name := "fnExactCountPairSets", fn := fun _ => fun
  | [d1, d2, d3, d4] => { results := [.lit (.bool false)], args := [d1, d2, d3, d4] }
  | _ => none }
def FnExactCountPairSetsWrongFalsely : Prop := fnExactCountPairSetsRow.holds Try.pinned (OpenSpec.ofChange fnExactCountPairSetsWrong)

/-- 'laws.FnExactNeedlessProducts': WHATEVER THE INPUT: true; the input reads as it did. -/
def fnExactNeedlessProductsSpec : ChangeSpec := { name := "fnExactNeedlessProducts", fn := fun _ => fun
  | [d] => { results := [.lit (.bool true)], args := [d] }
  | _ => none }
def fnExactNeedlessProductsRow : OpenClaim := { program := "ytkalaahmbdimfaa", sum := "d2cd7b4f46ace67b6238ad14949b88561513dc9e3a0ac486fefe47afc9dd1bb4", func := "loop.example/g01262/laws.FnExactNeedlessProducts", spec := "fnExactNeedlessProducts", unfollowed := true, recurses := true, apart := false }
def FnExactNeedlessProductsSaid : Prop := fnExactNeedlessProductsRow.holds Try.pinned (OpenSpec.ofChange fnExactNeedlessProductsSpec)

/-- ITS FALSE NEIGHBOUR: 'it returns false'. Refute it at one input. -/
def fnExactNeedlessProductsWrong : ChangeSpec := { name := "fnExactNeedlessProducts", fn := fun _ => fun
  | [d] => { results := [.lit (.bool false)], args := [d] }
  | _ => none }
def FnExactNeedlessProductsWrongFalsely : Prop := fnExactNeedlessProductsRow.holds Try.pinned (OpenSpec.ofChange fnExactNeedlessProductsWrong)

/-- 'laws.FnExactLeastNumber': WHATEVER THE INPUT: true; the input reads as it did. -/
def fnExactLeastNumberSpec : ChangeSpec := { name := "fnExactLeastNumber", fn := fun _ => fun
  | [d1, d2, d3] => { results := [.lit (.bool true)], args := [d1, d2, d3] }
  | _ => none }
def fnExactLeastNumberRow : OpenClaim := { program := "ytkalaahmbdimfaa", sum := "d2cd7b4f46ace67b6238ad14949b88561513dc9e3a0ac486fefe47afc9dd1bb4", func := "loop.example/g01262/laws.FnExactLeastNumber", spec := "fnExactLeastNumber", recurses := true, apart := false }
def FnExactLeastNumberSaid : Prop := fnExactLeastNumberRow.holds Try.pinned (OpenSpec.ofChange fnExactLeastNumberSpec)

/-- ITS FALSE NEIGHBOUR: 'it returns false'. Refute it at one input. -/
def fnExactLeastNumberWrong : ChangeSpec := { name := "fnExactLeastNumber", fn := fun _ => fun
  | [d1, d2, d3] => { results := [.lit (.bool false)], args := [d1, d2, d3] }
  | _ => none }
def FnExactLeastNumberWrongFalsely : Prop := fnExactLeastNumberRow.holds Try.pinned (OpenSpec.ofChange fnExactLeastNumberWrong)

/-- 'laws.FnLeastNumbers': WHATEVER THE INPUT: true; the input reads as it did. -/
def fnLeastNumbersSpec : ChangeSpec := { name := "fnLeastNumbers", fn := fun _ => fun
  | [d] => { results := [.lit (.bool true)], args := [d] }
  | _ => none }
def fnLeastNumbersRow : OpenClaim := { program := "ytkalaahmbdimfaa", sum := "d2cd7b4f46ace67b6238ad14949b88561513dc9e3a0ac486fefe47afc9dd1bb4", func := "loop.example/g01262/laws.FnLeastNumbers", spec := "fnLeastNumbers", unfollowed := true, recurses := true, apart := false }
def FnLeastNumbersSaid : Prop := fnLeastNumbersRow.holds Try.pinned (OpenSpec.ofChange fnLeastNumbersSpec)

/-- ITS FALSE NEIGHBOUR: 'it returns false'. Refute it at one input. -/
def fnLeastNumbersWrong : ChangeSpec := { name := "fnLeastNumbers", fn := fun _ => fun
  | [d] => { results := [.lit (.bool false)], args := [d] }
  | _ => none }
def FnLeastNumbersWrongFalsely : Prop := fnLeastNumbersRow.holds Try.pinned (OpenSpec.ofChange fnLeastNumbersWrong)

/-- 'laws.FnKnownTensors': WHATEVER THE INPUT: true; the input reads as it did. -/
def fnKnownTensorsSpec : ChangeSpec := { name := "fnKnownTensors", fn := fun _ => fun
  | [d] => { results := [.lit (.bool true)], args := [d] }
  | _ => none }
def fnKnownTensorsRow : OpenClaim := { program := "ytkalaahmbdimfaa", sum := "d2cd7b4f46ace67b6238ad14949b88561513dc9e3a0ac486fefe47afc9dd1bb4", func := "loop.example/g01262/laws.FnKnownTensors", spec := "fnKnownTensors", unfollowed := true, recurses := true, apart := false }
def FnKnownTensorsSaid : Prop := fnKnownTensorsRow.holds Try.pinned (OpenSpec.ofChange fnKnownTensorsSpec)

/-- ITS FALSE NEIGHBOUR: 'it returns false'. Refute it at one input. -/
def fnKnownTensorsWrong : ChangeSpec := { name := "fnKnownTensors", fn := fun _ => fun
  | [d] => { results := [.lit (.bool false)], args := [d] }
  | _ => none }
def FnKnownTensorsWrongFalsely : Prop := fnKnownTensorsRow.holds Try.pinned (OpenSpec.ofChange fnKnownTensorsWrong)

/-- 'laws.FnMethodProducts': WHATEVER THE INPUT: true; the input reads as it did. -/
def fnMethodProductsSpec : ChangeSpec := { name := "fnMethodProducts", fn := fun _ => fun
  | [d] => { results := [.lit (.bool true)], args := [d] }
  | _ => none }
def fnMethodProductsRow : OpenClaim := { program := "ytkalaahmbdimfaa", sum := "d2cd7b4f46ace67b6238ad14949b88561513dc9e3a0ac486fefe47afc9dd1bb4", func := "loop.example/g01262/laws.FnMethodProducts", spec := "fnMethodProducts", unfollowed := true, recurses := true, apart := false }
def FnMethodProductsSaid : Prop := fnMethodProductsRow.holds Try.pinned (OpenSpec.ofChange fnMethodProductsSpec)

/-- ITS FALSE NEIGHBOUR: 'it returns false'. Refute it at one input. -/
def fnMethodProductsWrong : ChangeSpec := { name := "fnMethodProducts", fn := fun _ => fun
  | [d] => { results := [.lit (.bool false)], args := [d] }
  | _ => none }
def FnMethodProductsWrongFalsely : Prop := fnMethodProductsRow.holds Try.pinned (OpenSpec.ofChange fnMethodProductsWrong)

/-- 'laws.FnWalks': WHATEVER THE INPUT: true; the input reads as it did. -/
def fnWalksSpec : ChangeSpec := { name := "fnWalks", fn := fun _ => fun
  | [d] => { results := [.lit (.bool true)], args := [d] }
  | _ => none }
def fnWalksRow : OpenClaim := { program := "ytkalaahmbdimfaa", sum := "d2cd7b4f46ace67b6238ad14949b88561513dc9e3a0ac486fefe47afc9dd1bb4", func := "loop.example/g01262/laws.FnWalks", spec := "fnWalks", unfollowed := true, recurses := true, apart := false }
def FnWalksSaid : Prop := fnWalksRow.holds Try.pinned (OpenSpec.ofChange fnWalksSpec)

/-- ITS FALSE NEIGHBOUR: 'it returns false'. Refute it at one input. -/
def fnWalksWrong : ChangeSpec := { name := "fnWalks", fn := fun _ => fun
  | [d] => { results := [.lit (.bool false)], args := [d] }
  | _ => none }
def FnWalksWrongFalsely : Prop := fnWalksRow.holds Try.pinned (OpenSpec.ofChange fnWalksWrong)

/-- 'laws.FnMethods': WHATEVER THE INPUT: true; the input reads as it did. -/
def fnMethodsSpec : ChangeSpec := { name := "fnMethods", fn := fun _ => fun
  | [d] => { results := [.lit (.bool true)], args := [d] }
  | _ => none }
def fnMethodsRow : OpenClaim := { program := "ytkalaahmbdimfaa", sum := "d2cd7b4f46ace67b6238ad14949b88561513dc9e3a0ac486fefe47afc9dd1bb4", func := "loop.example/g01262/laws.FnMethods", spec := "fnMethods", unfollowed := true, recurses := true, apart := false }
def FnMethodsSaid : Prop := fnMethodsRow.holds Try.pinned (OpenSpec.ofChange fnMethodsSpec)

/-- ITS FALSE NEIGHBOUR: 'it returns false'. Refute it at one input. -/
def fnMethodsWrong : ChangeSpec := { name := "fnMethods", fn := fun _ => fun
  | [d] => { results := [.lit (.bool false)], args := [d] }
  | _ => none }
def FnMethodsWrongFalsely : Prop := fnMethodsRow.holds Try.pinned (OpenSpec.ofChange fnMethodsWrong)

/-- 'laws.FnExactSchemes': WHATEVER THE INPUT: true; the input reads as it did. -/
def fnExactSchemesSpec : ChangeSpec := { name := "fnExactSchemes", fn := fun _ => fun
  | [d] => { results := [.lit (.bool true)], args := [d] }
  | _ => none }
def fnExactSchemesRow : OpenClaim := { program := "ytkalaahmbdimfaa", sum := "d2cd7b4f46ace67b6238ad14949b88561513dc9e3a0ac486fefe47afc9dd1bb4", func := "loop.example/g01262/laws.FnExactSchemes", spec := "fnExactSchemes", unfollowed := true, recurses := true, apart := false }
def FnExactSchemesSaid : Prop := fnExactSchemesRow.holds Try.pinned (OpenSpec.ofChange fnExactSchemesSpec)

/-- ITS FALSE NEIGHBOUR: 'it returns false'. Refute it at one input. -/
def fnExactSchemesWrong : ChangeSpec := { name := "fnExactSchemes", fn := fun _ => fun
  | [d] => { results := [.lit (.bool false)], args := [d] }
  | _ => none }
def FnExactSchemesWrongFalsely : Prop := fnExactSchemesRow.holds Try.pinned (OpenSpec.ofChange fnExactSchemesWrong)

/-- 'laws.FnCompletions': WHATEVER THE INPUT: true; the input reads as it did. -/
def fnCompletionsSpec : ChangeSpec := { name := "fnCompletions", fn := fun _ => fun
  | [d] => { results := [.lit (.bool true)], args := [d] }
  | _ => none }
def fnCompletionsRow : OpenClaim := { program := "ytkalaahmbdimfaa", sum := "d2cd7b4f46ace67b6238ad14949b88561513dc9e3a0ac486fefe47afc9dd1bb4", func := "loop.example/g01262/laws.FnCompletions", spec := "fnCompletions", unfollowed := true, recurses := true, apart := false }
def FnCompletionsSaid : Prop := fnCompletionsRow.holds Try.pinned (OpenSpec.ofChange fnCompletionsSpec)

/-- ITS FALSE NEIGHBOUR: 'it returns false'. Refute it at one input. -/
def fnCompletionsWrong : ChangeSpec := { name := "fnCompletions", fn := fun _ => fun
  | [d] => { results := [.lit (.bool false)], args := [d] }
  | _ => none }
def FnCompletionsWrongFalsely : Prop := fnCompletionsRow.holds Try.pinned (OpenSpec.ofChange fnCompletionsWrong)

/- THE SECOND FORM. 'bulk': how many values and letters a reading holds, each counted each time it is reached (what is shared counts as often as it is met; a slice's spare places count too). A statement '..UptoSaid' is the law's where the arguments, and the package variables that the reading takes, are together of bulk at most 1048576: NARROWER than '..Said'. Prove '..Said' where nothing that the law and all that it calls make is longer than what came in: it says more and counts as full. Else prove '..UptoSaid'. A law counts once. -/
mutual
def uptoBulk {H : Type} : DataW H → Nat
  | .lit (.string bytes) => bytes.length + 1
  | .lit _ => 1
  | .nil => 1
  | .ptr d => uptoBulk d + 1
  | .slice elems spare => uptoBulkAll elems + uptoBulkAll spare + 1
  | .agg parts => uptoBulkAll parts + 1
  | .iface _ d => uptoBulk d + 1
  | .map entries => uptoBulkEntries entries + 1
  | .held _ => 1
def uptoBulkAll {H : Type} : List (DataW H) → Nat
  | [] => 0
  | d :: r => uptoBulk d + uptoBulkAll r
def uptoBulkEntries {H : Type} : List (Lit × DataW H) → Nat
  | [] => 0
  | x :: r => uptoBulkEntry x + uptoBulkEntries r
def uptoBulkEntry {H : Type} : Lit × DataW H → Nat
  | (.string bytes, d) => bytes.length + uptoBulk d + 1
  | (_, d) => uptoBulk d + 1
 end
def uptoSmall : (H : Type) → List (DataW H) → Bool := fun _ ds => decide (uptoBulkAll ds ≤ 1048576)
def OpenSpec.upto (s : _root_.Go.ChangeSpec) : _root_.Go.OpenSpec := { _root_.Go.OpenSpec.ofChange s with cond := some uptoSmall }

/-- 'laws.FnExactBoundOf', WHERE WHAT IT READS IS OF BULK AT MOST 1048576: true; the input reads as it did. -/
def fnExactBoundOfUptoRow : OpenClaim := { program := "ytkalaahmbdimfaa", sum := "d2cd7b4f46ace67b6238ad14949b88561513dc9e3a0ac486fefe47afc9dd1bb4", func := "loop.example/g01262/laws.FnExactBoundOf", spec := "fnExactBoundOf", unfollowed := true, recurses := true, apart := false, narrowed := true }
def FnExactBoundOfUptoSaid : Prop := fnExactBoundOfUptoRow.holds Try.pinned (OpenSpec.upto fnExactBoundOfSpec)

/-- 'laws.FnExactCountExact', WHERE WHAT IT READS IS OF BULK AT MOST 1048576: true; the input reads as it did. -/
def fnExactCountExactUptoRow : OpenClaim := { program := "ytkalaahmbdimfaa", sum := "d2cd7b4f46ace67b6238ad14949b88561513dc9e3a0ac486fefe47afc9dd1bb4", func := "loop.example/g01262/laws.FnExactCountExact", spec := "fnExactCountExact", unfollowed := true, recurses := true, apart := false, narrowed := true }
def FnExactCountExactUptoSaid : Prop := fnExactCountExactUptoRow.holds Try.pinned (OpenSpec.upto fnExactCountExactSpec)

/-- 'laws.FnExactLowestPowers', WHERE WHAT IT READS IS OF BULK AT MOST 1048576: true; the input reads as it did. -/
def fnExactLowestPowersUptoRow : OpenClaim := { program := "ytkalaahmbdimfaa", sum := "d2cd7b4f46ace67b6238ad14949b88561513dc9e3a0ac486fefe47afc9dd1bb4", func := "loop.example/g01262/laws.FnExactLowestPowers", spec := "fnExactLowestPowers", apart := false, narrowed := true }
def FnExactLowestPowersUptoSaid : Prop := fnExactLowestPowersUptoRow.holds Try.pinned (OpenSpec.upto fnExactLowestPowersSpec)

/-- 'laws.FnExactWalkScheme', WHERE WHAT IT READS IS OF BULK AT MOST 1048576: true; the input reads as it did. -/
def fnExactWalkSchemeUptoRow : OpenClaim := { program := "ytkalaahmbdimfaa", sum := "d2cd7b4f46ace67b6238ad14949b88561513dc9e3a0ac486fefe47afc9dd1bb4", func := "loop.example/g01262/laws.FnExactWalkScheme", spec := "fnExactWalkScheme", unfollowed := true, recurses := true, apart := false, narrowed := true }
def FnExactWalkSchemeUptoSaid : Prop := fnExactWalkSchemeUptoRow.holds Try.pinned (OpenSpec.upto fnExactWalkSchemeSpec)

/-- 'laws.FnExactMergeScheme', WHERE WHAT IT READS IS OF BULK AT MOST 1048576: true; the input reads as it did. -/
def fnExactMergeSchemeUptoRow : OpenClaim := { program := "ytkalaahmbdimfaa", sum := "d2cd7b4f46ace67b6238ad14949b88561513dc9e3a0ac486fefe47afc9dd1bb4", func := "loop.example/g01262/laws.FnExactMergeScheme", spec := "fnExactMergeScheme", unfollowed := true, recurses := true, apart := false, narrowed := true }
def FnExactMergeSchemeUptoSaid : Prop := fnExactMergeSchemeUptoRow.holds Try.pinned (OpenSpec.upto fnExactMergeSchemeSpec)

/-- 'laws.FnExactValueOfBorder', WHERE WHAT IT READS IS OF BULK AT MOST 1048576: true; the input reads as it did. -/
def fnExactValueOfBorderUptoRow : OpenClaim := { program := "ytkalaahmbdimfaa", sum := "d2cd7b4f46ace67b6238ad14949b88561513dc9e3a0ac486fefe47afc9dd1bb4", func := "loop.example/g01262/laws.FnExactValueOfBorder", spec := "fnExactValueOfBorder", unfollowed := true, recurses := true, apart := false, narrowed := true }
def FnExactValueOfBorderUptoSaid : Prop := fnExactValueOfBorderUptoRow.holds Try.pinned (OpenSpec.upto fnExactValueOfBorderSpec)

/-- 'laws.FnExactExactScheme', WHERE WHAT IT READS IS OF BULK AT MOST 1048576: true; the input reads as it did. -/
def fnExactExactSchemeUptoRow : OpenClaim := { program := "ytkalaahmbdimfaa", sum := "d2cd7b4f46ace67b6238ad14949b88561513dc9e3a0ac486fefe47afc9dd1bb4", func := "loop.example/g01262/laws.FnExactExactScheme", spec := "fnExactExactScheme", unfollowed := true, recurses := true, apart := false, narrowed := true }
def FnExactExactSchemeUptoSaid : Prop := fnExactExactSchemeUptoRow.holds Try.pinned (OpenSpec.upto fnExactExactSchemeSpec)

/-- 'laws.FnExactRankOfPairs', WHERE WHAT IT READS IS OF BULK AT MOST 1048576: true; the input reads as it did. -/
def fnExactRankOfPairsUptoRow : OpenClaim := { program := "ytkalaahmbdimfaa", sum := "d2cd7b4f46ace67b6238ad14949b88561513dc9e3a0ac486fefe47afc9dd1bb4", func := "loop.example/g01262/laws.FnExactRankOfPairs", spec := "fnExactRankOfPairs", unfollowed := true, recurses := true, apart := false, narrowed := true }
def FnExactRankOfPairsUptoSaid : Prop := fnExactRankOfPairsUptoRow.holds Try.pinned (OpenSpec.upto fnExactRankOfPairsSpec)

/-- 'laws.FnExactCompletePairs', WHERE WHAT IT READS IS OF BULK AT MOST 1048576: true; the input reads as it did. -/
def fnExactCompletePairsUptoRow : OpenClaim := { program := "ytkalaahmbdimfaa", sum := "d2cd7b4f46ace67b6238ad14949b88561513dc9e3a0ac486fefe47afc9dd1bb4", func := "loop.example/g01262/laws.FnExactCompletePairs", spec := "fnExactCompletePairs", unfollowed := true, recurses := true, apart := false, narrowed := true }
def FnExactCompletePairsUptoSaid : Prop := fnExactCompletePairsUptoRow.holds Try.pinned (OpenSpec.upto fnExactCompletePairsSpec)

/-- 'laws.FnExactCountPairSets', WHERE WHAT IT READS IS OF BULK AT MOST 1048576: true; the input reads as it did. -/
def fnExactCountPairSetsUptoRow : OpenClaim := { program := "ytkalaahmbdimfaa", sum := "d2cd7b4f46ace67b6238ad14949b88561513dc9e3a0ac486fefe47afc9dd1bb4", func := "loop.example/g01262/laws.FnExactCountPairSets", spec := "fnExactCountPairSets", unfollowed := true, recurses := true, apart := false, narrowed := true }
def FnExactCountPairSetsUptoSaid : Prop := fnExactCountPairSetsUptoRow.holds Try.pinned (OpenSpec.upto fnExactCountPairSetsSpec)

/-- 'laws.FnExactNeedlessProducts', WHERE WHAT IT READS IS OF BULK AT MOST 1048576: true; the input reads as it did. -/
def fnExactNeedlessProductsUptoRow : OpenClaim := { program := "ytkalaahmbdimfaa", sum := "d2cd7b4f46ace67b6238ad14949b88561513dc9e3a0ac486fefe47afc9dd1bb4", func := "loop.example/g01262/laws.FnExactNeedlessProducts", spec := "fnExactNeedlessProducts", unfollowed := true, recurses := true, apart := false, narrowed := true }
def FnExactNeedlessProductsUptoSaid : Prop := fnExactNeedlessProductsUptoRow.holds Try.pinned (OpenSpec.upto fnExactNeedlessProductsSpec)

/-- 'laws.FnExactLeastNumber', WHERE WHAT IT READS IS OF BULK AT MOST 1048576: true; the input reads as it did. -/
def fnExactLeastNumberUptoRow : OpenClaim := { program := "ytkalaahmbdimfaa", sum := "d2cd7b4f46ace67b6238ad14949b88561513dc9e3a0ac486fefe47afc9dd1bb4", func := "loop.example/g01262/laws.FnExactLeastNumber", spec := "fnExactLeastNumber", recurses := true, apart := false, narrowed := true }
def FnExactLeastNumberUptoSaid : Prop := fnExactLeastNumberUptoRow.holds Try.pinned (OpenSpec.upto fnExactLeastNumberSpec)

/-- 'laws.FnLeastNumbers', WHERE WHAT IT READS IS OF BULK AT MOST 1048576: true; the input reads as it did. -/
def fnLeastNumbersUptoRow : OpenClaim := { program := "ytkalaahmbdimfaa", sum := "d2cd7b4f46ace67b6238ad14949b88561513dc9e3a0ac486fefe47afc9dd1bb4", func := "loop.example/g01262/laws.FnLeastNumbers", spec := "fnLeastNumbers", unfollowed := true, recurses := true, apart := false, narrowed := true }
def FnLeastNumbersUptoSaid : Prop := fnLeastNumbersUptoRow.holds Try.pinned (OpenSpec.upto fnLeastNumbersSpec)

/-- 'laws.FnKnownTensors', WHERE WHAT IT READS IS OF BULK AT MOST 1048576: true; the input reads as it did. -/
def fnKnownTensorsUptoRow : OpenClaim := { program := "ytkalaahmbdimfaa", sum := "d2cd7b4f46ace67b6238ad14949b88561513dc9e3a0ac486fefe47afc9dd1bb4", func := "loop.example/g01262/laws.FnKnownTensors", spec := "fnKnownTensors", unfollowed := true, recurses := true, apart := false, narrowed := true }
def FnKnownTensorsUptoSaid : Prop := fnKnownTensorsUptoRow.holds Try.pinned (OpenSpec.upto fnKnownTensorsSpec)

/-- 'laws.FnMethodProducts', WHERE WHAT IT READS IS OF BULK AT MOST 1048576: true; the input reads as it did. -/
def fnMethodProductsUptoRow : OpenClaim := { program := "ytkalaahmbdimfaa", sum := "d2cd7b4f46ace67b6238ad14949b88561513dc9e3a0ac486fefe47afc9dd1bb4", func := "loop.example/g01262/laws.FnMethodProducts", spec := "fnMethodProducts", unfollowed := true, recurses := true, apart := false, narrowed := true }
def FnMethodProductsUptoSaid : Prop := fnMethodProductsUptoRow.holds Try.pinned (OpenSpec.upto fnMethodProductsSpec)

/-- 'laws.FnWalks', WHERE WHAT IT READS IS OF BULK AT MOST 1048576: true; the input reads as it did. -/
def fnWalksUptoRow : OpenClaim := { program := "ytkalaahmbdimfaa", sum := "d2cd7b4f46ace67b6238ad14949b88561513dc9e3a0ac486fefe47afc9dd1bb4", func := "loop.example/g01262/laws.FnWalks", spec := "fnWalks", unfollowed := true, recurses := true, apart := false, narrowed := true }
def FnWalksUptoSaid : Prop := fnWalksUptoRow.holds Try.pinned (OpenSpec.upto fnWalksSpec)

/-- 'laws.FnMethods', WHERE WHAT IT READS IS OF BULK AT MOST 1048576: true; the input reads as it did. -/
def fnMethodsUptoRow : OpenClaim := { program := "ytkalaahmbdimfaa", sum := "d2cd7b4f46ace67b6238ad14949b88561513dc9e3a0ac486fefe47afc9dd1bb4", func := "loop.example/g01262/laws.FnMethods", spec := "fnMethods", unfollowed := true, recurses := true, apart := false, narrowed := true }
def FnMethodsUptoSaid : Prop := fnMethodsUptoRow.holds Try.pinned (OpenSpec.upto fnMethodsSpec)

/-- 'laws.FnExactSchemes', WHERE WHAT IT READS IS OF BULK AT MOST 1048576: true; the input reads as it did. -/
def fnExactSchemesUptoRow : OpenClaim := { program := "ytkalaahmbdimfaa", sum := "d2cd7b4f46ace67b6238ad14949b88561513dc9e3a0ac486fefe47afc9dd1bb4", func := "loop.example/g01262/laws.FnExactSchemes", spec := "fnExactSchemes", unfollowed := true, recurses := true, apart := false, narrowed := true }
def FnExactSchemesUptoSaid : Prop := fnExactSchemesUptoRow.holds Try.pinned (OpenSpec.upto fnExactSchemesSpec)

/-- 'laws.FnCompletions', WHERE WHAT IT READS IS OF BULK AT MOST 1048576: true; the input reads as it did. -/
def fnCompletionsUptoRow : OpenClaim := { program := "ytkalaahmbdimfaa", sum := "d2cd7b4f46ace67b6238ad14949b88561513dc9e3a0ac486fefe47afc9dd1bb4", func := "loop.example/g01262/laws.FnCompletions", spec := "fnCompletions", unfollowed := true, recurses := true, apart := false, narrowed := true }
def FnCompletionsUptoSaid : Prop := fnCompletionsUptoRow.holds Try.pinned (OpenSpec.upto fnCompletionsSpec)

end Rows
end Go.Proofs.Ytkalaahmbdimfaa
