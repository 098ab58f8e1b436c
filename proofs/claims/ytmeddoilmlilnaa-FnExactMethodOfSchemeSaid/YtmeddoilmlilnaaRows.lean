/-
  No cell of these rows narrows 'for every input' (looked for: loops, veiled, ifaces, maps, wideKeys, modest, calm, conditions, laid).
  DERIVED. THE GIVEN ROWS OF THIS SEAT. 19 by the template 'for every input the law returns true; each argument reads behind the call as it read before'; 0 by the template 'total and deterministic' (their statements: YtmeddoilmlilnaaTotals.lean).
  GIVEN WITH THE SEED: the statements are not yours to turn. If you find one false, say at which input.
  Laid BY PROGRAM, IN A SANDBOX (cutbox-rows.mjs): the forced cells as the released guide's own fill.sh prints them over the translation a44a9cbe1230190e… (all of the seat's roots in one cut). By AI agents, Wed Nov 11 2026. No macro, syntax, notation, axiom, sorry.
-/
import Derived.Test.YtmeddoilmlilnaaChecked
import GoSem.Claim
import GoSem.ClaimJoined
import GoSem.ClaimMapViews
import Derived.JoinedTies
import Derived.KernelRfl
namespace Go.Proofs.Ytmeddoilmlilnaa
/- THE CELL 'sum', in the pinned program and in every row, IS THE sha256 OF THE DUMP (.gsa) THAT YtmeddoilmlilnaaProg.lean LOADS. Nothing in Lean hashes anything: it is a label: what it is worth is what the hold of that sum in a sandbox is worth. -/
noncomputable def Try.pinned : Pinned := { name := "ytmeddoilmlilnaa", sum := "a44a9cbe1230190ef79b2f04a1f9b43a63dbdff938e81caa1df7f80dcfb929fa", checked := Try.checked }
namespace Rows
def none {H : Type} : Left H := { results := [], args := [] }

/-- 'laws.FnExactPairsOf': WHATEVER THE INPUT: true; the input reads as it did. -/
def fnExactPairsOfSpec : ChangeSpec := { name := "fnExactPairsOf", fn := fun _ => fun
  | [d] => { results := [.lit (.bool true)], args := [d] }
  | _ => none }
def fnExactPairsOfRow : OpenClaim := { program := "ytmeddoilmlilnaa", sum := "a44a9cbe1230190ef79b2f04a1f9b43a63dbdff938e81caa1df7f80dcfb929fa", func := "loop.example/g01262/laws.FnExactPairsOf", spec := "fnExactPairsOf", apart := false }
def FnExactPairsOfSaid : Prop := fnExactPairsOfRow.holds Try.pinned (OpenSpec.ofChange fnExactPairsOfSpec)

/-- ITS FALSE NEIGHBOUR: 'it returns false'. Refute it at one input. -/
def fnExactPairsOfWrong : ChangeSpec := { name := "fnExactPairsOf", fn := fun _ => fun
  | [d] => { results := [.lit (.bool false)], args := [d] }
  | _ => none }
def FnExactPairsOfWrongFalsely : Prop := fnExactPairsOfRow.holds Try.pinned (OpenSpec.ofChange fnExactPairsOfWrong)

/-- 'laws.FnExactMethodOfScheme': WHATEVER THE INPUT: true; the input reads as it did. -/
def fnExactMethodOfSchemeSpec : ChangeSpec := { name := "fnExactMethodOfScheme", fn := fun _ => fun
  | [d] => { results := [.lit (.bool true)], args := [d] }
  | _ => none }
def fnExactMethodOfSchemeRow : OpenClaim := { program := "ytmeddoilmlilnaa", sum := "a44a9cbe1230190ef79b2f04a1f9b43a63dbdff938e81caa1df7f80dcfb929fa", func := "loop.example/g01262/laws.FnExactMethodOfScheme", spec := "fnExactMethodOfScheme", apart := false }
def FnExactMethodOfSchemeSaid : Prop := fnExactMethodOfSchemeRow.holds Try.pinned (OpenSpec.ofChange fnExactMethodOfSchemeSpec)

/-- ITS FALSE NEIGHBOUR: 'it returns false'. Refute it at one input. -/
def fnExactMethodOfSchemeWrong : ChangeSpec := { name := "fnExactMethodOfScheme", fn := fun _ => fun
  | [d] => { results := [.lit (.bool false)], args := [d] }
  | _ => none }
def FnExactMethodOfSchemeWrongFalsely : Prop := fnExactMethodOfSchemeRow.holds Try.pinned (OpenSpec.ofChange fnExactMethodOfSchemeWrong)

/-- 'laws.FnExactKroneckerMethods': WHATEVER THE INPUT: true; the input reads as it did. -/
def fnExactKroneckerMethodsSpec : ChangeSpec := { name := "fnExactKroneckerMethods", fn := fun _ => fun
  | [d1, d2] => { results := [.lit (.bool true)], args := [d1, d2] }
  | _ => none }
def fnExactKroneckerMethodsRow : OpenClaim := { program := "ytmeddoilmlilnaa", sum := "a44a9cbe1230190ef79b2f04a1f9b43a63dbdff938e81caa1df7f80dcfb929fa", func := "loop.example/g01262/laws.FnExactKroneckerMethods", spec := "fnExactKroneckerMethods", apart := false }
def FnExactKroneckerMethodsSaid : Prop := fnExactKroneckerMethodsRow.holds Try.pinned (OpenSpec.ofChange fnExactKroneckerMethodsSpec)

/-- ITS FALSE NEIGHBOUR: 'it returns false'. Refute it at one input. -/
def fnExactKroneckerMethodsWrong : ChangeSpec := { name := "fnExactKroneckerMethods", fn := fun _ => fun
  | [d1, d2] => { results := [.lit (.bool false)], args := [d1, d2] }
  | _ => none }
def FnExactKroneckerMethodsWrongFalsely : Prop := fnExactKroneckerMethodsRow.holds Try.pinned (OpenSpec.ofChange fnExactKroneckerMethodsWrong)

/-- 'laws.FnExactBoundOf': WHATEVER THE INPUT: true; the input reads as it did. -/
def fnExactBoundOfSpec : ChangeSpec := { name := "fnExactBoundOf", fn := fun _ => fun
  | [d] => { results := [.lit (.bool true)], args := [d] }
  | _ => none }
def fnExactBoundOfRow : OpenClaim := { program := "ytmeddoilmlilnaa", sum := "a44a9cbe1230190ef79b2f04a1f9b43a63dbdff938e81caa1df7f80dcfb929fa", func := "loop.example/g01262/laws.FnExactBoundOf", spec := "fnExactBoundOf", unfollowed := true, recurses := true, apart := false }
def FnExactBoundOfSaid : Prop := fnExactBoundOfRow.holds Try.pinned (OpenSpec.ofChange fnExactBoundOfSpec)

/-- ITS FALSE NEIGHBOUR: 'it returns false'. Refute it at one input. -/
def fnExactBoundOfWrong : ChangeSpec := { name := "fnExactBoundOf", fn := fun _ => fun
  | [d] => { results := [.lit (.bool false)], args := [d] }
  | _ => none }
def FnExactBoundOfWrongFalsely : Prop := fnExactBoundOfRow.holds Try.pinned (OpenSpec.ofChange fnExactBoundOfWrong)

/-- 'laws.FnExactCoefficientAt': WHATEVER THE INPUT: true; the input reads as it did. -/
def fnExactCoefficientAtSpec : ChangeSpec := { name := "fnExactCoefficientAt", fn := fun _ => fun
  | [d1, d2, d3, d4, d5] => { results := [.lit (.bool true)], args := [d1, d2, d3, d4, d5] }
  | _ => none }
def fnExactCoefficientAtRow : OpenClaim := { program := "ytmeddoilmlilnaa", sum := "a44a9cbe1230190ef79b2f04a1f9b43a63dbdff938e81caa1df7f80dcfb929fa", func := "loop.example/g01262/laws.FnExactCoefficientAt", spec := "fnExactCoefficientAt", apart := false }
def FnExactCoefficientAtSaid : Prop := fnExactCoefficientAtRow.holds Try.pinned (OpenSpec.ofChange fnExactCoefficientAtSpec)

/-- ITS FALSE NEIGHBOUR: 'it returns false'. Refute it at one input. -/
def fnExactCoefficientAtWrong : ChangeSpec := { name := "fnExactCoefficientAt", fn := fun _ => fun
  | [d1, d2, d3, d4, d5] => { results := [.lit (.bool false)], args := [d1, d2, d3, d4, d5] }
  | _ => none }
def FnExactCoefficientAtWrongFalsely : Prop := fnExactCoefficientAtRow.holds Try.pinned (OpenSpec.ofChange fnExactCoefficientAtWrong)

/-- 'laws.FnExactMakeList': WHATEVER THE INPUT: true; the input reads as it did. -/
def fnExactMakeListSpec : ChangeSpec := { name := "fnExactMakeList", fn := fun _ => fun
  | [d1, d2, d3] => { results := [.lit (.bool true)], args := [d1, d2, d3] }
  | _ => none }
def fnExactMakeListRow : OpenClaim := { program := "ytmeddoilmlilnaa", sum := "a44a9cbe1230190ef79b2f04a1f9b43a63dbdff938e81caa1df7f80dcfb929fa", func := "loop.example/g01262/laws.FnExactMakeList", spec := "fnExactMakeList", apart := false }
def FnExactMakeListSaid : Prop := fnExactMakeListRow.holds Try.pinned (OpenSpec.ofChange fnExactMakeListSpec)

/-- ITS FALSE NEIGHBOUR: 'it returns false'. Refute it at one input. -/
def fnExactMakeListWrong : ChangeSpec := { name := "fnExactMakeList", fn := fun _ => fun
  | [d1, d2, d3] => { results := [.lit (.bool false)], args := [d1, d2, d3] }
  | _ => none }
def FnExactMakeListWrongFalsely : Prop := fnExactMakeListRow.holds Try.pinned (OpenSpec.ofChange fnExactMakeListWrong)

/-- 'laws.FnExactTensorOfMethod': WHATEVER THE INPUT: true; the input reads as it did. -/
def fnExactTensorOfMethodSpec : ChangeSpec := { name := "fnExactTensorOfMethod", fn := fun _ => fun
  | [d] => { results := [.lit (.bool true)], args := [d] }
  | _ => none }
def fnExactTensorOfMethodRow : OpenClaim := { program := "ytmeddoilmlilnaa", sum := "a44a9cbe1230190ef79b2f04a1f9b43a63dbdff938e81caa1df7f80dcfb929fa", func := "loop.example/g01262/laws.FnExactTensorOfMethod", spec := "fnExactTensorOfMethod", unfollowed := true, recurses := true, apart := false }
def FnExactTensorOfMethodSaid : Prop := fnExactTensorOfMethodRow.holds Try.pinned (OpenSpec.ofChange fnExactTensorOfMethodSpec)

/-- ITS FALSE NEIGHBOUR: 'it returns false'. Refute it at one input. -/
def fnExactTensorOfMethodWrong : ChangeSpec := { name := "fnExactTensorOfMethod", fn := fun _ => fun
  | [d] => { results := [.lit (.bool false)], args := [d] }
  | _ => none }
def FnExactTensorOfMethodWrongFalsely : Prop := fnExactTensorOfMethodRow.holds Try.pinned (OpenSpec.ofChange fnExactTensorOfMethodWrong)

/-- 'laws.FnExactMethodFits': WHATEVER THE INPUT: true; the input reads as it did. -/
def fnExactMethodFitsSpec : ChangeSpec := { name := "fnExactMethodFits", fn := fun _ => fun
  | [d1, d2] => { results := [.lit (.bool true)], args := [d1, d2] }
  | _ => none }
def fnExactMethodFitsRow : OpenClaim := { program := "ytmeddoilmlilnaa", sum := "a44a9cbe1230190ef79b2f04a1f9b43a63dbdff938e81caa1df7f80dcfb929fa", func := "loop.example/g01262/laws.FnExactMethodFits", spec := "fnExactMethodFits", unfollowed := true, recurses := true, apart := false }
def FnExactMethodFitsSaid : Prop := fnExactMethodFitsRow.holds Try.pinned (OpenSpec.ofChange fnExactMethodFitsSpec)

/-- ITS FALSE NEIGHBOUR: 'it returns false'. Refute it at one input. -/
def fnExactMethodFitsWrong : ChangeSpec := { name := "fnExactMethodFits", fn := fun _ => fun
  | [d1, d2] => { results := [.lit (.bool false)], args := [d1, d2] }
  | _ => none }
def FnExactMethodFitsWrongFalsely : Prop := fnExactMethodFitsRow.holds Try.pinned (OpenSpec.ofChange fnExactMethodFitsWrong)

/-- 'laws.FnExactBorderOfScheme': WHATEVER THE INPUT: true; the input reads as it did. -/
def fnExactBorderOfSchemeSpec : ChangeSpec := { name := "fnExactBorderOfScheme", fn := fun _ => fun
  | [d] => { results := [.lit (.bool true)], args := [d] }
  | _ => none }
def fnExactBorderOfSchemeRow : OpenClaim := { program := "ytmeddoilmlilnaa", sum := "a44a9cbe1230190ef79b2f04a1f9b43a63dbdff938e81caa1df7f80dcfb929fa", func := "loop.example/g01262/laws.FnExactBorderOfScheme", spec := "fnExactBorderOfScheme", apart := false }
def FnExactBorderOfSchemeSaid : Prop := fnExactBorderOfSchemeRow.holds Try.pinned (OpenSpec.ofChange fnExactBorderOfSchemeSpec)

/-- ITS FALSE NEIGHBOUR: 'it returns false'. Refute it at one input. -/
def fnExactBorderOfSchemeWrong : ChangeSpec := { name := "fnExactBorderOfScheme", fn := fun _ => fun
  | [d] => { results := [.lit (.bool false)], args := [d] }
  | _ => none }
def FnExactBorderOfSchemeWrongFalsely : Prop := fnExactBorderOfSchemeRow.holds Try.pinned (OpenSpec.ofChange fnExactBorderOfSchemeWrong)

/-- 'laws.FnExactCountExact': WHATEVER THE INPUT: true; the input reads as it did. -/
def fnExactCountExactSpec : ChangeSpec := { name := "fnExactCountExact", fn := fun _ => fun
  | [d1, d2] => { results := [.lit (.bool true)], args := [d1, d2] }
  | _ => none }
def fnExactCountExactRow : OpenClaim := { program := "ytmeddoilmlilnaa", sum := "a44a9cbe1230190ef79b2f04a1f9b43a63dbdff938e81caa1df7f80dcfb929fa", func := "loop.example/g01262/laws.FnExactCountExact", spec := "fnExactCountExact", unfollowed := true, recurses := true, apart := false }
def FnExactCountExactSaid : Prop := fnExactCountExactRow.holds Try.pinned (OpenSpec.ofChange fnExactCountExactSpec)

/-- ITS FALSE NEIGHBOUR: 'it returns false'. Refute it at one input. -/
def fnExactCountExactWrong : ChangeSpec := { name := "fnExactCountExact", fn := fun _ => fun
  | [d1, d2] => { results := [.lit (.bool false)], args := [d1, d2] }
  | _ => none }
def FnExactCountExactWrongFalsely : Prop := fnExactCountExactRow.holds Try.pinned (OpenSpec.ofChange fnExactCountExactWrong)

/-- 'laws.FnExactRaiseBorder': WHATEVER THE INPUT: true; the input reads as it did. -/
def fnExactRaiseBorderSpec : ChangeSpec := { name := "fnExactRaiseBorder", fn := fun _ => fun
  | [d1, d2] => { results := [.lit (.bool true)], args := [d1, d2] }
  | _ => none }
def fnExactRaiseBorderRow : OpenClaim := { program := "ytmeddoilmlilnaa", sum := "a44a9cbe1230190ef79b2f04a1f9b43a63dbdff938e81caa1df7f80dcfb929fa", func := "loop.example/g01262/laws.FnExactRaiseBorder", spec := "fnExactRaiseBorder", apart := false }
def FnExactRaiseBorderSaid : Prop := fnExactRaiseBorderRow.holds Try.pinned (OpenSpec.ofChange fnExactRaiseBorderSpec)

/-- ITS FALSE NEIGHBOUR: 'it returns false'. Refute it at one input. -/
def fnExactRaiseBorderWrong : ChangeSpec := { name := "fnExactRaiseBorder", fn := fun _ => fun
  | [d1, d2] => { results := [.lit (.bool false)], args := [d1, d2] }
  | _ => none }
def FnExactRaiseBorderWrongFalsely : Prop := fnExactRaiseBorderRow.holds Try.pinned (OpenSpec.ofChange fnExactRaiseBorderWrong)

/-- 'laws.FnExactStretchBorder': WHATEVER THE INPUT: true; the input reads as it did. -/
def fnExactStretchBorderSpec : ChangeSpec := { name := "fnExactStretchBorder", fn := fun _ => fun
  | [d1, d2] => { results := [.lit (.bool true)], args := [d1, d2] }
  | _ => none }
def fnExactStretchBorderRow : OpenClaim := { program := "ytmeddoilmlilnaa", sum := "a44a9cbe1230190ef79b2f04a1f9b43a63dbdff938e81caa1df7f80dcfb929fa", func := "loop.example/g01262/laws.FnExactStretchBorder", spec := "fnExactStretchBorder", apart := false }
def FnExactStretchBorderSaid : Prop := fnExactStretchBorderRow.holds Try.pinned (OpenSpec.ofChange fnExactStretchBorderSpec)

/-- ITS FALSE NEIGHBOUR: 'it returns false'. Refute it at one input. -/
def fnExactStretchBorderWrong : ChangeSpec := { name := "fnExactStretchBorder", fn := fun _ => fun
  | [d1, d2] => { results := [.lit (.bool false)], args := [d1, d2] }
  | _ => none }
def FnExactStretchBorderWrongFalsely : Prop := fnExactStretchBorderRow.holds Try.pinned (OpenSpec.ofChange fnExactStretchBorderWrong)

/-- 'laws.FnExactOrderOfBorder': WHATEVER THE INPUT: true; the input reads as it did. -/
def fnExactOrderOfBorderSpec : ChangeSpec := { name := "fnExactOrderOfBorder", fn := fun _ => fun
  | [d] => { results := [.lit (.bool true)], args := [d] }
  | _ => none }
def fnExactOrderOfBorderRow : OpenClaim := { program := "ytmeddoilmlilnaa", sum := "a44a9cbe1230190ef79b2f04a1f9b43a63dbdff938e81caa1df7f80dcfb929fa", func := "loop.example/g01262/laws.FnExactOrderOfBorder", spec := "fnExactOrderOfBorder", unfollowed := true, recurses := true, apart := false }
def FnExactOrderOfBorderSaid : Prop := fnExactOrderOfBorderRow.holds Try.pinned (OpenSpec.ofChange fnExactOrderOfBorderSpec)

/-- ITS FALSE NEIGHBOUR: 'it returns false'. Refute it at one input. -/
def fnExactOrderOfBorderWrong : ChangeSpec := { name := "fnExactOrderOfBorder", fn := fun _ => fun
  | [d] => { results := [.lit (.bool false)], args := [d] }
  | _ => none }
def FnExactOrderOfBorderWrongFalsely : Prop := fnExactOrderOfBorderRow.holds Try.pinned (OpenSpec.ofChange fnExactOrderOfBorderWrong)

/-- 'laws.FnExactIsBorderCorrect': WHATEVER THE INPUT: true; the input reads as it did. -/
def fnExactIsBorderCorrectSpec : ChangeSpec := { name := "fnExactIsBorderCorrect", fn := fun _ => fun
  | [d1, d2] => { results := [.lit (.bool true)], args := [d1, d2] }
  | _ => none }
def fnExactIsBorderCorrectRow : OpenClaim := { program := "ytmeddoilmlilnaa", sum := "a44a9cbe1230190ef79b2f04a1f9b43a63dbdff938e81caa1df7f80dcfb929fa", func := "loop.example/g01262/laws.FnExactIsBorderCorrect", spec := "fnExactIsBorderCorrect", unfollowed := true, recurses := true, apart := false }
def FnExactIsBorderCorrectSaid : Prop := fnExactIsBorderCorrectRow.holds Try.pinned (OpenSpec.ofChange fnExactIsBorderCorrectSpec)

/-- ITS FALSE NEIGHBOUR: 'it returns false'. Refute it at one input. -/
def fnExactIsBorderCorrectWrong : ChangeSpec := { name := "fnExactIsBorderCorrect", fn := fun _ => fun
  | [d1, d2] => { results := [.lit (.bool false)], args := [d1, d2] }
  | _ => none }
def FnExactIsBorderCorrectWrongFalsely : Prop := fnExactIsBorderCorrectRow.holds Try.pinned (OpenSpec.ofChange fnExactIsBorderCorrectWrong)

/-- 'laws.FnExactLowestPowers': WHATEVER THE INPUT: true; the input reads as it did. -/
def fnExactLowestPowersSpec : ChangeSpec := { name := "fnExactLowestPowers", fn := fun _ => fun
  | [d] => { results := [.lit (.bool true)], args := [d] }
  | _ => none }
def fnExactLowestPowersRow : OpenClaim := { program := "ytmeddoilmlilnaa", sum := "a44a9cbe1230190ef79b2f04a1f9b43a63dbdff938e81caa1df7f80dcfb929fa", func := "loop.example/g01262/laws.FnExactLowestPowers", spec := "fnExactLowestPowers", apart := false }
def FnExactLowestPowersSaid : Prop := fnExactLowestPowersRow.holds Try.pinned (OpenSpec.ofChange fnExactLowestPowersSpec)

/-- ITS FALSE NEIGHBOUR: 'it returns false'. Refute it at one input. -/
def fnExactLowestPowersWrong : ChangeSpec := { name := "fnExactLowestPowers", fn := fun _ => fun
  | [d] => { results := [.lit (.bool false)], args := [d] }
  | _ => none }
def FnExactLowestPowersWrongFalsely : Prop := fnExactLowestPowersRow.holds Try.pinned (OpenSpec.ofChange fnExactLowestPowersWrong)

/-- 'laws.FnExactWalkScheme': WHATEVER THE INPUT: true; the input reads as it did. -/
def fnExactWalkSchemeSpec : ChangeSpec := { name := "fnExactWalkScheme", fn := fun _ => fun
  | [d1, d2, d3] => { results := [.lit (.bool true)], args := [d1, d2, d3] }
  | _ => none }
def fnExactWalkSchemeRow : OpenClaim := { program := "ytmeddoilmlilnaa", sum := "a44a9cbe1230190ef79b2f04a1f9b43a63dbdff938e81caa1df7f80dcfb929fa", func := "loop.example/g01262/laws.FnExactWalkScheme", spec := "fnExactWalkScheme", unfollowed := true, recurses := true, apart := false }
def FnExactWalkSchemeSaid : Prop := fnExactWalkSchemeRow.holds Try.pinned (OpenSpec.ofChange fnExactWalkSchemeSpec)

/-- ITS FALSE NEIGHBOUR: 'it returns false'. Refute it at one input. -/
def fnExactWalkSchemeWrong : ChangeSpec := { name := "fnExactWalkScheme", fn := fun _ => fun
  | [d1, d2, d3] => { results := [.lit (.bool false)], args := [d1, d2, d3] }
  | _ => none }
def FnExactWalkSchemeWrongFalsely : Prop := fnExactWalkSchemeRow.holds Try.pinned (OpenSpec.ofChange fnExactWalkSchemeWrong)

/-- 'laws.FnExactMergeScheme': WHATEVER THE INPUT: true; the input reads as it did. -/
def fnExactMergeSchemeSpec : ChangeSpec := { name := "fnExactMergeScheme", fn := fun _ => fun
  | [d] => { results := [.lit (.bool true)], args := [d] }
  | _ => none }
def fnExactMergeSchemeRow : OpenClaim := { program := "ytmeddoilmlilnaa", sum := "a44a9cbe1230190ef79b2f04a1f9b43a63dbdff938e81caa1df7f80dcfb929fa", func := "loop.example/g01262/laws.FnExactMergeScheme", spec := "fnExactMergeScheme", unfollowed := true, recurses := true, apart := false }
def FnExactMergeSchemeSaid : Prop := fnExactMergeSchemeRow.holds Try.pinned (OpenSpec.ofChange fnExactMergeSchemeSpec)

/-- ITS FALSE NEIGHBOUR: 'it returns false'. Refute it at one input. -/
def fnExactMergeSchemeWrong : ChangeSpec := { name := "fnExactMergeScheme", fn := fun _ => fun
  | [d] => { results := [.lit (.bool false)], args := [d] }
  | _ => none }
def FnExactMergeSchemeWrongFalsely : Prop := fnExactMergeSchemeRow.holds Try.pinned (OpenSpec.ofChange fnExactMergeSchemeWrong)

/-- 'laws.FnExactValueOfBorder': WHATEVER THE INPUT: true; the input reads as it did. -/
def fnExactValueOfBorderSpec : ChangeSpec := { name := "fnExactValueOfBorder", fn := fun _ => fun
  | [d1, d2] => { results := [.lit (.bool true)], args := [d1, d2] }
  | _ => none }
def fnExactValueOfBorderRow : OpenClaim := { program := "ytmeddoilmlilnaa", sum := "a44a9cbe1230190ef79b2f04a1f9b43a63dbdff938e81caa1df7f80dcfb929fa", func := "loop.example/g01262/laws.FnExactValueOfBorder", spec := "fnExactValueOfBorder", unfollowed := true, recurses := true, apart := false }
def FnExactValueOfBorderSaid : Prop := fnExactValueOfBorderRow.holds Try.pinned (OpenSpec.ofChange fnExactValueOfBorderSpec)

/-- ITS FALSE NEIGHBOUR: 'it returns false'. Refute it at one input. -/
def fnExactValueOfBorderWrong : ChangeSpec := { name := "fnExactValueOfBorder", fn := fun _ => fun
  | [d1, d2] => { results := [.lit (.bool false)], args := [d1, d2] }
  | _ => none }
def FnExactValueOfBorderWrongFalsely : Prop := fnExactValueOfBorderRow.holds Try.pinned (OpenSpec.ofChange fnExactValueOfBorderWrong)

/-- 'laws.FnExactExactScheme': WHATEVER THE INPUT: true; the input reads as it did. -/
def fnExactExactSchemeSpec : ChangeSpec := { name := "fnExactExactScheme", fn := fun _ => fun
  | [d1, d2] => { results := [.lit (.bool true)], args := [d1, d2] }
  | _ => none }
def fnExactExactSchemeRow : OpenClaim := { program := "ytmeddoilmlilnaa", sum := "a44a9cbe1230190ef79b2f04a1f9b43a63dbdff938e81caa1df7f80dcfb929fa", func := "loop.example/g01262/laws.FnExactExactScheme", spec := "fnExactExactScheme", unfollowed := true, recurses := true, apart := false }
def FnExactExactSchemeSaid : Prop := fnExactExactSchemeRow.holds Try.pinned (OpenSpec.ofChange fnExactExactSchemeSpec)

/-- ITS FALSE NEIGHBOUR: 'it returns false'. Refute it at one input. -/
def fnExactExactSchemeWrong : ChangeSpec := { name := "fnExactExactScheme", fn := fun _ => fun
  | [d1, d2] => { results := [.lit (.bool false)], args := [d1, d2] }
  | _ => none }
def FnExactExactSchemeWrongFalsely : Prop := fnExactExactSchemeRow.holds Try.pinned (OpenSpec.ofChange fnExactExactSchemeWrong)

/- THE SECOND FORM. 'bulk': how many values and letters a reading holds, each counted each time it is reached (what is shared counts as often as it is met; a slice's spare places count too). A statement '..UptoSaid' is the law's where the arguments, and the package variables that the reading takes, are together of bulk at most 1048576: NARROWER than '..Said'. Prove '..Said' where nothing that the law and all that it calls make is longer than what came in: it says more and counts as full. Else prove '..UptoSaid'. A law counts once. -/
mutual
def uptoBulk {H : Type} : DataW H → Nat
  | .lit (.string bytes) => bytes.length + 1
  | .lit _ => 1
  | .nil => 1
  | .ptr d => uptoBulk d + 1
  | .slice elems spare => uptoBulkAll elems + uptoBulkAll spare + 1
  | .agg parts => uptoBulkAll parts + 1
  | .iface _ d => uptoBulk d + 1
  | .map entries => uptoBulkEntries entries + 1
  | .held _ => 1
def uptoBulkAll {H : Type} : List (DataW H) → Nat
  | [] => 0
  | d :: r => uptoBulk d + uptoBulkAll r
def uptoBulkEntries {H : Type} : List (Lit × DataW H) → Nat
  | [] => 0
  | x :: r => uptoBulkEntry x + uptoBulkEntries r
def uptoBulkEntry {H : Type} : Lit × DataW H → Nat
  | (.string bytes, d) => bytes.length + uptoBulk d + 1
  | (_, d) => uptoBulk d + 1
 end
def uptoSmall : (H : Type) → List (DataW H) → Bool := fun _ ds => decide (uptoBulkAll ds ≤ 1048576)
def OpenSpec.upto (s : _root_.Go.ChangeSpec) : _root_.Go.OpenSpec := { _root_.Go.OpenSpec.ofChange s with cond := some uptoSmall }

/-- 'laws.FnExactPairsOf', WHERE WHAT IT READS IS OF BULK AT MOST 1048576: true; the input reads as it did. -/
def fnExactPairsOfUptoRow : OpenClaim := { program := "ytmeddoilmlilnaa", sum := "a44a9cbe1230190ef79b2f04a1f9b43a63dbdff938e81caa1df7f80dcfb929fa", func := "loop.example/g01262/laws.FnExactPairsOf", spec := "fnExactPairsOf", apart := false, narrowed := true }
def FnExactPairsOfUptoSaid : Prop := fnExactPairsOfUptoRow.holds Try.pinned (OpenSpec.upto fnExactPairsOfSpec)

/-- 'laws.FnExactMethodOfScheme', WHERE WHAT IT READS IS OF BULK AT MOST 1048576: true; the input reads as it did. -/
def fnExactMethodOfSchemeUptoRow : OpenClaim := { program := "ytmeddoilmlilnaa", sum := "a44a9cbe1230190ef79b2f04a1f9b43a63dbdff938e81caa1df7f80dcfb929fa", func := "loop.example/g01262/laws.FnExactMethodOfScheme", spec := "fnExactMethodOfScheme", apart := false, narrowed := true }
def FnExactMethodOfSchemeUptoSaid : Prop := fnExactMethodOfSchemeUptoRow.holds Try.pinned (OpenSpec.upto fnExactMethodOfSchemeSpec)

/-- 'laws.FnExactKroneckerMethods', WHERE WHAT IT READS IS OF BULK AT MOST 1048576: true; the input reads as it did. -/
def fnExactKroneckerMethodsUptoRow : OpenClaim := { program := "ytmeddoilmlilnaa", sum := "a44a9cbe1230190ef79b2f04a1f9b43a63dbdff938e81caa1df7f80dcfb929fa", func := "loop.example/g01262/laws.FnExactKroneckerMethods", spec := "fnExactKroneckerMethods", apart := false, narrowed := true }
def FnExactKroneckerMethodsUptoSaid : Prop := fnExactKroneckerMethodsUptoRow.holds Try.pinned (OpenSpec.upto fnExactKroneckerMethodsSpec)

/-- 'laws.FnExactBoundOf', WHERE WHAT IT READS IS OF BULK AT MOST 1048576: true; the input reads as it did. -/
def fnExactBoundOfUptoRow : OpenClaim := { program := "ytmeddoilmlilnaa", sum := "a44a9cbe1230190ef79b2f04a1f9b43a63dbdff938e81caa1df7f80dcfb929fa", func := "loop.example/g01262/laws.FnExactBoundOf", spec := "fnExactBoundOf", unfollowed := true, recurses := true, apart := false, narrowed := true }
def FnExactBoundOfUptoSaid : Prop := fnExactBoundOfUptoRow.holds Try.pinned (OpenSpec.upto fnExactBoundOfSpec)

/-- 'laws.FnExactCoefficientAt', WHERE WHAT IT READS IS OF BULK AT MOST 1048576: true; the input reads as it did. -/
def fnExactCoefficientAtUptoRow : OpenClaim := { program := "ytmeddoilmlilnaa", sum := "a44a9cbe1230190ef79b2f04a1f9b43a63dbdff938e81caa1df7f80dcfb929fa", func := "loop.example/g01262/laws.FnExactCoefficientAt", spec := "fnExactCoefficientAt", apart := false, narrowed := true }
def FnExactCoefficientAtUptoSaid : Prop := fnExactCoefficientAtUptoRow.holds Try.pinned (OpenSpec.upto fnExactCoefficientAtSpec)

/-- 'laws.FnExactMakeList', WHERE WHAT IT READS IS OF BULK AT MOST 1048576: true; the input reads as it did. -/
def fnExactMakeListUptoRow : OpenClaim := { program := "ytmeddoilmlilnaa", sum := "a44a9cbe1230190ef79b2f04a1f9b43a63dbdff938e81caa1df7f80dcfb929fa", func := "loop.example/g01262/laws.FnExactMakeList", spec := "fnExactMakeList", apart := false, narrowed := true }
def FnExactMakeListUptoSaid : Prop := fnExactMakeListUptoRow.holds Try.pinned (OpenSpec.upto fnExactMakeListSpec)

/-- 'laws.FnExactTensorOfMethod', WHERE WHAT IT READS IS OF BULK AT MOST 1048576: true; the input reads as it did. -/
def fnExactTensorOfMethodUptoRow : OpenClaim := { program := "ytmeddoilmlilnaa", sum := "a44a9cbe1230190ef79b2f04a1f9b43a63dbdff938e81caa1df7f80dcfb929fa", func := "loop.example/g01262/laws.FnExactTensorOfMethod", spec := "fnExactTensorOfMethod", unfollowed := true, recurses := true, apart := false, narrowed := true }
def FnExactTensorOfMethodUptoSaid : Prop := fnExactTensorOfMethodUptoRow.holds Try.pinned (OpenSpec.upto fnExactTensorOfMethodSpec)

/-- 'laws.FnExactMethodFits', WHERE WHAT IT READS IS OF BULK AT MOST 1048576: true; the input reads as it did. -/
def fnExactMethodFitsUptoRow : OpenClaim := { program := "ytmeddoilmlilnaa", sum := "a44a9cbe1230190ef79b2f04a1f9b43a63dbdff938e81caa1df7f80dcfb929fa", func := "loop.example/g01262/laws.FnExactMethodFits", spec := "fnExactMethodFits", unfollowed := true, recurses := true, apart := false, narrowed := true }
def FnExactMethodFitsUptoSaid : Prop := fnExactMethodFitsUptoRow.holds Try.pinned (OpenSpec.upto fnExactMethodFitsSpec)

/-- 'laws.FnExactBorderOfScheme', WHERE WHAT IT READS IS OF BULK AT MOST 1048576: true; the input reads as it did. -/
def fnExactBorderOfSchemeUptoRow : OpenClaim := { program := "ytmeddoilmlilnaa", sum := "a44a9cbe1230190ef79b2f04a1f9b43a63dbdff938e81caa1df7f80dcfb929fa", func := "loop.example/g01262/laws.FnExactBorderOfScheme", spec := "fnExactBorderOfScheme", apart := false, narrowed := true }
def FnExactBorderOfSchemeUptoSaid : Prop := fnExactBorderOfSchemeUptoRow.holds Try.pinned (OpenSpec.upto fnExactBorderOfSchemeSpec)

/-- 'laws.FnExactCountExact', WHERE WHAT IT READS IS OF BULK AT MOST 1048576: true; the input reads as it did. -/
def fnExactCountExactUptoRow : OpenClaim := { program := "ytmeddoilmlilnaa", sum := "a44a9cbe1230190ef79b2f04a1f9b43a63dbdff938e81caa1df7f80dcfb929fa", func := "loop.example/g01262/laws.FnExactCountExact", spec := "fnExactCountExact", unfollowed := true, recurses := true, apart := false, narrowed := true }
def FnExactCountExactUptoSaid : Prop := fnExactCountExactUptoRow.holds Try.pinned (OpenSpec.upto fnExactCountExactSpec)

/-- 'laws.FnExactRaiseBorder', WHERE WHAT IT READS IS OF BULK AT MOST 1048576: true; the input reads as it did. -/
def fnExactRaiseBorderUptoRow : OpenClaim := { program := "ytmeddoilmlilnaa", sum := "a44a9cbe1230190ef79b2f04a1f9b43a63dbdff938e81caa1df7f80dcfb929fa", func := "loop.example/g01262/laws.FnExactRaiseBorder", spec := "fnExactRaiseBorder", apart := false, narrowed := true }
def FnExactRaiseBorderUptoSaid : Prop := fnExactRaiseBorderUptoRow.holds Try.pinned (OpenSpec.upto fnExactRaiseBorderSpec)

/-- 'laws.FnExactStretchBorder', WHERE WHAT IT READS IS OF BULK AT MOST 1048576: true; the input reads as it did. -/
def fnExactStretchBorderUptoRow : OpenClaim := { program := "ytmeddoilmlilnaa", sum := "a44a9cbe1230190ef79b2f04a1f9b43a63dbdff938e81caa1df7f80dcfb929fa", func := "loop.example/g01262/laws.FnExactStretchBorder", spec := "fnExactStretchBorder", apart := false, narrowed := true }
def FnExactStretchBorderUptoSaid : Prop := fnExactStretchBorderUptoRow.holds Try.pinned (OpenSpec.upto fnExactStretchBorderSpec)

/-- 'laws.FnExactOrderOfBorder', WHERE WHAT IT READS IS OF BULK AT MOST 1048576: true; the input reads as it did. -/
def fnExactOrderOfBorderUptoRow : OpenClaim := { program := "ytmeddoilmlilnaa", sum := "a44a9cbe1230190ef79b2f04a1f9b43a63dbdff938e81caa1df7f80dcfb929fa", func := "loop.example/g01262/laws.FnExactOrderOfBorder", spec := "fnExactOrderOfBorder", unfollowed := true, recurses := true, apart := false, narrowed := true }
def FnExactOrderOfBorderUptoSaid : Prop := fnExactOrderOfBorderUptoRow.holds Try.pinned (OpenSpec.upto fnExactOrderOfBorderSpec)

/-- 'laws.FnExactIsBorderCorrect', WHERE WHAT IT READS IS OF BULK AT MOST 1048576: true; the input reads as it did. -/
def fnExactIsBorderCorrectUptoRow : OpenClaim := { program := "ytmeddoilmlilnaa", sum := "a44a9cbe1230190ef79b2f04a1f9b43a63dbdff938e81caa1df7f80dcfb929fa", func := "loop.example/g01262/laws.FnExactIsBorderCorrect", spec := "fnExactIsBorderCorrect", unfollowed := true, recurses := true, apart := false, narrowed := true }
def FnExactIsBorderCorrectUptoSaid : Prop := fnExactIsBorderCorrectUptoRow.holds Try.pinned (OpenSpec.upto fnExactIsBorderCorrectSpec)

/-- 'laws.FnExactLowestPowers', WHERE WHAT IT READS IS OF BULK AT MOST 1048576: true; the input reads as it did. -/
def fnExactLowestPowersUptoRow : OpenClaim := { program := "ytmeddoilmlilnaa", sum := "a44a9cbe1230190ef79b2f04a1f9b43a63dbdff938e81caa1df7f80dcfb929fa", func := "loop.example/g01262/laws.FnExactLowestPowers", spec := "fnExactLowestPowers", apart := false, narrowed := true }
def FnExactLowestPowersUptoSaid : Prop := fnExactLowestPowersUptoRow.holds Try.pinned (OpenSpec.upto fnExactLowestPowersSpec)

/-- 'laws.FnExactWalkScheme', WHERE WHAT IT READS IS OF BULK AT MOST 1048576: true; the input reads as it did. -/
def fnExactWalkSchemeUptoRow : OpenClaim := { program := "ytmeddoilmlilnaa", sum := "a44a9cbe1230190ef79b2f04a1f9b43a63dbdff938e81caa1df7f80dcfb929fa", func := "loop.example/g01262/laws.FnExactWalkScheme", spec := "fnExactWalkScheme", unfollowed := true, recurses := true, apart := false, narrowed := true }
def FnExactWalkSchemeUptoSaid : Prop := fnExactWalkSchemeUptoRow.holds Try.pinned (OpenSpec.upto fnExactWalkSchemeSpec)

/-- 'laws.FnExactMergeScheme', WHERE WHAT IT READS IS OF BULK AT MOST 1048576: true; the input reads as it did. -/
def fnExactMergeSchemeUptoRow : OpenClaim := { program := "ytmeddoilmlilnaa", sum := "a44a9cbe1230190ef79b2f04a1f9b43a63dbdff938e81caa1df7f80dcfb929fa", func := "loop.example/g01262/laws.FnExactMergeScheme", spec := "fnExactMergeScheme", unfollowed := true, recurses := true, apart := false, narrowed := true }
def FnExactMergeSchemeUptoSaid : Prop := fnExactMergeSchemeUptoRow.holds Try.pinned (OpenSpec.upto fnExactMergeSchemeSpec)

/-- 'laws.FnExactValueOfBorder', WHERE WHAT IT READS IS OF BULK AT MOST 1048576: true; the input reads as it did. -/
def fnExactValueOfBorderUptoRow : OpenClaim := { program := "ytmeddoilmlilnaa", sum := "a44a9cbe1230190ef79b2f04a1f9b43a63dbdff938e81caa1df7f80dcfb929fa", func := "loop.example/g01262/laws.FnExactValueOfBorder", spec := "fnExactValueOfBorder", unfollowed := true, recurses := true, apart := false, narrowed := true }
def FnExactValueOfBorderUptoSaid : Prop := fnExactValueOfBorderUptoRow.holds Try.pinned (OpenSpec.upto fnExactValueOfBorderSpec)

/-- 'laws.FnExactExactScheme', WHERE WHAT IT READS IS OF BULK AT MOST 1048576: true; the input reads as it did. -/
def fnExactExactSchemeUptoRow : OpenClaim := { program := "ytmeddoilmlilnaa", sum := "a44a9cbe1230190ef79b2f04a1f9b43a63dbdff938e81caa1df7f80dcfb929fa", func := "loop.example/g01262/laws.FnExactExactScheme", spec := "fnExactExactScheme", unfollowed := true, recurses := true, apart := false, narrowed := true }
def FnExactExactSchemeUptoSaid : Prop := fnExactExactSchemeUptoRow.holds Try.pinned (OpenSpec.upto fnExactExactSchemeSpec)

end Rows
end Go.Proofs.Ytmeddoilmlilnaa
