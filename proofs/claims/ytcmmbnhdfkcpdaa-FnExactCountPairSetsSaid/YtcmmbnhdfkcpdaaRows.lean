/-
  No cell of these rows narrows 'for every input' (looked for: loops, veiled, ifaces, maps, wideKeys, modest, calm, conditions, laid).
  DERIVED. THE GIVEN ROWS OF THIS SEAT. 8 by the template 'for every input the law returns true; each argument reads behind the call as it read before'; 0 by the template 'total and deterministic' (their statements: YtcmmbnhdfkcpdaaTotals.lean).
  GIVEN WITH THE SEED: the statements are not yours to turn. If you find one false, say at which input.
  Laid BY PROGRAM, IN A SANDBOX (cutbox-rows.mjs): the forced cells as the released guide's own fill.sh prints them over the translation 8d6a6d4f71221471… (all of the seat's roots in one cut). By AI agents, Wed Nov 11 2026. No macro, syntax, notation, axiom, sorry.
-/
import Derived.Test.YtcmmbnhdfkcpdaaChecked
import GoSem.Claim
import GoSem.ClaimJoined
import GoSem.ClaimMapViews
import Derived.JoinedTies
import Derived.KernelRfl
namespace Go.Proofs.Ytcmmbnhdfkcpdaa
/- THE CELL 'sum', in the pinned program and in every row, IS THE sha256 OF THE DUMP (.gsa) THAT YtcmmbnhdfkcpdaaProg.lean LOADS. Nothing in Lean hashes anything: it is a label: what it is worth is what the hold of that sum in a sandbox is worth. -/
noncomputable def Try.pinned : Pinned := { name := "ytcmmbnhdfkcpdaa", sum := "8d6a6d4f712214716568b8e50131c4c7112c92020c9f99fef1f487f000c73be4", checked := Try.checked }
namespace Rows
def none {H : Type} : Left H := { results := [], args := [] }

/-- 'laws.FnExactBoundOf': WHATEVER THE INPUT: true; the input reads as it did. -/
def fnExactBoundOfSpec : ChangeSpec := { name := "fnExactBoundOf", fn := fun _ => fun
  | [d] => { results := [.lit (.bool true)], args := [d] }
  | _ => none }
def fnExactBoundOfRow : OpenClaim := { program := "ytcmmbnhdfkcpdaa", sum := "8d6a6d4f712214716568b8e50131c4c7112c92020c9f99fef1f487f000c73be4", func := "loop.example/g01262/laws.FnExactBoundOf", spec := "fnExactBoundOf", unfollowed := true, recurses := true, apart := false }
def FnExactBoundOfSaid : Prop := fnExactBoundOfRow.holds Try.pinned (OpenSpec.ofChange fnExactBoundOfSpec)

/-- ITS FALSE NEIGHBOUR: 'it returns false'. Refute it at one input. -/
def fnExactBoundOfWrong : ChangeSpec := { name := "fnExactBoundOf", fn := fun _ => fun
  | [d] => { results := [.lit (.bool false)], args := [d] }
  | _ => none }
def FnExactBoundOfWrongFalsely : Prop := fnExactBoundOfRow.holds Try.pinned (OpenSpec.ofChange fnExactBoundOfWrong)

/-- 'laws.FnExactRankOfPairs': WHATEVER THE INPUT: true; the input reads as it did. -/
def fnExactRankOfPairsSpec : ChangeSpec := { name := "fnExactRankOfPairs", fn := fun _ => fun
  | [d1, d2, d3, d4, d5] => { results := [.lit (.bool true)], args := [d1, d2, d3, d4, d5] }
  | _ => none }
def fnExactRankOfPairsRow : OpenClaim := { program := "ytcmmbnhdfkcpdaa", sum := "8d6a6d4f712214716568b8e50131c4c7112c92020c9f99fef1f487f000c73be4", func := "loop.example/g01262/laws.FnExactRankOfPairs", spec := "fnExactRankOfPairs", unfollowed := true, recurses := true, apart := false }
def FnExactRankOfPairsSaid : Prop := fnExactRankOfPairsRow.holds Try.pinned (OpenSpec.ofChange fnExactRankOfPairsSpec)

/-- ITS FALSE NEIGHBOUR: 'it returns false'. Refute it at one input. -/
def fnExactRankOfPairsWrong : ChangeSpec := { name := "fnExactRankOfPairs", fn := fun _ => fun
  | [d1, d2, d3, d4, d5] => { results := [.lit (.bool false)], args := [d1, d2, d3, d4, d5] }
  | _ => none }
def FnExactRankOfPairsWrongFalsely : Prop := fnExactRankOfPairsRow.holds Try.pinned (OpenSpec.ofChange fnExactRankOfPairsWrong)

/-- 'laws.FnExactCompletePairs': WHATEVER THE INPUT: true; the input reads as it did. -/
def fnExactCompletePairsSpec : ChangeSpec := { name := "fnExactCompletePairs", fn := fun _ => fun
  | [d1, d2, d3, d4, d5] => { results := [.lit (.bool true)], args := [d1, d2, d3, d4, d5] }
  | _ => none }
def fnExactCompletePairsRow : OpenClaim := { program := "ytcmmbnhdfkcpdaa", sum := "8d6a6d4f712214716568b8e50131c4c7112c92020c9f99fef1f487f000c73be4", func := "loop.example/g01262/laws.FnExactCompletePairs", spec := "fnExactCompletePairs", unfollowed := true, recurses := true, apart := false }
def FnExactCompletePairsSaid : Prop := fnExactCompletePairsRow.holds Try.pinned (OpenSpec.ofChange fnExactCompletePairsSpec)

/-- ITS FALSE NEIGHBOUR: 'it returns false'. Refute it at one input. -/
def fnExactCompletePairsWrong : ChangeSpec := { name := "fnExactCompletePairs", fn := fun _ => fun
  | [d1, d2, d3, d4, d5] => { results := [.lit (.bool false)], args := [d1, d2, d3, d4, d5] }
  | _ => none }
def FnExactCompletePairsWrongFalsely : Prop := fnExactCompletePairsRow.holds Try.pinned (OpenSpec.ofChange fnExactCompletePairsWrong)

/-- 'laws.FnExactNeedlessProducts': WHATEVER THE INPUT: true; the input reads as it did. -/
def fnExactNeedlessProductsSpec : ChangeSpec := { name := "fnExactNeedlessProducts", fn := fun _ => fun
  | [d] => { results := [.lit (.bool true)], args := [d] }
  | _ => none }
def fnExactNeedlessProductsRow : OpenClaim := { program := "ytcmmbnhdfkcpdaa", sum := "8d6a6d4f712214716568b8e50131c4c7112c92020c9f99fef1f487f000c73be4", func := "loop.example/g01262/laws.FnExactNeedlessProducts", spec := "fnExactNeedlessProducts", unfollowed := true, recurses := true, apart := false }
def FnExactNeedlessProductsSaid : Prop := fnExactNeedlessProductsRow.holds Try.pinned (OpenSpec.ofChange fnExactNeedlessProductsSpec)

/-- ITS FALSE NEIGHBOUR: 'it returns false'. Refute it at one input. -/
def fnExactNeedlessProductsWrong : ChangeSpec := { name := "fnExactNeedlessProducts", fn := fun _ => fun
  | [d] => { results := [.lit (.bool false)], args := [d] }
  | _ => none }
def FnExactNeedlessProductsWrongFalsely : Prop := fnExactNeedlessProductsRow.holds Try.pinned (OpenSpec.ofChange fnExactNeedlessProductsWrong)

/-- 'laws.FnExactCountPairSets': WHATEVER THE INPUT: true; the input reads as it did. -/
def fnExactCountPairSetsSpec : ChangeSpec := { name := "fnExactCountPairSets", fn := fun _ => fun
  | [d1, d2, d3, d4] => { results := [.lit (.bool true)], args := [d1, d2, d3, d4] }
  | _ => none }
def fnExactCountPairSetsRow : OpenClaim := { program := "ytcmmbnhdfkcpdaa", sum := "8d6a6d4f712214716568b8e50131c4c7112c92020c9f99fef1f487f000c73be4", func := "loop.example/g01262/laws.FnExactCountPairSets", spec := "fnExactCountPairSets", unfollowed := true, recurses := true, apart := false }
def FnExactCountPairSetsSaid : Prop := fnExactCountPairSetsRow.holds Try.pinned (OpenSpec.ofChange fnExactCountPairSetsSpec)

/-- ITS FALSE NEIGHBOUR: 'it returns false'. Refute it at one input. -/
def fnExactCountPairSetsWrong : ChangeSpec := { name := "fnExactCountPairSets", fn := fun _ => fun
  | [d1, d2, d3, d4] => { results := [.lit (.bool false)], args := [d1, d2, d3, d4] }
  | _ => none }
def FnExactCountPairSetsWrongFalsely : Prop := fnExactCountPairSetsRow.holds Try.pinned (OpenSpec.ofChange fnExactCountPairSetsWrong)

/-- 'laws.FnExactLeastNumber': WHATEVER THE INPUT: true; the input reads as it did. -/
def fnExactLeastNumberSpec : ChangeSpec := { name := "fnExactLeastNumber", fn := fun _ => fun
  | [d1, d2, d3] => { results := [.lit (.bool true)], args := [d1, d2, d3] }
  | _ => none }
def fnExactLeastNumberRow : OpenClaim := { program := "ytcmmbnhdfkcpdaa", sum := "8d6a6d4f712214716568b8e50131c4c7112c92020c9f99fef1f487f000c73be4", func := "loop.example/g01262/laws.FnExactLeastNumber", spec := "fnExactLeastNumber", recurses := true, apart := false }
def FnExactLeastNumberSaid : Prop := fnExactLeastNumberRow.holds Try.pinned (OpenSpec.ofChange fnExactLeastNumberSpec)

/-- ITS FALSE NEIGHBOUR: 'it returns false'. Refute it at one input. -/
def fnExactLeastNumberWrong : ChangeSpec := { name := "fnExactLeastNumber", fn := fun _ => fun
  | [d1, d2, d3] => { results := [.lit (.bool false)], args := [d1, d2, d3] }
  | _ => none }
def FnExactLeastNumberWrongFalsely : Prop := fnExactLeastNumberRow.holds Try.pinned (OpenSpec.ofChange fnExactLeastNumberWrong)

/-- 'laws.FnKnownTensors': WHATEVER THE INPUT: true; the input reads as it did. -/
def fnKnownTensorsSpec : ChangeSpec := { name := "fnKnownTensors", fn := fun _ => fun
  | [d] => { results := [.lit (.bool true)], args := [d] }
  | _ => none }
def fnKnownTensorsRow : OpenClaim := { program := "ytcmmbnhdfkcpdaa", sum := "8d6a6d4f712214716568b8e50131c4c7112c92020c9f99fef1f487f000c73be4", func := "loop.example/g01262/laws.FnKnownTensors", spec := "fnKnownTensors", unfollowed := true, recurses := true, apart := false }
def FnKnownTensorsSaid : Prop := fnKnownTensorsRow.holds Try.pinned (OpenSpec.ofChange fnKnownTensorsSpec)

/-- ITS FALSE NEIGHBOUR: 'it returns false'. Refute it at one input. -/
def fnKnownTensorsWrong : ChangeSpec := { name := "fnKnownTensors", fn := fun _ => fun
  | [d] => { results := [.lit (.bool false)], args := [d] }
  | _ => none }
def FnKnownTensorsWrongFalsely : Prop := fnKnownTensorsRow.holds Try.pinned (OpenSpec.ofChange fnKnownTensorsWrong)

/-- 'laws.FnCompletions': WHATEVER THE INPUT: true; the input reads as it did. -/
def fnCompletionsSpec : ChangeSpec := { name := "fnCompletions", fn := fun _ => fun
  | [d] => { results := [.lit (.bool true)], args := [d] }
  | _ => none }
def fnCompletionsRow : OpenClaim := { program := "ytcmmbnhdfkcpdaa", sum := "8d6a6d4f712214716568b8e50131c4c7112c92020c9f99fef1f487f000c73be4", func := "loop.example/g01262/laws.FnCompletions", spec := "fnCompletions", unfollowed := true, recurses := true, apart := false }
def FnCompletionsSaid : Prop := fnCompletionsRow.holds Try.pinned (OpenSpec.ofChange fnCompletionsSpec)

/-- ITS FALSE NEIGHBOUR: 'it returns false'. Refute it at one input. -/
def fnCompletionsWrong : ChangeSpec := { name := "fnCompletions", fn := fun _ => fun
  | [d] => { results := [.lit (.bool false)], args := [d] }
  | _ => none }
def FnCompletionsWrongFalsely : Prop := fnCompletionsRow.holds Try.pinned (OpenSpec.ofChange fnCompletionsWrong)

/- THE SECOND FORM. 'bulk': how many values and letters a reading holds, each counted each time it is reached (what is shared counts as often as it is met; a slice's spare places count too). A statement '..UptoSaid' is the law's where the arguments, and the package variables that the reading takes, are together of bulk at most 1048576: NARROWER than '..Said'. Prove '..Said' where nothing that the law and all that it calls make is longer than what came in: it says more and counts as full. Else prove '..UptoSaid'. A law counts once. -/
mutual
def uptoBulk {H : Type} : DataW H → Nat
  | .lit (.string bytes) => bytes.length + 1
  | .lit _ => 1
  | .nil => 1
  | .ptr d => uptoBulk d + 1
  | .slice elems spare => uptoBulkAll elems + uptoBulkAll spare + 1
  | .agg parts => uptoBulkAll parts + 1
  | .iface _ d => uptoBulk d + 1
  | .map entries => uptoBulkEntries entries + 1
  | .held _ => 1
def uptoBulkAll {H : Type} : List (DataW H) → Nat
  | [] => 0
  | d :: r => uptoBulk d + uptoBulkAll r
def uptoBulkEntries {H : Type} : List (Lit × DataW H) → Nat
  | [] => 0
  | x :: r => uptoBulkEntry x + uptoBulkEntries r
def uptoBulkEntry {H : Type} : Lit × DataW H → Nat
  | (.string bytes, d) => bytes.length + uptoBulk d + 1
  | (_, d) => uptoBulk d + 1
 end
def uptoSmall : (H : Type) → List (DataW H) → Bool := fun _ ds => decide (uptoBulkAll ds ≤ 1048576)
def OpenSpec.upto (s : _root_.Go.ChangeSpec) : _root_.Go.OpenSpec := { _root_.Go.OpenSpec.ofChange s with cond := some uptoSmall }

/-- 'laws.FnExactBoundOf', WHERE WHAT IT READS IS OF BULK AT MOST 1048576: true; the input reads as it did. -/
def fnExactBoundOfUptoRow : OpenClaim := { program := "ytcmmbnhdfkcpdaa", sum := "8d6a6d4f712214716568b8e50131c4c7112c92020c9f99fef1f487f000c73be4", func := "loop.example/g01262/laws.FnExactBoundOf", spec := "fnExactBoundOf", unfollowed := true, recurses := true, apart := false, narrowed := true }
def FnExactBoundOfUptoSaid : Prop := fnExactBoundOfUptoRow.holds Try.pinned (OpenSpec.upto fnExactBoundOfSpec)

/-- 'laws.FnExactRankOfPairs', WHERE WHAT IT READS IS OF BULK AT MOST 1048576: true; the input reads as it did. -/
def fnExactRankOfPairsUptoRow : OpenClaim := { program := "ytcmmbnhdfkcpdaa", sum := "8d6a6d4f712214716568b8e50131c4c7112c92020c9f99fef1f487f000c73be4", func := "loop.example/g01262/laws.FnExactRankOfPairs", spec := "fnExactRankOfPairs", unfollowed := true, recurses := true, apart := false, narrowed := true }
def FnExactRankOfPairsUptoSaid : Prop := fnExactRankOfPairsUptoRow.holds Try.pinned (OpenSpec.upto fnExactRankOfPairsSpec)

/-- 'laws.FnExactCompletePairs', WHERE WHAT IT READS IS OF BULK AT MOST 1048576: true; the input reads as it did. -/
def fnExactCompletePairsUptoRow : OpenClaim := { program := "ytcmmbnhdfkcpdaa", sum := "8d6a6d4f712214716568b8e50131c4c7112c92020c9f99fef1f487f000c73be4", func := "loop.example/g01262/laws.FnExactCompletePairs", spec := "fnExactCompletePairs", unfollowed := true, recurses := true, apart := false, narrowed := true }
def FnExactCompletePairsUptoSaid : Prop := fnExactCompletePairsUptoRow.holds Try.pinned (OpenSpec.upto fnExactCompletePairsSpec)

/-- 'laws.FnExactNeedlessProducts', WHERE WHAT IT READS IS OF BULK AT MOST 1048576: true; the input reads as it did. -/
def fnExactNeedlessProductsUptoRow : OpenClaim := { program := "ytcmmbnhdfkcpdaa", sum := "8d6a6d4f712214716568b8e50131c4c7112c92020c9f99fef1f487f000c73be4", func := "loop.example/g01262/laws.FnExactNeedlessProducts", spec := "fnExactNeedlessProducts", unfollowed := true, recurses := true, apart := false, narrowed := true }
def FnExactNeedlessProductsUptoSaid : Prop := fnExactNeedlessProductsUptoRow.holds Try.pinned (OpenSpec.upto fnExactNeedlessProductsSpec)

/-- 'laws.FnExactCountPairSets', WHERE WHAT IT READS IS OF BULK AT MOST 1048576: true; the input reads as it did. -/
def fnExactCountPairSetsUptoRow : OpenClaim := { program := "ytcmmbnhdfkcpdaa", sum := "8d6a6d4f712214716568b8e50131c4c7112c92020c9f99fef1f487f000c73be4", func := "loop.example/g01262/laws.FnExactCountPairSets", spec := "fnExactCountPairSets", unfollowed := true, recurses := true, apart := false, narrowed := true }
def FnExactCountPairSetsUptoSaid : Prop := fnExactCountPairSetsUptoRow.holds Try.pinned (OpenSpec.upto fnExactCountPairSetsSpec)

/-- 'laws.FnExactLeastNumber', WHERE WHAT IT READS IS OF BULK AT MOST 1048576: true; the input reads as it did. -/
def fnExactLeastNumberUptoRow : OpenClaim := { program := "ytcmmbnhdfkcpdaa", sum := "8d6a6d4f712214716568b8e50131c4c7112c92020c9f99fef1f487f000c73be4", func := "loop.example/g01262/laws.FnExactLeastNumber", spec := "fnExactLeastNumber", recurses := true, apart := false, narrowed := true }
def FnExactLeastNumberUptoSaid : Prop := fnExactLeastNumberUptoRow.holds Try.pinned (OpenSpec.upto fnExactLeastNumberSpec)

/-- 'laws.FnKnownTensors', WHERE WHAT IT READS IS OF BULK AT MOST 1048576: true; the input reads as it did. -/
def fnKnownTensorsUptoRow : OpenClaim := { program := "ytcmmbnhdfkcpdaa", sum := "8d6a6d4f712214716568b8e50131c4c7112c92020c9f99fef1f487f000c73be4", func := "loop.example/g01262/laws.FnKnownTensors", spec := "fnKnownTensors", unfollowed := true, recurses := true, apart := false, narrowed := true }
def FnKnownTensorsUptoSaid : Prop := fnKnownTensorsUptoRow.holds Try.pinned (OpenSpec.upto fnKnownTensorsSpec)

/-- 'laws.FnCompletions', WHERE WHAT IT READS IS OF BULK AT MOST 1048576: true; the input reads as it did. -/
def fnCompletionsUptoRow : OpenClaim := { program := "ytcmmbnhdfkcpdaa", sum := "8d6a6d4f712214716568b8e50131c4c7112c92020c9f99fef1f487f000c73be4", func := "loop.example/g01262/laws.FnCompletions", spec := "fnCompletions", unfollowed := true, recurses := true, apart := false, narrowed := true }
def FnCompletionsUptoSaid : Prop := fnCompletionsUptoRow.holds Try.pinned (OpenSpec.upto fnCompletionsSpec)

end Rows
end Go.Proofs.Ytcmmbnhdfkcpdaa
