/-
  No cell of these rows narrows 'for every input' (looked for: loops, veiled, ifaces, maps, wideKeys, modest, calm, conditions, laid).
  DERIVED. THE GIVEN ROWS OF THIS SEAT. 7 by the template 'for every input the law returns true; each argument reads behind the call as it read before'; 0 by the template 'total and deterministic' (their statements: YtcfemdhlcjmlbaaTotals.lean).
  GIVEN WITH THE SEED: the statements are not yours to turn. If you find one false, say at which input.
  Laid BY PROGRAM, IN A SANDBOX (cutbox-rows.mjs): the forced cells as the released guide's own fill.sh prints them over the translation 9cf4868f0c879751… (all of the seat's roots in one cut). By AI agents, Wed Nov 11 2026. No macro, syntax, notation, axiom, sorry.
-/
import Derived.Test.YtcfemdhlcjmlbaaChecked
import GoSem.Claim
import GoSem.ClaimJoined
import GoSem.ClaimMapViews
import Derived.JoinedTies
import Derived.KernelRfl
namespace Go.Proofs.Ytcfemdhlcjmlbaa
/- THE CELL 'sum', in the pinned program and in every row, IS THE sha256 OF THE DUMP (.gsa) THAT YtcfemdhlcjmlbaaProg.lean LOADS. Nothing in Lean hashes anything: it is a label: what it is worth is what the hold of that sum in a sandbox is worth. -/
noncomputable def Try.pinned : Pinned := { name := "ytcfemdhlcjmlbaa", sum := "9cf4868f0c879751fd5734376937b41499aeb44512551d479ec1601590c849b4", checked := Try.checked }
namespace Rows
def none {H : Type} : Left H := { results := [], args := [] }

/-- 'laws.FnLeastNumbers': WHATEVER THE INPUT: true; the input reads as it did. -/
def fnLeastNumbersSpec : ChangeSpec := { name := "fnLeastNumbers", fn := fun _ => fun
  | [d] => { results := [.lit (.bool true)], args := [d] }
  | _ => none }
def fnLeastNumbersRow : OpenClaim := { program := "ytcfemdhlcjmlbaa", sum := "9cf4868f0c879751fd5734376937b41499aeb44512551d479ec1601590c849b4", func := "loop.example/g01262/laws.FnLeastNumbers", spec := "fnLeastNumbers", unfollowed := true, recurses := true, apart := false }
def FnLeastNumbersSaid : Prop := fnLeastNumbersRow.holds Try.pinned (OpenSpec.ofChange fnLeastNumbersSpec)

/-- ITS FALSE NEIGHBOUR: 'it returns false'. Refute it at one input. -/
def fnLeastNumbersWrong : ChangeSpec := { name := "fnLeastNumbers", fn := fun _ => fun
  | [d] => { results := [.lit (.bool false)], args := [d] }
  | _ => none }
def FnLeastNumbersWrongFalsely : Prop := fnLeastNumbersRow.holds Try.pinned (OpenSpec.ofChange fnLeastNumbersWrong)

/-- 'laws.FnKnownTensors': WHATEVER THE INPUT: true; the input reads as it did. -/
def fnKnownTensorsSpec : ChangeSpec := { name := "fnKnownTensors", fn := fun _ => fun
  | [d] => { results := [.lit (.bool true)], args := [d] }
  | _ => none }
def fnKnownTensorsRow : OpenClaim := { program := "ytcfemdhlcjmlbaa", sum := "9cf4868f0c879751fd5734376937b41499aeb44512551d479ec1601590c849b4", func := "loop.example/g01262/laws.FnKnownTensors", spec := "fnKnownTensors", unfollowed := true, recurses := true, apart := false }
def FnKnownTensorsSaid : Prop := fnKnownTensorsRow.holds Try.pinned (OpenSpec.ofChange fnKnownTensorsSpec)

/-- ITS FALSE NEIGHBOUR: 'it returns false'. Refute it at one input. -/
def fnKnownTensorsWrong : ChangeSpec := { name := "fnKnownTensors", fn := fun _ => fun
  | [d] => { results := [.lit (.bool false)], args := [d] }
  | _ => none }
def FnKnownTensorsWrongFalsely : Prop := fnKnownTensorsRow.holds Try.pinned (OpenSpec.ofChange fnKnownTensorsWrong)

/-- 'laws.FnMethodProducts': WHATEVER THE INPUT: true; the input reads as it did. -/
def fnMethodProductsSpec : ChangeSpec := { name := "fnMethodProducts", fn := fun _ => fun
  | [d] => { results := [.lit (.bool true)], args := [d] }
  | _ => none }
def fnMethodProductsRow : OpenClaim := { program := "ytcfemdhlcjmlbaa", sum := "9cf4868f0c879751fd5734376937b41499aeb44512551d479ec1601590c849b4", func := "loop.example/g01262/laws.FnMethodProducts", spec := "fnMethodProducts", unfollowed := true, recurses := true, apart := false }
def FnMethodProductsSaid : Prop := fnMethodProductsRow.holds Try.pinned (OpenSpec.ofChange fnMethodProductsSpec)

/-- ITS FALSE NEIGHBOUR: 'it returns false'. Refute it at one input. -/
def fnMethodProductsWrong : ChangeSpec := { name := "fnMethodProducts", fn := fun _ => fun
  | [d] => { results := [.lit (.bool false)], args := [d] }
  | _ => none }
def FnMethodProductsWrongFalsely : Prop := fnMethodProductsRow.holds Try.pinned (OpenSpec.ofChange fnMethodProductsWrong)

/-- 'laws.FnWalks': WHATEVER THE INPUT: true; the input reads as it did. -/
def fnWalksSpec : ChangeSpec := { name := "fnWalks", fn := fun _ => fun
  | [d] => { results := [.lit (.bool true)], args := [d] }
  | _ => none }
def fnWalksRow : OpenClaim := { program := "ytcfemdhlcjmlbaa", sum := "9cf4868f0c879751fd5734376937b41499aeb44512551d479ec1601590c849b4", func := "loop.example/g01262/laws.FnWalks", spec := "fnWalks", unfollowed := true, recurses := true, apart := false }
def FnWalksSaid : Prop := fnWalksRow.holds Try.pinned (OpenSpec.ofChange fnWalksSpec)

/-- ITS FALSE NEIGHBOUR: 'it returns false'. Refute it at one input. -/
def fnWalksWrong : ChangeSpec := { name := "fnWalks", fn := fun _ => fun
  | [d] => { results := [.lit (.bool false)], args := [d] }
  | _ => none }
def FnWalksWrongFalsely : Prop := fnWalksRow.holds Try.pinned (OpenSpec.ofChange fnWalksWrong)

/-- 'laws.FnMethods': WHATEVER THE INPUT: true; the input reads as it did. -/
def fnMethodsSpec : ChangeSpec := { name := "fnMethods", fn := fun _ => fun
  | [d] => { results := [.lit (.bool true)], args := [d] }
  | _ => none }
def fnMethodsRow : OpenClaim := { program := "ytcfemdhlcjmlbaa", sum := "9cf4868f0c879751fd5734376937b41499aeb44512551d479ec1601590c849b4", func := "loop.example/g01262/laws.FnMethods", spec := "fnMethods", unfollowed := true, recurses := true, apart := false }
def FnMethodsSaid : Prop := fnMethodsRow.holds Try.pinned (OpenSpec.ofChange fnMethodsSpec)

/-- ITS FALSE NEIGHBOUR: 'it returns false'. Refute it at one input. -/
def fnMethodsWrong : ChangeSpec := { name := "fnMethods", fn := fun _ => fun
  | [d] => { results := [.lit (.bool false)], args := [d] }
  | _ => none }
def FnMethodsWrongFalsely : Prop := fnMethodsRow.holds Try.pinned (OpenSpec.ofChange fnMethodsWrong)

/-- 'laws.FnExactSchemes': WHATEVER THE INPUT: true; the input reads as it did. -/
def fnExactSchemesSpec : ChangeSpec := { name := "fnExactSchemes", fn := fun _ => fun
  | [d] => { results := [.lit (.bool true)], args := [d] }
  | _ => none }
def fnExactSchemesRow : OpenClaim := { program := "ytcfemdhlcjmlbaa", sum := "9cf4868f0c879751fd5734376937b41499aeb44512551d479ec1601590c849b4", func := "loop.example/g01262/laws.FnExactSchemes", spec := "fnExactSchemes", unfollowed := true, recurses := true, apart := false }
def FnExactSchemesSaid : Prop := fnExactSchemesRow.holds Try.pinned (OpenSpec.ofChange fnExactSchemesSpec)

/-- ITS FALSE NEIGHBOUR: 'it returns false'. Refute it at one input. -/
def fnExactSchemesWrong : ChangeSpec := { name := "fnExactSchemes", fn := fun _ => fun
  | [d] => { results := [.lit (.bool false)], args := [d] }
  | _ => none }
def FnExactSchemesWrongFalsely : Prop := fnExactSchemesRow.holds Try.pinned (OpenSpec.ofChange fnExactSchemesWrong)

/-- 'laws.FnCompletions': WHATEVER THE INPUT: true; the input reads as it did. -/
def fnCompletionsSpec : ChangeSpec := { name := "fnCompletions", fn := fun _ => fun
  | [d] => { results := [.lit (.bool true)], args := [d] }
  | _ => none }
def fnCompletionsRow : OpenClaim := { program := "ytcfemdhlcjmlbaa", sum := "9cf4868f0c879751fd5734376937b41499aeb44512551d479ec1601590c849b4", func := "loop.example/g01262/laws.FnCompletions", spec := "fnCompletions", unfollowed := true, recurses := true, apart := false }
def FnCompletionsSaid : Prop := fnCompletionsRow.holds Try.pinned (OpenSpec.ofChange fnCompletionsSpec)

/-- ITS FALSE NEIGHBOUR: 'it returns false'. Refute it at one input. -/
def fnCompletionsWrong : ChangeSpec := { name := "fnCompletions", fn := fun _ => fun
  | [d] => { results := [.lit (.bool false)], args := [d] }
  | _ => none }
def FnCompletionsWrongFalsely : Prop := fnCompletionsRow.holds Try.pinned (OpenSpec.ofChange fnCompletionsWrong)

/- THE SECOND FORM. 'bulk': how many values and letters a reading holds, each counted each time it is reached (what is shared counts as often as it is met; a slice's spare places count too). A statement '..UptoSaid' is the law's where the arguments, and the package variables that the reading takes, are together of bulk at most 1048576: NARROWER than '..Said'. Prove '..Said' where nothing that the law and all that it calls make is longer than what came in: it says more and counts as full. Else prove '..UptoSaid'. A law counts once. -/
mutual
def uptoBulk {H : Type} : DataW H → Nat
  | .lit (.string bytes) => bytes.length + 1
  | .lit _ => 1
  | .nil => 1
  | .ptr d => uptoBulk d + 1
  | .slice elems spare => uptoBulkAll elems + uptoBulkAll spare + 1
  | .agg parts => uptoBulkAll parts + 1
  | .iface _ d => uptoBulk d + 1
  | .map entries => uptoBulkEntries entries + 1
  | .held _ => 1
def uptoBulkAll {H : Type} : List (DataW H) → Nat
  | [] => 0
  | d :: r => uptoBulk d + uptoBulkAll r
def uptoBulkEntries {H : Type} : List (Lit × DataW H) → Nat
  | [] => 0
  | x :: r => uptoBulkEntry x + uptoBulkEntries r
def uptoBulkEntry {H : Type} : Lit × DataW H → Nat
  | (.string bytes, d) => bytes.length + uptoBulk d + 1
  | (_, d) => uptoBulk d + 1
 end
def uptoSmall : (H : Type) → List (DataW H) → Bool := fun _ ds => decide (uptoBulkAll ds ≤ 1048576)
def OpenSpec.upto (s : _root_.Go.ChangeSpec) : _root_.Go.OpenSpec := { _root_.Go.OpenSpec.ofChange s with cond := some uptoSmall }

/-- 'laws.FnLeastNumbers', WHERE WHAT IT READS IS OF BULK AT MOST 1048576: true; the input reads as it did. -/
def fnLeastNumbersUptoRow : OpenClaim := { program := "ytcfemdhlcjmlbaa", sum := "9cf4868f0c879751fd5734376937b41499aeb44512551d479ec1601590c849b4", func := "loop.example/g01262/laws.FnLeastNumbers", spec := "fnLeastNumbers", unfollowed := true, recurses := true, apart := false, narrowed := true }
def FnLeastNumbersUptoSaid : Prop := fnLeastNumbersUptoRow.holds Try.pinned (OpenSpec.upto fnLeastNumbersSpec)

/-- 'laws.FnKnownTensors', WHERE WHAT IT READS IS OF BULK AT MOST 1048576: true; the input reads as it did. -/
def fnKnownTensorsUptoRow : OpenClaim := { program := "ytcfemdhlcjmlbaa", sum := "9cf4868f0c879751fd5734376937b41499aeb44512551d479ec1601590c849b4", func := "loop.example/g01262/laws.FnKnownTensors", spec := "fnKnownTensors", unfollowed := true, recurses := true, apart := false, narrowed := true }
def FnKnownTensorsUptoSaid : Prop := fnKnownTensorsUptoRow.holds Try.pinned (OpenSpec.upto fnKnownTensorsSpec)

/-- 'laws.FnMethodProducts', WHERE WHAT IT READS IS OF BULK AT MOST 1048576: true; the input reads as it did. -/
def fnMethodProductsUptoRow : OpenClaim := { program := "ytcfemdhlcjmlbaa", sum := "9cf4868f0c879751fd5734376937b41499aeb44512551d479ec1601590c849b4", func := "loop.example/g01262/laws.FnMethodProducts", spec := "fnMethodProducts", unfollowed := true, recurses := true, apart := false, narrowed := true }
def FnMethodProductsUptoSaid : Prop := fnMethodProductsUptoRow.holds Try.pinned (OpenSpec.upto fnMethodProductsSpec)

/-- 'laws.FnWalks', WHERE WHAT IT READS IS OF BULK AT MOST 1048576: true; the input reads as it did. -/
def fnWalksUptoRow : OpenClaim := { program := "ytcfemdhlcjmlbaa", sum := "9cf4868f0c879751fd5734376937b41499aeb44512551d479ec1601590c849b4", func := "loop.example/g01262/laws.FnWalks", spec := "fnWalks", unfollowed := true, recurses := true, apart := false, narrowed := true }
def FnWalksUptoSaid : Prop := fnWalksUptoRow.holds Try.pinned (OpenSpec.upto fnWalksSpec)

/-- 'laws.FnMethods', WHERE WHAT IT READS IS OF BULK AT MOST 1048576: true; the input reads as it did. -/
def fnMethodsUptoRow : OpenClaim := { program := "ytcfemdhlcjmlbaa", sum := "9cf4868f0c879751fd5734376937b41499aeb44512551d479ec1601590c849b4", func := "loop.example/g01262/laws.FnMethods", spec := "fnMethods", unfollowed := true, recurses := true, apart := false, narrowed := true }
def FnMethodsUptoSaid : Prop := fnMethodsUptoRow.holds Try.pinned (OpenSpec.upto fnMethodsSpec)

/-- 'laws.FnExactSchemes', WHERE WHAT IT READS IS OF BULK AT MOST 1048576: true; the input reads as it did. -/
def fnExactSchemesUptoRow : OpenClaim := { program := "ytcfemdhlcjmlbaa", sum := "9cf4868f0c879751fd5734376937b41499aeb44512551d479ec1601590c849b4", func := "loop.example/g01262/laws.FnExactSchemes", spec := "fnExactSchemes", unfollowed := true, recurses := true, apart := false, narrowed := true }
def FnExactSchemesUptoSaid : Prop := fnExactSchemesUptoRow.holds Try.pinned (OpenSpec.upto fnExactSchemesSpec)

/-- 'laws.FnCompletions', WHERE WHAT IT READS IS OF BULK AT MOST 1048576: true; the input reads as it did. -/
def fnCompletionsUptoRow : OpenClaim := { program := "ytcfemdhlcjmlbaa", sum := "9cf4868f0c879751fd5734376937b41499aeb44512551d479ec1601590c849b4", func := "loop.example/g01262/laws.FnCompletions", spec := "fnCompletions", unfollowed := true, recurses := true, apart := false, narrowed := true }
def FnCompletionsUptoSaid : Prop := fnCompletionsUptoRow.holds Try.pinned (OpenSpec.upto fnCompletionsSpec)

end Rows
end Go.Proofs.Ytcfemdhlcjmlbaa
