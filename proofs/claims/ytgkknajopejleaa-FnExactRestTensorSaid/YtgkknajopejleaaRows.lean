/-
  No cell of these rows narrows 'for every input' (looked for: loops, veiled, ifaces, maps, wideKeys, modest, calm, conditions, laid).
  DERIVED. THE GIVEN ROWS OF THIS SEAT. 12 by the template 'for every input the law returns true; each argument reads behind the call as it read before'; 0 by the template 'total and deterministic' (their statements: YtgkknajopejleaaTotals.lean).
  GIVEN WITH THE SEED: the statements are not yours to turn. If you find one false, say at which input.
  Laid BY PROGRAM, IN A SANDBOX (cutbox-rows.mjs): the forced cells as the released guide's own fill.sh prints them over the translation 159dc671ef2ccb63… (all of the seat's roots in one cut). By AI agents, Wed Nov 11 2026. No macro, syntax, notation, axiom, sorry.
-/
import Derived.Test.YtgkknajopejleaaChecked
import GoSem.Claim
import GoSem.ClaimJoined
import GoSem.ClaimMapViews
import Derived.JoinedTies
import Derived.KernelRfl
namespace Go.Proofs.Ytgkknajopejleaa
/- THE CELL 'sum', in the pinned program and in every row, IS THE sha256 OF THE DUMP (.gsa) THAT YtgkknajopejleaaProg.lean LOADS. Nothing in Lean hashes anything: it is a label: what it is worth is what the hold of that sum in a sandbox is worth. -/
noncomputable def Try.pinned : Pinned := { name := "ytgkknajopejleaa", sum := "159dc671ef2ccb63a63a548fa00d11e3087a40b04d50a8944051e0914e72e47c", checked := Try.checked }
namespace Rows
def none {H : Type} : Left H := { results := [], args := [] }

/-- 'laws.FnExactPolynomialTensor': WHATEVER THE INPUT: true; the input reads as it did. -/
def fnExactPolynomialTensorSpec : ChangeSpec := { name := "fnExactPolynomialTensor", fn := fun _ => fun
  | [d1, d2, d3] => { results := [.lit (.bool true)], args := [d1, d2, d3] }
  | _ => none }
def fnExactPolynomialTensorRow : OpenClaim := { program := "ytgkknajopejleaa", sum := "159dc671ef2ccb63a63a548fa00d11e3087a40b04d50a8944051e0914e72e47c", func := "loop.example/g01262/laws.FnExactPolynomialTensor", spec := "fnExactPolynomialTensor", unfollowed := true, recurses := true, apart := false }
def FnExactPolynomialTensorSaid : Prop := fnExactPolynomialTensorRow.holds Try.pinned (OpenSpec.ofChange fnExactPolynomialTensorSpec)

/-- ITS FALSE NEIGHBOUR: 'it returns false'. Refute it at one input. -/
def fnExactPolynomialTensorWrong : ChangeSpec := { name := "fnExactPolynomialTensor", fn := fun _ => fun
  | [d1, d2, d3] => { results := [.lit (.bool false)], args := [d1, d2, d3] }
  | _ => none }
def FnExactPolynomialTensorWrongFalsely : Prop := fnExactPolynomialTensorRow.holds Try.pinned (OpenSpec.ofChange fnExactPolynomialTensorWrong)

/-- 'laws.FnExactTriangularTensor': WHATEVER THE INPUT: true; the input reads as it did. -/
def fnExactTriangularTensorSpec : ChangeSpec := { name := "fnExactTriangularTensor", fn := fun _ => fun
  | [d1, d2] => { results := [.lit (.bool true)], args := [d1, d2] }
  | _ => none }
def fnExactTriangularTensorRow : OpenClaim := { program := "ytgkknajopejleaa", sum := "159dc671ef2ccb63a63a548fa00d11e3087a40b04d50a8944051e0914e72e47c", func := "loop.example/g01262/laws.FnExactTriangularTensor", spec := "fnExactTriangularTensor", unfollowed := true, recurses := true, apart := false }
def FnExactTriangularTensorSaid : Prop := fnExactTriangularTensorRow.holds Try.pinned (OpenSpec.ofChange fnExactTriangularTensorSpec)

/-- ITS FALSE NEIGHBOUR: 'it returns false'. Refute it at one input. -/
def fnExactTriangularTensorWrong : ChangeSpec := { name := "fnExactTriangularTensor", fn := fun _ => fun
  | [d1, d2] => { results := [.lit (.bool false)], args := [d1, d2] }
  | _ => none }
def FnExactTriangularTensorWrongFalsely : Prop := fnExactTriangularTensorRow.holds Try.pinned (OpenSpec.ofChange fnExactTriangularTensorWrong)

/-- 'laws.FnExactKaratsubaMethod': WHATEVER THE INPUT: true; the input reads as it did. -/
def fnExactKaratsubaMethodSpec : ChangeSpec := { name := "fnExactKaratsubaMethod", fn := fun _ => fun
  | [d] => { results := [.lit (.bool true)], args := [d] }
  | _ => none }
def fnExactKaratsubaMethodRow : OpenClaim := { program := "ytgkknajopejleaa", sum := "159dc671ef2ccb63a63a548fa00d11e3087a40b04d50a8944051e0914e72e47c", func := "loop.example/g01262/laws.FnExactKaratsubaMethod", spec := "fnExactKaratsubaMethod", apart := false }
def FnExactKaratsubaMethodSaid : Prop := fnExactKaratsubaMethodRow.holds Try.pinned (OpenSpec.ofChange fnExactKaratsubaMethodSpec)

/-- ITS FALSE NEIGHBOUR: 'it returns false'. Refute it at one input. -/
def fnExactKaratsubaMethodWrong : ChangeSpec := { name := "fnExactKaratsubaMethod", fn := fun _ => fun
  | [d] => { results := [.lit (.bool false)], args := [d] }
  | _ => none }
def FnExactKaratsubaMethodWrongFalsely : Prop := fnExactKaratsubaMethodRow.holds Try.pinned (OpenSpec.ofChange fnExactKaratsubaMethodWrong)

/-- 'laws.FnExactAllPairs': WHATEVER THE INPUT: true; the input reads as it did. -/
def fnExactAllPairsSpec : ChangeSpec := { name := "fnExactAllPairs", fn := fun _ => fun
  | [d1, d2, d3] => { results := [.lit (.bool true)], args := [d1, d2, d3] }
  | _ => none }
def fnExactAllPairsRow : OpenClaim := { program := "ytgkknajopejleaa", sum := "159dc671ef2ccb63a63a548fa00d11e3087a40b04d50a8944051e0914e72e47c", func := "loop.example/g01262/laws.FnExactAllPairs", spec := "fnExactAllPairs", apart := false }
def FnExactAllPairsSaid : Prop := fnExactAllPairsRow.holds Try.pinned (OpenSpec.ofChange fnExactAllPairsSpec)

/-- ITS FALSE NEIGHBOUR: 'it returns false'. Refute it at one input. -/
def fnExactAllPairsWrong : ChangeSpec := { name := "fnExactAllPairs", fn := fun _ => fun
  | [d1, d2, d3] => { results := [.lit (.bool false)], args := [d1, d2, d3] }
  | _ => none }
def FnExactAllPairsWrongFalsely : Prop := fnExactAllPairsRow.holds Try.pinned (OpenSpec.ofChange fnExactAllPairsWrong)

/-- 'laws.FnExactRestTensor': WHATEVER THE INPUT: true; the input reads as it did. -/
def fnExactRestTensorSpec : ChangeSpec := { name := "fnExactRestTensor", fn := fun _ => fun
  | [d1, d2] => { results := [.lit (.bool true)], args := [d1, d2] }
  | _ => none }
def fnExactRestTensorRow : OpenClaim := { program := "ytgkknajopejleaa", sum := "159dc671ef2ccb63a63a548fa00d11e3087a40b04d50a8944051e0914e72e47c", func := "loop.example/g01262/laws.FnExactRestTensor", spec := "fnExactRestTensor", unfollowed := true, recurses := true, apart := false }
def FnExactRestTensorSaid : Prop := fnExactRestTensorRow.holds Try.pinned (OpenSpec.ofChange fnExactRestTensorSpec)

/-- ITS FALSE NEIGHBOUR: 'it returns false'. Refute it at one input. -/
def fnExactRestTensorWrong : ChangeSpec := { name := "fnExactRestTensor", fn := fun _ => fun
  | [d1, d2] => { results := [.lit (.bool false)], args := [d1, d2] }
  | _ => none }
def FnExactRestTensorWrongFalsely : Prop := fnExactRestTensorRow.holds Try.pinned (OpenSpec.ofChange fnExactRestTensorWrong)

/-- 'laws.FnExactIsMethod': WHATEVER THE INPUT: true; the input reads as it did. -/
def fnExactIsMethodSpec : ChangeSpec := { name := "fnExactIsMethod", fn := fun _ => fun
  | [d] => { results := [.lit (.bool true)], args := [d] }
  | _ => none }
def fnExactIsMethodRow : OpenClaim := { program := "ytgkknajopejleaa", sum := "159dc671ef2ccb63a63a548fa00d11e3087a40b04d50a8944051e0914e72e47c", func := "loop.example/g01262/laws.FnExactIsMethod", spec := "fnExactIsMethod", apart := false }
def FnExactIsMethodSaid : Prop := fnExactIsMethodRow.holds Try.pinned (OpenSpec.ofChange fnExactIsMethodSpec)

/-- ITS FALSE NEIGHBOUR: 'it returns false'. Refute it at one input. -/
def fnExactIsMethodWrong : ChangeSpec := { name := "fnExactIsMethod", fn := fun _ => fun
  | [d] => { results := [.lit (.bool false)], args := [d] }
  | _ => none }
def FnExactIsMethodWrongFalsely : Prop := fnExactIsMethodRow.holds Try.pinned (OpenSpec.ofChange fnExactIsMethodWrong)

/-- 'laws.FnExactValueOfTensor': WHATEVER THE INPUT: true; the input reads as it did. -/
def fnExactValueOfTensorSpec : ChangeSpec := { name := "fnExactValueOfTensor", fn := fun _ => fun
  | [d1, d2, d3] => { results := [.lit (.bool true)], args := [d1, d2, d3] }
  | _ => none }
def fnExactValueOfTensorRow : OpenClaim := { program := "ytgkknajopejleaa", sum := "159dc671ef2ccb63a63a548fa00d11e3087a40b04d50a8944051e0914e72e47c", func := "loop.example/g01262/laws.FnExactValueOfTensor", spec := "fnExactValueOfTensor", apart := false }
def FnExactValueOfTensorSaid : Prop := fnExactValueOfTensorRow.holds Try.pinned (OpenSpec.ofChange fnExactValueOfTensorSpec)

/-- ITS FALSE NEIGHBOUR: 'it returns false'. Refute it at one input. -/
def fnExactValueOfTensorWrong : ChangeSpec := { name := "fnExactValueOfTensor", fn := fun _ => fun
  | [d1, d2, d3] => { results := [.lit (.bool false)], args := [d1, d2, d3] }
  | _ => none }
def FnExactValueOfTensorWrongFalsely : Prop := fnExactValueOfTensorRow.holds Try.pinned (OpenSpec.ofChange fnExactValueOfTensorWrong)

/-- 'laws.FnExactLeastNumber': WHATEVER THE INPUT: true; the input reads as it did. -/
def fnExactLeastNumberSpec : ChangeSpec := { name := "fnExactLeastNumber", fn := fun _ => fun
  | [d1, d2, d3] => { results := [.lit (.bool true)], args := [d1, d2, d3] }
  | _ => none }
def fnExactLeastNumberRow : OpenClaim := { program := "ytgkknajopejleaa", sum := "159dc671ef2ccb63a63a548fa00d11e3087a40b04d50a8944051e0914e72e47c", func := "loop.example/g01262/laws.FnExactLeastNumber", spec := "fnExactLeastNumber", recurses := true, apart := false }
def FnExactLeastNumberSaid : Prop := fnExactLeastNumberRow.holds Try.pinned (OpenSpec.ofChange fnExactLeastNumberSpec)

/-- ITS FALSE NEIGHBOUR: 'it returns false'. Refute it at one input. -/
def fnExactLeastNumberWrong : ChangeSpec := { name := "fnExactLeastNumber", fn := fun _ => fun
  | [d1, d2, d3] => { results := [.lit (.bool false)], args := [d1, d2, d3] }
  | _ => none }
def FnExactLeastNumberWrongFalsely : Prop := fnExactLeastNumberRow.holds Try.pinned (OpenSpec.ofChange fnExactLeastNumberWrong)

/-- 'laws.FnExactIsDesk': WHATEVER THE INPUT: true; the input reads as it did. -/
def fnExactIsDeskSpec : ChangeSpec := { name := "fnExactIsDesk", fn := fun _ => fun
  | [d] => { results := [.lit (.bool true)], args := [d] }
  | _ => none }
def fnExactIsDeskRow : OpenClaim := { program := "ytgkknajopejleaa", sum := "159dc671ef2ccb63a63a548fa00d11e3087a40b04d50a8944051e0914e72e47c", func := "loop.example/g01262/laws.FnExactIsDesk", spec := "fnExactIsDesk", apart := false }
def FnExactIsDeskSaid : Prop := fnExactIsDeskRow.holds Try.pinned (OpenSpec.ofChange fnExactIsDeskSpec)

/-- ITS FALSE NEIGHBOUR: 'it returns false'. Refute it at one input. -/
def fnExactIsDeskWrong : ChangeSpec := { name := "fnExactIsDesk", fn := fun _ => fun
  | [d] => { results := [.lit (.bool false)], args := [d] }
  | _ => none }
def FnExactIsDeskWrongFalsely : Prop := fnExactIsDeskRow.holds Try.pinned (OpenSpec.ofChange fnExactIsDeskWrong)

/-- 'laws.FnExactTurnMethod': WHATEVER THE INPUT: true; the input reads as it did. -/
def fnExactTurnMethodSpec : ChangeSpec := { name := "fnExactTurnMethod", fn := fun _ => fun
  | [d] => { results := [.lit (.bool true)], args := [d] }
  | _ => none }
def fnExactTurnMethodRow : OpenClaim := { program := "ytgkknajopejleaa", sum := "159dc671ef2ccb63a63a548fa00d11e3087a40b04d50a8944051e0914e72e47c", func := "loop.example/g01262/laws.FnExactTurnMethod", spec := "fnExactTurnMethod", apart := false }
def FnExactTurnMethodSaid : Prop := fnExactTurnMethodRow.holds Try.pinned (OpenSpec.ofChange fnExactTurnMethodSpec)

/-- ITS FALSE NEIGHBOUR: 'it returns false'. Refute it at one input. -/
def fnExactTurnMethodWrong : ChangeSpec := { name := "fnExactTurnMethod", fn := fun _ => fun
  | [d] => { results := [.lit (.bool false)], args := [d] }
  | _ => none }
def FnExactTurnMethodWrongFalsely : Prop := fnExactTurnMethodRow.holds Try.pinned (OpenSpec.ofChange fnExactTurnMethodWrong)

/-- 'laws.FnExactPlainMethod': WHATEVER THE INPUT: true; the input reads as it did. -/
def fnExactPlainMethodSpec : ChangeSpec := { name := "fnExactPlainMethod", fn := fun _ => fun
  | [d] => { results := [.lit (.bool true)], args := [d] }
  | _ => none }
def fnExactPlainMethodRow : OpenClaim := { program := "ytgkknajopejleaa", sum := "159dc671ef2ccb63a63a548fa00d11e3087a40b04d50a8944051e0914e72e47c", func := "loop.example/g01262/laws.FnExactPlainMethod", spec := "fnExactPlainMethod", apart := false }
def FnExactPlainMethodSaid : Prop := fnExactPlainMethodRow.holds Try.pinned (OpenSpec.ofChange fnExactPlainMethodSpec)

/-- ITS FALSE NEIGHBOUR: 'it returns false'. Refute it at one input. -/
def fnExactPlainMethodWrong : ChangeSpec := { name := "fnExactPlainMethod", fn := fun _ => fun
  | [d] => { results := [.lit (.bool false)], args := [d] }
  | _ => none }
def FnExactPlainMethodWrongFalsely : Prop := fnExactPlainMethodRow.holds Try.pinned (OpenSpec.ofChange fnExactPlainMethodWrong)

/-- 'laws.FnExactRankOfPairs': WHATEVER THE INPUT: true; the input reads as it did. -/
def fnExactRankOfPairsSpec : ChangeSpec := { name := "fnExactRankOfPairs", fn := fun _ => fun
  | [d1, d2, d3, d4, d5] => { results := [.lit (.bool true)], args := [d1, d2, d3, d4, d5] }
  | _ => none }
def fnExactRankOfPairsRow : OpenClaim := { program := "ytgkknajopejleaa", sum := "159dc671ef2ccb63a63a548fa00d11e3087a40b04d50a8944051e0914e72e47c", func := "loop.example/g01262/laws.FnExactRankOfPairs", spec := "fnExactRankOfPairs", unfollowed := true, recurses := true, apart := false }
def FnExactRankOfPairsSaid : Prop := fnExactRankOfPairsRow.holds Try.pinned (OpenSpec.ofChange fnExactRankOfPairsSpec)

/-- ITS FALSE NEIGHBOUR: 'it returns false'. Refute it at one input. -/
def fnExactRankOfPairsWrong : ChangeSpec := { name := "fnExactRankOfPairs", fn := fun _ => fun
  | [d1, d2, d3, d4, d5] => { results := [.lit (.bool false)], args := [d1, d2, d3, d4, d5] }
  | _ => none }
def FnExactRankOfPairsWrongFalsely : Prop := fnExactRankOfPairsRow.holds Try.pinned (OpenSpec.ofChange fnExactRankOfPairsWrong)

/- THE SECOND FORM. 'bulk': how many values and letters a reading holds, each counted each time it is reached (what is shared counts as often as it is met; a slice's spare places count too). A statement '..UptoSaid' is the law's where the arguments, and the package variables that the reading takes, are together of bulk at most 1048576: NARROWER than '..Said'. Prove '..Said' where nothing that the law and all that it calls make is longer than what came in: it says more and counts as full. Else prove '..UptoSaid'. A law counts once. -/
mutual
def uptoBulk {H : Type} : DataW H → Nat
  | .lit (.string bytes) => bytes.length + 1
  | .lit _ => 1
  | .nil => 1
  | .ptr d => uptoBulk d + 1
  | .slice elems spare => uptoBulkAll elems + uptoBulkAll spare + 1
  | .agg parts => uptoBulkAll parts + 1
  | .iface _ d => uptoBulk d + 1
  | .map entries => uptoBulkEntries entries + 1
  | .held _ => 1
def uptoBulkAll {H : Type} : List (DataW H) → Nat
  | [] => 0
  | d :: r => uptoBulk d + uptoBulkAll r
def uptoBulkEntries {H : Type} : List (Lit × DataW H) → Nat
  | [] => 0
  | x :: r => uptoBulkEntry x + uptoBulkEntries r
def uptoBulkEntry {H : Type} : Lit × DataW H → Nat
  | (.string bytes, d) => bytes.length + uptoBulk d + 1
  | (_, d) => uptoBulk d + 1
 end
def uptoSmall : (H : Type) → List (DataW H) → Bool := fun _ ds => decide (uptoBulkAll ds ≤ 1048576)
def OpenSpec.upto (s : _root_.Go.ChangeSpec) : _root_.Go.OpenSpec := { _root_.Go.OpenSpec.ofChange s with cond := some uptoSmall }

/-- 'laws.FnExactPolynomialTensor', WHERE WHAT IT READS IS OF BULK AT MOST 1048576: true; the input reads as it did. -/
def fnExactPolynomialTensorUptoRow : OpenClaim := { program := "ytgkknajopejleaa", sum := "159dc671ef2ccb63a63a548fa00d11e3087a40b04d50a8944051e0914e72e47c", func := "loop.example/g01262/laws.FnExactPolynomialTensor", spec := "fnExactPolynomialTensor", unfollowed := true, recurses := true, apart := false, narrowed := true }
def FnExactPolynomialTensorUptoSaid : Prop := fnExactPolynomialTensorUptoRow.holds Try.pinned (OpenSpec.upto fnExactPolynomialTensorSpec)

/-- 'laws.FnExactTriangularTensor', WHERE WHAT IT READS IS OF BULK AT MOST 1048576: true; the input reads as it did. -/
def fnExactTriangularTensorUptoRow : OpenClaim := { program := "ytgkknajopejleaa", sum := "159dc671ef2ccb63a63a548fa00d11e3087a40b04d50a8944051e0914e72e47c", func := "loop.example/g01262/laws.FnExactTriangularTensor", spec := "fnExactTriangularTensor", unfollowed := true, recurses := true, apart := false, narrowed := true }
def FnExactTriangularTensorUptoSaid : Prop := fnExactTriangularTensorUptoRow.holds Try.pinned (OpenSpec.upto fnExactTriangularTensorSpec)

/-- 'laws.FnExactKaratsubaMethod', WHERE WHAT IT READS IS OF BULK AT MOST 1048576: true; the input reads as it did. -/
def fnExactKaratsubaMethodUptoRow : OpenClaim := { program := "ytgkknajopejleaa", sum := "159dc671ef2ccb63a63a548fa00d11e3087a40b04d50a8944051e0914e72e47c", func := "loop.example/g01262/laws.FnExactKaratsubaMethod", spec := "fnExactKaratsubaMethod", apart := false, narrowed := true }
def FnExactKaratsubaMethodUptoSaid : Prop := fnExactKaratsubaMethodUptoRow.holds Try.pinned (OpenSpec.upto fnExactKaratsubaMethodSpec)

/-- 'laws.FnExactAllPairs', WHERE WHAT IT READS IS OF BULK AT MOST 1048576: true; the input reads as it did. -/
def fnExactAllPairsUptoRow : OpenClaim := { program := "ytgkknajopejleaa", sum := "159dc671ef2ccb63a63a548fa00d11e3087a40b04d50a8944051e0914e72e47c", func := "loop.example/g01262/laws.FnExactAllPairs", spec := "fnExactAllPairs", apart := false, narrowed := true }
def FnExactAllPairsUptoSaid : Prop := fnExactAllPairsUptoRow.holds Try.pinned (OpenSpec.upto fnExactAllPairsSpec)

/-- 'laws.FnExactRestTensor', WHERE WHAT IT READS IS OF BULK AT MOST 1048576: true; the input reads as it did. -/
def fnExactRestTensorUptoRow : OpenClaim := { program := "ytgkknajopejleaa", sum := "159dc671ef2ccb63a63a548fa00d11e3087a40b04d50a8944051e0914e72e47c", func := "loop.example/g01262/laws.FnExactRestTensor", spec := "fnExactRestTensor", unfollowed := true, recurses := true, apart := false, narrowed := true }
def FnExactRestTensorUptoSaid : Prop := fnExactRestTensorUptoRow.holds Try.pinned (OpenSpec.upto fnExactRestTensorSpec)

/-- 'laws.FnExactIsMethod', WHERE WHAT IT READS IS OF BULK AT MOST 1048576: true; the input reads as it did. -/
def fnExactIsMethodUptoRow : OpenClaim := { program := "ytgkknajopejleaa", sum := "159dc671ef2ccb63a63a548fa00d11e3087a40b04d50a8944051e0914e72e47c", func := "loop.example/g01262/laws.FnExactIsMethod", spec := "fnExactIsMethod", apart := false, narrowed := true }
def FnExactIsMethodUptoSaid : Prop := fnExactIsMethodUptoRow.holds Try.pinned (OpenSpec.upto fnExactIsMethodSpec)

/-- 'laws.FnExactValueOfTensor', WHERE WHAT IT READS IS OF BULK AT MOST 1048576: true; the input reads as it did. -/
def fnExactValueOfTensorUptoRow : OpenClaim := { program := "ytgkknajopejleaa", sum := "159dc671ef2ccb63a63a548fa00d11e3087a40b04d50a8944051e0914e72e47c", func := "loop.example/g01262/laws.FnExactValueOfTensor", spec := "fnExactValueOfTensor", apart := false, narrowed := true }
def FnExactValueOfTensorUptoSaid : Prop := fnExactValueOfTensorUptoRow.holds Try.pinned (OpenSpec.upto fnExactValueOfTensorSpec)

/-- 'laws.FnExactLeastNumber', WHERE WHAT IT READS IS OF BULK AT MOST 1048576: true; the input reads as it did. -/
def fnExactLeastNumberUptoRow : OpenClaim := { program := "ytgkknajopejleaa", sum := "159dc671ef2ccb63a63a548fa00d11e3087a40b04d50a8944051e0914e72e47c", func := "loop.example/g01262/laws.FnExactLeastNumber", spec := "fnExactLeastNumber", recurses := true, apart := false, narrowed := true }
def FnExactLeastNumberUptoSaid : Prop := fnExactLeastNumberUptoRow.holds Try.pinned (OpenSpec.upto fnExactLeastNumberSpec)

/-- 'laws.FnExactIsDesk', WHERE WHAT IT READS IS OF BULK AT MOST 1048576: true; the input reads as it did. -/
def fnExactIsDeskUptoRow : OpenClaim := { program := "ytgkknajopejleaa", sum := "159dc671ef2ccb63a63a548fa00d11e3087a40b04d50a8944051e0914e72e47c", func := "loop.example/g01262/laws.FnExactIsDesk", spec := "fnExactIsDesk", apart := false, narrowed := true }
def FnExactIsDeskUptoSaid : Prop := fnExactIsDeskUptoRow.holds Try.pinned (OpenSpec.upto fnExactIsDeskSpec)

/-- 'laws.FnExactTurnMethod', WHERE WHAT IT READS IS OF BULK AT MOST 1048576: true; the input reads as it did. -/
def fnExactTurnMethodUptoRow : OpenClaim := { program := "ytgkknajopejleaa", sum := "159dc671ef2ccb63a63a548fa00d11e3087a40b04d50a8944051e0914e72e47c", func := "loop.example/g01262/laws.FnExactTurnMethod", spec := "fnExactTurnMethod", apart := false, narrowed := true }
def FnExactTurnMethodUptoSaid : Prop := fnExactTurnMethodUptoRow.holds Try.pinned (OpenSpec.upto fnExactTurnMethodSpec)

/-- 'laws.FnExactPlainMethod', WHERE WHAT IT READS IS OF BULK AT MOST 1048576: true; the input reads as it did. -/
def fnExactPlainMethodUptoRow : OpenClaim := { program := "ytgkknajopejleaa", sum := "159dc671ef2ccb63a63a548fa00d11e3087a40b04d50a8944051e0914e72e47c", func := "loop.example/g01262/laws.FnExactPlainMethod", spec := "fnExactPlainMethod", apart := false, narrowed := true }
def FnExactPlainMethodUptoSaid : Prop := fnExactPlainMethodUptoRow.holds Try.pinned (OpenSpec.upto fnExactPlainMethodSpec)

/-- 'laws.FnExactRankOfPairs', WHERE WHAT IT READS IS OF BULK AT MOST 1048576: true; the input reads as it did. -/
def fnExactRankOfPairsUptoRow : OpenClaim := { program := "ytgkknajopejleaa", sum := "159dc671ef2ccb63a63a548fa00d11e3087a40b04d50a8944051e0914e72e47c", func := "loop.example/g01262/laws.FnExactRankOfPairs", spec := "fnExactRankOfPairs", unfollowed := true, recurses := true, apart := false, narrowed := true }
def FnExactRankOfPairsUptoSaid : Prop := fnExactRankOfPairsUptoRow.holds Try.pinned (OpenSpec.upto fnExactRankOfPairsSpec)

end Rows
end Go.Proofs.Ytgkknajopejleaa
