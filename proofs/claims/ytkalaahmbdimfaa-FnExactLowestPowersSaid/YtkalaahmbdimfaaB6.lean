/- CoefficientAt: both, the law. -/
import Derived.Test.YtkalaahmbdimfaaB5
namespace Go.Proofs.Ytkalaahmbdimfaa
open Go Go.Abs
set_option maxRecDepth 100000

set_option maxRecDepth 100000
set_option maxHeartbeats 8000000
set_option linter.unusedVariables false
attribute [-simp] List.getD_eq_getElem?_getD
attribute [-go_sem] confV

theorem szI {n : Int} (h : inSz n = true) : 1 ≤ n ∧ n ≤ 3 := inSz_rng h
/-- What CoefficientAt answers. -/
def cfCode (p n m k : Int) (len : Nat) (l : List Int) (a b c d : Int) : Int := if borderOk p n m k len l then (if plOk n m k a b c && (decide (0 ≤ d) && decide (d ≤ 9)) then 0 else 2) else 1
def cfVal (p n m k : Int) (len : Nat) (l : List Int) (a b c d : Int) : Int := if cfCode p n m k len l a b c d = 0 then (coef l a.toNat b.toNat c.toNat d.toNat len).tmod p else 0

end Go.Proofs.Ytkalaahmbdimfaa
