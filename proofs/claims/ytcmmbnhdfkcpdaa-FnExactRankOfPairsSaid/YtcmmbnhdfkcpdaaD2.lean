/- What a method makes of two lists: both sides. -/
import Derived.Test.YtcmmbnhdfkcpdaaD1
namespace Go.Proofs.Ytcmmbnhdfkcpdaa
open Go Go.Abs
set_option maxRecDepth 100000

set_option maxRecDepth 100000
set_option maxHeartbeats 8000000
set_option linter.unusedVariables false
attribute [-simp] List.getD_eq_getElem?_getD
attribute [-go_sem] confV

def mkErr (p i j k : Int) (n : Nat) (l u v : List Int) : Int := if methodOk p i j k n l then (if decide ((u.length : Int) = i) && decide ((v.length : Int) = j) && numsOk p u && numsOk p v then 0 else 2) else 1
theorem methodOk_sides {p i j k : Int} {n : Nat} {l : List Int} (h : methodOk p i j k n l = true) : isP p = true ∧ inSide i = true ∧ inSide j = true ∧ inSide k = true ∧ n ≤ 30 := by
  simp only [methodOk, Bool.and_eq_true, decide_eq_true_eq] at h
  exact ⟨h.1.1.1.1.1, h.1.1.1.1.2, h.1.1.1.2, h.1.1.2, h.1.2⟩

end Go.Proofs.Ytcmmbnhdfkcpdaa
