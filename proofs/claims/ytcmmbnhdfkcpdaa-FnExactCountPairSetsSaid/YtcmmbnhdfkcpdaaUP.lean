/- Lists made of parts of one length. -/
import Derived.Test.YtcmmbnhdfkcpdaaM3
namespace Go.Proofs.Ytcmmbnhdfkcpdaa
open Go Go.Abs
set_option maxRecDepth 100000

set_option maxRecDepth 100000
set_option linter.unusedVariables false
attribute [-simp] List.getD_eq_getElem?_getD

/-- A list made of parts of one length. -/
def upTo (g : Nat → List Int) (n : Nat) : List Int := (List.range n).flatMap g
theorem upTo_zero (g : Nat → List Int) : upTo g 0 = [] := rfl
theorem upTo_succ (g : Nat → List Int) (n : Nat) : upTo g (n + 1) = upTo g n ++ g n := by simp [upTo, List.range_succ]
theorem upTo_length {g : Nat → List Int} {k : Nat} (h : ∀ t, (g t).length = k) (n : Nat) : (upTo g n).length = n * k := by
  induction n with
  | zero => simp [upTo]
  | succ n ih => rw [upTo_succ, List.length_append, ih, h, Nat.succ_mul]

end Go.Proofs.Ytcmmbnhdfkcpdaa
