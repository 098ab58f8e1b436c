/- Turned methods. -/
import Derived.Test.YtmeddoilmlilnaaM3
namespace Go.Proofs.Ytmeddoilmlilnaa
open Go Go.Abs
set_option maxRecDepth 100000

set_option maxRecDepth 100000
set_option maxHeartbeats 4000000
set_option linter.unusedVariables false
attribute [-simp] List.getD_eq_getElem?_getD

/-- A list made of parts of one length. -/
def upTo (g : Nat → List Int) (n : Nat) : List Int := (List.range n).flatMap g
theorem upTo_zero (g : Nat → List Int) : upTo g 0 = [] := rfl
theorem upTo_succ (g : Nat → List Int) (n : Nat) : upTo g (n + 1) = upTo g n ++ g n := by simp [upTo, List.range_succ]
theorem upTo_length {g : Nat → List Int} {k : Nat} (h : ∀ t, (g t).length = k) (n : Nat) : (upTo g n).length = n * k := by
  induction n with
  | zero => simp [upTo]
  | succ n ih => rw [upTo_succ, List.length_append, ih, h, Nat.succ_mul]

/-- A product with its forms turned. -/
def turnP (q : List Int) : List Int := putL (putL (putL (zeros 27) 0 (sub q 9 9)) 9 (sub q 18 9)) 18 (sub q 0 9)
theorem turnP_length (q : List Int) : (turnP q).length = 27 := by simp only [turnP, putL_len, zeros_length]
theorem turnP_put (q : List Int) : putL (zeros 27) (0 * 27) (turnP q) = turnP q := by rw [Nat.zero_mul, putL_all (by rw [turnP_length, zeros_length])]
def turnL (l : List Int) (n : Nat) : List Int := upTo (fun t => turnP (sub l (t * 27) 27)) n
theorem turnL_length (l : List Int) (n : Nat) : (turnL l n).length = n * 27 := upTo_length (fun t => turnP_length _) n
theorem turnL_succ (l : List Int) (n : Nat) : turnL l (n + 1) = turnL l n ++ turnP (sub l (n * 27) 27) := upTo_succ _ n

/-- A list that grows within a struct: the struct lies at slot s, the list at slot m. -/
def MI (s : Nat) (b0 b1 st : Slot) (cells : List Cell) (L : List Slot) (m : Nat) : Prop :=
  s < L.length ∧ gd L 0 = b0 ∧ gd L 1 = b1 ∧ gd L s = st ∧ m < L.length ∧ 2 ≤ m ∧ m ≠ s ∧ gd L m = .live ⟨cells, true⟩

end Go.Proofs.Ytmeddoilmlilnaa
