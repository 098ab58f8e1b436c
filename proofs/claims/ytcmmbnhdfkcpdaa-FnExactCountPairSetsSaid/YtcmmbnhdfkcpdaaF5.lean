/- The products that are kept: plain laws. -/
import Derived.Test.YtcmmbnhdfkcpdaaF4
namespace Go.Proofs.Ytcmmbnhdfkcpdaa
open Go Go.Abs
set_option maxRecDepth 100000

set_option maxRecDepth 100000
set_option linter.unusedVariables false
attribute [-simp] List.getD_eq_getElem?_getD
attribute [-go_sem] confV

/-- How many of the first products are kept, and their bytes. -/
def keptN (l : List Int) : Nat → Nat
  | 0 => 0
  | t + 1 => if zAt l t then keptN l t else keptN l t + 1
def keptL (l : List Int) : Nat → List Int
  | 0 => []
  | t + 1 => if zAt l t then keptL l t else keptL l t ++ sub l (t * 27) 27
theorem keptN_le (l : List Int) (t : Nat) : keptN l t ≤ t := by
  induction t with
  | zero => simp [keptN]
  | succ t ih => simp only [keptN]; split <;> omega
theorem keptL_length {l : List Int} {n : Nat} (hl : l.length = n * 27) : ∀ {t : Nat}, t ≤ n → (keptL l t).length = keptN l t * 27
  | 0, _ => rfl
  | t + 1, h => by
    have ih := keptL_length hl (t := t) (by omega)
    have hs : (sub l (t * 27) 27).length = 27 := sub_length (by omega)
    simp only [keptL, keptN]
    split
    · exact ih
    · rw [List.length_append, ih, hs, Nat.add_mul]
theorem kept_all {l : List Int} : ∀ {t : Nat}, (∀ u, u < t → zAt l u = false) → keptN l t = t ∧ keptL l t = l.take (t * 27)
  | 0, _ => ⟨rfl, by simp [keptL]⟩
  | t + 1, h => by
    obtain ⟨h1, h2⟩ := kept_all (t := t) fun u hu => h u (by omega)
    have h3 := h t (by omega)
    refine ⟨by simp [keptN, h3, h1], ?_⟩
    rw [keptL, h3, h2, Nat.succ_mul]
    simp only [Bool.false_eq_true, if_false]
    exact take_sub.symm
end Go.Proofs.Ytcmmbnhdfkcpdaa
