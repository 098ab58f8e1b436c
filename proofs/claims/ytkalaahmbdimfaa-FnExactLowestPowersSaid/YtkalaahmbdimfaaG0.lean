/- The products that are kept, one after the other; the products of exact schemes: plain laws. -/
import Derived.Test.YtkalaahmbdimfaaF5
import Derived.Test.YtkalaahmbdimfaaB8
namespace Go.Proofs.Ytkalaahmbdimfaa
open Go Go.Abs
set_option maxRecDepth 100000

set_option maxRecDepth 100000
set_option linter.unusedVariables false
attribute [-simp] List.getD_eq_getElem?_getD
attribute [-go_sem] confV

/-- A product, if none of its forms is 0. -/
def keepF (q : List Int) : List Int := if hasZ q then [] else q
theorem sub_app {l l' : List Int} {a n : Nat} (h : a + n ≤ l.length) : sub (l ++ l') a n = sub l a n := by
  rw [sub, sub, List.drop_append_of_le_length (by omega), List.take_append_of_le_length (by rw [List.length_drop]; omega)]
theorem sub_app_at {l q : List Int} {n : Nat} (hq : q.length = n) : sub (l ++ q) l.length n = q := by
  rw [sub, List.drop_left, List.take_of_length_le (by omega)]
theorem keptL_pre {l l' : List Int} : ∀ {t : Nat}, t * 27 ≤ l.length → keptL (l ++ l') t = keptL l t ∧ keptN (l ++ l') t = keptN l t
  | 0, _ => ⟨rfl, rfl⟩
  | t + 1, h => by
    have h2 : t * 27 + 27 ≤ l.length := by rw [Nat.add_mul] at h; omega
    obtain ⟨h3, h4⟩ := keptL_pre (l := l) (l' := l') (t := t) (by omega)
    simp only [keptL, keptN, zAt, sub_app h2, h3, h4]
    exact ⟨rfl, rfl⟩
theorem keptL_app {l q : List Int} {n : Nat} (hl : l.length = n * 27) (hq : q.length = 27) : keptL (l ++ q) (n + 1) = keptL l n ++ keepF q := by
  rw [keptL, zAt, ← hl, sub_app_at hq, (keptL_pre (Nat.le_of_eq hl.symm)).1, keepF]
  split <;> simp_all
/-- All that are kept. -/
def kpL (l : List Int) : List Int := keptL l (l.length / 27)
theorem kpL_nil : kpL [] = [] := rfl
theorem kpL_of {l : List Int} {n : Nat} (hl : l.length = n * 27) : kpL l = keptL l n := by rw [kpL, hl, Nat.mul_div_cancel _ (by decide)]
theorem kpL_app {l q : List Int} {n : Nat} (hl : l.length = n * 27) (hq : q.length = 27) : kpL (l ++ q) = kpL l ++ keepF q := by
  rw [kpL_of hl, kpL_of (n := n + 1) (by rw [List.length_append, hl, hq, Nat.add_mul]), keptL_app hl hq]
theorem keepF_length {q : List Int} (hq : q.length = 27) : (keepF q).length = 27 ∨ keepF q = [] := by
  unfold keepF; split
  · exact .inr rfl
  · exact .inl hq

/-- The numbers of a power, and the products of a twig that they make. -/
def cfL (f : List Int) (d : Nat) : List Int := mapTo (fun c => f.getD (c * 4 + d) 0) 9
theorem cfL_length (f : List Int) (d : Nat) : (cfL f d).length = 9 := mapTo_length _ _
def prX (f0 f1 f2 : List Int) : List Int := putL (putL (putL (zeros 27) 0 f0) 9 f1) 18 f2
theorem prX_length (f0 f1 f2 : List Int) : (prX f0 f1 f2).length = 27 := by simp only [prX, putL_len, zeros_length]
theorem prX_put (f0 f1 f2 : List Int) : putL (zeros 27) (0 * 27) (prX f0 f1 f2) = prX f0 f1 f2 := by rw [Nat.zero_mul, putL_all (by rw [prX_length, zeros_length])]
def exP (q : List Int) (i j k : Nat) : List Int := prX (cfL (sub q 0 36) i) (cfL (sub q 36 36) j) (cfL (sub q 72 36) k)
theorem exP_length (q : List Int) (i j k : Nat) : (exP q i j k).length = 27 := prX_length _ _ _
def exOk (h i j : Nat) : Bool := decide (i ≤ 3) && decide (j ≤ 3) && decide (h - i - j ≤ 3)
def exJ (q : List Int) (h i : Nat) : Nat → List Int
  | 0 => []
  | j + 1 => exJ q h i j ++ (if exOk h i j then exP q i j (h - i - j) else [])
def exI (q : List Int) (h : Nat) : Nat → List Int
  | 0 => []
  | i + 1 => exI q h i ++ exJ q h i (h - i + 1)
def exT (l : List Int) (h : Nat) : Nat → List Int
  | 0 => []
  | t + 1 => exT l h t ++ exI (sub l (t * 108) 108) h (h + 1)
/-- How many products there are, before those with a zero form are left out. -/
def exJn (h i : Nat) : Nat → Nat
  | 0 => 0
  | j + 1 => exJn h i j + if exOk h i j then 1 else 0
def exIn (h : Nat) : Nat → Nat
  | 0 => 0
  | i + 1 => exIn h i + exJn h i (h - i + 1)
theorem exJ_length (q : List Int) (h i j : Nat) : (exJ q h i j).length = exJn h i j * 27 := by
  induction j with
  | zero => rfl
  | succ j ih =>
    simp only [exJ, exJn, List.length_append, ih, Nat.add_mul]
    split <;> simp [exP_length]
theorem exI_length (q : List Int) (h i : Nat) : (exI q h i).length = exIn h i * 27 := by
  induction i with
  | zero => rfl
  | succ i ih => simp only [exI, exIn, List.length_append, ih, Nat.add_mul, exJ_length]
theorem exT_length (l : List Int) (h t : Nat) : (exT l h t).length = t * exIn h (h + 1) * 27 := by
  induction t with
  | zero => simp [exT]
  | succ t ih => simp only [exT, List.length_append, ih, exI_length, ← Nat.add_mul, Nat.succ_mul]
theorem exJ_stop (q : List Int) (h i : Nat) : ∀ {j : Nat}, 4 ≤ j ∨ 4 ≤ i → ∀ d, exJ q h i (j + d) = exJ q h i j
  | j, hj, 0 => rfl
  | j, hj, d + 1 => by
    rw [← Nat.add_assoc, exJ, exJ_stop q h i hj d, if_neg, List.append_nil]
    simp only [exOk, Bool.and_eq_true, decide_eq_true_eq]
    omega
theorem exJ_none (q : List Int) (h i j : Nat) (hi : 4 ≤ i) : exJ q h i j = [] := by
  have := exJ_stop q h i (j := 0) (.inr hi) j
  rwa [Nat.zero_add] at this
theorem exJ_min (q : List Int) (h i : Nat) : exJ q h i (h - i + 1) = exJ q h i (min (h - i) 3 + 1) := by
  by_cases e : h - i ≤ 3
  · rw [Nat.min_eq_left e]
  · rw [Nat.min_eq_right (by omega), show h - i + 1 = 4 + (h - i - 3) by omega, exJ_stop q h i (.inl (Nat.le_refl _))]
theorem exI_stop (q : List Int) (h : Nat) : ∀ d, exI q h (4 + d) = exI q h 4
  | 0 => rfl
  | d + 1 => by rw [← Nat.add_assoc, exI, exI_stop q h d, exJ_none _ _ _ _ (by omega), List.append_nil]
theorem exI_min (q : List Int) (h : Nat) : exI q h (h + 1) = exI q h (min h 3 + 1) := by
  by_cases e : h ≤ 3
  · rw [Nat.min_eq_left e]
  · rw [Nat.min_eq_right (by omega), show h + 1 = 4 + (h - 3) by omega, exI_stop]
theorem exJn_le (h i : Nat) : ∀ j, exJn h i j ≤ j
  | 0 => Nat.le_refl _
  | j + 1 => by have := exJn_le h i j; simp only [exJn]; split <;> omega
theorem exIn_le (h : Nat) : ∀ i, exIn h i ≤ i * (h + 1)
  | 0 => Nat.zero_le _
  | i + 1 => by
    have := exIn_le h i
    have := exJn_le h i (h - i + 1)
    simp only [exIn, Nat.succ_mul]
    omega
/-- What is kept of the products of an exact scheme. -/
theorem kpL_step {o q : List Int} {n : Nat} (hl : o.length = n * 27) (b : Bool) (hq : q.length = 27) : kpL (o ++ if b then q else []) = kpL o ++ if b then keepF q else [] := by
  cases b
  · simp
  · simp only [if_true]; exact kpL_app hl hq
end Go.Proofs.Ytkalaahmbdimfaa
