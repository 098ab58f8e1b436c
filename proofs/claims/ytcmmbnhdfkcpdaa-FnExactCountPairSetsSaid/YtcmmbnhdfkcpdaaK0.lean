/- Ranks: plain laws. -/
import Derived.Test.YtcmmbnhdfkcpdaaRG
import Derived.Test.YtcmmbnhdfkcpdaaH2
namespace Go.Proofs.Ytcmmbnhdfkcpdaa
open Go Go.Abs
set_option maxRecDepth 100000

set_option maxRecDepth 100000
set_option linter.unusedVariables false
attribute [-simp] List.getD_eq_getElem?_getD
attribute [-go_sem] confV

/-- The inverse of a number modulo p. -/
def invV (p a : Int) : Int := if (1 * a).tmod p = 1 then 1 else if (2 * a).tmod p = 1 then 2 else if (3 * a).tmod p = 1 then 3 else 4
/-- The first row from i on with a number in the column c. -/
def rkF (R : List (List Int)) (c : Nat) : Nat → Nat → Nat
  | 0, i => i
  | f + 1, i => if (R.getD i []).getD c 0 = 0 then rkF R c f (i + 1) else i
theorem rkF_ge {R : List (List Int)} {c : Nat} : ∀ {f i : Nat}, i ≤ rkF R c f i ∧ rkF R c f i ≤ i + f
  | 0, i => ⟨Nat.le_refl _, Nat.le_refl _⟩
  | f + 1, i => by
    rw [rkF]
    split
    · have := rkF_ge (R := R) (c := c) (f := f) (i := i + 1); omega
    · omega
theorem rkF_nz {R : List (List Int)} {c : Nat} : ∀ {f i : Nat}, rkF R c f i < i + f → (R.getD (rkF R c f i) []).getD c 0 ≠ 0
  | 0, i, h => by rw [rkF] at h; omega
  | f + 1, i, h => by
    rw [rkF] at h ⊢
    split
    · rename_i h0
      rw [if_pos h0] at h
      exact rkF_nz (by omega)
    · rename_i h0; exact h0
theorem rkF_no {R : List (List Int)} {c f i : Nat} (h : (R.getD i []).getD c 0 = 0) : rkF R c (f + 1) i = rkF R c f (i + 1) := by rw [rkF, if_pos h]
theorem rkF_yes {R : List (List Int)} {c f i : Nat} (h : ¬ (R.getD i []).getD c 0 = 0) (hf : 0 < f) : rkF R c f i = i := by
  cases f with
  | zero => omega
  | succ f => rw [rkF, if_neg h]
/-- A number of a row less a multiple of the pivot's. -/
def rkX (p f x y : Int) : Int := ((x - f * y).tmod p + p).tmod p
def rkRow (p f : Int) (u v : List Int) (t : Nat) : List Int := (List.range u.length).map fun j => if j < t then rkX p f (u.getD j 0) (v.getD j 0) else u.getD j 0
theorem rkRow_length (p f : Int) (u v : List Int) (t : Nat) : (rkRow p f u v t).length = u.length := by simp [rkRow]
theorem rkRow_get {p f : Int} {u v : List Int} {t j : Nat} (h : j < u.length) : (rkRow p f u v t).getD j 0 = if j < t then rkX p f (u.getD j 0) (v.getD j 0) else u.getD j 0 := by
  simp [rkRow, List.getD_eq_getElem?_getD, h]
theorem list_ext_getD {a b : List Int} (hl : a.length = b.length) (h : ∀ j, j < a.length → a.getD j 0 = b.getD j 0) : a = b := by
  refine List.ext_getElem hl fun j h1 h2 => ?_
  have := h j h1
  rwa [List.getD_eq_getElem?_getD, List.getD_eq_getElem?_getD, List.getElem?_eq_getElem h1, List.getElem?_eq_getElem h2] at this
theorem rkRow_zero (p f : Int) (u v : List Int) : rkRow p f u v 0 = u := list_ext_getD (rkRow_length ..) fun j hj => by
  rw [rkRow_length] at hj
  rw [rkRow_get hj, if_neg (by omega)]
theorem rkRow_succ (p f : Int) (u v : List Int) {t : Nat} (ht : t < u.length) : rkRow p f u v (t + 1) = (rkRow p f u v t).set t (rkX p f (u.getD t 0) (v.getD t 0)) := by
  refine list_ext_getD (by rw [List.length_set, rkRow_length, rkRow_length]) fun j hj => ?_
  rw [rkRow_length] at hj
  rw [getD_set (by rw [rkRow_length]; exact ht), rkRow_get hj, rkRow_get hj]
  by_cases e : j = t
  · subst e; rw [if_pos (by omega), if_pos rfl]
  · rw [if_neg e]
    by_cases e2 : j < t
    · rw [if_pos (by omega), if_pos e2]
    · rw [if_neg (by omega), if_neg e2]
/-- Factor by which the pivot's row is taken from a row. -/
def rkK (p inv : Int) (R : List (List Int)) (c i : Nat) : Int := ((R.getD i []).getD c 0 * inv).tmod p
def rkEl (p inv : Int) (R : List (List Int)) (r c : Nat) : Nat → List (List Int)
  | 0 => R
  | t + 1 => (rkEl p inv R r c t).set (r + 1 + t) (rkRow p (rkK p inv (rkEl p inv R r c t) c (r + 1 + t)) ((rkEl p inv R r c t).getD (r + 1 + t) []) ((rkEl p inv R r c t).getD r []) ((rkEl p inv R r c t).getD (r + 1 + t) []).length)
theorem rkEl_length (p inv : Int) (R : List (List Int)) (r c : Nat) : ∀ t, (rkEl p inv R r c t).length = R.length
  | 0 => rfl
  | t + 1 => by rw [rkEl, List.length_set]; exact rkEl_length p inv R r c t
def rkAt (R : List (List Int)) (r c : Nat) : Nat := rkF R c (R.length - r) r
def rkStep (p : Int) (z : List (List Int) × Nat) (c : Nat) : List (List Int) × Nat :=
  if rkAt z.1 z.2 c < z.1.length then (rkEl p (invV p (((swapL z.1 z.2 (rkAt z.1 z.2 c) []).getD z.2 []).getD c 0)) (swapL z.1 z.2 (rkAt z.1 z.2 c) []) z.2 c (z.1.length - (z.2 + 1)), z.2 + 1) else z
def rkL (p : Int) (R : List (List Int)) : Nat → List (List Int) × Nat
  | 0 => (R, 0)
  | c + 1 => rkStep p (rkL p R c) c
/-- Rows modulo p, all of one length. -/
structure RkOk (p : Int) (w : Nat) (R : List (List Int)) : Prop where
  len : ∀ i, i < R.length → (R.getD i []).length = w
  rng : ∀ i j, i < R.length → 0 ≤ (R.getD i []).getD j 0 ∧ (R.getD i []).getD j 0 < p
theorem rkX_rng {p f x y : Int} (hp : 2 ≤ p) : 0 ≤ rkX p f x y ∧ rkX p f x y < p := by
  unfold rkX
  have h1 := Int.tmod_lt_of_pos (x - f * y) (show 0 < p by omega)
  have h2 : -p < (x - f * y).tmod p := by
    have := Int.lt_tmod_of_pos (x - f * y) (show 0 < p by omega)
    omega
  exact ⟨Int.tmod_nonneg _ (by omega), Int.tmod_lt_of_pos _ (by omega)⟩
section
variable {p : Int} {w : Nat} {R : List (List Int)}
theorem RkOk.set (h : RkOk p w R) {i : Nat} (hi : i < R.length) {r : List Int} (hl : r.length = w) (hr : ∀ j, 0 ≤ r.getD j 0 ∧ r.getD j 0 < p) : RkOk p w (R.set i r) := by
  constructor
  · intro t ht
    rw [List.length_set] at ht
    rw [getD_set hi]
    split
    · exact hl
    · exact h.len t ht
  · intro t j ht
    rw [List.length_set] at ht
    rw [getD_set hi]
    split
    · exact hr j
    · exact h.rng t j ht
theorem RkOk.swap (h : RkOk p w R) {a b : Nat} (ha : a < R.length) (hb : b < R.length) : RkOk p w (swapL R a b []) :=
  (h.set ha (h.len b hb) fun j => h.rng b j hb).set (by rw [List.length_set]; exact hb) (h.len a ha) fun j => h.rng a j ha
theorem rkRow_rng (hp : 2 ≤ p) {f : Int} {u v : List Int} {t : Nat} (hu : ∀ j, 0 ≤ u.getD j 0 ∧ u.getD j 0 < p) (j : Nat) : 0 ≤ (rkRow p f u v t).getD j 0 ∧ (rkRow p f u v t).getD j 0 < p := by
  by_cases hj : j < u.length
  · rw [rkRow_get hj]
    split
    · exact rkX_rng hp
    · exact hu j
  · rw [List.getD_eq_getElem?_getD, List.getElem?_eq_none (by rw [rkRow_length]; omega)]
    simp; omega
theorem RkOk.el (hp : 2 ≤ p) (inv : Int) (h : RkOk p w R) {r c : Nat} : ∀ t, r + 1 + t ≤ R.length → RkOk p w (rkEl p inv R r c t)
  | 0, _ => h
  | t + 1, ht => by
    have ih := RkOk.el hp inv h (r := r) (c := c) t (by omega)
    have hl := rkEl_length p inv R r c t
    rw [rkEl]
    exact ih.set (by omega) (by rw [rkRow_length]; exact ih.len _ (by omega)) (rkRow_rng hp fun j => ih.rng _ j (by omega))
end
theorem rkStep_ok {p : Int} {w : Nat} {z : List (List Int) × Nat} (hp : 2 ≤ p) (h : RkOk p w z.1) (hz : z.2 ≤ z.1.length) (c : Nat) : RkOk p w (rkStep p z c).1 ∧ (rkStep p z c).1.length = z.1.length ∧ (rkStep p z c).2 ≤ z.1.length := by
  unfold rkStep
  split
  · rename_i h1
    have h2 := (rkF_ge (R := z.1) (c := c) (f := z.1.length - z.2) (i := z.2)).1
    have h3 : rkAt z.1 z.2 c = rkF z.1 c (z.1.length - z.2) z.2 := rfl
    have h4 : z.2 < z.1.length := by omega
    refine ⟨RkOk.el hp _ (h.swap h4 h1) _ (by rw [swapL_length]; omega), by rw [rkEl_length, swapL_length], by dsimp only; omega⟩
  · exact ⟨h, rfl, hz⟩
theorem rkL_ok {p : Int} {w : Nat} {R : List (List Int)} (hp : 2 ≤ p) (h : RkOk p w R) : ∀ c, RkOk p w (rkL p R c).1 ∧ (rkL p R c).1.length = R.length ∧ (rkL p R c).2 ≤ R.length
  | 0 => ⟨h, rfl, Nat.zero_le _⟩
  | c + 1 => by
    obtain ⟨h1, h2, h3⟩ := rkL_ok hp h c
    obtain ⟨g1, g2, g3⟩ := rkStep_ok hp h1 (by omega) c
    exact ⟨g1, g2.trans h2, by rw [h2] at g3; exact g3⟩
/-- With all rows used up nothing changes any more. -/
theorem rkStep_full {p : Int} {z : List (List Int) × Nat} (hz : z.1.length ≤ z.2) (c : Nat) : rkStep p z c = z := by
  have h2 := (rkF_ge (R := z.1) (c := c) (f := z.1.length - z.2) (i := z.2)).1
  have h3 : rkAt z.1 z.2 c = rkF z.1 c (z.1.length - z.2) z.2 := rfl
  rw [rkStep, if_neg (by omega)]
theorem rkL_full {p : Int} {R : List (List Int)} {c : Nat} (h : (rkL p R c).1.length ≤ (rkL p R c).2) : ∀ d, rkL p R (c + d) = rkL p R c
  | 0 => rfl
  | d + 1 => by
    have ih := rkL_full h d
    show rkStep p (rkL p R (c + d)) (c + d) = _
    rw [ih]
    exact rkStep_full h _
def rankV (p : Int) (R : List (List Int)) (w : Nat) : Nat := (rkL p R w).2
end Go.Proofs.Ytcmmbnhdfkcpdaa
