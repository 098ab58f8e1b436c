/- Completed schemes: their products. -/
import Derived.Test.YtcmmbnhdfkcpdaaY8
import Derived.Test.YtcmmbnhdfkcpdaaF7
namespace Go.Proofs.Ytcmmbnhdfkcpdaa
open Go Go.Abs
set_option maxRecDepth 100000

set_option maxRecDepth 100000
set_option linter.unusedVariables false
attribute [-simp] List.getD_eq_getElem?_getD
attribute [-go_sem] confV

theorem drop_lenY {a b : List Int} {n : Nat} (h : a.length = n) : (a ++ b).drop n = b := by subst h; exact List.drop_left
/-- A form with numbers at the first places. -/
def cofL (x : Nat → Int) (c : Nat) : List Int := (List.range 9).map fun t => if t < c then x t else 0
theorem cofL_length (x : Nat → Int) (c : Nat) : (cofL x c).length = 9 := by simp [cofL]
theorem cofL_get {x : Nat → Int} {c t : Nat} (h : t < 9) : (cofL x c).getD t 0 = if t < c then x t else 0 := by
  simp [cofL, List.getD_eq_getElem?_getD, h]
theorem cofL_zero (x : Nat → Int) : cofL x 0 = zeros 9 := list_ext_getD (by rw [cofL_length, zeros_length]) fun j hj => by
  rw [cofL_length] at hj
  rw [cofL_get hj, if_neg (by omega), zeros, List.getD_eq_getElem?_getD, List.getElem?_replicate, if_pos hj]; rfl
theorem cofL_succ (x : Nat → Int) {c : Nat} (hc : c < 9) : cofL x (c + 1) = (cofL x c).set c (x c) := list_ext_getD (by rw [List.length_set, cofL_length, cofL_length]) fun j hj => by
  rw [cofL_length] at hj
  rw [getD_set (by rw [cofL_length]; exact hc), cofL_get hj, cofL_get hj]
  by_cases e : j = c
  · subst e; rw [if_pos (by omega), if_pos rfl]
  · rw [if_neg e]
    by_cases e2 : j < c
    · rw [if_pos (by omega), if_pos e2]
    · rw [if_neg (by omega), if_neg e2]
theorem cofL_congr {x y : Nat → Int} {c : Nat} (h : ∀ t, t < c → x t = y t) : cofL x c = cofL y c := List.map_congr_left fun t _ => by
  split
  · rename_i ht; exact h t ht
  · rfl
/-- Products of pairs with forms. -/
def fullP (l : List Int) (X : Nat → List Int) : Nat → List Int
  | 0 => []
  | t + 1 => fullP l X t ++ (sub l (t * 18) 18 ++ X t)
def cmpP (l : List Int) (X : Nat → List Int) : Nat → List Int
  | 0 => []
  | t + 1 => if X t = zeros 9 then cmpP l X t else cmpP l X t ++ (sub l (t * 18) 18 ++ X t)
def cmpN (X : Nat → List Int) : Nat → Nat
  | 0 => 0
  | t + 1 => if X t = zeros 9 then cmpN X t else cmpN X t + 1
theorem cmpN_le (X : Nat → List Int) : ∀ t, cmpN X t ≤ t
  | 0 => Nat.le_refl _
  | t + 1 => by have := cmpN_le X t; rw [cmpN]; split <;> omega
section
variable {l : List Int} {X : Nat → List Int} {r : Nat}
theorem part_len (hl : l.length = r * 18) (hX : ∀ t, (X t).length = 9) {t : Nat} (ht : t < r) : (sub l (t * 18) 18 ++ X t).length = 27 := by
  rw [List.length_append, sub_length (by omega), hX]
theorem fullP_length (hl : l.length = r * 18) (hX : ∀ t, (X t).length = 9) : ∀ t, t ≤ r → (fullP l X t).length = t * 27
  | 0, _ => rfl
  | t + 1, h => by rw [fullP, List.length_append, fullP_length hl hX t (by omega), part_len hl hX (by omega)]; omega
theorem cmpP_length (hl : l.length = r * 18) (hX : ∀ t, (X t).length = 9) : ∀ t, t ≤ r → (cmpP l X t).length = cmpN X t * 27
  | 0, _ => rfl
  | t + 1, h => by
    rw [cmpP, cmpN]
    split
    · exact cmpP_length hl hX t (by omega)
    · rw [List.length_append, cmpP_length hl hX t (by omega), part_len hl hX (by omega)]; omega
theorem fullP_sub (hl : l.length = r * 18) (hX : ∀ t, (X t).length = 9) {t : Nat} : ∀ n, n ≤ r → t < n → sub (fullP l X n) (t * 27) 27 = sub l (t * 18) 18 ++ X t
  | 0, _, h => by omega
  | n + 1, hn, h => by
    have h1 := fullP_length hl hX n (by omega)
    have h2 := part_len hl hX (t := n) (by omega)
    rw [fullP]
    by_cases e : t = n
    · subst e
      rw [sub, ← h1, List.drop_left, ← h2, List.take_length]
    · rw [sub, List.drop_append_of_le_length (by omega), List.take_append_of_le_length (by rw [List.length_drop]; omega)]
      exact fullP_sub hl hX n (by omega) (by omega)
theorem kept_full (hl : l.length = r * 18) (hX : ∀ t, (X t).length = 9) (hz : ∀ t, t < r → sub l (t * 18) 9 ≠ zeros 9 ∧ sub l (t * 18 + 9) 9 ≠ zeros 9) : ∀ t, t ≤ r → keptL (fullP l X r) t = cmpP l X t ∧ keptN (fullP l X r) t = cmpN X t
  | 0, _ => ⟨rfl, rfl⟩
  | t + 1, h => by
    obtain ⟨h1, h2⟩ := kept_full hl hX hz t (by omega)
    obtain ⟨z1, z2⟩ := hz t (by omega)
    have hp := fullP_sub hl hX r (Nat.le_refl _) (show t < r by omega)
    have h18 : (sub l (t * 18) 18).length = 18 := sub_length (by omega)
    have hza : zAt (fullP l X r) t = decide (X t = zeros 9) := by
      rw [zAt, hp, hasZ]
      have e1 : sub (sub l (t * 18) 18 ++ X t) 0 9 = sub l (t * 18) 9 := by
        rw [sub, List.drop_zero, List.take_append_of_le_length (by omega)]
        have := sub_subY (l := l) (a := t * 18) (m := 18) (j := 0) (n := 9) (by omega)
        rw [sub, List.drop_zero, Nat.add_zero] at this
        exact this
      have e2 : sub (sub l (t * 18) 18 ++ X t) 9 9 = sub l (t * 18 + 9) 9 := by
        rw [sub, List.drop_append_of_le_length (by omega), List.take_append_of_le_length (by rw [List.length_drop]; omega)]
        exact sub_subY (by omega)
      have e3 : sub (sub l (t * 18) 18 ++ X t) 18 9 = X t := by
        rw [sub, drop_lenY h18, List.take_of_length_le (by rw [hX]; omega)]
      rw [e1, e2, e3, decide_eq_false z1, decide_eq_false z2, Bool.false_or, Bool.false_or]
    rw [keptL, keptN, cmpP, cmpN, hza, h1, h2, hp]
    simp only [decide_eq_true_eq]
    exact ⟨trivial, trivial⟩
theorem cmp_congr {Y : Nat → List Int} : ∀ t, (∀ i, i < t → X i = Y i) → cmpP l X t = cmpP l Y t ∧ cmpN X t = cmpN Y t
  | 0, _ => ⟨rfl, rfl⟩
  | t + 1, h => by
    obtain ⟨h1, h2⟩ := cmp_congr (Y := Y) t fun i hi => h i (by omega)
    rw [cmpP, cmpP, cmpN, cmpN, h t (by omega), h1, h2]; exact ⟨rfl, rfl⟩
end
/-- The product of a pair, as the program builds it. -/
theorem put27 {q : List Int} (h : q.length = 18) : putL (putL (zeros 27) 0 (sub q 0 9)) 9 (sub q 9 9) = q ++ zeros 9 := by
  have h1 : (sub q 0 9).length = 9 := sub_length (by omega)
  have h2 : (sub q 9 9).length = 9 := sub_length (by omega)
  have e0 : q = sub q 0 9 ++ sub q 9 9 := by
    conv => lhs; rw [← List.take_of_length_le (l := q) (i := 0 + 9 + 9) (by omega), take_sub, take_sub]
    simp
  have hd : (zeros 27).drop 9 = zeros 18 := rfl
  rw [putL_eq (o := zeros 27) (by rw [zeros_length]; omega)]
  simp only [List.take_zero, List.nil_append, Nat.zero_add, h1, hd]
  have hl : (sub q 0 9 ++ zeros 18).length = 27 := by rw [List.length_append, h1, zeros_length]
  rw [putL_eq (by rw [hl, h2]; omega), h2, List.take_append_of_le_length (by omega), List.take_of_length_le (by omega)]
  have e1 : (sub q 0 9 ++ zeros 18).drop (9 + 9) = zeros 9 := by
    rw [← List.drop_drop]
    rw [drop_lenY h1]; rfl
  rw [e1]
  conv => rhs; rw [e0]
/-- With a form. -/
theorem put27c {q X : List Int} (h : q.length = 18) (hX : X.length = 9) : putL (putL (putL (zeros 27) 0 (sub q 0 9)) 9 (sub q 9 9)) 18 X = q ++ X := by
  rw [put27 h, putL_eq (by rw [List.length_append, h, zeros_length, hX]; omega), hX]
  rw [List.take_append_of_le_length (by omega), List.take_of_length_le (by omega), List.drop_of_length_le (by rw [List.length_append, h, zeros_length]; omega), List.append_nil]
theorem set18 {q : List Int} (h : q.length = 18) (x : Nat → Int) {c : Nat} (hc : c < 9) : (q ++ cofL x c).set (18 + c) (x c) = q ++ cofL x (c + 1) := by
  rw [cofL_succ x hc, List.set_append_right _ _ (by omega), h, Nat.add_sub_cancel_left]
end Go.Proofs.Ytcmmbnhdfkcpdaa
