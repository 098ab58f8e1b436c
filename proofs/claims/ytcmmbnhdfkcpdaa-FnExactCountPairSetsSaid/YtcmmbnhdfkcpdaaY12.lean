/- Completed schemes, theirs. -/
import Derived.Test.YtcmmbnhdfkcpdaaY7
import Derived.Test.YtcmmbnhdfkcpdaaY9
namespace Go.Proofs.Ytcmmbnhdfkcpdaa
open Go Go.Abs
set_option maxRecDepth 100000
/- loop.example/g01262/spec.l01Empty -/
def c_spec_l01Empty : SFn := ⟨(.seq (.ops [⟨some 1, .box 41 (.tmp 0), none⟩, ⟨some 2, .alloc 41, none⟩])
 (.seq (.ops [⟨some 3, .fieldAddr 41 (.tmp 1) 0, none⟩, ⟨some 4, .load 2 (.tmp 3), none⟩, ⟨some 5, .fieldAddr 41 (.tmp 1) 1, none⟩, ⟨some 6, .load 2 (.tmp 5), none⟩, ⟨some 7, .fieldAddr 41 (.tmp 1) 2, none⟩, ⟨some 8, .load 2 (.tmp 7), none⟩, ⟨some 9, .fieldAddr 41 (.tmp 1) 3, none⟩, ⟨some 10, .load 2 (.tmp 9), none⟩, ⟨some 11, .buildSlice 39 0 #[], none⟩, ⟨some 12, .build 41 #[(0, .tmp 4), (1, .tmp 6), (2, .tmp 8), (3, .tmp 10), (4, .tmp 11)], none⟩, ⟨none, .store 41 (.tmp 2) (.tmp 12), none⟩])
  .ret)), [.cell 2 41], 13⟩
theorem f_spec_l01Empty : isFn Go.Proofs.Try.prog 89 = some c_spec_l01Empty := by kernel_rfl


set_option maxRecDepth 100000
set_option maxHeartbeats 16000000
set_option linter.unusedVariables false
attribute [-simp] List.getD_eq_getElem?_getD
attribute [-go_sem] confV

theorem l01Empty_specY (p n m k : Int) (c : Cell) (x : Nat) : FSpec Try.prog 89 [.agg (tenC p n m k c)] (.agg (tenC p n m k (.slice x 0 0 27))) [] [(x, .live ⟨u8s [], true⟩)] := by
  refine FSpec.of f_spec_l01Empty (Nat.le_of_ble_eq_true rfl) fun G N hN hr hw => ?_
  simp only [c_spec_l01Empty, List.length_cons, List.length_nil, List.replicate, List.cons_append, List.nil_append]
  have hfree := new_free (hw _ (List.mem_singleton.2 rfl)).2 (by simp)
  simp only [tenC]
  repeat' (first | (with_reducible first | refine W1 ?_ | refine W2 ?_ | refine W3 ?_ | refine W4 mixed ?_ | refine W5 ?_ | refine W6 ?_ | refine W7 ?_ | refine W8 ?_ | refine W9 ?_ | refine V1 ?_ | refine V2 ?_ | refine V3 ?_ | refine V4 (by decide) ?_ | refine V5 ?_ | refine V6 ?_ | refine V7 ?_ | refine V8 ?_ | refine V9 ?_ | refine U1 ?_ | refine U2 ?_ | refine U3 ?_) | (with_reducible refine U4 ?_ ?_; next => first | omega | exact ⟨trivial, by omega⟩) | simp (maxSteps := 2000000) (discharger := first | omega | (simp (discharger := omega) only [Z1, Z2, Z3, Z4, Z5, Z6, Z7] <;> fail) | (simp (discharger := omega) only [Z3, Z8, Z2, Z4, Z1, Z7, Z5, Z6, Z9, Y1, Y2]; omega)) only [go_sem])
  refine ret_obj hN x 2 (u8s []) [_] ⟨res_aggN (own := true) (cs := tenC p n m k (.slice (nid N 2) 0 0 27)) tyo_41 rfl rfl rfl rfl, trivial⟩ hfree rfl (flat_u8s _) rfl ?_ ?_
  · simp [AV.idsT, AV.ids1, Cell.ids]
  · simp [resOf, renT, ren1, tenC, Cell.mapIds]
/-- The right sides so far. -/
def rhsP (m k : Int) (nb n r z t : Nat) : List Int := (List.range (n + r)).map fun a => if a < n ∧ a < t then wantV m k ((a / nb : Nat) : Int) ((a % nb : Nat) : Int) ((z : Nat) : Int) else 0
theorem rhsP_length (m k : Int) (nb n r z t : Nat) : (rhsP m k nb n r z t).length = n + r := by simp [rhsP]
theorem rhsP_get {m k : Int} {nb n r z t a : Nat} (h : a < n + r) : (rhsP m k nb n r z t).getD a 0 = if a < n ∧ a < t then wantV m k ((a / nb : Nat) : Int) ((a % nb : Nat) : Int) ((z : Nat) : Int) else 0 := by
  simp [rhsP, List.getD_eq_getElem?_getD, h]
theorem rhsP_zero (m k : Int) (nb n r z : Nat) : rhsP m k nb n r z 0 = List.replicate (n + r) 0 := list_ext_getD (by simp [rhsP]) fun j hj => by
  rw [rhsP_length] at hj
  rw [rhsP_get hj, if_neg (by omega), List.getD_eq_getElem?_getD, List.getElem?_replicate, if_pos hj]; rfl
theorem rhsP_succ (m k : Int) {nb n r z t : Nat} (ht : t < n) : rhsP m k nb n r z (t + 1) = (rhsP m k nb n r z t).set t (wantV m k ((t / nb : Nat) : Int) ((t % nb : Nat) : Int) ((z : Nat) : Int)) := list_ext_getD (by rw [List.length_set, rhsP_length, rhsP_length]) fun j hj => by
  rw [rhsP_length] at hj
  rw [getD_set (by rw [rhsP_length]; omega), rhsP_get hj, rhsP_get hj]
  by_cases e : j = t
  · subst e; rw [if_pos ⟨ht, by omega⟩, if_pos rfl]
  · rw [if_neg e]
    by_cases e2 : j < n ∧ j < t
    · rw [if_pos ⟨e2.1, by omega⟩, if_pos e2]
    · rw [if_neg (by omega), if_neg e2]
theorem rhsP_full (m k : Int) (nb n r z : Nat) : rhsP m k nb n r z n = rhsL m k nb n r z := list_ext_getD (by rw [rhsP_length, rhsL_length]) fun j hj => by
  rw [rhsP_length] at hj
  rw [rhsP_get hj, rhsL_get z j hj, rhsV]
  by_cases e : j < n
  · rw [if_pos ⟨e, e⟩, if_pos e]
  · rw [if_neg (by omega), if_neg e]
/-- The forms: numbers at the first z places, of the first i pairs at one more. -/
def fmL (x : Nat → Nat → Int) (r z i : Nat) : List Int := (List.range (r * 9)).map fun e => if e % 9 < (if e / 9 < i then z + 1 else z) then x (e / 9) (e % 9) else 0
section
variable {x : Nat → Nat → Int} {r z i : Nat}
theorem fmL_length : (fmL x r z i).length = r * 9 := by simp [fmL]
theorem fmL_get {e : Nat} (h : e < r * 9) : (fmL x r z i).getD e 0 = if e % 9 < (if e / 9 < i then z + 1 else z) then x (e / 9) (e % 9) else 0 := by
  simp [fmL, List.getD_eq_getElem?_getD, h]
theorem fmL_zero : fmL x r 0 0 = zeros (r * 9) := list_ext_getD (by rw [fmL_length, zeros_length]) fun j hj => by
  rw [fmL_length] at hj
  rw [fmL_get hj, if_neg (Nat.not_lt_zero _), if_neg (Nat.not_lt_zero _), zeros, List.getD_eq_getElem?_getD, List.getElem?_replicate, if_pos hj]; rfl
theorem fmL_next : fmL x r z r = fmL x r (z + 1) 0 := list_ext_getD (by rw [fmL_length, fmL_length]) fun j hj => by
  rw [fmL_length] at hj
  rw [fmL_get hj, fmL_get hj, if_pos (show j / 9 < r by omega), if_neg (Nat.not_lt_zero (j / 9))]
theorem fmL_sub {j : Nat} (hj : j < r) : sub (fmL x r z i) (j * 9) 9 = cofL (x j) (if j < i then z + 1 else z) := by
  have hl : (fmL x r z i).length = r * 9 := fmL_length
  refine list_ext_getD (by rw [sub_length (by omega), cofL_length]) fun t ht => ?_
  rw [sub_length (by omega)] at ht
  rw [sub_getD ht, fmL_get (by omega), cofL_get ht, show (j * 9 + t) % 9 = t from by omega, show (j * 9 + t) / 9 = j from by omega]
theorem fmL_put (hi : i < r) : putL (fmL x r z i) (i * 9) (cofL (x i) (z + 1)) = fmL x r z (i + 1) := by
  have hl : (fmL x r z i).length = r * 9 := fmL_length
  have hc : (cofL (x i) (z + 1)).length = 9 := cofL_length _ _
  refine list_ext_getD (by rw [putL_len, fmL_length, fmL_length]) fun j hj => ?_
  rw [putL_len, fmL_length] at hj
  rw [putL_getF (by omega), hc, fmL_get hj, fmL_get hj]
  by_cases e : i * 9 ≤ j ∧ j < i * 9 + 9
  · rw [if_pos e, cofL_get (by omega), show j - i * 9 = j % 9 from by omega, show j / 9 = i from by omega, if_pos (show i < i + 1 by omega)]
  · rw [if_neg e]
    by_cases e2 : j / 9 < i
    · rw [if_pos e2, if_pos (show j / 9 < i + 1 by omega)]
    · rw [if_neg e2, if_neg (show ¬ j / 9 < i + 1 by omega)]
end
end Go.Proofs.Ytcmmbnhdfkcpdaa
